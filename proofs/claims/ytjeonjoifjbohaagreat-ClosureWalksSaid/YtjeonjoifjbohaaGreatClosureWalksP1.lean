/- What the statement ClosureWalks needs, part 1. -/
import Derived.Test.YtjeonjoifjbohaaGreatRows
import Derived.WalkKit
import Derived.WalkSpells
import Derived.WalkLawsBesides
import Derived.Deep.QuietTactic
import Derived.BigQuiet
import Derived.Lib.Hide
import Derived.Deep.RegionHeld3
import Derived.Deep.DeepCutAuto
import Derived.OrdersHeld
import Derived.Stop.BytesEq
import Derived.Lib.SlBytesRow
import Derived.Deep.AppendLies
import Derived.MapKept
import Derived.Lib.OthersKept
import Derived.Shelf.Abstract
import Derived.Laws.Tables
import Derived.Lib.Bytealg
import Derived.Lib.UnsafeStr
import Derived.Sort.Grow
import Derived.RangeFuncGives
import Derived.RangeFuncLeaves
import Derived.RangeFuncCalls
import Derived.RangeFuncIn
import Derived.Maps.RangeRun
import Derived.RangeFuncNested
import Derived.Laws.BitsAllLaws
import Derived.Shelf.SortM.Plain
set_option linter.unusedVariables false
set_option linter.unusedSimpArgs false
set_option linter.unnecessarySimpa false
set_option linter.unusedSectionVars false
set_option maxRecDepth 10000
set_option maxHeartbeats 8000000
namespace Go.Proofs.YtjeonjoifjbohaaGreat
section
open Go.RowKit Go.Proofs.Tryz Go.Lib
def pre{α:Type}[DecidableEq α](k:Nat)(a b:List α):Bool:=decide (a.take k=b.take k)
theorem pre_zero{α:Type}[DecidableEq α](a b:List α):pre 0 a b=true:=by simp[pre]
theorem pre_succ{α:Type}[DecidableEq α]{k:Nat}{a b:List α}(ha:k<a.length)(hb:k<b.length)(h:pre k a b=true):
 pre (k+1) a b=decide (a[k]=b[k]):=by
 simp only[pre,decide_eq_true_eq]at h |-;rw[List.take_succ_eq_append_getElem ha,List.take_succ_eq_append_getElem hb,h];rw[decide_eq_decide]
 constructor
 ·intro h';exact(List.append_cancel_left h'|>List.cons.inj).1
 ·intro h';rw[h']
theorem pre_full{α:Type}[DecidableEq α]{k:Nat}{a b:List α}(hl:a.length=b.length)(h:a.length<=k):pre k a b=decide (a=b):=by
 simp[pre,List.take_of_length_le h,List.take_of_length_le (hl▸h)]
theorem pre_false{α:Type}[DecidableEq α]{k:Nat}{a b:List α}(h:pre k a b=false):decide (a=b)=false:=by
 simp only[pre,decide_eq_false_iff_not]at h |-;rintro rfl;exact h rfl
structure Mod(S:Nat->Prop)(w w':World):Prop where
 os:w'.os=w.os
 tape:w'.tape=w.tape
 output:w'.output=w.output
 size:w.heap.size<=w'.heap.size
 block:∀k,k<w.heap.size->¬S k->w'.heap[k]?=w.heap[k]?
def NoB:Nat->Prop:=fun _=>False
def RetM(v:Value)(w:World):Ending->World->Prop:=fun e w'=>e=.returned v/\Mod NoB w w'
def SameRel{α:Type}[DecidableEq α](la lb:List α)(w0:World)(s i:Value)(w:World):Prop:=
 ∃(k:Nat),k<=la.length/\i=.int .i64 k/\s=.bool (pre k la lb)/\Mod NoB w0 w
theorem Mod.refl(S:Nat->Prop)(w:World):Mod S w w:=⟨rfl,rfl,rfl,Nat.le_refl _,fun _ _ _=>rfl⟩
theorem Mod.mono{S S':Nat->Prop}{w w':World}(h:Mod S w w')(hs:∀k,k<w.heap.size->S k->S' k):Mod S' w w':=
 ⟨h.os,h.tape,h.output,h.size,fun k hk hn=>h.block k hk (fun h'=>hn (hs k hk h'))⟩
theorem Mod.trans{S S':Nat->Prop}{a b c:World}(h:Mod S a b)(k:Mod S' b c)(hs:∀k,k<a.heap.size->S' k->S k):Mod S a c:=
 ⟨k.os.trans h.os,k.tape.trans h.tape,k.output.trans h.output,Nat.le_trans h.size k.size,
  fun i hi hn=>(k.block i (Nat.lt_of_lt_of_le hi h.size) (fun h'=>hn (hs i hi h'))).trans (h.block i hi hn)⟩
theorem Mod.drewN{S:Nat->Prop}{a b:World}(h:Mod S a b)(n:Nat):Mod S a (b.drewN n):=⟨h.os,h.tape,h.output,h.size,h.block⟩
theorem Mod.drew{S:Nat->Prop}{a b:World}(h:Mod S a b):Mod S a b.drew:=⟨h.os,h.tape,h.output,h.size,h.block⟩
theorem Mod.alloc{S:Nat->Prop}{a b:World}(h:Mod S a b)(o:Obj):Mod S a (b.alloc o):=
 ⟨h.os,h.tape,h.output,by have:=h.size;simp;omega,fun k hk hn=>(Below.heap_alloc _ _ _ (Nat.lt_of_lt_of_le hk h.size)).trans (h.block k hk hn)⟩
theorem Mod.setCell{S:Nat->Prop}{a b:World}(h:Mod S a b){p:Addr}(hp:p.block<a.heap.size->S p.block)(u:Value):Mod S a (b.setCell p u):=
 ⟨h.os,h.tape,h.output,by simpa[World.setCell]using h.size,fun k hk hn=>
  (Below.heap_setCell _ _ _ _ (fun e=>hn (by subst e;exact hp hk))).trans (h.block k hk hn)⟩
theorem Mod.below{S:Nat->Prop}{w w':World}(h:Mod S w w')(hS:∀k,k<w.heap.size->¬S k):Below w.heap.size w w':=
 ⟨h.os,h.tape,h.output,h.size,fun k hk=>h.block k hk (hS k hk)⟩
theorem Mod.of_below{B:Nat}{w w':World}(h:Below B w w'):Mod (fun k=>B<=k) w w':=
 ⟨h.os,h.tape,h.output,h.size,fun k _ hn=>h.block k (by omega)⟩
theorem Mod.grown{S:Nat->Prop}{a w w':World}{row:Option Nat}(h:Mod S a w)(hg:w.grownBy w' row)(hr:∀k,row=some k->k<a.heap.size->S k):Mod S a w':=
 ⟨hg.os.trans h.os,hg.tape.trans h.tape,hg.output.trans h.output,Nat.le_trans h.size hg.size,
  fun k hk hn=>(hg.block k (Nat.lt_of_lt_of_le hk h.size) (fun e=>hn (hr k e.symm hk))).trans (h.block k hk hn)⟩
theorem Mod.cell{S:Nat->Prop}{w w':World}(h:Mod S w w'){b o:Nat}{v:Value}(hn:¬S b)(hc:w.cell? ⟨b,o,none⟩=some v):w'.cell? ⟨b,o,none⟩=some v:=by
 have hb:=block_lt_of_cell hc;rw[World.cell?_of_block (w:=w) (h.block b hb hn)];exact hc
theorem Mod.obj{S:Nat->Prop}{w w':World}(h:Mod S w w'){b:Nat}{o:Obj}(hn:¬S b)(hc:w.heap[b]?=some o):w'.heap[b]?=some o:=by
 have hb:b<w.heap.size:=by
  rcases Nat.lt_or_ge b w.heap.size with h|h
  ·exact h
  ·rw[Array.getElem?_eq_none h]at hc;cases hc
 rw[h.block b hb hn];exact hc
def CellsAt(w:World)(b off:Nat)(cs:Array Value):Prop:=∀j,j<cs.size->w.cell? ⟨b,off+j,none⟩=cs[j]?
theorem Mod.objB{B:Nat}{w w':World}(h:Mod (fun k=>k=B) w w'){b:Nat}{o:Obj}(hn:b≠B)(hc:w.heap[b]?=some o):w'.heap[b]?=some o:=h.obj hn hc
theorem Mod.transB{a b c:World}{B:Nat}(h:Mod NoB a b)(k:Mod (fun k=>k=B) b c)(hs:a.heap.size<=B):Mod NoB a c:=h.trans k (fun k hk e=>by have h1:k=B:=e;omega)
theorem Mod.trans0{a b c:World}(h:Mod NoB a b)(k:Mod NoB b c):Mod NoB a c:=h.trans k (fun _ _ h=>h)
def Owned(own:Bool)(w:World)(b:Nat):Prop:=own=true->∃cur T,w.heap[b]?=some (.cells cur T (0,0))
def Sl{α:Type}(own:Bool)(w:World)(G:Nat->Prop)(sz:Nat)(R:Array Value->α->Prop)(v:Value)(l:List α):Prop:=
 ∃a cap,v=.slice a l.length cap/\l.length<=cap/\cap<=maxLen/\
  (l≠[]->∃b off,a=some ⟨b,off,none⟩/\G b/\Owned own w b/\∀i (h:i<l.length),∃cs:Array Value,cs.size=sz/\R cs l[i]/\CellsAt w b (off+i*sz) cs)
def byteV(b:UInt8):Value:=.int .u8 (b.toNat:Int)
def ByteC(cs:Array Value)(x:UInt8):Prop:=cs=#[byteV x]
def qA(x:List UInt8):Array Value:=(x.map byteV).toArray
def IdC(cs:Array Value)(x:List UInt8):Prop:=cs=qA x/\x.length=32
theorem qD(x:List UInt8):(qA x).size=x.length:=by simp[qA]
theorem CellsAt.keep{S:Nat->Prop}{w w':World}(hm:Mod S w w'){b off:Nat}{cs:Array Value}(h:CellsAt w b off cs)(hn:¬S b):CellsAt w' b off cs:=fun j hj=>by
 have:=h j hj;rw[Array.getElem?_eq_getElem hj]at this |-;exact hm.cell hn this
theorem CellsAt.of_obj{w:World}{b off:Nat}{cs whole:Array Value}{T:TypeId}{fr:Nat×Nat}(h:w.heap[b]?=some (.cells whole T fr))(hs:∀j,j<cs.size->whole[off+j]?=cs[j]?):CellsAt w b off cs:=fun j hj=>by
 rw[cell_of_row w b _ whole T fr h];exact hs j hj
theorem CellsAt.whole{w:World}{b:Nat}{cs:Array Value}{T:TypeId}{fr:Nat×Nat}(h:w.heap[b]?=some (.cells cs T fr)):CellsAt w b 0 cs:=fun j _=>by
 rw[cell_of_row w b _ cs T fr h,Nat.zero_add]
theorem CellsAt.part{w:World}{b off:Nat}{cs:Array Value}(h:CellsAt w b off cs){i j:Nat}(hj:j<=cs.size):CellsAt w b (off+i) (cs.extract i j):=fun k hk=>by
 simp only[Array.size_extract]at hk;rw[Nat.add_assoc,h (i+k) (by omega),Array.getElem?_extract,if_pos (by omega)]
theorem CellsAt.one{w:World}{b off:Nat}{c:Value}:CellsAt w b off #[c]↔w.cell? ⟨b,off,none⟩=some c:=by
 constructor
 ·intro h;simpa using h 0 (by simp)
 ·intro h j hj
  have:j=0:=by simp at hj;omega
  subst this;simpa using h
theorem CellsAt.cell{w:World}{b off:Nat}{cs:Array Value}(h:CellsAt w b off cs){j:Nat}{v:Value}(hv:cs[j]?=some v):w.cell? ⟨b,off+j,none⟩=some v:=by
 have hj:j<cs.size:=by
  rcases Nat.lt_or_ge j cs.size with h|h
  ·exact h
  ·rw[Array.getElem?_eq_none h]at hv;cases hv
 rw[h j hj,hv]
theorem Owned.keep{own:Bool}{S:Nat->Prop}{w w':World}(hm:Mod S w w'){b:Nat}(h:Owned own w b)(hn:¬S b):Owned own w' b:=fun ho=>by
 obtain⟨cur,T,h⟩:=h ho;exact⟨cur,T,hm.obj hn h⟩
theorem Sl.at{α:Type}{own:Bool}{w:World}{G:Nat->Prop}{sz:Nat}{R:Array Value->α->Prop}{v:Value}{l:List α}(h:Sl own w G sz R v l):
 ∃a cap,v=.slice a l.length cap/\l.length<=9223372036854775807/\
  (∀i,i<l.length->∃b off,a=some ⟨b,off,none⟩/\G b/\Owned own w b/\∀i (h:i<l.length),∃cs:Array Value,cs.size=sz/\R cs l[i]/\CellsAt w b (off+i*sz) cs):=by
 obtain⟨a,cap,hv,hl,hc,h⟩:=h;exact⟨a,cap,hv,by unfold maxLen at hc;omega,fun i hi=>h (by rintro rfl;simp at hi)⟩
theorem Sl.keep{α:Type}{own:Bool}{w w':World}{G S:Nat->Prop}{sz:Nat}{R R':Array Value->α->Prop}{v:Value}{l:List α}(h:Sl own w G sz R v l)(hm:Mod S w w')(hd:∀k,G k->¬S k)
 (hR:∀cs x,R cs x->R' cs x):Sl own w' G sz R' v l:=by
 obtain⟨a,cap,hv,hl,hc,h⟩:=h;refine⟨a,cap,hv,hl,hc,fun hne=>?_⟩;obtain⟨b,off,ha,hG,ho,h⟩:=h hne;refine⟨b,off,ha,hG,ho.keep hm (hd b hG),fun i hi=>?_⟩
 obtain⟨cs,hs,hR',hcs⟩:=h i hi;exact⟨cs,hs,hR _ _ hR',hcs.keep hm (hd b hG)⟩
theorem Sl.keep0{α:Type}{own:Bool}{w w':World}{G:Nat->Prop}{sz:Nat}{R:Array Value->α->Prop}{v:Value}{l:List α}(h:Sl own w G sz R v l)(hm:Mod NoB w w'):Sl own w' G sz R v l:=h.keep hm (fun _ _=>id) (fun _ _ h=>h)
theorem Sl.keepB{α:Type}{own:Bool}{w w':World}{G:Nat->Prop}{B:Nat}{sz:Nat}{R:Array Value->α->Prop}{v:Value}{l:List α}(h:Sl own w G sz R v l)(hm:Mod (fun k=>k=B) w w')(hd:∀k,G k->k≠B):Sl own w' G sz R v l:=h.keep hm hd (fun _ _ h=>h)
theorem Sl.mono{α:Type}{own:Bool}{w:World}{G G':Nat->Prop}{sz:Nat}{R R':Array Value->α->Prop}{v:Value}{l:List α}(h:Sl own w G sz R v l)(hg:∀k,G k->G' k)
 (hR:∀cs x,R cs x->R' cs x):Sl own w G' sz R' v l:=by
 obtain⟨a,cap,hv,hl,hc,h⟩:=h;refine⟨a,cap,hv,hl,hc,fun hne=>?_⟩;obtain⟨b,off,ha,hG,ho,h⟩:=h hne;refine⟨b,off,ha,hg _ hG,ho,fun i hi=>?_⟩
 obtain⟨cs,hs,hR',hcs⟩:=h i hi;exact⟨cs,hs,hR _ _ hR',hcs⟩
theorem Sl.weak{α:Type}{own:Bool}{w:World}{G:Nat->Prop}{sz:Nat}{R:Array Value->α->Prop}{v:Value}{l:List α}(h:Sl own w G sz R v l):Sl false w G sz R v l:=by
 obtain⟨a,cap,hv,hl,hc,h⟩:=h;refine⟨a,cap,hv,hl,hc,fun hne=>?_⟩;obtain⟨b,off,ha,hG,_,h⟩:=h hne;exact⟨b,off,ha,hG,(fun h=>by cases h),h⟩
theorem Sl.one{α:Type}{own:Bool}{w:World}{G:Nat->Prop}{sz:Nat}{R:Array Value->α->Prop}{v:Value}{l:List α}(h:Sl own w G sz R v l):v.oneCell'=true:=by
 obtain⟨a,cap,rfl,_⟩:=h;rfl
theorem Sl.nil{α:Type}(own:Bool)(w:World)(G:Nat->Prop)(sz:Nat)(R:Array Value->α->Prop):Sl own w G sz R (.slice none 0 0) ([]:List α):=
 ⟨none,0,rfl,Nat.le_refl _,Nat.zero_le _,fun h=>absurd rfl h⟩
def All2{α β:Type}(R:α->β->Prop)(a:List α)(b:List β):Prop:=a.length=b.length/\∀i (h:i<a.length)(h':i<b.length),R a[i] b[i]
theorem All2.nil{α β:Type}{R:α->β->Prop}:All2 R [] []:=⟨rfl,fun i h=>by simp at h⟩
theorem All2.snoc{α β:Type}{R:α->β->Prop}{a:List α}{b:List β}{x:α}{y:β}(h:All2 R a b)(hxy:R x y):All2 R (a++[x]) (b++[y]):=by
 refine⟨by simp[h.1],fun i hi hi'=>?_⟩
 rcases Nat.lt_or_ge i a.length with hlt|hge
 ·rw[List.getElem_append_left hlt,List.getElem_append_left (h.1▸hlt)]
  exact h.2 i hlt _
 ·have e:i=a.length:=by simp at hi;omega
  have e':i=b.length:=by rw[e,h.1]
  have h1:(a++[x])[i]=x:=by subst e;simp
  have h2:(b++[y])[i]=y:=by
   have:∀(n:Nat)(hn:n<(b++[y]).length),n=b.length->(b++[y])[n]=y:=fun n hn e=>by subst e;simp
   exact this i hi' e'
  rw[h1,h2];exact hxy
theorem All2.imp{α β:Type}{R R':α->β->Prop}{a:List α}{b:List β}(h:All2 R a b)(hi:∀x y,R x y->R' x y):All2 R' a b:=⟨h.1,fun i h1 h2=>hi _ _ (h.2 i h1 h2)⟩
theorem Sl.of_owns{α:Type}{w:World}{base T sz n:Nat}{v:Value}{css:List (Array Value)}{xs:List Value}{l:List α}{R:Array Value->α->Prop}(h:w.ownsRow base T sz v n xs)
 (hx:xs=css.flatMap Array.toList)(hs:∀c∈css,c.size=sz)(hR:All2 R css l)(hn:n=l.length):
 Sl true w (fun k=>base<=k/\k<w.heap.size/\v.ownBlock=some k) sz R v l:=by
 subst hn;have hlen:css.length=l.length:=hR.1
 rcases h.2 with⟨rfl,h0⟩|⟨g,cap,cur,rfl,hb,hg,hc,hm,hcs,ht⟩
 ·have:l=[]:=List.eq_nil_of_length_eq_zero h0
  subst this;exact Sl.nil _ _ _ _ _
 ·refine⟨_,cap,rfl,hc,hm,fun hne=>⟨g,0,rfl,⟨hb,?_,rfl⟩,fun _=>⟨cur,T,hg⟩,fun i hi=>?_⟩⟩
  ·rcases Nat.lt_or_ge g w.heap.size with h|h
   ·exact h
   ·rw[Array.getElem?_eq_none h]at hg;cases hg
  ·have hic:i<css.length:=by omega
   refine⟨css[i],hs _ (List.getElem_mem _),?_,fun j hj=>?_⟩
   ·exact hR.2 i hic hi
   ·rw[cell_of_row w g _ cur T (0,0) hg,Nat.zero_add]
    have hsz:css[i].size=sz:=hs _ (List.getElem_mem _)
    have hflat:∀(css:List (Array Value))(i:Nat)(hic:i<css.length),(∀c∈css,c.size=sz)->∀j,j<sz->(css.flatMap Array.toList)[i*sz+j]?=css[i][j]?:=by
     intro css
     induction css with
     |nil=>intro i hic;simp at hic
     |cons c css ih=>
      intro i hic hs j hj;have hc:c.toList.length=sz:=by simpa using hs c (by simp)
      cases i with
      |zero=>simp only[List.flatMap_cons,Nat.zero_mul,Nat.zero_add,List.getElem_cons_zero];rw[List.getElem?_append_left (by omega)];simp
      |succ i=>
       simp only[List.flatMap_cons,List.getElem_cons_succ]
       rw[List.getElem?_append_right (by rw[hc,Nat.succ_mul];omega),hc,show(i+1)*sz+j-sz=i*sz+j by rw[Nat.succ_mul];omega]
       exact ih i (by simpa using hic) (fun c hc=>hs c (by simp[hc])) j hj
    rw[<-hflat css i hic hs j (hsz▸hj),<-hx,<-ht]
    have hlt:i*sz+j<l.length*sz:=by
     have h1:(i+1)*sz<=l.length*sz:=Nat.mul_le_mul_right _ hi;rw[Nat.succ_mul]at h1;have:=hsz▸hj;omega
    rw[List.getElem?_take_of_lt hlt]
    simp
section
variable{P:Program}{ops:Array Oper}{Q:Exit->Act->World->Prop}{S:World->Prop}{md:Region.Mode}
def GivesV(P:Program)(r:Result Next)(v:Value)(w:World):Prop:=
 r=.ok (.value v) w\/∃f args,r=.ok (.enter f args) w/\Calls P f args w (fun e w'=>e=.returned v/\w'=w)
def YieldsC(P:Program)(ops:Array Oper)(S:World->Prop)(o:Oper)(v:Value)(a:Act):Prop:=
 (Region.wanted o (yielded ops a.tmps)=true/\∀w,S w->GivesV P ((execOp a.eval o).run P w) v w)\/
 (Region.wanted o (yielded ops a.tmps)=false/\v=undef)
theorem GivesV.wp{o:Oper}{a:Act}{v:Value}{w:World}(h:GivesV P ((execOp a.eval o).run P w) v w){K:Act->World->Prop}{Q:Exit->Act->World->Prop}(k:K (a.put o.dst v) w):o.wp P a w K Q:=by
 unfold Oper.wp
 rcases h with h|⟨f,args,h,hc⟩
 ·rw[h];exact k
 ·rw[h]
  refine hc.mono fun e w' ⟨he,hw⟩=>?_;subst he;subst hw;exact k
theorem YieldsC.wpOp{i:Nat}{o:Oper}{v:Value}{a:Act}(hi:ops[i]?=some o)(hy:YieldsC P ops S o v a)
 {K:Act->World->Prop}{w:World}(hS:S w)(h:K (a.put o.dst v) w):wpOp P ops Q i K a w:=by
 unfold Go.wpOp;simp only[hi]
 rcases hy with⟨hw,hv⟩|⟨hw,rfl⟩
 ·simp only[hw,if_true];exact .inl ((hv w hS).wp h)
 ·simp only[hw,Bool.false_eq_true,if_false];exact h
theorem YieldsC.of_same{o:Oper}{v:Value}{a a':Act}(hy:YieldsC P ops S o v a)(he:execOp a'.eval o=execOp a.eval o)
 (hw:Region.wanted o (yielded ops a'.tmps)=Region.wanted o (yielded ops a.tmps)):YieldsC P ops S o v a':=by
 unfold YieldsC at*;rw[he,hw];exact hy
theorem wpOp_putC{j:Nat}{oi oj:Oper}{v:Value}(hj:ops[j]?=some oj)(hap:oi.apart ops oj=true)
 (hsi:∀cs b,oi.op≠.select cs b)(hsj:∀cs b,oj.op≠.select cs b)
 (hQ:∀c a w,Q (.panic c) (a.put oi.dst v) w->Q (.panic c) a w){K:Act->World->Prop}{a:Act}{w:World}
 (hy:YieldsC P ops S oi v a)(h:wpOp P ops Q j K (a.put oi.dst v) w):
 wpOp P ops Q j (fun a' w'=>YieldsC P ops S oi v a'/\K (a'.put oi.dst v) w') a w:=by
 obtain⟨h1,h2,h3⟩:=Oper.apart_spec hap
 have keep:∀(a:Act),YieldsC P ops S oi v a->∀u,YieldsC P ops S oi v (a.put oj.dst u):=fun a hy u=>
  hy.of_same (execOp_put oi hsi a oj.dst u h3) (wanted_put oi a oj.dst u h3)
 have keepD:∀d,YieldsC P ops S oi v { a with defers:=d::a.defers }:=fun d=>hy.of_same rfl rfl;unfold wpOp at*;simp only[hj]at*;rw[wanted_put oj a oi.dst v h1]at h
 split
 ·rename_i hw
  simp only[hw,if_true]at h
  rcases h with h|⟨hasks,hlets⟩
  case inr=>exact .inr ⟨by unfold Oper.asks at*;rw[execOp_put oj hsj a oi.dst v h1]at hasks;exact hasks,hlets⟩
  refine .inl ?_;unfold Oper.wp at*;rw[execOp_put oj hsj a oi.dst v h1]at h;generalize (execOp a.eval oj).run P w=r at*
  cases r with
  |ok n w'=>
   cases n<;>simp only[Oper.upon]at h |-
   case value u=>exact⟨keep a hy u,by rw[<-Act.put_comm a v u h2];exact h⟩
   case skip=>exact⟨keep a hy _,by rw[<-Act.put_comm a v undef h2];exact h⟩
   case defer d=>
    refine⟨keep _ (keepD d) _,?_⟩;rw[<-Act.put_comm _ v undef h2,<-Act.put_defers];exact h
   case enter f args=>
    refine Calls.mono h fun e w'' he=>?_
    cases e with
    |returned u=>exact⟨keep a hy u,by rw[<-Act.put_comm a v u h2];exact he⟩
    |panicked c=>exact hQ _ _ _ he
    |outgrown=>exact he
   case row row args=>exact Rows.mono h fun u w'' he=>⟨keep a hy u,by rw[<-Act.put_comm a v u h2];exact he⟩
  |halt x w'=>
   cases x<;>simp only[Oper.upon]at h |-
   case panic u=>exact hQ _ _ _ h
 ·rename_i hw
  simp only[hw]at h;exact⟨keep a hy _,by rw[<-Act.put_comm a v undef h2];exact h⟩
def jI(tl:List Nat)(listed:Array Bool):Bool:=tl.all fun t=> !listed.getD t false
def wpAnyG(P:Program)(md:Region.Mode)(ops:Array Oper)(Q:Exit->Act->World->Prop)(S:World->Prop)(tl:List Nat):Nat->Array Bool->Act->World->Prop
 |0,listed,a,w=>Region.ready md ops listed=[]/\Q .normal a w
 |fuel+1,listed,a,w=>
  (Region.ready md ops listed=[]->Q .normal a w)/\
  ∀i∈Region.ready md ops listed,wpOp P ops Q i (fun a' w'=>(jI tl (listed.setIfInBounds i true)=true->S w')/\wpAnyG P md ops Q S tl fuel (listed.setIfInBounds i true) a' w') a w
theorem wpAny_of_G{tl:List Nat}:∀(fuel:Nat)(listed:Array Bool)(a:Act)(w:World),wpAnyG P md ops Q S tl fuel listed a w->wpAny P md ops Q fuel listed a w
 |0,_,_,_,h=>h
 |fuel+1,_,_,_,h=>⟨h.1,fun i hi=>wpOp_mono (fun a' w' h'=>wpAny_of_G fuel _ a' w' h'.2) (h.2 i hi)⟩
def xQ(Q:Exit->Act->World->Prop):Prop:=∀c a a' w,a'.defers=a.defers->Q (.panic c) a w->Q (.panic c) a' w
theorem put_defers(a:Act)(d:Option Tmp)(v:Value):(a.put d v).defers=a.defers:=by cases d<;>rfl
def waitsAll(md:Region.Mode)(ops:Array Oper)(tl:List Nat)(i:Nat):Bool:=
 tl.all fun t=>t !=i&&(match ops[t]? with|some o=>o.after.any fun e=>Region.binds md e&&e.on==i|none=>false)
theorem noneOf_set{tl:List Nat}{listed:Array Bool}{j:Nat}(h:jI tl listed=true)(hj:j∉tl):jI tl (listed.setIfInBounds j true)=true:=by
 simp only[jI,List.all_eq_true,Bool.not_eq_true']at h |-;intro t ht;rw[getD_set_ne false (by rintro rfl;exact hj ht)];exact h t ht
theorem wpAnyG_first{tl:List Nat}{i:Nat}{oi:Oper}{v:Value}(hi:ops[i]?=some oi)(hsel:∀(j:Nat)(o:Oper) cs b,ops[j]?=some o->o.op≠.select cs b)
 (hQ:xQ Q)(htl:waitsAll md ops tl i=true):
 ∀(fuel:Nat)(listed:Array Bool)(a:Act)(w:World),
  (∀j oj,ops[j]?=some oj->j≠i->listed.getD j true=false->(∀e∈oj.after,Region.binds md e=true->e.on≠i)->oi.apart ops oj=true)->
  i∈Region.ready md ops listed->YieldsC P ops S oi v a->S w->jI tl listed=true->
  wpAnyG P md ops Q S tl fuel (listed.setIfInBounds i true) (a.put oi.dst v) w->wpAnyG P md ops Q S tl (fuel+1) listed a w:=by
 intro fuel
 have hw:∀t∈tl,t≠i/\∃o,ops[t]?=some o/\∃e∈o.after,Region.binds md e=true/\e.on=i:=by
  intro t ht;have:=List.all_eq_true.1 htl t ht;simp only[Bool.and_eq_true,bne_iff_ne]at this;obtain⟨h1,h2⟩:=this;refine⟨h1,?_⟩
  cases ho:ops[t]? with
  |none=>simp[ho]at h2
  |some o=>
   simp only[ho]at h2;obtain⟨e,he,hb⟩:=Array.any_eq_true'.1 h2;exact⟨o,rfl,e,he,by simpa using hb⟩
 induction fuel with
 |zero=>
  intro listed a w _ hr hy hS _ H;refine⟨fun h=>(by rw[h]at hr;cases hr),fun j hj=>?_⟩
  by_cases hji:j=i
  ·subst hji;exact hy.wpOp hi hS ⟨fun _=>hS,H⟩
  ·have:=ready_mono hj hji
   rw[H.1]at this
   cases this
 |succ fuel ih=>
  intro listed a w hfree hr hy hS hn H;refine⟨fun h=>(by rw[h]at hr;cases hr),fun j hj=>?_⟩
  by_cases hji:j=i
  ·subst hji;exact hy.wpOp hi hS ⟨fun _=>hS,H⟩
  ·have h1:=H.2 j (ready_mono hj hji)
   obtain⟨hjun,oj,hoj,hall⟩:=mem_ready.1 hj
   have hnot:∀e∈oj.after,Region.binds md e=true->e.on≠i:=fun e he hb heq=>by
    have h1:=hall e he hb;have h0:=(mem_ready.1 hr).1;rw[heq]at h1
    rcases Nat.lt_or_ge i listed.size with h'|h'
    ·simp[h']at h0 h1;rw[h0]at h1;cases h1
    ·simp[Array.getElem?_eq_none h']at h1
   have hjt:j∉tl:=fun ht=>by
    obtain⟨_,o,ho,e,he,hb,hon⟩:=hw j ht;rw[hoj]at ho;cases ho;exact hnot e he hb hon
   have h2:=wpOp_putC hoj (hfree j oj hoj hji hjun hnot) (fun cs b=>hsel i oi cs b hi) (fun cs b=>hsel j oj cs b hoj) (fun c a w hq=>hQ _ _ _ _ (by simp[put_defers]) hq) hy h1
   have hfree':∀k ok,ops[k]?=some ok->k≠i->(listed.setIfInBounds j true).getD k true=false->
    (∀e∈ok.after,Region.binds md e=true->e.on≠i)->oi.apart ops ok=true:=fun k ok hk hki hun hno=>by
    refine hfree k ok hk hki ?_ hno
    by_cases hjk:j=k
    ·subst hjk;exact hjun
    ·rw[getD_set_ne true hjk]at hun;exact hun
   have hn':=noneOf_set hn hjt;have hni:jI tl ((listed.setIfInBounds i true).setIfInBounds j true)=true:=noneOf_set (noneOf_set hn fun ht=>(hw i ht).1 rfl) hjt
   refine wpOp_mono (fun a' w' h3=>⟨fun _=>h3.2.1 hni,ih (listed.setIfInBounds j true) a' w' hfree' (ready_mono hr (Ne.symm hji)) h3.1 (h3.2.1 hni) hn' ?_⟩) h2
   rw[Array.setIfInBounds_comm _ _ hji];exact h3.2.2
theorem wpAnyG_free{tl:List Nat}{i:Nat}{oi:Oper}{v:Value}(hi:ops[i]?=some oi)(hsel:∀(j:Nat)(o:Oper) cs b,ops[j]?=some o->o.op≠.select cs b)
 (hQ:xQ Q)(hit:i∉tl):
 ∀(fuel:Nat)(listed:Array Bool)(a:Act)(w:World),
  (∀j oj,ops[j]?=some oj->j≠i->listed.getD j true=false->(∀e∈oj.after,Region.binds md e=true->e.on≠i)->oi.apart ops oj=true)->
  i∈Region.ready md ops listed->YieldsC P ops (fun _=>True) oi v a->(jI tl listed=true->S w)->
  wpAnyG P md ops Q S tl fuel (listed.setIfInBounds i true) (a.put oi.dst v) w->wpAnyG P md ops Q S tl (fuel+1) listed a w:=by
 intro fuel
 have hback:∀listed:Array Bool,jI tl (listed.setIfInBounds i true)=true->jI tl listed=true:=by
  intro listed h;simp only[jI,List.all_eq_true,Bool.not_eq_true']at h |-;intro t ht;have:=h t ht
  rwa[getD_set_ne false (by rintro rfl;exact hit ht)]at this
 induction fuel with
 |zero=>
  intro listed a w _ hr hy hS H;refine⟨fun h=>(by rw[h]at hr;cases hr),fun j hj=>?_⟩
  by_cases hji:j=i
  ·subst hji;exact hy.wpOp hi trivial ⟨fun hn=>hS (hback _ hn),H⟩
  ·have:=ready_mono hj hji
   rw[H.1]at this
   cases this
 |succ fuel ih=>
  intro listed a w hfree hr hy hS H;refine⟨fun h=>(by rw[h]at hr;cases hr),fun j hj=>?_⟩
  by_cases hji:j=i
  ·subst hji;exact hy.wpOp hi trivial ⟨fun hn=>hS (hback _ hn),H⟩
  ·have h1:=H.2 j (ready_mono hj hji)
   obtain⟨hjun,oj,hoj,hall⟩:=mem_ready.1 hj
   have hnot:∀e∈oj.after,Region.binds md e=true->e.on≠i:=fun e he hb heq=>by
    have h1:=hall e he hb;have h0:=(mem_ready.1 hr).1;rw[heq]at h1
    rcases Nat.lt_or_ge i listed.size with h'|h'
    ·simp[h']at h0 h1;rw[h0]at h1;cases h1
    ·simp[Array.getElem?_eq_none h']at h1
   have h2:=wpOp_putC hoj (hfree j oj hoj hji hjun hnot) (fun cs b=>hsel i oi cs b hi) (fun cs b=>hsel j oj cs b hoj) (fun c a w hq=>hQ _ _ _ _ (by simp[put_defers]) hq) hy h1
   have hfree':∀k ok,ops[k]?=some ok->k≠i->(listed.setIfInBounds j true).getD k true=false->
    (∀e∈ok.after,Region.binds md e=true->e.on≠i)->oi.apart ops ok=true:=fun k ok hk hki hun hno=>by
    refine hfree k ok hk hki ?_ hno
    by_cases hjk:j=k
    ·subst hjk;exact hjun
    ·rw[getD_set_ne true hjk]at hun;exact hun
   have hfwd:jI tl (listed.setIfInBounds j true)=true->jI tl ((listed.setIfInBounds i true).setIfInBounds j true)=true:=fun h=>by
    rw[Array.setIfInBounds_comm _ _ (Ne.symm hji)];exact noneOf_set h hit
   refine wpOp_mono (fun a' w' h3=>⟨fun hn=>h3.2.1 (hfwd hn),ih (listed.setIfInBounds j true) a' w' hfree' (ready_mono hr (Ne.symm hji)) h3.1 (fun hn=>h3.2.1 (hfwd hn)) ?_⟩) h2
   rw[Array.setIfInBounds_comm _ _ hji];exact h3.2.2
def piOk(md:Region.Mode)(ops:Array Oper)(tl:List Nat):List (Nat×Nat)->Array Bool->Bool
 | [],listed=>(Region.ready md ops listed).isEmpty
 |(i,0)::r,listed=>i<ops.size&&Region.free md ops listed i&&(Region.ready md ops listed).contains i&&waitsAll md ops tl i&&jI tl listed&&piOk md ops tl r (listed.setIfInBounds i true)
 |(i,1)::r,listed=>i<ops.size&&(Region.ready md ops listed)==[i]&& !tl.contains i&&piOk md ops tl r (listed.setIfInBounds i true)
 |(i,2)::r,listed=>i<ops.size&&(Region.ready md ops listed)==[i]&&tl.contains i&& !jI tl (listed.setIfInBounds i true)&&piOk md ops tl r (listed.setIfInBounds i true)
 |(i,_+3)::r,listed=>i<ops.size&&Region.free md ops listed i&&(Region.ready md ops listed).contains i&& !tl.contains i&&piOk md ops tl r (listed.setIfInBounds i true)
def wpPi(P:Program)(ops:Array Oper)(Q:Exit->Act->World->Prop):(World->Prop)->List (Oper×Nat)->Act->World->Prop
 |_,[],a,w=>Q .normal a w
 |S,(o,0)::r,a,w=>∃v,YieldsC P ops S o v a/\wpPi P ops Q S r (a.put o.dst v) w
 |S,(o,1)::r,a,w=>
  if Region.wanted o (yielded ops a.tmps)then o.wp P a w (fun a' w'=>∃S':World->Prop,(∀w,S' w->S w)/\S' w'/\wpPi P ops Q S' r a' w') Q\/(o.asks P a w/\LetsOut Q)
  else S w/\wpPi P ops Q S r (a.put o.dst undef) w
 |S,(o,2)::r,a,w=>
  if Region.wanted o (yielded ops a.tmps)then o.wp P a w (wpPi P ops Q S r) Q\/(o.asks P a w/\LetsOut Q)
  else wpPi P ops Q S r (a.put o.dst undef) w
 |S,(o,_+3)::r,a,w=>∃v,YieldsC P ops (fun _=>True) o v a/\wpPi P ops Q S r (a.put o.dst v) w
theorem wpAnyG_weaken{S':World->Prop}{tl:List Nat}(hSS:∀w,S' w->S w):∀(fuel:Nat)(listed:Array Bool)(a:Act)(w:World),wpAnyG P md ops Q S' tl fuel listed a w->wpAnyG P md ops Q S tl fuel listed a w
 |0,_,_,_,h=>h
 |fuel+1,_,_,_,h=>⟨h.1,fun i hi=>wpOp_mono (fun a' w' h'=>⟨fun hn=>hSS _ (h'.1 hn),wpAnyG_weaken hSS fuel _ a' w' h'.2⟩) (h.2 i hi)⟩
theorem yU{tl:List Nat}(hs:Region.noSelect ops=true)(hQ:xQ Q):
 ∀(S:World->Prop)(l:List (Nat×Nat))(listed:Array Bool)(a:Act)(w:World),piOk md ops tl l listed=true->(jI tl listed=true->S w)->wpPi P ops Q S (l.map fun x=>(ops.getD x.1 default,x.2)) a w->
  wpAnyG P md ops Q S tl l.length listed a w
 |S,[],listed,a,w,hp,_,h=>by
  simp only[piOk,List.isEmpty_iff]at hp;exact⟨hp,h⟩
 |S,(i,0)::r,listed,a,w,hp,hS,h=>by
  simp only[piOk,Bool.and_eq_true,decide_eq_true_eq]at hp;obtain⟨⟨⟨⟨⟨hi,hf⟩,hr⟩,hwa⟩,hn⟩,hp⟩:=hp;obtain⟨v,hy,h⟩:=h
  have hi':ops[i]?=some (ops.getD i default):=by simp[Array.getD,hi]
  exact wpAnyG_first hi' (Region.noSelect_spec hs) hQ hwa r.length listed a w (Region.free_spec hi' hf) (by simpa using hr) hy (hS hn) hn
   (yU hs hQ S r _ _ w hp (fun _=>hS hn) h)
 |S,(i,n+3)::r,listed,a,w,hp,hS,h=>by
  simp only[piOk,Bool.and_eq_true,decide_eq_true_eq,Bool.not_eq_true']at hp;obtain⟨⟨⟨⟨hi,hf⟩,hr⟩,hit⟩,hp⟩:=hp;obtain⟨v,hy,h⟩:=h
  have hit':i∉tl:=by simpa using hit
  have hi':ops[i]?=some (ops.getD i default):=by simp[Array.getD,hi]
  refine wpAnyG_free hi' (Region.noSelect_spec hs) hQ hit' r.length listed a w (Region.free_spec hi' hf) (by simpa using hr) hy hS
   (yU hs hQ S r _ _ w hp (fun hn=>hS ?_) h)
  simp only[jI,List.all_eq_true,Bool.not_eq_true']at hn |-;intro t ht;have:=hn t ht
  rwa[getD_set_ne false (by rintro rfl;exact hit' ht)]at this
 |S,(i,1)::r,listed,a,w,hp,hS,h=>by
  simp only[piOk,Bool.and_eq_true,decide_eq_true_eq,beq_iff_eq]at hp;obtain⟨⟨⟨hi,hr⟩,ht⟩,hp⟩:=hp;refine⟨fun h0=>(by rw[hr]at h0;cases h0),fun j hj=>?_⟩
  have:j=i:=by rw[hr]at hj;simpa using hj
  subst this;have hi':ops[j]?=some (ops.getD j default):=by simp[Array.getD,hi]
  simp only[List.map_cons]at h
  refine wpOp_mono (K:=fun a' w'=>∃S':World->Prop,(∀w,S' w->S w)/\S' w'/\wpPi P ops Q S' (r.map fun x=>(ops.getD x.1 default,x.2)) a' w')
   (fun a' w' h'=>(by
    obtain⟨S',hSS,h1,h2⟩:=h'
    exact⟨fun _=>hSS _ h1,wpAnyG_weaken hSS _ _ _ _ (yU hs hQ S' r _ _ w' hp (fun _=>h1) h2)⟩)) ?_
  unfold wpPi at h;unfold wpOp;generalize ops.getD j default=oj at hi' h;simp only[hi']
  by_cases hg:Region.wanted oj (yielded ops a.tmps)=true
  ·rw[if_pos hg]at h |-
   exact h
  ·rw[if_neg hg]at h |-
   exact⟨S,fun _ h=>h,h.1,h.2⟩
 |S,(i,2)::r,listed,a,w,hp,hS,h=>by
  simp only[piOk,Bool.and_eq_true,decide_eq_true_eq,beq_iff_eq,Bool.not_eq_true']at hp;obtain⟨⟨⟨⟨hi,hr⟩,ht⟩,hno⟩,hp⟩:=hp
  refine⟨fun h0=>(by rw[hr]at h0;cases h0),fun j hj=>?_⟩;have:j=i:=by rw[hr]at hj;simpa using hj
  subst this;have hi':ops[j]?=some (ops.getD j default):=by simp[Array.getD,hi]
  simp only[List.map_cons]at h
  refine wpOp_mono (K:=fun a' w'=>wpPi P ops Q S (r.map fun x=>(ops.getD x.1 default,x.2)) a' w')
   (fun a' w' h'=>⟨fun hn=>(by rw[hno]at hn;cases hn),yU hs hQ S r _ _ w' hp (fun hn=>(by rw[hno]at hn;cases hn)) h'⟩) ?_
  unfold wpOp;generalize ops.getD j default=oj at hi' h;simp only[hi'];exact h
theorem zK{id:Nat}{a:Act}{w:World}{l:List Oper}(p:List (Nat×Nat))(tl:List Nat)(S:World->Prop)(hm:P.follows .mixedOrders=true)(hs:Region.noSelect l.toArray=true)
 (hl:p.length=l.toArray.size)(hp:piOk .any l.toArray tl p (Array.replicate l.toArray.size false)=true)(hQ:xQ Q)(hS:S w.drew)
 (h:wpPi P l.toArray Q S (p.map fun x=>(l.getD x.1 default,x.2)) a w.drew):(Code.region id l.toArray true).wp P Q a w:=
 wp_region_any hm (by
  have e:(p.map fun x=>((l.toArray).getD x.1 default,x.2))=(p.map fun x=>(l.getD x.1 default,x.2)):=by
   apply List.map_congr_left;intro x _;simp[Array.getD_eq_getD_getElem?,List.getD]
  have H:=wpAny_of_G _ _ _ _ (yU hs hQ S p _ a w.drew hp (fun _=>hS) (by rw[e];exact h));rw[hl]at H
  exact H)
theorem wpList_of_pi:∀(S:World->Prop)(l:List (Oper×Nat))(a:Act)(w:World),(∀x∈l,x.2≠2)->S w->wpPi P ops Q S l a w->wpList P ops Q (l.map (·.1)) a w
 |_,[],_,_,_,_,h=>h
 |S,(o,0)::r,a,w,hl,hS,h=>by
  obtain⟨v,hy,h⟩:=h;have ih:=wpList_of_pi S r _ w (fun x hx=>hl x (by simp[hx])) hS h;simp only[List.map_cons];unfold wpList
  rcases hy with⟨hw,hv⟩|⟨hw,rfl⟩
  ·rw[if_pos hw]
   refine .inl ?_;exact(hv w hS).wp ih
  ·rw[hw];exact ih
 |S,(o,n+3)::r,a,w,hl,hS,h=>by
  obtain⟨v,hy,h⟩:=h;have ih:=wpList_of_pi S r _ w (fun x hx=>hl x (by simp[hx])) hS h;simp only[List.map_cons];unfold wpList
  rcases hy with⟨hw,hv⟩|⟨hw,rfl⟩
  ·rw[if_pos hw]
   refine .inl ?_;exact(hv w trivial).wp ih
  ·rw[hw];exact ih
 |S,(o,2)::r,a,w,hl,hS,h=>absurd rfl (hl (o,2) (by simp))
 |S,(o,1)::r,a,w,hl,hS,h=>by
  simp only[List.map_cons];unfold wpList;unfold wpPi at h
  split
  ·rename_i hw
   rw[if_pos hw]at h;exact h.imp (fun h=>Oper.wp_mono (fun a' w' ⟨S',_,h1,h2⟩=>wpList_of_pi S' r a' w' (fun x hx=>hl x (by simp[hx])) h1 h2) h) id
  ·rename_i hw
   rw[if_neg hw]at h;exact wpList_of_pi S r _ w (fun x hx=>hl x (by simp[hx])) h.1 h.2
theorem wp_region_seq{id:Nat}{a:Act}{w:World}{l:List Oper}(p:List Nat)(S:World->Prop)(hl:p.length=l.length)(hp:(p.all (·!=2))=true)(hS:S w)
 (h:wpPi P l.toArray Q S (l.zip p) a w):(Code.region id l.toArray false).wp P Q a w:=
 wp_region_lit (by
  have:=wpList_of_pi S (l.zip p) a w (fun x hx=>by
   have:=List.of_mem_zip hx
   simpa using List.all_eq_true.1 hp x.2 this.2) hS h
  rwa[List.map_fst_zip (by omega)]at this)
theorem wpPi_nil{a:Act}{w:World}(h:Q .normal a w):wpPi P ops Q S [] a w:=h
theorem qQ{o:Oper}{r:List (Oper×Nat)}{a:Act}{w:World}{v:Value}(hw:Region.wanted o (yielded ops a.tmps)=true)
 (hv:∀w,S w->(execOp a.eval o).run P w=.ok (.value v) w)(h:wpPi P ops Q S r (a.put o.dst v) w):wpPi P ops Q S ((o,0)::r) a w:=
 ⟨v,.inl ⟨hw,fun w hS=>.inl (hv w hS)⟩,h⟩
theorem qE{o:Oper}{r:List (Oper×Nat)}{a:Act}{w:World}{v:Value}(hw:Region.wanted o (yielded ops a.tmps)=true)
 (hv:∀w,(execOp a.eval o).run P w=.ok (.value v) w)(h:wpPi P ops Q S r (a.put o.dst v) w):wpPi P ops Q S ((o,3)::r) a w:=
 ⟨v,.inl ⟨hw,fun w _=>.inl (hv w)⟩,h⟩
theorem wpPi_skip{o:Oper}{r:List (Oper×Nat)}{a:Act}{w:World}(hw:Region.wanted o (yielded ops a.tmps)=false)
 (h:wpPi P ops Q S r (a.put o.dst undef) w):wpPi P ops Q S ((o,3)::r) a w:=
 ⟨undef,.inr ⟨hw,rfl⟩,h⟩
theorem wpPi_skip0{o:Oper}{r:List (Oper×Nat)}{a:Act}{w:World}(hw:Region.wanted o (yielded ops a.tmps)=false)
 (h:wpPi P ops Q S r (a.put o.dst undef) w):wpPi P ops Q S ((o,0)::r) a w:=
 ⟨undef,.inr ⟨hw,rfl⟩,h⟩
theorem jH{o:Oper}{r:List (Oper×Nat)}{a:Act}{w:World}{v:Value}{f:FuncId}{args:Array Value}(hw:Region.wanted o (yielded ops a.tmps)=true)
 (hr:∀w,(execOp a.eval o).run P w=.ok (.enter f args) w)(hc:∀w,S w->Calls P f args w (fun e w'=>e=.returned v/\w'=w))(h:wpPi P ops Q S r (a.put o.dst v) w):wpPi P ops Q S ((o,0)::r) a w:=
 ⟨v,.inl ⟨hw,fun w hS=>.inr ⟨f,args,hr w,hc w hS⟩⟩,h⟩
theorem qM{o:Oper}{r:List (Oper×Nat)}{a:Act}{w:World}(hg:Region.wanted o (yielded ops a.tmps)=true)
 (h:∀K:Act->World->Prop,(∀a' w',S w'->wpPi P ops Q S r a' w'->K a' w')->o.wp P a w K Q):wpPi P ops Q S ((o,1)::r) a w:=by
 unfold wpPi;rw[if_pos hg];exact .inl (h _ fun a' w' h1 h2=>⟨S,fun _ h=>h,h1,h2⟩)
theorem zB{o:Oper}{r:List (Oper×Nat)}{a:Act}{w:World}(hg:Region.wanted o (yielded ops a.tmps)=true)
 (h:∀K:Act->World->Prop,(∀a' w',wpPi P ops Q S r a' w'->K a' w')->o.wp P a w K Q):wpPi P ops Q S ((o,2)::r) a w:=by
 unfold wpPi;rw[if_pos hg];exact .inl (h _ fun a' w' h2=>h2)
theorem xF{o:Oper}{r:List (Oper×Nat)}{a:Act}{w:World}(hg:Region.wanted o (yielded ops a.tmps)=false)(hS:S w)
 (h:wpPi P ops Q S r (a.put o.dst undef) w):wpPi P ops Q S ((o,1)::r) a w:=by
 unfold wpPi;rw[hg];exact⟨hS,h⟩
end
theorem zI{P:Program}{o:Oper}{a:Act}(f:FuncId)(xs:List Operand)(ts:Array TypeId)(ho:o.op=.call { callee:=.value (.func f),args:=xs.toArray,argTypes:=ts })(fn:Func)(hf:P.funcs[f]?=some fn)
 (hb:fn.body.isSome=true)(hn:(fn.name== "runtime.NumGoroutine")=false)(args:List Value)(ha:xs.map a.eval=args)(w:World):(execOp a.eval o).run P w=.ok (.enter f args.toArray) w:=by
 subst ha;have hb':¬fn.body=none:=by intro h;simp[h]at hb
 have hn':¬fn.name= "runtime.NumGoroutine" :=by simpa using hn
 unfold execOp
 simp[ho,resolve,Act.eval,Deferred.ofValue,invoke,callFunc,hf,hb',hn']
theorem run_loadVar_cells{P:Program}{w:World}{b off:Nat}{ty:TypeId}{cs:Array Value}{d:TypeDesc}(hc:CellsAt w b off cs)
 (hu:P.underlying ty=some d)(hd:(match d with| .struct _| .array _ _=>true|_=>false)=true)(hi:(P.info? ty).map (·.size)=some cs.size):
 (loadVar ty ⟨b,off,none⟩).run P w=.ok (.agg cs) w:=by
 have hl:(loadCells ⟨b,off,none⟩ cs.toList.length).run P w=.ok cs.toList.toArray w:=
  run_loadCells_list (P:=P) w ⟨b,off,none⟩ cs.toList (fun j v hv=>by
   have hj:j<cs.size:=by
    rcases Nat.lt_or_ge j cs.toList.length with h|h
    ·simpa using h
    ·rw[List.getElem?_eq_none h]at hv;cases hv
   have hadd:(⟨b,off,none⟩:Addr).add j=⟨b,off+j,none⟩:=by unfold Addr.add;split<;>simp_all
   rw[hadd,hc j hj]
   simpa using hv)
 cases hq:P.info? ty with
 |none=>simp[hq]at hi
 |some i=>
  have hs:i.size=cs.size:=by simpa[hq]using hi
  have hagg:(isAgg ty).run P w=.ok true w:=by
   unfold isAgg;rw[Sem.run_bind,run_underlying hu w]
   cases d<;>simp_all
  simp only[Array.length_toList,Array.toArray_toList]at hl
  simp[loadVar,Sem.run_bind,hagg,sizeOf,typeInfo,hq,hs,hl]
theorem exec_loadA{P:Program}{w:World}{o:Oper}{a:Act}(ty:TypeId)(x:Operand)(ho:o.op=.load ty x)(b off:Nat)(hx:a.eval x=.pointer (some ⟨b,off,none⟩))
 (cs:Array Value)(hc:CellsAt w b off cs)(d:TypeDesc)(hu:P.underlying ty=some d)(hd:(match d with| .struct _| .array _ _=>true|_=>false)=true)(n:Nat)(hi:(P.info? ty).map (·.size)=some n)(hn:cs.size=n):
 (execOp a.eval o).run P w=.ok (.value (.agg cs)) w:=by
 unfold execOp;simp only[ho,hx,Instr.loadAt,Instr.sureAddr,Sem.run_bind,Sem.run_pure,Result.andThen_ok,run_loadVar_cells hc hu hd (hn▸hi)]
theorem xO{P:Program}{w:World}{o:Oper}{a:Act}(ty:TypeId)(x:Operand)(ho:o.op=.load ty x)(b off:Nat)(hx:a.eval x=.pointer (some ⟨b,off,none⟩))
 (v:Value)(hc:w.cell? ⟨b,off,none⟩=some v)(d:TypeDesc)(hu:P.underlying ty=some d)(hd:(match d with| .struct _| .array _ _=>true|_=>false)=false):
 (execOp a.eval o).run P w=.ok (.value v) w:=by
 have hagg:(isAgg ty).run P w=.ok false w:=by
  unfold isAgg;rw[Sem.run_bind,run_underlying hu w]
  cases d<;>simp_all
 unfold execOp;simp only[ho,hx,Instr.loadAt,Instr.sureAddr,Sem.run_bind,Sem.run_pure,Result.andThen_ok,loadVar,hagg,Bool.false_eq_true,if_false]
 simp[load,Sem.run,hc]
theorem yZ{P:Program}{w:World}{o:Oper}{a:Act}(t:TypeId)(x y:Operand)(yt:TypeId)(ho:o.op=.binOp .eql t x y yt)(xs ys:List UInt8)
 (hx:a.eval x=.agg (qA xs))(hy:a.eval y=.agg (qA ys))(n:Nat)(e:TypeId)(ht:P.underlying t=some (.array n e))(he:P.underlying e=some (.int .u8))
 (hsz:(P.info? e).map (·.size)=some 1)(hg:P.eqGuardType P.depth t=false)(hxs:xs.length=n)(hys:ys.length=n)(b:Bool)(hb:decide (xs=ys)=b):
 (execOp a.eval o).run P w=.ok (.value (.bool b)) w:=by
 subst hb
 have hs:∀w,(sizeOf e).run P w=.ok 1 w:=fun w=>by
  cases hq:P.info? e with
  |none=>simp[hq]at hsz
  |some i=>simp[hq]at hsz;simp[sizeOf,typeInfo,hq,hsz]
 have h1:=run_eqGuard_agg (P:=P) w .eql t x y (qA xs) (qA ys) hg;have h2:=run_eql_bytes (P:=P) w t e n ht he hs xs ys hxs hys;unfold execOp
 simp only[ho,hx,hy,Sem.run_bind,h1,Result.andThen_ok]
 rw[show qA xs=(xs.map Extern.Stop.cell).toArray from rfl,show qA ys=(ys.map Extern.Stop.cell).toArray from rfl,h2];simp only[Result.andThen_ok,Sem.run_pure]
 have:(xs==ys)=decide (xs=ys):=by rw[Bool.eq_iff_iff];simp
 rw[this]
theorem exec_eql_str{P:Program}{w:World}{o:Oper}{a:Act}(t:TypeId)(x y:Operand)(yt:TypeId)(ho:o.op=.binOp .eql t x y yt)(m n:ByteArray)
 (hx:a.eval x=.string m)(hy:a.eval y=.string n)(b:Bool)(hb:decide (m=n)=b):(execOp a.eval o).run P w=.ok (.value (.bool b)) w:=by
 subst hb;unfold execOp
 have h:(m.toList==n.toList)=decide (m=n):=by
  rw[<-beq_toListBytes,Bool.eq_iff_iff,decide_eq_true_iff];obtain⟨⟨x⟩⟩:=m;obtain⟨⟨y⟩⟩:=n
  show((⟨x⟩:Array UInt8)==⟨y⟩)=true↔_
  simp
 simp[ho,hx,hy,eqGuard,binOp,Op.stringOp,h]
theorem run_string_of_bytes{P:Program}{w:World}{own:Bool}{G:Nat->Prop}{v:Value}{l:List UInt8}(h:Sl own w G 1 ByteC v l)(src e dst:TypeId)
 (hs:P.underlying src=some (.slice e))(he:P.underlying e=some (.int .u8))(hd:P.underlying dst=some .string):
 (convert src dst v).run P w=.ok (.string ⟨l.toArray⟩) w:=by
 obtain⟨a,cap,rfl,hl,hc,h⟩:=h
 by_cases hne:l=[]
 ·subst hne
  cases a with
  |none=>rw[run_convert_bytes_nil (P:=P) w src e hs he _ _ dst hd];rfl
  |some a=>
   rw[run_convert_bytes_string (P:=P) w src dst e _ _ _ hs he hd]
   simp[Conv.bytesToString,loadCells,loadCellsFrom]
   rfl
 ·obtain⟨b,off,rfl,-,-,h⟩:=h hne
  have:=Lib.run_convert_whole (P:=P) w src e dst hs he hd b off ⟨l.toArray⟩ (fun i hi=>by
   have hi':i<l.length:=by simpa[ByteArray.size]using hi
   obtain⟨cs,-,rfl,hc⟩:=h i hi';have:=CellsAt.one.1 hc;rw[Nat.mul_one]at this
   rw[this];rfl) cap
  simpa[ByteArray.size]using this
theorem zP{P:Program}{w:World}{o:Oper}{a:Act}{own:Bool}{G:Nat->Prop}(src e dst:TypeId)(x:Operand)(ho:o.op=.convert src dst x)(v:Value)(hx:a.eval x=v){l:List UInt8}(h:Sl own w G 1 ByteC v l)
 (hs:P.underlying src=some (.slice e))(he:P.underlying e=some (.int .u8))(hd:P.underlying dst=some .string):(execOp a.eval o).run P w=.ok (.value (.string ⟨l.toArray⟩)) w:=by
 unfold execOp;simp only[ho,hx,Sem.run_bind,run_string_of_bytes h src e dst hs he hd,Result.andThen_ok,Sem.run_pure]
theorem bytes_inj{a b:List UInt8}:((⟨a.toArray⟩:ByteArray)=⟨b.toArray⟩)↔a=b:=by
 constructor
 ·intro h
  have:=congrArg (fun x:ByteArray=>x.data.toList) h
  simpa using this
 ·intro h;rw[h]
def qW(P:Program)(s:TypeId)(f:Nat):Option Nat:=
 match P.underlying s with
 |some (.struct fs)=>
  match fs[f]? with
  |some fd=>match(P.info? fd.type).map (·.size)with|some 0=>none|some _=>some fd.offset|none=>none
  |none=>none
 |_=>none
section
variable{P:Program}{ops:Array Oper}{Q:Exit->Act->World->Prop}{S:World->Prop}{o:Oper}{r:List (Oper×Nat)}{a:Act}{w:World}
theorem wpPi_move(x:Operand)(hw:Region.wanted o (yielded ops a.tmps)=true)(ho:o.op=.move x)(h:wpPi P ops Q S r (a.put o.dst (a.eval x)) w):wpPi P ops Q S ((o,3)::r) a w:=
 qE hw (fun w=>by unfold execOp;simp only[ho];rfl) h
theorem yT(x:Operand)(hw:Region.wanted o (yielded ops a.tmps)=true)(ho:o.op=.assign x)(h:wpPi P ops Q S r (a.put o.dst (a.eval x)) w):wpPi P ops Q S ((o,3)::r) a w:=
 qE hw (fun w=>by unfold execOp;simp only[ho];rfl) h
theorem wpPi_pick(c x y:Operand)(t:Bool)(hw:Region.wanted o (yielded ops a.tmps)=true)(ho:o.op=.pick c x y)(hc:a.eval c=.bool t)
 (h:wpPi P ops Q S r (a.put o.dst (if t then a.eval x else a.eval y)) w):wpPi P ops Q S ((o,3)::r) a w:=
 qE hw (fun w=>by unfold execOp;simp only[ho,hc];cases t<;>simp[asBool]) h
theorem wpPi_nilCheck(x:Operand)(p:Addr)(hw:Region.wanted o (yielded ops a.tmps)=true)(ho:o.op=.nilCheck x)(hx:a.eval x=.pointer (some p))
 (h:wpPi P ops Q S r (a.put o.dst (.pointer (some p))) w):wpPi P ops Q S ((o,3)::r) a w:=
 qE hw (fun w=>by unfold execOp;simp only[ho,hx];rfl) h
theorem zH(x:Operand)(t:TypeId)(b:Bool)(hw:Region.wanted o (yielded ops a.tmps)=true)(ho:o.op=.unOp .not t x)(hx:a.eval x=.bool b)
 (h:wpPi P ops Q S r (a.put o.dst (.bool (!b))) w):wpPi P ops Q S ((o,3)::r) a w:=
 qE hw (fun w=>by unfold execOp;simp[ho,hx,Op.unary]) h
def isSliceT(P:Program)(t:TypeId):Bool:=match P.underlying t with|some (.slice _)=>true|_=>false
theorem wpPi_len(x:Operand)(t:TypeId)(ad:Option Addr)(n c:Nat)(hw:Region.wanted o (yielded ops a.tmps)=true)(ho:o.op=.call { callee:=.builtin .len,args:=#[x],argTypes:=#[t] })(hx:a.eval x=.slice ad n c)(ht:isSliceT P t=true)
 (h:wpPi P ops Q S r (a.put o.dst (.int .i64 n)) w):wpPi P ops Q S ((o,3)::r) a w:=
 qE hw (fun w=>by
  unfold isSliceT at ht
  split at ht
  ·rename_i e hu
   unfold execOp;simp[ho,hx,resolve,invoke,builtin,Builtin.len_,run_underlying hu,goInt]
  ·cases ht) h
theorem run_fieldAt{s:TypeId}{b off f k:Nat}(hk:qW P s f=some k)(w:World):(Instr.fieldAt s (.pointer (some ⟨b,off,none⟩)) f).run P w=.ok (.pointer (some ⟨b,off+k,none⟩)) w:=by
 unfold qW at hk
 split at hk
 ·rename_i fs hu
  split at hk
  ·rename_i fd hf
   have hadd:(⟨b,off,none⟩:Addr).add fd.offset=⟨b,off+fd.offset,none⟩:=by unfold Addr.add;split<;>simp_all
   cases hi:P.info? fd.type with
   |none=>simp[hi]at hk
   |some i=>
    simp only[hi,Option.map_some]at hk
    split at hk
    ·cases hk
    ·rename_i n hn heq
     have hz:i.size≠0:=by rintro h0;rw[h0]at heq;cases heq;exact hn rfl
     have hk':fd.offset=k:=by simpa using hk
     subst hk'
     simp[Instr.fieldAt,run_underlying hu,hf,Instr.sureAddr,fieldPlace,sizeOf,typeInfo,hi,hz,hadd]
    ·cases hk
  ·cases hk
 ·cases hk
theorem wpPi_field(s:TypeId)(x:Operand)(f b off k:Nat)(hw:Region.wanted o (yielded ops a.tmps)=true)(ho:o.op=.fieldAddr s x f)(hx:a.eval x=.pointer (some ⟨b,off,none⟩))(hk:qW P s f=some k)
 (h:wpPi P ops Q S r (a.put o.dst (.pointer (some ⟨b,off+k,none⟩))) w):wpPi P ops Q S ((o,3)::r) a w:=
 qE hw (fun w=>by unfold execOp;simp only[ho,hx,Sem.run_bind,run_fieldAt hk,Result.andThen_ok,Sem.run_pure]) h
theorem wrap_in{m:Int}(h1:-9223372036854775808<=m)(h2:m<=9223372036854775807):IntKind.i64.wrap m=m:=IntWalk.i64_in _ ⟨h1,h2⟩
theorem wpPi_add(t:TypeId)(x y:Operand)(yt:TypeId)(m n:Int)(hw:Region.wanted o (yielded ops a.tmps)=true)(ho:o.op=.binOp .add t x y yt)(hx:a.eval x=.int .i64 m)(hy:a.eval y=.int .i64 n)
 (h1:-9223372036854775808<=m+n)(h2:m+n<=9223372036854775807)(h:wpPi P ops Q S r (a.put o.dst (.int .i64 (m+n))) w):wpPi P ops Q S ((o,3)::r) a w:=
 qE hw (fun w=>by
  unfold execOp;have e:=wrap_in h1 h2
  simp[ho,hx,hy,eqGuard,binOp,Op.intArith,e]) h
theorem xB(t:TypeId)(x y:Operand)(yt:TypeId)(m n:Int)(hw:Region.wanted o (yielded ops a.tmps)=true)(ho:o.op=.binOp .sub t x y yt)(hx:a.eval x=.int .i64 m)(hy:a.eval y=.int .i64 n)
 (h1:-9223372036854775808<=m-n)(h2:m-n<=9223372036854775807)(h:wpPi P ops Q S r (a.put o.dst (.int .i64 (m-n))) w):wpPi P ops Q S ((o,3)::r) a w:=
 qE hw (fun w=>by
  unfold execOp;have e:=wrap_in h1 h2
  simp[ho,hx,hy,eqGuard,binOp,Op.intArith,e]) h
theorem wpPi_mul(t:TypeId)(x y:Operand)(yt:TypeId)(m n:Int)(hw:Region.wanted o (yielded ops a.tmps)=true)(ho:o.op=.binOp .mul t x y yt)(hx:a.eval x=.int .i64 m)(hy:a.eval y=.int .i64 n)
 (h1:-9223372036854775808<=m*n)(h2:m*n<=9223372036854775807)(h:wpPi P ops Q S r (a.put o.dst (.int .i64 (m*n))) w):wpPi P ops Q S ((o,3)::r) a w:=
 qE hw (fun w=>by
  unfold execOp;have e:=wrap_in h1 h2
  simp[ho,hx,hy,eqGuard,binOp,Op.intArith,e]) h
def cmpB:BinOp->Int->Int->Bool
 | .lss,m,n=>decide (m<n)
 | .leq,m,n=>decide (m<=n)
 | .gtr,m,n=>decide (n<m)
 | .geq,m,n=>decide (n<=m)
 | .eql,m,n=>decide (m=n)
 |_,m,n=>decide (m≠n)
def isCmp:BinOp->Bool
 | .lss| .leq| .gtr| .geq| .eql| .neq=>true
 |_=>false
theorem exec_cmp{P:Program}{w:World}{o:Oper}{a:Act}(op:BinOp)(t:TypeId)(x y:Operand)(yt:TypeId)(k:IntKind)(m n:Int)(ho:o.op=.binOp op t x y yt)(hc:isCmp op=true)(hx:a.eval x=.int k m)(hy:a.eval y=.int k n)
 (b:Bool)(hb:cmpB op m n=b):(execOp a.eval o).run P w=.ok (.value (.bool b)) w:=by
 subst hb;have hb:∀(p q:Int),(p==q)=decide (p=q):=fun p q=>by rw[Bool.eq_iff_iff];simp
 have hb':∀(p q:Int),(p !=q)=decide (p≠q):=fun p q=>by rw[Bool.eq_iff_iff];simp
 unfold execOp
 cases op<;>simp[isCmp]at hc<;>simp[ho,hx,hy,eqGuard,binOp,Op.intCmp,cmpB,hb,hb']
theorem qG(op:BinOp)(t:TypeId)(x y:Operand)(yt:TypeId)(k:IntKind)(m n:Int)(hw:Region.wanted o (yielded ops a.tmps)=true)(ho:o.op=.binOp op t x y yt)(hc:isCmp op=true)(hx:a.eval x=.int k m)(hy:a.eval y=.int k n)
 (b:Bool)(hb:cmpB op m n=b)(h:wpPi P ops Q S r (a.put o.dst (.bool b)) w):wpPi P ops Q S ((o,3)::r) a w:=
 qE hw (fun _=>exec_cmp op t x y yt k m n ho hc hx hy b hb) h
theorem run_indexAt_slice{t e:TypeId}{b off len cap n i:Nat}(hu:P.underlying t=some (.slice e))(hi:(P.info? e).map (·.size)=some n)(h:i<len)(w:World):
 (Instr.indexAt t (.slice (some ⟨b,off,none⟩) len cap) (.int .i64 i)).run P w=.ok (.pointer (some ⟨b,off+i*n,none⟩)) w:=by
 have hadd:(⟨b,off,none⟩:Addr).add (i*n)=⟨b,off+i*n,none⟩:=by unfold Addr.add;split<;>simp_all
 cases hq:P.info? e with
 |none=>simp[hq]at hi
 |some j=>
  have hs:j.size=n:=by simpa[hq]using hi
  simp[Instr.indexAt,asIntOf,run_underlying hu,h,sizeOf,typeInfo,hq,hs,hadd]
theorem wpPi_index(t:TypeId)(x y:Operand)(e:TypeId)(b off len cap n i:Nat)(hw:Region.wanted o (yielded ops a.tmps)=true)(ho:o.op=.indexAddr t x y)
 (hx:a.eval x=.slice (some ⟨b,off,none⟩) len cap)(hy:a.eval y=.int .i64 i)(hu:P.underlying t=some (.slice e))(hi:(P.info? e).map (·.size)=some n)(hlt:i<len)
 (h:wpPi P ops Q S r (a.put o.dst (.pointer (some ⟨b,off+i*n,none⟩))) w):wpPi P ops Q S ((o,3)::r) a w:=
 qE hw (fun w=>by unfold execOp;simp only[ho,hx,hy,Sem.run_bind,run_indexAt_slice hu hi hlt,Result.andThen_ok,Sem.run_pure]) h
end
theorem pl(t:List Value)(df:List Deferred)(d:Nat)(v:Value):Act.put ⟨t.toArray,df⟩ (some d) v=⟨(t.set d v).toArray,df⟩:=by simp[Act.put]
theorem pn(a:Act)(v:Value):Act.put a none v=a:=rfl
theorem el(t:List Value)(df:List Deferred)(i:Nat):Act.eval ⟨t.toArray,df⟩ (.tmp i)=t.getD i undef:=by simp[Act.eval,List.getD]
theorem ec(t:Array Value)(df:List Deferred)(v:Value):Act.eval ⟨t,df⟩ (.const v)=v:=rfl
theorem sz{α:Type}(x y:α)(l:List α):(x::l).set 0 y=y::l:=rfl
theorem ss{α:Type}(x y:α)(l:List α)(n:Nat):(x::l).set (n+1) y=x::l.set n y:=rfl
theorem gz{α:Type}(x y:α)(l:List α):(x::l).getD 0 y=x:=rfl
theorem gs{α:Type}(x y:α)(l:List α)(n:Nat):(x::l).getD (n+1) y=l.getD n y:=rfl
theorem nmz:(∀(t:List Value)(df:List Deferred)(d:Nat)(v:Value),Act.put ⟨t.toArray,df⟩ (some d) v=⟨(t.set d v).toArray,df⟩)/\(∀(a:Act)(v:Value),Act.put a none v=a)/\(∀(t:List Value)(df:List Deferred)(i:Nat),Act.eval ⟨t.toArray,df⟩ (.tmp i)=t.getD i undef)/\
 (∀(t:Array Value)(df:List Deferred)(v:Value),Act.eval ⟨t,df⟩ (.const v)=v)/\(∀{α:Type}(x y:α)(l:List α),(x::l).set 0 y=y::l)/\(∀{α:Type}(x y:α)(l:List α)(n:Nat),(x::l).set (n+1) y=x::l.set n y)/\(∀{α:Type}(x y:α)(l:List α),(x::l).getD 0 y=x)/\
 (∀{α:Type}(x y:α)(l:List α)(n:Nat),(x::l).getD (n+1) y=l.getD n y)/\(∀{α:Type}{_:Decidable True}(t e:α),(if True then t else e)=t)/\(∀{α:Type}{_:Decidable False}(t e:α),(if False then t else e)=e)/\(∀{_:Decidable True}(t e:Prop),(if True then t else e)=t)/\(∀{_:Decidable False}(t e:Prop),(if False then t else e)=e)/\((false=true)=False)/\((!true)=false)/\((!false)=true)/\(∀n:Nat,n+0=n)/\(∀n:Nat,0+n=n):=
 ⟨pl,pn,el,ec,sz,ss,gz,gs,fun _ _=>if_true _ _,fun _ _=>if_false _ _,fun _ _=>if_true _ _,fun _ _=>if_false _ _,Bool.false_eq_true,Bool.not_true,Bool.not_false,Nat.add_zero,Nat.zero_add⟩
theorem zz2:(∀{α:Type}{β:Type}(a:α)(b:β)(x:List α)(y:List β),(a::x).zip (b::y)=(a,b)::x.zip y)/\(∀{α:Type}{β:Type}(l:List α),l.zip ([]:List β)=[]):=⟨fun _ _ _ _=>List.zip_cons_cons,fun _=>List.zip_nil_right⟩
theorem zz3:(∀{α:Type}{p:α->Prop}{a:α}{l:List α},(∀x,x∈a::l->p x)↔p a/\∀x,x∈l->p x)/\(∀{α:Type}{a:α},(¬a∈([]:List α)))/\(∀(p:Prop),(p/\True)=p):=⟨List.forall_mem_cons,List.not_mem_nil,and_true⟩
theorem zz4:(∀{α:Type}{β:Type}(f:α->β)(a:α)(l:List α),(a::l).map f=f a::l.map f)/\(∀{α:Type}{β:Type}(f:α->β),([]:List α).map f=[])/\(∀{α:Type}(x d:α)(l:List α),(x::l).getD 0 d=x)/\(∀{α:Type}(x d:α)(l:List α)(n:Nat),(x::l).getD (n+1) d=l.getD n d):=⟨fun _ _ _=>List.map_cons,fun _=>List.map_nil,fun _ _ _=>List.getD_cons_zero,fun _ _ _ _=>List.getD_cons_succ⟩
theorem zz5:(∀{α:Type}(x:List α)(i:Nat),x.toArray[i]?=x[i]?)/\(∀{α:Type}(x:Array α)(i:Nat)(d:α),x.getD i d=x[i]?.getD d)/\(∀{α:Type}(a:α)(x:List α)(i:Nat),(a::x)[i+1]?=x[i]?)/\(∀{α:Type}(a:α)(x:List α),(a::x)[0]?=some a)/\(∀{α:Type}(a b:α),(some a).getD b=a):=⟨fun _ _=>List.getElem?_toArray,fun _ _ _=>Array.getD_eq_getD_getElem?,fun _ _ _=>List.getElem?_cons_succ,fun _ _=>List.getElem?_cons_zero,fun _ _=>Option.getD_some⟩
def vbT:Value->Option Bool| .bool b=>some b|_=>none
def yvT:Option Tmp->List Value->Option Bool|none,_=>none|some d,t=>vbT (t.getD d undef)
def ltT:Value->Bool| .bool true=>true| .bool false=>true|_=>false
def tbT:Value->Bool| .bool b=>b|_=>false
def ptT:Value->Bool| .pointer (some _)=>true|_=>false
def p0T:Value->Bool| .pointer (some ⟨_,_,none⟩)=>true|_=>false
def fvT:Value->Option Nat->Value| .pointer (some ⟨b,o,_⟩),some k=>.pointer (some ⟨b,o+k,none⟩)|v,_=>v
theorem wpPi_eq{P:Program}{ops:Array Oper}{Q:Exit->Act->World->Prop}{S:World->Prop}{o:Oper}{r:List (Oper×Nat)}{a:Act}{w:World}{v:Value}(hw:Region.wanted o (yielded ops a.tmps)=true)(hv:∀w,(execOp a.eval o).run P w=.ok (.value v) w):wpPi P ops Q S ((o,3)::r) a w=wpPi P ops Q S r (a.put o.dst v) w:=
 propext (Iff.intro (fun⟨v',hy,h⟩=>by
  rcases hy with⟨_,hg⟩|⟨hn,_⟩
  ·rcases hg w trivial with h1|⟨f,args,h1,_⟩
   ·rw[hv]at h1;cases h1;exact h
   ·rw[hv]at h1;cases h1
  ·rw[hw]at hn;cases hn) (fun h=>qE hw hv h))
theorem wpPi_no{P:Program}{ops:Array Oper}{Q:Exit->Act->World->Prop}{S:World->Prop}{o:Oper}{r:List (Oper×Nat)}{a:Act}{w:World}(hw:Region.wanted o (yielded ops a.tmps)=false):wpPi P ops Q S ((o,3)::r) a w=wpPi P ops Q S r (a.put o.dst undef) w/\wpPi P ops Q S ((o,0)::r) a w=wpPi P ops Q S r (a.put o.dst undef) w:=by
 constructor
 all_goals
  refine propext (Iff.intro (fun h0=>?_) (fun h=>⟨_,.inr ⟨hw,rfl⟩,h⟩));obtain⟨v',hy,h⟩:=h0
  rcases hy with⟨h1,_⟩|⟨_,h1⟩
  ·rw[hw]at h1;cases h1
  ·rw[<-h1];exact h
section
variable{P:Program}{l:List Oper}{Q:Exit->Act->World->Prop}{S:World->Prop}{w:World}{r:List (Oper×Nat)}{d:Option Tmp}{ty:TypeId}{pos:String}{af:Array Edge}{g:Option (Nat×Bool)}{t:List Value}{df:List Deferred}
theorem yl_eq{j:Nat}:yielded l.toArray t.toArray j=yvT (l.getD j default).dst t:=by
 unfold yielded;rw[List.getElem?_toArray,List.getD_eq_getElem?_getD]
 cases h:l[j]? with
 |none=>rfl
 |some o=>
  simp only[Option.bind_some,Option.getD_some]
  cases o.dst with
  |none=>rfl
  |some d=>
   simp only[Option.bind_some,List.getElem?_toArray,yvT,List.getD_eq_getElem?_getD]
   cases t[d]? with
   |none=>rfl
   |some v=>cases v<;>rfl
theorem st1:∀(x:Operand),Region.wanted ⟨d,.move x,ty,pos,af,g⟩ (yielded l.toArray t.toArray)=true->wpPi P l.toArray Q S ((⟨d,.move x,ty,pos,af,g⟩,3)::r) ⟨t.toArray,df⟩ w=wpPi P l.toArray Q S r (Act.put ⟨t.toArray,df⟩ d (Act.eval ⟨t.toArray,df⟩ x)) w:=fun x h=>wpPi_eq h fun w=>(by unfold execOp;rfl)
theorem st2:∀(x:Operand),Region.wanted ⟨d,.assign x,ty,pos,af,g⟩ (yielded l.toArray t.toArray)=true->wpPi P l.toArray Q S ((⟨d,.assign x,ty,pos,af,g⟩,3)::r) ⟨t.toArray,df⟩ w=wpPi P l.toArray Q S r (Act.put ⟨t.toArray,df⟩ d (Act.eval ⟨t.toArray,df⟩ x)) w:=fun x h=>wpPi_eq h fun w=>(by unfold execOp;rfl)
theorem st3:∀(c x y:Operand),Region.wanted ⟨d,.pick c x y,ty,pos,af,g⟩ (yielded l.toArray t.toArray)=true->(vbT (Act.eval ⟨t.toArray,df⟩ c)).isSome=true->wpPi P l.toArray Q S ((⟨d,.pick c x y,ty,pos,af,g⟩,3)::r) ⟨t.toArray,df⟩ w=wpPi P l.toArray Q S r (Act.put ⟨t.toArray,df⟩ d (if tbT (Act.eval ⟨t.toArray,df⟩ c)then Act.eval ⟨t.toArray,df⟩ x else Act.eval ⟨t.toArray,df⟩ y)) w:=fun c x y h hc=>by
 revert hc;cases e:Act.eval ⟨t.toArray,df⟩ c<;>intro hc<;>first|contradiction|(refine wpPi_eq h fun w=>?_;unfold execOp;simp only[e,tbT];rename_i b;cases b<;>simp[asBool])
theorem st4:∀(x:Operand),Region.wanted ⟨d,.nilCheck x,ty,pos,af,g⟩ (yielded l.toArray t.toArray)=true->ptT (Act.eval ⟨t.toArray,df⟩ x)=true->wpPi P l.toArray Q S ((⟨d,.nilCheck x,ty,pos,af,g⟩,3)::r) ⟨t.toArray,df⟩ w=wpPi P l.toArray Q S r (Act.put ⟨t.toArray,df⟩ d (Act.eval ⟨t.toArray,df⟩ x)) w:=fun x h hx=>by
 revert hx;cases e:Act.eval ⟨t.toArray,df⟩ x<;>intro hx<;>first|contradiction|(rename_i p;cases p<;>first|contradiction|(refine wpPi_eq h fun w=>?_;unfold execOp;simp only[e];rfl))
theorem st5:∀(s f:Nat)(x:Operand),Region.wanted ⟨d,.fieldAddr s x f,ty,pos,af,g⟩ (yielded l.toArray t.toArray)=true->p0T (Act.eval ⟨t.toArray,df⟩ x)=true->(qW P s f).isSome=true->wpPi P l.toArray Q S ((⟨d,.fieldAddr s x f,ty,pos,af,g⟩,3)::r) ⟨t.toArray,df⟩ w=wpPi P l.toArray Q S r (Act.put ⟨t.toArray,df⟩ d (fvT (Act.eval ⟨t.toArray,df⟩ x) (qW P s f))) w:=fun s f x h hx hf=>by
 obtain⟨k,hk⟩:=Option.isSome_iff_exists.1 hf;rw[hk]
 revert hx;cases e:Act.eval ⟨t.toArray,df⟩ x<;>intro hx<;>first|contradiction|(rename_i p;cases p<;>first|contradiction|(rename_i q;obtain⟨b,o,z⟩:=q;cases z<;>first|contradiction|(refine wpPi_eq h fun w=>?_;unfold execOp;simp only[e,Sem.run_bind,run_fieldAt hk,Result.andThen_ok,Sem.run_pure];rfl)))
theorem st6:∀(u:TypeId)(x:Operand),Region.wanted ⟨d,.unOp .not u x,ty,pos,af,g⟩ (yielded l.toArray t.toArray)=true->ltT (Act.eval ⟨t.toArray,df⟩ x)=true->wpPi P l.toArray Q S ((⟨d,.unOp .not u x,ty,pos,af,g⟩,3)::r) ⟨t.toArray,df⟩ w=wpPi P l.toArray Q S r (Act.put ⟨t.toArray,df⟩ d (.bool (!tbT (Act.eval ⟨t.toArray,df⟩ x)))) w:=fun u x h hx=>by
 revert hx;cases e:Act.eval ⟨t.toArray,df⟩ x<;>intro hx<;>first|contradiction|(refine wpPi_eq h fun w=>?_;unfold execOp;simp[e,tbT,Op.unary])
theorem st7:∀(op:Op)(g:Nat×Bool),Region.wanted ⟨d,op,ty,pos,af,some g⟩ (yielded l.toArray t.toArray)=false->wpPi P l.toArray Q S ((⟨d,op,ty,pos,af,some g⟩,3)::r) ⟨t.toArray,df⟩ w=wpPi P l.toArray Q S r (Act.put ⟨t.toArray,df⟩ d undef) w:=fun op g h=>(wpPi_no h).1
theorem st8:∀(op:Op)(g:Nat×Bool),Region.wanted ⟨d,op,ty,pos,af,some g⟩ (yielded l.toArray t.toArray)=false->wpPi P l.toArray Q S ((⟨d,op,ty,pos,af,some g⟩,0)::r) ⟨t.toArray,df⟩ w=wpPi P l.toArray Q S r (Act.put ⟨t.toArray,df⟩ d undef) w:=fun op g h=>(wpPi_no h).2
theorem st9:∀(a:Act),wpPi P l.toArray Q S [] a w=Q .normal a w:=fun a=>rfl
end
theorem stq:(∀(d:Option Tmp)(op:Op)(ty:TypeId)(pos:String)(af:Array Edge)(y:Nat->Option Bool),Region.wanted ⟨d,op,ty,pos,af,none⟩ y=true)/\(∀(d:Option Tmp)(op:Op)(ty:TypeId)(pos:String)(af:Array Edge)(y:Nat->Option Bool)(j:Nat)(b:Bool),Region.wanted ⟨d,op,ty,pos,af,some (j,b)⟩ y=(y j==some b))/\(∀(l:List Oper)(t:List Value)(j:Nat),yielded l.toArray t.toArray j=yvT (l.getD j default).dst t)/\(∀(t:List Value)(d:Tmp),yvT (some d) t=vbT (t.getD d undef))/\(∀b,vbT (.bool b)=some b)/\((some true==some true)=true)/\((some false==some false)=true)/\((some true==some false)=false)/\((some false==some true)=false)/\(∀b,tbT (.bool b)=b)/\(ltT (.bool true)=true)/\(ltT (.bool false)=true)/\(∀p,ptT (.pointer (some p))=true)/\(∀b o,p0T (.pointer (some ⟨b,o,none⟩))=true)/\(∀b o k,fvT (.pointer (some ⟨b,o,none⟩)) (some k)=.pointer (some ⟨b,o+k,none⟩))/\(∀{α:Type}(a:α),(some a).isSome=true):=
 ⟨fun _ _ _ _ _ _=>rfl,fun _ _ _ _ _ _ _ _=>rfl,fun _ _ _=>yl_eq,fun _ _=>rfl,fun _=>rfl,rfl,rfl,rfl,rfl,fun _=>rfl,rfl,rfl,fun _=>rfl,fun _ _=>rfl,fun _ _ _=>rfl,fun _=>rfl⟩
theorem fos:(qW prog 142 0=some 0)/\(qW prog 142 1=some 32)/\(qW prog 150 0=some 0)/\(qW prog 150 1=some 35)/\(qW prog 150 2=some 36)/\(qW prog 152 0=some 0)/\(qW prog 163 0=some 0)/\(qW prog 163 1=some 1)/\(qW prog 163 2=some 2)/\(qW prog 163 3=some 37)/\(qW prog 163 4=some 38)/\(qW prog 170 0=some 0)/\(qW prog 225 0=some 0)/\(qW prog 225 1=some 32)/\(qW prog 255 0=some 0)/\(qW prog 307 0=some 0)/\(qW prog 307 1=some 1)/\(qW prog 320 0=some 0)/\(qW prog 322 0=some 0)/\(qW prog 322 1=some 1)/\(qW prog 322 2=some 2)/\(qW prog 331 0=some 0)/\(qW prog 331 1=some 8)/\(qW prog 331 2=some 9)/\(qW prog 344 0=some 0)/\(qW prog 344 1=some 1)/\(qW prog 344 2=some 2)/\(qW prog 351 0=some 0)/\(qW prog 351 1=some 1)/\(qW prog 351 2=some 2)/\(qW prog 46 0=some 0)/\(qW prog 46 1=some 1)/\(qW prog 46 2=some 33)/\(qW prog 46 3=some 34)/\(qW prog 48 0=some 0)/\(qW prog 48 1=some 1)/\(qW prog 48 2=some 36)/\(qW prog 48 3=some 71)/\(qW prog 48 4=some 106)/\(qW prog 89 0=some 0)/\(qW prog 89 1=some 1)/\(qW prog 89 2=some 2)/\(qW prog 95 0=some 0)/\(qW prog 95 1=some 1)/\(qW prog 95 2=some 2)/\(qW prog 95 3=some 3):=by
 refine⟨?_,?_,?_,?_,?_,?_,?_,?_,?_,?_,?_,?_,?_,?_,?_,?_,?_,?_,?_,?_,?_,?_,?_,?_,?_,?_,?_,?_,?_,?_,?_,?_,?_,?_,?_,?_,?_,?_,?_,?_,?_,?_,?_,?_,?_,?_⟩<;>kernel_rfl
theorem stz:(type_of% @st1)/\(type_of% @st2)/\(type_of% @st3)/\(type_of% @st4)/\(type_of% @st5)/\(type_of% @st6)/\(type_of% @st7)/\(type_of% @st8)/\(type_of% @st9)/\(type_of% @stq)/\(type_of% @fos)/\(type_of% @nmz)/\(type_of% @zz2)/\(type_of% @zz4):=⟨@st1, @st2, @st3, @st4, @st5, @st6, @st7, @st8, @st9, @stq, @fos, @nmz, @zz2, @zz4⟩
theorem jJ(w:World)(o:Obj):Mod NoB w (w.alloc o):=(Mod.refl _ _).alloc _
section
variable{P:Program}{o:Oper}{a:Act}{w:World}{K:Act->World->Prop}{Q:Exit->Act->World->Prop}
theorem zT(elem:TypeId)(x:Operand)(v:Value)(ho:o.op=.box elem x)(hx:a.eval x=v)
 (h:∀w',w'.heap[w.heap.size]?=some (.cells v.cells elem (0,0))->Mod NoB w w'->w.heap.size<w'.heap.size->K (a.put o.dst (.pointer (some ⟨w.heap.size,0,none⟩))) w'):o.wp P a w K Q:=by
 unfold Oper.wp execOp;simp only[ho,hx]
 have hr:(Instr.box elem v).run P w=.ok (.pointer (some ⟨w.heap.size,0,none⟩)) (w.alloc (.cells v.cells elem)):=by
  simp[Instr.box,newVar,newRow]
 simp only[Sem.run_bind,hr,Result.andThen_ok,Sem.run_pure];exact h _ (heap_alloc_new _ _) (jJ _ _) (by simp)
theorem qP(elem:TypeId)(z:Value)(ho:o.op=.alloc elem)(hz:(P.info? elem).bind (·.zero)=some z)
 (h:∀w',w'.heap[w.heap.size]?=some (.cells z.cells elem (0,0))->Mod NoB w w'->w.heap.size<w'.heap.size->K (a.put o.dst (.pointer (some ⟨w.heap.size,0,none⟩))) w'):o.wp P a w K Q:=by
 unfold Oper.wp execOp;simp only[ho]
 cases hi:P.info? elem with
 |none=>simp[hi]at hz
 |some i=>
  simp only[hi,Option.bind_some]at hz
  have hr:(Instr.alloc elem true (.tuple #[])).run P w=.ok (.pointer (some ⟨w.heap.size,0,none⟩)) (w.alloc (.cells z.cells elem)):=by
   simp[Instr.alloc,zeroValue,typeInfo,hi,hz,newVar,newRow]
  simp only[Sem.run_bind,hr,Result.andThen_ok,Sem.run_pure];exact h _ (heap_alloc_new _ _) (jJ _ _) (by simp)
theorem zG(t e:TypeId)(ho:o.op=.buildSlice t 0 #[])(hu:P.underlying t=some (.slice e))(hi:(P.info? e).isSome=true)
 (h:∀w',w'.heap[w.heap.size]?=some (.cells #[] e (0,0))->Mod NoB w w'->w.heap.size<w'.heap.size->K (a.put o.dst (.slice (some ⟨w.heap.size,0,none⟩) 0 0)) w'):o.wp P a w K Q:=by
 unfold Oper.wp execOp;simp only[ho]
 cases hi':P.info? e with
 |none=>simp[hi']at hi
 |some i=>
  have hr:(Instr.buildSlice t 0 (Array.map (fun(x:Nat×Operand)=>(x.1,a.eval x.2)) #[])).run P w=.ok (.slice (some ⟨w.heap.size,0,none⟩) 0 0) (w.alloc (.cells #[] e)):=by
   simp[Instr.buildSlice,run_underlying hu,sizeOf,typeInfo,hi',Instr.fill,newRow]
   rw[show Array.range 0=#[]from Array.eq_empty_of_size_eq_zero (by simp),Array.map_empty]
  simp only[Sem.run_bind,hr,Result.andThen_ok,Sem.run_pure];exact h _ (heap_alloc_new _ _) (jJ _ _) (by simp)
theorem foldl_set_tail:∀(l:List Value)(k:Nat)(pre:List Value)(old tail:List Value),pre.length=k->old.length=l.length->
 (l.zipIdx k).foldl (fun(cs:Array Value)(x:Value×Nat)=>cs.setIfInBounds x.2 x.1) (pre++(old++tail)).toArray=(pre++(l++tail)).toArray
 | [],k,pre,old,tail,_,ho=>by
  have:old=[]:=List.eq_nil_of_length_eq_zero (by simpa using ho)
  simp[this]
 |v::l,k,pre,old,tail,hp,ho=>by
  match old,ho with
  |u::old,ho=>
   rw[List.zipIdx_cons,List.foldl_cons]
   have e:(pre++(u::old++tail)).toArray.setIfInBounds k v=((pre++[v])++(old++tail)).toArray:=by
    subst hp
    simp
   rw[e,foldl_set_tail l (k+1) (pre++[v]) old tail (by simp[hp]) (by simpa using ho)]
   simp
theorem foldl_set_all(l:List Value)(k:Nat)(pre:List Value)(old:List Value)(hp:pre.length=k)(ho:old.length=l.length):
 (l.zipIdx k).foldl (fun(cs:Array Value)(x:Value×Nat)=>cs.setIfInBounds x.2 x.1) (pre++old).toArray=(pre++l).toArray:=by
 simpa using foldl_set_tail l k pre old [] hp ho
theorem qU(t e:TypeId)(x:Operand)(v:Value)(z:Value)(n:Nat)(ho:o.op=.buildSlice t 1 #[(0,x)])(hx:a.eval x=v)(hu:P.underlying t=some (.slice e))
 (hi:(P.info? e).map (fun i=>(i.zero,i.size))=some (some z,n))(hn:0<n)(hn':n<=16777216)(hv:v.cells.size=n)
 (h:∀w',w'.heap[w.heap.size]?=some (.cells v.cells e (0,0))->Mod NoB w w'->w.heap.size<w'.heap.size->K (a.put o.dst (.slice (some ⟨w.heap.size,0,none⟩) 1 1)) w'):o.wp P a w K Q:=by
 unfold Oper.wp execOp;simp only[ho]
 cases hi':P.info? e with
 |none=>simp[hi']at hi
 |some i=>
  simp only[hi',Option.map_some,Option.some.injEq,Prod.mk.injEq]at hi;obtain⟨hz0,hz1⟩:=hi
  have hr:(Instr.buildSlice t 1 (Array.map (fun x=>(x.1,a.eval x.2)) #[(0,x)])).run P w=.ok (.slice (some ⟨w.heap.size,0,none⟩) 1 1) (w.alloc (.cells v.cells e)):=by
   have hf:(v.cells.zipIdx.foldl (fun(cs:Array Value)(x:Value×Nat)=>cs.setIfInBounds x.2 x.1) (Array.map (fun x=>z.cells[x%z.cells.size]!) (Array.range n)))=v.cells:=by
    have:=foldl_set_all v.cells.toList 0 [] (Array.map (fun x=>z.cells[x%z.cells.size]!) (Array.range n)).toList rfl (by simp[hv])
    simp only[List.nil_append,Array.toArray_toList]at this;rw[<-Array.foldl_toList,Array.toList_zipIdx];exact this
   have hf':=hf;rw[<-Array.foldl_toList,Array.toList_zipIdx]at hf'
   simp[Instr.buildSlice,run_underlying hu,sizeOf,typeInfo,hi',hz1,zeroValue,hz0,Nat.not_lt.2 hn',Nat.pos_iff_ne_zero.1 hn,Instr.fill,hx,hv,newRow]
   congr 2
   rw[<-hv]at hf |-;have hsz:v.cells.zipIdx.size=v.cells.size:=by simp
   rw[hsz]at hf;exact hf
  simp only[Sem.run_bind,hr,Result.andThen_ok,Sem.run_pure];exact h _ (heap_alloc_new _ _) (jJ _ _) (by simp)
theorem qT(ty:TypeId)(p x:Operand)(b off:Nat)(v:Value)(ho:o.op=.store ty p x)(hp:a.eval p=.pointer (some ⟨b,off,none⟩))(hx:a.eval x=v)(h1:v.oneCell'=true)
 (hs:(P.info? ty).map (·.size)=some 1)(cur:Array Value)(T:TypeId)(hb:w.heap[b]?=some (.cells cur T (0,0)))(hoff:off<cur.size)
 (h:∀w',w'.heap[b]?=some (.cells (cur.setIfInBounds off v) T (0,0))->Mod (fun k=>k=b) w w'->K (a.put o.dst undef) w'):o.wp P a w K Q:=by
 unfold Oper.wp execOp;simp only[ho,hp,hx]
 have hsz:(sizeOf ty).run P w=.ok 1 w:=by
  cases hq:P.info? ty with
  |none=>simp[hq]at hs
  |some i=>simp[hq]at hs;simp[sizeOf,typeInfo,hq,hs]
 have hc:v.cells=#[v]:=by cases v<;>simp_all [Value.cells,Value.oneCell']
 have hr:(Instr.storeAt ty (.pointer (some ⟨b,off,none⟩)) v).run P w=.ok () (w.setCell ⟨b,off,none⟩ v):=by
  have hcell:w.cell? ⟨b,off,none⟩=some cur[off]:=by simp[World.cell?,hb,hoff]
  have hfro:w.frozen? ⟨b,off,none⟩=false:=by simp[World.frozen?,hb]
  simp[Instr.storeAt,Instr.sureAddr,storeVar,hsz,hc,storeCells,run_store,h1,hcell,hfro,Addr.add]
 simp only[Sem.run_bind,hr,Result.andThen_ok,Sem.run_pure];refine h _ ?_ (Mod.setCell (S:=fun k=>k=b) (Mod.refl _ _) (fun _=>rfl) v)
 simp[World.setCell,hb,Array.getElem?_modify]
def qZ(cur:Array Value)(off:Nat)(cs:Array Value):Array Value:=(cur.toList.take off++cs.toList++cur.toList.drop (off+cs.size)).toArray
theorem yC{cur:Array Value}{off:Nat}{cs:Array Value}(h:off+cs.size<=cur.size):(qZ cur off cs).size=cur.size:=by
 simp[qZ];omega
theorem qC{cur cs:Array Value}(h:cs.size=cur.size):qZ cur 0 cs=cs:=by
 apply Array.toList_inj.1
 simp only[qZ,List.take_zero,List.nil_append,Nat.zero_add];rw[List.drop_eq_nil_of_le (by simp[h])]
 simp
theorem qF(ty:TypeId)(p x:Operand)(b off:Nat)(cs:Array Value)(ho:o.op=.store ty p x)(hp:a.eval p=.pointer (some ⟨b,off,none⟩))(hx:a.eval x=.agg cs)(h1:∀c∈cs,c.oneCell'=true)
 (n:Nat)(hs:(P.info? ty).map (·.size)=some n)(hn:cs.size=n)(cur:Array Value)(T:TypeId)(hb:w.heap[b]?=some (.cells cur T (0,0)))(hoff:off+cs.size<=cur.size)
 (h:∀w',w'.heap[b]?=some (.cells (qZ cur off cs) T (0,0))->Mod (fun k=>k=b) w w'->K (a.put o.dst undef) w'):o.wp P a w K Q:=by
 unfold Oper.wp execOp;simp only[ho,hp,hx]
 have hsz:(sizeOf ty).run P w=.ok n w:=by
  cases hq:P.info? ty with
  |none=>simp[hq]at hs
  |some i=>simp[hq]at hs;simp[sizeOf,typeInfo,hq,hs]
 have hr:(Instr.storeAt ty (.pointer (some ⟨b,off,none⟩)) (.agg cs)).run P w=.ok () (w.setRow b (qZ cur off cs)):=by
  have:=run_storeCells_at P b off T cs.toList 0 cur w hb (by simpa using hoff) (fun v hv=>h1 v (by simpa using hv));simp only[Nat.add_zero,Array.length_toList]at this
  simp[Instr.storeAt,Instr.sureAddr,storeVar,hsz,hn,Value.cells,this,qZ]
 simp only[Sem.run_bind,hr,Result.andThen_ok,Sem.run_pure];refine h _ (setRow_heap w b cur _ T _ hb) ⟨rfl,rfl,rfl,by simp,fun k _ hk=>setRow_other w b k _ (fun e=>hk e)⟩
end
def Src(w:World)(sz:Nat)(u:Value)(m:Nat)(news:List Value):Prop:=
 news.length=m*sz/\∃ad c,u=.slice ad m c/\(m≠0->∃b off,ad=some ⟨b,off,none⟩/\∀j x,news[j]?=some x->w.cell? ⟨b,off+j,none⟩=some x)
theorem flat_get{sz:Nat}:∀(css:List (Array Value))(i:Nat)(hic:i<css.length),(∀c∈css,c.size=sz)->∀j,j<sz->(css.flatMap Array.toList)[i*sz+j]?=css[i][j]?
 |c::css,0,_,hs,j,hj=>by
  have hc:c.toList.length=sz:=by simpa using hs c (by simp)
  simp only[List.flatMap_cons,Nat.zero_mul,Nat.zero_add,List.getElem_cons_zero];rw[List.getElem?_append_left (by omega)];simp
 |c::css,i+1,hic,hs,j,hj=>by
  have hc:c.toList.length=sz:=by simpa using hs c (by simp)
  simp only[List.flatMap_cons,List.getElem_cons_succ]
  rw[List.getElem?_append_right (by rw[hc,Nat.succ_mul];omega),hc,show(i+1)*sz+j-sz=i*sz+j by rw[Nat.succ_mul];omega]
  exact flat_get css i (by simpa using hic) (fun c hc=>hs c (by simp[hc])) j hj
theorem flat_len{sz:Nat}:∀(css:List (Array Value)),(∀c∈css,c.size=sz)->(css.flatMap Array.toList).length=css.length*sz
 | [],_=>by simp
 |c::css,hs=>by
  have hc:c.size=sz:=hs c (by simp)
  simp[flat_len css (fun c h=>hs c (by simp[h])),hc,Nat.add_mul];omega
theorem Sl.src{α:Type}{own:Bool}{w:World}{G:Nat->Prop}{sz:Nat}{R:Array Value->α->Prop}{v:Value}{l:List α}(h:Sl own w G sz R v l)(hz:0<sz):
 ∃css,All2 R css l/\(∀c∈css,c.size=sz)/\Src w sz v l.length (css.flatMap Array.toList):=by
 obtain⟨a,cap,rfl,hl,hc,h⟩:=h
 by_cases hne:l=[]
 ·subst hne
  exact⟨[],All2.nil,by simp,by simp,a,cap,rfl,fun h=>absurd rfl h⟩
 ·obtain⟨b,off,ha,_,_,h⟩:=h hne
  have key:∀k,k<=l.length->∃css:List (Array Value),css.length=k/\(∀i (hi:i<css.length)(hi':i<l.length),R css[i] l[i])/\(∀c∈css,c.size=sz)/\(∀i (hi:i<css.length),CellsAt w b (off+i*sz) css[i]):=by
   intro k
   induction k with
   |zero=>intro _;exact⟨[],rfl,fun i hi=>by simp at hi,by simp,fun i hi=>by simp at hi⟩
   |succ k ih=>
    intro hk;obtain⟨css,h1,h2,h3,h4⟩:=ih (by omega);obtain⟨cs,hs,hR,hcs⟩:=h k (by omega)
    have hlast:∀(i:Nat)(hi:i<(css++[cs]).length),i=k->(css++[cs])[i]=cs:=fun i hi e=>by subst e;subst h1;simp
    refine⟨css++[cs],by simp[h1],fun i hi hi'=>?_,fun c hc=>?_,fun i hi=>?_⟩
    ·by_cases hik:i<css.length
     ·rw[List.getElem_append_left hik];exact h2 i hik hi'
     ·have e:i=k:=by simp at hi;omega
      rw[hlast i hi e];subst e;exact hR
    ·rcases List.mem_append.1 hc with hc|hc
     ·exact h3 c hc
     ·have:c=cs:=by simpa using hc
      rw[this,hs]
    ·by_cases hik:i<css.length
     ·rw[List.getElem_append_left hik];exact h4 i hik
     ·have e:i=k:=by simp at hi;omega
      rw[hlast i hi e,e];exact hcs
  obtain⟨css,h1,h2,h3,h4⟩:=key l.length (Nat.le_refl _);refine⟨css,⟨h1,h2⟩,h3,by rw[flat_len css h3,h1],a,cap,rfl,fun _=>⟨b,off,ha,fun j x hj=>?_⟩⟩
  have hjl:j<(css.flatMap Array.toList).length:=by
   rcases Nat.lt_or_ge j (css.flatMap Array.toList).length with h|h
   ·exact h
   ·rw[List.getElem?_eq_none h]at hj;cases hj
  rw[flat_len css h3]at hjl;have hi:j/sz<css.length:=Nat.div_lt_of_lt_mul (by rw[Nat.mul_comm];exact hjl);have hm:j%sz<sz:=Nat.mod_lt _ hz
  have e:j/sz*sz+j%sz=j:=by rw[Nat.mul_comm];exact Nat.div_add_mod j sz
  have hg:=flat_get css (j/sz) hi h3 (j%sz) hm;rw[e,hj]at hg;have:=(h4 (j/sz) hi).cell hg.symm;rw[<-this,Nat.add_assoc,e]
section
variable{P:Program}{o:Oper}{a:Act}{w:World}{K:Act->World->Prop}{Q:Exit->Act->World->Prop}
theorem wp_append(s x:Operand)(t e:TypeId)(z:Value)(size bytes:Nat)
 (ho:o.op=.call { callee:=.builtin .append,args:=#[s,x],argTypes:=#[t,t] })(ht:P.underlying t=some (.slice e))
 (hi:(P.info? e).map (fun i=>(i.zero,i.size,i.bytes))=some (some z,size,bytes))(hzs:z.cells.size=size)(hsz:0<size)
 (base:Nat)(v:Value)(n:Nat)(xs:List Value)(hs:a.eval s=v)(hown:w.ownsRow base e size v n xs)
 (u:Value)(m:Nat)(news:List Value)(hx:a.eval x=u)(hsrc:Src w size u m news)(h1:∀c∈news,c.oneCell'=true)
 (h63:n+m<=maxLen)(hbytes:(n+m)*bytes<=140737488355328)(hbase:base<=w.heap.size)
 (h:∀v' w',w'.ownsRow base e size v' (n+m) (xs++news)->w.grownBy w' v.ownBlock->(v'.ownBlock=v.ownBlock\/v'.ownBlock=some w.heap.size)->K (a.put o.dst v') w'):o.wp P a w K Q:=by
 obtain⟨i,hi0,hi1,hi2,hi3⟩:=info_parts hi;obtain⟨hl,ad,c,rfl,hsrc⟩:=hsrc
 by_cases hm:m=0
 ·subst hm
  have hn0:news=[]:=List.eq_nil_of_length_eq_zero (by simpa using hl);subst hn0
  have hr:(Builtin.append_ #[t,t] o.type #[v,.slice ad 0 c]).run P w=.ok v w:=by
   rcases hown.2 with⟨rfl,rfl⟩|⟨g,cap,cur,rfl,hb,hg,hc,hm,hcs,htk⟩
   ·cases ad<;>simp[Builtin.append_,run_underlying ht,sizeOf,typeInfo,hi0,Builtin.lenOf,Builtin.firstCells,loadCells,loadCellsFrom]
   ·cases ad<;>simp[Builtin.append_,run_underlying ht,sizeOf,typeInfo,hi0,Builtin.lenOf,Builtin.firstCells,loadCells,loadCellsFrom,hc,storeCells]
  unfold Oper.wp execOp;simp only[ho,resolve,invoke,builtin,Sem.run_bind,Sem.run_pure,Result.andThen_ok,List.map_toArray,List.map_cons,List.map_nil,hs,hx,hr]
  exact h v w (by simpa using hown) ⟨rfl,rfl,rfl,Nat.le_refl _,fun _ _ _=>rfl⟩ (.inl rfl)
 ·obtain⟨b,off,rfl,hc⟩:=hsrc hm
  obtain⟨v',w',hr,h2,h3,_,h5⟩:=run_append_own_at (P:=P) w base t o.type e i z size bytes ht hi0 hi1 hi2 hi3 hzs hsz v n xs hown ⟨b,off,none⟩ m c news hl (fun j y hy=>by
   have hadd:(⟨b,off,none⟩:Addr).add j=⟨b,off+j,none⟩:=by unfold Addr.add;split<;>simp_all
   rw[hadd];exact hc j y hy) h1 h63 hbytes hbase
  unfold Oper.wp execOp;simp only[ho,resolve,invoke,builtin,Sem.run_bind,Sem.run_pure,Result.andThen_ok,List.map_toArray,List.map_cons,List.map_nil,hs,hx,hr]
  exact h v' w' h2 h3 h5
theorem xH{w:World}{b e size:Nat}(base:Nat)(hb:w.heap[b]?=some (.cells #[] e (0,0)))(h:base<=b):w.ownsRow base e size (.slice (some ⟨b,0,none⟩) 0 0) 0 []:=
 ⟨by simp,.inr ⟨b,0,#[],rfl,h,hb,Nat.le_refl _,Nat.zero_le _,by simp,by simp⟩⟩
end
theorem yS{P:Program}{o:Oper}{a:Act}{w:World}{K:Act->World->Prop}{Q:Exit->Act->World->Prop}{v:Value}(h:(execOp a.eval o).run P w=.ok (.value v) w)(k:K (a.put o.dst v) w):o.wp P a w K Q:=by
 unfold Oper.wp;rw[h];exact k
def New(w w':World):Nat->Prop:=fun k=>w.heap.size<=k/\k<w'.heap.size
theorem byteC_one{cs:Array Value}{x:UInt8}(h:ByteC cs x):∀c∈cs,c.oneCell'=true:=by subst h;simp[byteV,Value.oneCell']
theorem qR(x:List UInt8):∀c∈qA x,c.oneCell'=true:=by
 intro c hc;simp only[qA,List.mem_toArray,List.mem_map]at hc;obtain⟨b,_,rfl⟩:=hc
 rfl
theorem all2_one{α:Type}{R:Array Value->α->Prop}{css:List (Array Value)}{l:List α}(h:All2 R css l)(h1:∀cs x,R cs x->∀c∈cs,c.oneCell'=true):∀c∈css.flatMap Array.toList,c.oneCell'=true:=by
 intro c hc;obtain⟨cs,hcs,hc⟩:=List.mem_flatMap.1 hc;obtain⟨i,hi,rfl⟩:=List.getElem_of_mem hcs;exact h1 _ _ (h.2 i hi (h.1▸hi)) c (by simpa using hc)
theorem wpDo{P:Program}{ops:Array Oper}{Q:Exit->Act->World->Prop}{o:Oper}{r:List (Oper×Nat)}{a:Act}{w:World}(hg:Region.wanted o (yielded ops a.tmps)=true)(h:o.wp P a w (wpPi P ops Q (fun _=>True) r) Q):wpPi P ops Q (fun _=>True) ((o,1)::r) a w:=qM hg fun K hK=>Oper.wp_mono (fun a' w' k=>hK a' w' trivial k) h
theorem wpR{P:Program}{Q:Exit->Act->World->Prop}{id:Nat}{a:Act}{w:World}{l:List Oper}(p:List Nat)(h:wpPi P l.toArray Q (fun _=>True) (l.zip p) a w)(hl:p.length=l.length:=by rfl)(hp:(p.all (·!=2))=true:=by rfl):(Code.region id l.toArray false).wp P Q a w:=wp_region_seq p (fun _=>True) hl hp trivial h
theorem wpX{P:Program}{ops:Array Oper}{Q:Exit->Act->World->Prop}{S:World->Prop}{o:Oper}{r:List (Oper×Nat)}{a:Act}{w:World}{v:Value}(hg:Region.wanted o (yielded ops a.tmps)=true)(h:(execOp a.eval o).run P w=.ok (.value v) w)(hS:S w)(k:wpPi P ops Q S r (a.put o.dst v) w):wpPi P ops Q S ((o,1)::r) a w:=qM hg fun K hK=>yS h (hK _ _ hS k)
section
variable{P:Program}{ops:Array Oper}{Q:Exit->Act->World->Prop}{S:World->Prop}{o:Oper}{r:List (Oper×Nat)}{a:Act}{w:World}{v:Value}{x:Operand}{d:TypeDesc}
theorem wpLd(ty:TypeId)(b off:Nat)(hc:∀w,S w->w.cell? ⟨b,off,none⟩=some v)(hu:P.underlying ty=some d)(h:wpPi P ops Q S r (a.put o.dst v) w)(hw:Region.wanted o (yielded ops a.tmps)=true:=by rfl)(ho:o.op=.load ty x:=by rfl)(hx:a.eval x=.pointer (some ⟨b,off,none⟩):=by rfl)
 (hd:(match d with| .struct _| .array _ _=>true|_=>false)=false:=by rfl):wpPi P ops Q S ((o,0)::r) a w:=qQ hw (fun w hS=>xO ty x ho b off hx v (hc w hS) d hu hd) h
theorem wpLA(ty:TypeId)(b off:Nat)(cs:Array Value)(hc:∀w,S w->CellsAt w b off cs)(hu:P.underlying ty=some d)(n:Nat)(hn:cs.size=n)(h:wpPi P ops Q S r (a.put o.dst (.agg cs)) w)(hw:Region.wanted o (yielded ops a.tmps)=true:=by rfl)(ho:o.op=.load ty x:=by rfl)(hx:a.eval x=.pointer (some ⟨b,off,none⟩):=by rfl)
 (hd:(match d with| .struct _| .array _ _=>true|_=>false)=true:=by rfl)(hi:(P.info? ty).map (·.size)=some n:=by kernel_rfl):wpPi P ops Q S ((o,0)::r) a w:=qQ hw (fun w hS=>exec_loadA ty x ho b off hx cs (hc w hS) d hu hd n hi hn) h
theorem wpXd(ty:TypeId)(b off:Nat)(hc:w.cell? ⟨b,off,none⟩=some v)(hu:P.underlying ty=some d)(hS:S w)(h:wpPi P ops Q S r (a.put o.dst v) w)(hw:Region.wanted o (yielded ops a.tmps)=true:=by rfl)(ho:o.op=.load ty x:=by rfl)(hx:a.eval x=.pointer (some ⟨b,off,none⟩):=by rfl)
 (hd:(match d with| .struct _| .array _ _=>true|_=>false)=false:=by rfl):wpPi P ops Q S ((o,1)::r) a w:=wpX hw (xO ty x ho b off hx v hc d hu hd) hS h
theorem wpXA(ty:TypeId)(b off:Nat)(cs:Array Value)(hc:CellsAt w b off cs)(hu:P.underlying ty=some d)(n:Nat)(hn:cs.size=n)(hS:S w)(h:wpPi P ops Q S r (a.put o.dst (.agg cs)) w)(hw:Region.wanted o (yielded ops a.tmps)=true:=by rfl)(ho:o.op=.load ty x:=by rfl)(hx:a.eval x=.pointer (some ⟨b,off,none⟩):=by rfl)
 (hd:(match d with| .struct _| .array _ _=>true|_=>false)=true:=by rfl)(hi:(P.info? ty).map (·.size)=some n:=by kernel_rfl):wpPi P ops Q S ((o,1)::r) a w:=wpX hw (exec_loadA ty x ho b off hx cs hc d hu hd n hi hn) hS h
theorem wpRP{id:Nat}{l:List Oper}(p:List (Nat×Nat))(tl:List Nat)(S:World->Prop)(hS:S w.drew)(h:wpPi P l.toArray Q S (p.map fun x=>(l.getD x.1 default,x.2)) a w.drew)(hm:P.follows .mixedOrders=true:=by kernel_rfl)(hs:Region.noSelect l.toArray=true:=by kernel_rfl)
 (hl:p.length=l.toArray.size:=by kernel_rfl)(hp:piOk .any l.toArray tl p (Array.replicate l.toArray.size false)=true:=by kernel_rfl)(hQ:xQ Q:=by exact fun _ _ _ _ hd h=>⟨hd.trans h.1,h.2⟩):(Code.region id l.toArray true).wp P Q a w:=zK p tl S hm hs hl hp hQ hS h
end
theorem wpD{P:Program}{ops:Array Oper}{Q:Exit->Act->World->Prop}{o:Oper}{r:List (Oper×Nat)}{a:Act}{w:World}(h:o.wp P a w (wpPi P ops Q (fun _=>True) r) Q)(hg:Region.wanted o (yielded ops a.tmps)=true:=by rfl):wpPi P ops Q (fun _=>True) ((o,1)::r) a w:=wpDo hg h
section
variable{P:Program}{ops:Array Oper}{Q:Exit->Act->World->Prop}{S:World->Prop}{o:Oper}{r:List (Oper×Nat)}{a:Act}{w:World}{x y:Operand}{t e:TypeId}{ad:Option Addr}{b off len n cap i:Nat}
theorem wpC{K:Act->World->Prop}{f:FuncId}{xs:List Operand}{ts:Array TypeId}{fn:Func}{args:List Value}{R:Ending->World->Prop}(hf:P.funcs[f]?=some fn)(hc:Calls P f args.toArray w R)(k:∀e w',R e w'->∃v,e=.returned v/\K (a.put o.dst v) w')
 (ho:o.op=.call { callee:=.value (.func f),args:=xs.toArray,argTypes:=ts }:=by rfl)(hb:fn.body.isSome=true:=by rfl)(hn:(fn.name== "runtime.NumGoroutine")=false:=by kernel_rfl)(ha:xs.map a.eval=args:=by rfl):o.wp P a w K Q:=by
 unfold Oper.wp;rw[zI f xs ts ho fn hf hb hn args ha w,Oper.upon_enter];refine hc.mono fun e w' he=>?_;obtain⟨v,rfl,h⟩:=k e w' he;exact h
theorem wpCM{K:Act->World->Prop}{f:FuncId}{xs:List Operand}{ts:Array TypeId}{fn:Func}{args:List Value}{v:Value}{R:World->Prop}(hf:P.funcs[f]?=some fn)(hc:Calls P f args.toArray w (fun e w'=>e=.returned v/\R w'))(k:∀w',R w'->K (a.put o.dst v) w')
 (ho:o.op=.call { callee:=.value (.func f),args:=xs.toArray,argTypes:=ts }:=by rfl)(hb:fn.body.isSome=true:=by rfl)(hn:(fn.name== "runtime.NumGoroutine")=false:=by kernel_rfl)(ha:xs.map a.eval=args:=by rfl):o.wp P a w K Q:=
 wpC hf hc (fun _ w' h=>⟨v,h.1,k w' h.2⟩) ho hb hn ha
theorem wpPL(h:wpPi P ops Q S r (a.put o.dst (.int .i64 n)) w)(hw:Region.wanted o (yielded ops a.tmps)=true:=by rfl)(ho:o.op=.call { callee:=.builtin .len,args:=#[x],argTypes:=#[t] }:=by rfl)(hx:a.eval x=.slice ad n cap:=by rfl)(ht:isSliceT P t=true:=by kernel_rfl):wpPi P ops Q S ((o,3)::r) a w:=wpPi_len x t ad n cap hw ho hx ht h
theorem wpPI(hu:P.underlying t=some (.slice e))(n:Nat)(hlt:i<len)(h:wpPi P ops Q S r (a.put o.dst (.pointer (some ⟨b,off+i*n,none⟩))) w)(hw:Region.wanted o (yielded ops a.tmps)=true:=by rfl)(ho:o.op=.indexAddr t x y:=by rfl)
 (hx:a.eval x=.slice (some ⟨b,off,none⟩) len cap:=by rfl)(hy:a.eval y=.int .i64 i:=by rfl)(hi:(P.info? e).map (·.size)=some n:=by kernel_rfl):wpPi P ops Q S ((o,3)::r) a w:=wpPi_index t x y e b off len cap n i hw ho hx hy hu hi hlt h
theorem wpRZ{id:Nat}{l:List Oper}(p:List Nat)(tl:List Nat)(S:World->Prop)(hS:S w.drew)(h:wpPi P l.toArray Q S (l.zip p) a w.drew)(hm:P.follows .mixedOrders=true:=by kernel_rfl)(hs:Region.noSelect l.toArray=true:=by kernel_rfl)
 (hl:p.length=l.length:=by kernel_rfl)(hp:piOk .any l.toArray tl ((List.range p.length).zip p) (Array.replicate l.toArray.size false)=true:=by kernel_rfl)(hQ:xQ Q:=by exact fun _ _ _ _ hd h=>⟨hd.trans h.1,h.2⟩):(Code.region id l.toArray true).wp P Q a w:=
 zK ((List.range p.length).zip p) tl S hm hs (by simp[hl]) hp hQ hS (by
  have e:(((List.range p.length).zip p).map fun x=>(l.getD x.1 default,x.2))=l.zip p:=List.ext_getElem (by simp[hl]) fun i h1 h2=>by
   have h3:i<l.length:=by simp at h2;omega
   simp[List.getD_eq_getElem?_getD,List.getElem?_eq_getElem h3]
  rw[e];exact h)
end
section
variable{α β:Type}[DecidableEq α]
def getL(k:α):List (α×β)->Option β
 | []=>none
 |p::l=>if k=p.1 then some p.2 else getL k l
def idxL(k:α):List (α×β)->Nat->Option (Nat×β)
 | [],_=>none
 |p::l,i=>if k=p.1 then some (i,p.2)else idxL k l (i+1)
def putL(k:α)(v:β):List (α×β)->List (α×β)
 | []=>[(k,v)]
 |p::l=>if k=p.1 then(k,v)::l else p::putL k v l
def delL(k:α):List (α×β)->List (α×β)
 | []=>[]
 |p::l=>if k=p.1 then l else p::delL k l
theorem idxL_get(k:α):∀(l:List (α×β))(i:Nat),(idxL k l i).map (·.2)=getL k l
 | [],_=>rfl
 |p::l,i=>by
  unfold idxL getL
  split
  ·rfl
  ·exact idxL_get k l (i+1)
theorem idxL_some{k:α}:∀{l:List (α×β)}{i j:Nat}{v:β},idxL k l i=some (j,v)->i<=j/\j-i<l.length/\l[j-i]?=some (k,v)/\(∀v',putL k v' l=l.set (j-i) (k,v'))/\delL k l=l.eraseIdx (j-i)
 | [],_,_,_,h=>by cases h
 |p::l,i,j,v,h=>by
  unfold idxL at h
  split at h
  ·rename_i hk
   simp only[Option.some.injEq,Prod.mk.injEq]at h;obtain⟨rfl,rfl⟩:=h;subst hk
   simp[putL,delL]
  ·rename_i hk
   obtain⟨h1,h2,h3,h4,h5⟩:=idxL_some h;have e:j-i=(j-(i+1))+1:=by omega
   refine⟨by omega,by simp;omega,by rw[e];simpa using h3,fun v'=>?_,?_⟩
   ·rw[e];simp[putL,hk,h4]
   ·rw[e];simp[delL,hk,h5]
theorem idxL_none{k:α}:∀{l:List (α×β)}{i:Nat},idxL k l i=none->getL k l=none/\(∀v',putL k v' l=l++[(k,v')])/\delL k l=l/\k∉l.map (·.1)
 | [],_,_=>⟨rfl,fun _=>rfl,rfl,by simp⟩
 |p::l,i,h=>by
  unfold idxL at h
  split at h
  ·cases h
  ·rename_i hk
   obtain⟨h1,h2,h3,h4⟩:=idxL_none h;exact⟨by simp[getL,hk,h1],fun v'=>by simp[putL,hk,h2],by simp[delL,hk,h3],by simp[hk];simpa using h4⟩
theorem getL_none{k:α}{l:List (α×β)}:getL k l=none↔k∉l.map (·.1):=by
 induction l with
 |nil=>simp[getL]
 |cons p l ih=>unfold getL;split<;>simp_all
theorem getL_mem{k:α}{v:β}{l:List (α×β)}(h:getL k l=some v):(k,v)∈l:=by
 induction l with
 |nil=>cases h
 |cons p l ih=>
  unfold getL at h
  split at h
  ·rename_i hk;subst hk;simp at h;subst h;simp
  ·exact List.mem_cons_of_mem _ (ih h)
theorem getL_of_mem{k:α}{v:β}{l:List (α×β)}(hn:(l.map (·.1)).Nodup)(h:(k,v)∈l):getL k l=some v:=by
 induction l with
 |nil=>cases h
 |cons p l ih=>
  rw[List.map_cons,List.nodup_cons]at hn;unfold getL
  rcases List.mem_cons.1 h with rfl|h
  ·simp
  ·rw[if_neg (by rintro rfl;exact hn.1 (List.mem_map.2 ⟨_,h,rfl⟩))]
   exact ih hn.2 h
theorem getL_put(k k':α)(v:β)(l:List (α×β)):getL k' (putL k v l)=if k'=k then some v else getL k' l:=by
 induction l with
 |nil=>simp[putL,getL]
 |cons p l ih=>
  unfold putL
  by_cases hk:k=p.1
  ·rw[if_pos hk];simp only[getL];subst hk;by_cases hk':k'=p.1<;>simp[hk']
  ·rw[if_neg hk];simp only[getL,ih];by_cases hk':k'=p.1
   ·subst hk';simp[Ne.symm hk]
   ·simp[hk']
theorem keys_put(k:α)(v:β)(l:List (α×β)):(putL k v l).map (·.1)=if k∈l.map (·.1)then l.map (·.1)else l.map (·.1)++[k]:=by
 induction l with
 |nil=>simp[putL]
 |cons p l ih=>
  unfold putL
  by_cases hk:k=p.1
  ·simp[hk]
  ·rw[if_neg hk];simp only[List.map_cons,ih,List.mem_cons,hk,false_or];split<;>simp
theorem nodup_put{k:α}{v:β}{l:List (α×β)}(h:(l.map (·.1)).Nodup):((putL k v l).map (·.1)).Nodup:=by
 rw[keys_put];split
 ·exact h
 ·rename_i hk
  rw[List.nodup_append];exact⟨h,by simp,by intro x hx y hy;simp at hy;subst hy;rintro rfl;exact hk hx⟩
end
structure KeyT(P:Program)(t:TypeId){α:Type}[DecidableEq α](enc:α->Value)(ok:α->Prop):Prop where
 check:∀(e:Bool)(x:α)(w:World),ok x->(Instr.checkKey e 10000 t (enc x)).run P w=.ok () w
 same:∀(x y:α)(w:World),ok x->ok y->(Op.equal t (enc x) (enc y)).run P w=.ok (decide (x=y)) w
 und:∃d,P.underlying t=some d/\((∀x y,Instr.sameNow d (enc x) (enc y)=none)\/(∀x y,Instr.sameNow d (enc x) (enc y)=some (decide (x=y))))
 bits:∀x,ok x->Instr.sameBits 10000 (enc x) (enc x)=true
def Keyed{α:Type}(enc:α->Value)(es:List MapEntry)(l:List (α×Value)):Prop:=es.map (fun e=>(e.key,e.val))=l.map (fun p=>(enc p.1,p.2))
structure MapIs{α:Type}(enc:α->Value)(ok:α->Prop)(w:World)(mb:Nat)(l:List (α×Value)):Prop where
 obj:∃es clk,w.heap[mb]?=some (.map es clk)/\Keyed enc es.toList l/\(∀x∈es.toList,x.born<clk)/\(es.toList.map (·.born)).Nodup
 nd:(l.map (·.1)).Nodup
 ok:∀p∈l,ok p.1
section
variable{P:Program}{t:TypeId}{α:Type}[DecidableEq α]{enc:α->Value}{ok:α->Prop}{w:World}{mb:Nat}{l:List (α×Value)}
theorem MapIs.keep{S:Nat->Prop}{w':World}(h:MapIs enc ok w mb l)(hm:Mod S w w')(hn:¬S mb):MapIs enc ok w' mb l:=by
 obtain⟨⟨es,clk,h1,h2⟩,h3,h4⟩:=h;exact⟨⟨es,clk,hm.obj hn h1,h2⟩,h3,h4⟩
theorem MapIs.keep0{w':World}(h:MapIs enc ok w mb l)(hm:Mod NoB w w'):MapIs enc ok w' mb l:=h.keep hm id
theorem MapIs.made{b:Nat}(h:w.heap[b]?=some (.map #[] 0)):MapIs enc ok w b []:=
 ⟨⟨#[],0,h,by simp[Keyed],by simp,by simp⟩,by simp,by simp⟩
theorem MapIs.lt(h:MapIs enc ok w mb l):mb<w.heap.size:=by
 obtain⟨⟨es,clk,h1,h2⟩,h3,h4⟩:=h;exact(Array.getElem?_eq_some_iff.1 h1).1
theorem run_findAskingL(hK:KeyT P t enc ok)(k:α)(hk:ok k)(w:World):∀(es:List MapEntry)(l:List (α×Value))(i:Nat),Keyed enc es l->(∀p∈l,ok p.1)->
 (Instr.findAsking t (enc k) es i).run P w=.ok (idxL k l i) w
 | [],l,i,h,_=>by
  have:l=[]:=by cases l with|nil=>rfl|cons a b=>simp[Keyed]at h
  subst this
  simp[Instr.findAsking,idxL]
 |e::es,l,i,h,ho=>by
  match l,h with
  |q::l,h=>
   have hkey:e.key=enc q.1:=by simp[Keyed]at h;exact h.1.1
   have hv:e.val=q.2:=by simp[Keyed]at h;exact h.1.2
   have ht:Keyed enc es l:=by simp[Keyed]at h;exact h.2
   have hsame:=hK.same k q.1 w hk (ho q (by simp))
   by_cases hkq:k=q.1
   ·subst hkq
    simp[Instr.findAsking,hkey,hsame,idxL,hv]
   ·have ih:=run_findAskingL hK k hk w es l (i+1) ht (fun p hp=>ho p (by simp[hp]))
    simp[Instr.findAsking,hkey,hsame,hkq,idxL,ih]
theorem findNowL{d:TypeDesc}(hd:∀x y:α,Instr.sameNow d (enc x) (enc y)=some (decide (x=y)))(k:α):∀(es:List MapEntry)(l:List (α×Value))(i:Nat),Keyed enc es l->Instr.findNow d (enc k) es i=some (idxL k l i)
 | [],l,i,h=>by
  have:l=[]:=by cases l with|nil=>rfl|cons a b=>simp[Keyed]at h
  subst this
  simp[Instr.findNow,idxL]
 |e::es,l,i,h=>by
  match l,h with
  |q::l,h=>
   have hkey:e.key=enc q.1:=by simp[Keyed]at h;exact h.1.1
   have hv:e.val=q.2:=by simp[Keyed]at h;exact h.1.2
   have ht:Keyed enc es l:=by simp[Keyed]at h;exact h.2
   by_cases hkq:k=q.1
   ·simp[Instr.findNow,hkey,hd,hkq,idxL,hv]
   ·simp[Instr.findNow,hkey,hd,hkq,idxL,findNowL hd k es l (i+1) ht]
theorem run_findKeyL(hK:KeyT P t enc ok)(k:α)(hk:ok k)(w:World)(es:List MapEntry)(l:List (α×Value))(h:Keyed enc es l)(ho:∀p∈l,ok p.1):
 (Instr.findKey t (enc k) es).run P w=.ok (idxL k l 0) w:=by
 have h1:=run_findAskingL hK k hk w es l 0 h ho;obtain⟨d,hu,hd⟩:=hK.und;unfold Instr.findKey;simp only[Sem.run_bind,run_underlying hu,Result.andThen_ok]
 rcases hd with hd|hd
 ·cases es with
  |nil=>simp[Instr.findNow];simp[Instr.findAsking]at h1;exact h1
  |cons e es=>
   have:∃q,e.key=enc q:=by
    cases l with
    |nil=>simp[Keyed]at h
    |cons q l=>exact⟨q.1,by simp[Keyed]at h;exact h.1.1⟩
   obtain⟨q,hq⟩:=this;simp only[Instr.findNow,hq,hd];exact h1
 ·rw[findNowL hd k es l 0 h]
  rfl
theorem run_lookupL(hK:KeyT P t enc ok)(h:MapIs enc ok w mb l)(k:α)(hk:ok k)(mt et:TypeId)(hmt:P.underlying mt=some (.map t et))(z:Value)(hz:(P.info? et).bind (·.zero)=some z)(commaOk:Bool):
 (Instr.lookup mt (.map (some mb)) (enc k) commaOk).run P w=.ok (if commaOk then .tuple #[(getL k l).getD z,.bool (getL k l).isSome]else(getL k l).getD z) w:=by
 obtain⟨⟨es,clk,hb,hkd,_⟩,hnd,ho⟩:=h
 have hz':(zeroValue et).run P w=.ok z w:=by
  cases hi:P.info? et with
  |none=>simp[hi]at hz
  |some i=>simp[hi]at hz;simp[zeroValue,typeInfo,hi,hz]
 have hgo:(getObj mb).run P w=.ok (.map es clk) w:=by simp[getObj,Sem.run,hb]
 unfold Instr.lookup;simp only[Sem.run_bind,run_underlying hmt,Result.andThen_ok,hgo,hK.check _ k w hk,run_findKeyL hK k hk w es.toList l hkd ho,Sem.run_pure]
 rw[<-idxL_get k l 0]
 cases hi:idxL k l 0 with
 |none=>simp[hz']
 |some r=>obtain⟨i,v⟩:=r;simp
theorem exec_lookupL(hK:KeyT P t enc ok)(h:MapIs enc ok w mb l)(k:α)(hk:ok k)(mt et:TypeId)(hmt:P.underlying mt=some (.map t et))(z:Value)(hz:(P.info? et).bind (·.zero)=some z){o:Oper}{a:Act}(m x:Operand)(commaOk:Bool)
 (ho:o.op=.lookup mt m x commaOk)(hm:a.eval m=.map (some mb))(hx:a.eval x=enc k)(v:Value)(hv:(if commaOk then .tuple #[(getL k l).getD z,.bool (getL k l).isSome]else(getL k l).getD z)=v):
 (execOp a.eval o).run P w=.ok (.value v) w:=by
 subst hv;unfold execOp;simp only[ho,hm,hx,Sem.run_bind,run_lookupL hK h k hk mt et hmt z hz commaOk,Result.andThen_ok,Sem.run_pure]
theorem exec_lenL(h:MapIs enc ok w mb l)(mt et:TypeId)(hmt:P.underlying mt=some (.map t et)){o:Oper}{a:Act}(x:Operand)(ho:o.op=.call { callee:=.builtin .len,args:=#[x],argTypes:=#[mt] })(hx:a.eval x=.map (some mb)):
 (execOp a.eval o).run P w=.ok (.value (.int .i64 l.length)) w:=by
 obtain⟨⟨es,clk,hb,hkd,_⟩,hnd,hok⟩:=h;have hlen:es.size=l.length:=by have:=congrArg List.length hkd;simpa using this
 unfold execOp
 simp[ho,hx,resolve,invoke,builtin,Builtin.len_,run_underlying hmt,goInt,getObj,Sem.run,hb,hlen]
theorem setObj_heap{w:World}{mb:Nat}{o o':Obj}(hb:w.heap[mb]?=some o)(ho:∀c t f,o≠.cells c t f):
 (setObj mb o').run P w=.ok () { w with heap:=w.heap.setIfInBounds mb o' }:=by
 cases o<;>simp_all [setObj,Sem.run]
theorem mod_set(w:World)(mb:Nat)(o:Obj):Mod (fun k=>k=mb) w { w with heap:=w.heap.setIfInBounds mb o }:=
 ⟨rfl,rfl,rfl,by simp,fun k _ hn=>by simp only[Array.getElem?_setIfInBounds];rw[if_neg (fun e=>hn e.symm)]⟩
variable{o:Oper}{a:Act}{K:Act->World->Prop}{Q:Exit->Act->World->Prop}
theorem wp_putL(hK:KeyT P t enc ok)(hM:MapIs enc ok w mb l)(k:α)(hk:ok k)(mt et:TypeId)(hmt:P.underlying mt=some (.map t et))(m x y:Operand)(v:Value)(ho:o.op=.mapUpdate mt m x y)(hm:a.eval m=.map (some mb))(hx:a.eval x=enc k)(hy:a.eval y=v)
 (h:∀w',MapIs enc ok w' mb (putL k v l)->Mod (fun j=>j=mb) w w'->K (a.put o.dst undef) w'):o.wp P a w K Q:=by
 obtain⟨⟨es,clk,hb,hkd,hbo,hbn⟩,hnd,hok⟩:=hM;have hgo:(getObj mb).run P w=.ok (.map es clk) w:=by simp[getObj,Sem.run,hb]
 have hlt:mb<w.heap.size:=(Array.getElem?_eq_some_iff.1 hb).1
 have hrun:∀o',(setObj mb o').run P w=.ok () { w with heap:=w.heap.setIfInBounds mb o' }:=fun o'=>setObj_heap hb (by simp)
 have hok':∀p∈putL k v l,ok p.1:=by
  intro p hp;have h1:p.1∈(putL k v l).map (·.1):=List.mem_map.2 ⟨p,hp,rfl⟩;rw[keys_put]at h1
  have h2:p.1∈l.map (·.1)\/p.1=k:=by
   split at h1
   ·exact .inl h1
   ·simpa using h1
  rcases h2 with h2|h2
  ·obtain⟨q,hq,e⟩:=List.mem_map.1 h2;rw[<-e];exact hok q hq
  ·rw[h2];exact hk
 have hlen:es.size=l.length:=by have:=congrArg List.length hkd;simpa using this
 unfold Oper.wp execOp;simp only[ho,hm,hx,hy]
 cases hi:idxL k l 0 with
 |some r=>
  obtain⟨j,u⟩:=r;obtain⟨-,h2,h3,h4,-⟩:=idxL_some hi;rw[Nat.sub_zero]at h2 h3 h4
  have hkk:(es[j]?).map (·.key)=some (enc k):=by
   have h1:=congrArg (fun l=>(l[j]?).map (·.1)) hkd;simp only[List.getElem?_map,Option.map_map,h3]at h1
   simpa[Function.comp_def]using h1
  have hstay:(Instr.keyThatStays (((es[j]?).map (·.key)).getD (enc k)) (enc k)).run P w=.ok (enc k) w:=by
   rw[hkk];simp[Instr.keyThatStays,hK.bits k hk]
  have hr:(Instr.mapUpdate mt (.map (some mb)) (enc k) v).run P w=.ok () { w with heap:=w.heap.setIfInBounds mb (.map (es.modify j fun e=>{ e with key:=enc k,val:=v }) clk) }:=by
   unfold Instr.mapUpdate;simp only[Sem.run_bind,run_underlying hmt,Result.andThen_ok,hgo,hK.check _ k w hk,run_findKeyL hK k hk w es.toList l hkd hok,hi,hstay,hrun]
  simp only[Sem.run_bind,hr,Result.andThen_ok,Sem.run_pure];refine h _ ⟨⟨_,_,Array.getElem?_setIfInBounds_self_of_lt hlt,?_,?_,?_⟩,nodup_put hnd,hok'⟩ (mod_set _ _ _)
  ·rw[h4]
   unfold Keyed at hkd |-
   apply List.ext_getElem?
   intro i;have h1:=congrArg (fun l=>l[i]?) hkd;simp only[List.getElem?_map,Array.getElem?_toList,Array.getElem?_modify,List.getElem?_set]at h1 |-
   by_cases hji:j=i
   ·subst hji
    have hj:j<es.size:=by omega
    simp[hj,h2]
   ·simpa[hji]using h1
  ·intro x hx
   rw[Array.mem_toList_iff,Array.mem_iff_getElem?]at hx;obtain⟨i,hx⟩:=hx;rw[Array.getElem?_modify]at hx
   cases he:es[i]? with
   |none=>rw[he]at hx;split at hx<;>simp at hx
   |some e=>
    have hb1:=hbo e (by rw[Array.mem_toList_iff,Array.mem_iff_getElem?];exact⟨i,he⟩);rw[he]at hx
    split at hx
    ·simp at hx;rw[<-hx];exact hb1
    ·simp at hx;rw[<-hx];exact hb1
  ·have:(es.modify j fun e=>{ e with key:=enc k,val:=v }).toList.map (·.born)=es.toList.map (·.born):=by
    apply List.ext_getElem?
    intro i;simp only[List.getElem?_map,Array.getElem?_toList,Array.getElem?_modify]
    split
    ·cases es[i]?<;>rfl
    ·rfl
   rw[this];exact hbn
 |none=>
  obtain⟨h1,h2,h3,h4⟩:=idxL_none hi
  have hr:(Instr.mapUpdate mt (.map (some mb)) (enc k) v).run P w=.ok () { w with heap:=w.heap.setIfInBounds mb (.map (es.push { key:=enc k,val:=v,born:=clk }) (clk+1)) }:=by
   unfold Instr.mapUpdate;simp only[Sem.run_bind,run_underlying hmt,Result.andThen_ok,hgo,hK.check _ k w hk,run_findKeyL hK k hk w es.toList l hkd hok,hi,hrun]
  simp only[Sem.run_bind,hr,Result.andThen_ok,Sem.run_pure];refine h _ ⟨⟨_,_,Array.getElem?_setIfInBounds_self_of_lt hlt,?_,?_,?_⟩,nodup_put hnd,hok'⟩ (mod_set _ _ _)
  ·rw[h2];unfold Keyed at hkd |-;simp[hkd]
  ·intro x hx
   simp at hx
   rcases hx with hx|rfl
   ·have:=hbo x (by simpa using hx);omega
   ·simp
  ·simp only[Array.toList_push,List.map_append,List.map_cons,List.map_nil]
   rw[List.nodup_append];refine⟨hbn,by simp,?_⟩;intro x hx y hy
   simp at hy;subst hy
   obtain⟨e,he,rfl⟩:=List.mem_map.1 hx;have:=hbo e he;omega
end
def RetE(v:Value)(w:World):Ending->World->Prop:=fun e w'=>e=.returned v/\w'=w
theorem makeFunc_run(fn:Fn)(first cap:Array Value)(w:World):(Instr.makeFunc fn first cap).run prog w=.ok (.func fn first cap) w:=rfl
end
section
open Go.RowKit Go.Shelf Go.Proofs.Tryz Go.Lib
section
variable{P:Program}{o:Oper}{a:Act}{w:World}{K:Act->World->Prop}{Q:Exit->Act->World->Prop}
theorem wp_callv(g:FuncId)(x:Operand)(xs:List Operand)(ts:Array TypeId)(first cap:Array Value)(ho:o.op=.call { callee:=.value x,args:=xs.toArray,argTypes:=ts })(hx:a.eval x=.func (.func g) first cap)
 (he:∀args w,(callFunc g args).run P w=.ok (.enter g args) w)
 (h:Calls P g (first++(xs.map a.eval).toArray++cap) w (fun e w'=>∃v,e=.returned v/\K (a.put o.dst v) w')):o.wp P a w K Q:=by
 unfold Oper.wp execOp;simp only[ho,resolve,hx,Deferred.ofValue,invoke,Sem.run_bind,Sem.run_pure,Result.andThen_ok,he,List.map_toArray];refine h.mono fun e w' he=>?_
 obtain⟨v,rfl,hk⟩:=he;exact hk
end
end
section
open Go.RowKit Go.Proofs.Tryz Go.Lib
abbrev Key:=ByteArray×List UInt8
def KeyOk(p:Key):Prop:=p.2.length=32
theorem isAggU8(w:World):(isAgg 5).run prog w=.ok false w:=by
 unfold isAgg;rw[Sem.run_bind,run_underlying underlying5 w];rfl
theorem sizeOf_of{t n:Nat}(h:(prog.info? t).map (·.size)=some n)(w:World):(sizeOf t).run prog w=.ok n w:=by
 cases hq:prog.info? t with
 |none=>simp[hq]at h
 |some i=>simp[hq]at h;simp[sizeOf,typeInfo,hq,h]
theorem sizeU8(w:World):(sizeOf 5).run prog w=.ok 1 w:=sizeOf_of (by kernel_rfl) w
theorem part_byte(x:List UInt8)(i:Nat)(h:i<x.length)(w:World):(part 5 (qA x) i).run prog w=.ok (byteV x[i]) w:=by
 unfold part;rw[Sem.run_bind,isAggU8 w]
 simp[qA,h]
theorem run_checkKey_id(e:Bool)(n:Nat)(x:List UInt8)(hx:x.length=32)(w:World):(Instr.checkKey e (n+2) 24 (.agg (qA x))).run prog w=.ok () w:=by
 have hk:∀(y:UInt8),(Instr.checkKey e (n+1) 5 (byteV y)).run prog w=.ok () w:=fun y=>by
  rw[Instr.checkKey]
  simp[byteV,run_underlying underlying5]
 have key:∀(is:List Nat),(∀i∈is,i<32)->(forIn (m:=Sem) is PUnit.unit (fun i _=>do
  Instr.checkKey e (n+1) 5 (<-part 5 (qA x) (i*(<-sizeOf 5)))
  pure (ForInStep.yield PUnit.unit))).run prog w=.ok PUnit.unit w:=by
  intro is
  induction is with
  |nil=>intro _;simp
  |cons i is ih=>
   intro hi;have h1:i<x.length:=by rw[hx];exact hi i (by simp)
   simp only[List.forIn_cons,Sem.run_bind,sizeU8,Result.andThen_ok,Nat.mul_one,part_byte x i h1,hk,Sem.run_pure];exact ih (fun j hj=>hi j (by simp[hj]))
 rw[Instr.checkKey];simp only[Sem.run_bind,run_underlying underlying24,Result.andThen_ok,Std.Legacy.Range.forIn_eq_forIn_range',Std.Legacy.Range.size]
 generalize hl:List.range' 0 ((32-0+1-1)/1)=is;have hi:∀i∈is,i<32:=by intro i hi;subst hl;simp at hi;omega
 have:=key is hi;clear hl;rw[this];rfl
end
section
open Go.RowKit Go.Shelf Go.Proofs.Tryz Go.Lib
theorem getL_map{α β γ:Type}[DecidableEq α](f:β->γ)(k:α)(l:List (α×β)):getL k (l.map fun p=>(p.1,f p.2))=(getL k l).map f:=by
 induction l with
 |nil=>rfl
 |cons p l ih=>simp only[List.map_cons,getL];split<;>simp_all
theorem putL_map{α β γ:Type}[DecidableEq α](f:β->γ)(k:α)(v:β)(l:List (α×β)):putL k (f v) (l.map fun p=>(p.1,f p.2))=(putL k v l).map fun p=>(p.1,f p.2):=by
 induction l with
 |nil=>rfl
 |cons p l ih=>simp only[List.map_cons,putL];split<;>simp_all
def linkV(n:Int):Value:=.agg #[.int .i64 n]
def useV(b:Nat):Value:=.pointer (some ⟨b,0,none⟩)
abbrev LinkL:=List (Key×Int)
section
variable{w:World}{bl ml mu:Nat}{limit:Int}{hold:Value}{l:LinkL}{us:List (ByteArray×Nat)}
end
end
section
open Go.RowKit Go.Proofs.Tryz Go.Lib
theorem fold_put:∀(l:List Value)(j off:Nat)(cells:Array Value),off+j+l.length<=cells.size->
 (l.zipIdx j).foldl (fun(cs:Array Value)(x:Value×Nat)=>cs.setIfInBounds (off+x.2) x.1) cells=(cells.toList.take (off+j)++l++cells.toList.drop (off+j+l.length)).toArray
 | [],j,off,cells,_=>by simp
 |v::l,j,off,cells,h=>by
  simp only[List.length_cons]at h;rw[List.zipIdx_cons,List.foldl_cons,fold_put l (j+1) off _ (by simp;omega)]
  apply Array.toList_inj.1
  simp only[Array.toList_setIfInBounds,List.length_cons]
  have h1:(cells.toList.set (off+j) v).take (off+(j+1))=cells.toList.take (off+j)++[v]:=by
   rw[<-Nat.add_assoc,List.take_succ_eq_append_getElem (by simp;omega)]
   simp[List.take_set_of_le]
  have h2:(cells.toList.set (off+j) v).drop (off+(j+1)+l.length)=cells.toList.drop (off+j+(l.length+1)):=by
   rw[List.drop_set_of_lt (by omega)]
   congr 1;omega
  rw[h1,h2]
  simp
theorem zD{place:Nat->Option (Nat×Nat)}{cells:Array Value}{i:Nat}{v:Value}{rest:List (Nat×Value)}{off size:Nat}(hp:place i=some (off,size))(hs:v.cells.size=size)(hf:off+size<=cells.size):
 Instr.fill place cells ((i,v)::rest)=Instr.fill place (qZ cells off v.cells) rest:=by
 subst hs
 have e:v.cells.zipIdx.foldl (fun(cs:Array Value)(x:Value×Nat)=>cs.setIfInBounds (off+x.2) x.1) cells=qZ cells off v.cells:=by
  have:=fold_put v.cells.toList 0 off cells (by simpa using hf);rw[<-Array.foldl_toList,Array.toList_zipIdx]
  simpa[qZ]using this
 simp only[Instr.fill,hp];rw[if_neg (by simp;omega)];rw[<-e]
theorem xT{place:Nat->Option (Nat×Nat)}{cells:Array Value}:Instr.fill place cells []=some cells:=rfl
def xR(P:Program)(t:TypeId):Option (List (Nat×Nat)):=
 match P.underlying t with
 |some (.struct fields)=>fields.toList.mapM fun f=>(P.info? f.type).map fun i=>(f.offset,i.size)
 |_=>none
theorem zL{P:Program}{t:TypeId}{z:Array Value}{places:List (Nat×Nat)}(hz:(P.info? t).bind (·.zero)=some (.agg z))(hp:xR P t=some places)(parts:List (Nat×Value)):
 P.built t parts=Instr.fill (places.toArray[·]?) z parts:=by
 unfold xR at hp
 split at hp
 ·rename_i fields hu
  cases hi:P.info? t with
  |none=>simp[hi]at hz
  |some i=>
   simp only[hi,Option.bind_some]at hz;simp only[Program.built,hi,hu,hz,hp,Value.cells]
 ·cases hp
theorem qL{P:Program}{w:World}{o:Oper}{a:Act}(t:TypeId)(parts:List (Nat×Operand))(vals:List (Nat×Value))(cells:Array Value)(ho:o.op=.build t parts.toArray)
 (hv:parts.map (fun x=>(x.1,a.eval x.2))=vals)(hb:P.built t vals=some cells):(execOp a.eval o).run P w=.ok (.value (.agg cells)) w:=by
 subst hv;unfold execOp;simp only[ho];have h:=run_build (P:=P) w t (Array.map (fun(x:Nat×Operand)=>(x.1,a.eval x.2)) parts.toArray) cells (by simpa using hb)
 simp only[Sem.run_bind,h,Result.andThen_ok,Sem.run_pure]
end
section
open Go.RowKit Go.Shelf Go.Proofs.Tryz Go.Lib
section
variable{w:World}{bl ml mu:Nat}{limit:Int}{hold:Value}{l:LinkL}{us:List (ByteArray×Nat)}
end
theorem putL_none{α β:Type}[DecidableEq α]{k:α}{l:List (α×β)}(h:getL k l=none)(v:β):putL k v l=l++[(k,v)]:=by
 induction l with
 |nil=>rfl
 |cons p l ih=>
  unfold getL at h
  split at h
  ·cases h
  ·rename_i hk;simp[putL,hk,ih h]
section
variable{w:World}{bl ml mu:Nat}{limit:Int}{hold:Value}{l:LinkL}{us:List (ByteArray×Nat)}
theorem nodup_inj{α β:Type}{f:α->β}:∀{l:List α},(l.map f).Nodup->∀{p q:α},p∈l->q∈l->f p=f q->p=q
 | [],_,_,_,h,_,_=>by cases h
 |x::l,hn,p,q,hp,hq,e=>by
  rw[List.map_cons,List.nodup_cons]at hn
  rcases List.mem_cons.1 hp with h1|h1<;>rcases List.mem_cons.1 hq with h2|h2
  ·rw[h1,h2]
  ·exact absurd (List.mem_map.2 ⟨q,h2,by rw[<-e,h1]⟩) hn.1
  ·exact absurd (List.mem_map.2 ⟨p,h1,by rw[e,h2]⟩) hn.1
  ·exact nodup_inj hn.2 h1 h2 e
end
section
variable{w:World}{bl ml mu:Nat}{limit:Int}{hold:Value}{l:LinkL}{us:List (ByteArray×Nat)}
end
section
variable{w0 w:World}{p:Value}{limit:Int}{l:LinkL}{F:Nat->Prop}
end
section
variable{w:World}{bl ml mu:Nat}{limit:Int}{hold:Value}{l:LinkL}{us:List (ByteArray×Nat)}
end
section
variable{w:World}{bl ml mu:Nat}{limit:Int}{hold:Value}{l:LinkL}{us:List (ByteArray×Nat)}
end
section
variable{w0 w:World}{p:Value}{limit:Int}{l:LinkL}{F:Nat->Prop}
end
end
section
open Go.RowKit Go.Proofs.Tryz Go.Lib
def Grown(w w':World):Prop:=∃q os,w'=Sort.grow (w.drewN q) os
theorem Grown.refl(w:World):Grown w w:=⟨0,#[],by simp[Sort.grow,World.drewN]⟩
theorem Grown.trans{a b c:World}(h:Grown a b)(k:Grown b c):Grown a c:=by
 obtain⟨q,os,rfl⟩:=h;obtain⟨q',os',rfl⟩:=k;exact⟨q+q',os++os',by simp[Sort.grow,World.drewN,Array.append_assoc,Nat.add_assoc]⟩
theorem Grown.alloc{a b:World}(h:Grown a b)(o:Obj):Grown a (b.alloc o):=h.trans ⟨0,#[o],by rw[Sort.alloc_eq_grow];rfl⟩
theorem Grown.drew{a b:World}(h:Grown a b):Grown a b.drew:=h.trans ⟨1,#[],by simp only[Sort.grow,World.drewN,Array.append_empty];rfl⟩
theorem Grown.mod{w w':World}(h:Grown w w'):Mod NoB w w':=by
 obtain⟨q,os,rfl⟩:=h;refine⟨rfl,rfl,rfl,by simp[Sort.grow,World.drewN],fun k hk _=>?_⟩;simp only[Sort.grow,World.drewN];rw[Array.getElem?_append_left hk]
theorem mod_drew(w:World):Mod NoB w w.drew:=(Mod.refl _ _).drew
def RetG(v:Value)(w:World):Ending->World->Prop:=fun e w'=>e=.returned v/\Grown w w'
theorem wp_boxG{P:Program}{o:Oper}{a:Act}{w:World}{K:Act->World->Prop}{Q:Exit->Act->World->Prop}(elem:TypeId)(x:Operand)(v:Value)(ho:o.op=.box elem x)(hx:a.eval x=v)
 (h:∀w',w'.heap[w.heap.size]?=some (.cells v.cells elem (0,0))->Grown w w'->w.heap.size<w'.heap.size->K (a.put o.dst (.pointer (some ⟨w.heap.size,0,none⟩))) w'):o.wp P a w K Q:=by
 unfold Oper.wp execOp;simp only[ho,hx]
 have hr:(Instr.box elem v).run P w=.ok (.pointer (some ⟨w.heap.size,0,none⟩)) (w.alloc (.cells v.cells elem)):=by
  simp[Instr.box,newVar,newRow]
 simp only[Sem.run_bind,hr,Result.andThen_ok,Sem.run_pure];exact h _ (heap_alloc_new _ _) ((Grown.refl _).alloc _) (by simp)
theorem yO{α:Type}[DecidableEq α]:∀{l m:List α},l.Nodup->(∀x∈l,x∈m)->l.length<=m.length
 | [],_,_,_=>by simp
 |x::l,m,hn,hs=>by
  rw[List.nodup_cons]at hn;have hx:=hs x (by simp)
  have:=yO (m:=m.erase x) hn.2 fun y hy=>by
   have hne:y≠x:=by rintro rfl;exact hn.1 hy
   exact(List.mem_erase_of_ne hne).2 (hs y (by simp[hy]))
  have hl:=List.length_erase_of_mem hx;have hp:0<m.length:=List.length_pos_iff.2 (by rintro rfl;cases hx);simp only[List.length_cons];omega
def cmpI(a b:List UInt8):Int:=Lib.compareBytes a b
theorem cmpI_lt(a b:List UInt8):cmpI a b=-1\/cmpI a b=0\/cmpI a b=1:=by
 induction a generalizing b with
 |nil=>cases b<;>simp[cmpI,Lib.compareBytes]
 |cons x a ih=>
  cases b with
  |nil=>simp[cmpI,Lib.compareBytes]
  |cons y b=>
   simp only[cmpI,Lib.compareBytes]
   split
   ·simp
   ·split
    ·simp
    ·exact ih b
theorem cmpI_bytes(a b:List UInt8):cmpI a b=if Op.bytesLess a b then-1 else if a=b then 0 else 1:=by
 induction a generalizing b with
 |nil=>cases b<;>simp[cmpI,Lib.compareBytes,Op.bytesLess]
 |cons x a ih=>
  cases b with
  |nil=>simp[cmpI,Lib.compareBytes,Op.bytesLess]
  |cons y b=>
   have:=ih b;simp only[cmpI]at this;simp only[cmpI,Lib.compareBytes,Op.bytesLess,Bool.or_eq_true,decide_eq_true_eq,Bool.and_eq_true,beq_iff_eq,List.cons.injEq]
   rcases Nat.lt_trichotomy x.toNat y.toNat with h|h|h
   ·have h1:x<y:=h
    simp[h1]
   ·have h1:x=y:=UInt8.toNat_inj.1 h
    subst h1
    simp[this]
   ·have h1:y<x:=h
    have h2:¬x<y:=fun h3=>by have h3:x.toNat<y.toNat:=h3;omega
    have h3:¬x=y:=fun e=>by subst e;omega
    simp[h1,h2,h3]
theorem cmpI_neg(a b:List UInt8):cmpI a b<0↔a<b:=by
 induction a generalizing b with
 |nil=>cases b<;>simp[cmpI,Lib.compareBytes]
 |cons x a ih=>
  cases b with
  |nil=>simp[cmpI,Lib.compareBytes]
  |cons y b=>
   have:=ih b;simp only[cmpI]at this;simp only[cmpI,Lib.compareBytes,List.cons_lt_cons_iff]
   rcases Nat.lt_trichotomy x.toNat y.toNat with h|h|h
   ·have h1:x<y:=h
    simp[h1]
   ·have h1:x=y:=UInt8.toNat_inj.1 h
    subst h1;have h2:¬x<x:=fun h3=>by have h3:x.toNat<x.toNat:=h3;omega
    simp[this,h2]
   ·have h1:y<x:=h
    have h2:¬x<y:=fun h3=>by have h3:x.toNat<y.toNat:=h3;omega
    have h3:¬x=y:=fun e=>by subst e;omega
    simp[h1,h2,h3]
theorem cmpI_zero(a b:List UInt8):cmpI a b=0↔a=b:=by
 rw[cmpI_bytes]
 constructor
 ·intro h
  split at h
  ·cases h
  ·split at h
   ·assumption
   ·cases h
 ·rintro rfl
  have h:¬cmpI a a<0:=by rw[cmpI_neg];exact List.lt_irrefl a
  split
  ·rename_i hb
   rw[cmpI_bytes,if_pos hb]at h;omega
  ·simp
theorem run_loadBytesE{P:Program}{w:World}:∀(l:List UInt8)(a:Addr)(acc:ByteArray),(∀j x,l[j]?=some x->w.cell? (a.add j)=some (byteV x))->
 (Extern.Bytes.loadBytes a l.length acc).run P w=.ok ⟨acc.data++l.toArray⟩ w
 | [],a,acc,_=>by simp[Extern.Bytes.loadBytes]
 |x::l,a,acc,h=>by
  have h0:w.cell? a=some (byteV x):=by
   have:=h 0 x rfl
   simpa[Addr.add]using this
  have ih:=run_loadBytesE (P:=P) (w:=w) l (a.add 1) (acc.push x) (fun j y hy=>by
   have:=h (j+1) y (by simpa using hy)
   have e:(a.add 1).add j=a.add (j+1):=by
    unfold Addr.add
    by_cases hj:j=0
    ·subst hj;simp
    ·simp[hj];omega
   rw[e];exact this)
  have hx:((x.toNat:Int).toNat).toUInt8=x:=by simp
  simp only[byteV]at h0;simp only[List.length_cons,Extern.Bytes.loadBytes,Sem.run_bind,run_load,h0,Result.andThen,hx];rw[ih]
  congr 1
  apply ByteArray.ext
  simp[ByteArray.push]
theorem run_bytesOf_sl{P:Program}{w:World}{own:Bool}{G:Nat->Prop}{v:Value}{l:List UInt8}(h:Sl own w G 1 ByteC v l):(Extern.Bytes.bytesOf v).run P w=.ok ⟨l.toArray⟩ w:=by
 obtain⟨a,cap,rfl,hl,hc,h⟩:=h
 by_cases hne:l=[]
 ·subst hne
  cases a with
  |none=>rfl
  |some a=>simp[Extern.Bytes.bytesOf,loadBytes];rfl
 ·obtain⟨b,off,rfl,-,-,h⟩:=h hne
  have:=run_loadBytesE (P:=P) (w:=w) l ⟨b,off,none⟩ .empty (fun j x hj=>by
   obtain⟨hj',hx⟩:=List.getElem?_eq_some_iff.1 hj;obtain⟨cs,-,hR,hc⟩:=h j hj';rw[hR,hx]at hc;have:=CellsAt.one.1 hc;rw[Nat.mul_one]at this;unfold Addr.add
   split
   ·rename_i h0;subst h0;simpa using this
   ·exact this)
  simpa[Extern.Bytes.bytesOf]using this
theorem exec_extern{P:Program}{w:World}{o:Oper}{a:Act}(f:FuncId)(fn:Func)(e:Array Value->Sem Value)(args:List Operand)(ts:Array TypeId)(ho:o.op=.call { callee:=.value (.func f),args:=args.toArray,argTypes:=ts })(hf:P.funcs[f]?=some fn)(hname:(fn.name== "runtime.NumGoroutine")=false)
 (hb:fn.body.isNone=true)(hn:Extern.findNext fn=none)(he:Extern.find fn=some e)(vs:List Value)(hvs:args.map a.eval=vs)(v:Value)(hv:(e vs.toArray).run P w=.ok v w):(execOp a.eval o).run P w=.ok (.value v) w:=by
 subst hvs;unfold execOp;have hr:=run_callFunc_extern hf hname hb hn he (args.map a.eval).toArray w;rw[hv]at hr
 simp[ho,resolve,invoke,Act.eval,Deferred.ofValue,hr]
theorem bytealg_run{w:World}{u v:Value}{oa ob:Bool}{Ga Gb:Nat->Prop}{x y:List UInt8}(hx:Sl oa w Ga 1 ByteC u x)(hy:Sl ob w Gb 1 ByteC v y):
 (Extern.BytealgCompare.compare #[u,v]).run prog w=.ok (.int .i64 (cmpI x y)) w:=by
 show(do pure (goInt (Extern.BytealgCompare.cmp (<-Extern.Bytes.bytesOf u) (<-Extern.Bytes.bytesOf v))):Sem Value).run prog w=_
 simp only[Sem.run_bind,run_bytesOf_sl hx,run_bytesOf_sl hy,Result.andThen_ok,Sem.run_pure,Lib.cmp_eq]
 rfl
theorem bytesCompare_any{w:World}{u v:Value}{oa ob:Bool}{Ga Gb:Nat->Prop}{x y:List UInt8}(hx:Sl oa w Ga 1 ByteC u x)(hy:Sl ob w Gb 1 ByteC v y):
 Calls prog 94 #[u,v] w (RetE (.int .i64 (cmpI x y)) w):=by
 have hr:=bytealg_run hx hy;go_enter func94,ntmps94;go_upto_region 1 with(fail);refine wpR [3,3,1,3] ?_;simp only[stz]
 refine wpX rfl (exec_extern 181 _ Extern.BytealgCompare.compare [_,_] _ (by rfl) func181 (by kernel_rfl) (by kernel_rfl) (by kernel_rfl) (by kernel_rfl) [u,v] (by rfl) _ hr) trivial ?_
 simp only[stz];go_wp2;go_ret;exact⟨rfl,rfl⟩
theorem exec_sliceA{P:Program}{w:World}{o:Oper}{a:Act}(t e:TypeId)(x:Operand)(b off n:Nat)(ho:o.op=.slice t x none none none)(hx:a.eval x=.pointer (some ⟨b,off,none⟩))(ht:P.underlying t=some (.array n e))(he:(P.info? e).map (·.size)=some 1):
 (execOp a.eval o).run P w=.ok (.value (.slice (some ⟨b,off,none⟩) n n)) w:=by
 have h1:P.arrayLen t=n:=by simp[Program.arrayLen,ht]
 have h2:P.elem t=e:=by simp[Program.elem,ht]
 have h3:(sizeOf e).run P w=.ok 1 w:=by
  cases hq:P.info? e with
  |none=>simp[hq]at he
  |some j=>simp[hq]at he;simp[sizeOf,typeInfo,hq,he]
 have h:=run_sliceAt_array_all (P:=P) w t ⟨b,off,none⟩ (by rw[h1,h2];exact ht);rw[h2,h3,h1]at h;unfold execOp
 have hm:(match(none:Option Operand)with|some z=>some (a.eval z)|none=>none)=none:=rfl
 simp only[ho,hx,Option.map_none,Sem.run_bind,h,Result.andThen_ok,Sem.run_pure]
 simp[slicedAt,Addr.add]
theorem sl_idCells{w:World}{b off:Nat}{x:List UInt8}(h:CellsAt w b off (qA x))(hx:x.length=32):Sl false w (fun k=>k=b) 1 ByteC (.slice (some ⟨b,off,none⟩) 32 32) x:=by
 refine⟨some ⟨b,off,none⟩,32,by rw[hx],by omega,by unfold maxLen;omega,fun _=>⟨b,off,rfl,rfl,fun h=>(by cases h),fun i hi=>⟨#[byteV x[i]],rfl,rfl,?_⟩⟩⟩
 rw[Nat.mul_one,CellsAt.one];exact h.cell (by simp[qA,hi])
theorem shaCompare_any(x y:List UInt8)(hx:x.length=32)(hy:y.length=32)(w:World):Calls prog 35 #[.agg (qA x),.agg (qA y)] w (RetG (.int .i64 (cmpI x y)) w):=by
 go_enter func35,ntmps35;go_upto_region 0 with(fail);refine wpR [1,1,3] ?_;simp only[stz];refine wpD (wp_boxG 24 _ _ (by rfl) (by rfl) (fun w1 hB1 hm1 hs1=>?_))
 replace hB1:w1.heap[w.heap.size]?=some (.cells (qA x) 24 (0,0)):=hB1;try simp only[nmz]
 refine wpD (wp_boxG 24 _ _ (by rfl) (by rfl) (fun w2 hB2 hm2 hs2=>?_));replace hB2:w2.heap[w1.heap.size]?=some (.cells (qA y) 24 (0,0)):=hB2;simp only[stz]
 have hG:=(hm1.trans hm2).drew;have hX:=sl_idCells (CellsAt.whole ((mod_drew w2).obj id (hm2.mod.obj id hB1))) hx
 have hY:=sl_idCells (CellsAt.whole ((mod_drew w2).obj id hB2)) hy;go_upto_region 1 with(fail);refine wpRZ [3,3,1,3] [] (fun _=>True) trivial ?_;simp only[stz]
 refine qE (v:=.slice (some ⟨w.heap.size,0,none⟩) 32 32) rfl (fun w'=>exec_sliceA 24 5 _ _ _ 32 rfl rfl underlying24 (by kernel_rfl)) ?_;simp only[nmz]
 refine qE (v:=.slice (some ⟨w1.heap.size,0,none⟩) 32 32) rfl (fun w'=>exec_sliceA 24 5 _ _ _ 32 rfl rfl underlying24 (by kernel_rfl)) ?_;simp only[nmz]
 refine wpDo rfl ?_;go_wp2_with (go_at_call 94;refine(bytesCompare_any hX hY).mono ?_;rintro _ w3 ⟨rfl,hw⟩;obtain rfl:=hw.symm);simp only[stz];go_wp2;go_ret;exact⟨rfl,hG⟩
end
section
open Go.RowKit Go.Shelf Go.Proofs.Tryz Go.Lib
section
variable{P:Program}{o:Oper}{a:Act}{w:World}{K:Act->World->Prop}{Q:Exit->Act->World->Prop}{n:Nat}
theorem yG(hd:∀c,o.op≠.defer c)(h:o.wp P a w K Q):o.wpIn Fence.wide n P a w K Q:=by
 unfold Oper.wpIn;refine⟨fun _ _=>trivial,?_⟩;rw[Oper.semAt_eq _ _ _ hd];unfold Oper.wp at h;generalize (execOp a.eval o).run P w=r at h |-
 cases r with
 |halt x w'=>cases x<;>simp only[Oper.upon,Oper.uponIn]at h ⊢<;>exact h
 |ok x w'=>
  cases x<;>simp only[Oper.upon,Oper.uponIn]at h |-
  case value=>exact h
  case skip=>exact h
  case defer=>exact h
  case enter f args=>
   refine⟨fun h=>by simp[Fence.wide]at h,callsIn_wide.2 (Calls.mono h fun e w'' he=>?_)⟩
   cases e<;>exact he
  case row row args=>exact⟨fun h=>by simp[Fence.wide]at h,fun c cs _=>by obtain⟨v,w',r,s⟩:=h c cs;exact⟨v,w',r,stepsIn_wide.2 s⟩⟩
theorem wpIn_round_of_wp{l:Nat}(hd:∀c,o.op≠.defer c)(hr:∀row args w',(execOp a.eval o).run P w≠.ok (.row row args) w')(h:o.wp P a w K Q):o.wpIn (Fence.wide.inRound l) n P a w K Q:=by
 unfold Oper.wpIn;refine⟨fun _ _=>trivial,?_⟩;rw[Oper.semAt_eq _ _ _ hd];unfold Oper.wp at h;generalize (execOp a.eval o).run P w=r at h hr |-
 cases r with
 |halt x w'=>cases x<;>simp only[Oper.upon,Oper.uponIn]at h ⊢<;>exact h
 |ok x w'=>
  cases x<;>simp only[Oper.upon,Oper.uponIn]at h |-
  case value=>exact h
  case skip=>exact h
  case defer=>exact h
  case enter f args=>
   refine⟨fun h=>by simp[Fence.wide]at h,CallsIn.inRound l (callsIn_wide.2 (Calls.mono h fun e w'' he=>?_))⟩
   cases e<;>exact he
  case row row args=>exact absurd rfl (hr _ _ _)
theorem wpIn_yield{l:Nat}{R:Ending->World->Prop}(x y:Operand)(ts:Array TypeId)(ho:o.op=.call { callee:=.value x,args:=#[y],argTypes:=ts })(hx:a.eval x=.func (.yield l) #[] #[])(v:Value)(hv:a.eval y=v)
 (hy:YieldAt Fence.wide (n-1) P l #[v] w R)(hR:∀e w',R e w'->∃v,e=.returned v/\K (a.put o.dst v) w'):o.wpIn Fence.wide n P a w K Q:=by
 subst hv;obtain⟨fn,tmps,assign,body,hrun,hround⟩:=hy;unfold Oper.wpIn;refine⟨fun _ _=>trivial,?_⟩;rw[Oper.semAt_eq _ _ _ (fun c h=>by rw[ho]at h;cases h)]
 have e:(execOp a.eval o).run P w=.ok (.round l fn tmps assign body) w:=by
  unfold execOp
  simp[ho,resolve,hx,Deferred.ofValue,invoke,hrun]
 rw[e];refine⟨fun h=>by simp[Fence.wide]at h,hround.mono fun e w' he=>?_⟩;obtain⟨v,rfl,hk⟩:=hR e w' he;exact hk
def rowlessOp:Op->Bool
 | .move _| .assign _| .alloc _| .box _ _| .build _ _| .buildSlice _ _ _| .load _ _| .store _ _ _| .binOp _ _ _ _ _| .unOp _ _ _| .fieldAddr _ _ _| .field _ _ _| .indexAddr _ _ _| .index _ _ _| .lookup _ _ _ _| .mapUpdate _ _ _ _| .range _ _| .next _ _| .entry _| .slice _ _ _ _ _| .convert _ _ _| .makeFunc _ _ _| .extract _ _=>true
 | .call c=>match c.callee with| .builtin .append| .builtin .len| .builtin .delete=>true|_=>false
 |_=>false
theorem rowless{P:Program}{o:Oper}{a:Act}{w:World}(h:rowlessOp o.op=true):∀row args w',(execOp a.eval o).run P w≠.ok (.row row args) w':=by
 intro row args w'
 have hv:∀(s:Sem Value),(do pure (.value (<-s)):Sem Next).run P w≠.ok (.row row args) w':=fun s=>by
  rw[Sem.run_bind];generalize s.run P w=r
  cases r<;>simp[Result.andThen]
 have hu:∀(s:Sem Unit),(do s;pure .skip:Sem Next).run P w≠.ok (.row row args) w':=fun s=>by
  rw[Sem.run_bind];generalize s.run P w=r
  cases r<;>simp[Result.andThen]
 unfold execOp
 cases ho:o.op<;>simp only[ho,rowlessOp]at h ⊢<;>first|exact hv _|exact hu _|(cases h;done)|skip
 case move=>simp
 case assign=>simp
 case call c=>
  split at h
  all_goals first|(cases h;done)|skip
  all_goals
   rename_i hc
   simp only[resolve,hc,invoke,builtin,Sem.run_bind,Sem.run_pure,Result.andThen_ok];generalize Sem.run P _ w=r
   cases r<;>simp[Result.andThen]
theorem xN{P:Program}{l n:Nat}{ops:Array Oper}{Q:Exit->Act->World->Prop}{o:Oper}{rest:List Oper}{a:Act}{w:World}(hg:o.guard=none)(hr:rowlessOp o.op=true)
 (h:∀K:Act->World->Prop,(∀a w,wpListIn (Fence.wide.inRound l) n P ops Q rest a w->K a w)->o.wp P a w K Q):wpListIn (Fence.wide.inRound l) n P ops Q (o::rest) a w:=
 wpListIn_plain hg fun K hK=>wpIn_round_of_wp (fun c e=>by rw[e]at hr;cases hr) (rowless hr) (h K hK)
theorem Mod.keepsOthers{S:Nat->Prop}{w w':World}(h:Mod S w w')(hS:∀k o,S k->w.heap[k]?=some o->o.isCells=true):KeepsOthers w w':=
 ⟨h.size,fun k o hk ho=>(h.obj (fun hs=>by rw[hS k o hs hk]at ho;cases ho) hk)⟩
theorem Mod.keepsOthers0{w w':World}(h:Mod NoB w w'):KeepsOthers w w':=h.keepsOthers fun _ _ h=>h.elim
theorem Mod.below0{w w':World}(h:Mod NoB w w'):Below w.heap.size w w':=h.below fun _ _=>id
theorem Mod.grownNone{w w':World}(h:Mod NoB w w'):w.grownBy w' none:=⟨h.os,h.tape,h.output,h.size,fun k hk _=>h.block k hk id⟩
theorem Mod.grownAt{w w':World}{r:Nat}(h:Mod (fun k=>k=r) w w'):w.grownBy w' (some r):=⟨h.os,h.tape,h.output,h.size,fun k hk hn=>h.block k hk (fun e=>hn (by rw[e]))⟩
theorem Mod.of_grown{S:Nat->Prop}{w w':World}{row:Option Nat}(h:w.grownBy w' row)(hr:∀r,row=some r->S r):Mod S w w':=⟨h.os,h.tape,h.output,h.size,fun k hk hn=>h.block k hk (fun e=>hn (hr k e.symm))⟩
theorem wp_rangeM(t kt et:TypeId)(x:Operand)(mb:Nat)(es:Array MapEntry)(clk:Nat)(ho:o.op=.range t x)(hx:a.eval x=.map (some mb))(ht:P.underlying t=some (.map kt et))(hb:w.heap[mb]?=some (.map es clk))
 (h:∀w',w'.heap[w.heap.size]?=some (.mapIter (some mb) clk #[] clk)->Mod NoB w w'->w.heap.size<w'.heap.size->K (a.put o.dst (.pointer (some ⟨w.heap.size,0,none⟩))) w'):o.wp P a w K Q:=by
 unfold Oper.wp execOp
 have hr:(Instr.range t (.map (some mb))).run P w=.ok (.pointer (some ⟨w.heap.size,0,none⟩)) (w.alloc (.mapIter (some mb) clk #[] clk)):=by
  simp[Instr.range,run_underlying ht,newObj,getObj,Sem.run,hb]
 simp only[ho,hx,Sem.run_bind,hr,Result.andThen_ok,Sem.run_pure];exact h _ (heap_alloc_new _ _) (jJ _ _) (by simp)
def IterAt(w:World)(mb it:Nat)(es:Array MapEntry)(clk:Nat)(xs:List MapEntry):Prop:=
 w.heap[mb]?=some (.map es clk)/\∃c0,clk<=c0/\w.heap[it]?=some (.mapIter (some mb) clk ⟨xs.map (·.born)⟩ c0)/\(∀x∈xs,x∈es.toList)/\(xs.map (·.born)).Nodup
theorem born_inj:∀{l:List MapEntry},(l.map (·.born)).Nodup->∀{x y:MapEntry},x∈l->y∈l->x.born=y.born->x=y:=fun h x y hx hy e=>nodup_inj (f:=fun(e:MapEntry)=>e.born) h hx hy e
theorem wp_nextM(x:Operand)(mb it:Nat)(es:Array MapEntry)(clk:Nat)(xs:List MapEntry)(ho:o.op=.next x false)(hx:a.eval x=.pointer (some ⟨it,0,none⟩))(hI:IterAt w mb it es clk xs)(hbo:∀x∈es.toList,x.born<clk)(hbn:(es.toList.map (·.born)).Nodup)
 (hDone:xs.Perm es.toList->K (a.put o.dst (.tuple #[.bool false])) w)
 (hMore:∀e w',e∈es.toList->IterAt w' mb it es clk (xs++[e])->xs.length<es.size->Mod (fun j=>j=it) w w'->w.heap.size=w'.heap.size->w'.heap[it]?=some (.mapIter (some mb) clk ((⟨xs.map (·.born)⟩:Array Nat).push e.born) clk)->K (a.put o.dst (.tuple #[.bool true,e.key,e.val])) w'):o.wp P a w K Q:=by
 obtain⟨hb,c0,hc0,hit,hsub,hnd⟩:=hI;have hne:it≠mb:=by rintro rfl;rw[hb]at hit;cases hit
 have hseen:∀e:MapEntry,(⟨xs.map (·.born)⟩:Array Nat).contains e.born=true↔e.born∈xs.map (·.born):=fun e=>by simp[Array.contains_iff_mem]
 unfold Oper.wp execOp
 rcases run_next_at (P:=P) w o.type it mb clk c0 ⟨xs.map (·.born)⟩ es clk hit hb hbo hc0 with⟨h0,hrun⟩|⟨e,he,w1,hw1,hrun⟩
 ·simp only[ho,hx,Sem.run_bind,hrun,Result.andThen_ok,Sem.run_pure]
  refine hDone ?_
  have hall:∀e∈es.toList,e∈xs:=by
   intro e he
   have hnot:e∉(_root_.Go.leftOf es ⟨xs.map (·.born)⟩).toList:=by
    have:_root_.Go.leftOf es ⟨xs.map (·.born)⟩=#[]:=Array.eq_empty_of_size_eq_zero h0;rw[this];simp
   have hin:e.born∈xs.map (·.born):=by
    rw[<-hseen];unfold _root_.Go.leftOf at hnot;simp only[Array.toList_filter,List.mem_filter,he,true_and]at hnot
    simpa using hnot
   obtain⟨y,hy,e1⟩:=List.mem_map.1 hin;exact born_inj hbn he (hsub y hy) e1.symm▸hy
  have hxs:xs.Nodup:=(List.pairwise_map.1 hnd).imp fun hne e=>hne (by rw[e]);have hes:es.toList.Nodup:=(List.pairwise_map.1 hbn).imp fun hne e=>hne (by rw[e])
  exact(List.perm_ext_iff_of_nodup hxs hes).2 fun e=>⟨hsub e,hall e⟩
 ·simp only[ho,hx,Sem.run_bind,hrun,Result.andThen_ok,Sem.run_pure]
  have heM:e∈es.toList/\e.born∉xs.map (·.born):=by
   unfold _root_.Go.leftOf at he;simp only[Array.toList_filter,List.mem_filter]at he;refine⟨he.1,fun hin=>?_⟩
   have h2:(!((⟨xs.map (·.born)⟩:Array Nat).contains e.born))=true:=he.2;rw[(hseen e).2 hin]at h2
   cases h2
  have h1:w1.heap=w.heap:=by rcases hw1 with rfl|rfl<;>rfl
  have hlt:it<w.heap.size:=(Array.getElem?_eq_some_iff.1 hit).1
  have hnd':((xs++[e]).map (·.born)).Nodup:=by
   rw[List.map_append,List.nodup_append];exact⟨hnd,by simp,by intro x hx y hy;simp at hy;subst hy;rintro rfl;exact heM.2 hx⟩
  have hit':(ChangeMaps.setBlock w1 it (.mapIter (some mb) clk ((⟨xs.map (·.born)⟩:Array Nat).push e.born) clk)).heap[it]?=some (.mapIter (some mb) clk ((⟨xs.map (·.born)⟩:Array Nat).push e.born) clk):=by
   simp[ChangeMaps.setBlock,h1,hlt]
  have hoth:∀j,j≠it->(ChangeMaps.setBlock w1 it (.mapIter (some mb) clk ((⟨xs.map (·.born)⟩:Array Nat).push e.born) clk)).heap[j]?=w.heap[j]?:=fun j hj=>by
   simp[ChangeMaps.setBlock,h1,Array.getElem?_setIfInBounds,Ne.symm hj]
  have hmem:∀x∈xs++[e],x∈es.toList:=fun x hx=>by
   rcases List.mem_append.1 hx with hx|hx
   ·exact hsub x hx
   ·simp at hx;subst hx;exact heM.1
  refine hMore e _ heM.1 ⟨(hoth mb (Ne.symm hne)).trans hb,clk,Nat.le_refl _,by rw[hit'];simp,hmem,hnd'⟩ ?_ ⟨?_,?_,?_,?_,fun j _ hj=>hoth j hj⟩ ?_ hit'
  ·have:=yO (l:=(xs++[e]).map (·.born)) (m:=es.toList.map (·.born)) hnd' (fun b hb=>by
    obtain⟨x,hx,rfl⟩:=List.mem_map.1 hb
    exact List.mem_map.2 ⟨x,hmem x hx,rfl⟩)
   simp at this;omega
  ·rcases hw1 with rfl|rfl<;>rfl
  ·rcases hw1 with rfl|rfl<;>rfl
  ·rcases hw1 with rfl|rfl<;>rfl
  ·simp[ChangeMaps.setBlock,h1]
  ·simp[ChangeMaps.setBlock,h1]
theorem exec_entryM(x:Operand)(mb it:Nat)(es:Array MapEntry)(clk:Nat)(e:MapEntry)(seen:Array Nat)(ho:o.op=.entry x)(hx:a.eval x=.pointer (some ⟨it,0,none⟩))(hb:w.heap[mb]?=some (.map es clk))(hit:w.heap[it]?=some (.mapIter (some mb) clk (seen.push e.born) clk))(he:e∈es.toList)(hbn:(es.toList.map (·.born)).Nodup):
 (execOp a.eval o).run P w=.ok (.value (.tuple #[e.key,e.val])) w:=by
 unfold execOp;simp only[ho,hx,Sem.run_bind,run_entry_at (P:=P) w it mb clk seen es clk e hit hb he hbn,Result.andThen_ok,Sem.run_pure]
end
theorem exec_move{P:Program}{o:Oper}{a:Act}{w:World}(x:Operand)(ho:o.op=.move x):(execOp a.eval o).run P w=.ok (.value (a.eval x)) w:=by
 unfold execOp;simp only[ho];rfl
theorem exec_not{P:Program}{o:Oper}{a:Act}{w:World}(x:Operand)(t:TypeId)(b:Bool)(ho:o.op=.unOp .not t x)(hx:a.eval x=.bool b):(execOp a.eval o).run P w=.ok (.value (.bool (!b))) w:=by
 unfold execOp;simp[ho,hx,Op.unary]
theorem byteV_inj{a b:UInt8}(h:byteV a=byteV b):a=b:=by
 simp only[byteV,Value.int.injEq,true_and]at h;exact UInt8.toNat_inj.1 (by omega)
theorem dec_of{α:Type}[Nonempty α]{enc:α->Value}(hi:∀a b,enc a=enc b->a=b):∃dec:Value->α,∀x,dec (enc x)=x:=
 ⟨fun v=>Classical.epsilon fun x=>enc x=v,fun x=>hi _ _ (Classical.epsilon_spec (p:=fun y=>enc y=enc x) ⟨x,rfl⟩)⟩
theorem perm_of_map{α:Type}[Nonempty α]{enc:α->Value}(hi:∀a b,enc a=enc b->a=b){l m:List α}(h:(l.map enc).Perm (m.map enc)):l.Perm m:=by
 obtain⟨dec,hd⟩:=dec_of hi;have:=h.map dec
 simpa[List.map_map,Function.comp_def,hd]using this
theorem Mod.of_below0{w w':World}(h:Below w.heap.size w w'):Mod NoB w w':=(Mod.of_below h).mono fun k hk hn=>by omega
abbrev KeyS:={k:Key//KeyOk k}
instance:Inhabited KeyS:=⟨⟨(⟨#[]⟩,List.replicate 32 0),by simp[KeyOk]⟩⟩
def seenLeft(it n:Nat)(w:World):Nat:=match w.heap[it]? with|some (.mapIter _ _ seen _)=>n-seen.size|_=>0
theorem seenLeft_eq{it n mb clk c0:Nat}{seen:Array Nat}{w:World}(h:w.heap[it]?=some (.mapIter (some mb) clk seen c0)):seenLeft it n w=n-seen.size:=by simp[seenLeft,h]
end
section
open Go.RowKit Go.Proofs.Tryz Go.Lib
def shlU(x:UInt32)(n:Nat):UInt32:=UInt32.ofNat (x.toNat*2^n)
def shrU(x:UInt32)(n:Nat):UInt32:=UInt32.ofNat (x.toNat/2^n)
def rotr(x:UInt32)(n:Nat):UInt32:=shlU x (32-n) ||| shrU x n
def byteW(b:UInt8):UInt32:=UInt32.ofNat b.toNat
structure W8 where
 a:UInt32
 b:UInt32
 c:UInt32
 d:UInt32
 e:UInt32
 f:UInt32
 g:UInt32
 h:UInt32
deriving DecidableEq
def W8.list(s:W8):List UInt32:=[s.a,s.b,s.c,s.d,s.e,s.f,s.g,s.h]
def shaBegin:W8:=⟨0x6a09e667,0xbb67ae85,0x3c6ef372,0xa54ff53a,0x510e527f,0x9b05688c,0x1f83d9ab,0x5be0cd19⟩
def shaKeys:List UInt32:=[
 0x428a2f98,0x71374491,0xb5c0fbcf,0xe9b5dba5,0x3956c25b,0x59f111f1,0x923f82a4,0xab1c5ed5,
 0xd807aa98,0x12835b01,0x243185be,0x550c7dc3,0x72be5d74,0x80deb1fe,0x9bdc06a7,0xc19bf174,
 0xe49b69c1,0xefbe4786,0x0fc19dc6,0x240ca1cc,0x2de92c6f,0x4a7484aa,0x5cb0a9dc,0x76f988da,
 0x983e5152,0xa831c66d,0xb00327c8,0xbf597fc7,0xc6e00bf3,0xd5a79147,0x06ca6351,0x14292967,
 0x27b70a85,0x2e1b2138,0x4d2c6dfc,0x53380d13,0x650a7354,0x766a0abb,0x81c2c92e,0x92722c85,
 0xa2bfe8a1,0xa81a664b,0xc24b8b70,0xc76c51a3,0xd192e819,0xd6990624,0xf40e3585,0x106aa070,
 0x19a4c116,0x1e376c08,0x2748774c,0x34b0bcb5,0x391c0cb3,0x4ed8aa4a,0x5b9cca4f,0x682e6ff3,
 0x748f82ee,0x78a5636f,0x84c87814,0x8cc70208,0x90befffa,0xa4506ceb,0xbef9a3f7,0xc67178f2]
def wordAt(b:List UInt8)(i:Nat):UInt32:=
 ((shlU (byteW (b.getD (4*i) 0)) 24 ||| shlU (byteW (b.getD (4*i+1) 0)) 16) ||| shlU (byteW (b.getD (4*i+2) 0)) 8) ||| byteW (b.getD (4*i+3) 0)
def sig0(x:UInt32):UInt32:=(rotr x 7 ^^^ rotr x 18) ^^^ shrU x 3
def sig1(x:UInt32):UInt32:=(rotr x 17 ^^^ rotr x 19) ^^^ shrU x 10
def wordNext(w:List UInt32)(i:Nat):UInt32:=((w.getD (i-16) 0+sig0 (w.getD (i-15) 0))+w.getD (i-7) 0)+sig1 (w.getD (i-2) 0)
def zW(b:List UInt8):Nat->List UInt32
 |0=>[]
 |i+1=>zW b i++[if i<16 then wordAt b i else wordNext (zW b i) i]
theorem jN(b:List UInt8):∀n,(zW b n).length=n
 |0=>rfl
 |n+1=>by simp[zW,jN b n]
def roundX(c:W8)(k w:UInt32):UInt32:=(((c.h+((rotr c.e 6 ^^^ rotr c.e 11) ^^^ rotr c.e 25))+((c.e &&& c.f) ^^^ ((4294967295 ^^^ c.e) &&& c.g)))+k)+w
def roundY(c:W8):UInt32:=((rotr c.a 2 ^^^ rotr c.a 13) ^^^ rotr c.a 22)+(((c.a &&& c.b) ^^^ (c.a &&& c.c)) ^^^ (c.b &&& c.c))
def round(c:W8)(k w:UInt32):W8:=⟨roundX c k w+roundY c,c.a,c.b,c.c,c.d+roundX c k w,c.e,c.f,c.g⟩
def rounds(ks ws:List UInt32):Nat->W8->W8
 |0,c=>c
 |i+1,c=>round (rounds ks ws i c) (ks.getD i 0) (ws.getD i 0)
def addW(s t:W8):W8:=⟨s.a+t.a,s.b+t.b,s.c+t.c,s.d+t.d,s.e+t.e,s.f+t.f,s.g+t.g,s.h+t.h⟩
def blockL(s:W8)(b:List UInt8):W8:=addW s (rounds shaKeys (zW b 64) 64 s)
def zY:Nat->W8->List UInt8->W8
 |0,s,_=>s
 |n+1,s,m=>zY n (blockL s (m.take 64)) (m.drop 64)
theorem blocksL_add:∀(n k:Nat)(s:W8)(m:List UInt8),zY (n+k) s m=zY k (zY n s m) (m.drop (64*n))
 |0,k,s,m=>by simp[zY]
 |n+1,k,s,m=>by
  rw[show n+1+k=(n+k)+1 by omega];simp only[zY];rw[blocksL_add n k,List.drop_drop]
  congr 2;omega
theorem blocksL_app:∀(n:Nat)(s:W8)(m t:List UInt8),64*n<=m.length->zY n s (m++t)=zY n s m
 |0,_,_,_,_=>rfl
 |n+1,s,m,t,h=>by
  simp only[zY];rw[List.take_append_of_le_length (by omega),List.drop_append_of_le_length (by omega),blocksL_app n _ _ _ (by simp;omega)]
def padN(n:Nat):Nat:=(119-n%64)%64
def xS(n:Nat):List UInt8:=(List.range 8).map fun i=>UInt8.ofNat (n*8/2^(56-8*i))
def padL(m:List UInt8):List UInt8:=m++[128]++List.replicate (padN m.length) 0++xS m.length
theorem lenBytes_len(n:Nat):(xS n).length=8:=by simp[xS]
theorem padL_len(m:List UInt8):(padL m).length=m.length+9+padN m.length/\(padL m).length%64=0:=by
 have h:(padL m).length=m.length+9+padN m.length:=by simp[padL,lenBytes_len];omega
 refine⟨h,?_⟩;rw[h];unfold padN;omega
def outByte(s:W8)(i:Nat):UInt8:=UInt8.ofNat (shrU (s.list.getD (i/4) 0) (24-8*(i%4))).toNat
def outL(s:W8):List UInt8:=(List.range 32).map (outByte s)
def shaL(m:List UInt8):List UInt8:=outL (zY ((padL m).length/64) shaBegin (padL m))
theorem shaL_len(m:List UInt8):(shaL m).length=32:=by simp[shaL,outL]
def wordV(x:UInt32):Value:=.int .u32 (x.toNat:Int)
def qK(l:List UInt32):Array Value:=(l.map wordV).toArray
theorem qH(l:List UInt32):(qK l).size=l.length:=by simp[qK]
theorem yV{l:List UInt32}{i:Nat}(h:i<l.length):(qK l)[i]?=some (wordV l[i]):=by simp[qK,h]
theorem zO(l:List UInt32):∀c∈qK l,c.oneCell'=true:=by
 intro c hc
 simp[qK]at hc
 obtain⟨x,_,rfl⟩:=hc
 rfl
section
variable{P:Program}{w:World}{o:Oper}{a:Act}
theorem w_lt(m:UInt32):m.toNat<4294967296:=m.toNat_lt
theorem exec_xor32(t:TypeId)(x y:Operand)(yt:TypeId)(m n:UInt32)(ho:o.op=.binOp .xor t x y yt)(hx:a.eval x=wordV m)(hy:a.eval y=wordV n):(execOp a.eval o).run P w=.ok (.value (wordV (m ^^^ n))) w:=by
 have hb:=u32_xor_nat m.toNat n.toNat (w_lt m) (w_lt n);unfold execOp;unfold wordV at hx hy |-;simp only[ho,hx,hy]
 go_simp
theorem exec_and32(t:TypeId)(x y:Operand)(yt:TypeId)(m n:UInt32)(ho:o.op=.binOp .and t x y yt)(hx:a.eval x=wordV m)(hy:a.eval y=wordV n):(execOp a.eval o).run P w=.ok (.value (wordV (m &&& n))) w:=by
 have hb:=u32_and_nat m.toNat n.toNat (w_lt m) (w_lt n);unfold execOp;unfold wordV at hx hy |-;simp only[ho,hx,hy]
 go_simp
theorem exec_or32(t:TypeId)(x y:Operand)(yt:TypeId)(m n:UInt32)(ho:o.op=.binOp .or t x y yt)(hx:a.eval x=wordV m)(hy:a.eval y=wordV n):(execOp a.eval o).run P w=.ok (.value (wordV (m ||| n))) w:=by
 have hb:=u32_or_nat m.toNat n.toNat (w_lt m) (w_lt n);unfold execOp;unfold wordV at hx hy |-;simp only[ho,hx,hy]
 go_simp
theorem exec_add32(t:TypeId)(x y:Operand)(yt:TypeId)(m n:UInt32)(ho:o.op=.binOp .add t x y yt)(hx:a.eval x=wordV m)(hy:a.eval y=wordV n):(execOp a.eval o).run P w=.ok (.value (wordV (m+n))) w:=by
 unfold execOp;unfold wordV at hx hy |-;simp only[ho,hx,hy]
 go_simp
 rw[IntKind.wrap_u32']
theorem exec_not32(t:TypeId)(x:Operand)(m:UInt32)(ho:o.op=.unOp .xor t x)(hx:a.eval x=wordV m):(execOp a.eval o).run P w=.ok (.value (wordV (4294967295 ^^^ m))) w:=by
 have hb:=u32_xor_nat 4294967295 m.toNat (by omega) (w_lt m);unfold execOp;unfold wordV at hx |-;simp only[ho,hx]
 go_simp
 exact hb
theorem exec_shl32(t:TypeId)(x y:Operand)(yt:TypeId)(m:UInt32)(k:IntKind)(n:Nat)(ho:o.op=.binOp .shl t x y yt)(hx:a.eval x=wordV m)(hy:a.eval y=.int k (n:Int))(hn:n<=32):(execOp a.eval o).run P w=.ok (.value (wordV (shlU m n))) w:=by
 unfold execOp;unfold wordV shlU at*;simp only[ho,hx,hy]
 go_simp
 rw[IntKind.wrap_u32']
theorem exec_shr32(t:TypeId)(x y:Operand)(yt:TypeId)(m:UInt32)(k:IntKind)(n:Nat)(ho:o.op=.binOp .shr t x y yt)(hx:a.eval x=wordV m)(hy:a.eval y=.int k (n:Int))(hn:n<=32):(execOp a.eval o).run P w=.ok (.value (wordV (shrU m n))) w:=by
 unfold execOp;unfold wordV shrU at*;simp only[ho,hx,hy]
 go_simp
 have h1:(0:Int)<=(m.toNat:Int)/2^n:=Int.ediv_nonneg (by omega) (Int.le_of_lt (Int.pow_pos (by omega)))
 have h2:(m.toNat:Int)/2^n<=(m.toNat:Int):=Int.ediv_le_self _ (by omega);have h3:=w_lt m;rw[Int.emod_eq_of_lt h1 (by omega)]
theorem xA(t u:TypeId)(x:Operand)(m:UInt8)(ho:o.op=.convert t u x)(hx:a.eval x=byteV m)(ht:(P.underlying t).isSome=true)(hu:P.underlying u=some (.int .u32)):
 (execOp a.eval o).run P w=.ok (.value (wordV (byteW m))) w:=by
 unfold execOp;unfold byteV at hx;simp only[ho,hx];have hk:P.intKind u=.u32:=by simp[Program.intKind,hu]
 have h1:=run_convert_int (P:=P) w t u .u8 (m.toNat:Int) ht (by rw[hk];exact hu);rw[hk]at h1
 have h2:IntKind.u32.wrap (m.toNat:Int)=((byteW m).toNat:Int):=by
  rw[IntKind.wrap_u32'];unfold byteW;have h9:=m.toNat_lt
  simp
  omega
 rw[h2]at h1;rw[Sem.run_bind,h1]
 rfl
theorem exec_byte_of_word(t u:TypeId)(x:Operand)(m:UInt32)(ho:o.op=.convert t u x)(hx:a.eval x=wordV m)(ht:(P.underlying t).isSome=true)(hu:P.underlying u=some (.int .u8)):
 (execOp a.eval o).run P w=.ok (.value (byteV (UInt8.ofNat m.toNat))) w:=by
 unfold execOp;unfold wordV at hx;simp only[ho,hx];have hk:P.intKind u=.u8:=by simp[Program.intKind,hu]
 have h1:=run_convert_int (P:=P) w t u .u32 (m.toNat:Int) ht (by rw[hk];exact hu);rw[hk]at h1
 have h2:IntKind.u8.wrap (m.toNat:Int)=((UInt8.ofNat m.toNat).toNat:Int):=by
  rw[IntKind.wrap_u8']
  simp
 rw[h2]at h1;rw[Sem.run_bind,h1]
 rfl
end
section
variable{P:Program}{ops:Array Oper}{Q:Exit->Act->World->Prop}{S:World->Prop}{o:Oper}{r:List (Oper×Nat)}{a:Act}{w:World}
theorem zM(t:TypeId)(x y:Operand)(yt:TypeId)(m n:UInt32)(hw:Region.wanted o (yielded ops a.tmps)=true)(ho:o.op=.binOp .xor t x y yt)(hx:a.eval x=wordV m)(hy:a.eval y=wordV n)
 (h:wpPi P ops Q S r (a.put o.dst (wordV (m ^^^ n))) w):wpPi P ops Q S ((o,3)::r) a w:=qE hw (fun _=>exec_xor32 t x y yt m n ho hx hy) h
theorem yP(t:TypeId)(x y:Operand)(yt:TypeId)(m n:UInt32)(hw:Region.wanted o (yielded ops a.tmps)=true)(ho:o.op=.binOp .and t x y yt)(hx:a.eval x=wordV m)(hy:a.eval y=wordV n)
 (h:wpPi P ops Q S r (a.put o.dst (wordV (m &&& n))) w):wpPi P ops Q S ((o,3)::r) a w:=qE hw (fun _=>exec_and32 t x y yt m n ho hx hy) h
theorem wpPi_or32(t:TypeId)(x y:Operand)(yt:TypeId)(m n:UInt32)(hw:Region.wanted o (yielded ops a.tmps)=true)(ho:o.op=.binOp .or t x y yt)(hx:a.eval x=wordV m)(hy:a.eval y=wordV n)
 (h:wpPi P ops Q S r (a.put o.dst (wordV (m ||| n))) w):wpPi P ops Q S ((o,3)::r) a w:=qE hw (fun _=>exec_or32 t x y yt m n ho hx hy) h
theorem zN(t:TypeId)(x y:Operand)(yt:TypeId)(m n:UInt32)(hw:Region.wanted o (yielded ops a.tmps)=true)(ho:o.op=.binOp .add t x y yt)(hx:a.eval x=wordV m)(hy:a.eval y=wordV n)
 (h:wpPi P ops Q S r (a.put o.dst (wordV (m+n))) w):wpPi P ops Q S ((o,3)::r) a w:=qE hw (fun _=>exec_add32 t x y yt m n ho hx hy) h
theorem wpPi_not32(t:TypeId)(x:Operand)(m:UInt32)(hw:Region.wanted o (yielded ops a.tmps)=true)(ho:o.op=.unOp .xor t x)(hx:a.eval x=wordV m)
 (h:wpPi P ops Q S r (a.put o.dst (wordV (4294967295 ^^^ m))) w):wpPi P ops Q S ((o,3)::r) a w:=qE hw (fun _=>exec_not32 t x m ho hx) h
theorem jP(t:TypeId)(x y:Operand)(yt:TypeId)(m:UInt32)(k:IntKind)(n:Nat)(hw:Region.wanted o (yielded ops a.tmps)=true)(ho:o.op=.binOp .shl t x y yt)(hx:a.eval x=wordV m)(hy:a.eval y=.int k (n:Int))(hn:n<=32)
 (h:wpPi P ops Q S r (a.put o.dst (wordV (shlU m n))) w):wpPi P ops Q S ((o,3)::r) a w:=qE hw (fun _=>exec_shl32 t x y yt m k n ho hx hy hn) h
theorem jO(t:TypeId)(x y:Operand)(yt:TypeId)(m:UInt32)(k:IntKind)(n:Nat)(hw:Region.wanted o (yielded ops a.tmps)=true)(ho:o.op=.binOp .shr t x y yt)(hx:a.eval x=wordV m)(hy:a.eval y=.int k (n:Int))(hn:n<=32)
 (h:wpPi P ops Q S r (a.put o.dst (wordV (shrU m n))) w):wpPi P ops Q S ((o,3)::r) a w:=qE hw (fun _=>exec_shr32 t x y yt m k n ho hx hy hn) h
end
theorem zR{P:Program}{ops:Array Oper}{Q:Exit->Act->World->Prop}{S:World->Prop}{o:Oper}{r:List (Oper×Nat)}{a:Act}{w:World}(t:TypeId)(x y:Operand)(yt:TypeId)(m n d:Int)(hw:Region.wanted o (yielded ops a.tmps)=true)(ho:o.op=.binOp .sub t x y yt)(hx:a.eval x=.int .i64 m)(hy:a.eval y=.int .i64 n)
 (hd:m-n=d)(h1:-9223372036854775808<=d)(h2:d<=9223372036854775807)(h:wpPi P ops Q S r (a.put o.dst (.int .i64 d)) w):wpPi P ops Q S ((o,3)::r) a w:=by
 subst hd;exact xB t x y yt m n hw ho hx hy h1 h2 h
theorem qY{P:Program}{ops:Array Oper}{Q:Exit->Act->World->Prop}{S:World->Prop}{o:Oper}{r:List (Oper×Nat)}{a:Act}{w:World}(t:TypeId)(x y:Operand)(yt:TypeId)(m n d:Int)(hw:Region.wanted o (yielded ops a.tmps)=true)(ho:o.op=.binOp .add t x y yt)(hx:a.eval x=.int .i64 m)(hy:a.eval y=.int .i64 n)
 (hd:m+n=d)(h1:-9223372036854775808<=d)(h2:d<=9223372036854775807)(h:wpPi P ops Q S r (a.put o.dst (.int .i64 d)) w):wpPi P ops Q S ((o,3)::r) a w:=by
 subst hd;exact wpPi_add t x y yt m n hw ho hx hy h1 h2 h
theorem run_indexAt_arr{P:Program}{t e:TypeId}{b off len n i:Nat}(hu:P.underlying t=some (.array len e))(hi:(P.info? e).map (·.size)=some n)(h:i<len)(w:World):
 (Instr.indexAt t (.pointer (some ⟨b,off,none⟩)) (.int .i64 i)).run P w=.ok (.pointer (some ⟨b,off+i*n,none⟩)) w:=by
 have hadd:(⟨b,off,none⟩:Addr).add (i*n)=⟨b,off+i*n,none⟩:=by unfold Addr.add;split<;>simp_all
 cases hq:P.info? e with
 |none=>simp[hq]at hi
 |some j=>
  have hs:j.size=n:=by simpa[hq]using hi
  simp[Instr.indexAt,Instr.sureAddr,asIntOf,run_underlying hu,h,sizeOf,typeInfo,hq,hs,hadd]
theorem qJ{P:Program}{ops:Array Oper}{Q:Exit->Act->World->Prop}{S:World->Prop}{o:Oper}{r:List (Oper×Nat)}{a:Act}{w:World}(t:TypeId)(x y:Operand)(e:TypeId)(b off len n i:Nat)(hw:Region.wanted o (yielded ops a.tmps)=true)(ho:o.op=.indexAddr t x y)
 (hx:a.eval x=.pointer (some ⟨b,off,none⟩))(hy:a.eval y=.int .i64 i)(hu:P.underlying t=some (.array len e))(hi:(P.info? e).map (·.size)=some n)(hlt:i<len)
 (h:wpPi P ops Q S r (a.put o.dst (.pointer (some ⟨b,off+i*n,none⟩))) w):wpPi P ops Q S ((o,3)::r) a w:=
 qE hw (fun w=>by unfold execOp;simp only[ho,hx,hy,Sem.run_bind,run_indexAt_arr hu hi hlt,Result.andThen_ok,Sem.run_pure]) h
theorem exec_neq_str{P:Program}{w:World}{o:Oper}{a:Act}(t:TypeId)(x y:Operand)(yt:TypeId)(ho:o.op=.binOp .neq t x y yt)(m n:ByteArray)
 (hx:a.eval x=.string m)(hy:a.eval y=.string n)(b:Bool)(hb:decide (m≠n)=b):(execOp a.eval o).run P w=.ok (.value (.bool b)) w:=by
 subst hb;unfold execOp
 have h:(!(m.toList==n.toList))=decide (m≠n):=by
  rw[<-beq_toListBytes,Bool.eq_iff_iff,decide_eq_true_iff];obtain⟨⟨x⟩⟩:=m;obtain⟨⟨y⟩⟩:=n
  show(!((⟨x⟩:Array UInt8)==⟨y⟩))=true↔_
  simp
 simp[ho,hx,hy,eqGuard,binOp,Op.stringOp,h]
theorem xG{P:Program}{ops:Array Oper}{Q:Exit->Act->World->Prop}{S:World->Prop}{o:Oper}{r:List (Oper×Nat)}{a:Act}{w:World}(t:TypeId)(x y:Operand)(yt:TypeId)(m n d:Int)(hw:Region.wanted o (yielded ops a.tmps)=true)(ho:o.op=.binOp .mul t x y yt)(hx:a.eval x=.int .i64 m)(hy:a.eval y=.int .i64 n)
 (hd:m*n=d)(h1:-9223372036854775808<=d)(h2:d<=9223372036854775807)(h:wpPi P ops Q S r (a.put o.dst (.int .i64 d)) w):wpPi P ops Q S ((o,3)::r) a w:=by
 subst hd;exact wpPi_mul t x y yt m n hw ho hx hy h1 h2 h
end
section
open Go.Proofs.Tryz Go.Lib
end
section
open Go.RowKit Go.Proofs.Tryz Go.Lib
section
variable{P:Program}{w:World}{o:Oper}{a:Act}
theorem exec_conv_uint(t u:TypeId)(x:Operand)(m:Int)(ho:o.op=.convert t u x)(hx:a.eval x=.int .i64 m)(ht:(P.underlying t).isSome=true)(hu:P.underlying u=some (.int .u64))(v:Int)(hv:IntKind.u64.wrap m=v):
 (execOp a.eval o).run P w=.ok (.value (.int .u64 v)) w:=by
 subst hv;unfold execOp;simp only[ho,hx];have hk:P.intKind u=.u64:=by simp[Program.intKind,hu]
 have h1:=run_convert_int (P:=P) w t u .i64 m ht (by rw[hk];exact hu);rw[hk]at h1;rw[Sem.run_bind,h1]
 rfl
theorem exec_and64(t:TypeId)(x y:Operand)(yt:TypeId)(m n:Int)(ho:o.op=.binOp .and t x y yt)(hx:a.eval x=.int .u64 m)(hy:a.eval y=.int .u64 n)(v:Int)(hv:bits .and .u64 m n=v):(execOp a.eval o).run P w=.ok (.value (.int .u64 v)) w:=by
 subst hv;unfold execOp;simp only[ho,hx,hy]
 go_simp
theorem exec_sub64(t:TypeId)(x y:Operand)(yt:TypeId)(m n:Int)(ho:o.op=.binOp .sub t x y yt)(hx:a.eval x=.int .u64 m)(hy:a.eval y=.int .u64 n)(v:Int)(hv:IntKind.u64.wrap (m-n)=v):(execOp a.eval o).run P w=.ok (.value (.int .u64 v)) w:=by
 subst hv;unfold execOp;simp only[ho,hx,hy]
 go_simp
theorem exec_neg(t:TypeId)(x:Operand)(m:Int)(ho:o.op=.unOp .neg t x)(hx:a.eval x=.int .i64 m)(v:Int)(hv:IntKind.i64.wrap (0-m)=v):(execOp a.eval o).run P w=.ok (.value (.int .i64 v)) w:=by
 subst hv;unfold execOp;simp only[ho,hx]
 go_simp
end
theorem and31(n:Nat)(h:0<n/\n<32):bits .and .u64 ((18446744073709551616-n:Nat):Int) ((31:Nat):Int)=((32-n:Nat):Int):=by
 rw[u64_and_nat _ _ (by omega) (by omega)]
 congr 1
 rw[show(31:Nat)=2^5-1 by rfl,Nat.and_two_pow_sub_one_eq_mod];omega
theorem rotL_any(x:UInt32)(n:Nat)(h:0<n/\n<32)(w:World):Calls prog 299 #[wordV x,.int .i64 (-(n:Int))] w (RetE (wordV (rotr x n)) w):=by
 go_enter func299,ntmps299;go_upto_region 1 with(fail)
 have h1:IntKind.u64.wrap (-(n:Int))=((18446744073709551616-n:Nat):Int):=by simp[IntKind.wrap,IntKind.bits,IntKind.signed];omega
 have h2:=and31 n h;have h3:IntKind.u64.wrap ((32:Int)-((32-n:Nat):Int))=((n:Nat):Int):=by simp[IntKind.wrap,IntKind.bits,IntKind.signed];omega
 have H1:=hid h1;have H2:=hid h2;have H3:=hid h3;clear h1 h2 h3;refine wpR [3,3,3,3] ?_;simp only[stz]
 refine qE (v:=.int .u64 ((18446744073709551616-n:Nat):Int)) rfl (fun w'=>exec_conv_uint 3 337 _ _ rfl rfl (by kernel_rfl) underlying337 _ H1.out) ?_;simp only[nmz]
 refine qE (v:=.int .u64 ((32-n:Nat):Int)) rfl (fun w'=>exec_and64 _ _ _ _ ((18446744073709551616-n:Nat):Int) ((31:Nat):Int) rfl rfl rfl _ H2.out) ?_
 simp only[stz];go_upto_region 2 with(fail);refine wpR [3,3,3,3,3,3,3,3,3] ?_;simp only[stz];refine jP _ _ _ _ _ .u64 (32-n) rfl rfl rfl rfl (by omega) ?_
 simp only[stz];refine qE (v:=.int .u64 ((n:Nat):Int)) rfl (fun w'=>exec_sub64 _ _ _ _ (32:Int) ((32-n:Nat):Int) rfl rfl rfl _ H3.out) ?_;simp only[nmz]
 refine jO _ _ _ _ _ .u64 n rfl rfl rfl rfl (by omega) ?_;simp only[nmz];refine wpPi_or32 _ _ _ _ _ _ rfl rfl rfl rfl ?_;simp only[stz];go_wp2;go_ret;exact⟨rfl,rfl⟩
theorem yQ(x:UInt32)(n:Nat)(h:0<n/\n<32)(w:World):Calls prog 257 #[wordV x,.int .i64 (n:Int)] w (RetE (wordV (rotr x n)) w):=by
 go_enter func257,ntmps257;have hneg:IntKind.i64.wrap (0-(n:Int))=-(n:Int):=by simp[IntKind.wrap,IntKind.bits,IntKind.signed];omega
 have HN:=hid hneg;clear hneg;go_upto_region 1 with(fail);refine wpR [3,3,3,1,3] ?_;simp only[stz]
 refine qE (v:=.int .i64 (-(n:Int))) rfl (fun w'=>exec_neg _ _ (n:Int) rfl rfl _ HN.out) ?_;simp only[nmz];refine wpDo rfl ?_
 go_wp2_with (go_at_call 299;refine(rotL_any x n h _).mono ?_;rintro _ wq ⟨rfl,hw⟩;obtain rfl:=hw.symm);simp only[stz];go_wp2;go_ret;exact⟨rfl,rfl⟩
def rowW(b:List UInt8)(n:Nat):List UInt32:=zW b n++List.replicate (64-n) 0
theorem rowW_len(b:List UInt8){n:Nat}(h:n<=64):(rowW b n).length=64:=by simp[rowW,jN];omega
theorem rowW_at(b:List UInt8){n i:Nat}(h:n<=64)(hi:i<n):(qK (rowW b n))[i]?=some (wordV ((zW b n).getD i 0)):=by
 have hl:=jN b n;rw[yV (by rw[rowW_len b h];omega)]
 congr 2
 unfold rowW;rw[List.getElem_append_left (by omega),List.getD_eq_getElem?_getD,List.getElem?_eq_getElem (by omega)]
 rfl
theorem rowW_set(b:List UInt8){n:Nat}(h:n<64):(qK (rowW b n)).setIfInBounds n (wordV (if n<16 then wordAt b n else wordNext (zW b n) n))=qK (rowW b (n+1)):=by
 have hl:=jN b n
 apply Array.toList_inj.1
 unfold qK rowW;rw[Array.toList_setIfInBounds];simp only[List.map_append,List.map_replicate,zW];rw[List.set_append_right _ _ (by simp[hl])]
 simp only[List.length_map,hl,Nat.sub_self];rw[show 64-n=(64-(n+1))+1 by omega,List.replicate_succ,List.set_cons_zero]
 simp
def SpreadRel(b:List UInt8)(bw:Nat)(w0:World)(i:Value)(w:World):Prop:=∃n:Nat,n<=64/\i=.int .i64 n/\w.heap[bw]?=some (.cells (qK (rowW b n)) 340 (0,0))/\Mod NoB w0 w
theorem w64Z:(prog.info? 340).bind (·.zero)=some (.agg (qK (List.replicate 64 0))):=by kernel_rfl
theorem spread_any{own:Bool}{G:Nat->Prop}{v:Value}{b:List UInt8}{w:World}(hb:Sl own w G 1 ByteC v b)(hl:b.length=64):Calls prog 256 #[v] w (RetM (.agg (qK (zW b 64))) w):=by
 obtain⟨av,cap,rfl,hlen,hat⟩:=hb.at;obtain⟨bb,off,rfl,-,-,hcs⟩:=hat 0 (by omega)
 have hbyte:∀j,j<64->w.cell? ⟨bb,off+j*1,none⟩=some (byteV (b.getD j 0)):=fun j hj=>by
  obtain⟨cs,_,rfl,hc⟩:=hcs j (by omega);rw[List.getD_eq_getElem?_getD,List.getElem?_eq_getElem (by omega)];exact CellsAt.one.1 hc
 have hbb:bb<w.heap.size:=block_lt_of_cell (hbyte 0 (by omega));have HB:=hid hbyte;clear hat hcs hb hbyte;go_enter func256,ntmps256;go_upto_region 0 with(fail)
 refine wpR [1] ?_;simp only[stz];refine wpD (qP 340 _ (by rfl) w64Z (fun w1 hB1 hm1 hs1=>?_))
 replace hB1:w1.heap[w.heap.size]?=some (.cells (qK (List.replicate 64 0)) 340 (0,0)):=hB1;simp only[stz];go_wp2
 go_loopw [6] (SpreadRel b w.heap.size w) (fun i _=>64-(intOf i).toNat)
 case atStart=>exact⟨0,by omega,rfl,by simpa[rowW,zW]using hB1,hm1⟩
 case round=>
  rename World=>wr
  clear hB1 hm1 hs1;obtain⟨n,hn,rfl,hrow,hM⟩:=hrel;have hbne:¬bb=w.heap.size:=by omega
  by_cases hlt:n<64
  ·have hz:(n:Int)<64:=by omega
   have hsz:=qH (rowW b n);rw[rowW_len b hn]at hsz;have hset:=rowW_set b hlt
   by_cases h16:n<16
   ·have hz2:(n:Int)<16:=by omega
    rw[if_pos h16]at hset;have hbw:∀j,j<64->wr.cell? ⟨bb,off+j*1,none⟩=some (byteV (b.getD j 0)):=fun j hj=>hM.cell id (HB.out j hj);have HBW:=hid hbw
    have HSET:=hid hset;have h0:4*n<b.length:=by omega
    have h1:4*n+1<b.length:=by omega
    have h2:4*n+2<b.length:=by omega
    have h3:4*n+3<b.length:=by omega
    clear hbw hset HB;go_upto_region 5 with(fail);have hS:Mod (fun k=>k=w.heap.size) wr wr.drew:=(Mod.refl _ _).drew
    refine wpRZ [3,3,3,3,3,0,3,3,3,3,3,3,3,0,3,3,3,3,3,3,3,3,0,3,3,3,3,3,3,3,3,0,3,3,3,1] [] (fun w'=>Mod (fun k=>k=w.heap.size) wr w') hS ?_
    simp only[stz];refine xG _ _ _ _ 4 (n:Int) ((4*n:Nat):Int) rfl rfl rfl rfl (by omega) (by omega) (by omega) ?_;simp only[nmz];refine wpPI underlying53 1 h0 ?_
    simp only[nmz];refine wpLd 5 bb (off+4*n*1) (fun w' hS=>hS.cell hbne (HBW.out (4*n) (by omega))) underlying5 ?_;simp only[nmz]
    refine qE rfl (fun w'=>xA _ _ _ _ rfl rfl (by kernel_rfl) underlying301) ?_;simp only[nmz]
    refine jP _ _ _ _ _ .u64 24 rfl rfl rfl rfl (by omega) ?_;simp only[stz]
    refine xG _ _ _ _ 4 (n:Int) ((4*n:Nat):Int) rfl rfl rfl rfl (by omega) (by omega) (by omega) ?_;simp only[nmz]
    refine qY _ _ _ _ ((4*n:Nat):Int) 1 ((4*n+1:Nat):Int) rfl rfl rfl rfl (by omega) (by omega) (by omega) ?_;simp only[nmz];refine wpPI underlying53 1 h1 ?_
    simp only[nmz];refine wpLd 5 bb (off+(4*n+1)*1) (fun w' hS=>hS.cell hbne (HBW.out (4*n+1) (by omega))) underlying5 ?_;simp only[nmz]
    refine qE rfl (fun w'=>xA _ _ _ _ rfl rfl (by kernel_rfl) underlying301) ?_;simp only[nmz]
    refine jP _ _ _ _ _ .u64 16 rfl rfl rfl rfl (by omega) ?_;simp only[nmz];refine wpPi_or32 _ _ _ _ _ _ rfl rfl rfl rfl ?_;simp only[stz]
    refine xG _ _ _ _ 4 (n:Int) ((4*n:Nat):Int) rfl rfl rfl rfl (by omega) (by omega) (by omega) ?_;simp only[nmz]
    refine qY _ _ _ _ ((4*n:Nat):Int) 2 ((4*n+2:Nat):Int) rfl rfl rfl rfl (by omega) (by omega) (by omega) ?_;simp only[nmz];refine wpPI underlying53 1 h2 ?_
    simp only[nmz];refine wpLd 5 bb (off+(4*n+2)*1) (fun w' hS=>hS.cell hbne (HBW.out (4*n+2) (by omega))) underlying5 ?_;simp only[nmz]
    refine qE rfl (fun w'=>xA _ _ _ _ rfl rfl (by kernel_rfl) underlying301) ?_;simp only[nmz]
    refine jP _ _ _ _ _ .u64 8 rfl rfl rfl rfl (by omega) ?_;simp only[nmz];refine wpPi_or32 _ _ _ _ _ _ rfl rfl rfl rfl ?_;simp only[stz]
    refine xG _ _ _ _ 4 (n:Int) ((4*n:Nat):Int) rfl rfl rfl rfl (by omega) (by omega) (by omega) ?_;simp only[nmz]
    refine qY _ _ _ _ ((4*n:Nat):Int) 3 ((4*n+3:Nat):Int) rfl rfl rfl rfl (by omega) (by omega) (by omega) ?_;simp only[nmz];refine wpPI underlying53 1 h3 ?_
    simp only[nmz];refine wpLd 5 bb (off+(4*n+3)*1) (fun w' hS=>hS.cell hbne (HBW.out (4*n+3) (by omega))) underlying5 ?_;simp only[nmz]
    refine qE rfl (fun w'=>xA _ _ _ _ rfl rfl (by kernel_rfl) underlying301) ?_;simp only[nmz];refine wpPi_or32 _ _ _ _ _ _ rfl rfl rfl rfl ?_
    simp only[nmz];refine qJ _ _ _ _ _ _ _ _ rfl rfl rfl rfl underlying340 (n:=1) (by kernel_rfl) hlt ?_;simp only[nmz];refine qM rfl (fun K hK=>?_)
    refine qT 301 _ _ w.heap.size (n*1) (wordV (wordAt b n)) (by rfl) (by rfl) (by rfl) rfl (by kernel_rfl) _ _ (show wr.drew.heap[w.heap.size]?=_ from hrow) (by rw[hsz];omega) (fun w2 hB2 hm2=>?_)
    rw[Nat.mul_one,HSET.out]at hB2;replace hS:=hS.trans hm2 (fun _ _ h=>h);refine hK _ _ hS ?_;clear hK K;simp only[stz]
    have hM2:Mod NoB w w2:=hM.transB hS (Nat.le_refl _);clear hM hS hm2 hrow;go_wp2
    go_roundw
    case rel=>exact⟨n+1,by omega,by go_num,hB2,hM2⟩
    case measure=>simp[intOf];omega
   ·have hz2:¬(n:Int)<16:=by omega
    rw[if_neg h16]at hset;have hwd:∀i,i<n->(qK (rowW b n))[i]?=some (wordV ((zW b n).getD i 0)):=fun i hi=>rowW_at b hn hi;have HW:=hid hwd
    have HSET:=hid hset;have hk15:n-15<64:=by omega
    have hk2:n-2<64:=by omega
    have hk16:n-16<64:=by omega
    have hk7:n-7<64:=by omega
    clear hwd hset HB;go_upto_region 6 with(fail);have hS:Mod NoB wr wr.drew:=(Mod.refl _ _).drew
    refine wpRZ [3,3,3,0,0,3,3,3,0,0,3,3,3,3,0,3,3,3] [] (fun w'=>Mod NoB wr w') hS ?_;simp only[stz]
    refine zR _ _ _ _ (n:Int) 15 ((n-15:Nat):Int) rfl rfl rfl rfl (by omega) (by omega) (by omega) ?_;simp only[nmz]
    refine qJ _ _ _ _ _ _ _ _ rfl rfl rfl rfl underlying340 (n:=1) (by kernel_rfl) hk15 ?_;simp only[nmz]
    refine wpLd 301 w.heap.size ((n-15)*1) (fun w' hS=>by rw[cell_of_row _ _ _ _ _ _ (hS.obj id hrow),Nat.mul_one];exact HW.out (n-15) (by omega)) underlying301 ?_
    simp only[nmz];refine jH (f:=257) rfl ?_ (fun w' hS=>yQ ((zW b n).getD (n-15) 0) 7 (by omega) w') ?_
    ·exact zI 257 _ _ rfl _ func257 rfl (by kernel_rfl) _ rfl
    simp only[stz];refine zR _ _ _ _ (n:Int) 15 ((n-15:Nat):Int) rfl rfl rfl rfl (by omega) (by omega) (by omega) ?_;simp only[nmz]
    refine qJ _ _ _ _ _ _ _ _ rfl rfl rfl rfl underlying340 (n:=1) (by kernel_rfl) hk15 ?_;simp only[nmz]
    refine wpLd 301 w.heap.size ((n-15)*1) (fun w' hS=>by rw[cell_of_row _ _ _ _ _ _ (hS.obj id hrow),Nat.mul_one];exact HW.out (n-15) (by omega)) underlying301 ?_
    simp only[nmz];refine jH (f:=257) rfl ?_ (fun w' hS=>yQ ((zW b n).getD (n-15) 0) 18 (by omega) w') ?_
    ·exact zI 257 _ _ rfl _ func257 rfl (by kernel_rfl) _ rfl
    simp only[nmz];refine zM _ _ _ _ _ _ rfl rfl rfl rfl ?_;simp only[stz]
    refine zR _ _ _ _ (n:Int) 15 ((n-15:Nat):Int) rfl rfl rfl rfl (by omega) (by omega) (by omega) ?_;simp only[nmz]
    refine qJ _ _ _ _ _ _ _ _ rfl rfl rfl rfl underlying340 (n:=1) (by kernel_rfl) hk15 ?_;simp only[nmz]
    refine wpLd 301 w.heap.size ((n-15)*1) (fun w' hS=>by rw[cell_of_row _ _ _ _ _ _ (hS.obj id hrow),Nat.mul_one];exact HW.out (n-15) (by omega)) underlying301 ?_
    simp only[nmz];refine jO _ _ _ _ _ .u64 3 rfl rfl rfl rfl (by omega) ?_;simp only[nmz];refine zM _ _ _ _ _ _ rfl rfl rfl rfl ?_;simp only[stz]
    replace hM:=hM.trans0 hS;replace hrow:=hS.obj id hrow;clear hS;generalize wr.drew=wy at*;go_upto_region 7 with(fail)
    have hS:Mod NoB wy wy.drew:=(Mod.refl _ _).drew;refine wpRZ [3,3,3,0,0,3,3,3,0,0,3,3,3,3,0,3,3,3] [] (fun w'=>Mod NoB wy w') hS ?_;simp only[stz]
    refine zR _ _ _ _ (n:Int) 2 ((n-2:Nat):Int) rfl rfl rfl rfl (by omega) (by omega) (by omega) ?_;simp only[nmz]
    refine qJ _ _ _ _ _ _ _ _ rfl rfl rfl rfl underlying340 (n:=1) (by kernel_rfl) hk2 ?_;simp only[nmz]
    refine wpLd 301 w.heap.size ((n-2)*1) (fun w' hS=>by rw[cell_of_row _ _ _ _ _ _ (hS.obj id hrow),Nat.mul_one];exact HW.out (n-2) (by omega)) underlying301 ?_
    simp only[nmz];refine jH (f:=257) rfl ?_ (fun w' hS=>yQ ((zW b n).getD (n-2) 0) 17 (by omega) w') ?_
    ·exact zI 257 _ _ rfl _ func257 rfl (by kernel_rfl) _ rfl
    simp only[stz];refine zR _ _ _ _ (n:Int) 2 ((n-2:Nat):Int) rfl rfl rfl rfl (by omega) (by omega) (by omega) ?_;simp only[nmz]
    refine qJ _ _ _ _ _ _ _ _ rfl rfl rfl rfl underlying340 (n:=1) (by kernel_rfl) hk2 ?_;simp only[nmz]
    refine wpLd 301 w.heap.size ((n-2)*1) (fun w' hS=>by rw[cell_of_row _ _ _ _ _ _ (hS.obj id hrow),Nat.mul_one];exact HW.out (n-2) (by omega)) underlying301 ?_
    simp only[nmz];refine jH (f:=257) rfl ?_ (fun w' hS=>yQ ((zW b n).getD (n-2) 0) 19 (by omega) w') ?_
    ·exact zI 257 _ _ rfl _ func257 rfl (by kernel_rfl) _ rfl
    simp only[nmz];refine zM _ _ _ _ _ _ rfl rfl rfl rfl ?_;simp only[stz]
    refine zR _ _ _ _ (n:Int) 2 ((n-2:Nat):Int) rfl rfl rfl rfl (by omega) (by omega) (by omega) ?_;simp only[nmz]
    refine qJ _ _ _ _ _ _ _ _ rfl rfl rfl rfl underlying340 (n:=1) (by kernel_rfl) hk2 ?_;simp only[nmz]
    refine wpLd 301 w.heap.size ((n-2)*1) (fun w' hS=>by rw[cell_of_row _ _ _ _ _ _ (hS.obj id hrow),Nat.mul_one];exact HW.out (n-2) (by omega)) underlying301 ?_
    simp only[nmz];refine jO _ _ _ _ _ .u64 10 rfl rfl rfl rfl (by omega) ?_;simp only[nmz];refine zM _ _ _ _ _ _ rfl rfl rfl rfl ?_;simp only[stz]
    replace hM:=hM.trans0 hS;replace hrow:=hS.obj id hrow;clear hS;generalize wy.drew=wz at*;go_upto_region 8 with(fail)
    have hS:Mod NoB wz wz.drew:=(Mod.refl _ _).drew;refine wpRZ [3,3,3,3,0,3,3,3,3,3,0,3,3,3,3,2] [15] (fun w'=>Mod NoB wz w') hS ?_;simp only[stz]
    refine zR _ _ _ _ (n:Int) 16 ((n-16:Nat):Int) rfl rfl rfl rfl (by omega) (by omega) (by omega) ?_;simp only[nmz]
    refine qJ _ _ _ _ _ _ _ _ rfl rfl rfl rfl underlying340 (n:=1) (by kernel_rfl) hk16 ?_;simp only[nmz]
    refine wpLd 301 w.heap.size ((n-16)*1) (fun w' hS=>by rw[cell_of_row _ _ _ _ _ _ (hS.obj id hrow),Nat.mul_one];exact HW.out (n-16) (by omega)) underlying301 ?_
    simp only[stz];refine zN _ _ _ _ _ _ rfl rfl rfl rfl ?_;simp only[stz]
    refine zR _ _ _ _ (n:Int) 7 ((n-7:Nat):Int) rfl rfl rfl rfl (by omega) (by omega) (by omega) ?_;simp only[nmz]
    refine qJ _ _ _ _ _ _ _ _ rfl rfl rfl rfl underlying340 (n:=1) (by kernel_rfl) hk7 ?_;simp only[nmz]
    refine wpLd 301 w.heap.size ((n-7)*1) (fun w' hS=>by rw[cell_of_row _ _ _ _ _ _ (hS.obj id hrow),Nat.mul_one];exact HW.out (n-7) (by omega)) underlying301 ?_
    simp only[nmz];refine zN _ _ _ _ _ _ rfl rfl rfl rfl ?_;simp only[stz];refine zN _ _ _ _ _ _ rfl rfl rfl rfl ?_;simp only[nmz]
    refine qJ _ _ _ _ _ _ _ _ rfl rfl rfl rfl underlying340 (n:=1) (by kernel_rfl) hlt ?_;simp only[nmz];refine zB rfl (fun K hK=>?_)
    refine qT 301 _ _ w.heap.size (n*1) (wordV (wordNext (zW b n) n)) (by rfl) (by rfl) (by rfl) rfl (by kernel_rfl) _ _ (show wz.drew.heap[w.heap.size]?=_ from hrow) (by rw[hsz];omega) (fun w2 hB2 hm2=>?_)
    rw[Nat.mul_one,HSET.out]at hB2;refine hK _ _ ?_;clear hK K;simp only[stz];have hM2:Mod NoB w w2:=(hM.trans0 hS).transB hm2 (Nat.le_refl _);clear hM hS hm2 hrow;go_wp2
    go_roundw
    case rel=>exact⟨n+1,by omega,by go_num,hB2,hM2⟩
    case measure=>simp[intOf];omega
  ·have hz:¬(n:Int)<64:=by omega
   obtain rfl:n=64:=by omega
   have e:rowW b 64=zW b 64:=by simp[rowW]
   rw[e]at hrow;have hsz:(qK (zW b 64)).size=64:=by rw[qH,jN]
   obtain⟨sp,hsp⟩:∃sp,zW b 64=sp:=⟨_,rfl⟩;rw[hsp]at hrow hsz;have HSP:=hid hsp;clear hsp e;go_upto_region 10 with(fail);refine wpR [1,1] ?_;simp only[stz]
   refine wpXA 340 w.heap.size 0 (qK (sp)) (CellsAt.whole hrow) underlying340 64 hsz trivial ?_;try simp only[nmz]
   refine wpD (qF 340 _ _ w.heap.size 0 (qK (sp)) (by rfl) (by rfl) (by rfl) (zO _) 64 (by kernel_rfl) hsz _ _ hrow (by omega) (fun w2 hB2 hm2=>?_))
   rw[qC (by rfl)]at hB2;simp only[stz];go_wp2
   refine bodyPost_ret (results_cell_row rfl _ _ w.heap.size _ _ _ _ (by rfl) hB2 underlying340 rfl (by rw[hsz];kernel_rfl)) rfl ?_
   exact⟨by rw[HSP.out],hM.transB hm2 (Nat.le_refl _)⟩
section
variable{P:Program}{ops:Array Oper}{Q:Exit->Act->World->Prop}{S:World->Prop}{md:Region.Mode}
def piPre(md:Region.Mode)(ops:Array Oper)(tl:List Nat):List (Nat×Nat)->Array Bool->Option (Array Bool)
 | [],listed=>some listed
 |(i,0)::r,listed=>if i<ops.size&&Region.free md ops listed i&&(Region.ready md ops listed).contains i&&waitsAll md ops tl i&&jI tl listed then piPre md ops tl r (listed.setIfInBounds i true)else none
 |(_,1)::_,_=>none
 |(_,2)::_,_=>none
 |(i,_+3)::r,listed=>if i<ops.size&&Region.free md ops listed i&&(Region.ready md ops listed).contains i&& !tl.contains i then piPre md ops tl r (listed.setIfInBounds i true)else none
theorem wpAnyG_of_pre{tl:List Nat}(hs:Region.noSelect ops=true)(hQ:xQ Q){Q1:Exit->Act->World->Prop}{L:Array Bool}{fuel:Nat}(k:∀a w,(jI tl L=true->S w)->Q1 .normal a w->wpAnyG P md ops Q S tl fuel L a w):
 ∀(l:List (Nat×Nat))(listed:Array Bool)(a:Act)(w:World),piPre md ops tl l listed=some L->(jI tl listed=true->S w)->wpPi P ops Q1 S (l.map fun x=>(ops.getD x.1 default,x.2)) a w->
  wpAnyG P md ops Q S tl (l.length+fuel) listed a w
 | [],listed,a,w,hp,hS,h=>by
  simp only[piPre,Option.some.injEq]at hp;subst hp
  simpa using k a w hS h
 |(i,0)::r,listed,a,w,hp,hS,h=>by
  simp only[piPre]at hp
  split at hp
  ·rename_i hc
   simp only[Bool.and_eq_true,decide_eq_true_eq]at hc;obtain⟨⟨⟨⟨hi,hf⟩,hr⟩,hwa⟩,hn⟩:=hc;obtain⟨v,hy,h⟩:=h
   have hi':ops[i]?=some (ops.getD i default):=by simp[Array.getD,hi]
   rw[List.length_cons,Nat.succ_add]
   exact wpAnyG_first hi' (Region.noSelect_spec hs) hQ hwa (r.length+fuel) listed a w (Region.free_spec hi' hf) (by simpa using hr) hy (hS hn) hn
    (wpAnyG_of_pre hs hQ k r _ _ w hp (fun _=>hS hn) h)
  ·cases hp
 |(_,1)::_,_,_,_,hp,_,_=>by simp[piPre]at hp
 |(_,2)::_,_,_,_,hp,_,_=>by simp[piPre]at hp
 |(i,n+3)::r,listed,a,w,hp,hS,h=>by
  simp only[piPre]at hp
  split at hp
  ·rename_i hc
   simp only[Bool.and_eq_true,decide_eq_true_eq,Bool.not_eq_true']at hc;obtain⟨⟨⟨hi,hf⟩,hr⟩,hit⟩:=hc;obtain⟨v,hy,h⟩:=h;have hit':i∉tl:=by simpa using hit
   have hi':ops[i]?=some (ops.getD i default):=by simp[Array.getD,hi]
   rw[List.length_cons,Nat.succ_add]
   refine wpAnyG_free hi' (Region.noSelect_spec hs) hQ hit' (r.length+fuel) listed a w (Region.free_spec hi' hf) (by simpa using hr) hy hS
    (wpAnyG_of_pre hs hQ k r _ _ w hp (fun hn=>hS ?_) h)
   simp only[jI,List.all_eq_true,Bool.not_eq_true']at hn |-;intro t ht;have:=hn t ht
   rwa[getD_set_ne false (by rintro rfl;exact hit' ht)]at this
  ·cases hp
def treeOk(md:Region.Mode)(ops:Array Oper)(tl:List Nat)(p2:List (Nat×Nat)):Nat->Array Bool->Bool
 |0,listed=>piOk md ops tl p2 listed
 |n+1,listed=> !(Region.ready md ops listed).isEmpty&&(Region.ready md ops listed).all fun i=>decide (i<ops.size)&& !tl.contains i&&(ops.getD i default).guard.isNone&&treeOk md ops tl p2 n (listed.setIfInBounds i true)
def wpTree(P:Program)(md:Region.Mode)(ops:Array Oper)(Q:Exit->Act->World->Prop)(S:World->Prop)(K:Act->World->Prop):Nat->Array Bool->Act->World->Prop
 |0,_,a,w=>K a w
 |n+1,listed,a,w=>∀i∈Region.ready md ops listed,(ops.getD i default).wp P a w (fun a' w'=>S w'/\wpTree P md ops Q S K n (listed.setIfInBounds i true) a' w') Q
theorem wpAnyG_of_tree{tl:List Nat}(hs:Region.noSelect ops=true)(hQ:xQ Q){p2:List (Nat×Nat)}:
 ∀(n:Nat)(listed:Array Bool)(a:Act)(w:World),treeOk md ops tl p2 n listed=true->(jI tl listed=true->S w)->wpTree P md ops Q S (wpPi P ops Q S (p2.map fun x=>(ops.getD x.1 default,x.2))) n listed a w->
  wpAnyG P md ops Q S tl (n+p2.length) listed a w
 |0,listed,a,w,hp,hS,h=>by
  rw[Nat.zero_add];exact yU hs hQ S p2 listed a w hp hS h
 |n+1,listed,a,w,hp,hS,h=>by
  simp only[treeOk,Bool.and_eq_true,Bool.not_eq_true',List.all_eq_true]at hp;rw[Nat.succ_add];refine⟨fun h0=>(by rw[h0]at hp;simp at hp),fun i hi=>?_⟩
  have h1:=hp.2 i hi;simp only[decide_eq_true_eq]at h1;obtain⟨⟨⟨hsz,hit⟩,hg⟩,hp'⟩:=h1;have hi':ops[i]?=some (ops.getD i default):=by simp[Array.getD,hsz]
  have hw:=h i hi;unfold wpOp;generalize ops.getD i default=oi at hi' hw hg;simp only[hi']
  have hwant:Region.wanted oi (yielded ops a.tmps)=true:=by
   unfold Region.wanted
   cases hq:oi.guard with
   |none=>rfl
   |some x=>rw[hq]at hg;cases hg
  rw[if_pos hwant];exact .inl (Oper.wp_mono (fun a' w' h'=>⟨fun _=>h'.1,wpAnyG_of_tree hs hQ n _ a' w' hp' (fun _=>h'.1) h'.2⟩) hw)
def treeQ(P:Program)(md:Region.Mode)(ops:Array Oper)(Q:Exit->Act->World->Prop)(S:World->Prop)(p2:List (Oper×Nat))(n:Nat)(L:Array Bool):Exit->Act->World->Prop
 | .normal,a,w=>wpTree P md ops Q S (wpPi P ops Q S p2) n L a w
 |_,_,_=>True
theorem jG{id:Nat}{a:Act}{w:World}{l:List Oper}(p1:List (Nat×Nat))(n:Nat)(p2:List (Nat×Nat))(tl:List Nat)(S:World->Prop)(L:Array Bool)(hm:P.follows .mixedOrders=true)(hs:Region.noSelect l.toArray=true)
 (hl:p1.length+(n+p2.length)=l.toArray.size)(h1:piPre .any l.toArray tl p1 (Array.replicate l.toArray.size false)=some L)(h2:treeOk .any l.toArray tl p2 n L=true)(hQ:xQ Q)(hS:S w.drew)
 (h:wpPi P l.toArray (treeQ P .any l.toArray Q S (p2.map fun x=>(l.getD x.1 default,x.2)) n L) S (p1.map fun x=>(l.getD x.1 default,x.2)) a w.drew):(Code.region id l.toArray true).wp P Q a w:=
 wp_region_any hm (by
  have e:∀p:List (Nat×Nat),(p.map fun x=>((l.toArray).getD x.1 default,x.2))=(p.map fun x=>(l.getD x.1 default,x.2)):=fun p=>by
   apply List.map_congr_left;intro x _;simp[Array.getD_eq_getD_getElem?,List.getD]
  have H:=wpAny_of_G _ _ _ _ (wpAnyG_of_pre (md:=.any) hs hQ (L:=L) (fuel:=n+p2.length) (Q1:=treeQ P .any l.toArray Q S (p2.map fun x=>(l.getD x.1 default,x.2)) n L)
   (fun a w hS h=>wpAnyG_of_tree hs hQ n L a w h2 hS (by rw[e];exact h)) p1 _ a w.drew h1 (fun _=>hS) (by rw[e];exact h))
  rw[hl]at H
  exact H)
theorem xP{K:Act->World->Prop}{L:Array Bool}{a:Act}{w:World}(h:K a w):wpTree P md ops Q S K 0 L a w:=h
theorem zC{K:Act->World->Prop}{n:Nat}{L:Array Bool}{a:Act}{w:World}(rs:List Nat)(hr:Region.ready md ops L=rs)
 (h:∀i∈rs,∀K',(∀a' w',S w'->wpTree P md ops Q S K n (L.setIfInBounds i true) a' w'->K' a' w')->(ops.getD i default).wp P a w K' Q):wpTree P md ops Q S K (n+1) L a w:=by
 intro i hi;rw[hr]at hi;exact h i hi _ fun a' w' h1 h2=>⟨h1,h2⟩
theorem wp_putC{i j:Nat}{oi oj:Oper}{v:Value}{S0:World->Prop}(hap:oi.apart ops oj=true)(hsi:∀cs b,oi.op≠.select cs b)(hsj:∀cs b,oj.op≠.select cs b)
 (hQ:∀c a w,Q (.panic c) (a.put oi.dst v) w->Q (.panic c) a w){K:Act->World->Prop}{a:Act}{w:World}(hy:YieldsC P ops S0 oi v a)(h:oj.wp P (a.put oi.dst v) w K Q):
 oj.wp P a w (fun a' w'=>YieldsC P ops S0 oi v a'/\K (a'.put oi.dst v) w') Q:=by
 obtain⟨h1,h2,h3⟩:=Oper.apart_spec hap
 have keep:∀(a:Act),YieldsC P ops S0 oi v a->∀u,YieldsC P ops S0 oi v (a.put oj.dst u):=fun a hy u=>
  hy.of_same (execOp_put oi hsi a oj.dst u h3) (wanted_put oi a oj.dst u h3)
 have keepD:∀d,YieldsC P ops S0 oi v { a with defers:=d::a.defers }:=fun d=>hy.of_same rfl rfl;unfold Oper.wp at*;rw[execOp_put oj hsj a oi.dst v h1]at h
 generalize (execOp a.eval oj).run P w=r at*
 cases r with
 |ok n w'=>
  cases n<;>simp only[Oper.upon]at h |-
  case value u=>exact⟨keep a hy u,by rw[<-Act.put_comm a v u h2];exact h⟩
  case skip=>exact⟨keep a hy _,by rw[<-Act.put_comm a v undef h2];exact h⟩
  case defer d=>
   refine⟨keep _ (keepD d) _,?_⟩;rw[<-Act.put_comm _ v undef h2,<-Act.put_defers];exact h
  case enter f args=>
   refine Calls.mono h fun e w'' he=>?_
   cases e with
   |returned u=>exact⟨keep a hy u,by rw[<-Act.put_comm a v u h2];exact he⟩
   |panicked c=>exact hQ _ _ _ he
   |outgrown=>exact he
  case row row args=>exact Rows.mono h fun u w'' he=>⟨keep a hy u,by rw[<-Act.put_comm a v u h2];exact he⟩
 |halt x w'=>
  cases x<;>simp only[Oper.upon]at h |-
  case panic u=>exact hQ _ _ _ h
def lastOk(md:Region.Mode)(ops:Array Oper)(i:Nat):Nat->Array Bool->Bool
 |0,L=>decide (Region.ready md ops L=[i])
 |n+1,L=>(Region.ready md ops L).all fun j=>j==i||lastOk md ops i n (L.setIfInBounds j true)
theorem wpTree_free{i:Nat}{oi:Oper}{v:Value}{K:Act->World->Prop}(hi:ops[i]?=some oi)(hsel:∀(j:Nat)(o:Oper) cs b,ops[j]?=some o->o.op≠.select cs b)(hQ:xQ Q):
 ∀(n:Nat)(L:Array Bool)(a:Act)(w:World),
  (∀j oj,ops[j]?=some oj->j≠i->L.getD j true=false->(∀e∈oj.after,Region.binds md e=true->e.on≠i)->oi.apart ops oj=true)->
  i∈Region.ready md ops L->lastOk md ops i n L=true->oi.guard=none->YieldsC P ops (fun _=>True) oi v a->S w->
  wpTree P md ops Q S K n (L.setIfInBounds i true) (a.put oi.dst v) w->wpTree P md ops Q S K (n+1) L a w:=by
 have hself:∀(n:Nat)(L:Array Bool)(a:Act)(w:World),oi.guard=none->YieldsC P ops (fun _=>True) oi v a->S w->wpTree P md ops Q S K n (L.setIfInBounds i true) (a.put oi.dst v) w->
  (ops.getD i default).wp P a w (fun a' w'=>S w'/\wpTree P md ops Q S K n (L.setIfInBounds i true) a' w') Q:=by
  intro n L a w hg hy hS H;have e:ops.getD i default=oi:=by rw[Array.getD_eq_getD_getElem?,hi];rfl
  rw[e]
  rcases hy with⟨_,hv⟩|⟨hw,_⟩
  ·exact(hv w trivial).wp ⟨hS,H⟩
  ·unfold Region.wanted at hw
   rw[hg]at hw
   cases hw
 intro n
 induction n with
 |zero=>
  intro L a w _ hr hlast hg hy hS H j hj;have h1:Region.ready md ops L=[i]:=of_decide_eq_true hlast;rw[h1]at hj;obtain rfl:j=i:=by simpa using hj
  exact hself 0 L a w hg hy hS H
 |succ n ih=>
  intro L a w hfree hr hlast hg hy hS H j hj
  by_cases hji:j=i
  ·subst hji;exact hself _ L a w hg hy hS H
  ·have h1:=H j (ready_mono hj hji)
   obtain⟨hjun,oj,hoj,hall⟩:=mem_ready.1 hj
   have hnot:∀e∈oj.after,Region.binds md e=true->e.on≠i:=fun e he hb heq=>by
    have h1:=hall e he hb;have h0:=(mem_ready.1 hr).1;rw[heq]at h1
    rcases Nat.lt_or_ge i L.size with h'|h'
    ·simp[h']at h0 h1;rw[h0]at h1;cases h1
    ·simp[Array.getElem?_eq_none h']at h1
   have ej:ops.getD j default=oj:=by rw[Array.getD_eq_getD_getElem?,hoj];rfl
   rw[ej]at h1 |-
   have h2:=wp_putC (i:=i) (j:=j) (hfree j oj hoj hji hjun hnot) (fun cs b=>hsel i oi cs b hi) (fun cs b=>hsel j oj cs b hoj) (fun c a w hq=>hQ _ _ _ _ (by simp[put_defers]) hq) hy h1
   have hfree':∀k ok,ops[k]?=some ok->k≠i->(L.setIfInBounds j true).getD k true=false->
    (∀e∈ok.after,Region.binds md e=true->e.on≠i)->oi.apart ops ok=true:=fun k ok hk hki hun hno=>by
    refine hfree k ok hk hki ?_ hno
    by_cases hjk:j=k
    ·subst hjk;exact hjun
    ·rw[getD_set_ne true hjk]at hun;exact hun
   have hl2:lastOk md ops i n (L.setIfInBounds j true)=true:=by
    simp only[lastOk,List.all_eq_true,Bool.or_eq_true,beq_iff_eq]at hlast;exact(hlast j hj).resolve_left hji
   refine Oper.wp_mono (fun a' w' h3=>⟨h3.2.1,ih (L.setIfInBounds j true) a' w' hfree' (ready_mono hr (Ne.symm hji)) hl2 hg h3.1 h3.2.1 ?_⟩) h2
   rw[Array.setIfInBounds_comm _ _ hji];exact h3.2.2
def takeOk(md:Region.Mode)(ops:Array Oper)(i n:Nat)(L:Array Bool):Bool:=Region.noSelect ops&&decide (i<ops.size)&&Region.free md ops L i&&(Region.ready md ops L).contains i&&lastOk md ops i n L&&(ops.getD i default).guard.isNone
theorem yM(i:Nat)(v:Value){K:Act->World->Prop}{n:Nat}{L:Array Bool}{a:Act}{w:World}(hc:takeOk md ops i n L=true)(hQ:xQ Q)
 (hv:∀w,(execOp a.eval (ops.getD i default)).run P w=.ok (.value v) w)(hS:S w)(h:wpTree P md ops Q S K n (L.setIfInBounds i true) (a.put (ops.getD i default).dst v) w):wpTree P md ops Q S K (n+1) L a w:=by
 simp only[takeOk,Bool.and_eq_true,decide_eq_true_eq,Option.isNone_iff_eq_none]at hc;obtain⟨⟨⟨⟨⟨hs,hi⟩,hf⟩,hr⟩,hl⟩,hg⟩:=hc
 have hi':ops[i]?=some (ops.getD i default):=by simp[Array.getD,hi]
 refine wpTree_free hi' (Region.noSelect_spec hs) hQ n L a w (Region.free_spec hi' hf) (by simpa using hr) hl hg (.inl ⟨?_,fun w _=>.inl (hv w)⟩) hS h;unfold Region.wanted
 rw[hg]
end
theorem wordsZ:(prog.info? 328).bind (·.zero)=some (.agg (qK (List.replicate 8 0))):=by kernel_rfl
theorem keys_any(w:World):Calls prog 255 #[] w (RetM (.agg (qK shaKeys)) w):=by
 go_enter func255,ntmps255;go_upto_region 0 with(fail);refine wpR [1] ?_;simp only[stz];refine wpD (qP 340 _ (by rfl) w64Z (fun w1 hB1 hm1 hs1=>?_))
 replace hB1:w1.heap[w.heap.size]?=some (.cells (qK (List.replicate 64 0)) 340 (0,0)):=hB1;simp only[stz];go_upto_region 1 with(fail);refine wpR [1,1] ?_
 simp only[stz];refine wpX rfl (qL 340 _ _ (qK shaKeys) (by rfl) (by rfl) (by kernel_rfl)) trivial ?_;try simp only[nmz]
 refine wpD (qF 340 _ _ w.heap.size 0 (qK shaKeys) (by rfl) (by rfl) (by rfl) (zO _) 64 (by kernel_rfl) (by kernel_rfl) _ _ hB1 (by rw[qH,qH];simp[shaKeys]) (fun w2 hB2 hm2=>?_))
 simp only[stz];rw[qC (by kernel_rfl)]at hB2;go_wp2
 refine bodyPost_ret (results_cell_row rfl _ _ w.heap.size _ _ _ _ (by rfl) hB2 underlying340 rfl (by kernel_rfl)) rfl ?_;exact⟨rfl,hm1.transB hm2 (Nat.le_refl _)⟩
theorem begin_any(w:World):Calls prog 225 #[] w (RetM (.agg (qK shaBegin.list)) w):=by
 go_enter func225,ntmps225;go_upto_region 0 with(fail);refine wpR [1] ?_;simp only[stz];refine wpD (qP 328 _ (by rfl) wordsZ (fun w1 hB1 hm1 hs1=>?_))
 replace hB1:w1.heap[w.heap.size]?=some (.cells (qK (List.replicate 8 0)) 328 (0,0)):=hB1;simp only[stz];go_upto_region 1 with(fail);refine wpR [1,1] ?_
 simp only[stz];refine wpX rfl (qL 328 _ _ (qK shaBegin.list) (by rfl) (by rfl) (by kernel_rfl)) trivial ?_;try simp only[nmz]
 refine wpD (qF 328 _ _ w.heap.size 0 (qK shaBegin.list) (by rfl) (by rfl) (by rfl) (zO _) 8 (by kernel_rfl) (by kernel_rfl) _ _ hB1 (by rw[qH,qH];simp[W8.list]) (fun w2 hB2 hm2=>?_))
 simp only[stz];rw[qC (by kernel_rfl)]at hB2;go_wp2
 refine bodyPost_ret (results_cell_row rfl _ _ w.heap.size _ _ _ _ (by rfl) hB2 underlying328 rfl (by kernel_rfl)) rfl ?_;exact⟨rfl,hm1.transB hm2 (Nat.le_refl _)⟩
theorem word8{w:World}{b:Nat}{c:W8}{T:TypeId}(h:w.heap[b]?=some (.cells (qK c.list) T (0,0)))(i:Nat)(hi:i<8):w.cell? ⟨b,i,none⟩=some (wordV (c.list.getD i 0)):=by
 rw[cell_of_row _ _ _ _ _ _ h,yV (by simpa[W8.list]using hi),List.getD_eq_getElem?_getD,List.getElem?_eq_getElem (by simpa[W8.list]using hi)]
 rfl
theorem word64{w:World}{b:Nat}{l:List UInt32}{T:TypeId}(h:w.heap[b]?=some (.cells (qK l) T (0,0)))(hl:l.length=64){i:Nat}(hi:i<64):w.cell? ⟨b,i,none⟩=some (wordV (l.getD i 0)):=by
 rw[cell_of_row _ _ _ _ _ _ h,yV (by omega),List.getD_eq_getElem?_getD,List.getElem?_eq_getElem (by omega)]
 rfl
section
variable{P:Program}{ops:Array Oper}{Q:Exit->Act->World->Prop}{S:World->Prop}{md:Region.Mode}{K:Act->World->Prop}
theorem yL{o:Oper}{a:Act}{w:World}{f:FuncId}{args:Array Value}{v:Value}(hr:(execOp a.eval o).run P w=.ok (.enter f args) w)(hc:Calls P f args w (RetM v w))(k:∀w',Mod NoB w w'->K (a.put o.dst v) w'):o.wp P a w K Q:=by
 unfold Oper.wp;rw[hr,Oper.upon_enter];refine hc.mono fun e w' he=>?_;obtain⟨rfl,hm⟩:=he;exact k w' hm
def puts:List (Nat×Value)->Act->Act
 | [],a=>a
 |p::ps,a=>(puts ps a).put (some p.1) p.2
theorem puts_eval{ps:List (Nat×Value)}{t:Nat}(h:∀p∈ps,p.1≠t)(a:Act):(puts ps a).eval (.tmp t)=a.eval (.tmp t):=by
 induction ps with
 |nil=>rfl
 |cons p ps ih=>
  rw[<-ih fun q hq=>h q (List.mem_cons_of_mem _ hq)];have:=h p List.mem_cons_self
  simp only[puts,Act.put,Act.eval,Array.getD_eq_getD_getElem?,Array.getElem?_setIfInBounds_ne this]
theorem puts_swap(p q:Nat×Value)(h:p.1≠q.1)(ps:List (Nat×Value))(a:Act):puts (p::q::ps) a=puts (q::p::ps) a:=by
 simp only[puts,Act.put];rw[Array.setIfInBounds_comm _ _ (Ne.symm h)]
theorem puts_perm{ps qs:List (Nat×Value)}(h:ps.Perm qs)(a:Act)(hn:(ps.map (·.1)).Nodup):puts ps a=puts qs a:=by
 induction h with
 |nil=>rfl
 |cons x _ ih=>
  simp only[puts];rw[ih (List.nodup_cons.1 hn).2]
 |swap x y l=>
  simp only[List.map_cons,List.nodup_cons,List.mem_cons,not_or]at hn;exact puts_swap _ _ hn.1.1 _ _
 |trans h1 _ ih1 ih2=>rw[ih1 hn,ih2 ((h1.map _).nodup_iff.1 hn)]
theorem perm_vals{ps:List (Nat×Value)}:∀{g:List Nat},(ps.map (·.1)).Perm g->∃vals:List Value,vals.length=g.length/\ps.Perm (g.zip vals):=by
 intro g
 induction g generalizing ps with
 |nil=>
  intro h;have:=h.length_eq;simp only[List.length_map,List.length_nil,List.length_eq_zero_iff]at this;subst this;exact⟨[],rfl,List.Perm.refl _⟩
 |cons d g ih=>
  intro h;have hd:d∈ps.map (·.1):=h.symm.subset List.mem_cons_self;obtain⟨p,hp,rfl⟩:=List.mem_map.1 hd;obtain⟨l,r,rfl⟩:=List.append_of_mem hp
  have hpp:(l++p::r).Perm (p::(l++r)):=List.perm_middle;have h2:=(hpp.map (·.1)).symm.trans h;simp only[List.map_cons]at h2
  obtain⟨vs,hl,hv⟩:=ih ((List.perm_cons _).1 h2);exact⟨p.2::vs,by simp[hl],hpp.trans (by simpa using hv.cons p)⟩
def grpOk(md:Region.Mode)(ops:Array Oper):Nat->List (Nat×Nat)->Array Bool->Bool
 |0,g,_=>g.isEmpty
 |n+1,g,L=>(Region.ready md ops L).all fun i=>g.any fun q=>q.1==i&&grpOk md ops n (g.erase q) (L.setIfInBounds i true)
theorem wpTree_grp{a:Act}{g0:List Nat}{J:List (Nat×Value)->World->Prop}(hJS:∀ps w,J ps w->S w)
 (hn0:g0.Nodup)(hend:∀ps w,J ps w->(ps.map (·.1)).Perm g0->K (puts ps a) w):
 ∀(n:Nat)(g:List (Nat×Nat))(L:Array Bool)(ps:List (Nat×Value))(w:World),grpOk md ops n g L=true->(ps.map (·.1)++g.map (·.2)).Perm g0->J ps w->
  (∀q∈g,∀ps w,J ps w->(∀p∈ps,p.1≠q.2/\p.1∈g0)->∀K',(∀v w',J ((q.2,v)::ps) w'->K' ((puts ps a).put (some q.2) v) w')->(ops.getD q.1 default).wp P (puts ps a) w K' Q)->
  wpTree P md ops Q S K n L (puts ps a) w
 |0,g,L,ps,w,hg,hp,hJ,_=>by
  simp only[grpOk,List.isEmpty_iff]at hg;subst hg;exact hend ps w hJ (by simpa using hp)
 |n+1,g,L,ps,w,hg,hp,hJ,hop=>by
  intro i hi;simp only[grpOk,List.all_eq_true]at hg;have h1:=hg i hi;simp only[List.any_eq_true,Bool.and_eq_true,beq_iff_eq]at h1;obtain⟨q,hq,rfl,hg'⟩:=h1
  have hnd:(ps.map (·.1)++g.map (·.2)).Nodup:=hp.symm.nodup_iff.1 hn0;refine hop q hq ps w hJ (fun p hpp=>⟨?_,?_⟩) _ fun v w' hJ'=>⟨hJS _ _ hJ',?_⟩
  ·rw[List.nodup_append]at hnd
   exact hnd.2.2 _ (List.mem_map_of_mem hpp) _ (List.mem_map_of_mem hq)
  ·exact hp.subset (List.mem_append_left _ (List.mem_map_of_mem hpp))
  ·refine wpTree_grp hJS hn0 hend n (g.erase q) _ ((q.2,v)::ps) w' hg' ?_ hJ' fun q' hq'=>hop q' (List.mem_of_mem_erase hq')
   refine List.Perm.trans ?_ hp;simp only[List.map_cons,List.cons_append];refine(List.perm_middle (l₁:=ps.map (·.1)) (a:=q.2) (l₂:=(g.erase q).map (·.2))).symm.trans ?_
   exact List.Perm.append_left _ (by simpa using((List.perm_cons_erase hq).map (·.2)).symm)
def GrpF(G:Nat->Value⊕Obj)(w0:World)(d:Nat)(v:Value)(w:World):Prop:=
 match G d with
 | .inl x=>v=x
 | .inr o=>∃b,v=.pointer (some ⟨b,0,none⟩)/\w.heap[b]?=some o/\w0.heap.size<=b/\b<w.heap.size
def GrpJ(G:Nat->Value⊕Obj)(w0:World)(ps:List (Nat×Value))(w:World):Prop:=
 Mod NoB w0 w/\(∀p∈ps,GrpF G w0 p.1 p.2 w)/\ps.Pairwise fun p q=>∀o o' b b',G p.1=.inr o->G q.1=.inr o'->p.2=.pointer (some ⟨b,0,none⟩)->q.2=.pointer (some ⟨b',0,none⟩)->b≠b'
theorem GrpF.keep{G:Nat->Value⊕Obj}{w0 w w':World}{d:Nat}{v:Value}(h:GrpF G w0 d v w)(hm:Mod NoB w w'):GrpF G w0 d v w':=by
 unfold GrpF at*
 split
 ·rename_i x hx;rw[hx]at h;exact h
 ·rename_i o hx
  rw[hx]at h;obtain⟨b,rfl,hb,h1,h2⟩:=h;exact⟨b,rfl,hm.obj id hb,h1,Nat.lt_of_lt_of_le h2 hm.size⟩
theorem wpTree_rows{a:Act}{w0:World}{n:Nat}{L:Array Bool}(G:Nat->Value⊕Obj)(g:List (Nat×Nat))(hS:∀w,Mod NoB w0 w->S w)(hg:grpOk md ops n g L=true)(hn:(g.map (·.2)).Nodup)
 (hend:∀(vals:List Value)(w:World),vals.length=g.length->GrpJ G w0 ((g.map (·.2)).zip vals) w->K (puts ((g.map (·.2)).zip vals) a) w)
 (hop:∀q∈g,∀ps w,Mod NoB w0 w->(∀p∈ps,p.1≠q.2/\p.1∈g.map (·.2))->∀K',(match G q.2 with
  | .inl x=>∀w',Mod NoB w w'->K' ((puts ps a).put (some q.2) x) w'
  | .inr o=>∀w',w'.heap[w.heap.size]?=some o->Mod NoB w w'->w.heap.size<w'.heap.size->K' ((puts ps a).put (some q.2) (.pointer (some ⟨w.heap.size,0,none⟩))) w')->(ops.getD q.1 default).wp P (puts ps a) w K' Q):
 wpTree P md ops Q S K n L a w0:=by
 have hsym:∀{p q:Nat×Value},(∀o o' b b',G p.1=.inr o->G q.1=.inr o'->p.2=.pointer (some ⟨b,0,none⟩)->q.2=.pointer (some ⟨b',0,none⟩)->b≠b')->
  (∀o o' b b',G q.1=.inr o->G p.1=.inr o'->q.2=.pointer (some ⟨b,0,none⟩)->p.2=.pointer (some ⟨b',0,none⟩)->b≠b'):=fun h o o' b b' h1 h2 h3 h4=>(h o' o b' b h2 h1 h4 h3).symm
 refine wpTree_grp (J:=GrpJ G w0) (g0:=g.map (·.2)) (fun ps w h=>hS w h.1) hn (fun ps w hJ hp=>?_) n g L [] w0 hg (by simp) ⟨Mod.refl _ _,fun p hp=>(nomatch hp),List.Pairwise.nil⟩ (fun q hq ps w hJ hps K' hK'=>?_)
 ·obtain⟨vals,hl,hv⟩:=perm_vals hp
  rw[puts_perm hv a (hp.symm.nodup_iff.1 hn)];refine hend vals w (by simpa using hl) ⟨hJ.1,fun p hp=>hJ.2.1 p (hv.symm.subset hp),?_⟩;exact(hv.pairwise_iff hsym).1 hJ.2.2
 ·refine hop q hq ps w hJ.1 hps K' ?_
  cases e:G q.2 with
  |inl x=>
   intro w' hm;refine hK' _ _ ⟨hJ.1.trans0 hm,fun p hp=>?_,?_⟩
   ·rcases List.mem_cons.1 hp with rfl|hp
    ·unfold GrpF;rw[e]
    ·exact(hJ.2.1 p hp).keep hm
   ·refine List.Pairwise.cons (fun p hp o o' b b' h1=>?_) hJ.2.2
    rw[e]at h1;cases h1
  |inr o=>
   intro w' hb hm hs;refine hK' _ _ ⟨hJ.1.trans0 hm,fun p hp=>?_,?_⟩
   ·rcases List.mem_cons.1 hp with rfl|hp
    ·unfold GrpF;rw[e];exact⟨_,rfl,hb,hJ.1.size,hs⟩
    ·exact(hJ.2.1 p hp).keep hm
   ·refine List.Pairwise.cons (fun p hp o' o2 b b' h1 h2 h3 h4=>?_) hJ.2.2
    have:=hJ.2.1 p hp;unfold GrpF at this;rw[h2]at this;obtain⟨c,hc,-,-,hlt⟩:=this;rw[hc]at h4
    simp only[Value.pointer.injEq,Option.some.injEq,Addr.mk.injEq]at h3 h4;omega
def grpG:List (Nat×(Value⊕Obj))->Nat->Value⊕Obj
 | [],_=>.inl undef
 |(d,x)::r,e=>if d=e then x else grpG r e
theorem vals_cons{α:Type}{l:List α}{n:Nat}(h:l.length=n+1):∃x r,l=x::r/\r.length=n:=by
 cases l with
 |nil=>cases h
 |cons x r=>exact⟨x,r,rfl,by simpa using h⟩
theorem GrpJ.ne{G:Nat->Value⊕Obj}{w0 w:World}{ps:List (Nat×Value)}(h:GrpJ G w0 ps w){d e b b':Nat}{o o':Obj}(hp:(d,Value.pointer (some ⟨b,0,none⟩))∈ps)(hq:(e,Value.pointer (some ⟨b',0,none⟩))∈ps)(hde:d≠e)(h1:G d=.inr o)(h2:G e=.inr o'):b≠b':=by
 obtain⟨i,hi,hpi⟩:=List.getElem_of_mem hp;obtain⟨j,hj,hqj⟩:=List.getElem_of_mem hq;have H:=List.pairwise_iff_getElem.1 h.2.2
 rcases Nat.lt_trichotomy i j with hlt|rfl|hlt
 ·have:=H i j hi hj hlt
  rw[hpi,hqj]at this;exact this o o' b b' h1 h2 rfl rfl
 ·rw[hpi]at hqj;injection hqj with h1 _;exact absurd h1 hde
 ·have:=H j i hj hi hlt
  rw[hpi,hqj]at this;exact(this o' o b' b h2 h1 rfl rfl).symm
end
end
end Go.Proofs.YtjeonjoifjbohaaGreat
