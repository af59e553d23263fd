/- What the statement SweepMarks needs, part 1. -/
import Derived.Test.YtjeonjoifjbohaaGreatRows
import Derived.WalkKit
import Derived.WalkSpells
import Derived.WalkLawsBesides
import Derived.Deep.QuietTactic
import Derived.BigQuiet
import Derived.Lib.Hide
import Derived.Deep.RegionHeld3
import Derived.Deep.DeepCutAuto
import Derived.OrdersHeld
import Derived.Stop.BytesEq
import Derived.Lib.SlBytesRow
import Derived.Deep.AppendLies
import Derived.MapKept
import Derived.Lib.OthersKept
import Derived.Shelf.Abstract
import Derived.Laws.Tables
import Derived.Shelf.SortM.Plain
set_option linter.unusedVariables false
set_option linter.unusedSimpArgs false
set_option linter.unnecessarySimpa false
set_option linter.unusedSectionVars false
set_option maxRecDepth 10000
set_option maxHeartbeats 8000000
namespace Go.Proofs.YtjeonjoifjbohaaGreat
theorem O{p:Prop}(h:p):Go.RowKit.Hid p:=Go.Lib.hid h
abbrev iN:=World
abbrev iK:=List UInt8
abbrev iL:=Array Value
abbrev iM:=Nat->Prop
abbrev iJ:=Ending->World->Prop
abbrev iO(b:Nat):Value:=.pointer (some ⟨b,0,none⟩)
variable{a:Act}{K:Act->iN->Prop}{ops:Array Oper}{ts:Array TypeId}{asked:Bool}{Q:Exit->Act->iN->Prop}{fn:Func}{f:FuncId}{m n x:Int}{us':List (ByteArray×Nat)}{r:List (Oper×Nat)}{tl:List Nat}{l:List Oper}{xs:List Operand}{args:List Value}{css:List iL}{B b bl i id j k off:Nat}{place:Nat->Option (Nat×Nat)}{fr:Nat×Nat}{o oi:Oper}{P:Program}{q:Prop}{d:TypeDesc}{T t ty yt:TypeId}{hold v:Value}{cs cur:iL}{G S S':iM}{c w w' w1:iN}
section
open Go.RowKit Go.Proofs.Tryz Go.Lib
def pre{α:Type}[DecidableEq α](k:Nat)(a b:List α):Bool:=decide (a.take k=b.take k)
theorem pre_zero{α:Type}[DecidableEq α](a b:List α):pre 0 a b=true:=by simp[pre]
theorem pre_succ{α:Type}[DecidableEq α]{a b:List α}(ha:k<a.length)(hb:k<b.length)(h:pre k a b=true):
 pre (k+1) a b=decide (a[k]=b[k]):=by
 simp only[pre,decide_eq_true_eq]at h |-;rw[List.take_succ_eq_append_getElem ha,List.take_succ_eq_append_getElem hb,h];rw[decide_eq_decide]
 constructor
 ·intro h';exact(List.append_cancel_left h'|>List.cons.inj).1
 ·intro h';rw[h']
theorem pre_full{α:Type}[DecidableEq α]{a b:List α}(hl:a.length=b.length)(h:a.length<=k):pre k a b=decide (a=b):=by
 simp[pre,List.take_of_length_le h,List.take_of_length_le (hl▸h)]
theorem pre_false{α:Type}[DecidableEq α]{a b:List α}(h:pre k a b=false):decide (a=b)=false:=by
 simp only[pre,decide_eq_false_iff_not]at h |-;rintro rfl;exact h rfl
theorem kZ{a b:Bool}(h:a=b):Ending.returned (.bool a)=.returned (.bool b):=by rw[h]
structure Mod(S:iM)(w w':iN):Prop where
 os:w'.os=w.os
 tape:w'.tape=w.tape
 output:w'.output=w.output
 size:w.heap.size<=w'.heap.size
 block:∀k,k<w.heap.size->¬S k->w'.heap[k]?=w.heap[k]?
def qJ:Nat->Prop:=fun _=>False
def vO(v:Value)(w:iN):iJ:=fun e w'=>e=.returned v/\Mod qJ w w'
def RetN(w:iN)(R:Value->iN->Prop):iJ:=fun e w'=>∃v,e=.returned v/\Mod qJ w w'/\R v w'
def SameRel{α:Type}[DecidableEq α](la lb:List α)(w0:iN)(s i:Value)(w:iN):Prop:=
 ∃(k:Nat),k<=la.length/\i=.int .i64 k/\s=.bool (pre k la lb)/\Mod qJ w0 w
theorem Mod.refl(S:iM)(w:iN):Mod S w w:=⟨rfl,rfl,rfl,Nat.le_refl _,fun _ _ _=>rfl⟩
theorem Mod.mono(h:Mod S w w')(hs:∀k,k<w.heap.size->S k->S' k):Mod S' w w':=
 ⟨h.os,h.tape,h.output,h.size,fun k hk hn=>h.block k hk (fun h'=>hn (hs k hk h'))⟩
theorem Mod.trans{S S':iM}{a b c:iN}(h:Mod S a b)(k:Mod S' b c)(hs:∀k,k<a.heap.size->S' k->S k):Mod S a c:=
 ⟨k.os.trans h.os,k.tape.trans h.tape,k.output.trans h.output,Nat.le_trans h.size k.size,
  fun i hi hn=>(k.block i (Nat.lt_of_lt_of_le hi h.size) (fun h'=>hn (hs i hi h'))).trans (h.block i hi hn)⟩
theorem Mod.drewN{S:iM}{a b:iN}(h:Mod S a b)(n:Nat):Mod S a (b.drewN n):=⟨h.os,h.tape,h.output,h.size,h.block⟩
theorem Mod.drew{S:iM}{a b:iN}(h:Mod S a b):Mod S a b.drew:=⟨h.os,h.tape,h.output,h.size,h.block⟩
theorem Mod.alloc{S:iM}{a b:iN}(h:Mod S a b)(o:Obj):Mod S a (b.alloc o):=
 ⟨h.os,h.tape,h.output,by have:=h.size;simp;omega,fun k hk hn=>(Below.heap_alloc _ _ _ (Nat.lt_of_lt_of_le hk h.size)).trans (h.block k hk hn)⟩
theorem Mod.setCell{S:iM}{a b:iN}(h:Mod S a b){p:Addr}(hp:p.block<a.heap.size->S p.block)(u:Value):Mod S a (b.setCell p u):=
 ⟨h.os,h.tape,h.output,by simpa[World.setCell]using h.size,fun k hk hn=>
  (Below.heap_setCell _ _ _ _ (fun e=>hn (by subst e;exact hp hk))).trans (h.block k hk hn)⟩
theorem Mod.below(h:Mod S w w')(hS:∀k,k<w.heap.size->¬S k):Below w.heap.size w w':=
 ⟨h.os,h.tape,h.output,h.size,fun k hk=>h.block k hk (hS k hk)⟩
theorem Mod.of_below(h:Below B w w'):Mod (fun k=>B<=k) w w':=
 ⟨h.os,h.tape,h.output,h.size,fun k _ hn=>h.block k (by omega)⟩
theorem Mod.grown{a:iN}{row:Option Nat}(h:Mod S a w)(hg:w.grownBy w' row)(hr:∀k,row=some k->k<a.heap.size->S k):Mod S a w':=
 ⟨hg.os.trans h.os,hg.tape.trans h.tape,hg.output.trans h.output,Nat.le_trans h.size hg.size,
  fun k hk hn=>(hg.block k (Nat.lt_of_lt_of_le hk h.size) (fun e=>hn (hr k e.symm hk))).trans (h.block k hk hn)⟩
theorem Mod.cell{S:iM}{w w':iN}(h:Mod S w w'){b o:Nat}{v:Value}(hn:¬S b)(hc:w.cell? ⟨b,o,none⟩=some v):w'.cell? ⟨b,o,none⟩=some v:=by
 have hb:=block_lt_of_cell hc;rw[World.cell?_of_block (w:=w) (h.block b hb hn)];exact hc
theorem Mod.obj(h:Mod S w w'){o:Obj}(hn:¬S b)(hc:w.heap[b]?=some o):w'.heap[b]?=some o:=by
 have hb:b<w.heap.size:=by
  rcases Nat.lt_or_ge b w.heap.size with h|h
  ·exact h
  ·rw[Array.getElem?_eq_none h]at hc;cases hc
 rw[h.block b hb hn];exact hc
def CellsAt(w:iN)(b off:Nat)(cs:iL):Prop:=∀j,j<cs.size->w.cell? ⟨b,off+j,none⟩=cs[j]?
theorem Mod.objB(h:Mod (fun k=>k=B) w w'){o:Obj}(hn:b≠B)(hc:w.heap[b]?=some o):w'.heap[b]?=some o:=h.obj hn hc
theorem Mod.transB{a b:iN}(h:Mod qJ a b)(k:Mod (fun k=>k=B) b c)(hs:a.heap.size<=B):Mod qJ a c:=h.trans k (fun k hk e=>by have h1:k=B:=e;omega)
theorem Mod.trans0{a b:iN}(h:Mod qJ a b)(k:Mod qJ b c):Mod qJ a c:=h.trans k (fun _ _ h=>h)
def Owned(own:Bool)(w:iN)(b:Nat):Prop:=own=true->∃cur T,w.heap[b]?=some (.cells cur T (0,0))
def Sl{α:Type}(own:Bool)(w:iN)(G:iM)(sz:Nat)(R:iL->α->Prop)(v:Value)(l:List α):Prop:=
 ∃a cap,v=.slice a l.length cap/\l.length<=cap/\cap<=maxLen/\
  (l≠[]->∃b off,a=some ⟨b,off,none⟩/\G b/\Owned own w b/\∀i (h:i<l.length),∃cs:iL,cs.size=sz/\R cs l[i]/\CellsAt w b (off+i*sz) cs)
def dH(cs:iL)(x:Int):Prop:=cs=#[.int .i64 x]
def qW(b:UInt8):Value:=.int .u8 (b.toNat:Int)
def yA(cs:iL)(x:UInt8):Prop:=cs=#[qW x]
def qA(x:iK):iL:=(x.map qW).toArray
def IdC(cs:iL)(x:iK):Prop:=cs=qA x/\x.length=32
theorem qD(x:iK):(qA x).size=x.length:=by simp[qA]
theorem CellsAt.keep(hm:Mod S w w')(h:CellsAt w b off cs)(hn:¬S b):CellsAt w' b off cs:=fun j hj=>by
 have:=h j hj;rw[Array.getElem?_eq_getElem hj]at this |-;exact hm.cell hn this
theorem CellsAt.of_obj{whole:iL}(h:w.heap[b]?=some (.cells whole T fr))(hs:∀j,j<cs.size->whole[off+j]?=cs[j]?):CellsAt w b off cs:=fun j hj=>by
 rw[cell_of_row w b _ whole T fr h];exact hs j hj
theorem CellsAt.whole(h:w.heap[b]?=some (.cells cs T fr)):CellsAt w b 0 cs:=fun j _=>by
 rw[cell_of_row w b _ cs T fr h,Nat.zero_add]
theorem CellsAt.part(h:CellsAt w b off cs)(hj:j<=cs.size):CellsAt w b (off+i) (cs.extract i j):=fun k hk=>by
 simp only[Array.size_extract]at hk;rw[Nat.add_assoc,h (i+k) (by omega),Array.getElem?_extract,if_pos (by omega)]
theorem CellsAt.one{c:Value}:CellsAt w b off #[c]↔w.cell? ⟨b,off,none⟩=some c:=by
 constructor
 ·intro h;simpa using h 0 (by simp)
 ·intro h j hj
  have:j=0:=by simp at hj;omega
  subst this;simpa using h
theorem CellsAt.cell{w:iN}{b off:Nat}{cs:iL}(h:CellsAt w b off cs){j:Nat}{v:Value}(hv:cs[j]?=some v):w.cell? ⟨b,off+j,none⟩=some v:=by
 have hj:j<cs.size:=by
  rcases Nat.lt_or_ge j cs.size with h|h
  ·exact h
  ·rw[Array.getElem?_eq_none h]at hv;cases hv
 rw[h j hj,hv]
theorem Owned.keep{own:Bool}(hm:Mod S w w')(h:Owned own w b)(hn:¬S b):Owned own w' b:=fun ho=>by
 obtain⟨cur,T,h⟩:=h ho;exact⟨cur,T,hm.obj hn h⟩
theorem Sl.at{α:Type}{own:Bool}{w:iN}{G:iM}{sz:Nat}{R:iL->α->Prop}{v:Value}{l:List α}(h:Sl own w G sz R v l):
 ∃a cap,v=.slice a l.length cap/\l.length<=9223372036854775807/\
  (∀i,i<l.length->∃b off,a=some ⟨b,off,none⟩/\G b/\Owned own w b/\∀i (h:i<l.length),∃cs:iL,cs.size=sz/\R cs l[i]/\CellsAt w b (off+i*sz) cs):=by
 obtain⟨a,cap,hv,hl,hc,h⟩:=h;exact⟨a,cap,hv,by unfold maxLen at hc;omega,fun i hi=>h (by rintro rfl;simp at hi)⟩
theorem Sl.keep{α:Type}{own:Bool}{w w':iN}{G S:iM}{sz:Nat}{R R':iL->α->Prop}{v:Value}{l:List α}(h:Sl own w G sz R v l)(hm:Mod S w w')(hd:∀k,G k->¬S k)
 (hR:∀cs x,R cs x->R' cs x):Sl own w' G sz R' v l:=by
 obtain⟨a,cap,hv,hl,hc,h⟩:=h;refine⟨a,cap,hv,hl,hc,fun hne=>?_⟩;obtain⟨b,off,ha,hG,ho,h⟩:=h hne;refine⟨b,off,ha,hG,ho.keep hm (hd b hG),fun i hi=>?_⟩
 obtain⟨cs,hs,hR',hcs⟩:=h i hi;exact⟨cs,hs,hR _ _ hR',hcs.keep hm (hd b hG)⟩
theorem Sl.keep0{α:Type}{own:Bool}{sz:Nat}{R:iL->α->Prop}{l:List α}(h:Sl own w G sz R v l)(hm:Mod qJ w w'):Sl own w' G sz R v l:=h.keep hm (fun _ _=>id) (fun _ _ h=>h)
theorem Sl.keepB{α:Type}{own:Bool}{sz:Nat}{R:iL->α->Prop}{l:List α}(h:Sl own w G sz R v l)(hm:Mod (fun k=>k=B) w w')(hd:∀k,G k->k≠B):Sl own w' G sz R v l:=h.keep hm hd (fun _ _ h=>h)
theorem Sl.mono{α:Type}{own:Bool}{G':iM}{sz:Nat}{R R':iL->α->Prop}{l:List α}(h:Sl own w G sz R v l)(hg:∀k,G k->G' k)
 (hR:∀cs x,R cs x->R' cs x):Sl own w G' sz R' v l:=by
 obtain⟨a,cap,hv,hl,hc,h⟩:=h;refine⟨a,cap,hv,hl,hc,fun hne=>?_⟩;obtain⟨b,off,ha,hG,ho,h⟩:=h hne;refine⟨b,off,ha,hg _ hG,ho,fun i hi=>?_⟩
 obtain⟨cs,hs,hR',hcs⟩:=h i hi;exact⟨cs,hs,hR _ _ hR',hcs⟩
theorem Sl.weak{α:Type}{own:Bool}{sz:Nat}{R:iL->α->Prop}{l:List α}(h:Sl own w G sz R v l):Sl false w G sz R v l:=by
 obtain⟨a,cap,hv,hl,hc,h⟩:=h;refine⟨a,cap,hv,hl,hc,fun hne=>?_⟩;obtain⟨b,off,ha,hG,_,h⟩:=h hne;exact⟨b,off,ha,hG,(fun h=>by cases h),h⟩
theorem Sl.one{α:Type}{own:Bool}{sz:Nat}{R:iL->α->Prop}{l:List α}(h:Sl own w G sz R v l):v.oneCell'=true:=by
 obtain⟨a,cap,rfl,_⟩:=h;rfl
theorem Sl.nil{α:Type}(own:Bool)(w:iN)(G:iM)(sz:Nat)(R:iL->α->Prop):Sl own w G sz R (.slice none 0 0) ([]:List α):=
 ⟨none,0,rfl,Nat.le_refl _,Nat.zero_le _,fun h=>absurd rfl h⟩
def All2{α β:Type}(R:α->β->Prop)(a:List α)(b:List β):Prop:=a.length=b.length/\∀i (h:i<a.length)(h':i<b.length),R a[i] b[i]
theorem All2.nil{α β:Type}{R:α->β->Prop}:All2 R [] []:=⟨rfl,fun i h=>by simp at h⟩
theorem All2.snoc{α β:Type}{R:α->β->Prop}{a:List α}{b:List β}{x:α}{y:β}(h:All2 R a b)(hxy:R x y):All2 R (a++[x]) (b++[y]):=by
 refine⟨by simp[h.1],fun i hi hi'=>?_⟩
 rcases Nat.lt_or_ge i a.length with hlt|hge
 ·rw[List.getElem_append_left hlt,List.getElem_append_left (h.1▸hlt)]
  exact h.2 i hlt _
 ·have e:i=a.length:=by simp at hi;omega
  have e':i=b.length:=by rw[e,h.1]
  have h1:(a++[x])[i]=x:=by subst e;simp
  have h2:(b++[y])[i]=y:=by
   have:∀(n:Nat)(hn:n<(b++[y]).length),n=b.length->(b++[y])[n]=y:=fun n hn e=>by subst e;simp
   exact this i hi' e'
  rw[h1,h2];exact hxy
theorem All2.imp{α β:Type}{R R':α->β->Prop}{a:List α}{b:List β}(h:All2 R a b)(hi:∀x y,R x y->R' x y):All2 R' a b:=⟨h.1,fun i h1 h2=>hi _ _ (h.2 i h1 h2)⟩
theorem Sl.of_owns{α:Type}{base T sz n:Nat}{xs:List Value}{l:List α}{R:iL->α->Prop}(h:w.ownsRow base T sz v n xs)
 (hx:xs=css.flatMap Array.toList)(hs:∀c∈css,c.size=sz)(hR:All2 R css l)(hn:n=l.length):
 Sl true w (fun k=>base<=k/\k<w.heap.size/\v.ownBlock=some k) sz R v l:=by
 subst hn;have hlen:css.length=l.length:=hR.1
 rcases h.2 with⟨rfl,h0⟩|⟨g,cap,cur,rfl,hb,hg,hc,hm,hcs,ht⟩
 ·have:l=[]:=List.eq_nil_of_length_eq_zero h0
  subst this;exact Sl.nil _ _ _ _ _
 ·refine⟨_,cap,rfl,hc,hm,fun hne=>⟨g,0,rfl,⟨hb,?_,rfl⟩,fun _=>⟨cur,T,hg⟩,fun i hi=>?_⟩⟩
  ·rcases Nat.lt_or_ge g w.heap.size with h|h
   ·exact h
   ·rw[Array.getElem?_eq_none h]at hg;cases hg
  ·have hic:i<css.length:=by omega
   refine⟨css[i],hs _ (List.getElem_mem _),?_,fun j hj=>?_⟩
   ·exact hR.2 i hic hi
   ·rw[cell_of_row w g _ cur T (0,0) hg,Nat.zero_add]
    have hsz:css[i].size=sz:=hs _ (List.getElem_mem _)
    have hflat:∀(css:List iL)(i:Nat)(hic:i<css.length),(∀c∈css,c.size=sz)->∀j,j<sz->(css.flatMap Array.toList)[i*sz+j]?=css[i][j]?:=by
     intro css
     induction css with
     |nil=>intro i hic;simp at hic
     |cons c css ih=>
      intro i hic hs j hj;have hc:c.toList.length=sz:=by simpa using hs c (by simp)
      cases i with
      |zero=>simp only[List.flatMap_cons,Nat.zero_mul,Nat.zero_add,List.getElem_cons_zero];rw[List.getElem?_append_left (by omega)];simp
      |succ i=>
       simp only[List.flatMap_cons,List.getElem_cons_succ]
       rw[List.getElem?_append_right (by rw[hc,Nat.succ_mul];omega),hc,show(i+1)*sz+j-sz=i*sz+j by rw[Nat.succ_mul];omega]
       exact ih i (by simpa using hic) (fun c hc=>hs c (by simp[hc])) j hj
    rw[<-hflat css i hic hs j (hsz▸hj),<-hx,<-ht]
    have hlt:i*sz+j<l.length*sz:=by
     have h1:(i+1)*sz<=l.length*sz:=Nat.mul_le_mul_right _ hi;rw[Nat.succ_mul]at h1;have:=hsz▸hj;omega
    rw[List.getElem?_take_of_lt hlt]
    simp
section
variable{P:Program}{ops:Array Oper}{Q:Exit->Act->iN->Prop}{S:iN->Prop}{md:Region.Mode}
def GivesV(P:Program)(r:Result Next)(v:Value)(w:iN):Prop:=
 r=.ok (.value v) w\/∃f args,r=.ok (.enter f args) w/\Calls P f args w (fun e w'=>e=.returned v/\w'=w)
def YieldsC(P:Program)(ops:Array Oper)(S:iN->Prop)(o:Oper)(v:Value)(a:Act):Prop:=
 (Region.wanted o (yielded ops a.tmps)=true/\∀w,S w->GivesV P ((execOp a.eval o).run P w) v w)\/
 (Region.wanted o (yielded ops a.tmps)=false/\v=undef)
theorem GivesV.wp{o:Oper}{a:Act}{v:Value}{w:iN}(h:GivesV P ((execOp a.eval o).run P w) v w){K:Act->iN->Prop}{Q:Exit->Act->iN->Prop}(k:K (a.put o.dst v) w):o.wp P a w K Q:=by
 unfold Oper.wp
 rcases h with h|⟨f,args,h,hc⟩
 ·rw[h];exact k
 ·rw[h]
  refine hc.mono fun e w' ⟨he,hw⟩=>?_;subst he;subst hw;exact k
theorem YieldsC.wpOp{i:Nat}{o:Oper}{v:Value}{a:Act}(hi:ops[i]?=some o)(hy:YieldsC P ops S o v a)
 {K:Act->iN->Prop}{w:iN}(hS:S w)(h:K (a.put o.dst v) w):wpOp P ops Q i K a w:=by
 unfold Go.wpOp;simp only[hi]
 rcases hy with⟨hw,hv⟩|⟨hw,rfl⟩
 ·simp only[hw,if_true];exact .inl ((hv w hS).wp h)
 ·simp only[hw,Bool.false_eq_true,if_false];exact h
theorem YieldsC.of_same{a':Act}(hy:YieldsC P ops S o v a)(he:execOp a'.eval o=execOp a.eval o)
 (hw:Region.wanted o (yielded ops a'.tmps)=Region.wanted o (yielded ops a.tmps)):YieldsC P ops S o v a':=by
 unfold YieldsC at*;rw[he,hw];exact hy
theorem wpOp_putC{oj:Oper}(hj:ops[j]?=some oj)(hap:oi.apart ops oj=true)
 (hsi:∀cs b,oi.op≠.select cs b)(hsj:∀cs b,oj.op≠.select cs b)
 (hQ:∀c a w,Q (.panic c) (a.put oi.dst v) w->Q (.panic c) a w)
 (hy:YieldsC P ops S oi v a)(h:wpOp P ops Q j K (a.put oi.dst v) w):
 wpOp P ops Q j (fun a' w'=>YieldsC P ops S oi v a'/\K (a'.put oi.dst v) w') a w:=by
 obtain⟨h1,h2,h3⟩:=Oper.apart_spec hap
 have keep:∀(a:Act),YieldsC P ops S oi v a->∀u,YieldsC P ops S oi v (a.put oj.dst u):=fun a hy u=>
  hy.of_same (execOp_put oi hsi a oj.dst u h3) (wanted_put oi a oj.dst u h3)
 have keepD:∀d,YieldsC P ops S oi v { a with defers:=d::a.defers }:=fun d=>hy.of_same rfl rfl;unfold wpOp at*;simp only[hj]at*;rw[wanted_put oj a oi.dst v h1]at h
 split
 ·rename_i hw
  simp only[hw,if_true]at h
  rcases h with h|⟨hasks,hlets⟩
  case inr=>exact .inr ⟨by unfold Oper.asks at*;rw[execOp_put oj hsj a oi.dst v h1]at hasks;exact hasks,hlets⟩
  refine .inl ?_;unfold Oper.wp at*;rw[execOp_put oj hsj a oi.dst v h1]at h;generalize (execOp a.eval oj).run P w=r at*
  cases r with
  |ok n w'=>
   cases n<;>simp only[Oper.upon]at h |-
   case value u=>exact⟨keep a hy u,by rw[<-Act.put_comm a v u h2];exact h⟩
   case skip=>exact⟨keep a hy _,by rw[<-Act.put_comm a v undef h2];exact h⟩
   case defer d=>
    refine⟨keep _ (keepD d) _,?_⟩;rw[<-Act.put_comm _ v undef h2,<-Act.put_defers];exact h
   case enter f args=>
    refine Calls.mono h fun e w'' he=>?_
    cases e with
    |returned u=>exact⟨keep a hy u,by rw[<-Act.put_comm a v u h2];exact he⟩
    |panicked c=>exact hQ _ _ _ he
    |outgrown=>exact he
   case row row args=>exact Rows.mono h fun u w'' he=>⟨keep a hy u,by rw[<-Act.put_comm a v u h2];exact he⟩
  |halt x w'=>
   cases x<;>simp only[Oper.upon]at h |-
   case panic u=>exact hQ _ _ _ h
 ·rename_i hw
  simp only[hw]at h;exact⟨keep a hy _,by rw[<-Act.put_comm a v undef h2];exact h⟩
def vT(tl:List Nat)(listed:Array Bool):Bool:=tl.all fun t=> !listed.getD t false
def pW(P:Program)(md:Region.Mode)(ops:Array Oper)(Q:Exit->Act->iN->Prop)(S:iN->Prop)(tl:List Nat):Nat->Array Bool->Act->iN->Prop
 |0,listed,a,w=>Region.ready md ops listed=[]/\Q .normal a w
 |fuel+1,listed,a,w=>
  (Region.ready md ops listed=[]->Q .normal a w)/\
  ∀i∈Region.ready md ops listed,wpOp P ops Q i (fun a' w'=>(vT tl (listed.setIfInBounds i true)=true->S w')/\pW P md ops Q S tl fuel (listed.setIfInBounds i true) a' w') a w
theorem dK{tl:List Nat}:∀(fuel:Nat)(listed:Array Bool)(a:Act)(w:iN),pW P md ops Q S tl fuel listed a w->wpAny P md ops Q fuel listed a w
 |0,_,_,_,h=>h
 |fuel+1,_,_,_,h=>⟨h.1,fun i hi=>wpOp_mono (fun a' w' h'=>dK fuel _ a' w' h'.2) (h.2 i hi)⟩
def kU(Q:Exit->Act->iN->Prop):Prop:=∀c a a' w,a'.defers=a.defers->Q (.panic c) a w->Q (.panic c) a' w
theorem put_defers(a:Act)(d:Option Tmp)(v:Value):(a.put d v).defers=a.defers:=by cases d<;>rfl
def waitsAll(md:Region.Mode)(ops:Array Oper)(tl:List Nat)(i:Nat):Bool:=
 tl.all fun t=>t !=i&&(match ops[t]? with|some o=>o.after.any fun e=>Region.binds md e&&e.on==i|none=>false)
theorem dP{listed:Array Bool}(h:vT tl listed=true)(hj:j∉tl):vT tl (listed.setIfInBounds j true)=true:=by
 simp only[vT,List.all_eq_true,Bool.not_eq_true']at h |-;intro t ht;rw[getD_set_ne false (by rintro rfl;exact hj ht)];exact h t ht
theorem wpAnyG_first(hi:ops[i]?=some oi)(hsel:∀(j:Nat)(o:Oper) cs b,ops[j]?=some o->o.op≠.select cs b)
 (hQ:kU Q)(htl:waitsAll md ops tl i=true):
 ∀(fuel:Nat)(listed:Array Bool)(a:Act)(w:iN),
  (∀j oj,ops[j]?=some oj->j≠i->listed.getD j true=false->(∀e∈oj.after,Region.binds md e=true->e.on≠i)->oi.apart ops oj=true)->
  i∈Region.ready md ops listed->YieldsC P ops S oi v a->S w->vT tl listed=true->
  pW P md ops Q S tl fuel (listed.setIfInBounds i true) (a.put oi.dst v) w->pW P md ops Q S tl (fuel+1) listed a w:=by
 intro fuel
 have hw:∀t∈tl,t≠i/\∃o,ops[t]?=some o/\∃e∈o.after,Region.binds md e=true/\e.on=i:=by
  intro t ht;have:=List.all_eq_true.1 htl t ht;simp only[Bool.and_eq_true,bne_iff_ne]at this;obtain⟨h1,h2⟩:=this;refine⟨h1,?_⟩
  cases ho:ops[t]? with
  |none=>simp[ho]at h2
  |some o=>
   simp only[ho]at h2;obtain⟨e,he,hb⟩:=Array.any_eq_true'.1 h2;exact⟨o,rfl,e,he,by simpa using hb⟩
 induction fuel with
 |zero=>
  intro listed a w _ hr hy hS _ H;refine⟨fun h=>(by rw[h]at hr;cases hr),fun j hj=>?_⟩
  by_cases hji:j=i
  ·subst hji;exact hy.wpOp hi hS ⟨fun _=>hS,H⟩
  ·have:=ready_mono hj hji
   rw[H.1]at this
   cases this
 |succ fuel ih=>
  intro listed a w hfree hr hy hS hn H;refine⟨fun h=>(by rw[h]at hr;cases hr),fun j hj=>?_⟩
  by_cases hji:j=i
  ·subst hji;exact hy.wpOp hi hS ⟨fun _=>hS,H⟩
  ·have h1:=H.2 j (ready_mono hj hji)
   obtain⟨hjun,oj,hoj,hall⟩:=mem_ready.1 hj
   have hnot:∀e∈oj.after,Region.binds md e=true->e.on≠i:=fun e he hb heq=>by
    have h1:=hall e he hb;have h0:=(mem_ready.1 hr).1;rw[heq]at h1
    rcases Nat.lt_or_ge i listed.size with h'|h'
    ·simp[h']at h0 h1;rw[h0]at h1;cases h1
    ·simp[Array.getElem?_eq_none h']at h1
   have hjt:j∉tl:=fun ht=>by
    obtain⟨_,o,ho,e,he,hb,hon⟩:=hw j ht;rw[hoj]at ho;cases ho;exact hnot e he hb hon
   have h2:=wpOp_putC hoj (hfree j oj hoj hji hjun hnot) (fun cs b=>hsel i oi cs b hi) (fun cs b=>hsel j oj cs b hoj) (fun c a w hq=>hQ _ _ _ _ (by simp[put_defers]) hq) hy h1
   have hfree':∀k ok,ops[k]?=some ok->k≠i->(listed.setIfInBounds j true).getD k true=false->
    (∀e∈ok.after,Region.binds md e=true->e.on≠i)->oi.apart ops ok=true:=fun k ok hk hki hun hno=>by
    refine hfree k ok hk hki ?_ hno
    by_cases hjk:j=k
    ·subst hjk;exact hjun
    ·rw[getD_set_ne true hjk]at hun;exact hun
   have hn':=dP hn hjt;have hni:vT tl ((listed.setIfInBounds i true).setIfInBounds j true)=true:=dP (dP hn fun ht=>(hw i ht).1 rfl) hjt
   refine wpOp_mono (fun a' w' h3=>⟨fun _=>h3.2.1 hni,ih (listed.setIfInBounds j true) a' w' hfree' (ready_mono hr (Ne.symm hji)) h3.1 (h3.2.1 hni) hn' ?_⟩) h2
   rw[Array.setIfInBounds_comm _ _ hji];exact h3.2.2
theorem wpAnyG_free(hi:ops[i]?=some oi)(hsel:∀(j:Nat)(o:Oper) cs b,ops[j]?=some o->o.op≠.select cs b)
 (hQ:kU Q)(hit:i∉tl):
 ∀(fuel:Nat)(listed:Array Bool)(a:Act)(w:iN),
  (∀j oj,ops[j]?=some oj->j≠i->listed.getD j true=false->(∀e∈oj.after,Region.binds md e=true->e.on≠i)->oi.apart ops oj=true)->
  i∈Region.ready md ops listed->YieldsC P ops (fun _=>True) oi v a->(vT tl listed=true->S w)->
  pW P md ops Q S tl fuel (listed.setIfInBounds i true) (a.put oi.dst v) w->pW P md ops Q S tl (fuel+1) listed a w:=by
 intro fuel
 have hback:∀listed:Array Bool,vT tl (listed.setIfInBounds i true)=true->vT tl listed=true:=by
  intro listed h;simp only[vT,List.all_eq_true,Bool.not_eq_true']at h |-;intro t ht;have:=h t ht
  rwa[getD_set_ne false (by rintro rfl;exact hit ht)]at this
 induction fuel with
 |zero=>
  intro listed a w _ hr hy hS H;refine⟨fun h=>(by rw[h]at hr;cases hr),fun j hj=>?_⟩
  by_cases hji:j=i
  ·subst hji;exact hy.wpOp hi trivial ⟨fun hn=>hS (hback _ hn),H⟩
  ·have:=ready_mono hj hji
   rw[H.1]at this
   cases this
 |succ fuel ih=>
  intro listed a w hfree hr hy hS H;refine⟨fun h=>(by rw[h]at hr;cases hr),fun j hj=>?_⟩
  by_cases hji:j=i
  ·subst hji;exact hy.wpOp hi trivial ⟨fun hn=>hS (hback _ hn),H⟩
  ·have h1:=H.2 j (ready_mono hj hji)
   obtain⟨hjun,oj,hoj,hall⟩:=mem_ready.1 hj
   have hnot:∀e∈oj.after,Region.binds md e=true->e.on≠i:=fun e he hb heq=>by
    have h1:=hall e he hb;have h0:=(mem_ready.1 hr).1;rw[heq]at h1
    rcases Nat.lt_or_ge i listed.size with h'|h'
    ·simp[h']at h0 h1;rw[h0]at h1;cases h1
    ·simp[Array.getElem?_eq_none h']at h1
   have h2:=wpOp_putC hoj (hfree j oj hoj hji hjun hnot) (fun cs b=>hsel i oi cs b hi) (fun cs b=>hsel j oj cs b hoj) (fun c a w hq=>hQ _ _ _ _ (by simp[put_defers]) hq) hy h1
   have hfree':∀k ok,ops[k]?=some ok->k≠i->(listed.setIfInBounds j true).getD k true=false->
    (∀e∈ok.after,Region.binds md e=true->e.on≠i)->oi.apart ops ok=true:=fun k ok hk hki hun hno=>by
    refine hfree k ok hk hki ?_ hno
    by_cases hjk:j=k
    ·subst hjk;exact hjun
    ·rw[getD_set_ne true hjk]at hun;exact hun
   have hfwd:vT tl (listed.setIfInBounds j true)=true->vT tl ((listed.setIfInBounds i true).setIfInBounds j true)=true:=fun h=>by
    rw[Array.setIfInBounds_comm _ _ (Ne.symm hji)];exact dP h hit
   refine wpOp_mono (fun a' w' h3=>⟨fun hn=>h3.2.1 (hfwd hn),ih (listed.setIfInBounds j true) a' w' hfree' (ready_mono hr (Ne.symm hji)) h3.1 (fun hn=>h3.2.1 (hfwd hn)) ?_⟩) h2
   rw[Array.setIfInBounds_comm _ _ hji];exact h3.2.2
def piOk(md:Region.Mode)(ops:Array Oper)(tl:List Nat):List (Nat×Nat)->Array Bool->Bool
 | [],listed=>(Region.ready md ops listed).isEmpty
 |(i,0)::r,listed=>i<ops.size&&Region.free md ops listed i&&(Region.ready md ops listed).contains i&&waitsAll md ops tl i&&vT tl listed&&piOk md ops tl r (listed.setIfInBounds i true)
 |(i,1)::r,listed=>i<ops.size&&(Region.ready md ops listed)==[i]&& !tl.contains i&&piOk md ops tl r (listed.setIfInBounds i true)
 |(i,2)::r,listed=>i<ops.size&&(Region.ready md ops listed)==[i]&&tl.contains i&& !vT tl (listed.setIfInBounds i true)&&piOk md ops tl r (listed.setIfInBounds i true)
 |(i,_+3)::r,listed=>i<ops.size&&Region.free md ops listed i&&(Region.ready md ops listed).contains i&& !tl.contains i&&piOk md ops tl r (listed.setIfInBounds i true)
def zF(P:Program)(ops:Array Oper)(Q:Exit->Act->iN->Prop):(iN->Prop)->List (Oper×Nat)->Act->iN->Prop
 |_,[],a,w=>Q .normal a w
 |S,(o,0)::r,a,w=>∃v,YieldsC P ops S o v a/\zF P ops Q S r (a.put o.dst v) w
 |S,(o,1)::r,a,w=>
  if Region.wanted o (yielded ops a.tmps)then o.wp P a w (fun a' w'=>∃S':iN->Prop,(∀w,S' w->S w)/\S' w'/\zF P ops Q S' r a' w') Q\/(o.asks P a w/\LetsOut Q)
  else S w/\zF P ops Q S r (a.put o.dst undef) w
 |S,(o,2)::r,a,w=>
  if Region.wanted o (yielded ops a.tmps)then o.wp P a w (zF P ops Q S r) Q\/(o.asks P a w/\LetsOut Q)
  else zF P ops Q S r (a.put o.dst undef) w
 |S,(o,_+3)::r,a,w=>∃v,YieldsC P ops (fun _=>True) o v a/\zF P ops Q S r (a.put o.dst v) w
theorem gF{S':iN->Prop}{tl:List Nat}(hSS:∀w,S' w->S w):∀(fuel:Nat)(listed:Array Bool)(a:Act)(w:iN),pW P md ops Q S' tl fuel listed a w->pW P md ops Q S tl fuel listed a w
 |0,_,_,_,h=>h
 |fuel+1,_,_,_,h=>⟨h.1,fun i hi=>wpOp_mono (fun a' w' h'=>⟨fun hn=>hSS _ (h'.1 hn),gF hSS fuel _ a' w' h'.2⟩) (h.2 i hi)⟩
theorem pM{tl:List Nat}(hs:Region.noSelect ops=true)(hQ:kU Q):
 ∀(S:iN->Prop)(l:List (Nat×Nat))(listed:Array Bool)(a:Act)(w:iN),piOk md ops tl l listed=true->(vT tl listed=true->S w)->zF P ops Q S (l.map fun x=>(ops.getD x.1 default,x.2)) a w->
  pW P md ops Q S tl l.length listed a w
 |S,[],listed,a,w,hp,_,h=>by
  simp only[piOk,List.isEmpty_iff]at hp;exact⟨hp,h⟩
 |S,(i,0)::r,listed,a,w,hp,hS,h=>by
  simp only[piOk,Bool.and_eq_true,decide_eq_true_eq]at hp;obtain⟨⟨⟨⟨⟨hi,hf⟩,hr⟩,hwa⟩,hn⟩,hp⟩:=hp;obtain⟨v,hy,h⟩:=h
  have hi':ops[i]?=some (ops.getD i default):=by simp[Array.getD,hi]
  exact wpAnyG_first hi' (Region.noSelect_spec hs) hQ hwa r.length listed a w (Region.free_spec hi' hf) (by simpa using hr) hy (hS hn) hn
   (pM hs hQ S r _ _ w hp (fun _=>hS hn) h)
 |S,(i,n+3)::r,listed,a,w,hp,hS,h=>by
  simp only[piOk,Bool.and_eq_true,decide_eq_true_eq,Bool.not_eq_true']at hp;obtain⟨⟨⟨⟨hi,hf⟩,hr⟩,hit⟩,hp⟩:=hp;obtain⟨v,hy,h⟩:=h
  have hit':i∉tl:=by simpa using hit
  have hi':ops[i]?=some (ops.getD i default):=by simp[Array.getD,hi]
  refine wpAnyG_free hi' (Region.noSelect_spec hs) hQ hit' r.length listed a w (Region.free_spec hi' hf) (by simpa using hr) hy hS
   (pM hs hQ S r _ _ w hp (fun hn=>hS ?_) h)
  simp only[vT,List.all_eq_true,Bool.not_eq_true']at hn |-;intro t ht;have:=hn t ht
  rwa[getD_set_ne false (by rintro rfl;exact hit' ht)]at this
 |S,(i,1)::r,listed,a,w,hp,hS,h=>by
  simp only[piOk,Bool.and_eq_true,decide_eq_true_eq,beq_iff_eq]at hp;obtain⟨⟨⟨hi,hr⟩,ht⟩,hp⟩:=hp;refine⟨fun h0=>(by rw[hr]at h0;cases h0),fun j hj=>?_⟩
  have:j=i:=by rw[hr]at hj;simpa using hj
  subst this;have hi':ops[j]?=some (ops.getD j default):=by simp[Array.getD,hi]
  simp only[List.map_cons]at h
  refine wpOp_mono (K:=fun a' w'=>∃S':iN->Prop,(∀w,S' w->S w)/\S' w'/\zF P ops Q S' (r.map fun x=>(ops.getD x.1 default,x.2)) a' w')
   (fun a' w' h'=>(by
    obtain⟨S',hSS,h1,h2⟩:=h'
    exact⟨fun _=>hSS _ h1,gF hSS _ _ _ _ (pM hs hQ S' r _ _ w' hp (fun _=>h1) h2)⟩)) ?_
  unfold zF at h;unfold wpOp;generalize ops.getD j default=oj at hi' h;simp only[hi']
  by_cases hg:Region.wanted oj (yielded ops a.tmps)=true
  ·rw[if_pos hg]at h |-
   exact h
  ·rw[if_neg hg]at h |-
   exact⟨S,fun _ h=>h,h.1,h.2⟩
 |S,(i,2)::r,listed,a,w,hp,hS,h=>by
  simp only[piOk,Bool.and_eq_true,decide_eq_true_eq,beq_iff_eq,Bool.not_eq_true']at hp;obtain⟨⟨⟨⟨hi,hr⟩,ht⟩,hno⟩,hp⟩:=hp
  refine⟨fun h0=>(by rw[hr]at h0;cases h0),fun j hj=>?_⟩;have:j=i:=by rw[hr]at hj;simpa using hj
  subst this;have hi':ops[j]?=some (ops.getD j default):=by simp[Array.getD,hi]
  simp only[List.map_cons]at h
  refine wpOp_mono (K:=fun a' w'=>zF P ops Q S (r.map fun x=>(ops.getD x.1 default,x.2)) a' w')
   (fun a' w' h'=>⟨fun hn=>(by rw[hno]at hn;cases hn),pM hs hQ S r _ _ w' hp (fun hn=>(by rw[hno]at hn;cases hn)) h'⟩) ?_
  unfold wpOp;generalize ops.getD j default=oj at hi' h;simp only[hi'];exact h
theorem wp_region_pi(p:List (Nat×Nat))(tl:List Nat)(S:iN->Prop)(hm:P.follows .mixedOrders=true)(hs:Region.noSelect l.toArray=true)
 (hl:p.length=l.toArray.size)(hp:piOk .any l.toArray tl p (Array.replicate l.toArray.size false)=true)(hQ:kU Q)(hS:S w.drew)
 (h:zF P l.toArray Q S (p.map fun x=>(l.getD x.1 default,x.2)) a w.drew):(Code.region id l.toArray true).wp P Q a w:=
 wp_region_any hm (by
  have e:(p.map fun x=>((l.toArray).getD x.1 default,x.2))=(p.map fun x=>(l.getD x.1 default,x.2)):=by
   apply List.map_congr_left;intro x _;simp[Array.getD_eq_getD_getElem?,List.getD]
  have H:=dK _ _ _ _ (pM hs hQ S p _ a w.drew hp (fun _=>hS) (by rw[e];exact h));rw[hl]at H
  exact H)
theorem rM:∀(S:iN->Prop)(l:List (Oper×Nat))(a:Act)(w:iN),(∀x∈l,x.2≠2)->S w->zF P ops Q S l a w->wpList P ops Q (l.map (·.1)) a w
 |_,[],_,_,_,_,h=>h
 |S,(o,0)::r,a,w,hl,hS,h=>by
  obtain⟨v,hy,h⟩:=h;have ih:=rM S r _ w (fun x hx=>hl x (by simp[hx])) hS h;simp only[List.map_cons];unfold wpList
  rcases hy with⟨hw,hv⟩|⟨hw,rfl⟩
  ·rw[if_pos hw]
   refine .inl ?_;exact(hv w hS).wp ih
  ·rw[hw];exact ih
 |S,(o,n+3)::r,a,w,hl,hS,h=>by
  obtain⟨v,hy,h⟩:=h;have ih:=rM S r _ w (fun x hx=>hl x (by simp[hx])) hS h;simp only[List.map_cons];unfold wpList
  rcases hy with⟨hw,hv⟩|⟨hw,rfl⟩
  ·rw[if_pos hw]
   refine .inl ?_;exact(hv w trivial).wp ih
  ·rw[hw];exact ih
 |S,(o,2)::r,a,w,hl,hS,h=>absurd rfl (hl (o,2) (by simp))
 |S,(o,1)::r,a,w,hl,hS,h=>by
  simp only[List.map_cons];unfold wpList;unfold zF at h
  split
  ·rename_i hw
   rw[if_pos hw]at h;exact h.imp (fun h=>Oper.wp_mono (fun a' w' ⟨S',_,h1,h2⟩=>rM S' r a' w' (fun x hx=>hl x (by simp[hx])) h1 h2) h) id
  ·rename_i hw
   rw[if_neg hw]at h;exact rM S r _ w (fun x hx=>hl x (by simp[hx])) h.1 h.2
theorem gE(p:List Nat)(S:iN->Prop)(hl:p.length=l.length)(hp:(p.all (·!=2))=true)(hS:S w)
 (h:zF P l.toArray Q S (l.zip p) a w):(Code.region id l.toArray false).wp P Q a w:=
 wp_region_lit (by
  have:=rM S (l.zip p) a w (fun x hx=>by
   have:=List.of_mem_zip hx
   simpa using List.all_eq_true.1 hp x.2 this.2) hS h
  rwa[List.map_fst_zip (by omega)]at this)
theorem sR(h:Q .normal a w):zF P ops Q S [] a w:=h
theorem qV(hw:Region.wanted o (yielded ops a.tmps)=true)
 (hv:∀w,S w->(execOp a.eval o).run P w=.ok (.value v) w)(h:zF P ops Q S r (a.put o.dst v) w):zF P ops Q S ((o,0)::r) a w:=
 ⟨v,.inl ⟨hw,fun w hS=>.inl (hv w hS)⟩,h⟩
theorem qM(hw:Region.wanted o (yielded ops a.tmps)=true)
 (hv:∀w,(execOp a.eval o).run P w=.ok (.value v) w)(h:zF P ops Q S r (a.put o.dst v) w):zF P ops Q S ((o,3)::r) a w:=
 ⟨v,.inl ⟨hw,fun w _=>.inl (hv w)⟩,h⟩
theorem zA(hw:Region.wanted o (yielded ops a.tmps)=false)
 (h:zF P ops Q S r (a.put o.dst undef) w):zF P ops Q S ((o,3)::r) a w:=
 ⟨undef,.inr ⟨hw,rfl⟩,h⟩
theorem jG(hw:Region.wanted o (yielded ops a.tmps)=false)
 (h:zF P ops Q S r (a.put o.dst undef) w):zF P ops Q S ((o,0)::r) a w:=
 ⟨undef,.inr ⟨hw,rfl⟩,h⟩
theorem uA{args:iL}(hw:Region.wanted o (yielded ops a.tmps)=true)
 (hr:∀w,(execOp a.eval o).run P w=.ok (.enter f args) w)(hc:∀w,S w->Calls P f args w (fun e w'=>e=.returned v/\w'=w))(h:zF P ops Q S r (a.put o.dst v) w):zF P ops Q S ((o,0)::r) a w:=
 ⟨v,.inl ⟨hw,fun w hS=>.inr ⟨f,args,hr w,hc w hS⟩⟩,h⟩
theorem qH(hg:Region.wanted o (yielded ops a.tmps)=true)
 (h:∀K:Act->iN->Prop,(∀a' w',S w'->zF P ops Q S r a' w'->K a' w')->o.wp P a w K Q):zF P ops Q S ((o,1)::r) a w:=by
 unfold zF;rw[if_pos hg];exact .inl (h _ fun a' w' h1 h2=>⟨S,fun _ h=>h,h1,h2⟩)
theorem zP(hg:Region.wanted o (yielded ops a.tmps)=true)
 (h:∀K:Act->iN->Prop,(∀a' w',zF P ops Q S r a' w'->K a' w')->o.wp P a w K Q):zF P ops Q S ((o,2)::r) a w:=by
 unfold zF;rw[if_pos hg];exact .inl (h _ fun a' w' h2=>h2)
theorem xN(hg:Region.wanted o (yielded ops a.tmps)=false)(hS:S w)
 (h:zF P ops Q S r (a.put o.dst undef) w):zF P ops Q S ((o,1)::r) a w:=by
 unfold zF;rw[hg];exact⟨hS,h⟩
end
theorem xM(f:FuncId)(xs:List Operand)(ts:Array TypeId)(ho:o.op=.call { callee:=.value (.func f),args:=xs.toArray,argTypes:=ts })(fn:Func)(hf:P.funcs[f]?=some fn)
 (hb:fn.body.isSome=true)(hn:(fn.name== "runtime.NumGoroutine")=false)(args:List Value)(ha:xs.map a.eval=args)(w:iN):(execOp a.eval o).run P w=.ok (.enter f args.toArray) w:=by
 subst ha;have hb':¬fn.body=none:=by intro h;simp[h]at hb
 have hn':¬fn.name= "runtime.NumGoroutine" :=by simpa using hn
 unfold execOp
 simp[ho,resolve,Act.eval,Deferred.ofValue,invoke,callFunc,hf,hb',hn']
theorem run_loadVar_cells(hc:CellsAt w b off cs)
 (hu:P.underlying ty=some d)(hd:(match d with| .struct _| .array _ _=>true|_=>false)=true)(hi:(P.info? ty).map (·.size)=some cs.size):
 (loadVar ty ⟨b,off,none⟩).run P w=.ok (.agg cs) w:=by
 have hl:(loadCells ⟨b,off,none⟩ cs.toList.length).run P w=.ok cs.toList.toArray w:=
  run_loadCells_list (P:=P) w ⟨b,off,none⟩ cs.toList (fun j v hv=>by
   have hj:j<cs.size:=by
    rcases Nat.lt_or_ge j cs.toList.length with h|h
    ·simpa using h
    ·rw[List.getElem?_eq_none h]at hv;cases hv
   have hadd:(⟨b,off,none⟩:Addr).add j=⟨b,off+j,none⟩:=by unfold Addr.add;split<;>simp_all
   rw[hadd,hc j hj]
   simpa using hv)
 cases hq:P.info? ty with
 |none=>simp[hq]at hi
 |some i=>
  have hs:i.size=cs.size:=by simpa[hq]using hi
  have hagg:(isAgg ty).run P w=.ok true w:=by
   unfold isAgg;rw[Sem.run_bind,run_underlying hu w]
   cases d<;>simp_all
  simp only[Array.length_toList,Array.toArray_toList]at hl
  simp[loadVar,Sem.run_bind,hagg,sizeOf,typeInfo,hq,hs,hl]
theorem pI(ty:TypeId)(x:Operand)(ho:o.op=.load ty x)(b off:Nat)(hx:a.eval x=.pointer (some ⟨b,off,none⟩))
 (cs:iL)(hc:CellsAt w b off cs)(d:TypeDesc)(hu:P.underlying ty=some d)(hd:(match d with| .struct _| .array _ _=>true|_=>false)=true)(n:Nat)(hi:(P.info? ty).map (·.size)=some n)(hn:cs.size=n):
 (execOp a.eval o).run P w=.ok (.value (.agg cs)) w:=by
 unfold execOp;simp only[ho,hx,Instr.loadAt,Instr.sureAddr,Sem.run_bind,Sem.run_pure,Result.andThen_ok,run_loadVar_cells hc hu hd (hn▸hi)]
theorem sI(ty:TypeId)(x:Operand)(ho:o.op=.load ty x)(b off:Nat)(hx:a.eval x=.pointer (some ⟨b,off,none⟩))
 (v:Value)(hc:w.cell? ⟨b,off,none⟩=some v)(d:TypeDesc)(hu:P.underlying ty=some d)(hd:(match d with| .struct _| .array _ _=>true|_=>false)=false):
 (execOp a.eval o).run P w=.ok (.value v) w:=by
 have hagg:(isAgg ty).run P w=.ok false w:=by
  unfold isAgg;rw[Sem.run_bind,run_underlying hu w]
  cases d<;>simp_all
 unfold execOp;simp only[ho,hx,Instr.loadAt,Instr.sureAddr,Sem.run_bind,Sem.run_pure,Result.andThen_ok,loadVar,hagg,Bool.false_eq_true,if_false]
 simp[load,Sem.run,hc]
theorem rG(t:TypeId)(x y:Operand)(yt:TypeId)(ho:o.op=.binOp .eql t x y yt)(xs ys:iK)
 (hx:a.eval x=.agg (qA xs))(hy:a.eval y=.agg (qA ys))(n:Nat)(e:TypeId)(ht:P.underlying t=some (.array n e))(he:P.underlying e=some (.int .u8))
 (hsz:(P.info? e).map (·.size)=some 1)(hg:P.eqGuardType P.depth t=false)(hxs:xs.length=n)(hys:ys.length=n)(b:Bool)(hb:decide (xs=ys)=b):
 (execOp a.eval o).run P w=.ok (.value (.bool b)) w:=by
 subst hb
 have hs:∀w,(sizeOf e).run P w=.ok 1 w:=fun w=>by
  cases hq:P.info? e with
  |none=>simp[hq]at hsz
  |some i=>simp[hq]at hsz;simp[sizeOf,typeInfo,hq,hsz]
 have h1:=run_eqGuard_agg (P:=P) w .eql t x y (qA xs) (qA ys) hg;have h2:=run_eql_bytes (P:=P) w t e n ht he hs xs ys hxs hys;unfold execOp
 simp only[ho,hx,hy,Sem.run_bind,h1,Result.andThen_ok]
 rw[show qA xs=(xs.map Extern.Stop.cell).toArray from rfl,show qA ys=(ys.map Extern.Stop.cell).toArray from rfl,h2];simp only[Result.andThen_ok,Sem.run_pure]
 have:(xs==ys)=decide (xs=ys):=by rw[Bool.eq_iff_iff];simp
 rw[this]
theorem exec_eql_int(t:TypeId)(x y:Operand)(yt:TypeId)(ho:o.op=.binOp .eql t x y yt)(k:IntKind)(m n:Int)
 (hx:a.eval x=.int k m)(hy:a.eval y=.int k n)(b:Bool)(hb:decide (m=n)=b):(execOp a.eval o).run P w=.ok (.value (.bool b)) w:=by
 subst hb;unfold execOp
 simp[ho,hx,hy,eqGuard,binOp,Op.intCmp]
 rw[Bool.eq_iff_iff];simp
theorem jN(t:TypeId)(x y:Operand)(yt:TypeId)(ho:o.op=.binOp .eql t x y yt)(m n:ByteArray)
 (hx:a.eval x=.string m)(hy:a.eval y=.string n)(b:Bool)(hb:decide (m=n)=b):(execOp a.eval o).run P w=.ok (.value (.bool b)) w:=by
 subst hb;unfold execOp
 have h:(m.toList==n.toList)=decide (m=n):=by
  rw[<-beq_toListBytes,Bool.eq_iff_iff,decide_eq_true_iff];obtain⟨⟨x⟩⟩:=m;obtain⟨⟨y⟩⟩:=n
  show((⟨x⟩:Array UInt8)==⟨y⟩)=true↔_
  simp
 simp[ho,hx,hy,eqGuard,binOp,Op.stringOp,h]
theorem fV{own:Bool}{l:iK}(h:Sl own w G 1 yA v l)(src e dst:TypeId)
 (hs:P.underlying src=some (.slice e))(he:P.underlying e=some (.int .u8))(hd:P.underlying dst=some .string):
 (convert src dst v).run P w=.ok (.string ⟨l.toArray⟩) w:=by
 obtain⟨a,cap,rfl,hl,hc,h⟩:=h
 by_cases hne:l=[]
 ·subst hne
  cases a with
  |none=>rw[run_convert_bytes_nil (P:=P) w src e hs he _ _ dst hd];rfl
  |some a=>
   rw[run_convert_bytes_string (P:=P) w src dst e _ _ _ hs he hd]
   simp[Conv.bytesToString,loadCells,loadCellsFrom]
   rfl
 ·obtain⟨b,off,rfl,-,-,h⟩:=h hne
  have:=Lib.run_convert_whole (P:=P) w src e dst hs he hd b off ⟨l.toArray⟩ (fun i hi=>by
   have hi':i<l.length:=by simpa[ByteArray.size]using hi
   obtain⟨cs,-,rfl,hc⟩:=h i hi';have:=CellsAt.one.1 hc;rw[Nat.mul_one]at this
   rw[this];rfl) cap
  simpa[ByteArray.size]using this
theorem yD{own:Bool}(src e dst:TypeId)(x:Operand)(ho:o.op=.convert src dst x)(v:Value)(hx:a.eval x=v){l:iK}(h:Sl own w G 1 yA v l)
 (hs:P.underlying src=some (.slice e))(he:P.underlying e=some (.int .u8))(hd:P.underlying dst=some .string):(execOp a.eval o).run P w=.ok (.value (.string ⟨l.toArray⟩)) w:=by
 unfold execOp;simp only[ho,hx,Sem.run_bind,fV h src e dst hs he hd,Result.andThen_ok,Sem.run_pure]
theorem bytes_inj{a b:iK}:((⟨a.toArray⟩:ByteArray)=⟨b.toArray⟩)↔a=b:=by
 constructor
 ·intro h
  have:=congrArg (fun x:ByteArray=>x.data.toList) h
  simpa using this
 ·intro h;rw[h]
def qS(P:Program)(s:TypeId)(f:Nat):Option Nat:=
 match P.underlying s with
 |some (.struct fs)=>
  match fs[f]? with
  |some fd=>match(P.info? fd.type).map (·.size)with|some 0=>none|some _=>some fd.offset|none=>none
  |none=>none
 |_=>none
section
variable{P:Program}{ops:Array Oper}{Q:Exit->Act->iN->Prop}{S:iN->Prop}{o:Oper}{r:List (Oper×Nat)}{a:Act}{w:iN}
theorem uR(x:Operand)(hw:Region.wanted o (yielded ops a.tmps)=true)(ho:o.op=.move x)(h:zF P ops Q S r (a.put o.dst (a.eval x)) w):zF P ops Q S ((o,3)::r) a w:=
 qM hw (fun w=>by unfold execOp;simp only[ho];rfl) h
theorem vI(x:Operand)(hw:Region.wanted o (yielded ops a.tmps)=true)(ho:o.op=.assign x)(h:zF P ops Q S r (a.put o.dst (a.eval x)) w):zF P ops Q S ((o,3)::r) a w:=
 qM hw (fun w=>by unfold execOp;simp only[ho];rfl) h
theorem fM(c x y:Operand)(t:Bool)(hw:Region.wanted o (yielded ops a.tmps)=true)(ho:o.op=.pick c x y)(hc:a.eval c=.bool t)
 (h:zF P ops Q S r (a.put o.dst (if t then a.eval x else a.eval y)) w):zF P ops Q S ((o,3)::r) a w:=
 qM hw (fun w=>by unfold execOp;simp only[ho,hc];cases t<;>simp[asBool]) h
theorem bN(x:Operand)(p:Addr)(hw:Region.wanted o (yielded ops a.tmps)=true)(ho:o.op=.nilCheck x)(hx:a.eval x=.pointer (some p))
 (h:zF P ops Q S r (a.put o.dst (.pointer (some p))) w):zF P ops Q S ((o,3)::r) a w:=
 qM hw (fun w=>by unfold execOp;simp only[ho,hx];rfl) h
theorem xC(x:Operand)(t:TypeId)(b:Bool)(hw:Region.wanted o (yielded ops a.tmps)=true)(ho:o.op=.unOp .not t x)(hx:a.eval x=.bool b)
 (h:zF P ops Q S r (a.put o.dst (.bool (!b))) w):zF P ops Q S ((o,3)::r) a w:=
 qM hw (fun w=>by unfold execOp;simp[ho,hx,Op.unary]) h
def isSliceT(P:Program)(t:TypeId):Bool:=match P.underlying t with|some (.slice _)=>true|_=>false
theorem wpPi_len(x:Operand)(t:TypeId)(ad:Option Addr)(n c:Nat)(hw:Region.wanted o (yielded ops a.tmps)=true)(ho:o.op=.call { callee:=.builtin .len,args:=#[x],argTypes:=#[t] })(hx:a.eval x=.slice ad n c)(ht:isSliceT P t=true)
 (h:zF P ops Q S r (a.put o.dst (.int .i64 n)) w):zF P ops Q S ((o,3)::r) a w:=
 qM hw (fun w=>by
  unfold isSliceT at ht
  split at ht
  ·rename_i e hu
   unfold execOp;simp[ho,hx,resolve,invoke,builtin,Builtin.len_,run_underlying hu,goInt]
  ·cases ht) h
theorem eQ{s:TypeId}{f:Nat}(hk:qS P s f=some k)(w:iN):(Instr.fieldAt s (.pointer (some ⟨b,off,none⟩)) f).run P w=.ok (.pointer (some ⟨b,off+k,none⟩)) w:=by
 unfold qS at hk
 split at hk
 ·rename_i fs hu
  split at hk
  ·rename_i fd hf
   have hadd:(⟨b,off,none⟩:Addr).add fd.offset=⟨b,off+fd.offset,none⟩:=by unfold Addr.add;split<;>simp_all
   cases hi:P.info? fd.type with
   |none=>simp[hi]at hk
   |some i=>
    simp only[hi,Option.map_some]at hk
    split at hk
    ·cases hk
    ·rename_i n hn heq
     have hz:i.size≠0:=by rintro h0;rw[h0]at heq;cases heq;exact hn rfl
     have hk':fd.offset=k:=by simpa using hk
     subst hk'
     simp[Instr.fieldAt,run_underlying hu,hf,Instr.sureAddr,fieldPlace,sizeOf,typeInfo,hi,hz,hadd]
    ·cases hk
  ·cases hk
 ·cases hk
theorem gS(s:TypeId)(x:Operand)(f b off k:Nat)(hw:Region.wanted o (yielded ops a.tmps)=true)(ho:o.op=.fieldAddr s x f)(hx:a.eval x=.pointer (some ⟨b,off,none⟩))(hk:qS P s f=some k)
 (h:zF P ops Q S r (a.put o.dst (.pointer (some ⟨b,off+k,none⟩))) w):zF P ops Q S ((o,3)::r) a w:=
 qM hw (fun w=>by unfold execOp;simp only[ho,hx,Sem.run_bind,eQ hk,Result.andThen_ok,Sem.run_pure]) h
theorem bE(h1:-9223372036854775808<=m)(h2:m<=9223372036854775807):IntKind.i64.wrap m=m:=IntWalk.i64_in _ ⟨h1,h2⟩
theorem aB(t:TypeId)(x y:Operand)(yt:TypeId)(m n:Int)(hw:Region.wanted o (yielded ops a.tmps)=true)(ho:o.op=.binOp .add t x y yt)(hx:a.eval x=.int .i64 m)(hy:a.eval y=.int .i64 n)
 (h1:-9223372036854775808<=m+n)(h2:m+n<=9223372036854775807)(h:zF P ops Q S r (a.put o.dst (.int .i64 (m+n))) w):zF P ops Q S ((o,3)::r) a w:=
 qM hw (fun w=>by
  unfold execOp;have e:=bE h1 h2
  simp[ho,hx,hy,eqGuard,binOp,Op.intArith,e]) h
theorem yC(t:TypeId)(x y:Operand)(yt:TypeId)(m n:Int)(hw:Region.wanted o (yielded ops a.tmps)=true)(ho:o.op=.binOp .sub t x y yt)(hx:a.eval x=.int .i64 m)(hy:a.eval y=.int .i64 n)
 (h1:-9223372036854775808<=m-n)(h2:m-n<=9223372036854775807)(h:zF P ops Q S r (a.put o.dst (.int .i64 (m-n))) w):zF P ops Q S ((o,3)::r) a w:=
 qM hw (fun w=>by
  unfold execOp;have e:=bE h1 h2
  simp[ho,hx,hy,eqGuard,binOp,Op.intArith,e]) h
theorem wpPi_mul(t:TypeId)(x y:Operand)(yt:TypeId)(m n:Int)(hw:Region.wanted o (yielded ops a.tmps)=true)(ho:o.op=.binOp .mul t x y yt)(hx:a.eval x=.int .i64 m)(hy:a.eval y=.int .i64 n)
 (h1:-9223372036854775808<=m*n)(h2:m*n<=9223372036854775807)(h:zF P ops Q S r (a.put o.dst (.int .i64 (m*n))) w):zF P ops Q S ((o,3)::r) a w:=
 qM hw (fun w=>by
  unfold execOp;have e:=bE h1 h2
  simp[ho,hx,hy,eqGuard,binOp,Op.intArith,e]) h
def vW:BinOp->Int->Int->Bool
 | .lss,m,n=>decide (m<n)
 | .leq,m,n=>decide (m<=n)
 | .gtr,m,n=>decide (n<m)
 | .geq,m,n=>decide (n<=m)
 | .eql,m,n=>decide (m=n)
 |_,m,n=>decide (m≠n)
def isCmp:BinOp->Bool
 | .lss| .leq| .gtr| .geq| .eql| .neq=>true
 |_=>false
theorem exec_cmp(op:BinOp)(t:TypeId)(x y:Operand)(yt:TypeId)(k:IntKind)(m n:Int)(ho:o.op=.binOp op t x y yt)(hc:isCmp op=true)(hx:a.eval x=.int k m)(hy:a.eval y=.int k n)
 (b:Bool)(hb:vW op m n=b):(execOp a.eval o).run P w=.ok (.value (.bool b)) w:=by
 subst hb;have hb:∀(p q:Int),(p==q)=decide (p=q):=fun p q=>by rw[Bool.eq_iff_iff];simp
 have hb':∀(p q:Int),(p !=q)=decide (p≠q):=fun p q=>by rw[Bool.eq_iff_iff];simp
 unfold execOp
 cases op<;>simp[isCmp]at hc<;>simp[ho,hx,hy,eqGuard,binOp,Op.intCmp,vW,hb,hb']
theorem qN(op:BinOp)(t:TypeId)(x y:Operand)(yt:TypeId)(k:IntKind)(m n:Int)(hw:Region.wanted o (yielded ops a.tmps)=true)(ho:o.op=.binOp op t x y yt)(hc:isCmp op=true)(hx:a.eval x=.int k m)(hy:a.eval y=.int k n)
 (b:Bool)(hb:vW op m n=b)(h:zF P ops Q S r (a.put o.dst (.bool b)) w):zF P ops Q S ((o,3)::r) a w:=
 qM hw (fun _=>exec_cmp op t x y yt k m n ho hc hx hy b hb) h
theorem bI{e:TypeId}{len cap n:Nat}(hu:P.underlying t=some (.slice e))(hi:(P.info? e).map (·.size)=some n)(h:i<len)(w:iN):
 (Instr.indexAt t (.slice (some ⟨b,off,none⟩) len cap) (.int .i64 i)).run P w=.ok (.pointer (some ⟨b,off+i*n,none⟩)) w:=by
 have hadd:(⟨b,off,none⟩:Addr).add (i*n)=⟨b,off+i*n,none⟩:=by unfold Addr.add;split<;>simp_all
 cases hq:P.info? e with
 |none=>simp[hq]at hi
 |some j=>
  have hs:j.size=n:=by simpa[hq]using hi
  simp[Instr.indexAt,asIntOf,run_underlying hu,h,sizeOf,typeInfo,hq,hs,hadd]
theorem dJ(t:TypeId)(x y:Operand)(e:TypeId)(b off len cap n i:Nat)(hw:Region.wanted o (yielded ops a.tmps)=true)(ho:o.op=.indexAddr t x y)
 (hx:a.eval x=.slice (some ⟨b,off,none⟩) len cap)(hy:a.eval y=.int .i64 i)(hu:P.underlying t=some (.slice e))(hi:(P.info? e).map (·.size)=some n)(hlt:i<len)
 (h:zF P ops Q S r (a.put o.dst (.pointer (some ⟨b,off+i*n,none⟩))) w):zF P ops Q S ((o,3)::r) a w:=
 qM hw (fun w=>by unfold execOp;simp only[ho,hx,hy,Sem.run_bind,bI hu hi hlt,Result.andThen_ok,Sem.run_pure]) h
end
theorem pl(t:List Value)(df:List Deferred)(d:Nat)(v:Value):Act.put ⟨t.toArray,df⟩ (some d) v=⟨(t.set d v).toArray,df⟩:=by simp[Act.put]
theorem pn(a:Act)(v:Value):Act.put a none v=a:=rfl
theorem el(t:List Value)(df:List Deferred)(i:Nat):Act.eval ⟨t.toArray,df⟩ (.tmp i)=t.getD i undef:=by simp[Act.eval,List.getD]
theorem ec(t:iL)(df:List Deferred)(v:Value):Act.eval ⟨t,df⟩ (.const v)=v:=rfl
theorem sz{α:Type}(x y:α)(l:List α):(x::l).set 0 y=y::l:=rfl
theorem ss{α:Type}(x y:α)(l:List α)(n:Nat):(x::l).set (n+1) y=x::l.set n y:=rfl
theorem gz{α:Type}(x y:α)(l:List α):(x::l).getD 0 y=x:=rfl
theorem gs{α:Type}(x y:α)(l:List α)(n:Nat):(x::l).getD (n+1) y=l.getD n y:=rfl
theorem qC:(∀(t:List Value)(df:List Deferred)(d:Nat)(v:Value),Act.put ⟨t.toArray,df⟩ (some d) v=⟨(t.set d v).toArray,df⟩)/\(∀(a:Act)(v:Value),Act.put a none v=a)/\(∀(t:List Value)(df:List Deferred)(i:Nat),Act.eval ⟨t.toArray,df⟩ (.tmp i)=t.getD i undef)/\
 (∀(t:iL)(df:List Deferred)(v:Value),Act.eval ⟨t,df⟩ (.const v)=v)/\(∀{α:Type}(x y:α)(l:List α),(x::l).set 0 y=y::l)/\(∀{α:Type}(x y:α)(l:List α)(n:Nat),(x::l).set (n+1) y=x::l.set n y)/\(∀{α:Type}(x y:α)(l:List α),(x::l).getD 0 y=x)/\
 (∀{α:Type}(x y:α)(l:List α)(n:Nat),(x::l).getD (n+1) y=l.getD n y)/\(∀{α:Type}{_:Decidable True}(t e:α),(if True then t else e)=t)/\(∀{α:Type}{_:Decidable False}(t e:α),(if False then t else e)=e)/\(∀{_:Decidable True}(t e:Prop),(if True then t else e)=t)/\(∀{_:Decidable False}(t e:Prop),(if False then t else e)=e)/\((false=true)=False)/\((!true)=false)/\((!false)=true)/\(∀n:Nat,n+0=n)/\(∀n:Nat,0+n=n):=
 ⟨pl,pn,el,ec,sz,ss,gz,gs,fun _ _=>if_true _ _,fun _ _=>if_false _ _,fun _ _=>if_true _ _,fun _ _=>if_false _ _,Bool.false_eq_true,Bool.not_true,Bool.not_false,Nat.add_zero,Nat.zero_add⟩
theorem zz2:(∀{α:Type}{β:Type}(a:α)(b:β)(x:List α)(y:List β),(a::x).zip (b::y)=(a,b)::x.zip y)/\(∀{α:Type}{β:Type}(l:List α),l.zip ([]:List β)=[]):=⟨fun _ _ _ _=>List.zip_cons_cons,fun _=>List.zip_nil_right⟩
theorem zz3:(∀{α:Type}{p:α->Prop}{a:α}{l:List α},(∀x,x∈a::l->p x)↔p a/\∀x,x∈l->p x)/\(∀{α:Type}{a:α},(¬a∈([]:List α)))/\(∀(p:Prop),(p/\True)=p):=⟨List.forall_mem_cons,List.not_mem_nil,and_true⟩
theorem zz4:(∀{α:Type}{β:Type}(f:α->β)(a:α)(l:List α),(a::l).map f=f a::l.map f)/\(∀{α:Type}{β:Type}(f:α->β),([]:List α).map f=[])/\(∀{α:Type}(x d:α)(l:List α),(x::l).getD 0 d=x)/\(∀{α:Type}(x d:α)(l:List α)(n:Nat),(x::l).getD (n+1) d=l.getD n d):=⟨fun _ _ _=>List.map_cons,fun _=>List.map_nil,fun _ _ _=>List.getD_cons_zero,fun _ _ _ _=>List.getD_cons_succ⟩
theorem zz5:(∀{α:Type}(x:List α)(i:Nat),x.toArray[i]?=x[i]?)/\(∀{α:Type}(x:Array α)(i:Nat)(d:α),x.getD i d=x[i]?.getD d)/\(∀{α:Type}(a:α)(x:List α)(i:Nat),(a::x)[i+1]?=x[i]?)/\(∀{α:Type}(a:α)(x:List α),(a::x)[0]?=some a)/\(∀{α:Type}(a b:α),(some a).getD b=a):=⟨fun _ _=>List.getElem?_toArray,fun _ _ _=>Array.getD_eq_getD_getElem?,fun _ _ _=>List.getElem?_cons_succ,fun _ _=>List.getElem?_cons_zero,fun _ _=>Option.getD_some⟩
def vbT:Value->Option Bool| .bool b=>some b|_=>none
def yvT:Option Tmp->List Value->Option Bool|none,_=>none|some d,t=>vbT (t.getD d undef)
def ltT:Value->Bool| .bool true=>true| .bool false=>true|_=>false
def tbT:Value->Bool| .bool b=>b|_=>false
def ptT:Value->Bool| .pointer (some _)=>true|_=>false
def p0T:Value->Bool| .pointer (some ⟨_,_,none⟩)=>true|_=>false
def fvT:Value->Option Nat->Value| .pointer (some ⟨b,o,_⟩),some k=>.pointer (some ⟨b,o+k,none⟩)|v,_=>v
theorem wpPi_eq{S:iN->Prop}(hw:Region.wanted o (yielded ops a.tmps)=true)(hv:∀w,(execOp a.eval o).run P w=.ok (.value v) w):zF P ops Q S ((o,3)::r) a w=zF P ops Q S r (a.put o.dst v) w:=
 propext (Iff.intro (fun⟨v',hy,h⟩=>by
  rcases hy with⟨_,hg⟩|⟨hn,_⟩
  ·rcases hg w trivial with h1|⟨f,args,h1,_⟩
   ·rw[hv]at h1;cases h1;exact h
   ·rw[hv]at h1;cases h1
  ·rw[hw]at hn;cases hn) (fun h=>qM hw hv h))
theorem wpPi_no{S:iN->Prop}(hw:Region.wanted o (yielded ops a.tmps)=false):zF P ops Q S ((o,3)::r) a w=zF P ops Q S r (a.put o.dst undef) w/\zF P ops Q S ((o,0)::r) a w=zF P ops Q S r (a.put o.dst undef) w:=by
 constructor
 all_goals
  refine propext (Iff.intro (fun h0=>?_) (fun h=>⟨_,.inr ⟨hw,rfl⟩,h⟩));obtain⟨v',hy,h⟩:=h0
  rcases hy with⟨h1,_⟩|⟨_,h1⟩
  ·rw[hw]at h1;cases h1
  ·rw[<-h1];exact h
section
variable{P:Program}{l:List Oper}{Q:Exit->Act->iN->Prop}{S:iN->Prop}{w:iN}{r:List (Oper×Nat)}{d:Option Tmp}{ty:TypeId}{pos:String}{af:Array Edge}{g:Option (Nat×Bool)}{t:List Value}{df:List Deferred}
theorem yl_eq:yielded l.toArray t.toArray j=yvT (l.getD j default).dst t:=by
 unfold yielded;rw[List.getElem?_toArray,List.getD_eq_getElem?_getD]
 cases h:l[j]? with
 |none=>rfl
 |some o=>
  simp only[Option.bind_some,Option.getD_some]
  cases o.dst with
  |none=>rfl
  |some d=>
   simp only[Option.bind_some,List.getElem?_toArray,yvT,List.getD_eq_getElem?_getD]
   cases t[d]? with
   |none=>rfl
   |some v=>cases v<;>rfl
theorem st1:∀(x:Operand),Region.wanted ⟨d,.move x,ty,pos,af,g⟩ (yielded l.toArray t.toArray)=true->zF P l.toArray Q S ((⟨d,.move x,ty,pos,af,g⟩,3)::r) ⟨t.toArray,df⟩ w=zF P l.toArray Q S r (Act.put ⟨t.toArray,df⟩ d (Act.eval ⟨t.toArray,df⟩ x)) w:=fun x h=>wpPi_eq h fun w=>(by unfold execOp;rfl)
theorem st2:∀(x:Operand),Region.wanted ⟨d,.assign x,ty,pos,af,g⟩ (yielded l.toArray t.toArray)=true->zF P l.toArray Q S ((⟨d,.assign x,ty,pos,af,g⟩,3)::r) ⟨t.toArray,df⟩ w=zF P l.toArray Q S r (Act.put ⟨t.toArray,df⟩ d (Act.eval ⟨t.toArray,df⟩ x)) w:=fun x h=>wpPi_eq h fun w=>(by unfold execOp;rfl)
theorem st3:∀(c x y:Operand),Region.wanted ⟨d,.pick c x y,ty,pos,af,g⟩ (yielded l.toArray t.toArray)=true->(vbT (Act.eval ⟨t.toArray,df⟩ c)).isSome=true->zF P l.toArray Q S ((⟨d,.pick c x y,ty,pos,af,g⟩,3)::r) ⟨t.toArray,df⟩ w=zF P l.toArray Q S r (Act.put ⟨t.toArray,df⟩ d (if tbT (Act.eval ⟨t.toArray,df⟩ c)then Act.eval ⟨t.toArray,df⟩ x else Act.eval ⟨t.toArray,df⟩ y)) w:=fun c x y h hc=>by
 revert hc;cases e:Act.eval ⟨t.toArray,df⟩ c<;>intro hc<;>first|contradiction|(refine wpPi_eq h fun w=>?_;unfold execOp;simp only[e,tbT];rename_i b;cases b<;>simp[asBool])
theorem st4:∀(x:Operand),Region.wanted ⟨d,.nilCheck x,ty,pos,af,g⟩ (yielded l.toArray t.toArray)=true->ptT (Act.eval ⟨t.toArray,df⟩ x)=true->zF P l.toArray Q S ((⟨d,.nilCheck x,ty,pos,af,g⟩,3)::r) ⟨t.toArray,df⟩ w=zF P l.toArray Q S r (Act.put ⟨t.toArray,df⟩ d (Act.eval ⟨t.toArray,df⟩ x)) w:=fun x h hx=>by
 revert hx;cases e:Act.eval ⟨t.toArray,df⟩ x<;>intro hx<;>first|contradiction|(rename_i p;cases p<;>first|contradiction|(refine wpPi_eq h fun w=>?_;unfold execOp;simp only[e];rfl))
theorem st5:∀(s f:Nat)(x:Operand),Region.wanted ⟨d,.fieldAddr s x f,ty,pos,af,g⟩ (yielded l.toArray t.toArray)=true->p0T (Act.eval ⟨t.toArray,df⟩ x)=true->(qS P s f).isSome=true->zF P l.toArray Q S ((⟨d,.fieldAddr s x f,ty,pos,af,g⟩,3)::r) ⟨t.toArray,df⟩ w=zF P l.toArray Q S r (Act.put ⟨t.toArray,df⟩ d (fvT (Act.eval ⟨t.toArray,df⟩ x) (qS P s f))) w:=fun s f x h hx hf=>by
 obtain⟨k,hk⟩:=Option.isSome_iff_exists.1 hf;rw[hk]
 revert hx;cases e:Act.eval ⟨t.toArray,df⟩ x<;>intro hx<;>first|contradiction|(rename_i p;cases p<;>first|contradiction|(rename_i q;obtain⟨b,o,z⟩:=q;cases z<;>first|contradiction|(refine wpPi_eq h fun w=>?_;unfold execOp;simp only[e,Sem.run_bind,eQ hk,Result.andThen_ok,Sem.run_pure];rfl)))
theorem st6:∀(u:TypeId)(x:Operand),Region.wanted ⟨d,.unOp .not u x,ty,pos,af,g⟩ (yielded l.toArray t.toArray)=true->ltT (Act.eval ⟨t.toArray,df⟩ x)=true->zF P l.toArray Q S ((⟨d,.unOp .not u x,ty,pos,af,g⟩,3)::r) ⟨t.toArray,df⟩ w=zF P l.toArray Q S r (Act.put ⟨t.toArray,df⟩ d (.bool (!tbT (Act.eval ⟨t.toArray,df⟩ x)))) w:=fun u x h hx=>by
 revert hx;cases e:Act.eval ⟨t.toArray,df⟩ x<;>intro hx<;>first|contradiction|(refine wpPi_eq h fun w=>?_;unfold execOp;simp[e,tbT,Op.unary])
theorem st7:∀(op:Op)(g:Nat×Bool),Region.wanted ⟨d,op,ty,pos,af,some g⟩ (yielded l.toArray t.toArray)=false->zF P l.toArray Q S ((⟨d,op,ty,pos,af,some g⟩,3)::r) ⟨t.toArray,df⟩ w=zF P l.toArray Q S r (Act.put ⟨t.toArray,df⟩ d undef) w:=fun op g h=>(wpPi_no h).1
theorem st8:∀(op:Op)(g:Nat×Bool),Region.wanted ⟨d,op,ty,pos,af,some g⟩ (yielded l.toArray t.toArray)=false->zF P l.toArray Q S ((⟨d,op,ty,pos,af,some g⟩,0)::r) ⟨t.toArray,df⟩ w=zF P l.toArray Q S r (Act.put ⟨t.toArray,df⟩ d undef) w:=fun op g h=>(wpPi_no h).2
theorem st9:∀(a:Act),zF P l.toArray Q S [] a w=Q .normal a w:=fun a=>rfl
end
theorem stq:(∀(d:Option Tmp)(op:Op)(ty:TypeId)(pos:String)(af:Array Edge)(y:Nat->Option Bool),Region.wanted ⟨d,op,ty,pos,af,none⟩ y=true)/\(∀(d:Option Tmp)(op:Op)(ty:TypeId)(pos:String)(af:Array Edge)(y:Nat->Option Bool)(j:Nat)(b:Bool),Region.wanted ⟨d,op,ty,pos,af,some (j,b)⟩ y=(y j==some b))/\(∀(l:List Oper)(t:List Value)(j:Nat),yielded l.toArray t.toArray j=yvT (l.getD j default).dst t)/\(∀(t:List Value)(d:Tmp),yvT (some d) t=vbT (t.getD d undef))/\(∀b,vbT (.bool b)=some b)/\((some true==some true)=true)/\((some false==some false)=true)/\((some true==some false)=false)/\((some false==some true)=false)/\(∀b,tbT (.bool b)=b)/\(ltT (.bool true)=true)/\(ltT (.bool false)=true)/\(∀p,ptT (.pointer (some p))=true)/\(∀b o,p0T (.pointer (some ⟨b,o,none⟩))=true)/\(∀b o k,fvT (.pointer (some ⟨b,o,none⟩)) (some k)=.pointer (some ⟨b,o+k,none⟩))/\(∀{α:Type}(a:α),(some a).isSome=true):=
 ⟨fun _ _ _ _ _ _=>rfl,fun _ _ _ _ _ _ _ _=>rfl,fun _ _ _=>yl_eq,fun _ _=>rfl,fun _=>rfl,rfl,rfl,rfl,rfl,fun _=>rfl,rfl,rfl,fun _=>rfl,fun _ _=>rfl,fun _ _ _=>rfl,fun _=>rfl⟩
theorem fos:(qS prog 101 1=some 1)/\(qS prog 101 2=some 2)/\(qS prog 101 3=some 3)/\(qS prog 104 0=some 0)/\(qS prog 104 1=some 1)/\(qS prog 104 2=some 2)/\(qS prog 115 0=some 0)/\(qS prog 115 1=some 2)/\(qS prog 115 2=some 3)/\(qS prog 115 3=some 4)/\(qS prog 115 4=some 5)/\(qS prog 115 5=some 6)/\(qS prog 115 6=some 38)/\(qS prog 152 0=some 0)/\(qS prog 163 0=some 0)/\(qS prog 163 1=some 1)/\(qS prog 163 2=some 2)/\(qS prog 163 3=some 37)/\(qS prog 163 4=some 38)/\(qS prog 170 0=some 0)/\(qS prog 186 0=some 0)/\(qS prog 186 1=some 1)/\(qS prog 186 2=some 2)/\(qS prog 188 0=some 0)/\(qS prog 188 1=some 1)/\(qS prog 211 1=some 2)/\(qS prog 225 0=some 0)/\(qS prog 225 1=some 32)/\(qS prog 233 0=some 0)/\(qS prog 233 1=some 1)/\(qS prog 235 0=some 0)/\(qS prog 235 1=some 1)/\(qS prog 235 2=some 33)/\(qS prog 237 0=some 0)/\(qS prog 237 1=some 1)/\(qS prog 255 0=some 0)/\(qS prog 307 0=some 0)/\(qS prog 307 1=some 1)/\(qS prog 320 0=some 0)/\(qS prog 331 0=some 0)/\(qS prog 331 1=some 8)/\(qS prog 331 2=some 9)/\(qS prog 344 0=some 0)/\(qS prog 344 1=some 1)/\(qS prog 344 2=some 2)/\(qS prog 351 0=some 0)/\(qS prog 351 1=some 1)/\(qS prog 351 2=some 2)/\(qS prog 404 0=some 0)/\(qS prog 404 1=some 1)/\(qS prog 46 0=some 0)/\(qS prog 46 1=some 1)/\(qS prog 46 2=some 33)/\(qS prog 46 3=some 34)/\(qS prog 68 0=some 0)/\(qS prog 68 1=some 1)/\(qS prog 68 2=some 2)/\(qS prog 71 0=some 0)/\(qS prog 71 1=some 1)/\(qS prog 89 0=some 0)/\(qS prog 89 1=some 1)/\(qS prog 89 2=some 2)/\(qS prog 95 0=some 0)/\(qS prog 95 1=some 1)/\(qS prog 95 2=some 2)/\(qS prog 95 3=some 3):=by
 refine⟨?_,?_,?_,?_,?_,?_,?_,?_,?_,?_,?_,?_,?_,?_,?_,?_,?_,?_,?_,?_,?_,?_,?_,?_,?_,?_,?_,?_,?_,?_,?_,?_,?_,?_,?_,?_,?_,?_,?_,?_,?_,?_,?_,?_,?_,?_,?_,?_,?_,?_,?_,?_,?_,?_,?_,?_,?_,?_,?_,?_,?_,?_,?_,?_,?_,?_⟩<;>kernel_rfl
theorem qB:(type_of% @st1)/\(type_of% @st2)/\(type_of% @st3)/\(type_of% @st4)/\(type_of% @st5)/\(type_of% @st6)/\(type_of% @st7)/\(type_of% @st8)/\(type_of% @st9)/\(type_of% @stq)/\(type_of% @fos)/\(type_of% @qC)/\(type_of% @zz2)/\(type_of% @zz4):=⟨@st1, @st2, @st3, @st4, @st5, @st6, @st7, @st8, @st9, @stq, @fos, @qC, @zz2, @zz4⟩
theorem zI(w:iN)(o:Obj):Mod qJ w (w.alloc o):=(Mod.refl _ _).alloc _
section
variable{P:Program}{o:Oper}{a:Act}{w:iN}{K:Act->iN->Prop}{Q:Exit->Act->iN->Prop}
theorem wp_box(elem:TypeId)(x:Operand)(v:Value)(ho:o.op=.box elem x)(hx:a.eval x=v)
 (h:∀w',w'.heap[w.heap.size]?=some (.cells v.cells elem (0,0))->Mod qJ w w'->w.heap.size<w'.heap.size->K (a.put o.dst (iO w.heap.size)) w'):o.wp P a w K Q:=by
 unfold Oper.wp execOp;simp only[ho,hx]
 have hr:(Instr.box elem v).run P w=.ok (iO w.heap.size) (w.alloc (.cells v.cells elem)):=by
  simp[Instr.box,newVar,newRow]
 simp only[Sem.run_bind,hr,Result.andThen_ok,Sem.run_pure];exact h _ (heap_alloc_new _ _) (zI _ _) (by simp)
theorem jX(elem:TypeId)(z:Value)(ho:o.op=.alloc elem)(hz:(P.info? elem).bind (·.zero)=some z)
 (h:∀w',w'.heap[w.heap.size]?=some (.cells z.cells elem (0,0))->Mod qJ w w'->w.heap.size<w'.heap.size->K (a.put o.dst (iO w.heap.size)) w'):o.wp P a w K Q:=by
 unfold Oper.wp execOp;simp only[ho]
 cases hi:P.info? elem with
 |none=>simp[hi]at hz
 |some i=>
  simp only[hi,Option.bind_some]at hz
  have hr:(Instr.alloc elem true (.tuple #[])).run P w=.ok (iO w.heap.size) (w.alloc (.cells z.cells elem)):=by
   simp[Instr.alloc,zeroValue,typeInfo,hi,hz,newVar,newRow]
  simp only[Sem.run_bind,hr,Result.andThen_ok,Sem.run_pure];exact h _ (heap_alloc_new _ _) (zI _ _) (by simp)
theorem zU(t e:TypeId)(ho:o.op=.buildSlice t 0 #[])(hu:P.underlying t=some (.slice e))(hi:(P.info? e).isSome=true)
 (h:∀w',w'.heap[w.heap.size]?=some (.cells #[] e (0,0))->Mod qJ w w'->w.heap.size<w'.heap.size->K (a.put o.dst (.slice (some ⟨w.heap.size,0,none⟩) 0 0)) w'):o.wp P a w K Q:=by
 unfold Oper.wp execOp;simp only[ho]
 cases hi':P.info? e with
 |none=>simp[hi']at hi
 |some i=>
  have hr:(Instr.buildSlice t 0 (Array.map (fun(x:Nat×Operand)=>(x.1,a.eval x.2)) #[])).run P w=.ok (.slice (some ⟨w.heap.size,0,none⟩) 0 0) (w.alloc (.cells #[] e)):=by
   simp[Instr.buildSlice,run_underlying hu,sizeOf,typeInfo,hi',Instr.fill,newRow]
   rw[show Array.range 0=#[]from Array.eq_empty_of_size_eq_zero (by simp),Array.map_empty]
  simp only[Sem.run_bind,hr,Result.andThen_ok,Sem.run_pure];exact h _ (heap_alloc_new _ _) (zI _ _) (by simp)
theorem fA:∀(l:List Value)(k:Nat)(pre:List Value)(old tail:List Value),pre.length=k->old.length=l.length->
 (l.zipIdx k).foldl (fun(cs:iL)(x:Value×Nat)=>cs.setIfInBounds x.2 x.1) (pre++(old++tail)).toArray=(pre++(l++tail)).toArray
 | [],k,pre,old,tail,_,ho=>by
  have:old=[]:=List.eq_nil_of_length_eq_zero (by simpa using ho)
  simp[this]
 |v::l,k,pre,old,tail,hp,ho=>by
  match old,ho with
  |u::old,ho=>
   rw[List.zipIdx_cons,List.foldl_cons]
   have e:(pre++(u::old++tail)).toArray.setIfInBounds k v=((pre++[v])++(old++tail)).toArray:=by
    subst hp
    simp
   rw[e,fA l (k+1) (pre++[v]) old tail (by simp[hp]) (by simpa using ho)]
   simp
theorem foldl_set_all(l:List Value)(k:Nat)(pre:List Value)(old:List Value)(hp:pre.length=k)(ho:old.length=l.length):
 (l.zipIdx k).foldl (fun(cs:iL)(x:Value×Nat)=>cs.setIfInBounds x.2 x.1) (pre++old).toArray=(pre++l).toArray:=by
 simpa using fA l k pre old [] hp ho
theorem eI(t e:TypeId)(x:Operand)(v:Value)(z:Value)(n:Nat)(ho:o.op=.buildSlice t 1 #[(0,x)])(hx:a.eval x=v)(hu:P.underlying t=some (.slice e))
 (hi:(P.info? e).map (fun i=>(i.zero,i.size))=some (some z,n))(hn:0<n)(hn':n<=16777216)(hv:v.cells.size=n)
 (h:∀w',w'.heap[w.heap.size]?=some (.cells v.cells e (0,0))->Mod qJ w w'->w.heap.size<w'.heap.size->K (a.put o.dst (.slice (some ⟨w.heap.size,0,none⟩) 1 1)) w'):o.wp P a w K Q:=by
 unfold Oper.wp execOp;simp only[ho]
 cases hi':P.info? e with
 |none=>simp[hi']at hi
 |some i=>
  simp only[hi',Option.map_some,Option.some.injEq,Prod.mk.injEq]at hi;obtain⟨hz0,hz1⟩:=hi
  have hr:(Instr.buildSlice t 1 (Array.map (fun x=>(x.1,a.eval x.2)) #[(0,x)])).run P w=.ok (.slice (some ⟨w.heap.size,0,none⟩) 1 1) (w.alloc (.cells v.cells e)):=by
   have hf:(v.cells.zipIdx.foldl (fun(cs:iL)(x:Value×Nat)=>cs.setIfInBounds x.2 x.1) (Array.map (fun x=>z.cells[x%z.cells.size]!) (Array.range n)))=v.cells:=by
    have:=foldl_set_all v.cells.toList 0 [] (Array.map (fun x=>z.cells[x%z.cells.size]!) (Array.range n)).toList rfl (by simp[hv])
    simp only[List.nil_append,Array.toArray_toList]at this;rw[<-Array.foldl_toList,Array.toList_zipIdx];exact this
   have hf':=hf;rw[<-Array.foldl_toList,Array.toList_zipIdx]at hf'
   simp[Instr.buildSlice,run_underlying hu,sizeOf,typeInfo,hi',hz1,zeroValue,hz0,Nat.not_lt.2 hn',Nat.pos_iff_ne_zero.1 hn,Instr.fill,hx,hv,newRow]
   congr 2
   rw[<-hv]at hf |-;have hsz:v.cells.zipIdx.size=v.cells.size:=by simp
   rw[hsz]at hf;exact hf
  simp only[Sem.run_bind,hr,Result.andThen_ok,Sem.run_pure];exact h _ (heap_alloc_new _ _) (zI _ _) (by simp)
theorem wp_store1(ty:TypeId)(p x:Operand)(b off:Nat)(v:Value)(ho:o.op=.store ty p x)(hp:a.eval p=.pointer (some ⟨b,off,none⟩))(hx:a.eval x=v)(h1:v.oneCell'=true)
 (hs:(P.info? ty).map (·.size)=some 1)(cur:iL)(T:TypeId)(hb:w.heap[b]?=some (.cells cur T (0,0)))(hoff:off<cur.size)
 (h:∀w',w'.heap[b]?=some (.cells (cur.setIfInBounds off v) T (0,0))->Mod (fun k=>k=b) w w'->K (a.put o.dst undef) w'):o.wp P a w K Q:=by
 unfold Oper.wp execOp;simp only[ho,hp,hx]
 have hsz:(sizeOf ty).run P w=.ok 1 w:=by
  cases hq:P.info? ty with
  |none=>simp[hq]at hs
  |some i=>simp[hq]at hs;simp[sizeOf,typeInfo,hq,hs]
 have hc:v.cells=#[v]:=by cases v<;>simp_all [Value.cells,Value.oneCell']
 have hr:(Instr.storeAt ty (.pointer (some ⟨b,off,none⟩)) v).run P w=.ok () (w.setCell ⟨b,off,none⟩ v):=by
  have hcell:w.cell? ⟨b,off,none⟩=some cur[off]:=by simp[World.cell?,hb,hoff]
  have hfro:w.frozen? ⟨b,off,none⟩=false:=by simp[World.frozen?,hb]
  simp[Instr.storeAt,Instr.sureAddr,storeVar,hsz,hc,storeCells,run_store,h1,hcell,hfro,Addr.add]
 simp only[Sem.run_bind,hr,Result.andThen_ok,Sem.run_pure];refine h _ ?_ (Mod.setCell (S:=fun k=>k=b) (Mod.refl _ _) (fun _=>rfl) v)
 simp[World.setCell,hb,Array.getElem?_modify]
def zE(cur:iL)(off:Nat)(cs:iL):iL:=(cur.toList.take off++cs.toList++cur.toList.drop (off+cs.size)).toArray
theorem kQ(h:off+cs.size<=cur.size):(zE cur off cs).size=cur.size:=by
 simp[zE];omega
theorem yQ(h:cs.size=cur.size):zE cur 0 cs=cs:=by
 apply Array.toList_inj.1
 simp only[zE,List.take_zero,List.nil_append,Nat.zero_add];rw[List.drop_eq_nil_of_le (by simp[h])]
 simp
theorem wp_storeA(ty:TypeId)(p x:Operand)(b off:Nat)(cs:iL)(ho:o.op=.store ty p x)(hp:a.eval p=.pointer (some ⟨b,off,none⟩))(hx:a.eval x=.agg cs)(h1:∀c∈cs,c.oneCell'=true)
 (n:Nat)(hs:(P.info? ty).map (·.size)=some n)(hn:cs.size=n)(cur:iL)(T:TypeId)(hb:w.heap[b]?=some (.cells cur T (0,0)))(hoff:off+cs.size<=cur.size)
 (h:∀w',w'.heap[b]?=some (.cells (zE cur off cs) T (0,0))->Mod (fun k=>k=b) w w'->K (a.put o.dst undef) w'):o.wp P a w K Q:=by
 unfold Oper.wp execOp;simp only[ho,hp,hx]
 have hsz:(sizeOf ty).run P w=.ok n w:=by
  cases hq:P.info? ty with
  |none=>simp[hq]at hs
  |some i=>simp[hq]at hs;simp[sizeOf,typeInfo,hq,hs]
 have hr:(Instr.storeAt ty (.pointer (some ⟨b,off,none⟩)) (.agg cs)).run P w=.ok () (w.setRow b (zE cur off cs)):=by
  have:=run_storeCells_at P b off T cs.toList 0 cur w hb (by simpa using hoff) (fun v hv=>h1 v (by simpa using hv));simp only[Nat.add_zero,Array.length_toList]at this
  simp[Instr.storeAt,Instr.sureAddr,storeVar,hsz,hn,Value.cells,this,zE]
 simp only[Sem.run_bind,hr,Result.andThen_ok,Sem.run_pure];refine h _ (setRow_heap w b cur _ T _ hb) ⟨rfl,rfl,rfl,by simp,fun k _ hk=>setRow_other w b k _ (fun e=>hk e)⟩
end
def Src(w:iN)(sz:Nat)(u:Value)(m:Nat)(news:List Value):Prop:=
 news.length=m*sz/\∃ad c,u=.slice ad m c/\(m≠0->∃b off,ad=some ⟨b,off,none⟩/\∀j x,news[j]?=some x->w.cell? ⟨b,off+j,none⟩=some x)
theorem flat_get{sz:Nat}:∀(css:List iL)(i:Nat)(hic:i<css.length),(∀c∈css,c.size=sz)->∀j,j<sz->(css.flatMap Array.toList)[i*sz+j]?=css[i][j]?
 |c::css,0,_,hs,j,hj=>by
  have hc:c.toList.length=sz:=by simpa using hs c (by simp)
  simp only[List.flatMap_cons,Nat.zero_mul,Nat.zero_add,List.getElem_cons_zero];rw[List.getElem?_append_left (by omega)];simp
 |c::css,i+1,hic,hs,j,hj=>by
  have hc:c.toList.length=sz:=by simpa using hs c (by simp)
  simp only[List.flatMap_cons,List.getElem_cons_succ]
  rw[List.getElem?_append_right (by rw[hc,Nat.succ_mul];omega),hc,show(i+1)*sz+j-sz=i*sz+j by rw[Nat.succ_mul];omega]
  exact flat_get css i (by simpa using hic) (fun c hc=>hs c (by simp[hc])) j hj
theorem flat_len{sz:Nat}:∀(css:List iL),(∀c∈css,c.size=sz)->(css.flatMap Array.toList).length=css.length*sz
 | [],_=>by simp
 |c::css,hs=>by
  have hc:c.size=sz:=hs c (by simp)
  simp[flat_len css (fun c h=>hs c (by simp[h])),hc,Nat.add_mul];omega
theorem Sl.src{α:Type}{own:Bool}{sz:Nat}{R:iL->α->Prop}{l:List α}(h:Sl own w G sz R v l)(hz:0<sz):
 ∃css,All2 R css l/\(∀c∈css,c.size=sz)/\Src w sz v l.length (css.flatMap Array.toList):=by
 obtain⟨a,cap,rfl,hl,hc,h⟩:=h
 by_cases hne:l=[]
 ·subst hne
  exact⟨[],All2.nil,by simp,by simp,a,cap,rfl,fun h=>absurd rfl h⟩
 ·obtain⟨b,off,ha,_,_,h⟩:=h hne
  have key:∀k,k<=l.length->∃css:List iL,css.length=k/\(∀i (hi:i<css.length)(hi':i<l.length),R css[i] l[i])/\(∀c∈css,c.size=sz)/\(∀i (hi:i<css.length),CellsAt w b (off+i*sz) css[i]):=by
   intro k
   induction k with
   |zero=>intro _;exact⟨[],rfl,fun i hi=>by simp at hi,by simp,fun i hi=>by simp at hi⟩
   |succ k ih=>
    intro hk;obtain⟨css,h1,h2,h3,h4⟩:=ih (by omega);obtain⟨cs,hs,hR,hcs⟩:=h k (by omega)
    have hlast:∀(i:Nat)(hi:i<(css++[cs]).length),i=k->(css++[cs])[i]=cs:=fun i hi e=>by subst e;subst h1;simp
    refine⟨css++[cs],by simp[h1],fun i hi hi'=>?_,fun c hc=>?_,fun i hi=>?_⟩
    ·by_cases hik:i<css.length
     ·rw[List.getElem_append_left hik];exact h2 i hik hi'
     ·have e:i=k:=by simp at hi;omega
      rw[hlast i hi e];subst e;exact hR
    ·rcases List.mem_append.1 hc with hc|hc
     ·exact h3 c hc
     ·have:c=cs:=by simpa using hc
      rw[this,hs]
    ·by_cases hik:i<css.length
     ·rw[List.getElem_append_left hik];exact h4 i hik
     ·have e:i=k:=by simp at hi;omega
      rw[hlast i hi e,e];exact hcs
  obtain⟨css,h1,h2,h3,h4⟩:=key l.length (Nat.le_refl _);refine⟨css,⟨h1,h2⟩,h3,by rw[flat_len css h3,h1],a,cap,rfl,fun _=>⟨b,off,ha,fun j x hj=>?_⟩⟩
  have hjl:j<(css.flatMap Array.toList).length:=by
   rcases Nat.lt_or_ge j (css.flatMap Array.toList).length with h|h
   ·exact h
   ·rw[List.getElem?_eq_none h]at hj;cases hj
  rw[flat_len css h3]at hjl;have hi:j/sz<css.length:=Nat.div_lt_of_lt_mul (by rw[Nat.mul_comm];exact hjl);have hm:j%sz<sz:=Nat.mod_lt _ hz
  have e:j/sz*sz+j%sz=j:=by rw[Nat.mul_comm];exact Nat.div_add_mod j sz
  have hg:=flat_get css (j/sz) hi h3 (j%sz) hm;rw[e,hj]at hg;have:=(h4 (j/sz) hi).cell hg.symm;rw[<-this,Nat.add_assoc,e]
section
variable{P:Program}{o:Oper}{a:Act}{w:iN}{K:Act->iN->Prop}{Q:Exit->Act->iN->Prop}
theorem vY(s x:Operand)(t e:TypeId)(z:Value)(size bytes:Nat)
 (ho:o.op=.call { callee:=.builtin .append,args:=#[s,x],argTypes:=#[t,t] })(ht:P.underlying t=some (.slice e))
 (hi:(P.info? e).map (fun i=>(i.zero,i.size,i.bytes))=some (some z,size,bytes))(hzs:z.cells.size=size)(hsz:0<size)
 (base:Nat)(v:Value)(n:Nat)(xs:List Value)(hs:a.eval s=v)(hown:w.ownsRow base e size v n xs)
 (u:Value)(m:Nat)(news:List Value)(hx:a.eval x=u)(hsrc:Src w size u m news)(h1:∀c∈news,c.oneCell'=true)
 (h63:n+m<=maxLen)(hbytes:(n+m)*bytes<=140737488355328)(hbase:base<=w.heap.size)
 (h:∀v' w',w'.ownsRow base e size v' (n+m) (xs++news)->w.grownBy w' v.ownBlock->(v'.ownBlock=v.ownBlock\/v'.ownBlock=some w.heap.size)->K (a.put o.dst v') w'):o.wp P a w K Q:=by
 obtain⟨i,hi0,hi1,hi2,hi3⟩:=info_parts hi;obtain⟨hl,ad,c,rfl,hsrc⟩:=hsrc
 by_cases hm:m=0
 ·subst hm
  have hn0:news=[]:=List.eq_nil_of_length_eq_zero (by simpa using hl);subst hn0
  have hr:(Builtin.append_ #[t,t] o.type #[v,.slice ad 0 c]).run P w=.ok v w:=by
   rcases hown.2 with⟨rfl,rfl⟩|⟨g,cap,cur,rfl,hb,hg,hc,hm,hcs,htk⟩
   ·cases ad<;>simp[Builtin.append_,run_underlying ht,sizeOf,typeInfo,hi0,Builtin.lenOf,Builtin.firstCells,loadCells,loadCellsFrom]
   ·cases ad<;>simp[Builtin.append_,run_underlying ht,sizeOf,typeInfo,hi0,Builtin.lenOf,Builtin.firstCells,loadCells,loadCellsFrom,hc,storeCells]
  unfold Oper.wp execOp;simp only[ho,resolve,invoke,builtin,Sem.run_bind,Sem.run_pure,Result.andThen_ok,List.map_toArray,List.map_cons,List.map_nil,hs,hx,hr]
  exact h v w (by simpa using hown) ⟨rfl,rfl,rfl,Nat.le_refl _,fun _ _ _=>rfl⟩ (.inl rfl)
 ·obtain⟨b,off,rfl,hc⟩:=hsrc hm
  obtain⟨v',w',hr,h2,h3,_,h5⟩:=run_append_own_at (P:=P) w base t o.type e i z size bytes ht hi0 hi1 hi2 hi3 hzs hsz v n xs hown ⟨b,off,none⟩ m c news hl (fun j y hy=>by
   have hadd:(⟨b,off,none⟩:Addr).add j=⟨b,off+j,none⟩:=by unfold Addr.add;split<;>simp_all
   rw[hadd];exact hc j y hy) h1 h63 hbytes hbase
  unfold Oper.wp execOp;simp only[ho,resolve,invoke,builtin,Sem.run_bind,Sem.run_pure,Result.andThen_ok,List.map_toArray,List.map_cons,List.map_nil,hs,hx,hr]
  exact h v' w' h2 h3 h5
theorem yI{e size:Nat}(base:Nat)(hb:w.heap[b]?=some (.cells #[] e (0,0)))(h:base<=b):w.ownsRow base e size (.slice (some ⟨b,0,none⟩) 0 0) 0 []:=
 ⟨by simp,.inr ⟨b,0,#[],rfl,h,hb,Nat.le_refl _,Nat.zero_le _,by simp,by simp⟩⟩
end
theorem xX(h:(execOp a.eval o).run P w=.ok (.value v) w)(k:K (a.put o.dst v) w):o.wp P a w K Q:=by
 unfold Oper.wp;rw[h];exact k
def gD(w w':iN):Nat->Prop:=fun k=>w.heap.size<=k/\k<w'.heap.size
theorem intC_one(h:dH cs x):∀c∈cs,c.oneCell'=true:=by subst h;simp[Value.oneCell']
theorem byteC_one{x:UInt8}(h:yA cs x):∀c∈cs,c.oneCell'=true:=by subst h;simp[qW,Value.oneCell']
theorem qQ(x:iK):∀c∈qA x,c.oneCell'=true:=by
 intro c hc;simp only[qA,List.mem_toArray,List.mem_map]at hc;obtain⟨b,_,rfl⟩:=hc
 rfl
theorem idC_one{x:iK}(h:IdC cs x):∀c∈cs,c.oneCell'=true:=by
 rw[h.1];exact qQ x
theorem all2_one{α:Type}{R:iL->α->Prop}{l:List α}(h:All2 R css l)(h1:∀cs x,R cs x->∀c∈cs,c.oneCell'=true):∀c∈css.flatMap Array.toList,c.oneCell'=true:=by
 intro c hc;obtain⟨cs,hcs,hc⟩:=List.mem_flatMap.1 hc;obtain⟨i,hi,rfl⟩:=List.getElem_of_mem hcs;exact h1 _ _ (h.2 i hi (h.1▸hi)) c (by simpa using hc)
theorem kS(hg:Region.wanted o (yielded ops a.tmps)=true)(h:o.wp P a w (zF P ops Q (fun _=>True) r) Q):zF P ops Q (fun _=>True) ((o,1)::r) a w:=qH hg fun K hK=>Oper.wp_mono (fun a' w' k=>hK a' w' trivial k) h
theorem qL(p:List Nat)(h:zF P l.toArray Q (fun _=>True) (l.zip p) a w)(hl:p.length=l.length:=by rfl)(hp:(p.all (·!=2))=true:=by rfl):(Code.region id l.toArray false).wp P Q a w:=gE p (fun _=>True) hl hp trivial h
theorem cF{S:iN->Prop}(hg:Region.wanted o (yielded ops a.tmps)=true)(h:(execOp a.eval o).run P w=.ok (.value v) w)(hS:S w)(k:zF P ops Q S r (a.put o.dst v) w):zF P ops Q S ((o,1)::r) a w:=qH hg fun K hK=>xX h (hK _ _ hS k)
class gB (P:Program) (t:TypeId):Prop where
 h:∀{w:iN}{o:Oper}{a:Act}(x:Operand),o.op=.load t x->∀(b off:Nat),a.eval x=.pointer (some ⟨b,off,none⟩)->∀(v:Value),w.cell? ⟨b,off,none⟩=some v->(execOp a.eval o).run P w=.ok (.value v) w
theorem iG(hu:P.underlying t=some d)(hd:(match d with| .struct _| .array _ _=>true|_=>false)=false:=by rfl):gB P t:=⟨fun x ho b off hx v hc=>sI t x ho b off hx v hc d hu hd⟩
class UM9 (P:Program) (t:TypeId):Prop where
 h:∀{w:iN}{o:Oper}{a:Act}(x:Operand),o.op=.load t x->∀(b off:Nat),a.eval x=.pointer (some ⟨b,off,none⟩)->∀(cs:iL),CellsAt w b off cs->∀n,(P.info? t).map (·.size)=some n->cs.size=n->(execOp a.eval o).run P w=.ok (.value (.agg cs)) w
theorem um9(hu:P.underlying t=some d)(hd:(match d with| .struct _| .array _ _=>true|_=>false)=true:=by rfl):UM9 P t:=⟨fun x ho b off hx cs hc n hi hn=>pI t x ho b off hx cs hc d hu hd n hi hn⟩
class US9 (t:TypeId) (e:outParam TypeId):Prop where
 h:prog.underlying t=some (.slice e)
class UR9 (t:TypeId) (n:outParam Nat) (e:outParam TypeId):Prop where
 h:prog.underlying t=some (.array n e)
instance:gB prog 3:=iG underlying3
instance:gB prog 4:=iG underlying4
instance:gB prog 5:=iG underlying5
instance:gB prog 9:=iG underlying9
instance:gB prog 22:=iG underlying22
instance:gB prog 25:=iG underlying25
instance:gB prog 29:=iG underlying29
instance:gB prog 33:=iG underlying33
instance:gB prog 53:=iG underlying53
instance:gB prog 64:=iG underlying64
instance:gB prog 69:=iG underlying69
instance:gB prog 76:=iG underlying76
instance:gB prog 87:=iG underlying87
instance:gB prog 93:=iG underlying93
instance:gB prog 97:=iG underlying97
instance:gB prog 98:=iG underlying98
instance:gB prog 99:=iG underlying99
instance:gB prog 144:=iG underlying144
instance:gB prog 161:=iG underlying161
instance:gB prog 166:=iG underlying166
instance:gB prog 175:=iG underlying175
instance:gB prog 179:=iG underlying179
instance:gB prog 183:=iG underlying183
instance:gB prog 184:=iG underlying184
instance:gB prog 200:=iG underlying200
instance:gB prog 231:=iG underlying231
instance:gB prog 301:=iG underlying301
instance:gB prog 304:=iG underlying304
instance:gB prog 318:=iG underlying318
instance:gB prog 402:=iG underlying402
instance:UM9 prog 24:=um9 underlying24
instance:UM9 prog 46:=um9 underlying46
instance:UM9 prog 68:=um9 underlying68
instance:UM9 prog 71:=um9 underlying71
instance:UM9 prog 104:=um9 underlying104
instance:UM9 prog 113:=um9 underlying113
instance:UM9 prog 115:=um9 underlying115
instance:UM9 prog 163:=um9 underlying163
instance:UM9 prog 186:=um9 underlying186
instance:UM9 prog 188:=um9 underlying188
instance:UM9 prog 211:=um9 underlying211
instance:UM9 prog 225:=um9 underlying225
instance:UM9 prog 255:=um9 underlying255
instance:UM9 prog 302:=um9 underlying302
instance:UM9 prog 307:=um9 underlying307
instance:UM9 prog 328:=um9 underlying328
instance:UM9 prog 340:=um9 underlying340
instance:US9 22 53:=⟨underlying22⟩
instance:US9 25 24:=⟨underlying25⟩
instance:US9 53 5:=⟨underlying53⟩
instance:US9 64 3:=⟨underlying64⟩
instance:US9 69 186:=⟨underlying69⟩
instance:US9 72 115:=⟨underlying72⟩
instance:US9 87 225:=⟨underlying87⟩
instance:US9 127 9:=⟨underlying127⟩
instance:US9 161 46:=⟨underlying161⟩
instance:US9 177 175:=⟨underlying177⟩
instance:US9 179 24:=⟨underlying179⟩
instance:US9 183 188:=⟨underlying183⟩
instance:US9 184 211:=⟨underlying184⟩
instance:US9 231 235:=⟨underlying231⟩
instance:UR9 24 32 5:=⟨underlying24⟩
instance:UR9 302 8 301:=⟨underlying302⟩
instance:UR9 328 8 301:=⟨underlying328⟩
instance:UR9 340 64 301:=⟨underlying340⟩
section
variable{ops:Array Oper}{Q:Exit->Act->iN->Prop}{S:iN->Prop}{o:Oper}{r:List (Oper×Nat)}{a:Act}{w:iN}{v:Value}{x p y:Operand}{ty e:TypeId}{b off n len cap i:Nat}{cs:iL}{K:Act->iN->Prop}
theorem qE(ty:TypeId)[u:gB prog ty](hc:∀w,S w->w.cell? ⟨b,off,none⟩=some v)(h:zF prog ops Q S r (a.put o.dst v) w)(hw:Region.wanted o (yielded ops a.tmps)=true:=by rfl)(ho:o.op=.load ty x:=by rfl)(hx:a.eval x=.pointer (some ⟨b,off,none⟩):=by rfl):zF prog ops Q S ((o,0)::r) a w:=
 qV hw (fun w hS=>u.h x ho b off hx v (hc w hS)) h
theorem zJ(ty:TypeId)[u:UM9 prog ty](hc:∀w,S w->CellsAt w b off cs)(n:Nat)(hn:cs.size=n)(h:zF prog ops Q S r (a.put o.dst (.agg cs)) w)(hw:Region.wanted o (yielded ops a.tmps)=true:=by rfl)(ho:o.op=.load ty x:=by rfl)(hx:a.eval x=.pointer (some ⟨b,off,none⟩):=by rfl)(hi:(prog.info? ty).map (·.size)=some n:=by kernel_rfl):zF prog ops Q S ((o,0)::r) a w:=
 qV hw (fun w hS=>u.h x ho b off hx cs (hc w hS) n hi hn) h
theorem qG(ty:TypeId)[u:gB prog ty](hc:w.cell? ⟨b,off,none⟩=some v)(h:zF prog ops Q S r (a.put o.dst v) w)(hS:S w:=by exact trivial)(hw:Region.wanted o (yielded ops a.tmps)=true:=by rfl)(ho:o.op=.load ty x:=by rfl)(hx:a.eval x=.pointer (some ⟨b,off,none⟩):=by rfl):zF prog ops Q S ((o,1)::r) a w:=
 cF hw (u.h x ho b off hx v hc) hS h
theorem qY(ty:TypeId)[u:UM9 prog ty](hc:CellsAt w b off cs)(n:Nat)(hn:cs.size=n)(h:zF prog ops Q S r (a.put o.dst (.agg cs)) w)(hS:S w:=by exact trivial)(hw:Region.wanted o (yielded ops a.tmps)=true:=by rfl)(ho:o.op=.load ty x:=by rfl)(hx:a.eval x=.pointer (some ⟨b,off,none⟩):=by rfl)(hi:(prog.info? ty).map (·.size)=some n:=by kernel_rfl):zF prog ops Q S ((o,1)::r) a w:=
 cF hw (u.h x ho b off hx cs hc n hi hn) hS h
theorem zC(ty:TypeId)[u:US9 ty e](n:Nat)(hlt:i<len)(h:zF prog ops Q S r (a.put o.dst (.pointer (some ⟨b,off+i*n,none⟩))) w)(hw:Region.wanted o (yielded ops a.tmps)=true:=by rfl)(ho:o.op=.indexAddr ty x y:=by rfl)
 (hx:a.eval x=.slice (some ⟨b,off,none⟩) len cap:=by rfl)(hy:a.eval y=.int .i64 i:=by rfl)(hi:(prog.info? e).map (·.size)=some n:=by kernel_rfl):zF prog ops Q S ((o,3)::r) a w:=dJ ty x y e b off len cap n i hw ho hx hy u.h hi hlt h
theorem xD{n:Int}{k:IntKind}{op:BinOp}[Decidable q](hz:q)(h:zF P ops Q S r (a.put o.dst (.bool true)) w)(hw:Region.wanted o (yielded ops a.tmps)=true:=by rfl)(ho:o.op=.binOp op t x y yt:=by rfl)(hc:isCmp op=true:=by rfl)(hx:a.eval x=.int k m:=by rfl)(hy:a.eval y=.int k n:=by rfl)(hb:vW op m n=decide q:=by rfl):zF P ops Q S ((o,3)::r) a w:=
 qN op t x y yt k m n hw ho hc hx hy true (hb.trans (decide_eq_true hz)) h
theorem xT{n:Int}{k:IntKind}{op:BinOp}[Decidable q](hz:¬q)(h:zF P ops Q S r (a.put o.dst (.bool false)) w)(hw:Region.wanted o (yielded ops a.tmps)=true:=by rfl)(ho:o.op=.binOp op t x y yt:=by rfl)(hc:isCmp op=true:=by rfl)(hx:a.eval x=.int k m:=by rfl)(hy:a.eval y=.int k n:=by rfl)(hb:vW op m n=decide q:=by rfl):zF P ops Q S ((o,3)::r) a w:=
 qN op t x y yt k m n hw ho hc hx hy false (hb.trans (decide_eq_false hz)) h
theorem aE{n:Int}{k:IntKind}{op:BinOp}{c b:Bool}(hz:c=b)(h:zF P ops Q S r (a.put o.dst (.bool b)) w)(hw:Region.wanted o (yielded ops a.tmps)=true:=by rfl)(ho:o.op=.binOp op t x y yt:=by rfl)(hc:isCmp op=true:=by rfl)(hx:a.eval x=.int k m:=by rfl)(hy:a.eval y=.int k n:=by rfl)(hb:vW op m n=c:=by rfl):zF P ops Q S ((o,3)::r) a w:=
 qN op t x y yt k m n hw ho hc hx hy b (hb.trans hz) h
theorem qZ(hv:∀w,(execOp a.eval o).run P w=.ok (.value v) w)(h:zF P ops Q S r (a.put o.dst v) w)(hw:Region.wanted o (yielded ops a.tmps)=true:=by rfl):zF P ops Q S ((o,3)::r) a w:=qM hw hv h
theorem xU(ty:TypeId)(off:Nat)(cs:iL)(h1:∀c∈cs,c.oneCell'=true)(n:Nat)(hn:cs.size=n)(hb:w.heap[b]?=some (.cells cur T (0,0)))(h:∀w',w'.heap[b]?=some (.cells (zE cur off cs) T (0,0))->Mod (fun k=>k=b) w w'->K (a.put o.dst undef) w')
 (hoff:off+cs.size<=cur.size:=by omega)(ho:o.op=.store ty p x:=by rfl)(hp:a.eval p=.pointer (some ⟨b,off,none⟩):=by rfl)(hx:a.eval x=.agg cs:=by rfl)(hs:(P.info? ty).map (·.size)=some n:=by kernel_rfl):o.wp P a w K Q:=wp_storeA ty p x b off cs ho hp hx h1 n hs hn cur T hb hoff h
theorem qT(ty:TypeId)(cs:iL)(h1:∀c∈cs,c.oneCell'=true)(n:Nat)(hn:cs.size=n)(hb:w.heap[b]?=some (.cells cur T (0,0)))(h:∀w',w'.heap[b]?=some (.cells cs T (0,0))->Mod (fun k=>k=b) w w'->K (a.put o.dst undef) w')
 (hoff:cs.size=cur.size:=by omega)(ho:o.op=.store ty p x:=by rfl)(hp:a.eval p=iO b:=by rfl)(hx:a.eval x=.agg cs:=by rfl)(hs:(P.info? ty).map (·.size)=some n:=by kernel_rfl):o.wp P a w K Q:=wp_storeA ty p x b 0 cs ho hp hx h1 n hs hn cur T hb (by omega) fun w' h2 h3=>h w' (by rw[yQ hoff]at h2;exact h2) h3
theorem yL(ty:TypeId)(h1:∀c∈cs,c.oneCell'=true)(n:Nat)(hn:cs.size=n)(hb:w.heap[b]?=some (.cells cur T (0,0)))(h:∀w',w'.heap[b]?=some (.cells cs T (0,0))->Mod (fun k=>k=b) w w'->K (a.put o.dst undef) w')
 (hoff:cs.size=cur.size:=by omega)(ho:o.op=.store ty p x:=by rfl)(hp:a.eval p=iO b:=by rfl)(hx:a.eval x=.agg cs:=by rfl)(hs:(P.info? ty).map (·.size)=some n:=by kernel_rfl):o.wp P a w K Q:=qT ty cs h1 n hn hb h hoff ho hp hx hs
theorem zR(ty:TypeId)(off:Nat)(v:Value)(hb:w.heap[b]?=some (.cells cur T (0,0)))(h:∀w',w'.heap[b]?=some (.cells (cur.setIfInBounds off v) T (0,0))->Mod (fun k=>k=b) w w'->K (a.put o.dst undef) w')
 (hoff:off<cur.size:=by omega)(h1:v.oneCell'=true:=by rfl)(ho:o.op=.store ty p x:=by rfl)(hp:a.eval p=.pointer (some ⟨b,off,none⟩):=by rfl)(hx:a.eval x=v:=by rfl)(hs:(P.info? ty).map (·.size)=some 1:=by kernel_rfl):o.wp P a w K Q:=wp_store1 ty p x b off v ho hp hx h1 hs cur T hb hoff h
theorem zB(hz:(P.info? ty).bind (·.zero)=some (.agg cs))(h:∀w',w'.heap[w.heap.size]?=some (.cells cs ty (0,0))->Mod qJ w w'->w.heap.size<w'.heap.size->K (a.put o.dst (iO w.heap.size)) w')(ho:o.op=.alloc ty:=by rfl):o.wp P a w K Q:=jX ty _ ho hz h
theorem wpAl9(hz:(P.info? ty).bind (·.zero)=some v)(h:∀w',w'.heap[w.heap.size]?=some (.cells v.cells ty (0,0))->Mod qJ w w'->w.heap.size<w'.heap.size->K (a.put o.dst (iO w.heap.size)) w')(ho:o.op=.alloc ty:=by rfl):o.wp P a w K Q:=jX ty _ ho hz h
theorem kK(t:TypeId)[u:US9 t e](v z:Value)(n:Nat)(hv:v.cells.size=n)(h:∀w',w'.heap[w.heap.size]?=some (.cells v.cells e (0,0))->Mod qJ w w'->w.heap.size<w'.heap.size->K (a.put o.dst (.slice (some ⟨w.heap.size,0,none⟩) 1 1)) w')(hi:(prog.info? e).map (fun i=>(i.zero,i.size))=some (some z,n):=by kernel_rfl)(hn:0<n:=by omega)(hn':n<=16777216:=by omega)(ho:o.op=.buildSlice t 1 #[(0,x)]:=by rfl)(hx:a.eval x=v:=by rfl):o.wp prog a w K Q:=
 eI t e x v z n ho hx u.h hi hn hn' hv h
theorem zT(ty:TypeId)(h:∀w',w'.heap[w.heap.size]?=some (.cells v.cells ty (0,0))->Mod qJ w w'->w.heap.size<w'.heap.size->K (a.put o.dst (iO w.heap.size)) w')(ho:o.op=.box ty x:=by rfl)(hx:a.eval x=v:=by rfl):o.wp P a w K Q:=wp_box ty x v ho hx h
end
section
variable{P:Program}{ops:Array Oper}{Q:Exit->Act->iN->Prop}{S:iN->Prop}{o:Oper}{r:List (Oper×Nat)}{a:Act}{w:iN}{v:Value}{x:Operand}{d:TypeDesc}
theorem cH(p:List (Nat×Nat))(tl:List Nat)(S:iN->Prop)(hS:S w.drew)(h:zF P l.toArray Q S (p.map fun x=>(l.getD x.1 default,x.2)) a w.drew)(hm:P.follows .mixedOrders=true:=by kernel_rfl)(hs:Region.noSelect l.toArray=true:=by kernel_rfl)
 (hl:p.length=l.toArray.size:=by kernel_rfl)(hp:piOk .any l.toArray tl p (Array.replicate l.toArray.size false)=true:=by kernel_rfl)(hQ:kU Q:=by exact fun _ _ _ _ hd h=>⟨hd.trans h.1,h.2⟩):(Code.region id l.toArray true).wp P Q a w:=wp_region_pi p tl S hm hs hl hp hQ hS h
end
theorem qK(h:o.wp P a w (zF P ops Q (fun _=>True) r) Q)(hg:Region.wanted o (yielded ops a.tmps)=true:=by rfl):zF P ops Q (fun _=>True) ((o,1)::r) a w:=kS hg h
section
variable{P:Program}{ops:Array Oper}{Q:Exit->Act->iN->Prop}{S:iN->Prop}{o:Oper}{r:List (Oper×Nat)}{a:Act}{w:iN}{x y:Operand}{t e:TypeId}{ad:Option Addr}{b off len n cap i:Nat}
theorem xE{R:iJ}(hf:P.funcs[f]?=some fn)(hc:Calls P f args.toArray w R)(k:∀e w',R e w'->∃v,e=.returned v/\K (a.put o.dst v) w')
 (ho:o.op=.call { callee:=.value (.func f),args:=xs.toArray,argTypes:=ts }:=by rfl)(hb:fn.body.isSome=true:=by rfl)(hn:(fn.name== "runtime.NumGoroutine")=false:=by kernel_rfl)(ha:xs.map a.eval=args:=by rfl):o.wp P a w K Q:=by
 unfold Oper.wp;rw[xM f xs ts ho fn hf hb hn args ha w,Oper.upon_enter];refine hc.mono fun e w' he=>?_;obtain⟨v,rfl,h⟩:=k e w' he;exact h
theorem pL{R:iN->Prop}(hf:P.funcs[f]?=some fn)(hc:Calls P f args.toArray w (fun e w'=>e=.returned v/\R w'))(k:∀w',R w'->K (a.put o.dst v) w')
 (ho:o.op=.call { callee:=.value (.func f),args:=xs.toArray,argTypes:=ts }:=by rfl)(hb:fn.body.isSome=true:=by rfl)(hn:(fn.name== "runtime.NumGoroutine")=false:=by kernel_rfl)(ha:xs.map a.eval=args:=by rfl):o.wp P a w K Q:=
 xE hf hc (fun _ w' h=>⟨v,h.1,k w' h.2⟩) ho hb hn ha
theorem xF(h:zF P ops Q S r (a.put o.dst (.int .i64 n)) w)(hw:Region.wanted o (yielded ops a.tmps)=true:=by rfl)(ho:o.op=.call { callee:=.builtin .len,args:=#[x],argTypes:=#[t] }:=by rfl)(hx:a.eval x=.slice ad n cap:=by rfl)(ht:isSliceT P t=true:=by kernel_rfl):zF P ops Q S ((o,3)::r) a w:=wpPi_len x t ad n cap hw ho hx ht h
theorem zZ(p:List Nat)(tl:List Nat)(S:iN->Prop)(hS:S w.drew)(h:zF P l.toArray Q S (l.zip p) a w.drew)(hm:P.follows .mixedOrders=true:=by kernel_rfl)(hs:Region.noSelect l.toArray=true:=by kernel_rfl)
 (hl:p.length=l.length:=by kernel_rfl)(hp:piOk .any l.toArray tl ((List.range p.length).zip p) (Array.replicate l.toArray.size false)=true:=by kernel_rfl)(hQ:kU Q:=by exact fun _ _ _ _ hd h=>⟨hd.trans h.1,h.2⟩):(Code.region id l.toArray true).wp P Q a w:=
 wp_region_pi ((List.range p.length).zip p) tl S hm hs (by simp[hl]) hp hQ hS (by
  have e:(((List.range p.length).zip p).map fun x=>(l.getD x.1 default,x.2))=l.zip p:=List.ext_getElem (by simp[hl]) fun i h1 h2=>by
   have h3:i<l.length:=by simp at h2;omega
   simp[List.getD_eq_getElem?_getD,List.getElem?_eq_getElem h3]
  rw[e];exact h)
end
section
variable{α β:Type}[DecidableEq α]
def qR(k:α):List (α×β)->Option β
 | []=>none
 |p::l=>if k=p.1 then some p.2 else qR k l
def bV(k:α):List (α×β)->Nat->Option (Nat×β)
 | [],_=>none
 |p::l,i=>if k=p.1 then some (i,p.2)else bV k l (i+1)
def kD(k:α)(v:β):List (α×β)->List (α×β)
 | []=>[(k,v)]
 |p::l=>if k=p.1 then(k,v)::l else p::kD k v l
def jE(k:α):List (α×β)->List (α×β)
 | []=>[]
 |p::l=>if k=p.1 then l else p::jE k l
theorem idxL_get(k:α):∀(l:List (α×β))(i:Nat),(bV k l i).map (·.2)=qR k l
 | [],_=>rfl
 |p::l,i=>by
  unfold bV qR
  split
  ·rfl
  ·exact idxL_get k l (i+1)
theorem fS{k:α}:∀{l:List (α×β)}{i j:Nat}{v:β},bV k l i=some (j,v)->i<=j/\j-i<l.length/\l[j-i]?=some (k,v)/\(∀v',kD k v' l=l.set (j-i) (k,v'))/\jE k l=l.eraseIdx (j-i)
 | [],_,_,_,h=>by cases h
 |p::l,i,j,v,h=>by
  unfold bV at h
  split at h
  ·rename_i hk
   simp only[Option.some.injEq,Prod.mk.injEq]at h;obtain⟨rfl,rfl⟩:=h;subst hk
   simp[kD,jE]
  ·rename_i hk
   obtain⟨h1,h2,h3,h4,h5⟩:=fS h;have e:j-i=(j-(i+1))+1:=by omega
   refine⟨by omega,by simp;omega,by rw[e];simpa using h3,fun v'=>?_,?_⟩
   ·rw[e];simp[kD,hk,h4]
   ·rw[e];simp[jE,hk,h5]
theorem cW{k:α}:∀{l:List (α×β)}{i:Nat},bV k l i=none->qR k l=none/\(∀v',kD k v' l=l++[(k,v')])/\jE k l=l/\k∉l.map (·.1)
 | [],_,_=>⟨rfl,fun _=>rfl,rfl,by simp⟩
 |p::l,i,h=>by
  unfold bV at h
  split at h
  ·cases h
  ·rename_i hk
   obtain⟨h1,h2,h3,h4⟩:=cW h;exact⟨by simp[qR,hk,h1],fun v'=>by simp[kD,hk,h2],by simp[jE,hk,h3],by simp[hk];simpa using h4⟩
theorem getL_none{k:α}{l:List (α×β)}:qR k l=none↔k∉l.map (·.1):=by
 induction l with
 |nil=>simp[qR]
 |cons p l ih=>unfold qR;split<;>simp_all
theorem jZ{k:α}{v:β}{l:List (α×β)}(h:qR k l=some v):(k,v)∈l:=by
 induction l with
 |nil=>cases h
 |cons p l ih=>
  unfold qR at h
  split at h
  ·rename_i hk;subst hk;simp at h;subst h;simp
  ·exact List.mem_cons_of_mem _ (ih h)
theorem rF{k:α}{v:β}{l:List (α×β)}(hn:(l.map (·.1)).Nodup)(h:(k,v)∈l):qR k l=some v:=by
 induction l with
 |nil=>cases h
 |cons p l ih=>
  rw[List.map_cons,List.nodup_cons]at hn;unfold qR
  rcases List.mem_cons.1 h with rfl|h
  ·simp
  ·rw[if_neg (by rintro rfl;exact hn.1 (List.mem_map.2 ⟨_,h,rfl⟩))]
   exact ih hn.2 h
theorem rY(k k':α)(v:β)(l:List (α×β)):qR k' (kD k v l)=if k'=k then some v else qR k' l:=by
 induction l with
 |nil=>simp[kD,qR]
 |cons p l ih=>
  unfold kD
  by_cases hk:k=p.1
  ·rw[if_pos hk];simp only[qR];subst hk;by_cases hk':k'=p.1<;>simp[hk']
  ·rw[if_neg hk];simp only[qR,ih];by_cases hk':k'=p.1
   ·subst hk';simp[Ne.symm hk]
   ·simp[hk']
theorem keys_put(k:α)(v:β)(l:List (α×β)):(kD k v l).map (·.1)=if k∈l.map (·.1)then l.map (·.1)else l.map (·.1)++[k]:=by
 induction l with
 |nil=>simp[kD]
 |cons p l ih=>
  unfold kD
  by_cases hk:k=p.1
  ·simp[hk]
  ·rw[if_neg hk];simp only[List.map_cons,ih,List.mem_cons,hk,false_or];split<;>simp
theorem nodup_put{k:α}{v:β}{l:List (α×β)}(h:(l.map (·.1)).Nodup):((kD k v l).map (·.1)).Nodup:=by
 rw[keys_put];split
 ·exact h
 ·rename_i hk
  rw[List.nodup_append];exact⟨h,by simp,by intro x hx y hy;simp at hy;subst hy;rintro rfl;exact hk hx⟩
theorem keys_del(k:α)(l:List (α×β)):(jE k l).map (·.1)=(l.map (·.1)).erase k:=by
 induction l with
 |nil=>simp[jE]
 |cons p l ih=>
  unfold jE
  by_cases hk:k=p.1
  ·simp[hk]
  ·rw[if_neg hk];simp[ih,List.erase_cons,show(p.1==k)=false by simpa using fun h=>hk h.symm]
theorem nodup_del{k:α}{l:List (α×β)}(h:(l.map (·.1)).Nodup):((jE k l).map (·.1)).Nodup:=by
 rw[keys_del];exact h.erase k
theorem getL_del(k k':α)(l:List (α×β))(h:(l.map (·.1)).Nodup):qR k' (jE k l)=if k'=k then none else qR k' l:=by
 induction l with
 |nil=>simp[jE,qR]
 |cons p l ih=>
  rw[List.map_cons,List.nodup_cons]at h;unfold jE
  by_cases hk:k=p.1
  ·rw[if_pos hk]
   by_cases hk':k'=k
   ·subst hk';subst hk;rw[if_pos rfl];exact getL_none.2 h.1
   ·rw[if_neg hk'];simp only[qR];rw[if_neg (by rw[<-hk];exact hk')]
  ·rw[if_neg hk];simp only[qR,ih h.2];by_cases hk':k'=p.1
   ·subst hk';simp[Ne.symm hk]
   ·simp[hk']
theorem length_put(k:α)(v:β)(l:List (α×β)):(kD k v l).length=if(qR k l).isSome then l.length else l.length+1:=by
 induction l with
 |nil=>simp[kD,qR]
 |cons p l ih=>
  unfold kD qR
  by_cases hk:k=p.1
  ·simp[hk]
  ·simp only[if_neg hk,List.length_cons,ih];split<;>rfl
end
structure KeyT(P:Program)(t:TypeId){α:Type}[DecidableEq α](enc:α->Value)(ok:α->Prop):Prop where
 check:∀(e:Bool)(x:α)(w:iN),ok x->(Instr.checkKey e 10000 t (enc x)).run P w=.ok () w
 same:∀(x y:α)(w:iN),ok x->ok y->(Op.equal t (enc x) (enc y)).run P w=.ok (decide (x=y)) w
 und:∃d,P.underlying t=some d/\((∀x y,Instr.sameNow d (enc x) (enc y)=none)\/(∀x y,Instr.sameNow d (enc x) (enc y)=some (decide (x=y))))
 bits:∀x,ok x->Instr.sameBits 10000 (enc x) (enc x)=true
def rI{α:Type}(enc:α->Value)(es:List MapEntry)(l:List (α×Value)):Prop:=es.map (fun e=>(e.key,e.val))=l.map (fun p=>(enc p.1,p.2))
structure MapIs{α:Type}(enc:α->Value)(ok:α->Prop)(w:iN)(mb:Nat)(l:List (α×Value)):Prop where
 obj:∃es clk,w.heap[mb]?=some (.map es clk)/\rI enc es.toList l/\(∀x∈es.toList,x.born<clk)/\(es.toList.map (·.born)).Nodup
 nd:(l.map (·.1)).Nodup
 ok:∀p∈l,ok p.1
section
variable{P:Program}{t:TypeId}{α:Type}[DecidableEq α]{enc:α->Value}{ok:α->Prop}{w:iN}{mb:Nat}{l:List (α×Value)}
theorem MapIs.keep(h:MapIs enc ok w mb l)(hm:Mod S w w')(hn:¬S mb):MapIs enc ok w' mb l:=by
 obtain⟨⟨es,clk,h1,h2⟩,h3,h4⟩:=h;exact⟨⟨es,clk,hm.obj hn h1,h2⟩,h3,h4⟩
theorem MapIs.keep0(h:MapIs enc ok w mb l)(hm:Mod qJ w w'):MapIs enc ok w' mb l:=h.keep hm id
theorem MapIs.made(h:w.heap[b]?=some (.map #[] 0)):MapIs enc ok w b []:=
 ⟨⟨#[],0,h,by simp[rI],by simp,by simp⟩,by simp,by simp⟩
theorem MapIs.lt(h:MapIs enc ok w mb l):mb<w.heap.size:=by
 obtain⟨⟨es,clk,h1,h2⟩,h3,h4⟩:=h;exact(Array.getElem?_eq_some_iff.1 h1).1
theorem dZ(hK:KeyT P t enc ok)(k:α)(hk:ok k)(w:iN):∀(es:List MapEntry)(l:List (α×Value))(i:Nat),rI enc es l->(∀p∈l,ok p.1)->
 (Instr.findAsking t (enc k) es i).run P w=.ok (bV k l i) w
 | [],l,i,h,_=>by
  have:l=[]:=by cases l with|nil=>rfl|cons a b=>simp[rI]at h
  subst this
  simp[Instr.findAsking,bV]
 |e::es,l,i,h,ho=>by
  match l,h with
  |q::l,h=>
   have hkey:e.key=enc q.1:=by simp[rI]at h;exact h.1.1
   have hv:e.val=q.2:=by simp[rI]at h;exact h.1.2
   have ht:rI enc es l:=by simp[rI]at h;exact h.2
   have hsame:=hK.same k q.1 w hk (ho q (by simp))
   by_cases hkq:k=q.1
   ·subst hkq
    simp[Instr.findAsking,hkey,hsame,bV,hv]
   ·have ih:=dZ hK k hk w es l (i+1) ht (fun p hp=>ho p (by simp[hp]))
    simp[Instr.findAsking,hkey,hsame,hkq,bV,ih]
theorem findNowL{d:TypeDesc}(hd:∀x y:α,Instr.sameNow d (enc x) (enc y)=some (decide (x=y)))(k:α):∀(es:List MapEntry)(l:List (α×Value))(i:Nat),rI enc es l->Instr.findNow d (enc k) es i=some (bV k l i)
 | [],l,i,h=>by
  have:l=[]:=by cases l with|nil=>rfl|cons a b=>simp[rI]at h
  subst this
  simp[Instr.findNow,bV]
 |e::es,l,i,h=>by
  match l,h with
  |q::l,h=>
   have hkey:e.key=enc q.1:=by simp[rI]at h;exact h.1.1
   have hv:e.val=q.2:=by simp[rI]at h;exact h.1.2
   have ht:rI enc es l:=by simp[rI]at h;exact h.2
   by_cases hkq:k=q.1
   ·simp[Instr.findNow,hkey,hd,hkq,bV,hv]
   ·simp[Instr.findNow,hkey,hd,hkq,bV,findNowL hd k es l (i+1) ht]
theorem rQ(hK:KeyT P t enc ok)(k:α)(hk:ok k)(w:iN)(es:List MapEntry)(l:List (α×Value))(h:rI enc es l)(ho:∀p∈l,ok p.1):
 (Instr.findKey t (enc k) es).run P w=.ok (bV k l 0) w:=by
 have h1:=dZ hK k hk w es l 0 h ho;obtain⟨d,hu,hd⟩:=hK.und;unfold Instr.findKey;simp only[Sem.run_bind,run_underlying hu,Result.andThen_ok]
 rcases hd with hd|hd
 ·cases es with
  |nil=>simp[Instr.findNow];simp[Instr.findAsking]at h1;exact h1
  |cons e es=>
   have:∃q,e.key=enc q:=by
    cases l with
    |nil=>simp[rI]at h
    |cons q l=>exact⟨q.1,by simp[rI]at h;exact h.1.1⟩
   obtain⟨q,hq⟩:=this;simp only[Instr.findNow,hq,hd];exact h1
 ·rw[findNowL hd k es l 0 h]
  rfl
theorem run_lookupL(hK:KeyT P t enc ok)(h:MapIs enc ok w mb l)(k:α)(hk:ok k)(mt et:TypeId)(hmt:P.underlying mt=some (.map t et))(z:Value)(hz:(P.info? et).bind (·.zero)=some z)(commaOk:Bool):
 (Instr.lookup mt (.map (some mb)) (enc k) commaOk).run P w=.ok (if commaOk then .tuple #[(qR k l).getD z,.bool (qR k l).isSome]else(qR k l).getD z) w:=by
 obtain⟨⟨es,clk,hb,hkd,_⟩,hnd,ho⟩:=h
 have hz':(zeroValue et).run P w=.ok z w:=by
  cases hi:P.info? et with
  |none=>simp[hi]at hz
  |some i=>simp[hi]at hz;simp[zeroValue,typeInfo,hi,hz]
 have hgo:(getObj mb).run P w=.ok (.map es clk) w:=by simp[getObj,Sem.run,hb]
 unfold Instr.lookup;simp only[Sem.run_bind,run_underlying hmt,Result.andThen_ok,hgo,hK.check _ k w hk,rQ hK k hk w es.toList l hkd ho,Sem.run_pure]
 rw[<-idxL_get k l 0]
 cases hi:bV k l 0 with
 |none=>simp[hz']
 |some r=>obtain⟨i,v⟩:=r;simp
theorem vL(hK:KeyT P t enc ok)(h:MapIs enc ok w mb l)(k:α)(hk:ok k)(mt et:TypeId)(hmt:P.underlying mt=some (.map t et))(z:Value)(hz:(P.info? et).bind (·.zero)=some z)(m x:Operand)(commaOk:Bool)
 (ho:o.op=.lookup mt m x commaOk)(hm:a.eval m=.map (some mb))(hx:a.eval x=enc k)(v:Value)(hv:(if commaOk then .tuple #[(qR k l).getD z,.bool (qR k l).isSome]else(qR k l).getD z)=v):
 (execOp a.eval o).run P w=.ok (.value v) w:=by
 subst hv;unfold execOp;simp only[ho,hm,hx,Sem.run_bind,run_lookupL hK h k hk mt et hmt z hz commaOk,Result.andThen_ok,Sem.run_pure]
theorem exec_lenL(h:MapIs enc ok w mb l)(mt et:TypeId)(hmt:P.underlying mt=some (.map t et))(x:Operand)(ho:o.op=.call { callee:=.builtin .len,args:=#[x],argTypes:=#[mt] })(hx:a.eval x=.map (some mb)):
 (execOp a.eval o).run P w=.ok (.value (.int .i64 l.length)) w:=by
 obtain⟨⟨es,clk,hb,hkd,_⟩,hnd,hok⟩:=h;have hlen:es.size=l.length:=by have:=congrArg List.length hkd;simpa using this
 unfold execOp
 simp[ho,hx,resolve,invoke,builtin,Builtin.len_,run_underlying hmt,goInt,getObj,Sem.run,hb,hlen]
theorem setObj_heap{mb:Nat}{o o':Obj}(hb:w.heap[mb]?=some o)(ho:∀c t f,o≠.cells c t f):
 (setObj mb o').run P w=.ok () { w with heap:=w.heap.setIfInBounds mb o' }:=by
 cases o<;>simp_all [setObj,Sem.run]
theorem mod_set(w:iN)(mb:Nat)(o:Obj):Mod (fun k=>k=mb) w { w with heap:=w.heap.setIfInBounds mb o }:=
 ⟨rfl,rfl,rfl,by simp,fun k _ hn=>by simp only[Array.getElem?_setIfInBounds];rw[if_neg (fun e=>hn e.symm)]⟩
variable{o:Oper}{a:Act}{K:Act->iN->Prop}{Q:Exit->Act->iN->Prop}
theorem dI(hK:KeyT P t enc ok)(hM:MapIs enc ok w mb l)(k:α)(hk:ok k)(mt et:TypeId)(hmt:P.underlying mt=some (.map t et))(m x y:Operand)(v:Value)(ho:o.op=.mapUpdate mt m x y)(hm:a.eval m=.map (some mb))(hx:a.eval x=enc k)(hy:a.eval y=v)
 (h:∀w',MapIs enc ok w' mb (kD k v l)->Mod (fun j=>j=mb) w w'->K (a.put o.dst undef) w'):o.wp P a w K Q:=by
 obtain⟨⟨es,clk,hb,hkd,hbo,hbn⟩,hnd,hok⟩:=hM;have hgo:(getObj mb).run P w=.ok (.map es clk) w:=by simp[getObj,Sem.run,hb]
 have hlt:mb<w.heap.size:=(Array.getElem?_eq_some_iff.1 hb).1
 have hrun:∀o',(setObj mb o').run P w=.ok () { w with heap:=w.heap.setIfInBounds mb o' }:=fun o'=>setObj_heap hb (by simp)
 have hok':∀p∈kD k v l,ok p.1:=by
  intro p hp;have h1:p.1∈(kD k v l).map (·.1):=List.mem_map.2 ⟨p,hp,rfl⟩;rw[keys_put]at h1
  have h2:p.1∈l.map (·.1)\/p.1=k:=by
   split at h1
   ·exact .inl h1
   ·simpa using h1
  rcases h2 with h2|h2
  ·obtain⟨q,hq,e⟩:=List.mem_map.1 h2;rw[<-e];exact hok q hq
  ·rw[h2];exact hk
 have hlen:es.size=l.length:=by have:=congrArg List.length hkd;simpa using this
 unfold Oper.wp execOp;simp only[ho,hm,hx,hy]
 cases hi:bV k l 0 with
 |some r=>
  obtain⟨j,u⟩:=r;obtain⟨-,h2,h3,h4,-⟩:=fS hi;rw[Nat.sub_zero]at h2 h3 h4
  have hkk:(es[j]?).map (·.key)=some (enc k):=by
   have h1:=congrArg (fun l=>(l[j]?).map (·.1)) hkd;simp only[List.getElem?_map,Option.map_map,h3]at h1
   simpa[Function.comp_def]using h1
  have hstay:(Instr.keyThatStays (((es[j]?).map (·.key)).getD (enc k)) (enc k)).run P w=.ok (enc k) w:=by
   rw[hkk];simp[Instr.keyThatStays,hK.bits k hk]
  have hr:(Instr.mapUpdate mt (.map (some mb)) (enc k) v).run P w=.ok () { w with heap:=w.heap.setIfInBounds mb (.map (es.modify j fun e=>{ e with key:=enc k,val:=v }) clk) }:=by
   unfold Instr.mapUpdate;simp only[Sem.run_bind,run_underlying hmt,Result.andThen_ok,hgo,hK.check _ k w hk,rQ hK k hk w es.toList l hkd hok,hi,hstay,hrun]
  simp only[Sem.run_bind,hr,Result.andThen_ok,Sem.run_pure];refine h _ ⟨⟨_,_,Array.getElem?_setIfInBounds_self_of_lt hlt,?_,?_,?_⟩,nodup_put hnd,hok'⟩ (mod_set _ _ _)
  ·rw[h4]
   unfold rI at hkd |-
   apply List.ext_getElem?
   intro i;have h1:=congrArg (fun l=>l[i]?) hkd;simp only[List.getElem?_map,Array.getElem?_toList,Array.getElem?_modify,List.getElem?_set]at h1 |-
   by_cases hji:j=i
   ·subst hji
    have hj:j<es.size:=by omega
    simp[hj,h2]
   ·simpa[hji]using h1
  ·intro x hx
   rw[Array.mem_toList_iff,Array.mem_iff_getElem?]at hx;obtain⟨i,hx⟩:=hx;rw[Array.getElem?_modify]at hx
   cases he:es[i]? with
   |none=>rw[he]at hx;split at hx<;>simp at hx
   |some e=>
    have hb1:=hbo e (by rw[Array.mem_toList_iff,Array.mem_iff_getElem?];exact⟨i,he⟩);rw[he]at hx
    split at hx
    ·simp at hx;rw[<-hx];exact hb1
    ·simp at hx;rw[<-hx];exact hb1
  ·have:(es.modify j fun e=>{ e with key:=enc k,val:=v }).toList.map (·.born)=es.toList.map (·.born):=by
    apply List.ext_getElem?
    intro i;simp only[List.getElem?_map,Array.getElem?_toList,Array.getElem?_modify]
    split
    ·cases es[i]?<;>rfl
    ·rfl
   rw[this];exact hbn
 |none=>
  obtain⟨h1,h2,h3,h4⟩:=cW hi
  have hr:(Instr.mapUpdate mt (.map (some mb)) (enc k) v).run P w=.ok () { w with heap:=w.heap.setIfInBounds mb (.map (es.push { key:=enc k,val:=v,born:=clk }) (clk+1)) }:=by
   unfold Instr.mapUpdate;simp only[Sem.run_bind,run_underlying hmt,Result.andThen_ok,hgo,hK.check _ k w hk,rQ hK k hk w es.toList l hkd hok,hi,hrun]
  simp only[Sem.run_bind,hr,Result.andThen_ok,Sem.run_pure];refine h _ ⟨⟨_,_,Array.getElem?_setIfInBounds_self_of_lt hlt,?_,?_,?_⟩,nodup_put hnd,hok'⟩ (mod_set _ _ _)
  ·rw[h2];unfold rI at hkd |-;simp[hkd]
  ·intro x hx
   simp at hx
   rcases hx with hx|rfl
   ·have:=hbo x (by simpa using hx);omega
   ·simp
  ·simp only[Array.toList_push,List.map_append,List.map_cons,List.map_nil]
   rw[List.nodup_append];refine⟨hbn,by simp,?_⟩;intro x hx y hy
   simp at hy;subst hy
   obtain⟨e,he,rfl⟩:=List.mem_map.1 hx;have:=hbo e he;omega
theorem wp_delL(hK:KeyT P t enc ok)(hM:MapIs enc ok w mb l)(k:α)(hk:ok k)(mt et:TypeId)(hmt:P.underlying mt=some (.map t et))(m x:Operand)(ho:o.op=.call { callee:=.builtin .delete,args:=#[m,x],argTypes:=#[mt,t] })(hm:a.eval m=.map (some mb))(hx:a.eval x=enc k)
 (h:∀w',MapIs enc ok w' mb (jE k l)->Mod (fun j=>j=mb) w w'->K (a.put o.dst (.tuple #[])) w'):o.wp P a w K Q:=by
 obtain⟨⟨es,clk,hb,hkd,hbo,hbn⟩,hnd,hok⟩:=hM;have hgo:(getObj mb).run P w=.ok (.map es clk) w:=by simp[getObj,Sem.run,hb]
 have hlt:mb<w.heap.size:=(Array.getElem?_eq_some_iff.1 hb).1
 have hrun:∀o',(setObj mb o').run P w=.ok () { w with heap:=w.heap.setIfInBounds mb o' }:=fun o'=>setObj_heap hb (by simp)
 have hlen:es.size=l.length:=by have:=congrArg List.length hkd;simpa using this
 unfold Oper.wp execOp;simp only[ho,resolve,invoke,builtin,Sem.run_bind,Sem.run_pure,Result.andThen_ok,List.map_toArray,List.map_cons,List.map_nil,hm,hx]
 cases hi:bV k l 0 with
 |some r=>
  obtain⟨j,u⟩:=r;obtain⟨-,h2,h3,-,h4⟩:=fS hi;rw[Nat.sub_zero]at h2 h3 h4
  have hr:(Builtin.delete_ #[mt,t] o.type #[.map (some mb),enc k]).run P w=.ok (.tuple #[]) { w with heap:=w.heap.setIfInBounds mb (.map (es.eraseIdxIfInBounds j) clk) }:=by
   unfold Builtin.delete_
   simp[run_underlying hmt,hgo,hK.check _ k w hk,rQ hK k hk w es.toList l hkd hok,hi,hrun]
  rw[hr];simp only[Result.andThen_ok]
  have e:(es.eraseIdxIfInBounds j).toList=es.toList.eraseIdx j:=by
   rw[Array.eraseIdxIfInBounds,dif_pos (by omega)];simp
  have hme:∀{α β:Type}(f:α->β)(l:List α)(i:Nat),(l.eraseIdx i).map f=(l.map f).eraseIdx i:=by
   intro α β f l
   induction l with
   |nil=>intro i;simp
   |cons x l ih=>intro i;cases i<;>simp[ih]
  refine h _ ⟨⟨_,_,Array.getElem?_setIfInBounds_self_of_lt hlt,?_,?_,?_⟩,nodup_del hnd,?_⟩ (mod_set _ _ _)
  ·rw[h4]
   unfold rI at hkd |-;rw[e,hme,hkd,<-hme]
  ·intro x hx
   rw[e]at hx;exact hbo x (List.mem_of_mem_eraseIdx hx)
  ·rw[e,hme]
   exact hbn.sublist (List.eraseIdx_sublist _ _)
  ·intro p hp
   rw[h4]at hp;exact hok p (List.mem_of_mem_eraseIdx hp)
 |none=>
  obtain⟨h1,h2,h3,h4⟩:=cW hi
  have hr:(Builtin.delete_ #[mt,t] o.type #[.map (some mb),enc k]).run P w=.ok (.tuple #[]) { w with heap:=w.heap.setIfInBounds mb (.map es clk) }:=by
   unfold Builtin.delete_
   simp[run_underlying hmt,hgo,hK.check _ k w hk,rQ hK k hk w es.toList l hkd hok,hi,hrun]
  rw[hr];simp only[Result.andThen_ok];refine h _ ?_ (mod_set _ _ _);rw[h3];exact⟨⟨_,_,Array.getElem?_setIfInBounds_self_of_lt hlt,hkd,hbo,hbn⟩,hnd,hok⟩
end
theorem dF(x y:ByteArray):(x==y)=decide (x=y):=by
 rw[Bool.eq_iff_iff,decide_eq_true_iff];obtain⟨⟨x⟩⟩:=x;obtain⟨⟨y⟩⟩:=y
 show((⟨x⟩:Array UInt8)==⟨y⟩)=true↔_
 simp
theorem bK(ht:P.underlying t=some .string):KeyT P t Value.string (fun _=>True):=by
 refine⟨fun e x w _=>?_,fun x y w _ _=>?_,⟨_,ht,.inr fun x y=>by simp only[Instr.sameNow,dF]⟩,fun x _=>?_⟩
 ·rw[show(10000:Nat)=9999+1 from rfl,Instr.checkKey]
  simp[run_underlying ht]
 ·unfold Op.equal Op.maxDepth
  rw[show(10000:Nat)=9999+1 from rfl,Op.equalIn]
  simp[run_underlying ht,dF]
 ·simp[Instr.sameBits,dF]
def pT(v:Value)(w:iN):iJ:=fun e w'=>e=.returned v/\w'=w
def jR(c:Int):Bool:=(decide (97<=c)&&decide (c<=122))||(decide (48<=c)&&decide (c<=57))
theorem letterWord_any(c:Int)(w:iN):Calls prog 322 #[.int .i32 c] w (pT (.bool (jR c)) w):=by
 go_enter func322,ntmps322
 by_cases h1:97<=c<;>by_cases h2:c<=122<;>by_cases h3:48<=c<;>by_cases h4:c<=57
 all_goals
  go_wp2;go_ret;exact⟨kZ (by simp[jR,h1,h2,h3,h4]),rfl⟩
inductive Kd where
 |word|inside|second|dashes
deriving DecidableEq
def kdF:Kd->Nat
 | .word=>318
 | .inside=>323
 | .second=>324
 | .dashes=>325
def kdEnds:Kd->Bool
 | .inside=>true
 |_=>false
def stCells(k:Kd)(n:Int):iL:=#[.func (.func (kdF k)) #[.agg #[.int .i64 n]] #[],.bool (kdEnds k)]
def StAt(w:iN)(v:Value)(k:Kd)(n:Int):Prop:=∃b,v=iO b/\w.heap[b]?=some (.cells (stCells k n) 404 (0,0))
def StOk(w:iN)(v:Value):Option (Kd×Int)->Prop
 |none=>v=.pointer none
 |some s=>StAt w v s.1 s.2
def bF(n c:Int):Option (Kd×Int):=if jR c then some (.inside,n)else none
def uB:Kd->Int->Int->Option (Kd×Int)
 | .word,n,c=>bF n c
 | .inside,n,c=>if c=47/\0<n then some (.word,n-1)else if c=46 then some (.word,n)else if c=95 then some (.second,n)else if c=45 then some (.dashes,n)else bF n c
 | .second,n,c=>if c=95 then some (.word,n)else bF n c
 | .dashes,n,c=>if c=45 then some (.dashes,n)else bF n c
def StR(w:iN)(r:Option (Kd×Int)):iJ:=fun e w'=>∃v,e=.returned v/\Mod qJ w w'/\StOk w' v r
theorem jK(fn:Fn)(first cap:iL)(w:iN):(Instr.makeFunc fn first cap).run prog w=.ok (.func fn first cap) w:=rfl
theorem gV(hm:Mod qJ w w1)(k:Kd)(n:Int)(cs:iL)(hc:cs=stCells k n):StR w (some (k,n)) (.returned (iO w1.heap.size)) (w1.alloc (.cells cs 404)):=by
 subst hc;exact⟨_,rfl,hm.alloc _,_,rfl,heap_alloc_new _ _⟩
theorem repoPart_any(n:Int)(w:iN):Calls prog 302 #[.agg #[.int .i64 n]] w (StR w (some (.word,n))):=by
 have hmf:=jK;go_enter func302,ntmps302;go_wp2;go_ret;rw[<-World.size_alloc w (.cells #[.int .i64 n] 388)];exact gV (zI _ _) _ _ _ rfl
theorem rR(n c:Int)(w:iN):Calls prog 318 #[.agg #[.int .i64 n],.int .i32 c] w (StR w (bF n c)):=by
 have hmf:=jK;obtain⟨t,ht⟩:∃t,t=jR c:=⟨_,rfl⟩;unfold bF;rw[<-ht];have HT:=O ht;clear ht
 cases t
 all_goals
  go_enter func318,ntmps318;go_wp2_with (go_at_call 322;refine(letterWord_any c _).mono ?_;rintro _ _ ⟨rfl,rfl⟩;rw[<-HT.out])
  try go_wp2
  go_ret
 ·exact⟨_,rfl,zI _ _,rfl⟩
 ·rw[<-World.size_alloc w (.cells #[.int .i64 n] 388)]
  exact gV (zI _ _) _ _ _ rfl
theorem repoSecond_any(n c:Int)(w:iN):Calls prog 324 #[.agg #[.int .i64 n],.int .i32 c] w (StR w (uB .second n c)):=by
 have hmf:=jK
 by_cases hc:c=95
 ·subst hc
  go_enter func324,ntmps324;go_wp2;go_ret;rw[<-World.size_alloc w (.cells #[.int .i64 n] 388)];exact gV (zI _ _) _ _ _ rfl
 ·simp only[uB,if_neg hc]
  go_enter func324,ntmps324;go_wp2_with (go_at_call 318;refine(rR n c _).mono ?_;rintro _ w1 ⟨v,rfl,hm,hs⟩);go_ret;exact⟨_,rfl,(zI _ _).trans0 hm,hs⟩
theorem repoDashes_any(n c:Int)(w:iN):Calls prog 325 #[.agg #[.int .i64 n],.int .i32 c] w (StR w (uB .dashes n c)):=by
 have hmf:=jK
 by_cases hc:c=45
 ·subst hc
  go_enter func325,ntmps325;go_wp2;go_ret;rw[<-World.size_alloc w (.cells #[.int .i64 n] 388)];exact gV (zI _ _) _ _ _ rfl
 ·simp only[uB,if_neg hc]
  go_enter func325,ntmps325;go_wp2_with (go_at_call 318;refine(rR n c _).mono ?_;rintro _ w1 ⟨v,rfl,hm,hs⟩);go_ret;exact⟨_,rfl,(zI _ _).trans0 hm,hs⟩
theorem repoInside_any(n c:Int)(w:iN)(hn:0<=n/\n<=7):Calls prog 323 #[.agg #[.int .i64 n],.int .i32 c] w (StR w (uB .inside n c)):=by
 have hmf:=jK;obtain⟨hn0,hn7⟩:=hn
 by_cases h1:c=47/\0<n
 ·obtain⟨rfl,hn1⟩:=h1
  rw[show uB .inside n 47=some (.word,n-1) by simp[uB,hn1]];go_enter func323,ntmps323
  go_wp2_with (go_at_call 302;refine(repoPart_any _ _).mono ?_;rintro _ w1 ⟨v,rfl,hm,hs⟩);go_ret;exact⟨_,rfl,(zI _ _).trans0 hm,hs⟩
 ·rw[show uB .inside n c=if c=46 then some (.word,n)else if c=95 then some (.second,n)else if c=45 then some (.dashes,n)else bF n c by simp[uB,if_neg h1]]
  by_cases h2:c=46
  ·subst h2
   go_enter func323,ntmps323;go_wp2;go_ret;rw[<-World.size_alloc w (.cells #[.int .i64 n] 388)];exact gV (zI _ _) _ _ _ rfl
  ·rw[if_neg h2]
   by_cases h3:c=95
   ·subst h3
    go_enter func323,ntmps323;go_wp2;go_ret;rw[<-World.size_alloc w (.cells #[.int .i64 n] 388)];exact gV (zI _ _) _ _ _ rfl
   ·rw[if_neg h3]
    by_cases h4:c=45
    ·subst h4
     go_enter func323,ntmps323;go_wp2;go_ret;rw[<-World.size_alloc w (.cells #[.int .i64 n] 388)];exact gV (zI _ _) _ _ _ rfl
    ·rw[if_neg h4]
     by_cases h5:c=47
     ·subst h5
      have hn1:¬0<n:=fun h=>h1 ⟨rfl,h⟩;go_enter func323,ntmps323;go_wp2_with (go_at_call 318;refine(rR n _ _).mono ?_;rintro _ w1 ⟨v,rfl,hm,hs⟩)
      go_ret;exact⟨_,rfl,(zI _ _).trans0 hm,hs⟩
     ·go_enter func323,ntmps323
      go_wp2_with (go_at_call 318;refine(rR n _ _).mono ?_;rintro _ w1 ⟨v,rfl,hm,hs⟩);go_ret;exact⟨_,rfl,(zI _ _).trans0 hm,hs⟩
end
section
open Go.RowKit Go.Shelf Go.Proofs.Tryz Go.Lib
section
variable{P:Program}{o:Oper}{a:Act}{w:iN}{K:Act->iN->Prop}{Q:Exit->Act->iN->Prop}
theorem pP(g:FuncId)(x:Operand)(xs:List Operand)(ts:Array TypeId)(first cap:iL)(ho:o.op=.call { callee:=.value x,args:=xs.toArray,argTypes:=ts })(hx:a.eval x=.func (.func g) first cap)
 (he:∀args w,(callFunc g args).run P w=.ok (.enter g args) w)
 (h:Calls P g (first++(xs.map a.eval).toArray++cap) w (fun e w'=>∃v,e=.returned v/\K (a.put o.dst v) w')):o.wp P a w K Q:=by
 unfold Oper.wp execOp;simp only[ho,resolve,hx,Deferred.ofValue,invoke,Sem.run_bind,Sem.run_pure,Result.andThen_ok,he,List.map_toArray];refine h.mono fun e w' he=>?_
 obtain⟨v,rfl,hk⟩:=he;exact hk
theorem wp_rangeS(t:TypeId)(x:Operand)(s:ByteArray)(ho:o.op=.range t x)(hx:a.eval x=.string s)(ht:P.underlying t=some .string)
 (h:∀w',w'.heap[w.heap.size]?=some (.stringIter s 0)->Mod qJ w w'->w.heap.size<w'.heap.size->K (a.put o.dst (iO w.heap.size)) w'):o.wp P a w K Q:=by
 unfold Oper.wp execOp
 have hr:(Instr.range t (.string s)).run P w=.ok (iO w.heap.size) (w.alloc (.stringIter s 0)):=by
  simp[Instr.range,run_underlying ht,newObj,Sem.run]
 simp only[ho,hx,Sem.run_bind,hr,Result.andThen_ok,Sem.run_pure];exact h _ (heap_alloc_new _ _) (zI _ _) (by simp)
theorem wp_nextS(x:Operand)(k:Nat)(s:ByteArray)(pos:Nat)(ho:o.op=.next x true)(hx:a.eval x=iO k)(hk:w.heap[k]?=some (.stringIter s pos))(hp:pos<s.size)
 (h:∀w',w'.heap[k]?=some (.stringIter s (pos+(Utf8.decode s pos).2))->Mod (fun j=>j=k) w w'->w.heap.size=w'.heap.size->K (a.put o.dst (.tuple #[.bool true,.int .i64 pos,.int .i32 (Utf8.decode s pos).1])) w'):o.wp P a w K Q:=by
 unfold Oper.wp execOp;simp only[ho,hx,Sem.run_bind,Lib.run_next_any_at w k s pos _ hk hp,Result.andThen_ok,Sem.run_pure]
 exact h _ (Lib.iterAt_heap _ _ _ _ _ hk) ⟨rfl,rfl,rfl,by simp[World.iterAt],fun j _ hj=>Lib.iterAt_other _ _ _ _ _ hj⟩ (by simp[World.iterAt])
theorem wp_nextS_end(x:Operand)(k:Nat)(s:ByteArray)(pos:Nat)(ho:o.op=.next x true)(hx:a.eval x=iO k)(hk:w.heap[k]?=some (.stringIter s pos))(hp:¬pos<s.size)
 (h:K (a.put o.dst (.tuple #[.bool false])) w):o.wp P a w K Q:=by
 unfold Oper.wp execOp;simp only[ho,hx,Sem.run_bind,Lib.run_next_end_at w k s pos _ hk hp,Result.andThen_ok,Sem.run_pure];exact h
end
theorem sD{S:iN->Prop}(x:Operand)(t:TypeId)(s:ByteArray)
 (hw:Region.wanted o (yielded ops a.tmps)=true)(ho:o.op=.call { callee:=.builtin .len,args:=#[x],argTypes:=#[t] })(hx:a.eval x=.string s)(ht:P.underlying t=some .string)
 (h:zF P ops Q S r (a.put o.dst (.int .i64 s.size)) w):zF P ops Q S ((o,3)::r) a w:=
 qM hw (fun w=>by unfold execOp;simp[ho,hx,resolve,invoke,builtin,Builtin.len_,run_underlying ht,goInt]) h
def pN(s:ByteArray):Nat->Nat->Kd->Int->Option (Kd×Int)
 |0,_,k,n=>some (k,n)
 |f+1,pos,k,n=>if pos<s.size then(match uB k n (Utf8.decode s pos).1 with|none=>none|some r=>pN s f (pos+(Utf8.decode s pos).2) r.1 r.2)else some (k,n)
def endsB:Option (Kd×Int)->Bool
 |none=>false
 |some r=>kdEnds r.1
def uP(s:ByteArray):Bool:=decide (s.size<=128)&&endsB (pN s s.size 0 .word 7)
theorem nameRun_end(s:ByteArray)(f pos:Nat)(k:Kd)(n:Int)(h:¬pos<s.size):pN s f pos k n=some (k,n):=by
 cases f<;>simp[pN,h]
theorem nameRun_step(s:ByteArray)(f pos:Nat)(k:Kd)(n:Int)(h:pos<s.size):
 pN s (f+1) pos k n=(match uB k n (Utf8.decode s pos).1 with|none=>none|some r=>pN s f (pos+(Utf8.decode s pos).2) r.1 r.2):=by simp only[pN,if_pos h]
theorem decode_pos(s:ByteArray)(i:Nat):1<=(Utf8.decode s i).2:=by
 unfold Utf8.decode
 simp only
 repeat (first|split|simp)
theorem stepS_left{k:Kd}{c:Int}{r:Kd×Int}(h:uB k n c=some r)(hn:0<=n/\n<=7):0<=r.2/\r.2<=7:=by
 have hw:∀{r},bF n c=some r->r.2=n:=fun h=>by
  unfold bF at h;split at h<;>simp at h;rw[<-h]
 have ho:r.2=n\/(0<n/\r.2=n-1):=by
  cases k<;>simp only[uB]at h
  ·exact .inl (hw h)
  ·split at h
   ·rename_i h1;have:=Option.some.inj h;rw[<-this];exact .inr ⟨h1.2,rfl⟩
   ·repeat (first|(split at h;(have:=Option.some.inj h;rw[<-this];exact .inl rfl))|exact .inl (hw h))
  ·split at h
   ·have:=Option.some.inj h;rw[<-this];exact .inl rfl
   ·exact .inl (hw h)
  ·split at h
   ·have:=Option.some.inj h;rw[<-this];exact .inl rfl
   ·exact .inl (hw h)
 omega
theorem step_any(k:Kd)(n c:Int)(w:iN)(hn:0<=n/\n<=7):Calls prog (kdF k) #[.agg #[.int .i64 n],.int .i32 c] w (StR w (uB k n c)):=by
 cases k
 ·exact rR n c w
 ·exact repoInside_any n c w hn
 ·exact repoSecond_any n c w
 ·exact repoDashes_any n c w
theorem kdF_enters(k:Kd)(args:iL)(w:iN):(callFunc (kdF k) args).run prog w=.ok (.enter (kdF k) args) w:=by
 cases k
 ·exact enters_of func318 (by kernel_rfl) rfl args w
 ·exact enters_of func323 (by kernel_rfl) rfl args w
 ·exact enters_of func324 (by kernel_rfl) rfl args w
 ·exact enters_of func325 (by kernel_rfl) rfl args w
def FaultR(ok:Bool)(w:iN):iJ:=fun e w'=>∃x at':Int,e=.returned (.agg #[.int .i64 x,.int .i64 at'])/\(if ok then x=0/\at'=0 else x≠0)/\Mod qJ w w'
def RunRel(s:ByteArray)(r:Option (Kd×Int))(rb it:Nat)(w0:iN)(v:Value)(w:iN):Prop:=
 ∃f pos k n,StAt w v k n/\(0<=n/\n<=7)/\w.heap[it]?=some (.stringIter s pos)/\r=pN s f pos k n/\s.size<=pos+f/\Mod qJ w0 w/\w.heap[rb]?=some (.cells #[.int .i64 0,.int .i64 0] 255 (0,0))
def leftOf(it:Nat)(w:iN):Nat:=match w.heap[it]? with|some (.stringIter s pos)=>s.size-pos|_=>0
theorem fR{it:Nat}{s:ByteArray}{pos:Nat}(h:w.heap[it]?=some (.stringIter s pos)):leftOf it w=s.size-pos:=by simp[leftOf,h]
theorem nameRun_any(s:ByteArray)(v:Value)(k0:Kd)(n0:Int)(w:iN)(hs:s.size<=128)(h0:StAt w v k0 n0)(hn:0<=n0/\n0<=7):
 Calls prog 301 #[.string s,v,.int .i64 7] w (FaultR (endsB (pN s s.size 0 k0 n0)) w):=by
 obtain⟨b0,rfl,hb0⟩:=h0;obtain⟨r,hr⟩:∃r,pN s s.size 0 k0 n0=r:=⟨_,rfl⟩;rw[hr];have HR0:=O hr;clear hr;go_enter func301,ntmps301
 go_upto_region 0 with(fail);refine qL [1] ?_;simp only[qB];refine qK (jX 255 (.agg #[.int .i64 0,.int .i64 0]) (by rfl) (by kernel_rfl) (fun w1 hB1 hm1 hs1=>?_))
 replace hB1:w1.heap[w.heap.size]?=some (.cells #[.int .i64 0,.int .i64 0] 255 (0,0)):=hB1;simp only[qB];go_upto_region 1 with(fail);refine qL [3,1] ?_;simp only[qB]
 refine qK (wp_rangeS 9 _ s (by rfl) (by rfl) underlying9 (fun w2 hB2 hm2 hs2=>?_));replace hB1:=hm2.obj id hB1;simp only[qB]
 have hst:RunRel s r w.heap.size w1.heap.size w (iO b0) w2:=
  ⟨s.size,0,k0,n0,⟨b0,rfl,hm2.obj id (hm1.obj id hb0)⟩,hn,hB2,HR0.out.symm,by omega,hm1.trans0 hm2,hB1⟩
 have hne:w.heap.size<w1.heap.size:=hs1;clear hB1 hB2 hm1 hm2 hs2 hb0 hn HR0;go_wp2
 go_loopw [1] (RunRel s r w.heap.size w1.heap.size w) (fun _ wx=>leftOf w1.heap.size wx)
 case atStart=>exact hst
 case round=>
  rename_i wr
  obtain⟨f,pos,k,n,⟨b,rfl,hb⟩,hn,hit,hr,hf,hM,hrb⟩:=hrel;have hbit:b≠w1.heap.size:=by rintro rfl;rw[hit]at hb;cases hb
  by_cases hp:pos<s.size
  ·obtain⟨f,rfl⟩:∃f',f=f'+1:=⟨f-1,by omega⟩
   go_upto_region 2 with(fail);refine qL [1,3] ?_;simp only[qB];refine qK (wp_nextS _ w1.heap.size s pos (by rfl) (by rfl) hit hp (fun w3 hit3 hm3 hs3=>?_))
   try simp only[qC]
   refine qZ (fun _=>by go_simp;try with_reducible rfl) ?_;simp only[qB];replace hb:=hm3.obj hbit hb;replace hrb:=hm3.obj (b:=w.heap.size) (by omega) hrb
   have hM3:Mod qJ w w3:=hM.transB hm3 (by omega)
   have hc:w3.cell? ⟨b,0,none⟩=some (.func (.func (kdF k)) #[.agg #[.int .i64 n]] #[]):=by simp[World.cell?,hb,stCells]
   have hpos:=decode_pos s pos;have hgo:s.size-(pos+(Utf8.decode s pos).2)<leftOf w1.heap.size wr:=by rw[fR hit];omega
   generalize hcc:(Utf8.decode s pos).1=c at*;generalize hww:(Utf8.decode s pos).2=wd at*;have hstep:=nameRun_step s f pos k n hp;rw[hcc,hww]at hstep
   have HR:Hid (r=_):=O (hr.trans hstep);have HG:=O hgo;have HS:=O hs3;clear hr hstep hcc hww hgo hs3 hit;go_upto_region 4 with(fail)
   refine qL [3,3,3,1,3,1,3] ?_;simp only[qB];refine qG 402 hc ?_;simp only[qB]
   refine qK (pP (kdF k) _ _ _ #[.agg #[.int .i64 n]] #[] (by rfl) (by rfl) (kdF_enters k) ?_);refine(step_any k n c _ hn).mono ?_;rintro _ w4 ⟨v,rfl,hm4,hok⟩
   refine⟨v,rfl,?_⟩;simp only[qB];replace hrb:=hm4.obj id hrb;replace hit3:=hm4.obj id hit3;have hM4:=hM3.trans0 hm4
   cases hq:uB k n c with
   |none=>
    rw[hq]at HR hok;obtain rfl:v=.pointer none:=hok;go_upto_region 6 with(fail);refine qL [3,3,3,1] ?_;simp only[qB]
    refine qZ (fun _=>by go_simp;try with_reducible rfl) ?_;simp only[qC]
    refine qK (xU 255 0 #[.int .i64 7,.int .i64 pos] (by simp[Value.oneCell']) 2 rfl hrb (fun w5 hrb5 hm5=>?_) (hoff:=by simp));simp only[qB];go_wp2
    refine bodyPost_ret (results_cell_row rfl _ _ w.heap.size _ _ _ _ (by rfl) hrb5 underlying255 rfl (by kernel_rfl)) rfl ?_;rw[HR.out]
    exact⟨7,pos,rfl,by simp[endsB],hM4.transB hm5 (Nat.le_refl _)⟩
   |some q=>
    rw[hq]at HR hok;have hq2:=stepS_left hq hn;obtain⟨b4,rfl,hb4⟩:=hok;go_wp2
    go_roundw
    case rel=>exact⟨f,pos+wd,q.1,q.2,⟨b4,rfl,hb4⟩,hq2,hit3,HR.out,by omega,hM4,hrb⟩
    case measure=>rw[fR hit3];exact HG.out
  ·have hend:=nameRun_end s f pos k n hp
   have HR:=O (hr.trans hend);clear hr hend hf;go_upto_region 2 with(fail);refine qL [1,3] ?_;simp only[qB]
   refine qK (wp_nextS_end _ w1.heap.size s pos (by rfl) (by rfl) hit hp ?_);try simp only[qC]
   refine qZ (fun _=>by go_simp;try with_reducible rfl) ?_;simp only[qB];go_upto_region 7 with(fail)
   have hc:wr.cell? ⟨b,1,none⟩=some (.bool (kdEnds k)):=by simp[World.cell?,hb,stCells]
   refine qL [3,3,3,1,3] ?_;simp only[qB];refine qG 4 hc ?_;try simp only[qB]
   try refine xC _ _ _ rfl rfl rfl ?_
   try simp only[qB]
   obtain⟨t,ht⟩:∃t,kdEnds k=t:=⟨_,rfl⟩;have HT:Hid (endsB r=t):=O (by rw[HR.out];exact ht);rw[ht];clear ht HR hc
   cases t
   ·go_upto_region 8 with(fail)
    refine qL [3,3,3,3,1] ?_;simp only[qB];refine sD _ _ s rfl rfl rfl underlying9 ?_;simp only[qC];refine qZ (fun _=>by go_simp;try with_reducible rfl) ?_
    simp only[qC];refine qK (xU 255 0 #[.int .i64 7,.int .i64 s.size] (by simp[Value.oneCell']) 2 rfl hrb (fun w5 hrb5 hm5=>?_) (hoff:=by simp));simp only[qB]
    go_wp2;refine bodyPost_ret (results_cell_row rfl _ _ w.heap.size _ _ _ _ (by rfl) hrb5 underlying255 rfl (by kernel_rfl)) rfl ?_;rw[HT.out]
    exact⟨7,s.size,rfl,by simp,hM.transB hm5 (Nat.le_refl _)⟩
   ·go_upto_region 9 with(fail)
    refine qL [3,1] ?_;simp only[qB];refine qZ (fun _=>by go_simp;try with_reducible rfl) ?_;simp only[qC]
    refine qK (xU 255 0 #[.int .i64 0,.int .i64 0] (by simp[Value.oneCell']) 2 rfl hrb (fun w5 hrb5 hm5=>?_) (hoff:=by simp));simp only[qB];go_wp2
    refine bodyPost_ret (results_cell_row rfl _ _ w.heap.size _ _ _ _ (by rfl) hrb5 underlying255 rfl (by kernel_rfl)) rfl ?_;rw[HT.out]
    exact⟨0,0,rfl,by simp,hM.transB hm5 (Nat.le_refl _)⟩
theorem cM{a t:Nat}(h:fn.results=#[.cell a ty,.tmp t])(tmps:iL)(w:iN)(b:Nat)(cs:iL)(T:TypeId)(fr:Nat×Nat)
 (ha:tmps.getD a undef=iO b)(hb:w.heap[b]?=some (.cells cs T fr))(hu:P.underlying ty=some d)(hd:(match d with| .struct _| .array _ _=>true|_=>false)=true)(hi:(P.info? ty).map (·.size)=some cs.size):
 (results fn tmps).run P w=.ok (.tuple #[.agg cs,tmps.getD t undef]) w:=by
 have ha':tmps[a]?.getD undef=iO b:=by simpa using ha
 have h1:=run_loadVar_row (P:=P) w b T ty cs fr _ hb hu hd hi
 simp[results,h,ha',asAddr,h1]
def LongR(s:ByteArray)(n:Int)(w:iN):iJ:=fun e w'=>∃x at':Int,e=.returned (.tuple #[.agg #[.int .i64 x,.int .i64 at'],.bool (decide (n<s.size))])/\(n<s.size->x≠0)/\Mod qJ w w'
theorem nameLong_any(s:ByteArray)(n:Int)(w:iN)(hs:s.size<=maxLen):Calls prog 300 #[.string s,.int .i64 n] w (LongR s n w):=by
 unfold maxLen at hs;obtain⟨t,ht⟩:∃t,decide (n<s.size)=t:=⟨_,rfl⟩;have HT:=O ht;go_enter func300,ntmps300;go_upto_region 0 with(fail);refine qL [1,3] ?_
 simp only[qB];refine qK (jX 255 (.agg #[.int .i64 0,.int .i64 0]) (by rfl) (by kernel_rfl) (fun w1 hB1 hm1 hs1=>?_))
 replace hB1:w1.heap[w.heap.size]?=some (.cells #[.int .i64 0,.int .i64 0] 255 (0,0)):=hB1;simp only[qB]
 cases t
 ·have h:¬n<s.size:=of_decide_eq_false ht
  clear ht;go_upto_region 3 with(fail);refine qL [3,1,3] ?_;simp only[qB];refine qZ (fun _=>by go_simp;try with_reducible rfl) ?_;simp only[qC]
  refine qK (xU 255 0 #[.int .i64 0,.int .i64 0] (by simp[Value.oneCell']) 2 rfl hB1 (fun w5 hB5 hm5=>?_) (hoff:=by simp));simp only[qB];go_wp2
  refine bodyPost_ret (cM rfl _ _ w.heap.size _ _ _ (by rfl) hB5 underlying255 rfl (by kernel_rfl)) rfl ?_
  exact⟨0,0,by rw[HT.out];rfl,fun h'=>by omega,hm1.transB hm5 (Nat.le_refl _)⟩
 ·have h:n<s.size:=of_decide_eq_true ht
  clear ht;go_upto_region 2 with(fail);refine qL [3,3,1,3] ?_;simp only[qB];refine qZ (fun _=>by go_simp;try with_reducible rfl) ?_;simp only[qC]
  refine qK (xU 255 0 #[.int .i64 4,.int .i64 n] (by simp[Value.oneCell']) 2 rfl hB1 (fun w5 hB5 hm5=>?_) (hoff:=by simp));simp only[qB];go_wp2
  refine bodyPost_ret (cM rfl _ _ w.heap.size _ _ _ (by rfl) hB5 underlying255 rfl (by kernel_rfl)) rfl ?_
  exact⟨4,n,by rw[HT.out];rfl,fun _=>by decide,hm1.transB hm5 (Nat.le_refl _)⟩
theorem nameRepo_any(s:ByteArray)(w:iN)(hs:s.size<=maxLen):Calls prog 258 #[.string s] w (FaultR (uP s) w):=by
 obtain⟨t,ht⟩:∃t,uP s=t:=⟨_,rfl⟩;rw[ht];have HT:=O ht;clear ht;go_enter func258,ntmps258;go_upto_region 0 with(fail);refine qL [1] ?_;simp only[qB]
 refine qK (jX 255 (.agg #[.int .i64 0,.int .i64 0]) (by rfl) (by kernel_rfl) (fun w1 hB1 hm1 hs1=>?_))
 replace hB1:w1.heap[w.heap.size]?=some (.cells #[.int .i64 0,.int .i64 0] 255 (0,0)):=hB1;simp only[qB];go_upto_region 1 with(fail)
 refine qL [3,1,3,3,3,1,1,3] ?_;simp only[qB];refine kS rfl ?_;go_wp2_with (go_at_call 300;refine(nameLong_any s 128 _ hs).mono ?_;rintro _ w2 ⟨x,at',rfl,hx,hm2⟩)
 replace hB1:=hm2.obj id hB1;have hM2:=hm1.trans0 hm2;simp only[qB];refine qZ (fun _=>by go_simp;try with_reducible rfl) ?_;simp only[qC]
 refine qZ (fun _=>by go_simp;try with_reducible rfl) ?_;simp only[qC]
 refine qK (jX 255 (.agg #[.int .i64 0,.int .i64 0]) (by rfl) (by kernel_rfl) (fun w3 hB3 hm3 hs3=>?_))
 replace hB3:w3.heap[w2.heap.size]?=some (.cells #[.int .i64 0,.int .i64 0] 255 (0,0)):=hB3;replace hB1:=hm3.obj id hB1;have hM3:=hM2.trans0 hm3;try simp only[qC]
 refine qK (xU 255 0 #[.int .i64 x,.int .i64 at'] (by simp[Value.oneCell']) 2 rfl hB3 (fun w4 hB4 hm4=>?_) (hoff:=by simp))
 have hlt:w.heap.size<w2.heap.size:=Nat.lt_of_lt_of_le hs1 hm2.size;replace hB1:=hm4.obj (b:=w.heap.size) (by omega) hB1;have hM4:=hM3.transB hm4 (by omega)
 simp only[qB]
 by_cases h:(128:Int)<s.size
 ·have hd:decide ((128:Int)<s.size)=true:=decide_eq_true h
  have hf:uP s=false:=by unfold uP;rw[decide_eq_false (by omega)];rfl
  have HF:Hid (t=false):=O (by rw[<-HT.out];exact hf);rw[hd];clear hd hf HT;go_upto_region 3 with(fail)
  have hca:CellsAt w4 w2.heap.size 0 #[.int .i64 x,.int .i64 at']:=CellsAt.whole hB4;refine qL [1,1] ?_;simp only[qB];refine qY 255 hca 2 rfl ?_;try simp only[qC]
  refine qK (xU 255 0 #[.int .i64 x,.int .i64 at'] (by simp[Value.oneCell']) 2 rfl hB1 (fun w5 hB5 hm5=>?_) (hoff:=by simp));simp only[qB];go_wp2
  refine bodyPost_ret (results_cell_row rfl _ _ w.heap.size _ _ _ _ (by rfl) hB5 underlying255 rfl (by kernel_rfl)) rfl ?_;rw[HF.out]
  exact⟨x,at',rfl,by simpa using hx h,hM4.transB hm5 (Nat.le_refl _)⟩
 ·have hd:decide ((128:Int)<s.size)=false:=decide_eq_false h
  have hlen:s.size<=128:=by omega
  have hf:uP s=endsB (pN s s.size 0 .word 7):=by unfold uP;rw[decide_eq_true hlen];rfl
  have HF:=O (HT.out.symm.trans hf);rw[hd];clear hd hf HT;go_upto_region 4 with(fail);refine qL [3,3,1,1,1] ?_;simp only[qB]
  refine qZ (fun _=>by go_simp;try with_reducible rfl) ?_;simp only[qC];refine kS rfl ?_
  go_wp2_with (go_at_call 302;refine(repoPart_any 7 _).mono ?_;rintro _ w5 ⟨v,rfl,hm5,hv⟩);replace hB1:=hm5.obj id hB1;have hM5:=hM4.trans0 hm5;try simp only[qC]
  refine kS rfl ?_;go_wp2_with (go_at_call 301;refine(nameRun_any s v .word 7 _ hlen hv (by omega)).mono ?_;rintro _ w6 ⟨x6,at6,rfl,hx6,hm6⟩);rw[<-HF.out]at hx6
  replace hB1:=hm6.obj id hB1;have hM6:=hM5.trans0 hm6;try simp only[qC]
  refine qK (xU 255 0 #[.int .i64 x6,.int .i64 at6] (by simp[Value.oneCell']) 2 rfl hB1 (fun w7 hB7 hm7=>?_) (hoff:=by simp));simp only[qB];go_wp2
  refine bodyPost_ret (results_cell_row rfl _ _ w.heap.size _ _ _ _ (by rfl) hB7 underlying255 rfl (by kernel_rfl)) rfl ?_;exact⟨x6,at6,rfl,hx6,hM6.transB hm7 (Nat.le_refl _)⟩
theorem named_any(s:ByteArray)(w:iN)(hs:s.size<=maxLen):Calls prog 228 #[.string s] w (vO (.bool (uP s)) w):=by
 obtain⟨t,ht⟩:∃t,uP s=t:=⟨_,rfl⟩;rw[ht];have HT:=O ht;clear ht;go_enter func228,ntmps228
 go_wp2_with (go_at_call 258;refine(nameRepo_any s _ hs).mono ?_;rintro _ w1 ⟨x,at',rfl,hx,hm⟩;rw[HT.out]at hx)
 all_goals
  go_ret;refine⟨kZ ?_,hm⟩
  cases t<;>simp_all
end
section
open Go.RowKit Go.Proofs.Tryz Go.Lib
abbrev uN:=ByteArray×iK
def pQ(p:uN):iL:=#[.string p.1]++qA p.2
def fY(p:uN):Value:=.agg (pQ p)
def kH(p:uN):Prop:=p.2.length=32
theorem isAggID(w:iN):(isAgg 24).run prog w=.ok true w:=by
 unfold isAgg;rw[Sem.run_bind,run_underlying underlying24 w];rfl
theorem isAggU8(w:iN):(isAgg 5).run prog w=.ok false w:=by
 unfold isAgg;rw[Sem.run_bind,run_underlying underlying5 w];rfl
theorem isAggString(w:iN):(isAgg 9).run prog w=.ok false w:=by
 unfold isAgg;rw[Sem.run_bind,run_underlying underlying9 w];rfl
theorem sizeOf_of{t n:Nat}(h:(prog.info? t).map (·.size)=some n)(w:iN):(sizeOf t).run prog w=.ok n w:=by
 cases hq:prog.info? t with
 |none=>simp[hq]at h
 |some i=>simp[hq]at h;simp[sizeOf,typeInfo,hq,h]
theorem sizeID(w:iN):(sizeOf 24).run prog w=.ok 32 w:=sizeOf_of (by kernel_rfl) w
theorem sizeU8(w:iN):(sizeOf 5).run prog w=.ok 1 w:=sizeOf_of (by kernel_rfl) w
theorem part_repo(p:uN)(w:iN):(part 9 (pQ p) 0).run prog w=.ok (.string p.1) w:=by
 unfold part;rw[Sem.run_bind,isAggString w]
 have e:(pQ p)[0]?=some (.string p.1):=by
  rw[<-Array.getElem?_toList];simp[pQ]
 simp[e]
theorem part_id{p:uN}(h:kH p)(w:iN):(part 24 (pQ p) 1).run prog w=.ok (.agg (qA p.2)) w:=by
 have hx:(pQ p).extract 1 (1+32)=qA p.2:=by
  have h':p.2.length=32:=h
  apply Array.toList_inj.1
  simp[pQ,qA,h',List.take_of_length_le]
 unfold part;rw[Sem.run_bind,isAggID w]
 simp[sizeID,hx]
theorem part_byte(x:iK)(i:Nat)(h:i<x.length)(w:iN):(part 5 (qA x) i).run prog w=.ok (qW x[i]) w:=by
 unfold part;rw[Sem.run_bind,isAggU8 w]
 simp[qA,h]
theorem eA(e:Bool)(n:Nat)(x:iK)(hx:x.length=32)(w:iN):(Instr.checkKey e (n+2) 24 (.agg (qA x))).run prog w=.ok () w:=by
 have hk:∀(y:UInt8),(Instr.checkKey e (n+1) 5 (qW y)).run prog w=.ok () w:=fun y=>by
  rw[Instr.checkKey]
  simp[qW,run_underlying underlying5]
 have key:∀(is:List Nat),(∀i∈is,i<32)->(forIn (m:=Sem) is PUnit.unit (fun i _=>do
  Instr.checkKey e (n+1) 5 (<-part 5 (qA x) (i*(<-sizeOf 5)))
  pure (ForInStep.yield PUnit.unit))).run prog w=.ok PUnit.unit w:=by
  intro is
  induction is with
  |nil=>intro _;simp
  |cons i is ih=>
   intro hi;have h1:i<x.length:=by rw[hx];exact hi i (by simp)
   simp only[List.forIn_cons,Sem.run_bind,sizeU8,Result.andThen_ok,Nat.mul_one,part_byte x i h1,hk,Sem.run_pure];exact ih (fun j hj=>hi j (by simp[hj]))
 rw[Instr.checkKey];simp only[Sem.run_bind,run_underlying underlying24,Result.andThen_ok,Std.Legacy.Range.forIn_eq_forIn_range',Std.Legacy.Range.size]
 generalize hl:List.range' 0 ((32-0+1-1)/1)=is;have hi:∀i∈is,i<32:=by intro i hi;subst hl;simp at hi;omega
 have:=key is hi;clear hl;rw[this];rfl
theorem eY:KeyT prog 241 fY kH:=by
 have hu:=underlying241;refine⟨fun e x w hx=>?_,fun x y w hx hy=>?_,⟨_,hu,.inl fun x y=>rfl⟩,fun x _=>?_⟩
 ·rw[show(10000:Nat)=9997+2+1 from rfl,Instr.checkKey]
  have hs:∀s:ByteArray,(Instr.checkKey e (9997+2) 9 (.string s)).run prog w=.ok () w:=fun s=>by
   rw[show(9997+2:Nat)=9998+1 from rfl,Instr.checkKey]
   simp[run_underlying underlying9]
  simp only[fY,Sem.run_bind,run_underlying hu,Result.andThen_ok]
  simp[part_repo,part_id hx,hs,eA e 9997 x.2 hx w]
 ·have hp:prog.stoodInHeld 241=false:=by kernel_rfl
  have hS:prog.underlying 241=some (.struct (prog.fieldsOf 241)):=by kernel_rfl
  unfold Op.equal Op.maxDepth fY;rw[show(10000:Nat)=9999+1 from rfl,run_equalIn_struct w 9999 241 _ _ hS hp];simp only[Program.fieldsOf,hu]
  have he:=run_equalIn_bytes w 9997 24 5 32 underlying24 underlying5 (fun w=>sizeU8 w) x.2 y.2 hx hy
  have he':(Op.equalIn 9999 24 (.agg (qA x.2)) (.agg (qA y.2))).run prog w=.ok (x.2==y.2) w:=he
  simp[Op.eqFields,part_repo,part_id hx,part_id hy,run_equalIn_string w 9998 9 _ _ underlying9,he']
  have hb:x.1.toList=y.1.toList↔x.1=y.1:=by
   rw[<-beq_iff_eq,<-beq_toListBytes,dF,decide_eq_true_iff]
  have hd:decide (x=y)=(decide (x.1=y.1)&&decide (x.2=y.2)):=by
   rw[Bool.eq_iff_iff];simp[Prod.ext_iff]
  rw[hd]
  by_cases h1:x.1=y.1<;>by_cases h2:x.2=y.2<;>simp[hb,h1,h2]
 ·simp only[Instr.sameBits,fY,Bool.and_eq_true,beq_self_eq_true,true_and,List.all_eq_true]
  intro q hq;obtain⟨a,b⟩:=q
  have hab:∀(l:List Value)(p:Value×Value),p∈l.zip l->p.1=p.2/\p.1∈l:=by
   intro l
   induction l with
   |nil=>intro p hp;simp at hp
   |cons v l ih=>
    intro p hp;rw[List.zip_cons_cons,List.mem_cons]at hp
    rcases hp with rfl|hp
    ·simp
    ·exact⟨(ih p hp).1,List.mem_cons_of_mem _ (ih p hp).2⟩
  obtain⟨h1,h2⟩:=hab _ _ hq;have h1':a=b:=h1;subst h1';simp only[pQ,Array.toList_append,List.mem_append,qA]at h2
  rcases h2 with h2|h2
  ·simp at h2;subst h2;simp[Instr.sameBits,dF]
  ·simp at h2;obtain⟨c,_,rfl⟩:=h2;simp[Instr.sameBits,qW]
end
section
open Go.RowKit Go.Shelf Go.Proofs.Tryz Go.Lib
theorem getL_map{α β γ:Type}[DecidableEq α](f:β->γ)(k:α)(l:List (α×β)):qR k (l.map fun p=>(p.1,f p.2))=(qR k l).map f:=by
 induction l with
 |nil=>rfl
 |cons p l ih=>simp only[List.map_cons,qR];split<;>simp_all
theorem putL_map{α β γ:Type}[DecidableEq α](f:β->γ)(k:α)(v:β)(l:List (α×β)):kD k (f v) (l.map fun p=>(p.1,f p.2))=(kD k v l).map fun p=>(p.1,f p.2):=by
 induction l with
 |nil=>rfl
 |cons p l ih=>simp only[List.map_cons,kD];split<;>simp_all
theorem delL_map{α β γ:Type}[DecidableEq α](f:β->γ)(k:α)(l:List (α×β)):jE k (l.map fun p=>(p.1,f p.2))=(jE k l).map fun p=>(p.1,f p.2):=by
 induction l with
 |nil=>rfl
 |cons p l ih=>simp only[List.map_cons,jE];split<;>simp_all
def kE(n:Int):Value:=.agg #[.int .i64 n]
def tD(b:Nat):Value:=iO b
abbrev qU:=List (uN×Int)
def xK:qU->ByteArray->Int
 | [],_=>0
 |p::l,r=>(if p.1.1=r then p.2 else 0)+xK l r
def xL:qU->ByteArray->Nat
 | [],_=>0
 |p::l,r=>(if p.1.1=r then 1 else 0)+xL l r
theorem useOf_append(l m:qU)(r:ByteArray):xK (l++m) r=xK l r+xK m r:=by
 induction l with
 |nil=>simp[xK]
 |cons p l ih=>simp only[List.cons_append,xK,ih];omega
theorem cntOf_append(l m:qU)(r:ByteArray):xL (l++m) r=xL l r+xL m r:=by
 induction l with
 |nil=>simp[xL]
 |cons p l ih=>simp only[List.cons_append,xL,ih];omega
theorem cntOf_le(l:qU)(r:ByteArray):xL l r<=l.length:=by
 induction l with
 |nil=>simp[xL]
 |cons p l ih=>simp only[xL,List.length_cons];split<;>omega
theorem useOf_le(l:qU)(r:ByteArray)(h:∀p∈l,0<=p.2/\p.2<=4096):0<=xK l r/\xK l r<=4096*l.length:=by
 induction l with
 |nil=>simp[xK]
 |cons p l ih=>
  have h1:=h p (by simp);have h2:=ih fun q hq=>h q (by simp[hq]);simp only[xK,List.length_cons];split<;>omega
theorem cntOf_pos{l:qU}{r:ByteArray}(h:0<xL l r):∃p∈l,p.1.1=r:=by
 induction l with
 |nil=>simp[xL]at h
 |cons p l ih=>
  simp only[xL]at h
  by_cases hp:p.1.1=r
  ·exact⟨p,by simp,hp⟩
  ·rw[if_neg hp,Nat.zero_add]at h
   obtain⟨q,hq,e⟩:=ih h;exact⟨q,by simp[hq],e⟩
theorem dV{l:qU}{p:uN×Int}(h:p∈l):0<xL l p.1.1:=by
 induction l with
 |nil=>cases h
 |cons q l ih=>
  simp only[xL]
  rcases List.mem_cons.1 h with rfl|h
  ·simp;omega
  ·have:=ih h;omega
structure LkInv(w:iN)(bl ml mu:Nat)(limit:Int)(hold:Value)(l:qU)(us:List (ByteArray×Nat)):Prop where
 box:w.heap[bl]?=some (.cells #[.int .i64 limit,.map (some ml),.map (some mu),hold] 101 (0,0))
 one:hold.oneCell'=true
 lm:MapIs fY kH w ml (l.map fun p=>(p.1,kE p.2))
 um:MapIs Value.string (fun _=>True) w mu (us.map fun p=>(p.1,tD p.2))
 ub:∀p∈us,w.heap[p.2]?=some (.cells #[.int .i64 (xK l p.1),.int .i64 (xL l p.1)] 237 (0,0))
 uk:∀r,r∈us.map (·.1)↔0<xL l r
 ud:(us.map (·.2)).Nodup
 sz:∀p∈l,0<=p.2/\p.2<=4096
 nm:∀p∈l,uP p.1.1=true
 few:l.length<=65536
 ne:ml≠mu
 lim:0<=limit/\limit<=1099511627776
def cE(bl ml mu:Nat)(us:List (ByteArray×Nat))(k:Nat):Prop:=k=bl\/k=ml\/k=mu\/∃p∈us,k=p.2
section
variable{w:iN}{bl ml mu:Nat}{limit:Int}{hold:Value}{l:qU}{us:List (ByteArray×Nat)}
theorem LkInv.keep{S:iM}{w':iN}(h:LkInv w bl ml mu limit hold l us)(hm:Mod S w w')(hS:∀k,cE bl ml mu us k->¬S k):LkInv w' bl ml mu limit hold l us:=
 ⟨hm.obj (hS _ (.inl rfl)) h.box,h.one,h.lm.keep hm (hS _ (.inr (.inl rfl))),h.um.keep hm (hS _ (.inr (.inr (.inl rfl)))),
  fun p hp=>hm.obj (hS _ (.inr (.inr (.inr ⟨p,hp,rfl⟩)))) (h.ub p hp),h.uk,h.ud,h.sz,h.nm,h.few,h.ne,h.lim⟩
theorem LkInv.keep0(h:LkInv w bl ml mu limit hold l us)(hm:Mod qJ w w'):LkInv w' bl ml mu limit hold l us:=h.keep hm (fun _ _=>id)
theorem LkInv.cell(h:LkInv w bl ml mu limit hold l us):w.cell? ⟨bl,0,none⟩=some (.int .i64 limit)/\w.cell? ⟨bl,1,none⟩=some (.map (some ml))/\w.cell? ⟨bl,2,none⟩=some (.map (some mu))/\w.cell? ⟨bl,3,none⟩=some hold:=by
 simp[World.cell?,h.box]
theorem LkInv.lt(h:LkInv w bl ml mu limit hold l us):∀k,cE bl ml mu us k->k<w.heap.size:=by
 intro k hk
 rcases hk with rfl|rfl|rfl|⟨p,hp,rfl⟩
 ·exact(Array.getElem?_eq_some_iff.1 h.box).1
 ·exact h.lm.lt
 ·exact h.um.lt
 ·exact(Array.getElem?_eq_some_iff.1 (h.ub p hp)).1
theorem LkInv.nes(h:LkInv w bl ml mu limit hold l us):bl≠ml/\bl≠mu/\∀p∈us,p.2≠bl/\p.2≠ml/\p.2≠mu:=by
 obtain⟨es,clk,h1,_⟩:=h.lm.obj;obtain⟨es',clk',h2,_⟩:=h.um.obj;have hb:=h.box;refine⟨fun e=>?_,fun e=>?_,fun p hp=>⟨fun e=>?_,fun e=>?_,fun e=>?_⟩⟩
 ·rw[e,h1]at hb;cases hb
 ·rw[e,h2]at hb;cases hb
 ·have h3:=h.ub p hp;rw[e,hb]at h3
  have h3:=(Obj.cells.inj (Option.some.inj h3)).1;have:=congrArg Array.size h3;simp at this
 ·have h3:=h.ub p hp;rw[e,h1]at h3;cases h3
 ·have h3:=h.ub p hp;rw[e,h2]at h3;cases h3
theorem LkInv.nd(h:LkInv w bl ml mu limit hold l us):(l.map (·.1)).Nodup:=by
 have:=h.lm.nd
 simpa[List.map_map,Function.comp_def]using this
theorem LkInv.und(h:LkInv w bl ml mu limit hold l us):(us.map (·.1)).Nodup:=by
 have:=h.um.nd
 simpa[List.map_map,Function.comp_def]using this
theorem LkInv.keyOk(h:LkInv w bl ml mu limit hold l us):∀p∈l,kH p.1:=fun p hp=>h.lm.ok (p.1,kE p.2) (List.mem_map.2 ⟨p,hp,rfl⟩)
theorem LkInv.useNone(h:LkInv w bl ml mu limit hold l us)(r:ByteArray):qR r us=none↔xL l r=0:=by
 rw[getL_none,h.uk];omega
theorem useOf_none{l:qU}{r:ByteArray}(h:xL l r=0):xK l r=0:=by
 induction l with
 |nil=>rfl
 |cons p l ih=>
  simp only[xL]at h;have h1:¬p.1.1=r:=fun e=>by rw[if_pos e]at h;omega
  have h2:xL l r=0:=by omega
  simp[xK,h1,ih h2]
def NewR(n:Int)(w:iN)(e:Ending)(w':iN):Prop:=
 (0<=n/\n<=1099511627776/\∃bl ml mu,e=.returned (.tuple #[iO bl,.int .i64 0])/\LkInv w' bl ml mu n .nilFunc [] []/\Mod qJ w w'/\∀k,cE bl ml mu [] k->gD w w' k)\/
 (¬(0<=n/\n<=1099511627776)/\e=.returned (.tuple #[.pointer none,.int .i64 3])/\w'=w)
theorem new_any(n:Int)(w:iN):Calls prog 109 #[.int .i64 n] w (NewR n w):=by
 have hmm:= @run_makeMap prog;go_enter func109,ntmps109
 by_cases hn:0<=n/\n<=1099511627776
 ·obtain⟨h1,h2⟩:=hn
  go_upto_region 3 with(fail);refine qL [3,1,1,1,1,3,3] ?_;simp only[qB];refine qH rfl (fun K hK=>?_);unfold Oper.wp execOp
  simp only[Array.map_empty,Option.map_none,Sem.run_bind,hmm,Result.andThen_ok,Sem.run_pure];have hB:=heap_alloc_new w (.map #[] 0);have hM:=zI w (.map #[] 0)
  have hs:w.heap.size<(w.alloc (.map #[] 0)).heap.size:=by simp
  generalize w.alloc (.map #[] 0)=w1 at hB hM hs |-;refine hK _ _ trivial ?_;clear hK K;try simp only[qC]
  refine qH rfl (fun K hK=>?_);unfold Oper.wp execOp;simp only[Array.map_empty,Option.map_none,Sem.run_bind,hmm,Result.andThen_ok,Sem.run_pure]
  have hB1:=heap_alloc_new w1 (.map #[] 0);have hM1:=zI w1 (.map #[] 0);have hs1:w1.heap.size<(w1.alloc (.map #[] 0)).heap.size:=by simp
  generalize w1.alloc (.map #[] 0)=w2 at hB1 hM1 hs1 |-;refine hK _ _ trivial ?_;clear hK K;try simp only[qC]
  refine kS rfl ?_;go_wp2;try simp only[qC]
  refine qK (zT 101 (fun w3 hB2 hm2 hs2=>?_));simp only[qB];go_wp2;go_ret2;have hB1':=hm2.obj id hB1;have hB':=hm2.obj id (hM1.obj id hB)
  refine .inl ⟨h1,h2,_,_,_,rfl,⟨hB2,rfl,MapIs.made hB',MapIs.made hB1',by simp,fun r=>by simp[xL],by simp,by simp,by simp,by simp,by omega,⟨h1,h2⟩⟩,(hM.trans0 hM1).trans0 hm2,fun k hk=>?_⟩
  rcases hk with rfl|rfl|rfl|⟨p,hp,_⟩
  ·exact⟨by omega,by omega⟩
  ·exact⟨by omega,by omega⟩
  ·exact⟨by omega,by omega⟩
  ·simp at hp
 ·go_wp2
  all_goals
   go_ret2;exact .inr ⟨hn,rfl,rfl⟩
theorem none_at(b:Nat)(m:Option Nat)(w:iN)(hc:w.cell? ⟨b,1,none⟩=some (.map m)):Calls prog 141 #[iO b] w (pT (.bool m.isNone) w):=by
 have he:=fun(w:iN)=>run_eql_map_nil (P:=prog) w 97 241 246 m underlying97
 cases m
 all_goals
  go_enter func141,ntmps141;go_wp2;go_ret;exact⟨rfl,rfl⟩
theorem LkInv.made(h:LkInv w bl ml mu limit hold l us):Calls prog 141 #[iO bl] w (pT (.bool false) w):=none_at bl (some ml) w h.cell.2.1
end
end
section
open Go.RowKit Go.Proofs.Tryz Go.Lib
theorem fold_put:∀(l:List Value)(j off:Nat)(cells:iL),off+j+l.length<=cells.size->
 (l.zipIdx j).foldl (fun(cs:iL)(x:Value×Nat)=>cs.setIfInBounds (off+x.2) x.1) cells=(cells.toList.take (off+j)++l++cells.toList.drop (off+j+l.length)).toArray
 | [],j,off,cells,_=>by simp
 |v::l,j,off,cells,h=>by
  simp only[List.length_cons]at h;rw[List.zipIdx_cons,List.foldl_cons,fold_put l (j+1) off _ (by simp;omega)]
  apply Array.toList_inj.1
  simp only[Array.toList_setIfInBounds,List.length_cons]
  have h1:(cells.toList.set (off+j) v).take (off+(j+1))=cells.toList.take (off+j)++[v]:=by
   rw[<-Nat.add_assoc,List.take_succ_eq_append_getElem (by simp;omega)]
   simp[List.take_set_of_le]
  have h2:(cells.toList.set (off+j) v).drop (off+(j+1)+l.length)=cells.toList.drop (off+j+(l.length+1)):=by
   rw[List.drop_set_of_lt (by omega)]
   congr 1;omega
  rw[h1,h2]
  simp
theorem zN{cells:iL}{rest:List (Nat×Value)}{size:Nat}(hp:place i=some (off,size))(hs:v.cells.size=size)(hf:off+size<=cells.size):
 Instr.fill place cells ((i,v)::rest)=Instr.fill place (zE cells off v.cells) rest:=by
 subst hs
 have e:v.cells.zipIdx.foldl (fun(cs:iL)(x:Value×Nat)=>cs.setIfInBounds (off+x.2) x.1) cells=zE cells off v.cells:=by
  have:=fold_put v.cells.toList 0 off cells (by simpa using hf);rw[<-Array.foldl_toList,Array.toList_zipIdx]
  simpa[zE]using this
 simp only[Instr.fill,hp];rw[if_neg (by simp;omega)];rw[<-e]
theorem yN{cells:iL}:Instr.fill place cells []=some cells:=rfl
def yM(P:Program)(t:TypeId):Option (List (Nat×Nat)):=
 match P.underlying t with
 |some (.struct fields)=>fields.toList.mapM fun f=>(P.info? f.type).map fun i=>(f.offset,i.size)
 |_=>none
theorem zX{z:iL}{places:List (Nat×Nat)}(hz:(P.info? t).bind (·.zero)=some (.agg z))(hp:yM P t=some places)(parts:List (Nat×Value)):
 P.built t parts=Instr.fill (places.toArray[·]?) z parts:=by
 unfold yM at hp
 split at hp
 ·rename_i fields hu
  cases hi:P.info? t with
  |none=>simp[hi]at hz
  |some i=>
   simp only[hi,Option.bind_some]at hz;simp only[Program.built,hi,hu,hz,hp,Value.cells]
 ·cases hp
theorem zH(t:TypeId)(parts:List (Nat×Operand))(vals:List (Nat×Value))(cells:iL)(ho:o.op=.build t parts.toArray)
 (hv:parts.map (fun x=>(x.1,a.eval x.2))=vals)(hb:P.built t vals=some cells):(execOp a.eval o).run P w=.ok (.value (.agg cells)) w:=by
 subst hv;unfold execOp;simp only[ho];have h:=run_build (P:=P) w t (Array.map (fun(x:Nat×Operand)=>(x.1,a.eval x.2)) parts.toArray) cells (by simpa using hb)
 simp only[Sem.run_bind,h,Result.andThen_ok,Sem.run_pure]
theorem yV{S:iN->Prop}{parts:List (Nat×Operand)}{vals:List (Nat×Value)}{cells:iL}(hb:P.built t vals=some cells)(h:zF P ops Q S r (a.put o.dst (.agg cells)) w)(hw:Region.wanted o (yielded ops a.tmps)=true:=by rfl)(ho:o.op=.build t parts.toArray:=by rfl)(hv:parts.map (fun x=>(x.1,a.eval x.2))=vals:=by rfl):zF P ops Q S ((o,0)::r) a w:=qV hw (fun _ _=>zH t parts vals _ ho hv hb) h
end
section
open Go.RowKit Go.Shelf Go.Proofs.Tryz Go.Lib
def keyZero:iL:=#[.string ⟨#[]⟩]++Array.replicate 32 (.int .u8 0)
theorem keyZ:(prog.info? 241).bind (·.zero)=some (.agg keyZero):=by kernel_rfl
theorem keyP:yM prog 241=some [(0,1),(1,32)]:=by kernel_rfl
theorem built_key{p:uN}(h:kH p):prog.built 241 [(0,.string p.1),(1,.agg (qA p.2))]=some (pQ p):=by
 have h':p.2.length=32:=h;have hz:keyZero.size=33:=by kernel_rfl
 have hs1:(zE keyZero 0 #[Value.string p.1]).size=33:=by rw[kQ (by simp[hz])];exact hz
 rw[zX keyZ keyP,zN (off:=0) (size:=1) rfl rfl (by omega)];rw[show(Value.string p.1).cells=#[Value.string p.1]from rfl]
 rw[zN (off:=1) (size:=32) rfl (by simp[Value.cells,qD,h']) (by omega),yN]
 congr 1
 apply Array.toList_inj.1
 simp only[zE,Value.cells,pQ,Array.toList_append];have hl:keyZero.toList.length=33:=by simpa using hz
 have hi:(qA p.2).size=32:=by rw[qD,h']
 rw[hi,List.take_append_of_le_length (by simp)]
 simp[hl]
theorem uE(x y:Operand)(p:uN)(hp:kH p)(ho:o.op=.build 241 #[(0,x),(1,y)])(hx:a.eval x=.string p.1)(hy:a.eval y=.agg (qA p.2)):
 (execOp a.eval o).run prog w=.ok (.value (fY p)) w:=
 zH 241 [(0,x),(1,y)] [(0,.string p.1),(1,.agg (qA p.2))] _ ho (by simp[hx,hy]) (built_key hp)
theorem useZ:(prog.info? 230).bind (·.zero)=some (.pointer none):=by kernel_rfl
theorem linkZ:(prog.info? 246).bind (·.zero)=some (kE 0):=by kernel_rfl
def useP(r:ByteArray)(us:List (ByteArray×Nat)):Value:=match qR r us with|none=>.pointer none|some b=>tD b
theorem useP_get(r:ByteArray)(us:List (ByteArray×Nat)):(qR r (us.map fun p=>(p.1,tD p.2))).getD (.pointer none)=useP r us:=by
 rw[getL_map];unfold useP;cases qR r us<;>rfl
def linkG(k:uN)(l:qU):Value:=kE ((qR k l).getD 0)
theorem linkG_get(k:uN)(l:qU):(qR k (l.map fun p=>(p.1,kE p.2))).getD (kE 0)=linkG k l:=by
 rw[getL_map];unfold linkG;cases qR k l<;>rfl
theorem linkS_get(k:uN)(l:qU):(qR k (l.map fun p=>(p.1,kE p.2))).isSome=(qR k l).isSome:=by
 rw[getL_map];cases qR k l<;>rfl
section
variable{w:iN}{bl ml mu:Nat}{limit:Int}{hold:Value}{l:qU}{us:List (ByteArray×Nat)}
theorem lookS_at(h:MapIs Value.string (fun _=>True) w mu (us.map fun p=>(p.1,tD p.2)))(m x:Operand)(r:ByteArray)(ho:o.op=.lookup 98 m x false)(hm:a.eval m=.map (some mu))(hx:a.eval x=.string r)(hv:useP r us=v):
 (execOp a.eval o).run prog w=.ok (.value v) w:=
 vL (bK underlying9) h r trivial 98 230 underlying98 (.pointer none) useZ m x false ho hm hx _ (by rw[<-hv];simpa using useP_get r us)
theorem LkInv.lookS(h:LkInv w bl ml mu limit hold l us){o:Oper}{a:Act}(m x:Operand)(r:ByteArray)(ho:o.op=.lookup 98 m x false)(hm:a.eval m=.map (some mu))(hx:a.eval x=.string r):
 (execOp a.eval o).run prog w=.ok (.value (useP r us)) w:=
 vL (bK underlying9) h.um r trivial 98 230 underlying98 (.pointer none) useZ m x false ho hm hx _ (by simpa using useP_get r us)
theorem LkInv.lookK(h:LkInv w bl ml mu limit hold l us)(m x:Operand)(k:uN)(hk:kH k)(ho:o.op=.lookup 97 m x true)(hm:a.eval m=.map (some ml))(hx:a.eval x=fY k):
 (execOp a.eval o).run prog w=.ok (.value (.tuple #[linkG k l,.bool (qR k l).isSome])) w:=
 vL eY h.lm k hk 97 246 underlying97 (kE 0) linkZ m x true ho hm hx _ (by rw[linkG_get,linkS_get];rfl)
theorem LkInv.lookK1(h:LkInv w bl ml mu limit hold l us)(m x:Operand)(k:uN)(hk:kH k)(ho:o.op=.lookup 97 m x false)(hm:a.eval m=.map (some ml))(hx:a.eval x=fY k):
 (execOp a.eval o).run prog w=.ok (.value (linkG k l)) w:=
 vL eY h.lm k hk 97 246 underlying97 (kE 0) linkZ m x false ho hm hx _ (by rw[linkG_get];rfl)
theorem use_any(h:LkInv w bl ml mu limit hold l us)(r:ByteArray):Calls prog 68 #[iO bl,.string r] w (pT (.int .i64 (xK l r)) w):=by
 have hc:=h.cell.2.2.1;obtain⟨v,hv⟩:∃v,useP r us=v:=⟨_,rfl⟩;have hl:= @LkInv.lookS w bl ml mu limit hold l us h;have HV:=O hv;unfold useP at hv
 cases hg:qR r us with
 |none=>
  rw[hg]at hv;have HU:=O (useOf_none ((h.useNone r).1 hg));obtain rfl:.pointer none=v:=hv;clear hg;go_enter func68,ntmps68;go_upto_region 1 with(fail)
  refine qL [3,1,3,3,3,3,1,3,1,3,3] ?_;simp only[qB];refine kS rfl ?_
  go_wp2_with (go_at_call 141;refine h.made.mono ?_;rintro _ w1 ⟨rfl,hw⟩;obtain rfl:=hw.symm);simp only[qB];refine qG 98 hc ?_;simp only[qB]
  refine cF rfl (v:=.pointer none) (by rw[<-HV.out];exact hl _ _ r (by rfl) (by rfl) (by rfl)) trivial ?_;try simp only[qC]
  refine qZ (fun _=>by go_simp;try with_reducible rfl) ?_;simp only[qB];go_wp2;go_ret;rw[HU.out];exact⟨rfl,rfl⟩
 |some b=>
  rw[hg]at hv;have hub:=h.ub (r,b) (jZ hg);obtain rfl:tD b=v:=hv;have hc0:w.cell? ⟨b,0,none⟩=some (.int .i64 (xK l r)):=by simp[World.cell?,hub]
  clear hg hub;go_enter func68,ntmps68;go_upto_region 1 with(fail);refine qL [3,1,3,3,3,3,1,3,1,3,3] ?_;simp only[qB];refine kS rfl ?_
  go_wp2_with (go_at_call 141;refine h.made.mono ?_;rintro _ w1 ⟨rfl,hw⟩;obtain rfl:=hw.symm);simp only[qB];refine qG 98 hc ?_;simp only[qB]
  refine cF rfl (v:=iO b) ((hl _ _ r (by rfl) (by rfl) (by rfl)).trans (by rw[HV.out];rfl)) trivial ?_;try simp only[qC]
  refine qZ (fun _=>by go_simp;try with_reducible rfl) ?_;simp only[qB];go_upto_region 3 with(fail);refine qL [3,3,3,1,3,1,3,3,1,3] ?_;simp only[qB]
  refine qG 98 hc ?_;simp only[qB];refine cF rfl (v:=iO b) ((hl _ _ r (by rfl) (by rfl) (by rfl)).trans (by rw[HV.out];rfl)) trivial ?_
  simp only[qB];refine qG 3 hc0 ?_;simp only[qB];go_wp2;go_ret;exact⟨rfl,rfl⟩
theorem has_any(h:LkInv w bl ml mu limit hold l us)(k:uN)(hk:kH k):Calls prog 76 #[iO bl,.string k.1,.agg (qA k.2)] w (vO (.bool (qR k l).isSome) w):=by
 go_enter func76,ntmps76;go_upto_region 0 with(fail);refine qL [1,3] ?_;simp only[qB];refine qK (zT 24 (fun w1 hB1 hm1 hs1=>?_))
 replace hB1:w1.heap[w.heap.size]?=some (.cells (qA k.2) 24 (0,0)):=hB1;simp only[qB];have h1:=h.keep0 hm1
 go_upto_region 3 with(go_at_call 141;refine h1.made.mono ?_;rintro _ w2 ⟨rfl,hw⟩;obtain rfl:=hw.symm);have hS:Mod qJ w1 w1.drew:=(Mod.refl _ _).drew
 refine zZ [3,3,3,0,3,0,3,0,3,3,3,1,1,3] [] (fun w'=>Mod qJ w1 w') hS ?_;simp only[qB];refine qE 97 (fun w' hS=>(h1.keep0 hS).cell.2.1) ?_;simp only[qB]
 refine zJ 24 (fun w' hS=>CellsAt.whole (hS.obj id hB1)) 32 (by rw[qD];exact hk) ?_;simp only[qC]
 refine qM (v:=fY k) rfl (fun w'=>uE _ _ k hk rfl rfl rfl) ?_;simp only[qC]
 refine qV rfl (fun w' hS=>(h1.keep0 hS).lookK _ _ k hk (by rfl) (by rfl) (by rfl)) ?_;simp only[qB];refine qZ (fun _=>by go_simp;try with_reducible rfl) ?_
 simp only[qC];refine qZ (fun _=>by go_simp;try with_reducible rfl) ?_;simp only[qC];refine qH rfl (fun K hK=>?_)
 refine jX 246 (kE 0) (by rfl) linkZ (fun w3 hB3 hm3 hs3=>?_);replace hB3:w3.heap[w1.heap.size]?=some (.cells #[.int .i64 0] 246 (0,0)):=hB3
 replace hm3:=hS.trans0 hm3;refine hK _ _ hm3 ?_;clear hK K;try simp only[qC]
 refine qH rfl (fun K hK=>?_);refine xU 246 0 #[.int .i64 ((qR k l).getD 0)] (by simp[Value.oneCell']) 1 rfl hB3 (fun w4 hB4 hm4=>?_) (hoff:=by simp)
 have hM4:Mod qJ w1 w4:=hm3.transB hm4 (Nat.le_refl _);refine hK _ _ hM4 ?_;clear hK K;simp only[qB];go_wp2;go_ret;exact⟨rfl,hm1.trans0 hM4⟩
end
theorem putL_none{α β:Type}[DecidableEq α]{k:α}{l:List (α×β)}(h:qR k l=none)(v:β):kD k v l=l++[(k,v)]:=by
 induction l with
 |nil=>rfl
 |cons p l ih=>
  unfold qR at h
  split at h
  ·cases h
  ·rename_i hk;simp[kD,hk,ih h]
def holdB(asked:Bool)(limit a b:Int):Bool:= !asked||decide (a+b<=limit)
def HoldIs(w:iN)(bl:Nat)(hold:Value):Bool->Prop
 |true=>∃bb,hold=.func (.func 196) #[] #[iO bb]/\w.cell? ⟨bb,0,none⟩=some (iO bl)
 |false=>hold=.func (.func 187) #[] #[]
theorem HoldIs.keep0(h:HoldIs w bl hold asked)(hm:Mod qJ w w'):HoldIs w' bl hold asked:=by
 cases asked
 ·exact h
 ·obtain⟨bb,h1,h2⟩:=h;exact⟨bb,h1,hm.cell id h2⟩
theorem linkF_any(bb bl:Nat)(a b limit:Int)(w:iN)(h1:w.cell? ⟨bb,0,none⟩=some (iO bl))(h2:w.cell? ⟨bl,0,none⟩=some (.int .i64 limit))(ha:0<=a/\a<=1000000000)(hb:0<=b/\b<=4096):
 Calls prog 196 #[.int .i64 a,.int .i64 b,iO bb] w (pT (.bool (decide (a+b<=limit))) w):=by
 obtain⟨ha1,ha2⟩:=ha;obtain⟨hb1,hb2⟩:=hb;obtain⟨t,ht⟩:∃t,t=decide (a+b<=limit):=⟨_,rfl⟩;rw[<-ht];have HT:=O ht;clear ht;go_enter func196,ntmps196
 go_wp2
 all_goals
  go_ret;exact⟨kZ (by rw[HT.out]),rfl⟩
theorem layF_any(a b:Int)(w:iN):Calls prog 187 #[.int .i64 a,.int .i64 b] w (pT (.bool true) w):=by
 go_enter func187,ntmps187;go_wp2;go_ret;exact⟨rfl,rfl⟩
section
variable{w:iN}{bl ml mu:Nat}{limit:Int}{hold:Value}{l:qU}{us:List (ByteArray×Nat)}
theorem wp_hold{act:Act}(hH:HoldIs w bl hold asked)(hl:w.cell? ⟨bl,0,none⟩=some (.int .i64 limit))(a b:Int)(ha:0<=a/\a<=1000000000)(hb:0<=b/\b<=4096)
 (x y z:Operand)(ts:Array TypeId)(ho:o.op=.call { callee:=.value x,args:=#[y,z],argTypes:=ts })(hx:act.eval x=hold)(hy:act.eval y=.int .i64 a)(hz:act.eval z=.int .i64 b)
 (h:K (act.put o.dst (.bool (holdB asked limit a b))) w):o.wp prog act w K Q:=by
 cases asked
 ·refine pP 187 x [y,z] ts #[] #[] ho (hx.trans hH) (enters_of func187 (by kernel_rfl) rfl) ?_
  simp only[List.map_cons,List.map_nil,hy,hz];refine(layF_any a b w).mono ?_;rintro _ w' ⟨rfl,hw⟩;obtain rfl:=hw.symm;exact⟨_,rfl,h⟩
 ·obtain⟨bb,h1,h2⟩:=hH
  refine pP 196 x [y,z] ts #[] #[iO bb] ho (hx.trans h1) (enters_of func196 (by kernel_rfl) rfl) ?_;simp only[List.map_cons,List.map_nil,hy,hz]
  refine(linkF_any bb bl a b limit w h2 hl ha hb).mono ?_;rintro _ w' ⟨rfl,hw⟩;obtain rfl:=hw.symm;exact⟨_,rfl,by simpa[holdB]using h⟩
def addE(asked:Bool)(limit:Int)(l:qU)(k:uN)(size:Int):Bool×Int:=
 if uP k.1 then(if size<0\/4096<size then(false,3)else(match qR k l with|some old=>if old=size then(false,0)else(false,17)|none=>if holdB asked limit (xK l k.1) size then(if 65536<=l.length then(false,10)else(true,0))else(false,11)))else(false,7)
def iE(asked:Bool)(limit:Int)(l:qU)(k:uN)(size:Int):qU:=if(addE asked limit l k size).1 then l++[(k,size)]else l
def Lked(w:iN)(bl ml mu:Nat)(limit:Int)(hold:Value)(us:List (ByteArray×Nat))(w':iN)(l':qU):Prop:=
 ∃us',LkInv w' bl ml mu limit hold l' us'/\Mod (cE bl ml mu us) w w'/\∀k,cE bl ml mu us' k->cE bl ml mu us k\/gD w w' k
theorem LkInv.stay(h:LkInv w bl ml mu limit hold l us)(hm:Mod qJ w w'):Lked w bl ml mu limit hold us w' l:=
 ⟨us,h.keep0 hm,hm.mono (fun _ _ h=>False.elim h),fun _ hk=>.inl hk⟩
theorem LkInv.added(h:LkInv w bl ml mu limit hold l us){k:uN}{size:Int}(hs:0<=size/\size<=4096)(hn:uP k.1=true)(hf:l.length<65536)(hg:qR k l=none)
 (hbox:w'.heap[bl]?=w.heap[bl]?)(hlm:MapIs fY kH w' ml (kD k (kE size) (l.map fun p=>(p.1,kE p.2))))(hum:MapIs Value.string (fun _=>True) w' mu (us'.map fun p=>(p.1,tD p.2)))
 (hub:w'.heap[b]?=some (.cells #[.int .i64 (xK l k.1+size),.int .i64 (xL l k.1+1)] 237 (0,0)))(hot:∀p∈us',p.1≠k.1->w'.heap[p.2]?=some (.cells #[.int .i64 (xK l p.1),.int .i64 (xL l p.1)] 237 (0,0)))
 (hb:∀p∈us',p.1=k.1->p.2=b)(hbm:k.1∈us'.map (·.1))(hk':∀r,r≠k.1->(r∈us'.map (·.1)↔r∈us.map (·.1)))(hud:(us'.map (·.2)).Nodup):LkInv w' bl ml mu limit hold (l++[(k,size)]) us':=by
 have hu:∀r,xK (l++[(k,size)]) r=xK l r+if k.1=r then size else 0:=fun r=>by simp[useOf_append,xK]
 have hc:∀r,xL (l++[(k,size)]) r=xL l r+if k.1=r then 1 else 0:=fun r=>by simp[cntOf_append,xL]
 refine⟨hbox.trans h.box,h.one,?_,hum,fun p hp=>?_,fun r=>?_,hud,fun p hp=>?_,fun p hp=>?_,by simp;omega,h.ne,h.lim⟩
 ·rw[putL_map (f:=kE),putL_none hg]at hlm
  exact hlm
 ·rw[hu,hc]
  by_cases hp1:p.1=k.1
  ·rw[hb p hp hp1,hp1,if_pos rfl,if_pos rfl];exact hub
  ·rw[if_neg (fun e=>hp1 e.symm),if_neg (fun e=>hp1 e.symm),Int.add_zero,Nat.add_zero];exact hot p hp hp1
 ·rw[hc]
  by_cases hr:r=k.1
  ·subst hr;simp only[if_true];exact⟨fun _=>by omega,fun _=>hbm⟩
  ·rw[hk' r hr,h.uk,if_neg (fun e=>hr e.symm)];omega
 ·rcases List.mem_append.1 hp with hp|hp
  ·exact h.sz p hp
  ·simp at hp;subst hp;exact hs
 ·rcases List.mem_append.1 hp with hp|hp
  ·exact h.nm p hp
  ·simp at hp;subst hp;exact hn
theorem tP{α β:Type}{f:α->β}:∀{l:List α},(l.map f).Nodup->∀{p q:α},p∈l->q∈l->f p=f q->p=q
 | [],_,_,_,h,_,_=>by cases h
 |x::l,hn,p,q,hp,hq,e=>by
  rw[List.map_cons,List.nodup_cons]at hn
  rcases List.mem_cons.1 hp with h1|h1<;>rcases List.mem_cons.1 hq with h2|h2
  ·rw[h1,h2]
  ·exact absurd (List.mem_map.2 ⟨q,h2,by rw[<-e,h1]⟩) hn.1
  ·exact absurd (List.mem_map.2 ⟨p,h1,by rw[e,h2]⟩) hn.1
  ·exact tP hn.2 h1 h2 e
theorem add_any(h:LkInv w bl ml mu limit hold l us)(hH:HoldIs w bl hold asked)(k:uN)(hk:kH k)(hsz:k.1.size<=maxLen)(size:Int):
 Calls prog 188 #[iO bl,.string k.1,.agg (qA k.2),.int .i64 size] w
  (fun e w'=>e=.returned (.tuple #[.bool (addE asked limit l k size).1,.int .i64 (addE asked limit l k size).2])/\Lked w bl ml mu limit hold us w' (iE asked limit l k size)):=by
 obtain⟨g,hg⟩:∃g,qR k l=g:=⟨_,rfl⟩;have HG:=O hg;obtain⟨R,hR⟩:∃R,addE asked limit l k size=R:=⟨_,rfl⟩;have HR:=O hR
 have hfin:∀(b:Bool)(x:Int),R=(b,x)->(iE asked limit l k size)=if b then l++[(k,size)]else l:=fun b x e=>by unfold iE;rw[hR,e]
 have HF:=O hfin;unfold addE at hR;rw[hg]at hR;rw[HR.out];clear hfin hg;go_enter func188,ntmps188;go_upto_region 0 with(fail);refine qL [1,3,3] ?_;simp only[qB]
 refine qK (zT 24 (fun w1 hB1 hm1 hs1=>?_));replace hB1:w1.heap[w.heap.size]?=some (.cells (qA k.2) 24 (0,0)):=hB1;simp only[qB];have h1:=h.keep0 hm1
 go_upto_region 1 with(fail);have hS:Mod qJ w1 w1.drew:=(Mod.refl _ _).drew;refine zZ [3,3,3,0,3,0,3,0,3,3,3,1,1,3] [] (fun w'=>Mod qJ w1 w') hS ?_
 simp only[qB];refine qE 97 (fun w' hS=>(h1.keep0 hS).cell.2.1) ?_;simp only[qB]
 refine zJ 24 (fun w' hS=>CellsAt.whole (hS.obj id hB1)) 32 (by rw[qD];exact hk) ?_;simp only[qC]
 refine qM (v:=fY k) rfl (fun w'=>uE _ _ k hk rfl rfl rfl) ?_;simp only[qC]
 refine qV rfl (fun w' hS=>(h1.keep0 hS).lookK _ _ k hk (by rfl) (by rfl) (by rfl)) ?_;simp only[qB];refine qZ (fun _=>by go_simp;try with_reducible rfl) ?_
 simp only[qC];refine qZ (fun _=>by go_simp;try with_reducible rfl) ?_;simp only[qC];refine qH rfl (fun K hK=>?_)
 refine jX 246 (kE 0) (by rfl) linkZ (fun w3 hB3 hm3 hs3=>?_);replace hB3:w3.heap[w1.heap.size]?=some (.cells #[.int .i64 0] 246 (0,0)):=hB3
 replace hm3:=hS.trans0 hm3;refine hK _ _ hm3 ?_;clear hK K;try simp only[qC]
 refine qH rfl (fun K hK=>?_);refine xU 246 0 #[.int .i64 ((qR k l).getD 0)] (by simp[Value.oneCell']) 1 rfl hB3 (fun w4 hB4 hm4=>?_) (hoff:=by simp)
 have hM4:Mod qJ w1 w4:=hm3.transB hm4 (Nat.le_refl _);refine hK _ _ hM4 ?_;clear hK K;simp only[qB]
 replace hB4:w4.heap[w1.heap.size]?=some (.cells #[.int .i64 ((qR k l).getD 0)] 246 (0,0)):=hB4;rw[HG.out]at hB4 |-;have hM:=hm1.trans0 hM4;replace hB1:=hM4.obj id hB1
 clear hm3 hB3 hs3 hm4 hS h1 hm1 hM4;clear hs1
 -- THE NAME
 obtain⟨tn,htn⟩:∃tn,uP k.1=tn:=⟨_,rfl⟩;have HN:=O htn;rw[htn]at hR;clear htn;go_upto_region 2 with(fail);refine qL [3,1,3,3] ?_;simp only[qB]
 refine kS rfl ?_;go_wp2_with (go_at_call 228;refine(named_any k.1 _ hsz).mono ?_;rintro _ w5 ⟨rfl,hm5⟩;rw[HN.out]);try simp only[qB]
 try refine xC _ _ _ rfl rfl rfl ?_
 try simp only[qB]
 replace hB1:=hm5.obj id hB1;replace hB4:=hm5.obj id hB4;replace hM:=hM.trans0 hm5;clear hm5
 cases tn
 ·have HR2:=O hR
  clear hR;go_wp2;go_ret2;have e:R=(false,7):=by rw[<-HR2.out];rfl
  rw[e,HF.out _ _ e];exact⟨rfl,h.stay hM⟩
 by_cases hs:size<0\/4096<size
 ·have HR2:=O hR
  clear hR
  rcases hs with hs'|hs'
  all_goals
   go_wp2;go_ret2;have e:R=(false,3):=by rw[<-HR2.out];simp;omega
   rw[e,HF.out _ _ e];exact⟨rfl,h.stay hM⟩
 obtain⟨hs0,hs4⟩:0<=size/\size<=4096:=⟨by omega,by omega⟩;rw[if_pos rfl,if_neg hs]at hR;clear hs
 cases g with
 |some old=>
  have hcl:w5.cell? ⟨w1.heap.size,0,none⟩=some (.int .i64 old):=by simp[World.cell?,hB4]
  clear hB4 hB1
  by_cases ho:old=size
  ·subst ho
   have HR2:=O hR;clear hR;go_wp2;go_ret2;have e:R=(false,0):=by rw[<-HR2.out];simp
   rw[e,HF.out _ _ e];exact⟨rfl,h.stay hM⟩
  ·have HR2:=O hR
   clear hR;go_wp2;go_ret2;have e:R=(false,17):=by rw[<-HR2.out];simp[ho]
   rw[e,HF.out _ _ e];exact⟨rfl,h.stay hM⟩
 |none=>
  clear hB4;have h5:=h.keep0 hM;have hH5:=hH.keep0 hM;have hub:=useOf_le l k.1 h.sz;have hfew:=h.few
  have hub2:0<=xK l k.1/\xK l k.1<=1000000000:=⟨hub.1,by omega⟩;have hcb:=cntOf_le l k.1
  obtain⟨th,hth⟩:∃th,holdB asked limit (xK l k.1) size=th:=⟨_,rfl⟩;have HH:=O hth;simp only[hth]at hR;clear hth;have HFew:=O hfew;have HCb:=O hcb
  clear hub hcb;go_upto_region 10 with(fail);have hS:Mod qJ w5 w5.drew:=(Mod.refl _ _).drew;refine zZ [3,3,3,0,3,3,0,3,1,3,3] [] (fun w'=>Mod qJ w5 w') hS ?_
  simp only[qB];refine qE 99 (fun w' hS=>(h5.keep0 hS).cell.2.2.2) ?_;simp only[qB];refine uA (f:=68) rfl ?_ (fun w' hS=>use_any (h5.keep0 hS) k.1) ?_
  ·exact xM 68 _ _ rfl _ func68 rfl (by kernel_rfl) _ rfl
  simp only[qB];refine qH rfl (fun K hK=>?_)
  refine wp_hold (hH5.keep0 hS) (h5.keep0 hS).cell.1 (xK l k.1) size hub2 ⟨hs0,hs4⟩ _ _ _ _ (by rfl) (by rfl) (by rfl) (by rfl) ?_;rw[HH.out];refine hK _ _ hS ?_;clear hK K
  try simp only[qB]
  try refine xC _ _ _ rfl rfl rfl ?_
  try simp only[qB]
  replace hM:=hM.trans0 hS;replace hB1:=hS.obj id hB1;generalize w5.drew=w6 at hS hM hB1 |-;replace h5:=h5.keep0 hS;clear hS
  cases th
  ·have HR2:=O hR
   clear hR;go_wp2;go_ret2;have e:R=(false,11):=by rw[<-HR2.out];simp
   rw[e,HF.out _ _ e];exact⟨rfl,h.stay hM⟩
  simp only[if_true]at hR;have hlenl:((l.map fun p=>(p.1,kE p.2)).length:Int)=l.length:=by simp
  obtain⟨tf,htf⟩:∃tf,vW .geq (l.length:Int) 65536=tf:=⟨_,rfl⟩;have HTF:=O htf;have HLL:=O hlenl;have HR3:=O hR;clear hlenl hR hfew htf
  go_upto_region 12 with(fail);refine qL [3,3,3,1,1,3,3] ?_;simp only[qB];refine qG 97 h5.cell.2.1 ?_;try simp only[qC]
  refine qK (xX (exec_lenL h5.lm 97 246 underlying97 _ (by rfl) (by rfl)) ?_);rw[HLL.out];try simp only[qC]
  refine qN _ _ _ _ _ _ _ _ rfl rfl rfl rfl rfl tf HTF.out ?_;simp only[qB]
  have HR4:Hid (R=if tf then(false,10)else(true,0)):=O (by
   rw[<-HR3.out,<-HTF.out];simp only[vW,decide_eq_true_eq]
   congr 1
   rw[eq_iff_iff];omega)
  cases tf
  case true=>
   go_wp2;go_ret2;have e:R=(false,10):=HR4.out;rw[e,HF.out _ _ e];exact⟨rfl,h.stay hM⟩
  have hRt:R=(true,0):=HR4.out;have HRt:=O hRt;have HFu:Hid (l.length<65536):=O (by have:=HTF.out;simp[vW]at this;omega);clear hRt
  -- THE LINK IS LAID
  have hn:=h5.nes;have hbx:w.heap.size≠ml:=by have:=h.lt ml (.inr (.inl rfl));omega
  go_upto_region 14 with(fail);have hS:Mod (fun j=>j=ml) w6 w6.drew:=(Mod.refl _ _).drew
  refine zZ [3,3,3,0,3,0,3,3,3,1] [] (fun w'=>Mod (fun j=>j=ml) w6 w') hS ?_;simp only[qB];refine qE 97 (fun w' hS=>hS.cell (by exact hn.1) h5.cell.2.1) ?_
  simp only[qB];refine zJ 24 (fun w' hS=>CellsAt.whole (hS.obj (b:=w.heap.size) (by exact hbx) hB1)) 32 (by rw[qD];exact hk) ?_;simp only[qC]
  refine qM (v:=fY k) rfl (fun w'=>uE _ _ k hk rfl rfl rfl) ?_;simp only[qB];refine qZ (fun _=>by go_simp;try with_reducible rfl) ?_;simp only[qC]
  refine qH rfl (fun K hK=>?_)
  refine dI eY (h5.lm.keep0 (Mod.refl qJ w6).drew) k hk 97 246 underlying97 _ _ _ (kE size) (by rfl) (by rfl) (by rfl) (by rfl) (fun w7 hlm7 hm7=>?_)
  have hM7:Mod (fun j=>j=ml) w6 w7:=hS.trans hm7 (fun _ _ h=>h);refine hK _ _ hM7 ?_;clear hK K;simp only[qB];clear hm7 hS;have hnu:=h5.nes.2.2
  have hbox7:=hM7.obj (b:=bl) hn.1 h5.box;have hum7:=h5.um.keep hM7 (fun e=>h5.ne e.symm)
  have hc72:w7.cell? ⟨bl,2,none⟩=some (.map (some mu)):=hM7.cell (by exact hn.1) h5.cell.2.2.1
  have hub7:∀p∈us,w7.heap[p.2]?=some (.cells #[.int .i64 (xK l p.1),.int .i64 (xL l p.1)] 237 (0,0)):=fun p hp=>hM7.obj (b:=p.2) (hnu p hp).2.1 (h5.ub p hp)
  have hltm:=h5.lt;go_upto_region 15 with(fail)
  cases hgu:qR k.1 us with
  |none=>
   refine qL [3,3,3,1,3,1,3] ?_;simp only[qB];refine qG 98 hc72 ?_;simp only[qB]
   refine cF rfl (v:=.pointer none) (lookS_at hum7 _ _ k.1 (by rfl) (by rfl) (by rfl) (by simp[useP,hgu,tD])) trivial ?_;simp only[qB]
   have hcn:xL l k.1=0:=(h5.useNone k.1).1 hgu;have hun:xK l k.1=0:=useOf_none hcn;have HUN:=O hun;have HCN:=O hcn;clear hgu hcn hun
   go_upto_region 17 with(fail);refine qL [3,1,3] ?_;simp only[qB];refine qZ (fun _=>by go_simp;try with_reducible rfl) ?_;simp only[qC]
   refine qK (zT 237 (fun w71 hB71 hm71 hs71=>?_));replace hB71:w71.heap[w7.heap.size]?=some (.cells #[.int .i64 0,.int .i64 0] 237 (0,0)):=hB71;simp only[qB]
   go_upto_region 18 with(fail);refine qL [3,3,3,1,3,3,1] ?_;simp only[qB];refine qG 98 (hm71.cell id hc72) ?_;simp only[qB]
   refine qK (dI (bK underlying9) (hum7.keep0 hm71) k.1 trivial 98 230 underlying98 _ _ _ (tD w7.heap.size) (by rfl) (by rfl) (by rfl) (by rfl) (fun w72 hum72 hm72=>?_))
   simp only[qB];have hmult:mu<w7.heap.size:=hum7.lt;have hB72:=hm72.obj (b:=w7.heap.size) (by omega) hB71
   have hMu:Mod (fun j=>j=mu) w7 w72:=(hm71.mono (S':=fun j=>j=mu) (fun _ _ h=>False.elim h)).trans hm72 (fun _ _ h=>h);go_upto_region 19 with(fail)
   refine qL [3,3,3,1,3,3,3,3,1] ?_;simp only[qB];refine qG (v:=.int .i64 (0)) (b:=w7.heap.size) (off:=0) 3 (by simp[World.cell?,hB72]) ?_;simp only[qB]
   refine aB _ _ _ _ (0) size rfl rfl rfl rfl (by have:=hub2.1;omega) (by have:=hub2.2;omega) ?_;simp only[qB]
   refine qK (zR 3 0 (.int .i64 (0+size)) hB72 (fun w8 hB8 hm8=>?_) (hoff:=by simp));simp only[qB]
   replace hB8:w8.heap[w7.heap.size]?=some (.cells #[.int .i64 (0+size),.int .i64 (0)] 237 (0,0)):=hB8;go_upto_region 20 with(fail);refine qL [3,3,3,1,3,3,3,1] ?_
   simp only[qB];refine qG (v:=.int .i64 (0)) (b:=w7.heap.size) (off:=1) 3 (by simp[World.cell?,hB8]) ?_;try simp only[qC]
   refine aB _ _ _ _ (0) 1 rfl rfl rfl rfl (by have:=HCb.out;have:=HFew.out;omega) (by have:=HCb.out;have:=HFew.out;omega) ?_;simp only[qB]
   refine qK (zR 3 1 (.int .i64 (0+1)) hB8 (fun w9 hB9 hm9=>?_) (hoff:=by simp));simp only[qB]
   replace hB9:w9.heap[w7.heap.size]?=some (.cells #[.int .i64 (0+size),.int .i64 (0+1)] 237 (0,0)):=hB9
   have hm89:Mod (fun j=>j=w7.heap.size) w72 w9:=hm8.trans hm9 (fun _ _ h=>h);go_wp2;go_ret2;have HFu':=HFu.out;rw[HRt.out,HF.out _ _ HRt.out]
   have hgu:qR k.1 us=none:=(h5.useNone k.1).2 HCN.out;have hlt7:∀j,cE bl ml mu us j->j<w7.heap.size:=fun j hj=>Nat.lt_of_lt_of_le (hltm j hj) hM7.size
   rw[putL_map (f:=tD),putL_none hgu]at hum72;have hsz67:=hM7.size;have hszw:=hM.size;have hbl7:=hlt7 bl (.inl rfl);have hml7:=hlt7 ml (.inr (.inl rfl))
   have hlt9:w7.heap.size<w9.heap.size:=(Array.getElem?_eq_some_iff.1 hB9).1;have hn1:=hn.2.1;have hne:=h5.ne
   have hb9:=hm89.obj (b:=bl) (by omega) (hMu.obj (b:=bl) hn1 hbox7);have hnot:k.1∉us.map (·.1):=getL_none.1 hgu
   refine⟨rfl,us++[(k.1,w7.heap.size)],h5.added (b:=w7.heap.size) ⟨hs0,hs4⟩ HN.out HFu' HG.out (hb9.trans h5.box.symm) ((hlm7.keep hMu hne).keep hm89 (by omega)) ?_ ?_ ?_ ?_ (by simp) ?_ ?_,?_,?_⟩
   ·have:=hum72.keep hm89 (by omega)
    simpa using this
   ·rw[HUN.out,HCN.out];exact hB9
   ·intro p hp hpk
    rcases List.mem_append.1 hp with hp|hp
    ·have h1:=hlt7 p.2 (.inr (.inr (.inr ⟨p,hp,rfl⟩)))
     exact hm89.obj (b:=p.2) (by omega) (hMu.obj (b:=p.2) (hnu p hp).2.2 (hub7 p hp))
    ·simp at hp;subst hp;exact absurd rfl hpk
   ·intro p hp hpk
    rcases List.mem_append.1 hp with hp|hp
    ·exact absurd (hpk▸List.mem_map.2 ⟨p,hp,rfl⟩) hnot
    ·simp at hp;subst hp;rfl
   ·intro r hr;simp[hr]
   ·rw[List.map_append,List.nodup_append]
    refine⟨h5.ud,by simp,fun x hx y hy e=>?_⟩;obtain⟨p,hp,rfl⟩:=List.mem_map.1 hx;have h1:=hlt7 p.2 (.inr (.inr (.inr ⟨p,hp,rfl⟩)))
    simp at hy;omega
   ·exact(((hM.mono (S':=cE bl ml mu us) (fun _ _ h=>False.elim h)).trans hM7 (fun j _ e=>.inr (.inl e))).trans hMu (fun j _ e=>.inr (.inr (.inl e)))).trans hm89 (fun j hj e=>by omega)
   ·intro j hj
    rcases hj with e|e|e|⟨p,hp,e⟩
    ·exact .inl (.inl e)
    ·exact .inl (.inr (.inl e))
    ·exact .inl (.inr (.inr (.inl e)))
    ·rcases List.mem_append.1 hp with hp|hp
     ·exact .inl (.inr (.inr (.inr ⟨p,hp,e⟩)))
     ·simp at hp;subst hp;exact .inr ⟨by rw[e];show w.heap.size<=w7.heap.size;omega,by rw[e];exact hlt9⟩
  |some ub=>
   refine qL [3,3,3,1,3,1,3] ?_;simp only[qB];refine qG 98 hc72 ?_;simp only[qB]
   refine cF rfl (v:=iO ub) (lookS_at hum7 _ _ k.1 (by rfl) (by rfl) (by rfl) (by simp[useP,hgu,tD])) trivial ?_;simp only[qB]
   have hmem:=jZ hgu;have hBu:=hub7 _ hmem;have HGU:=O hgu;clear hgu;go_upto_region 19 with(fail);refine qL [3,3,3,1,3,3,3,3,1] ?_;simp only[qB]
   refine qG (v:=.int .i64 (xK l k.1)) (b:=ub) (off:=0) 3 (by simp[World.cell?,hBu]) ?_;simp only[qB]
   refine aB _ _ _ _ (xK l k.1) size rfl rfl rfl rfl (by have:=hub2.1;omega) (by have:=hub2.2;omega) ?_;simp only[qB]
   refine qK (zR 3 0 (.int .i64 (xK l k.1+size)) hBu (fun w8 hB8 hm8=>?_) (hoff:=by simp));simp only[qB]
   replace hB8:w8.heap[ub]?=some (.cells #[.int .i64 (xK l k.1+size),.int .i64 ((xL l k.1:Int))] 237 (0,0)):=hB8;go_upto_region 20 with(fail)
   refine qL [3,3,3,1,3,3,3,1] ?_;simp only[qB];refine qG (v:=.int .i64 ((xL l k.1:Int))) (b:=ub) (off:=1) 3 (by simp[World.cell?,hB8]) ?_
   try simp only[qC]
   refine aB _ _ _ _ ((xL l k.1:Int)) 1 rfl rfl rfl rfl (by have:=HCb.out;have:=HFew.out;omega) (by have:=HCb.out;have:=HFew.out;omega) ?_;simp only[qB]
   refine qK (zR 3 1 (.int .i64 ((xL l k.1:Int)+1)) hB8 (fun w9 hB9 hm9=>?_) (hoff:=by simp));simp only[qB]
   replace hB9:w9.heap[ub]?=some (.cells #[.int .i64 (xK l k.1+size),.int .i64 ((xL l k.1:Int)+1)] 237 (0,0)):=hB9
   have hm89:Mod (fun j=>j=ub) w7 w9:=hm8.trans hm9 (fun _ _ h=>h);go_wp2;go_ret2;have HFu':=HFu.out;rw[HRt.out,HF.out _ _ HRt.out];have hsz67:=hM7.size
   have hszw:=hM.size;have hlt7:∀j,cE bl ml mu us j->j<w7.heap.size:=fun j hj=>Nat.lt_of_lt_of_le (hltm j hj) hM7.size;have hneu:=hnu _ hmem;have hn1:=hneu.1
   have hn2:=hneu.2.1;have hn3:=hneu.2.2
   refine⟨rfl,us,h5.added (b:=ub) ⟨hs0,hs4⟩ HN.out HFu' HG.out ((hm89.obj (b:=bl) (fun e=>hn1 e.symm) hbox7).trans h5.box.symm) (hlm7.keep hm89 (fun e=>hn2 e.symm)) (hum7.keep hm89 (fun e=>hn3 e.symm)) hB9 ?_ ?_ (List.mem_map.2 ⟨_,hmem,rfl⟩) (fun r _=>Iff.rfl) h5.ud,?_,fun j hj=>.inl hj⟩
   ·intro p hp hpk
    exact hm89.obj (b:=p.2) (fun e=>hpk (congrArg Prod.fst (tP (f:=(·.2)) h5.ud hp hmem e))) (hub7 p hp)
   ·intro p hp hpk
    exact congrArg Prod.snd (tP (f:=(·.1)) h5.und hp hmem hpk)
   ·exact((hM.mono (S':=cE bl ml mu us) (fun _ _ h=>False.elim h)).trans hM7 (fun j _ e=>.inr (.inl e))).trans hm89 (fun j _ e=>.inr (.inr (.inr ⟨_,hmem,e⟩)))
end
section
variable{w:iN}{bl ml mu:Nat}{limit:Int}{hold:Value}{l:qU}{us:List (ByteArray×Nat)}
theorem LkInv.sethold(h:LkInv w bl ml mu limit hold l us){hold':Value}(h1:hold'.oneCell'=true)(hb:w'.heap[bl]?=some (.cells #[.int .i64 limit,.map (some ml),.map (some mu),hold'] 101 (0,0)))(hm:Mod (fun j=>j=bl) w w'):LkInv w' bl ml mu limit hold' l us:=by
 have hn:=h.nes
 exact⟨hb,h1,h.lm.keep hm (fun e=>hn.1 e.symm),h.um.keep hm (fun e=>hn.2.1 e.symm),fun p hp=>hm.obj (hn.2.2 p hp).1 (h.ub p hp),h.uk,h.ud,h.sz,h.nm,h.few,h.ne,h.lim⟩
def LkedH(w:iN)(bl ml mu:Nat)(limit:Int)(us:List (ByteArray×Nat))(w':iN)(l':qU):Prop:=∃hold',Lked w bl ml mu limit hold' us w' l'
theorem Lked.from{l':qU}(hm:Mod (cE bl ml mu us) w w1)(h:Lked w1 bl ml mu limit hold us w' l'):Lked w bl ml mu limit hold us w' l':=by
 obtain⟨us',h1,h2,h3⟩:=h;exact⟨us',h1,hm.trans h2 (fun _ _ h=>h),fun k hk=>(h3 k hk).imp id fun hn=>⟨Nat.le_trans hm.size hn.1,hn.2⟩⟩
def AddR(asked:Bool)(w:iN)(bl ml mu:Nat)(limit:Int)(l:qU)(us:List (ByteArray×Nat))(k:uN)(size:Int):iJ:=fun e w'=>
 e=.returned (.tuple #[.bool (addE asked limit l k size).1,.int .i64 (addE asked limit l k size).2])/\LkedH w bl ml mu limit us w' (iE asked limit l k size)
theorem link_any(h:LkInv w bl ml mu limit hold l us)(k:uN)(hk:kH k)(hsz:k.1.size<=maxLen)(size:Int):
 Calls prog 123 #[iO bl,.string k.1,.agg (qA k.2),.int .i64 size] w (AddR true w bl ml mu limit l us k size):=by
 have hmf:=jK;go_enter func123,ntmps123;go_upto_region 0 with(fail);refine qL [1,1,3,3] ?_;simp only[qB];refine qK (zT 76 (fun w1 hB1 hm1 hs1=>?_))
 replace hB1:w1.heap[w.heap.size]?=some (.cells #[iO bl] 76 (0,0)):=hB1;try simp only[qC]
 refine qK (zT 24 (fun w2 hB2 hm2 hs2=>?_));replace hB2:w2.heap[w1.heap.size]?=some (.cells (qA k.2) 24 (0,0)):=hB2;replace hB1:=hm2.obj id hB1
 have hM:=hm1.trans0 hm2;simp only[qB];have h2:=h.keep0 hM;have hc1:w2.cell? ⟨w.heap.size,0,none⟩=some (iO bl):=by simp[World.cell?,hB1]
 go_upto_region 3 with(go_at_call 141;refine h2.made.mono ?_;rintro _ w3 ⟨rfl,hw⟩;obtain rfl:=hw.symm);have hlt:=h.lt bl (.inl rfl);refine qL [1,1,3,3,1] ?_
 simp only[qB];refine qG 76 hc1 ?_;try simp only[qC]
 refine kS rfl ?_;go_wp2;simp only[qB];refine qK (zR 99 3 (.func (.func 196) #[] #[iO w.heap.size]) h2.box (fun w4 hB4 hm4=>?_) (hoff:=by simp))
 simp only[qB];have h4:=h2.sethold (w':=w4) rfl hB4 hm4;replace hB1:=hm4.obj (b:=w.heap.size) (by omega) hB1;replace hB2:=hm4.obj (b:=w1.heap.size) (by omega) hB2
 have hc4:w4.cell? ⟨w.heap.size,0,none⟩=some (iO bl):=by simp[World.cell?,hB1]
 have hca:CellsAt w4 w1.heap.size 0 (qA k.2):=CellsAt.whole hB2
 have hH:HoldIs w4 bl (.func (.func 196) #[] #[iO w.heap.size]) true:=⟨_,rfl,hc4⟩
 have hM4:Mod (cE bl ml mu us) w w4:=(hM.mono (S':=cE bl ml mu us) (fun _ _ h=>False.elim h)).trans hm4 (fun _ _ e=>.inl e);go_upto_region 4 with(fail)
 refine qL [1,3,1,3,1,3,3,3,3] ?_;simp only[qB];refine qG 76 hc4 ?_;simp only[qB];refine qY 24 hca 32 (by rw[qD];exact hk) ?_;simp only[qB]
 refine kS rfl ?_;go_wp2_with (go_at_call 188;refine(add_any h4 hH k hk hsz size).mono ?_;rintro _ w5 ⟨rfl,hL⟩);try simp only[qC]
 refine qZ (fun _=>by go_simp;try with_reducible rfl) ?_;simp only[qC];refine qZ (fun _=>by go_simp;try with_reducible rfl) ?_;simp only[qB];go_wp2;go_ret2
 exact⟨rfl,_,hL.from hM4⟩
theorem lay_any(h:LkInv w bl ml mu limit hold l us)(k:uN)(hk:kH k)(hsz:k.1.size<=maxLen)(size:Int):
 Calls prog 110 #[iO bl,.string k.1,.agg (qA k.2),.int .i64 size] w (AddR false w bl ml mu limit l us k size):=by
 go_enter func110,ntmps110;go_upto_region 0 with(fail);refine qL [1,3,3] ?_;simp only[qB];refine qK (zT 24 (fun w2 hB2 hM hs2=>?_))
 replace hB2:w2.heap[w.heap.size]?=some (.cells (qA k.2) 24 (0,0)):=hB2;simp only[qB];have h2:=h.keep0 hM
 go_upto_region 3 with(go_at_call 141;refine h2.made.mono ?_;rintro _ w3 ⟨rfl,hw⟩;obtain rfl:=hw.symm);have hlt:=h.lt bl (.inl rfl);refine qL [3,3,3,1] ?_
 simp only[qB];refine qK (zR 99 3 (.func (.func 187) #[] #[]) h2.box (fun w4 hB4 hm4=>?_) (hoff:=by simp));simp only[qB];have h4:=h2.sethold (w':=w4) rfl hB4 hm4
 replace hB2:=hm4.obj (b:=w.heap.size) (by omega) hB2;have hca:CellsAt w4 w.heap.size 0 (qA k.2):=CellsAt.whole hB2
 have hH:HoldIs w4 bl (.func (.func 187) #[] #[]) false:=rfl
 have hM4:Mod (cE bl ml mu us) w w4:=(hM.mono (S':=cE bl ml mu us) (fun _ _ h=>False.elim h)).trans hm4 (fun _ _ e=>.inl e);go_upto_region 4 with(fail)
 refine qL [3,3,1,3,1,3,3,3,3] ?_;simp only[qB];refine qY 24 hca 32 (by rw[qD];exact hk) ?_;simp only[qB];refine kS rfl ?_
 go_wp2_with (go_at_call 188;refine(add_any h4 hH k hk hsz size).mono ?_;rintro _ w5 ⟨rfl,hL⟩);try simp only[qC]
 refine qZ (fun _=>by go_simp;try with_reducible rfl) ?_;simp only[qC];refine qZ (fun _=>by go_simp;try with_reducible rfl) ?_;simp only[qB];go_wp2;go_ret2
 exact⟨rfl,_,hL.from hM4⟩
end
def LkOk(w:iN)(p:Value)(limit:Int)(l:qU)(F:iM):Prop:=
 ∃bl ml mu hold us,p=iO bl/\LkInv w bl ml mu limit hold l us/\∀k,cE bl ml mu us k->F k
structure LkAt(w0 w:iN)(p:Value)(limit:Int)(l:qU)(F:iM):Prop where
 mod:Mod qJ w0 w
 ok:LkOk w p limit l F
 old:∀k,F k->w0.heap.size<=k
 lt:∀k,F k->k<w.heap.size
def LStep(w0 w:iN)(p:Value)(limit:Int)(F:iM)(w':iN)(l:qU):Prop:=∃F',LkAt w0 w' p limit l F'/\Mod F w w'/\∀k,F' k->F k\/gD w w' k
section
variable{w0 w:iN}{p:Value}{limit:Int}{l:qU}{F:iM}
theorem LkAt.keep{w':iN}{S:iM}(h:LkAt w0 w p limit l F)(hm:Mod S w w')(hS:∀k,F k->¬S k)(hS0:∀k,k<w0.heap.size->¬S k):LkAt w0 w' p limit l F:=by
 obtain⟨hM,⟨bl,ml,mu,hold,us,hp,hi,hF⟩,hF0,hlt⟩:=h
 exact⟨hM.trans hm (fun k hk hs=>hS0 k hk hs),⟨bl,ml,mu,hold,us,hp,hi.keep hm (fun k hk=>hS k (hF k hk)),hF⟩,hF0,fun k hk=>Nat.lt_of_lt_of_le (hlt k hk) hm.size⟩
theorem LkAt.keep0(h:LkAt w0 w p limit l F)(hm:Mod qJ w w'):LkAt w0 w' p limit l F:=h.keep hm (fun _ _=>id) (fun _ _=>id)
theorem LStep.mk{ml mu:Nat}{us:List (ByteArray×Nat)}{l':qU}(h:LkAt w0 w (iO bl) limit l F)(hF:∀k,cE bl ml mu us k->F k)
 (hL:Lked w bl ml mu limit hold us w' l'):LStep w0 w (iO bl) limit F w' l':=by
 obtain⟨us',hi,hm,hn⟩:=hL
 refine⟨fun k=>F k\/gD w w' k,⟨h.mod.trans hm (fun k hk hs=>by have:=h.old k (hF k hs);omega),⟨bl,ml,mu,hold,us',rfl,hi,fun k hk=>(hn k hk).imp (hF k) id⟩,fun k hk=>?_,fun k hk=>?_⟩,hm.mono (fun k _ hk=>hF k hk),fun k hk=>hk⟩
 ·rcases hk with hk|hk
  ·exact h.old k hk
  ·have h1:=hk.1;have h2:=h.mod.size;omega
 ·rcases hk with hk|hk
  ·exact Nat.lt_of_lt_of_le (h.lt k hk) hm.size
  ·exact hk.2
theorem new_at(n:Int)(w0:iN)(hn:0<=n/\n<=1099511627776)(w:iN)(hM:Mod qJ w0 w):Calls prog 109 #[.int .i64 n] w fun e w'=>∃b F,e=.returned (.tuple #[iO b,.int .i64 0])/\LkAt w0 w' (iO b) n [] F/\Mod qJ w w'/\∀k,F k->w.heap.size<=k:=by
 refine(new_any n w).mono ?_;rintro e w' (⟨_,_,bl,ml,mu,rfl,hi,hm,hF⟩|⟨hno,_⟩)
 ·exact⟨bl,cE bl ml mu [],rfl,⟨hM.trans0 hm,⟨bl,ml,mu,_,[],rfl,hi,fun k hk=>hk⟩,fun k hk=>Nat.le_trans hM.size (hF k hk).1,fun k hk=>(hF k hk).2⟩,hm,fun k hk=>(hF k hk).1⟩
 ·exact absurd hn hno
theorem link_at(h:LkAt w0 w p limit l F)(k:uN)(hk:kH k)(hsz:k.1.size<=maxLen)(size:Int):
 Calls prog 123 #[p,.string k.1,.agg (qA k.2),.int .i64 size] w (fun e w'=>e=.returned (.tuple #[.bool (addE true limit l k size).1,.int .i64 (addE true limit l k size).2])/\LStep w0 w p limit F w' (iE true limit l k size)):=by
 obtain⟨_,⟨bl,ml,mu,hold,us,rfl,hi,hF⟩,_,_⟩:=id h;refine(link_any hi k hk hsz size).mono ?_;rintro e w' ⟨he,hold',hL⟩;exact⟨he,LStep.mk h hF hL⟩
theorem lay_at(h:LkAt w0 w p limit l F)(k:uN)(hk:kH k)(hsz:k.1.size<=maxLen)(size:Int):
 Calls prog 110 #[p,.string k.1,.agg (qA k.2),.int .i64 size] w (fun e w'=>e=.returned (.tuple #[.bool (addE false limit l k size).1,.int .i64 (addE false limit l k size).2])/\LStep w0 w p limit F w' (iE false limit l k size)):=by
 obtain⟨_,⟨bl,ml,mu,hold,us,rfl,hi,hF⟩,_,_⟩:=id h;refine(lay_any hi k hk hsz size).mono ?_;rintro e w' ⟨he,hold',hL⟩;exact⟨he,LStep.mk h hF hL⟩
theorem LkAt.facts(h:LkAt w0 w p limit l F):(∃b,p=iO b)/\(l.map (·.1)).Nodup/\(∀q∈l,kH q.1)/\(∀q∈l,0<=q.2/\q.2<=4096)/\(∀q∈l,uP q.1.1=true)/\l.length<=65536:=by
 obtain⟨_,⟨bl,ml,mu,hold,us,rfl,hi,hF⟩,_,_⟩:=id h;exact⟨⟨_,rfl⟩,hi.nd,hi.keyOk,hi.sz,hi.nm,hi.few⟩
end
theorem useOf_del{k:uN}{x:Int}:∀{l:qU},qR k l=some x->∀r,xK (jE k l) r+(if k.1=r then x else 0)=xK l r
 | [],h,_=>by cases h
 |p::l,h,r=>by
  unfold qR at h;unfold jE
  split at h
  ·rename_i hk
   rw[if_pos hk];subst hk;have:p.2=x:=by simpa using h
   simp only[xK,this];omega
  ·rename_i hk
   rw[if_neg hk];have:=useOf_del h r;simp only[xK];omega
theorem cntOf_del{k:uN}{x:Int}:∀{l:qU},qR k l=some x->∀r,xL (jE k l) r+(if k.1=r then 1 else 0)=xL l r
 | [],h,_=>by cases h
 |p::l,h,r=>by
  unfold qR at h;unfold jE
  split at h
  ·rename_i hk
   rw[if_pos hk];subst hk;simp only[xL];omega
  ·rename_i hk
   rw[if_neg hk];have:=cntOf_del h r;simp only[xL];omega
theorem mem_del{α β:Type}[DecidableEq α]{k:α}{p:α×β}:∀{l:List (α×β)},p∈jE k l->p∈l
 | [],h=>by cases h
 |q::l,h=>by
  unfold jE at h
  split at h
  ·exact List.mem_cons_of_mem _ h
  ·rcases List.mem_cons.1 h with rfl|h
   ·simp
   ·exact List.mem_cons_of_mem _ (mem_del h)
theorem length_del{α β:Type}[DecidableEq α](k:α)(l:List (α×β)):(jE k l).length<=l.length:=by
 induction l with
 |nil=>simp[jE]
 |cons q l ih=>unfold jE;split<;>simp<;>omega
theorem snd_del{α β:Type}[DecidableEq α]{k:α}{l:List (α×β)}:((jE k l).map (·.2)).Sublist (l.map (·.2)):=by
 induction l with
 |nil=>simp[jE]
 |cons q l ih=>unfold jE;split
               ·simp
               ·simpa using ih
theorem Mod.of_drew{a b:iN}(h:Mod S a.drew b):Mod S a b:=⟨h.os,h.tape,h.output,h.size,h.block⟩
theorem mem_keys_del{α β:Type}[DecidableEq α]{k x:α}{l:List (α×β)}(h:(l.map (·.1)).Nodup):x∈(jE k l).map (·.1)↔x≠k/\x∈l.map (·.1):=by
 rw[keys_del,h.mem_erase_iff]
section
variable{w:iN}{bl ml mu:Nat}{limit:Int}{hold:Value}{l:qU}{us:List (ByteArray×Nat)}
theorem LkInv.deleted(h:LkInv w bl ml mu limit hold l us){k:uN}(hg:qR k l=some x)(hgu:qR k.1 us=some b)
 (hbox:w'.heap[bl]?=w.heap[bl]?)(hlm:MapIs fY kH w' ml (jE k (l.map fun p=>(p.1,kE p.2))))(hum:MapIs Value.string (fun _=>True) w' mu (us'.map fun p=>(p.1,tD p.2)))
 (hus:us'=if xL l k.1=1 then jE k.1 us else us)(hub:xL l k.1≠1->w'.heap[b]?=some (.cells #[.int .i64 (xK l k.1-x),.int .i64 ((xL l k.1:Int)-1)] 237 (0,0)))
 (hot:∀p∈us,p.2≠b->w'.heap[p.2]?=w.heap[p.2]?):LkInv w' bl ml mu limit hold (jE k l) us':=by
 have hu:=useOf_del hg;have hc:=cntOf_del hg;have hck:=hc k.1;rw[if_pos rfl]at hck
 have hsub:∀p∈us',p∈us:=fun p hp=>by
  rw[hus]at hp;split at hp
  ·exact mem_del hp
  ·exact hp
 have hmem:=jZ hgu
 refine⟨hbox.trans h.box,h.one,?_,hum,fun p hp=>?_,fun r=>?_,?_,fun p hp=>h.sz p (mem_del hp),fun p hp=>h.nm p (mem_del hp),Nat.le_trans (length_del _ _) h.few,h.ne,h.lim⟩
 ·rw[delL_map (f:=kE)]at hlm
  exact hlm
 ·have hp':=hsub p hp
  by_cases hpk:p.1=k.1
  ·have e:p=(k.1,b):=tP (f:=(·.1)) h.und hp' hmem hpk
   by_cases h1:xL l k.1=1
   ·rw[hus,if_pos h1]at hp
    have:k.1∉(jE k.1 us).map (·.1):=getL_none.1 (by rw[getL_del _ _ _ h.und,if_pos rfl]);exact absurd (List.mem_map.2 ⟨p,hp,hpk⟩) this
   ·have h2:=hu k.1
    rw[if_pos rfl]at h2;rw[e];have e1:xK (jE k l) k.1=xK l k.1-x:=by omega
    have e2:((xL (jE k l) k.1:Nat):Int)=(xL l k.1:Int)-1:=by omega
    rw[show(k.1,b).1=k.1 from rfl,e1,e2];exact hub h1
  ·have h2:=hu p.1
   have h3:=hc p.1;rw[if_neg (fun e=>hpk e.symm)]at h2 h3
   rw[show xK (jE k l) p.1=xK l p.1 by omega,show xL (jE k l) p.1=xL l p.1 by omega,hot p hp' (fun e=>hpk (congrArg Prod.fst (tP (f:=(·.2)) h.ud hp' hmem e)))]
   exact h.ub p hp'
 ·have h3:=hc r
  by_cases hr:k.1=r
  ·subst hr
   rw[if_pos rfl]at h3;have hin:k.1∈us.map (·.1):=List.mem_map.2 ⟨_,hmem,rfl⟩
   by_cases h1:xL l k.1=1
   ·rw[hus,if_pos h1]
    have:k.1∉(jE k.1 us).map (·.1):=getL_none.1 (by rw[getL_del _ _ _ h.und,if_pos rfl]);exact⟨fun h=>absurd h this,fun h=>by omega⟩
   ·rw[hus,if_neg h1]
    exact⟨fun _=>by have:=(h.uk k.1).1 hin;omega,fun _=>hin⟩
  ·rw[if_neg hr]at h3
   rw[show xL (jE k l) r=xL l r by omega,<-h.uk,hus]
   split
   ·rw[mem_keys_del h.und];exact⟨fun h=>h.2,fun h=>⟨fun e=>hr e.symm,h⟩⟩
   ·exact Iff.rfl
 ·rw[hus];split
  ·exact h.ud.sublist snd_del
  ·exact h.ud
theorem exec_field_link(t:Operand)(x:Int)(ho:o.op=.field 246 t 0)(hx:a.eval t=.agg #[.int .i64 x]):(execOp a.eval o).run prog w=.ok (.value (.int .i64 x)) w:=by
 have hag:(isAgg 3).run prog w=.ok false w:=by
  unfold isAgg;rw[Sem.run_bind,run_underlying underlying3 w];rfl
 have hp:(part 3 #[.int .i64 x] 0).run prog w=.ok (.int .i64 x) w:=by
  unfold part;rw[Sem.run_bind,hag]
  simp
 have hf:(Instr.field 246 (.agg #[.int .i64 x]) 0).run prog w=.ok (.int .i64 x) w:=by
  unfold Instr.field
  simp[run_underlying underlying246,asAgg,hp]
 unfold execOp;simp only[ho,hx,Sem.run_bind,hf,Result.andThen_ok,Sem.run_pure]
def unL(l:qU)(k:uN):qU:=if(qR k l).isSome then jE k l else l
def UnR(w:iN)(bl ml mu:Nat)(limit:Int)(hold:Value)(l:qU)(us:List (ByteArray×Nat))(k:uN):iJ:=fun e w'=>e=.returned (.bool (qR k l).isSome)/\Lked w bl ml mu limit hold us w' (unL l k)
theorem unlink_any(h:LkInv w bl ml mu limit hold l us)(k:uN)(hk:kH k):
 Calls prog 198 #[iO bl,.string k.1,.agg (qA k.2)] w (UnR w bl ml mu limit hold l us k):=by
 obtain⟨g,hg⟩:∃g,qR k l=g:=⟨_,rfl⟩;have HG:=O hg;unfold UnR;rw[hg];clear hg;go_enter func198,ntmps198;go_upto_region 0 with(fail);refine qL [1,3] ?_
 simp only[qB];refine qK (zT 24 (fun w1 hB1 hm1 hs1=>?_));replace hB1:w1.heap[w.heap.size]?=some (.cells (qA k.2) 24 (0,0)):=hB1;simp only[qB]
 have h1:=h.keep0 hm1;have hca:CellsAt w1 w.heap.size 0 (qA k.2):=CellsAt.whole hB1;go_upto_region 1 with(fail);refine qL [3,3,1,1,3] ?_;simp only[qB]
 refine qY 24 hca 32 (by rw[qD];exact hk) ?_;try simp only[qC]
 refine kS rfl ?_;go_wp2_with (go_at_call 76;refine(has_any h1 k hk).mono ?_;rintro _ w2 ⟨rfl,hm2⟩;rw[HG.out]);try simp only[qB]
 try refine xC _ _ _ rfl rfl rfl ?_
 try simp only[qB]
 clear hca;have hM:=hm1.trans0 hm2;replace hB1:=hm2.obj id hB1;replace h1:=h1.keep0 hm2;clear hm1 hm2
 cases g with
 |none=>
  go_wp2;go_ret;rw[show unL l k=l by unfold unL;rw[HG.out];rfl];exact⟨rfl,LkInv.stay (by assumption) hM⟩
 |some x=>
  have hcp:0<xL l k.1:=dV (jZ HG.out);have hx:=h.sz _ (jZ HG.out)
  obtain⟨ub,hgu⟩:∃ub,qR k.1 us=some ub:=by
   cases hq:qR k.1 us with
   |none=>have:=(h.useNone k.1).1 hq;omega
   |some ub=>exact⟨ub,rfl⟩
  have hmem:=jZ hgu;have hub:=h1.ub _ hmem;have hul:=useOf_le l k.1 h.sz;have hfew:=h.few;have hcl:=cntOf_le l k.1
  have hb1:-9223372036854775808<=xK l k.1-x/\xK l k.1-x<=9223372036854775807:=by have:=hx.1;have:=hx.2;have e:(((k.1,k.2),x):uN×Int).2=x:=rfl;rw[e]at*;omega
  have hb2:-9223372036854775808<=(xL l k.1:Int)-1/\(xL l k.1:Int)-1<=9223372036854775807:=by omega
  have HCP:=O hcp;clear hul hfew hcl hx hcp;have hc2:=h1.cell.2.2.1;go_upto_region 3 with(fail);refine qL [3,3,3,1,3,1,3] ?_;simp only[qB];refine qG 98 hc2 ?_
  simp only[qB];refine cF rfl (v:=iO ub) (lookS_at h1.um _ _ k.1 (by rfl) (by rfl) (by rfl) (by simp[useP,hgu,tD])) trivial ?_;simp only[qB]
  have HGU:=O hgu;clear hgu;go_upto_region 4 with(fail);have hS:Mod qJ w2 w2.drew:=(Mod.refl _ _).drew
  have hlk:linkG k l=.agg #[.int .i64 x]:=by unfold linkG;rw[HG.out];rfl
  have HLK:=O hlk;clear hlk;have hcu:w2.cell? ⟨ub,0,none⟩=some (.int .i64 (xK l k.1)):=by simp[World.cell?,hub]
  refine zZ [3,3,3,0,3,3,3,0,3,0,3,0,3,3,3,3,2] [16] (fun w'=>Mod qJ w2 w') hS ?_;simp only[qB];refine qE 3 (fun w' hS=>hS.cell id hcu) ?_
  simp only[qB];refine qE 97 (fun w' hS=>(h1.keep0 hS).cell.2.1) ?_;simp only[qB]
  refine zJ 24 (fun w' hS=>CellsAt.whole (hS.obj id hB1)) 32 (by rw[qD];exact hk) ?_;simp only[qC]
  refine qM (v:=fY k) rfl (fun w'=>uE _ _ k hk rfl rfl rfl) ?_;simp only[qC]
  refine qV rfl (fun w' hS=>((h1.keep0 hS).lookK1 _ _ k hk (by rfl) (by rfl) (by rfl)).trans (by rw[HLK.out])) ?_;simp only[qC]
  refine qM (v:=.int .i64 x) rfl (fun w'=>exec_field_link _ x rfl rfl) ?_;simp only[qC];refine yC _ _ _ _ (xK l k.1) x rfl rfl rfl rfl hb1.1 hb1.2 ?_
  simp only[qB];refine zP rfl (fun K hK=>?_);refine zR 3 0 (.int .i64 (xK l k.1-x)) (hS.obj (b:=ub) id hub) (fun w3 hB3 hm3=>?_) (hoff:=by simp)
  refine hK _ _ ?_;clear hK K;simp only[qB];replace hB3:w3.heap[ub]?=some (.cells #[.int .i64 (xK l k.1-x),.int .i64 (xL l k.1)] 237 (0,0)):=hB3;clear hS hcu hub
  go_upto_region 5 with(fail);refine qL [3,3,3,1,3,3,3,1] ?_;simp only[qB]
  refine qG (v:=.int .i64 (xL l k.1)) (b:=ub) (off:=1) 3 (by simp[World.cell?,hB3]) ?_;try simp only[qC]
  refine yC _ _ _ _ (xL l k.1:Int) 1 rfl rfl rfl rfl hb2.1 hb2.2 ?_;simp only[qB]
  refine qK (zR 3 1 (.int .i64 ((xL l k.1:Int)-1)) hB3 (fun w4 hB4 hm4=>?_) (hoff:=by simp));simp only[qB]
  replace hB4:w4.heap[ub]?=some (.cells #[.int .i64 (xK l k.1-x),.int .i64 ((xL l k.1:Int)-1)] 237 (0,0)):=hB4
  have hm24:Mod (fun j=>j=ub) w2 w4:=(hm3.trans hm4 (fun _ _ h=>h)).of_drew;obtain⟨tc,htc⟩:∃tc,vW .eql ((xL l k.1:Int)-1) 0=tc:=⟨_,rfl⟩
  have HTC:=O htc;clear htc hm3 hm4;go_upto_region 6 with(fail);refine qL [3,3,3,1,3] ?_;simp only[qB]
  refine qG (v:=.int .i64 ((xL l k.1:Int)-1)) (b:=ub) (off:=1) 3 (by simp[World.cell?,hB4]) ?_;try simp only[qC]
  refine qN _ _ _ _ _ _ _ _ rfl rfl rfl rfl rfl tc HTC.out ?_;simp only[qB];have hn:=h1.nes;have hnu:=hn.2.2 _ hmem;have hn1:=hnu.1;have hn2:=hnu.2.1
  have hn3:=hnu.2.2;have hltw:∀j,cE bl ml mu us j->j<w.heap.size:=h.lt;have hltu:=hltw ub (.inr (.inr (.inr ⟨_,hmem,rfl⟩)))
  replace hB1:=hm24.obj (b:=w.heap.size) (by omega) hB1;have hbox4:=hm24.obj (b:=bl) (fun e=>hn1 e.symm) h1.box;have hlm4:=h1.lm.keep hm24 (fun e=>hn2 e.symm)
  have hum4:=h1.um.keep hm24 (fun e=>hn3 e.symm)
  have hot4:∀p∈us,p.2≠ub->w4.heap[p.2]?=w2.heap[p.2]?:=fun p hp hne=>(hm24.obj (b:=p.2) hne (h1.ub p hp)).trans (h1.ub p hp).symm
  have HUN:Hid (unL l k=jE k l):=O (by unfold unL;rw[HG.out];rfl)
  -- THE USE's ENTRY GOES,IF IT WAS THE LAST;w5:behind that
  cases tc
  case true=>
   have hc1:xL l k.1=1:=by
    have:=HTC.out;simp only[vW,decide_eq_true_eq]at this;have:=HCP.out;omega
   have HC1:=O hc1;clear hc1;have hcm:w4.cell? ⟨bl,2,none⟩=some (.map (some mu)):=by simp[World.cell?,hbox4]
   go_upto_region 7 with(fail);refine qL [3,3,3,1,3,1] ?_;simp only[qB];refine qG 98 hcm ?_;simp only[qB]
   refine qK (wp_delL (bK underlying9) hum4 k.1 trivial 98 230 underlying98 _ _ (by rfl) (by rfl) (by rfl) (fun w5 hum5 hm5=>?_));simp only[qB]
   rw[delL_map (f:=tD)]at hum5;have hbmu:=hn.2.1;have hne:=h1.ne;have hltm:=hltw mu (.inr (.inr (.inl rfl)));replace hB1:=hm5.obj (b:=w.heap.size) (by omega) hB1
   replace hB4:=hm5.obj (b:=ub) hn3 hB4;replace hbox4:=hm5.obj (b:=bl) hbmu hbox4;replace hlm4:=hlm4.keep hm5 hne
   have hot5:∀p∈us,p.2≠ub->w5.heap[p.2]?=w2.heap[p.2]?:=fun p hp hq=>by
    rw[<-hot4 p hp hq,hm5.block p.2 ?_ (hn.2.2 p hp).2.2];have:=hltw p.2 (.inr (.inr (.inr ⟨p,hp,rfl⟩)));have:=hM.size;have:=hm24.size;omega
   have hus:jE k.1 us=if xL l k.1=1 then jE k.1 us else us:=by rw[if_pos HC1.out]
   have HUS:=O hus;clear hus
   have hMw:Mod (fun j=>j=ub\/j=mu) w2 w5:=(hm24.mono (S':=fun j=>j=ub\/j=mu) (fun _ _ h=>.inl h)).trans hm5 (fun _ _ h=>.inr h)
   have hcl:w5.cell? ⟨bl,1,none⟩=some (.map (some ml)):=by simp[World.cell?,hbox4]
   have hbml:=hn.1;have hltl:=hltw ml (.inr (.inl rfl));go_upto_region 8 with(fail);have hS:Mod (fun j=>j=ml) w5 w5.drew:=(Mod.refl _ _).drew
   refine zZ [3,3,3,0,3,0,3,1] [] (fun w'=>Mod (fun j=>j=ml) w5 w') hS ?_;simp only[qB];refine qE 97 (fun w' hS=>hS.cell (by exact hbml) hcl) ?_
   simp only[qB];refine zJ 24 (fun w' hS=>CellsAt.whole (hS.obj (b:=w.heap.size) (by omega) hB1)) 32 (by rw[qD];exact hk) ?_;simp only[qC]
   refine qM (v:=fY k) rfl (fun w'=>uE _ _ k hk rfl rfl rfl) ?_;simp only[qC];refine qH rfl (fun K hK=>?_)
   refine wp_delL eY (hlm4.keep0 (Mod.refl qJ w5).drew) k hk 97 246 underlying97 _ _ (by rfl) (by rfl) (by rfl) (fun w7 hlm7 hm7=>?_)
   have hM7:Mod (fun j=>j=ml) w5 w7:=hS.trans hm7 (fun _ _ h=>h);refine hK _ _ hM7 ?_;clear hK K;simp only[qB];go_wp2;go_ret;refine⟨rfl,?_⟩;rw[HUN.out]
   refine⟨jE k.1 us,h1.deleted HG.out HGU.out ((hM7.obj (b:=bl) hbml hbox4).trans h1.box.symm) hlm7 (hum5.keep hM7 (fun e=>h1.ne e.symm)) HUS.out (fun _=>hM7.obj (b:=ub) hn2 hB4) (fun p hp hq=>?_),?_,fun j hj=>?_⟩
   ·rw[<-hot5 p hp hq,hM7.block p.2 ?_ (hn.2.2 p hp).2.1]
    have:=hltw p.2 (.inr (.inr (.inr ⟨p,hp,rfl⟩)));have:=hM.size;have:=hMw.size;omega
   ·refine((hM.mono (S':=cE bl ml mu us) (fun _ _ h=>False.elim h)).trans hMw (fun j _ e=>?_)).trans hM7 (fun j _ e=>.inr (.inl e))
    rcases e with e|e
    ·exact .inr (.inr (.inr ⟨_,hmem,e⟩))
    ·exact .inr (.inr (.inl e))
   ·rcases hj with e|e|e|⟨p,hp,e⟩
    ·exact .inl (.inl e)
    ·exact .inl (.inr (.inl e))
    ·exact .inl (.inr (.inr (.inl e)))
    ·exact .inl (.inr (.inr (.inr ⟨p,mem_del hp,e⟩)))
  case false=>
   have hc1:xL l k.1≠1:=by
    intro e;have:=HTC.out
    simp[vW,e]at this
   have HC1:=O hc1;clear hc1;have hus:us=if xL l k.1=1 then jE k.1 us else us:=by rw[if_neg HC1.out]
   have HUS:=O hus;clear hus;have hMw:Mod (fun j=>j=ub\/j=mu) w2 w4:=hm24.mono (S':=fun j=>j=ub\/j=mu) (fun _ _ h=>.inl h)
   have hcl:w4.cell? ⟨bl,1,none⟩=some (.map (some ml)):=by simp[World.cell?,hbox4]
   have hbml:=hn.1;have hltl:=hltw ml (.inr (.inl rfl));go_upto_region 8 with(fail);have hS:Mod (fun j=>j=ml) w4 w4.drew:=(Mod.refl _ _).drew
   refine zZ [3,3,3,0,3,0,3,1] [] (fun w'=>Mod (fun j=>j=ml) w4 w') hS ?_;simp only[qB];refine qE 97 (fun w' hS=>hS.cell (by exact hbml) hcl) ?_
   simp only[qB];refine zJ 24 (fun w' hS=>CellsAt.whole (hS.obj (b:=w.heap.size) (by omega) hB1)) 32 (by rw[qD];exact hk) ?_;simp only[qC]
   refine qM (v:=fY k) rfl (fun w'=>uE _ _ k hk rfl rfl rfl) ?_;simp only[qC];refine qH rfl (fun K hK=>?_)
   refine wp_delL eY (hlm4.keep0 (Mod.refl qJ w4).drew) k hk 97 246 underlying97 _ _ (by rfl) (by rfl) (by rfl) (fun w7 hlm7 hm7=>?_)
   have hM7:Mod (fun j=>j=ml) w4 w7:=hS.trans hm7 (fun _ _ h=>h);refine hK _ _ hM7 ?_;clear hK K;simp only[qB];go_wp2;go_ret;refine⟨rfl,?_⟩;rw[HUN.out]
   refine⟨us,h1.deleted HG.out HGU.out ((hM7.obj (b:=bl) hbml hbox4).trans h1.box.symm) hlm7 (hum4.keep hM7 (fun e=>h1.ne e.symm)) HUS.out (fun _=>hM7.obj (b:=ub) hn2 hB4) (fun p hp hq=>?_),?_,fun j hj=>?_⟩
   ·rw[<-hot4 p hp hq,hM7.block p.2 ?_ (hn.2.2 p hp).2.1]
    have:=hltw p.2 (.inr (.inr (.inr ⟨p,hp,rfl⟩)));have:=hM.size;have:=hMw.size;omega
   ·refine((hM.mono (S':=cE bl ml mu us) (fun _ _ h=>False.elim h)).trans hMw (fun j _ e=>?_)).trans hM7 (fun j _ e=>.inr (.inl e))
    rcases e with e|e
    ·exact .inr (.inr (.inr ⟨_,hmem,e⟩))
    ·exact .inr (.inr (.inl e))
   ·rcases hj with e|e|e|⟨p,hp,e⟩
    ·exact .inl (.inl e)
    ·exact .inl (.inr (.inl e))
    ·exact .inl (.inr (.inr (.inl e)))
    ·exact .inl (.inr (.inr (.inr ⟨p,hp,e⟩)))
end
section
variable{w:iN}{bl ml mu:Nat}{limit:Int}{hold:Value}{l:qU}{us:List (ByteArray×Nat)}
end
section
variable{w0 w:iN}{p:Value}{limit:Int}{l:qU}{F:iM}
theorem unlink_at(h:LkAt w0 w p limit l F)(k:uN)(hk:kH k):
 Calls prog 198 #[p,.string k.1,.agg (qA k.2)] w (fun e w'=>e=.returned (.bool (qR k l).isSome)/\LStep w0 w p limit F w' (unL l k)):=by
 obtain⟨_,⟨bl,ml,mu,hold,us,rfl,hi,hF⟩,_,_⟩:=id h;refine(unlink_any hi k hk).mono ?_;rintro e w' ⟨he,hL⟩;exact⟨he,LStep.mk h hF hL⟩
end
end
end Go.Proofs.YtjeonjoifjbohaaGreat
