/- What the statement SweepMarks needs, part 6. -/
import Derived.OrdersIn
import Derived.RecoverIn
import Derived.RangeFuncCalls
import Derived.Test.YtjeonjoifjbohaaGreatSweepMarksP5
set_option linter.unusedVariables false
set_option linter.unusedSimpArgs false
set_option linter.unnecessarySimpa false
set_option linter.unusedSectionVars false
set_option maxRecDepth 10000
set_option maxHeartbeats 8000000
namespace Go.Proofs.YtjeonjoifjbohaaGreat
variable{a:Act}{K:Act->iN->Prop}{Q:Exit->Act->iN->Prop}{c parts:Int}{l out s:List iK}{b cap e i j k m n pos q wd:Nat}{fr:Nat×Nat}{o:Oper}{ad:Option Addr}{P:Program}{T:TypeId}{rv v vv:Value}{x y:iK}{G R S:iM}{w:iN}
section
open Go.RowKit Go.Proofs.Tryz Go.Lib
theorem Sl.inside{α:Type}{own:Bool}{sz:Nat}{R:iL->α->Prop}{l:List α}(h:Sl own w G sz R v l)(hz:0<sz):Sl own w (fun k=>k<w.heap.size) sz R v l:=by
 obtain⟨ad,cap,e,h1,h2,h3⟩:=h;refine⟨ad,cap,e,h1,h2,fun hne=>?_⟩;obtain⟨b,off,ha,hG,ho,hc⟩:=h3 hne;refine⟨b,off,ha,?_,ho,hc⟩
 cases l with
 |nil=>exact absurd rfl hne
 |cons x l=>
  obtain⟨cs,hs,_,hcs⟩:=hc 0 (by simp);have h0:=hcs 0 (by omega);rw[Array.getElem?_eq_getElem (by omega:0<cs.size)]at h0;exact block_lt_of_cell h0
def evt0:tX:=⟨0,0,[],0,ByteArray.empty,ByteArray.empty,List.replicate 32 0,[]⟩
def evZero:Value:=.agg (vD evt0 (.slice none 0 0) (.slice none 0 0))
theorem infoEvV:(prog.info? 115).map (fun i=>(i.zero,i.size,i.bytes))=some (some evZero,39,136):=by kernel_rfl
theorem zeroEvV:(prog.info? 115).bind (·.zero)=some evZero:=by kernel_rfl
def intInfoV:Value:=.int .i64 0
def idInfoV:Value:=.agg (Array.replicate 32 (.int .u8 0))
theorem infoIntV:(prog.info? 3).map (fun i=>(i.zero,i.size,i.bytes))=some (some intInfoV,1,8):=by kernel_rfl
theorem infoIdV:(prog.info? 24).map (fun i=>(i.zero,i.size,i.bytes))=some (some idInfoV,32,32):=by kernel_rfl
theorem copyInts_any(own:Bool)(G:iM)(v:Value)(l:List Int)(w:iN)(hl:Sl own w G 1 dH v l)(hlen:l.length<=1048576):
 Calls prog 113 #[v] w (RetN w fun v' w'=>Sl true w' (gD w w') 1 dH v' l):=by
 obtain⟨css,hall,hsz,hsrc⟩:=hl.src (by omega);go_enter func113,ntmps113;go_upto_region 1 with(fail);refine qL [1,3,1,3] ?_;simp only[qB]
 refine qK (zU 64 3 (by rfl) underlying64 (by kernel_rfl) (fun w1 hb hm hs=>?_));simp only[qB]
 refine qK (vY _ _ 64 3 intInfoV 1 8 (by rfl) underlying64 infoIntV (by rfl) (by omega) w.heap.size _ 0 [] (by rfl) (yI _ hb (Nat.le_refl _)) _ l.length (css.flatMap Array.toList) (by rfl) (?_:Src w1 1 _ l.length (css.flatMap Array.toList)) (all2_one hall fun _ _=>intC_one) (by unfold maxLen;omega) (by omega) (by omega) (fun v' w2 hown hgrow _=>?_))
 ·obtain⟨h1,ad,c,h2,h3⟩:=hsrc
  refine⟨h1,ad,c,h2,fun hne=>?_⟩;obtain⟨b,off,h4,h5⟩:=h3 hne;exact⟨b,off,h4,fun j x hx=>hm.cell id (h5 j x hx)⟩
 simp only[qB];go_wp2;go_ret;have hm2:Mod qJ w w2:=hm.grown hgrow (fun k hk hlt=>by simp[Value.ownBlock]at hk;omega);refine⟨_,rfl,hm2,?_⟩
 have:=Sl.of_owns hown (by simp) hsz hall (by simp);exact this.mono (fun k hk=>⟨hk.1,hk.2.1⟩) fun _ _ h=>h
def EvOk(e:tX):Prop:=e.deps.length<=1048576/\e.refs.length<=1048576
theorem copyEvent_any(own:Bool)(G:iM)(cs:iL)(e:tX)(w:iN)(he:EvR own w G cs e)(hok:EvOk e):
 Calls prog 114 #[.agg cs] w (RetN w fun v' w'=>∃cs',v'=.agg cs'/\EvR true w' (gD w w') cs' e):=by
 obtain⟨dv,rv,hca,hi,hd,hr,hsz⟩:=he;have cA:=jO e dv rv hi;rw[<-hca]at cA;go_enter func114,ntmps114;go_upto_region 0 with(fail);refine qL [1,1] ?_
 simp only[qB];refine qK (zT 115 (fun w1 hB0 hM hs1=>?_));replace hB0:w1.heap[w.heap.size]?=some (.cells cs 115 (0,0)):=hB0;try simp only[qC]
 refine qK (jX 115 evZero (by rfl) zeroEvV (fun w2 hB1 hm2 hs2=>?_));replace hB0:=hm2.obj id hB0;replace hM:=hM.trans hm2 (fun _ _ h=>h);clear hm2;simp only[qB]
 go_upto_region 1 with(fail);refine qL [3,1,1,3,1] ?_;simp only[qB];refine qG 64 ((CellsAt.whole hB0).cell cA.c2) ?_;try simp only[qC]
 refine kS rfl ?_;go_wp2_with (go_at_call 113;refine(copyInts_any own G _ _ _ (hd.keep hM (fun _ _=>id) (fun _ _ h=>h)) hok.1).mono ?_;rintro _ w3 ⟨dv',rfl,hm3,hd'⟩)
 replace hB0:=hm3.obj id hB0;replace hB1:=hm3.obj id hB1;replace hM:=hM.trans hm3 (fun _ _ h=>h);have hs3:=hm3.size;clear hm3;simp only[qB]
 refine qK (zR 64 2 dv' hB0 (fun w4 hB0' hm4=>?_) (hoff:=by rw[cA.size];omega) (h1:=hd'.one));clear hB0
 replace hB1:=hm4.obj (show ¬w1.heap.size=w.heap.size by omega) hB1;replace hM:=hM.trans hm4 (fun k hk e=>by have:k=w.heap.size:=e;omega)
 replace hd':=hd'.keep hm4 (fun k hk e=>by have h1:k=w.heap.size:=e;have:=hk.1;omega) (fun _ _ h=>h);have hs4:=hm4.size;clear hm4;simp only[qB]
 rw[hca,evCells_set2,]at hB0';have cB:=jO e dv' rv hi;go_upto_region 2 with(fail)
 obtain⟨css,hall,hcsz,hsrc⟩:=(hr.keep hM (fun _ _=>id) (fun _ _ h=>h)).src (by omega);refine qL [1,3,1,1,3,1] ?_;simp only[qB]
 refine qK (zU 25 24 (by rfl) underlying25 (by kernel_rfl) (fun w5 hb hm5 hs5=>?_));replace hB0':=hm5.obj id hB0';replace hB1:=hm5.obj id hB1
 replace hM:=hM.trans hm5 (fun _ _ h=>h);replace hd':=hd'.keep hm5 (fun _ _=>id) (fun _ _ h=>h);simp only[qB];refine qG 25 ((CellsAt.whole hB0').cell cB.c38) ?_
 try simp only[qC]
 refine qK (vY _ _ 25 24 idInfoV 32 32 (by rfl) underlying25 infoIdV (by rfl) (by omega) w4.heap.size _ 0 [] (by rfl) (yI _ hb (Nat.le_refl _)) _ e.refs.length (css.flatMap Array.toList) (by rfl) (?_:Src w5 32 rv e.refs.length (css.flatMap Array.toList)) (all2_one hall fun _ _=>idC_one) (by have:=hok.2;unfold maxLen;omega) (by have:=hok.2;omega) (by omega) (fun rv' w6 hown hgrow _=>?_))
 ·obtain⟨h1,ad,c,h2,h3⟩:=hsrc
  refine⟨h1,ad,c,h2,fun hne=>?_⟩;obtain⟨b,off,h4,h5⟩:=h3 hne;exact⟨b,off,h4,fun j x hx=>hm5.cell id (h5 j x hx)⟩
 have hm6:Mod (fun k=>k=w4.heap.size) w5 w6:=(Mod.refl _ _).grown hgrow (fun k hk _=>by simp[Value.ownBlock]at hk;omega)
 replace hB0':=hm6.obj (show ¬w.heap.size=w4.heap.size by omega) hB0';replace hB1:=hm6.obj (show ¬w1.heap.size=w4.heap.size by omega) hB1
 replace hM:=hM.trans hm6 (fun k hk e=>by have h1:k=w4.heap.size:=e;omega)
 replace hd':=hd'.keep hm6 (fun k hk e=>by have h1:k=w4.heap.size:=e;have:=hk.2;omega) (fun _ _ h=>h)
 have hr':=(Sl.of_owns hown (by simp) hcsz hall (by simp)).mono (G':=gD w4 w6) (fun k hk=>⟨hk.1,hk.2.1⟩) (fun _ _ h=>h);have hs6:=hm6.size;clear hm6 hgrow hown
 simp only[qB];refine qK (zR 25 38 rv' hB0' (fun w7 hB0 hm7=>?_) (hoff:=by rw[cB.size];omega) (h1:=hr'.one));clear hB0'
 replace hB1:=hm7.obj (show ¬w1.heap.size=w.heap.size by omega) hB1;replace hM:=hM.trans hm7 (fun k hk e=>by have:k=w.heap.size:=e;omega)
 replace hd':=hd'.keep hm7 (fun k hk e=>by have h1:k=w.heap.size:=e;have:=hk.1;omega) (fun _ _ h=>h)
 replace hr':=hr'.keep hm7 (fun k hk e=>by have h1:k=w.heap.size:=e;have:=hk.1;omega) (fun _ _ h=>h);have hs7:=hm7.size;clear hm7;simp only[qB]
 rw[evCells_set38 _ _ _ _ hi]at hB0;have cC:=jO e dv' rv' hi;go_upto_region 3 with(fail);refine qL [1,1] ?_;simp only[qB]
 refine qY 115 (CellsAt.whole hB0) 39 cC.size ?_;try simp only[qC]
 refine qK (xU 115 0 (vD e dv' rv') (fD hd'.one hr'.one) 39 cC.size hB1 (fun w8 hB1' hm8=>?_) (hoff:=by rw[cC.size];exact Nat.le_refl 39))
 rw[yQ (by rw[cC.size];rfl)]at hB1';clear hB1;replace hM:=hM.trans hm8 (fun k hk e=>by have:k=w1.heap.size:=e;omega)
 replace hd':=hd'.keep hm8 (fun k hk e=>by have h1:k=w1.heap.size:=e;have:=hk.1;omega) (fun _ _ h=>h)
 replace hr':=hr'.keep hm8 (fun k hk e=>by have h1:k=w1.heap.size:=e;have:=hk.1;omega) (fun _ _ h=>h);have hs8:=hm8.size;clear hm8;simp only[qB];go_wp2
 refine bodyPost_ret (results_cell_row rfl _ _ w1.heap.size _ _ _ _ (by rfl) hB1' underlying115 rfl (by rw[cC.size];kernel_rfl)) rfl ?_
 refine⟨_,rfl,hM,_,rfl,dv',rv',rfl,hi,hd'.mono (fun k hk=>⟨?_,?_⟩) (fun _ _ h=>h),hr'.mono (fun k hk=>⟨?_,?_⟩) (fun _ _ h=>h),hsz⟩
 all_goals (have h1:=hk.1;have h2:=hk.2;omega)
def Inn(Z:iM)(base:Nat)(v:Value)(w:iN):Nat->Prop:=fun k=>base<=k/\k<w.heap.size/\v.ownBlock≠some k/\¬Z k
def EvGs(Z:iM)(base:Nat)(w:iN)(v:Value)(l:List tX):Prop:=
 ∃css,w.ownsRow base 115 39 v l.length (css.flatMap Array.toList)/\(∀c∈css,c.size=39)/\All2 (EvR true w (Inn Z base v w)) css l
section
variable{Z:iM}{base:Nat}{l:List tX}{v:Value}{w w':iN}
theorem EvGs.nil(Z:iM)(base:Nat)(w:iN):EvGs Z base w (.slice none 0 0) []:=⟨[],World.ownsRow_nil _ _ _ _,by simp,by simpa using All2.nil⟩
theorem EvGs.keep{S:iM}(h:EvGs Z base w v l)(hm:Mod S w w')(hr:∀k,v.ownBlock=some k->¬S k)(hS:∀k,Inn Z base v w k->¬S k):EvGs Z base w' v l:=by
 obtain⟨css,h1,h2,h3⟩:=h;exact⟨css,jS h1 hm hr,h2,h3.imp fun _ _ h=>(h.keep hm hS).mono fun k hk=>⟨hk.1,Nat.lt_of_lt_of_le hk.2.1 hm.size,hk.2.2⟩⟩
theorem EvGs.keep0(h:EvGs Z base w v l)(hm:Mod qJ w w'):EvGs Z base w' v l:=h.keep hm (fun _ _=>id) (fun _ _=>id)
theorem EvGs.lt(h:EvGs Z base w v l){q:Nat}(hq:v.ownBlock=some q):base<=q/\q<w.heap.size:=by
 obtain⟨css,h1,-⟩:=h;exact h1.lt q hq
theorem EvGs.sl(h:EvGs Z base w v l):Sl true w (fun k=>base<=k/\k<w.heap.size/\v.ownBlock=some k) 39 (EvR true w (Inn Z base v w)) v l:=by
 obtain⟨css,h1,h2,h3⟩:=h;exact Sl.of_owns h1 rfl h2 h3 rfl
theorem EvGs.slb(h:EvGs Z base w v l):Sl true w (fun k=>base<=k/\k<w.heap.size) 39 (EvR true w (fun k=>base<=k/\k<w.heap.size)) v l:=
 h.sl.mono (fun _ h=>⟨h.1,h.2.1⟩) (fun _ _ h=>h.mono fun _ h=>⟨h.1,h.2.1⟩)
theorem wp_evs(s x:Operand)(ho:o.op=.call { callee:=.builtin .append,args:=#[s,x],argTypes:=#[72,72] })
 (hs:a.eval s=v)(hg:EvGs Z base w v l)(b:Nat)(cs:iL)(e:tX)(hx:a.eval x=.slice (some ⟨b,0,none⟩) 1 1)(hb:w.heap[b]?=some (.cells cs 115 (0,0)))(hy:EvR true w (Inn Z base v w) cs e)
 (hlen:l.length<=1048576)(hbase:base<=w.heap.size)
 (h:∀v' w',EvGs Z base w' v' (l++[e])->(v'.ownBlock=v.ownBlock\/v'.ownBlock=some w.heap.size)->Mod (fun q=>v.ownBlock=some q) w w'->K (a.put o.dst v') w'):o.wp prog a w K Q:=by
 obtain⟨css,h1,h2,h3⟩:=hg
 refine vY s x 72 115 evZero 39 136 ho underlying72 infoEvV (by rfl) (by omega) base v l.length (css.flatMap Array.toList) hs h1 _ 1 cs.toList hx
  (⟨by simp[hy.size],_,_,rfl,fun _=>⟨_,_,rfl,fun j x hx=>by rw[Nat.zero_add,cell_of_row w b _ _ _ _ hb];simpa using hx⟩⟩:Src w 39 _ 1 cs.toList)
  (fun c hc=>hy.one c (by simpa using hc)) (by unfold maxLen;omega) (by omega) hbase (fun v1 w3 hown hgrow hvv=>?_)
 have hm:Mod (fun k=>v.ownBlock=some k) w w3:=(Mod.refl _ _).grown hgrow (fun k hk _=>hk)
 have up:∀x y,EvR true w (Inn Z base v w) x y->EvR true w3 (Inn Z base v1 w3) x y:=fun x y h=>
  (h.keep hm (fun k hk=>hk.2.2.1)).mono fun k hk=>⟨hk.1,Nat.lt_of_lt_of_le hk.2.1 hm.size,by
   rcases hvv with hv|hv<;>rw[hv]
   ·exact hk.2.2.1
   ·have:=hk.2.1;intro e;cases e;omega,hk.2.2.2⟩
 refine h v1 w3 ⟨css++[cs],by simpa using hown,fun c hc'=>?_,(h3.imp up).snoc (up _ _ hy)⟩ hvv hm
 rcases List.mem_append.1 hc' with h|h
 ·exact h2 c h
 ·have:c=cs:=by simpa using h
  rw[this];exact hy.size
end
end
section
open Go.Proofs.Tryz Go.Lib
end
section
open Go.RowKit Go.Proofs.Tryz Go.Lib
section
variable{P:Program}{ops:Array Oper}{Q:Exit->Act->iN->Prop}{S:iN->Prop}{o:Oper}{r:List (Oper×Nat)}{a:Act}{w:iN}
end
end
section
open Go.RowKit Go.Shelf Go.Proofs.Tryz Go.Lib
section
variable{P:Program}{n fuel:Nat}{ops:Array Oper}{Q:Exit->Act->iN->Prop}{listed:Array Bool}{a:Act}{w:iN}{o:Oper}
end
attribute [local go_sem] Oper.semAt_some
section
variable{bs ms wd:Nat}{room:Int}{bl:List iF}
end
end
section
open Go.RowKit Go.Shelf Go.Proofs.Tryz Go.Lib
theorem bts_nil(base:Nat)(w:iN):Bts base w (.slice none 0 0) []:=Gat.nil (fun b:UInt8=>[qW b]) 5 1 base w
section
variable{w:iN}{b wr:Nat}{Pr:iM}{bs:iK}
end
section
variable{w:iN}{b wr:Nat}{Pr:iM}{bs:iK}
end
def descB(d:yY):iK:=UInt8.ofNat d.media::(d.id++[UInt8.ofNat d.size,0])
section
variable{w:iN}{b wr:Nat}{Pr:iM}{bs:iK}
end
section
variable{w:iN}{b wr c1 c4 c6:Nat}{cs:iL}{Pr:iM}{bs:iK}
end
def Own(v:Value):Nat->Prop:=fun k=>v.ownBlock=some k
section
variable{w:iN}{b wr c1 c4 c6:Nat}{Pr:iM}{bs:iK}
end
def encB(m:eH):List iK:=[[77],[UInt8.ofNat m.kind],[0],if m.kind=3 then descB m.config else [],UInt8.ofNat (m.layers++m.subs).length::(m.layers++m.subs).flatMap descB]
def encL(m:eH):iK:=(encB m).flatten
end
section
open Go.Proofs.Tryz Go.Lib
def thgI(id:iK):Thg:=⟨⟨0,id,0,[]⟩,1,true⟩
def walkM(xs:List Thg):List (iK×Value):=xs.foldl (fun m t=>kD t.d.id (kE 0) m) []
theorem walkM_snoc(xs:List Thg)(t:Thg):walkM (xs++[t])=kD t.d.id (kE 0) (walkM xs):=by simp[walkM]
theorem mem_keys{α β:Type}[DecidableEq α](k:α)(v:β)(l:List (α×β))(x:α):x∈(kD k v l).map (·.1)↔x=k\/x∈l.map (·.1):=by
 rw[keys_put]
 split
 ·rename_i h
  exact⟨.inr,fun h'=>h'.elim (fun e=>by rw[e];exact h) id⟩
 ·rw[List.mem_append,List.mem_singleton]
  exact⟨fun h=>h.symm,fun h=>h.symm⟩
theorem walkM_keys(xs:List Thg):((walkM xs).map (·.1)).Nodup/\∀x,x∈(walkM xs).map (·.1)↔∃t∈xs,t.d.id=x:=by
 suffices h:∀(xs:List Thg)(m:List (iK×Value)),(m.map (·.1)).Nodup->((xs.foldl (fun m t=>kD t.d.id (kE 0) m) m).map (·.1)).Nodup/\∀x,x∈(xs.foldl (fun m t=>kD t.d.id (kE 0) m) m).map (·.1)↔x∈m.map (·.1)\/∃t∈xs,t.d.id=x by
  have:=h xs [] (by simp);exact⟨this.1,fun x=>by rw[walkM,this.2 x];simp⟩
 intro xs
 induction xs with
 |nil=>intro m hm;exact⟨hm,fun x=>by simp⟩
 |cons t xs ih=>
  intro m hm;obtain⟨h1,h2⟩:=ih (kD t.d.id (kE 0) m) (nodup_put hm);refine⟨h1,fun x=>?_⟩;rw[List.foldl_cons,h2 x,mem_keys];simp only[List.mem_cons,exists_eq_or_imp]
  constructor
  ·rintro((rfl|h)|h)
   ·exact .inr (.inl rfl)
   ·exact .inl h
   ·exact .inr (.inr h)
  ·rintro(h|rfl|h)
   ·exact .inl (.inr h)
   ·exact .inl (.inl rfl)
   ·exact .inr h
end
section
open Go.RowKit Go.Proofs.Tryz Go.Lib
def bU(e:tX):Bool:=decide (20<e.deps.length\/300<e.refs.length\/200<e.repo.size\/200<e.tag.size)
theorem gK(own:Bool)(G:iM)(cs:iL)(e:tX)(w:iN)(h:EvR own w G cs e):Calls prog 107 #[.agg cs] w (vO (.bool (bU e)) w):=by
 obtain⟨dv,rv,hca,hi,hd,hr,hrepo,htag⟩:=h;have cA:=jO e dv rv hi;rw[<-hca]at cA;clear hca;obtain⟨da,dc,rfl,hdl,-⟩:=hd.at
 obtain⟨ra,rc,rfl,hrl,-⟩:=hr.at;obtain⟨t,ht⟩:∃t,t=bU e:=⟨_,rfl⟩;rw[<-ht];have HT:=O ht;clear ht;go_enter func107,ntmps107;go_upto_region 0 with(fail)
 refine qL [1,3] ?_;simp only[qB];refine qK (zT 115 (fun w1 hB0 hM hs1=>?_));replace hB0:w1.heap[w.heap.size]?=some (.cells cs 115 (0,0)):=hB0;simp only[qB]
 have hc2:w1.cell? ⟨w.heap.size,2,none⟩=some (.slice da e.deps.length dc):=by rw[cell_of_row _ _ _ _ _ _ hB0,cA.c2]
 have hc38:w1.cell? ⟨w.heap.size,38,none⟩=some (.slice ra e.refs.length rc):=by rw[cell_of_row _ _ _ _ _ _ hB0,cA.c38]
 have hc4:w1.cell? ⟨w.heap.size,4,none⟩=some (.string e.repo):=by rw[cell_of_row _ _ _ _ _ _ hB0,cA.c4]
 have hc5:w1.cell? ⟨w.heap.size,5,none⟩=some (.string e.tag):=by rw[cell_of_row _ _ _ _ _ _ hB0,cA.c5]
 clear cA hB0;go_wp2
 all_goals
  go_ret;refine⟨kZ ?_,hM⟩;rw[HT.out];unfold bU;rw[Bool.eq_iff_iff]
  simp
  all_goals omega
def LngRelE(w:iN)(l:List tX)(n i:Value)(w':iN):Prop:=
 ∃(k m:Nat),k<=l.length/\k<=21/\m<=300*k/\i=.int .i64 k/\n=.int .i64 m/\Mod qJ w w'/\∀j (h:j<l.length),j<k->bU l[j]=false
def LngRE{α:Type}(Small:α->Prop)(l:α)(w:iN)(e:Ending)(w':iN):Prop:=∃b,e=.returned (.bool b)/\Mod qJ w w'/\(b=false->Small l)
def SmallEvs(l:List tX):Prop:=l.length<=20/\∀e∈l,bU e=false
theorem longEvents_any(own:Bool)(E G:iM)(v:Value)(l:List tX)(w:iN)(h:Sl own w E 39 (EvR own w G) v l):Calls prog 41 #[v,.int .i64 20] w (LngRE SmallEvs l w):=by
 obtain⟨av,cap,rfl,hlen,hat⟩:=h.at;have HA:=O hat;clear hat;go_enter func41,ntmps41;go_wp2
 go_loopw [5,6] (LngRelE w l) (fun _ i _=>l.length-(intOf i).toNat)
 case atStart=>exact⟨0,0,by omega,by omega,by omega,rfl,rfl,Mod.refl _ _,fun j h hj=>by omega⟩
 case round=>
  obtain⟨k,m,hk,hk21,hm,rfl,rfl,hM,hall⟩:=hrel
  rename_i wr
  by_cases hlt:k<l.length/\k<=20
  ·obtain⟨hlt,hk20⟩:=hlt
   obtain⟨b,off,rfl,-,-,hat⟩:=HA.out k hlt;obtain⟨cs,hcs,hev,hcells⟩:=hat k hlt;clear hat HA;have hev:=hev.keep0 hM;have hcells:=hcells.keep hM id
   obtain⟨t,ht⟩:∃t,t=bU l[k]:=⟨_,rfl⟩;have HT:=O ht;clear ht;go_upto_region 5 with(fail)
   cases t
   ·skip
    refine qL [3,3,3,1,1] ?_;simp only[qB];refine zC 72 39 hlt ?_;simp only[qC];refine qY 115 hcells 39 hcs ?_;try simp only[qC]
    refine kS rfl ?_;go_wp2_with (go_at_call 107;refine(gK own G cs l[k] wr hev).mono ?_;rintro _ w1 ⟨rfl,hm1⟩;rw[<-HT.out]);simp only[qB]
    obtain⟨dv,rv,hca,hi,hd,hr,hrepo,htag⟩:=id hev;have cA:=jO l[k] dv rv hi;rw[<-hca]at cA;clear hca;obtain⟨ra,rc,rfl,hrl,-⟩:=hr.at
    have hsm:l[k].refs.length<=300:=by
     have h1:=HT.out;unfold bU at h1;have h2:=of_decide_eq_false h1.symm;omega
    obtain⟨rl,hrl0⟩:∃t,t=l[k].refs.length:=⟨_,rfl⟩
    have hc38:w1.cell? ⟨b,off+k*39+38,none⟩=some (.slice ra rl rc):=by rw[hrl0];exact hm1.cell id (hcells.cell cA.c38)
    rw[<-hrl0]at hsm;clear cA hd hr hrl hrl0;have hMn:=hM.trans0 hm1;go_upto_region 7 with(fail);refine qL [3,3,3,3,3,1,3,3,3] ?_;simp only[qB]
    refine zC 72 39 hlt ?_;simp only[qB];refine qG 25 hc38 ?_;try simp only[qC]
    refine xF ?_;simp only[qC];refine aB _ _ _ _ _ _ rfl rfl rfl rfl (by omega) (by omega) ?_;simp only[qB];go_wp2
    go_roundw
    case rel=>exact⟨k+1,m+rl,by omega,by omega,by omega,by go_num,by go_num,hMn,fun j h hj=>by
     rcases Nat.lt_or_ge j k with h'|h'
     ·exact hall j h h'
     ·have e:j=k:=by omega
      subst e;exact HT.out.symm⟩
    case measure=>simp[intOf];omega
   ·skip
    refine qL [3,3,3,1,1] ?_;simp only[qB];refine zC 72 39 hlt ?_;simp only[qC];refine qY 115 hcells 39 hcs ?_;try simp only[qC]
    refine kS rfl ?_;go_wp2_with (go_at_call 107;refine(gK own G cs l[k] wr hev).mono ?_;rintro _ w1 ⟨rfl,hm1⟩;rw[<-HT.out]);simp only[qB];go_wp2;go_ret
    exact⟨true,rfl,hM.trans0 hm1,fun h=>by cases h⟩
  ·clear HA
   have hfin:l.length<=20->SmallEvs l:=fun h20=>⟨h20,fun e he=>by
    obtain⟨j,hj,rfl⟩:=List.getElem_of_mem he
    exact hall j hj (by omega)⟩
   have hkk:(k:Int)<l.length->20<(k:Int):=by omega
   go_wp2
   all_goals
    go_ret;refine⟨_,rfl,hM,fun hb=>hfin ?_⟩
    first
     |omega
     |(simp at hb;done)
     |(simp at hb;omega)
theorem small_ok{e:tX}(h:bU e=false):EvOk e:=by
 unfold bU at h;have h2:=of_decide_eq_false h;exact⟨by omega,by omega⟩
theorem SmallEvs.ok{l:List tX}(h:SmallEvs l):∀e∈l,EvOk e:=fun e he=>small_ok (h.2 e he)
theorem small_refs{l:List tX}(h:∀e∈l,bU e=false):(l.flatMap (·.refs)).length<=300*l.length:=by
 induction l with
 |nil=>simp
 |cons e l ih=>
  have h1:=ih fun x hx=>h x (List.mem_cons_of_mem _ hx);have h2:=of_decide_eq_false (h e List.mem_cons_self)
  simp only[List.flatMap_cons,List.length_append,List.length_cons];omega
end
section
open Go.RowKit Go.Shelf Go.Proofs.Tryz Go.Lib
attribute [local go_sem] Oper.semAt_some
section
variable{fn:Func}{tmps:iL}{R:iJ}{w:iN}{D b4 b5 b6:Nat}{v4:Value}{x5:iK}{n6:Int}
end
end
section
open Go.RowKit Go.Proofs.Tryz Go.Lib
section
variable{P:Program}{md:Region.Mode}{ops:Array Oper}{Q:Exit->Act->iN->Prop}{l n:Nat}
end
end
section
open Go.RowKit Go.Shelf Go.Proofs.Tryz Go.Lib
attribute [local go_sem] Oper.semAt_some
end
section
open Go.RowKit Go.Shelf Go.Proofs.Tryz Go.Lib
section
variable{w w':iN}{bs wd:Nat}{c c':yO}{Ft:iM}
end
theorem bQ{o o':Bool}{G':iM}{va vb:Value}{la lb:List iK}(ha:Sl o w G 32 IdC va la)(hb:Sl o' w G' 32 IdC vb lb)(b1 n1 b2 n2:Nat):
 Calls prog 54 #[.agg (zV va b1 n1),.agg (zV vb b2 n2)] w (RetK (.bool (decide (la=lb)&&decide (b1=b2)&&decide (n1=n2))) w):=by
 have h1a:=Sl.one ha;have h1b:=Sl.one hb;obtain⟨r,hr⟩:∃r,decide (la=lb)=r:=⟨_,rfl⟩;rw[hr]
 obtain⟨res,hres⟩:∃x,(r&&decide (b1=b2)&&decide (n1=n2))=x:=⟨_,rfl⟩;rw[hres];have HRES:=O hres;clear hres;go_enter func54,ntmps54
 go_upto_region 0 with(fail);refine qL [1,1,3] ?_;simp only[qB];refine qK (zT 104 (fun w1 hB1 hm1 hs1=>?_))
 replace hB1:w1.heap[w.heap.size]?=some (.cells (zV va b1 n1) 104 (0,0)):=hB1;try simp only[qC]
 refine qK (zT 104 (fun w2 hB2 hm2 hs2=>?_));replace hB2:w2.heap[w1.heap.size]?=some (.cells (zV vb b2 n2) 104 (0,0)):=hB2;simp only[qB]
 have hm02:=hm1.trans0 hm2;have hB12:=hm2.obj id hB1;have hca0:w2.cell? ⟨w.heap.size,0+0,none⟩=some va:=by simp[World.cell?,hB12,zV]
 have hcb0:w2.cell? ⟨w1.heap.size,0+0,none⟩=some vb:=by simp[World.cell?,hB2,zV]
 have hca1:w2.cell? ⟨w.heap.size,0+1,none⟩=some (.int .i64 (b1:Nat)):=by simp[World.cell?,hB12,zV]
 have hcb1:w2.cell? ⟨w1.heap.size,0+1,none⟩=some (.int .i64 (b2:Nat)):=by simp[World.cell?,hB2,zV]
 have hca2:w2.cell? ⟨w.heap.size,0+2,none⟩=some (.int .i64 (n1:Nat)):=by simp[World.cell?,hB12,zV]
 have hcb2:w2.cell? ⟨w1.heap.size,0+2,none⟩=some (.int .i64 (n2:Nat)):=by simp[World.cell?,hB2,zV]
 have hsame:=kG _ _ _ _ va vb la lb w2 (ha.keep0 hm02) (hb.keep0 hm02);rw[hr]at hsame;clear hr;generalize w.heap.size=ba at*;generalize w1.heap.size=bb at*
 go_upto_region 1 with(fail)
 cases r with
 |false=>
  refine qL [3,1,3,1,1,3,3,0,3,0,3,3,3,3,0,3,0,3,3,3] ?_;simp only[qB];refine qG 25 hca0 ?_;simp only[qB];refine qG 25 hcb0 ?_;try simp only[qC]
  refine qK (xE func24 (hsame) ?_);rintro e w3 ⟨rfl,hg3⟩;have hm3:=hm02.trans0 hg3;refine⟨_,rfl,?_⟩;simp only[qB];clear hca0 hcb0 hca1 hcb1 hca2 hcb2 hB12 hB1 hB2
  have h9:=HRES.out;have hres:res=false:=by simpa using h9.symm
  clear h9;go_wp2;go_ret;exact⟨by rw[hres];rfl,hm3⟩
 |true=>
  have H9:=O (show(decide (b1=b2)&&decide (n1=n2))=res by have h:=HRES.out;simpa using h)
  by_cases hb12:b1=b2
  ·have hz:(b1:Int)=(b2:Nat):=by omega
   have hzb:((b1:Int)==((b2:Nat):Int))=true:=by simpa using hz
   refine qL [3,1,3,1,1,3,3,1,3,1,3,3,3,3,1,3,1,3,3,3] ?_;simp only[qB];refine qG 25 hca0 ?_;simp only[qB];refine qG 25 hcb0 ?_;try simp only[qC]
   refine qK (xE func24 (hsame) ?_);rintro e w3 ⟨rfl,hg3⟩;have hm3:=hm02.trans0 hg3;have hca1':=hg3.cell id hca1;have hcb1':=hg3.cell id hcb1
   have hca2':=hg3.cell id hca2;have hcb2':=hg3.cell id hcb2;refine⟨_,rfl,?_⟩;simp only[qB];refine qG 3 hca1' ?_;simp only[qB];refine qG 3 hcb1' ?_
   try simp only[qC]
   refine xD hz ?_;simp only[qB];refine qG 3 hca2' ?_;simp only[qB];refine qG 3 hcb2' ?_;try simp only[qC]
   refine qN _ _ _ _ _ _ _ _ rfl rfl rfl rfl rfl (decide (n1=n2)) (show decide (((n1:Nat):Int)=((n2:Nat):Int))=decide (n1=n2) by rw[decide_eq_decide];omega) ?_
   simp only[qB];clear hca0 hcb0 hca1 hcb1 hca2 hcb2 hB12 hB1 hB2;have h9:=H9.out;rw[decide_eq_true hb12,Bool.true_and]at h9;have HR:=O h9;clear h9;go_wp2;go_ret
   exact⟨by rw[<-HR.out];rfl,hm3⟩
  ·have hz:¬(b1:Int)=(b2:Nat):=by omega
   refine qL [3,1,3,1,1,3,3,1,3,1,3,3,3,3,0,3,0,3,3,3] ?_;simp only[qB];refine qG 25 hca0 ?_;simp only[qB];refine qG 25 hcb0 ?_;try simp only[qC]
   refine qK (xE func24 (hsame) ?_);rintro e w3 ⟨rfl,hg3⟩;have hm3:=hm02.trans0 hg3;have hca1':=hg3.cell id hca1;have hcb1':=hg3.cell id hcb1;refine⟨_,rfl,?_⟩
   simp only[qB];refine qG 3 hca1' ?_;simp only[qB];refine qG 3 hcb1' ?_;try simp only[qC]
   refine xT hz ?_;simp only[qB];clear hca0 hcb0 hca1 hcb1 hca2 hcb2 hB12 hB1 hB2;have h9:=H9.out;rw[decide_eq_false hb12,Bool.false_and]at h9;go_wp2;go_ret
   exact⟨by rw[<-h9];rfl,hm3⟩
theorem sN(t e:TypeId)(x:Operand)(b n c:Nat)(C:iL)(ho:o.op=.convert t t x)(hx:a.eval x=.slice (some ⟨b,0,none⟩) n c)
 (ht:P.underlying t=some (.slice e))(he:P.underlying e=some (.int .u8))(hb:w.heap[b]?=some (.cells C e (0,0)))
 (h:∀w',w'.heap[b]?=some (.cells C e (C.size,C.size+1))->Mod (fun k=>k=b) w w'->K (a.put o.dst (.slice (some ⟨b,0,none⟩) n c)) w'):o.wp P a w K Q:=by
 have hsh:w.shape? b=some (e,C.size):=by unfold World.shape?;rw[hb]
 have hr:(convert t t (.slice (some ⟨b,0,none⟩) n c)).run P w=.ok (.slice (some ⟨b,0,none⟩) n c) (w.freeze ⟨b,C.size,none⟩ 1):=by
  simp[convert,run_underlying ht,run_underlying he,markStringish,hsh]
 unfold Oper.wp execOp;simp only[ho,hx,Sem.run_bind,hr,Result.andThen_ok,Sem.run_pure];refine h _ ?_ ⟨rfl,rfl,rfl,?_,fun k hk hne=>?_⟩
 ·unfold World.freeze
  rw[if_neg (by decide)]
  show(w.heap.modify b _)[b]?=_
  rw[Array.getElem?_modify,if_pos rfl,hb]
  rfl
 ·unfold World.freeze
  rw[if_neg (by decide)]
  simp
 ·unfold World.freeze
  rw[if_neg (by decide)]
  show(w.heap.modify b _)[k]?=_
  rw[Array.getElem?_modify,if_neg (fun e=>hne e.symm)]
theorem sl_bytes{l:iK}(h:w.heap[b]?=some (.cells (qA l) T fr))(hn:n=l.length)(hm:l.length<=1000):Sl false w kV 1 yA (.slice (some ⟨b,0,none⟩) n n) l:=by
 subst hn
 refine⟨some ⟨b,0,none⟩,l.length,rfl,Nat.le_refl _,by unfold maxLen;omega,fun _=>⟨b,0,rfl,trivial,fun e=>(by cases e),fun i hi=>⟨#[qW l[i]],rfl,rfl,?_⟩⟩⟩
 refine CellsAt.of_obj h fun j hj=>?_;have h0:j=0:=by simpa using hj
 subst h0
 simp[qA,hi]
theorem tU{C:iL}(h:w.heap[b]?=some (.cells C T fr))(i:Nat)(c:Value)(hc:C[i]?=some c):CellsAt w b (0+i*1) #[c]:=CellsAt.of_obj h fun j hj=>by
 have h0:j=0:=by simpa using hj
 subst h0
 simpa using hc
theorem results_row3{fn:Func}{p q r:Tmp}{ty tz tx:TypeId}(h:fn.results=#[.cell p ty,.cell q tz,.cell r tx])(tmps:iL)(w:iN)(g1 g2 g3:Nat)(t1 t2 t3:TypeId)(c1 c2 c3:iL)(f1 f2 f3:Nat×Nat)(d1 d2 d3:TypeDesc)
 (hp1:tmps.getD p undef=iO g1)(hg1:w.heap[g1]?=some (.cells c1 t1 f1))(hp2:tmps.getD q undef=iO g2)(hg2:w.heap[g2]?=some (.cells c2 t2 f2))(hp3:tmps.getD r undef=iO g3)(hg3:w.heap[g3]?=some (.cells c3 t3 f3))
 (hu1:P.underlying ty=some d1)(hd1:(match d1 with| .struct _| .array _ _=>true|_=>false)=true)(hi1:(P.info? ty).map (·.size)=some c1.size)
 (hu2:P.underlying tz=some d2)(hd2:(match d2 with| .struct _| .array _ _=>true|_=>false)=true)(hi2:(P.info? tz).map (·.size)=some c2.size)
 (hu3:P.underlying tx=some d3)(hd3:(match d3 with| .struct _| .array _ _=>true|_=>false)=true)(hi3:(P.info? tx).map (·.size)=some c3.size):
 (results fn tmps).run P w=.ok (.tuple #[.agg c1,.agg c2,.agg c3]) w:=by
 have e1:tmps[p]?.getD undef=iO g1:=by simpa using hp1
 have e2:tmps[q]?.getD undef=iO g2:=by simpa using hp2
 have e3:tmps[r]?.getD undef=iO g3:=by simpa using hp3
 simp[results,h,e1,e2,e3,asAddr,run_loadVar_row w g1 t1 ty c1 f1 d1 hg1 hu1 hd1 hi1,run_loadVar_row w g2 t2 tz c2 f2 d2 hg2 hu2 hd2 hi2,run_loadVar_row w g3 t3 tx c3 f3 d3 hg3 hu3 hd3 hi3]
def idA:iK:=bC [65]
def idB:iK:=bC [66,33]
def TwoR(w:iN):iJ:=fun e w'=>Mod qJ w w'/\∃lv kv,e=.returned (.tuple #[.agg (qA idA),.agg (qA idB),.agg #[.int .i64 31,lv,kv]])/\LsAt w' lv [[65],[66,33]]/\Sl false w' kV 1 dH kv [0,0,0,1]
theorem houseZ:(prog.info? 68).bind (·.zero)=some (.agg #[.int .i64 0,.slice none 0 0,.slice none 0 0]):=by kernel_rfl
theorem byte_zs:(prog.info? 5).map (fun i=>(i.zero,i.size))=some (some (qW 0),1):=by kernel_rfl
theorem bytes_zs:(prog.info? 53).map (fun i=>(i.zero,i.size))=some (some (.slice none 0 0),1):=by kernel_rfl
theorem built_house(n:Int)(ad bd:Option Addr)(k c k' c':Nat):prog.built 68 [(0,.int .i64 n),(1,.slice ad k c),(2,.slice bd k' c')]=some #[.int .i64 n,.slice ad k c,.slice bd k' c']:=by
 have p:yM prog 68=some [(0,1),(1,1),(2,1)]:=by kernel_rfl
 rw[zX houseZ p,zN (off:=0) (size:=1) rfl (by rfl) (by simp),zN (off:=1) (size:=1) rfl (by rfl) (by simp[zE,Value.cells]),zN (off:=2) (size:=1) rfl (by rfl) (by simp[zE,Value.cells]),yN]
 rfl
theorem two_any(w:iN):Calls prog 55 #[] w (TwoR w):=by
 have hA:(qA idA).size=32:=by rw[qD];exact rP _
 have hB:(qA idB).size=32:=by rw[qD];exact rP _
 have hz32:(qA (List.replicate 32 0)).size=32:=rX;go_enter func55,ntmps55;go_upto_region 0 with(fail);refine qL [1,1,1] ?_;simp only[qB]
 refine qK (zB eC (fun w1 hB1 hm1 hs1=>?_));try simp only[qC]
 refine qK (zB eC (fun w2 hB2 hm2 hs2=>?_));try simp only[qC]
 refine qK (zB houseZ (fun w3 hB3 hm3 hs3=>?_));simp only[qB];have hB13:=(hm2.trans0 hm3).obj id hB1;have hB23:=hm3.obj id hB2;have hm03:=(hm1.trans0 hm2).trans0 hm3
 have hs12:w1.heap.size<w2.heap.size:=hs2;have hs01:w.heap.size<w1.heap.size:=hs1;generalize hb0:w.heap.size=b0 at*;generalize hb1:w1.heap.size=b1 at*
 generalize hb2:w2.heap.size=b2 at*;clear hm1 hm2 hm3 hB1 hB2 hs1 hs2;go_upto_region 1 with(fail);refine qL [1,1,1,1,1,1,1,1,1,1,1,1,0,1,1,1] ?_
 simp only[qB];refine qK (kK 53 (qW 65) (qW 0) 1 rfl (fun w4 hB4 hm4 hs4=>?_) (hi:=byte_zs))
 replace hB4:w4.heap[w3.heap.size]?=some (.cells (qA [65]) 5 (0,0)):=hB4;try simp only[qC]
 refine qK (sN 53 5 _ w3.heap.size 1 1 _ (by rfl) (by rfl) underlying53 underlying5 hB4 (fun w5 hB5 hm5=>?_))
 have hm35:Mod qJ w3 w5:=hm4.transB hm5 (Nat.le_refl _);have hsA:=gW (sl_bytes (n:=1) hB5 rfl (by simp)) (by simp);try simp only[qC]
 refine qK (xE func96 (hsA) ?_);rintro e w6 ⟨rfl,hm6⟩;have hm36:=hm35.trans0 hm6;refine⟨_,rfl,?_⟩;try simp only[qC]
 refine qK (vX 53 5 2 [(0,_),(1,_)] [qW 66,qW 33] (qW 0) 1 (by rfl) (by rfl) (by rfl) underlying53 byte_zs (by omega) (by omega) (by simp[Value.cells,qW]) (fun w7 hB7 hm7 hs7=>?_))
 replace hB7:w7.heap[w6.heap.size]?=some (.cells (qA [66,33]) 5 (0,0)):=hB7;try simp only[qC]
 refine qK (sN 53 5 _ w6.heap.size 2 2 _ (by rfl) (by rfl) underlying53 underlying5 hB7 (fun w8 hB8 hm8=>?_))
 have hm68:Mod qJ w6 w8:=hm7.transB hm8 (Nat.le_refl _);have hsB:=gW (sl_bytes (n:=2) hB8 rfl (by simp)) (by simp);try simp only[qC]
 refine qK (xE func96 (hsB) ?_);rintro e w9 ⟨rfl,hm9⟩;have hm39:=hm36.trans0 (hm68.trans0 hm9);clear hm36 hm68 hm9 hm7 hm8 hB7 hB8 hsA hsB hm35 hm6 hB4 hB5 hm4 hm5
 refine⟨_,rfl,?_⟩;try simp only[qC]
 refine qK (kK 53 (qW 65) (qW 0) 1 rfl (fun wa hBa hma hsa=>?_) (hi:=byte_zs));replace hBa:wa.heap[w9.heap.size]?=some (.cells (qA [65]) 5 (0,0)):=hBa
 try simp only[qC]
 refine qK (sN 53 5 _ w9.heap.size 1 1 _ (by rfl) (by rfl) underlying53 underlying5 hBa (fun wb hBb hmb=>?_))
 have hm9b:Mod qJ w9 wb:=hma.transB hmb (Nat.le_refl _);try simp only[qC]
 refine qK (vX 53 5 2 [(0,_),(1,_)] [qW 66,qW 33] (qW 0) 1 (by rfl) (by rfl) (by rfl) underlying53 byte_zs (by omega) (by omega) (by simp[Value.cells,qW]) (fun wc hBc hmc hsc=>?_))
 replace hBc:wc.heap[wb.heap.size]?=some (.cells (qA [66,33]) 5 (0,0)):=hBc;try simp only[qC]
 refine qK (sN 53 5 _ wb.heap.size 2 2 _ (by rfl) (by rfl) underlying53 underlying5 hBc (fun wd hBd hmd=>?_))
 have hmbd:Mod qJ wb wd:=hmc.transB hmd (Nat.le_refl _);try simp only[qC]
 refine qK (vX 22 53 2 [(0,_),(1,_)] [.slice (some ⟨w9.heap.size,0,none⟩) 1 1,.slice (some ⟨wb.heap.size,0,none⟩) 2 2] (.slice none 0 0) 1 (by rfl) (by rfl) (by rfl) underlying22 bytes_zs (by omega) (by omega) (by simp[Value.cells]) (fun we hBe hme hse=>?_))
 replace hBe:we.heap[wd.heap.size]?=some (.cells #[.slice (some ⟨w9.heap.size,0,none⟩) 1 1,.slice (some ⟨wb.heap.size,0,none⟩) 2 2] 53 (0,0)):=hBe;try simp only[qC]
 refine qK (vX 64 3 4 [(0,_),(1,_),(2,_),(3,_)] [.int .i64 0,.int .i64 0,.int .i64 0,.int .i64 1] (.int .i64 0) 1 (by rfl) (by rfl) (by rfl) underlying64 int_zs (by omega) (by omega) (by simp[Value.cells]) (fun wf hBf hmf hsf=>?_))
 replace hBf:wf.heap[we.heap.size]?=some (.cells #[.int .i64 0,.int .i64 0,.int .i64 0,.int .i64 1] 3 (0,0)):=hBf
 have hm3f:Mod qJ w3 wf:=hm39.trans0 ((hm9b.trans0 hmbd).trans0 (hme.trans0 hmf));have hX1:=hm3f.obj id hB13;try simp only[qC]
 refine qV rfl (fun w' hS=>zH 68 [(0,_),(1,_),(2,_)] [(0,.int .i64 31),(1,.slice (some ⟨wd.heap.size,0,none⟩) 2 2),(2,.slice (some ⟨we.heap.size,0,none⟩) 4 4)] _ (by rfl) (by rfl) (built_house 31 _ _ 2 2 4 4)) ?_
 simp only[qC];refine qK (qT 24 (qA idA) (qQ _) 32 hA hX1 (fun wg hBg hmg=>?_) (hoff:=by rw[hA,hz32]))
 have hX2:=hmg.objB (b:=b1) (by omega) (hm3f.obj id hB23);have hX3:=hmg.objB (b:=b2) (by omega) (hm3f.obj id hB3);try simp only[qC]
 refine qK (qT 24 (qA idB) (qQ _) 32 hB hX2 (fun wh hBh hmh=>?_) (hoff:=by rw[hB,hz32]));have hY1:=hmh.objB (b:=b0) (by omega) hBg
 have hY3:=hmh.objB (b:=b2) (by omega) hX3;try simp only[qC]
 refine qK (qT 68 #[.int .i64 31,.slice (some ⟨wd.heap.size,0,none⟩) 2 2,.slice (some ⟨we.heap.size,0,none⟩) 4 4] (by intro c hc;simp at hc;rcases hc with rfl|rfl|rfl<;>rfl) 3 rfl hY3 (fun wi hBi hmi=>?_) (hoff:=by simp))
 have hZ1:=hmi.objB (b:=b0) (by omega) hY1;have hZ2:=hmi.objB (b:=b1) (by omega) hBh;simp only[qB];have hb23:b2<w3.heap.size:=(Array.getElem?_eq_some_iff.1 hB3).1
 have keep:∀k o,w3.heap.size<=k->wf.heap[k]?=some o->wi.heap[k]?=some o:=fun k o hk ho=>
  hmi.obj (fun e=>by have e:k=b2:=e;omega) (hmh.obj (fun e=>by have e:k=b1:=e;omega) (hmg.obj (fun e=>by have e:k=b0:=e;omega) ho))
 have hM:Mod qJ w wi:=(((hm03.trans0 hm3f).transB hmg (by omega)).transB hmh (by omega)).transB hmi (by omega);have s9:=hm39.size;have sb:=hm9b.size;have sd:=hmbd.size
 have se:=hme.size;have kb:=keep _ _ (by omega) ((hmbd.trans0 (hme.trans0 hmf)).obj id hBb);have kd:=keep _ _ (by omega) ((hme.trans0 hmf).obj id hBd)
 have ke:=keep _ _ (by omega) (hmf.obj id hBe);have kf:=keep _ _ (by omega) hBf
 have hl:LsAt wi (.slice (some ⟨wd.heap.size,0,none⟩) 2 2) [[65],[66,33]]:=by
  refine⟨_,_,rfl,Nat.le_refl _,by unfold maxLen;omega,fun _=>⟨wd.heap.size,0,rfl,trivial,fun e=>(by cases e),fun i hi=>?_⟩⟩
  match i,hi with
  |0,_=>exact⟨#[.slice (some ⟨w9.heap.size,0,none⟩) 1 1],rfl,⟨_,rfl,sl_bytes kb rfl (by simp)⟩,tU ke _ _ rfl⟩
  |1,_=>exact⟨#[.slice (some ⟨wb.heap.size,0,none⟩) 2 2],rfl,⟨_,rfl,sl_bytes kd rfl (by simp)⟩,tU ke _ _ rfl⟩
 have hk4:Sl false wi kV 1 dH (.slice (some ⟨we.heap.size,0,none⟩) 4 4) [0,0,0,1]:=by
  refine⟨_,_,rfl,Nat.le_refl _,by unfold maxLen;omega,fun _=>⟨we.heap.size,0,rfl,trivial,fun e=>(by cases e),fun i hi=>?_⟩⟩
  match i,hi with
  |0,_=>exact⟨_,rfl,rfl,tU kf _ _ rfl⟩
  |1,_=>exact⟨_,rfl,rfl,tU kf _ _ rfl⟩
  |2,_=>exact⟨_,rfl,rfl,tU kf _ _ rfl⟩
  |3,_=>exact⟨_,rfl,rfl,tU kf _ _ rfl⟩
 have HF:Hid (TwoR w (.returned (.tuple #[.agg (qA idA),.agg (qA idB),.agg #[.int .i64 31,.slice (some ⟨wd.heap.size,0,none⟩) 2 2,.slice (some ⟨we.heap.size,0,none⟩) 4 4]])) wi):=O ⟨hM,_,_,rfl,hl,hk4⟩
 clear hM hl hk4 kb kd ke kf keep hm3f hm39 hm9b hmbd hme hmf hma hmb hmc hmd hmg hmh hmi hBa hBb hBc hBd hBe hBf hBg hBh hX1 hX2 hX3 hY1 hY3 hm03;go_wp2
 refine bodyPost_ret (results_row3 (P:=prog) (ty:=24) (tz:=24) (tx:=68) rfl _ _ b0 b1 b2 _ _ _ _ _ _ _ _ _ _ _ _ (by rfl) hZ1 (by rfl) hZ2 (by rfl) hBi underlying24 rfl (by rw[hA];kernel_rfl) underlying24 rfl (by rw[hB];kernel_rfl) underlying68 rfl (by kernel_rfl)) rfl ?_
 exact HF.out
section
variable{p q:Value}{A B C D X:iL}
variable{w:iN}{b:Nat}{T:TypeId}{fr:Nat×Nat}
end
section
variable{k k':Nat}{t:iK}{d d':yY}{lv sv v:Value}
end
def layB:iK:=[108,97,121,101,114]
def cfgB:iK:=[99,111,110,102,105,103]
def dL:yY:=⟨2,xI 32 layB,5,[]⟩
def dC:yY:=⟨1,xI 32 cfgB,6,[]⟩
def imgM:eH:=⟨3,[],dC,[dL],[]⟩
def imgB:iK:=encL imgM
def saidD(more:Nat):yY:=⟨3,xI 32 imgB,imgB.length+more,[]⟩
def idxM(more:Nat):eH:=⟨4,[],descZ,[],[saidD more]⟩
def idxB(more:Nat):iK:=encL (idxM more)
def libL(more:Nat):List iK:=[layB,cfgB,imgB,idxB more]
theorem wp_gatB{α:Type}(enc:α->List Value)(s x:Operand)(t e:TypeId)(z:Value)(k bytes:Nat)(ho:o.op=.call { callee:=.builtin .append,args:=#[s,x],argTypes:=#[t,t] })
 (ht:P.underlying t=some (.slice e))(hi:(P.info? e).map (fun i=>(i.zero,i.size,i.bytes))=some (some z,k,bytes))(hzs:z.cells.size=k)(hk0:0<k)(h1:∀x,∀c∈enc x,c.oneCell'=true)
 (base:Nat)(v:Value)(l:List α)(hs:a.eval s=v)(hown:Gat enc e k base w v l)(u:Value)(m:List α)(hx:a.eval x=u)(hsrc:Src w k u m.length (m.flatMap enc))(h63:l.length+m.length<=maxLen)(hlen:(l.length+m.length)*bytes<=140737488355328)(hbase:base<=w.heap.size)
 (h:∀v' w',Gat enc e k base w' v' (l++m)->Mod (fun q=>v.ownBlock=some q) w w'->(∀g,v'.ownBlock=some g->v.ownBlock=some g\/w.heap.size<=g)->K (a.put o.dst v') w'):o.wp P a w K Q:=by
 refine vY s x t e z k bytes ho ht hi hzs hk0 base v l.length _ hs hown u m.length _ hx hsrc (fun c hc=>?_) h63 hlen hbase (fun v' w' ho' hg hv=>?_)
 ·obtain⟨y,_,hy⟩:=List.mem_flatMap.1 hc
  exact h1 y c hy
 ·refine h v' w' ?_ ((Mod.refl _ _).grown hg (fun k e _=>e)) (fun g hg'=>?_)
  ·unfold Gat
   rw[List.length_append,List.flatMap_append];exact ho'
  ·rcases hv with hv|hv
   ·exact .inl (by rw[<-hv];exact hg')
   ·rw[hv]at hg';cases hg';exact .inr (Nat.le_refl _)
def vN(l m:List iK):Prop:=m.Pairwise (fun x y=>x<y)/\∀x,x∈m↔x∈l
theorem riseI_ins(h:vN l out)(hj:j<=out.length)(h1:∀p (hp:p<out.length),p<j->out[p]<x)(h2:∀(hp:j<out.length),x<out[j]):vN (l++[x]) (out.take j++[x]++out.drop j):=by
 obtain⟨hs,hm⟩:=h;have hpw:=List.pairwise_iff_getElem.1 hs
 have ha:∀y∈out.take j,y<x:=fun y hy=>by
  obtain⟨p,hp,rfl⟩:=List.getElem_of_mem hy;rw[List.length_take]at hp;rw[List.getElem_take];exact h1 p (by omega) (by omega)
 have hb:∀y∈out.drop j,x<y:=fun y hy=>by
  obtain⟨p,hp,rfl⟩:=List.getElem_of_mem hy;rw[List.length_drop]at hp;rw[List.getElem_drop]
  rcases Nat.eq_zero_or_pos p with rfl|hp0
  ·exact h2 (by omega)
  ·exact List.lt_trans (h2 (by omega)) (hpw j (j+p) (by omega) (by omega) (by omega))
 refine⟨?_,fun y=>?_⟩
 ·rw[List.pairwise_append,List.pairwise_append]
  refine⟨⟨hs.sublist (List.take_sublist _ _),List.pairwise_singleton _ _,fun a h3 b h4=>?_⟩,hs.sublist (List.drop_sublist _ _),fun a h3 b h4=>?_⟩
  ·rw[List.mem_singleton.1 h4];exact ha a h3
  ·rcases List.mem_append.1 h3 with h5|h5
   ·exact List.lt_trans (ha a h5) (hb b h4)
   ·rw[List.mem_singleton.1 h5];exact hb b h4
 ·have h3:=hm y
  rw[<-List.take_append_drop j out,List.mem_append]at h3;simp only[List.mem_append,List.mem_singleton];rw[<-h3]
  constructor
  ·rintro((h|h)|h)
   ·exact .inl (.inl h)
   ·exact .inr h
   ·exact .inl (.inr h)
  ·rintro((h|h)|h)
   ·exact .inl (.inl h)
   ·exact .inr h
   ·exact .inl (.inr h)
theorem riseI_old(h:vN l out)(hx:x∈out):vN (l++[x]) out:=by
 refine⟨h.1,fun y=>?_⟩;rw[h.2 y,List.mem_append,List.mem_singleton]
 constructor
 ·exact .inl
 ·rintro(h1|rfl)
  ·exact h1
  ·exact(h.2 _).1 hx
theorem flatI_len(l:List iK):(l.flatMap iI).length=l.length*32:=by
 induction l with
 |nil=>rfl
 |cons x l ih=>rw[List.flatMap_cons,List.length_append,jL,ih,List.length_cons];omega
theorem flatI_drop(l:List iK)(i:Nat)(hi:i<=l.length):(l.flatMap iI).drop (i*32)=(l.drop i).flatMap iI:=by
 have h1:=tS jL l i hi;have h2:l.flatMap iI=(l.take i).flatMap iI++(l.drop i).flatMap iI:=by rw[<-List.flatMap_append,List.take_append_drop]
 have h3:((l.take i).flatMap iI).length=i*32:=by rw[flatI_len,List.length_take,Nat.min_eq_left hi]
 rw[h2,List.drop_append_of_le_length (by omega),List.drop_eq_nil_of_le (by omega),List.nil_append]
theorem gatI_cap{base:Nat}(h:kI base w (.slice ad n cap) out):out.length<=cap:=by
 rcases h.2 with⟨h1,h2⟩|⟨g,c,cur,h1,-,-,hc,-⟩
 ·omega
 ·cases h1;exact hc
theorem srcI_drop{base:Nat}(h:kI base w (.slice ad out.length cap) out)(hj:j<=out.length):Src w 32 (sliced ad j out.length cap 32) (out.drop j).length ((out.drop j).flatMap iI):=by
 have:=(uO h).drop (i:=j) hj (gatI_cap h);rw[flatI_drop _ _ hj]at this;rw[List.length_drop];exact this
theorem gatI_to{base:Nat}(h:kI base w (.slice ad out.length cap) out)(hj:j<=out.length):kI base w (sliced ad 0 j cap 32) (out.take j)/\∀q,(sliced ad 0 j cap 32).ownBlock=some q->(Value.slice ad out.length cap).ownBlock=some q:=by
 have hto:=owns_to (i:=j) h hj;refine⟨?_,fun q hq=>by rw[<-hto.2];exact hq⟩;have h1:=hto.1;rw[tS jL _ _ hj]at h1
 show w.ownsRow base 24 32 _ (out.take j).length _
 rw[List.length_take,Nat.min_eq_left hj];exact h1
theorem uG{α:Type}{enc:α->List Value}{s x:Operand}{e:TypeId}{z:Value}{bytes base:Nat}{l:List α}(t:TypeId)[u9:US9 t e](hi:(prog.info? e).map (fun i=>(i.zero,i.size,i.bytes))=some (some z,k,bytes))(h1:∀x,∀c∈enc x,c.oneCell'=true)
 (hown:Gat enc e k base w v l)(u:Value)(m:List α)(hsrc:Src w k u m.length (m.flatMap enc))(h63:l.length+m.length<=maxLen)(hlen:(l.length+m.length)*bytes<=140737488355328)(hbase:base<=w.heap.size)
 (h:∀v' w',Gat enc e k base w' v' (l++m)->Mod (fun q=>v.ownBlock=some q) w w'->(∀g,v'.ownBlock=some g->v.ownBlock=some g\/w.heap.size<=g)->K (a.put o.dst v') w')(ho:o.op=.call { callee:=.builtin .append,args:=#[s,x],argTypes:=#[t,t] }:=by rfl)(hs:a.eval s=v:=by rfl)(hx:a.eval x=u:=by rfl)(hzs:z.cells.size=k:=by kernel_rfl)(hk0:0<k:=by omega):o.wp prog a w K Q:=
 wp_gatB enc s x t e z k bytes ho u9.h hi hzs hk0 h1 base v l hs hown u m hx hsrc h63 hlen hbase h
def RisInI(out:List iK)(x:iK)(w0:iN)(i:Value)(w:iN):Prop:=∃j:Nat,j<=out.length/\i=.int .i64 j/\(∀p (hp:p<out.length),p<j->out[p]<x)/\Mod qJ w0 w
theorem sF:∀{l m:List iK},l.Pairwise (fun a b=>a<b)->m.Pairwise (fun a b=>a<b)->(∀x,x∈l↔x∈m)->l=m
 | [],[],_,_,_=>rfl
 | [],y::m,_,_,h=>by have:=(h y).2 List.mem_cons_self;cases this
 |x::l,[],_,_,h=>by have:=(h x).1 List.mem_cons_self;cases this
 |x::l,y::m,hl,hm,h=>by
  obtain⟨h1,h2⟩:=List.pairwise_cons.1 hl;obtain⟨h3,h4⟩:=List.pairwise_cons.1 hm
  have e:x=y:=by
   rcases List.mem_cons.1 ((h x).1 List.mem_cons_self)with e|e
   ·exact e
   ·rcases List.mem_cons.1 ((h y).2 List.mem_cons_self)with e2|e2
    ·exact e2.symm
    ·exact absurd (List.lt_trans (h3 _ e) (h1 _ e2)) (List.lt_irrefl y)
  subst e;rw[sF h2 h4 (fun z=>⟨fun hz=>?_,fun hz=>?_⟩)]
  ·rcases List.mem_cons.1 ((h z).1 (List.mem_cons_of_mem _ hz))with e|e
   ·exact absurd (e▸h1 _ hz) (List.lt_irrefl _)
   ·exact e
  ·rcases List.mem_cons.1 ((h z).2 (List.mem_cons_of_mem _ hz))with e|e
   ·exact absurd (e▸h3 _ hz) (List.lt_irrefl _)
   ·exact e
def c0:yO:=cOf 32 (libL 0)
end
section
open Go.RowKit Go.Proofs.Tryz Go.Lib
theorem sQ:idA.length=32:=rP _
theorem idB_len:idB.length=32:=rP _
theorem aP:idA≠idB:=by decide+kernel
theorem idB_ne_idA:idB≠idA:=fun e=>aP e.symm
theorem wid31:bO 31=32:=by decide
theorem decA:kA [65]=none:=by decide+kernel
attribute [local irreducible] bC xI
def cAB:yO:=[(idA,[65]),(idB,[66,33])]
def rA:ByteArray:=⟨#[97]⟩
def lAB:qU:=[((rA,idA),1),((rA,idB),2)]
theorem cOf_AB:cOf 32 [[65],[66,33]]=cAB:=by
 have h1:aL idA [65] []=[(idA,[65])]:=rfl
 have h2:aL idB [66,33] [(idA,[65])]=cAB:=by
  unfold aL;rw[if_neg (by simp[qR,idB_ne_idA,aP])]
  rfl
 have h3:xI 32 [65]=idA:=fQ _;have h4:xI 32 [66,33]=idB:=fQ _;unfold cOf;rw[List.foldl_cons,List.foldl_cons,List.foldl_nil,h3,h4,h1,h2]
theorem nameB_a:uP rA=true:=by decide+kernel
theorem addL_ok(l:qU)(k:uN)(size:Int)(hn:uP k.1=true)(h0:0<=size)(h1:size<=4096)(hg:qR k l=none)(hl:l.length<65536):iE false 1099511627776 l k size=l++[(k,size)]:=by
 have h:(addE false 1099511627776 l k size).1=true:=by
  unfold addE;rw[if_pos hn,if_neg (by omega),hg]
  simp[holdB,Nat.not_le.2 hl]
 unfold iE;rw[if_pos h]
theorem lOf_AB:lOf 32 [[65],[66,33]] [0,0,0,1] (sC [[65],[66,33]] [0,0,0,1])=lAB:=by
 have h0:sC [[65],[66,33]] [0,0,0,1]=2:=rfl;have hr:eS 0=rA:=rfl
 have e1:layZ 32 [[65],[66,33]] [] 0 0=[((rA,idA),1)]:=by
  have h:=addL_ok [] (rA,idA) 1 nameB_a (by omega) (by omega) rfl (by simp);have h3:xI 32 [65]=idA:=fQ _
  show iE false 1099511627776 [] (eS 0,xI 32 [65]) (([65]:iK).length:Nat)=_
  rw[h3,hr];exact h
 have e2:layZ 32 [[65],[66,33]] [((rA,idA),1)] 0 1=lAB:=by
  have h:=addL_ok [((rA,idA),1)] (rA,idB) 2 nameB_a (by omega) (by omega) (by simp[qR,idB_ne_idA,aP]) (by simp);have h3:xI 32 [66,33]=idB:=fQ _
  show iE false 1099511627776 [((rA,idA),1)] (eS 0,xI 32 [66,33]) (([66,33]:iK).length:Nat)=_
  rw[h3,hr];exact h
 rw[h0]
 show layZ 32 [[65],[66,33]] (layZ 32 [[65],[66,33]] [] 0 0) 0 1=lAB
 rw[e1,e2]
theorem getAB1:qR idA cAB=some [65]:=by simp[cAB,qR]
theorem inR_A(x:iK):inR cAB 5 idA 1 x↔x=idA:=by
 have hd:jA cAB idA=none:=by unfold jA;rw[getAB1];simp[decA]
 constructor
 ·rintro(h|⟨_,ds,hds,_⟩)
  ·exact h
  ·rw[hd]at hds;cases hds
 ·intro h;exact .inl h
theorem marks_A(h:fL cAB [idA] [] out):out=[idA]:=by
 refine sF h.1 (List.pairwise_singleton _ _) fun x=>?_;rw[h.2 x]
 simp[jI,inR_A]
theorem roots_A(h:SetOf [idA] out):out=[idA]:=sF h.1 (List.pairwise_singleton _ _) h.2
theorem gone_A{ids:List iK}(h:IDsC cAB ids):eD ids [idA]=[idB]:=by
 have hp:(eD ids [idA]).Pairwise (fun a b=>a<b):=h.1.sublist List.filter_sublist;refine sF hp (List.pairwise_singleton _ _) fun x=>?_;unfold eD
 rw[List.mem_filter,h.2.mem_iff];simp only[cAB,List.map_cons,List.map_nil,List.mem_cons,List.not_mem_nil,or_false,Bool.not_eq_true',decide_eq_false_iff_not]
 constructor
 ·rintro⟨rfl|rfl,h2⟩
  ·exact absurd rfl h2
  ·rfl
 ·rintro rfl
  exact⟨.inr rfl,fun e=>aP e.symm⟩
theorem run_A:swRun [idB] cAB lAB=([(idA,[65])],[((rA,idA),1)],2,1):=by
 have hne:=aP;have hn2:idB≠idA:=fun e=>hne e.symm
 simp[swRun,eM,cAB,lAB,jE,qR,dS,tI,hne,hn2]
end
section
open Go.RowKit Go.Proofs.Tryz Go.Lib
theorem descsOf_same{c c':yH}{id:iK}(h:qR id c=qR id c'):jA c id=jA c' id:=by unfold jA;rw[h]
structure LeftOf(c:yO)(l:qU)(marks gone:List iK)(s:SwS):Prop where
 nd:(s.1.map (·.1)).Nodup
 get:∀x,qR x s.1=if x∈gone then none else qR x c
 lk:s.2.1=l.filter (fun p=> !decide (p.1.2∈gone))
 len:s.1.length+gone.length=c.length
 used:vJ s.1+s.2.2.1=vJ c
 sum:s.2.2.2=(gone.map (tI l)).sum
 gnd:gone.Nodup
 mem:∀x,x∈gone↔(qR x c).isSome=true/\x∉marks
section
variable{c:yO}{l:qU}{marks gone:List iK}{s:SwS}(H:LeftOf c l marks gone s)
include H
end
end
section
open Go.Proofs.Tryz Go.Lib
def idsT(l:List Thg):List iK:=l.map (·.d.id)
structure OkW(c:yH)(id:iK)(ids:List iK):Prop where
 fine:(walkL c 5 (thgI id)).2=none
 sort:ids.Pairwise (fun a b=>a<b)
 mem:∀x,x∈ids↔x∈idsT (walkL c 5 (thgI id)).1
 few:ids.length<=256
section
variable{c:yH}{id:iK}{ids:List iK}(H:OkW c id ids)
include H
end
def inL(c:yH):Nat->iK->Nat->List iK
 |0,_,_=>[]
 |f+1,id,depth=>id::(if 4<depth then []else match jA c id with
  |none=>[]
  |some ds=>ds.flatMap fun d=>if jV d then inL c f d.id (depth+1)else [d.id])
theorem inL_mem(c:yH):∀(f:Nat)(id:iK)(depth:Nat)(x:iK),x∈inL c f id depth↔inR c f id depth x
 |0,_,_,_=>by simp[inL,inR]
 |f+1,id,depth,x=>by
  unfold inL inR;rw[List.mem_cons];refine or_congr Iff.rfl ?_
  by_cases h4:4<depth
  ·rw[if_pos h4]
   exact⟨fun h=>(by cases h),fun h=>by omega⟩
  ·rw[if_neg h4]
   cases hd:jA c id with
   |none=>
    dsimp only
    exact⟨fun h=>(by cases h),fun⟨_,ds,h,_⟩=>by cases h⟩
   |some ds=>
    dsimp only
    rw[List.mem_flatMap]
    constructor
    ·rintro⟨d,hd,hx⟩
     refine⟨by omega,ds,rfl,d,hd,?_⟩
     split at hx
     ·rename_i ht
      rw[if_pos ht];exact(inL_mem c f _ _ x).1 hx
     ·rename_i ht
      rw[if_neg ht];exact List.mem_singleton.1 hx
    ·rintro⟨_,ds',hds,d,hd,hx⟩
     cases hds
     refine⟨d,hd,?_⟩
     split at hx
     ·rename_i ht
      rw[if_pos ht];exact(inL_mem c f _ _ x).2 hx
     ·rename_i ht
      rw[if_neg ht];exact List.mem_singleton.2 hx
theorem fP{U:List iK}(h:vN s l)(hs:∀y∈s,y∈U):l.length<=U.length:=
 jC (lt_nodup h.1) fun y hy=>hs y ((h.2 y).1 hy)
theorem riseI_ext{s':List iK}(h:vN s l)(hs:∀y,y∈s↔y∈s'):vN s' l:=⟨h.1,fun y=>(h.2 y).trans (hs y)⟩
theorem inL_same{c c':yH}(h:∀y,qR y c=qR y c'):∀(f:Nat)(id:iK)(depth:Nat),inL c f id depth=inL c' f id depth
 |0,_,_=>rfl
 |f+1,id,depth=>by
  unfold inL;rw[descsOf_same (h id)];simp only[inL_same h f]
end
section
open Go.RowKit Go.Proofs.Tryz Go.Lib
theorem lex_lt:∀{x y:iK}{n:Nat}(hx:n<x.length)(hy:n<y.length),x.take n=y.take n->x[n]<y[n]->x<y
 |a::x,b::y,0,_,_,_,h=>by
  exact List.cons_lt_cons_iff.2 (.inl h)
 |a::x,b::y,n+1,hx,hy,ht,h=>by
  simp only[List.take_succ_cons,List.cons.injEq]at ht;exact List.cons_lt_cons_iff.2 (.inr ⟨ht.1,lex_lt (by simpa using hx) (by simpa using hy) ht.2 (by simpa using h)⟩)
theorem cmpI_less(h:x<y):uW x y=-1:=by
 have h1:=(rZ x y).2 h
 rcases cmpI_lt x y with h2|h2|h2<;>omega
theorem cmpI_more(h:y<x):uW x y=1:=by
 rcases cmpI_lt x y with h2|h2|h2
 ·exact absurd ((rZ x y).1 (by omega)) (fun h3=>List.lt_irrefl _ (uU h h3))
 ·rw[tT]at h2;subst h2;exact absurd h (List.lt_irrefl _)
 ·exact h2
def CmpRel(x y:iK)(w0:iN)(v:Value)(w:iN):Prop:=∃n:Nat,n<=32/\v=.int .i64 n/\x.take n=y.take n/\Mod qJ w0 w
theorem id_cell(hB:w.heap[b]?=some (.cells (qA x) T (0,0)))(h:n<x.length):w.cell? ⟨b,n,none⟩=some (.int .u8 (x[n].toNat:Int)):=by
 rw[cell_of_row _ _ _ _ _ _ hB]
 simp[qA,h,qW]
theorem rS(x y:iK)(hx:x.length=32)(hy:y.length=32)(w:iN):Calls prog 195 #[.agg (qA x),.agg (qA y)] w (vO (.int .i64 (uW x y)) w):=by
 go_enter func195,ntmps195;go_upto_region 0 with(fail);refine qL [1,1,3] ?_;simp only[qB];refine qK (zT 24 (fun w1 hB1 hm1 hs1=>?_))
 replace hB1:w1.heap[w.heap.size]?=some (.cells (qA x) 24 (0,0)):=hB1;try simp only[qC]
 refine qK (zT 24 (fun w2 hB2 hm2 hs2=>?_));replace hB2:w2.heap[w1.heap.size]?=some (.cells (qA y) 24 (0,0)):=hB2;simp only[qB];have hM2:=hm1.trans0 hm2
 have hB1:=hm2.obj id hB1;clear hm1 hm2 hs1 hs2;go_wp2
 go_loopw [5] (CmpRel x y w2) (fun i _=>32-(intOf i).toNat)
 case atStart=>exact⟨0,by omega,rfl,rfl,Mod.refl _ _⟩
 case round=>
  rename iN=>wr
  obtain⟨n,hn,rfl,hpre,hM⟩:=hrel
  by_cases hlt:n<32
  ·have hz:(n:Int)<32:=by omega
   have hxn:n<x.length:=by omega
   have hyn:n<y.length:=by omega
   have h1:=id_cell (hM.obj id hB1) hxn;have h2:=id_cell (hM.obj id hB2) hyn;have e1:x.take (n+1)=x.take n++[x[n]]:=List.take_succ_eq_append_getElem hxn
   have e2:y.take (n+1)=y.take n++[y[n]]:=List.take_succ_eq_append_getElem hyn;have hlx:= @lex_lt x y n hxn hyn hpre;have hly:= @lex_lt y x n hyn hxn hpre.symm
   have heq:x[n]=y[n]->x.take (n+1)=y.take (n+1):=fun e=>by rw[e1,e2,hpre,e]
   generalize x[n]=p at*;generalize y[n]=q at*;have HLX:=O hlx;have HLY:=O hly;have HEQ:=O heq;clear hlx hly heq e1 e2 hpre;go_upto_region 4 with(fail)
   have hS:Mod qJ wr wr.drew:=(Mod.refl _ _).drew;obtain⟨t,ht⟩:∃t,vW .lss (p.toNat:Int) (q.toNat:Int)=t:=⟨_,rfl⟩;have HT:=O ht;clear ht
   refine zZ [3,3,0,3,3,0,3] [] (fun w'=>Mod qJ wr w') hS ?_;simp only[qB];refine zO 24 1 hlt ?_;simp only[qC]
   refine qE (b:=w.heap.size) (off:=n*1) 5 (fun w' hS=>by rw[Nat.mul_one];exact hS.cell id h1) ?_;simp only[qB];refine zO 24 1 hlt ?_;simp only[qC]
   refine qE (b:=w1.heap.size) (off:=n*1) 5 (fun w' hS=>by rw[Nat.mul_one];exact hS.cell id h2) ?_;simp only[qC]
   refine qN _ _ _ _ _ _ _ _ rfl rfl rfl rfl rfl t HT.out ?_;simp only[qB]
   cases t
   ·have hnl:¬p.toNat<q.toNat:=by have:=HT.out;simpa[vW]using this
    go_upto_region 6 with(fail);have hS2:Mod qJ wr wr.drew.drew:=hS.drew;obtain⟨t,ht⟩:∃t,vW .gtr (p.toNat:Int) (q.toNat:Int)=t:=⟨_,rfl⟩
    have HT2:=O ht;clear ht;refine zZ [3,3,0,3,3,0,3] [] (fun w'=>Mod qJ wr w') hS2 ?_;simp only[qB];refine zO 24 1 hlt ?_;simp only[qC]
    refine qE (b:=w.heap.size) (off:=n*1) 5 (fun w' hS=>by rw[Nat.mul_one];exact hS.cell id h1) ?_;simp only[qB];refine zO 24 1 hlt ?_;simp only[qC]
    refine qE (b:=w1.heap.size) (off:=n*1) 5 (fun w' hS=>by rw[Nat.mul_one];exact hS.cell id h2) ?_;simp only[qC]
    refine qN _ _ _ _ _ _ _ _ rfl rfl rfl rfl rfl t HT2.out ?_;simp only[qB]
    cases t
    ·have hng:¬q.toNat<p.toNat:=by have:=HT2.out;simpa[vW]using this
     have e:p=q:=UInt8.toNat_inj.1 (by omega);have hM':=hM.trans0 hS2;clear hM hS hS2 h1 h2;go_wp2
     go_roundw
     case rel=>exact⟨n+1,by omega,by go_num,HEQ.out e,hM'⟩
     case measure=>simp[intOf];omega
    ·have hg:q.toNat<p.toNat:=by have:=HT2.out;simpa[vW]using this
     have hc:=cmpI_more (HLY.out hg);have hM':=(hM2.trans0 hM).trans0 hS2;clear hM hS hS2 h1 h2;go_wp2;go_ret;refine⟨?_,hM'⟩
     first|rfl|(rw[hc];rfl)
   ·have hl:p.toNat<q.toNat:=by have:=HT.out;simpa[vW]using this
    have hc:=cmpI_less (HLX.out hl);have hM':=(hM2.trans0 hM).trans0 hS;clear hM hS h1 h2;go_wp2;go_ret;refine⟨?_,hM'⟩
    first|rfl|(rw[hc];rfl)
  ·have hz:¬(n:Int)<32:=by omega
   obtain rfl:n=32:=by omega
   have e:x=y:=by rw[List.take_of_length_le (by omega),List.take_of_length_le (by omega)]at hpre;exact hpre
   have hc:uW x y=0:=(tT x y).2 e;have hM':=hM2.trans0 hM;clear hM hpre e;go_wp2;go_ret;refine⟨?_,hM'⟩
   first|rfl|(rw[hc];rfl)
end
section
open Go.RowKit Go.Shelf Go.Proofs.Tryz Go.Lib
theorem own_new{o:Obj}(h:w.heap[b]?=some o)(n c:Nat):∀k,(Value.slice (some ⟨w.heap.size,0,none⟩) n c).ownBlock=some k->k≠b:=fun k e=>by
 have h1:=(Array.getElem?_eq_some_iff.1 h).1;have e':some w.heap.size=some k:=e
 cases e';omega
theorem tR{base:Nat}(h:kI base w v l):∀k,v.ownBlock=some k->k≠w.heap.size:=fun k e=>by have:=(h.lt e).2;omega
theorem tW{v':Value}{o:Obj}(h:w.heap[b]?=some o)(hN:∀k,v.ownBlock=some k->k≠b)(hv:∀g,v'.ownBlock=some g->v.ownBlock=some g\/w.heap.size<=g):∀k,v'.ownBlock=some k->k≠b:=fun k e=>by
 have h1:=(Array.getElem?_eq_some_iff.1 h).1
 rcases hv k e with h2|h2
 ·exact hN k h2
 ·omega
def OwnOr(w:iN)(v0 v:Value):Prop:=∀q,v.ownBlock=some q->v0.ownBlock=some q\/w.heap.size<=q
def LaidR(base:Nat)(w:iN)(v0:Value)(s:List iK)(x:iK):iJ:=fun e w'=>Mod qJ w w'/\∃v m,e=.returned v/\kI base w' v m/\vN (s++[x]) m/\OwnOr w v0 v
theorem sV{base:Nat}(h:kI base w v l)(hb:base<=w.heap.size)(hr:vN s l)(h32:∀y∈l,y.length=32)(hx32:x.length=32)(hl:l.length<=10000):Calls prog 120 #[v,.agg (qA x)] w (LaidR base w v s x):=by
 obtain⟨ad,cap,rfl⟩:=h.slice;have hxc:(qA x).size=32:=by rw[qD,hx32]
 have HG:=O h;have HR:=O hr;have H32:=O h32;clear h hr h32;go_enter func120,ntmps120;go_upto_region 0 with(fail);refine qL [1,3] ?_;simp only[qB]
 refine qK (zT 24 (fun w1 hB1 hm1 hs1=>?_));replace hB1:w1.heap[w.heap.size]?=some (.cells (qA x) 24 (0,0)):=hB1;simp only[qB]
 have hbx:CellsAt w1 w.heap.size 0 (qA x):=CellsAt.whole hB1;have hm:=hm1;generalize hb3:w.heap.size=b3 at*;clear hB1 hm1 hs1;go_wp2
 go_loopw [5] (RisInI l x w1) (fun i _=>l.length-(intOf i).toNat)
 case atStart=>exact⟨0,by omega,rfl,fun p _ h=>by omega,Mod.refl _ _⟩
 case round=>
  rename iN=>w8
  obtain⟨j,hj,rfl,hall,hm8⟩:=hrel;have HALL:=O hall;clear hall;have hM8:=hm.trans0 hm8;have HG8:=O (HG.out.keep0 hM8);have hbx8:=hbx.keep hm8 id
  by_cases hjl:j<l.length
  ·have hzj:(j:Int)<(l.length:Int):=by omega
   obtain⟨_,_,hv,-,hat⟩:=Sl.at (slI HG8.out H32.out)
   cases hv
   obtain⟨g3,off3,rfl,-,-,hc⟩:=hat j hjl;obtain⟨_,-,⟨rfl,hy32⟩,hky⟩:=hc j hjl
   have HNX:=O (fun(h:l[j]<x) p (hp:p<l.length)(h1:p<j+1)=>show l[p]<x by
    rcases Nat.lt_or_ge p j with h2|h2
    ·exact HALL.out p hp h2
    ·obtain rfl:p=j:=by omega
     exact h)
   have HMEM:=O (show l[j]∈l from List.getElem_mem hjl)
   have HTRI:=O (fun(h1:¬l[j]<x)(h2:l[j]≠x)=>show ∀(hp:j<l.length),x<l[j]from fun _=>by
    rcases rU l[j] x with h3|h3|h3
    ·exact absurd h3 h1
    ·exact absurd h3 h2
    ·exact h3)
   have HIN:=O (fun h2=>riseI_ins (x:=x) HR.out hj HALL.out h2);obtain⟨y,hy⟩:∃x,l[j]=x:=⟨_,rfl⟩;rw[hy]at hky HNX HMEM HTRI hy32
   have hyc:(qA y).size=32:=by rw[qD,hy32]
   clear hat hc;have hneg:=rZ y x;obtain⟨c,hcc⟩:∃c,uW y x=c:=⟨_,rfl⟩;have hsc:=fun w'=>rS y x hy32 hx32 w';rw[hcc]at hneg
   simp only[hcc]at hsc;go_upto_region 2 with(fail);have hS:Mod qJ w8 w8.drew:=(Mod.refl _ _).drew
   by_cases hlss:y<x
   ·have hc0:c<0:=hneg.2 hlss
    have HN:=O (HNX.out hlss);clear HTRI HIN HNX hlss hy hneg hcc;refine zZ [3,3,3,3,3,3,3,3,0,0,1,3,3] [] (fun w'=>Mod qJ w8 w') hS ?_;simp only[qB]
    refine xF ?_;simp only[qC];refine xD hzj ?_;simp only[qB];refine zC 25 32 hjl ?_;simp only[qC];refine zJ 24 (fun w' hS=>hky.keep hS id) 32 hyc ?_
    simp only[qC];refine zJ 24 (fun w' hS=>hbx8.keep hS id) 32 hxc ?_;simp only[qC];refine qH rfl (fun K hK=>?_);refine xE func195 (hsc _) ?_
    rintro e we ⟨rfl,hg2⟩;have hS2:=hS.trans0 hg2;refine⟨_,rfl,hK _ _ hS2 ?_⟩;clear hK K;try simp only[qC]
    refine xD hc0 ?_;simp only[qB];clear hc0;go_wp2
    go_roundw
    case rel=>exact⟨j+1,by omega,by go_num,HN.out,hm8.trans0 hS2⟩
    case measure=>simp[intOf];omega
   ·have hc0:¬c<0:=fun h=>hlss (hneg.1 h)
    have HT2:=O (HTRI.out hlss);clear HTRI HNX hlss hneg hcc;refine zZ [3,3,3,3,3,3,3,3,0,0,1,3,3] [] (fun w'=>Mod qJ w8 w') hS ?_;simp only[qB]
    refine xF ?_;simp only[qC];refine xD hzj ?_;simp only[qB];refine zC 25 32 hjl ?_;simp only[qC];refine zJ 24 (fun w' hS=>hky.keep hS id) 32 hyc ?_
    simp only[qC];refine zJ 24 (fun w' hS=>hbx8.keep hS id) 32 hxc ?_;simp only[qC];refine qH rfl (fun K hK=>?_);refine xE func195 (hsc _) ?_
    rintro e we ⟨rfl,hg2⟩;have hS2:=hS.trans0 hg2;refine⟨_,rfl,hK _ _ hS2 ?_⟩;clear hK K;try simp only[qC]
    refine xT hc0 ?_;simp only[qB];clear hc0;replace hM8:=hM8.trans0 hS2;replace HG8:=O (HG8.out.keep0 hS2);replace hbx8:=hbx8.keep hS2 id
    replace hky:=hky.keep hS2 id;clear hS hS2 hg2 hm8 hm;go_upto_region 4 with(fail);have hS:Mod qJ we we.drew:=(Mod.refl _ _).drew
    by_cases hyx:y=x
    ·have HOLD:=O (show vN (s++[x]) l from riseI_old HR.out (by rw[<-hyx];exact HMEM.out))
     clear HT2 HIN HMEM hy;refine zZ [3,3,3,3,3,3,3,3,0,0,0,3] [] (fun w'=>Mod qJ we w') hS ?_;simp only[qB];refine xF ?_;simp only[qC];refine xD hzj ?_
     simp only[qB];refine zC 25 32 hjl ?_;simp only[qC];refine zJ 24 (fun w' hS=>hky.keep hS id) 32 hyc ?_;simp only[qC]
     refine zJ 24 (fun w' hS=>hbx8.keep hS id) 32 hxc ?_;simp only[qC]
     refine qV rfl (fun w' hS=>rG _ _ _ _ rfl _ _ rfl rfl 32 5 underlying24 underlying5 (by kernel_rfl) (by kernel_rfl) hy32 hx32 true (decide_eq_true hyx)) ?_
     simp only[qB]
     have HF:Hid (LaidR base w (.slice (some ⟨g3,off3,none⟩) l.length cap) s x (.returned (.slice (some ⟨g3,off3,none⟩) l.length cap)) we.drew):=O ⟨hM8.trans0 hS,_,l,rfl,HG8.out.keep0 hS,HOLD.out,fun q hq=>.inl hq⟩
     clear hS hM8 HG8 hyx;go_wp2;go_ret;exact HF.out
    ·have HINS:Hid (vN (s++[x]) (l.take j++[x]++l.drop j)):=O (HIN.out (HT2.out hyx))
     clear HT2 HIN HMEM hy;refine zZ [3,3,3,3,3,3,3,3,0,0,0,3] [] (fun w'=>Mod qJ we w') hS ?_;simp only[qB];refine xF ?_;simp only[qC];refine xD hzj ?_
     simp only[qB];refine zC 25 32 hjl ?_;simp only[qC];refine zJ 24 (fun w' hS=>hky.keep hS id) 32 hyc ?_;simp only[qC]
     refine zJ 24 (fun w' hS=>hbx8.keep hS id) 32 hxc ?_;simp only[qC]
     refine qV rfl (fun w' hS=>rG _ _ _ _ rfl _ _ rfl rfl 32 5 underlying24 underlying5 (by kernel_rfl) (by kernel_rfl) hy32 hx32 false (decide_eq_false hyx)) ?_
     simp only[qB];replace hM8:=hM8.trans0 hS;replace HG8:=O (HG8.out.keep0 hS);replace hbx8:=hbx8.keep hS id;clear hS hyx hky;generalize we.drew=wi at*
     have hjle:j<=l.length:=by omega
     have hcap:=gatI_cap HG8.out;have hsz8:=hM8.size;go_upto_region 6 with(fail);refine qL [1,3,3,3,1,3] ?_;simp only[qB]
     refine qK (zU 25 24 (by rfl) underlying25 (by kernel_rfl) (fun w9 hB9 hm9 hs9=>?_));simp only[qB]
     refine kY 25 24 _ _ _ _ _ j 32 rfl rfl rfl rfl underlying25 (by kernel_rfl) hjle ?_;simp only[qC]
     refine qK (uG (base:=wi.heap.size) (l:=[]) 25 tH jD (yI _ hB9 (Nat.le_refl _)) _ (l.drop j) (srcI_drop (HG8.out.keep0 hm9) hjle) (by simp only[List.length_nil,List.length_drop];unfold maxLen;omega) (by simp only[List.length_nil,List.length_drop];omega) hm9.size (fun v10 w10 hg10 hm10 hn10=>?_))
     have hM10:Mod qJ wi w10:=hm9.trans hm10 (fun k hk e=>by
      have e':some wi.heap.size=some k:=e
      cases e';omega)
     simp only[qB];rw[List.nil_append]at hg10;have HG10:=O hg10;have HGX:=O (HG8.out.keep0 hM10);have hbx':=hbx8.keep hM10 id;have hMx:=hM8.trans0 hM10
     clear hg10 hm9 hm10 hn10 hB9 hM10 hM8;go_upto_region 7 with(fail);have hS:Mod qJ w10 w10.drew:=(Mod.refl _ _).drew;have hT:=hS;have hto:=(gatI_to HGX.out hjle).1
     refine yU [(1,3),(2,3),(3,3),(5,0),(8,3)] 3 [(7,1),(9,1),(10,3)] [] (fun w'=>Mod qJ w10 w') #[false,true,true,true,false,true,false,false,true,false,false] (by kernel_rfl) (by kernel_rfl) (by kernel_rfl) (by kernel_rfl) (by kernel_rfl) (fun _ _ _ _ hd h=>⟨hd.trans h.1,h.2⟩) hS ?_
     simp only[qB];refine vH 25 24 _ _ _ _ _ j 32 rfl rfl rfl rfl underlying25 (by kernel_rfl) (by omega) ?_;simp only[qC]
     refine zJ 24 (fun w' hS=>hbx'.keep hS id) 32 hxc ?_;simp only[qB];refine qO [0,6] (by kernel_rfl) ?_;simp only[zz3,false_implies,implies_true]
     refine⟨?_,?_⟩
     ·intro K hK
      simp only[zz5];refine zU 25 24 (by rfl) underlying25 (by kernel_rfl) (fun wa hBa hma hsa=>?_)
      have hO:kI w10.heap.size wa _ []:=yI _ hBa hT.size
      try have hN:=own_new hX 0 0
      try replace hX:=hma.obj id hX
      replace hT:=hT.trans0 hma;clear hBa hma hsa;refine hK _ _ hT ?_;clear hK K;try simp only[qC]
      refine qO [4,6] (by kernel_rfl) ?_;simp only[zz3,false_implies,implies_true];refine⟨?_,?_⟩
      ·intro K hK
       simp only[zz5]
       refine uG 25 tH jD hO _ (l.take j) (Gat.src (hto.keep0 hT)) (by simp only[List.length_nil,List.length_take];unfold maxLen;omega) (by simp only[List.length_nil,List.length_take];omega) hT.size (fun v44 wb hb hmb hvb=>?_)
       rw[List.nil_append]at hb
       try have hN2:=tW hX hN hvb
       try replace hX:=hmb.obj (fun e=>hN _ e rfl) hX
       try replace hN:=hN2
       replace hT:Mod qJ w10 wb:=hT.trans hmb (fun k hk e=>by have:=(hO.lt e).1;omega);replace hO:=hb;clear hb hmb hvb;refine hK _ _ hT ?_;clear hK K
       try simp only[qC]
       refine qO [6] (by kernel_rfl) ?_;simp only[zz3,false_implies,implies_true];intro K hK;simp only[zz5]
       refine kK 25 (.agg (qA x)) (.agg (qA (List.replicate 32 0))) 32 hxc (fun wc hBc hmc hsc=>?_);have hX:=hBc;rw[<-pG hx32]at hX
       try have hN:=tR hO
       try replace hO:=hO.keep0 hmc
       replace hT:=hT.trans0 hmc;clear hmc hBc hsc;refine hK _ _ hT ?_;clear hK K;try simp only[qC]
       refine xB ?_;try simp only[zz4]
       try simp only[qC]
       refine qH rfl (fun K hK=>?_)
       refine uG 25 tH jD hO (.slice (some ⟨_,0,none⟩) 1 1) [x] (uK (enc:=iI) (x:=x) (e:=24) jL hX) (by simp only[List.length_singleton,List.length_take];unfold maxLen;omega) (by simp only[List.length_singleton,List.length_take];omega) hT.size (fun v47 wd hg47 hm47 hv47=>?_)
       replace hT:Mod qJ w10 wd:=hT.trans hm47 (fun k hk e=>by have:=(hO.lt e).1;omega);clear hm47 hv47 hO hX hN;refine hK _ _ hT ?_;clear hK K;try simp only[qC]
       refine qH rfl (fun K hK=>?_)
       refine uG 25 tH jD hg47 v10 (l.drop j) (Gat.src (HG10.out.keep0 hT)) (by simp only[List.length_append,List.length_singleton,List.length_take,List.length_drop];unfold maxLen;omega) (by simp only[List.length_append,List.length_singleton,List.length_take,List.length_drop];omega) hT.size (fun v49 wz hg49 hm49 hv49=>?_)
       replace hT:Mod qJ w10 wz:=hT.trans hm49 (fun k hk e=>by have:=(hg47.lt e).1;omega)
       have HF:Hid (LaidR base w (.slice (some ⟨g3,off3,none⟩) l.length cap) s x (.returned v49) wz):=O ⟨hMx.trans0 hT,v49,_,rfl,hg49.base (by have:=hMx.size;omega),HINS.out,fun q hq=>.inr (by have:=(hg49.lt hq).1;have:=hMx.size;omega)⟩
       clear hm49 hv49 hg47 hg49;refine hK _ _ hT ?_;clear hK K;simp only[qB];clear hT hS hto HG10 HGX HINS hMx hbx'
       generalize sliced (some ⟨g3,off3,none⟩) 0 j cap 32=sl1;generalize sliced (some ⟨g3,off3,none⟩) j l.length cap 32=sl2;go_wp2;go_ret;exact HF.out
      ·intro K hK
       simp only[zz5];refine kK 25 (.agg (qA x)) (.agg (qA (List.replicate 32 0))) 32 hxc (fun wc hBc hmc hsc=>?_);have hX:=hBc;rw[<-pG hx32]at hX
       try have hN:=tR hO
       try replace hO:=hO.keep0 hmc
       replace hT:=hT.trans0 hmc;clear hmc hBc hsc;refine hK _ _ hT ?_;clear hK K;try simp only[qC]
       refine qO [4] (by kernel_rfl) ?_;simp only[zz3,false_implies,implies_true];intro K hK;simp only[zz5]
       refine uG 25 tH jD hO _ (l.take j) (Gat.src (hto.keep0 hT)) (by simp only[List.length_nil,List.length_take];unfold maxLen;omega) (by simp only[List.length_nil,List.length_take];omega) hT.size (fun v44 wb hb hmb hvb=>?_)
       rw[List.nil_append]at hb
       try have hN2:=tW hX hN hvb
       try replace hX:=hmb.obj (fun e=>hN _ e rfl) hX
       try replace hN:=hN2
       replace hT:Mod qJ w10 wb:=hT.trans hmb (fun k hk e=>by have:=(hO.lt e).1;omega);replace hO:=hb;clear hb hmb hvb;refine hK _ _ hT ?_;clear hK K
       try simp only[qC]
       refine xB ?_;try simp only[zz4]
       try simp only[qC]
       refine qH rfl (fun K hK=>?_)
       refine uG 25 tH jD hO (.slice (some ⟨_,0,none⟩) 1 1) [x] (uK (enc:=iI) (x:=x) (e:=24) jL hX) (by simp only[List.length_singleton,List.length_take];unfold maxLen;omega) (by simp only[List.length_singleton,List.length_take];omega) hT.size (fun v47 wd hg47 hm47 hv47=>?_)
       replace hT:Mod qJ w10 wd:=hT.trans hm47 (fun k hk e=>by have:=(hO.lt e).1;omega);clear hm47 hv47 hO hX hN;refine hK _ _ hT ?_;clear hK K;try simp only[qC]
       refine qH rfl (fun K hK=>?_)
       refine uG 25 tH jD hg47 v10 (l.drop j) (Gat.src (HG10.out.keep0 hT)) (by simp only[List.length_append,List.length_singleton,List.length_take,List.length_drop];unfold maxLen;omega) (by simp only[List.length_append,List.length_singleton,List.length_take,List.length_drop];omega) hT.size (fun v49 wz hg49 hm49 hv49=>?_)
       replace hT:Mod qJ w10 wz:=hT.trans hm49 (fun k hk e=>by have:=(hg47.lt e).1;omega)
       have HF:Hid (LaidR base w (.slice (some ⟨g3,off3,none⟩) l.length cap) s x (.returned v49) wz):=O ⟨hMx.trans0 hT,v49,_,rfl,hg49.base (by have:=hMx.size;omega),HINS.out,fun q hq=>.inr (by have:=(hg49.lt hq).1;have:=hMx.size;omega)⟩
       clear hm49 hv49 hg47 hg49;refine hK _ _ hT ?_;clear hK K;simp only[qB];clear hT hS hto HG10 HGX HINS hMx hbx'
       generalize sliced (some ⟨g3,off3,none⟩) 0 j cap 32=sl1;generalize sliced (some ⟨g3,off3,none⟩) j l.length cap 32=sl2;go_wp2;go_ret;exact HF.out
     ·intro K hK
      simp only[zz5];refine kK 25 (.agg (qA x)) (.agg (qA (List.replicate 32 0))) 32 hxc (fun wc hBc hmc hsc=>?_);have hX:=hBc;rw[<-pG hx32]at hX
      try have hN:=tR hO
      try replace hO:=hO.keep0 hmc
      replace hT:=hT.trans0 hmc;clear hmc hBc hsc;refine hK _ _ hT ?_;clear hK K;try simp only[qC]
      refine qO [0] (by kernel_rfl) ?_;simp only[zz3,false_implies,implies_true];intro K hK;simp only[zz5]
      refine zU 25 24 (by rfl) underlying25 (by kernel_rfl) (fun wa hBa hma hsa=>?_);have hO:kI w10.heap.size wa _ []:=yI _ hBa hT.size
      try have hN:=own_new hX 0 0
      try replace hX:=hma.obj id hX
      replace hT:=hT.trans0 hma;clear hBa hma hsa;refine hK _ _ hT ?_;clear hK K;try simp only[qC]
      refine qO [4] (by kernel_rfl) ?_;simp only[zz3,false_implies,implies_true];intro K hK;simp only[zz5]
      refine uG 25 tH jD hO _ (l.take j) (Gat.src (hto.keep0 hT)) (by simp only[List.length_nil,List.length_take];unfold maxLen;omega) (by simp only[List.length_nil,List.length_take];omega) hT.size (fun v44 wb hb hmb hvb=>?_)
      rw[List.nil_append]at hb
      try have hN2:=tW hX hN hvb
      try replace hX:=hmb.obj (fun e=>hN _ e rfl) hX
      try replace hN:=hN2
      replace hT:Mod qJ w10 wb:=hT.trans hmb (fun k hk e=>by have:=(hO.lt e).1;omega);replace hO:=hb;clear hb hmb hvb;refine hK _ _ hT ?_;clear hK K
      try simp only[qC]
      refine xB ?_;try simp only[zz4]
      try simp only[qC]
      refine qH rfl (fun K hK=>?_)
      refine uG 25 tH jD hO (.slice (some ⟨_,0,none⟩) 1 1) [x] (uK (enc:=iI) (x:=x) (e:=24) jL hX) (by simp only[List.length_singleton,List.length_take];unfold maxLen;omega) (by simp only[List.length_singleton,List.length_take];omega) hT.size (fun v47 wd hg47 hm47 hv47=>?_)
      replace hT:Mod qJ w10 wd:=hT.trans hm47 (fun k hk e=>by have:=(hO.lt e).1;omega);clear hm47 hv47 hO hX hN;refine hK _ _ hT ?_;clear hK K;try simp only[qC]
      refine qH rfl (fun K hK=>?_)
      refine uG 25 tH jD hg47 v10 (l.drop j) (Gat.src (HG10.out.keep0 hT)) (by simp only[List.length_append,List.length_singleton,List.length_take,List.length_drop];unfold maxLen;omega) (by simp only[List.length_append,List.length_singleton,List.length_take,List.length_drop];omega) hT.size (fun v49 wz hg49 hm49 hv49=>?_)
      replace hT:Mod qJ w10 wz:=hT.trans hm49 (fun k hk e=>by have:=(hg47.lt e).1;omega)
      have HF:Hid (LaidR base w (.slice (some ⟨g3,off3,none⟩) l.length cap) s x (.returned v49) wz):=O ⟨hMx.trans0 hT,v49,_,rfl,hg49.base (by have:=hMx.size;omega),HINS.out,fun q hq=>.inr (by have:=(hg49.lt hq).1;have:=hMx.size;omega)⟩
      clear hm49 hv49 hg47 hg49;refine hK _ _ hT ?_;clear hK K;simp only[qB];clear hT hS hto HG10 HGX HINS hMx hbx';generalize sliced (some ⟨g3,off3,none⟩) 0 j cap 32=sl1
      generalize sliced (some ⟨g3,off3,none⟩) j l.length cap 32=sl2;go_wp2;go_ret;exact HF.out
  ·have hzj:¬(j:Int)<(l.length:Int):=by omega
   have HINS:Hid (vN (s++[x]) (l.take j++[x]++l.drop j)):=O (riseI_ins HR.out hj HALL.out (fun h=>absurd h hjl));go_upto_region 2 with(fail)
   have hS:Mod qJ w8 w8.drew:=(Mod.refl _ _).drew;refine zZ [3,3,3,3,3,3,3,3,0,0,1,3,3] [] (fun w'=>Mod qJ w8 w') hS ?_;simp only[qB];refine xF ?_
   simp only[qC];refine xT hzj ?_;simp only[qB];refine xN rfl hS ?_;simp only[qB];replace hM8:=hM8.trans0 hS;replace HG8:=O (HG8.out.keep0 hS)
   replace hbx8:=hbx8.keep hS id;clear hS hm8 hm HALL;generalize w8.drew=we at*;go_upto_region 4 with(fail);have hS:Mod qJ we we.drew:=(Mod.refl _ _).drew
   refine zZ [3,3,3,3,3,3,3,3,0,0,3,3] [] (fun w'=>Mod qJ we w') hS ?_;simp only[qB];refine xF ?_;simp only[qC];refine xT hzj ?_;simp only[qB]
   replace hM8:=hM8.trans0 hS;replace HG8:=O (HG8.out.keep0 hS);replace hbx8:=hbx8.keep hS id;clear hS;generalize we.drew=wi at*;have hjle:j<=l.length:=by omega
   have hcap:=gatI_cap HG8.out;have hsz8:=hM8.size;go_upto_region 6 with(fail);refine qL [1,3,3,3,1,3] ?_;simp only[qB]
   refine qK (zU 25 24 (by rfl) underlying25 (by kernel_rfl) (fun w9 hB9 hm9 hs9=>?_));simp only[qB]
   refine kY 25 24 _ _ _ _ _ j 32 rfl rfl rfl rfl underlying25 (by kernel_rfl) hjle ?_;simp only[qC]
   refine qK (uG (base:=wi.heap.size) (l:=[]) 25 tH jD (yI _ hB9 (Nat.le_refl _)) _ (l.drop j) (srcI_drop (HG8.out.keep0 hm9) hjle) (by simp only[List.length_nil,List.length_drop];unfold maxLen;omega) (by simp only[List.length_nil,List.length_drop];omega) hm9.size (fun v10 w10 hg10 hm10 hn10=>?_))
   have hM10:Mod qJ wi w10:=hm9.trans hm10 (fun k hk e=>by
    have e':some wi.heap.size=some k:=e
    cases e';omega)
   simp only[qB];rw[List.nil_append]at hg10;have HG10:=O hg10;have HGX:=O (HG8.out.keep0 hM10);have hbx':=hbx8.keep hM10 id;have hMx:=hM8.trans0 hM10
   clear hg10 hm9 hm10 hn10 hB9 hM10 hM8;go_upto_region 7 with(fail);have hS:Mod qJ w10 w10.drew:=(Mod.refl _ _).drew;have hT:=hS;have hto:=(gatI_to HGX.out hjle).1
   refine yU [(1,3),(2,3),(3,3),(5,0),(8,3)] 3 [(7,1),(9,1),(10,3)] [] (fun w'=>Mod qJ w10 w') #[false,true,true,true,false,true,false,false,true,false,false] (by kernel_rfl) (by kernel_rfl) (by kernel_rfl) (by kernel_rfl) (by kernel_rfl) (fun _ _ _ _ hd h=>⟨hd.trans h.1,h.2⟩) hS ?_
   simp only[qB];refine vH 25 24 _ _ _ _ _ j 32 rfl rfl rfl rfl underlying25 (by kernel_rfl) (by omega) ?_;simp only[qC]
   refine zJ 24 (fun w' hS=>hbx'.keep hS id) 32 hxc ?_;simp only[qB];refine qO [0,6] (by kernel_rfl) ?_;simp only[zz3,false_implies,implies_true]
   refine⟨?_,?_⟩
   ·intro K hK
    simp only[zz5];refine zU 25 24 (by rfl) underlying25 (by kernel_rfl) (fun wa hBa hma hsa=>?_);have hO:kI w10.heap.size wa _ []:=yI _ hBa hT.size
    try have hN:=own_new hX 0 0
    try replace hX:=hma.obj id hX
    replace hT:=hT.trans0 hma;clear hBa hma hsa;refine hK _ _ hT ?_;clear hK K;try simp only[qC]
    refine qO [4,6] (by kernel_rfl) ?_;simp only[zz3,false_implies,implies_true];refine⟨?_,?_⟩
    ·intro K hK
     simp only[zz5]
     refine uG 25 tH jD hO _ (l.take j) (Gat.src (hto.keep0 hT)) (by simp only[List.length_nil,List.length_take];unfold maxLen;omega) (by simp only[List.length_nil,List.length_take];omega) hT.size (fun v44 wb hb hmb hvb=>?_)
     rw[List.nil_append]at hb
     try have hN2:=tW hX hN hvb
     try replace hX:=hmb.obj (fun e=>hN _ e rfl) hX
     try replace hN:=hN2
     replace hT:Mod qJ w10 wb:=hT.trans hmb (fun k hk e=>by have:=(hO.lt e).1;omega);replace hO:=hb;clear hb hmb hvb;refine hK _ _ hT ?_;clear hK K
     try simp only[qC]
     refine qO [6] (by kernel_rfl) ?_;simp only[zz3,false_implies,implies_true];intro K hK;simp only[zz5]
     refine kK 25 (.agg (qA x)) (.agg (qA (List.replicate 32 0))) 32 hxc (fun wc hBc hmc hsc=>?_);have hX:=hBc;rw[<-pG hx32]at hX
     try have hN:=tR hO
     try replace hO:=hO.keep0 hmc
     replace hT:=hT.trans0 hmc;clear hmc hBc hsc;refine hK _ _ hT ?_;clear hK K;try simp only[qC]
     refine xB ?_;try simp only[zz4]
     try simp only[qC]
     refine qH rfl (fun K hK=>?_)
     refine uG 25 tH jD hO (.slice (some ⟨_,0,none⟩) 1 1) [x] (uK (enc:=iI) (x:=x) (e:=24) jL hX) (by simp only[List.length_singleton,List.length_take];unfold maxLen;omega) (by simp only[List.length_singleton,List.length_take];omega) hT.size (fun v47 wd hg47 hm47 hv47=>?_)
     replace hT:Mod qJ w10 wd:=hT.trans hm47 (fun k hk e=>by have:=(hO.lt e).1;omega);clear hm47 hv47 hO hX hN;refine hK _ _ hT ?_;clear hK K;try simp only[qC]
     refine qH rfl (fun K hK=>?_)
     refine uG 25 tH jD hg47 v10 (l.drop j) (Gat.src (HG10.out.keep0 hT)) (by simp only[List.length_append,List.length_singleton,List.length_take,List.length_drop];unfold maxLen;omega) (by simp only[List.length_append,List.length_singleton,List.length_take,List.length_drop];omega) hT.size (fun v49 wz hg49 hm49 hv49=>?_)
     replace hT:Mod qJ w10 wz:=hT.trans hm49 (fun k hk e=>by have:=(hg47.lt e).1;omega)
     have HF:Hid (LaidR base w (.slice ad l.length cap) s x (.returned v49) wz):=O ⟨hMx.trans0 hT,v49,_,rfl,hg49.base (by have:=hMx.size;omega),HINS.out,fun q hq=>.inr (by have:=(hg49.lt hq).1;have:=hMx.size;omega)⟩
     clear hm49 hv49 hg47 hg49;refine hK _ _ hT ?_;clear hK K;simp only[qB];clear hT hS hto HG10 HGX HINS hMx hbx';generalize sliced ad 0 j cap 32=sl1
     generalize sliced ad j l.length cap 32=sl2;go_wp2;go_ret;exact HF.out
    ·intro K hK
     simp only[zz5];refine kK 25 (.agg (qA x)) (.agg (qA (List.replicate 32 0))) 32 hxc (fun wc hBc hmc hsc=>?_);have hX:=hBc;rw[<-pG hx32]at hX
     try have hN:=tR hO
     try replace hO:=hO.keep0 hmc
     replace hT:=hT.trans0 hmc;clear hmc hBc hsc;refine hK _ _ hT ?_;clear hK K;try simp only[qC]
     refine qO [4] (by kernel_rfl) ?_;simp only[zz3,false_implies,implies_true];intro K hK;simp only[zz5]
     refine uG 25 tH jD hO _ (l.take j) (Gat.src (hto.keep0 hT)) (by simp only[List.length_nil,List.length_take];unfold maxLen;omega) (by simp only[List.length_nil,List.length_take];omega) hT.size (fun v44 wb hb hmb hvb=>?_)
     rw[List.nil_append]at hb
     try have hN2:=tW hX hN hvb
     try replace hX:=hmb.obj (fun e=>hN _ e rfl) hX
     try replace hN:=hN2
     replace hT:Mod qJ w10 wb:=hT.trans hmb (fun k hk e=>by have:=(hO.lt e).1;omega);replace hO:=hb;clear hb hmb hvb;refine hK _ _ hT ?_;clear hK K
     try simp only[qC]
     refine xB ?_;try simp only[zz4]
     try simp only[qC]
     refine qH rfl (fun K hK=>?_)
     refine uG 25 tH jD hO (.slice (some ⟨_,0,none⟩) 1 1) [x] (uK (enc:=iI) (x:=x) (e:=24) jL hX) (by simp only[List.length_singleton,List.length_take];unfold maxLen;omega) (by simp only[List.length_singleton,List.length_take];omega) hT.size (fun v47 wd hg47 hm47 hv47=>?_)
     replace hT:Mod qJ w10 wd:=hT.trans hm47 (fun k hk e=>by have:=(hO.lt e).1;omega);clear hm47 hv47 hO hX hN;refine hK _ _ hT ?_;clear hK K;try simp only[qC]
     refine qH rfl (fun K hK=>?_)
     refine uG 25 tH jD hg47 v10 (l.drop j) (Gat.src (HG10.out.keep0 hT)) (by simp only[List.length_append,List.length_singleton,List.length_take,List.length_drop];unfold maxLen;omega) (by simp only[List.length_append,List.length_singleton,List.length_take,List.length_drop];omega) hT.size (fun v49 wz hg49 hm49 hv49=>?_)
     replace hT:Mod qJ w10 wz:=hT.trans hm49 (fun k hk e=>by have:=(hg47.lt e).1;omega)
     have HF:Hid (LaidR base w (.slice ad l.length cap) s x (.returned v49) wz):=O ⟨hMx.trans0 hT,v49,_,rfl,hg49.base (by have:=hMx.size;omega),HINS.out,fun q hq=>.inr (by have:=(hg49.lt hq).1;have:=hMx.size;omega)⟩
     clear hm49 hv49 hg47 hg49;refine hK _ _ hT ?_;clear hK K;simp only[qB];clear hT hS hto HG10 HGX HINS hMx hbx';generalize sliced ad 0 j cap 32=sl1
     generalize sliced ad j l.length cap 32=sl2;go_wp2;go_ret;exact HF.out
   ·intro K hK
    simp only[zz5];refine kK 25 (.agg (qA x)) (.agg (qA (List.replicate 32 0))) 32 hxc (fun wc hBc hmc hsc=>?_);have hX:=hBc;rw[<-pG hx32]at hX
    try have hN:=tR hO
    try replace hO:=hO.keep0 hmc
    replace hT:=hT.trans0 hmc;clear hmc hBc hsc;refine hK _ _ hT ?_;clear hK K;try simp only[qC]
    refine qO [0] (by kernel_rfl) ?_;simp only[zz3,false_implies,implies_true];intro K hK;simp only[zz5]
    refine zU 25 24 (by rfl) underlying25 (by kernel_rfl) (fun wa hBa hma hsa=>?_);have hO:kI w10.heap.size wa _ []:=yI _ hBa hT.size
    try have hN:=own_new hX 0 0
    try replace hX:=hma.obj id hX
    replace hT:=hT.trans0 hma;clear hBa hma hsa;refine hK _ _ hT ?_;clear hK K;try simp only[qC]
    refine qO [4] (by kernel_rfl) ?_;simp only[zz3,false_implies,implies_true];intro K hK;simp only[zz5]
    refine uG 25 tH jD hO _ (l.take j) (Gat.src (hto.keep0 hT)) (by simp only[List.length_nil,List.length_take];unfold maxLen;omega) (by simp only[List.length_nil,List.length_take];omega) hT.size (fun v44 wb hb hmb hvb=>?_)
    rw[List.nil_append]at hb
    try have hN2:=tW hX hN hvb
    try replace hX:=hmb.obj (fun e=>hN _ e rfl) hX
    try replace hN:=hN2
    replace hT:Mod qJ w10 wb:=hT.trans hmb (fun k hk e=>by have:=(hO.lt e).1;omega);replace hO:=hb;clear hb hmb hvb;refine hK _ _ hT ?_;clear hK K;try simp only[qC]
    refine xB ?_;try simp only[zz4]
    try simp only[qC]
    refine qH rfl (fun K hK=>?_)
    refine uG 25 tH jD hO (.slice (some ⟨_,0,none⟩) 1 1) [x] (uK (enc:=iI) (x:=x) (e:=24) jL hX) (by simp only[List.length_singleton,List.length_take];unfold maxLen;omega) (by simp only[List.length_singleton,List.length_take];omega) hT.size (fun v47 wd hg47 hm47 hv47=>?_)
    replace hT:Mod qJ w10 wd:=hT.trans hm47 (fun k hk e=>by have:=(hO.lt e).1;omega);clear hm47 hv47 hO hX hN;refine hK _ _ hT ?_;clear hK K;try simp only[qC]
    refine qH rfl (fun K hK=>?_)
    refine uG 25 tH jD hg47 v10 (l.drop j) (Gat.src (HG10.out.keep0 hT)) (by simp only[List.length_append,List.length_singleton,List.length_take,List.length_drop];unfold maxLen;omega) (by simp only[List.length_append,List.length_singleton,List.length_take,List.length_drop];omega) hT.size (fun v49 wz hg49 hm49 hv49=>?_)
    replace hT:Mod qJ w10 wz:=hT.trans hm49 (fun k hk e=>by have:=(hg47.lt e).1;omega)
    have HF:Hid (LaidR base w (.slice ad l.length cap) s x (.returned v49) wz):=O ⟨hMx.trans0 hT,v49,_,rfl,hg49.base (by have:=hMx.size;omega),HINS.out,fun q hq=>.inr (by have:=(hg49.lt hq).1;have:=hMx.size;omega)⟩
    clear hm49 hv49 hg47 hg49;refine hK _ _ hT ?_;clear hK K;simp only[qB];clear hT hS hto HG10 HGX HINS hMx hbx';generalize sliced ad 0 j cap 32=sl1
    generalize sliced ad j l.length cap 32=sl2;go_wp2;go_ret;exact HF.out
def SmallRep(r:jW):Prop:=r.tags.length<=10/\r.man.2.length<=20/\∀t∈r.tags,t.row.2.length<=20
def SmallTb(reps:List jW):Prop:=reps.length<=10/\∀r∈reps,SmallRep r
theorem SmallRep.len{r:jW}(h:SmallRep r):(zS (dN r)).length<=220:=by
 obtain⟨h1,h2,h3⟩:=h
 have hs:∀(l:List gC),(∀t∈l,t.row.2.length<=20)->(zS (l.map (·.row))).length<=20*l.length:=by
  intro l
  induction l with
  |nil=>intro _;simp[zS]
  |cons t l ih=>
   intro hl;have h4:=ih fun x hx=>hl x (List.mem_cons_of_mem _ hx);have h5:=hl t List.mem_cons_self
   simp only[zS,List.map_cons,List.flatMap_cons,List.length_append,List.length_map,List.length_cons]at h4 |-;omega
 have h4:=hs r.tags h3;unfold dN;rw[jB,List.length_append];have h5:(zS [r.man]).length=r.man.2.length:=by simp[zS]
 omega
theorem SmallTb.len{reps:List jW}(h:SmallTb reps):(zK reps).length<=2200:=by
 obtain⟨h1,h2⟩:=h
 have hs:∀(l:List jW),(∀r∈l,SmallRep r)->(zK l).length<=220*l.length:=by
  intro l
  induction l with
  |nil=>intro _;simp[zK,vE,zS]
  |cons r l ih=>
   intro hl;have h4:=ih fun x hx=>hl x (List.mem_cons_of_mem _ hx);have h5:=(hl r List.mem_cons_self).len
   have e:zK (r::l)=zS (dN r)++zK l:=by unfold zK;rw[aH,jB];rfl
   rw[e,List.length_append,List.length_cons];omega
 have:=hs reps h2;omega
def tagB(t:gC):Bool:=decide (t.name.size<=200)&&decide (t.row.2.length<=20)
def fW(r:jW):Bool:=decide (r.name.size<=200)&&decide (r.tags.length<=10)&&decide (r.man.2.length<=20)&&r.tags.all tagB
def tbB(n:Nat)(reps:List jW):Bool:=decide (n<=20)&&decide (reps.length<=10)&&reps.all fW
theorem tbB_small{reps:List jW}(h:tbB n reps=true):SmallTb reps:=by
 simp only[tbB,fW,tagB,Bool.and_eq_true,decide_eq_true_eq,List.all_eq_true]at h
 exact⟨h.1.2,fun r hr=>⟨(h.2 r hr).1.1.2,(h.2 r hr).1.2,fun t ht=>((h.2 r hr).2 t ht).2⟩⟩
theorem tbB_rep{reps:List jW}(hk:k<reps.length)(h:fW reps[k]=false):tbB n reps=false:=by
 have h1:reps.all fW=false:=by
  rw[<-Bool.not_eq_true,List.all_eq_true];intro h2;rw[h2 _ (List.getElem_mem hk)]at h
  cases h
 simp[tbB,h1]
theorem repB_tag{r:jW}(hm:m<r.tags.length)(h:tagB r.tags[m]=false):fW r=false:=by
 have h1:r.tags.all tagB=false:=by
  rw[<-Bool.not_eq_true,List.all_eq_true];intro h2;rw[h2 _ (List.getElem_mem hm)]at h
  cases h
 simp[fW,h1]
def TbRel(w0:iN)(reps:List jW)(i:Value)(w:iN):Prop:=∃k:Nat,k<=reps.length/\i=.int .i64 k/\(∀j (h:j<reps.length),j<k->fW reps[j]=true)/\Mod qJ w0 w
def TgRel(w0:iN)(tags:List gC)(i:Value)(w:iN):Prop:=∃k:Nat,k<=tags.length/\i=.int .i64 k/\(∀j (h:j<tags.length),j<k->tagB tags[j]=true)/\Mod qJ w0 w
theorem longTable_any{V:List Int}{reps:List jW}(hV:Sl false w kV 1 dH vv V)(hv:vG w rv reps):Calls prog 40 #[.agg #[vv,rv]] w (vO (.bool (!tbB V.length reps)) w):=by
 obtain⟨r,hr⟩:∃r,tbB V.length reps=r:=⟨_,rfl⟩;have HR:=O hr;rw[hr];clear hr;obtain⟨vad,vcap,rfl,hvl,-⟩:=Sl.at hV;obtain⟨rad,rcap,rfl,hrl,-⟩:=Sl.at hv
 have HV:=O hv;clear hV hv;go_enter func40,ntmps40;go_upto_region 0 with(fail);refine qL [1,3] ?_;simp only[qB];refine qK (zT 71 (fun w1 hB1 hm1 hs1=>?_))
 replace hB1:w1.heap[w.heap.size]?=some (.cells #[.slice vad V.length vcap,.slice rad reps.length rcap] 71 (0,0)):=hB1;simp only[qB]
 have hc0:w1.cell? ⟨w.heap.size,0,none⟩=some (.slice vad V.length vcap):=by simp[World.cell?,hB1]
 have hc1:w1.cell? ⟨w.heap.size,1,none⟩=some (.slice rad reps.length rcap):=by simp[World.cell?,hB1]
 have HV1:=O (xO HV.out (KC.of0 hm1));have hm01:=O hm1;generalize w.heap.size=b1 at*;clear hB1 hs1 hm1 HV
 by_cases z1:(20:Int)<(V.length:Nat)
 ·have HB:Hid (r=false):=O (by rw[<-HR.out];simp[tbB];omega)
  go_wp2;go_ret;exact⟨by rw[HB.out];rfl,hm01.out⟩
 by_cases z2:(10:Int)<(reps.length:Nat)
 ·have HB:Hid (r=false):=O (by rw[<-HR.out];simp[tbB];omega)
  go_wp2;go_ret;exact⟨by rw[HB.out];rfl,hm01.out⟩
 go_wp2
 go_loopw [3] (TbRel w1 reps) (fun i _=>reps.length-(intOf i).toNat)
 case atStart=>exact⟨0,Nat.zero_le _,rfl,fun j h hj=>absurd hj (Nat.not_lt_zero _),Mod.refl _ _⟩
 case round=>
  rename iN=>wr
  obtain⟨k,hk,rfl,hall,hmr⟩:=hrel;have hcr:wr.cell? ⟨b1,1,none⟩=some (.slice rad reps.length rcap):=hmr.cell id hc1
  by_cases hlt:k<reps.length
  ·have hz:(k:Int)<(reps.length:Nat):=by omega
   obtain⟨_,_,hae,-,hat⟩:=(xO HV1.out (KC.of0 hmr)).at;injection hae with hae1 hae2 hae3;subst hae1 hae3;obtain⟨b,off,rfl,-,-,hcc⟩:=hat k hlt
   obtain⟨cs,-,⟨rfl,hra⟩,hcA⟩:=hcc k hlt;have HALL:=O hall;have hbad:fW reps[k]=false->r=false:=fun h=>by rw[<-HR.out];exact tbB_rep hlt h
   have HBAD:=O hbad
   have hstep:fW reps[k]=true->∀j (h:j<reps.length),j<k+1->fW reps[j]=true:=fun hs j h hj=>by
    rcases Nat.lt_or_ge j k with h1|h1
    ·exact HALL.out j h h1
    ·have e:j=k:=by omega
     subst e;exact hs
   have HST:=O hstep;generalize reps[k]=x at*
   have h1x:∀c∈(#[Value.string x.name,x.tv,x.man.1]:iL),c.oneCell'=true:=by
    intro c hc
    simp at hc
    rcases hc with rfl|rfl|rfl
    ·rfl
    ·exact Sl.one hra.tags
    ·exact hra.man.one
   have HRA:=O hra;have hcr0:wr.cell? ⟨b1,0+1,none⟩=some (.slice (some ⟨b,off,none⟩) reps.length rcap):=hcr;clear hat hcc hae2 hra hall hstep hbad
   go_upto_region 6 with(fail);refine qL [3,1,3,3,1,1,1] ?_;simp only[qB];refine qG 69 hcr0 ?_;simp only[qB];refine zC 69 3 hlt ?_;simp only[qC]
   refine qY 186 hcA 3 rfl ?_;try simp only[qC]
   refine qK (zB repZ (fun w2 hB2 hm2 hs2=>?_));try simp only[qC]
   refine qK (yL 186 h1x 3 rfl hB2 (fun w3 hB3 hm3=>?_) (hoff:=by simp));simp only[qB];have hmr3:Mod qJ wr w3:=hm2.transB hm3 (Nat.le_refl _)
   have hra3:=HRA.out.kc (KC.of0 hmr3);obtain⟨tad,tcap,htv,htl,-⟩:=Sl.at hra3.tags;obtain⟨mad,mcap,hmv,hml,-⟩:=Sl.at hra3.man;rw[htv,hmv]at hB3
   have hn0:w3.cell? ⟨wr.heap.size,0,none⟩=some (.string x.name):=by simp[World.cell?,hB3]
   have hn1:w3.cell? ⟨wr.heap.size,1,none⟩=some (.slice tad x.tags.length tcap):=by simp[World.cell?,hB3]
   have hn2:w3.cell? ⟨wr.heap.size,2,none⟩=some (.slice mad x.man.2.length mcap):=by simp[World.cell?,hB3]
   have hm13:=hmr.trans0 hmr3;have HTG:=O hra3.tags;rw[htv]at HTG;generalize wr.heap.size=b4 at*;clear hm2 hm3 hB2 hs2 hB3 hcA hra3 hmr3 hcr hcr0 h1x htv hmv
   by_cases c1:(200:Int)<(x.name.size:Nat)
   ·have HB:Hid (r=false):=O (HBAD.out (by simp[fW];omega))
    go_wp2;go_ret;exact⟨by rw[HB.out];rfl,hm01.out.trans0 hm13⟩
   by_cases c2:(10:Int)<(x.tags.length:Nat)
   ·have HB:Hid (r=false):=O (HBAD.out (by simp[fW];omega))
    go_wp2;go_ret;exact⟨by rw[HB.out];rfl,hm01.out.trans0 hm13⟩
   by_cases c3:(20:Int)<(x.man.2.length:Nat)
   ·have HB:Hid (r=false):=O (HBAD.out (by simp[fW];omega))
    go_wp2;go_ret;exact⟨by rw[HB.out];rfl,hm01.out.trans0 hm13⟩
   go_wp2
   go_loopw [5] (TgRel w3 x.tags) (fun i _=>x.tags.length-(intOf i).toNat)
   case atStart=>exact⟨0,Nat.zero_le _,rfl,fun j h hj=>absurd hj (Nat.not_lt_zero _),Mod.refl _ _⟩
   case round=>
    rename iN=>wq
    obtain⟨m,hmle,rfl,hallt,hmq⟩:=hrel;have hnq:wq.cell? ⟨b4,1,none⟩=some (.slice tad x.tags.length tcap):=hmq.cell id hn1
    by_cases hltm:m<x.tags.length
    ·have hzm:(m:Int)<(x.tags.length:Nat):=by omega
     have htq:Sl false wq kV 2 (TagC wq) (.slice tad x.tags.length tcap) x.tags:=Sl.kc HTG.out (KC.of0 hmq) fun _ _ h=>⟨h.1,h.2.kc (KC.of0 hmq)⟩
     obtain⟨_,_,hte,-,htat⟩:=htq.at;injection hte with hte1 hte2 hte3;subst hte1 hte3;obtain⟨tb,toff,rfl,-,-,htcc⟩:=htat m hltm
     obtain⟨cs,-,⟨rfl,hta⟩,htA⟩:=htcc m hltm;have HAT:=O hallt;have hbt:tagB x.tags[m]=false->r=false:=fun h=>HBAD.out (repB_tag hltm h)
     have HBT:=O hbt
     have hstep:tagB x.tags[m]=true->∀j (h:j<x.tags.length),j<m+1->tagB x.tags[j]=true:=fun hs j h hj=>by
      rcases Nat.lt_or_ge j m with h1|h1
      ·exact HAT.out j h h1
      ·have e:j=m:=by omega
       subst e;exact hs
     have HS2:=O hstep;generalize x.tags[m]=t at*;obtain⟨had,hcap,hhv,hhl,-⟩:=Sl.at hta;have ht0:=htA.cell (j:=0) (v:=.string t.name) rfl
     have ht1:=htA.cell (j:=1) (v:=t.row.1) rfl;rw[hhv]at ht1;have hnq0:wq.cell? ⟨b4,0+1,none⟩=some (.slice (some ⟨tb,toff,none⟩) x.tags.length tcap):=hnq
     clear htat htcc hte2 hta htA hallt hstep htq hbt
     by_cases c4:(200:Int)<(t.name.size:Nat)
     ·have HB:Hid (r=false):=O (HBT.out (by simp[tagB];omega))
      go_upto_region 12 with(fail);refine qL [3,1,3,3,3,1,3,3,3,3,0,3,3,3,0,3,3,3] ?_;simp only[qB];refine qG 183 hnq0 ?_;simp only[qB]
      refine zC 183 2 hltm ?_;simp only[qB];refine qG 9 ht0 ?_;try simp only[qC]
      refine sD _ _ _ rfl rfl rfl underlying9 ?_;simp only[qC];refine xD c4 ?_;simp only[qB];go_wp2;go_ret
      exact⟨by rw[HB.out];rfl,(hm01.out.trans0 hm13).trans0 hmq⟩
     by_cases c5:(20:Int)<(t.row.2.length:Nat)
     ·have HB:Hid (r=false):=O (HBT.out (by simp[tagB];omega))
      go_upto_region 12 with(fail);refine qL [3,1,3,3,3,1,3,3,3,3,1,3,3,3,1,3,3,3] ?_;simp only[qB];refine qG 183 hnq0 ?_;simp only[qB]
      refine zC 183 2 hltm ?_;simp only[qB];refine qG 9 ht0 ?_;try simp only[qC]
      refine sD _ _ _ rfl rfl rfl underlying9 ?_;simp only[qC];refine xT c4 ?_;simp only[qB];refine qG 183 hnq0 ?_;simp only[qB];refine zC 183 2 hltm ?_
      simp only[qB];refine qG 184 ht1 ?_;try simp only[qC]
      refine xF ?_;simp only[qC];refine xD c5 ?_;simp only[qB];go_wp2;go_ret;exact⟨by rw[HB.out];rfl,(hm01.out.trans0 hm13).trans0 hmq⟩
     go_upto_region 12 with(fail);refine qL [3,1,3,3,3,1,3,3,3,3,1,3,3,3,1,3,3,3] ?_;simp only[qB];refine qG 183 hnq0 ?_;simp only[qB]
     refine zC 183 2 hltm ?_;simp only[qB];refine qG 9 ht0 ?_;try simp only[qC]
     refine sD _ _ _ rfl rfl rfl underlying9 ?_;simp only[qC];refine xT c4 ?_;simp only[qB];refine qG 183 hnq0 ?_;simp only[qB];refine zC 183 2 hltm ?_
     simp only[qB];refine qG 184 ht1 ?_;try simp only[qC]
     refine xF ?_;simp only[qC];refine xT c5 ?_;simp only[qB]
     have HQ:Hid (TgRel w3 x.tags (.int .i64 ((m+1:Nat):Int)) wq):=O ⟨m+1,by omega,rfl,HS2.out (by simp[tagB];omega),hmq⟩;clear hmq ht0 ht1 hnq hnq0;go_wp2
     go_roundw
     case rel=>exact HQ.out
     case measure=>simp[intOf];omega
    ·have hzm:¬(m:Int)<(x.tags.length:Nat):=by omega
     have hsm:fW x=true:=by
      have h1:x.tags.all tagB=true:=List.all_eq_true.2 fun t ht=>by
       obtain⟨j,hj,rfl⟩:=List.getElem_of_mem ht;exact hallt j hj (by omega)
      simp only[fW,h1,Bool.and_true,Bool.and_eq_true,decide_eq_true_eq];omega
     have HQ:Hid (TbRel w1 reps (.int .i64 ((k+1:Nat):Int)) wq):=O ⟨k+1,by omega,rfl,HST.out hsm,hm13.trans0 hmq⟩;clear hallt hsm hmq;go_wp2
     go_roundw
     case rel=>exact HQ.out
     case measure=>simp[intOf];omega
  ·have hz:¬(k:Int)<(reps.length:Nat):=by omega
   have HB:Hid (r=true):=O (by
    rw[<-HR.out]
    have h1:reps.all fW=true:=List.all_eq_true.2 fun t ht=>by
     obtain⟨j,hj,rfl⟩:=List.getElem_of_mem ht;exact hall j hj (by omega)
    simp only[tbB,h1,Bool.and_true,Bool.and_eq_true,decide_eq_true_eq]
    omega)
   clear hall;go_wp2;go_ret;exact⟨by rw[HB.out];rfl,hm01.out.trans0 hmr⟩
theorem held_idAt{o:Nat}{h:vV}(hc:CellsAt w b o (zY h))(hh:h.2.length=32):CellsAt w b (o+2) (qA h.2):=fun j hj=>by
 rw[qD,hh]at hj;have h1:=hc (2+j) (by rw[uD hh];omega);rw[<-Nat.add_assoc]at h1;rw[h1]
 have:(zY h)[2+j]?=(qA h.2)[j]?:=by
  unfold zY;rw[Array.getElem?_append_right (by simp)]
  congr 1
  simp
 exact this
def RtaRel(base:Nat)(w0:iN)(l:List jW)(v i:Value)(w:iN):Prop:=∃(k:Nat)(m:List iK),k<=l.length/\i=.int .i64 k/\kI base w v m/\vN (zK (l.take k)) m/\Mod qJ w0 w
def RtaRel2(base:Nat)(w0:iN)(s:List iK)(l:List gC)(v i:Value)(w:iN):Prop:=∃(k:Nat)(m:List iK),k<=l.length/\i=.int .i64 k/\kI base w v m/\vN (s++zS ((l.take k).map (·.row))) m/\Mod qJ w0 w
def RtaRel3(base:Nat)(w0:iN)(s:List iK)(l:List vV)(v i:Value)(w:iN):Prop:=∃(k:Nat)(m:List iK),k<=l.length/\i=.int .i64 k/\kI base w v m/\vN (s++(l.take k).map (·.2)) m/\Mod qJ w0 w
def RootsR(w:iN)(l:List iK):iJ:=fun e w'=>Mod qJ w w'/\∃v m,e=.returned v/\kI w.heap.size w' v m/\vN l m
theorem rise_len(h:vN s l)(hs:s.length<=n):l.length<=n:=Nat.le_trans (fP (U:=s) h fun _ h=>h) hs
theorem rowIds_cut{l:List jW}(hk:k<l.length)(n:Nat)(hn:(zK l).length<=n):(zK (l.take k)++zS (l[k].tags.map (·.row))++l[k].man.2.map (·.2)).length<=n:=by
 obtain⟨rest,e⟩:=rowsX_man l k hk
 have h1:zK l=zK (l.take k)++zS (l[k].tags.map (·.row))++(l[k].man.2.map (·.2)++zS rest):=by
  unfold zK;rw[e,jB,jB,rC]
 rw[h1]at hn;simp only[List.length_append]at hn |-;omega
theorem rowIds_take(l:List gC)(hm:m<l.length):(zS ((l.take m).map (·.row))++l[m].row.2.map (·.2)).length<=(zS (l.map (·.row))).length:=by
 have e:=congrArg (fun q:List gC=>zS (q.map (·.row))) (vS hm);simp only[List.map_append,List.map_cons,jB,rC]at e;rw[e]
 simp only[List.length_append];omega
theorem rowIds_tsucc(l:List gC)(hm:m<l.length):zS ((l.take (m+1)).map (·.row))=zS ((l.take m).map (·.row))++l[m].row.2.map (·.2):=by
 rw[List.take_succ_eq_append_getElem hm,List.map_append,jB]
 simp[zS]
theorem rootsX_succ(l:List jW)(hk:k<l.length):zK (l.take (k+1))=zK (l.take k)++zS (l[k].tags.map (·.row))++l[k].man.2.map (·.2):=by
 unfold zK;rw[rowsX_succ l k hk,jB,jB]
 simp[zS]
theorem rowIds_sub{l:List jW}(hk:k<l.length):∀q∈zK (l.take k)++zS (l[k].tags.map (·.row))++l[k].man.2.map (·.2),q∈zK l:=fun q hq=>by
 obtain⟨rest,e⟩:=rowsX_man l k hk
 have h1:zK l=zK (l.take k)++zS (l[k].tags.map (·.row))++(l[k].man.2.map (·.2)++zS rest):=by
  unfold zK;rw[e,jB,jB,rC]
 rw[h1,<-List.append_assoc];exact List.mem_append_left _ hq
theorem rowIds_tsub(l:List gC)(hm:m<l.length):∀q∈zS ((l.take m).map (·.row))++l[m].row.2.map (·.2),q∈zS (l.map (·.row)):=fun q hq=>by
 have e:=congrArg (fun q:List gC=>zS (q.map (·.row))) (vS hm);simp only[List.map_append,List.map_cons,jB,rC]at e
 rw[e,<-List.append_assoc];exact List.mem_append_left _ hq
theorem take_ok{t:List iK}{l:List vV}(h:∀q∈s++l.map (·.2),q.length=32)(hr:vN (s++(l.take j).map (·.2)) t):∀q∈t,q.length=32:=fun q hq=>by
 rcases List.mem_append.1 ((hr.2 q).1 hq)with h1|h1
 ·exact h q (List.mem_append_left _ h1)
 ·rw[List.map_take]at h1
  exact h q (List.mem_append_right _ (List.mem_of_mem_take h1))
theorem r27Roots_any{reps:List jW}(h1:vv.oneCell'=true)(hv:vG w rv reps)(hn:(zK reps).length<=9000)(h32:∀q∈zK reps,q.length=32):Calls prog 49 #[.agg #[vv,rv]] w (RootsR w (zK reps)):=by
 obtain⟨rad,rcap,rfl,hrl,-⟩:=Sl.at hv;have HV:=O hv;have H32:=O h32
 have h1c:∀c∈(#[vv,.slice rad reps.length rcap]:iL),c.oneCell'=true:=by
  intro c hc
  simp at hc
  rcases hc with rfl|rfl
  ·exact h1
  ·rfl
 clear hv h32;go_enter func49,ntmps49;go_upto_region 0 with(fail);refine qL [1,3] ?_;simp only[qB];refine qK (zT 71 (fun w1 hB1 hm1 hs1=>?_))
 replace hB1:w1.heap[w.heap.size]?=some (.cells #[vv,.slice rad reps.length rcap] 71 (0,0)):=hB1;simp only[qB]
 have hc1:w1.cell? ⟨w.heap.size,1,none⟩=some (.slice rad reps.length rcap):=by simp[World.cell?,hB1]
 have HV1:=O (xO HV.out (KC.of0 hm1));have hm01:=O hm1;have hs1:w.heap.size<w1.heap.size:=hs1;generalize hb1:w.heap.size=b1 at*;clear hB1 hm1 HV;go_wp2
 go_loopw [3,4] (RtaRel b1 w1 reps) (fun _ i _=>reps.length-(intOf i).toNat)
 case atStart=>exact⟨0,[],Nat.zero_le _,rfl,Gat.nil _ _ _ _ _,⟨.nil,fun y=>by simp[zK,vE,zS]⟩,Mod.refl _ _⟩
 case round=>
  rename iN=>wr
  obtain⟨k,m,hk,rfl,hgr,hrr,hmr⟩:=hrel;obtain⟨vad,vcp,rfl⟩:=hgr.slice;have hcr:wr.cell? ⟨b1,1,none⟩=some (.slice rad reps.length rcap):=hmr.cell id hc1
  go_upto_region 3 with(fail)
  by_cases hlt:k<reps.length
  ·have hz:(k:Int)<(reps.length:Nat):=by omega
   obtain⟨_,_,hae,-,hat⟩:=(xO HV1.out (KC.of0 hmr)).at;injection hae with hae1 hae2 hae3;subst hae1 hae3;obtain⟨b,off,rfl,-,-,hcc⟩:=hat k hlt
   obtain⟨cs,-,⟨rfl,hra⟩,hcA⟩:=hcc k hlt;have hcut:=rowIds_cut hlt 9000 hn;have hsuc:=rootsX_succ reps hlt;have hok:=fun q hq=>H32.out q (rowIds_sub hlt q hq)
   generalize reps[k]=x at*
   have h1x:∀c∈(#[Value.string x.name,x.tv,x.man.1]:iL),c.oneCell'=true:=by
    intro c hc
    simp at hc
    rcases hc with rfl|rfl|rfl
    ·rfl
    ·exact Sl.one hra.tags
    ·exact hra.man.one
   have HRA:=O hra;have HSUC:=O hsuc;have HGR:=O hgr;have HRR:=O hrr;have HCUT:=O hcut;have HOK:=O hok
   clear hat hcc hae2 hra hsuc hgr hrr hcut hok;refine qL [3,3,1,3,3] ?_;simp only[qB];refine qG 69 hcr ?_;try simp only[qC]
   refine xF ?_;simp only[qC];refine xD hz ?_;simp only[qB];go_upto_region 5 with(fail);refine qL [3,1,3,3,1,1,1] ?_;simp only[qB];refine qG 69 hcr ?_
   simp only[qB];refine zC 69 3 hlt ?_;simp only[qC];refine qY 186 hcA 3 rfl ?_;try simp only[qC]
   refine qK (zB repZ (fun w2 hB2 hm2 hs2=>?_));try simp only[qC]
   refine qK (yL 186 h1x 3 rfl hB2 (fun w3 hB3 hm3=>?_) (hoff:=by simp));simp only[qB];have hmr3:Mod qJ wr w3:=hm2.transB hm3 (Nat.le_refl _)
   have hra3:=HRA.out.kc (KC.of0 hmr3);obtain⟨tad,tcap,htv,htl,-⟩:=Sl.at hra3.tags;have hman3:=hra3.man;obtain⟨mad,mcap,hmv,hml,-⟩:=Sl.at hman3
   rw[htv,hmv]at hB3;have hn1:w3.cell? ⟨wr.heap.size,1,none⟩=some (.slice tad x.tags.length tcap):=by simp[World.cell?,hB3]
   have hn2:w3.cell? ⟨wr.heap.size,2,none⟩=some (.slice mad x.man.2.length mcap):=by simp[World.cell?,hB3]
   have hm13:=hmr.trans0 hmr3;have HTG:=O hra3.tags;rw[htv]at HTG
   have HMN:Hid (Sl false w3 kV 34 sZ (.slice mad x.man.2.length mcap) x.man.2):=O (by rw[<-hmv];exact hman3);have HG3:=O (HGR.out.keep0 hmr3)
   generalize wr.heap.size=b4 at*;clear hm2 hm3 hB2 hs2 hB3 hcA hra3 hman3 hmr3 hcr h1x htv hmv;go_wp2
   go_loopw [3,6] (RtaRel2 b1 w3 (zK (reps.take k)) x.tags) (fun _ i _=>x.tags.length-(intOf i).toNat)
   case atStart=>exact⟨0,m,Nat.zero_le _,rfl,HG3.out,by simpa[zS]using HRR.out,Mod.refl _ _⟩
   case round=>
    rename iN=>wq
    obtain⟨p,mq,hp,rfl,hgq,hrq,hmq⟩:=hrel;obtain⟨qad,qcp,rfl⟩:=hgq.slice;have hnq:wq.cell? ⟨b4,1,none⟩=some (.slice tad x.tags.length tcap):=hmq.cell id hn1
    have HGQ:=O hgq;have HRQ:=O hrq;clear hgq hrq;go_upto_region 7 with(fail)
    by_cases hltp:p<x.tags.length
    ·have hzp:(p:Int)<(x.tags.length:Nat):=by omega
     have htq:Sl false wq kV 2 (TagC wq) (.slice tad x.tags.length tcap) x.tags:=Sl.kc HTG.out (KC.of0 hmq) fun _ _ h=>⟨h.1,h.2.kc (KC.of0 hmq)⟩
     obtain⟨_,_,hte,-,htat⟩:=htq.at;injection hte with hte1 hte2 hte3;subst hte1 hte3;obtain⟨tb,toff,rfl,-,-,htcc⟩:=htat p hltp
     obtain⟨cs,-,⟨rfl,hta⟩,htA⟩:=htcc p hltp;have htk:=rowIds_take x.tags hltp;have hts:=rowIds_tsucc x.tags hltp;have htb:=rowIds_tsub x.tags hltp
     generalize x.tags[p]=y at*;obtain⟨had,hcap,hhv,hhl,-⟩:=Sl.at hta
     have hyc:wq.cell? ⟨tb,toff+p*2+1,none⟩=some (.slice had y.row.2.length hcap):=by
      have:=htA 1 (by simp);rw[this]
      simp[hhv]
     have HRW:Hid (Sl false wq kV 34 sZ (.slice had y.row.2.length hcap) y.row.2):=O (by rw[<-hhv];exact hta);have HTS:=O hts
     have HOKY:Hid (∀q∈zK (reps.take k)++zS ((x.tags.take p).map (·.row))++y.row.2.map (·.2),q.length=32):=O (fun q hq=>by
      rw[List.append_assoc]at hq
      rcases List.mem_append.1 hq with h9|h9
      ·exact HOK.out q (List.mem_append_left _ (List.mem_append_left _ h9))
      ·exact HOK.out q (List.mem_append_left _ (List.mem_append_right _ (htb q h9))))
     have hln:(zK (reps.take k)++zS ((x.tags.take p).map (·.row))++y.row.2.map (·.2)).length<=9000:=by
      have h9:=HCUT.out;simp only[List.length_append]at h9 htk |-;omega
     clear htat htcc htq hta hte2 htk hts htb hhv htA;refine qL [3,3,1,3,3] ?_;simp only[qB];refine qG 183 hnq ?_;try simp only[qC]
     refine xF ?_;simp only[qC];refine xD hzp ?_;simp only[qB];go_wp2
     go_loopw [3,7] (RtaRel3 b1 wq (zK (reps.take k)++zS ((x.tags.take p).map (·.row))) y.row.2) (fun _ i _=>y.row.2.length-(intOf i).toNat)
     case atStart=>exact⟨0,mq,Nat.zero_le _,rfl,HGQ.out,by simpa using HRQ.out,Mod.refl _ _⟩
     case round=>
      rename iN=>wh
      obtain⟨j,mh,hj,rfl,hgh,hrh,hmh⟩:=hrel;obtain⟨gad,gcp,rfl⟩:=hgh.slice
      have hnh:wh.cell? ⟨b4,1,none⟩=some (.slice (some ⟨tb,toff,none⟩) x.tags.length tcap):=hmh.cell id hnq;have hyh:=hmh.cell id hyc;have HGH:=O hgh
      have HRH:=O hrh;clear hgh hrh;go_upto_region 10 with(fail)
      by_cases hltj:j<y.row.2.length
      ·have hzj:(j:Int)<(y.row.2.length:Nat):=by omega
       obtain⟨_,_,hhe,-,hhat⟩:=(Sl.kc HRW.out (KC.of0 hmh) fun _ _ h=>h).at;injection hhe with hhe1 hhe2 hhe3;subst hhe1 hhe3
       obtain⟨hb,hoff,rfl,-,-,hhcc⟩:=hhat j hltj;obtain⟨cs,-,⟨rfl,hz32⟩,hhA⟩:=hhcc j hltj
       have HTJ:Hid ((y.row.2.take (j+1)).map (·.2)=(y.row.2.take j).map (·.2)++[y.row.2[j].2]):=O (by rw[List.take_succ_eq_append_getElem hltj,List.map_append];rfl)
       have hlj:(zK (reps.take k)++zS ((x.tags.take p).map (·.row))++(y.row.2.take j).map (·.2)).length<=9000:=by
        simp only[List.length_append,List.length_map,List.length_take]at hln |-;omega
       have hmh32:=take_ok HOKY.out HRH.out;have hidc:=held_idAt hhA hz32;generalize y.row.2[j]=z at*;have hzc:(qA z.2).size=32:=by rw[qD,hz32]
       have hla:=sV (base:=b1) HGH.out (by have:=hm01.out.size;have:=hm13.size;have:=hmq.size;have:=hmh.size;omega) HRH.out hmh32 hz32 (by have:=rise_len HRH.out hlj;omega)
       clear hhat hhcc hhe2 hhA hlj hmh32;refine qL [3,3,1,3,3,3,1,3,3] ?_;simp only[qB];refine qG 183 hnh ?_;simp only[qB];refine zC 183 2 hltp ?_
       simp only[qB];refine qG 184 hyh ?_;try simp only[qC]
       refine xF ?_;simp only[qC];refine xD hzj ?_;simp only[qB];go_upto_region 12 with(fail);refine qL [3,3,1,3,3,3,1,3,3,3,1,1,3] ?_;simp only[qB]
       refine qG 183 hnh ?_;simp only[qB];refine zC 183 2 hltp ?_;simp only[qB];refine qG 184 hyh ?_;simp only[qB];refine zC 184 34 hltj ?_;simp only[qB]
       refine qY 24 hidc 32 hzc ?_;try simp only[qC]
       refine qK (xE func120 (hla) ?_);rintro e wz ⟨hmz,vz,mz,rfl,hgz,hrz,-⟩
       have HR:Hid (RtaRel3 b1 wq (zK (reps.take k)++zS ((x.tags.take p).map (·.row))) y.row.2 vz (.int .i64 ((j+1:Nat):Int)) wz):=O ⟨j+1,mz,by omega,rfl,hgz,by rw[HTJ.out,<-List.append_assoc];exact hrz,hmh.trans0 hmz⟩
       refine⟨_,rfl,?_⟩;simp only[qB];clear hmz hgz hrz hla hidc hyh hnh hmh;go_wp2
       go_roundw
       case rel=>exact HR.out
       case measure=>simp[intOf];omega
      ·have hzj:¬(j:Int)<(y.row.2.length:Nat):=by omega
       obtain rfl:j=y.row.2.length:=by omega
       refine qL [3,3,1,3,3,3,1,3,3] ?_;simp only[qB];refine qG 183 hnh ?_;simp only[qB];refine zC 183 2 hltp ?_;simp only[qB];refine qG 184 hyh ?_
       try simp only[qC]
       refine xF ?_;simp only[qC];refine xT hzj ?_;simp only[qB]
       have HR:Hid (RtaRel2 b1 w3 (zK (reps.take k)) x.tags (.slice gad mh.length gcp) (.int .i64 ((p+1:Nat):Int)) wh):=O ⟨p+1,mh,by omega,rfl,HGH.out,by
        have h9:=HRH.out;rw[List.take_length,List.append_assoc]at h9;rw[HTS.out]
        exact h9,hmq.trans0 hmh⟩
       clear hmh hyh hnh;go_wp2
       go_roundw
       case rel=>exact HR.out
       case measure=>simp[intOf];omega
    ·have hzp:¬(p:Int)<(x.tags.length:Nat):=by omega
     obtain rfl:p=x.tags.length:=by omega
     refine qL [3,3,1,3,3] ?_;simp only[qB];refine qG 183 hnq ?_;try simp only[qC]
     refine xF ?_;simp only[qC];refine xT hzp ?_;simp only[qB];have hnm:=hmq.cell id hn2
     have HRQ2:Hid (vN (zK (reps.take k)++zS (x.tags.map (·.row))) mq):=O (by have h9:=HRQ.out;rwa[List.take_length]at h9);clear hnq;go_wp2
     go_loopw [3,8] (RtaRel3 b1 wq (zK (reps.take k)++zS (x.tags.map (·.row))) x.man.2) (fun _ i _=>x.man.2.length-(intOf i).toNat)
     case atStart=>exact⟨0,mq,Nat.zero_le _,rfl,HGQ.out,by simpa using HRQ2.out,Mod.refl _ _⟩
     case round=>
      rename iN=>wh
      obtain⟨j,mh,hj,rfl,hgh,hrh,hmh⟩:=hrel;obtain⟨gad,gcp,rfl⟩:=hgh.slice;have hyh:=hmh.cell id hnm;have HGH:=O hgh;have HRH:=O hrh;clear hgh hrh
      go_upto_region 14 with(fail)
      by_cases hltj:j<x.man.2.length
      ·have hzj:(j:Int)<(x.man.2.length:Nat):=by omega
       obtain⟨_,_,hhe,-,hhat⟩:=(Sl.kc HMN.out (KC.of0 (hmq.trans0 hmh)) fun _ _ h=>h).at;injection hhe with hhe1 hhe2 hhe3;subst hhe1 hhe3
       obtain⟨hb,hoff,rfl,-,-,hhcc⟩:=hhat j hltj;obtain⟨cs,-,⟨rfl,hz32⟩,hhA⟩:=hhcc j hltj
       have HTJ:Hid ((x.man.2.take (j+1)).map (·.2)=(x.man.2.take j).map (·.2)++[x.man.2[j].2]):=O (by rw[List.take_succ_eq_append_getElem hltj,List.map_append];rfl)
       have hlj:(zK (reps.take k)++zS (x.tags.map (·.row))++(x.man.2.take j).map (·.2)).length<=9000:=by
        have h9:=HCUT.out;simp only[List.length_append,List.length_map,List.length_take]at h9 |-;omega
       have hmh32:=take_ok HOK.out HRH.out;have hidc:=held_idAt hhA hz32;generalize x.man.2[j]=z at*;have hzc:(qA z.2).size=32:=by rw[qD,hz32]
       have hla:=sV (base:=b1) HGH.out (by have:=hm01.out.size;have:=hm13.size;have:=hmq.size;have:=hmh.size;omega) HRH.out hmh32 hz32 (by have:=rise_len HRH.out hlj;omega)
       clear hhat hhcc hhe2 hhA hlj hmh32;refine qL [3,3,1,3,3] ?_;simp only[qB];refine qG 184 hyh ?_;try simp only[qC]
       refine xF ?_;simp only[qC];refine xD hzj ?_;simp only[qB];go_upto_region 16 with(fail);refine qL [3,3,1,3,3,3,1,1,3] ?_;simp only[qB]
       refine qG 184 hyh ?_;simp only[qB];refine zC 184 34 hltj ?_;simp only[qB];refine qY 24 hidc 32 hzc ?_;try simp only[qC]
       refine qK (xE func120 (hla) ?_);rintro e wz ⟨hmz,vz,mz,rfl,hgz,hrz,-⟩
       have HR:Hid (RtaRel3 b1 wq (zK (reps.take k)++zS (x.tags.map (·.row))) x.man.2 vz (.int .i64 ((j+1:Nat):Int)) wz):=O ⟨j+1,mz,by omega,rfl,hgz,by rw[HTJ.out,<-List.append_assoc];exact hrz,hmh.trans0 hmz⟩
       refine⟨_,rfl,?_⟩;simp only[qB];clear hmz hgz hrz hla hidc hyh hmh;go_wp2
       go_roundw
       case rel=>exact HR.out
       case measure=>simp[intOf];omega
      ·have hzj:¬(j:Int)<(x.man.2.length:Nat):=by omega
       obtain rfl:j=x.man.2.length:=by omega
       refine qL [3,3,1,3,3] ?_;simp only[qB];refine qG 184 hyh ?_;try simp only[qC]
       refine xF ?_;simp only[qC];refine xT hzj ?_;simp only[qB]
       have HR:Hid (RtaRel b1 w1 reps (.slice gad mh.length gcp) (.int .i64 ((k+1:Nat):Int)) wh):=O ⟨k+1,mh,by omega,rfl,HGH.out,by
        have h9:=HRH.out;rw[List.take_length]at h9;rw[HSUC.out]
        exact h9,(hm13.trans0 hmq).trans0 hmh⟩
       clear hmh hyh;go_wp2
       go_roundw
       case rel=>exact HR.out
       case measure=>simp[intOf];omega
  ·have hz:¬(k:Int)<(reps.length:Nat):=by omega
   obtain rfl:k=reps.length:=by omega
   have HF:Hid (RootsR w (zK reps) (.returned (.slice vad m.length vcp)) wr):=O ⟨hm01.out.trans0 hmr,_,m,rfl,by rw[hb1];exact hgr,by rwa[List.take_length]at hrr⟩
   refine qL [3,3,1,3,3] ?_;simp only[qB];refine qG 69 hcr ?_;try simp only[qC]
   refine xF ?_;simp only[qC];refine xT hz ?_;simp only[qB];clear hgr hrr hmr hcr;go_wp2;go_ret;exact HF.out
end
section
open Go.RowKit Go.Proofs.Tryz Go.Lib
section
variable{β:Type}
def kJ(k:iK):List (iK×β)->Nat
 | []=>0
 |p::l=>if p.1<k then kJ k l+1 else 0
abbrev SortedB(r:List (iK×β)):Prop:=r.Pairwise fun p q=>p.1<q.1
theorem posB_le(k:iK):∀r:List (iK×β),kJ k r<=r.length
 | []=>by simp[kJ]
 |p::r=>by
  have:=posB_le k r;simp only[kJ,List.length_cons]
  split<;>omega
theorem posB_lt(k:iK):∀(r:List (iK×β))(i:Nat)(h:i<r.length),i<kJ k r->r[i].1<k
 |p::r,i,h,hi=>by
  simp only[kJ]at hi
  split at hi
  ·rename_i hp
   cases i with
   |zero=>exact hp
   |succ i=>exact posB_lt k r i (by simpa using h) (by omega)
  ·omega
theorem posB_ge(k:iK):∀(r:List (iK×β))(h:kJ k r<r.length),¬r[kJ k r].1<k
 |p::r,h=>by
  by_cases hp:p.1<k
  ·have e:kJ k (p::r)=kJ k r+1:=by simp[kJ,hp]
   have h':kJ k r<r.length:=by rw[e]at h;simpa using h
   have:=posB_ge k r h'
   simpa only[e,List.getElem_cons_succ]using this
  ·have e:kJ k (p::r)=0:=by simp[kJ,hp]
   simpa only[e,List.getElem_cons_zero]using hp
theorem posB_eq{k:iK}{r:List (iK×β)}(hi:i<=r.length)(h1:∀j (h:j<r.length),j<i->r[j].1<k)(h2:∀h:i<r.length,¬r[i].1<k):kJ k r=i:=by
 rcases Nat.lt_trichotomy (kJ k r) i with h|h|h
 ·exact absurd (h1 _ (by omega) h) (posB_ge k r (by omega))
 ·exact h
 ·have:=posB_le k r
  exact absurd (posB_lt k r i (by omega) h) (h2 (by omega))
theorem SortedB.nodup{r:List (iK×β)}(h:SortedB r):(r.map (·.1)).Nodup:=by
 rw[List.nodup_iff_pairwise_ne,List.pairwise_map];exact h.imp fun{a b} hab (e:a.1=b.1)=>List.lt_irrefl b.1 (by rw[e]at hab;exact hab)
def isB(k:iK)(r:List (iK×β)):Bool:=match r[kJ k r]? with|some p=>decide (p.1=k)|none=>false
theorem SortedB.at{r:List (iK×β)}(h:SortedB r)(k:iK):∀x,qR k r=some x↔r[kJ k r]?=some (k,x):=by
 intro x
 constructor
 ·intro hg
  obtain⟨i,hi,e⟩:=List.getElem_of_mem (jZ hg)
  have hp:kJ k r=i:=by
   refine posB_eq (by omega) (fun j hj hji=>?_) (fun _=>?_)
   ·have:=List.pairwise_iff_getElem.1 h j i hj hi hji
    rw[e]at this;exact this
   ·rw[e];exact List.lt_irrefl _
  rw[hp,List.getElem?_eq_getElem hi,e]
 ·intro hg
  exact rF h.nodup (List.mem_of_getElem? hg)
theorem SortedB.isSome{r:List (iK×β)}(h:SortedB r)(k:iK):isB k r=(qR k r).isSome:=by
 unfold isB
 cases hq:r[kJ k r]? with
 |none=>
  cases hg:qR k r with
  |none=>rfl
  |some x=>rw[(h.at k x).1 hg]at hq;cases hq
 |some p=>
  by_cases hp:p.1=k
  ·have:r[kJ k r]?=some (k,p.2):=by rw[hq,<-hp]
   rw[(h.at k p.2).2 this];simp[hp]
  ·cases hg:qR k r with
   |none=>simp[hp]
   |some x=>rw[(h.at k x).1 hg]at hq;cases hq;exact absurd rfl hp
def insB(k:iK)(x:β)(r:List (iK×β)):List (iK×β):=r.take (kJ k r)++(k,x)::r.drop (kJ k r)
theorem SortedB.ins{r:List (iK×β)}(h:SortedB r){k:iK}(x:β)(hg:qR k r=none):SortedB (insB k x r):=by
 have hk:=getL_none.1 hg;have h1:SortedB (r.take (kJ k r)):=h.sublist (List.take_sublist _ _);have h2:SortedB (r.drop (kJ k r)):=h.sublist (List.drop_sublist _ _)
 have ha:∀p∈r.take (kJ k r),p.1<k:=fun p hp=>by
  obtain⟨i,hi,e⟩:=List.getElem_of_mem hp;have hi':i<kJ k r/\i<r.length:=by simp at hi;omega
  rw[List.getElem_take]at e;rw[<-e];exact posB_lt k r i hi'.2 hi'.1
 have hb:∀p∈r.drop (kJ k r),k<p.1:=fun p hp=>by
  obtain⟨i,hi,e⟩:=List.getElem_of_mem hp;have hi':kJ k r+i<r.length:=by simp at hi;omega
  rw[List.getElem_drop]at e;have hp0:kJ k r<r.length:=by omega
  have h0:=posB_ge k r hp0;have hne:r[kJ k r].1≠k:=fun e=>hk (e▸List.mem_map.2 ⟨_,List.getElem_mem hp0,rfl⟩)
  have h3:k<r[kJ k r].1:=by
   rcases rU r[kJ k r].1 k with h|h|h
   ·exact absurd h h0
   ·exact absurd h hne
   ·exact h
  rw[<-e]
  rcases Nat.eq_zero_or_pos i with rfl|hi0
  ·exact h3
  ·exact uU h3 (List.pairwise_iff_getElem.1 h (kJ k r) (kJ k r+i) hp0 hi' (by omega))
 show List.Pairwise _ (r.take (kJ k r)++(k,x)::r.drop (kJ k r))
 rw[List.pairwise_append,List.pairwise_cons];refine⟨h1,⟨hb,h2⟩,fun p hp q hq=>?_⟩
 rcases List.mem_cons.1 hq with rfl|hq
 ·exact ha p hp
 ·exact uU (ha p hp) (hb q hq)
theorem ins_permB(k:iK)(x:β)(r:List (iK×β)):(insB k x r).Perm (r++[(k,x)]):=by
 unfold insB;refine List.perm_middle.trans ?_;rw[List.take_append_drop];exact(List.perm_append_singleton _ _).symm
structure Ref8(r l:List (iK×β)):Prop where
 sorted:SortedB r
 perm:r.Perm l
theorem Ref8.nodup{r l:List (iK×β)}(h:Ref8 r l):(l.map (·.1)).Nodup:=(h.perm.map _).nodup_iff.1 h.sorted.nodup
theorem Ref8.get{r l:List (iK×β)}(h:Ref8 r l)(k:iK):qR k r=qR k l:=by
 have hm:∀x,qR k r=some x↔qR k l=some x:=fun x=>
  ⟨fun hg=>rF h.nodup (h.perm.mem_iff.1 (jZ hg)),fun hg=>rF h.sorted.nodup (h.perm.mem_iff.2 (jZ hg))⟩
 cases hr:qR k r with
 |some x=>exact((hm x).1 hr).symm
 |none=>
  cases hl:qR k l with
  |none=>rfl
  |some x=>rw[(hm x).2 hl]at hr;cases hr
end
def putR(k m:iK)(r:yO):yO:=if(qR k r).isSome then r else insB k m r
theorem Ref8.put{r c:yO}(h:Ref8 r c)(k m:iK):Ref8 (putR k m r) (aL k m c):=by
 unfold putR aL;rw[h.get]
 cases hg:qR k c with
 |some x=>exact h
 |none=>
  have hr:qR k r=none:=by rw[h.get];exact hg
  exact⟨h.sorted.ins m hr,(ins_permB k m r).trans (h.perm.append_right _)⟩
def rOf(wd:Nat)(L:List iK):yO:=L.foldl (fun c b=>putR (xI wd b) b c) []
theorem rOf_snoc(wd:Nat)(L:List iK)(k:Nat)(hk:k<L.length):rOf wd (L.take (k+1))=putR (xI wd L[k]) L[k] (rOf wd (L.take k)):=by
 unfold rOf;rw[List.take_succ_eq_append_getElem hk,List.foldl_append]
 rfl
theorem rOf_ref(wd:Nat)(L:List iK):Ref8 (rOf wd L) (cOf wd L):=by
 suffices h:∀(L:List iK)(r c:yO),Ref8 r c->Ref8 (L.foldl (fun c b=>putR (xI wd b) b c) r) (L.foldl (fun c b=>aL (xI wd b) b c) c)from h L [] [] ⟨.nil,.refl _⟩
 intro L
 induction L with
 |nil=>intro r c h;exact h
 |cons b L ih=>intro r c h;exact ih _ _ (h.put _ _)
end
section
open Go.RowKit Go.Shelf Go.Proofs.Tryz Go.Lib
abbrev Rb8:=iK×(iK×(Option Addr×Nat))
abbrev R8L:=List Rb8
def rbV(p:Rb8):Value:=.slice p.2.2.1 p.2.1.length p.2.2.2
def rbL(p:Rb8):List Value:=iI p.1++[rbV p]
theorem rbL_len(p:Rb8):(rbL p).length=33:=by simp[rbL,jL]
theorem rbL_one(p:Rb8):∀c∈rbL p,c.oneCell'=true:=by
 intro c hc
 rcases List.mem_append.1 hc with h|h
 ·exact jD p.1 c h
 ·rw[List.mem_singleton.1 h];rfl
theorem rbL_arr{p:Rb8}(h:p.1.length=32):(rbL p).toArray=qA p.1++#[rbV p]:=by
 unfold rbL;rw[<-pG h]
 simp
def rH(r:R8L):yO:=r.map fun p=>(p.1,p.2.1)
theorem contR_get(k:iK):∀(r:R8L),qR k (rH r)=(qR k r).map (·.1)
 | []=>rfl
 |p::r=>by
  show qR k ((p.1,p.2.1)::rH r)=_
  unfold qR
  by_cases e:k=p.1
  ·rw[if_pos e,if_pos e];rfl
  ·rw[if_neg e,if_neg e,contR_get k r]
theorem contR_pos(k:iK):∀(r:R8L),kJ k (rH r)=kJ k r
 | []=>rfl
 |p::r=>by
  show kJ k ((p.1,p.2.1)::rH r)=_
  simp only[kJ,contR_pos k r]
theorem contR_sort{r:R8L}:SortedB (rH r)↔SortedB r:=by
 unfold SortedB rH;rw[List.pairwise_map]
theorem contR_len(r:R8L):(rH r).length=r.length:=List.length_map ..
theorem contR_ins(k m:iK)(v:Option Addr×Nat)(r:R8L):rH (insB k (m,v) r)=insB k m (rH r):=by
 unfold insB;rw[contR_pos]
 simp[rH,List.map_take,List.map_drop]
structure R8At(w:iN)(q wd:Nat)(r:R8L)(R:iM):Prop where
 ok:∃v,w.heap[q]?=some (.cells #[.int .i64 wd,.int .i64 67108864,v] 89 (0,0))/\Gat rbL 225 33 0 w v r/\R q/\∀g,v.ownBlock=some g->R g/\g≠q/\∀p∈r,(rbV p).ownBlock≠some g
 bts:∀p∈r,Bts 0 w (rbV p) p.2.1/\∀g,(rbV p).ownBlock=some g->R g/\g≠q
 ids:∀p∈r,p.1.length=32
 sz:∀p∈r,p.2.1.length<=4096
 few:r.length<=10000
 wok:1<=wd/\wd<=32
 lt:∀k,R k->k<w.heap.size
def R8Step(w:iN)(q wd:Nat)(R:iM)(w':iN)(r':R8L):Prop:=∃R',R8At w' q wd r' R'/\Mod R w w'/\∀k,R' k->R k\/gD w w' k
section
variable{w w':iN}{q wd:Nat}{r r':R8L}{R:iM}
theorem R8At.keep{S:iM}(h:R8At w q wd r R)(hm:Mod S w w')(hS:∀k,R k->¬S k):R8At w' q wd r R:=by
 obtain⟨⟨v,h1,h2,h3,h4⟩,hb,hi,hz,hf,hw,hl⟩:=h
 exact⟨⟨v,hm.obj (hS q h3) h1,h2.keep hm (fun g hg=>hS g (h4 g hg).1),h3,h4⟩,fun p hp=>⟨Bts.keep (hb p hp).1 hm (fun g hg=>hS g ((hb p hp).2 g hg).1),(hb p hp).2⟩,hi,hz,hf,hw,fun k hk=>Nat.lt_of_lt_of_le (hl k hk) hm.size⟩
theorem R8At.keep0(h:R8At w q wd r R)(hm:Mod qJ w w'):R8At w' q wd r R:=h.keep hm (fun _ _=>id)
theorem R8At.step(h:R8At w q wd r R)(hm:Mod qJ w w'):R8Step w q wd R w' r:=⟨R,h.keep0 hm,hm.mono (fun _ _ h=>False.elim h),fun k hk=>.inl hk⟩
theorem R8At.at(h:R8At w q wd r R):∃ad cap,w.cell? ⟨q,0,none⟩=some (.int .i64 wd)/\w.cell? ⟨q,1,none⟩=some (.int .i64 67108864)/\w.cell? ⟨q,2,none⟩=some (.slice ad r.length cap)/\r.length<=cap/\
 ∀i (hi:i<r.length),∃g,ad=some ⟨g,0,none⟩/\CellsAt w g (i*33) (qA r[i].1)/\w.cell? ⟨g,i*33+32,none⟩=some (rbV r[i]):=by
 obtain⟨⟨v,h1,h2,h3,h4⟩,hb,hi,hz,hf,hw,hl⟩:=h;obtain⟨ad,cap,rfl⟩:=h2.slice
 refine⟨ad,cap,by rw[cell_of_row _ _ _ _ _ _ h1];rfl,by rw[cell_of_row _ _ _ _ _ _ h1];rfl,by rw[cell_of_row _ _ _ _ _ _ h1];rfl,?_,fun i hi'=>?_⟩
 ·rcases h2.2 with⟨e,h0⟩|⟨g,c,cur,e,_,_,hc,_⟩
  ·omega
  ·injection e with e1 e2 e3
   rw[e3];exact hc
 ·obtain⟨g,c,cur,e,hg,hc,-⟩:=Gat.at h2 rbL_len i hi'
  injection e with e1 e2 e3;subst e1;have hid:=hi _ (List.getElem_mem hi');have hcells:=rbL_arr hid;have hs:(qA r[i].1).size=32:=by rw[qD,hid]
  refine⟨g,rfl,fun j hj=>?_,?_⟩
  ·have h9:=hc.cell (j:=j) (v:=(qA r[i].1)[j]) (by rw[hcells,Array.getElem?_append_left hj];simp)
   rw[h9];simp
  ·exact hc.cell (j:=32) (by rw[hcells,Array.getElem?_append_right (by omega),hs];rfl)
end
theorem R8At.own{r:R8L}(h:R8At w q wd r R):∃ad cap,w.heap[q]?=some (.cells #[.int .i64 wd,.int .i64 67108864,.slice ad r.length cap] 89 (0,0))/\Gat rbL 225 33 0 w (.slice ad r.length cap) r/\R q/\∀g,(Value.slice ad r.length cap).ownBlock=some g->R g/\g≠q/\∀p∈r,(rbV p).ownBlock≠some g:=by
 obtain⟨⟨v,h1,h2,h3,h4⟩,-⟩:=h;obtain⟨ad,cap,rfl⟩:=h2.slice;exact⟨ad,cap,h1,h2,h3,h4⟩
theorem R8Step.mk{r:R8L}(h:R8At w q wd r R){w8 w9:iN}{r':R8L}(hG:Gat rbL 225 33 0 w8 v r')(hm8:Mod (fun k=>R k/\k≠q) w w8)(hB9:w9.heap[q]?=some (.cells #[.int .i64 wd,.int .i64 67108864,v] 89 (0,0)))(hm9:Mod (fun k=>k=q) w8 w9)
 (hv:∀g,v.ownBlock=some g->(R g\/gD w w8 g)/\g≠q/\∀p∈r',(rbV p).ownBlock≠some g)(hb:∀p∈r',Bts 0 w8 (rbV p) p.2.1/\∀g,(rbV p).ownBlock=some g->(R g\/gD w w8 g)/\g≠q)(hi:∀p∈r',p.1.length=32)(hz:∀p∈r',p.2.1.length<=4096)(hf:r'.length<=10000):R8Step w q wd R w9 r':=by
 have hRq:R q:=by obtain⟨_,_,_,h3,_⟩:=h.ok;exact h3
 have hM:Mod R w w9:=(hm8.mono (S':=R) fun _ _ h=>h.1).trans hm9 (fun k _ e=>by rw[show k=q from e];exact hRq)
 have up:∀g,R g\/gD w w8 g->R g\/gD w w9 g:=fun g hg=>hg.imp id fun h=>⟨h.1,Nat.lt_of_lt_of_le h.2 hm9.size⟩
 refine⟨fun k=>R k\/gD w w9 k,⟨⟨v,hB9,hG.keep hm9 (fun g e=>(hv g e).2.1),.inl hRq,fun g e=>⟨up g (hv g e).1,(hv g e).2⟩⟩,fun p hp=>⟨Bts.keep (hb p hp).1 hm9 (fun g e=>((hb p hp).2 g e).2),fun g e=>⟨up g ((hb p hp).2 g e).1,((hb p hp).2 g e).2⟩⟩,hi,hz,hf,h.wok,fun k hk=>?_⟩,hM,fun k hk=>hk⟩
 rcases hk with hk|hk
 ·exact Nat.lt_of_lt_of_le (h.lt k hk) hM.size
 ·exact hk.2
theorem r8Z:(prog.info? 89).bind (·.zero)=some (.agg #[.int .i64 0,.int .i64 0,.slice none 0 0]):=by kernel_rfl
theorem r8P:yM prog 89=some [(0,1),(1,1),(2,1)]:=by kernel_rfl
theorem built_r8(n:Int):prog.built 89 [(0,.int .i64 n),(1,.int .i64 67108864)]=some #[.int .i64 n,.int .i64 67108864,.slice none 0 0]:=by
 rw[zX r8Z r8P,zN (off:=0) (size:=1) rfl rfl (by simp),zN (off:=1) (size:=1) rfl rfl (by simp[zE,Value.cells]),yN]
 rfl
def R8New(w:iN)(wd:Nat):iJ:=fun e w'=>∃q R,e=.returned (.tuple #[iO q,.int .i64 0])/\R8At w' q wd [] R/\Mod qJ w w'/\∀k,R k->w.heap.size<=k
theorem r8New_any(wd:Nat)(hw:1<=wd/\wd<=32)(w:iN):Calls prog 80 #[.int .i64 wd,.int .i64 67108864] w (R8New w wd):=by
 have h1:¬(wd:Int)<1:=by omega
 have h2:¬(32:Int)<wd:=by omega
 go_enter func80,ntmps80;go_upto_region 3 with(fail);refine qL [3,3,0,1,3,3] ?_;simp only[qB];refine yV (built_r8 wd) ?_;simp only[qC]
 refine qK (zT 89 (fun w1 hB1 hm1 hs1=>?_));replace hB1:w1.heap[w.heap.size]?=some (.cells #[.int .i64 wd,.int .i64 67108864,.slice none 0 0] 89 (0,0)):=hB1
 simp only[qB];go_wp2;go_ret2
 refine⟨w.heap.size,fun k=>k=w.heap.size,rfl,⟨⟨_,hB1,Gat.nil _ _ _ _ _,rfl,fun g h=>(nomatch h)⟩,fun p hp=>(nomatch hp),fun p hp=>(nomatch hp),fun p hp=>(nomatch hp),by simp,hw,fun k hk=>?_⟩,hm1,fun k hk=>?_⟩
 ·rw[show k=w.heap.size from hk];exact hs1
 ·rw[show k=w.heap.size from hk];exact Nat.le_refl _
section
variable{w:iN}{q wd:Nat}{r:R8L}{R:iM}
structure R8Rd(w:iN)(q:Nat)(r:R8L):Prop where
 rd:∃ad cap,w.cell? ⟨q,2,none⟩=some (.slice ad r.length cap)/\r.length<=cap/\
  ∀i (hi:i<r.length),∃g,ad=some ⟨g,0,none⟩/\CellsAt w g (i*33) (qA r[i].1)/\w.cell? ⟨g,i*33+32,none⟩=some (rbV r[i])
 ids:∀p∈r,p.1.length=32
 few:r.length<=10000
 bts:∀p∈r,Bts 0 w (rbV p) p.2.1
 sz:∀p∈r,p.2.1.length<=4096
theorem R8At.rd(h:R8At w q wd r R):R8Rd w q r:=by
 obtain⟨ad,cap,-,-,h1⟩:=h.at;exact⟨⟨ad,cap,h1⟩,h.ids,h.few,fun p hp=>(h.bts p hp).1,h.sz⟩
theorem R8Rd.keep0{w':iN}(h:R8Rd w q r)(hm:Mod qJ w w'):R8Rd w' q r:=by
 obtain⟨⟨ad,cap,h1,h2,h3⟩,hi,hf,hb,hz⟩:=h;refine⟨⟨ad,cap,hm.cell id h1,h2,fun i hi=>?_⟩,hi,hf,fun p hp=>Bts.keep (hb p hp) hm (fun _ _ h=>h),hz⟩
 obtain⟨g,e,a,b⟩:=h3 i hi;exact⟨g,e,a.keep hm id,hm.cell id b⟩
def At8Rel(r:R8L)(k:iK)(w0:iN)(v:Value)(w:iN):Prop:=∃n:Nat,n<=r.length/\v=.int .i64 n/\(∀j (h:j<r.length),j<n->r[j].1<k)/\Mod qJ w0 w
theorem r8At_any(h:R8Rd w q r){k:iK}(hk:k.length=32):Calls prog 153 #[iO q,.agg (qA k)] w (vO (.tuple #[.int .i64 (kJ k r),.bool (isB k r)]) w):=by
 have hkc:(qA k).size=32:=by rw[qD,hk]
 obtain⟨⟨ra,rc,hLc,hlc,hat⟩,hids,hfew,-,-⟩:=h;have HA:=O hat;have HI:=O hids;clear hat hids;go_enter func153,ntmps153;go_upto_region 0 with(fail)
 refine qL [1,3,3] ?_;simp only[qB];refine qK (zT 24 (fun w1 hB1 hm1 hs1=>?_));replace hB1:w1.heap[w.heap.size]?=some (.cells (qA k) 24 (0,0)):=hB1
 simp only[qB];have hLc:=hm1.cell id hLc;have hbx:CellsAt w1 w.heap.size 0 (qA k):=CellsAt.whole hB1;have HM1:=O hm1;generalize w.heap.size=b3 at*
 clear hB1 hm1 hs1;go_wp2
 go_loopw [6] (At8Rel r k w1) (fun i _=>r.length-(intOf i).toNat)
 case atStart=>exact⟨0,by omega,rfl,fun j _ hj=>by omega,Mod.refl _ _⟩
 case round=>
  rename iN=>wr
  obtain⟨n,hn,rfl,hpre,hM⟩:=hrel;go_upto_region 2 with(fail);have hS:Mod qJ w1 wr.drew:=hM.drew
  by_cases hlt:n<r.length
  ·have hz:(n:Int)<(r.length:Int):=by omega
   obtain⟨g,rfl,hcid,-⟩:=HA.out n hlt;have hcid:=hcid.keep HM1.out id;have hp32:=HI.out r[n] (List.getElem_mem hlt)
   have hpc:(qA r[n].1).size=32:=by rw[qD,hp32]
   have hnext:r[n].1<k->∀j (h:j<r.length),j<n+1->r[j].1<k:=fun h1 j hj hj1=>by
    rcases Nat.lt_or_ge j n with h2|h2
    ·exact hpre j hj h2
    ·have:j=n:=by omega
     subst this;exact h1
   have hstop:¬r[n].1<k->kJ k r=n:=fun h1=>posB_eq (by omega) hpre (fun _=>h1)
   have hisl:kJ k r=n->isB k r=decide (r[n].1=k):=fun e=>by unfold isB;rw[e,List.getElem?_eq_getElem hlt]
   have hneg:=rZ r[n].1 k;clear hpre;generalize r[n].1=x at*;have hcmp:=fun w'=>rS x k hp32 hk w'
   have HNX:=O hnext;have HST:=O hstop;have HIS:=O hisl;have HNG:=O hneg;generalize uW x k=cv at*;clear hnext hstop hisl hneg HA HI
   by_cases hcv:cv<0
   ·skip
    refine zZ [3,3,3,3,0,3,3,3,3,3,3,0,3,3,3,0,0,1,3,3] [] (fun w'=>Mod qJ w1 w') hS ?_;simp only[qB];refine qE 87 (fun w' hS=>hS.cell id hLc) ?_
    simp only[qC];refine xF ?_;simp only[qC];refine xD hz ?_;simp only[qB];refine qE 87 (fun w' hS=>hS.cell id hLc) ?_;simp only[qB];refine zC 87 33 hlt ?_
    simp only[qB];refine zJ 24 (fun w' hS=>hcid.keep hS id) 32 hpc ?_;simp only[qC];refine zJ 24 (fun w' hS=>hbx.keep hS id) 32 hkc ?_;simp only[qC]
    refine qH rfl (fun K hK=>?_);refine xE func195 (hcmp _) ?_;rintro e w5 ⟨rfl,hm5⟩;have hS5:=hS.trans0 hm5;refine⟨_,rfl,hK _ _ hS5 ?_⟩;clear hK K
    try simp only[qC]
    refine xD hcv ?_;simp only[qB];have HNX2:=O (HNX.out (HNG.out.1 hcv));clear hM hS hcid hcmp;go_wp2
    go_roundw
    case rel=>exact⟨n+1,by omega,by go_num,HNX2.out,hS5⟩
    case measure=>simp[intOf];omega
   ·have hp0:=HST.out (fun h=>hcv (HNG.out.2 h))
    obtain⟨t4,ht4⟩:∃t,decide (x=k)=t:=⟨_,rfl⟩;have hi0:=(HIS.out hp0).trans ht4;have HP:=O hp0;have HII:=O hi0;have HT4:=O ht4;clear hp0 hi0 ht4
    refine zZ [3,3,3,3,0,3,3,3,3,3,3,0,3,3,3,0,0,1,3,3] [] (fun w'=>Mod qJ w1 w') hS ?_;simp only[qB];refine qE 87 (fun w' hS=>hS.cell id hLc) ?_
    simp only[qC];refine xF ?_;simp only[qC];refine xD hz ?_;simp only[qB];refine qE 87 (fun w' hS=>hS.cell id hLc) ?_;simp only[qB];refine zC 87 33 hlt ?_
    simp only[qB];refine zJ 24 (fun w' hS=>hcid.keep hS id) 32 hpc ?_;simp only[qC];refine zJ 24 (fun w' hS=>hbx.keep hS id) 32 hkc ?_;simp only[qC]
    refine qH rfl (fun K hK=>?_);refine xE func195 (hcmp _) ?_;rintro e w5 ⟨rfl,hm5⟩;have hS5:=hS.trans0 hm5;refine⟨_,rfl,hK _ _ hS5 ?_⟩;clear hK K
    try simp only[qC]
    refine xT hcv ?_;simp only[qB];clear hM hS hcmp;go_upto_region 4 with(fail);have hS:Mod qJ w1 w5.drew:=hS5.drew
    refine zZ [3,3,3,3,3,0,3,3,3,3,3,3,0,3,3,3,0,0,0,3,3,3] [] (fun w'=>Mod qJ w1 w') hS ?_;simp only[qB]
    refine qE 87 (fun w' hS=>hS.cell id hLc) ?_;simp only[qC];refine xF ?_;simp only[qC];refine xD hz ?_;simp only[qB]
    refine qE 87 (fun w' hS=>hS.cell id hLc) ?_;simp only[qB];refine zC 87 33 hlt ?_;simp only[qB];refine zJ 24 (fun w' hS=>hcid.keep hS id) 32 hpc ?_
    simp only[qC];refine zJ 24 (fun w' hS=>hbx.keep hS id) 32 hkc ?_;simp only[qC]
    refine qV rfl (fun w' hS=>rG _ _ _ _ rfl _ _ rfl rfl 32 5 underlying24 underlying5 (by kernel_rfl) (by kernel_rfl) hp32 hk t4 HT4.out) ?_;simp only[qB]
    have hM3:=HM1.out.trans0 hS;clear hS hS5 hcid;go_wp2;go_ret2;rw[HP.out,HII.out];exact⟨rfl,hM3⟩
  ·have hz:¬(n:Int)<(r.length:Int):=by omega
   have hp0:kJ k r=n:=posB_eq (by omega) hpre (fun h=>absurd h hlt);have hi0:isB k r=false:=by unfold isB;rw[hp0,List.getElem?_eq_none (by omega)]
   have HP:=O hp0;have HII:=O hi0;clear hp0 hi0 hpre HA HI;refine zZ [3,3,3,3,0,3,3,3,3,3,3,0,3,3,3,0,0,1,3,3] [] (fun w'=>Mod qJ w1 w') hS ?_
   simp only[qB];refine qE 87 (fun w' hS=>hS.cell id hLc) ?_;simp only[qC];refine xF ?_;simp only[qC];refine xT hz ?_;simp only[qB];refine xN rfl hS ?_
   simp only[qB];have hM2:=hS;go_upto_region 4 with(fail);have hS:Mod qJ w1 wr.drew.drew:=hM2.drew
   refine zZ [3,3,3,3,3,0,3,3,3,3,3,3,0,3,3,3,0,0,3,3,3,3] [] (fun w'=>Mod qJ w1 w') hS ?_;simp only[qB]
   refine qE 87 (fun w' hS=>hS.cell id hLc) ?_;simp only[qC];refine xF ?_;simp only[qC];refine xT hz ?_;simp only[qB];have hM3:=HM1.out.trans0 hS;clear hM hM2 hS
   go_wp2;go_ret2;rw[HP.out,HII.out];exact⟨rfl,hM3⟩
end
section
variable{w:iN}{q wd:Nat}{r:R8L}{R:iM}
theorem R8At.val(h:R8At w q wd r R)(i:Nat)(hi:i<r.length):Sl true w (fun g=>0<=g/\g<w.heap.size/\(rbV r[i]).ownBlock=some g) 1 yA (rbV r[i]) r[i].2.1:=(h.bts _ (List.getElem_mem hi)).1.sl
def dY(r:R8L):Nat:=(r.map (·.2.1.length)).sum
theorem used8_take(r:R8L)(n:Nat)(hn:n<r.length):dY (r.take (n+1))=dY (r.take n)+r[n].2.1.length:=by
 unfold dY;rw[List.take_succ_eq_append_getElem hn,List.map_append,List.sum_append]
 simp
theorem used8_le:∀(r:R8L),(∀p∈r,p.2.1.length<=4096)->dY r<=4096*r.length
 | [],_=>by simp[dY]
 |p::r,h=>by
  have h1:=used8_le r (fun x hx=>h x (List.mem_cons_of_mem _ hx));have h2:=h p List.mem_cons_self;simp only[dY,List.map_cons,List.sum_cons,List.length_cons]at h1 |-
  omega
def Us8Rel(r:R8L)(w0:iN)(u i:Value)(w:iN):Prop:=∃n:Nat,n<=r.length/\i=.int .i64 n/\u=.int .i64 (dY (r.take n):Nat)/\Mod qJ w0 w
theorem r8Used_any(h:R8At w q wd r R):Calls prog 154 #[iO q] w (vO (.int .i64 (dY r:Nat)) w):=by
 obtain⟨ra,rc,-,-,hLc,hlc,hat⟩:=h.at;have hfew:=h.few;have hsz:=h.sz;have hu:=used8_le r hsz;have HA:=O hat;have HZ:=O hsz;clear hat hsz h
 go_enter func154,ntmps154;go_wp2
 go_loopw [3,4] (Us8Rel r w) (fun _ i _=>r.length-(intOf i).toNat)
 case atStart=>exact⟨0,by omega,rfl,rfl,Mod.refl _ _⟩
 case round=>
  rename iN=>wr
  obtain⟨n,hn,rfl,rfl,hM⟩:=hrel;have hLr:=hM.cell id hLc
  by_cases hlt:n<r.length
  ·have hz:(n:Int)<(r.length:Int):=by omega
   obtain⟨g,rfl,-,hcv⟩:=HA.out n hlt;have hcr:=hM.cell id hcv;have hs:=used8_take r n hlt;have hle:=HZ.out r[n] (List.getElem_mem hlt)
   have hul:=used8_le (r.take n) (fun p hp=>HZ.out p (List.mem_of_mem_take hp));rw[List.length_take]at hul
   have hcr:wr.cell? ⟨g,n*33+32,none⟩=some (.slice r[n].2.2.1 r[n].2.1.length r[n].2.2.2):=hcr;generalize r[n].2.2.1=va at*;generalize r[n].2.2.2=vc at*
   generalize r[n].2.1.length=ln at*;generalize dY (r.take n)=un at*;have HS:=O hs;clear hcv hs;go_upto_region 3 with(fail);refine qL [3,3,3,3,1,3,3] ?_
   simp only[qB];refine qG 87 hLr ?_;try simp only[qC]
   refine xF ?_;simp only[qC];refine xD hz ?_;simp only[qB];go_upto_region 5 with(fail);refine qL [3,3,3,3,1,3,3,3,1,3,3,3] ?_;simp only[qB]
   refine qG 87 hLr ?_;simp only[qB];refine zC 87 33 hlt ?_;simp only[qB];refine qG 53 hcr ?_;try simp only[qC]
   refine xF ?_;simp only[qC];refine jH ((un+ln:Nat):Int) ?_;simp only[qB];clear hcr hLr;go_wp2
   go_roundw
   case rel=>exact⟨n+1,by omega,by go_num,by rw[HS.out],hM⟩
   case measure=>simp[intOf];omega
  ·have hz:¬(n:Int)<(r.length:Int):=by omega
   obtain rfl:n=r.length:=by omega
   go_upto_region 3 with(fail);refine qL [3,3,3,3,1,3,3] ?_;simp only[qB];refine qG 87 hLr ?_;try simp only[qC]
   refine xF ?_;simp only[qC];refine xT hz ?_;simp only[qB];clear hLr;rw[List.take_length];go_wp2;go_ret;exact⟨rfl,hM⟩
end
theorem flat_dropE{α:Type}{enc:α->List Value}(hk:∀x,(enc x).length=k)(l:List α)(i:Nat)(hi:i<=l.length):(l.flatMap enc).drop (i*k)=(l.drop i).flatMap enc:=by
 have h1:=tS hk l i hi;have h2:l.flatMap enc=(l.take i).flatMap enc++(l.drop i).flatMap enc:=by rw[<-List.flatMap_append,List.take_append_drop]
 have h3:((l.take i).flatMap enc).length=i*k:=by
  rw[<-h1,List.length_take]
  have:(l.flatMap enc).length=l.length*k:=by
   clear h1 h2 hi
   induction l with
   |nil=>simp
   |cons x l ih=>rw[List.flatMap_cons,List.length_append,hk,ih,List.length_cons,Nat.succ_mul,Nat.add_comm]
  rw[this,Nat.min_eq_left (Nat.mul_le_mul_right _ hi)]
 rw[h2,List.drop_append_of_le_length (by omega),List.drop_eq_nil_of_le (by omega),List.nil_append]
theorem gat_lit{α:Type}{enc:α->List Value}{e:TypeId}(hk:∀x,(enc x).length=k){x:α}(h:w.heap[b]?=some (.cells (enc x).toArray e (0,0))):Gat enc e k b w (.slice (some ⟨b,0,none⟩) 1 1) [x]:=by
 refine⟨by simp[hk],.inr ⟨b,1,(enc x).toArray,rfl,Nat.le_refl _,h,Nat.le_refl _,by unfold maxLen;omega,by simp[hk],?_⟩⟩;rw[List.take_of_length_le (by simp[hk])]
 simp
theorem gat_cap{α:Type}{enc:α->List Value}{base:Nat}{l:List α}(h:Gat enc e k base w (.slice ad n cap) l):l.length<=cap:=by
 rcases h.2 with⟨h1,h2⟩|⟨g,c,cur,h1,-,-,hc,-⟩
 ·omega
 ·cases h1;exact hc
theorem gat_to{α:Type}{enc:α->List Value}{base:Nat}(hk:∀x,(enc x).length=k){l:List α}(h:Gat enc e k base w (.slice ad l.length cap) l)(hi:i<=l.length):Gat enc e k base w (sliced ad 0 i cap k) (l.take i)/\(sliced ad 0 i cap k).ownBlock=(Value.slice ad l.length cap).ownBlock:=by
 have hto:=owns_to (i:=i) h hi;refine⟨?_,hto.2⟩;have h1:=hto.1;rw[tS hk _ _ hi]at h1
 show w.ownsRow base e k _ (l.take i).length _
 rw[List.length_take,Nat.min_eq_left hi];exact h1
theorem src_dropE{α:Type}{enc:α->List Value}{base:Nat}(hk:∀x,(enc x).length=k){l:List α}(h:Gat enc e k base w (.slice ad l.length cap) l)(hi:i<=l.length):Src w k (sliced ad i l.length cap k) (l.drop i).length ((l.drop i).flatMap enc):=by
 have:=(uO h).drop (i:=i) hi (gat_cap h);rw[flat_dropE hk _ _ hi]at this;rw[List.length_drop];exact this
theorem blob8_i:(prog.info? 225).map (fun i=>(i.zero,i.size,i.bytes))=some (some (.agg (qA (List.replicate 32 0)++#[Value.slice none 0 0])),33,56):=by kernel_rfl
theorem blob8_Z:(prog.info? 225).bind (·.zero)=some (.agg (qA (List.replicate 32 0)++#[Value.slice none 0 0])):=by kernel_rfl
theorem blob8_zs:(prog.info? 225).map (fun i=>(i.zero,i.size))=some (some (.agg (qA (List.replicate 32 0)++#[Value.slice none 0 0])),33):=by kernel_rfl
theorem fI(x:iK)(h:x.length=32)(v:Value)(hv:v.oneCell'=true):prog.built 225 [(0,.agg (qA x)),(1,v)]=some (qA x++#[v]):=by
 have p:yM prog 225=some [(0,32),(32,1)]:=by kernel_rfl
 have hc:v.cells=#[v]:=by cases v<;>first|rfl|cases hv
 have hi:(qA x).size=32:=by rw[qD,h]
 rw[zX blob8_Z p,zN (off:=0) (size:=32) rfl (by simp[Value.cells,hi]) (by simp[qD]),zN (off:=32) (size:=1) rfl (by rw[hc];rfl) (by simp[zE,qD,Value.cells,h]),yN]
 congr 1
 apply Array.toList_inj.1
 rw[hc]
 simp[zE,qA,Value.cells,h]
theorem isB_get{r:R8L}(hs:SortedB r)(k:iK):isB k r=(qR k (rH r)).isSome:=by
 rw[hs.isSome k,contR_get]
 cases qR k r<;>rfl
theorem dW{base:Nat}{xs:iK}{cs:iL}{p:Nat×Nat}(hT:T≠5)(h:Bts base w v xs)(hb:w.heap[b]?=some (.cells cs T p)):∀k,v.ownBlock=some k->k≠b:=by
 intro k hk e;subst e
 rcases h.2 with⟨rfl,_⟩|⟨g,cap,cur,rfl,_,hg,_⟩
 ·cases hk
 ·cases hk
  rw[hg]at hb
  cases hb
  exact hT rfl
theorem uS(h:x.length=32)(v:Value):(qA x++#[v]).size=33:=by simp[qD,h]
theorem row8_one(x:iK)(v:Value)(hv:v.oneCell'=true):∀c∈qA x++#[v],c.oneCell'=true:=by
 intro c hc
 rcases Array.mem_append.1 hc with h|h
 ·exact qQ x c h
 ·rw[Array.mem_singleton.1 h];exact hv
def PutMid(w:iN)(x m:iK)(s:Value)(wx:iN):Prop:=∃bx ad cap,s=iO bx/\wx.heap[bx]?=some (.cells (qA x++#[Value.slice ad m.length cap]) 225 (0,0))/\Bts w.heap.size wx (.slice ad m.length cap) m/\w.heap.size<=bx/\(Value.slice ad m.length cap).ownBlock≠some bx/\Mod qJ w wx
section
variable{w:iN}{q wd:Nat}{r:R8L}{R:iM}
def R8PutR(w:iN)(q wd:Nat)(r:R8L)(R:iM)(m:iK):iJ:=fun e w'=>(∃v,e=.returned v)/\∃r',R8Step w q wd R w' r'/\rH r'=putR (xI wd m) m (rH r)
theorem r8Put_any(h:R8At w q wd r R)(hs:SortedB r){own:Bool}{m:iK}(hv:Sl own w G 1 yA v m)(hm:m.length<=4096)(hfew:r.length<=1000):
 Calls prog 81 #[iO q,.agg (qA (xI wd m)),v] w (R8PutR w q wd r R m):=by
 have hwok:=h.wok;have hdi:(xI wd m).length=32:=tF hwok.2;have hic:(qA (xI wd m)).size=32:=by rw[qD,hdi]
 obtain⟨mad,mcap,rfl,-,-⟩:=Sl.at hv;obtain⟨ra,rc,hw0,hw1,hLc,hlc,hat⟩:=h.at;have hisg:=isB_get hs (xI wd m);have hpos:=posB_le (xI wd m) r
 have hidn:(qR (xI wd m) r).isSome=isB (xI wd m) r:=(hs.isSome (xI wd m)).symm;have hsm:=used8_le r h.sz;have H:=O h;have HS:=O hs;have HV:=O hv
 have HA:=O hat;have href:=fun w' (hm':Mod qJ w w')=>cN (HV.out.keep0 hm') (by omega) wd hwok.1 hwok.2
 have hat8:=fun w' (hm':Mod qJ w w')=>r8At_any (H.out.keep0 hm').rd hdi;obtain⟨i,hi⟩:∃i,kJ (xI wd m) r=i:=⟨_,rfl⟩
 obtain⟨t,ht⟩:∃t,isB (xI wd m) r=t:=⟨_,rfl⟩;rw[hi]at hpos;simp only[hi,ht]at hat8;rw[ht]at hisg hidn;have HI:=O hi;have HT:=O ht
 have HISG:=O hisg;have HIDN:=O hidn;have HNE:Hid (decide (xI wd m≠xI wd m)=false):=O (by simp)
 have hblt:q<w.heap.size:=by
  obtain⟨v0,h1,_⟩:=h.ok;exact(Array.getElem?_eq_some_iff.1 h1).1
 clear h hs hv hat hi ht hisg hidn;go_enter func81,ntmps81;go_upto_region 0 with(fail);refine qL [1,3,3] ?_;simp only[qB];refine qK (zT 24 (fun w1 hB1 hm1 hs1=>?_))
 replace hB1:w1.heap[w.heap.size]?=some (.cells (qA (xI wd m)) 24 (0,0)):=hB1;simp only[qB]
 have hc4:CellsAt w1 w.heap.size 0 (qA (xI wd m)):=CellsAt.whole hB1;generalize hb4:w.heap.size=b4 at*;clear hB1 hs1;go_upto_region 1 with(fail)
 refine qL [3,3,3,3,1,1,3,3,3,1,1,3] ?_;simp only[qB];refine qG 3 (hm1.cell id hw0) ?_;try simp only[qC]
 refine qK (pL func79 (href _ hm1) fun w2 hm2=>?_);simp only[qB];refine jQ (.agg (qA (xI wd m))) ?_;simp only[qC];refine jQ (.int .i64 0) ?_;simp only[qC]
 refine qK (zB eC (fun w3 hB3 hm3 hs3=>?_));try simp only[qC]
 refine qK (qT 24 (qA (xI wd m)) (qQ _) 32 hic hB3 (fun w4 hB4 hm4=>?_) (hoff:=by rw[hic,qD];simp));simp only[qB]
 have hm24:Mod qJ w2 w4:=hm3.transB hm4 (Nat.le_refl _);have hm14:=hm2.trans0 hm24;have hm04:=hm1.trans0 hm14;have hc44:=hc4.keep hm14 id
 have hc84:CellsAt w4 w2.heap.size 0 (qA (xI wd m)):=CellsAt.whole hB4;have hat4:=hat8 _ hm04;generalize hb8:w2.heap.size=b8 at*
 clear href hat8 hm1 hm2 hm3 hm4 hm24 hm14 hB3 hB4 hs3 hc4;go_upto_region 2 with(fail);refine qL [3,1,1,3,3,3,3,3] ?_;simp only[qB];refine qY 24 hc44 32 hic ?_
 try simp only[qC]
 refine qK (pL func153 (hat4) fun w5 hm5=>?_);simp only[qB];refine jQ (.int .i64 (i:Nat)) ?_;simp only[qC];refine jQ (.bool t) ?_;simp only[qB]
 have hm05:=hm04.trans0 hm5;have hc45:=hc44.keep hm5 id;have hc85:=hc84.keep hm5 id;have hL5:=hm05.cell id hLc;have hR5:=hm05.cell id hw1
 have hz4:¬((m.length:Nat):Int)>4096:=by omega
 clear hat4 hm5 hm04 hc44 hc84 hw0;go_upto_region 3 with(fail);refine qL [3,3,3,3] ?_;simp only[qB];refine xF ?_;simp only[qC];refine xT hz4 ?_;simp only[qB]
 go_upto_region 5 with(fail);refine qL [1,1,0,3] ?_;simp only[qB];refine qY 24 hc85 32 hic ?_;try simp only[qC]
 refine qY 24 hc45 32 hic ?_;try simp only[qC]
 refine qV rfl (fun w' hS=>exec_neq_id _ _ _ _ rfl _ _ rfl rfl 32 5 underlying24 underlying5 (by kernel_rfl) (by kernel_rfl) hdi hdi false HNE.out) ?_;simp only[qB]
 go_upto_region 7 with(fail)
 cases t with
 |true=>
  have hlt:i<r.length:=by
   have h1:=HT.out;unfold isB at h1;rw[HI.out]at h1
   rcases Nat.lt_or_ge i r.length with h|h
   ·exact h
   ·rw[List.getElem?_eq_none h]at h1;cases h1
  obtain⟨g,rfl,-,hcv⟩:=HA.out i hlt;have hval:=H.out.val i hlt
  have hsame:R8PutR w q wd r R m (.returned (.tuple #[.bool false,.int .i64 0])) w5->True:=fun _=>trivial
  have HSAME:Hid (∀v w',Mod qJ w w'->R8PutR w q wd r R m (.returned v) w'):=O fun v w' hm'=>⟨⟨v,rfl⟩,r,H.out.step hm',by
   unfold putR
   rw[<-HISG.out];rfl⟩
  obtain⟨b,hb⟩:∃b,decide ((⟨(r[i].2.1).toArray⟩:ByteArray)≠⟨m.toArray⟩)=b:=⟨_,rfl⟩;have HB:=O hb;have hcv5:=hm05.cell id hcv;have hval5:=hval.keep0 hm05
  clear hsame hb hcv hval;generalize rbV r[i]=bv at*;generalize r[i].2.1=bm at*;have hS:Mod qJ w5 w5.drew:=(Mod.refl _ _).drew
  refine zZ [3,3,3,3,3,0,3,3,3,0,0,3,0,0,3,3] [] (fun w'=>Mod qJ w5 w') hS ?_;simp only[qB];refine qE 87 (fun w' hS=>hS.cell id hL5) ?_;simp only[qB]
  refine zC 87 33 hlt ?_;simp only[qB];refine qE 53 (fun w' hS=>hS.cell id hcv5) ?_;simp only[qC]
  refine qV rfl (fun w' hS=>yD 53 5 9 _ (by rfl) _ (by rfl) (hval5.keep0 hS) underlying53 underlying5 underlying9) ?_;simp only[qB]
  refine qV rfl (fun w' hS=>yD 53 5 9 _ (by rfl) _ (by rfl) (HV.out.keep0 (hm05.trans0 hS)) underlying53 underlying5 underlying9) ?_;simp only[qC]
  refine qV rfl (fun w' hS=>tJ _ _ _ _ (by rfl) _ _ (by rfl) (by rfl) b HB.out) ?_;simp only[qB];have HM:Hid (Mod qJ w w5.drew):=O (hm05.trans0 hS)
  clear hS hL5 hR5 hc45 hc85 hcv5 hval5 hm05 hLc hw1
  cases b with
  |true=>
   go_wp2
   all_goals
    go_ret2;exact HSAME.out _ _ HM.out
  |false=>
   go_wp2
   all_goals
    go_ret2;exact HSAME.out _ _ HM.out
 |false=>
  have hS:Mod qJ w5 w5.drew:=(Mod.refl _ _).drew;refine zZ [3,3,3,3,3,0,3,3,3,0,3,3,3,3,3,3] [] (fun w'=>Mod qJ w5 w') hS ?_;simp only[qB]
  have hM7:=hm05.trans0 hS;have hus:=fun w' (hm':Mod qJ w5.drew w')=>r8Used_any (H.out.keep0 (hM7.trans0 hm'));have hR7:=hS.cell id hR5;have hc47:=hc45.keep hS id
  have hz64:¬((dY r+m.length:Nat):Int)>67108864:=by omega
  generalize hw7:w5.drew=w7 at*;clear hS hL5 hR5 hc45 hc85 hw7 hm05 hw1;go_upto_region 11 with(fail);have hS:Mod qJ w7 w7.drew:=(Mod.refl _ _).drew
  refine cH [(0,3),(2,3),(3,3),(5,3),(6,3),(7,3),(8,0),(1,1),(4,3),(9,3),(10,3)] [] (fun w'=>Mod qJ w7 w') hS ?_;simp only[qB];refine xF ?_
  simp only[qB];refine qE 3 (fun w' hS=>hS.cell id hR7) ?_;simp only[qC];refine qH rfl (fun K hK=>?_);refine xE func154 (hus _ hS) ?_;rintro e w8 ⟨rfl,hm8⟩
  have hT:=hS.trans0 hm8;refine⟨_,rfl,hK _ _ hT ?_⟩;clear hK K;try simp only[qC]
  refine jH ((dY r+m.length:Nat):Int) ?_;simp only[qC];refine xT hz64 ?_;simp only[qB];have hM8:=hM7.trans0 hT;have hc48:=hc47.keep hT id
  clear hS hT hm8 hus hR7 hc47 hM7 hz64;generalize dY r=us at*;go_upto_region 13 with(fail)
  go_cut [12] (fun s wx=>PutMid w8 (xI wd m) m s wx)
  case first=>
   have hS:Mod qJ w8 w8.drew:=(Mod.refl _ _).drew;have hT:Mod qJ w8 w8.drew:=(Mod.refl _ _).drew
   refine yU [(0,0),(2,3)] 4 [(6,1)] [] (fun w'=>Mod qJ w8 w') #[true,false,true,false,false,false,false] (by kernel_rfl) (by kernel_rfl) (by kernel_rfl) (by kernel_rfl) (by kernel_rfl) (fun _ _ _ _ hd h=>⟨hd.trans h.1,h.2⟩) hS ?_
   simp only[qB];refine zJ 24 (fun w' hS=>hc48.keep hS id) 32 hic ?_;simp only[qB];refine qO [1,5] (by kernel_rfl) ?_;simp only[zz3,false_implies,implies_true]
   refine⟨?_,?_⟩
   ·intro K hK
    simp only[zz5];refine zU 53 5 (by rfl) underlying53 (by kernel_rfl) (fun wa hBa hma hsa=>?_);have hO:Bts w8.heap.size wa _ []:=yI _ hBa hT.size
    try replace hBx:=hma.obj id hBx
    replace hT:=hT.trans0 hma;clear hBa hma hsa;refine hK _ _ hT ?_;clear hK K;try simp only[qC]
    refine qO [3,5] (by kernel_rfl) ?_;simp only[zz3,false_implies,implies_true];refine⟨?_,?_⟩
    ·intro K hK
     simp only[zz5];refine kX _ _ (by rfl) w8.heap.size _ [] (by rfl) hO _ m (by rfl) (HV.out.keep0 (hM8.trans0 hT)).bsrc (by simp;omega) hT.size (fun ub wb hb hmb=>?_)
     rw[List.nil_append]at hb
     try replace hBx:=hmb.obj (fun e=>dW (by decide) hO hBx _ e rfl) hBx
     replace hT:Mod qJ w8 wb:=hT.trans hmb (fun k hk e=>by have:=(hO.lt e).1;omega);obtain⟨uad,ucap,rfl⟩:=hb.slice;clear hO hmb;refine hK _ _ hT ?_;clear hK K
     try simp only[qC]
     refine zL 4 (.agg (qA (xI wd m)++#[Value.slice uad m.length ucap])) (by kernel_rfl) (fun _ _ _ _ hd h=>⟨hd.trans h.1,h.2⟩) (fun w'=>by simp only[zz5];exact zH 225 [(0,_),(1,_)] [(0,.agg (qA (xI wd m))),(1,.slice uad m.length ucap)] _ (by rfl) (by rfl) (fI _ hdi _ rfl)) hT ?_
     simp only[zz5];try simp only[qC]
     refine qO [5] (by kernel_rfl) ?_;simp only[zz3,false_implies,implies_true];intro K hK;simp only[zz5]
     refine jF 225 _ (by rfl) blob8_Z (fun bx wc hbe hBx hmc hsc=>?_)
     replace hBx:wc.heap[bx]?=some (.cells (qA (List.replicate 32 0)++#[Value.slice none 0 0]) 225 (0,0)):=hBx
     have hbn:w8.heap.size<=bx:=by rw[hbe];exact hT.size
     try replace hO:=Bts.keep hO hmc (fun _ _=>id)
     try replace hb:=Bts.keep hb hmc (fun _ _=>id)
     replace hT:=hT.trans0 hmc;clear hmc hbe hsc;refine hK _ _ hT ?_;clear hK K;try simp only[qC]
     refine xB ?_;try simp only[zz4]
     try simp only[qC]
     refine qH rfl (fun K hK=>?_)
     refine qT 225 (qA (xI wd m)++#[Value.slice uad m.length ucap]) (row8_one _ _ rfl) 33 (uS hdi _) hBx (fun wd2 hBd hmd=>?_) (hoff:=by rw[uS hdi,uS (by simp)])
     have hbd:=Bts.keep hb hmd (fun k e=>dW (by decide) hb hBx k e)
     have HPM:Hid (PutMid w8 (xI wd m) m (iO bx) wd2):=O ⟨bx,uad,ucap,rfl,hBd,hbd,hbn,fun e=>dW (by decide) hb hBx _ e rfl,hT.transB hmd hbn⟩
     replace hT:=hT.transB hmd hbn;clear hmd hBx hb hBd hbd;refine hK _ _ hT ?_;clear hK K;simp only[qB];clear hS hT;go_wp2
     go_meet
     case rel=>exact HPM.out
    ·intro K hK
     simp only[zz5];refine jF 225 _ (by rfl) blob8_Z (fun bx wc hbe hBx hmc hsc=>?_)
     replace hBx:wc.heap[bx]?=some (.cells (qA (List.replicate 32 0)++#[Value.slice none 0 0]) 225 (0,0)):=hBx
     have hbn:w8.heap.size<=bx:=by rw[hbe];exact hT.size
     try replace hO:=Bts.keep hO hmc (fun _ _=>id)
     try replace hb:=Bts.keep hb hmc (fun _ _=>id)
     replace hT:=hT.trans0 hmc;clear hmc hbe hsc;refine hK _ _ hT ?_;clear hK K;try simp only[qC]
     refine qO [3] (by kernel_rfl) ?_;simp only[zz3,false_implies,implies_true];intro K hK;simp only[zz5]
     refine kX _ _ (by rfl) w8.heap.size _ [] (by rfl) hO _ m (by rfl) (HV.out.keep0 (hM8.trans0 hT)).bsrc (by simp;omega) hT.size (fun ub wb hb hmb=>?_)
     rw[List.nil_append]at hb
     try replace hBx:=hmb.obj (fun e=>dW (by decide) hO hBx _ e rfl) hBx
     replace hT:Mod qJ w8 wb:=hT.trans hmb (fun k hk e=>by have:=(hO.lt e).1;omega);obtain⟨uad,ucap,rfl⟩:=hb.slice;clear hO hmb;refine hK _ _ hT ?_;clear hK K
     try simp only[qC]
     refine zL 4 (.agg (qA (xI wd m)++#[Value.slice uad m.length ucap])) (by kernel_rfl) (fun _ _ _ _ hd h=>⟨hd.trans h.1,h.2⟩) (fun w'=>by simp only[zz5];exact zH 225 [(0,_),(1,_)] [(0,.agg (qA (xI wd m))),(1,.slice uad m.length ucap)] _ (by rfl) (by rfl) (fI _ hdi _ rfl)) hT ?_
     simp only[zz5];try simp only[qC]
     refine xB ?_;try simp only[zz4]
     try simp only[qC]
     refine qH rfl (fun K hK=>?_)
     refine qT 225 (qA (xI wd m)++#[Value.slice uad m.length ucap]) (row8_one _ _ rfl) 33 (uS hdi _) hBx (fun wd2 hBd hmd=>?_) (hoff:=by rw[uS hdi,uS (by simp)])
     have hbd:=Bts.keep hb hmd (fun k e=>dW (by decide) hb hBx k e)
     have HPM:Hid (PutMid w8 (xI wd m) m (iO bx) wd2):=O ⟨bx,uad,ucap,rfl,hBd,hbd,hbn,fun e=>dW (by decide) hb hBx _ e rfl,hT.transB hmd hbn⟩
     replace hT:=hT.transB hmd hbn;clear hmd hBx hb hBd hbd;refine hK _ _ hT ?_;clear hK K;simp only[qB];clear hS hT;go_wp2
     go_meet
     case rel=>exact HPM.out
   ·intro K hK
    simp only[zz5];refine jF 225 _ (by rfl) blob8_Z (fun bx wc hbe hBx hmc hsc=>?_)
    replace hBx:wc.heap[bx]?=some (.cells (qA (List.replicate 32 0)++#[Value.slice none 0 0]) 225 (0,0)):=hBx
    have hbn:w8.heap.size<=bx:=by rw[hbe];exact hT.size
    try replace hO:=Bts.keep hO hmc (fun _ _=>id)
    try replace hb:=Bts.keep hb hmc (fun _ _=>id)
    replace hT:=hT.trans0 hmc;clear hmc hbe hsc;refine hK _ _ hT ?_;clear hK K;try simp only[qC]
    refine qO [1] (by kernel_rfl) ?_;simp only[zz3,false_implies,implies_true];intro K hK;simp only[zz5]
    refine zU 53 5 (by rfl) underlying53 (by kernel_rfl) (fun wa hBa hma hsa=>?_);have hO:Bts w8.heap.size wa _ []:=yI _ hBa hT.size
    try replace hBx:=hma.obj id hBx
    replace hT:=hT.trans0 hma;clear hBa hma hsa;refine hK _ _ hT ?_;clear hK K;try simp only[qC]
    refine qO [3] (by kernel_rfl) ?_;simp only[zz3,false_implies,implies_true];intro K hK;simp only[zz5]
    refine kX _ _ (by rfl) w8.heap.size _ [] (by rfl) hO _ m (by rfl) (HV.out.keep0 (hM8.trans0 hT)).bsrc (by simp;omega) hT.size (fun ub wb hb hmb=>?_)
    rw[List.nil_append]at hb
    try replace hBx:=hmb.obj (fun e=>dW (by decide) hO hBx _ e rfl) hBx
    replace hT:Mod qJ w8 wb:=hT.trans hmb (fun k hk e=>by have:=(hO.lt e).1;omega);obtain⟨uad,ucap,rfl⟩:=hb.slice;clear hO hmb;refine hK _ _ hT ?_;clear hK K
    try simp only[qC]
    refine zL 4 (.agg (qA (xI wd m)++#[Value.slice uad m.length ucap])) (by kernel_rfl) (fun _ _ _ _ hd h=>⟨hd.trans h.1,h.2⟩) (fun w'=>by simp only[zz5];exact zH 225 [(0,_),(1,_)] [(0,.agg (qA (xI wd m))),(1,.slice uad m.length ucap)] _ (by rfl) (by rfl) (fI _ hdi _ rfl)) hT ?_
    simp only[zz5];try simp only[qC]
    refine xB ?_;try simp only[zz4]
    try simp only[qC]
    refine qH rfl (fun K hK=>?_)
    refine qT 225 (qA (xI wd m)++#[Value.slice uad m.length ucap]) (row8_one _ _ rfl) 33 (uS hdi _) hBx (fun wd2 hBd hmd=>?_) (hoff:=by rw[uS hdi,uS (by simp)])
    have hbd:=Bts.keep hb hmd (fun k e=>dW (by decide) hb hBx k e)
    have HPM:Hid (PutMid w8 (xI wd m) m (iO bx) wd2):=O ⟨bx,uad,ucap,rfl,hBd,hbd,hbn,fun e=>dW (by decide) hb hBx _ e rfl,hT.transB hmd hbn⟩
    replace hT:=hT.transB hmd hbn;clear hmd hBx hb hBd hbd;refine hK _ _ hT ?_;clear hK K;simp only[qB];clear hS hT;go_wp2
    go_meet
    case rel=>exact HPM.out
  case rest=>
   rename iN=>wx
   obtain⟨bx,uad,ucap,rfl,hBx,hb,hbn,hne,hmx⟩:=hcut;obtain⟨oad,ocap,hq,hgat,hRq,hown⟩:=H.out.own
   have hcell:w.cell? ⟨q,2,none⟩=some (.slice oad r.length ocap):=by rw[cell_of_row _ _ _ _ _ _ hq];rfl
   rw[hLc]at hcell;obtain⟨rfl,rfl⟩:ra=oad/\rc=ocap:=by injection hcell with h;injection h with h1 h2 h3;exact⟨h1,h3⟩
   have hMx:=hM8.trans0 hmx;have hLx:=hMx.cell id hLc;have hqx:=hMx.obj id hq;have hgx:=hgat.keep0 hMx;have hltB:=H.out.lt;have s8:=hM8.size;have sx:=hMx.size
   have hcap:i<=rc:=by omega
   have hxr:(qA (xI wd m)++#[Value.slice uad m.length ucap])=(rbL (xI wd m,(m,(uad,ucap)))).toArray:=(rbL_arr (p:=(xI wd m,(m,(uad,ucap)))) hdi).symm
   have hsz33:=uS hdi (Value.slice uad m.length ucap);have HOWN:=O hown;have HHA:=O hgx;have hbxn:¬R bx:=fun e=>by have:=hltB bx e;omega
   have hbb:∀g,(Value.slice uad m.length ucap).ownBlock=some g->w8.heap.size<=g/\g<wx.heap.size:=fun g e=>Bts.lt hb e;have HBB:=O hbb
   have hnone:(qR (xI wd m) r)=none:=by
    have h9:=HIDN.out
    cases hg:qR (xI wd m) r with
    |none=>rfl
    |some _=>rw[hg]at h9;cases h9
   clear hcell hgat hown hgx hbb hM8 hmx hLc hq;go_upto_region 14 with(fail)
   have hS:wx.drew.cell? ⟨q,2,none⟩=some (.slice ra r.length rc)/\CellsAt wx.drew bx 0 (qA (xI wd m)++#[Value.slice uad m.length ucap]):=⟨hLx,CellsAt.whole hBx⟩
   have hT:Mod qJ wx wx.drew:=(Mod.refl _ _).drew
   refine cH [(0,3),(1,3),(2,3),(3,3),(4,0),(5,3),(6,3),(7,0),(9,3),(10,3),(11,3),(12,0),(13,3),(14,3),(8,1),(15,1),(16,1),(17,3),(18,3),(19,2)] [19] (fun w'=>w'.cell? ⟨q,2,none⟩=some (.slice ra r.length rc)/\CellsAt w' bx 0 (qA (xI wd m)++#[Value.slice uad m.length ucap])) hS ?_
   simp only[qB];refine qE 87 (fun w' hS=>hS.1) ?_;simp only[qB];refine vH 87 225 _ _ _ _ _ i 33 rfl rfl rfl rfl underlying87 (by kernel_rfl) hcap ?_
   simp only[qC];refine zJ 225 (fun w' hS=>hS.2) 33 hsz33 ?_;simp only[qB];refine qE 87 (fun w' hS=>hS.1) ?_;simp only[qB]
   refine kY 87 225 _ _ _ _ _ i 33 rfl rfl rfl rfl underlying87 (by kernel_rfl) hpos ?_;simp only[qC];refine qH rfl (fun K hK=>?_)
   refine kK 87 (.agg (qA (xI wd m)++#[Value.slice uad m.length ucap])) (.agg (qA (List.replicate 32 0)++#[Value.slice none 0 0])) 33 hsz33 (fun w9 hB9 hm9 hs9=>?_) (hi:=blob8_zs)
   replace hB9:w9.heap[wx.heap.size]?=some (.cells (rbL (xI wd m,(m,(uad,ucap)))).toArray 225 (0,0)):=by rw[<-hxr];exact hB9
   replace hS:=And.intro (hm9.cell id hS.1) (hS.2.keep hm9 id);have hT9:=hT.trans0 hm9;have hq9:=hT9.obj id hqx;have s9:=hT9.size;refine hK _ _ hS ?_;clear hK K
   try simp only[qC]
   refine qH rfl (fun K hK=>?_)
   refine wp_gatV rbL _ _ 87 225 (.agg (qA (List.replicate 32 0)++#[Value.slice none 0 0])) 33 56 (by rfl) underlying87 blob8_i (by kernel_rfl) (by omega) rbL_one wx.heap.size _ [(xI wd m,(m,(uad,ucap)))] (by rfl) (gat_lit rbL_len hB9) _ (r.drop i) (by rfl) (src_dropE rbL_len (HHA.out.keep0 hT9) hpos) (by unfold maxLen;simp;omega) (by simp;omega) hT9.size (fun va wa hga hma hvva=>?_)
   have hTa:Mod qJ wx wa:=hT9.trans hma (fun k hk e=>by have e:=Option.some.inj (show some wx.heap.size=some k from e);omega)
   have hnb:¬(Value.slice (some ⟨wx.heap.size,0,none⟩) 1 1).ownBlock=some q:=fun e=>by have e:=Option.some.inj (show some wx.heap.size=some q from e);omega
   have hnx:¬(Value.slice (some ⟨wx.heap.size,0,none⟩) 1 1).ownBlock=some bx:=fun e=>by
    have e:=Option.some.inj (show some wx.heap.size=some bx from e);have:=(Array.getElem?_eq_some_iff.1 hBx).1;omega
   replace hS:=And.intro (hma.cell hnb hS.1) (hS.2.keep hma hnx);have hqa:=hTa.obj id hqx;refine hK _ _ hS ?_;clear hK K;try simp only[qC]
   refine qH rfl (fun K hK=>?_);have hto:=gat_to rbL_len (HHA.out.keep0 hTa) hpos
   refine wp_gatV rbL _ _ 87 225 (.agg (qA (List.replicate 32 0)++#[Value.slice none 0 0])) 33 56 (by rfl) underlying87 blob8_i (by kernel_rfl) (by omega) rbL_one 0 _ (r.take i) (by rfl) hto.1 _ ([(xI wd m,(m,(uad,ucap)))]++r.drop i) (by rfl) (hga.src) (by unfold maxLen;simp;omega) (by simp;omega) (Nat.zero_le _) (fun vb wb hgb hmb hvvb=>?_)
   rw[hto.2]at hmb hvvb;have hnb2:¬(Value.slice ra r.length rc).ownBlock=some q:=fun e=>(HOWN.out q e).2.1 rfl
   have hnx2:¬(Value.slice ra r.length rc).ownBlock=some bx:=fun e=>hbxn (HOWN.out bx e).1;have hqb:=hmb.obj hnb2 hqa
   replace hS:=And.intro (hmb.cell hnb2 hS.1) (hS.2.keep hmb hnx2);refine hK _ _ hS ?_;clear hK K;simp only[qB];refine zP rfl (fun K hK=>?_)
   refine zR 87 2 vb hqb (fun wc hBc hmc=>?_) (hoff:=by simp) (h1:=by obtain⟨_,_,rfl⟩:=hgb.slice;rfl);refine hK _ _ ?_;clear hK K;simp only[qB]
   have hMa:=hMx.trans0 hTa
   have hMb:Mod (fun k=>R k/\k≠q) w wb:=(hMa.mono (S':=fun k=>R k/\k≠q) (fun _ _ h=>h.elim)).trans hmb (fun k hk e=>⟨(HOWN.out k e).1,(HOWN.out k e).2.1⟩)
   have hins:insB (xI wd m) (m,(uad,ucap)) r=r.take i++([(xI wd m,(m,(uad,ucap)))]++r.drop i):=by unfold insB;rw[HI.out];rfl
   rw[<-hins]at hgb
   have hmem:∀p∈insB (xI wd m) (m,(uad,ucap)) r,p=(xI wd m,(m,(uad,ucap)))\/p∈r:=fun p hp=>by
    have:=(ins_permB (xI wd m) (m,(uad,ucap)) r).mem_iff.1 hp
    rcases List.mem_append.1 this with h1|h1
    ·exact .inr h1
    ·exact .inl (by simpa using h1)
   have sab:=hmb.size;have sxa:=hTa.size;have hnewb:∀g,(Value.slice ra r.length rc).ownBlock=some g->g<w.heap.size:=fun g e=>hltB g (HOWN.out g e).1
   have hbk:∀g,(Value.slice uad m.length ucap).ownBlock=some g->¬(Value.slice ra r.length rc).ownBlock=some g:=fun g e e2=>by have:=(HBB.out g e).1;have:=hnewb g e2;omega
   have hbb':Bts 0 wb (.slice uad m.length ucap) m:=Bts.keep (Bts.keep (uT hb (Nat.zero_le _)) hTa (fun _ _=>id)) hmb (fun g e=>hbk g e)
   have HR:Hid (R8PutR w q wd r R m (.returned (.tuple #[.bool true,.int .i64 0])) wc):=O ⟨⟨_,rfl⟩,insB (xI wd m) (m,(uad,ucap)) r,R8Step.mk H.out hgb hMb (by simpa using hBc) hmc (fun g e=>?g1) (fun p hp=>?g2) (fun p hp=>?g3) (fun p hp=>?g4) (by rw[(ins_permB _ _ _).length_eq];simp;omega),by
    unfold putR
    rw[contR_ins,<-HISG.out];rfl⟩
   case g1=>
    rcases hvvb with h1|h1
    ·rw[h1]at e
     refine⟨.inl (HOWN.out g e).1,(HOWN.out g e).2.1,fun p hp=>?_⟩
     rcases hmem p hp with rfl|hp
     ·exact fun e2=>hbk g e2 e
     ·exact(HOWN.out g e).2.2 p hp
    ·rw[h1]at e
     cases e
     refine⟨.inr ⟨by omega,(hgb.lt h1).2⟩,by omega,fun p hp e2=>?_⟩
     rcases hmem p hp with rfl|hp
     ·have:=(HBB.out _ e2).2;omega
     ·have:=hltB _ ((H.out.bts p hp).2 _ e2).1;omega
   case g2=>
    rcases hmem p hp with rfl|hp
    ·exact⟨hbb',fun g e=>⟨.inr ⟨by have:=(HBB.out g e).1;omega,by have:=(HBB.out g e).2;omega⟩,by have:=(HBB.out g e).1;omega⟩⟩
    ·refine⟨Bts.keep (Bts.keep (H.out.bts p hp).1 hMa (fun _ _=>id)) hmb (fun g e e2=>(HOWN.out g e2).2.2 p hp e),fun g e=>⟨.inl ((H.out.bts p hp).2 g e).1,((H.out.bts p hp).2 g e).2⟩⟩
   case g3=>
    rcases hmem p hp with rfl|hp
    ·exact hdi
    ·exact H.out.ids p hp
   case g4=>
    rcases hmem p hp with rfl|hp
    ·exact hm
    ·exact H.out.sz p hp
   clear hMa hMb hS hT hT9 hTa hm9 hma hmb hmc hB9 hBc hq9 hqa hqb hga hgb hbb' hLx hqx hBx hto;go_wp2
   all_goals
    go_ret2;exact HR.out
end
theorem isB_at{r:R8L}(hs:SortedB r){k:iK}(hp:kJ k r=i)(h:isB k r=true):∃hi:i<r.length,r[i].1=k/\qR k (rH r)=some r[i].2.1:=by
 subst hp;have h1:=h;unfold isB at h1
 rcases Nat.lt_or_ge (kJ k r) r.length with hi|hi
 ·rw[List.getElem?_eq_getElem hi]at h1
  have e:=of_decide_eq_true h1
  have h2:r[kJ k r]?=some (k,r[kJ k r].2):=by
   rw[List.getElem?_eq_getElem hi];exact congrArg some (Prod.ext e rfl)
  refine⟨hi,e,?_⟩;rw[contR_get,(hs.at k _).2 h2]
  rfl
 ·rw[List.getElem?_eq_none hi]at h1;cases h1
section
variable{w:iN}{q wd:Nat}{r:R8L}{R:iM}
theorem r8Get_any(h:R8Rd w q r)(hs:SortedB r){k:iK}(hk:k.length=32):Calls prog 162 #[iO q,.agg (qA k)] w (GetR w (qR k (rH r))):=by
 have hic:(qA k).size=32:=by rw[qD,hk]
 obtain⟨ra,rc,hLc,hlc,hat⟩:=h.rd;have hisg:=isB_get hs k;have hisa:=fun i (hp:kJ k r=i)=>isB_at hs (k:=k) hp;have H:=O h;have HA:=O hat
 have hat8:=fun w' (hm':Mod qJ w w')=>r8At_any (H.out.keep0 hm') hk;have hval:=fun i (hi:i<r.length)=>(h.bts _ (List.getElem_mem hi)).sl;have hsz:=h.sz
 obtain⟨i,hi⟩:∃i,kJ k r=i:=⟨_,rfl⟩;obtain⟨t,ht⟩:∃t,isB k r=t:=⟨_,rfl⟩;rw[ht]at hisg;replace hisa:=hisa i hi;rw[ht]at hisa;simp only[hi,ht]at hat8
 have HV:=O hval;have HZ:=O hsz;clear h hat hi ht hval hsz;go_enter func162,ntmps162;go_upto_region 0 with(fail);refine qL [1,3,3] ?_;simp only[qB]
 refine qK (zT 24 (fun w1 hB1 hm1 hs1=>?_));replace hB1:w1.heap[w.heap.size]?=some (.cells (qA k) 24 (0,0)):=hB1;simp only[qB]
 have hc3:CellsAt w1 w.heap.size 0 (qA k):=CellsAt.whole hB1;have hat1:=hat8 _ hm1;generalize hb3:w.heap.size=b3 at*;clear hB1 hs1 hat8;go_upto_region 1 with(fail)
 refine qL [3,1,1,3,3,3,3,3] ?_;simp only[qB];refine qY 24 hc3 32 hic ?_;try simp only[qC]
 refine qK (pL func153 (hat1) fun w2 hm2=>?_);simp only[qB];refine jQ (.int .i64 (i:Nat)) ?_;simp only[qC];refine jQ (.bool t) ?_;simp only[qB]
 have hm02:=hm1.trans0 hm2;have hL2:=hm02.cell id hLc;clear hat1 hm1 hm2 hc3 hLc
 cases t with
 |false=>
  have hg:qR k (rH r)=none:=by
   cases hx:qR k (rH r)with
   |none=>rfl
   |some b=>rw[hx]at hisg;cases hisg
  clear hisg hisa;go_wp2;go_ret2;rw[hg];exact⟨hm02,rfl⟩
 |true=>
  obtain⟨hlt,-,hg⟩:=hisa rfl;obtain⟨g,rfl,-,hcv⟩:=HA.out i hlt;have hcv2:=hm02.cell id hcv;have hv2:=(HV.out i hlt).keep0 hm02
  have hz:=HZ.out _ (List.getElem_mem hlt);have HGT:=O hg;clear hg hisg hisa hcv;generalize rbV r[i]=bv at*;generalize r[i].2.1=m at*;go_upto_region 4 with(fail)
  refine qL [1,3,3,3,1,3,3,3,1,1,3,3] ?_;simp only[qB];refine qK (zU 53 5 (by rfl) underlying53 (by kernel_rfl) (fun w3 hB3 hm3 hs3=>?_))
  simp only[qB];refine qG 87 (hm3.cell id hL2) ?_;simp only[qB];refine zC 87 33 hlt ?_;simp only[qB];refine qG 53 (hm3.cell id hcv2) ?_;try simp only[qC]
  refine qK (kX _ _ (by rfl) w2.heap.size _ [] (by rfl) (yI _ hB3 (Nat.le_refl _)) _ m (by rfl) (hv2.keep0 hm3).bsrc (by simp;omega) hm3.size (fun v' w4 ho4 hm4=>?_))
  rw[List.nil_append]at ho4;simp only[qB]
  have hm24:Mod qJ w2 w4:=hm3.trans hm4 (fun k hk e=>by
   have e':some w2.heap.size=some k:=e
   cases e';omega)
  have s2:=hm02.size;clear hL2 hcv2 hv2 hB3 hm3 hm4;go_wp2;go_ret2;rw[HGT.out];exact⟨hm02.trans0 hm24,_,rfl,uT ho4 s2⟩
end
end
section
open Go.RowKit Go.Proofs.Tryz Go.Lib
def vK(k:uN):qU->Nat
 | []=>0
 |p::l=>if dE p.1 k<0 then vK k l+1 else 0
abbrev SortedL(r:qU):Prop:=r.Pairwise fun p q=>ltK p.1 q.1
theorem posL_le(k:uN):∀r:qU,vK k r<=r.length
 | []=>by simp[vK]
 |p::r=>by
  have:=posL_le k r;simp only[vK,List.length_cons]
  split<;>omega
theorem posL_lt(k:uN):∀(r:qU)(i:Nat)(h:i<r.length),i<vK k r->dE r[i].1 k<0
 |p::r,i,h,hi=>by
  simp only[vK]at hi
  split at hi
  ·rename_i hp
   cases i with
   |zero=>exact hp
   |succ i=>exact posL_lt k r i (by simpa using h) (by omega)
  ·omega
theorem posL_ge(k:uN):∀(r:qU)(h:vK k r<r.length),¬dE r[vK k r].1 k<0
 |p::r,h=>by
  by_cases hp:dE p.1 k<0
  ·have e:vK k (p::r)=vK k r+1:=by simp[vK,hp]
   have h':vK k r<r.length:=by rw[e]at h;simpa using h
   have:=posL_ge k r h'
   simpa only[e,List.getElem_cons_succ]using this
  ·have e:vK k (p::r)=0:=by simp[vK,hp]
   simpa only[e,List.getElem_cons_zero]using hp
theorem posL_eq{k:uN}{r:qU}(hi:i<=r.length)(h1:∀j (h:j<r.length),j<i->dE r[j].1 k<0)(h2:∀h:i<r.length,¬dE r[i].1 k<0):vK k r=i:=by
 rcases Nat.lt_trichotomy (vK k r) i with h|h|h
 ·exact absurd (h1 _ (by omega) h) (posL_ge k r (by omega))
 ·exact h
 ·have:=posL_le k r
  exact absurd (posL_lt k r i (by omega) h) (h2 (by omega))
theorem SortedL.nodup{r:qU}(h:SortedL r):(r.map (·.1)).Nodup:=by
 rw[List.nodup_iff_pairwise_ne,List.pairwise_map];exact h.imp fun{a b} hab (e:a.1=b.1)=>ltK_irrefl b.1 (by rw[e]at hab;exact hab)
def isL(k:uN)(r:qU):Bool:=match r[vK k r]? with|some p=>decide (p.1=k)|none=>false
theorem SortedL.at{r:qU}(h:SortedL r)(k:uN):∀x,qR k r=some x↔r[vK k r]?=some (k,x):=by
 intro x
 constructor
 ·intro hg
  obtain⟨i,hi,e⟩:=List.getElem_of_mem (jZ hg)
  have hp:vK k r=i:=by
   refine posL_eq (by omega) (fun j hj hji=>?_) (fun _=>?_)
   ·have:=List.pairwise_iff_getElem.1 h j i hj hi hji
    rw[cmpK_neg];rw[e]at this;exact this
   ·rw[cmpK_neg,e];exact ltK_irrefl _
  rw[hp,List.getElem?_eq_getElem hi,e]
 ·intro hg
  exact rF h.nodup (List.mem_of_getElem? hg)
theorem SortedL.isSome{r:qU}(h:SortedL r)(k:uN):isL k r=(qR k r).isSome:=by
 unfold isL
 cases hq:r[vK k r]? with
 |none=>
  cases hg:qR k r with
  |none=>rfl
  |some x=>rw[(h.at k x).1 hg]at hq;cases hq
 |some p=>
  by_cases hp:p.1=k
  ·have:r[vK k r]?=some (k,p.2):=by rw[hq,<-hp]
   rw[(h.at k p.2).2 this];simp[hp]
  ·cases hg:qR k r with
   |none=>simp[hp]
   |some x=>rw[(h.at k x).1 hg]at hq;cases hq;exact absurd rfl hp
def insL(k:uN)(x:Int)(r:qU):qU:=r.take (vK k r)++(k,x)::r.drop (vK k r)
theorem SortedL.ins{r:qU}(h:SortedL r){k:uN}(x:Int)(hg:qR k r=none):SortedL (insL k x r):=by
 have hk:=getL_none.1 hg;have h1:SortedL (r.take (vK k r)):=h.sublist (List.take_sublist _ _);have h2:SortedL (r.drop (vK k r)):=h.sublist (List.drop_sublist _ _)
 have ha:∀p∈r.take (vK k r),ltK p.1 k:=fun p hp=>by
  obtain⟨i,hi,e⟩:=List.getElem_of_mem hp;have hi':i<vK k r/\i<r.length:=by simp at hi;omega
  rw[List.getElem_take]at e;rw[<-e,<-cmpK_neg];exact posL_lt k r i hi'.2 hi'.1
 have hb:∀p∈r.drop (vK k r),ltK k p.1:=fun p hp=>by
  obtain⟨i,hi,e⟩:=List.getElem_of_mem hp;have hi':vK k r+i<r.length:=by simp at hi;omega
  rw[List.getElem_drop]at e;have hp0:vK k r<r.length:=by omega
  have h0:=posL_ge k r hp0;rw[cmpK_neg]at h0;have hne:r[vK k r].1≠k:=fun e=>hk (e▸List.mem_map.2 ⟨_,List.getElem_mem hp0,rfl⟩)
  have h3:ltK k r[vK k r].1:=by
   rcases ltK_tri r[vK k r].1 k with h|h|h
   ·exact absurd h h0
   ·exact absurd h hne
   ·exact h
  rw[<-e]
  rcases Nat.eq_zero_or_pos i with rfl|hi0
  ·exact h3
  ·exact ltK_trans h3 (List.pairwise_iff_getElem.1 h (vK k r) (vK k r+i) hp0 hi' (by omega))
 show List.Pairwise _ (r.take (vK k r)++(k,x)::r.drop (vK k r))
 rw[List.pairwise_append,List.pairwise_cons];refine⟨h1,⟨hb,h2⟩,fun p hp q hq=>?_⟩
 rcases List.mem_cons.1 hq with rfl|hq
 ·exact ha p hp
 ·exact ltK_trans (ha p hp) (hb q hq)
theorem ins_perm(k:uN)(x:Int)(r:qU):(insL k x r).Perm (r++[(k,x)]):=by
 unfold insL;refine List.perm_middle.trans ?_;rw[List.take_append_drop];exact(List.perm_append_singleton _ _).symm
structure RefOf(r l:qU):Prop where
 sorted:SortedL r
 perm:r.Perm l
theorem useOf_perm{r l:qU}(h:r.Perm l)(n:ByteArray):xK r n=xK l n:=by
 induction h with
 |nil=>rfl
 |cons x _ ih=>simp only[xK,ih]
 |swap x y l=>simp only[xK];omega
 |trans _ _ h1 h2=>rw[h1,h2]
theorem RefOf.nodup{r l:qU}(h:RefOf r l):(l.map (·.1)).Nodup:=(h.perm.map _).nodup_iff.1 h.sorted.nodup
theorem RefOf.get{r l:qU}(h:RefOf r l)(k:uN):qR k r=qR k l:=by
 have hm:∀x,qR k r=some x↔qR k l=some x:=fun x=>
  ⟨fun hg=>rF h.nodup (h.perm.mem_iff.1 (jZ hg)),fun hg=>rF h.sorted.nodup (h.perm.mem_iff.2 (jZ hg))⟩
 cases hr:qR k r with
 |some x=>exact((hm x).1 hr).symm
 |none=>
  cases hl:qR k l with
  |none=>rfl
  |some x=>rw[(hm x).2 hl]at hr;cases hr
theorem RefOf.addE{r l:qU}(h:RefOf r l)(asked:Bool)(limit:Int)(k:uN)(x:Int):addE asked limit r k x=addE asked limit l k x:=by
 unfold Go.Proofs.YtjeonjoifjbohaaGreat.addE;rw[h.get k,useOf_perm h.perm,h.perm.length_eq]
def addR(asked:Bool)(limit:Int)(r:qU)(k:uN)(x:Int):qU:=if(addE asked limit r k x).1 then insL k x r else r
theorem addE_none{asked:Bool}{limit:Int}{l:qU}{k:uN}{x:Int}(h:(addE asked limit l k x).1=true):qR k l=none:=by
 unfold Go.Proofs.YtjeonjoifjbohaaGreat.addE at h
 split at h
 ·split at h
  ·cases h
  ·cases hg:qR k l with
   |none=>rfl
   |some old=>rw[hg]at h;simp only at h;split at h<;>cases h
 ·cases h
theorem RefOf.add{r l:qU}(h:RefOf r l)(asked:Bool)(limit:Int)(k:uN)(x:Int):RefOf (addR asked limit r k x) (iE asked limit l k x):=by
 unfold addR iE;rw[h.addE]
 split
 ·rename_i hb
  have hg:=addE_none hb;exact⟨h.sorted.ins x ((h.get k).trans hg),(ins_perm k x r).trans (h.perm.append_right _)⟩
 ·exact h
def rO(r:qU)(n:ByteArray)(i:Nat):Int:=xK (r.take i) n
theorem useUpto_succ{r:qU}{n:ByteArray}(h:i<r.length):rO r n (i+1)=rO r n i+(if r[i].1.1=n then r[i].2 else 0):=by
 unfold rO;rw[List.take_succ_eq_append_getElem h,useOf_append]
 simp[xK]
def xZ(s:ByteArray)(pos k:Nat):Int:=if k<=pos then((s.get! (pos-k)).toNat:Int)else 47
def uH(last ahead c:Int):Bool:=
 if jR c then true else if last=47\/last=46 then false else if jR last then decide (c=46\/c=95\/c=45\/c=47)else if last=95 then decide (c=95/\ahead≠95)else decide (c=45)
def aI(s:ByteArray):Nat->Nat->Int->Bool
 |0,_,_=>true
 |f+1,pos,parts=>if pos<s.size then
  if uH (xZ s pos 1) (xZ s pos 2) (Utf8.decode s pos).1&&decide ((if((Utf8.decode s pos).1:Int)=47 then parts+1 else parts)<=8)then aI s f (pos+(Utf8.decode s pos).2) (if((Utf8.decode s pos).1:Int)=47 then parts+1 else parts)else false
  else true
def aJ(s:ByteArray):Bool:=decide (s.size<=128)&&(aI s s.size 0 1&&(decide (s.size≠0)&&jR (xZ s s.size 1)))
theorem decode_low(s:ByteArray)(i:Nat)(h:(Utf8.decode s i).1<128):Utf8.decode s i=((s.get! i).toNat,1):=by
 unfold Utf8.decode at h |-;simp only[Nat.add_zero,Utf8.runeError]at h |-
 split
 ·rfl
 ·rename_i h0
  simp only[h0,if_false]at h
  split at h
  ·split at h
   ·omega
   ·simp only at h;omega
  ·split at h
   ·split at h
    ·rename_i h1;simp only[Bool.and_eq_true,decide_eq_true_eq]at h1;omega
    ·simp only at h;omega
   ·split at h
    ·split at h
     ·rename_i h1;simp only[Bool.and_eq_true,decide_eq_true_eq]at h1;omega
     ·simp only at h;omega
    ·simp only at h;omega
structure NRel(s:ByteArray)(pos:Nat)(k:Kd)(n parts:Int):Prop where
 parts:parts=8-n
 left:0<=n/\n<=7
 kind:match k with
  | .word=>xZ s pos 1=47\/xZ s pos 1=46\/(xZ s pos 1=95/\xZ s pos 2=95)
  | .inside=>jR (xZ s pos 1)=true
  | .second=>xZ s pos 1=95/\xZ s pos 2≠95
  | .dashes=>xZ s pos 1=45
theorem cK(c:Int):jR c=true↔(97<=c/\c<=122)\/(48<=c/\c<=57):=by simp[jR]
theorem wordB_not(c:Int):jR c=false↔¬((97<=c/\c<=122)\/(48<=c/\c<=57)):=by rw[<-cK];simp
theorem backB_one{s:ByteArray}:xZ s (pos+1) 1=((s.get! pos).toNat:Int):=by simp[xZ]
theorem backB_two{s:ByteArray}:xZ s (pos+1) 2=xZ s pos 1:=by
 unfold xZ
 rcases Nat.eq_zero_or_pos pos with rfl|h
 ·simp
 ·rw[if_pos (by omega),if_pos (by omega),show pos+1-2=pos-1 by omega]
theorem goes_none{s:ByteArray}{k:Kd}{n:Int}(h:NRel s pos k n parts)(hs:uB k n c=none):(uH (xZ s pos 1) (xZ s pos 2) c&&decide ((if c=47 then parts+1 else parts)<=8))=false:=by
 have hp:=h.parts;have hl:=h.left;have hk:=h.kind
 have hw:jR c=false:=by
  cases hc:jR c with
  |false=>rfl
  |true=>cases k<;>simp[uB,bF,hc]at hs<;>(repeat' split at hs)<;>simp_all
 have hw':=(wordB_not c).1 hw
 cases k with
 |word=>
  simp only at hk
  have:uH (xZ s pos 1) (xZ s pos 2) c=false:=by
   unfold uH;rw[if_neg (by simp[hw])]
   rcases hk with hk|hk|⟨hk,hk2⟩
   ·rw[if_pos (.inl hk)]
   ·rw[if_pos (.inr hk)]
   ·rw[hk,hk2];simp[jR]
  simp[this]
 |inside=>
  simp only at hk;have hk':=(cK _).1 hk;simp only[uB]at hs;unfold uH;rw[if_neg (by simp[hw]),if_neg (by omega),if_pos hk]
  split at hs
  ·cases hs
  ·split at hs
   ·cases hs
   ·split at hs
    ·cases hs
    ·split at hs
     ·cases hs
     ·rename_i h1 h2 h3 h4
      by_cases h47:c=47
      ·have:¬0<n:=fun h=>h1 ⟨h47,h⟩
       rw[if_pos h47];simp only[Bool.and_eq_false_iff,decide_eq_false_iff_not];right;omega
      ·simp[h47,h2,h3,h4]
 |second=>
  simp only at hk;simp only[uB]at hs;unfold uH;rw[if_neg (by simp[hw]),if_neg (by omega),if_neg (by rw[hk.1];simp[jR]),if_pos hk.1]
  split at hs
  ·cases hs
  ·rename_i h1;simp[h1]
 |dashes=>
  simp only at hk;simp only[uB]at hs;unfold uH;rw[if_neg (by simp[hw]),if_neg (by omega),if_neg (by rw[hk];simp[jR]),if_neg (by omega)]
  split at hs
  ·cases hs
  ·rename_i h1;simp[h1]
theorem goes_some{s:ByteArray}{k:Kd}{n:Int}{r:Kd×Int}(h:NRel s pos k n parts)(hc:c=((s.get! pos).toNat:Int))(hs:uB k n c=some r):
 (uH (xZ s pos 1) (xZ s pos 2) c&&decide ((if c=47 then parts+1 else parts)<=8))=true/\NRel s (pos+1) r.1 r.2 (if c=47 then parts+1 else parts):=by
 have hp:=h.parts;have hl:=h.left;have hk:=h.kind;have hb1:xZ s (pos+1) 1=c:=by rw[backB_one,hc]
 have hb2:xZ s (pos+1) 2=xZ s pos 1:=backB_two
 have hword:jR c=true->r=(.inside,n)->(uH (xZ s pos 1) (xZ s pos 2) c&&decide ((if c=47 then parts+1 else parts)<=8))=true/\NRel s (pos+1) r.1 r.2 (if c=47 then parts+1 else parts):=by
  intro hw hr;have hw':=(cK c).1 hw;have h47:c≠47:=by omega
  subst hr;refine⟨?_,?_⟩
  ·unfold uH;rw[if_pos hw];simp[h47];omega
  ·rw[if_neg h47];exact⟨hp,hl,by simp only;rw[hb1];exact hw⟩
 have hstep:bF n c=some r->(uH (xZ s pos 1) (xZ s pos 2) c&&decide ((if c=47 then parts+1 else parts)<=8))=true/\NRel s (pos+1) r.1 r.2 (if c=47 then parts+1 else parts):=by
  intro h1;unfold bF at h1
  split at h1
  ·rename_i hw;exact hword hw (Option.some.inj h1).symm
  ·cases h1
 cases k with
 |word=>exact hstep hs
 |inside=>
  simp only at hk;have hk':=(cK _).1 hk
  have hgo:¬jR c=true->uH (xZ s pos 1) (xZ s pos 2) c=decide (c=46\/c=95\/c=45\/c=47):=by
   intro hw;unfold uH;rw[if_neg hw,if_neg (by omega),if_pos hk]
  simp only[uB]at hs
  split at hs
  ·rename_i h1
   obtain rfl:=Option.some.inj hs;refine⟨?_,?_⟩
   ·rw[hgo (by rw[h1.1];simp[jR]),if_pos h1.1];simp[h1.1];omega
   ·rw[if_pos h1.1];exact⟨by simp only;omega,by simp only;omega,by simp only;rw[hb1];exact .inl h1.1⟩
  ·split at hs
   ·rename_i h1
    obtain rfl:=Option.some.inj hs;refine⟨?_,?_⟩
    ·rw[hgo (by rw[h1];simp[jR]),if_neg (by omega)];simp[h1];omega
    ·rw[if_neg (by omega)];exact⟨hp,hl,by simp only;rw[hb1];exact .inr (.inl h1)⟩
   ·split at hs
    ·rename_i h1
     obtain rfl:=Option.some.inj hs;refine⟨?_,?_⟩
     ·rw[hgo (by rw[h1];simp[jR]),if_neg (by omega)];simp[h1];omega
     ·rw[if_neg (by omega)];exact⟨hp,hl,by simp only;rw[hb1,hb2];exact⟨h1,by omega⟩⟩
    ·split at hs
     ·rename_i h1
      obtain rfl:=Option.some.inj hs;refine⟨?_,?_⟩
      ·rw[hgo (by rw[h1];simp[jR]),if_neg (by omega)];simp[h1];omega
      ·rw[if_neg (by omega)];exact⟨hp,hl,by simp only;rw[hb1];exact h1⟩
     ·exact hstep hs
 |second=>
  simp only at hk;simp only[uB]at hs
  split at hs
  ·rename_i h1
   obtain rfl:=Option.some.inj hs;refine⟨?_,?_⟩
   ·unfold uH
    rw[if_neg (by rw[h1];simp[jR]),if_neg (by omega),if_neg (by rw[hk.1];simp[jR]),if_pos hk.1,if_neg (by omega)]
    simp[h1,hk.2];omega
   ·rw[if_neg (by omega)];exact⟨hp,hl,by simp only;rw[hb1,hb2];exact .inr (.inr ⟨h1,hk.1⟩)⟩
  ·exact hstep hs
 |dashes=>
  simp only at hk;simp only[uB]at hs
  split at hs
  ·rename_i h1
   obtain rfl:=Option.some.inj hs;refine⟨?_,?_⟩
   ·unfold uH
    rw[if_neg (by rw[h1];simp[jR]),if_neg (by omega),if_neg (by rw[hk];simp[jR]),if_neg (by omega),if_neg (by omega)]
    simp[h1];omega
   ·rw[if_neg (by omega)];exact⟨hp,hl,by simp only;rw[hb1];exact h1⟩
  ·exact hstep hs
theorem stepS_ascii{k:Kd}{n:Int}{c:Nat}{r:Kd×Int}(h:uB k n c=some r):c<128:=by
 have hw:bF n c=some r->c<128:=by
  intro h1;unfold bF at h1
  split at h1
  ·rename_i hw;have:=(cK _).1 hw;omega
  ·cases h1
 cases k<;>simp only[uB]at h
 ·exact hw h
 ·split at h
  ·omega
  ·split at h
   ·omega
   ·split at h
    ·omega
    ·split at h
     ·omega
     ·exact hw h
 ·split at h
  ·omega
  ·exact hw h
 ·split at h
  ·omega
  ·exact hw h
theorem refRun_eq(s:ByteArray):∀(f pos:Nat)(k:Kd)(n parts:Int),NRel s pos k n parts->pos<=s.size->s.size-pos<=f->(aI s f pos parts&&jR (xZ s s.size 1))=endsB (pN s f pos k n):=by
 have hend:∀(k:Kd)(n parts:Int),NRel s s.size k n parts->jR (xZ s s.size 1)=kdEnds k:=by
  intro k n parts h;have hk:=h.kind
  cases k with
  |word=>simp only at hk;rcases hk with hk|hk|⟨hk,_⟩<;>rw[hk]<;>rfl
  |inside=>exact hk
  |second=>simp only at hk;rw[hk.1];rfl
  |dashes=>simp only at hk;rw[hk];rfl
 intro f
 induction f with
 |zero=>
  intro pos k n parts h hp hf;obtain rfl:pos=s.size:=by omega
  simp[aI,pN,endsB,hend k n parts h]
 |succ f ih=>
  intro pos k n parts h hp hf
  by_cases hlt:pos<s.size
  ·rw[nameRun_step s f pos k n hlt]
   simp only[aI,if_pos hlt]
   cases hs:uB k n ((Utf8.decode s pos).1:Int)with
   |none=>
    have:=goes_none h hs;rw[this];simp[endsB]
   |some r=>
    have hd:=decode_low s pos (stepS_ascii hs);rw[hd]at hs |-;obtain⟨h1,h2⟩:=goes_some h rfl hs;simp only at h1 h2 |-;rw[h1,if_pos rfl]
    exact ih (pos+1) r.1 r.2 _ h2 (by omega) (by omega)
  ·obtain rfl:pos=s.size:=by omega
   rw[nameRun_end s _ _ k n hlt]
   simp[aI,endsB,hend k n parts h]
theorem refName_eq(s:ByteArray):aJ s=uP s:=by
 unfold aJ uP
 congr 1
 have h0:NRel s 0 .word 7 1:=⟨by omega,by omega,by simp[xZ]⟩;rw[<-refRun_eq s s.size 0 .word 7 1 h0 (by omega) (by omega)]
 by_cases h:s.size=0
 ·have:jR (xZ s s.size 1)=false:=by rw[h];rfl
  rw[this];simp
 ·simp[h]
end
end Go.Proofs.YtjeonjoifjbohaaGreat
