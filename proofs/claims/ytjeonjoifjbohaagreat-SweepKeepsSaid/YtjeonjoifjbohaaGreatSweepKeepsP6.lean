/- What the statement SweepKeeps needs, part 6. -/
import Derived.OrdersIn
import Derived.Test.YtjeonjoifjbohaaGreatSweepKeepsP5
set_option linter.unusedVariables false
set_option linter.unusedSimpArgs false
set_option linter.unnecessarySimpa false
set_option linter.unusedSectionVars false
set_option maxRecDepth 10000
set_option maxHeartbeats 8000000
namespace Go.Proofs.YtjeonjoifjbohaaGreat
section
open Go.RowKit Go.Shelf Go.Proofs.Tryz Go.Lib
theorem fo_104_0:qU prog 104 0=some 0:=by kernel_rfl
theorem fo_104_1:qU prog 104 1=some 1:=by kernel_rfl
theorem fo_104_2:qU prog 104 2=some 2:=by kernel_rfl
abbrev SwS:=BlobL×LinkL×Nat×Nat
def yY(s:SwS)(x:List UInt8):SwS:=(delL x s.1,forgetL s.2.1 x,s.2.2.1+((getL x s.1).getD []).length,s.2.2.2+yU s.2.1 x)
def swRun(xs:List (List UInt8))(c:BlobL)(l:LinkL):SwS:=xs.foldl yY (c,l,0,0)
theorem swRun_snoc(xs:List (List UInt8))(x:List UInt8)(c:BlobL)(l:LinkL):swRun (xs++[x]) c l=yY (swRun xs c l) x:=by simp[swRun]
def goneL(ids marks:List (List UInt8)):List (List UInt8):=ids.filter fun x=> !decide (x∈marks)
theorem sweptZ:(prog.info? 104).bind (·.zero)=some (.agg #[.slice none 0 0,.int .i64 0,.int .i64 0]):=by kernel_rfl
theorem setZ:(prog.info? 200).bind (·.zero)=some (.map none):=by kernel_rfl
theorem built_id0:prog.built 24 []=some (qA (List.replicate 32 0)):=by kernel_rfl
def qK(bv:Value)(b n:Nat):Array Value:=#[bv,.int .i64 b,.int .i64 n]
structure SwpAt(w0:World)(h:House)(Ft:Nat->Prop)(c:BlobL)(l:LinkL)(gone:List (List UInt8))(ob:Nat)(bv:Value)(k:Nat)(s:SwS)(w:World)(Fk:Nat->Prop):Prop where
 run:swRun (gone.take k) c l=s
 at':HsAt w h s.1 s.2.1 Fk
 mod:Mod Ft w0 w
 sub:∀j,Fk j->Ft j\/New w0 w j
 nob:¬Fk ob
 nrow:∀q,bv.ownBlock=some q->¬Fk q
 box:w.heap[ob]?=some (.cells (qK bv s.2.2.1 s.2.2.2) 104 (0,0))
 row:GatI w0.heap.size w bv gone
 b1:s.2.2.1<=k*4096
 n1:s.2.2.2<=k*65536
def SwpRel(w0:World)(h:House)(Ft:Nat->Prop)(c:BlobL)(l:LinkL)(gone:List (List UInt8))(ob:Nat)(bv:Value)(i:Value)(w:World):Prop:=
 ∃k s Fk,k<=gone.length/\i=.int .i64 (k:Nat)/\SwpAt w0 h Ft c l gone ob bv k s w Fk
def SwpR(w:World)(h:House)(Ft:Nat->Prop)(c:BlobL)(l:LinkL)(marks:List (List UInt8)):Ending->World->Prop:=fun e w'=>
 ∃ids bv s Ft',IDsC c ids/\swRun (goneL ids marks) c l=s/\e=.returned (.tuple #[.agg (qK bv s.2.2.1 s.2.2.2),.int .i64 0])/\GatI w.heap.size w' bv (goneL ids marks)/\
  HsAt w' h s.1 s.2.1 Ft'/\Mod Ft w w'/\(∀k,Ft' k->Ft k\/New w w' k)/\∀q,bv.ownBlock=some q->¬Ft' q
section
variable{w:World}{h:House}{c:BlobL}{l:LinkL}{Ft:Nat->Prop}
theorem swSweep_any(H:HsAt w h c l Ft){own:Bool}{G:Nat->Prop}{v:Value}{marks:List (List UInt8)}(hv:Sl own w G 32 IdC v marks)(hG:∀k,G k->¬Ft k):Calls prog 53 #[.pointer (some ⟨h.bs,0,none⟩),h.q,v] w (SwpR w h Ft c l marks):=by
 have hmm:= @run_makeMap prog;have HH:=hid H;have HV:=hid hv;obtain⟨vad,vcap,hve,-,-⟩:=Sl.at hv
 have hmk32:∀x∈marks,x.length=32:=by
  intro x hx;obtain⟨a,cap,_,_,hat⟩:=Sl.at hv;obtain⟨i,hi,rfl⟩:=List.getElem_of_mem hx;obtain⟨b,off,_,_,_,hc⟩:=hat i hi;obtain⟨cs,_,⟨_,h2⟩,_⟩:=hc i hi
  exact h2
 rw[hve]at HV;subst hve;clear H hv
 have hz:¬(h.wd:Int)=0:=by
  obtain⟨bl,F,h1,_⟩:=HH.out;have:=h1.wok;omega
 generalize hq:h.q=qv;go_enter func53,ntmps53;go_upto_region 0 with(fail);refine wpR [1,3] (by rfl) (by rfl) ?_;simp only[stz];refine wpDo rfl ?_
 refine qR 104 _ (by rfl) sweptZ (fun w1 hB1 hm1 hs1=>?_);replace hB1:w1.heap[w.heap.size]?=some (.cells #[.slice none 0 0,.int .i64 0,.int .i64 0] 104 (0,0)):=hB1
 simp only[stz];have hlk:=(HH.out.keep0 hm1).none;rw[hq]at hlk;go_upto_region 1 with(fail);refine wpR [3,0,1,3,3,3,3,3] (by rfl) (by rfl) ?_;simp only[stz]
 refine qM rfl (fun w' hS=>qO 24 [] [] _ (by rfl) (by rfl) built_id0) ?_;simp only[nmz];refine wpDo rfl ?_
 refine qB (qC 123 [.tmp 16,.const (.string { data:=#[] }),.tmp 17,.const (.int .i64 0)] _ rfl _ func123 rfl (by kernel_rfl) [qv,.string ⟨#[]⟩,.agg (qA (List.replicate 32 0)),.int .i64 0] rfl _) (hlk) ?_
 rintro e w2 ⟨⟨er,her,rfl⟩,hst2⟩;refine⟨_,rfl,?_⟩;simp only[stz];refine qE rfl (fun w'=>qL _ 0 #[.bool false,.int .i64 er] rfl rfl (.bool false) rfl) ?_
 simp only[nmz];refine qE rfl (fun w'=>qL _ 1 #[.bool false,.int .i64 er] rfl rfl (.int .i64 er) rfl) ?_;simp only[stz];obtain⟨F2,H2,hm2,hs2⟩:=hst2
 have hwid:=H2.width;clear hlk;have HWID:=hid hwid;clear hwid;have hz1:((h.wd:Int)==0)=false:=by simpa using hz
 have her1:(er==1)=false:=by simpa using her
 clear hz her;go_upto_region 4 with(go_at_call 124;refine HWID.out.mono ?_;rintro _ w3 ⟨rfl,hw3⟩;obtain rfl:=hw3.symm)
 have hobF:¬Ft w.heap.size:=fun e=>by have:=HH.out.lt _ e;omega
 have hob2:¬F2 w.heap.size:=fun e=>(hs2 _ e).elim hobF (fun h=>by have:=h.1;omega);have hBo2:=hm2.obj hobF hB1
 have hm02:Mod Ft w w2:=(hm1.mono (fun _ _ h=>h.elim)).trans hm2 (fun _ _ h=>h)
 have hs02:∀k,F2 k->Ft k\/New w w2 k:=fun k hk=>(hs2 k hk).imp id (fun h=>⟨by have:=h.1;have:=hm1.size;omega,h.2⟩);have hlt2:=H2.lt;have hw02:=hm02.size
 clear hz1 her1 HWID hm2 hs2 hB1;refine wpR [1,3,1,1,1,1] (by rfl) (by rfl) ?_;simp only[stz];refine qN rfl (fun K hK=>?_);unfold Oper.wp execOp
 simp only[Array.map_empty,Option.map_none,Sem.run_bind,hmm,Result.andThen_ok,Sem.run_pure];have hB3:=heap_alloc_new w2 (.map #[] 0);have hm3:=qZ w2 (.map #[] 0)
 have hs3:(w2.alloc (.map #[] 0)).heap.size=w2.heap.size+1:=by simp
 generalize w2.alloc (.map #[] 0)=w3 at hB3 hm3 hs3 |-;have hM3:MapIs idV IdOk w3 w2.heap.size []:=MapIs.made hB3;have hval:=valuesI_any w3 vad marks.length vcap
 refine hK _ _ trivial ?_;clear hK K;simp only[stz];refine wpDo rfl ?_
 refine qB (qC 119 [.tmp 30] _ rfl _ func119 rfl (by kernel_rfl) [.slice vad marks.length vcap] rfl _) (hval) ?_;rintro e w4 ⟨rfl,hw4⟩
 have hm4:Mod NoB w3 w4:=by rw[hw4];exact qZ w3 _
 have hB4:w4.heap[w3.heap.size]?=some (.cells #[.slice vad marks.length vcap] 25 (0,0)):=by rw[hw4];exact heap_alloc_new w3 _
 clear hw4;have hadd:=swAdd_any (enters_of func194 (by kernel_rfl) rfl) (valuesI_gives hB4 (((HV.out.keep hm02 hG (fun _ _ h=>h)).keep0 hm3).keep0 hm4)) hmk32 (hM3.keep0 hm4)
 refine⟨_,rfl,?_⟩;try simp only[nmz]
 refine wpDo rfl ?_
 refine qB (qC 115 [.tmp 29,.tmp 31] _ rfl _ func115 rfl (by kernel_rfl) [.map (some w2.heap.size),.func (.func 194) #[] #[.pointer (some ⟨w3.heap.size,0,none⟩)]] rfl _) (hadd) ?_
 rintro e w5 ⟨rfl,hM5,hm5⟩;refine⟨_,rfl,?_⟩;try simp only[nmz]
 refine wpDo rfl ?_;refine qR 200 _ (by rfl) setZ (fun w6 hB6 hm6 hs6=>?_);replace hB6:w6.heap[w5.heap.size]?=some (.cells #[.map none] 200 (0,0)):=hB6
 try simp only[nmz]
 refine wpDo rfl ?_;refine qV 200 _ _ w5.heap.size 0 (.map (some w2.heap.size)) (by rfl) (by rfl) (by rfl) rfl (by kernel_rfl) _ _ hB6 (by simp) (fun w7 hB7 hm7=>?_)
 replace hB7:w7.heap[w5.heap.size]?=some (.cells #[.map (some w2.heap.size)] 200 (0,0)):=hB7;simp only[stz]
 have hm25:Mod NoB w2 w5:=(hm3.trans0 hm4).transB hm5 (Nat.le_refl _);have hm27:Mod NoB w2 w7:=(hm25.trans0 hm6).transB hm7 hm25.size;have hmbk:=hM5.lt
 have hM7:=(hM5.keep0 hm6).keep hm7 (fun e=>by have e:w2.heap.size=w5.heap.size:=e;omega);have hkb7:w5.heap.size<w7.heap.size:=(Array.getElem?_eq_some_iff.1 hB7).1
 have hob2':w.heap.size<w2.heap.size:=(Array.getElem?_eq_some_iff.1 hBo2).1;generalize hmb:w2.heap.size=mb at*;generalize hkb:w5.heap.size=kb at*
 have hmk:=addsL_marked marks [] (by simp[Marked])
 have hmem:∀x,decide (x∈(addsL marks []).map (·.1))=decide (x∈marks):=fun x=>by rw[decide_eq_decide,addsL_mem];simp
 have H7:=H2.keep0 hm27;have hBo7:=hm27.obj id hBo2;have hids:=H7.ids;have hc32:=H7.small.1;have hs27:=hm27.size
 clear hB6 hm3 hm4 hm5 hm6 hm7 hM3 hB3 hB4 hval hadd hM5 hs3 hs6 hm25;go_upto_region 5 with(fail);refine wpR [3,1,1,1,3,1] (by rfl) (by rfl) ?_;simp only[stz]
 refine wpDo rfl ?_;refine qB (qC 38 [.tmp 33] _ rfl _ func38 rfl (by kernel_rfl) [.pointer (some ⟨h.bs,0,none⟩)] rfl _) (hids) ?_
 rintro e w8 ⟨hm8,v8,ids,he8,hg8,hidc⟩;subst he8
 have hi32:∀x∈ids,x.length=32:=fun x hx=>by
  obtain⟨p,hp,rfl⟩:=List.mem_map.1 ((hidc.2.mem_iff).1 hx);exact(hc32 p hp).1
 have hdels:DelsOn 126 #[.pointer (some ⟨kb,0,none⟩)] (fun x=>decide (x∈marks)) (fun q=>v8.ownBlock=some q) w8:=fun x W hx hm=>by
  have hno:∀k,k<w7.heap.size->¬(v8.ownBlock=some k):=fun k hk e=>by have:=(hg8.lt e).1;omega
  have h1:=swKept_any (hm.obj (hno kb hkb7) (hm8.obj id hB7)) ((hM7.keep0 hm8).keep hm (hno mb (by omega))) hmk x hx;rw[hmem]at h1;exact h1
 have hdelc:=deleteI_any (enters_of func126 (by kernel_rfl) rfl) hg8 hi32 hdels;refine⟨_,rfl,?_⟩;try simp only[nmz]
 refine wpX rfl (jL 126 [.tmp 10] (by rfl) [.pointer (some ⟨kb,0,none⟩)] (by rfl)) trivial ?_;try simp only[nmz]
 refine wpDo rfl ?_
 refine qB (qC 125 [.tmp 34,.tmp 35] _ rfl _ func125 rfl (by kernel_rfl) [v8,.func (.func 126) #[] #[.pointer (some ⟨kb,0,none⟩)]] rfl _) (hdelc) ?_
 rintro e w9 ⟨hm9,bv,he9,hg9,ho9⟩;subst he9;have hbv:∀q,bv.ownBlock=some q->w7.heap.size<=q:=fun q hq=>by rw[ho9]at hq;exact(hg8.lt hq).1
 have hm79:Mod NoB w7 w9:=hm8.trans hm9 (fun k hk e=>by have:=(hg8.lt e).1;omega);have hBo9:=hm79.obj id hBo7;refine⟨_,rfl,?_⟩;simp only[stz];refine wpDo rfl ?_
 refine qV 25 _ _ w.heap.size 0 bv (by rfl) (by rfl) (by rfl) (yC hg9) (by kernel_rfl) _ _ hBo9 (by simp) (fun w10 hB10 hm10=>?_)
 replace hB10:w10.heap[w.heap.size]?=some (.cells #[bv,.int .i64 0,.int .i64 0] 104 (0,0)):=hB10;simp only[stz];have hm29:=hm27.trans0 hm79
 have hg10:GatI w.heap.size w10 bv (goneL ids marks):=(hg9.keep hm10 (fun q hq e=>by have:=hbv q hq;have e:q=w.heap.size:=e;omega)).base (by omega)
 have hAt:SwpAt w h Ft c l (goneL ids marks) w.heap.size bv 0 (c,l,0,0) w10 F2:=by
  refine⟨rfl,(H2.keep0 hm29).keep hm10 (fun k hk e=>hob2 (by rw[<-show k=w.heap.size from e];exact hk)),?_,?_,hob2,fun q hq hf=>?_,hB10,hg10,Nat.le_refl _,Nat.le_refl _⟩
  ·exact(hm02.trans hm29 (fun _ _ h=>h.elim)).trans hm10 (fun k hk e=>by have e:k=w.heap.size:=e;omega)
  ·intro k hk
   exact(hs02 k hk).imp id (fun h=>⟨h.1,by have:=h.2;have:=hm29.size;have:=hm10.size;omega⟩)
  ·have:=hbv q hq
   have:=hlt2 q hf;omega
 obtain⟨gad,gcap,hgv⟩:=hg10.slice
 have hgl:(goneL ids marks).length<=9223372036854775807:=by
  rcases hg10.2 with⟨_,h0⟩|⟨g,cc,cur,_,_,_,hc,hm,_⟩
  ·omega
  ·unfold maxLen at hm;omega
 have hgl2:(goneL ids marks).length<=10000:=by
  have h1:(goneL ids marks).length<=ids.length:=List.length_filter_le _ _;have h2:=hidc.2.length_eq;have h3:=H7.small.2.1
  simp at h2
  omega
 have hg32:∀x∈goneL ids marks,x.length=32:=fun x hx=>hi32 x (List.mem_filter.1 hx).1;have HIDC:=hid hidc;generalize hgone:goneL ids marks=gone at*
 have HGO:=hid hgone;have HR0:Hid (SwpRel w h Ft c l gone w.heap.size bv (.int .i64 (0:Nat)) w10):=hid ⟨0,_,F2,Nat.zero_le _,rfl,hAt⟩
 have hcB:w10.cell? ⟨w.heap.size,0,none⟩=some bv:=by simp[World.cell?,hB10]
 rw[hgv]at hcB HR0;generalize hob:w.heap.size=ob at*
 clear hgone hAt hg10 hB10 hm10 hBo9 hm79 hbv hg9 ho9 hm9 hdelc hdels hm29 hi32 hg8 hidc hm8 H7 hids hBo7 hmem hmk hM7 hm27 H2 hB7 hlt2 hs02 hm02 hBo2 hm1
 go_upto_region 6 with(fail);refine wpR [3,1,3,3] (by rfl) (by rfl) ?_;simp only[stz];refine wpXd 25 ob 0 hcB underlying25 trivial ?_;try simp only[nmz]
 refine zD _ _ _ _ _ rfl rfl rfl (by kernel_rfl) ?_;simp only[stz];clear hcB;go_wp2
 go_loopw [41] (SwpRel w h Ft c l gone ob (.slice gad gone.length gcap)) (fun i _=>gone.length-(intOf i).toNat)
 case atStart=>exact HR0.out
 case round=>
  rename World=>wr
  obtain⟨k,s,Fk,hk,rfl,hat⟩:=hrel;have hrow:=hat.row
  by_cases hlt:k<gone.length
  ·have hz:(k:Int)<(gone.length:Nat):=by omega
   obtain⟨g,cap',cur,hce,hg,hcA,-,-,-⟩:=Gat.at hrow idE_len k hlt
   obtain⟨rfl,rfl⟩:gad=some ⟨g,0,none⟩/\gcap=cap':=by injection hce with e1 e2 e3;exact⟨e1,e3⟩
   have hx32:=hg32 _ (List.getElem_mem hlt);rw[idE_eq hx32]at hcA;have hrun:swRun (gone.take (k+1)) c l=yY s gone[k]:=by rw[<-take_snoc hlt,swRun_snoc,hat.run]
   generalize gone[k]=x at*;have hic:(qA x).size=32:=by rw[qD,hx32]
   have HRUN:=hid hrun;have HAT:=hid hat;have hboxr:=hat.box;have hobk:=hat.nob;have hnrk:=hat.nrow g rfl
   have hobr:ob<wr.heap.size:=(Array.getElem?_eq_some_iff.1 hboxr).1;have hgr:g<wr.heap.size:=(Array.getElem?_eq_some_iff.1 hg).1;have hltk:=hat.at'.lt
   have hsm:=hat.at'.small;have hb1:=hat.b1;have hn1:=hat.n1
   have hgne:g≠ob:=fun e=>by
    subst e;rw[hg]at hboxr;injection hboxr with h1;injection h1 with _ h2 _;exact absurd h2 (by decide)
   clear hrun hat hce;go_upto_region 8 with(fail);refine wpR [3,1,1,1] (by rfl) (by rfl) ?_;simp only[stz]
   refine qQ _ _ _ _ _ _ _ _ _ rfl rfl rfl rfl underlying25 (n:=32) (by kernel_rfl) hlt ?_;simp only[nmz]
   refine wpXA 24 g (k*32) (qA x) hcA underlying24 32 hic trivial ?_;try simp only[nmz]
   refine wpDo rfl ?_;refine qR 24 _ (by rfl) idZ (fun w2 hB2 hm2 hs2=>?_)
   replace hB2:w2.heap[wr.heap.size]?=some (.cells (qA (List.replicate 32 0)) 24 (0,0)):=hB2;try simp only[nmz]
   refine wpDo rfl ?_
   refine qH 24 _ _ wr.heap.size 0 (qA x) (by rfl) (by rfl) (by rfl) (qT _) 32 (by kernel_rfl) hic _ _ hB2 (by rw[hic,qD];simp) (fun w3 hB3 hm3=>?_)
   rw[qF (by rw[hic,qD];simp)]at hB3;simp only[stz];have hmr3:Mod NoB wr w3:=hm2.transB hm3 (Nat.le_refl _);have H3:=HAT.out.at'.keep0 hmr3
   have hbox3:=hmr3.obj id hboxr;have hrow3:=hrow.keep0 hmr3;have hib3:wr.heap.size<w3.heap.size:=(Array.getElem?_eq_some_iff.1 hB3).1;have hsz:=H3.size x hx32
   clear hm2 hm3 hB2 hs2 hcA hg hboxr hrow;generalize hib:wr.heap.size=ib at*;obtain⟨m,hmm2⟩:∃m,((getL x s.1).getD []).length=m:=⟨_,rfl⟩
   have hm4096:m<=4096:=by
    rw[<-hmm2]
    cases hgx:getL x s.1 with
    |none=>simp
    |some b=>exact(hsm.1 _ (jK hgx)).2
   obtain⟨mo,hmo⟩:∃mo,(getL x s.1).isSome=mo:=⟨_,rfl⟩;unfold SizeR at hsz;rw[hmm2,hmo]at hsz;have HMM:=hid hmm2;clear hmm2 hmo;go_upto_region 9 with(fail)
   refine wpR [3,1,1,3,3,3,3,3] (by rfl) (by rfl) ?_;simp only[stz];refine wpXA 24 ib 0 (qA x) (CellsAt.whole hB3) underlying24 32 hic trivial ?_;try simp only[nmz]
   refine wpDo rfl ?_;refine qB (qC 91 [.tmp 46,.tmp 47] _ rfl _ func91 rfl (by kernel_rfl) [.pointer (some ⟨h.bs,0,none⟩),.agg (qA x)] rfl _) (hsz) ?_
   rintro e w4 ⟨hm4,he4⟩;subst he4;refine⟨_,rfl,?_⟩;simp only[stz]
   refine qE rfl (fun w'=>qL _ 0 #[.int .i64 (m:Nat),.bool mo] rfl rfl (.int .i64 (m:Nat)) rfl) ?_;simp only[nmz]
   refine qE rfl (fun w'=>qL _ 1 #[.int .i64 (m:Nat),.bool mo] rfl rfl (.bool mo) rfl) ?_;simp only[stz];have H4:=H3.keep0 hm4
   have hbox4:=hm4.obj id hbox3;have hB4:=hm4.obj id hB3;have hrow4:=hrow3.keep0 hm4;have hmr4:=hmr3.trans0 hm4;have hs34:=hm4.size;have hdrop:=H4.drop x hx32
   clear hsz H3 hB3 hbox3 hrow3 hm4 hmr3;go_upto_region 10 with(fail);refine wpR [3,1,1] (by rfl) (by rfl) ?_;simp only[stz]
   refine wpXA 24 ib 0 (qA x) (CellsAt.whole hB4) underlying24 32 hic trivial ?_;try simp only[nmz]
   refine wpDo rfl ?_;refine qB (qC 30 [.tmp 51,.tmp 52] _ rfl _ func30 rfl (by kernel_rfl) [.pointer (some ⟨h.bs,0,none⟩),.agg (qA x)] rfl _) (hdrop) ?_
   rintro e w5 ⟨v5,rfl,F5,H5,hm5,hs5⟩;refine⟨_,rfl,?_⟩;simp only[stz];have hibk:¬Fk ib:=fun e=>by have:=hltk _ e;omega
   have hbox5:=hm5.obj hobk hbox4;have hB5:=hm5.obj hibk hB4;have hrow5:=hrow4.keep hm5 (fun q hq=>by have hq:some g=some q:=hq;cases hq;exact hnrk)
   have hs4:=hmr4.size;have hno5:∀j,j<w4.heap.size->¬Fk j->¬F5 j:=fun j hj hf hf5=>(hs5 j hf5).elim hf (fun h=>by have:=h.1;omega)
   have hob5:=hno5 ob (by omega) hobk;have hib5:=hno5 ib (by omega) hibk;have hg5:=hno5 g (by omega) hnrk
   have hcb5:w5.cell? ⟨ob,0+1,none⟩=some (.int .i64 (s.2.2.1:Nat)):=by simp[World.cell?,hbox5,qK]
   clear hdrop hbox4 hB4 hrow4 H4;go_upto_region 11 with(fail);refine wpR [3,1,3,3,3,1] (by rfl) (by rfl) ?_;simp only[stz]
   refine wpXd 3 ob (0+1) hcb5 underlying3 trivial ?_;simp only[stz]
   refine zR _ _ _ _ ((s.2.2.1:Nat):Int) ((m:Nat):Int) ((s.2.2.1+m:Nat):Int) rfl rfl rfl rfl (by omega) (by omega) (by omega) ?_;simp only[stz]
   refine wpDo rfl ?_
   refine qV 3 _ _ ob (0+1) (.int .i64 ((s.2.2.1+m:Nat):Int)) (by rfl) (by rfl) (by rfl) rfl (by kernel_rfl) _ _ hbox5 (by simp[qK]) (fun w6 hB6 hm6=>?_)
   replace hB6:w6.heap[ob]?=some (.cells (qK (.slice (some ⟨g,0,none⟩) gone.length gcap) (s.2.2.1+m) s.2.2.2) 104 (0,0)):=hB6;simp only[stz]
   have H6:=H5.keep hm6 (fun j hj e=>hob5 (by rw[<-show j=ob from e];exact hj));have hid6:=hm6.objB (b:=ib) (by omega) hB5
   have hrow6:=hrow5.keep hm6 (fun q hq e=>by have hq:some g=some q:=hq;cases hq;exact hgne e)
   have hcn6:w6.drew.cell? ⟨ob,0+2,none⟩=some (.int .i64 (s.2.2.2:Nat)):=by
    have h1:w6.drew.heap[ob]?=_:=hB6
    simp[World.cell?,h1,qK]
   have hcx6:CellsAt w6.drew ib 0 (qA x):=CellsAt.whole (w:=w6.drew) hid6;have hdr:Mod NoB w6 w6.drew:=(Mod.refl _ _).drew;have hfor:=(H6.keep0 hdr).forget x hx32
   rw[hq]at hfor;have hle5:=hm5.size;have hle6:=hm6.size;have hfl:yU s.2.1 x<=65536:=Nat.le_trans (List.length_filter_le _ _) hsm.2.2
   obtain⟨fn,hfn⟩:∃n,yU s.2.1 x=n:=⟨_,rfl⟩;rw[hfn]at hfl;simp only[hfn]at hfor;have HFN:=hid hfn
   obtain⟨SC,hSC⟩:∃SC:World->Prop,SC=fun w'=>w'.cell? ⟨ob,0+2,none⟩=some (.int .i64 (s.2.2.2:Nat))/\CellsAt w' ib 0 (qA x):=⟨_,rfl⟩
   have hSi:∀w',SC w'->w'.cell? ⟨ob,0+2,none⟩=some (.int .i64 (s.2.2.2:Nat))/\CellsAt w' ib 0 (qA x):=fun w' h=>by rw[hSC]at h;exact h
   have hSm:∀w',w'.cell? ⟨ob,0+2,none⟩=some (.int .i64 (s.2.2.2:Nat))/\CellsAt w' ib 0 (qA x)->SC w':=fun w' h=>by rw[hSC];exact h
   have hS:SC w6.drew:=hSm _ ⟨hcn6,hcx6⟩;clear hfn hSC hcn6 hbox5 hB5 hrow5 H5;go_upto_region 12 with(fail)
   refine wpRP [(0,3),(1,0),(2,3),(3,0),(4,1),(5,3),(6,3),(7,2)] [7] SC hS ?_;simp only[stz];refine wpLd 3 ob (0+2) (fun w' hS=>(hSi _ hS).1) underlying3 ?_
   simp only[stz];refine wpLA 24 ib 0 (qA x) (fun w' hS=>(hSi _ hS).2) underlying24 32 hic ?_;simp only[nmz];refine qN rfl (fun K hK=>?_)
   refine qB (qC 127 [.tmp 61,.tmp 62] _ rfl _ func127 rfl (by kernel_rfl) [qv,.agg (qA x)] rfl _) (hfor) ?_;rintro e w7 ⟨rfl,F7,H7,hm7,hs7⟩
   have hB7:=hm7.obj hob5 (hdr.obj id hB6);have hS2:SC w7:=hSm _ ⟨by simp[World.cell?,hB7,qK],hcx6.keep hm7 hib5⟩;refine⟨_,rfl,hK _ _ hS2 ?_⟩;clear hK K
   try simp only[nmz]
   refine zR _ _ _ _ ((s.2.2.2:Nat):Int) ((fn:Nat):Int) ((s.2.2.2+fn:Nat):Int) rfl rfl rfl rfl (by omega) (by omega) (by omega) ?_;simp only[stz]
   refine zP rfl (fun K hK=>?_)
   refine qV 3 _ _ ob (0+2) (.int .i64 ((s.2.2.2+fn:Nat):Int)) (by rfl) (by rfl) (by rfl) rfl (by kernel_rfl) _ _ hB7 (by simp[qK]) (fun w8 hB8 hm8=>?_)
   replace hB8:w8.heap[ob]?=some (.cells (qK (.slice (some ⟨g,0,none⟩) gone.length gcap) (s.2.2.1+m) (s.2.2.2+fn)) 104 (0,0)):=hB8;refine hK _ _ ?_;clear hK K
   simp only[stz];have hno7:∀j,j<w6.heap.size->¬F5 j->¬F7 j:=fun j hj hf hf7=>(hs7 j hf7).elim hf (fun h=>by have h:=h.1;have:w6.heap.size<=j:=h;omega)
   have hob7:=hno7 ob (by omega) hob5;have hg7:=hno7 g (by omega) hg5;have hle7:w6.heap.size<=w7.heap.size:=hm7.size;have hle8:=hm8.size;have hA:=HAT.out
   have hlt0:w.heap.size=ob:=hob
   have hF5:∀j,j<ob->F5 j->Ft j:=fun j hj hf=>by
    rcases hs5 j hf with h|h
    ·rcases hA.sub j h with h|h
     ·exact h
     ·have:=h.1;omega
    ·have:=h.1;omega
   have hmodA:Mod Ft w w8:=by
    refine Mod.trans (Mod.trans (Mod.trans (Mod.trans (Mod.trans (Mod.trans hA.mod hmr4 (fun _ _ h=>h.elim)) hm5 (fun j hj hf=>?_)) hm6 (fun j hj e=>?_)) hdr (fun _ _ h=>h.elim)) hm7 (fun j hj hf=>hF5 j (by omega) hf)) hm8 (fun j hj e=>?_)
    ·rcases hA.sub j hf with h|h
     ·exact h
     ·have:=h.1;omega
    ·have e:j=ob:=e;omega
    ·have e:j=ob:=e;omega
   have hAt:SwpAt w h Ft c l gone ob (.slice (some ⟨g,0,none⟩) gone.length gcap) (k+1) (yY s x) w8 F7:=by
    refine⟨HRUN.out,H7.keep hm8 (fun j hj e=>hob7 (by rw[<-show j=ob from e];exact hj)),hmodA,fun j hf=>?_,hob7,fun q hq=>?_,?_,?_,?_,?_⟩
    ·rcases hs7 j hf with h7|h7
     ·rcases hs5 j h7 with h5|h5
      ·exact(hA.sub j h5).imp id (fun h=>⟨h.1,by have:=h.2;omega⟩)
      ·exact .inr ⟨by have:=h5.1;omega,by have:=h5.2;omega⟩
     ·exact .inr ⟨by have h:=h7.1;have:w6.heap.size<=j:=h;omega,by have:=h7.2;omega⟩
    ·have hq:some g=some q:=hq
     cases hq
     exact hg7
    ·unfold yY
     rw[HMM.out,HFN.out];exact hB8
    ·exact((hrow6.keep0 hdr).keep hm7 (fun q hq=>by have hq:some g=some q:=hq;cases hq;exact hg5)).keep hm8 (fun q hq e=>by have hq:some g=some q:=hq;cases hq;exact hgne e)
    ·unfold yY
     rw[HMM.out]
     show s.2.2.1+m<=_
     omega
    ·unfold yY
     rw[HFN.out]
     show s.2.2.2+fn<=_
     omega
   have HR:Hid (SwpRel w h Ft c l gone ob (.slice (some ⟨g,0,none⟩) gone.length gcap) (.int .i64 ((k+1:Nat):Int)) w8):=hid ⟨k+1,_,F7,by omega,rfl,hAt⟩
   clear hAt hmodA hA hB8 hm8 hm7 hm6 hm5 hs7 hs5 hB7 hS hS2 hSi hSm H6 hrow6 hfor hB6 hid6 hcx6 hdr hmr4 H7;go_wp2
   go_roundw
   case rel=>exact HR.out
   case measure=>simp[intOf];omega
  ·have hz:¬(k:Int)<(gone.length:Nat):=by omega
   obtain rfl:k=gone.length:=by omega
   have hbox:=hat.box;have hrun:=hat.run;rw[List.take_length]at hrun;have hone:(Value.slice gad gone.length gcap).oneCell'=true:=rfl
   have hall:∀cc∈qK (.slice gad gone.length gcap) s.2.2.1 s.2.2.2,cc.oneCell'=true:=by
    intro cc hc
    simp[qK]at hc
    rcases hc with rfl|rfl|rfl<;>rfl
   have hca:CellsAt wr ob 0 (qK (.slice gad gone.length gcap) s.2.2.1 s.2.2.2):=CellsAt.whole hbox;go_upto_region 14 with(fail)
   refine wpR [1,1,3] (by rfl) (by rfl) ?_;simp only[stz];refine wpXA 104 ob 0 (qK (.slice gad gone.length gcap) s.2.2.1 s.2.2.2) hca underlying104 3 rfl trivial ?_
   try simp only[nmz]
   refine wpDo rfl ?_
   refine qH 104 _ _ ob 0 (qK (.slice gad gone.length gcap) s.2.2.1 s.2.2.2) (by rfl) (by rfl) (by rfl) hall 3 (by kernel_rfl) rfl _ _ hbox (by simp[qK]) (fun w9 hB9 hm9=>?_)
   rw[qF rfl]at hB9;simp only[stz];have hlt0:w.heap.size=ob:=hob;have hnob:=hat.nob
   have HF:Hid (SwpR w h Ft c l marks (.returned (.tuple #[.agg (qK (.slice gad gone.length gcap) s.2.2.1 s.2.2.2),.int .i64 0])) w9):=hid (by
    refine⟨ids,.slice gad gone.length gcap,s,Fk,HIDC.out,by rw[HGO.out];exact hrun,rfl,?_,hat.at'.keep hm9 (fun j hj e=>hnob (by rw[<-show j=ob from e];exact hj)),hat.mod.trans hm9 (fun j hj e=>by have e:j=ob:=e;omega),fun j hj=>(hat.sub j hj).imp id (fun h=>⟨h.1,by have:=h.2;have:=hm9.size;omega⟩),hat.nrow⟩
    rw[HGO.out];refine hrow.keep hm9 (fun q hq e=>?_);have e:q=ob:=e;rw[e]at hq
    rcases hrow.2 with⟨h1,_⟩|⟨g,cc,cur,h1,_,hg,_⟩
    ·injection h1 with h1
     rw[h1]at hq
     cases hq
    ·injection h1 with h1
     rw[h1]at hq;have hq:some g=some ob:=hq
     cases hq
     rw[hg]at hbox;injection hbox with h1;injection h1 with _ h2 _
     exact absurd h2 (by decide))
   clear hm9 hrow hat hbox hca hrun;go_wp2;refine bodyPost_ret (xH (P:=prog) (ty:=104) rfl _ _ ob _ _ _ _ (by rfl) hB9 underlying104 rfl (by kernel_rfl)) rfl ?_
   exact HF.out
end
end
section
open Go.RowKit Go.Proofs.Tryz Go.Lib
structure Evt where
 r:Int
 n:Int
 deps:List Int
 kind:Int
 repo:ByteArray
 tag:ByteArray
 id:List UInt8
 refs:List (List UInt8)
 deriving DecidableEq
def zN(e:Evt)(dv rv:Value):Array Value:=
 #[.int .i64 e.r,.int .i64 e.n,dv,.int .i64 e.kind,.string e.repo,.string e.tag]++qA e.id++#[rv]
def EvR(own:Bool)(w:World)(G:Nat->Prop)(cs:Array Value)(e:Evt):Prop:=
 ∃dv rv,cs=zN e dv rv/\e.id.length=32/\Sl own w G 1 IntC dv e.deps/\Sl own w G 32 IdC rv e.refs/\e.repo.size<=maxLen/\e.tag.size<=maxLen
structure EvCells(cs:Array Value)(e:Evt)(dv rv:Value):Prop where
 size:cs.size=39
 c0:cs[0]?=some (.int .i64 e.r)
 c1:cs[1]?=some (.int .i64 e.n)
 c2:cs[2]?=some dv
 c3:cs[3]?=some (.int .i64 e.kind)
 c4:cs[4]?=some (.string e.repo)
 c5:cs[5]?=some (.string e.tag)
 c38:cs[38]?=some rv
 dot:cs.extract 0 2=#[.int .i64 e.r,.int .i64 e.n]
 id:cs.extract 6 38=qA e.id
theorem zC(e:Evt)(dv rv:Value)(h:e.id.length=32):EvCells (zN e dv rv) e dv rv:=by
 have hi:(qA e.id).size=32:=by rw[qD,h]
 have hl:(e.id.map byteV).length=32:=by simpa using h
 refine⟨by simp[zN,hi],?_,?_,?_,?_,?_,?_,?_,?_,?_⟩
 all_goals try (simp[zN,qA,h];done)
 ·apply Array.toList_inj.1
  simp only[zN,qA,Array.toList_extract,Array.toList_append,List.extract_eq_take_drop]
  simp[hl]
theorem evCells_one{e:Evt}{dv rv:Value}(h1:dv.oneCell'=true)(h2:rv.oneCell'=true):∀c∈zN e dv rv,c.oneCell'=true:=by
 intro c hc;simp only[zN,Array.mem_append]at hc
 rcases hc with(hc|hc)|hc
 ·simp at hc
  rcases hc with rfl|rfl|rfl|rfl|rfl|rfl<;>first|rfl|exact h1
 ·exact qT _ c hc
 ·simp at hc;subst hc;exact h2
theorem EvR.keep{own:Bool}{w w':World}{G S:Nat->Prop}{cs:Array Value}{e:Evt}(h:EvR own w G cs e)(hm:Mod S w w')(hd:∀k,G k->¬S k):EvR own w' G cs e:=by
 obtain⟨dv,rv,hc,hi,h1,h2,h3⟩:=h;exact⟨dv,rv,hc,hi,h1.keep hm hd fun _ _ h=>h,h2.keep hm hd fun _ _ h=>h,h3⟩
theorem EvR.mono{own:Bool}{w:World}{G G':Nat->Prop}{cs:Array Value}{e:Evt}(h:EvR own w G cs e)(hg:∀k,G k->G' k):EvR own w G' cs e:=by
 obtain⟨dv,rv,hc,hi,h1,h2,h3⟩:=h;exact⟨dv,rv,hc,hi,h1.mono hg fun _ _ h=>h,h2.mono hg fun _ _ h=>h,h3⟩
theorem EvR.keep0{own:Bool}{w w':World}{G:Nat->Prop}{cs:Array Value}{e:Evt}(h:EvR own w G cs e)(hm:Mod NoB w w'):EvR own w' G cs e:=h.keep hm (fun _ _=>id)
theorem EvR.weak{own:Bool}{w:World}{G:Nat->Prop}{cs:Array Value}{e:Evt}(h:EvR own w G cs e):EvR false w G cs e:=by
 obtain⟨dv,rv,hc,hi,h1,h2,h3⟩:=h;exact⟨dv,rv,hc,hi,h1.weak,h2.weak,h3⟩
theorem SlEv.keep0{own own':Bool}{w w':World}{E G:Nat->Prop}{v:Value}{l:List Evt}(h:Sl own w E 39 (EvR own' w G) v l)(hm:Mod NoB w w'):Sl own w' E 39 (EvR own' w' G) v l:=h.keep hm (fun _ _=>id) (fun _ _ h=>h.keep0 hm)
end
section
open Go.RowKit Go.Shelf Go.Proofs.Tryz Go.Lib
def allDescs(c:BlobM):List (List UInt8):=c.flatMap fun p=>((decL p.2).map xX).getD [] |>.map (·.id)
theorem allDescs_len(c:BlobM):(allDescs c).length<=33*c.length:=by
 induction c with
 |nil=>simp[allDescs]
 |cons p c ih=>
  have h:(((decL p.2).map xX).getD []).length<=33:=by
   cases hd:decL p.2 with
   |none=>simp
   |some m=>
    have:=decL_len hd;simp only[Option.map_some,Option.getD_some,xX,List.length_append]
    split<;>simp<;>omega
  simp only[allDescs,List.flatMap_cons,List.length_append,List.length_map,List.length_cons]at ih |-;omega
theorem descsOf_mem{c:BlobM}{id:List UInt8}{ds:List DescL}(h:yW c id=some ds):∀d∈ds,d.id∈allDescs c:=by
 intro d hd;unfold yW at h
 cases hg:getL id c with
 |none=>rw[hg]at h;cases h
 |some b=>
  rw[hg]at h;refine List.mem_flatMap.2 ⟨(id,b),jK hg,List.mem_map.2 ⟨d,?_,rfl⟩⟩;have h':(decL b).map xX=some ds:=h
  show d∈((decL b).map xX).getD []
  rw[h'];exact hd
theorem inR_mem{c:BlobM}:∀{f:Nat}{id:List UInt8}{depth:Nat}{x:List UInt8},inR c f id depth x->x=id\/x∈allDescs c
 |0,_,_,_,h=>h.elim
 |f+1,id,depth,x,h=>by
  rcases h with rfl|⟨_,ds,hds,d,hd,hx⟩
  ·exact .inl rfl
  ·right
   have hm:=descsOf_mem hds d hd
   split at hx
   ·rcases inR_mem hx with rfl|hx
    ·exact hm
    ·exact hx
   ·rw[hx];exact hm
theorem marks_len(c:BlobM)(roots:List (List UInt8))(h:((marksL c roots).map (·.1)).Nodup):(marksL c roots).length<=roots.length+33*c.length:=by
 have h1:=xS (l:=(marksL c roots).map (·.1)) (m:=roots++allDescs c) h (fun x hx=>by
  have hs:(getL x (marksL c roots)).isSome=true:=by
   cases hg:getL x (marksL c roots)with
   |none=>exact absurd hx (getL_none.1 hg)
   |some k=>rfl
  obtain⟨r,hr,hi⟩:=(marks_keys c roots x).1 hs
  rcases inR_mem hi with rfl|hm
  ·exact List.mem_append_left _ hr
  ·exact List.mem_append_right _ hm)
 have h2:=allDescs_len c;simp only[List.length_map,List.length_append]at h1;omega
theorem marks_of{c:BlobM}{roots ids:List (List UInt8)}(hs:ids.Pairwise (fun a b=>a<b))(hp:ids.Perm ((marksL c roots).map (·.1))):MarkOf c roots ids:=by
 refine⟨hs,fun x=>?_⟩;rw[hp.mem_iff,<-marks_keys c roots x]
 cases hg:getL x (marksL c roots)with
 |none=>simp[getL_none.1 hg]
 |some k=>
  simp only[Option.isSome_some,iff_true];exact List.mem_map.2 ⟨_,jK hg,rfl⟩
def MarkR(w:World)(c:BlobM)(roots:List (List UInt8)):Ending->World->Prop:=fun e w'=>Mod NoB w w'/\∃v ids,e=.returned v/\GatI w.heap.size w' v ids/\MarkOf c roots ids/\∀x∈ids,x.length=32
def MarkRel(w0:World)(mb:Nat)(c:BlobM)(roots:List (List UInt8))(i:Value)(w:World):Prop:=∃k:Nat,k<=roots.length/\i=.int .i64 k/\MarksAt w mb (marksL c (roots.take k))/\Mod NoB w0 w
theorem marksL_succ(c:BlobM)(roots:List (List UInt8))(k:Nat)(hk:k<roots.length):marksL c (roots.take (k+1))=yL c 5 roots[k] 1 (marksL c (roots.take k)):=by
 unfold marksL;rw[List.take_succ_eq_append_getElem hk,List.foldl_append]
 rfl
section
variable{w:World}{bs ms wd:Nat}{room:Int}{bl:List Blb}
theorem clMark_any(h:StInv w bs ms wd room bl){own:Bool}{G:Nat->Prop}{v:Value}{roots:List (List UInt8)}(hv:Sl own w G 32 IdC v roots)(hn:roots.length<=10000)(hc:(cont bl).length<=1000):Calls prog 22 #[.pointer (some ⟨bs,0,none⟩),v] w (MarkR w (cont bl) roots):=by
 have hmm:= @run_makeMap prog;have H:=hid h;have HV:=hid hv;obtain⟨ad,cap,rfl,-,hat⟩:=Sl.at hv;have HAT:=hid hat;clear h hv hat;go_enter func22,ntmps22
 go_upto_region 1 with(fail);refine wpR [1,3] (by rfl) (by rfl) ?_;simp only[stz];refine qN rfl (fun K hK=>?_);unfold Oper.wp execOp
 simp only[Array.map_empty,Option.map_none,Sem.run_bind,hmm,Result.andThen_ok,Sem.run_pure];have hB:=heap_alloc_new w (.map #[] 0);have hM:=qZ w (.map #[] 0)
 have hs:w.heap.size<(w.alloc (.map #[] 0)).heap.size:=by simp
 generalize w.alloc (.map #[] 0)=w1 at hB hM hs |-;refine hK _ _ trivial ?_;clear hK K;simp only[stz];have hMA:MarksAt w1 w.heap.size (marksL (cont bl) []):=MapIs.made hB
 have HR0:Hid (MarkRel w w.heap.size (cont bl) roots (.int .i64 (0:Nat)) w1):=hid ⟨0,Nat.zero_le _,rfl,by rw[List.take_zero];exact hMA,hM⟩
 generalize hmb:w.heap.size=mb at*;have hns:¬SFoot bs ms bl mb:=fun e=>by have:=H.out.lt mb e;omega
 clear hmm hB hM hMA;go_wp2
 go_loopw [11] (MarkRel w mb (cont bl) roots) (fun i _=>roots.length-(intOf i).toNat)
 case atStart=>exact HR0.out
 case round=>
  rename World=>wr
  obtain⟨k,hk,rfl,hMr,hm⟩:=hrel;have HMR:=hid hMr
  by_cases hlt:k<roots.length
  ·have hz:(k:Int)<(roots.length:Nat):=by omega
   obtain⟨b,off,rfl,-,-,hcc⟩:=HAT.out k hlt;obtain⟨cs,-,⟨rfl,hx32⟩,hcA⟩:=hcc k hlt;have hms:=marksL_succ (cont bl) roots k hlt;generalize roots[k]=x at*
   have hic:(qA x).size=32:=by rw[qD,hx32]
   have hcr:=hcA.keep hm id;have Hr:=hid (H.out.keep0 hm);have HMS:=hid hms;clear hms hcc hcA hMr;go_upto_region 4 with(fail);refine wpR [3,1,1,1] (by rfl) (by rfl) ?_
   simp only[stz];refine qQ _ _ _ _ _ _ _ _ _ rfl rfl rfl rfl underlying25 (n:=32) (by kernel_rfl) hlt ?_;simp only[nmz]
   refine wpXA 24 b (off+k*32) (qA x) hcr underlying24 32 hic trivial ?_;try simp only[nmz]
   refine wpDo rfl ?_;refine qR 24 _ (by rfl) idZ (fun w2 hB2 hm2 hs2=>?_)
   replace hB2:w2.heap[wr.heap.size]?=some (.cells (qA (List.replicate 32 0)) 24 (0,0)):=hB2;try simp only[nmz]
   refine wpDo rfl ?_
   refine qH 24 _ _ wr.heap.size 0 (qA x) (by rfl) (by rfl) (by rfl) (qT _) 32 (by kernel_rfl) hic _ _ hB2 (by rw[hic,qD];simp) (fun w3 hB3 hm3=>?_)
   rw[qF (by rw[hic,qD];simp)]at hB3;simp only[stz];have hmr3:Mod NoB wr w3:=hm2.transB hm3 (Nat.le_refl _);have hm03:=hm.trans0 hmr3
   have H3:=hid (Hr.out.keep0 hmr3);have HM3:=hid (HMR.out.keep0 hmr3);have hrec:=clReach_any hns 5 x 1 _ _ hx32 (by omega) (by omega) (by omega) H3.out HM3.out
   have hno:=clNone_any H3.out;generalize hb7:wr.heap.size=b7 at*;clear hm hm2 hm3 hmr3 hB2 hcr hs2
   go_upto_region 7 with(go_at_call 86;refine hno.mono ?_;rintro _ w4 ⟨rfl,hw⟩;obtain rfl:=hw.symm);refine wpR [3,1,3,1] (by rfl) (by rfl) ?_;simp only[stz]
   refine wpXA 24 b7 0 (qA x) (CellsAt.whole hB3) underlying24 32 hic trivial ?_;simp only[stz];refine wpDo rfl ?_
   refine qB (qC 87 [.tmp 20,.tmp 21,.const (.int .i64 1),.tmp 22] _ rfl _ func87 rfl (by kernel_rfl) [.pointer (some ⟨bs,0,none⟩),.agg (qA x),.int .i64 ((1:Nat):Int),.map (some mb)] rfl _) (hrec) ?_
   rintro e w5 ⟨rfl,hM5,hm5⟩
   have HR:Hid (MarkRel w mb (cont bl) roots (.int .i64 ((k+1:Nat):Int)) w5):=hid ⟨k+1,by omega,rfl,by rw[HMS.out];exact hM5,hm03.transB hm5 (by omega)⟩
   refine⟨_,rfl,?_⟩;simp only[stz];clear hB3 hM5 hm5 hm03 hrec hno;go_wp2
   go_roundw
   case rel=>exact HR.out
   case measure=>simp[intOf];omega
  ·have hz:¬(k:Int)<(roots.length:Nat):=by omega
   obtain rfl:k=roots.length:=by omega
   have hMf:=HMR.out;rw[List.take_length]at hMf
   have hnd:((marksL (cont bl) roots).map (·.1)).Nodup:=by
    have:=hMf.nd
    simpa[marksV,List.map_map,Function.comp_def]using this
   have hln:=marks_len (cont bl) roots hnd;have hris:=clRising_any hMf (by unfold marksV;rw[List.length_map];omega)
   have hkm:(marksV (marksL (cont bl) roots)).map (·.1)=(marksL (cont bl) roots).map (·.1):=by simp[marksV,List.map_map,Function.comp_def]
   rw[hkm]at hris;clear hMr hMf hkm hnd hln;go_upto_region 9 with(fail);refine wpR [3,1,3] (by rfl) (by rfl) ?_;simp only[stz];refine wpDo rfl ?_
   refine qB (qC 84 [.tmp 25] _ rfl _ func84 rfl (by kernel_rfl) [.map (some mb)] rfl _) (hris) ?_;rintro e w6 ⟨hm6,v6,ids,he6,hg6,hs6,hp6,hl6⟩;subst he6
   have HF:Hid (MarkR w (cont bl) roots (.returned v6) w6):=hid ⟨hm.trans0 hm6,v6,ids,rfl,hg6.base (by have:=hm.size;omega),marks_of hs6 hp6,hl6⟩;refine⟨_,rfl,?_⟩
   simp only[stz];clear hm hm6 hg6 hs6 hp6 hl6;go_wp2;go_ret;exact HF.out
end
theorem fo_115_6:qU prog 115 6=some 38:=by kernel_rfl
theorem eventZ:(prog.info? 115).bind (·.zero)=some (.agg (zN ⟨0,0,[],0,⟨#[]⟩,⟨#[]⟩,List.replicate 32 0,[]⟩ (.slice none 0 0) (.slice none 0 0))):=by kernel_rfl
def refsL(l:List Evt):List (List UInt8):=l.flatMap (·.refs)
theorem addsL_app(a b:List (List UInt8))(all:List (List UInt8×Value)):addsL (a++b) all=addsL b (addsL a all):=by simp[addsL]
theorem refsL_snoc(l:List Evt)(k:Nat)(hk:k<l.length):refsL (l.take (k+1))=refsL (l.take k)++l[k].refs:=by
 have h:=congrArg refsL (List.take_succ_eq_append_getElem hk);rw[h];unfold refsL;rw[List.flatMap_append,List.flatMap_cons,List.flatMap_nil,List.append_nil]
theorem Sl.memR{α:Type}{own:Bool}{w:World}{G:Nat->Prop}{sz:Nat}{R R':Array Value->α->Prop}{v:Value}{l:List α}(h:Sl own w G sz R v l)(hR:∀cs x,x∈l->R cs x->R' cs x):Sl own w G sz R' v l:=by
 obtain⟨a,cap,hv,hl,hc,h⟩:=h;refine⟨a,cap,hv,hl,hc,fun hne=>?_⟩;obtain⟨b,off,ha,hG,ho,hi⟩:=h hne;refine⟨b,off,ha,hG,ho,fun i hlt=>?_⟩
 obtain⟨cs,h1,h2,h3⟩:=hi i hlt;exact⟨cs,h1,hR _ _ (List.getElem_mem hlt) h2,h3⟩
theorem slI{base:Nat}{w:World}{v:Value}{ids:List (List UInt8)}(h:GatI base w v ids)(h32:∀x∈ids,x.length=32):Sl true w (fun q=>base<=q/\q<w.heap.size/\v.ownBlock=some q) 32 IdC v ids:=
 Sl.memR (h.sl idE_len) fun cs x hx hcs=>⟨by rw[hcs,idE_eq (h32 x hx)],h32 x hx⟩
def MarkedOf(c:BlobM)(roots:List (List UInt8))(l:List Evt)(out:List (List UInt8)):Prop:=out.Pairwise (fun a b=>a<b)/\∀x,x∈out↔(∃r∈roots,inR c 5 r 1 x)\/x∈refsL l
def MarksR(w:World)(c:BlobM)(roots:List (List UInt8))(l:List Evt):Ending->World->Prop:=fun e w'=>Mod NoB w w'/\∃v out,e=.returned v/\GatI w.heap.size w' v out/\MarkedOf c roots l out/\∀x∈out,x.length=32
def MksRel(w0:World)(mb:Nat)(ids:List (List UInt8))(l:List Evt)(i:Value)(w:World):Prop:=∃k:Nat,k<=l.length/\i=.int .i64 k/\MapIs idV IdOk w mb (addsL (refsL (l.take k)) (addsL ids []))/\Mod NoB w0 w
theorem lt_nodup{l:List (List UInt8)}(h:l.Pairwise (fun a b=>a<b)):l.Nodup:=h.imp fun{a b} hab e=>by rw[e]at hab;exact List.lt_irrefl _ hab
theorem swMarks_any{w:World}{bs ms wd:Nat}{room:Int}{bl:List Blb}(H:StInv w bs ms wd room bl)(hc:(cont bl).length<=1000){vv rv ev:Value}{reps:List RepX}(h1:vv.oneCell'=true)(hv:RepsAt w rv reps)(hn:(rootsX reps).length<=10000)
 {own own':Bool}{E G:Nat->Prop}{l:List Evt}(hev:Sl own w E 39 (EvR own' w G) ev l)(hr:(refsL l).length<=20000):
 Calls prog 48 #[.pointer (some ⟨bs,0,none⟩),.agg #[vv,rv],ev] w (MarksR w (cont bl) (rootsX reps) l):=by
 have hmm:= @run_makeMap prog;have h2:=Sl.one hv;have HH:=Lib.hid H;have HV:=Lib.hid hv;have HEV:=Lib.hid hev;obtain⟨ead,ecap,rfl,hel,-⟩:=Sl.at hev;clear H hv hev
 go_enter func48,ntmps48;go_upto_region 0 with(fail);refine wpR [1,3] (by rfl) (by rfl) ?_;simp only[stz];refine wpDo rfl ?_
 refine zW 71 _ _ (by rfl) (by rfl) (fun w1 hB1 hm1 hs1=>?_);replace hB1:w1.heap[w.heap.size]?=some (.cells #[vv,rv] 71 (0,0)):=hB1;simp only[stz]
 go_upto_region 1 with(fail);refine wpR [1,3,1,1,1,1,1,3] (by rfl) (by rfl) ?_;simp only[stz];refine qN rfl (fun K hK=>?_);unfold Oper.wp execOp
 simp only[Array.map_empty,Option.map_none,Sem.run_bind,hmm,Result.andThen_ok,Sem.run_pure];have hB3:=heap_alloc_new w1 (.map #[] 0);have hm3:=qZ w1 (.map #[] 0)
 have hs3:(w1.alloc (.map #[] 0)).heap.size=w1.heap.size+1:=by simp
 generalize w1.alloc (.map #[] 0)=w3 at hB3 hm3 hs3 |-;have hM3:MapIs idV IdOk w3 w1.heap.size []:=MapIs.made hB3;have hm03:=hm1.trans0 hm3
 have hcT:CellsAt w3 w.heap.size 0 #[vv,rv]:=CellsAt.whole (hm3.obj id hB1);have hroots:=swRoots_any h1 (xN HV.out (KC.of0 hm03)) (by omega);refine hK _ _ trivial ?_
 clear hK K;simp only[stz];refine wpXA 71 w.heap.size 0 #[vv,rv] hcT underlying71 2 rfl trivial ?_;try simp only[nmz]
 refine wpDo rfl ?_;refine qB (qC 47 [.tmp 12] _ rfl _ func47 rfl (by kernel_rfl) [.agg #[vv,rv]] rfl _) (hroots) ?_;rintro e w4 ⟨hm4,v4,R,he4,hg4,hset4,hl4⟩
 subst he4;have hRn:R.length<=(rootsX reps).length:=xS (lt_nodup hset4.1) (fun x hx=>(hset4.2 x).1 hx);have hm04:=hm03.trans0 hm4
 have hmark:=clMark_any (HH.out.keep0 hm04) (slI hg4 hl4) (by omega) hc;refine⟨_,rfl,?_⟩;try simp only[nmz]
 refine wpDo rfl ?_;refine qB (qC 22 [.tmp 11,.tmp 13] _ rfl _ func22 rfl (by kernel_rfl) [.pointer (some ⟨bs,0,none⟩),v4] rfl _) (hmark) ?_
 rintro e w5 ⟨hm5,v5,ids,he5,hg5,hset5,hl5⟩;subst he5;have hm05:=hm04.trans0 hm5;obtain⟨ad5,cap5,hv5⟩:=hg5.slice;have hg5':=hg5;rw[hv5]at hg5'
 have hval:=valuesI_any w5 ad5 ids.length cap5;rw[<-hv5]at hval;refine⟨_,rfl,?_⟩;try simp only[nmz]
 refine wpDo rfl ?_;refine qB (qC 119 [.tmp 14] _ rfl _ func119 rfl (by kernel_rfl) [v5] rfl _) (hval) ?_;rintro e w6 ⟨rfl,hw6⟩
 have hm6:Mod NoB w5 w6:=by rw[hw6];exact qZ w5 _
 have hB6:w6.heap[w5.heap.size]?=some (.cells #[v5] 25 (0,0)):=by rw[hw6];exact heap_alloc_new w5 _
 clear hw6;have hadd:=swAdd_any (enters_of func194 (by kernel_rfl) rfl) (valuesI_gives hB6 (slI (hg5.keep0 hm6) hl5)) hl5 (hM3.keep0 (hm4.trans0 (hm5.trans0 hm6)))
 refine⟨_,rfl,?_⟩;try simp only[nmz]
 refine wpDo rfl ?_
 refine qB (qC 115 [.tmp 10,.tmp 15] _ rfl _ func115 rfl (by kernel_rfl) [.map (some w1.heap.size),.func (.func 194) #[] #[.pointer (some ⟨w5.heap.size,0,none⟩)]] rfl _) (hadd) ?_
 rintro e w7 ⟨rfl,hM7,hm7⟩;refine⟨_,rfl,?_⟩;simp only[stz]
 have hm25:Mod NoB w w7:=(hm05.trans0 hm6).trans hm7 (fun k hk e=>by have e:k=w1.heap.size:=e;have:=hm1.size;omega)
 have hidn:ids.length<=43000:=by
  have h9:=xS (l:=ids) (m:=R++allDescs (cont bl)) (lt_nodup hset5.1) (fun x hx=>by
   obtain⟨r,hr,hi⟩:=(hset5.2 x).1 hx
   rcases inR_mem hi with rfl|hm
   ·exact List.mem_append_left _ hr
   ·exact List.mem_append_right _ hm)
  have h8:=allDescs_len (cont bl);simp only[List.length_append]at h9;omega
 have hmarks:∀x,x∈ids↔∃r∈rootsX reps,inR (cont bl) 5 r 1 x:=fun x=>by
  rw[hset5.2 x];exact⟨fun⟨r,h1,h2⟩=>⟨r,(hset4.2 r).1 h1,h2⟩,fun⟨r,h1,h2⟩=>⟨r,(hset4.2 r).2 h1,h2⟩⟩
 have HMK:=Lib.hid hmarks;have hw1:w.heap.size<w1.heap.size:=hs1;generalize hmb:w1.heap.size=mb at*
 have HR0:Hid (MksRel w mb ids l (.int .i64 (0:Nat)) w7):=Lib.hid ⟨0,Nat.zero_le _,rfl,by rw[List.take_zero];exact hM7,hm25⟩
 clear hm25 hM7 hm7 hadd hB6 hm6 hval hg5' hv5 hm05 hset5 hg5 hm5 hmark hm04 hRn hset4 hg4 hm4 hroots hcT hm03 hM3 hs3 hm3 hB3 hB1 hm1 hmarks;go_wp2
 go_loopw [19] (MksRel w mb ids l) (fun i _=>l.length-(intOf i).toNat)
 case atStart=>exact HR0.out
 case round=>
  rename World=>wr
  obtain⟨k,hk,rfl,hMr,hmr⟩:=hrel
  by_cases hlt:k<l.length
  ·have hz:(k:Int)<(l.length:Nat):=by omega
   obtain⟨_,_,hae,-,hat⟩:=(SlEv.keep0 HEV.out hmr).at;injection hae with hae1 hae2 hae3;subst hae1 hae3;obtain⟨b,off,rfl,-,-,hcc⟩:=hat k hlt
   obtain⟨cs,-,⟨dv,fv,rfl,hid,hdv,hfv,-,-⟩,hcA⟩:=hcc k hlt;have hsn:=refsL_snoc l k hlt
   have hsp:refsL l=refsL (l.take k)++(l[k].refs++refsL (l.drop (k+1))):=by
    have h:=congrArg refsL (take_split hlt);rw[h];unfold refsL;rw[List.flatMap_append,List.flatMap_cons]
   have hr32:∀x∈l[k].refs,x.length=32:=by
    intro x hx;obtain⟨a,cap,_,_,hat⟩:=Sl.at hfv;obtain⟨i,hi,rfl⟩:=List.getElem_of_mem hx;obtain⟨b,off,_,_,_,hc⟩:=hat i hi;obtain⟨cs,_,⟨_,h2⟩,_⟩:=hc i hi
    exact h2
   generalize l[k]=ev at*;have hes:=zC ev dv fv hid;have hic:=hes.size;have hc38:=hes.c38;have h1v:=evCells_one (e:=ev) (Sl.one hdv) (Sl.one hfv)
   obtain⟨ra,rcap,hfe,-,-⟩:=Sl.at hfv
   have hzs:(zN ⟨0,0,[],0,⟨#[]⟩,⟨#[]⟩,List.replicate 32 0,[]⟩ (.slice none 0 0) (.slice none 0 0)).size=39:=(zC _ _ _ (by simp)).size
   have HSN:=Lib.hid hsn;clear hsn hsp hat hcc hae2 hes hdv;go_upto_region 4 with(fail);refine wpR [3,1,1,1] (by rfl) (by rfl) ?_;simp only[stz]
   refine qQ _ _ _ _ _ _ _ _ _ rfl rfl rfl rfl underlying72 (n:=39) (by kernel_rfl) hlt ?_;simp only[nmz]
   refine wpXA 115 b (off+k*39) (zN ev dv fv) hcA underlying115 39 hic trivial ?_;try simp only[nmz]
   refine wpDo rfl ?_;refine qR 115 _ (by rfl) eventZ (fun w2 hB2 hm2 hs2=>?_)
   replace hB2:w2.heap[wr.heap.size]?=some (.cells (zN ⟨0,0,[],0,⟨#[]⟩,⟨#[]⟩,List.replicate 32 0,[]⟩ (.slice none 0 0) (.slice none 0 0)) 115 (0,0)):=hB2
   try simp only[nmz]
   refine wpDo rfl ?_
   refine qH 115 _ _ wr.heap.size 0 (zN ev dv fv) (by rfl) (by rfl) (by rfl) h1v 39 (by kernel_rfl) hic _ _ hB2 (by rw[hic,hzs];omega) (fun w3 hB3 hm3=>?_)
   rw[qF (by rw[hic,hzs])]at hB3;simp only[stz];have hmr3:Mod NoB wr w3:=hm2.transB hm3 (Nat.le_refl _);have hm03:=hmr.trans0 hmr3;have hMk3:=hMr.keep0 hmr3
   have hcR:w3.cell? ⟨wr.heap.size,0+38,none⟩=some fv:=(CellsAt.whole hB3).cell hc38;have hfv3:=hfv.keep0 hmr3;rw[hfe]at hcR hfv3
   clear hcA hm2 hm3 hB2 hs2 hMr hmr hB3 hc38 hfv hmr3;generalize hb9:wr.heap.size=b9 at*;have hval:=valuesI_any w3 ra ev.refs.length rcap;go_upto_region 5 with(fail)
   refine wpR [3,3,1,1,1] (by rfl) (by rfl) ?_;simp only[stz];refine wpXd 25 b9 (0+38) hcR underlying25 trivial ?_;try simp only[nmz]
   refine wpDo rfl ?_;refine qB (qC 119 [.tmp 25] _ rfl _ func119 rfl (by kernel_rfl) [.slice ra ev.refs.length rcap] rfl _) (hval) ?_;rintro e w4 ⟨rfl,hw4⟩
   have hm4:Mod NoB w3 w4:=by rw[hw4];exact qZ w3 _
   have hB4:w4.heap[w3.heap.size]?=some (.cells #[.slice ra ev.refs.length rcap] 25 (0,0)):=by rw[hw4];exact heap_alloc_new w3 _
   clear hw4;have hadd:=swAdd_any (enters_of func194 (by kernel_rfl) rfl) (valuesI_gives hB4 (hfv3.keep0 hm4)) hr32 (hMk3.keep0 hm4);refine⟨_,rfl,?_⟩;try simp only[nmz]
   refine wpDo rfl ?_
   refine qB (qC 115 [.tmp 23,.tmp 26] _ rfl _ func115 rfl (by kernel_rfl) [.map (some mb),.func (.func 194) #[] #[.pointer (some ⟨w3.heap.size,0,none⟩)]] rfl _) (hadd) ?_
   rintro e w5 ⟨rfl,hM5,hm5⟩;rw[<-addsL_app,<-HSN.out]at hM5
   have HR:Hid (MksRel w mb ids l (.int .i64 ((k+1:Nat):Int)) w5):=Lib.hid ⟨k+1,by omega,rfl,hM5,(hm03.trans0 hm4).trans hm5 (fun j hj e=>by have e:j=mb:=e;omega)⟩
   refine⟨_,rfl,?_⟩;simp only[stz];clear hm03 hMk3 hcR hfv3 hval hm4 hB4 hadd hM5 hm5;go_wp2
   go_roundw
   case rel=>exact HR.out
   case measure=>simp[intOf];omega
  ·have hz:¬(k:Int)<(l.length:Nat):=by omega
   obtain rfl:k=l.length:=by omega
   rw[List.take_length]at hMr
   have hln:(addsL (refsL l) (addsL ids [])).length<=65536:=by
    have h1:=addsL_len (refsL l) (addsL ids []);have h2:=addsL_len ids [];simp only[List.length_nil]at h2;omega
   have hris:=swRising_any hMr hln;clear hMr;go_upto_region 7 with(fail);refine wpR [3,1,3] (by rfl) (by rfl) ?_;simp only[stz];refine wpDo rfl ?_
   refine qB (qC 118 [.tmp 29] _ rfl _ func118 rfl (by kernel_rfl) [.map (some mb)] rfl _) (hris) ?_;rintro e w6 ⟨hm6,v6,out,he6,hg6,hs6,hp6,hl6⟩;subst he6
   have HF:Hid (MarksR w (cont bl) (rootsX reps) l (.returned v6) w6):=Lib.hid ⟨hmr.trans0 hm6,v6,out,rfl,hg6.base (by have:=hmr.size;omega),⟨hs6,fun x=>by rw[hp6.mem_iff,addsL_mem,addsL_mem,HMK.out];simp[or_comm]⟩,hl6⟩
   refine⟨_,rfl,?_⟩;simp only[stz];clear hmr hm6 hg6 hs6 hp6 hl6 hris;go_wp2;go_ret;exact HF.out
def cutTo(n k:Nat)(x:List UInt8):List UInt8:=x.take n++List.replicate (k-n) 0++x.drop k
theorem cutTo_len{n k:Nat}{x:List UInt8}(hx:x.length=32)(hn:n<=k)(hk:k<=32):(cutTo n k x).length=32:=by simp[cutTo,hx];omega
theorem cutTo_start{n:Nat}{x:List UInt8}:cutTo n n x=x:=by simp[cutTo]
theorem cutTo_end{n:Nat}{x:List UInt8}(hx:x.length=32):cutTo n 32 x=cutI n x:=by
 unfold cutTo cutI;rw[List.drop_of_length_le (by omega),List.append_nil]
theorem cutTo_step{n k:Nat}{x:List UInt8}(hx:x.length=32)(hn:n<=k)(hk:k<32):(qA (cutTo n k x)).setIfInBounds k (byteV 0)=qA (cutTo n (k+1) x):=by
 apply Array.toList_inj.1
 have h1:(x.take n).length=n:=by simp[hx];omega
 have e:List.replicate (k+1-n) (0:UInt8)=List.replicate (k-n) 0++[0]:=by rw[show k+1-n=(k-n)+1 by omega,List.replicate_succ']
 have d:x.drop k=x[k]'(by omega)::x.drop (k+1):=List.drop_eq_getElem_cons (by omega);simp only[qA,cutTo,Array.toList_setIfInBounds];rw[e,d]
 have hl:((x.take n++List.replicate (k-n) 0).map byteV).length=k:=by simp[hx];omega
 rw[List.map_append,List.set_append_right _ _ (by rw[hl];exact Nat.le_refl _),hl,Nat.sub_self]
 simp
 rw[<-List.map_drop,d,<-List.map_drop]
 rfl
def CutRel(n:Nat)(x:List UInt8)(b:Nat)(w0:World)(i:Value)(w:World):Prop:=∃k:Nat,n<=k/\k<=32/\i=.int .i64 k/\w.heap[b]?=some (.cells (qA (cutTo n k x)) 24 (0,0))/\Mod (fun q=>q=b) w0 w
theorem refCut_any(x:List UInt8)(hx:x.length=32)(n:Nat)(h1:1<=n)(h2:n<=32)(w:World):Calls prog 151 #[.agg (qA x),.int .i64 n] w (CutR2 w n x):=by
 have hrs:(qA (cutI n x)).size=32:=by rw[qD,cutI_len hx h2]
 have HE:=hid (cutTo_end (n:=n) hx);go_enter func151,ntmps151;go_upto_region 0 with(fail);refine wpR [1,1,3] (by rfl) (by rfl) ?_;simp only[stz];refine wpDo rfl ?_
 refine zW 24 _ _ (by rfl) (by rfl) (fun w1 hB1 hm1 hs1=>?_);replace hB1:w1.heap[w.heap.size]?=some (.cells (qA x) 24 (0,0)):=hB1;try simp only[nmz]
 refine wpDo rfl ?_;refine qR 24 _ (by rfl) idZ (fun w2 hB2 hm2 hs2=>?_)
 replace hB2:w2.heap[w1.heap.size]?=some (.cells (qA (List.replicate 32 0)) 24 (0,0)):=hB2;simp only[stz];replace hB1:=hm2.obj id hB1;have hM2:=hm1.trans0 hm2
 have hne:w.heap.size≠w1.heap.size:=by omega
 have hs1':w.heap.size<=w1.heap.size:=hm1.size;generalize hb1:w.heap.size=b1 at*;generalize hb2:w1.heap.size=b2 at*;clear hm1 hm2;go_wp2
 go_loopw [6] (CutRel n x b1 w2) (fun i _=>32-(intOf i).toNat)
 case atStart=>exact⟨n,Nat.le_refl _,h2,rfl,by rw[cutTo_start];exact hB1,Mod.refl _ _⟩
 case round=>
  rename World=>wr
  obtain⟨k,hnk,hk,rfl,hrow,hm⟩:=hrel
  by_cases hlt:k<32
  ·have hz:(k:Int)<32:=by omega
   have hst:=cutTo_step hx hnk hlt;have hsz:(qA (cutTo n k x)).size=32:=by rw[qD,cutTo_len hx hnk hk]
   go_upto_region 6 with(fail);refine wpR [3,3,1] (by rfl) (by rfl) ?_;simp only[stz]
   refine qJ _ _ _ _ _ _ _ _ rfl rfl rfl rfl underlying24 (n:=1) (by kernel_rfl) hlt ?_;simp only[nmz];refine wpDo rfl ?_
   refine qV 5 _ _ b1 (k*1) (byteV 0) (by rfl) (by rfl) (by rfl) rfl (by kernel_rfl) _ _ hrow (by rw[hsz];omega) (fun w3 hB3 hm3=>?_);rw[Nat.mul_one,hst]at hB3
   have hM3:Mod (fun q=>q=b1) w2 w3:=hm.trans hm3 (fun _ _ h=>h);simp only[stz];clear hm hm3 hrow hst hsz;go_wp2
   go_roundw
   case rel=>exact⟨k+1,by omega,by omega,by go_num,hB3,hM3⟩
   case measure=>simp[intOf];omega
  ·have hz:¬(k:Int)<32:=by omega
   obtain rfl:k=32:=by omega
   rw[HE.out]at hrow;have hB23:=hm.objB (fun e=>hne e.symm) hB2;have hM3:Mod NoB w wr:=hM2.transB hm (by omega);clear hm hM2 hB2;go_upto_region 7 with(fail)
   refine wpR [1,1,3] (by rfl) (by rfl) ?_;simp only[stz];refine wpXA 24 b1 0 (qA (cutI n x)) (CellsAt.whole hrow) underlying24 32 hrs trivial ?_;try simp only[nmz]
   refine wpDo rfl ?_
   refine qH 24 _ _ b2 0 (qA (cutI n x)) (by rfl) (by rfl) (by rfl) (qT _) 32 (by kernel_rfl) hrs _ _ hB23 (by rw[hrs,qD];simp) (fun w4 hB4 hm4=>?_)
   rw[qF (by rw[hrs,qD];rfl)]at hB4;simp only[stz];have hM4:Mod NoB w w4:=hM3.transB hm4 (by omega);clear hm4 hM3;go_wp2
   refine bodyPost_ret (xH (P:=prog) (ty:=24) rfl _ _ b2 _ _ _ _ (by rfl) hB4 underlying24 rfl (by rw[hrs];kernel_rfl)) rfl ?_;exact⟨rfl,hM4⟩
theorem refOf_any{own:Bool}{G:Nat->Prop}{v:Value}{m:List UInt8}{w:World}(h:Sl own w G 1 ByteC v m)(hl:m.length<=1000000)(n:Nat)(h1:1<=n)(h2:n<=32):Calls prog 79 #[v,.int .i64 n] w (OfR w n m):=by
 have H:=hid h;obtain⟨ad,cap,rfl,-,-⟩:=Sl.at h;have hsl:(shaL m).length=32:=shaL_len _;have hrs:(qA (ofI n m)).size=32:=by rw[qD,ofI_len h2]
 have HC:=hid (show cutI n (shaL m)=ofI n m from rfl);clear h;go_enter func79,ntmps79;go_upto_region 0 with(fail);refine wpR [1,3] (by rfl) (by rfl) ?_;simp only[stz]
 refine wpDo rfl ?_;refine qR 24 _ (by rfl) idZ (fun w1 hB1 hm1 hs1=>?_);replace hB1:w1.heap[w.heap.size]?=some (.cells (qA (List.replicate 32 0)) 24 (0,0)):=hB1
 simp only[stz];go_upto_region 1 with(fail);refine wpR [3,1,3,1,3,3,1,3] (by rfl) (by rfl) ?_;simp only[stz];refine wpDo rfl ?_
 refine qB (qC 152 [.tmp 6] _ rfl _ func152 rfl (by kernel_rfl) [.slice ad m.length cap] rfl _) (refSum_any (H.out.keep0 hm1) (by omega)) ?_;rintro e w2 ⟨rfl,hm2⟩
 refine⟨_,rfl,?_⟩;simp only[stz];refine wpDo rfl ?_
 refine qB (qC 151 [.tmp 7,.tmp 8] _ rfl _ func151 rfl (by kernel_rfl) [.agg (qA (shaL m)),.int .i64 n] rfl _) (refCut_any (shaL m) hsl n h1 h2 _) ?_
 rintro e w3 ⟨rfl,hm3⟩;rw[HC.out];have hB3:=(hm2.trans0 hm3).obj id hB1;refine⟨_,rfl,?_⟩;try simp only[nmz]
 refine qE (v:=?_) rfl (fun w'=>?_) ?_;rotate_left;·(go_simp;try with_reducible rfl)
 simp only[nmz];refine qE (v:=?_) rfl (fun w'=>?_) ?_;rotate_left;·(go_simp;try with_reducible rfl)
 simp only[nmz];refine wpDo rfl ?_
 refine qH 24 _ _ w.heap.size 0 (qA (ofI n m)) (by rfl) (by rfl) (by rfl) (qT _) 32 (by kernel_rfl) hrs _ _ hB3 (by rw[hrs,qD];simp) (fun w4 hB4 hm4=>?_)
 rw[qF (by rw[hrs,qD];rfl)]at hB4;simp only[stz];have hM4:Mod NoB w w4:=((hm1.trans0 hm2).trans0 hm3).transB hm4 (Nat.le_refl _);clear hm1 hm2 hm3 hm4
 go_wp2;refine bodyPost_ret (xH (P:=prog) (ty:=24) rfl _ _ w.heap.size _ _ _ _ (by rfl) hB4 underlying24 rfl (by rw[hrs];kernel_rfl)) rfl ?_;exact⟨rfl,hM4⟩
def pickZ(x n:Int):Int:=if n<=0 then 0 else x%n
theorem pickZ_lt(x n:Int)(h:0<n):0<=pickZ x n/\pickZ x n<n:=by
 unfold pickZ;rw[if_neg (by omega)];exact⟨Int.emod_nonneg _ (by omega),Int.emod_lt_of_pos _ h⟩
theorem tmod_up(x n:Int)(h:0<n):(if x.tmod n<0 then x.tmod n+n else x.tmod n)=x%n:=by
 have h1:=Int.tmod_lt_of_pos x h;have h2:=Int.lt_tmod_of_pos x h;have h3:x.tmod n=x-n*x.tdiv n:=by have:=Int.mul_tdiv_add_tmod x n;omega
 split
 ·rw[h3,<-Int.emod_eq_of_lt (a:=x-n*x.tdiv n+n) (b:=n) (by omega) (by omega)]
  rw[show x-n*x.tdiv n+n=x+n*(1-x.tdiv n) by rw[Int.mul_sub];omega];rw[Int.add_mul_emod_self_left]
 ·rw[<-Int.emod_eq_of_lt (a:=x.tmod n) (b:=n) (by omega) (by omega),h3]
  rw[show x-n*x.tdiv n=x+n*(-x.tdiv n) by rw[Int.mul_neg];omega];rw[Int.add_mul_emod_self_left]
abbrev I64(x:Int):Prop:=-9223372036854775808<=x/\x<=9223372036854775807
theorem pick_any(x n:Int)(hx:I64 x)(hn:n<=1000000)(w:World):Calls prog 17 #[.int .i64 x,.int .i64 n] w (RetE (.int .i64 (pickZ x n)) w):=by
 obtain⟨hx1,hx2⟩:=hx
 by_cases h0:n<=0
 ·rw[show pickZ x n=0 by simp[pickZ,h0]]
  go_enter func17,ntmps17;go_wp2;go_ret;exact⟨rfl,rfl⟩
 ·have hp:=tmod_up x n (by omega)
  have h1:=Int.tmod_lt_of_pos x (show 0<n by omega);have h2:=Int.lt_tmod_of_pos x (show 0<n by omega);rw[show pickZ x n=x%n by simp[pickZ,h0]];rw[<-hp];clear hp
  go_enter func17,ntmps17;go_wp2
  all_goals
   go_ret;exact⟨rfl,rfl⟩
def RetK(v:Value)(w:World):Ending->World->Prop:=fun e w'=>e=.returned v/\Mod NoB w w'
def widZ(wd:Int):Nat:=(1+pickZ wd 32).toNat
theorem widZ_ok(wd:Int):1<=widZ wd/\widZ wd<=32:=by
 have:=pickZ_lt wd 32 (by omega);unfold widZ;omega
theorem width_any(wd:Int)(hw:I64 wd)(lv kv:Value)(h1:lv.oneCell'=true)(h2:kv.oneCell'=true)(w:World):Calls prog 108 #[.agg #[.int .i64 wd,lv,kv]] w (RetK (.int .i64 (widZ wd:Nat)) w):=by
 have hp:=pickZ_lt wd 32 (by omega);have hz:((widZ wd:Nat):Int)=1+pickZ wd 32:=by unfold widZ;omega
 have HZ:=hid hz;have hpk:=fun w'=>pick_any wd 32 hw (by omega) w';obtain⟨pz,hpz⟩:∃p,pickZ wd 32=p:=⟨_,rfl⟩;rw[hpz]at hp HZ;simp only[hpz]at hpk;clear hz hpz
 go_enter func108,ntmps108;go_upto_region 0 with(fail);refine wpR [1,3] (by rfl) (by rfl) ?_;simp only[stz];refine wpDo rfl ?_
 refine zW 68 _ _ (by rfl) (by rfl) (fun w1 hB1 hm1 hs1=>?_);replace hB1:w1.heap[w.heap.size]?=some (.cells #[.int .i64 wd,lv,kv] 68 (0,0)):=hB1;simp only[stz]
 have hc:w1.cell? ⟨w.heap.size,0+0,none⟩=some (.int .i64 wd):=by simp[World.cell?,hB1]
 go_upto_region 1 with(fail);refine wpR [3,1,1,3,3] (by rfl) (by rfl) ?_;simp only[stz];refine wpXd 3 w.heap.size (0+0) hc underlying3 trivial ?_;try simp only[nmz]
 refine wpDo rfl ?_;refine qB (qC 17 [.tmp 4,.const (.int .i64 32)] _ rfl _ func17 rfl (by kernel_rfl) [.int .i64 wd,.int .i64 32] rfl _) (hpk _) ?_
 rintro e w2 ⟨rfl,hw2⟩;obtain rfl:=hw2.symm;refine⟨_,rfl,?_⟩;try simp only[nmz]
 refine zR _ _ _ _ 1 pz (1+pz) rfl rfl rfl rfl rfl (by omega) (by omega) ?_;simp only[stz];clear hB1 hc;go_wp2;go_ret;exact⟨by rw[HZ.out];rfl,hm1⟩
def repoZ(n:Int):ByteArray:=[(⟨#[97]⟩:ByteArray),⟨#[98,47,99]⟩,⟨#[100]⟩].getD (pickZ n 3).toNat ⟨#[]⟩
theorem str_zs:(prog.info? 9).map (fun i=>(i.zero,i.size))=some (some (.string ⟨#[]⟩),1):=by kernel_rfl
theorem repo_any(n:Int)(hn:I64 n)(w:World):Calls prog 69 #[.int .i64 n] w (RetK (.string (repoZ n)) w):=by
 have hp:=pickZ_lt n 3 (by omega);have hpk:=fun w'=>pick_any n 3 hn (by omega) w';obtain⟨k,hk⟩:∃k:Nat,pickZ n 3=k:=⟨(pickZ n 3).toNat,by omega⟩
 have hr:repoZ n=[(⟨#[97]⟩:ByteArray),⟨#[98,47,99]⟩,⟨#[100]⟩].getD k ⟨#[]⟩:=by unfold repoZ;rw[hk];rfl
 rw[hk]at hp;simp only[hk]at hpk;rw[hr];have hk3:k<3:=by omega
 clear hr hk hp;go_enter func69,ntmps69;go_upto_region 1 with(fail);refine wpR [1,3,1,3,1,3] (by rfl) (by rfl) ?_;simp only[stz];refine wpDo rfl ?_
 refine xP 127 9 3 [(0,_),(1,_),(2,_)] [.string ⟨#[97]⟩,.string ⟨#[98,47,99]⟩,.string ⟨#[100]⟩] (.string ⟨#[]⟩) 1 (by rfl) (by rfl) (by rfl) underlying127 str_zs (by omega) (by omega) (by simp[Value.cells]) (fun w1 hB1 hm1 hs1=>?_)
 have hc:w1.cell? ⟨w.heap.size,k*1,none⟩=some (.string ([(⟨#[97]⟩:ByteArray),⟨#[98,47,99]⟩,⟨#[100]⟩].getD k ⟨#[]⟩)):=by
  rcases(show k=0\/k=1\/k=2 by omega)with rfl|rfl|rfl<;>simp[World.cell?,hB1,Value.cells]
 generalize w.heap.size=b1 at*;simp only[stz];refine wpDo rfl ?_
 refine qB (qC 17 [.tmp 4,.const (.int .i64 3)] _ rfl _ func17 rfl (by kernel_rfl) [.int .i64 n,.int .i64 3] rfl _) (hpk _) ?_;rintro e w2 ⟨rfl,hw2⟩
 obtain rfl:=hw2.symm;refine⟨_,rfl,?_⟩;try simp only[nmz]
 refine qQ _ _ _ _ _ _ _ _ _ rfl rfl rfl rfl underlying127 (n:=1) (by kernel_rfl) hk3 ?_;simp only[nmz];refine wpXd 9 b1 (k*1) hc underlying9 trivial ?_;simp only[stz]
 clear hB1 hc;go_wp2;go_ret;exact⟨rfl,hm1⟩
section
variable{w w':World}{h:House}{c c':BlobL}{l l':LinkL}{Ft:Nat->Prop}
theorem HsAt.put(H:HsAt w h c l Ft){own:Bool}{G:Nat->Prop}{v:Value}{m:List UInt8}(hv:Sl own w G 1 ByteC v m)(hm:m.length<=4096)(hroom:h.room=67108864)(hfew:c.length<10000):
 Calls prog 37 #[.pointer (some ⟨h.bs,0,Option.none⟩),.agg (qA (ofI h.wd m)),v] w (fun e w'=>(∃v,e=.returned v)/\HStep w h Ft w' (putB (ofI h.wd m) m c) l):=by
 obtain⟨bl,F,h1,rfl,h3,h4,h5,h6,h7⟩:=H;have hu:=h1.used;refine(bPut_any h1 hv hm (by omega) (by simpa[cont]using hfew)).mono ?_
 rintro e w' ⟨⟨ok,er,rfl⟩,bl',k1,k2,k3,k4⟩;have hF:∀k,F k->¬(k=h.bs\/k=h.ms):=fun k hk e=>h4 k (e.elim (fun e=>.inl e) (fun e=>.inr (.inl e))) hk
 refine⟨⟨_,rfl⟩,fun k=>Ft k\/New w w' k,⟨bl',F,k1,k2,(h3.keep k3 hF (fun k hk=>by simp[emptyW]at hk)).bare,fun k hk hf=>?_,fun k hk=>(k4 k hk).imp (h5 k) id,fun k hk=>.inl (h6 k hk),fun k hk=>hk.elim (fun hk=>Nat.lt_of_lt_of_le (h7 k hk) k3.size) (fun hk=>hk.2)⟩,k3.mono (fun k _ e=>h5 k (e.elim (fun e=>.inl e) (fun e=>.inr (.inl e)))),fun k hk=>hk⟩
 rcases k4 k hk with hk|hk
 ·exact h4 k hk hf
 ·have:=h3.lt k hf
  have:=hk.1;omega
theorem HsAt.lay(H:HsAt w h c l Ft)(k:Key)(hk:KeyOk k)(hsz:k.1.size<=maxLen)(size:Int):
 Calls prog 110 #[h.q,.string k.1,.agg (qA k.2),.int .i64 size] w (fun e w'=>(∃v,e=.returned v)/\HStep w h Ft w' c (addL false h.limit l k size)):=by
 obtain⟨bl,F,h1,rfl,h3,h4,h5,h6,h7⟩:=H;refine(lay_at h3 k hk hsz size).mono ?_;rintro e w' ⟨rfl,F',k1,k2,k3⟩
 refine⟨⟨_,rfl⟩,fun k=>Ft k\/New w w' k,⟨bl,F',h1.keep k2 (fun k hk hf=>h4 k hk hf),rfl,k1.bare,fun k hk hf=>?_,fun k hk=>.inl (h5 k hk),fun k hk=>(k3 k hk).imp (h6 k) id,fun k hk=>hk.elim (fun hk=>Nat.lt_of_lt_of_le (h7 k hk) k2.size) (fun hk=>hk.2)⟩,k2.mono (fun k _ e=>h6 k e),fun k hk=>hk⟩
 rcases k3 k hf with hf|hf
 ·exact h4 k hk hf
 ·have:=h1.lt k hk
  have:=hf.1;omega
theorem putB_len(di m:List UInt8)(c:BlobL):(putB di m c).length<=c.length+1:=by
 unfold putB
 split<;>simp
end
def BtsC(w:World)(cs:Array Value)(b:List UInt8):Prop:=∃v,cs=#[v]/\Sl false w AnyB 1 ByteC v b
theorem BtsC.keep0{w w':World}{cs:Array Value}{b:List UInt8}(h:BtsC w cs b)(hm:Mod NoB w w'):BtsC w' cs b:=by
 obtain⟨v,h1,h2⟩:=h;exact⟨v,h1,h2.keep0 hm⟩
abbrev LsAt(w:World)(v:Value)(L:List (List UInt8)):Prop:=Sl false w AnyB 1 (BtsC w) v L
theorem jD{w w':World}{v:Value}{L:List (List UInt8)}(h:LsAt w v L)(hm:Mod NoB w w'):LsAt w' v L:=h.keep hm (fun _ _=>id) (fun _ _ h=>h.keep0 hm)
def cOf(wd:Nat)(L:List (List UInt8)):BlobL:=L.foldl (fun c b=>putB (ofI wd b) b c) []
theorem cOf_snoc(wd:Nat)(L:List (List UInt8))(k:Nat)(hk:k<L.length):cOf wd (L.take (k+1))=putB (ofI wd L[k]) L[k] (cOf wd (L.take k)):=by
 unfold cOf;rw[List.take_succ_eq_append_getElem hk,List.foldl_append]
 rfl
theorem cOf_len(wd:Nat):∀(L:List (List UInt8))(c:BlobL),(L.foldl (fun c b=>putB (ofI wd b) b c) c).length<=c.length+L.length
 | [],c=>by simp
 |b::L,c=>by
  have h1:=cOf_len wd L (putB (ofI wd b) b c);have h2:=putB_len (ofI wd b) b c;simp only[List.foldl_cons,List.length_cons];omega
def layZ(wd:Nat)(L:List (List UInt8))(l:LinkL)(a b:Int):LinkL:=
 let m:=L.getD (pickZ b L.length).toNat []
 addL false 1099511627776 l (repoZ a,ofI wd m) m.length
def lOf(wd:Nat)(L:List (List UInt8))(K:List Int)(j:Nat):LinkL:=(List.range j).foldl (fun l i=>layZ wd L l (K.getD (2*i) 0) (K.getD (2*i+1) 0)) []
theorem lOf_snoc(wd:Nat)(L:List (List UInt8))(K:List Int)(j:Nat):lOf wd L K (j+1)=layZ wd L (lOf wd L K j) (K.getD (2*j) 0) (K.getD (2*j+1) 0):=by
 unfold lOf;rw[List.range_succ,List.foldl_append]
 rfl
def laysN(L:List (List UInt8))(K:List Int):Nat:=if L=[]then 0 else K.length/2
def HsNew(w0 w:World)(h:House)(c:BlobL)(l:LinkL):Prop:=∃Ft,HsAt w h c l Ft/\(∀k,Ft k->w0.heap.size<=k)/\Mod NoB w0 w
theorem HsNew.step{w0 w w':World}{h:House}{c':BlobL}{l':LinkL}{Ft:Nat->Prop}(hn:∀k,Ft k->w0.heap.size<=k)(hm:Mod NoB w0 w)(hs:HStep w h Ft w' c' l'):HsNew w0 w' h c' l':=by
 obtain⟨F',h1,h2,h3⟩:=hs;exact⟨F',h1,fun k hk=>(h3 k hk).elim (hn k) (fun h=>Nat.le_trans hm.size h.1),hm.trans h2 (fun k hk hf=>by have:=hn k hf;omega)⟩
def BuildR(w:World)(wd:Nat)(L:List (List UInt8))(K:List Int):Ending->World->Prop:=fun e w'=>
 ∃h:House,h.wd=wd/\h.room=67108864/\h.limit=1099511627776/\(∃b,h.q=.pointer (some ⟨b,0,none⟩))/\e=.returned (.tuple #[.pointer (some ⟨h.bs,0,none⟩),h.q])/\HsNew w w' h (cOf wd L) (lOf wd L K (laysN L K))
def BldRel1(w0 w1:World)(h:House)(wd:Nat)(L:List (List UInt8))(i:Value)(w:World):Prop:=∃k:Nat,k<=L.length/\i=.int .i64 k/\HsNew w1 w h (cOf wd (L.take k)) []
def BldRel2(w0 w1:World)(h:House)(wd:Nat)(L:List (List UInt8))(K:List Int)(i:Value)(w:World):Prop:=∃j n:Nat,n=2*j/\j<=laysN L K/\i=.int .i64 (n:Nat)/\HsNew w1 w h (cOf wd L) (lOf wd L K j)
theorem repoZ_size(n:Int):(repoZ n).size<=maxLen:=by
 have h:∀k:Nat,([(⟨#[97]⟩:ByteArray),⟨#[98,47,99]⟩,⟨#[100]⟩].getD k ⟨#[]⟩).size<=3:=by
  intro k
  rcases k with _|_|_|k<;>simp[ByteArray.size]
 exact Nat.le_trans (h _) (by unfold maxLen;omega)
theorem laysN_lt{L:List (List UInt8)}{K:List Int}{j n:Nat}(hn:n=2*j)(hlt:n+1<K.length)(hL:0<L.length):j+1<=laysN L K:=by
 unfold laysN;rw[if_neg (fun e=>by rw[e]at hL;simp at hL)];omega
theorem sl_lt{α:Type}{own:Bool}{w:World}{G:Nat->Prop}{R:Array Value->α->Prop}{b off n cap:Nat}{l:List α}(h:Sl own w G 1 R (.slice (some ⟨b,off,none⟩) n cap) l){i:Nat}(hi:i<l.length):b<w.heap.size:=by
 obtain⟨a,c,e,_,_,h2⟩:=h;injection e with e1 e2 e3;obtain⟨b',off',e4,_,_,hc⟩:=h2 (fun e=>by rw[e]at hi;simp at hi);rw[<-e1]at e4;injection e4 with e4
 injection e4 with e5 e6 e7;obtain⟨cs,hs,_,hcs⟩:=hc i hi;have h0:=hcs 0 (by omega);rw[Array.getElem?_eq_getElem (by omega)]at h0;have:=block_lt_of_cell h0;rw[e5]
 exact this
def IdBox(w0:World)(x:List UInt8)(s:Value)(w:World):Prop:=∃b,s=.pointer (some ⟨b,0,none⟩)/\w0.heap.size<=b/\w.heap[b]?=some (.cells (qA x) 24 (0,0))/\Mod NoB w0 w
theorem built_any{w:World}{wd:Int}(hwd:I64 wd){lv kv:Value}{L:List (List UInt8)}{KK:List Int}(hlv:LsAt w lv L)(hkv:Sl false w AnyB 1 IntC kv KK)(hL:L.length<=1000)(hL2:∀b∈L,b.length<=4096)(hkl:KK.length<=1000)(hK2:∀x∈KK,I64 x):
 Calls prog 43 #[.agg #[.int .i64 wd,lv,kv]] w (BuildR w (widZ wd) L KK):=by
 have hwz:=widZ_ok wd;have hwid:=fun w'=>width_any wd hwd lv kv (Sl.one hlv) (Sl.one hkv) w';have hl1:=Sl.one hlv;have hk1:=Sl.one hkv
 obtain⟨lad,lcap,hle,-,-⟩:=Sl.at hlv;obtain⟨kad,kcap,hke,-,-⟩:=Sl.at hkv;have HLV:=hid hlv;have HKV:=hid hkv;clear hlv hkv;rw[hle]at HLV hwid hl1
 rw[hke]at HKV hwid hk1;subst hle hke;generalize hwn:widZ wd=wn at*;clear hwn;go_enter func43,ntmps43;go_upto_region 0 with(fail);refine wpR [1,3,3] (by rfl) (by rfl) ?_
 simp only[stz];refine wpDo rfl ?_;refine zW 68 _ _ (by rfl) (by rfl) (fun w1 hB1 hm1 hs1=>?_)
 replace hB1:w1.heap[w.heap.size]?=some (.cells #[.int .i64 wd,.slice lad L.length lcap,.slice kad KK.length kcap] 68 (0,0)):=hB1;simp only[stz]
 have HLV1:=hid (jD HLV.out hm1);have HKV1:=hid (HKV.out.keep0 hm1)
 have hcH:CellsAt w1 w.heap.size 0 #[.int .i64 wd,.slice lad L.length lcap,.slice kad KK.length kcap]:=CellsAt.whole hB1
 have hnew:=fun w'=>bNew_any (wn:Int) 67108864 (by omega) (by omega) w';go_upto_region 1 with(fail);refine wpR [1,1,1,3,3,3,3,3] (by rfl) (by rfl) ?_;simp only[stz]
 refine wpXA 68 w.heap.size 0 #[.int .i64 wd,.slice lad L.length lcap,.slice kad KK.length kcap] hcH underlying68 3 rfl trivial ?_;try simp only[nmz]
 refine wpDo rfl ?_
 refine qB (qC 108 [.tmp 16] _ rfl _ func108 rfl (by kernel_rfl) [.agg #[.int .i64 wd,.slice lad L.length lcap,.slice kad KK.length kcap]] rfl _) (hwid _) ?_
 rintro e w2 ⟨rfl,hm2⟩;refine⟨_,rfl,?_⟩;try simp only[nmz]
 refine wpDo rfl ?_
 refine qB (qC 78 [.tmp 17,.const (.int .i64 67108864)] _ rfl _ func78 rfl (by kernel_rfl) [.int .i64 (wn:Nat),.int .i64 67108864] rfl _) (hnew _) ?_
 rintro e w3 ⟨bs,ms,rfl,hst3,hm3,hsf3⟩;refine⟨_,rfl,?_⟩;simp only[stz]
 refine qE rfl (fun w'=>qL _ 0 #[.pointer (some ⟨bs,0,none⟩),.int .i64 0] rfl rfl (.pointer (some ⟨bs,0,none⟩)) rfl) ?_;simp only[nmz]
 refine qE rfl (fun w'=>qL _ 1 #[.pointer (some ⟨bs,0,none⟩),.int .i64 0] rfl rfl (.int .i64 0) rfl) ?_;simp only[stz]
 rw[show((wn:Nat):Int).toNat=wn from by simp]at hst3;have hqn:=new_at 1099511627776 w3 (by omega) w3 (Mod.refl _ _);go_upto_region 2 with(fail)
 refine wpR [1,3,3,3,3,3] (by rfl) (by rfl) ?_;simp only[stz];refine wpDo rfl ?_
 refine qB (qC 109 [.const (.int .i64 1099511627776)] _ rfl _ func109 rfl (by kernel_rfl) [.int .i64 1099511627776] rfl _) (hqn) ?_
 rintro e w4 ⟨qb,F,rfl,hlk4,hm4,hF4⟩;refine⟨_,rfl,?_⟩;simp only[stz]
 refine qE rfl (fun w'=>qL _ 0 #[.pointer (some ⟨qb,0,none⟩),.int .i64 0] rfl rfl (.pointer (some ⟨qb,0,none⟩)) rfl) ?_;simp only[nmz]
 refine qE rfl (fun w'=>qL _ 1 #[.pointer (some ⟨qb,0,none⟩),.int .i64 0] rfl rfl (.int .i64 0) rfl) ?_;simp only[stz]
 have hm14:=hm2.trans0 (hm3.trans0 hm4);obtain⟨h,hh⟩:∃h:House,h=⟨bs,ms,wn,67108864,.pointer (some ⟨qb,0,none⟩),1099511627776⟩:=⟨_,rfl⟩
 have hhb:h.bs=bs:=by rw[hh]
 have hhw:h.wd=wn:=by rw[hh]
 have hhr:h.room=67108864:=by rw[hh]
 have hhq:h.q=.pointer (some ⟨qb,0,none⟩):=by rw[hh]
 have hhl:h.limit=1099511627776:=by rw[hh]
 have hH0:HsNew w1 w4 h (cOf wn (L.take 0)) []:=by
  refine⟨fun k=>SFoot bs ms [] k\/F k,?_,fun k hk=>?_,hm14⟩
  ·rw[hh]
   refine⟨[],F,hst3.keep0 hm4,rfl,hlk4.bare,fun k hk hf=>?_,fun k hk=>.inl hk,fun k hk=>.inr hk,fun k hk=>hk.elim (fun hk=>Nat.lt_of_lt_of_le (hsf3 k hk).2 hm4.size) (fun hk=>hlk4.lt k hk)⟩
   have h1:=(hsf3 k hk).2;have h2:=hF4 k hf;omega
  ·have h3:=hm2.size
   have h4:=hm3.size
   rcases hk with hk|hk
   ·have:=(hsf3 k hk).1
    omega
   ·have:=hF4 k hk
    omega
 have HR0:Hid (BldRel1 w w1 h wn L (.int .i64 (0:Nat)) w4):=hid ⟨0,Nat.zero_le _,rfl,hH0⟩;have hbH:=hB1;clear hH0 hh hst3 hm3 hsf3 hqn hlk4 hm4 hF4 hm2 hcH hnew hB1 hm14
 have hs1':w.heap.size<w1.heap.size:=hs1;generalize hhb2:w.heap.size=hb at*;go_wp2
 go_loopw [8] (BldRel1 w w1 h wn L) (fun i _=>L.length-(intOf i).toNat)
 case atStart=>exact HR0.out
 case round=>
  rename World=>wr
  obtain⟨k,hk,rfl,hns⟩:=hrel;obtain⟨Ft,hat,hFn,hmr⟩:=hns;have hbr:=hmr.obj id hbH
  have hcl:wr.cell? ⟨hb,1,none⟩=some (.slice lad L.length lcap):=by simp[World.cell?,hbr]
  have hcl0:wr.cell? ⟨hb,0+1,none⟩=some (.slice lad L.length lcap):=hcl
  by_cases hlt:k<L.length
  ·have hz:(k:Int)<(L.length:Nat):=by omega
   obtain⟨_,_,hae,-,hatL⟩:=(jD HLV1.out hmr).at;injection hae with hae1 hae2 hae3;subst hae1 hae3;obtain⟨b,off,rfl,-,-,hcc⟩:=hatL k hlt
   obtain⟨cs,-,⟨vk,rfl,hvk⟩,hcA⟩:=hcc k hlt;have hck:=CellsAt.one.1 hcA;have hbw:b<w1.heap.size:=sl_lt HLV1.out hlt;have hmk:=hL2 _ (List.getElem_mem hlt)
   have hsn:=cOf_snoc wn L k hlt;have hcn:(cOf wn (L.take k)).length<=1000:=Nat.le_trans (cOf_len wn (L.take k) []) (by simp;omega);generalize L[k]=m at*
   obtain⟨va,vc,hve,-,-⟩:=Sl.at hvk;have HVK:=hid hvk;rw[hve]at HVK hck;have HSN:=hid hsn
   have hrc:CellsAt wr hb 0 #[.int .i64 wd,.slice (some ⟨b,off,none⟩) L.length lcap,.slice kad KK.length kcap]:=CellsAt.whole hbr
   have href:=fun w' (hm:Mod NoB wr w')=>refOf_any (HVK.out.keep0 hm) (by omega) wn hwz.1 hwz.2;have hdi:(ofI wn m).length=32:=ofI_len hwz.2
   have hic:(qA (ofI wn m)).size=32:=by rw[qD,hdi]
   clear hsn hatL hcc hcA hae2 hve hvk;go_upto_region 8 with(fail)
   go_cut [9] (fun s wx=>IdBox wr (ofI wn m) s wx)
   case first=>
    have hS:Mod NoB wr wr.drew:=(Mod.refl _ _).drew;have hT:Mod NoB wr wr.drew:=(Mod.refl _ _).drew
    refine jN [(0,3),(1,0),(2,3),(3,3),(4,0),(5,0)] 7 [(13,3)] [] (fun w'=>Mod NoB wr w') #[true,true,true,true,true,true,false,false,false,false,false,false,false,false] (by kernel_rfl) (by kernel_rfl) (by kernel_rfl) (by kernel_rfl) (by kernel_rfl) (fun _ _ _ _ hd h=>⟨hd.trans h.1,h.2⟩) hS ?_
    simp only[stz];refine wpLd 22 hb (0+1) (fun w' hS=>hS.cell id hcl0) underlying22 ?_;simp only[stz]
    refine qQ _ _ _ _ _ _ _ _ _ rfl rfl rfl rfl underlying22 (n:=1) (by kernel_rfl) hlt ?_;simp only[nmz]
    refine wpLd 53 b (off+k*1) (fun w' hS=>hS.cell id hck) underlying53 ?_;simp only[nmz]
    refine wpLA 68 hb 0 #[.int .i64 wd,.slice (some ⟨b,off,none⟩) L.length lcap,.slice kad KK.length kcap] (fun w' hS=>hrc.keep hS id) underlying68 3 rfl ?_;simp only[stz]
    refine zJ [6,11] (by kernel_rfl) ?_;simp only[zz3,false_implies,implies_true];refine⟨?_,?_⟩
    ·intro K hK
     simp only[zz5]
     refine qB (qC 108 [.tmp 52] _ rfl _ func108 rfl (by kernel_rfl) [.agg #[.int .i64 wd,.slice (some ⟨b,off,none⟩) L.length lcap,.slice kad KK.length kcap]] rfl _) (hwid _) ?_
     rintro e w5 ⟨rfl,hm5⟩
     try replace hB4:=hm5.obj id hB4
     replace hT:=hT.trans0 hm5;clear hm5;refine⟨_,rfl,hK _ _ hT ?_⟩;clear hK K;try simp only[nmz]
     refine zJ [7,11] (by kernel_rfl) ?_;simp only[zz3,false_implies,implies_true];refine⟨?_,?_⟩
     ·intro K hK
      simp only[zz5];refine qB (qC 79 [.tmp 51,.tmp 53] _ rfl _ func79 rfl (by kernel_rfl) [.slice va m.length vc,.int .i64 (wn:Nat)] rfl _) (href _ hT) ?_
      rintro e w6 ⟨rfl,hm6⟩
      try replace hB4:=hm6.obj id hB4
      replace hT:=hT.trans0 hm6;clear hm6;refine⟨_,rfl,hK _ _ hT ?_⟩;clear hK K;try simp only[nmz]
      refine xC 8 (.tuple #[.agg (qA (ofI wn m)),.int .i64 0]) (by kernel_rfl) (fun _ _ _ _ hd h=>⟨hd.trans h.1,h.2⟩) (fun w'=>by simp only[zz5];exact exec_moveV _ rfl (.tuple #[.agg (qA (ofI wn m)),.int .i64 0]) rfl) hT ?_
      simp only[zz5];try simp only[nmz]
      refine xC 9 (.agg (qA (ofI wn m))) (by kernel_rfl) (fun _ _ _ _ hd h=>⟨hd.trans h.1,h.2⟩) (fun w'=>by simp only[zz5];exact qL _ 0 #[.agg (qA (ofI wn m)),.int .i64 0] rfl rfl (.agg (qA (ofI wn m))) rfl) hT ?_
      simp only[zz5];try simp only[nmz]
      refine xC 10 (.int .i64 0) (by kernel_rfl) (fun _ _ _ _ hd h=>⟨hd.trans h.1,h.2⟩) (fun w'=>by simp only[zz5];exact qL _ 1 #[.agg (qA (ofI wn m)),.int .i64 0] rfl rfl (.int .i64 0) rfl) hT ?_
      simp only[zz5];try simp only[nmz]
      refine zJ [11] (by kernel_rfl) ?_;simp only[zz3,false_implies,implies_true];intro K hK;simp only[zz5]
      refine wp_allocAt 24 _ (by rfl) idZ (fun b9 w7 hbe hB4 hm7 hs7=>?_);replace hB4:w7.heap[b9]?=some (.cells (qA (List.replicate 32 0)) 24 (0,0)):=hB4
      have hbn:wr.heap.size<=b9:=by rw[hbe];exact hT.size
      replace hT:=hT.trans0 hm7;clear hm7 hbe hs7;refine hK _ _ hT ?_;clear hK K;try simp only[nmz]
      refine zJ [12] (by kernel_rfl) ?_;simp only[zz3,false_implies,implies_true];intro K hK;simp only[zz5]
      refine qH 24 _ _ b9 0 (qA (ofI wn m)) (by rfl) (by rfl) (by rfl) (qT _) 32 (by kernel_rfl) hic _ _ hB4 (by rw[hic,qD];simp) (fun w8 hB8 hm8=>?_)
      rw[qF (by rw[hic,qD];rfl)]at hB8;replace hT:Mod NoB wr w8:=hT.transB hm8 hbn;clear hB4 hm8;have hB4:=hB8;clear hB8;refine hK _ _ hT ?_
      clear hK K;try simp only[nmz]
      refine xZ ?_;try simp only[zz4]
      simp only[stz];go_wp2
      go_meet
      case rel=>exact⟨b9,rfl,hbn,hB4,hT⟩
     ·intro K hK
      simp only[zz5];refine wp_allocAt 24 _ (by rfl) idZ (fun b9 w7 hbe hB4 hm7 hs7=>?_)
      replace hB4:w7.heap[b9]?=some (.cells (qA (List.replicate 32 0)) 24 (0,0)):=hB4;have hbn:wr.heap.size<=b9:=by rw[hbe];exact hT.size
      replace hT:=hT.trans0 hm7;clear hm7 hbe hs7;refine hK _ _ hT ?_;clear hK K;try simp only[nmz]
      refine zJ [7] (by kernel_rfl) ?_;simp only[zz3,false_implies,implies_true];intro K hK;simp only[zz5]
      refine qB (qC 79 [.tmp 51,.tmp 53] _ rfl _ func79 rfl (by kernel_rfl) [.slice va m.length vc,.int .i64 (wn:Nat)] rfl _) (href _ hT) ?_
      rintro e w6 ⟨rfl,hm6⟩
      try replace hB4:=hm6.obj id hB4
      replace hT:=hT.trans0 hm6;clear hm6;refine⟨_,rfl,hK _ _ hT ?_⟩;clear hK K;try simp only[nmz]
      refine xC 8 (.tuple #[.agg (qA (ofI wn m)),.int .i64 0]) (by kernel_rfl) (fun _ _ _ _ hd h=>⟨hd.trans h.1,h.2⟩) (fun w'=>by simp only[zz5];exact exec_moveV _ rfl (.tuple #[.agg (qA (ofI wn m)),.int .i64 0]) rfl) hT ?_
      simp only[zz5];try simp only[nmz]
      refine xC 9 (.agg (qA (ofI wn m))) (by kernel_rfl) (fun _ _ _ _ hd h=>⟨hd.trans h.1,h.2⟩) (fun w'=>by simp only[zz5];exact qL _ 0 #[.agg (qA (ofI wn m)),.int .i64 0] rfl rfl (.agg (qA (ofI wn m))) rfl) hT ?_
      simp only[zz5];try simp only[nmz]
      refine xC 10 (.int .i64 0) (by kernel_rfl) (fun _ _ _ _ hd h=>⟨hd.trans h.1,h.2⟩) (fun w'=>by simp only[zz5];exact qL _ 1 #[.agg (qA (ofI wn m)),.int .i64 0] rfl rfl (.int .i64 0) rfl) hT ?_
      simp only[zz5];try simp only[nmz]
      refine zJ [12] (by kernel_rfl) ?_;simp only[zz3,false_implies,implies_true];intro K hK;simp only[zz5]
      refine qH 24 _ _ b9 0 (qA (ofI wn m)) (by rfl) (by rfl) (by rfl) (qT _) 32 (by kernel_rfl) hic _ _ hB4 (by rw[hic,qD];simp) (fun w8 hB8 hm8=>?_)
      rw[qF (by rw[hic,qD];rfl)]at hB8;replace hT:Mod NoB wr w8:=hT.transB hm8 hbn;clear hB4 hm8;have hB4:=hB8;clear hB8;refine hK _ _ hT ?_
      clear hK K;try simp only[nmz]
      refine xZ ?_;try simp only[zz4]
      simp only[stz];go_wp2
      go_meet
      case rel=>exact⟨b9,rfl,hbn,hB4,hT⟩
    ·intro K hK
     simp only[zz5];refine wp_allocAt 24 _ (by rfl) idZ (fun b9 w7 hbe hB4 hm7 hs7=>?_)
     replace hB4:w7.heap[b9]?=some (.cells (qA (List.replicate 32 0)) 24 (0,0)):=hB4;have hbn:wr.heap.size<=b9:=by rw[hbe];exact hT.size
     replace hT:=hT.trans0 hm7;clear hm7 hbe hs7;refine hK _ _ hT ?_;clear hK K;try simp only[nmz]
     refine zJ [6] (by kernel_rfl) ?_;simp only[zz3,false_implies,implies_true];intro K hK;simp only[zz5]
     refine qB (qC 108 [.tmp 52] _ rfl _ func108 rfl (by kernel_rfl) [.agg #[.int .i64 wd,.slice (some ⟨b,off,none⟩) L.length lcap,.slice kad KK.length kcap]] rfl _) (hwid _) ?_
     rintro e w5 ⟨rfl,hm5⟩
     try replace hB4:=hm5.obj id hB4
     replace hT:=hT.trans0 hm5;clear hm5;refine⟨_,rfl,hK _ _ hT ?_⟩;clear hK K;try simp only[nmz]
     refine zJ [7] (by kernel_rfl) ?_;simp only[zz3,false_implies,implies_true];intro K hK;simp only[zz5]
     refine qB (qC 79 [.tmp 51,.tmp 53] _ rfl _ func79 rfl (by kernel_rfl) [.slice va m.length vc,.int .i64 (wn:Nat)] rfl _) (href _ hT) ?_;rintro e w6 ⟨rfl,hm6⟩
     try replace hB4:=hm6.obj id hB4
     replace hT:=hT.trans0 hm6;clear hm6;refine⟨_,rfl,hK _ _ hT ?_⟩;clear hK K;try simp only[nmz]
     refine xC 8 (.tuple #[.agg (qA (ofI wn m)),.int .i64 0]) (by kernel_rfl) (fun _ _ _ _ hd h=>⟨hd.trans h.1,h.2⟩) (fun w'=>by simp only[zz5];exact exec_moveV _ rfl (.tuple #[.agg (qA (ofI wn m)),.int .i64 0]) rfl) hT ?_
     simp only[zz5];try simp only[nmz]
     refine xC 9 (.agg (qA (ofI wn m))) (by kernel_rfl) (fun _ _ _ _ hd h=>⟨hd.trans h.1,h.2⟩) (fun w'=>by simp only[zz5];exact qL _ 0 #[.agg (qA (ofI wn m)),.int .i64 0] rfl rfl (.agg (qA (ofI wn m))) rfl) hT ?_
     simp only[zz5];try simp only[nmz]
     refine xC 10 (.int .i64 0) (by kernel_rfl) (fun _ _ _ _ hd h=>⟨hd.trans h.1,h.2⟩) (fun w'=>by simp only[zz5];exact qL _ 1 #[.agg (qA (ofI wn m)),.int .i64 0] rfl rfl (.int .i64 0) rfl) hT ?_
     simp only[zz5];try simp only[nmz]
     refine zJ [12] (by kernel_rfl) ?_;simp only[zz3,false_implies,implies_true];intro K hK;simp only[zz5]
     refine qH 24 _ _ b9 0 (qA (ofI wn m)) (by rfl) (by rfl) (by rfl) (qT _) 32 (by kernel_rfl) hic _ _ hB4 (by rw[hic,qD];simp) (fun w8 hB8 hm8=>?_)
     rw[qF (by rw[hic,qD];rfl)]at hB8;replace hT:Mod NoB wr w8:=hT.transB hm8 hbn;clear hB4 hm8;have hB4:=hB8;clear hB8;refine hK _ _ hT ?_
     clear hK K;try simp only[nmz]
     refine xZ ?_;try simp only[zz4]
     simp only[stz];go_wp2
     go_meet
     case rel=>exact⟨b9,rfl,hbn,hB4,hT⟩
   case rest=>
    rename World=>w8
    obtain⟨ib,rfl,hib,hB8,hS8⟩:=hcut;have hib8:ib<w8.heap.size:=(Array.getElem?_eq_some_iff.1 hB8).1;have hat8:=hat.keep0 hS8;have hlt8:=hat.lt
    have hput:=fun(w':World)(hm:Mod NoB w8 w')=>(hat8.keep0 hm).put (HVK.out.keep0 (hS8.trans0 hm)) hmk hhr (by omega);rw[hhb]at hput;rw[hhw]at hput
    have hcl8:=hS8.cell id hcl0;have hck8:=hS8.cell id hck;have hci8:CellsAt w8 ib 0 (qA (ofI wn m)):=CellsAt.whole hB8;have hm18:=hmr.trans0 hS8
    clear href hrc hbr hcl hcl0 hck hB8;go_upto_region 9 with(fail);have hnF:¬Ft ib:=fun e=>by have:=hlt8 _ e;omega
    have hS:CellsAt w8.drew ib 0 (qA (ofI wn m))/\w8.drew.cell? ⟨hb,0+1,none⟩=some (.slice (some ⟨b,off,none⟩) L.length lcap)/\w8.drew.cell? ⟨b,off+k*1,none⟩=some (.slice va m.length vc)/\Mod Ft w8 w8.drew:=⟨hci8,hcl8,hck8,(Mod.refl _ _).drew⟩
    have hfin:=hput w8.drew ((Mod.refl _ _).drew);have hhb1:hb<w1.heap.size:=hs1';have hb1:b<w1.heap.size:=hbw
    have hnH:¬Ft hb:=fun e=>by have:=hFn _ e;omega
    have hnb:¬Ft b:=fun e=>by have:=hFn _ e;omega
    refine wpRP [(0,3),(1,0),(2,3),(3,0),(4,3),(5,3),(6,0),(7,1)] [] (fun w'=>CellsAt w' ib 0 (qA (ofI wn m))/\w'.cell? ⟨hb,0+1,none⟩=some (.slice (some ⟨b,off,none⟩) L.length lcap)/\w'.cell? ⟨b,off+k*1,none⟩=some (.slice va m.length vc)/\Mod Ft w8 w') hS ?_
    simp only[stz];refine wpLA 24 ib 0 (qA (ofI wn m)) (fun w' hS=>hS.1) underlying24 32 hic ?_;simp only[stz]
    refine wpLd 22 hb (0+1) (fun w' hS=>hS.2.1) underlying22 ?_;simp only[stz];refine qQ _ _ _ _ _ _ _ _ _ rfl rfl rfl rfl underlying22 (n:=1) (by kernel_rfl) hlt ?_
    simp only[nmz];refine wpLd 53 b (off+k*1) (fun w' hS=>hS.2.2.1) underlying53 ?_;simp only[nmz];refine qN rfl (fun K hK=>?_)
    refine qB (qC 37 [.tmp 57,.tmp 58,.tmp 63] _ rfl _ func37 rfl (by kernel_rfl) [.pointer (some ⟨bs,0,none⟩),.agg (qA (ofI wn m)),.slice va m.length vc] rfl _) (hfin) ?_
    rintro e w9 ⟨⟨v9,rfl⟩,hst9⟩;have hmd:Mod Ft w8.drew w9:=by obtain⟨_,_,h2,_⟩:=hst9;exact h2
    have hS9:CellsAt w9 ib 0 (qA (ofI wn m))/\w9.cell? ⟨hb,0+1,none⟩=some (.slice (some ⟨b,off,none⟩) L.length lcap)/\w9.cell? ⟨b,off+k*1,none⟩=some (.slice va m.length vc)/\Mod Ft w8 w9:=⟨hci8.keep hmd hnF,hmd.cell hnH hcl8,hmd.cell hnb hck8,hS.2.2.2.trans hmd (fun _ _ h=>h)⟩
    have hns9:=HsNew.step hFn (hm18.trans0 ((Mod.refl _ _).drew)) hst9
    have HR:Hid (BldRel1 w w1 h wn L (.int .i64 ((k+1:Nat):Int)) w9):=hid ⟨k+1,by omega,rfl,by rw[HSN.out];exact hns9⟩;refine⟨_,rfl,hK _ _ hS9 ?_⟩;clear hK K
    simp only[stz];clear hS hS9 hmd hst9 hfin hput hci8 hcl8 hck8 hat8;go_wp2
    go_roundw
    case rel=>exact HR.out
    case measure=>simp[intOf];omega
  ·have hz:¬(k:Int)<(L.length:Nat):=by omega
   obtain rfl:k=L.length:=by omega
   rw[List.take_length]at hat;have HR0:Hid (BldRel2 w w1 h wn L KK (.int .i64 (0:Nat)) wr):=hid ⟨0,0,rfl,Nat.zero_le _,rfl,Ft,hat,hFn,hmr⟩
   clear hat hFn hmr hbr hcl0;go_wp2;clear hcl
   go_loopw [11] (BldRel2 w w1 h wn L KK) (fun i _=>KK.length+1-(intOf i).toNat)
   case atStart=>exact HR0.out
   case round=>
    rename World=>wr
    obtain⟨j,n,hn,hj,rfl,Ft,hat,hFn,hmr⟩:=hrel;have HN:=hid hn;have HJ:=hid hj;have hbr:=hmr.obj id hbH
    have hcl:wr.cell? ⟨hb,1,none⟩=some (.slice lad L.length lcap):=by simp[World.cell?,hbr]
    have hcl0:wr.cell? ⟨hb,0+1,none⟩=some (.slice lad L.length lcap):=hcl
    have hck:wr.cell? ⟨hb,2,none⟩=some (.slice kad KK.length kcap):=by simp[World.cell?,hbr]
    have hck0:wr.cell? ⟨hb,0+2,none⟩=some (.slice kad KK.length kcap):=hck
    have hHc:CellsAt wr hb 0 #[.int .i64 wd,.slice lad L.length lcap,.slice kad KK.length kcap]:=CellsAt.whole hbr;clear hn hj
    by_cases hlt:n+1<KK.length
    ·have hz:(n:Int)+1<(KK.length:Nat):=by omega
     by_cases hL0:0<L.length
     ·have hz0:(L.length:Int)>0:=by omega
      obtain⟨_,_,hae,-,hatK⟩:=(HKV1.out.keep0 hmr).at;injection hae with hae1 hae2 hae3;subst hae1 hae3;obtain⟨kb,koff,rfl,-,-,hkc⟩:=hatK n (by omega)
      obtain⟨cs,-,rfl,hk0A⟩:=hkc n (by omega);obtain⟨cs,-,rfl,hk1A⟩:=hkc (n+1) hlt;have hk0c:=CellsAt.one.1 hk0A;have hk1c:=CellsAt.one.1 hk1A
      have hi0:=hK2 _ (List.getElem_mem (show n<KK.length by omega));have hi1:=hK2 _ (List.getElem_mem hlt);have hlo:=lOf_snoc wn L KK j;rw[<-HN.out]at hlo
      have hg0:KK.getD n 0=KK[n]:=by rw[List.getD_eq_getElem?_getD,List.getElem?_eq_getElem (by omega)];rfl
      have hg1:KK.getD (n+1) 0=KK[n+1]:=by rw[List.getD_eq_getElem?_getD,List.getElem?_eq_getElem hlt];rfl
      rw[hg0,hg1]at hlo;generalize KK[n]=x0 at*;generalize KK[n+1]=x1 at*;have hpl:=pickZ_lt x1 L.length (by omega)
      have hpk:=fun w'=>pick_any x1 L.length hi1 (by omega) w';unfold layZ at hlo;obtain⟨p,hp⟩:∃p:Nat,pickZ x1 L.length=p:=⟨(pickZ x1 L.length).toNat,by omega⟩
      rw[hp]at hpl hlo;simp only[hp]at hpk;have hpL:p<L.length:=by omega
      have hgm:L.getD (p:Int).toNat []=L[p]:=by rw[Int.toNat_natCast,List.getD_eq_getElem?_getD,List.getElem?_eq_getElem hpL];rfl
      simp only[hgm]at hlo;obtain⟨_,_,hae,-,hatL⟩:=(jD HLV1.out hmr).at;injection hae with hae1 hae2' hae3;subst hae1 hae3
      obtain⟨b,off,rfl,-,-,hcc⟩:=hatL p hpL;obtain⟨cs,-,⟨vk,rfl,hvk⟩,hcA⟩:=hcc p hpL;have hcb:=CellsAt.one.1 hcA;have hmk:=hL2 _ (List.getElem_mem hpL)
      generalize L[p]=m at*;obtain⟨va,vc,hve,-,-⟩:=Sl.at hvk;have HVK:=hid hvk;rw[hve]at HVK hcb;have HLO:=hid hlo
      have hbw:kb<w1.heap.size:=sl_lt HKV1.out (show n<KK.length by omega);clear hlo hatK hkc hk0A hk1A hae2 hae2' hatL hcc hcA hve hvk hp hpl hg0 hg1 hgm
      go_upto_region 13 with(fail);have hS:Mod NoB wr wr.drew:=(Mod.refl _ _).drew
      refine wpRP [(0,3),(1,0),(2,3),(3,0),(4,3),(5,3),(6,3),(7,0),(8,3),(9,0),(10,3),(11,1),(12,3),(13,0),(14,3)] [] (fun w'=>Mod NoB wr w') hS ?_
      simp only[stz];refine wpLd 22 hb (0+1) (fun w' hS=>hS.cell id hcl0) underlying22 ?_;simp only[stz]
      refine wpLd 64 hb (0+2) (fun w' hS=>hS.cell id hck0) underlying64 ?_;simp only[stz]
      refine zR _ _ _ _ (n:Int) 1 ((n+1:Nat):Int) rfl rfl rfl rfl (by omega) (by omega) (by omega) ?_;simp only[nmz]
      refine qQ _ _ _ _ _ _ _ _ _ rfl rfl rfl rfl underlying64 (n:=1) (by kernel_rfl) hlt ?_;simp only[nmz]
      refine wpLd 3 kb (koff+(n+1)*1) (fun w' hS=>hS.cell id hk1c) underlying3 ?_;simp only[stz];refine wpLd 22 hb (0+1) (fun w' hS=>hS.cell id hcl0) underlying22 ?_
      simp only[nmz];refine zD _ _ _ _ _ rfl rfl rfl (by kernel_rfl) ?_;simp only[nmz];refine qN rfl (fun K hK=>?_)
      refine qB (qC 17 [.tmp 86,.tmp 89] _ rfl _ func17 rfl (by kernel_rfl) [.int .i64 x1,.int .i64 (L.length:Nat)] rfl _) (hpk _) ?_;rintro e w2 ⟨rfl,hw2⟩
      obtain rfl:=hw2.symm;refine⟨_,rfl,hK _ _ hS ?_⟩;clear hK K;try simp only[nmz]
      refine qQ _ _ _ _ _ _ _ _ _ rfl rfl rfl rfl underlying22 (n:=1) (by kernel_rfl) hpL ?_;simp only[nmz]
      refine wpLd 53 b (off+p*1) (fun w' hS=>hS.cell id hcb) underlying53 ?_;simp only[stz];have hm1c:=hmr.trans0 hS;have hat1:=hat.keep0 hS
      have hHc1:=hHc.keep hS id;have hk0c1:=hS.cell id hk0c;have hck1:=hS.cell id hck0;have HVK1:=hid (HVK.out.keep0 hS);generalize wr.drew=wq at*
      have href:=fun w' (hm:Mod NoB wq w')=>refOf_any (HVK1.out.keep0 hm) (by omega) wn hwz.1 hwz.2;have hdi:(ofI wn m).length=32:=ofI_len hwz.2
      have hic:(qA (ofI wn m)).size=32:=by rw[qD,hdi]
      clear hcl hcl0 hck hck0 hbr hHc hk0c hk1c hcb HVK hS hpk hat hmr hw2;go_upto_region 14 with(fail);refine wpR [3,1,1,1,3,3,3,1,1,3] (by rfl) (by rfl) ?_
      simp only[stz]
      refine wpXA 68 hb 0 #[.int .i64 wd,.slice (some ⟨b,off,none⟩) L.length lcap,.slice (some ⟨kb,koff,none⟩) KK.length kcap] hHc1 underlying68 3 rfl trivial ?_
      try simp only[nmz]
      refine wpDo rfl ?_
      refine qB (qC 108 [.tmp 95] _ rfl _ func108 rfl (by kernel_rfl) [.agg #[.int .i64 wd,.slice (some ⟨b,off,none⟩) L.length lcap,.slice (some ⟨kb,koff,none⟩) KK.length kcap]] rfl _) (hwid _) ?_
      rintro e w5 ⟨rfl,hm5⟩;refine⟨_,rfl,?_⟩;try simp only[nmz]
      refine wpDo rfl ?_;refine qB (qC 79 [.tmp 94,.tmp 96] _ rfl _ func79 rfl (by kernel_rfl) [.slice va m.length vc,.int .i64 (wn:Nat)] rfl _) (href _ hm5) ?_
      rintro e w6 ⟨rfl,hm6⟩;refine⟨_,rfl,?_⟩;simp only[stz]
      refine qE rfl (fun w'=>qL _ 0 #[.agg (qA (ofI wn m)),.int .i64 0] rfl rfl (.agg (qA (ofI wn m))) rfl) ?_;simp only[nmz]
      refine qE rfl (fun w'=>qL _ 1 #[.agg (qA (ofI wn m)),.int .i64 0] rfl rfl (.int .i64 0) rfl) ?_;simp only[nmz];refine wpDo rfl ?_
      refine qR 24 _ (by rfl) idZ (fun w7 hB7 hm7 hs7=>?_);replace hB7:w7.heap[w6.heap.size]?=some (.cells (qA (List.replicate 32 0)) 24 (0,0)):=hB7
      try simp only[nmz]
      refine wpDo rfl ?_
      refine qH 24 _ _ w6.heap.size 0 (qA (ofI wn m)) (by rfl) (by rfl) (by rfl) (qT _) 32 (by kernel_rfl) hic _ _ hB7 (by rw[hic,qD];simp) (fun w8 hB8 hm8=>?_)
      rw[qF (by rw[hic,qD];simp)]at hB8;simp only[stz];have hS6:Mod NoB wq w6:=hm5.trans0 hm6
      have hS8:Mod NoB wq w8:=(hS6.trans0 hm7).transB hm8 hS6.size;have hib6:=hS6.size;have hib8:w6.heap.size<w8.heap.size:=(Array.getElem?_eq_some_iff.1 hB8).1
      generalize hib:w6.heap.size=ib at*;have hat8:=hat1.keep0 hS8;have hlt1:=hat1.lt
      have hlay:=fun(w':World)(hm:Mod NoB w8 w')=>(hat8.keep0 hm).lay (repoZ x0,ofI wn m) hdi (repoZ_size x0) (m.length:Nat);rw[hhq]at hlay;rw[hhl]at hlay
      simp only[<-HLO.out]at hlay;have hci8:CellsAt w8 ib 0 (qA (ofI wn m)):=CellsAt.whole hB8;have hk08:=hS8.cell id hk0c1;have hck8:=hS8.cell id hck1
      have hm18:=hm1c.trans0 hS8;have hrep:=fun w'=>repo_any x0 hi0 w';clear hS6 hS8 hm5 hm6 hm7 hm8 hB7 hs7 href hHc1 hB8 hat1 hk0c1 hck1;go_upto_region 15 with(fail)
      have hnF:¬Ft ib:=fun e=>by have:=hlt1 _ e;omega
      have hnH:¬Ft hb:=fun e=>by have:=hFn _ e;omega
      have hnb:¬Ft kb:=fun e=>by have:=hFn _ e;omega
      have hS:CellsAt w8.drew ib 0 (qA (ofI wn m))/\w8.drew.cell? ⟨hb,0+2,none⟩=some (.slice (some ⟨kb,koff,none⟩) KK.length kcap)/\w8.drew.cell? ⟨kb,koff+n*1,none⟩=some (.int .i64 x0)/\Mod Ft w8 w8.drew:=⟨hci8,hck8,hk08,(Mod.refl _ _).drew⟩
      have hnlt:n<KK.length:=by omega
      refine wpRP [(0,3),(1,3),(2,0),(3,3),(4,3),(5,0),(7,0),(8,3),(9,3),(6,1),(10,1)] [] (fun w'=>CellsAt w' ib 0 (qA (ofI wn m))/\w'.cell? ⟨hb,0+2,none⟩=some (.slice (some ⟨kb,koff,none⟩) KK.length kcap)/\w'.cell? ⟨kb,koff+n*1,none⟩=some (.int .i64 x0)/\Mod Ft w8 w') hS ?_
      simp only[stz];refine wpLd 64 hb (0+2) (fun w' hS=>hS.2.1) underlying64 ?_;simp only[stz]
      refine qQ _ _ _ _ _ _ _ _ _ rfl rfl rfl rfl underlying64 (n:=1) (by kernel_rfl) hnlt ?_;simp only[nmz]
      refine wpLd 3 kb (koff+n*1) (fun w' hS=>hS.2.2.1) underlying3 ?_;simp only[nmz];refine wpLA 24 ib 0 (qA (ofI wn m)) (fun w' hS=>hS.1) underlying24 32 hic ?_
      simp only[stz];refine zD _ _ _ _ _ rfl rfl rfl (by kernel_rfl) ?_;simp only[nmz];refine qN rfl (fun K hK=>?_)
      refine qB (qC 69 [.tmp 105] _ rfl _ func69 rfl (by kernel_rfl) [.int .i64 x0] rfl _) (hrep _) ?_;rintro e w9 ⟨rfl,hm9⟩
      have hm89:Mod NoB w8 w9:=((Mod.refl NoB w8).drew).trans0 hm9
      have hS9:CellsAt w9 ib 0 (qA (ofI wn m))/\w9.cell? ⟨hb,0+2,none⟩=some (.slice (some ⟨kb,koff,none⟩) KK.length kcap)/\w9.cell? ⟨kb,koff+n*1,none⟩=some (.int .i64 x0)/\Mod Ft w8 w9:=⟨hci8.keep hm89 id,hm89.cell id hck8,hm89.cell id hk08,hm89.mono (fun _ _ h=>h.elim)⟩
      have hfin:=hlay w9 hm89;refine⟨_,rfl,hK _ _ hS9 ?_⟩;clear hK K;try simp only[nmz]
      refine qN rfl (fun K hK=>?_)
      refine qB (qC 110 [.tmp 100,.tmp 106,.tmp 107,.tmp 109] _ rfl _ func110 rfl (by kernel_rfl) [.pointer (some ⟨qb,0,none⟩),.string (repoZ x0),.agg (qA (ofI wn m)),.int .i64 (m.length:Nat)] rfl _) (hfin) ?_
      rintro e w10 ⟨⟨v10,rfl⟩,hst10⟩;have hmd:Mod Ft w9 w10:=by obtain⟨_,_,h2,_⟩:=hst10;exact h2
      have hS10:CellsAt w10 ib 0 (qA (ofI wn m))/\w10.cell? ⟨hb,0+2,none⟩=some (.slice (some ⟨kb,koff,none⟩) KK.length kcap)/\w10.cell? ⟨kb,koff+n*1,none⟩=some (.int .i64 x0)/\Mod Ft w8 w10:=⟨hS9.1.keep hmd hnF,hmd.cell hnH hS9.2.1,hmd.cell hnb hS9.2.2.1,hS9.2.2.2.trans hmd (fun _ _ h=>h)⟩
      have hns:=HsNew.step hFn (hm18.trans0 hm89) hst10
      have HR:Hid (BldRel2 w w1 h wn L KK (.int .i64 ((n+2:Nat):Int)) w10):=hid ⟨j+1,n+2,by have:=HN.out;omega,laysN_lt HN.out hlt hL0,rfl,hns⟩
      refine⟨_,rfl,hK _ _ hS10 ?_⟩;clear hK K;simp only[stz];clear hS hS9 hS10 hmd hst10 hns hfin hlay hm9 hm89 hat8 hci8 hk08 hck8 hm18 hrep;go_wp2
      go_roundw
      case rel=>exact HR.out
      case measure=>simp[intOf];omega
     ·have hz0:¬(L.length:Int)>0:=by omega
      have hjl:j=laysN L KK:=by
       have h1:=HJ.out;have h2:L=[]:=List.eq_nil_of_length_eq_zero (by omega);unfold laysN at h1 |-;rw[if_pos h2]at h1 |-;omega
      have HF:Hid (BuildR w wn L KK (.returned (.tuple #[.pointer (some ⟨bs,0,none⟩),.pointer (some ⟨qb,0,none⟩)])) wr):=hid ⟨h,hhw,hhr,hhl,⟨qb,hhq⟩,by rw[hhb,hhq],Ft,by rw[<-hjl];exact hat,fun k hk=>by have:=hFn k hk;have:=hm1.size;omega,hm1.trans0 hmr⟩
      clear hat hFn hmr hbr hHc hcl0 hck0;go_wp2;go_ret2;exact HF.out
    ·have hz:¬(n:Int)+1<(KK.length:Nat):=by omega
     have hnb:n<=1000:=by
      have h1:=HJ.out;have h3:=HN.out;unfold laysN at h1
      split at h1<;>omega
     have hjl:j=laysN L KK:=by
      have h1:=HJ.out;have h3:=HN.out;unfold laysN at h1 |-
      split at h1
      ·rename_i h2
       rw[if_pos h2];omega
      ·rename_i h2
       rw[if_neg h2];omega
     have HF:Hid (BuildR w wn L KK (.returned (.tuple #[.pointer (some ⟨bs,0,none⟩),.pointer (some ⟨qb,0,none⟩)])) wr):=hid ⟨h,hhw,hhr,hhl,⟨qb,hhq⟩,by rw[hhb,hhq],Ft,by rw[<-hjl];exact hat,fun k hk=>by have:=hFn k hk;have:=hm1.size;omega,hm1.trans0 hmr⟩
     clear hat hFn hmr hbr hHc hcl0 hck0;go_wp2;go_ret2;exact HF.out
end
section
open Go.RowKit Go.Proofs.Tryz Go.Lib
theorem yH(o o':Bool)(G G':Nat->Prop)(va vb:Value)(la lb:List (List UInt8))(w:World)(ha:Sl o w G 32 IdC va la)(hb:Sl o' w G' 32 IdC vb lb):
 Calls prog 24 #[va,vb] w (RetM (.bool (decide (la=lb))) w):=by
 obtain⟨aa,ca,rfl,hla,ha⟩:=ha.at;obtain⟨ab,cb,rfl,hlb,hb⟩:=hb.at
 by_cases hlen:la.length=lb.length
 ·have e1:((la.length:Int)==(lb.length:Int))=true:=by simp[hlen]
  have H:=hid hlen;have HA:=hid ha;have HB:=hid hb;clear hlen ha hb;go_enter func24,ntmps24;go_wp2
  go_loopw [5,6] (SameRel la lb w) (fun _ i _=>la.length-(intOf i).toNat)
  case atStart=>exact⟨0,by omega,rfl,by rw[pre_zero],Mod.refl _ _⟩
  case round=>
   obtain⟨k,hk,rfl,rfl,hm⟩:=hrel
   rename_i wr
   by_cases hs:pre k la lb=true
   ·by_cases hlt:k<la.length
    ·have hlt':k<lb.length:=by rw[<-H.out];exact hlt
     obtain⟨ba,oa,rfl,-,-,hca⟩:=HA.out k hlt;obtain⟨bb,ob,rfl,-,-,hcb⟩:=HB.out k hlt';obtain⟨_,-,⟨rfl,hc32⟩,hca⟩:=hca k hlt
     obtain⟨_,-,⟨rfl,hd32⟩,hcb⟩:=hcb k hlt';have hps:=hid (pre_succ hlt hlt' hs);clear HA HB;go_wp2_with fail;have hS:=hm.drew
     refine wpRP [(0,3),(1,3),(2,3),(3,0),(4,3),(5,3),(6,3),(7,0),(8,0),(9,3)] [] (fun w'=>Mod NoB w w') hS ?_;simp only[stz]
     refine qQ _ _ _ _ _ _ _ _ _ rfl rfl rfl rfl underlying25 (n:=32) (by kernel_rfl) hlt ?_;simp only[nmz]
     refine qM rfl (fun w' hS=>zI _ _ rfl _ _ rfl _ (hca.keep hS id) _ underlying24 rfl 32 (by kernel_rfl) (by rw[qD,hc32])) ?_;simp only[stz]
     refine qQ _ _ _ _ _ _ _ _ _ rfl rfl rfl rfl underlying25 (n:=32) (by kernel_rfl) hlt' ?_;simp only[nmz]
     refine qM rfl (fun w' hS=>zI _ _ rfl _ _ rfl _ (hcb.keep hS id) _ underlying24 rfl 32 (by kernel_rfl) (by rw[qD,hd32])) ?_;simp only[nmz]
     refine qM rfl (fun w' hS=>exec_eql_id _ _ _ _ rfl _ _ rfl rfl 32 5 underlying24 underlying5 (by kernel_rfl) (by kernel_rfl) hc32 hd32 _ rfl) ?_;simp only[stz]
     go_wp2
     go_roundw
     case rel=>exact⟨k+1,by omega,by go_num,by rw[hps.out],hS⟩
     case measure=>simp[intOf];omega
    ·go_wp2
     go_ret;exact⟨by rw[<-pre_full H.out (Nat.le_of_not_lt hlt),hs];rfl,hm⟩
   ·have hs':pre k la lb=false:=by simpa using hs
    have hps:=hid (pre_false hs');clear hs;go_wp2;go_ret;exact⟨by rw[hps.out];rfl,hm⟩
 ·have e1:((la.length:Int)==(lb.length:Int))=false:=by simp;omega
  have hps:=hid (decide_eq_false (show ¬la=lb by rintro rfl;exact hlen rfl));clear hlen;go_enter func24,ntmps24;go_wp2;refine wp_loop_once ?_;go_wp2;go_ret
  exact⟨by rw[hps.out];rfl,Mod.refl _ _⟩
end
section
open Go.RowKit Go.Shelf Go.Proofs.Tryz Go.Lib
theorem built_dot12:prog.built 113 [(0,.int .i64 1),(1,.int .i64 2)]=some #[.int .i64 1,.int .i64 2]:=by kernel_rfl
theorem built_held(a b:Int)(di:List UInt8)(h:di.length=32):prog.built 211 [(0,.agg #[.int .i64 a,.int .i64 b]),(1,.agg (qA di))]=some (xM ((a,b),di)):=by
 have p:xT prog 211=some [(0,2),(2,32)]:=by kernel_rfl
 have hz:(xM ((0,0),List.replicate 32 0)).size=34:=jP (by simp);have hi:(qA di).size=32:=by rw[qD,h]
 rw[zS heldZ p];generalize xM ((0,0),List.replicate 32 0)=z at hz
 rw[zK (off:=0) (size:=2) rfl (by rfl) (by rw[hz];omega),zK (off:=2) (size:=32) rfl (by simpa[Value.cells]using hi) (by rw[yJ (by rw[hz];simp[Value.cells])];rw[hz];omega),xU]
 congr 1
 apply Array.toList_inj.1
 have hl:z.toList.length=34:=by simpa using hz
 simp only[zF,Value.cells,xM,Array.toList_append,hi]
 simp[hl]
theorem built_tag(n:ByteArray)(ad:Option Addr)(k c:Nat):prog.built 188 [(0,.string n),(1,.slice ad k c)]=some #[.string n,.slice ad k c]:=by
 have p:xT prog 188=some [(0,1),(1,1)]:=by kernel_rfl
 rw[zS tagZ p,zK (off:=0) (size:=1) rfl (by rfl) (by simp),zK (off:=1) (size:=1) rfl (by rfl) (by simp[zF,Value.cells]),xU]
 rfl
theorem built_rep(n:ByteArray)(ad:Option Addr)(k c:Nat):prog.built 186 [(0,.string n),(1,.slice ad k c)]=some #[.string n,.slice ad k c,.slice none 0 0]:=by
 have p:xT prog 186=some [(0,1),(1,1),(2,1)]:=by kernel_rfl
 rw[zS repZ p,zK (off:=0) (size:=1) rfl (by rfl) (by simp),zK (off:=1) (size:=1) rfl (by rfl) (by simp[zF,Value.cells]),xU]
 rfl
theorem built_tab(ad bd:Option Addr)(k c k' c':Nat):prog.built 71 [(0,.slice ad k c),(1,.slice bd k' c')]=some #[.slice ad k c,.slice bd k' c']:=by
 have p:xT prog 71=some [(0,1),(1,1)]:=by kernel_rfl
 rw[zS tableZ p,zK (off:=0) (size:=1) rfl (by rfl) (by simp),zK (off:=1) (size:=1) rfl (by rfl) (by simp[zF,Value.cells]),xU]
 rfl
theorem sl_one{α:Type}{w:World}{b:Nat}{cs:Array Value}{T:TypeId}{R:Array Value->α->Prop}{x:α}(h:w.heap[b]?=some (.cells cs T (0,0)))(hR:R cs x)(n:Nat)(hn:cs.size=n):Sl false w AnyB n R (.slice (some ⟨b,0,none⟩) 1 1) [x]:=by
 refine⟨some ⟨b,0,none⟩,1,rfl,Nat.le_refl _,by unfold maxLen;omega,fun _=>⟨b,0,rfl,trivial,fun e=>(by cases e),fun i hi=>?_⟩⟩
 have h0:i=0:=by simpa using hi
 subst h0;refine⟨cs,hn,hR,?_⟩;rw[Nat.zero_mul];exact CellsAt.whole h
theorem results_row1{P:Program}{fn:Func}{p:Tmp}{ty:TypeId}(h:fn.results=#[.cell p ty])(tmps:Array Value)(w:World)(g:Nat)(t:TypeId)(cs:Array Value)(fr:Nat×Nat)(d:TypeDesc)
 (hp:tmps.getD p undef=.pointer (some ⟨g,0,none⟩))(hg:w.heap[g]?=some (.cells cs t fr))
 (hu:P.underlying ty=some d)(hd:(match d with| .struct _| .array _ _=>true|_=>false)=true)(hi:(P.info? ty).map (·.size)=some cs.size):
 (results fn tmps).run P w=.ok (.agg cs) w:=by
 have hp':tmps[p]?.getD undef=.pointer (some ⟨g,0,none⟩):=by simpa using hp
 simp[results,h,hp',asAddr,run_loadVar_row w g t ty cs fr d hg hu hd hi]
def TagdR(w:World)(id:List UInt8):Ending->World->Prop:=fun e w'=>Mod NoB w w'/\∃vv rv reps,e=.returned (.agg #[vv,rv])/\vv.oneCell'=true/\RepsAt w' rv reps/\rootsX reps=[id]
theorem int_zs:(prog.info? 3).map (fun i=>(i.zero,i.size))=some (some (.int .i64 0),1):=by kernel_rfl
theorem held_zs:(prog.info? 211).map (fun i=>(i.zero,i.size))=some (some (.agg (xM ((0,0),List.replicate 32 0))),34):=by kernel_rfl
theorem tag_zs:(prog.info? 188).map (fun i=>(i.zero,i.size))=some (some (.agg #[.string ⟨#[]⟩,.slice none 0 0]),2):=by kernel_rfl
theorem rep_zs:(prog.info? 186).map (fun i=>(i.zero,i.size))=some (some (.agg #[.string ⟨#[]⟩,.slice none 0 0,.slice none 0 0]),3):=by kernel_rfl
theorem tagged_any(di:List UInt8)(hid:di.length=32)(w:World):Calls prog 56 #[.agg (qA di)] w (TagdR w di):=by
 have hic:(qA di).size=32:=by rw[qD,hid]
 have hhs:=jP (h:=((1,2),di)) hid;have hbh:=built_held 1 2 di hid;go_enter func56,ntmps56;go_upto_region 0 with(fail);refine wpR [1,1] (by rfl) (by rfl) ?_
 simp only[stz];refine wpDo rfl ?_;refine zW 24 _ _ (by rfl) (by rfl) (fun w1 hB1 hm1 hs1=>?_)
 replace hB1:w1.heap[w.heap.size]?=some (.cells (qA di) 24 (0,0)):=hB1;try simp only[nmz]
 refine wpDo rfl ?_;refine qR 71 _ (by rfl) tableZ (fun w2 hB2 hm2 hs2=>?_)
 replace hB2:w2.heap[w1.heap.size]?=some (.cells #[.slice none 0 0,.slice none 0 0] 71 (0,0)):=hB2;simp only[stz]
 have hci:CellsAt w2 w.heap.size 0 (qA di):=CellsAt.whole (hm2.obj id hB1);go_upto_region 1 with(fail);refine wpR [1,0,1,0,1,0,1,0,1,0,1] (by rfl) (by rfl) ?_
 simp only[stz];refine wpDo rfl ?_
 refine qY 64 3 _ (.int .i64 2) (.int .i64 0) 1 (by rfl) (by rfl) underlying64 int_zs (by omega) (by omega) rfl (fun w3 hB3 hm3 hs3=>?_);have hci3:=hci.keep hm3 id
 try simp only[nmz]
 refine qM rfl (fun w' hS=>qO 113 [(0,_),(1,_)] [(0,.int .i64 1),(1,.int .i64 2)] _ (by rfl) (by rfl) built_dot12) ?_;simp only[nmz]
 refine wpXA 24 w.heap.size 0 (qA di) hci3 underlying24 32 hic trivial ?_;try simp only[nmz]
 refine qM rfl (fun w' hS=>qO 211 [(0,_),(1,_)] [(0,.agg #[.int .i64 1,.int .i64 2]),(1,.agg (qA di))] _ (by rfl) (by rfl) hbh) ?_;simp only[nmz]
 refine wpDo rfl ?_
 refine qY 184 211 _ (.agg (xM ((1,2),di))) (.agg (xM ((0,0),List.replicate 32 0))) 34 (by rfl) (by rfl) underlying184 held_zs (by omega) (by omega) hhs (fun w4 hB4 hm4 hs4=>?_)
 replace hB4:w4.heap[w3.heap.size]?=some (.cells (xM ((1,2),di)) 211 (0,0)):=hB4;try simp only[nmz]
 refine qM rfl (fun w' hS=>qO 188 [(0,_),(1,_)] [(0,.string ⟨#[118]⟩),(1,.slice (some ⟨w3.heap.size,0,none⟩) 1 1)] _ (by rfl) (by rfl) (built_tag ⟨#[118]⟩ _ 1 1)) ?_
 simp only[nmz];refine wpDo rfl ?_
 refine qY 183 188 _ (.agg #[.string ⟨#[118]⟩,.slice (some ⟨w3.heap.size,0,none⟩) 1 1]) (.agg #[.string ⟨#[]⟩,.slice none 0 0]) 2 (by rfl) (by rfl) underlying183 tag_zs (by omega) (by omega) rfl (fun w5 hB5 hm5 hs5=>?_)
 replace hB5:w5.heap[w4.heap.size]?=some (.cells #[.string ⟨#[118]⟩,.slice (some ⟨w3.heap.size,0,none⟩) 1 1] 188 (0,0)):=hB5;try simp only[nmz]
 refine qM rfl (fun w' hS=>qO 186 [(0,_),(1,_)] [(0,.string ⟨#[114]⟩),(1,.slice (some ⟨w4.heap.size,0,none⟩) 1 1)] _ (by rfl) (by rfl) (built_rep ⟨#[114]⟩ _ 1 1)) ?_
 simp only[nmz];refine wpDo rfl ?_
 refine qY 69 186 _ (.agg #[.string ⟨#[114]⟩,.slice (some ⟨w4.heap.size,0,none⟩) 1 1,.slice none 0 0]) (.agg #[.string ⟨#[]⟩,.slice none 0 0,.slice none 0 0]) 3 (by rfl) (by rfl) underlying69 rep_zs (by omega) (by omega) rfl (fun w6 hB6 hm6 hs6=>?_)
 replace hB6:w6.heap[w5.heap.size]?=some (.cells #[.string ⟨#[114]⟩,.slice (some ⟨w4.heap.size,0,none⟩) 1 1,.slice none 0 0] 186 (0,0)):=hB6
 have hT6:=hm5.trans0 hm6|>fun h=>(hm3.trans0 hm4).trans0 h |>.obj id hB2;try simp only[nmz]
 refine qM rfl (fun w' hS=>qO 71 [(0,_),(1,_)] [(0,.slice (some ⟨w2.heap.size,0,none⟩) 1 1),(1,.slice (some ⟨w5.heap.size,0,none⟩) 1 1)] _ (by rfl) (by rfl) (built_tab _ _ 1 1 1 1)) ?_
 simp only[nmz];refine wpDo rfl ?_
 refine qH 71 _ _ w1.heap.size 0 #[.slice (some ⟨w2.heap.size,0,none⟩) 1 1,.slice (some ⟨w5.heap.size,0,none⟩) 1 1] (by rfl) (by rfl) (by rfl) (by intro c hc;simp at hc;rcases hc with rfl|rfl<;>rfl) 2 (by kernel_rfl) rfl _ _ hT6 (by simp) (fun w7 hB7 hm7=>?_)
 rw[qF (by simp)]at hB7;simp only[stz];have hs2':=hm2.size;have hs3':=hm3.size;have hs4':=hm4.size;have hs5':=hm5.size;have hs6':=hm6.size
 have h1lt:w1.heap.size<w2.heap.size:=hs2;have hM:Mod NoB w w7:=(((hm1.trans0 hm2).trans0 (hm3.trans0 hm4)).trans0 (hm5.trans0 hm6)).transB hm7 hm1.size
 have hT4:=hm7.objB (b:=w3.heap.size) (by omega) ((hm5.trans0 hm6).obj id hB4);have hT5:=hm7.objB (b:=w4.heap.size) (by omega) (hm6.obj id hB5)
 have hT7:=hm7.objB (b:=w5.heap.size) (by omega) hB6;have hrow:RowAt w7 (.slice (some ⟨w3.heap.size,0,none⟩) 1 1,[((1,2),di)]):=sl_one hT4 ⟨rfl,hid⟩ 34 hhs
 have htags:Sl false w7 AnyB 2 (TagC w7) (.slice (some ⟨w4.heap.size,0,none⟩) 1 1) [⟨⟨#[118]⟩,(.slice (some ⟨w3.heap.size,0,none⟩) 1 1,[((1,2),di)])⟩]:=sl_one hT5 ⟨rfl,hrow⟩ 2 rfl
 have hreps:RepsAt w7 (.slice (some ⟨w5.heap.size,0,none⟩) 1 1) [⟨⟨#[114]⟩,.slice (some ⟨w4.heap.size,0,none⟩) 1 1,[⟨⟨#[118]⟩,(.slice (some ⟨w3.heap.size,0,none⟩) 1 1,[((1,2),di)])⟩],(.slice none 0 0,[])⟩]:=sl_one hT7 ⟨rfl,htags,Sl.nil _ _ _ _ _⟩ 3 rfl
 have HF:Hid (TagdR w di (.returned (.agg #[.slice (some ⟨w2.heap.size,0,none⟩) 1 1,.slice (some ⟨w5.heap.size,0,none⟩) 1 1])) w7):=Lib.hid ⟨hM,_,_,_,rfl,rfl,hreps,rfl⟩
 clear hM hT4 hT5 hT7 hrow htags hreps hT6 hm1 hm2 hm3 hm4 hm5 hm6 hm7 hB1 hB2 hB3 hB4 hB5 hB6 hci hci3;go_wp2
 refine bodyPost_ret (results_row1 (P:=prog) (ty:=71) rfl _ _ w1.heap.size _ _ _ _ (by rfl) hB7 underlying71 rfl (by kernel_rfl)) rfl ?_;exact HF.out
structure Thg where
 d:DescL
 depth:Nat
 first:Bool
deriving DecidableEq
abbrev WErr:=List UInt8×Int
def treeT(t:Thg):Bool:=t.first||yP t.d
def yN(g:DescL->List Thg×Option WErr):List DescL->List Thg×Option WErr
 | []=>([],none)
 |d::ds=>match(g d).2 with
  |some e=>((g d).1,some e)
  |none=>((g d).1++(yN g ds).1,(yN g ds).2)
def walkL(c:BlobM):Nat->Thg->List Thg×Option WErr
 |0,_=>([],none)
 |f+1,t=>match getL t.d.id c with
  |none=>([],some (t.d.id,14))
  |some b=>
   if(t.first||decide (b.length=t.d.size))=false then([],some (t.d.id,17))
   else if treeT t=false then(if(decide (t.d.media=1)||decide (t.d.media=2))=false then([],some (t.d.id,20))else([t],none))
   else if 4<t.depth then([],some (t.d.id,18))
   else match decL b with
    |none=>([],some (t.d.id,5))
    |some m=>
     if(t.first||decide (m.kind=t.d.media))=false then([],some (t.d.id,20))
     else(t::(yN (fun d=>walkL c f ⟨d,t.depth+1,false⟩) (xX m)).1,(yN (fun d=>walkL c f ⟨d,t.depth+1,false⟩) (xX m)).2)
theorem walkDs_at(g:DescL->List Thg×Option WErr):∀(ds:List DescL)(k:Nat)(hk:k<ds.length),(∀j (hj:j<ds.length),j<k->(g ds[j]).2=none)->∃rest,(yN g ds).1=(ds.take k).flatMap (fun d=>(g d).1)++((g ds[k]).1++rest)
 | [],k,hk,_=>by simp at hk
 |d::ds,0,_,_=>by
  simp only[List.take_zero,List.flatMap_nil,List.nil_append,List.getElem_cons_zero,yN]
  split
  ·exact⟨[],by simp⟩
  ·exact⟨_,rfl⟩
 |d::ds,k+1,hk,h=>by
  have h0:(g d).2=none:=h 0 (by simp) (by omega);obtain⟨rest,hr⟩:=walkDs_at g ds k (by simpa using hk) (fun j hj hl=>h (j+1) (by simpa using hj) (by omega))
  refine⟨rest,?_⟩;rw[yN,h0];simp only[List.take_succ_cons,List.flatMap_cons,List.getElem_cons_succ,List.append_assoc,hr]
theorem walkDs_stop(g:DescL->List Thg×Option WErr)(e:WErr):∀(ds:List DescL)(k:Nat)(hk:k<ds.length),(∀j (hj:j<ds.length),j<k->(g ds[j]).2=none)->(g ds[k]).2=some e->yN g ds=((ds.take k).flatMap (fun d=>(g d).1)++(g ds[k]).1,some e)
 | [],k,hk,_,_=>by simp at hk
 |d::ds,0,_,_,he=>by
  have he:(g d).2=some e:=he;simp only[List.take_zero,List.flatMap_nil,List.nil_append,List.getElem_cons_zero,yN,he]
 |d::ds,k+1,hk,h,he=>by
  have h0:(g d).2=none:=h 0 (by simp) (by omega);have hr:=walkDs_stop g e ds k (by simpa using hk) (fun j hj hl=>h (j+1) (by simpa using hj) (by omega)) he
  rw[yN,h0];simp only[List.take_succ_cons,List.flatMap_cons,List.getElem_cons_succ,List.append_assoc,hr]
theorem walkDs_none(g:DescL->List Thg×Option WErr):∀(ds:List DescL),(∀j (hj:j<ds.length),(g ds[j]).2=none)->yN g ds=(ds.flatMap (fun d=>(g d).1),none)
 | [],_=>rfl
 |d::ds,h=>by
  have h0:(g d).2=none:=h 0 (by simp);have hr:=walkDs_none g ds (fun j hj=>h (j+1) (by simpa using hj));rw[yN,h0];simp only[List.flatMap_cons,hr]
def jS(t:Thg):Array Value:=(.int .i64 t.d.media::(t.d.id.map byteV++[.int .i64 t.d.size,.string ⟨t.d.plat.toArray⟩,.int .i64 t.depth,.bool t.first])).toArray
theorem thCells_size{t:Thg}(h:t.d.id.length=32):(jS t).size=37:=by simp[jS,h]
theorem thCells_at1(t:Thg):∀j,j<(qA t.d.id).size->(jS t)[1+j]?=(qA t.d.id)[j]?:=by
 intro j hj;rw[qD]at hj;rw[<-Array.getElem?_toList,<-Array.getElem?_toList,Nat.add_comm];simp only[jS,List.getElem?_cons_succ,qA]
 rw[List.getElem?_append_left (by simpa using hj)]
def ThAt(w:World)(b:Nat)(t:Thg):Prop:=w.heap[b]?=some (.cells (jS t) 150 (0,0))
theorem ThAt.id{w:World}{b:Nat}{t:Thg}(h:ThAt w b t):CellsAt w b (0+1) (qA t.d.id):=CellsAt.of_obj h (by rw[Nat.zero_add];exact thCells_at1 t)
theorem ThAt.media{w:World}{b:Nat}{t:Thg}(h:ThAt w b t):w.cell? ⟨b,0,none⟩=some (.int .i64 t.d.media):=by rw[cell_of_row _ _ _ _ _ _ h];rfl
theorem th_back{t:Thg}(h:t.d.id.length=32)(j:Nat):(jS t)[33+j]?=[Value.int .i64 t.d.size,.string ⟨t.d.plat.toArray⟩,.int .i64 t.depth,.bool t.first][j]?:=by
 rw[<-Array.getElem?_toList];simp only[jS];rw[show 33+j=32+j+1 by omega,List.getElem?_cons_succ,List.getElem?_append_right (by simp[h])]
 simp[h]
theorem ThAt.size{w:World}{b:Nat}{t:Thg}(h:ThAt w b t)(hl:t.d.id.length=32):w.cell? ⟨b,0+33,none⟩=some (.int .i64 t.d.size):=by rw[cell_of_row _ _ _ _ _ _ h];exact th_back hl 0
theorem ThAt.depth{w:World}{b:Nat}{t:Thg}(h:ThAt w b t)(hl:t.d.id.length=32):w.cell? ⟨b,0+35,none⟩=some (.int .i64 t.depth):=by rw[cell_of_row _ _ _ _ _ _ h];exact th_back hl 2
theorem ThAt.first{w:World}{b:Nat}{t:Thg}(h:ThAt w b t)(hl:t.d.id.length=32):w.cell? ⟨b,0+36,none⟩=some (.bool t.first):=by rw[cell_of_row _ _ _ _ _ _ h];exact th_back hl 3
def wrongV(e:WErr):Value:=.iface 142 (.agg ((e.1.map byteV++[Value.int .i64 e.2]).toArray))
def chainW(e:WErr):List PanicEntry:=[{ v:=wrongV e,recovered:=false }]
theorem wrong_noIface:(∀ms,prog.underlying 142≠some (.interface ms))/\(prog.underlying 142).isSome=true:=by
 rw[underlying142];exact⟨fun ms e=>(by cases e),rfl⟩
theorem wrongZ:(prog.info? 142).bind (·.zero)=some (.agg ((List.replicate 32 (byteV 0)++[Value.int .i64 0]).toArray)):=by kernel_rfl
theorem built_wrong(x:List UInt8)(h:x.length=32)(n:Int):prog.built 142 [(0,.agg (qA x)),(1,.int .i64 n)]=some ((x.map byteV++[Value.int .i64 n]).toArray):=by
 have p:xT prog 142=some [(0,32),(32,1)]:=by kernel_rfl
 have hz:((List.replicate 32 (byteV 0)++[Value.int .i64 0]).toArray).size=33:=by simp
 rw[zS wrongZ p]
 rw[zK (off:=0) (size:=32) rfl (by simp[Value.cells,qA,h]) (by rw[hz];omega),zK (off:=32) (size:=1) rfl (by rfl) (by rw[yJ (by rw[hz];simp[Value.cells,qA,h])];rw[hz];omega),xU]
 congr 1
 apply Array.toList_inj.1
 simp[zF,qA,Value.cells,h,List.drop_append]
theorem wp_panicI{P:Program}{o:Oper}{a:Act}{w:World}{K:Act->World->Prop}{Q:Exit->Act->World->Prop}(x:Operand)(ho:o.op=.panic x){t:TypeId}{v:Value}(hx:a.eval x=.iface t v)(h:Q (.panic [{ v:=.iface t v,recovered:=false }]) a w):o.wp P a w K Q:=by
 unfold Oper.wp execOp;simp only[ho,hx,Sem.run_bind,run_panic_iface,Result.andThen_halt];exact h
theorem thMust_ok(b:Nat)(n:Int)(w:World):Calls prog 156 #[.pointer (some ⟨b,0,none⟩),.bool true,.int .i64 n] w (RetE (.tuple #[]) w):=by
 go_enter func156,ntmps156;go_wp2
 go_end0
 exact⟨rfl,rfl⟩
theorem thMust_no{w:World}{b:Nat}{t:Thg}(h:ThAt w b t)(hl:t.d.id.length=32)(n:Int):Calls prog 156 #[.pointer (some ⟨b,0,none⟩),.bool false,.int .i64 n] w (fun e w'=>e=.panicked (chainW (t.d.id,n))/\Mod NoB w w'):=by
 have hci:=h.id;have hic:(qA t.d.id).size=32:=by rw[qD,hl]
 have hbw:=built_wrong _ hl n;clear h;go_enter func156,ntmps156;go_upto_region 1 with(fail);refine wpR [3,3,3,3,1,3,0,1,1] (by rfl) (by rfl) ?_;simp only[stz]
 refine wpXA 24 b (0+1) (qA t.d.id) hci underlying24 32 hic trivial ?_;simp only[stz]
 refine qM rfl (fun w' hS=>qO 142 [(0,_),(1,_)] [(0,.agg (qA t.d.id)),(1,.int .i64 n)] _ (by rfl) (by rfl) hbw) ?_;simp only[nmz]
 refine wpX rfl (exec_mkIface _ 142 (.agg ((t.d.id.map byteV++[Value.int .i64 n]).toArray)) (by rfl) (by rfl) wrong_noIface) trivial ?_;try simp only[nmz]
 refine qN rfl (fun K hK=>?_);refine wp_panicI _ (by rfl) (t:=142) (v:=.agg ((t.d.id.map byteV++[Value.int .i64 n]).toArray)) (by rfl) ?_;exact⟨rfl,rfl,Mod.refl _ _⟩
theorem thTree_any{w:World}{b:Nat}{t:Thg}(h:ThAt w b t)(hl:t.d.id.length=32):Calls prog 157 #[.pointer (some ⟨b,0,none⟩)] w (RetE (.bool (treeT t)) w):=by
 have hcm:=h.media;have hcf:=h.first hl
 obtain⟨r,hr⟩:∃r,treeT t=r:=⟨_,rfl⟩;rw[hr];unfold treeT yP at hr;obtain⟨fs,hfs⟩:∃r,t.first=r:=⟨_,rfl⟩
 obtain⟨m,hm⟩:∃r,t.d.media=r:=⟨_,rfl⟩;rw[hfs]at hcf hr;rw[hm]at hcm hr;clear h hl hfs hm
 cases fs with
 |true=>
  obtain rfl:r=true:=by simpa using hr.symm
  clear hr;go_enter func157,ntmps157;go_upto_region 1 with(fail);refine wpR [3,3,3,1,3,3,3,3,3,0,3,3,3,3,3,3,3,0,3,3,3] (by rfl) (by rfl) ?_;simp only[stz]
  refine wpXd (v:=(.bool true)) 4 b (0+36) hcf underlying4 trivial ?_;simp only[stz];go_wp2;go_ret;exact⟨rfl,rfl⟩
 |false=>
  by_cases h3:m=3
  ·have hz:(m:Int)=3:=by omega
   obtain rfl:r=true:=by simpa[h3]using hr.symm
   clear hr;go_enter func157,ntmps157;go_upto_region 1 with(fail);refine wpR [3,3,3,1,3,3,3,3,3,1,3,3,3,3,3,3,3,0,3,3,3] (by rfl) (by rfl) ?_;simp only[stz]
   refine wpXd (v:=(.bool false)) 4 b (0+36) hcf underlying4 trivial ?_;simp only[stz];refine wpXd (v:=(.int .i64 m)) 3 b 0 hcm underlying3 trivial ?_;try simp only[nmz]
   refine qS _ _ _ _ _ _ _ _ rfl rfl rfl rfl rfl true (decide_eq_true hz) ?_;simp only[stz];go_wp2;go_ret;exact⟨rfl,rfl⟩
  ·have hz:¬(m:Int)=3:=by omega
   by_cases h4:m=4
   ·have hz4:(m:Int)=4:=by omega
    obtain rfl:r=true:=by simpa[h4]using hr.symm
    clear hr;go_enter func157,ntmps157;go_upto_region 1 with(fail);refine wpR [3,3,3,1,3,3,3,3,3,1,3,3,3,3,3,3,3,1,3,3,3] (by rfl) (by rfl) ?_
    simp only[stz];refine wpXd (v:=(.bool false)) 4 b (0+36) hcf underlying4 trivial ?_;simp only[stz];refine wpXd (v:=(.int .i64 m)) 3 b 0 hcm underlying3 trivial ?_
    try simp only[nmz]
    refine qS _ _ _ _ _ _ _ _ rfl rfl rfl rfl rfl false (decide_eq_false hz) ?_;simp only[stz];refine wpXd (v:=(.int .i64 m)) 3 b 0 hcm underlying3 trivial ?_
    try simp only[nmz]
    refine qS _ _ _ _ _ _ _ _ rfl rfl rfl rfl rfl true (decide_eq_true hz4) ?_;simp only[stz];go_wp2;go_ret;exact⟨rfl,rfl⟩
   ·have hz4:¬(m:Int)=4:=by omega
    obtain rfl:r=false:=by rw[<-hr];simp[h3,h4]
    clear hr;go_enter func157,ntmps157;go_upto_region 1 with(fail);refine wpR [3,3,3,1,3,3,3,3,3,1,3,3,3,3,3,3,3,1,3,3,3] (by rfl) (by rfl) ?_
    simp only[stz];refine wpXd (v:=(.bool false)) 4 b (0+36) hcf underlying4 trivial ?_;simp only[stz];refine wpXd (v:=(.int .i64 m)) 3 b 0 hcm underlying3 trivial ?_
    try simp only[nmz]
    refine qS _ _ _ _ _ _ _ _ rfl rfl rfl rfl rfl false (decide_eq_false hz) ?_;simp only[stz];refine wpXd (v:=(.int .i64 m)) 3 b 0 hcm underlying3 trivial ?_
    try simp only[nmz]
    refine qS _ _ _ _ _ _ _ _ rfl rfl rfl rfl rfl false (decide_eq_false hz4) ?_;simp only[stz];go_wp2;go_ret;exact⟨rfl,rfl⟩
end
section
open Go.RowKit Go.Proofs.Tryz Go.Lib
def EndsAs(ch:Option (List PanicEntry))(e:Ending):Prop:=match ch with
 |none=>∃v,e=.returned v
 |some c=>e=.panicked c
structure Kept(Kp:World->World->Prop)(n0:Nat):Prop where
 refl:∀W,Kp W W
 trans:∀{A B C},Kp A B->Kp B C->Kp A C
 of0:∀{W W'},Mod NoB W W'->Kp W W'
 put:∀{W:World}{l:Nat}{o:Obj}(o':Obj),W.heap[l]?=some o->o.isCells=false->n0<=l->Kp W (W.putObj l o')
def KSt(St:Nat->Prop)(W W':World):Prop:=Mod (fun k=>¬St k) W W'
theorem kept_st{St:Nat->Prop}{n0:Nat}(hSt:∀k,St k->k<n0):Kept (KSt St) n0 where
 refl W:=Mod.refl _ W
 trans h k:=Mod.trans h k fun _ _ h=>h
 of0 h:=h.mono fun _ _ h=>h.elim
 put o' _ _ hl:=(Mod.refl _ _).grown (grownBy_putObj' _ _ o') (fun k e _ hk=>by cases e;have:=hSt _ hk;omega)
def KSc(St:Nat->Prop)(W W':World):Prop:=KC W W'/\KSt St W W'
theorem kept_sc{St:Nat->Prop}{n0:Nat}(hSt:∀k,St k->k<n0):Kept (KSc St) n0 where
 refl W:=⟨KC.refl _,Mod.refl _ W⟩
 trans h k:=⟨h.1.trans k.1,(kept_st hSt).trans h.2 k.2⟩
 of0 h:=⟨KC.of0 h,(kept_st hSt).of0 h⟩
 put o' h hc hl:=⟨KC.putObj o' h hc,(kept_st hSt).put o' h hc hl⟩
def GivesX(P:Program){α:Type}(gf:Nat)(lb:Array Value)(enc:α->Array Value->World->Prop)(Kp:World->World->Prop)(xs:List α)(ch:Option (List PanicEntry))(w:World):Prop:=
 ∀(l:Nat)(J:List α->World->Prop)(W:World),Mod NoB w W->OwnFrom W.heap.size J->
  (∀pre x rest W1 args,xs=pre++x::rest->J pre W1->enc x args W1->YieldAt Fence.wide 0 P l args W1 fun e W'=>e=.returned (.bool true)/\J (pre++[x]) W'/\Kp W1 W'/\KeepsFrom W.heap.size W1 W')->
  J [] W->Calls P gf (#[.func (.yield l) #[] #[]]++lb) W fun e W'=>EndsAs ch e/\J xs W'
theorem wpIn_rangeFunc_gvx{P:Program}{n:Nat}{α:Type}{g:Operand}{ps:Array Tmp}{assign body:Code}{Q:Exit->Act->World->Prop}{a:Act}{w:World}{gf:Nat}{lb:Array Value}(hg:a.eval g=.func (.func gf) #[] lb)
 (eg:∀args w,(callFunc gf args).run P w=.ok (.enter gf args) w){enc:α->Array Value->World->Prop}{Kp:World->World->Prop}{xs:List α}{ch:Option (List PanicEntry)}{w0:World}(hseq:GivesX P gf lb enc Kp xs ch w0)(hb0:Mod NoB w0 w)(hps:∀x args W,enc x args W->args.size=ps.size)
 (hKp:Kept Kp w.heap.size)
 (I:List α->World->Prop)(hI:OwnFrom w.heap.size I)(h0:I [] w)(Ax:α->Act->World->Prop)(hAx:∀x a',OwnFrom w.heap.size (fun(_:Unit) W=>Ax x a' W))
 (hassign:∀(l:Nat)(pre:List α)(x:α)(rest:List α)(args:Array Value)(W:World)(K:Act->World->Prop),xs=pre++x::rest->I pre W->enc x args W->(∀a' W',KeepsFrom w.heap.size W W'->Kp W W'->I pre W'->Ax x a' W'->K a' W')->
  assign.wpIn (Fence.wide.inRound l) 0 P (Exit.then K (fun _ _ _=>False)) { tmps:=(ps.zip args).foldl (fun t (p,v)=>t.setIfInBounds p v) a.tmps,defers:=[] } W)
 (hbody:∀(l:Nat)(pre:List α)(x:α)(rest:List α)(a':Act)(W:World),xs=pre++x::rest->I pre W->Ax x a' W->
  body.wpIn (Fence.wide.inRound l) 0 P (Exit.then (fun _ W'=>KeepsFrom w.heap.size W W'/\Kp W W'/\I (pre++[x]) W') (fun _ _ _=>False)) a' W)
 (hdone:ch=none->∀(D:Nat)(W:World),w.heap.size<=D->I xs W->W.heap[D]?=some (.deferred (some []))->Q .normal { a with defers:={ target:=.collected D,args:=#[] }::a.defers } W)
 (hfell:∀c,ch=some c->∀(D:Nat)(W:World),w.heap.size<=D->I xs W->W.heap[D]?=some (.deferred (some []))->Q (.panic c) { a with defers:={ target:=.collected D,args:=#[] }::a.defers } W):
 (Code.rangeFunc g ps assign body).wpIn Fence.wide n P Q a w:=by
 refine wpIn_rangeFunc ?_;intro fn hfn;rw[show Fence.wide.round=none from rfl]
 obtain⟨rec,hrec⟩:∃rec:LoopState->Loop,rec=fun st=>{ state:=st,pending:=none,fn,tmps:=a.tmps,params:=ps,assign,body,defers:=w.heap.size }:=⟨_,rfl⟩
 obtain⟨W1,hW1⟩:∃W1,(w.alloc (.deferred (some []))).alloc (.loop (rec .ready))=W1:=⟨_,rfl⟩;have hs1:W1.heap.size=w.heap.size+2:=by rw[<-hW1];simp
 have hL1:W1.heap[w.heap.size+1]?=some (.loop (rec .ready)):=by
  rw[<-hW1];have:=World.alloc_heap_new (w.alloc (.deferred (some []))) (.loop (rec .ready));rwa[World.size_alloc]at this
 have hK1:W1.heap[w.heap.size]?=some (.deferred (some [])):=by
  rw[<-hW1];exact(Below.heap_alloc _ _ _ (by simp)).trans (World.alloc_heap_new w _)
 have hI1:I [] W1:=by rw[<-hW1];exact hI.alloc _ (hI.alloc _ h0)
 have hb1:Mod NoB w0 W1:=by rw[<-hW1];exact(hb0.alloc _).alloc _
 refine⟨w.heap.size+1,[{ target:=.collected w.heap.size,args:=#[] }],W1,{ target:=.fn (.func gf) lb,args:=#[.func (.yield (w.heap.size+1)) #[] #[]] },W1,gf,
  #[.func (.yield (w.heap.size+1)) #[] #[]]++lb,W1,?_,?_,?_,?_,fun h=>(by simp[Fence.wide]at h),?_⟩
 ·rw[<-hW1,hrec];exact run_enterLoop_outer _ _ _ _ _
 ·simp only[resolve,hg]
  simp[go_sem]
 ·intro f' _;trivial
 ·simp[invoke,go_sem,eg]
 ·have hold:∀{A B:World}{row:Option Nat}{k:Nat}{o:Obj},A.grownBy B row->(∀r,row=some r->W1.heap.size<=r/\∃o:Obj,A.heap[r]?=some o/\o.isCells=false)->k<W1.heap.size->A.heap[k]?=some o->B.heap[k]?=some o:=
   fun hg hr hk ho=>(hg.block _ (Array.getElem?_eq_some_iff.1 ho).1 (fun e=>by have:=(hr _ e.symm).1;omega)).trans ho
  have hcalls:=hseq (w.heap.size+1) (fun pre W=>I pre W/\W.heap[w.heap.size+1]?=some (.loop (rec .ready))/\W.heap[w.heap.size]?=some (.deferred (some []))) W1 hb1
   (fun s A B row hs hg' hr=>⟨hI s A B row hs.1 hg' (fun r e=>⟨by have:=(hr r e).1;omega,(hr r e).2⟩),hold hg' hr (by omega) hs.2.1,hold hg' hr (by omega) hs.2.2⟩)
   ?_ ⟨hI1,hL1,hK1⟩
  ·refine(callsIn_wide.2 hcalls).mono ?_
   rintro e W2 ⟨he,hi,hl,hk⟩
   cases ch with
   |none=>
    obtain⟨v,rfl⟩:=he
    exact⟨none,_,by have:=run_endLoop (P:=P) hl (by rw[hrec];simp);rw[hrec]at this;exact this,hdone rfl _ _ (Nat.le_refl _) (hI.putObj _ hi (by omega) hl rfl) ((World.putObj_heap_other (by omega)).trans hk)⟩
   |some c=>
    have he:e=.panicked c:=he;subst he;exact hfell c rfl _ _ (Nat.le_refl _) hi hk
  ·rintro pre x rest W args hxs ⟨hi,hl,hk⟩ hen
   have hlt:w.heap.size+1<W.heap.size:=(Array.getElem?_eq_some_iff.1 hl).1;have hy:=run_yield (P:=P) (args:=args) hl (by rw[hrec];exact hps x args W hen)
   rw[hrec]at hy;refine⟨fn,_,assign,body,hy,roundIn_of_wpIn hfn (hassign _ pre x rest args W _ hxs hi hen ?_)⟩;clear hy;intro a' Wa hkfa hkca hia hax
   have hla:=hkfa.same _ _ (by omega) hl rfl;have hka:=hkfa.same _ _ (Nat.le_refl _) hk rfl;have hlta:w.heap.size+1<Wa.heap.size:=(Array.getElem?_eq_some_iff.1 hla).1
   refine⟨_,run_beginRound hla (by rw[hrec]),?_⟩;obtain⟨Wb,hWb⟩:∃Wb,Wa.putObj (w.heap.size+1) (.loop { rec .ready with state:=.busy })=Wb:=⟨_,rfl⟩
   have hlb:Wb.heap[w.heap.size+1]?=some (.loop { rec .ready with state:=.busy }):=by rw[<-hWb];exact World.putObj_heap_same hlta
   have hkb:Wb.heap[w.heap.size]?=some (.deferred (some [])):=by rw[<-hWb];exact(World.putObj_heap_other (by omega)).trans hka
   have hcb:Kp Wa Wb:=by rw[<-hWb];exact hKp.put _ hla rfl (by omega)
   have hfb:KeepsFrom W1.heap.size Wa Wb:=by
    rw[<-hWb];exact KeepsFrom.of_grownBy (grownBy_putObj' Wa _ _) (fun j e=>by cases e;omega)
   have hib:I pre Wb:=by rw[<-hWb];exact hI.putObj _ hia (by omega) hla rfl
   have haxb:Ax x a' Wb:=by rw[<-hWb];exact(hAx x a').putObj (s:=()) _ hax (by omega) hla rfl
   rw[hWb];refine wpIn_mono (hbody _ pre x rest a' _ hxs hib haxb) ?_;rintro e a3 W3 hp
   cases e with
   |normal=>
    obtain⟨hk3,hc3,hi3⟩:=hp;have hl3:=hk3.same _ _ (by omega) hlb rfl;have hq3:=hk3.same _ _ (Nat.le_refl _) hkb rfl;have hr:=run_endRound (P:=P) none hl3
    rw[hrec]at hr hl3
    refine⟨_,_,hr,rfl,⟨hI.putObj _ hi3 (by omega) hl3 rfl,?_,(World.putObj_heap_other (by omega)).trans hq3⟩,hKp.trans (hKp.trans (hKp.trans hkca hcb) hc3) (hKp.put _ hl3 rfl (by omega)),?_⟩
    ·rw[hrec];exact World.putObj_heap_same (Array.getElem?_eq_some_iff.1 hl3).1
    ·refine KeepsFrom.trans (KeepsFrom.trans (KeepsFrom.trans ?_ hfb) ?_) (KeepsFrom.of_grownBy (grownBy_putObj' W3 _ _) (fun j e=>by cases e;omega))
     ·exact⟨hkfa.size,fun k o hb ho hc=>hkfa.same k o (by omega) ho hc⟩
     ·exact⟨hk3.size,fun k o hb ho hc=>hk3.same k o (by omega) ho hc⟩
   |_=>exact hp.elim
theorem exec_eql_dot{w:World}{o:Oper}{a:Act}(x y:Operand)(yt:TypeId)(ho:o.op=.binOp .eql 113 x y yt)(m n p q:Int)
 (hx:a.eval x=.agg #[.int .i64 m,.int .i64 n])(hy:a.eval y=.agg #[.int .i64 p,.int .i64 q])(b:Bool)(hb:decide (m=p/\n=q)=b):(execOp a.eval o).run prog w=.ok (.value (.bool b)) w:=by
 subst hb
 have h:(binOp .eql 113 (.agg #[.int .i64 m,.int .i64 n]) (.agg #[.int .i64 p,.int .i64 q])).run prog w=.ok (.bool (decide (m=p/\n=q))) w:=by
  go_simp
  by_cases h1:m=p<;>by_cases h2:n=q<;>simp[h1,h2]
 have h1:=run_eqGuard_agg (P:=prog) w .eql 113 x y #[.int .i64 m,.int .i64 n] #[.int .i64 p,.int .i64 q] (by kernel_rfl);unfold execOp
 simp only[ho,hx,hy,Sem.run_bind,h1,Result.andThen_ok,h,Sem.run_pure]
theorem evCells_set2(e:Evt)(dv rv v:Value):(zN e dv rv).setIfInBounds 2 v=zN e v rv:=by
 apply Array.toList_inj.1;simp[zN]
theorem evCells_set38(e:Evt)(dv rv v:Value)(h:e.id.length=32):(zN e dv rv).setIfInBounds 38 v=zN e dv v:=by
 apply Array.toList_inj.1;simp[zN,qA,h,List.set_append]
theorem EvR.one{own:Bool}{w:World}{G:Nat->Prop}{cs:Array Value}{e:Evt}(h:EvR own w G cs e):∀c∈cs,c.oneCell'=true:=by
 obtain⟨dv,rv,rfl,hi,h1,h2,_⟩:=h;exact evCells_one h1.one h2.one
theorem EvR.size{own:Bool}{w:World}{G:Nat->Prop}{cs:Array Value}{e:Evt}(h:EvR own w G cs e):cs.size=39:=by
 obtain⟨dv,rv,rfl,hi,_⟩:=h;exact(zC e dv rv hi).size
theorem sameInts_any(o o':Bool)(G G':Nat->Prop)(va vb:Value)(la lb:List Int)(w:World)(ha:Sl o w G 1 IntC va la)(hb:Sl o' w G' 1 IntC vb lb):
 Calls prog 121 #[va,vb] w (RetM (.bool (decide (la=lb))) w):=by
 obtain⟨aa,ca,rfl,hla,ha⟩:=ha.at;obtain⟨ab,cb,rfl,hlb,hb⟩:=hb.at
 by_cases hlen:la.length=lb.length
 ·have e1:((la.length:Int)==(lb.length:Int))=true:=by simp[hlen]
  have H:=hid hlen;have HA:=hid ha;have HB:=hid hb;clear hlen ha hb;go_enter func121,ntmps121;go_wp2
  go_loopw [5,6] (SameRel la lb w) (fun _ i _=>la.length-(intOf i).toNat)
  case atStart=>exact⟨0,by omega,rfl,by rw[pre_zero],Mod.refl _ _⟩
  case round=>
   obtain⟨k,hk,rfl,rfl,hm⟩:=hrel
   rename_i wr
   by_cases hs:pre k la lb=true
   ·by_cases hlt:k<la.length
    ·have hlt':k<lb.length:=by rw[<-H.out];exact hlt
     obtain⟨ba,oa,rfl,-,-,hca⟩:=HA.out k hlt;obtain⟨bb,ob,rfl,-,-,hcb⟩:=HB.out k hlt';obtain⟨_,-,rfl,hca⟩:=hca k hlt;obtain⟨_,-,rfl,hcb⟩:=hcb k hlt'
     have h1:wr.cell? ⟨ba,oa+k,none⟩=some (.int .i64 la[k]):=by have:=CellsAt.one.1 (hca.keep hm id);simpa using this
     have h2:wr.cell? ⟨bb,ob+k,none⟩=some (.int .i64 lb[k]):=by have:=CellsAt.one.1 (hcb.keep hm id);simpa using this
     clear hca hcb;have hps:=hid (pre_succ hlt hlt' hs);go_wp2_with fail
     go_quiet (fail)
     go_wp2
     go_roundw
     case rel=>exact⟨k+1,by omega,by go_num,by rw[hps.out];rfl,hm.drewN _⟩
     case measure=>simp[intOf];omega
    ·go_wp2
     go_ret;exact⟨by rw[<-pre_full H.out (Nat.le_of_not_lt hlt),hs];rfl,hm⟩
   ·have hs':pre k la lb=false:=by simpa using hs
    have hps:=hid (pre_false hs');clear hs;go_wp2;go_ret;exact⟨by rw[hps.out];rfl,hm⟩
 ·have e1:((la.length:Int)==(lb.length:Int))=false:=by simp;omega
  have hps:=hid (decide_eq_false (show ¬la=lb by rintro rfl;exact hlen rfl));clear hlen;go_enter func121,ntmps121;go_wp2;refine wp_loop_once ?_;go_wp2;go_ret
  exact⟨by rw[hps.out];rfl,Mod.refl _ _⟩
theorem sameEvent_eq(o o':Bool)(G G':Nat->Prop)(ca cb:Array Value)(e:Evt)(w:World)(ha:EvR o w G ca e)(hb:EvR o' w G' cb e):
 Calls prog 61 #[.agg ca,.agg cb] w (RetM (.bool true) w):=by
 obtain⟨dv1,rv1,hca,hi1,hd1,hr1,-,-⟩:=ha;obtain⟨dv2,rv2,hcb,hi2,hd2,hr2,-,-⟩:=hb;have cA:=zC e dv1 rv1 hi1;rw[<-hca]at cA;clear hca
 have cB:=zC e dv2 rv2 hi2;rw[<-hcb]at cB;clear hcb;go_enter func61,ntmps61;go_upto_region 1 with(fail)
 have hM:Mod NoB w ((w.alloc (.cells ca 115)).alloc (.cells cb 115)):=((Mod.refl _ _).alloc _).alloc _
 have hA:=CellsAt.whole (heap_alloc2_old w (.cells ca 115) (.cells cb 115));have hB:=CellsAt.whole (heap_alloc2_new w (.cells ca 115) (.cells cb 115))
 generalize ((w.alloc (.cells ca 115)).alloc (.cells cb 115))=W at hM hA hB |-;replace hd1:=hd1.keep hM (fun _ _=>id) (fun _ _ h=>h)
 replace hd2:=hd2.keep hM (fun _ _=>id) (fun _ _ h=>h);replace hr1:=hr1.keep hM (fun _ _=>id) (fun _ _ h=>h);replace hr2:=hr2.keep hM (fun _ _=>id) (fun _ _ h=>h)
 have hAd:=hA.part (i:=0) (j:=2) (by rw[cA.size];omega);have hBd:=hB.part (i:=0) (j:=2) (by rw[cB.size];omega)
 have hAi:=hA.part (i:=6) (j:=38) (by rw[cA.size];omega);have hBi:=hB.part (i:=6) (j:=38) (by rw[cB.size];omega)
 rw[cA.dot]at hAd;rw[cB.dot]at hBd;rw[cA.id]at hAi;rw[cB.id]at hBi;have hS:Mod NoB W W:=Mod.refl _ _
 refine wp_region_seq [3,0,3,0,0,3,3,0,3,0,1,3,3,3,0,3,0,0,3,3,3,0,3,0,0,3,3,3,0,3,0,0,3,3,3,0,3,0,0,3,3,3,0,3,0,1,3,3] (fun w'=>Mod NoB W w') (by rfl) (by rfl) hS ?_
 simp only[stz];refine qM rfl (fun w' hS=>zI _ _ rfl _ _ rfl _ (hAd.keep hS id) _ underlying113 rfl 2 (by kernel_rfl) rfl) ?_;simp only[stz]
 refine qM rfl (fun w' hS=>zI _ _ rfl _ _ rfl _ (hBd.keep hS id) _ underlying113 rfl 2 (by kernel_rfl) rfl) ?_;simp only[nmz]
 refine qM rfl (fun w' hS=>exec_eql_dot _ _ _ rfl _ _ _ _ rfl rfl true (decide_eq_true ⟨rfl,rfl⟩)) ?_;simp only[stz]
 refine qM rfl (fun w' hS=>zE _ _ rfl _ _ rfl _ (hS.cell id (hA.cell cA.c2)) _ underlying64 rfl) ?_;simp only[stz]
 refine qM rfl (fun w' hS=>zE _ _ rfl _ _ rfl _ (hS.cell id (hB.cell cB.c2)) _ underlying64 rfl) ?_;simp only[nmz];refine qN rfl (fun K hK=>?_)
 refine qB (qC 121 [.tmp 12,.tmp 14] _ rfl _ func121 rfl (by kernel_rfl) [dv1,dv2] rfl _) (sameInts_any _ _ _ _ _ _ _ _ _ (hd1.keep0 hS) (hd2.keep0 hS)) ?_
 rintro e' w1 ⟨rfl,hm1⟩;replace hS:=hS.trans0 hm1;rw[decide_eq_true rfl];refine⟨_,rfl,hK _ _ hS ?_⟩;clear hK K hm1;simp only[stz]
 refine qM rfl (fun w' hS=>zE _ _ rfl _ _ rfl _ (hS.cell id (hA.cell cA.c3)) _ underlying3 rfl) ?_;simp only[stz]
 refine qM rfl (fun w' hS=>zE _ _ rfl _ _ rfl _ (hS.cell id (hB.cell cB.c3)) _ underlying3 rfl) ?_;simp only[nmz]
 refine qM rfl (fun w' hS=>exec_eql_int 3 _ _ _ rfl .i64 _ _ rfl rfl true (decide_eq_true rfl)) ?_;simp only[stz]
 refine qM rfl (fun w' hS=>zE _ _ rfl _ _ rfl _ (hS.cell id (hA.cell cA.c4)) _ underlying9 rfl) ?_;simp only[stz]
 refine qM rfl (fun w' hS=>zE _ _ rfl _ _ rfl _ (hS.cell id (hB.cell cB.c4)) _ underlying9 rfl) ?_;simp only[nmz]
 refine qM rfl (fun w' hS=>exec_eql_str _ _ _ _ rfl _ _ rfl rfl true (decide_eq_true rfl)) ?_;simp only[stz]
 refine qM rfl (fun w' hS=>zE _ _ rfl _ _ rfl _ (hS.cell id (hA.cell cA.c5)) _ underlying9 rfl) ?_;simp only[stz]
 refine qM rfl (fun w' hS=>zE _ _ rfl _ _ rfl _ (hS.cell id (hB.cell cB.c5)) _ underlying9 rfl) ?_;simp only[nmz]
 refine qM rfl (fun w' hS=>exec_eql_str _ _ _ _ rfl _ _ rfl rfl true (decide_eq_true rfl)) ?_;simp only[stz]
 refine qM rfl (fun w' hS=>zI _ _ rfl _ _ rfl _ (hAi.keep hS id) _ underlying24 rfl 32 (by kernel_rfl) (by rw[qD,hi1])) ?_;simp only[stz]
 refine qM rfl (fun w' hS=>zI _ _ rfl _ _ rfl _ (hBi.keep hS id) _ underlying24 rfl 32 (by kernel_rfl) (by rw[qD,hi2])) ?_;simp only[nmz]
 refine qM rfl (fun w' hS=>exec_eql_id _ _ _ _ rfl _ _ rfl rfl 32 5 underlying24 underlying5 (by kernel_rfl) (by kernel_rfl) hi1 hi2 true (decide_eq_true rfl)) ?_
 simp only[stz];refine qM rfl (fun w' hS=>zE _ _ rfl _ _ rfl _ (hS.cell id (hA.cell cA.c38)) _ underlying25 rfl) ?_;simp only[stz]
 refine qM rfl (fun w' hS=>zE _ _ rfl _ _ rfl _ (hS.cell id (hB.cell cB.c38)) _ underlying25 rfl) ?_;simp only[nmz];refine qN rfl (fun K hK=>?_)
 refine qB (qC 24 [.tmp 47,.tmp 49] _ rfl _ func24 rfl (by kernel_rfl) [rv1,rv2] rfl _) (yH _ _ _ _ _ _ _ _ _ (hr1.keep0 hS) (hr2.keep0 hS)) ?_
 rintro e' w1 ⟨rfl,hm1⟩;replace hS:=hS.trans0 hm1;rw[decide_eq_true rfl];refine⟨_,rfl,hK _ _ hS ?_⟩;clear hK K hm1;simp only[stz];go_wp2;go_ret
 exact⟨rfl,Mod.trans hM hS (fun _ _ h=>h)⟩
def SameRelE(n:Nat)(w0:World)(s i:Value)(w:World):Prop:=∃k:Nat,k<=n/\i=.int .i64 k/\s=.bool true/\Mod NoB w0 w
theorem sameEvents_eq(o o':Bool)(E G E' G':Nat->Prop)(va vb:Value)(l:List Evt)(w:World)(ha:Sl o w E 39 (EvR o w G) va l)(hb:Sl o' w E' 39 (EvR o' w G') vb l):
 Calls prog 52 #[va,vb] w (RetM (.bool true) w):=by
 obtain⟨aa,ca,rfl,hla,ha⟩:=ha.at;obtain⟨ab,cb,rfl,hlb,hb⟩:=hb.at;have e1:((l.length:Int)==(l.length:Int))=true:=by simp
 have HA:=hid ha;have HB:=hid hb;clear ha hb;go_enter func52,ntmps52;go_wp2
 go_loopw [5,6] (SameRelE l.length w) (fun _ i _=>l.length-(intOf i).toNat)
 case atStart=>exact⟨0,by omega,rfl,rfl,Mod.refl _ _⟩
 case round=>
  obtain⟨k,hk,rfl,rfl,hm⟩:=hrel
  rename_i wr
  by_cases hlt:k<l.length
  ·obtain⟨ba,oa,rfl,-,-,hca⟩:=HA.out k hlt
   obtain⟨bb,ob,rfl,-,-,hcb⟩:=HB.out k hlt;obtain⟨c1,hcs1,hca0,hca⟩:=hca k hlt;obtain⟨c2,hcs2,hcb0,hcb⟩:=hcb k hlt
   have HS1:=hid hcs1;have HS2:=hid hcs2;clear hcs1 hcs2;clear HA HB;go_wp2_with fail;have hS:=hm.drew
   refine wpRP [(0,3),(1,3),(2,3),(3,0),(4,3),(5,3),(6,3),(7,0),(8,1),(9,3)] [] (fun w'=>Mod NoB w w') hS ?_;simp only[stz]
   refine qQ _ _ _ _ _ _ _ _ _ rfl rfl rfl rfl underlying72 (n:=39) (by kernel_rfl) hlt ?_;simp only[nmz]
   refine qM rfl (fun w' hS=>zI _ _ rfl _ _ rfl _ (hca.keep hS id) _ underlying115 rfl 39 (by kernel_rfl) HS1.out) ?_;simp only[stz]
   refine qQ _ _ _ _ _ _ _ _ _ rfl rfl rfl rfl underlying72 (n:=39) (by kernel_rfl) hlt ?_;simp only[nmz]
   refine qM rfl (fun w' hS=>zI _ _ rfl _ _ rfl _ (hcb.keep hS id) _ underlying115 rfl 39 (by kernel_rfl) HS2.out) ?_;simp only[nmz]
   refine qN rfl (fun K hK=>?_)
   refine qB (qC 61 [.tmp 24,.tmp 28] _ rfl _ func61 rfl (by kernel_rfl) [.agg c1,.agg c2] rfl _) (sameEvent_eq _ _ _ _ _ _ _ _ (hca0.keep0 hS) (hcb0.keep0 hS)) ?_
   rintro e' w1 ⟨rfl,hm1⟩;replace hS:=hS.trans0 hm1;refine⟨_,rfl,hK _ _ hS ?_⟩;clear hK K hm1 hm;simp only[stz];go_wp2
   go_roundw
   case rel=>exact⟨k+1,by omega,by go_num,rfl,hS⟩
   case measure=>simp[intOf];omega
  ·go_wp2
   go_ret;exact⟨rfl,hm⟩
def DotC(cs:Array Value)(x:Int×Int):Prop:=cs=#[.int .i64 x.1,.int .i64 x.2]
theorem sameDots_any(o o':Bool)(G G':Nat->Prop)(va vb:Value)(la lb:List (Int×Int))(w:World)(ha:Sl o w G 2 DotC va la)(hb:Sl o' w G' 2 DotC vb lb):
 Calls prog 58 #[va,vb] w (RetM (.bool (decide (la=lb))) w):=by
 obtain⟨aa,ca,rfl,hla,ha⟩:=ha.at;obtain⟨ab,cb,rfl,hlb,hb⟩:=hb.at
 by_cases hlen:la.length=lb.length
 ·have e1:((la.length:Int)==(lb.length:Int))=true:=by simp[hlen]
  have H:=hid hlen;have HA:=hid ha;have HB:=hid hb;clear hlen ha hb;go_enter func58,ntmps58;go_wp2
  go_loopw [5,6] (SameRel la lb w) (fun _ i _=>la.length-(intOf i).toNat)
  case atStart=>exact⟨0,by omega,rfl,by rw[pre_zero],Mod.refl _ _⟩
  case round=>
   obtain⟨k,hk,rfl,rfl,hm⟩:=hrel
   rename_i wr
   by_cases hs:pre k la lb=true
   ·by_cases hlt:k<la.length
    ·have hlt':k<lb.length:=by rw[<-H.out];exact hlt
     obtain⟨ba,oa,rfl,-,-,hca⟩:=HA.out k hlt;obtain⟨bb,ob,rfl,-,-,hcb⟩:=HB.out k hlt';obtain⟨_,-,rfl,hca⟩:=hca k hlt;obtain⟨_,-,rfl,hcb⟩:=hcb k hlt'
     have hps:=hid (pre_succ hlt hlt' hs)
     have hdd:decide ((la[k]).1=(lb[k]).1/\(la[k]).2=(lb[k]).2)=decide (la[k]=lb[k]):=by rw[decide_eq_decide];exact Prod.ext_iff.symm
     have HDD:=hid hdd;clear HA HB hdd;go_wp2_with fail;have hS:=hm.drew
     refine wpRP [(0,3),(1,3),(2,3),(3,0),(4,3),(5,3),(6,3),(7,0),(8,0),(9,3)] [] (fun w'=>Mod NoB w w') hS ?_;simp only[stz]
     refine qQ _ _ _ _ _ _ _ _ _ rfl rfl rfl rfl underlying116 (n:=2) (by kernel_rfl) hlt ?_;simp only[nmz]
     refine qM rfl (fun w' hS=>zI _ _ rfl _ _ rfl _ (hca.keep hS id) _ underlying113 rfl 2 (by kernel_rfl) rfl) ?_;simp only[stz]
     refine qQ _ _ _ _ _ _ _ _ _ rfl rfl rfl rfl underlying116 (n:=2) (by kernel_rfl) hlt' ?_;simp only[nmz]
     refine qM rfl (fun w' hS=>zI _ _ rfl _ _ rfl _ (hcb.keep hS id) _ underlying113 rfl 2 (by kernel_rfl) rfl) ?_;simp only[nmz]
     refine qM rfl (fun w' hS=>exec_eql_dot _ _ _ rfl _ _ _ _ rfl rfl _ HDD.out) ?_;simp only[stz];go_wp2
     go_roundw
     case rel=>exact⟨k+1,by omega,by go_num,by rw[hps.out],hS⟩
     case measure=>simp[intOf];omega
    ·go_wp2
     go_ret;exact⟨by rw[<-pre_full H.out (Nat.le_of_not_lt hlt),hs];rfl,hm⟩
   ·have hs':pre k la lb=false:=by simpa using hs
    have hps:=hid (pre_false hs');clear hs;go_wp2;go_ret;exact⟨by rw[hps.out];rfl,hm⟩
 ·have e1:((la.length:Int)==(lb.length:Int))=false:=by simp;omega
  have hps:=hid (decide_eq_false (show ¬la=lb by rintro rfl;exact hlen rfl));clear hlen;go_enter func58,ntmps58;go_wp2;refine wp_loop_once ?_;go_wp2;go_ret
  exact⟨by rw[hps.out];rfl,Mod.refl _ _⟩
theorem Sl.inside{α:Type}{own:Bool}{w:World}{G:Nat->Prop}{sz:Nat}{R:Array Value->α->Prop}{v:Value}{l:List α}(h:Sl own w G sz R v l)(hz:0<sz):Sl own w (fun k=>k<w.heap.size) sz R v l:=by
 obtain⟨ad,cap,e,h1,h2,h3⟩:=h;refine⟨ad,cap,e,h1,h2,fun hne=>?_⟩;obtain⟨b,off,ha,hG,ho,hc⟩:=h3 hne;refine⟨b,off,ha,?_,ho,hc⟩
 cases l with
 |nil=>exact absurd rfl hne
 |cons x l=>
  obtain⟨cs,hs,_,hcs⟩:=hc 0 (by simp);have h0:=hcs 0 (by omega);rw[Array.getElem?_eq_getElem (by omega:0<cs.size)]at h0;exact block_lt_of_cell h0
def evt0:Evt:=⟨0,0,[],0,ByteArray.empty,ByteArray.empty,List.replicate 32 0,[]⟩
def evZero:Value:=.agg (zN evt0 (.slice none 0 0) (.slice none 0 0))
theorem infoEvV:(prog.info? 115).map (fun i=>(i.zero,i.size,i.bytes))=some (some evZero,39,136):=by kernel_rfl
theorem zeroEvV:(prog.info? 115).bind (·.zero)=some evZero:=by kernel_rfl
def intInfoV:Value:=.int .i64 0
def idInfoV:Value:=.agg (Array.replicate 32 (.int .u8 0))
theorem infoIntV:(prog.info? 3).map (fun i=>(i.zero,i.size,i.bytes))=some (some intInfoV,1,8):=by kernel_rfl
theorem infoIdV:(prog.info? 24).map (fun i=>(i.zero,i.size,i.bytes))=some (some idInfoV,32,32):=by kernel_rfl
theorem cloneInts_any(own:Bool)(G:Nat->Prop)(v:Value)(l:List Int)(w:World)(hl:Sl own w G 1 IntC v l)(hlen:l.length<=1048576):
 Calls prog 129 #[v] w (RetN w fun v' w'=>Sl true w' (New w w') 1 IntC v' l):=by
 obtain⟨css,hall,hsz,hsrc⟩:=hl.src (by omega)
 by_cases hnil:∃n c,v=.slice none n c
 ·obtain⟨n,c,rfl⟩:=hnil
  have h0:l=[]/\n=0:=by
   obtain⟨h1,ad,c',h2,h3⟩:=hsrc
   cases h2
   by_cases hne:l.length=0
   ·exact⟨List.eq_nil_of_length_eq_zero hne,hne⟩
   ·obtain⟨b,off,h4,_⟩:=h3 hne
    cases h4
  obtain⟨rfl,rfl⟩:=h0;have he:=fun w=>Lib.run_eql_slice_nil (P:=prog) w 64 3 none 0 c 0 0 underlying64;go_enter func129,ntmps129;go_wp2;go_ret
  exact⟨_,rfl,Mod.refl _ _,Sl.nil _ _ _ _ _⟩
 have hsome:∃a0 n c,v=.slice (some a0) n c:=by
  obtain⟨h1,ad,c',h2,h3⟩:=hsrc
  cases ad with
  |none=>exact absurd ⟨_,_,h2⟩ hnil
  |some a0=>exact⟨a0,_,_,h2⟩
 obtain⟨a0,n0,c0,rfl⟩:=hsome;have he:=fun w=>Lib.run_eql_slice_nil (P:=prog) w 64 3 (some a0) n0 c0 0 0 underlying64;go_enter func129,ntmps129
 go_upto_region 3 with(fail);refine wpR [1,3,1,3] (by rfl) (by rfl) ?_;simp only[stz];refine wpDo rfl ?_
 refine yZ 64 3 (by rfl) underlying64 (by kernel_rfl) (fun w1 hb hm hs=>?_);simp only[stz];refine wpDo rfl ?_
 refine jF _ _ 64 3 intInfoV 1 8 (by rfl) underlying64 infoIntV (by rfl) (by omega) w.heap.size _ 0 [] (by rfl) (owns_empty _ hb (Nat.le_refl _)) _ l.length (css.flatMap Array.toList) (by rfl) (?_:Src w1 1 _ l.length (css.flatMap Array.toList)) (all2_one hall fun _ _=>intC_one) (by unfold maxLen;omega) (by omega) (by omega) (fun v' w2 hown hgrow _=>?_)
 ·obtain⟨h1,ad,c,h2,h3⟩:=hsrc
  refine⟨h1,ad,c,h2,fun hne=>?_⟩;obtain⟨b,off,h4,h5⟩:=h3 hne;exact⟨b,off,h4,fun j x hx=>hm.cell id (h5 j x hx)⟩
 simp only[stz];go_wp2;go_ret;have hm2:Mod NoB w w2:=hm.grown hgrow (fun k hk hlt=>by simp[Value.ownBlock]at hk;omega);refine⟨_,rfl,hm2,?_⟩
 have:=Sl.of_owns hown (by simp) hsz hall (by simp);exact this.mono (fun k hk=>⟨hk.1,hk.2.1⟩) fun _ _ h=>h
theorem cloneIDs_any(own:Bool)(G:Nat->Prop)(v:Value)(l:List (List UInt8))(w:World)(hl:Sl own w G 32 IdC v l)(hlen:l.length<=1048576):
 Calls prog 130 #[v] w (RetN w fun v' w'=>Sl true w' (New w w') 32 IdC v' l):=by
 obtain⟨css,hall,hsz,hsrc⟩:=hl.src (by omega)
 by_cases hnil:∃n c,v=.slice none n c
 ·obtain⟨n,c,rfl⟩:=hnil
  have h0:l=[]/\n=0:=by
   obtain⟨h1,ad,c',h2,h3⟩:=hsrc
   cases h2
   by_cases hne:l.length=0
   ·exact⟨List.eq_nil_of_length_eq_zero hne,hne⟩
   ·obtain⟨b,off,h4,_⟩:=h3 hne
    cases h4
  obtain⟨rfl,rfl⟩:=h0;have he:=fun w=>Lib.run_eql_slice_nil (P:=prog) w 25 24 none 0 c 0 0 underlying25;go_enter func130,ntmps130;go_wp2;go_ret
  exact⟨_,rfl,Mod.refl _ _,Sl.nil _ _ _ _ _⟩
 have hsome:∃a0 n c,v=.slice (some a0) n c:=by
  obtain⟨h1,ad,c',h2,h3⟩:=hsrc
  cases ad with
  |none=>exact absurd ⟨_,_,h2⟩ hnil
  |some a0=>exact⟨a0,_,_,h2⟩
 obtain⟨a0,n0,c0,rfl⟩:=hsome;have he:=fun w=>Lib.run_eql_slice_nil (P:=prog) w 25 24 (some a0) n0 c0 0 0 underlying25;go_enter func130,ntmps130
 go_upto_region 3 with(fail);refine wpR [1,3,1,3] (by rfl) (by rfl) ?_;simp only[stz];refine wpDo rfl ?_
 refine yZ 25 24 (by rfl) underlying25 (by kernel_rfl) (fun w1 hb hm hs=>?_);simp only[stz];refine wpDo rfl ?_
 refine jF _ _ 25 24 idInfoV 32 32 (by rfl) underlying25 infoIdV (by rfl) (by omega) w.heap.size _ 0 [] (by rfl) (owns_empty _ hb (Nat.le_refl _)) _ l.length (css.flatMap Array.toList) (by rfl) (?_:Src w1 32 _ l.length (css.flatMap Array.toList)) (all2_one hall fun _ _=>idC_one) (by unfold maxLen;omega) (by omega) (by omega) (fun v' w2 hown hgrow _=>?_)
 ·obtain⟨h1,ad,c,h2,h3⟩:=hsrc
  refine⟨h1,ad,c,h2,fun hne=>?_⟩;obtain⟨b,off,h4,h5⟩:=h3 hne;exact⟨b,off,h4,fun j x hx=>hm.cell id (h5 j x hx)⟩
 simp only[stz];go_wp2;go_ret;have hm2:Mod NoB w w2:=hm.grown hgrow (fun k hk hlt=>by simp[Value.ownBlock]at hk;omega);refine⟨_,rfl,hm2,?_⟩
 have:=Sl.of_owns hown (by simp) hsz hall (by simp);exact this.mono (fun k hk=>⟨hk.1,hk.2.1⟩) fun _ _ h=>h
def EvOk(e:Evt):Prop:=e.deps.length<=1048576/\e.refs.length<=1048576
def Inn(Z:Nat->Prop)(base:Nat)(v:Value)(w:World):Nat->Prop:=fun k=>base<=k/\k<w.heap.size/\v.ownBlock≠some k/\¬Z k
def EvGs(Z:Nat->Prop)(base:Nat)(w:World)(v:Value)(l:List Evt):Prop:=
 ∃css,w.ownsRow base 115 39 v l.length (css.flatMap Array.toList)/\(∀c∈css,c.size=39)/\All2 (EvR true w (Inn Z base v w)) css l
section
variable{Z:Nat->Prop}{base:Nat}{l:List Evt}{v:Value}{w w':World}
theorem EvGs.nil(Z:Nat->Prop)(base:Nat)(w:World):EvGs Z base w (.slice none 0 0) []:=⟨[],World.ownsRow_nil _ _ _ _,by simp,by simpa using All2.nil⟩
theorem EvGs.keep{S:Nat->Prop}(h:EvGs Z base w v l)(hm:Mod S w w')(hr:∀k,v.ownBlock=some k->¬S k)(hS:∀k,Inn Z base v w k->¬S k):EvGs Z base w' v l:=by
 obtain⟨css,h1,h2,h3⟩:=h;exact⟨css,zZ h1 hm hr,h2,h3.imp fun _ _ h=>(h.keep hm hS).mono fun k hk=>⟨hk.1,Nat.lt_of_lt_of_le hk.2.1 hm.size,hk.2.2⟩⟩
theorem EvGs.keep0(h:EvGs Z base w v l)(hm:Mod NoB w w'):EvGs Z base w' v l:=h.keep hm (fun _ _=>id) (fun _ _=>id)
theorem EvGs.apart{Z':Nat->Prop}(h:EvGs Z base w v l)(hz:∀k,Inn Z base v w k->¬Z' k):EvGs Z' base w v l:=by
 obtain⟨css,h1,h2,h3⟩:=h;exact⟨css,h1,h2,h3.imp fun _ _ h=>h.mono fun k hk=>⟨hk.1,hk.2.1,hk.2.2.1,hz k hk⟩⟩
theorem EvGs.lt(h:EvGs Z base w v l){q:Nat}(hq:v.ownBlock=some q):base<=q/\q<w.heap.size:=by
 obtain⟨css,h1,-⟩:=h;exact h1.lt q hq
theorem EvGs.one(h:EvGs Z base w v l):v.oneCell'=true:=by
 obtain⟨css,h1,-⟩:=h;exact yC h1
theorem EvGs.sl(h:EvGs Z base w v l):Sl true w (fun k=>base<=k/\k<w.heap.size/\v.ownBlock=some k) 39 (EvR true w (Inn Z base v w)) v l:=by
 obtain⟨css,h1,h2,h3⟩:=h;exact Sl.of_owns h1 rfl h2 h3 rfl
theorem EvGs.slb(h:EvGs Z base w v l):Sl true w (fun k=>base<=k/\k<w.heap.size) 39 (EvR true w (fun k=>base<=k/\k<w.heap.size)) v l:=
 h.sl.mono (fun _ h=>⟨h.1,h.2.1⟩) (fun _ _ h=>h.mono fun _ h=>⟨h.1,h.2.1⟩)
theorem EvGs.based{b':Nat}(h:EvGs Z base w v l)(hb:b'<=base):EvGs Z b' w v l:=by
 obtain⟨css,h1,h2,h3⟩:=h;exact⟨css,owns_base h1 hb,h2,h3.imp fun _ _ h=>h.mono fun k hk=>⟨Nat.le_trans hb hk.1,hk.2⟩⟩
theorem wp_evs{o:Oper}{a:Act}{K:Act->World->Prop}{Q:Exit->Act->World->Prop}(s x:Operand)(ho:o.op=.call { callee:=.builtin .append,args:=#[s,x],argTypes:=#[72,72] })
 (hs:a.eval s=v)(hg:EvGs Z base w v l)(b:Nat)(cs:Array Value)(e:Evt)(hx:a.eval x=.slice (some ⟨b,0,none⟩) 1 1)(hb:w.heap[b]?=some (.cells cs 115 (0,0)))(hy:EvR true w (Inn Z base v w) cs e)
 (hlen:l.length<=1048576)(hbase:base<=w.heap.size)
 (h:∀v' w',EvGs Z base w' v' (l++[e])->(v'.ownBlock=v.ownBlock\/v'.ownBlock=some w.heap.size)->Mod (fun q=>v.ownBlock=some q) w w'->K (a.put o.dst v') w'):o.wp prog a w K Q:=by
 obtain⟨css,h1,h2,h3⟩:=hg
 refine jF s x 72 115 evZero 39 136 ho underlying72 infoEvV (by rfl) (by omega) base v l.length (css.flatMap Array.toList) hs h1 _ 1 cs.toList hx
  (⟨by simp[hy.size],_,_,rfl,fun _=>⟨_,_,rfl,fun j x hx=>by rw[Nat.zero_add,cell_of_row w b _ _ _ _ hb];simpa using hx⟩⟩:Src w 39 _ 1 cs.toList)
  (fun c hc=>hy.one c (by simpa using hc)) (by unfold maxLen;omega) (by omega) hbase (fun v1 w3 hown hgrow hvv=>?_)
 have hm:Mod (fun k=>v.ownBlock=some k) w w3:=(Mod.refl _ _).grown hgrow (fun k hk _=>hk)
 have up:∀x y,EvR true w (Inn Z base v w) x y->EvR true w3 (Inn Z base v1 w3) x y:=fun x y h=>
  (h.keep hm (fun k hk=>hk.2.2.1)).mono fun k hk=>⟨hk.1,Nat.lt_of_lt_of_le hk.2.1 hm.size,by
   rcases hvv with hv|hv<;>rw[hv]
   ·exact hk.2.2.1
   ·have:=hk.2.1;intro e;cases e;omega,hk.2.2.2⟩
 refine h v1 w3 ⟨css++[cs],by simpa using hown,fun c hc'=>?_,(h3.imp up).snoc (up _ _ hy)⟩ hvv hm
 rcases List.mem_append.1 hc' with h|h
 ·exact h2 c h
 ·have:c=cs:=by simpa using h
  rw[this];exact hy.size
end
def dotEnc(d:Int×Int):List Value:=[.int .i64 d.1,.int .i64 d.2]
theorem dotEnc_len:∀d,(dotEnc d).length=2:=fun _=>rfl
theorem dotEnc_one:∀d,∀c∈dotEnc d,c.oneCell'=true:=by
 intro d c hc;simp only[dotEnc,List.mem_cons,List.not_mem_nil,or_false]at hc
 rcases hc with rfl|rfl<;>rfl
theorem dot_i:(prog.info? 113).map (fun i=>(i.zero,i.size,i.bytes))=some (some (.agg #[.int .i64 0,.int .i64 0]),2,16):=by kernel_rfl
abbrev DotGs(base:Nat)(w:World)(v:Value)(l:List (Int×Int)):Prop:=Gat dotEnc 113 2 base w v l
theorem DotGs.sl{base:Nat}{w:World}{v:Value}{l:List (Int×Int)}(h:DotGs base w v l):Sl true w (fun q=>base<=q/\q<w.heap.size/\v.ownBlock=some q) 2 DotC v l:=
 (Gat.sl h dotEnc_len).mono (fun _ h=>h) (fun _ _ h=>h)
theorem wp_dots{o:Oper}{a:Act}{w:World}{K:Act->World->Prop}{Q:Exit->Act->World->Prop}(s x:Operand)(ho:o.op=.call { callee:=.builtin .append,args:=#[s,x],argTypes:=#[116,116] })
 {base:Nat}{v:Value}{l:List (Int×Int)}(hs:a.eval s=v)(hg:DotGs base w v l)(b:Nat)(d:Int×Int)(hx:a.eval x=.slice (some ⟨b,0,none⟩) 1 1)(hb:w.heap[b]?=some (.cells (dotEnc d).toArray 113 (0,0)))
 (hlen:l.length<=1048576)(hbase:base<=w.heap.size)
 (h:∀v' w',DotGs base w' v' (l++[d])->(v'.ownBlock=v.ownBlock\/v'.ownBlock=some w.heap.size)->Mod (fun q=>v.ownBlock=some q) w w'->K (a.put o.dst v') w'):o.wp prog a w K Q:=by
 refine jF s x 116 113 (.agg #[.int .i64 0,.int .i64 0]) 2 16 ho underlying116 dot_i (by rfl) (by omega) base v l.length _ hs hg _ 1 _ hx (src_lit dotEnc_len hb) (fun c hc=>?_) (by unfold maxLen;omega) (by omega) hbase (fun v' w' ho' hg hv=>?_)
 ·obtain⟨y,_,hy⟩:=List.mem_flatMap.1 hc
  exact dotEnc_one y c hy
 ·refine h v' w' ?_ hv ((Mod.refl _ _).grown hg (fun k e _=>e))
  show w'.ownsRow base 113 2 v' (l++[d]).length ((l++[d]).flatMap dotEnc)
  rw[List.length_append,List.flatMap_append];exact ho'
end
section
open Go.Proofs.Tryz Go.Lib
def atV(v:List Int)(r:Int):Int:=if r<1\/(v.length:Int)<r then 0 else max (v.getD (r-1).toNat 0) 0
def hasV(v:List Int)(r n:Int):Bool:=decide (1<=r/\1<=n/\n<=atV v r)
theorem atV_out{v:List Int}{r:Int}(h:(v.length:Int)<r):atV v r=0:=by
 unfold atV;rw[if_pos (.inr h)]
def keptE(v:List Int)(l:List Evt):List Evt:=l.filter fun e=> !hasV v e.r e.n
def goneE(v:List Int)(l:List Evt):List (Int×Int):=(l.filter fun e=>hasV v e.r e.n).map fun e=>(e.r,e.n)
theorem keptE_snoc(v:List Int)(l:List Evt)(e:Evt):keptE v (l++[e])=keptE v l++(if hasV v e.r e.n then []else [e]):=by
 unfold keptE;rw[List.filter_append]
 cases h:hasV v e.r e.n<;>simp[h]
theorem goneE_snoc(v:List Int)(l:List Evt)(e:Evt):goneE v (l++[e])=goneE v l++(if hasV v e.r e.n then [(e.r,e.n)]else []):=by
 unfold goneE;rw[List.filter_append,List.map_append]
 cases h:hasV v e.r e.n<;>simp[h]
end
section
open Go.RowKit Go.Proofs.Tryz Go.Lib
section
variable{P:Program}{ops:Array Oper}{Q:Exit->Act->World->Prop}{S:World->Prop}{o:Oper}{r:List (Oper×Nat)}{a:Act}{w:World}
theorem wpPi_subTo(t:TypeId)(x y:Operand)(yt:TypeId)(m n z:Int)(hw:Region.wanted o (yielded ops a.tmps)=true)(ho:o.op=.binOp .sub t x y yt)(hx:a.eval x=.int .i64 m)(hy:a.eval y=.int .i64 n)
 (hz:m-n=z)(h1:-9223372036854775808<=z)(h2:z<=9223372036854775807)(h:wpPi P ops Q S r (a.put o.dst (.int .i64 z)) w):wpPi P ops Q S ((o,3)::r) a w:=by
 subst hz;exact yB t x y yt m n hw ho hx hy h1 h2 h
end
theorem vAt_any{own:Bool}{G:Nat->Prop}{v:Value}{l:List Int}{w:World}(hl:Sl own w G 1 IntC v l)(r:Int):Calls prog 134 #[v,.int .i64 r] w (RetM (.int .i64 (atV l r)) w):=by
 obtain⟨ad,cap,rfl,hlm,hat⟩:=hl.at;have HAT:=hid hat;clear hl hat
 by_cases h1:r<1
 ·have HV:Hid (atV l r=0):=hid (by unfold atV;rw[if_pos (.inl h1)])
  generalize atV l r=z at*;go_enter func134,ntmps134;go_wp2;go_ret;exact⟨by rw[HV.out];rfl,Mod.refl _ _⟩
 by_cases h2:(l.length:Int)<r
 ·have HV:Hid (atV l r=0):=hid (atV_out h2)
  generalize atV l r=z at*;go_enter func134,ntmps134;go_wp2;go_ret;exact⟨by rw[HV.out];rfl,Mod.refl _ _⟩
 obtain⟨k,rfl⟩:∃k:Nat,r=(k:Int)+1:=⟨(r-1).toNat,by omega⟩;have hlt:k<l.length:=by omega
 have HV:Hid (atV l ((k:Int)+1)=max l[k] 0):=hid (by
  unfold atV;rw[if_neg (by omega),show((k:Int)+1-1).toNat=k by omega,List.getD_eq_getElem?_getD,List.getElem?_eq_getElem hlt]
  rfl)
 obtain⟨b,off,rfl,-,-,hcc⟩:=HAT.out k hlt;obtain⟨_,-,rfl,hcA⟩:=hcc k hlt;have hc:w.cell? ⟨b,off+k*1,none⟩=some (.int .i64 l[k]):=CellsAt.one.1 hcA
 generalize atV l ((k:Int)+1)=z at*;generalize l[k]=y at*;clear hcc hcA HAT;go_enter func134,ntmps134;go_upto_region 3 with(fail)
 refine wpR [3,3,3,3,1,1,3] (by rfl) (by rfl) ?_;simp only[stz];refine wpPi_subTo _ _ _ _ _ _ (k:Int) rfl rfl rfl rfl (by omega) (by omega) (by omega) ?_;simp only[nmz]
 refine qQ _ _ _ _ _ _ _ _ _ rfl rfl rfl rfl underlying64 (n:=1) (by kernel_rfl) hlt ?_;simp only[nmz]
 refine wpXd (v:=(.int .i64 y)) 3 b (off+k*1) hc underlying3 trivial ?_;try simp only[nmz]
 refine wpX rfl (exec_max _ _ _ y 0 _ (by rfl) (by rfl) (by rfl) rfl) trivial ?_;simp only[stz];go_wp2;go_ret;exact⟨by rw[HV.out];rfl,Mod.refl _ _⟩
theorem vHas_any{own:Bool}{G:Nat->Prop}{v:Value}{l:List Int}{w:World}(hl:Sl own w G 1 IntC v l)(r n:Int):Calls prog 60 #[v,.agg #[.int .i64 r,.int .i64 n]] w (RetM (.bool (hasV l r n)) w):=by
 have hone:=Sl.one hl;obtain⟨x,hx⟩:∃x,hasV l r n=x:=⟨_,rfl⟩;obtain⟨z,hz⟩:∃z,atV l r=z:=⟨_,rfl⟩
 have HX:Hid (x=decide (1<=r/\1<=n/\n<=z)):=hid (by rw[<-hx,<-hz];rfl);have hcall:=fun w' (hm:Mod NoB w w')=>vAt_any (hl.keep0 hm) r;rw[hz]at hcall;rw[hx]
 clear hx hz hl;go_enter func60,ntmps60;go_upto_region 0 with(fail);refine wpR [1,3] (by rfl) (by rfl) ?_;simp only[stz];refine wpDo rfl ?_
 refine zW 113 _ _ (by rfl) (by rfl) (fun w1 hB1 hm1 hs1=>?_);replace hB1:w1.heap[w.heap.size]?=some (.cells #[.int .i64 r,.int .i64 n] 113 (0,0)):=hB1;simp only[stz]
 have hR:w1.cell? ⟨w.heap.size,0,none⟩=some (.int .i64 r):=by simp[World.cell?,hB1]
 have hN:w1.cell? ⟨w.heap.size,1,none⟩=some (.int .i64 n):=by simp[World.cell?,hB1]
 generalize w.heap.size=b0 at*;go_upto_region 1 with(fail);have hS:Mod NoB w1 w1.drew:=(Mod.refl _ _).drew
 refine wpRP [(0,3),(1,0),(2,0),(3,3),(4,3),(5,0),(6,0),(7,3),(8,3),(9,3),(10,0),(11,3),(12,3),(13,0),(14,1),(15,0),(16,3),(17,3)] [] (fun w'=>Mod NoB w1 w') hS ?_
 simp only[stz];refine qM rfl (fun w' hS=>zE 3 _ rfl _ _ rfl _ (hS.cell id hR) _ underlying3 rfl) ?_;simp only[nmz]
 by_cases g7:1<=r
 ·have h7:Hid (decide (1<=r)=true):=decide_eq_true g7;clear g7
  refine qM rfl (fun w' hS=>exec_cmp .geq 3 _ _ _ .i64 r 1 rfl rfl rfl rfl true h7.out) ?_;simp only[stz]
  refine qM rfl (fun w' hS=>zE 3 _ rfl _ _ rfl _ (hS.cell id hN) _ underlying3 rfl) ?_;simp only[nmz]
  by_cases g11:1<=n
  ·have h11:Hid (decide (1<=n)=true):=decide_eq_true g11;clear g11
   refine qM rfl (fun w' hS=>exec_cmp .geq 3 _ _ _ .i64 n 1 rfl rfl rfl rfl true h11.out) ?_;simp only[stz]
   refine qM rfl (fun w' hS=>zE 3 _ rfl _ _ rfl _ (hS.cell id hN) _ underlying3 rfl) ?_;simp only[stz]
   refine qM rfl (fun w' hS=>zE 3 _ rfl _ _ rfl _ (hS.cell id hR) _ underlying3 rfl) ?_;simp only[nmz];refine qN rfl (fun K hK=>?_)
   refine qB (qC 134 [.tmp 16,.tmp 18] _ rfl _ func134 rfl (by kernel_rfl) [v,.int .i64 r] rfl _) (hcall _ (hm1.trans0 hS)) ?_;rintro e w2 ⟨rfl,hm2⟩
   replace hS:=hS.trans0 hm2;refine⟨_,rfl,hK _ _ hS ?_⟩;clear hK K hm2;try simp only[nmz]
   by_cases g20:n<=z
   ·have h20:Hid (decide (n<=z)=true):=decide_eq_true g20;clear g20
    refine qM rfl (fun w' hS=>exec_cmp .leq 3 _ _ _ .i64 n z rfl rfl rfl rfl true h20.out) ?_;simp only[stz];go_wp2;go_ret;unfold Hid at*
    exact⟨ret_bool (by rw[HX];symm;first|(refine decide_eq_true ?_;simp_all;done)|(refine decide_eq_false ?_;intro he;simp_all)),hm1.trans0 hS⟩
   ·have h20:Hid (decide (n<=z)=false):=decide_eq_false g20;clear g20
    refine qM rfl (fun w' hS=>exec_cmp .leq 3 _ _ _ .i64 n z rfl rfl rfl rfl false h20.out) ?_;simp only[stz];go_wp2;go_ret;unfold Hid at*
    exact⟨ret_bool (by rw[HX];symm;first|(refine decide_eq_true ?_;simp_all;done)|(refine decide_eq_false ?_;intro he;simp_all)),hm1.trans0 hS⟩
  ·have h11:Hid (decide (1<=n)=false):=decide_eq_false g11;clear g11
   refine qM rfl (fun w' hS=>exec_cmp .geq 3 _ _ _ .i64 n 1 rfl rfl rfl rfl false h11.out) ?_;simp only[stz];refine xW rfl hS ?_;simp only[stz];go_wp2;go_ret
   unfold Hid at*;exact⟨ret_bool (by rw[HX];symm;first|(refine decide_eq_true ?_;simp_all;done)|(refine decide_eq_false ?_;intro he;simp_all)),hm1.trans0 hS⟩
 ·have h7:Hid (decide (1<=r)=false):=decide_eq_false g7;clear g7
  refine qM rfl (fun w' hS=>exec_cmp .geq 3 _ _ _ .i64 r 1 rfl rfl rfl rfl false h7.out) ?_;simp only[stz];refine xW rfl hS ?_;simp only[stz];go_wp2;go_ret
  unfold Hid at*;exact⟨ret_bool (by rw[HX];symm;first|(refine decide_eq_true ?_;simp_all;done)|(refine decide_eq_false ?_;intro he;simp_all)),hm1.trans0 hS⟩
end
section
open Go.RowKit Go.Shelf Go.Proofs.Tryz Go.Lib
section
variable{P:Program}{n fuel:Nat}{ops:Array Oper}{Q:Exit->Act->World->Prop}{listed:Array Bool}{a:Act}{w:World}{o:Oper}
end
def intEnc(x:Int):List Value:=[.int .i64 x]
theorem intEnc_len:∀x,(intEnc x).length=1:=fun _=>rfl
abbrev IntGs(base:Nat)(w:World)(v:Value)(l:List Int):Prop:=Gat intEnc 3 1 base w v l
theorem IntGs.sl{base:Nat}{w:World}{v:Value}{l:List Int}(h:IntGs base w v l):Sl true w (fun q=>base<=q/\q<w.heap.size/\v.ownBlock=some q) 1 IntC v l:=
 (Gat.sl h intEnc_len).mono (fun _ h=>h) (fun _ _ h=>h)
theorem gat_cells{α:Type}{enc:α->List Value}{e k base:Nat}{w:World}{v:Value}{l:List α}(h:Gat enc e k base w v l){q:Nat}(hq:v.ownBlock=some q):∃o,w.heap[q]?=some o/\o.isCells=true:=by
 rcases h.2 with⟨rfl,-⟩|⟨g,cap,cur,rfl,-,hg,-⟩
 ·cases hq
 ·cases hq;exact⟨_,hg,rfl⟩
def MarksOk(B:Nat):List Deferred->World->Prop
 | [],_=>True
 |d::ds,w=>(∃D,d={ target:=.collected D,args:=#[] }/\B<=D/\w.heap[D]?=some (.deferred (some []))/\∀d'∈ds,d'.target≠.collected D)/\MarksOk B ds w
theorem xQ{B:Nat}{ds ds':List Deferred}{w:World}(hd:ds'=ds)(h:MarksOk B ds w):MarksOk B ds' w:=by rw[hd];exact h
theorem MarksOk.keep{B:Nat}{w w':World}:∀{ds:List Deferred},MarksOk B ds w->(∀D,B<=D->Deferred.mk (.collected D) #[]∈ds->w.heap[D]?=some (.deferred (some []))->w'.heap[D]?=some (.deferred (some [])))->MarksOk B ds w'
 | [],_,_=>trivial
 |_::_,⟨⟨D,e,h1,h2,h3⟩,h⟩,k=>⟨⟨D,e,h1,k D h1 (by rw[e];exact List.mem_cons_self) h2,h3⟩,h.keep fun D h1 hm h2=>k D h1 (List.mem_cons_of_mem _ hm) h2⟩
theorem MarksOk.from{B n:Nat}{w w':World}{ds:List Deferred}(h:MarksOk B ds w)(hk:KeepsFrom n w w')(hn:n<=B):MarksOk B ds w':=h.keep fun D h1 _ h2=>hk.same D _ (by omega) h2 rfl
theorem MarksOk.mod0{B:Nat}{w w':World}{ds:List Deferred}(h:MarksOk B ds w)(hm:Mod NoB w w'):MarksOk B ds w':=h.keep fun _ _ _ h2=>hm.obj id h2
theorem MarksOk.lt{B:Nat}{w:World}:∀{ds:List Deferred},MarksOk B ds w->∀d∈ds,∃D,d={ target:=.collected D,args:=#[] }/\D<w.heap.size
 | [],_,d,hd=>by cases hd
 |_::_,⟨⟨D,e,h1,h2,h3⟩,h⟩,d,hd=>by
  rcases List.mem_cons.1 hd with rfl|hd
  ·exact⟨D,e,(Array.getElem?_eq_some_iff.1 h2).1⟩
  ·exact h.lt d hd
theorem MarksOk.cons{B D:Nat}{w0 w:World}{ds:List Deferred}(h0:MarksOk B ds w0)(h:MarksOk B ds w)(hD:w0.heap.size<=D)(hB:B<=D)(hK:w.heap[D]?=some (.deferred (some []))):MarksOk B ({ target:=.collected D,args:=#[] }::ds) w:=
 ⟨⟨D,rfl,hB,hK,fun d' hd e=>by
  obtain⟨D',e',hlt⟩:=h0.lt d' hd;rw[e']at e;have e:D'=D:=by simpa using e
  omega⟩,h⟩
theorem leaves_marks{P:Program}{fn:Func}{tmps:Array Value}{R:Ending->World->Prop}{B:Nat}(hR:∀e w D,B<=D->w.heap[D]?=some (.deferred (some []))->R e w->R e (w.putObj D (.deferred none)))(hv:∀w,∃v,(results fn tmps).run P w=.ok v w):
 ∀(ds:List Deferred)(u:FrameMode)(w:World),u≠.run->MarksOk B ds w->(u=.returning->∀v,R (.returned v) w)->(∀c,u=.panicking c->R (.panicked c) w)->LeavesInM Fence.wide 0 P fn tmps R ds u w
 | [],u,w,hu,_,h1,h2=>by
  cases u with
  |run=>exact absurd rfl hu
  |returning=>obtain⟨v,hv⟩:=hv w;exact⟨v,hv,h1 rfl v⟩
  |panicking c=>exact h2 c rfl
 |d::ds,u,w,hu,⟨⟨D,e,k1,k2,k3⟩,h⟩,h1,h2=>by
  refine⟨hu,.inl ⟨D,_,by rw[e],run_takeDeferred k2,?_⟩⟩
  refine leaves_marks hR hv ds u _ hu (h.keep fun D' _ hm h'=>?_) (fun e v=>hR _ _ _ k1 k2 (h1 e v)) (fun c e=>hR _ _ _ k1 k2 (h2 c e))
  have hne:D'≠D:=fun e=>k3 _ hm (by rw[e]);exact(World.putObj_heap_other hne).trans h'
def WkQ(B:Nat)(R:Ending->World->Prop):Exit->Act->World->Prop
 | .normal,a,w| .ret,a,w=>MarksOk B a.defers w/\∀v,R (.returned v) w
 | .panic c,a,w=>MarksOk B a.defers w/\R (.panicked c) w
 |_,_,_=>False
theorem enter_marks{P:Program}{f:FuncId}{fn:Func}{c:Code}{args:Array Value}{w:World}{R:Ending->World->Prop}(B:Nat)(hf:P.funcs[f]?=some fn)(hb:fn.body=some c)(hR:∀e w D,B<=D->w.heap[D]?=some (.deferred (some []))->R e w->R e (w.putObj D (.deferred none)))
 (hv:∀(t:Array Value) w,∃v,(results fn t).run P w=.ok v w)(h:c.wpIn Fence.wide 0 P (WkQ B R) { tmps:=args++Array.replicate (fn.ntmps-args.size) undef,defers:=[] } w):Calls P f args w R:=by
 refine(callsIn_wide (n:=0)).1 (callsIn_of_wp_marks hf hb trivial (wpIn_mono h ?_) rfl);intro e a w hq
 cases e with
 |normal=>exact leaves_marks hR (hv _) _ _ _ (by simp) hq.1 (fun _=>hq.2) (fun c e=>by cases e)
 |ret=>exact leaves_marks hR (hv _) _ _ _ (by simp) hq.1 (fun _=>hq.2) (fun c e=>by cases e)
 |panic c=>exact leaves_marks hR (hv _) _ _ _ (by simp) hq.1 (fun e=>by cases e) (fun c' e=>by cases e;exact hq.2)
 |_=>exact hq.elim
theorem wp_enterP{P:Program}{K:Act->World->Prop}{Q:Exit->Act->World->Prop}{o:Oper}{a:Act}{w:World}{f:FuncId}{args:Array Value}{c:List PanicEntry}{R:World->Prop}(hr:(execOp a.eval o).run P w=.ok (.enter f args) w)
 (hc:Calls P f args w (fun e w'=>e=.panicked c/\R w'))(k:∀w',R w'->Q (.panic c) a w'):o.wp P a w K Q:=by
 unfold Oper.wp;rw[hr,Oper.upon_enter];refine hc.mono fun e w' he=>?_;obtain⟨rfl,h⟩:=he;exact k w' h
def wkFr(L0:List Value)(g9 g10:Value)(k:Nat)(l:List Value):List Value:=(((L0.set 9 g9).set 10 g10).take 102)++(.int .i64 (k:Int)::l)
theorem wp_loopFr{P:Program}{Q:Exit->Act->World->Prop}{c:Code}{L0:List Value}{ds0:List Deferred}{w:World}(N:Nat)(Rel:Nat->List Deferred->World->Prop)(h0:Rel 0 ds0 w)(hL:∃g9 g10 l,l.length=19/\wkFr L0 g9 g10 0 l=L0)(hlen:L0.length=122)
 (round:∀(k:Nat)(ds:List Deferred)(g9 g10 x103 x104 x105 x106 x107 x108 x109 x110 x111 x112 x113 x114 x115 x116 x117 x118 x119 x120 x121:Value)(w:World),Rel k ds w->
  c.wpIn Fence.wide 0 P (Exit.then (fun a' w'=>k<N/\∃ds' g9' g10' l',l'.length=19/\a'=⟨(wkFr L0 g9' g10' (k+1) l').toArray,ds'⟩/\Rel (k+1) ds' w') Q)
   ⟨(wkFr L0 g9 g10 k [x103,x104,x105,x106,x107,x108,x109,x110,x111,x112,x113,x114,x115,x116,x117,x118,x119,x120,x121]).toArray,ds⟩ w):
 (Code.loop c).wpIn Fence.wide 0 P Q ⟨L0.toArray,ds0⟩ w:=by
 have hk:∀(g9 g10:Value)(k:Nat)(l:List Value),(wkFr L0 g9 g10 k l)[102]?=some (.int .i64 (k:Int)):=fun g9 g10 k l=>by
  unfold wkFr;have h1:(List.take 102 ((L0.set 9 g9).set 10 g10)).length=102:=by rw[List.length_take];simp[hlen]
  rw[List.getElem?_append_right (by omega),h1]
  rfl
 refine wpIn_loop (fun a w=>∃(k:Nat)(ds:List Deferred)(g9 g10:Value)(l:List Value),l.length=19/\a=⟨(wkFr L0 g9 g10 k l).toArray,ds⟩/\Rel k ds w) (fun a _=>N-(intOf ((a.tmps[102]?).getD undef)).toNat) ?_ ?_
 ·obtain⟨g9,g10,l,h1,h2⟩:=hL
  exact⟨0,ds0,g9,g10,l,h1,by rw[h2],h0⟩
 ·rintro a w ⟨k,ds,g9,g10,l,hl,rfl,hr⟩
  match l,hl with
  | [x103,x104,x105,x106,x107,x108,x109,x110,x111,x112,x113,x114,x115,x116,x117,x118,x119,x120,x121],_=>
   refine wpIn_mono (round k ds g9 g10 x103 x104 x105 x106 x107 x108 x109 x110 x111 x112 x113 x114 x115 x116 x117 x118 x119 x120 x121 w hr) ?_;intro e a' w' hq
   cases e with
   |normal=>
    obtain⟨hlt,ds',g9',g10',l',hl',rfl,hr'⟩:=hq;refine⟨⟨k+1,ds',g9',g10',l',hl',rfl,hr'⟩,?_⟩;simp only[List.getElem?_toArray,hk,Option.getD_some,intOf]
    omega
   |_=>exact hq
def ThE(t:Thg)(args:Array Value)(w:World):Prop:=∃b,args=#[.pointer (some ⟨b,0,none⟩)]/\ThAt w b t
theorem thZ:(prog.info? 150).bind (·.zero)=some (.agg (jS ⟨descZ,0,false⟩)):=by kernel_rfl
theorem built_thing(d:DescL)(h:d.id.length=32)(n:Int)(k:Nat)(hk:n=k)(b:Bool):prog.built 150 [(0,.agg (qW d)),(1,.int .i64 n),(2,.bool b)]=some (jS ⟨d,k,b⟩):=by
 subst hk;have p:xT prog 150=some [(0,35),(35,1),(36,1)]:=by kernel_rfl
 have hz:(jS ⟨descZ,0,false⟩).size=37:=thCells_size xF;have hd:(qW d).size=35:=zQ h;rw[zS thZ p]
 have hc:(Value.agg (qW d)).cells=qW d:=rfl;have h35:(zF (jS ⟨descZ,0,false⟩) 0 (qW d)).size=37:=by rw[yJ (by omega)];exact hz
 rw[zK (off:=0) (size:=35) rfl (by rw[hc];exact hd) (by rw[hz];omega),hc,zK (off:=35) (size:=1) rfl (by rfl) (by omega),zK (off:=36) (size:=1) rfl (by rfl) (by rw[yJ (by simp[Value.cells];omega)];omega),xU]
 congr 1
 apply Array.toList_inj.1
 have hm:(d.id.map byteV).length=32:=by simp[h]
 have t34:List.take 34 (d.id.map byteV)=d.id.map byteV:=List.take_of_length_le (by omega)
 have t35:List.take 35 (d.id.map byteV)=d.id.map byteV:=List.take_of_length_le (by omega);have d35:List.drop 35 (d.id.map byteV)=[]:=List.drop_eq_nil_of_le (by omega)
 have d36:List.drop 36 (d.id.map byteV)=[]:=List.drop_eq_nil_of_le (by omega)
 simp[zF,Value.cells,jS,qW,xV,h,descZ,zeros32,List.take_append,List.drop_append,t34,t35,d35,d36]
def SeqTR(w:World)(bs bt:Nat):Ending->World->Prop:=fun e w'=>∃B1 B2,e=.returned (.func (.func 155) #[] #[.pointer (some ⟨B1,0,none⟩),.pointer (some ⟨B2,0,none⟩)])/\w'.heap[B1]?=some (.cells #[.pointer (some ⟨bs,0,none⟩)] 29 (0,0))/\w'.heap[B2]?=some (.cells #[.pointer (some ⟨bt,0,none⟩)] 148 (0,0))/\Mod NoB w w'
theorem clSeq_any(w:World)(bs bt:Nat):Calls prog 83 #[.pointer (some ⟨bs,0,none⟩),.pointer (some ⟨bt,0,none⟩)] w (SeqTR w bs bt):=by
 go_enter func83,ntmps83;go_upto_region 0 with(fail);refine wpR [1,1,3] (by rfl) (by rfl) ?_;simp only[stz];refine wpDo rfl ?_
 refine zW 29 _ _ (by rfl) (by rfl) (fun w1 hB1 hm1 hs1=>?_);replace hB1:w1.heap[w.heap.size]?=some (.cells #[.pointer (some ⟨bs,0,none⟩)] 29 (0,0)):=hB1
 try simp only[nmz]
 refine wpDo rfl ?_;refine zW 148 _ _ (by rfl) (by rfl) (fun w2 hB2 hm2 hs2=>?_)
 replace hB2:w2.heap[w1.heap.size]?=some (.cells #[.pointer (some ⟨bt,0,none⟩)] 148 (0,0)):=hB2;simp only[stz];have hB12:=hm2.obj id hB1;have hmf:=xD;go_wp2
 go_ret;exact⟨_,_,rfl,hB12,hB2,hm1.trans0 hm2⟩
structure WkEnv(w:World)(bs ms wd:Nat)(room:Int)(bl:List Blb)(y by' B1 B2 bt:Nat)(t:Thg):Prop where
 yc:w.cell? ⟨by',0,none⟩=some (.func (.yield y) #[] #[])
 sc:w.cell? ⟨B1,0,none⟩=some (.pointer (some ⟨bs,0,none⟩))
 tc:w.cell? ⟨B2,0,none⟩=some (.pointer (some ⟨bt,0,none⟩))
 th:ThAt w bt t
 st:StInv w bs ms wd room bl
theorem WkEnv.keep{w w':World}{bs ms wd:Nat}{room:Int}{bl:List Blb}{y by' B1 B2 bt:Nat}{t:Thg}(h:WkEnv w bs ms wd room bl y by' B1 B2 bt t)(hk:KSc (SFoot bs ms bl) w w'):WkEnv w' bs ms wd room bl y by' B1 B2 bt t:=
 ⟨hk.1.cell h.yc,hk.1.cell h.sc,hk.1.cell h.tc,hk.1.obj h.th rfl,h.st.keep hk.2 (fun k hk e=>e hk)⟩
theorem KSc.of0{St:Nat->Prop}{w w':World}(h:Mod NoB w w'):KSc St w w':=⟨KC.of0 h,h.mono fun _ _ h=>h.elim⟩
theorem KSc.trans{St:Nat->Prop}{A B C:World}(h:KSc St A B)(k:KSc St B C):KSc St A C:=⟨h.1.trans k.1,Mod.trans h.2 k.2 fun _ _ h=>h⟩
theorem WkEnv.mod0{w w':World}{bs ms wd:Nat}{room:Int}{bl:List Blb}{y by' B1 B2 bt:Nat}{t:Thg}(h:WkEnv w bs ms wd room bl y by' B1 B2 bt t)(hm:Mod NoB w w'):WkEnv w' bs ms wd room bl y by' B1 B2 bt t:=h.keep (KSc.of0 hm)
end
end Go.Proofs.YtjeonjoifjbohaaGreat
