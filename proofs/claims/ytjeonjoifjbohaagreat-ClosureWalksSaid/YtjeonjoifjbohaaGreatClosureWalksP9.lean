/- What the statement ClosureWalks needs, part 9. -/
import Derived.WalkKit
import Derived.ProofKit
import Derived.OpenShut
import Derived.ChangeStays
import Derived.ChangeBook
import Derived.ChangeSlices
import Derived.Test.YtjeonjoifjbohaaGreatClosureWalksP8
set_option linter.unusedVariables false
set_option linter.unusedSimpArgs false
set_option linter.unnecessarySimpa false
set_option linter.unusedSectionVars false
set_option maxRecDepth 10000
set_option maxHeartbeats 8000000
namespace Go.Proofs.YtjeonjoifjbohaaGreat
section
open Go.RowKit Go.Shelf Go.Proofs.Tryz Go.Lib
theorem zA{P:Program}{fn:Func}{p q u:Tmp}{ty:TypeId}(h:fn.results=#[.tmp p,.cell q ty,.tmp u])(tmps:Array Value)(w:World)(g:Nat)(t:TypeId)(cs:Array Value)(fr:Nat×Nat)(d:TypeDesc)
 (hp:tmps.getD q undef=.pointer (some ⟨g,0,none⟩))(hg:w.heap[g]?=some (.cells cs t fr))
 (hu:P.underlying ty=some d)(hd:(match d with| .struct _| .array _ _=>true|_=>false)=true)(hi:(P.info? ty).map (·.size)=some cs.size):
 (results fn tmps).run P w=.ok (.tuple #[tmps.getD p undef,.agg cs,tmps.getD u undef]) w:=by
 have hp':tmps[q]?.getD undef=.pointer (some ⟨g,0,none⟩):=by simpa using hp
 simp[results,h,hp',asAddr,run_loadVar_row w g t ty cs fr d hg hu hd hi]
theorem yJ{w:World}{b:Nat}{d:DescL}(h:w.heap[b]?=some (.cells (qB d) 46 (0,0))):CellsAt w b 1 (qA d.id)/\w.cell? ⟨b,0,none⟩=some (.int .i64 d.media)/\(d.id.length=32->w.cell? ⟨b,33,none⟩=some (.int .i64 d.size)):=by
 refine⟨CellsAt.of_obj h descRow_at1,by rw[cell_of_row _ _ _ _ _ _ h];rfl,fun hid=>?_⟩;rw[cell_of_row _ _ _ _ _ _ h];unfold qB zX
 simp[List.getElem?_append,hid]
theorem Mod.transB'{w w1 w2:World}{b:Nat}(h:Mod NoB w w1)(h':Mod (fun k=>k=b) w1 w2)(hb:w.heap.size<=b):Mod NoB w w2:=h.trans h' (fun k hk e=>by have e':k=b:=e;omega)
def BelowR(base:Nat)(w:World)(c:BlobM)(f:Nat)(t:Thg)(v0:Value)(s:List (List UInt8)):Ending->World->Prop:=fun e w'=>Mod NoB w w'/\∃(v:Value)(m:List (List UInt8))(bad:List UInt8)(n:Int),e=.returned (.tuple #[v,.agg (qA bad),.int .i64 n])/\GatI base w' v m/\OwnOr w v0 v/\bad.length=32/\
 match(walkL c f t).2 with
 |some x=>bad=x.1/\n=x.2/\n≠0
 |none=>RiseI (s++idsT (walkL c f t).1) m/\bad=zeros32/\n=0
def BelRel(base:Nat)(wb:World)(b11:Nat)(w:World)(v0:Value)(g:DescL->List Thg×Option WErr)(ds:List DescL)(s:List (List UInt8))(v i:Value)(wr:World):Prop:=∃(k:Nat)(m:List (List UInt8)),k<=ds.length/\i=.int .i64 k/\GatI base wr v m/\RiseI (s++(ds.take k).flatMap fun d=>idsT (g d).1) m/\(∀j (hj:j<ds.length),j<k->(g ds[j]).2=none)/\(∀q,v.ownBlock=some q->q≠b11)/\OwnOr w v0 v/\Mod NoB wb wr
theorem walkDs_ids{g:DescL->List Thg×Option WErr}{ds:List DescL}(h:∀j (hj:j<ds.length),(g ds[j]).2=none):(zZ g ds).2=none/\idsT (zZ g ds).1=ds.flatMap fun d=>idsT (g d).1:=walkDs_upto g ds h
theorem OwnOr.trans{w w':World}{v0 v v':Value}(h:OwnOr w v0 v)(h':OwnOr w' v v')(hm:w.heap.size<=w'.heap.size):OwnOr w v0 v':=fun q hq=>by
 rcases h' q hq with h1|h1
 ·exact h q h1
 ·exact .inr (by omega)
theorem OwnOr.ne{w:World}{v0 v:Value}{b:Nat}(h:OwnOr w v0 v)(h0:∀q,v0.ownBlock=some q->q≠b)(hb:b<w.heap.size):∀q,v.ownBlock=some q->q≠b:=fun q hq=>by
 rcases h q hq with h1|h1
 ·exact h0 q h1
 ·omega
section
variable{w0:World}{sv:Value}{c:BlobM}
theorem r13below_any(HGet:GetsC w0 sv c)(hsz:∀k b,getL k c=some b->b.length<=4096)(hks:∀x∈c.map (·.1),x.length=32)(hcl:c.length<=9000)(base:Nat):
 ∀(f:Nat)(t:Thg)(w:World)(v0:Value)(s l:List (List UInt8)),t.d.id.length=32->t.depth+f=6->0<f->Mod NoB w0 w->base<=w.heap.size->GatI base w v0 l->RiseI s l->(∀y∈s,y∈c.map (·.1))->
  Calls prog 85 #[sv,.agg (qB t.d),.int .i64 t.depth,.bool t.first,v0] w (BelowR base w c f t v0 s)
 |0,_,_,_,_,_,_,_,h,_,_,_,_,_=>by omega
 |f+1,t,w,v0,s,l,hid,htf,_,hm0,hbase,hg,hr,hs=>by
  have IH:=Lib.hid (r13below_any HGet hsz hks hcl base f);have hic:(qA t.d.id).size=32:=by rw[qD,hid]
  have hz32:(qA zeros32).size=32:=by rw[qD];rfl
  have hdz:(qB t.d).size=35:=qO hid;have hone:∀c∈qB t.d,c.oneCell'=true:=zJ _ _ _ _
  have hzi:(prog.info? 24).map (·.size)=some 32:=by kernel_rfl
  have hll:l.length<=9000:=by
   have:=riseI_len hr hs;rw[List.length_map]at this;omega
  have hl32:∀y∈l,y.length=32:=fun y hy=>hks y (hs y ((hr.2 y).1 hy));have HG0:=Lib.hid hg;have HR0:=Lib.hid hr;have HS0:=Lib.hid hs;have HL32:=Lib.hid hl32
  have HK:=Lib.hid hks;have HSZ:=Lib.hid hsz;have HM0:=Lib.hid hm0;have HGT:=Lib.hid HGet;have hwe:=walkL_eq c f t;have HWE:=Lib.hid hwe
  have hdp:t.depth<=5:=by omega
  have hv0:∀q,v0.ownBlock=some q->q<w.heap.size:=fun q hq=>(hg.lt hq).2;have HVO0:=Lib.hid hv0;obtain⟨lad,lcap,rfl⟩:=hg.slice
  obtain⟨v0,hv0e⟩:∃v0,Value.slice lad l.length lcap=v0:=⟨_,rfl⟩;rw[hv0e]at HG0 HVO0 |-;clear hg hr hs hl32 hks hsz hm0 HGet hwe hv0 hv0e;go_enter func85,ntmps85
  go_upto_region 0 with(fail);refine wpR [1,3,1,3] ?_;simp only[stz];refine wpD (zT 46 _ _ (by rfl) (by rfl) (fun w1 hB1 hm1 hs1=>?_))
  replace hB1:w1.heap[w.heap.size]?=some (.cells (qB t.d) 46 (0,0)):=hB1;simp only[stz];refine wpD (qP 24 _ (by rfl) idZ (fun w2 hB2 hm2 hs2=>?_))
  replace hB2:w2.heap[w1.heap.size]?=some (.cells (qA zeros32) 24 (0,0)):=hB2;simp only[stz];have hD:=hm2.obj id hB1;have hR:=hB2
  have hb6s:w.heap.size<w1.heap.size:=hs1;have hb11s:w1.heap.size<w2.heap.size:=hs2;have HM:=Lib.hid (hm1.trans0 hm2)
  have HGL:=Lib.hid (HG0.out.keep0 (hm1.trans0 hm2));have hget:=HGT.out w2 t.d.id (HM0.out.trans0 (hm1.trans0 hm2)) hid;have hb11:w.heap.size<=w1.heap.size:=by omega
  have HV:Hid (∀q,v0.ownBlock=some q->q≠w1.heap.size):=Lib.hid (fun q hq=>by have:=HVO0.out q hq;omega)
  have HVO:Hid (OwnOr w v0 v0):=Lib.hid (fun q hq=>.inl hq);generalize hb6:w.heap.size=b6 at*;generalize hb11e:w1.heap.size=b11 at*;have hbn:b6≠b11:=by omega
  have hci:=(yJ hD).1;obtain⟨r,hrg⟩:∃r,getL t.d.id c=r:=⟨_,rfl⟩;rw[hrg]at hget;have HRG:=Lib.hid hrg;clear hm1 hm2 hB1 hB2 hs1 hs2 hrg
  cases r with
  |none=>
   have HX:(walkL c (f+1) t).2=some (t.d.id,14):=by rw[HWE.out,HRG.out]
   go_upto_region 1 with(fail);refine wpR [3,3,1,1,3,3,3,3,3] ?_;simp only[stz];refine wpXA 24 b6 1 (qA t.d.id) hci underlying24 32 hic trivial ?_;try simp only[nmz]
   refine wpD (wpC func162 (hget) ?_);rintro e w3 ⟨hm3,he3⟩;subst he3;refine⟨_,rfl,?_⟩;simp only[stz]
   refine qE rfl (fun w'=>qI _ 0 #[.slice none 0 0,.bool false] rfl rfl (.slice none 0 0) rfl) ?_;simp only[nmz]
   refine qE rfl (fun w'=>qI _ 1 #[.slice none 0 0,.bool false] rfl rfl (.bool false) rfl) ?_;simp only[stz];replace hD:=hm3.obj id hD
   replace hR:=hm3.obj id hR;replace HM:=Lib.hid (HM.out.trans0 hm3);replace HGL:=Lib.hid (HGL.out.keep0 hm3);clear hm3 hget hci;go_upto_region 2 with(fail)
   refine wpR [3,3,3] ?_;simp only[stz]
   try refine zH _ _ false (by rfl) (by rfl) (by rfl) ?_
   try simp only[stz]
   go_upto_region 3 with(fail);have hS:Mod (fun k=>k=b11) w3 w3.drew:=(Mod.refl _ _).drew;have hRd:w3.drew.heap[b11]?=some (.cells (qA zeros32) 24 (0,0)):=hR
   refine wpRZ [3,3,0,3,1,3] [] (fun w'=>Mod (fun k=>k=b11) w3 w') hS ?_;simp only[stz]
   refine wpLA 24 b6 1 (qA t.d.id) (fun w' hS=>(yJ hD).1.keep hS (fun e=>by have e':b6=b11:=e;omega)) underlying24 32 hic ?_;simp only[stz]
   refine qM rfl (fun K hK=>?_)
   refine qF 24 _ _ b11 0 (qA t.d.id) (by rfl) (by rfl) (by rfl) (qR _) 32 (by kernel_rfl) hic _ _ hRd (by simp only[hic,hz32];omega) (fun wg hBg hmg=>?_)
   rw[qC (by simp only[hic,hz32])]at hBg;have hSg:Mod (fun k=>k=b11) w3 wg:=hS.trans hmg (fun _ _ h=>h);refine hK _ _ hSg ?_;clear hK K;simp only[stz]
   have HF:Hid (BelowR base w c (f+1) t v0 s (.returned (.tuple #[v0,.agg (qA t.d.id),.int .i64 14])) wg):=Lib.hid ⟨HM.out.transB' hSg (by omega),_,_,t.d.id,14,rfl,HGL.out.keep hSg (fun q hq e=>HV.out q hq e),HVO.out,hid,by rw[HX];exact⟨rfl,rfl,by decide⟩⟩
   clear hS hSg hmg hRd hR hD HM HGL HV;go_wp2
   refine bodyPost_ret (zA (P:=prog) (ty:=24) rfl _ _ b11 _ _ _ _ (by rfl) hBg underlying24 rfl (by rw[hic];exact hzi)) rfl ?_;exact HF.out
  |some b=>
   have hbl:=HSZ.out _ _ HRG.out;go_upto_region 1 with(fail);refine wpR [3,3,1,1,3,3,3,3,3] ?_;simp only[stz]
   refine wpXA 24 b6 1 (qA t.d.id) hci underlying24 32 hic trivial ?_;try simp only[nmz]
   refine wpD (wpC func162 (hget) ?_);rintro e w3 ⟨hm3,bv,he3,hbv⟩;subst he3;obtain⟨bad,bcp,rfl⟩:=hbv.slice;have HBV:=Lib.hid hbv;clear hbv;refine⟨_,rfl,?_⟩
   simp only[stz];refine qE rfl (fun w'=>qI _ 0 #[.slice bad b.length bcp,.bool true] rfl rfl (.slice bad b.length bcp) rfl) ?_;simp only[nmz]
   refine qE rfl (fun w'=>qI _ 1 #[.slice bad b.length bcp,.bool true] rfl rfl (.bool true) rfl) ?_;simp only[stz];replace hD:=hm3.obj id hD
   replace hR:=hm3.obj id hR;replace HM:=Lib.hid (HM.out.trans0 hm3);replace HGL:=Lib.hid (HGL.out.keep0 hm3);clear hm3 hget hci;go_upto_region 2 with(fail)
   refine wpR [3,3,3] ?_;simp only[stz]
   try refine zH _ _ true (by rfl) (by rfl) (by rfl) ?_
   try simp only[stz]
   obtain⟨fi,hfi⟩:∃fi,t.first=fi:=⟨_,rfl⟩
   have HFI:=Lib.hid hfi;rw[hfi];clear hfi;have hcs:=(yJ hD).2.2 hid;have hcm:=(yJ hD).2.1
   obtain⟨fs,hfs⟩:∃fs,(!(fi||decide (b.length=t.d.size)))=fs:=⟨_,rfl⟩;have HFS:=Lib.hid hfs;clear hfs;go_upto_region 4 with(fail)
   go_cut [34] (fun s wx=>s=.bool fs/\wx=w3)
   case first=>
    have hfs:=HFS.out
    cases fi with
    |true=>
     obtain rfl:fs=false:=by rw[<-hfs];rfl
     clear hfs;refine wpR [3,3,3,3,3,3,0,3,3,3] ?_;simp only[stz]
     try refine zH _ _ true (by rfl) (by rfl) (by rfl) ?_
     try simp only[stz]
     go_wp2
     go_meet
     case rel=>exact⟨rfl,rfl⟩
    |false=>
     by_cases hq:b.length=t.d.size
     ·have hqz:(b.length:Int)=(t.d.size:Nat):=by omega
      obtain rfl:fs=false:=by rw[<-hfs];simp[hq]
      clear hfs;refine wpR [3,3,3,3,3,3,1,3,3,3] ?_;simp only[stz]
      try refine zH _ _ false (by rfl) (by rfl) (by rfl) ?_
      try simp only[stz]
      refine wpPL ?_;simp only[stz];refine wpXd (v:=(.int .i64 t.d.size)) 3 b6 33 hcs underlying3 trivial ?_;try simp only[nmz]
      refine qG _ _ _ _ _ _ _ _ rfl rfl rfl rfl rfl false (decide_eq_false (by omega)) ?_;simp only[stz];go_wp2
      go_meet
      case rel=>exact⟨rfl,rfl⟩
     ·have hqz:¬(b.length:Int)=(t.d.size:Nat):=by omega
      obtain rfl:fs=true:=by rw[<-hfs];simp[hq]
      clear hfs;refine wpR [3,3,3,3,3,3,1,3,3,3] ?_;simp only[stz]
      try refine zH _ _ false (by rfl) (by rfl) (by rfl) ?_
      try simp only[stz]
      refine wpPL ?_;simp only[stz];refine wpXd (v:=(.int .i64 t.d.size)) 3 b6 33 hcs underlying3 trivial ?_;try simp only[nmz]
      refine qG _ _ _ _ _ _ _ _ rfl rfl rfl rfl rfl true (decide_eq_true hqz) ?_;simp only[stz];go_wp2
      go_meet
      case rel=>exact⟨rfl,rfl⟩
   case rest=>
    obtain⟨rfl,hw⟩:=hcut;obtain rfl:=hw.symm;clear hcs
    have HW1:Hid (walkL c (f+1) t=if fs=true then([],some (t.d.id,17))else if treeT t=false then(if(decide (t.d.media=1)||decide (t.d.media=2))=false then([],some (t.d.id,20))else([t],none))
     else if 4<t.depth then([],some (t.d.id,18))else match decL b with
      |none=>([],some (t.d.id,5))
      |some m=>if(fi||decide (m.kind=t.d.media))=false then([],some (t.d.id,20))else(t::(zZ (fun d=>walkL c f ⟨d,t.depth+1,false⟩) (zE m)).1,(zZ (fun d=>walkL c f ⟨d,t.depth+1,false⟩) (zE m)).2)):=Lib.hid (by
     rw[HWE.out,HRG.out,HFI.out]
     dsimp only
     have h1:((fi||decide (b.length=t.d.size))=false)↔fs=true:=by rw[<-HFS.out];simp
     simp only[h1]
     rfl)
    have HTT:Hid (treeT t=(fi||xK t.d)):=Lib.hid (by unfold treeT;rw[HFI.out]);have hkin:=HK.out t.d.id (List.mem_map.2 ⟨_,getL_mem HRG.out,rfl⟩)
    have HIN:Hid (t.d.id∈c.map (·.1)):=Lib.hid (List.mem_map.2 ⟨_,getL_mem HRG.out,rfl⟩);clear HWE HRG HFS hkin
    cases fs with
    |true=>
     have HX:(walkL c (f+1) t).2=some (t.d.id,17):=by rw[HW1.out];rfl
     go_upto_region 5 with(fail);have hS:Mod (fun k=>k=b11) w3 w3.drew:=(Mod.refl _ _).drew;have hRd:w3.drew.heap[b11]?=some (.cells (qA zeros32) 24 (0,0)):=hR
     refine wpRZ [3,3,0,3,1,3] [] (fun w'=>Mod (fun k=>k=b11) w3 w') hS ?_;simp only[stz]
     refine wpLA 24 b6 1 (qA t.d.id) (fun w' hS=>(yJ hD).1.keep hS (fun e=>by have e':b6=b11:=e;omega)) underlying24 32 hic ?_;simp only[stz]
     refine qM rfl (fun K hK=>?_)
     refine qF 24 _ _ b11 0 (qA t.d.id) (by rfl) (by rfl) (by rfl) (qR _) 32 (by kernel_rfl) hic _ _ hRd (by simp only[hic,hz32];omega) (fun wg hBg hmg=>?_)
     rw[qC (by simp only[hic,hz32])]at hBg;have hSg:Mod (fun k=>k=b11) w3 wg:=hS.trans hmg (fun _ _ h=>h);refine hK _ _ hSg ?_;clear hK K;simp only[stz]
     have HF:Hid (BelowR base w c (f+1) t v0 s (.returned (.tuple #[v0,.agg (qA t.d.id),.int .i64 17])) wg):=Lib.hid ⟨HM.out.transB' hSg (by omega),_,_,t.d.id,17,rfl,HGL.out.keep hSg (fun q hq e=>HV.out q hq e),HVO.out,hid,by rw[HX];exact⟨rfl,rfl,by decide⟩⟩
     clear hS hSg hmg hRd hR hD HM HGL HV;go_wp2
     refine bodyPost_ret (zA (P:=prog) (ty:=24) rfl _ _ b11 _ _ _ _ (by rfl) hBg underlying24 rfl (by rw[hic];exact hzi)) rfl ?_;exact HF.out
    |false=>
     have hlay:=r13Laid_any HGL.out (by have:=HM.out.size;omega) HR0.out HL32.out hid (by omega);have hci:=(yJ hD).1;go_upto_region 6 with(fail)
     refine wpR [3,3,1,1,3] ?_;simp only[stz];refine wpXA 24 b6 1 (qA t.d.id) hci underlying24 32 hic trivial ?_;try simp only[nmz]
     refine wpD (wpC func120 (hlay) ?_);rintro e w4 ⟨hm4,v4,m4,rfl,hg4,hr4,ho4⟩;have s23:w.heap.size<=w3.heap.size:=HM.out.size
     have s24:b11<w3.heap.size:=(Array.getElem?_eq_some_iff.1 hR).1;have HV4:Hid (∀q,v4.ownBlock=some q->q≠b11):=Lib.hid (ho4.ne HV.out s24)
     have HVO4:Hid (OwnOr w v0 v4):=Lib.hid (HVO.out.trans ho4 s23);have HGL4:=Lib.hid hg4;have HR4:=Lib.hid hr4;replace hD:=hm4.obj id hD;replace hR:=hm4.obj id hR
     replace HM:=Lib.hid (HM.out.trans0 hm4);have HB4:=Lib.hid (Bts.keep HBV.out hm4 (fun _ _=>id));clear hg4 hr4 ho4 hm4;refine⟨_,rfl,?_⟩;simp only[stz]
     clear HBV hci hlay HL32 HG0;replace HV:=HV4;replace HVO:=HVO4;replace HGL:=HGL4;replace HR0:=HR4;clear HV4 HVO4 HGL4 HR4;have hcm:=(yJ hD).2.1
     have htr0:=r13tree_any t.d.media w4;obtain⟨tr,htr⟩:∃tr,xK t.d=tr:=⟨_,rfl⟩
     rw[show decide (t.d.media=3\/t.d.media=4)=tr by rw[<-htr];unfold xK;by_cases h1:t.d.media=3<;>by_cases h2:t.d.media=4<;>simp[h1,h2]]at htr0
     have HTT2:Hid (treeT t=(fi||tr)):=Lib.hid (by rw[HTT.out,htr]);obtain⟨lf,hlf⟩:∃lf,(!(fi||tr))=lf:=⟨_,rfl⟩;have HLF:=Lib.hid hlf;clear hlf htr HTT
     go_upto_region 7 with(fail)
     go_cut [58] (fun s wx=>s=.bool lf/\wx=w4)
     case first=>
      have hlf:=HLF.out
      cases fi with
      |true=>
       obtain rfl:lf=false:=by rw[<-hlf];rfl
       clear hlf;refine wpR [3,3,3,3,0,1,3,3] ?_;simp only[stz]
       try refine zH _ _ true (by rfl) (by rfl) (by rfl) ?_
       try simp only[stz]
       refine xF rfl trivial ?_;simp only[stz];go_wp2
       go_meet
       case rel=>exact⟨rfl,rfl⟩
      |false=>
       obtain rfl:lf= !tr:=by rw[<-hlf];simp
       clear hlf;refine wpR [3,3,3,3,1,1,3,3] ?_;simp only[stz]
       try refine zH _ _ false (by rfl) (by rfl) (by rfl) ?_
       try simp only[stz]
       refine wpXd (v:=(.int .i64 t.d.media)) 3 b6 0 hcm underlying3 trivial ?_;try simp only[nmz]
       refine wpD (wpC func163 (htr0) ?_);rintro e w5 ⟨rfl,hw5⟩;obtain rfl:=hw5.symm;refine⟨_,rfl,?_⟩;try simp only[nmz]
       refine zH _ _ tr (by rfl) (by rfl) (by rfl) ?_;simp only[stz];go_wp2
       go_meet
       case rel=>exact⟨rfl,rfl⟩
     case rest=>
      obtain⟨rfl,hw⟩:=hcut;obtain rfl:=hw.symm;clear htr0
      cases lf with
      |true=>
       have htf:treeT t=false:=by
        have:=HLF.out;rw[HTT2.out]
        simpa using this
       have HW2:Hid (walkL c (f+1) t=if(decide (t.d.media=1)||decide (t.d.media=2))=false then([],some (t.d.id,20))else([t],none)):=Lib.hid (by rw[HW1.out,if_neg (by simp),if_pos htf])
       have HRI:Hid (t.d.media=1\/t.d.media=2->(walkL c (f+1) t).2=none/\RiseI (s++idsT (walkL c (f+1) t).1) m4):=Lib.hid (fun h=>by
        rw[HW2.out,if_neg (by rcases h with h|h<;>simp[h])]
        exact⟨rfl,HR0.out⟩)
       clear htf HW1 HTT2 HLF HB4
       by_cases h1:t.d.media=1
       ·have hz1:(t.d.media:Int)=1:=by omega
        obtain⟨HX,hri⟩:=HRI.out (.inl h1);have HRI:=Lib.hid hri;clear hri h1;go_upto_region 8 with(fail);refine wpR [3,1,3,3,3,0,3,3] ?_;simp only[stz]
        refine wpXd (v:=(.int .i64 t.d.media)) 3 b6 0 hcm underlying3 trivial ?_;try simp only[nmz]
        refine qG _ _ _ _ _ _ _ _ rfl rfl rfl rfl rfl false (decide_eq_false (by omega)) ?_;simp only[stz];clear hcm;go_upto_region 10 with(fail)
        have hS:Mod (fun k=>k=b11) w4 w4:=Mod.refl _ _;have hRd:w4.heap[b11]?=some (.cells (qA zeros32) 24 (0,0)):=hR
        refine wp_region_seq [3,0,3,1,3] (fun w'=>Mod (fun k=>k=b11) w4 w') (by rfl) (by rfl) hS ?_;simp only[stz]
        refine qQ rfl (fun w' hS=>qL 24 [] [] _ (by rfl) (by rfl) built_idZ) ?_;simp only[stz];refine qM rfl (fun K hK=>?_)
        refine qF 24 _ _ b11 0 (qA zeros32) (by rfl) (by rfl) (by rfl) (qR _) 32 (by kernel_rfl) hz32 _ _ hRd (by simp only[hz32,hz32];omega) (fun wg hBg hmg=>?_)
        rw[qC (by simp only[hz32,hz32])]at hBg;have hSg:Mod (fun k=>k=b11) w4 wg:=hS.trans hmg (fun _ _ h=>h);refine hK _ _ hSg ?_;clear hK K
        simp only[stz]
        have HF:Hid (BelowR base w c (f+1) t v0 s (.returned (.tuple #[v4,.agg (qA zeros32),.int .i64 0])) wg):=Lib.hid ⟨HM.out.transB' hSg (by omega),_,_,zeros32,0,rfl,HGL.out.keep hSg (fun q hq e=>HV.out q hq e),HVO.out,rfl,by rw[HX];exact⟨HRI.out,rfl,rfl⟩⟩
        clear hS hSg hmg hRd hR hD HM HGL HV;go_wp2
        refine bodyPost_ret (zA (P:=prog) (ty:=24) rfl _ _ b11 _ _ _ _ (by rfl) hBg underlying24 rfl (by rw[hz32];exact hzi)) rfl ?_;exact HF.out
       ·by_cases h2:t.d.media=2
        ·have hz2:(t.d.media:Int)=2:=by omega
         obtain⟨HX,hri⟩:=HRI.out (.inr h2);have HRI:=Lib.hid hri;clear hri h1 h2;go_upto_region 8 with(fail);refine wpR [3,1,3,3,3,1,3,3] ?_;simp only[stz]
         refine wpXd (v:=(.int .i64 t.d.media)) 3 b6 0 hcm underlying3 trivial ?_;try simp only[nmz]
         refine qG _ _ _ _ _ _ _ _ rfl rfl rfl rfl rfl true (decide_eq_true (by omega)) ?_;simp only[stz]
         refine wpXd (v:=(.int .i64 t.d.media)) 3 b6 0 hcm underlying3 trivial ?_;try simp only[nmz]
         refine qG _ _ _ _ _ _ _ _ rfl rfl rfl rfl rfl false (decide_eq_false (by omega)) ?_;simp only[stz];clear hcm;go_upto_region 10 with(fail)
         have hS:Mod (fun k=>k=b11) w4 w4:=Mod.refl _ _;have hRd:w4.heap[b11]?=some (.cells (qA zeros32) 24 (0,0)):=hR
         refine wp_region_seq [3,0,3,1,3] (fun w'=>Mod (fun k=>k=b11) w4 w') (by rfl) (by rfl) hS ?_;simp only[stz]
         refine qQ rfl (fun w' hS=>qL 24 [] [] _ (by rfl) (by rfl) built_idZ) ?_;simp only[stz];refine qM rfl (fun K hK=>?_)
         refine qF 24 _ _ b11 0 (qA zeros32) (by rfl) (by rfl) (by rfl) (qR _) 32 (by kernel_rfl) hz32 _ _ hRd (by simp only[hz32,hz32];omega) (fun wg hBg hmg=>?_)
         rw[qC (by simp only[hz32,hz32])]at hBg;have hSg:Mod (fun k=>k=b11) w4 wg:=hS.trans hmg (fun _ _ h=>h);refine hK _ _ hSg ?_;clear hK K
         simp only[stz]
         have HF:Hid (BelowR base w c (f+1) t v0 s (.returned (.tuple #[v4,.agg (qA zeros32),.int .i64 0])) wg):=Lib.hid ⟨HM.out.transB' hSg (by omega),_,_,zeros32,0,rfl,HGL.out.keep hSg (fun q hq e=>HV.out q hq e),HVO.out,rfl,by rw[HX];exact⟨HRI.out,rfl,rfl⟩⟩
         clear hS hSg hmg hRd hR hD HM HGL HV;go_wp2
         refine bodyPost_ret (zA (P:=prog) (ty:=24) rfl _ _ b11 _ _ _ _ (by rfl) hBg underlying24 rfl (by rw[hz32];exact hzi)) rfl ?_;exact HF.out
        ·have HX:(walkL c (f+1) t).2=some (t.d.id,20):=by rw[HW2.out,if_pos (by simp[h1,h2])]
         have hz1:¬(t.d.media:Int)=1:=by omega
         have hz2:¬(t.d.media:Int)=2:=by omega
         go_upto_region 8 with(fail);refine wpR [3,1,3,3,3,1,3,3] ?_;simp only[stz];refine wpXd (v:=(.int .i64 t.d.media)) 3 b6 0 hcm underlying3 trivial ?_
         try simp only[nmz]
         refine qG _ _ _ _ _ _ _ _ rfl rfl rfl rfl rfl true (decide_eq_true hz1) ?_;simp only[stz]
         refine wpXd (v:=(.int .i64 t.d.media)) 3 b6 0 hcm underlying3 trivial ?_;try simp only[nmz]
         refine qG _ _ _ _ _ _ _ _ rfl rfl rfl rfl rfl true (decide_eq_true hz2) ?_;simp only[stz];clear hcm;go_upto_region 9 with(fail)
         have hS:Mod (fun k=>k=b11) w4 w4.drew:=(Mod.refl _ _).drew;have hRd:w4.drew.heap[b11]?=some (.cells (qA zeros32) 24 (0,0)):=hR
         refine wpRZ [3,3,0,3,1,3] [] (fun w'=>Mod (fun k=>k=b11) w4 w') hS ?_;simp only[stz]
         refine wpLA 24 b6 1 (qA t.d.id) (fun w' hS=>(yJ hD).1.keep hS (fun e=>by have e':b6=b11:=e;omega)) underlying24 32 hic ?_;simp only[stz]
         refine qM rfl (fun K hK=>?_)
         refine qF 24 _ _ b11 0 (qA t.d.id) (by rfl) (by rfl) (by rfl) (qR _) 32 (by kernel_rfl) hic _ _ hRd (by simp only[hic,hz32];omega) (fun wg hBg hmg=>?_)
         rw[qC (by simp only[hic,hz32])]at hBg;have hSg:Mod (fun k=>k=b11) w4 wg:=hS.trans hmg (fun _ _ h=>h);refine hK _ _ hSg ?_;clear hK K
         simp only[stz]
         have HF:Hid (BelowR base w c (f+1) t v0 s (.returned (.tuple #[v4,.agg (qA t.d.id),.int .i64 20])) wg):=Lib.hid ⟨HM.out.transB' hSg (by omega),_,_,t.d.id,20,rfl,HGL.out.keep hSg (fun q hq e=>HV.out q hq e),HVO.out,hid,by rw[HX];exact⟨rfl,rfl,by decide⟩⟩
         clear hS hSg hmg hRd hR hD HM HGL HV;go_wp2
         refine bodyPost_ret (zA (P:=prog) (ty:=24) rfl _ _ b11 _ _ _ _ (by rfl) hBg underlying24 rfl (by rw[hic];exact hzi)) rfl ?_;exact HF.out
      |false=>
       have htf:¬treeT t=false:=by
        have:=HLF.out;rw[HTT2.out]
        simpa using this
       have HW2:Hid (walkL c (f+1) t=if 4<t.depth then([],some (t.d.id,18))else match decL b with
        |none=>([],some (t.d.id,5))
        |some m=>if(fi||decide (m.kind=t.d.media))=false then([],some (t.d.id,20))else(t::(zZ (fun d=>walkL c f ⟨d,t.depth+1,false⟩) (zE m)).1,(zZ (fun d=>walkL c f ⟨d,t.depth+1,false⟩) (zE m)).2)):=Lib.hid (by rw[HW1.out,if_neg (by simp),if_neg htf])
       clear htf HW1 HTT2 HLF
       by_cases h4:4<t.depth
       ·have hz4:(t.depth:Int)>4:=by omega
        have HX:(walkL c (f+1) t).2=some (t.d.id,18):=by rw[HW2.out,if_pos h4]
        clear hcm;go_upto_region 12 with(fail);have hS:Mod (fun k=>k=b11) w4 w4.drew:=(Mod.refl _ _).drew
        have hRd:w4.drew.heap[b11]?=some (.cells (qA zeros32) 24 (0,0)):=hR;refine wpRZ [3,3,0,3,1,3] [] (fun w'=>Mod (fun k=>k=b11) w4 w') hS ?_
        simp only[stz];refine wpLA 24 b6 1 (qA t.d.id) (fun w' hS=>(yJ hD).1.keep hS (fun e=>by have e':b6=b11:=e;omega)) underlying24 32 hic ?_
        simp only[stz];refine qM rfl (fun K hK=>?_)
        refine qF 24 _ _ b11 0 (qA t.d.id) (by rfl) (by rfl) (by rfl) (qR _) 32 (by kernel_rfl) hic _ _ hRd (by simp only[hic,hz32];omega) (fun wg hBg hmg=>?_)
        rw[qC (by simp only[hic,hz32])]at hBg;have hSg:Mod (fun k=>k=b11) w4 wg:=hS.trans hmg (fun _ _ h=>h);refine hK _ _ hSg ?_;clear hK K;simp only[stz]
        have HF:Hid (BelowR base w c (f+1) t v0 s (.returned (.tuple #[v4,.agg (qA t.d.id),.int .i64 18])) wg):=Lib.hid ⟨HM.out.transB' hSg (by omega),_,_,t.d.id,18,rfl,HGL.out.keep hSg (fun q hq e=>HV.out q hq e),HVO.out,hid,by rw[HX];exact⟨rfl,rfl,by decide⟩⟩
        clear hS hSg hmg hRd hR hD HM HGL HV;go_wp2
        refine bodyPost_ret (zA (P:=prog) (ty:=24) rfl _ _ b11 _ _ _ _ (by rfl) hBg underlying24 rfl (by rw[hic];exact hzi)) rfl ?_;exact HF.out
       ·have hz4:¬(t.depth:Int)>4:=by omega
        replace HW2:=Lib.hid (HW2.out.trans (if_neg h4));go_upto_region 13 with(fail);refine wpR [3,1,3,3,3,1,1,1,1] ?_;simp only[stz]
        refine wpD (wpC func164 (r11Decode_any (Bts.sl HB4.out) (fun k hk=>(HB4.out.lt hk).2) hbl) ?_);rintro e w6 ⟨hm6,cs,er,at_,rfl,her,hmc⟩;have hcs:=hmc.size
        have hco:=hmc.one;refine⟨_,rfl,?_⟩;simp only[stz];refine qE (v:=?_) rfl (fun w'=>?_) ?_;rotate_left;·(go_simp;try with_reducible rfl)
        simp only[nmz];refine qE (v:=?_) rfl (fun w'=>?_) ?_;rotate_left;·(go_simp;try with_reducible rfl)
        simp only[nmz];refine wpD (qP 163 _ (by rfl) manZ_i (fun w7 hB7 hm7 hs7=>?_))
        replace hB7:w7.heap[w6.heap.size]?=some (.cells (qN 0 [] descZ (.slice none 0 0) (.slice none 0 0)) 163 (0,0)):=hB7;try simp only[nmz]
        refine wpD (qP 255 _ (by rfl) fltZ (fun w8 hB8 hm8 hs8=>?_));replace hB8:w8.heap[w7.heap.size]?=some (.cells #[.int .i64 0,.int .i64 0] 255 (0,0)):=hB8
        try simp only[nmz]
        refine wpDo rfl ?_
        refine qF 163 _ _ w6.heap.size 0 cs (by rfl) (by rfl) (by rfl) hco 39 (by kernel_rfl) hcs _ _ (hm8.obj id hB7) (by rw[hcs];exact Nat.le_of_eq (qS qV).symm) (fun w9 hB9 hm9=>?_)
        rw[qC (by rw[hcs];exact(qS qV).symm)]at hB9;have hB8':=hm9.objB (by omega) hB8;try simp only[nmz]
        refine wpD (qF 255 _ _ w7.heap.size 0 #[.int .i64 er,.int .i64 at_] (by rfl) (by rfl) (by rfl) (by simp[Value.oneCell']) 2 (by kernel_rfl) rfl _ _ hB8' (by simp) (fun wa hBa hma=>?_))
        rw[qC (by rfl)]at hBa;have hB9':=hma.objB (by omega) hB9;simp only[stz]
        have hm6a:Mod NoB w6 wa:=((hm7.trans0 hm8).transB hm9 (Nat.le_refl _)).transB hma (by have:=hm7.size;omega);have hm4a:Mod NoB w4 wa:=hm6.trans0 hm6a
        have HMC:=Lib.hid (hmc.keep0 hm6a);have HER:=Lib.hid her;have hce:wa.cell? ⟨w7.heap.size,0,none⟩=some (.int .i64 er):=by rw[cell_of_row _ _ _ _ _ _ hBa];rfl
        replace hcm:=hm4a.cell id hcm;replace hD:=hm4a.obj id hD;replace hR:=hm4a.obj id hR;replace HM:=Lib.hid (HM.out.trans0 hm4a)
        replace HGL:=Lib.hid (HGL.out.keep0 hm4a);generalize hb16:w7.heap.size=b16 at*;generalize hb15:w6.heap.size=b15 at*
        clear hm6 hm7 hm8 hm9 hma hm4a hm6a hB7 hB8 hB8' hB9 hBa hmc her HB4 hs7 hs8
        by_cases hez:er=0
        rotate_left
        ·have HX:(walkL c (f+1) t).2=some (t.d.id,5):=by
          rw[HW2.out]
          have:decL b=none:=by
           cases hd:decL b with
           |none=>rfl
           |some q=>exact absurd (HER.out.2 (by rw[hd];rfl)) hez
          rw[this]
         go_upto_region 14 with(fail);refine wpR [3,1,3,3] ?_;simp only[stz];refine wpXd (v:=(.int .i64 er)) 33 b16 0 hce underlying33 trivial ?_;try simp only[nmz]
         refine qG _ _ _ _ _ _ _ _ rfl rfl rfl rfl rfl true (decide_eq_true hez) ?_;simp only[stz];clear hce hcm hB9' HMC;go_upto_region 15 with(fail)
         have hS:Mod (fun k=>k=b11) wa wa.drew:=(Mod.refl _ _).drew;have hRd:wa.drew.heap[b11]?=some (.cells (qA zeros32) 24 (0,0)):=hR
         refine wpRZ [3,3,0,3,1,3] [] (fun w'=>Mod (fun k=>k=b11) wa w') hS ?_;simp only[stz]
         refine wpLA 24 b6 1 (qA t.d.id) (fun w' hS=>(yJ hD).1.keep hS (fun e=>by have e':b6=b11:=e;omega)) underlying24 32 hic ?_;simp only[stz]
         refine qM rfl (fun K hK=>?_)
         refine qF 24 _ _ b11 0 (qA t.d.id) (by rfl) (by rfl) (by rfl) (qR _) 32 (by kernel_rfl) hic _ _ hRd (by simp only[hic,hz32];omega) (fun wg hBg hmg=>?_)
         rw[qC (by simp only[hic,hz32])]at hBg;have hSg:Mod (fun k=>k=b11) wa wg:=hS.trans hmg (fun _ _ h=>h);refine hK _ _ hSg ?_;clear hK K
         simp only[stz]
         have HF:Hid (BelowR base w c (f+1) t v0 s (.returned (.tuple #[v4,.agg (qA t.d.id),.int .i64 5])) wg):=Lib.hid ⟨HM.out.transB' hSg (by omega),_,_,t.d.id,5,rfl,HGL.out.keep hSg (fun q hq e=>HV.out q hq e),HVO.out,hid,by rw[HX];exact⟨rfl,rfl,by decide⟩⟩
         clear hS hSg hmg hRd hR hD HM HGL HV;go_wp2
         refine bodyPost_ret (zA (P:=prog) (ty:=24) rfl _ _ b11 _ _ _ _ (by rfl) hBg underlying24 rfl (by rw[hic];exact hzi)) rfl ?_;exact HF.out
        ·subst hez
         obtain⟨M,hM⟩:∃M,decL b=some M:=Option.isSome_iff_exists.1 (HER.out.1 rfl);have hmc:=HMC.out;rw[hM]at hmc;replace hmc:ManC w4.heap.size wa cs M:=hmc
         have hck:wa.cell? ⟨b15,0,none⟩=some (.int .i64 M.kind):=by
          rw[cell_of_row _ _ _ _ _ _ hB9'];obtain⟨_,lv,sv,rfl,_,_⟩:=hmc;exact man_kind _ _ _ _ _
         replace HW2:Hid (walkL c (f+1) t=if(fi||decide (M.kind=t.d.media))=false then([],some (t.d.id,20))else(t::(zZ (fun d=>walkL c f ⟨d,t.depth+1,false⟩) (zE M)).1,(zZ (fun d=>walkL c f ⟨d,t.depth+1,false⟩) (zE M)).2)):=Lib.hid (by rw[HW2.out,hM])
         have HDL:=Lib.hid hM;have HMC2:=Lib.hid hmc;clear hM hmc HMC HER;go_upto_region 14 with(fail);refine wpR [3,1,3,3] ?_;simp only[stz]
         refine wpXd (v:=(.int .i64 0)) 33 b16 0 hce underlying33 trivial ?_;try simp only[nmz]
         refine qG _ _ _ _ _ _ _ _ rfl rfl rfl rfl rfl false (by decide) ?_;simp only[stz];clear hce
         obtain⟨kf,hkf⟩:∃kf,(!(fi||decide (M.kind=t.d.media)))=kf:=⟨_,rfl⟩;have HKF:=Lib.hid hkf;clear hkf;go_upto_region 16 with(fail)
         go_cut [89] (fun s wx=>s=.bool kf/\wx=wa)
         case first=>
          have hkf:=HKF.out
          cases fi with
          |true=>
           obtain rfl:kf=false:=by rw[<-hkf];rfl
           clear hkf;refine wpR [3,3,3,3,0,3,0,3,3,3] ?_;simp only[stz]
           try refine zH _ _ true (by rfl) (by rfl) (by rfl) ?_
           try simp only[stz]
           go_wp2
           go_meet
           case rel=>exact⟨rfl,rfl⟩
          |false=>
           by_cases hq:M.kind=t.d.media
           ·obtain rfl:kf=false:=by rw[<-hkf];simp[hq]
            clear hkf;refine wpR [3,3,3,3,1,3,1,3,3,3] ?_;simp only[stz]
            try refine zH _ _ false (by rfl) (by rfl) (by rfl) ?_
            try simp only[stz]
            refine wpXd (v:=(.int .i64 M.kind)) 3 b15 0 hck underlying3 trivial ?_;simp only[stz];refine wpXd (v:=(.int .i64 t.d.media)) 3 b6 0 hcm underlying3 trivial ?_
            try simp only[nmz]
            refine qG _ _ _ _ _ _ _ _ rfl rfl rfl rfl rfl false (decide_eq_false (by omega)) ?_;simp only[stz];go_wp2
            go_meet
            case rel=>exact⟨rfl,rfl⟩
           ·obtain rfl:kf=true:=by rw[<-hkf];simp[hq]
            clear hkf;refine wpR [3,3,3,3,1,3,1,3,3,3] ?_;simp only[stz]
            try refine zH _ _ false (by rfl) (by rfl) (by rfl) ?_
            try simp only[stz]
            refine wpXd (v:=(.int .i64 M.kind)) 3 b15 0 hck underlying3 trivial ?_;simp only[stz];refine wpXd (v:=(.int .i64 t.d.media)) 3 b6 0 hcm underlying3 trivial ?_
            try simp only[nmz]
            refine qG _ _ _ _ _ _ _ _ rfl rfl rfl rfl rfl true (decide_eq_true (by omega)) ?_;simp only[stz];go_wp2
            go_meet
            case rel=>exact⟨rfl,rfl⟩
         case rest=>
          obtain⟨rfl,hw⟩:=hcut;obtain rfl:=hw.symm;clear hck hcm
          cases kf with
          |true=>
           have HX:(walkL c (f+1) t).2=some (t.d.id,20):=by
            have:=HKF.out;rw[HW2.out,if_pos (by simpa using this)]
           clear hB9';go_upto_region 17 with(fail);have hS:Mod (fun k=>k=b11) wa wa.drew:=(Mod.refl _ _).drew
           have hRd:wa.drew.heap[b11]?=some (.cells (qA zeros32) 24 (0,0)):=hR;refine wpRZ [3,3,0,3,1,3] [] (fun w'=>Mod (fun k=>k=b11) wa w') hS ?_
           simp only[stz];refine wpLA 24 b6 1 (qA t.d.id) (fun w' hS=>(yJ hD).1.keep hS (fun e=>by have e':b6=b11:=e;omega)) underlying24 32 hic ?_
           simp only[stz];refine qM rfl (fun K hK=>?_)
           refine qF 24 _ _ b11 0 (qA t.d.id) (by rfl) (by rfl) (by rfl) (qR _) 32 (by kernel_rfl) hic _ _ hRd (by simp only[hic,hz32];omega) (fun wg hBg hmg=>?_)
           rw[qC (by simp only[hic,hz32])]at hBg;have hSg:Mod (fun k=>k=b11) wa wg:=hS.trans hmg (fun _ _ h=>h);refine hK _ _ hSg ?_;clear hK K
           simp only[stz]
           have HF:Hid (BelowR base w c (f+1) t v0 s (.returned (.tuple #[v4,.agg (qA t.d.id),.int .i64 20])) wg):=Lib.hid ⟨HM.out.transB' hSg (by omega),_,_,t.d.id,20,rfl,HGL.out.keep hSg (fun q hq e=>HV.out q hq e),HVO.out,hid,by rw[HX];exact⟨rfl,rfl,by decide⟩⟩
           clear hS hSg hmg hRd hR hD HM HGL HV;go_wp2
           refine bodyPost_ret (zA (P:=prog) (ty:=24) rfl _ _ b11 _ _ _ _ (by rfl) hBg underlying24 rfl (by rw[hic];exact hzi)) rfl ?_;exact HF.out
          |false=>
           have hids:=decL_ids HDL.out;have hlens:=decL_len HDL.out;have hdc:=r11Descs_any HMC2.out ⟨hlens.1,hlens.2.1⟩
           have hdl:(zE M).length<=33:=by
            unfold zE;simp only[List.length_append]
            split<;>simp<;>omega
           obtain⟨g,hgd⟩:∃g,(fun d=>walkL c f ⟨d,t.depth+1,false⟩)=g:=⟨_,rfl⟩
           have hw2:walkL c (f+1) t=(t::(zZ g (zE M)).1,(zZ g (zE M)).2):=by
            have:=HKF.out;rw[HW2.out,if_neg (by simpa using this),hgd]
           obtain⟨ds,hds⟩:∃ds,zE M=ds:=⟨_,rfl⟩;rw[hds]at hdc hdl hids hw2;have HW3:=Lib.hid hw2;have HGD:=Lib.hid hgd;have HIDS:=Lib.hid hids
           clear hw2 hgd hids hlens hds HW2 HKF HMC2 HDL;go_upto_region 18 with(fail);refine wpR [1,1,3] ?_;simp only[stz]
           refine wpXA 163 b15 0 cs (CellsAt.whole hB9') underlying163 39 hcs trivial ?_;try simp only[nmz]
           refine wpD (wpC func165 (hdc) ?_);rintro e wb ⟨hmb,dv,rfl,hgdv⟩;have HDV:=Lib.hid hgdv;obtain⟨dad,dcap,rfl⟩:=hgdv.slice;clear hgdv;refine⟨_,rfl,?_⟩
           simp only[stz];replace hD:=hmb.obj id hD;replace hR:=hmb.obj id hR;replace HM:=Lib.hid (HM.out.trans0 hmb);replace HGL:=Lib.hid (HGL.out.keep0 hmb)
           have hzb:wa.heap.size<=wb.heap.size:=hmb.size
           have HRL:Hid (BelRel base wb b11 w v0 g ds (s++[t.d.id]) v4 (.int .i64 (0:Nat)) wb):=Lib.hid ⟨0,m4,by omega,rfl,HGL.out,by simpa using HR0.out,fun j _ h=>by omega,HV.out,HVO.out,Mod.refl _ _⟩
           have hm0b:Mod NoB w0 wb:=HM0.out.trans0 HM.out;clear hmb hB9' hdc HR0 HV HVO HGL;go_wp2
           go_loopw [4,18] (BelRel base wb b11 w v0 g ds (s++[t.d.id])) (fun _ i _=>ds.length-(intOf i).toNat)
           case atStart=>exact HRL.out
           case round=>
            rename World=>wr
            obtain⟨k,m,hk,rfl,hgr,hrr,hno,hn11,hor,hmr⟩:=hrel;have HGL:=Lib.hid hgr;have HV:=Lib.hid hn11;have HVO:=Lib.hid hor;replace hD:=hmr.obj id hD
            replace hR:=hmr.obj id hR;replace HM:=Lib.hid (HM.out.trans0 hmr);have hsr:=HM.out.size;have hbr:=hmr.size;obtain⟨vad,vcp,rfl⟩:=hgr.slice
            by_cases hlt:k<ds.length
            ·have hzk:(k:Int)<(ds.length:Nat):=by omega
             have hmem:∀y∈s++[t.d.id]++(ds.take k).flatMap (fun d=>idsT (g d).1),y∈c.map (·.1):=fun y hy=>by
              rcases List.mem_append.1 hy with hy|hy
              ·rcases List.mem_append.1 hy with hy|hy
               ·exact HS0.out y hy
               ·rw[List.mem_singleton.1 hy];exact HIN.out
              ·obtain⟨d,_,hd⟩:=List.mem_flatMap.1 hy
               rw[<-HGD.out]at hd;exact walkL_keys y hd
             have hdid:=HIDS.out ds[k] (List.getElem_mem _);have hgr2:=HDV.out.keep0 hmr;obtain⟨gb,cap',cur,hq,hgc,hcc,hszd,-,-⟩:=hgr2.at xZ k hlt
             cases hq
             have hst:=fun e he=>walkDs_stop g e ds k hlt hno he
             have hnx:(g ds[k]).2=none->∀j (hj:j<ds.length),j<k+1->(g ds[j]).2=none:=fun h j hj hjk=>by
              rcases Nat.lt_or_ge j k with h1|h1
              ·exact hno j hj h1
              ·obtain rfl:j=k:=by omega
               exact h
             have htk:(ds.take (k+1)).flatMap (fun d=>idsT (g d).1)=(ds.take k).flatMap (fun d=>idsT (g d).1)++idsT (g ds[k]).1:=by rw[List.take_succ_eq_append_getElem hlt,List.flatMap_append];simp
             have hgk:g ds[k]=walkL c f ⟨ds[k],t.depth+1,false⟩:=by rw[<-HGD.out]
             have HST:=Lib.hid hst;have HNX:=Lib.hid hnx;have HTK:=Lib.hid htk;obtain⟨d,hd⟩:∃d,ds[k]=d:=⟨_,rfl⟩;rw[hd]at hgk hdid hcc HST HNX HTK
             rw[jK hdid]at hcc;have hdsz:(qB d).size=35:=qO hdid;have hdone:∀c∈qB d,c.oneCell'=true:=zJ _ _ _ _
             have HGK:=Lib.hid hgk;have HRR:=Lib.hid hrr;have HME:=Lib.hid hmem
             have HRec:=Lib.hid (fun wq (hq:Mod NoB wr wq)=>IH.out ⟨d,t.depth+1,false⟩ wq (.slice vad m.length vcp) _ m hdid (show t.depth+1+f=6 by omega) (by omega) ((hm0b.trans0 hmr).trans0 hq) (by have:=hq.size;omega) (HGL.out.keep0 hq) HRR.out HME.out)
             clear hst hnx htk hgk hd hrr hno hmem hgr hgr2 hgc hszd hn11 hor;go_upto_region 22 with(fail);refine wpR [1] ?_;simp only[stz]
             refine wpD (qP 24 _ (by rfl) idZ (fun wc hBc hmc hsc=>?_));replace hBc:wc.heap[wr.heap.size]?=some (.cells (qA zeros32) 24 (0,0)):=hBc
             simp only[stz];have hrec:=HRec.out wc hmc;have h11r:b11<wr.heap.size:=(Array.getElem?_eq_some_iff.1 hR).1;replace hcc:=hcc.keep hmc id
             have hsc:wr.heap.size<wc.heap.size:=hsc;generalize hb19:wr.heap.size=b19 at*;go_upto_region 24 with(fail)
             refine wpR [3,3,3,3,1,3,3,3,1,3,3,3,3,3,1,3] ?_;simp only[stz];refine wpPI underlying161 35 hlt ?_;simp only[nmz]
             refine wpXA 46 gb (k*35) (qB d) hcc underlying46 35 hdsz trivial ?_;simp only[stz]
             refine qY _ _ _ _ (t.depth:Int) 1 ((t.depth+1:Nat):Int) rfl rfl rfl rfl (by omega) (by omega) (by omega) ?_;simp only[stz]
             refine wpD (wpC func85 (hrec) ?_);rintro e wd ⟨hmd,v5,m5,bad5,n5,rfl,hg5,ho5,hl5,hout5⟩;have hc5:(qA bad5).size=32:=by rw[qD,hl5]
             have hv5:v5.oneCell'=true:=yF hg5;refine⟨_,rfl,?_⟩;simp only[stz]
             refine qE rfl (fun w'=>qI _ 0 #[v5,.agg (qA bad5),.int .i64 n5] rfl rfl v5 rfl) ?_;simp only[nmz]
             refine qE rfl (fun w'=>qI _ 1 #[v5,.agg (qA bad5),.int .i64 n5] rfl rfl (.agg (qA bad5)) rfl) ?_;simp only[nmz]
             refine qE rfl (fun w'=>qI _ 2 #[v5,.agg (qA bad5),.int .i64 n5] rfl rfl (.int .i64 n5) rfl) ?_;simp only[stz]
             refine wpD (qF 24 _ _ b19 0 (qA bad5) (by rfl) (by rfl) (by rfl) (qR _) 32 (by kernel_rfl) hc5 _ _ (hmd.obj id hBc) (by rw[hc5,hz32];exact Nat.le_refl _) (fun we hBe hme=>?_))
             rw[qC (by rw[hc5,hz32])]at hBe;simp only[stz]
             have hne5:∀q,v5.ownBlock=some q->q≠b19:=fun q hq=>by
              rcases ho5 q hq with h1|h1
              ·have:=(HGL.out.lt h1).2;omega
              ·omega
             have hgle:GatI base we v5 m5:=hg5.keep hme hne5;have hmre:Mod NoB wr we:=(hmc.trans0 hmd).transB hme (by omega)
             have HV5:Hid (∀q,v5.ownBlock=some q->q≠b11):=Lib.hid (ho5.ne HV.out (by have:=(Array.getElem?_eq_some_iff.1 hR).1;omega))
             have HVO5:Hid (OwnOr w v0 v5):=Lib.hid (HVO.out.trans ho5 (by omega));have HGL5:=Lib.hid hgle;replace HGL:=HGL5;replace HV:=HV5;replace HVO:=HVO5
             clear hg5 ho5 hgle hne5 hrec HRec hcc hmc hmd hme hBc HGL5 HV5 HVO5;replace hD:=hmre.obj id hD;replace hR:=hmre.obj id hR
             replace HM:=Lib.hid (HM.out.trans0 hmre);obtain⟨xe,hxe⟩:∃xe,(walkL c f ⟨d,t.depth+1,false⟩).2=xe:=⟨_,rfl⟩;rw[hxe]at hout5
             cases xe with
             |some ee=>
              obtain⟨hq1,hq2,hq3⟩:=hout5;have HX:(walkL c (f+1) t).2=some ee:=by rw[HW3.out,HST.out ee (by rw[HGK.out];exact hxe)]
              have HQ:Hid (bad5=ee.1/\n5=ee.2):=Lib.hid ⟨hq1,hq2⟩;clear hq1 hq2 hxe HRL;go_upto_region 26 with(fail)
              have hS:Mod (fun k=>k=b11) we we.drew:=(Mod.refl _ _).drew;have hRd:we.drew.heap[b11]?=some (.cells (qA zeros32) 24 (0,0)):=hR
              refine wpRZ [3,0,3,3,1,3] [] (fun w'=>Mod (fun k=>k=b11) we w') hS ?_;simp only[stz]
              refine wpLA 24 b19 0 (qA bad5) (fun w' hS=>CellsAt.whole (hS.objB (by omega) hBe)) underlying24 32 hc5 ?_;simp only[stz];refine qM rfl (fun K hK=>?_)
              refine qF 24 _ _ b11 0 (qA bad5) (by rfl) (by rfl) (by rfl) (qR _) 32 (by kernel_rfl) hc5 _ _ hRd (by simp only[hc5,hz32];omega) (fun wg hBg hmg=>?_)
              rw[qC (by simp only[hc5,hz32])]at hBg;have hSg:Mod (fun k=>k=b11) we wg:=hS.trans hmg (fun _ _ h=>h);refine hK _ _ hSg ?_;clear hK K
              simp only[stz]
              have HF:Hid (BelowR base w c (f+1) t v0 s (.returned (.tuple #[v5,.agg (qA bad5),.int .i64 n5])) wg):=Lib.hid ⟨HM.out.transB' hSg (by omega),_,_,bad5,n5,rfl,HGL.out.keep hSg (fun q hq e=>HV.out q hq e),HVO.out,hl5,by rw[HX];exact⟨HQ.out.1,HQ.out.2,hq3⟩⟩
              clear hS hSg hmg hRd hR hD HM HGL HV hBe;go_wp2
              refine bodyPost_ret (zA (P:=prog) (ty:=24) rfl _ _ b11 _ _ _ _ (by rfl) hBg underlying24 rfl (by rw[hc5];exact hzi)) rfl ?_;exact HF.out
             |none=>
              obtain⟨hq1,hq2,rfl⟩:=hout5
              have HR:Hid (BelRel base wb b11 w v0 g ds (s++[t.d.id]) v5 (.int .i64 ((k+1:Nat):Int)) we):=Lib.hid ⟨k+1,m5,by omega,rfl,HGL.out,by
               rw[HTK.out,<-List.append_assoc,HGK.out]
               exact hq1,HNX.out (by rw[HGK.out];exact hxe),HV.out,HVO.out,hmr.trans0 hmre⟩
              clear hq1 hq2 hxe HRL hBe hR hD;go_wp2
              go_roundw
              case rel=>exact HR.out
              case measure=>simp[intOf];omega
            ·have hzk:¬(k:Int)<(ds.length:Nat):=by omega
             obtain rfl:k=ds.length:=by omega
             obtain⟨hx1,hx2⟩:=walkDs_ids (g:=g) (ds:=ds) (fun j hj=>hno j hj hj);have HX:(walkL c (f+1) t).2=none:=by rw[HW3.out];exact hx1
             have HRI:Hid (RiseI (s++idsT (walkL c (f+1) t).1) m):=Lib.hid (by
              rw[List.take_length,<-hx2]at hrr;rw[HW3.out];have e:s++idsT (t::(zZ g ds).1)=s++[t.d.id]++idsT (zZ g ds).1:=by rw[List.append_assoc];rfl
              rw[e]
              exact hrr)
             clear hx1 hx2 hrr hgr hn11 hor hno;go_upto_region 27 with(fail);have hS:Mod (fun k=>k=b11) wr wr:=Mod.refl _ _
             have hRd:wr.heap[b11]?=some (.cells (qA zeros32) 24 (0,0)):=hR
             refine wp_region_seq [3,0,3,1,3] (fun w'=>Mod (fun k=>k=b11) wr w') (by rfl) (by rfl) hS ?_;simp only[stz]
             refine qQ rfl (fun w' hS=>qL 24 [] [] _ (by rfl) (by rfl) built_idZ) ?_;simp only[stz];refine qM rfl (fun K hK=>?_)
             refine qF 24 _ _ b11 0 (qA zeros32) (by rfl) (by rfl) (by rfl) (qR _) 32 (by kernel_rfl) hz32 _ _ hRd (by simp only[hz32,hz32];omega) (fun wg hBg hmg=>?_)
             rw[qC (by simp only[hz32,hz32])]at hBg;have hSg:Mod (fun k=>k=b11) wr wg:=hS.trans hmg (fun _ _ h=>h);refine hK _ _ hSg ?_;clear hK K
             simp only[stz]
             have HF:Hid (BelowR base w c (f+1) t v0 s (.returned (.tuple #[(.slice vad m.length vcp),.agg (qA zeros32),.int .i64 0])) wg):=Lib.hid ⟨HM.out.transB' hSg (by omega),_,_,zeros32,0,rfl,HGL.out.keep hSg (fun q hq e=>HV.out q hq e),HVO.out,rfl,by rw[HX];exact⟨HRI.out,rfl,rfl⟩⟩
             clear hS hSg hmg hRd hR hD HM HGL HV;go_wp2
             refine bodyPost_ret (zA (P:=prog) (ty:=24) rfl _ _ b11 _ _ _ _ (by rfl) hBg underlying24 rfl (by rw[hz32];exact hzi)) rfl ?_;exact HF.out
end
section
variable{w w':World}{bs wd:Nat}{c c':BlobL}{Ft:Nat->Prop}
theorem StoAt.mark(H:StoAt w bs wd c Ft){own:Bool}{G:Nat->Prop}{v:Value}{roots:List (List UInt8)}(hv:Sl own w G 32 IdC v roots)(hn:roots.length<=10000)(hc:c.length<=1000):Calls prog 22 #[.pointer (some ⟨bs,0,Option.none⟩),v] w (MarkR w c roots):=by
 obtain⟨ms,bl,h1,rfl,_⟩:=H;exact clMark_any h1 hv hn hc
end
theorem clWhole_of{w:World}{v:Value}{x:List UInt8}(hx:x.length=32){P:Int->Prop}(h:∀w',Mod NoB w w'->Calls prog 20 #[v,.agg (qA x)] w' (fun e w''=>Mod NoB w' w''/\∃vv bad n,e=.returned (.tuple #[vv,.agg (qA bad),.int .i64 n])/\bad.length=32/\P n)):
 Calls prog 25 #[v,.agg (qA x)] w (fun e w'=>Mod NoB w w'/\∃n,P n/\e=.returned (.bool (decide (n=0)))):=by
 have hic:(qA x).size=32:=by rw[qD,hx]
 have H:=hid h;clear h;go_enter func25,ntmps25;go_upto_region 0 with(fail);refine wpR [1,3] ?_;simp only[stz]
 refine wpD (zT 24 _ _ (by rfl) (by rfl) (fun w1 hB1 hm1 hs1=>?_));replace hB1:w1.heap[w.heap.size]?=some (.cells (qA x) 24 (0,0)):=hB1;simp only[stz]
 have hwk:=H.out w1 hm1;have hc1:CellsAt w1 w.heap.size 0 (qA x):=CellsAt.whole hB1;generalize w.heap.size=b3 at*;clear hB1 hs1;go_upto_region 1 with(fail)
 refine wpR [3,1,1,3,3,3,3,1,3,1,3] ?_;simp only[stz];refine wpXA 24 b3 0 (qA x) hc1 underlying24 32 hic trivial ?_;try simp only[nmz]
 refine wpD (wpC func20 (hwk) ?_);rintro e w3 ⟨hm3,vv,bad,n,he3,hb3,hP⟩;subst he3;refine⟨_,rfl,?_⟩;simp only[stz]
 refine qE rfl (fun w'=>qI _ 0 #[vv,.agg (qA bad),.int .i64 n] rfl rfl vv rfl) ?_;simp only[nmz]
 refine qE rfl (fun w'=>qI _ 1 #[vv,.agg (qA bad),.int .i64 n] rfl rfl (.agg (qA bad)) rfl) ?_;simp only[nmz]
 refine qE rfl (fun w'=>qI _ 2 #[vv,.agg (qA bad),.int .i64 n] rfl rfl (.int .i64 n) rfl) ?_;simp only[nmz]
 refine wpD (qP 24 _ (by rfl) idZ (fun w4 hB4 hm4 hs4=>?_));replace hB4:w4.heap[w3.heap.size]?=some (.cells (qA (List.replicate 32 0)) 24 (0,0)):=hB4
 simp only[stz];refine wpDo rfl ?_;have hi2:(qA bad).size=32:=by rw[qD,hb3]
 refine qF 24 _ _ w3.heap.size 0 (qA bad) (by rfl) (by rfl) (by rfl) (qR _) 32 (by kernel_rfl) hi2 _ _ hB4 (by rw[hi2,qD];simp) (fun w5 hB5 hm5=>?_)
 simp only[stz];have hm05:Mod NoB w w5:=(hm1.trans0 hm3).trans0 (hm4.transB hm5 (Nat.le_refl _));clear hwk hc1 hm1 hm3 hm4 hm5 hB4 hB5 hs4
 by_cases hz:n=0
 ·subst hz
  go_wp2;go_ret;exact⟨hm05,0,hP,rfl⟩
 ·have hd:decide (n=0)=false:=decide_eq_false hz
  go_wp2;go_ret;exact⟨hm05,n,hP,rfl⟩
def WholeR(w:World)(c:BlobL)(x:List UInt8):Ending->World->Prop:=fun e w'=>Mod NoB w w'/\∃ids bad n,yD c x ids bad n/\e=.returned (.bool (decide (n=0)))
theorem StoAt.whole{w:World}{bs wd:Nat}{c:BlobL}{Ft:Nat->Prop}(H:StoAt w bs wd c Ft)(hc:c.length<=1000){x:List UInt8}(hx:x.length=32):Calls prog 25 #[.pointer (some ⟨bs,0,Option.none⟩),.agg (qA x)] w (WholeR w c x):=by
 refine(clWhole_of hx (P:=fun n=>∃ids bad,yD c x ids bad n) fun w' hm=>((H.keep0 hm).walk hc x hx).mono ?_).mono ?_
 ·rintro e w'' ⟨hm,v,ids,bad,n,rfl,_,ho,hb,_⟩
  exact⟨hm,_,_,_,rfl,hb,ids,bad,ho⟩
 ·rintro e w' ⟨hm,n,⟨ids,bad,ho⟩,rfl⟩
  exact⟨hm,ids,bad,n,ho,rfl⟩
section
variable{w0:World}{sv:Value}{c:BlobM}
theorem r13Walk_any(HGet:GetsC w0 sv c)(hsz:∀k b,getL k c=some b->b.length<=4096)(hks:∀x∈c.map (·.1),x.length=32)(hcl:c.length<=9000){w:World}(hm0:Mod NoB w0 w)(di:List UInt8)(hid:di.length=32):
 Calls prog 21 #[sv,.agg (qA di)] w (WalkR w c di):=by
 have hic:(qA di).size=32:=by rw[qD,hid]
 have hz32:(qA zeros32).size=32:=by rw[qD];rfl
 have hzi:(prog.info? 24).map (·.size)=some 32:=by kernel_rfl
 have HB:=Lib.hid (fun w' (hm:Mod NoB w w')=>r13below_any HGet hsz hks hcl w.heap.size 5 (thgI di) w' (.slice none 0 0) [] [] hid rfl (by omega) (hm0.trans0 hm) hm.size (Gat.nil _ _ _ _ _) ⟨.nil,fun y=>Iff.rfl⟩ (fun y hy=>by cases hy))
 have hdI:=built_descI di hid;have HKS:=Lib.hid hks;have HNO:=Lib.hid (fun e he=>walkL_err c 5 (thgI di) e hid he);clear HGet hsz hks hm0;go_enter func21,ntmps21
 go_upto_region 0 with(fail);refine wpR [1,3,1,3] ?_;simp only[stz];refine wpD (zT 24 _ _ (by rfl) (by rfl) (fun w1 hB1 hm1 hs1=>?_))
 replace hB1:w1.heap[w.heap.size]?=some (.cells (qA di) 24 (0,0)):=hB1;simp only[stz];refine wpD (qP 24 _ (by rfl) idZ (fun w2 hB2 hm2 hs2=>?_))
 replace hB2:w2.heap[w1.heap.size]?=some (.cells (qA zeros32) 24 (0,0)):=hB2;simp only[stz];have hB3:=hm2.obj id hB1;have hR:=hB2
 have hb3s:w.heap.size<w1.heap.size:=hs1;have hb5s:w1.heap.size<w2.heap.size:=hs2;have HM:=Lib.hid (hm1.trans0 hm2);have hbel:=HB.out w2 HM.out
 have hb5:w.heap.size<=w1.heap.size:=by omega
 generalize hb3:w.heap.size=b3 at*;generalize hb5e:w1.heap.size=b5 at*;have hcd:=CellsAt.whole hB3;clear hm1 hm2 hB1 hB2 hs1 hs2 HB;go_upto_region 1 with(fail)
 refine wpR [3,1,0,1,3,3,3,3,1,3,1,3] ?_;simp only[stz];refine wpXA 24 b3 0 (qA di) hcd underlying24 32 hic trivial ?_;try simp only[nmz]
 refine qQ rfl (fun w' hS=>qL 46 [(1,_)] [(1,.agg (qA di))] _ (by rfl) (by rfl) hdI) ?_;simp only[nmz];refine wpD (wpC func85 (hbel) ?_)
 rintro e w3 ⟨hm3,v3,m3,bad,n,rfl,hg3,ho3,hl3,hout⟩;have hc3:(qA bad).size=32:=by rw[qD,hl3]
 have HG3:=Lib.hid hg3;obtain⟨ad3,cp3,rfl⟩:=hg3.slice
 have HOW:Hid (∀q,(Value.slice ad3 m3.length cp3).ownBlock=some q->w2.heap.size<=q):=Lib.hid (fun q hq=>(ho3 q hq).elim (fun h=>by cases h) id);clear hg3 ho3
 refine⟨_,rfl,?_⟩;simp only[stz]
 refine qE rfl (fun w'=>qI _ 0 #[.slice ad3 m3.length cp3,.agg (qA bad),.int .i64 n] rfl rfl (.slice ad3 m3.length cp3) rfl) ?_;simp only[nmz]
 refine qE rfl (fun w'=>qI _ 1 #[.slice ad3 m3.length cp3,.agg (qA bad),.int .i64 n] rfl rfl (.agg (qA bad)) rfl) ?_;simp only[nmz]
 refine qE rfl (fun w'=>qI _ 2 #[.slice ad3 m3.length cp3,.agg (qA bad),.int .i64 n] rfl rfl (.int .i64 n) rfl) ?_;simp only[nmz]
 refine wpD (qP 24 _ (by rfl) idZ (fun w4 hB4 hm4 hs4=>?_));replace hB4:w4.heap[w3.heap.size]?=some (.cells (qA zeros32) 24 (0,0)):=hB4;simp only[stz]
 refine wpD (qF 24 _ _ w3.heap.size 0 (qA bad) (by rfl) (by rfl) (by rfl) (qR _) 32 (by kernel_rfl) hc3 _ _ hB4 (by rw[hc3,hz32];exact Nat.le_refl _) (fun w5 hB5 hm5=>?_))
 rw[qC (by rw[hc3,hz32])]at hB5;simp only[stz];have hm35:Mod NoB w3 w5:=hm4.transB hm5 (Nat.le_refl _);have hm25:=hm3.trans0 hm35;replace hB3:=hm25.obj id hB3
 replace hR:=hm25.obj id hR;replace HM:=Lib.hid (HM.out.trans0 hm25);have HGL:=Lib.hid (HG3.out.keep0 hm35);have hB8:=hB5;have hsz3:=hm3.size
 have hb58:b5<w3.heap.size:=by omega
 have hb35:b3≠b5:=by omega
 generalize hb8:w3.heap.size=b8 at*;clear hm3 hm4 hm5 hm35 hm25 hB4 hB5 hbel hcd HG3 hs4 hdI;obtain⟨x,hx⟩:∃x,(walkL c 5 (thgI di)).2=x:=⟨_,rfl⟩;rw[hx]at hout
 cases x with
 |some ee=>
  obtain⟨h1,h2,h3⟩:=hout;have hz3:¬n=0:=h3;have HO:Hid (yD c di [] bad n):=Lib.hid (by rw[h1,h2];exact walkOut_wrong hx);clear h1 h2 h3 hx
  go_upto_region 3 with(fail);have hS:Mod (fun k=>k=b5) w5 w5.drew:=(Mod.refl _ _).drew;have hRd:w5.drew.heap[b5]?=some (.cells (qA zeros32) 24 (0,0)):=hR
  refine wpRZ [0,3,3,1,3] [] (fun w'=>Mod (fun k=>k=b5) w5 w') hS ?_;simp only[stz]
  refine wpLA 24 b8 0 (qA bad) (fun w' hS=>CellsAt.whole (hS.objB (by omega) hB8)) underlying24 32 hc3 ?_;simp only[stz];refine qM rfl (fun K hK=>?_)
  refine qF 24 _ _ b5 0 (qA bad) (by rfl) (by rfl) (by rfl) (qR _) 32 (by kernel_rfl) hc3 _ _ hRd (by simp only[hc3,hz32];omega) (fun wg hBg hmg=>?_)
  rw[qC (by simp only[hc3,hz32])]at hBg;have hSg:Mod (fun k=>k=b5) w5 wg:=hS.trans hmg (fun _ _ h=>h);refine hK _ _ hSg ?_;clear hK K;simp only[stz]
  have HF:Hid (WalkR w c di (.returned (.tuple #[.slice none 0 0,.agg (qA bad),.int .i64 n])) wg):=Lib.hid ⟨HM.out.transB' hSg (by omega),_,_,_,n,rfl,Gat.nil _ _ _ _ _,HO.out,hl3,fun x h=>(by cases h)⟩
  clear hS hSg hmg hRd hR hB3 HM HGL hB8;go_wp2
  refine bodyPost_ret (zA (P:=prog) (ty:=24) rfl _ _ b5 _ _ _ _ (by rfl) hBg underlying24 rfl (by rw[hc3];exact hzi)) rfl ?_;exact HF.out
 |none=>
  obtain⟨h1,h2,rfl⟩:=hout;have h1':RiseI (idsT (walkL c 5 (thgI di)).1) m3:=h1;obtain⟨ho1,ho2⟩:=walkOut_rise hx h1'
  have hm32:∀x∈m3,x.length=32:=fun y hy=>HKS.out y (walkL_keys y ((h1'.2 y).1 hy));clear h1 h1' hx h2
  by_cases h256:256<m3.length
  ·have hz:(m3.length:Int)>256:=by omega
   have HO:=Lib.hid (ho1 h256);clear ho1 ho2 h256;go_upto_region 5 with(fail);have hS:Mod (fun k=>k=b5) w5 w5.drew:=(Mod.refl _ _).drew
   have hRd:w5.drew.heap[b5]?=some (.cells (qA zeros32) 24 (0,0)):=hR;refine wpRZ [0,3,1,3] [] (fun w'=>Mod (fun k=>k=b5) w5 w') hS ?_;simp only[stz]
   refine wpLA 24 b3 0 (qA di) (fun w' hS=>CellsAt.whole (hS.objB (by omega) hB3)) underlying24 32 hic ?_;simp only[stz];refine qM rfl (fun K hK=>?_)
   refine qF 24 _ _ b5 0 (qA di) (by rfl) (by rfl) (by rfl) (qR _) 32 (by kernel_rfl) hic _ _ hRd (by simp only[hic,hz32];omega) (fun wg hBg hmg=>?_)
   rw[qC (by simp only[hic,hz32])]at hBg;have hSg:Mod (fun k=>k=b5) w5 wg:=hS.trans hmg (fun _ _ h=>h);refine hK _ _ hSg ?_;clear hK K;simp only[stz]
   have HF:Hid (WalkR w c di (.returned (.tuple #[.slice none 0 0,.agg (qA di),.int .i64 4])) wg):=Lib.hid ⟨HM.out.transB' hSg (by omega),_,_,_,4,rfl,Gat.nil _ _ _ _ _,HO.out,hid,fun x h=>(by cases h)⟩
   clear hS hSg hmg hRd hR hB3 HM HGL hB8;go_wp2
   refine bodyPost_ret (zA (P:=prog) (ty:=24) rfl _ _ b5 _ _ _ _ (by rfl) hBg underlying24 rfl (by rw[hic];exact hzi)) rfl ?_;exact HF.out
  ·have hz:¬(m3.length:Int)>256:=by omega
   have HO:=Lib.hid (ho2 h256);clear ho1 ho2 h256;go_upto_region 6 with(fail);have hS:Mod (fun k=>k=b5) w5 w5:=Mod.refl _ _
   have hRd:w5.heap[b5]?=some (.cells (qA zeros32) 24 (0,0)):=hR;refine wp_region_seq [3,0,3,1,3] (fun w'=>Mod (fun k=>k=b5) w5 w') (by rfl) (by rfl) hS ?_
   simp only[stz];refine qQ rfl (fun w' hS=>qL 24 [] [] _ (by rfl) (by rfl) built_idZ) ?_;simp only[stz];refine qM rfl (fun K hK=>?_)
   refine qF 24 _ _ b5 0 (qA zeros32) (by rfl) (by rfl) (by rfl) (qR _) 32 (by kernel_rfl) hz32 _ _ hRd (by simp only[hz32,hz32];omega) (fun wg hBg hmg=>?_)
   rw[qC (by simp only[hz32,hz32])]at hBg;have hSg:Mod (fun k=>k=b5) w5 wg:=hS.trans hmg (fun _ _ h=>h);refine hK _ _ hSg ?_;clear hK K;simp only[stz]
   have HF:Hid (WalkR w c di (.returned (.tuple #[.slice ad3 m3.length cp3,.agg (qA zeros32),.int .i64 0])) wg):=Lib.hid ⟨HM.out.transB' hSg (by omega),_,_,_,0,rfl,by rw[hb3];exact HGL.out.keep hSg (fun q hq e=>by have e:q=b5:=e;have:=HOW.out q hq;omega),HO.out,rfl,hm32⟩
   clear hS hSg hmg hRd hR hB3 HM HGL hB8;go_wp2
   refine bodyPost_ret (zA (P:=prog) (ty:=24) rfl _ _ b5 _ _ _ _ (by rfl) hBg underlying24 rfl (by rw[hz32];exact hzi)) rfl ?_;exact HF.out
theorem r13Whole_any(HGet:GetsC w0 sv c)(hsz:∀k b,getL k c=some b->b.length<=4096)(hks:∀x∈c.map (·.1),x.length=32)(hcl:c.length<=9000){w:World}(hm0:Mod NoB w0 w)(x:List UInt8)(hx:x.length=32):
 Calls prog 26 #[sv,.agg (qA x)] w (WholeR w c x):=by
 have hic:(qA x).size=32:=by rw[qD,hx]
 have H:=Lib.hid (fun w' (hm:Mod NoB w w')=>r13Walk_any HGet hsz hks hcl (hm0.trans0 hm) x hx);clear HGet hsz hks hcl hm0;go_enter func26,ntmps26;go_upto_region 0 with(fail)
 refine wpR [1,3] ?_;simp only[stz];refine wpD (zT 24 _ _ (by rfl) (by rfl) (fun w1 hB1 hm1 hs1=>?_))
 replace hB1:w1.heap[w.heap.size]?=some (.cells (qA x) 24 (0,0)):=hB1;simp only[stz];have hwk:=H.out w1 hm1
 have hc1:CellsAt w1 w.heap.size 0 (qA x):=CellsAt.whole hB1;generalize w.heap.size=b3 at*;clear hB1 hs1;go_upto_region 1 with(fail)
 refine wpR [3,1,1,3,3,3,3,1,3,1,3] ?_;simp only[stz];refine wpXA 24 b3 0 (qA x) hc1 underlying24 32 hic trivial ?_;try simp only[nmz]
 refine wpD (wpC func21 (hwk) ?_);rintro e w3 ⟨hm3,vv,ids,bad,n,he3,-,hO,hb3,-⟩;subst he3;refine⟨_,rfl,?_⟩;simp only[stz]
 refine qE rfl (fun w'=>qI _ 0 #[vv,.agg (qA bad),.int .i64 n] rfl rfl vv rfl) ?_;simp only[nmz]
 refine qE rfl (fun w'=>qI _ 1 #[vv,.agg (qA bad),.int .i64 n] rfl rfl (.agg (qA bad)) rfl) ?_;simp only[nmz]
 refine qE rfl (fun w'=>qI _ 2 #[vv,.agg (qA bad),.int .i64 n] rfl rfl (.int .i64 n) rfl) ?_;simp only[nmz]
 refine wpD (qP 24 _ (by rfl) idZ (fun w4 hB4 hm4 hs4=>?_));replace hB4:w4.heap[w3.heap.size]?=some (.cells (qA (List.replicate 32 0)) 24 (0,0)):=hB4
 simp only[stz];refine wpDo rfl ?_;have hi2:(qA bad).size=32:=by rw[qD,hb3]
 refine qF 24 _ _ w3.heap.size 0 (qA bad) (by rfl) (by rfl) (by rfl) (qR _) 32 (by kernel_rfl) hi2 _ _ hB4 (by rw[hi2,qD];simp) (fun w5 hB5 hm5=>?_)
 simp only[stz];have hm05:Mod NoB w w5:=(hm1.trans0 hm3).trans0 (hm4.transB hm5 (Nat.le_refl _));clear hwk hc1 hm1 hm3 hm4 hm5 hB4 hB5 hs4
 by_cases hz:n=0
 ·subst hz
  go_wp2;go_ret;exact⟨hm05,ids,bad,0,hO,rfl⟩
 ·have hd:decide (n=0)=false:=decide_eq_false hz
  go_wp2;go_ret;exact⟨hm05,ids,bad,n,hO,rfl⟩
end
def DtNew(w0 w:World)(q wd:Nat)(c:BlobL):Prop:=∃r R,R8At w q wd r R/\contR r=c/\(∀k,R k->w0.heap.size<=k)/\Mod NoB w0 w
theorem DtNew.gets{w0 w:World}{q wd:Nat}{c:BlobL}(h:DtNew w0 w q wd c)(hs:SortedB c):GetsC w (.pointer (some ⟨q,0,none⟩)) c:=fun w' k hm hk=>by
 obtain⟨r,R,h1,rfl,_,_⟩:=h;exact r8Get_any (h1.keep0 hm) (contR_sort.1 hs) hk
def SamR(w:World)(wd:Nat)(L:List (List UInt8)):Ending->World->Prop:=fun e w'=>∃q,e=.returned (.pointer (some ⟨q,0,none⟩))/\DtNew w w' q wd (rOf wd L)
def SamRel(w0:World)(q wd:Nat)(L:List (List UInt8))(i:Value)(w:World):Prop:=∃k:Nat,k<=L.length/\i=.int .i64 k/\DtNew w0 w q wd (rOf wd (L.take k))
theorem rOf_len'(wd:Nat)(L:List (List UInt8)):(rOf wd L).length<=L.length:=by
 rw[(rOf_ref wd L).perm.length_eq];have:=cOf_len wd L [];unfold cOf
 simpa using this
theorem same13_any{w:World}{wn:Nat}(hwz:1<=wn/\wn<=32){lv:Value}{L:List (List UInt8)}(hlv:LsAt w lv L)(hL:L.length<=1000)(hL2:∀b∈L,b.length<=4096):
 Calls prog 19 #[.int .i64 wn,lv] w (SamR w wn L):=by
 obtain⟨lad,lcap,hle,-,-⟩:=Sl.at hlv;have HLV:=hid hlv;clear hlv;rw[hle]at HLV;subst hle;have hnew:=r8New_any wn hwz w;go_enter func19,ntmps19
 go_upto_region 1 with(fail);refine wpR [3,1,3,3,3,3,3] ?_;simp only[stz];refine wpD (wpC func80 (hnew) ?_);rintro e w1 ⟨q8,R8,rfl,hst3,hm3,hsf3⟩;refine⟨_,rfl,?_⟩
 simp only[stz];refine qE rfl (fun w'=>qI _ 0 #[.pointer (some ⟨q8,0,none⟩),.int .i64 0] rfl rfl (.pointer (some ⟨q8,0,none⟩)) rfl) ?_;simp only[nmz]
 refine qE rfl (fun w'=>qI _ 1 #[.pointer (some ⟨q8,0,none⟩),.int .i64 0] rfl rfl (.int .i64 0) rfl) ?_;simp only[stz]
 have HR0:Hid (SamRel w q8 wn L (.int .i64 (0:Nat)) w1):=hid ⟨0,Nat.zero_le _,rfl,[],R8,hst3,rfl,hsf3,hm3⟩;clear hst3 hm3 hsf3 hnew;go_wp2
 go_loopw [7] (SamRel w q8 wn L) (fun i _=>L.length-(intOf i).toNat)
 case atStart=>exact HR0.out
 case round=>
  rename World=>wr
  obtain⟨k,hk,rfl,hns⟩:=hrel;obtain⟨r8,Ft,hat,hct,hFn,hmr⟩:=hns
  by_cases hlt:k<L.length
  ·have hz:(k:Int)<(L.length:Nat):=by omega
   obtain⟨_,_,hae,-,hatL⟩:=(lsAt_keep0 HLV.out hmr).at;injection hae with hae1 hae2 hae3;subst hae1 hae3;obtain⟨b,off,rfl,-,-,hcc⟩:=hatL k hlt
   obtain⟨cs,-,⟨vk,rfl,hvk⟩,hcA⟩:=hcc k hlt;have hck:=CellsAt.one.1 hcA;have hbw:b<w.heap.size:=sl_lt HLV.out hlt;have hmk:=hL2 _ (List.getElem_mem hlt)
   have hsn:=rOf_snoc wn L k hlt
   have hcn:r8.length<=1000:=by
    rw[<-contR_len,hct];exact Nat.le_trans (rOf_len' wn (L.take k)) (by simp;omega)
   have hso:SortedB r8:=contR_sort.1 (by rw[hct];exact(rOf_ref wn (L.take k)).sorted);rw[<-hct]at hsn;generalize L[k]=m at*;obtain⟨va,vc,hve,-,-⟩:=Sl.at hvk
   have HVK:=hid hvk;rw[hve]at HVK hck;have HSN:=hid hsn;have href:=refOf_any HVK.out (by omega) wn hwz.1 hwz.2;have hdi:(ofI wn m).length=32:=ofI_len hwz.2
   have hic:(qA (ofI wn m)).size=32:=by rw[qD,hdi]
   clear hsn hatL hcc hcA hae2 hve hvk;go_upto_region 5 with(fail);refine wpR [3,3,3,1,3,1,3,3,3,1,1,3] ?_;simp only[stz];refine wpPI underlying22 1 hlt ?_
   simp only[nmz];refine wpXd (v:=(.slice va m.length vc)) 53 b (off+k*1) hck underlying53 trivial ?_;simp only[stz];refine wpD (wpCM func79 (href) fun w6 hm6=>?_)
   simp only[stz];refine qE rfl (fun w'=>qI _ 0 #[.agg (qA (ofI wn m)),.int .i64 0] rfl rfl (.agg (qA (ofI wn m))) rfl) ?_;simp only[nmz]
   refine qE rfl (fun w'=>qI _ 1 #[.agg (qA (ofI wn m)),.int .i64 0] rfl rfl (.int .i64 0) rfl) ?_;simp only[nmz]
   refine wpD (qP 24 _ (by rfl) idZ (fun w7 hB7 hm7 hs7=>?_));replace hB7:w7.heap[w6.heap.size]?=some (.cells (qA (List.replicate 32 0)) 24 (0,0)):=hB7
   try simp only[nmz]
   refine wpD (qF 24 _ _ w6.heap.size 0 (qA (ofI wn m)) (by rfl) (by rfl) (by rfl) (qR _) 32 (by kernel_rfl) hic _ _ hB7 (by rw[hic,qD];simp) (fun w8 hB8 hm8=>?_))
   rw[qC (by rw[hic,qD];simp)]at hB8;simp only[stz];have hS8:Mod NoB wr w8:=(hm6.trans0 hm7).transB hm8 hm6.size;have hib6:=hm6.size
   have hib8:w6.heap.size<w8.heap.size:=(Array.getElem?_eq_some_iff.1 hB8).1;generalize hib:w6.heap.size=ib at*;have hat8:=hat.keep0 hS8;have hlt8:=hat.lt
   have hput:=r8Put_any (hat8.keep0 ((Mod.refl NoB w8).drew)) hso (HVK.out.keep0 (hS8.trans0 ((Mod.refl NoB w8).drew))) hmk hcn;have hck8:=hS8.cell id hck
   have hci8:CellsAt w8 ib 0 (qA (ofI wn m)):=CellsAt.whole hB8;have hm18:=hmr.trans0 hS8;have hnF:¬Ft ib:=fun e=>by have:=hlt8 _ e;omega
   have hnb:¬Ft b:=fun e=>by have:=hFn _ e;omega
   clear href hck hB8 hB7 hm6 hm7 hm8 hs7 hS8 hat;go_upto_region 6 with(fail)
   have hS:CellsAt w8.drew ib 0 (qA (ofI wn m))/\w8.drew.cell? ⟨b,off+k*1,none⟩=some (.slice va m.length vc)/\Mod Ft w8 w8.drew:=⟨hci8,hck8,(Mod.refl _ _).drew⟩
   refine wpRZ [3,0,3,3,3,0,1] [] (fun w'=>CellsAt w' ib 0 (qA (ofI wn m))/\w'.cell? ⟨b,off+k*1,none⟩=some (.slice va m.length vc)/\Mod Ft w8 w') hS ?_
   simp only[stz];refine wpLA 24 ib 0 (qA (ofI wn m)) (fun w' hS=>hS.1) underlying24 32 hic ?_;simp only[stz];refine wpPI underlying22 1 hlt ?_;simp only[nmz]
   refine wpLd 53 b (off+k*1) (fun w' hS=>hS.2.1) underlying53 ?_;simp only[nmz];refine qM rfl (fun K hK=>?_);refine wpC func81 (hput) ?_
   rintro e w9 ⟨⟨v9,rfl⟩,r9,⟨R9,hst9,hmd,hnw9⟩,hct9⟩
   have hS9:CellsAt w9 ib 0 (qA (ofI wn m))/\w9.cell? ⟨b,off+k*1,none⟩=some (.slice va m.length vc)/\Mod Ft w8 w9:=⟨hci8.keep hmd hnF,hmd.cell hnb hck8,hS.2.2.trans hmd (fun _ _ h=>h)⟩
   have hns9:DtNew w w9 q8 wn (putR (ofI wn m) m (contR r8)):=⟨r9,R9,hst9,hct9,fun k hk=>(hnw9 k hk).elim (hFn k) (fun h=>by have h1:=h.1;have:=hm18.size;have h2:w8.drew.heap.size=w8.heap.size:=rfl;omega),(hm18.trans0 ((Mod.refl _ _).drew)).trans hmd (fun k hk hf=>by have:=hFn k hf;omega)⟩
   have HR:Hid (SamRel w q8 wn L (.int .i64 ((k+1:Nat):Int)) w9):=hid ⟨k+1,by omega,rfl,by rw[HSN.out];exact hns9⟩;refine⟨_,rfl,hK _ _ hS9 ?_⟩;clear hK K
   simp only[stz];clear hS hS9 hmd hst9 hnw9 hct9 hput hci8 hck8 hat8 hns9;go_wp2
   go_roundw
   case rel=>exact HR.out
   case measure=>simp[intOf];omega
  ·have hz:¬(k:Int)<(L.length:Nat):=by omega
   have hkl:k=L.length:=by omega
   have HF:Hid (SamR w wn L (.returned (.pointer (some ⟨q8,0,none⟩))) wr):=hid ⟨q8,rfl,r8,Ft,hat,by rw[hct,hkl,List.take_length],hFn,hmr⟩;clear hat hFn hmr;go_wp2
   go_ret;exact HF.out
end
section
open Go.Proofs.Tryz Go.Lib
structure LeftC(c:BlobL)(marks done:List (List UInt8))(cf:BlobL):Prop where
 nd:(cf.map (·.1)).Nodup
 get:∀x,getL x cf=if x∈done/\x∉marks then none else getL x c
section
variable{c cf:BlobL}{marks done roots:List (List UInt8)}(H:LeftC c marks done cf)
include H
end
end
section
open Go.RowKit Go.Shelf Go.Proofs.Tryz Go.Lib
section
variable{w:World}{h:House}{c:BlobL}{l:LinkL}{Ft:Nat->Prop}
end
def longB(L:List (List UInt8))(n mx:Nat):Bool:=(L.take (n+1)).any (fun m=>decide (mx<m.length))||decide (n<L.length)
theorem longB_false{L:List (List UInt8)}{n mx:Nat}(h:longB L n mx=false):L.length<=n/\∀m∈L,m.length<=mx:=by
 unfold longB at h;rw[Bool.or_eq_false_iff,decide_eq_false_iff_not]at h;have hl:L.length<=n:=by omega
 rw[List.take_of_length_le (by omega)]at h;refine⟨hl,fun m hm=>?_⟩;have h1:=List.any_eq_false.1 h.1 m hm
 simpa using h1
theorem longB_big{L:List (List UInt8)}{n mx k:Nat}(hk:k<L.length)(hn:k<=n)(hb:mx<L[k].length):longB L n mx=true:=by
 unfold longB
 have:(L.take (n+1)).any (fun m=>decide (mx<m.length))=true:=List.any_eq_true.2 ⟨L[k],by rw[List.mem_take_iff_getElem];exact⟨k,by omega,rfl⟩,by simpa using hb⟩
 rw[this,Bool.true_or]
theorem longB_many{L:List (List UInt8)}{n mx:Nat}(h:n<L.length):longB L n mx=true:=by
 unfold longB;rw[decide_eq_true h,Bool.or_true]
theorem longB_not{L:List (List UInt8)}{n mx:Nat}(h:L.length<=n)(h2:∀m∈L,m.length<=mx):longB L n mx=false:=by
 unfold longB;rw[List.take_of_length_le (by omega),Bool.or_eq_false_iff,decide_eq_false_iff_not];refine⟨List.any_eq_false.2 fun m hm=>?_,by omega⟩;have:=h2 m hm
 simpa using this
def LngRel(w0:World)(L:List (List UInt8))(n mx:Nat)(i:Value)(w:World):Prop:=∃k:Nat,k<=L.length/\k<=n+1/\i=.int .i64 k/\Mod NoB w0 w/\∀m∈L.take k,m.length<=mx
theorem longLists_any{w:World}{lv:Value}{L:List (List UInt8)}(hl:LsAt w lv L)(n mx:Nat)(hn:n<=1000000)(hsz:mx<=1000000):Calls prog 77 #[lv,.int .i64 n,.int .i64 mx] w (RetM (.bool (longB L n mx)) w):=by
 obtain⟨lad,lcap,rfl,hle,-⟩:=Sl.at hl;have HL:=hid hl
 have HR0:Hid (LngRel w L n mx (.int .i64 (0:Nat)) w):=hid ⟨0,Nat.zero_le _,Nat.zero_le _,rfl,Mod.refl _ _,by simp⟩;clear hl;go_enter func77,ntmps77;go_wp2
 go_loopw [7] (LngRel w L n mx) (fun i _=>L.length+1-(intOf i).toNat)
 case atStart=>exact HR0.out
 case round=>
  rename World=>wr
  obtain⟨k,hk,hkn,rfl,hmr,hpre⟩:=hrel
  by_cases hlt:k<L.length
  ·have hz:(k:Int)<(L.length:Nat):=by omega
   by_cases hkle:k<=n
   ·have hz2:(k:Int)<=(n:Nat):=by omega
    obtain⟨_,_,hae,-,hat⟩:=(lsAt_keep0 HL.out hmr).at;injection hae with hae1 hae2 hae3;subst hae1 hae3;obtain⟨b,off,rfl,-,-,hcc⟩:=hat k hlt
    obtain⟨cs,-,⟨vk,rfl,hvk⟩,hcA⟩:=hcc k hlt;have hc:=CellsAt.one.1 hcA;have hsn:=take_snoc hlt;have hbg:mx<L[k].length->longB L n mx=true:=longB_big hlt hkle
    have HBG:=hid hbg;clear hbg;generalize L[k]=m at*;obtain⟨va,vc,rfl,hml,-⟩:=Sl.at hvk;clear hcc hcA hvk hat hae2;go_upto_region 4 with(fail)
    refine wpR [3,3,3,1,3,3,3] ?_;simp only[stz];refine wpPI underlying22 1 hlt ?_;simp only[nmz];refine wpXd 53 b (off+k*1) hc underlying53 trivial ?_
    try simp only[nmz]
    refine wpPL ?_;simp only[stz];refine qE (v:=?_) rfl (fun w'=>?_) ?_;rotate_left;·(go_simp;try with_reducible rfl)
    simp only[stz]
    by_cases hbig:m.length>mx
    ·have hz3:(m.length:Int)>(mx:Nat):=by omega
     have HV:=hid (HBG.out hbig);clear hc hsn hpre;go_wp2;go_ret;exact⟨by rw[HV.out];rfl,hmr⟩
    ·have hz3:¬(m.length:Int)>(mx:Nat):=by omega
     have HR:Hid (LngRel w L n mx (.int .i64 ((k+1:Nat):Int)) wr):=hid ⟨k+1,by omega,by omega,rfl,hmr,fun x hx=>by
      rw[<-hsn,List.mem_append,List.mem_singleton]at hx
      rcases hx with hx|rfl
      ·exact hpre x hx
      ·omega⟩
     clear hc hsn hpre;go_wp2
     go_roundw
     case rel=>exact HR.out
     case measure=>simp[intOf];omega
   ·have hz2:¬(k:Int)<=(n:Nat):=by omega
    have hz4:(L.length:Int)>(n:Nat):=by omega
    have HV:=hid (longB_many (mx:=mx) (show n<L.length by omega));clear hpre;go_wp2;go_ret;exact⟨by rw[HV.out];rfl,hmr⟩
  ·have hz:¬(k:Int)<(L.length:Nat):=by omega
   obtain rfl:k=L.length:=by omega
   rw[List.take_length]at hpre;have HP:=hid hpre;clear hpre
   by_cases hgt:L.length>n
   ·have hz4:(L.length:Int)>(n:Nat):=by omega
    have HV:=hid (longB_many (mx:=mx) (show n<L.length by omega));go_wp2;go_ret;exact⟨by rw[HV.out];rfl,hmr⟩
   ·have hz4:¬(L.length:Int)>(n:Nat):=by omega
    have HV:=hid (longB_not (mx:=mx) (show L.length<=n by omega) HP.out);go_wp2;go_ret;exact⟨by rw[HV.out];rfl,hmr⟩
theorem long13_any{w:World}{lv:Value}{L:List (List UInt8)}(hl:LsAt w lv L):Calls prog 15 #[lv] w (RetM (.bool (longB L 30 700)) w):=by
 have hcall:=longLists_any hl 30 700 (by omega) (by omega);go_enter func15,ntmps15;go_upto_region 1 with(fail);refine wpR [3,1,3] ?_;simp only[stz]
 refine wpD (wpCM func77 (hcall) fun w2 hm2=>?_);simp only[stz];go_wp2;go_ret;exact⟨rfl,hm2⟩
end
section
open Go.RowKit Go.Proofs.Tryz Go.Lib
inductive Kdo where
 |i|b|s|l
 deriving DecidableEq
def Kind(v:Value):Kdo->Prop
 | .i=>∃n,v=.int .i64 n
 | .b=>∃x,v=byteV x
 | .s=>∃t,v=.string t
 | .l=>∃a n c,v=.slice a n c
def Like(v v':Value):Prop:=(∀k,Kind v k->Kind v' k)/\∀a n c,v=.slice a n c->v'=v\/v'=.slice none 0 0
theorem Like.refl(v:Value):Like v v:=⟨fun _ h=>h,fun _ _ _ _=>.inl rfl⟩
theorem Like.trans{a b c:Value}(h:Like a b)(k:Like b c):Like a c:=⟨fun x hx=>k.1 x (h.1 x hx),fun p q r e=>by
 rcases h.2 p q r e with e1|e1
 ·rw[<-e1];rcases k.2 p q r (e1.trans e)with e2|e2
  ·exact .inl e2
  ·exact .inr e2
 ·rcases k.2 _ _ _ e1 with e2|e2
  ·exact .inr (e2.trans e1)
  ·exact .inr e2⟩
theorem Like.int(m n:Int):Like (.int .i64 m) (.int .i64 n):=by
 refine⟨fun k hk=>?_,fun _ _ _ e=>?_⟩
 ·cases k with
  |i=>exact⟨n,rfl⟩
  |b=>obtain⟨x,hx⟩:=hk;cases hx
  |s=>obtain⟨x,hx⟩:=hk;cases hx
  |l=>obtain⟨a,b,c,hx⟩:=hk;cases hx
 ·cases e
theorem Like.byte(m n:UInt8):Like (byteV m) (byteV n):=by
 refine⟨fun k hk=>?_,fun _ _ _ e=>?_⟩
 ·cases k with
  |i=>obtain⟨x,hx⟩:=hk;cases hx
  |b=>exact⟨n,rfl⟩
  |s=>obtain⟨x,hx⟩:=hk;cases hx
  |l=>obtain⟨a,b,c,hx⟩:=hk;cases hx
 ·cases e
theorem Like.str(m n:ByteArray):Like (.string m) (.string n):=by
 refine⟨fun k hk=>?_,fun _ _ _ e=>?_⟩
 ·cases k with
  |i=>obtain⟨x,hx⟩:=hk;cases hx
  |b=>obtain⟨x,hx⟩:=hk;cases hx
  |s=>exact⟨n,rfl⟩
  |l=>obtain⟨a,b,c,hx⟩:=hk;cases hx
 ·cases e
theorem Like.nil(a:Option Addr)(n c:Nat):Like (.slice a n c) (.slice none 0 0):=by
 refine⟨fun k hk=>?_,fun _ _ _ e=>?_⟩
 ·cases k with
  |i=>obtain⟨x,hx⟩:=hk;cases hx
  |b=>obtain⟨x,hx⟩:=hk;cases hx
  |s=>obtain⟨x,hx⟩:=hk;cases hx
  |l=>exact⟨none,0,0,rfl⟩
 ·exact .inr rfl
theorem Like.of{v v':Value}{k:Kdo}(h:Kind v k)(h':Kind v' k)(hl:k=.l->v'=.slice none 0 0):Like v v':=by
 cases k with
 |i=>obtain⟨m,rfl⟩:=h;obtain⟨n,rfl⟩:=h';exact Like.int m n
 |b=>obtain⟨m,rfl⟩:=h;obtain⟨n,rfl⟩:=h';exact Like.byte m n
 |s=>obtain⟨m,rfl⟩:=h;obtain⟨n,rfl⟩:=h';exact Like.str m n
 |l=>obtain⟨a,n,c,rfl⟩:=h;rw[hl rfl];exact Like.nil a n c
def LikeA(cs cs':Array Value):Prop:=cs'.size=cs.size/\∀(j:Nat)(v:Value),cs[j]?=some v->∃v',cs'[j]?=some v'/\Like v v'
theorem LikeA.refl(cs:Array Value):LikeA cs cs:=⟨rfl,fun _ v h=>⟨v,h,Like.refl v⟩⟩
theorem LikeA.trans{a b c:Array Value}(h:LikeA a b)(k:LikeA b c):LikeA a c:=⟨k.1.trans h.1,fun j v hj=>by
 obtain⟨v1,h1,h2⟩:=h.2 j v hj;obtain⟨v2,h3,h4⟩:=k.2 j v1 h1
 exact⟨v2,h3,h2.trans h4⟩⟩
structure KMod(S:Nat->Prop)(w w':World):Prop where
 mod:Mod S w w'
 like:∀(b:Nat)(cur:Array Value)(T:TypeId),w.heap[b]?=some (.cells cur T (0,0))->∃cur':Array Value,w'.heap[b]?=some (.cells cur' T (0,0))/\LikeA cur cur'
theorem KMod.refl(S:Nat->Prop)(w:World):KMod S w w:=⟨Mod.refl _ _,fun _ cur _ h=>⟨cur,h,LikeA.refl _⟩⟩
theorem KMod.trans{S:Nat->Prop}{a b c:World}(h:KMod S a b)(k:KMod S b c):KMod S a c:=⟨h.mod.trans k.mod (fun _ _ h=>h),fun x cur T hx=>by
 obtain⟨c1,h1,h2⟩:=h.like x cur T hx;obtain⟨c2,h3,h4⟩:=k.like x c1 T h1
 exact⟨c2,h3,h2.trans h4⟩⟩
theorem KMod.row{S:Nat->Prop}{w w':World}{b:Nat}{cur cur':Array Value}{T:TypeId}(hS:S b)(hb:w.heap[b]?=some (.cells cur T (0,0)))(hb':w'.heap[b]?=some (.cells cur' T (0,0)))(hl:LikeA cur cur')(hm:Mod (fun k=>k=b) w w'):KMod S w w':=by
 refine⟨hm.mono (fun k _ e=>by have e':k=b:=e;rw[e'];exact hS),fun x c T' hx=>?_⟩
 by_cases e:x=b
 ·subst e
  rw[hb]at hx
  cases hx
  exact⟨cur',hb',hl⟩
 ·exact⟨c,hm.objB e hx,LikeA.refl _⟩
theorem LikeA.put{cur cs cs':Array Value}{off:Nat}(hfit:off+cs'.size<=cur.size)(h:∀j,j<cs.size->cur[off+j]?=cs[j]?)(hl:LikeA cs cs'):LikeA cur (qZ cur off cs'):=by
 refine⟨yC hfit,fun i x hx=>?_⟩;have hsz:=hl.1
 have hg:(qZ cur off cs')[i]?=if i<off then cur[i]? else if i<off+cs'.size then cs'[i-off]? else cur[i]?:=by
  unfold qZ;rw[List.getElem?_toArray]
  split
  ·rename_i h1
   rw[List.append_assoc,List.getElem?_append_left (by simp;omega),List.getElem?_take_of_lt h1];simp
  ·rename_i h1
   split
   ·rename_i h2
    rw[List.append_assoc,List.getElem?_append_right (by simp;omega),List.getElem?_append_left (by simp;omega)];simp only[List.length_take,Array.length_toList]
    rw[Nat.min_eq_left (by omega)];simp
   ·rename_i h2
    rw[List.getElem?_append_right (by simp;omega)];simp only[List.length_append,List.length_take,Array.length_toList,List.getElem?_drop]
    rw[Nat.min_eq_left (by omega),show off+cs'.size+(i-(off+cs'.size))=i by omega];simp
 rw[hg]
 split
 ·exact⟨x,hx,Like.refl x⟩
 ·rename_i h1
  split
  ·rename_i h2
   have h3:=h (i-off) (by omega);rw[show off+(i-off)=i by omega,hx]at h3;exact hl.2 (i-off) x h3.symm
  ·exact⟨x,hx,Like.refl x⟩
theorem Sl.kmod{S:Nat->Prop}{w w':World}{sz:Nat}{Sh Sh':Array Value->Prop}{v:Value}{l:List Unit}(hsz:0<sz)(h:Sl true w S sz (fun cs _=>Sh cs) v l)(hm:KMod S w w')(hR:∀cs cs',Sh cs->LikeA cs cs'->Sh' cs'):
 Sl true w' S sz (fun cs _=>Sh' cs) v l:=by
 obtain⟨a,cap,hv,hl,hc,h⟩:=h;refine⟨a,cap,hv,hl,hc,fun hne=>?_⟩;obtain⟨b,off,ha,hG,ho,h⟩:=h hne;obtain⟨cur,T,hrow⟩:=ho rfl
 obtain⟨cur',hrow',hlk⟩:=hm.like b cur T hrow;refine⟨b,off,ha,hG,fun _=>⟨cur',T,hrow'⟩,fun i hi=>?_⟩;obtain⟨cs,hs,hsh,hcells⟩:=h i hi
 have hcur:∀j,j<sz->cur[off+i*sz+j]?=cs[j]?:=fun j hj=>by
  have:=hcells j (by omega)
  rwa[cell_of_row w b _ _ _ _ hrow]at this
 have hbnd:off+i*sz+sz<=cur'.size:=by
  have h1:=hcur (sz-1) (by omega);rw[Array.getElem?_eq_getElem (by omega:sz-1<cs.size)]at h1;rw[hlk.1]
  rcases Nat.lt_or_ge (off+i*sz+(sz-1)) cur.size with h2|h2
  ·omega
  ·rw[Array.getElem?_eq_none h2]at h1;cases h1
 have hex:∀j,(cur'.extract (off+i*sz) (off+i*sz+sz))[j]?=if j<sz then cur'[off+i*sz+j]? else none:=fun j=>by
  rw[Array.getElem?_extract]
  congr 1
  rw[eq_iff_iff];omega
 refine⟨cur'.extract (off+i*sz) (off+i*sz+sz),by simp;omega,hR cs _ hsh ⟨by simp;omega,fun j u hj=>?_⟩,fun j hj=>?_⟩
 ·have hjs:j<sz:=by
   rcases Nat.lt_or_ge j cs.size with h2|h2
   ·omega
   ·rw[Array.getElem?_eq_none h2]at hj;cases hj
  rw[hex,if_pos hjs];exact hlk.2 _ u ((hcur j hjs).trans hj)
 ·have hjs:j<sz:=by simp at hj;omega
  rw[hex,if_pos hjs,cell_of_row w' b _ _ _ _ hrow']
def KindsS(ks:List Kdo)(cs:Array Value):Prop:=cs.size=ks.length/\∀(j:Nat)(k:Kdo),ks[j]?=some k->∃v,cs[j]?=some v/\Kind v k
def idK:List Kdo:=List.replicate 32 .b
theorem KindsS.like{ks:List Kdo}(cs cs':Array Value)(h:KindsS ks cs)(hl:LikeA cs cs'):KindsS ks cs':=⟨hl.1.trans h.1,fun j k hk=>by
 obtain⟨v,h1,h2⟩:=h.2 j k hk;obtain⟨v',h3,h4⟩:=hl.2 j v h1
 exact⟨v',h3,h4.1 k h2⟩⟩
theorem Sl.shape{α:Type}{w:World}{G S:Nat->Prop}{sz:Nat}{R:Array Value->α->Prop}{Sh:Array Value->Prop}{v:Value}{l:List α}(h:Sl true w G sz R v l)(hg:∀k,G k->S k)(hR:∀cs x,R cs x->Sh cs):
 Sl true w S sz (fun cs (_:Unit)=>Sh cs) v (l.map fun _=>()):=by
 obtain⟨a,cap,hv,hl,hc,h⟩:=h;refine⟨a,cap,by simpa using hv,by simpa using hl,hc,fun hne=>?_⟩;obtain⟨b,off,ha,hG,ho,h⟩:=h (by simpa using hne)
 refine⟨b,off,ha,hg b hG,ho,fun i hi=>?_⟩;obtain⟨cs,h1,h2,h3⟩:=h i (by simpa using hi);exact⟨cs,h1,hR _ _ h2,h3⟩
theorem idCells_kind(x:List UInt8)(h:x.length=32)(j:Nat)(hj:j<32):∃v,(qA x)[j]?=some v/\Kind v .b:=by
 refine⟨byteV x[j],?_,_,rfl⟩
 simp[qA,List.getElem?_eq_getElem (show j<x.length by omega)]
theorem idS_of(cs:Array Value)(x:List UInt8)(h:IdC cs x):KindsS idK cs:=by
 obtain⟨rfl,hx⟩:=h;refine⟨by simp[qA,idK,hx],fun j k hk=>?_⟩
 have hj:j<32:=by
  rcases Nat.lt_or_ge j 32 with h|h
  ·exact h
  ·rw[List.getElem?_eq_none (by simpa[idK]using h)]at hk;cases hk
 have e:k=.b:=by
  rw[idK,List.getElem?_replicate,if_pos hj]at hk;cases hk;rfl
 rw[e];exact idCells_kind x hx j hj
theorem likeA_zero{ks:List Kdo}{cs cs':Array Value}(h:KindsS ks cs)(h':KindsS ks cs')(hn:∀j:Nat,ks[j]?=some .l->cs'[j]?=some (.slice none 0 0)):LikeA cs cs':=by
 refine⟨h'.1.trans h.1.symm,fun j v hv=>?_⟩
 have hj:j<ks.length:=by
  have:=h.1
  rcases Nat.lt_or_ge j cs.size with h2|h2
  ·omega
  ·rw[Array.getElem?_eq_none h2]at hv;cases hv
 obtain⟨u,h1,h2⟩:=h.2 j _ (List.getElem?_eq_getElem hj);obtain⟨u',h3,h4⟩:=h'.2 j _ (List.getElem?_eq_getElem hj);rw[hv]at h1;cases h1
 refine⟨u',h3,Like.of h2 h4 (fun hk=>?_)⟩;have:=hn j (by rw[List.getElem?_eq_getElem hj,hk]);rw[h3]at this
 cases this;rfl
def OverR(S:Nat->Prop)(w:World)(e:Ending)(w':World):Prop:=e=.returned (.tuple #[])/\KMod S w w'
def OverRel(S:Nat->Prop)(w:World)(n:Nat)(i:Value)(w':World):Prop:=∃k:Nat,k<=n/\i=.int .i64 k/\KMod S w w'
theorem Sl.elem{S:Nat->Prop}{w:World}{sz n c:Nat}{Sh:Array Value->Prop}{a:Option Addr}{l:List Unit}(h:Sl true w S sz (fun cs _=>Sh cs) (.slice a n c) l){i:Nat}(hi:i<l.length):
 ∃b off cur T cs,a=some ⟨b,off,none⟩/\S b/\w.heap[b]?=some (.cells cur T (0,0))/\cs.size=sz/\Sh cs/\CellsAt w b (off+i*sz) cs/\(∀j,j<cs.size->cur[off+i*sz+j]?=cs[j]?)/\off+i*sz+sz<=cur.size\/sz=0:=by
 by_cases hsz:sz=0
 ·exact⟨0,0,#[],0,#[],.inr hsz⟩
 obtain⟨a',cap,hv,hl,hc,h⟩:=h
 cases hv
 obtain⟨b,off,ha,hG,ho,h⟩:=h (by rintro rfl;simp at hi);obtain⟨cur,T,hrow⟩:=ho rfl;obtain⟨cs,hs,hsh,hcells⟩:=h i hi
 have hcur:∀j,j<cs.size->cur[off+i*sz+j]?=cs[j]?:=fun j hj=>by
  have:=hcells j (by omega)
  rwa[cell_of_row w b _ _ _ _ hrow]at this
 refine⟨b,off,cur,T,cs,.inl ⟨ha,hG,hrow,hs,hsh,hcells,hcur,?_⟩⟩;have h1:=hcur (sz-1) (by omega);rw[Array.getElem?_eq_getElem (by omega:sz-1<cs.size)]at h1
 rcases Nat.lt_or_ge (off+i*sz+(sz-1)) cur.size with h2|h2
 ·omega
 ·rw[Array.getElem?_eq_none h2]at h1;cases h1
def overId:List UInt8:=[1,2,3]++List.replicate 29 0
theorem exec_build_id{w:World}{o:Oper}{act:Act}(ho:o.op=.build 24 #[(0,.const (.int .u8 1)),(1,.const (.int .u8 2)),(2,.const (.int .u8 3))]):(execOp act.eval o).run prog w=.ok (.value (.agg (qA overId))) w:=by
 unfold execOp;simp only[ho];have h:=run_build (P:=prog) w 24 #[(0,.int .u8 1),(1,.int .u8 2),(2,.int .u8 3)] (qA overId) (by kernel_rfl)
 have e:(Array.map (fun(x:Nat×Operand)=>(x.1,act.eval x.2)) #[(0,.const (.int .u8 1)),(1,.const (.int .u8 2)),(2,.const (.int .u8 3))])=#[(0,.int .u8 1),(1,.int .u8 2),(2,.int .u8 3)]:=by
  have hc:∀n,act.eval (.const (.int .u8 n))=.int .u8 n:=fun _=>rfl;simp only[List.map_toArray,List.map_cons,List.map_nil,hc]
 simp only[e,Sem.run_bind,h,Result.andThen_ok,Sem.run_pure]
theorem overId_kinds:KindsS idK (qA overId):=idS_of _ overId ⟨rfl,by decide⟩
theorem kinds_one{ks:List Kdo}{cs:Array Value}(h:KindsS ks cs):∀c∈cs,c.oneCell'=true:=fun c hc=>by
 obtain⟨j,hj,rfl⟩:=Array.getElem_of_mem hc;have hs:=h.1;obtain⟨v,h1,h2⟩:=h.2 j _ (List.getElem?_eq_getElem (show j<ks.length by omega))
 rw[Array.getElem?_eq_getElem hj]at h1
 cases h1
 generalize ks[j]=kk at h2
 cases kk with
 |i=>obtain⟨n,hn⟩:=h2;rw[hn];rfl
 |b=>obtain⟨n,hn⟩:=h2;rw[hn];rfl
 |s=>obtain⟨n,hn⟩:=h2;rw[hn];rfl
 |l=>obtain⟨a,n,c,hn⟩:=h2;rw[hn];rfl
theorem overIDs_any(S:Nat->Prop)(v:Value)(l:List Unit)(w:World)(h:Sl true w S 32 (fun cs _=>KindsS idK cs) v l):Calls prog 27 #[v] w (OverR S w):=by
 obtain⟨av,cap,rfl,hlen,-⟩:=h.at
 have hn:∀j:Nat,idK[j]?=some .l->(qA overId)[j]?=some (.slice none 0 0):=fun j hj=>by
  rw[idK,List.getElem?_replicate]at hj
  split at hj<;>cases hj
 go_enter func27,ntmps27;go_wp2
 go_loopw [2] (OverRel S w l.length) (fun i _=>l.length-(intOf i).toNat)
 case atStart=>exact⟨0,by omega,rfl,KMod.refl _ _⟩
 case round=>
  obtain⟨k,hk,rfl,hM⟩:=hrel
  by_cases hlt:k<l.length
  ·obtain⟨b,off,cur,T,cs,⟨rfl,hS,hrow,hcs,hsh,-,hcur,hfit⟩|hz⟩:=(h.kmod (by omega) hM KindsS.like).elem hlt
   ·have hsz:(qA overId).size=32:=overId_kinds.1
    have hla:=likeA_zero hsh overId_kinds hn;obtain⟨ov,hov⟩:∃t,t=qA overId:=⟨_,rfl⟩;have hone:=kinds_one overId_kinds;rw[<-hov]at hsz hla hone
    have HOV:=hid hov;clear hov hn;go_upto_region 3 with(fail);refine wpR [3,3,1,3,1] ?_;simp only[stz]
    refine wpX rfl (v:=.agg ov) (by rw[HOV.out];exact exec_build_id (by rfl)) trivial ?_;try simp only[nmz]
    refine wpPI underlying25 32 hlt ?_;simp only[nmz]
    refine wpD (qF 24 _ _ b (off+k*32) ov (by rfl) (by rfl) (by rfl) hone 32 (by kernel_rfl) hsz _ _ hrow (by omega) (fun w2 hb2 hm2=>?_))
    have hM2:=hM.trans (KMod.row hS hrow hb2 (LikeA.put (by omega) hcur hla) hm2);simp only[stz];go_wp2
    go_roundw
    case rel=>exact⟨k+1,by omega,by go_num,hM2⟩
    case measure=>simp[intOf];omega
   ·exact absurd hz (by omega)
  ·have hkl:k=l.length:=by omega
   have HK:=hid hkl;clear hkl hn;go_wp2
   go_end0
   exact⟨rfl,hM⟩
end
section
open Go.ChangeShapes Go.WideShapes Go.ChangeAt Go.RowKit Go.Proofs.Tryz Go.Lib
theorem Mod.kept{w w':World}(h:Mod NoB w w')(may:MemPlace->Prop):w.keptBut w' may:=by
 refine⟨h.os,h.output,fun i hi=>?_⟩;have e:=h.block i hi id
 cases hw:w.heap[i]? with
 |none=>rw[hw]at e;simp[e]
 |some o=>
  rw[hw]at e
  cases o<;>simp[e]
theorem post_of_mod{H:Type}{enc:TypeId×Value->H}{P:Program}{f:Func}{s:ChangeSpec}{apart fresh handsOn:Bool}{W W':World}{args:Array Value}{v:Value}{ds gs:List (DataW H)}{before pa pv:List MemPlace}
 (hold:DataW.Whole enc P f.params.toList s.vars apart W args.toList ds gs before)(hm:Mod NoB W W')
 (hr:∀(b:Nat),DataW.TrodAll enc P W' b (fun _=>false) handsOn f.resultTypes.toList (v.resultList f.resultTypes.size) (s.fn H (ds++gs)).results [])
 (ha:DataW.TrodAll enc P W' 0 (fun b=>decide (b<W.heap.size)) true f.params.toList args.toList (s.fn H (ds++gs)).args pa)
 (hv:DataW.TrodVars enc P W' (fun b=>decide (b<W.heap.size)) s.vars (s.fn H (ds++gs)).vars pv):s.post enc P f apart fresh handsOn false W args v W':=by
 unfold ChangeSpec.post;exact⟨ds,gs,before,[],pa,pv,hold,hr _,ha,hv,hm.kept _,fun h=>Bool.noConfusion h⟩
theorem laidOut:laidOutB prog=true:=by kernel_rfl
theorem carry{H:Type}{enc:TypeId×Value->H}{t:TypeId}(hr:prog.readableRec t=true)(hrow:t<prog.types.size){W W':World}(hm:Mod NoB W W'){v:Value}{d:DataW H}{ps:List MemPlace}
 (h:DataW.Trod enc prog W 0 (fun _=>true) true t v d ps):DataW.Trod enc prog W' 0 (fun b=>decide (b<W.heap.size)) true t v d ps:=by
 obtain⟨n,h⟩:=h;have hlt:=DataW.trod_lt n t _ _ h
 refine⟨n,DataW.trod_stays (kids_book laidOut hr) (book_sized hr) (fun h=>by cases h) ⟨hrow,book_self t⟩ h (fun p hp=>?_) (fun p hp=>by simpa using hlt p hp)⟩
 have hb:=hlt p hp
 cases p with
 |cell b off=>exact World.cell?_of_block (w:=W) (hm.block b hb id)
 |map b=>exact hm.block b hb id
end
section
open Go.RowKit Go.Shelf Go.Proofs.Tryz Go.Lib
end
section
open Go.ChangeShapes Go.WideShapes Go.ChangeAt Go.RowKit Go.Proofs.Tryz Go.Lib
theorem fit_i64{n:Int}(h:(Lit.int .i64 n).wf=true):-9223372036854775808<=n/\n<=9223372036854775807:=bounds_i64 h
theorem addr_add{w:World}{a:Addr}{v:Value}(i:Nat)(h0:∃u,w.cell? (a.add 0)=some u)(h:w.cell? (a.add i)=some v):a=⟨a.block,a.off,none⟩/\w.cell? ⟨a.block,a.off+i,none⟩=some v:=by
 obtain⟨u,h0⟩:=h0;obtain⟨b,off,spot⟩:=a
 have hs:spot=none:=by
  simp only[Addr.add,if_true]at h0;unfold World.cell? at h0
  cases spot with
  |none=>rfl
  |some s=>cases hw:w.heap[b]? with
   |none=>simp[hw]at h0
   |some o=>cases o<;>simp[hw]at h0
 subst hs;refine⟨rfl,?_⟩;unfold Addr.add at h
 split at h
 ·rename_i hi;subst hi;exact h
 ·exact h
theorem list_of_all{α:Type}{n:Nat}{Q:Nat->α->Prop}(h:∀i,i<n->∃a,Q i a):∃l:List α,l.length=n/\∀i (hi:i<l.length),Q i l[i]:=by
 refine⟨List.ofFn fun i:Fin n=>Classical.choose (h i.1 i.2),by simp,fun i hi=>?_⟩;rw[List.getElem_ofFn];exact Classical.choose_spec (h i (by simpa using hi))
theorem addr_cells{w:World}{a:Addr}{i j:Nat}{u v:Value}(h0:w.cell? ((a.add 0).add 0)=some u)(h:w.cell? ((a.add i).add j)=some v):a=⟨a.block,a.off,none⟩/\w.cell? ⟨a.block,a.off+i+j,none⟩=some v:=by
 have e0:(a.add 0).add 0=a.add 0:=by simp[Addr.add]
 have h1:=(addr_add 0 ⟨u,e0▸h0⟩ (e0▸h0)).1;refine⟨h1,?_⟩;rw[h1]at h
 have e:∀(b o k:Nat),Addr.add ⟨b,o,none⟩ k=⟨b,o+k,none⟩:=fun b o k=>by
  unfold Addr.add
  split
  ·rename_i hk;subst hk;rfl
  ·rfl
 rwa[e,e]at h
section
variable{H:Type}{enc:TypeId×Value->H}{P:Program}{W:World}{sp:Nat->Bool}{held:Bool}
theorem sl_of_trod{α:Type}{R:Array Value->α->Prop}{t e:TypeId}{sz fuel:Nat}{cs:List Value}{x:DataW H×List MemPlace}(ht:P.underlying t=some (.slice e))(hsz:P.cellsOf e=sz)(hpos:0<sz)
 (hR:∀n cs x,DataW.trod enc P W 0 sp held n e cs=some x->∃a,R cs.toArray a)(h:DataW.trod enc P W 0 sp held fuel t cs=some x):∃v l,cs=[v]/\Sl false W (fun k=>k<W.heap.size) sz R v l:=by
 rcases DataW.trod_slice ht h with⟨rfl,_⟩|⟨a,len,cap,elems,rest,n,_,rfl,_,_,hlc,hcm,hel,helem,_,_⟩
 ·exact⟨_,[],rfl,Sl.nil _ _ _ _ _⟩
 ·subst hsz
  have hall:∀i,i<len->∃y:α,∃cs:List Value,cs.length=P.cellsOf e/\R cs.toArray y/\∀j,j<P.cellsOf e->W.cell? ((a.add (i*P.cellsOf e)).add j)=cs[j]?:=by
   intro i hi;have h1:=helem i hi;rw[List.getElem?_eq_getElem (by omega)]at h1;obtain⟨cs,h2,h3⟩:=Option.bind_eq_some_iff.1 h1;obtain⟨_,hl,hc⟩:=World.cells?_some h2
   obtain⟨y,hy⟩:=hR _ _ _ h3;exact⟨y,cs,hl,hy,hc⟩
  obtain⟨l,hl,hq⟩:=list_of_all hall;refine⟨_,l,rfl,some a,cap,by rw[hl],by omega,hcm,fun hne=>?_⟩;have hp:0<l.length:=List.length_pos_iff.2 hne
  have h0:∃u,W.cell? ((a.add 0).add 0)=some u:=by
   obtain⟨cs,h1,_,h3⟩:=hq 0 hp;have:=h3 0 hpos;rw[List.getElem?_eq_getElem (by omega),Nat.zero_mul]at this;exact⟨_,this⟩
  obtain⟨u,h0⟩:=h0
  refine⟨a.block,a.off,by rw[<-(addr_cells h0 h0).1],(block_lt_of_cell (a:=⟨a.block,a.off+0+0,none⟩) (addr_cells h0 h0).2),fun h=>(by cases h),fun i hi=>?_⟩
  obtain⟨cs,h1,h2,h3⟩:=hq i hi;refine⟨cs.toArray,by simpa using h1,h2,fun j hj=>?_⟩;have hj':j<cs.length:=by simpa using hj
  have:=h3 j (by omega);rw[List.getElem?_eq_getElem hj']at this;rw[(addr_cells h0 this).2]
  simp[List.getElem?_eq_getElem hj']
end
theorem okWide_array{P:Program}{w:World}{r:Reach}{base:Nat}{t:TypeId}{v:Value}{n:Nat}{e:TypeId}(ht:P.underlying t=some (.array n e))(h:Value.okWide P w r base t v):∃cs,v=.agg cs/\cs.size=P.cellsOf t:=by
 simp only[Value.okWide,ht]at h;obtain⟨cs,h1,h2,_⟩:=h;exact⟨cs,h1,h2⟩
section
variable{H:Type}{enc:TypeId×Value->H}{W:World}{sp:Nat->Bool}{held:Bool}{fuel:Nat}{cs:List Value}{x:DataW H×List MemPlace}
theorem read_u8(h:DataW.trod enc prog W 0 sp held fuel 5 cs=some x):∃b,cs=[byteV b]:=by
 obtain⟨n,rfl,_,hw⟩:=DataW.trod_int underlying5 h;have:=bounds_u8 hw;refine⟨UInt8.ofNat n.toNat,?_⟩;unfold byteV
 rw[UInt8.toNat_ofNat_of_lt' (by rw[show UInt8.size=256 from rfl];omega),Int.toNat_of_nonneg this.1]
theorem read_id(h:DataW.trod enc prog W 0 sp held fuel 24 cs=some x):∃i:List UInt8,i.length=32/\cs=i.map byteV:=by
 obtain⟨xs,m,_,_,hl,hx,hf⟩:=DataW.trod_array underlying24 h;have hc:prog.cellsOf 24=32:=by kernel_rfl
 have h5:prog.cellsOf 5=1:=by kernel_rfl
 rw[hc]at hl
 have hall:∀i,i<32->∃b,cs[i]?=some (byteV b):=by
  intro i hi;have h1:=hf i hi;rw[List.getElem?_eq_getElem (by omega)]at h1;obtain⟨b,hb⟩:=read_u8 h1;rw[h5,Nat.mul_one]at hb;refine⟨b,?_⟩
  have:=congrArg (fun l=>l[0]?) hb
  simpa using this
 obtain⟨l,hl',hq⟩:=list_of_all hall;refine⟨l,hl',List.ext_getElem (by simp;omega) fun i h1 h2=>?_⟩;have:=hq i (by simpa using h2)
 rw[List.getElem?_eq_getElem h1]at this
 simpa using this
theorem read_ids(h:DataW.trod enc prog W 0 sp held fuel 25 cs=some x):∃v l,cs=[v]/\Sl false W (fun k=>k<W.heap.size) 32 IdC v l:=
 sl_of_trod underlying25 (by kernel_rfl) (by decide) (fun _ _ _ h=>by
  obtain⟨n,hn,rfl⟩:=read_id h
  exact⟨n,rfl,hn⟩) h
theorem read_bytes(h:DataW.trod enc prog W 0 sp held fuel 53 cs=some x):∃v l,cs=[v]/\Sl false W (fun k=>k<W.heap.size) 1 ByteC v l:=
 sl_of_trod underlying53 (by kernel_rfl) (by decide) (fun _ _ _ h=>by
  obtain⟨b,rfl⟩:=read_u8 h
  exact⟨b,rfl⟩) h
theorem read_lists(h:DataW.trod enc prog W 0 sp held fuel 22 cs=some x):∃v l,cs=[v]/\LsAt W v l:=by
 obtain⟨v,l,e,hs⟩:=sl_of_trod (R:=BtsC W) (sz:=1) underlying22 (by kernel_rfl) (by decide) (fun _ _ _ h=>by
  obtain⟨v,l,rfl,hs⟩:=read_bytes h
  exact⟨l,v,rfl,hs.mono (fun _ _=>trivial) (fun _ _ h=>h)⟩) h
 exact⟨v,l,e,hs.mono (fun _ _=>trivial) (fun _ _ h=>h)⟩
end
section
variable{H:Type}{enc:TypeId×Value->H}{W W0:World}{sp:Nat->Bool}{r:Reach}{b0:Nat}{v:Value}{d:DataW H}{ps:List MemPlace}
theorem open_ids(hval:Value.okWide prog W0 r b0 25 v)(h:DataW.Trod enc prog W 0 sp true 25 v d ps):∃l,Sl false W (fun k=>k<W.heap.size) 32 IdC v l:=by
 obtain⟨a0,n0,c0,rfl⟩:=okWide_slice underlying25 hval;obtain⟨fuel,h⟩:=h;obtain⟨v,l,hv,hl⟩:=read_ids h
 have:Value.slice a0 n0 c0=v:=by simpa[Value.cells]using hv
 rw[this];exact⟨l,hl⟩
end
theorem sl_memC{α:Type}{own:Bool}{w:World}{G:Nat->Prop}{n:Nat}{R:Array Value->α->Prop}{v:Value}{l:List α}{Q:α->Prop}(h:Sl own w G n R v l)(hQ:∀cs x,R cs x->Q x):∀x∈l,Q x:=by
 intro x hx;obtain⟨a,cap,_,_,hat⟩:=Sl.at h;obtain⟨i,hi,rfl⟩:=List.getElem_of_mem hx;obtain⟨b,off,_,_,_,hc⟩:=hat i hi;obtain⟨cs,_,h2,_⟩:=hc i hi
 exact hQ _ _ h2
section
variable{H:Type}{enc:TypeId×Value->H}{W W0:World}{sp:Nat->Bool}{r:Reach}{b0:Nat}{v:Value}{d:DataW H}{ps:List MemPlace}
theorem open_id(hval:Value.okWide prog W0 r b0 24 v)(h:DataW.Trod enc prog W 0 sp true 24 v d ps):∃x:List UInt8,v=.agg (qA x)/\x.length=32:=by
 obtain⟨cs,rfl,_⟩:=okWide_array underlying24 hval;obtain⟨fuel,h⟩:=h;obtain⟨x,hx,e⟩:=read_id h;refine⟨x,?_,hx⟩
 congr 1
 apply Array.toList_inj.1
 have e:cs.toList=x.map byteV:=e;rw[e];simp[qA]
theorem open_listsC(hval:Value.okWide prog W0 r b0 22 v)(h:DataW.Trod enc prog W 0 sp true 22 v d ps):∃l,LsAt W v l:=by
 obtain⟨a0,n0,c0,rfl⟩:=okWide_slice underlying22 hval;obtain⟨fuel,h⟩:=h;obtain⟨v,l,hv,hl⟩:=read_lists h
 have:Value.slice a0 n0 c0=v:=by simpa[Value.cells]using hv
 rw[this];exact⟨l,hl⟩
end
end
section
open Go.RowKit Go.Shelf Go.Proofs.Tryz Go.Lib
theorem exec_eql_bool{w:World}{o:Oper}{a:Act}(x y:Operand)(yt:TypeId)(b:Bool)(ho:o.op=.binOp .eql 4 x y yt)(hx:a.eval x=.bool b)(hy:a.eval y=.bool b):
 (execOp a.eval o).run prog w=.ok (.value (.bool true)) w:=by
 unfold execOp;simp only[ho,hx,hy]
 cases b<;>go_simp
theorem DtNew.facts{w0 w:World}{q wd:Nat}{c:BlobL}(h:DtNew w0 w q wd c):(∀k b,getL k c=some b->b.length<=4096)/\∀x∈c.map (·.1),x.length=32:=by
 obtain⟨r,R,h1,rfl,_,_⟩:=h;refine⟨fun k b hk=>?_,fun x hx=>?_⟩
 ·obtain⟨p,hp,e⟩:=List.mem_map.1 (getL_mem hk)
  have:=h1.sz p hp
  cases e
  exact this
 ·obtain⟨p',hp',rfl⟩:=List.mem_map.1 hx
  obtain⟨p,hp,rfl⟩:=List.mem_map.1 hp';exact h1.ids p hp
theorem closureWalks_walk{w:World}{wd:Int}(hwd:I64 wd){lv mv:Value}{L M:List (List UInt8)}{di:List UInt8}(hid:di.length=32)(hlv:LsAt w lv L){own:Bool}{G:Nat->Prop}(hM:Sl own w G 32 IdC mv M):
 Calls prog 3 #[.int .i64 wd,lv,.agg (qA di),mv] w (RetM (.bool true) w):=by
 have hic:(qA di).size=32:=by rw[qD,hid]
 have hM32:∀x∈M,x.length=32:=sl_memC hM fun _ _ h=>h.2;obtain⟨mad,mcap,rfl,-,-⟩:=Sl.at hM;have HL:=Lib.hid hlv;have HV:=Lib.hid hM;have HM32:=Lib.hid hM32
 clear hlv hM hM32;go_enter func3,ntmps3;go_upto_region 0 with(fail);refine wpR [1,3] ?_;simp only[stz];refine wpD (zT 24 _ _ (by rfl) (by rfl) (fun w1 hB1 hm1 hs1=>?_))
 replace hB1:w1.heap[w.heap.size]?=some (.cells (qA di) 24 (0,0)):=hB1;simp only[stz];have hb6s:w.heap.size<w1.heap.size:=hs1
 generalize hb6:w.heap.size=b6 at*;have hc6:CellsAt w1 b6 0 (qA di):=CellsAt.whole hB1;have hlong:=long13_any (lsAt_keep0 HL.out hm1)
 obtain⟨lg,hlg⟩:∃b,longB L 30 700=b:=⟨_,rfl⟩;rw[hlg]at hlong;have HLG:=Lib.hid hlg;clear hlg hB1 hs1;go_upto_region 1 with(fail)
 go_cut [26] (fun s wx=>Mod NoB w1 wx/\(s=.bool true\/s=.bool false/\longB L 30 700=false/\M.length<=10))
 case first=>
  cases lg with
  |true=>
   refine wpR [3,1,3,3,3,3,3] ?_;simp only[stz];refine wpD (wpCM func15 (hlong) fun w2 hm2=>?_);simp only[stz];go_wp2
   go_meet
   case rel=>exact⟨hm2,.inl rfl⟩
  |false=>
   by_cases hmo:M.length<=10
   ·have hz:¬((M.length:Nat):Int)>10:=by omega
    refine wpR [3,1,3,3,3,3,3] ?_;simp only[stz];refine wpD (wpCM func15 (hlong) fun w2 hm2=>?_);simp only[stz];refine wpPL ?_;simp only[nmz]
    refine qG _ _ _ _ _ _ _ _ rfl rfl rfl rfl rfl false (decide_eq_false hz) ?_;simp only[stz];go_wp2
    go_meet
    case rel=>exact⟨hm2,.inr ⟨rfl,HLG.out,hmo⟩⟩
   ·have hz:((M.length:Nat):Int)>10:=by omega
    refine wpR [3,1,3,3,3,3,3] ?_;simp only[stz];refine wpD (wpCM func15 (hlong) fun w2 hm2=>?_);simp only[stz];refine wpPL ?_;simp only[nmz]
    refine qG _ _ _ _ _ _ _ _ rfl rfl rfl rfl rfl true (decide_eq_true hz) ?_;simp only[stz];go_wp2
    go_meet
    case rel=>exact⟨hm2,.inl rfl⟩
 case rest=>
  rename World=>wx
  obtain⟨hmx,rfl|⟨rfl,hlgf,hmo⟩⟩:=hcut
  ·have hmw:=hm1.trans0 hmx
   clear hlong hmx hm1 hc6;go_upto_region 2 with(fail);refine wpR [1,3] ?_;simp only[stz];refine wpD (wpCM func16 (awake13_any _) fun w9 hm9=>?_);simp only[stz]
   have hmf:=hmw.trans0 hm9;clear hmw hm9;go_wp2;go_ret;exact⟨rfl,hmf⟩
  obtain⟨hL30,hL700⟩:=longB_false hlgf;have hmw:=hm1.trans0 hmx;replace hc6:=hc6.keep hmx id;have hp:=pick_any wd 32 hwd (by omega) wx
  have hpl:=pickZ_lt wd 32 (by omega);obtain⟨k,hk⟩:∃k:Nat,pickZ wd 32=(k:Int):=⟨(pickZ wd 32).toNat,by omega⟩;rw[hk]at hp hpl;clear hlong hm1 hmx hk hlgf HLG
  go_upto_region 3 with(fail);refine wpR [3,1,3,3] ?_;simp only[stz];refine wpD (wpC func17 (hp) ?_);rintro e w3 ⟨rfl,hw⟩;obtain rfl:=hw.symm;refine⟨_,rfl,?_⟩
  try simp only[nmz]
  refine qY _ _ _ _ (1:Int) (k:Int) ((k+1:Nat):Int) rfl rfl rfl rfl (by omega) (by omega) (by omega) ?_;simp only[stz]
  have hwz:1<=k+1/\k+1<=32:=by omega
  have hfi:=filled13_any hwz (lsAt_keep0 HL.out hmw) (by omega) (fun b hb=>by have:=hL700 b hb;omega)
  have hsa:=fun w' (hm:Mod NoB wx w')=>same13_any hwz (lsAt_keep0 HL.out (hmw.trans0 hm)) (by omega) (fun b hb=>by have:=hL700 b hb;omega)
  have hcl:(cOf (k+1) L).length<=30:=by have:=cOf_len (k+1) L [];unfold cOf;simp at this;omega
  have hrl:(rOf (k+1) L).length<=30:=by have:=rOf_len' (k+1) L;omega
  have HREF:=Lib.hid (rOf_ref (k+1) L);generalize hwn:k+1=wn at*;clear hp hpl hwn;go_upto_region 4 with(fail);refine wpR [3,3,1,3,3,1,3,3] ?_;simp only[stz]
  refine wpD (wpC func18 (hfi) ?_);rintro e w4 ⟨bs,he4,Ft,hat,hFn,hm4⟩;subst he4;refine⟨_,rfl,?_⟩;simp only[stz];refine wpD (wpC func19 (hsa _ hm4) ?_)
  rintro e w5 ⟨q8,he5,hdt⟩;subst he5;refine⟨_,rfl,?_⟩;simp only[stz];have hm5:Mod NoB w4 w5:=by obtain⟨_,_,_,_,_,h⟩:=hdt;exact h
  obtain⟨hsz8,hks8⟩:=hdt.facts;have HGT:=Lib.hid (hdt.gets HREF.out.sorted);have hgl:∀y,getL y (cOf wn L)=getL y (rOf wn L):=fun y=>(HREF.out.get y).symm
  have HGL:=Lib.hid hgl;generalize cOf wn L=c at*;generalize rOf wn L=c8 at*;have had:(jE c8).length<=1000:=by have:=allDescs_len c8;omega
  have HAT:=Lib.hid (hat.keep0 hm5);have hm05:=(hmw.trans0 hm4).trans0 hm5;have HSZ8:=Lib.hid hsz8;have HKS8:=Lib.hid hks8;replace hc6:=(hc6.keep hm4 id).keep hm5 id
  have HM5:=Lib.hid hm05;have HVr:=Lib.hid (HV.out.keep0 hm05);have hwk:=HAT.out.walk (by omega) di hid
  clear hfi hsa hm4 hm5 hmw hat hFn hm05 hdt hsz8 hks8 hgl HREF hL30 hL700;go_upto_region 7 with(fail);refine wpR [3,1,1,3,3,3,3,1,3,1,3] ?_;simp only[stz]
  refine wpXA 24 b6 0 (qA di) hc6 underlying24 32 hic trivial ?_;try simp only[nmz]
  refine wpD (wpC func20 (hwk) ?_);rintro e w6 ⟨hm6,av,a,bad,n,he6,hga,hO1,hb32,ha32⟩;subst he6;have hbc:(qA bad).size=32:=by rw[qD,hb32]
  refine⟨_,rfl,?_⟩;simp only[stz];refine qE rfl (fun w'=>qI _ 0 #[av,.agg (qA bad),.int .i64 n] rfl rfl av rfl) ?_;simp only[nmz]
  refine qE rfl (fun w'=>qI _ 1 #[av,.agg (qA bad),.int .i64 n] rfl rfl (.agg (qA bad)) rfl) ?_;simp only[nmz]
  refine qE rfl (fun w'=>qI _ 2 #[av,.agg (qA bad),.int .i64 n] rfl rfl (.int .i64 n) rfl) ?_;simp only[nmz]
  refine wpD (qP 24 _ (by rfl) idZ (fun w7 hB7 hm7 hs7=>?_));replace hB7:w7.heap[w6.heap.size]?=some (.cells (qA (List.replicate 32 0)) 24 (0,0)):=hB7
  simp only[stz]
  refine wpD (qF 24 _ _ w6.heap.size 0 (qA bad) (by rfl) (by rfl) (by rfl) (qR _) 32 (by kernel_rfl) hbc _ _ hB7 (by rw[hbc,qD];simp) (fun w8 hB8 hm8=>?_))
  rw[qC (by rw[hbc,qD];simp)]at hB8;simp only[stz];have hm68:Mod NoB w6 w8:=hm7.transB hm8 (Nat.le_refl _);have hm58:=hm6.trans0 hm68
  have hc12:CellsAt w8 w6.heap.size 0 (qA bad):=CellsAt.whole hB8;have HGA:=Lib.hid (hga.keep0 hm68)
  have hwk2:=r13Walk_any (w0:=w5) (c:=c8) HGT.out HSZ8.out HKS8.out (by omega) hm58 di hid;replace hc6:=hc6.keep hm58 id;have hs56:=hm6.size
  generalize hb12:w6.heap.size=b12 at*;clear hwk hm6 hm7 hm8 hm68 hB7 hB8 hga hs7;go_upto_region 8 with(fail);refine wpR [3,1,1,3,3,3,3,1,3,1,3] ?_;simp only[stz]
  refine wpXA 24 b6 0 (qA di) hc6 underlying24 32 hic trivial ?_;try simp only[nmz]
  refine wpD (wpC func21 (hwk2) ?_);rintro e w9 ⟨hm9,bv,b,worse,f,he9,hgb,hO2,-,-⟩;subst he9;obtain⟨hq1,hq2,hq3⟩:=walkOut_same (fun y _=>HGL.out y) hO1 hO2
  subst hq1 hq2 hq3;refine⟨_,rfl,?_⟩;simp only[stz];refine qE rfl (fun w'=>qI _ 0 #[bv,.agg (qA bad),.int .i64 n] rfl rfl bv rfl) ?_;simp only[nmz]
  refine qE rfl (fun w'=>qI _ 1 #[bv,.agg (qA bad),.int .i64 n] rfl rfl (.agg (qA bad)) rfl) ?_;simp only[nmz]
  refine qE rfl (fun w'=>qI _ 2 #[bv,.agg (qA bad),.int .i64 n] rfl rfl (.int .i64 n) rfl) ?_;simp only[nmz]
  refine wpD (qP 24 _ (by rfl) idZ (fun wa hBa hma hsa=>?_));replace hBa:wa.heap[w9.heap.size]?=some (.cells (qA (List.replicate 32 0)) 24 (0,0)):=hBa
  simp only[stz]
  refine wpD (qF 24 _ _ w9.heap.size 0 (qA bad) (by rfl) (by rfl) (by rfl) (qR _) 32 (by kernel_rfl) hbc _ _ hBa (by rw[hbc,qD];simp) (fun wb hBb hmb=>?_))
  rw[qC (by rw[hbc,qD];simp)]at hBb;simp only[stz];have hm9b:Mod NoB w9 wb:=hma.transB hmb (Nat.le_refl _);have hm8b:=hm9.trans0 hm9b
  have hm5b:=hm58.trans0 hm8b;have hc15:CellsAt wb w9.heap.size 0 (qA bad):=CellsAt.whole hBb;replace HGA:=Lib.hid (HGA.out.keep0 hm8b)
  have HGB:=Lib.hid (hgb.keep0 hm9b);replace hc12:=hc12.keep hm8b id;replace hc6:=hc6.keep hm8b id;have HO:=Lib.hid hO1;have hs89:=hm9.size;have hs58:=hm58.size
  have hmk:=(HAT.out.keep0 hm5b).mark (HVr.out.keep0 hm5b) (by omega) (by omega);generalize hb15:w9.heap.size=b15 at*
  clear hwk2 hm9 hma hmb hm9b hm8b hBa hBb hgb hO1 hO2 hsa hm58;go_upto_region 9 with(fail);refine wpR [3,3,1,3,3,1,3,3] ?_;simp only[stz];refine wpD (wpC func22 (hmk) ?_)
  rintro e wc ⟨hmc,xv,x,he,hgx,hMO,hx32⟩;subst he
  have hmk2:=r13Mark_any (w0:=w5) (c:=c8) HGT.out HSZ8.out (fun p _ M hM d hd=>decL_ids hM d hd) (hm5b.trans0 hmc) (HVr.out.keep0 (hm5b.trans0 hmc)) HM32.out (by omega)
  refine⟨_,rfl,?_⟩;simp only[stz];refine wpD (wpC func23 (hmk2) ?_);rintro e wd' ⟨hmd,yv,y,he,hgy,hRY⟩;subst he
  obtain rfl:x=y:=marks_uniq hMO (riseI_ext hRY fun z=>by simp only[inL_same HGL.out]);refine⟨_,rfl,?_⟩;simp only[stz];have hmbd:=hmc.trans0 hmd;have hsb:=hm5b.size
  have hsc:=hmc.size;replace HGA:=Lib.hid (HGA.out.keep0 hmbd);replace HGB:=Lib.hid (HGB.out.keep0 hmbd);have HGX:=Lib.hid (hgx.keep0 hmd);have HGY:=Lib.hid hgy
  replace hc12:=hc12.keep hmbd id;replace hc15:=hc15.keep hmbd id;replace hc6:=hc6.keep hmbd id;have hm5d:=hm5b.trans0 hmbd;have HATd:=Lib.hid (HAT.out.keep0 hm5d)
  have HMd:=Lib.hid (HM5.out.trans0 hm5d)
  have HS1:=Lib.hid (fun w' (hm:Mod NoB wd' w')=>show Calls prog 24 #[av,bv] w' (RetM (.bool true) w')from by
   have h:=sameIDs_any _ _ _ _ av bv a a w' (slI (HGA.out.keep0 hm) ha32) (slI (HGB.out.keep0 hm) ha32);rw[show decide (a=a)=true from decide_eq_true rfl]at h
   exact h)
  have HS2:=Lib.hid (fun w' (hm:Mod NoB wd' w')=>show Calls prog 24 #[xv,yv] w' (RetM (.bool true) w')from by
   have h:=sameIDs_any _ _ _ _ xv yv x x w' (slI (HGX.out.keep0 hm) hx32) (slI (HGY.out.keep0 hm) hx32);rw[show decide (x=x)=true from decide_eq_true rfl]at h
   exact h)
  have HW1:=Lib.hid (fun w' (hm:Mod NoB wd' w')=>show Calls prog 25 #[.pointer (some ⟨bs,0,none⟩),.agg (qA di)] w' (RetM (.bool (decide (n=0))) w')from by
   refine((HATd.out.keep0 hm).whole (by omega) hid).mono ?_;rintro e w'' ⟨h1,i2,b2,n2,hO,rfl⟩;obtain⟨-,-,rfl⟩:=walkOut_same (fun _ _=>rfl) HO.out hO
   exact⟨rfl,h1⟩)
  have HW2:=Lib.hid (fun w' (hm:Mod NoB wd' w')=>show Calls prog 26 #[.pointer (some ⟨q8,0,none⟩),.agg (qA di)] w' (RetM (.bool (decide (n=0))) w')from by
   refine(r13Whole_any (w0:=w5) (c:=c8) HGT.out HSZ8.out HKS8.out (by omega) (hm5d.trans0 hm) di hid).mono ?_;rintro e w'' ⟨h1,i2,b2,n2,hO,rfl⟩
   obtain⟨-,-,rfl⟩:=walkOut_same (fun y _=>HGL.out y) HO.out hO
   exact⟨rfl,h1⟩)
  obtain⟨wh,hwh⟩:∃wh,decide (n=0)=wh:=⟨_,rfl⟩;rw[hwh]at HW1 HW2;have hwd5:w.heap.size<=w5.heap.size:=HM5.out.size
  clear hmk hmk2 hmc hmd hmbd hgx hgy hMO hRY hwh hm5b HO HVr HAT;go_upto_region 10 with(fail);have hS:Mod NoB wd' wd'.drew:=(Mod.refl _ _).drew
  refine wp_region_plan [.inl [(0,3),(1,3)],.inr (.inl 2),.inl [(3,3),(4,0),(5,0),(6,0),(7,3),(8,3),(9,3),(10,3),(11,3),(12,3),(13,3),(14,3),(15,3)],.inr (.inl 16),.inl [(17,3),(18,3),(19,3),(20,0),(22,3),(23,0)],.inr (.inr (2,#[true,true,true,true,true,true,true,true,true,true,true,true,true,true,true,true,true,true,true,true,true,false,true,true,false,false,false,false])),.inl [(25,0),(26,3),(27,3)]] (fun w'=>Mod NoB wd' w') (by kernel_rfl) (by kernel_rfl) (by kernel_rfl) (fun _ _ _ _ hd h=>⟨hd.trans h.1,h.2⟩) hS ?_
  refine wpPlan_seg ?_
  simp only[List.map_cons,List.map_nil,Array.getD_eq_getD_getElem?,List.getElem?_toArray,List.getElem?_cons_succ,List.getElem?_cons_zero,Option.getD_some];simp only[stz]
  refine planQ_normal ?_;refine wpPlan_one rfl (fun K hK=>?_)
  simp only[Array.getD_eq_getD_getElem?,List.getElem?_toArray,List.getElem?_cons_succ,List.getElem?_cons_zero,Option.getD_some];refine wpC func24 (HS1.out _ hS) ?_
  rintro e wA ⟨rfl,hmA⟩;have hSA:=hS.trans0 hmA;refine⟨_,rfl,hK _ _ hSA ?_⟩;clear hK K;try simp only[nmz]
  refine wpPlan_seg ?_
  simp only[List.map_cons,List.map_nil,Array.getD_eq_getD_getElem?,List.getElem?_toArray,List.getElem?_cons_succ,List.getElem?_cons_zero,Option.getD_some];simp only[stz]
  refine wpLA 24 b12 0 (qA bad) (fun w' hS=>hc12.keep hS id) underlying24 32 hbc ?_;simp only[nmz]
  refine wpLA 24 b15 0 (qA bad) (fun w' hS=>hc15.keep hS id) underlying24 32 hbc ?_;simp only[nmz]
  refine qQ rfl (fun w' hS=>yZ _ _ _ _ rfl bad bad rfl rfl 32 5 underlying24 underlying5 (by kernel_rfl) (by kernel_rfl) hb32 hb32 true (decide_eq_true rfl)) ?_
  simp only[stz];refine qG _ _ _ _ _ _ _ _ rfl rfl rfl rfl rfl true (decide_eq_true rfl) ?_;simp only[stz];refine planQ_normal ?_;refine wpPlan_one rfl (fun K hK=>?_)
  simp only[Array.getD_eq_getD_getElem?,List.getElem?_toArray,List.getElem?_cons_succ,List.getElem?_cons_zero,Option.getD_some];refine wpC func24 (HS2.out _ hSA) ?_
  rintro e wB ⟨rfl,hmB⟩;have hSB:=hSA.trans0 hmB;refine⟨_,rfl,hK _ _ hSB ?_⟩;clear hK K;try simp only[nmz]
  refine wpPlan_seg ?_
  simp only[List.map_cons,List.map_nil,Array.getD_eq_getD_getElem?,List.getElem?_toArray,List.getElem?_cons_succ,List.getElem?_cons_zero,Option.getD_some];simp only[stz]
  refine wpLA 24 b6 0 (qA di) (fun w' hS=>hc6.keep hS id) underlying24 32 hic ?_;simp only[stz]
  refine wpLA 24 b6 0 (qA di) (fun w' hS=>hc6.keep hS id) underlying24 32 hic ?_;simp only[stz];refine planQ_normal ?_
  refine wpPlan_dep [(80,(fun v _=>v=.bool wh)),(83,(fun v _=>v=.bool wh))] [(21,80,[]),(24,83,[])] ?hF ?hS (by decide) (by kernel_rfl) (by kernel_rfl) (by kernel_rfl) ?hw ?hend ?hop
  case hF=>
   intro x hx;simp only[List.mem_cons,List.not_mem_nil,or_false]at hx
   rcases hx with rfl|rfl
   ·exact(fun _ _ _ h _=>h)
   ·exact(fun _ _ _ h _=>h)
  case hS=>exact(fun _ hm=>hSB.trans0 hm)
  case hw=>
   intro q hq;simp only[List.mem_cons,List.not_mem_nil,or_false]at hq
   rcases hq with rfl|rfl<;>rfl
  case hop=>
   intro q hq ps w1 hm hps hds hnd hpn K hK;simp only[List.mem_cons,List.not_mem_nil,or_false]at hq
   rcases hq with rfl|rfl
   ·simp only[depF,Nat.reduceEqDiff,if_true,if_false,reduceIte]at hK
    simp only[Array.getD_eq_getD_getElem?,List.getElem?_toArray,List.getElem?_cons_succ,List.getElem?_cons_zero,Option.getD_some];clear hps hds
    refine zQ (zI 25 [.tmp 78,.tmp 79] _ rfl _ func25 rfl (by kernel_rfl) [.pointer (some ⟨bs,0,none⟩),.agg (qA di)] ((puts_args hpn _ _ (by rfl)).trans rfl) _) (HW1.out _ (hSB.trans0 hm)) ?_
    rintro e wg ⟨rfl,hmg⟩;exact⟨_,rfl,hK _ _ hmg rfl⟩
   ·simp only[depF,Nat.reduceEqDiff,if_true,if_false,reduceIte]at hK
    simp only[Array.getD_eq_getD_getElem?,List.getElem?_toArray,List.getElem?_cons_succ,List.getElem?_cons_zero,Option.getD_some];clear hps hds
    refine zQ (zI 26 [.tmp 81,.tmp 82] _ rfl _ func26 rfl (by kernel_rfl) [.pointer (some ⟨q8,0,none⟩),.agg (qA di)] ((puts_args hpn _ _ (by rfl)).trans rfl) _) (HW2.out _ (hSB.trans0 hm)) ?_
    rintro e wg ⟨rfl,hmg⟩;exact⟨_,rfl,hK _ _ hmg rfl⟩
  case hend=>
   intro vals wz hvl hGM hJ;obtain⟨v80,vals1,rfl,hvl1⟩:=vals_cons hvl;obtain⟨v83,vals2,rfl,hvl2⟩:=vals_cons hvl1;obtain rfl:=List.eq_nil_of_length_eq_zero hvl2
   simp only[List.map_cons,List.map_nil,List.zip_cons_cons,List.zip_nil_left]at hJ |-;have h80:=hJ (80,v80) (by simp)
   simp only[depF,Nat.reduceEqDiff,if_true,if_false,reduceIte]at h80;have h83:=hJ (83,v83) (by simp);simp only[depF,Nat.reduceEqDiff,if_true,if_false,reduceIte]at h83
   clear hJ hvl hvl1 hvl2;have hGM80:=hGM;simp only[puts];try simp only[nmz]
   refine wpPlan_seg ?_
   simp only[List.map_cons,List.map_nil,Array.getD_eq_getD_getElem?,List.getElem?_toArray,List.getElem?_cons_succ,List.getElem?_cons_zero,Option.getD_some]
   refine qQ rfl (fun w' hS=>exec_eql_bool _ _ _ wh rfl (by exact h80) (by exact h83)) ?_;simp only[stz];refine planQ_normal ?_;refine wpPlan_fin ?_
   have hSG:=hSB.trans0 hGM80;have hsa1:=(slI (HGA.out.keep0 hSG) ha32).shape (S:=fun k=>w5.heap.size<=k) (fun k h=>h.1) idS_of
   have hsx1:=(slI (HGX.out.keep0 hSG) hx32).shape (S:=fun k=>w5.heap.size<=k) (fun k h=>by have:=h.1;omega) idS_of;have hov:=overIDs_any _ _ _ _ hsa1
   have HMG:=Lib.hid (HMd.out.trans0 hSG);have HSX:=Lib.hid hsx1;clear hS hSA hSB hmA hmB hSG hsa1 hsx1 hGM80 h80 h83 hc12 hc15 hc6;go_upto_region 11 with(fail)
   refine wpR [3,1] ?_;simp only[stz];refine wpD (wpCM func27 (hov) fun wf nf=>?_);simp only[stz];have hov2:=overIDs_any _ _ _ _ (HSX.out.kmod (by omega) nf KindsS.like)
   go_upto_region 12 with(fail);refine wpR [3,1] ?_;simp only[stz];refine wpD (wpCM func27 (hov2) fun wh2 nh=>?_);simp only[stz]
   have hmf:=(HMG.out.trans nf.mod (fun k hk hS=>by have e:w5.heap.size<=k:=hS;omega)).trans nh.mod (fun k hk hS=>by have e:w5.heap.size<=k:=hS;omega)
   have HMF:=Lib.hid hmf;clear hov hov2 nf nh hmf;go_upto_region 13 with(fail);refine wpR [3,3,1,3,3] ?_;simp only[stz]
   refine wpD (wpCM func16 (awake13_any _) fun wz hmz=>?_);simp only[stz];have hmz2:=HMF.out.trans0 hmz;clear hmz;go_wp2;go_ret;exact⟨rfl,hmz2⟩
end
section
open Go.RowKit Go.Proofs.Tryz Go.Lib
theorem closureWalks_any(W:World)(wd:Int)(lv:Value)(L:List (List UInt8))(di:List UInt8)(mv:Value)(M:List (List UInt8))(hwd:I64 wd)(hl:LsAt W lv L)(hid:di.length=32)(hM:Sl false W (fun k=>k<W.heap.size) 32 IdC mv M):
 Calls prog 3 #[.int .i64 wd,lv,.agg (qA di),mv] W (RetM (.bool true) W):=closureWalks_walk hwd hid hl hM
end
end Go.Proofs.YtjeonjoifjbohaaGreat
