/- What the statement ClosureWalks needs, part 6. -/
import Derived.RecoverIn
import Derived.OrdersIn
import Derived.RangeFuncCalls
import Derived.Test.YtjeonjoifjbohaaGreatClosureWalksP5
set_option linter.unusedVariables false
set_option linter.unusedSimpArgs false
set_option linter.unnecessarySimpa false
set_option linter.unusedSectionVars false
set_option maxRecDepth 10000
set_option maxHeartbeats 8000000
namespace Go.Proofs.YtjeonjoifjbohaaGreat
section
open Go.RowKit Go.Shelf Go.Proofs.Tryz Go.Lib
attribute [local go_sem] Oper.semAt_some
def WkS(St:Nat->Prop)(J:List Thg->World->Prop)(W0:World)(ds:List Deferred)(pre:List Thg)(w:World):Prop:=J pre w/\KSc St W0 w/\MarksOk W0.heap.size ds w
theorem WkS.mod0{St:Nat->Prop}{J:List Thg->World->Prop}{W0 w w':World}{ds:List Deferred}{pre:List Thg}(h:WkS St J W0 ds pre w)(hJ:OwnFrom W0.heap.size J)(hm:Mod NoB w w'):WkS St J W0 ds pre w':=⟨OwnFrom.mod0 hJ h.1 hm,h.2.1.trans (KSc.of0 hm),h.2.2.mod0 hm⟩
theorem ManC.kc{base:Nat}{w w':World}{cs:Array Value}{m:ManL}(h:ManC base w cs m)(hk:KC w w'):ManC base w' cs m:=by
 obtain⟨h0,lv,sv,h1,h2,h3⟩:=h;refine⟨h0,lv,sv,h1,Gat.keep h2 hk (fun q hq hs=>?_),Gat.keep h3 hk (fun q hq hs=>?_)⟩
 ·obtain⟨o,ho,hc⟩:=gat_cells h2 hq
  rw[hs o ho]at hc;cases hc
 ·obtain⟨o,ho,hc⟩:=gat_cells h3 hq
  rw[hs o ho]at hc;cases hc
theorem GatD.kc{base:Nat}{w w':World}{v:Value}{l:List DescL}(h:GatD base w v l)(hk:KC w w'):GatD base w' v l:=Gat.keep h hk fun q hq hs=>by
 obtain⟨o,ho,hc⟩:=gat_cells h hq;rw[hs o ho]at hc;cases hc
def WkI(St:Nat->Prop)(J:List Thg->World->Prop)(W wi:World)(ds:List Deferred)(pre0 pre:List Thg)(w:World):Prop:=WkS St J W ds (pre0++pre) w/\KSc St wi w
theorem wkI_own{St:Nat->Prop}{J:List Thg->World->Prop}{W wi:World}{ds:List Deferred}{pre0:List Thg}(hJ:OwnFrom W.heap.size J)(hSt:∀k,St k->k<W.heap.size)(hW:W.heap.size<=wi.heap.size)(hm:MarksOk W.heap.size ds wi):OwnFrom wi.heap.size (WkI St J W wi ds pre0):=by
 intro s A C row hs hg hr;obtain⟨⟨h1,h2,h3⟩,h4⟩:=hs;have hgm:Mod (fun k=>some k=row) A C:=Mod.of_grown hg fun r e=>e.symm
 have hk:KSc St A C:=⟨KC.of_mod hgm (fun k o e ho=>by
  obtain⟨_,o',ho',hc⟩:=hr k e.symm
  rw[ho]at ho';cases ho';exact hc),hgm.mono (fun k _ e hs=>by have:=(hr k e.symm).1;have:=hSt k hs;omega)⟩
 refine⟨⟨hJ _ A C row h1 hg (fun r e=>⟨Nat.le_trans hW (hr r e).1,(hr r e).2⟩),h2.trans hk,h3.keep fun D _ hmem hD=>?_⟩,h4.trans hk⟩;obtain⟨D',e,hlt⟩:=hm.lt _ hmem
 have e:D=D':=by simpa using e
 exact hgm.obj (fun e'=>by have:=(hr D e'.symm).1;omega) hD
theorem wpIn_rangeFunc_wk{P:Program}{n:Nat}{g:Operand}{assign body:Code}{Q:Exit->Act->World->Prop}{L1:List Value}{ds:List Deferred}{w:World}{p q:Nat}{gf:Nat}{lb:Array Value}(hg:Act.eval ⟨L1.toArray,ds⟩ g=.func (.func gf) #[] lb)
 (eg:∀args w,(callFunc gf args).run P w=.ok (.enter gf args) w){Kp:World->World->Prop}{xs:List Thg}{ch:Option (List PanicEntry)}(hseq:GivesX P gf lb ThE Kp xs ch w)(hKp:Kept Kp w.heap.size)(I:List Thg->World->Prop)(hI:OwnFrom w.heap.size I)(h0:I [] w)
 (hassign:∀(l b:Nat)(W:World)(K:Act->World->Prop),K ⟨((L1.set p (.pointer (some ⟨b,0,none⟩))).set q (.pointer (some ⟨b,0,none⟩))).toArray,[]⟩ W->assign.wpIn (Fence.wide.inRound l) 0 P (Exit.then K (fun _ _ _=>False)) ⟨(L1.set p (.pointer (some ⟨b,0,none⟩))).toArray,[]⟩ W)
 (hbody:∀(l:Nat)(pre:List Thg)(x:Thg)(rest:List Thg)(b:Nat)(W:World),xs=pre++x::rest->I pre W->ThAt W b x->
  body.wpIn (Fence.wide.inRound l) 0 P (Exit.then (fun _ W'=>KeepsFrom w.heap.size W W'/\Kp W W'/\I (pre++[x]) W') (fun _ _ _=>False)) ⟨((L1.set p (.pointer (some ⟨b,0,none⟩))).set q (.pointer (some ⟨b,0,none⟩))).toArray,[]⟩ W)
 (hdone:ch=none->∀(D:Nat)(W:World),w.heap.size<=D->I xs W->W.heap[D]?=some (.deferred (some []))->Q .normal ⟨L1.toArray,{ target:=.collected D,args:=#[] }::ds⟩ W)
 (hfell:∀c,ch=some c->∀(D:Nat)(W:World),w.heap.size<=D->I xs W->W.heap[D]?=some (.deferred (some []))->Q (.panic c) ⟨L1.toArray,{ target:=.collected D,args:=#[] }::ds⟩ W):
 (Code.rangeFunc g #[p] assign body).wpIn Fence.wide n P Q ⟨L1.toArray,ds⟩ w:=by
 refine wpIn_rangeFunc_gvx hg eg hseq (Mod.refl _ _) (fun x args W h=>by obtain⟨b,rfl,-⟩:=h;rfl) hKp I hI h0
  (fun x a W=>∃b,a=⟨((L1.set p (.pointer (some ⟨b,0,none⟩))).set q (.pointer (some ⟨b,0,none⟩))).toArray,[]⟩/\W.heap[b]?=some (.cells (jL x) 150 (0,0)))
  (fun x a' s A C row hs hg hr=>?_) ?_ ?_ hdone hfell
 ·obtain⟨b,h1,h2⟩:=hs
  refine⟨b,h1,(hg.block b (Array.getElem?_eq_some_iff.1 h2).1 (fun e=>?_)).trans h2⟩;obtain⟨_,o,ho,hc⟩:=hr b e.symm;rw[h2]at ho;cases ho;cases hc
 ·rintro l pre x rest args W K hxs hi ⟨b,rfl,hb⟩ hK
  simp only[List.zip_toArray,List.zip_cons_cons,List.zip_nil_right,List.foldl_toArray',List.foldl_cons,List.foldl_nil,List.setIfInBounds_toArray]
  exact hassign l b W _ (hK _ _ (KeepsFrom.refl _ _) (hKp.refl _) hi ⟨b,rfl,hb⟩)
 ·rintro l pre x rest a' W hxs hi ⟨b,rfl,hb⟩
  exact hbody l pre x rest b W hxs hi hb
def WkRel(St:Nat->Prop)(J:List Thg->World->Prop)(W we:World)(t:Thg)(g:DescL->List Thg×Option WErr)(dl:List DescL)(k:Nat)(ds:List Deferred)(w:World):Prop:=
 k<=dl.length/\(∀j (hj:j<dl.length),j<k->(g dl[j]).2=none)/\WkS St J W ds (t::(dl.take k).flatMap fun d=>(g d).1) w/\KSc St we w
section
variable{bs ms wd:Nat}{room:Int}{bl:List Blb}
theorem clSeq1_gives:∀(f:Nat)(t:Thg)(w:World)(B1 B2 bt:Nat),t.d.id.length=32->t.depth+f=6->0<f->StInv w bs ms wd room bl->w.heap[B1]?=some (.cells #[.pointer (some ⟨bs,0,none⟩)] 29 (0,0))->w.heap[B2]?=some (.cells #[.pointer (some ⟨bt,0,none⟩)] 148 (0,0))->ThAt w bt t->
 GivesX prog 155 #[.pointer (some ⟨B1,0,none⟩),.pointer (some ⟨B2,0,none⟩)] ThE (KSc (SFoot bs ms bl)) (walkL (cont bl) f t).1 ((walkL (cont bl) f t).2.map chainW) w
 |0,_,_,_,_,_,_,_,h,_,_,_,_=>by omega
 |f+1,t,w,B1,B2,bt,hid,hdf,_,hst,hb1,hb2,hth=>by
  have IH:=Lib.hid (clSeq1_gives f);intro y J W hW hJ hY h0;have hb1W:=hW.obj id hb1;have hb2W:=hW.obj id hb2;have hthW:ThAt W bt t:=hW.obj id hth
  have hstW:=hst.keep0 hW;have hStl:=hstW.lt;have hic:(qA t.d.id).size=32:=by rw[qD,hid]
  obtain⟨X,hX⟩:∃X,walkL (cont bl) (f+1) t=X:=⟨_,rfl⟩;rw[hX]at hY |-;have HX:=Lib.hid hX;clear hX hb1 hb2 hth hst hW
  refine enter_marks W.heap.size func155 rfl (fun e w D hD hK hr=>⟨hr.1,hJ _ w _ (some D) hr.2 (grownBy_putObj' w D _) (fun r e=>by cases e;exact⟨hD,_,hK,rfl⟩)⟩) (fun t w=>⟨_,results_none rfl _ _ _⟩) ?_
  simp only[ntmps155,List.size_toArray,List.length_cons,List.length_nil,Nat.reduceAdd,Nat.reduceSub,Array.replicate_succ,Array.replicate_zero,List.push_toArray,List.append_toArray,List.nil_append,List.cons_append]
  gi_upto_region 0 with(fail)
  refine wpIn_wide.2 ?_;refine wpR [1] ?_;simp only[stz];refine wpD (zT 252 _ _ (by rfl) (by rfl) (fun w1 hB1 hm1 hs1=>?_))
  replace hB1:w1.heap[W.heap.size]?=some (.cells #[.func (.yield y) #[] #[]] 252 (0,0)):=hB1;simp only[stz]
  have HS1:Hid (WkS (SFoot bs ms bl) J W [] [] w1):=Lib.hid (WkS.mod0 ⟨h0,KSc.of0 (Mod.refl _ _),trivial⟩ hJ hm1)
  have HE1:Hid (WkEnv w1 bs ms wd room bl y W.heap.size B1 B2 bt t):=Lib.hid ⟨by simp[World.cell?,hB1],(by have h9:=hm1.obj id hb1W;simp[World.cell?,h9]),(by have h9:=hm1.obj id hb2W;simp[World.cell?,h9]),hm1.obj id hthW,hstW.keep0 hm1⟩
  clear hB1 hm1 hs1 hb1W hb2W hthW hstW h0;have hget:=fun(w':World)(hm:Mod NoB w1 w')=>bGet_any (HE1.out.mod0 hm).st t.d.id hid
  obtain⟨r,hr⟩:∃q,getL t.d.id (cont bl)=q:=⟨_,rfl⟩;simp only[hr]at hget;have HGR:=Lib.hid hr;clear hr
  cases r with
  |none=>
   obtain rfl:X=([],some (t.d.id,14)):=by rw[<-HX.out];unfold walkL;rw[HGR.out]
   gi_upto_region 1 with(fail)
   refine wpIn_wide.2 ?_;have hS:Mod NoB w1 w1.drew:=(Mod.refl _ _).drew
   refine zK [(0,0),(1,0),(2,3),(3,3),(4,3),(5,0),(6,1),(7,3),(8,3),(9,3),(10,3),(11,3)] [] (fun w'=>Mod NoB w1 w') (by kernel_rfl) (by kernel_rfl) (by kernel_rfl) (by kernel_rfl) (fun _ _ _ _ hd h=>⟨xI hd h.1,h.2⟩) hS ?_
   simp only[stz];refine wpLd 29 B1 0 (fun w' hS=>(HE1.out.mod0 hS).sc) underlying29 ?_;simp only[nmz];refine wpLd 148 B2 0 (fun w' hS=>(HE1.out.mod0 hS).tc) underlying148 ?_
   simp only[stz];refine wpLA 24 bt (0+1) (qA t.d.id) (fun w' hS=>(HE1.out.mod0 hS).th.id) underlying24 32 hic ?_;simp only[nmz];refine qM rfl (fun K hK=>?_)
   refine wpC func33 (hget _ hS) ?_;rintro e w2 ⟨hm2,rfl⟩;refine⟨_,rfl,hK _ _ (hS.trans0 hm2) ?_⟩;clear hK K;simp only[stz]
   refine qE (v:=?_) rfl (fun w'=>?_) ?_;rotate_left;·(go_simp;try with_reducible rfl)
   simp only[nmz];refine qE (v:=?_) rfl (fun w'=>?_) ?_;rotate_left;·(go_simp;try with_reducible rfl)
   simp only[stz];have hm12:=hS.trans0 hm2;have HS2:=Lib.hid (HS1.out.mod0 hJ hm12);have HE2:=Lib.hid (HE1.out.mod0 hm12);clear hS hm2 hm12 hget
   gi_upto_region 2 with(fail)
   refine wpIn_wide.2 ?_;refine wpR [1,3,1] ?_;simp only[stz];refine wpXd (v:=(.pointer (some ⟨bt,0,none⟩))) 148 B2 0 HE2.out.tc underlying148 trivial ?_;simp only[stz]
   refine qM rfl (fun K hK=>?_)
   refine wp_enterP (zI 156 [.tmp 21,.tmp 22,.const (.int .i64 14)] _ rfl _ func156 rfl (by kernel_rfl) [.pointer (some ⟨bt,0,none⟩),.bool false,.int .i64 14] rfl _) (thMust_no HE2.out.th hid 14) (fun w9 hm9=>?_)
   exact⟨trivial,rfl,(HS2.out.mod0 hJ hm9).1⟩
  |some m=>
   have hml:m.length<=4096:=by
    have h1:=HGR.out;rw[getB]at h1
    cases hf:findB t.d.id bl with
    |none=>rw[hf]at h1;cases h1
    |some b=>
     rw[hf]at h1;simp only[Option.map_some,Option.some.injEq]at h1;rw[<-h1];exact HE1.out.st.sz b (findB_some hf).1
   have HXS:Hid (X=if(t.first||decide (m.length=t.d.size))=false then([],some (t.d.id,17))else if treeT t=false then(if(decide (t.d.media=1)||decide (t.d.media=2))=false then([],some (t.d.id,20))else([t],none))
    else if 4<t.depth then([],some (t.d.id,18))else match decL m with
     |none=>([],some (t.d.id,5))
     |some M=>if(t.first||decide (M.kind=t.d.media))=false then([],some (t.d.id,20))
      else(t::(zZ (fun d=>walkL (cont bl) f ⟨d,t.depth+1,false⟩) (zE M)).1,(zZ (fun d=>walkL (cont bl) f ⟨d,t.depth+1,false⟩) (zE M)).2)):=Lib.hid (by rw[<-HX.out,walkL,HGR.out];try rfl)
   gi_upto_region 1 with(fail)
   refine wpIn_wide.2 ?_;have hS:Mod NoB w1 w1.drew:=(Mod.refl _ _).drew
   refine zK [(0,0),(1,0),(2,3),(3,3),(4,3),(5,0),(6,1),(7,3),(8,3),(9,3),(10,3),(11,3)] [] (fun w'=>Mod NoB w1 w') (by kernel_rfl) (by kernel_rfl) (by kernel_rfl) (by kernel_rfl) (fun _ _ _ _ hd h=>⟨xI hd h.1,h.2⟩) hS ?_
   simp only[stz];refine wpLd 29 B1 0 (fun w' hS=>(HE1.out.mod0 hS).sc) underlying29 ?_;simp only[nmz];refine wpLd 148 B2 0 (fun w' hS=>(HE1.out.mod0 hS).tc) underlying148 ?_
   simp only[stz];refine wpLA 24 bt (0+1) (qA t.d.id) (fun w' hS=>(HE1.out.mod0 hS).th.id) underlying24 32 hic ?_;simp only[nmz];refine qM rfl (fun K hK=>?_)
   refine wpC func33 (hget _ hS) ?_;rintro e w2 ⟨hm2,bv,rfl,hbv⟩;refine⟨_,rfl,hK _ _ (hS.trans0 hm2) ?_⟩;clear hK K;simp only[stz]
   refine qE (v:=?_) rfl (fun w'=>?_) ?_;rotate_left;·(go_simp;try with_reducible rfl)
   simp only[nmz];refine qE (v:=?_) rfl (fun w'=>?_) ?_;rotate_left;·(go_simp;try with_reducible rfl)
   simp only[stz];have hm12:=hS.trans0 hm2;have HS2:=Lib.hid (HS1.out.mod0 hJ hm12);have HE2:=Lib.hid (HE1.out.mod0 hm12);have hbs:=Bts.sl hbv
   obtain⟨ad,cap,rfl,hle,-⟩:=Sl.at hbs;have HBS:=Lib.hid hbs;clear hS hm2 hm12 hget hbv hbs HS1 HE1 HGR HX
   gi_upto_region 2 with(fail)
   refine wpIn_wide.2 ?_;refine wpR [1,3,1] ?_;simp only[stz];refine wpXd (v:=(.pointer (some ⟨bt,0,none⟩))) 148 B2 0 HE2.out.tc underlying148 trivial ?_;simp only[stz]
   refine wpD (wpC func156 (thMust_ok bt 14 w2) ?_);rintro e w3 ⟨rfl,hq⟩;obtain rfl:=hq.symm;refine⟨_,rfl,?_⟩;simp only[stz]
   by_cases hsz:(t.first||decide (m.length=t.d.size))=false
   ·obtain rfl:X=([],some (t.d.id,17)):=by rw[HXS.out,if_pos hsz]
    have hf0:t.first=false:=by simp at hsz;exact hsz.1
    have hz:¬(m.length:Int)=(t.d.size:Int):=by simp at hsz;omega
    have hfs:=fun(w':World)(hm:Mod NoB w2 w')=>(HE2.out.mod0 hm).th.first hid
    have hss:=fun(w':World)(hm:Mod NoB w2 w')=>(HE2.out.mod0 hm).th.size hid;rw[hf0]at hfs
    gi_upto_region 3 with(fail)
    refine wpIn_wide.2 ?_;have hS:Mod NoB w2 w2.drew:=(Mod.refl _ _).drew
    refine zK [(0,0),(1,0),(2,3),(3,3),(4,0),(5,3),(6,3),(7,3),(8,0),(9,3),(10,3),(11,3),(12,0),(13,3),(14,3),(15,1)] [] (fun w'=>Mod NoB w2 w') (by kernel_rfl) (by kernel_rfl) (by kernel_rfl) (by kernel_rfl) (fun _ _ _ _ hd h=>⟨xI hd h.1,h.2⟩) hS ?_
    simp only[stz];refine wpLd 148 B2 0 (fun w' hS=>(HE2.out.mod0 hS).tc) underlying148 ?_;simp only[nmz]
    refine wpLd 148 B2 0 (fun w' hS=>(HE2.out.mod0 hS).tc) underlying148 ?_;simp only[stz];refine wpLd 4 bt (0+36) (fun w' hS=>hfs _ hS) underlying4 ?_;simp only[stz]
    refine wpPL ?_;simp only[nmz];refine wpLd 148 B2 0 (fun w' hS=>(HE2.out.mod0 hS).tc) underlying148 ?_;simp only[stz]
    refine wpLd 3 bt (0+33) (fun w' hS=>hss _ hS) underlying3 ?_;simp only[nmz];refine qG _ _ _ _ _ _ _ _ rfl rfl rfl rfl rfl false (decide_eq_false hz) ?_
    simp only[stz];refine qM rfl (fun K hK=>?_)
    refine wp_enterP (zI 156 [.tmp 24,.tmp 38,.const (.int .i64 17)] _ rfl _ func156 rfl (by kernel_rfl) [.pointer (some ⟨bt,0,none⟩),.bool false,.int .i64 17] rfl _) (thMust_no (HE2.out.mod0 hS).th hid 17) (fun w9 hm9=>?_)
    exact⟨trivial,rfl,(HS2.out.mod0 hJ (hS.trans0 hm9)).1⟩
   ·have hX2:=HXS.out
    rw[if_neg hsz]at hX2;replace HXS:=Lib.hid hX2;clear hX2
    gi_upto_region 3 with(fail)
    gi_cut [39]from 24 (fun s wx=>s=.tuple #[]/\Mod NoB w2 wx)
    case first=>
     have hfs:=fun(w':World)(hm:Mod NoB w2 w')=>(HE2.out.mod0 hm).th.first hid
     have hss:=fun(w':World)(hm:Mod NoB w2 w')=>(HE2.out.mod0 hm).th.size hid
     by_cases hf0:t.first=true
     ·rw[hf0]at hfs
      clear hsz
      gi_upto_region 3 with(fail)
      refine wpIn_wide.2 ?_;have hS:Mod NoB w2 w2.drew:=(Mod.refl _ _).drew
      refine zK [(0,0),(1,0),(2,3),(3,3),(4,0),(5,3),(6,3),(7,3),(8,0),(9,3),(10,3),(11,3),(12,0),(13,3),(14,3),(15,1)] [] (fun w'=>Mod NoB w2 w') (by kernel_rfl) (by kernel_rfl) (by kernel_rfl) (by kernel_rfl) (fun _ _ _ _ hd h=>⟨xI hd h.1,h.2⟩) hS ?_
      simp only[stz];refine wpLd 148 B2 0 (fun w' hS=>(HE2.out.mod0 hS).tc) underlying148 ?_;simp only[nmz]
      refine wpLd 148 B2 0 (fun w' hS=>(HE2.out.mod0 hS).tc) underlying148 ?_;simp only[stz];refine wpLd 4 bt (0+36) (fun w' hS=>hfs _ hS) underlying4 ?_;simp only[stz]
      refine qM rfl (fun K hK=>?_);refine wpC func156 (thMust_ok bt 17 _) ?_;rintro e w3 ⟨rfl,hq⟩;obtain rfl:=hq.symm;refine⟨_,rfl,hK _ _ hS ?_⟩;clear hK K
      simp only[stz]
      gi_wp2
      go_meet
      case rel=>exact⟨rfl,hS⟩
     ·have hf0:t.first=false:=by simpa using hf0
      rw[hf0]at hfs;have hz:(m.length:Int)=(t.d.size:Int):=by rw[hf0]at hsz;simp at hsz;omega
      clear hsz
      gi_upto_region 3 with(fail)
      refine wpIn_wide.2 ?_;have hS:Mod NoB w2 w2.drew:=(Mod.refl _ _).drew
      refine zK [(0,0),(1,0),(2,3),(3,3),(4,0),(5,3),(6,3),(7,3),(8,0),(9,3),(10,3),(11,3),(12,0),(13,3),(14,3),(15,1)] [] (fun w'=>Mod NoB w2 w') (by kernel_rfl) (by kernel_rfl) (by kernel_rfl) (by kernel_rfl) (fun _ _ _ _ hd h=>⟨xI hd h.1,h.2⟩) hS ?_
      simp only[stz];refine wpLd 148 B2 0 (fun w' hS=>(HE2.out.mod0 hS).tc) underlying148 ?_;simp only[nmz]
      refine wpLd 148 B2 0 (fun w' hS=>(HE2.out.mod0 hS).tc) underlying148 ?_;simp only[stz];refine wpLd 4 bt (0+36) (fun w' hS=>hfs _ hS) underlying4 ?_;simp only[stz]
      refine wpPL ?_;simp only[nmz];refine wpLd 148 B2 0 (fun w' hS=>(HE2.out.mod0 hS).tc) underlying148 ?_;simp only[stz]
      refine wpLd 3 bt (0+33) (fun w' hS=>hss _ hS) underlying3 ?_;simp only[nmz];refine qG _ _ _ _ _ _ _ _ rfl rfl rfl rfl rfl true (decide_eq_true hz) ?_
      simp only[stz];refine qM rfl (fun K hK=>?_);refine wpC func156 (thMust_ok bt 17 _) ?_;rintro e w3 ⟨rfl,hq⟩;obtain rfl:=hq.symm;refine⟨_,rfl,hK _ _ hS ?_⟩
      clear hK K;simp only[stz]
      gi_wp2
      go_meet
      case rel=>exact⟨rfl,hS⟩
    case rest=>
     rename World=>wc
     obtain⟨rfl,hmc⟩:=hcut;have HSc:=Lib.hid (HS2.out.mod0 hJ hmc);have HEc:=Lib.hid (HE2.out.mod0 hmc);replace HBS:=Lib.hid (HBS.out.keep0 hmc);clear hmc hsz HS2 HE2
     have htree:=thTree_any HEc.out.th hid;obtain⟨tr,htr⟩:∃q,treeT t=q:=⟨_,rfl⟩;rw[htr]at htree HXS
     gi_upto_region 4 with(fail)
     refine wpIn_wide.2 ?_;refine wpR [1,1,3] ?_;simp only[stz];refine wpXd (v:=(.pointer (some ⟨bt,0,none⟩))) 148 B2 0 HEc.out.tc underlying148 trivial ?_
     try simp only[nmz]
     refine wpD (wpC func157 (htree) ?_);rintro e w3 ⟨rfl,hq⟩;obtain rfl:=hq.symm;refine⟨_,rfl,?_⟩;try simp only[stz]
     try refine zH _ _ _ rfl rfl rfl ?_
     try simp only[stz]
     clear htree
     cases tr with
     |false=>
      have hmd:=fun(w':World)(hm:Mod NoB wc w')=>(HEc.out.mod0 hm).th.media;have hX2:=HXS.out;rw[if_pos rfl]at hX2
      by_cases h1:t.d.media=1
      ·have hz1:(t.d.media:Int)=1:=by omega
       obtain rfl:X=([t],none):=by rw[hX2,if_neg (by simp[h1])]
       clear hX2
       gi_upto_region 5 with(fail)
       refine wpIn_wide.2 ?_;have hS:Mod NoB wc wc.drew:=(Mod.refl _ _).drew
       refine zK [(0,0),(1,0),(2,3),(3,3),(4,3),(5,0),(6,3),(7,3),(8,0),(9,3),(10,3),(11,3),(12,0),(13,3),(14,3),(15,1)] [] (fun w'=>Mod NoB wc w') (by kernel_rfl) (by kernel_rfl) (by kernel_rfl) (by kernel_rfl) (fun _ _ _ _ hd h=>⟨xI hd h.1,h.2⟩) hS ?_
       simp only[stz];refine wpLd 148 B2 0 (fun w' hS=>(HEc.out.mod0 hS).tc) underlying148 ?_;simp only[nmz]
       refine wpLd 148 B2 0 (fun w' hS=>(HEc.out.mod0 hS).tc) underlying148 ?_;simp only[stz];refine wpLd 3 bt 0 (fun w' hS=>hmd _ hS) underlying3 ?_;simp only[nmz]
       refine qG _ _ _ _ _ _ _ _ rfl rfl rfl rfl rfl true (decide_eq_true hz1) ?_;simp only[stz];refine qM rfl (fun K hK=>?_)
       refine wpC func156 (thMust_ok bt 20 _) ?_;rintro e w3 ⟨rfl,hq⟩;obtain rfl:=hq.symm;refine⟨_,rfl,hK _ _ hS ?_⟩;clear hK K;simp only[stz]
       have HSd:=Lib.hid (HSc.out.mod0 hJ hS);have HEd:=Lib.hid (HEc.out.mod0 hS);have hYk:=hY [] t [] _ _ rfl HSd.out.1 ⟨bt,rfl,HEd.out.th⟩;clear hS
       gi_upto_region 6 with(fail)
       refine wpIn_region_lit ?_;refine wpListIn_plain rfl fun K hK=>yG (fun c h=>by cases h) ?_
       refine yS (xO 252 _ (by rfl) W.heap.size 0 (by rfl) _ HEd.out.yc _ underlying252 rfl) ?_;refine hK _ _ ?_;clear hK K;simp only[nmz]
       refine wpListIn_plain rfl fun K hK=>yG (fun c h=>by cases h) ?_;refine yS (xO 148 _ (by rfl) B2 0 (by rfl) _ HEd.out.tc _ underlying148 rfl) ?_
       refine hK _ _ ?_;clear hK K;simp only[nmz]
       refine wpListIn_plain rfl fun K hK=>wpIn_yield (l:=y) _ _ _ (by rfl) (by rfl) (.pointer (some ⟨bt,0,none⟩)) (by rfl) (yield0 hYk) (fun e' w5 he'=>?_)
       obtain⟨rfl,hJ5,hk5,hf5⟩:=he';refine⟨_,rfl,?_⟩;refine hK _ _ ?_;clear hK K;simp only[nmz];refine wpListIn_nil ?_;have HF:Hid (J [t] w5):=Lib.hid hJ5
       clear hJ5 hk5 hf5 hYk
       gi_wp2
       exact⟨trivial,fun v=>⟨⟨v,rfl⟩,HF.out⟩⟩
      ·have hn1:¬(t.d.media:Int)=1:=by omega
       by_cases h2:t.d.media=2
       ·have hz2:(t.d.media:Int)=2:=by omega
        obtain rfl:X=([t],none):=by rw[hX2,if_neg (by simp[h2])]
        clear hX2
        gi_upto_region 5 with(fail)
        refine wpIn_wide.2 ?_;have hS:Mod NoB wc wc.drew:=(Mod.refl _ _).drew
        refine zK [(0,0),(1,0),(2,3),(3,3),(4,3),(5,0),(6,3),(7,3),(8,0),(9,3),(10,3),(11,3),(12,0),(13,3),(14,3),(15,1)] [] (fun w'=>Mod NoB wc w') (by kernel_rfl) (by kernel_rfl) (by kernel_rfl) (by kernel_rfl) (fun _ _ _ _ hd h=>⟨xI hd h.1,h.2⟩) hS ?_
        simp only[stz];refine wpLd 148 B2 0 (fun w' hS=>(HEc.out.mod0 hS).tc) underlying148 ?_;simp only[nmz]
        refine wpLd 148 B2 0 (fun w' hS=>(HEc.out.mod0 hS).tc) underlying148 ?_;simp only[stz];refine wpLd 3 bt 0 (fun w' hS=>hmd _ hS) underlying3 ?_;simp only[nmz]
        refine qG _ _ _ _ _ _ _ _ rfl rfl rfl rfl rfl false (decide_eq_false hn1) ?_;simp only[stz]
        refine wpLd 148 B2 0 (fun w' hS=>(HEc.out.mod0 hS).tc) underlying148 ?_;simp only[stz];refine wpLd 3 bt 0 (fun w' hS=>hmd _ hS) underlying3 ?_;simp only[nmz]
        refine qG _ _ _ _ _ _ _ _ rfl rfl rfl rfl rfl true (decide_eq_true hz2) ?_;simp only[stz];refine qM rfl (fun K hK=>?_)
        refine wpC func156 (thMust_ok bt 20 _) ?_;rintro e w3 ⟨rfl,hq⟩;obtain rfl:=hq.symm;refine⟨_,rfl,hK _ _ hS ?_⟩;clear hK K;simp only[stz]
        have HSd:=Lib.hid (HSc.out.mod0 hJ hS);have HEd:=Lib.hid (HEc.out.mod0 hS);have hYk:=hY [] t [] _ _ rfl HSd.out.1 ⟨bt,rfl,HEd.out.th⟩;clear hS
        gi_upto_region 6 with(fail)
        refine wpIn_region_lit ?_;refine wpListIn_plain rfl fun K hK=>yG (fun c h=>by cases h) ?_
        refine yS (xO 252 _ (by rfl) W.heap.size 0 (by rfl) _ HEd.out.yc _ underlying252 rfl) ?_;refine hK _ _ ?_;clear hK K;simp only[nmz]
        refine wpListIn_plain rfl fun K hK=>yG (fun c h=>by cases h) ?_;refine yS (xO 148 _ (by rfl) B2 0 (by rfl) _ HEd.out.tc _ underlying148 rfl) ?_
        refine hK _ _ ?_;clear hK K;simp only[nmz]
        refine wpListIn_plain rfl fun K hK=>wpIn_yield (l:=y) _ _ _ (by rfl) (by rfl) (.pointer (some ⟨bt,0,none⟩)) (by rfl) (yield0 hYk) (fun e' w5 he'=>?_)
        obtain⟨rfl,hJ5,hk5,hf5⟩:=he';refine⟨_,rfl,?_⟩;refine hK _ _ ?_;clear hK K;simp only[nmz];refine wpListIn_nil ?_;have HF:Hid (J [t] w5):=Lib.hid hJ5
        clear hJ5 hk5 hf5 hYk
        gi_wp2
        exact⟨trivial,fun v=>⟨⟨v,rfl⟩,HF.out⟩⟩
       ·have hn2:¬(t.d.media:Int)=2:=by omega
        obtain rfl:X=([],some (t.d.id,20)):=by rw[hX2,if_pos (by simp[h1,h2])]
        clear hX2
        gi_upto_region 5 with(fail)
        refine wpIn_wide.2 ?_;have hS:Mod NoB wc wc.drew:=(Mod.refl _ _).drew
        refine zK [(0,0),(1,0),(2,3),(3,3),(4,3),(5,0),(6,3),(7,3),(8,0),(9,3),(10,3),(11,3),(12,0),(13,3),(14,3),(15,1)] [] (fun w'=>Mod NoB wc w') (by kernel_rfl) (by kernel_rfl) (by kernel_rfl) (by kernel_rfl) (fun _ _ _ _ hd h=>⟨xI hd h.1,h.2⟩) hS ?_
        simp only[stz];refine wpLd 148 B2 0 (fun w' hS=>(HEc.out.mod0 hS).tc) underlying148 ?_;simp only[nmz]
        refine wpLd 148 B2 0 (fun w' hS=>(HEc.out.mod0 hS).tc) underlying148 ?_;simp only[stz];refine wpLd 3 bt 0 (fun w' hS=>hmd _ hS) underlying3 ?_;simp only[nmz]
        refine qG _ _ _ _ _ _ _ _ rfl rfl rfl rfl rfl false (decide_eq_false hn1) ?_;simp only[stz]
        refine wpLd 148 B2 0 (fun w' hS=>(HEc.out.mod0 hS).tc) underlying148 ?_;simp only[stz];refine wpLd 3 bt 0 (fun w' hS=>hmd _ hS) underlying3 ?_;simp only[nmz]
        refine qG _ _ _ _ _ _ _ _ rfl rfl rfl rfl rfl false (decide_eq_false hn2) ?_;simp only[stz];refine qM rfl (fun K hK=>?_)
        refine wp_enterP (zI 156 [.tmp 43,.tmp 57,.const (.int .i64 20)] _ rfl _ func156 rfl (by kernel_rfl) [.pointer (some ⟨bt,0,none⟩),.bool false,.int .i64 20] rfl _) (thMust_no (HEc.out.mod0 hS).th hid 20) (fun w9 hm9=>?_)
        exact⟨trivial,rfl,(HSc.out.mod0 hJ (hS.trans0 hm9)).1⟩
     |true=>
      have hX2:=HXS.out;rw[if_neg (by simp)]at hX2;have hdp:=fun(w':World)(hm:Mod NoB wc w')=>(HEc.out.mod0 hm).th.depth hid
      by_cases hd4:4<t.depth
      ·have hz:¬(t.depth:Int)<=4:=by omega
       obtain rfl:X=([],some (t.d.id,18)):=by rw[hX2,if_pos hd4]
       clear hX2
       gi_upto_region 7 with(fail)
       refine wpIn_wide.2 ?_;have hS:Mod NoB wc wc.drew:=(Mod.refl _ _).drew
       refine zK [(0,0),(1,0),(2,3),(3,3),(4,0),(5,3),(6,1)] [] (fun w'=>Mod NoB wc w') (by kernel_rfl) (by kernel_rfl) (by kernel_rfl) (by kernel_rfl) (fun _ _ _ _ hd h=>⟨xI hd h.1,h.2⟩) hS ?_
       simp only[stz];refine wpLd 148 B2 0 (fun w' hS=>(HEc.out.mod0 hS).tc) underlying148 ?_;simp only[nmz]
       refine wpLd 148 B2 0 (fun w' hS=>(HEc.out.mod0 hS).tc) underlying148 ?_;simp only[stz];refine wpLd 3 bt (0+35) (fun w' hS=>hdp _ hS) underlying3 ?_;simp only[nmz]
       refine qG _ _ _ _ _ _ _ _ rfl rfl rfl rfl rfl false (decide_eq_false hz) ?_;simp only[nmz];refine qM rfl (fun K hK=>?_)
       refine wp_enterP (zI 156 [.tmp 62,.tmp 67,.const (.int .i64 18)] _ rfl _ func156 rfl (by kernel_rfl) [.pointer (some ⟨bt,0,none⟩),.bool false,.int .i64 18] rfl _) (thMust_no (HEc.out.mod0 hS).th hid 18) (fun w9 hm9=>?_)
       exact⟨trivial,rfl,(HSc.out.mod0 hJ (hS.trans0 hm9)).1⟩
      ·have hz:(t.depth:Int)<=4:=by omega
       rw[if_neg hd4]at hX2;replace HXS:=Lib.hid hX2;clear hX2
       gi_upto_region 7 with(fail)
       refine wpIn_wide.2 ?_;have hS:Mod NoB wc wc.drew:=(Mod.refl _ _).drew
       refine zK [(0,0),(1,0),(2,3),(3,3),(4,0),(5,3),(6,1)] [] (fun w'=>Mod NoB wc w') (by kernel_rfl) (by kernel_rfl) (by kernel_rfl) (by kernel_rfl) (fun _ _ _ _ hd h=>⟨xI hd h.1,h.2⟩) hS ?_
       simp only[stz];refine wpLd 148 B2 0 (fun w' hS=>(HEc.out.mod0 hS).tc) underlying148 ?_;simp only[nmz]
       refine wpLd 148 B2 0 (fun w' hS=>(HEc.out.mod0 hS).tc) underlying148 ?_;simp only[stz];refine wpLd 3 bt (0+35) (fun w' hS=>hdp _ hS) underlying3 ?_;simp only[nmz]
       refine qG _ _ _ _ _ _ _ _ rfl rfl rfl rfl rfl true (decide_eq_true hz) ?_;simp only[nmz];refine qM rfl (fun K hK=>?_)
       refine wpC func156 (thMust_ok bt 18 _) ?_;rintro e w3 ⟨rfl,hq⟩;obtain rfl:=hq.symm;refine⟨_,rfl,hK _ _ hS ?_⟩;clear hK K;simp only[stz]
       have HSd:=Lib.hid (HSc.out.mod0 hJ hS);have HEd:=Lib.hid (HEc.out.mod0 hS);have hbd:=HBS.out.keep0 hS;clear hdp HSc HEc HBS;generalize hwd:wc.drew=wd' at*
       clear hwd hS
       gi_upto_region 8 with(fail)
       refine wpIn_wide.2 ?_;refine wpR [3,1,3,3,3,1,1,1,1] ?_;simp only[stz];refine wpD (wpC func158 (mDecode_any hbd hml) ?_)
       rintro e w6 ⟨hm6,cs,er,at_,rfl,her,hmc⟩;have hcs:=hmc.size;have hone:=hmc.one;refine⟨_,rfl,?_⟩;simp only[stz]
       refine qE (v:=?_) rfl (fun w'=>?_) ?_;rotate_left;·(go_simp;try with_reducible rfl)
       simp only[nmz];refine qE (v:=?_) rfl (fun w'=>?_) ?_;rotate_left;·(go_simp;try with_reducible rfl)
       simp only[nmz];refine wpD (qP 163 _ (by rfl) manZ_i (fun w7 hB7 hm7 hs7=>?_))
       replace hB7:w7.heap[w6.heap.size]?=some (.cells (qN 0 [] descZ (.slice none 0 0) (.slice none 0 0)) 163 (0,0)):=hB7;try simp only[nmz]
       refine wpD (qP 255 _ (by rfl) fltZ (fun w8 hB8 hm8 hs8=>?_));replace hB8:w8.heap[w7.heap.size]?=some (.cells #[.int .i64 0,.int .i64 0] 255 (0,0)):=hB8
       try simp only[nmz]
       refine wpDo rfl ?_
       refine qF 163 _ _ w6.heap.size 0 cs (by rfl) (by rfl) (by rfl) hone 39 (by kernel_rfl) hcs _ _ (hm8.obj id hB7) (by rw[hcs];exact Nat.le_of_eq (qS qV).symm) (fun w9 hB9 hm9=>?_)
       rw[qC (by rw[hcs];exact(qS qV).symm)]at hB9;have hB8':=hm9.objB (by omega) hB8;try simp only[nmz]
       refine wpD (qF 255 _ _ w7.heap.size 0 #[.int .i64 er,.int .i64 at_] (by rfl) (by rfl) (by rfl) (by simp[Value.oneCell']) 2 (by kernel_rfl) rfl _ _ hB8' (by simp) (fun wa hBa hma=>?_))
       rw[qC (by rfl)]at hBa;have hB9':=hma.objB (by omega) hB9;simp only[stz];have h66:=hm6.size;have h67:=hm7.size
       have hm6a:Mod NoB w6 wa:=((hm7.trans0 hm8).transB hm9 (Nat.le_refl _)).transB hma (by omega);have hmda:Mod NoB wd' wa:=hm6.trans0 hm6a
       have HMC:=Lib.hid (hmc.keep0 hm6a);have hce:wa.cell? ⟨w7.heap.size,0,none⟩=some (.int .i64 er):=by simp[World.cell?,hBa]
       have HER:=Lib.hid her;have HSa:=Lib.hid (HSd.out.mod0 hJ hmda);have HEa:=Lib.hid (HEd.out.mod0 hmda);have HBM:=Lib.hid hB9';generalize hb7:w7.heap.size=b7 at*
       generalize hb6:w6.heap.size=b6 at*;clear hm6 hm7 hm8 hm9 hma hm6a hmda hB7 hB8 hB8' hB9 hB9' hBa hmc her hbd HSd HEd h66 h67 hs7 hs8
       by_cases hez:er=0
       rotate_left
       ·have hdn:decL m=none:=by
         cases hd:decL m with
         |none=>rfl
         |some q=>exact absurd (HER.out.2 (by rw[hd];rfl)) hez
        obtain rfl:X=([],some (t.d.id,5)):=by rw[HXS.out,hdn]
        clear hdn
        gi_upto_region 9 with(fail)
        refine wpIn_wide.2 ?_;refine wpR [1,3,1,3,1] ?_;simp only[stz];refine wpXd (v:=(.pointer (some ⟨bt,0,none⟩))) 148 B2 0 HEa.out.tc underlying148 trivial ?_
        simp only[stz];refine wpXd (v:=(.int .i64 er)) 33 b7 0 hce underlying33 trivial ?_;try simp only[nmz]
        refine qG _ _ _ _ _ _ _ _ rfl rfl rfl rfl rfl false (decide_eq_false hez) ?_;simp only[nmz];refine qM rfl (fun K hK=>?_)
        refine wp_enterP (zI 156 [.tmp 74,.tmp 77,.const (.int .i64 5)] _ rfl _ func156 rfl (by kernel_rfl) [.pointer (some ⟨bt,0,none⟩),.bool false,.int .i64 5] rfl _) (thMust_no HEa.out.th hid 5) (fun w9 hm9=>?_)
        exact⟨trivial,rfl,(HSa.out.mod0 hJ hm9).1⟩
       ·subst hez
        obtain⟨M,hM⟩:∃M,decL m=some M:=Option.isSome_iff_exists.1 (HER.out.1 rfl);have hmc:=HMC.out;rw[hM]at hmc;replace hmc:ManC wd'.heap.size wa cs M:=hmc
        have hX2:=HXS.out;rw[hM]at hX2
        gi_upto_region 9 with(fail)
        refine wpIn_wide.2 ?_;refine wpR [1,3,1,3,1] ?_;simp only[stz];refine wpXd (v:=(.pointer (some ⟨bt,0,none⟩))) 148 B2 0 HEa.out.tc underlying148 trivial ?_
        simp only[stz];refine wpXd (v:=(.int .i64 0)) 33 b7 0 hce underlying33 trivial ?_;try simp only[nmz]
        refine qG _ _ _ _ _ _ _ _ rfl rfl rfl rfl rfl true (by decide) ?_;simp only[nmz];refine wpD (wpC func156 (thMust_ok bt 5 wa) ?_);rintro e w3 ⟨rfl,hq⟩
        obtain rfl:=hq.symm;refine⟨_,rfl,?_⟩;simp only[stz]
        have hck:wa.cell? ⟨b6,0,none⟩=some (.int .i64 M.kind):=by
         rw[cell_of_row _ _ _ _ _ _ HBM.out];obtain⟨-,lv,sv,rfl,-,-⟩:=hmc;exact man_kind _ _ _ _ _
        have hfs:=fun(w':World)(hm:Mod NoB wa w')=>(HEa.out.mod0 hm).th.first hid
        have hmd:=fun(w':World)(hm:Mod NoB wa w')=>(HEa.out.mod0 hm).th.media;clear hce HER HXS HMC
        by_cases hkd:(t.first||decide (M.kind=t.d.media))=false
        ·obtain rfl:X=([],some (t.d.id,20)):=by rw[hX2];exact if_pos hkd
         clear hX2;have hf0:t.first=false:=by simp at hkd;exact hkd.1
         have hz9:¬(M.kind:Int)=(t.d.media:Int):=by simp at hkd;omega
         rw[hf0]at hfs
         gi_upto_region 10 with(fail)
         refine wpIn_wide.2 ?_;have hS:Mod NoB wa wa.drew:=(Mod.refl _ _).drew
         refine zK [(0,0),(1,0),(2,3),(3,3),(4,0),(5,3),(6,3),(7,0),(8,0),(9,3),(10,3),(11,3),(12,0),(13,3),(14,3),(15,1)] [] (fun w'=>Mod NoB wa w') (by kernel_rfl) (by kernel_rfl) (by kernel_rfl) (by kernel_rfl) (fun _ _ _ _ hd h=>⟨xI hd h.1,h.2⟩) hS ?_
         simp only[stz];refine wpLd 148 B2 0 (fun w' hS=>(HEa.out.mod0 hS).tc) underlying148 ?_;simp only[nmz]
         refine wpLd 148 B2 0 (fun w' hS=>(HEa.out.mod0 hS).tc) underlying148 ?_;simp only[stz];refine wpLd 4 bt (0+36) (fun w' hS=>hfs _ hS) underlying4 ?_
         simp only[stz];refine wpLd 3 b6 0 (fun w' hS=>hS.cell id hck) underlying3 ?_;simp only[nmz]
         refine wpLd 148 B2 0 (fun w' hS=>(HEa.out.mod0 hS).tc) underlying148 ?_;simp only[stz];refine wpLd 3 bt 0 (fun w' hS=>hmd _ hS) underlying3 ?_;simp only[nmz]
         refine qG _ _ _ _ _ _ _ _ rfl rfl rfl rfl rfl false (decide_eq_false hz9) ?_;simp only[stz];refine qM rfl (fun K hK=>?_)
         refine wp_enterP (zI 156 [.tmp 79,.tmp 93,.const (.int .i64 20)] _ rfl _ func156 rfl (by kernel_rfl) [.pointer (some ⟨bt,0,none⟩),.bool false,.int .i64 20] rfl _) (thMust_no (HEa.out.mod0 hS).th hid 20) (fun w9 hm9=>?_)
         exact⟨trivial,rfl,(HSa.out.mod0 hJ (hS.trans0 hm9)).1⟩
        ·replace hX2:=hX2.trans (if_neg hkd)
         gi_upto_region 10 with(fail)
         gi_cut [94]from 79 (fun s wx=>s=.tuple #[]/\Mod NoB wa wx)
         case first=>
          clear hX2
          by_cases hf0:t.first=true
          ·rw[hf0]at hfs
           clear hkd
           gi_upto_region 10 with(fail)
           refine wpIn_wide.2 ?_;have hS:Mod NoB wa wa.drew:=(Mod.refl _ _).drew
           refine zK [(0,0),(1,0),(2,3),(3,3),(4,0),(5,3),(6,3),(7,0),(8,0),(9,3),(10,3),(11,3),(12,0),(13,3),(14,3),(15,1)] [] (fun w'=>Mod NoB wa w') (by kernel_rfl) (by kernel_rfl) (by kernel_rfl) (by kernel_rfl) (fun _ _ _ _ hd h=>⟨xI hd h.1,h.2⟩) hS ?_
           simp only[stz];refine wpLd 148 B2 0 (fun w' hS=>(HEa.out.mod0 hS).tc) underlying148 ?_;simp only[nmz]
           refine wpLd 148 B2 0 (fun w' hS=>(HEa.out.mod0 hS).tc) underlying148 ?_;simp only[stz];refine wpLd 4 bt (0+36) (fun w' hS=>hfs _ hS) underlying4 ?_
           simp only[stz];refine qM rfl (fun K hK=>?_);refine wpC func156 (thMust_ok bt 20 _) ?_;rintro e w3 ⟨rfl,hq⟩;obtain rfl:=hq.symm
           refine⟨_,rfl,hK _ _ hS ?_⟩;clear hK K;simp only[stz]
           gi_wp2
           go_meet
           case rel=>exact⟨rfl,hS⟩
          ·have hf0:t.first=false:=by simpa using hf0
           rw[hf0]at hfs;have hz9:(M.kind:Int)=(t.d.media:Int):=by rw[hf0]at hkd;simp at hkd;omega
           clear hkd
           gi_upto_region 10 with(fail)
           refine wpIn_wide.2 ?_;have hS:Mod NoB wa wa.drew:=(Mod.refl _ _).drew
           refine zK [(0,0),(1,0),(2,3),(3,3),(4,0),(5,3),(6,3),(7,0),(8,0),(9,3),(10,3),(11,3),(12,0),(13,3),(14,3),(15,1)] [] (fun w'=>Mod NoB wa w') (by kernel_rfl) (by kernel_rfl) (by kernel_rfl) (by kernel_rfl) (fun _ _ _ _ hd h=>⟨xI hd h.1,h.2⟩) hS ?_
           simp only[stz];refine wpLd 148 B2 0 (fun w' hS=>(HEa.out.mod0 hS).tc) underlying148 ?_;simp only[nmz]
           refine wpLd 148 B2 0 (fun w' hS=>(HEa.out.mod0 hS).tc) underlying148 ?_;simp only[stz];refine wpLd 4 bt (0+36) (fun w' hS=>hfs _ hS) underlying4 ?_
           simp only[stz];refine wpLd 3 b6 0 (fun w' hS=>hS.cell id hck) underlying3 ?_;simp only[nmz]
           refine wpLd 148 B2 0 (fun w' hS=>(HEa.out.mod0 hS).tc) underlying148 ?_;simp only[stz];refine wpLd 3 bt 0 (fun w' hS=>hmd _ hS) underlying3 ?_;simp only[nmz]
           refine qG _ _ _ _ _ _ _ _ rfl rfl rfl rfl rfl true (decide_eq_true hz9) ?_;simp only[stz];refine qM rfl (fun K hK=>?_)
           refine wpC func156 (thMust_ok bt 20 _) ?_;rintro e w3 ⟨rfl,hq⟩;obtain rfl:=hq.symm;refine⟨_,rfl,hK _ _ hS ?_⟩;clear hK K;simp only[stz]
           gi_wp2
           go_meet
           case rel=>exact⟨rfl,hS⟩
         case rest=>
          rename World=>wb
          obtain⟨rfl,hmb⟩:=hcut;have HSb:=Lib.hid (HSa.out.mod0 hJ hmb);have HEb:=Lib.hid (HEa.out.mod0 hmb);have hmc2:=hmc.keep0 hmb
          have hcm:wb.heap[b6]?=some (.cells cs 163 (0,0)):=hmb.obj id HBM.out;clear hmb hmc hck hfs hmd hkd HSa HEa HBM
          obtain⟨g,hg⟩:∃g,(fun d=>walkL (cont bl) f ⟨d,t.depth+1,false⟩)=g:=⟨_,rfl⟩;rw[hg]at hX2;have hlens:=decL_len hM;have hids:=decL_ids hM
          have hdl:(zE M).length<=33:=by
           unfold zE;simp only[List.length_append]
           split<;>simp<;>omega
          obtain⟨dl,hds⟩:∃ds,zE M=ds:=⟨_,rfl⟩;have hX1:X.1=t::(zZ g dl).1:=by rw[hX2,hds]
          have hYk:=hY [] t _ _ _ hX1 HSb.out.1 ⟨bt,rfl,HEb.out.th⟩;have HX1:=Lib.hid hX2;clear hX2 hX1
          gi_upto_region 11 with(fail)
          refine wpIn_region_lit ?_;refine wpListIn_plain rfl fun K hK=>yG (fun c h=>by cases h) ?_
          refine yS (xO 252 _ (by rfl) W.heap.size 0 (by rfl) _ HEb.out.yc _ underlying252 rfl) ?_;refine hK _ _ ?_;clear hK K;simp only[nmz]
          refine wpListIn_plain rfl fun K hK=>yG (fun c h=>by cases h) ?_
          refine yS (xO 148 _ (by rfl) B2 0 (by rfl) _ HEb.out.tc _ underlying148 rfl) ?_;refine hK _ _ ?_;clear hK K;simp only[nmz]
          refine wpListIn_plain rfl fun K hK=>wpIn_yield (l:=y) _ _ _ (by rfl) (by rfl) (.pointer (some ⟨bt,0,none⟩)) (by rfl) (yield0 hYk) (fun e' w5 he'=>?_)
          obtain⟨rfl,hJ5,hk5,hf5⟩:=he';refine⟨_,rfl,?_⟩;refine hK _ _ ?_;clear hK K;refine wpListIn_plain rfl fun K hK=>yG (fun c h=>by cases h) ?_
          refine yS (exec_not _ _ true (by rfl) (by rfl)) ?_;refine hK _ _ ?_;clear hK K;simp only[nmz];refine wpListIn_nil ?_;have hs5:KSc (SFoot bs ms bl) wb w5:=hk5
          have HE5:=Lib.hid (HEb.out.keep hs5);have HS5:Hid (WkS (SFoot bs ms bl) J W [] [t] w5):=Lib.hid ⟨hJ5,HSb.out.2.1.trans hs5,trivial⟩
          have hcm5:=hs5.1.obj hcm rfl;have hmc5:=hmc2.kc hs5.1;have hdc:=mDescs_any hmc5 ⟨hlens.1,hlens.2.1⟩;rw[hds]at hdc HX1 hids hdl
          clear hJ5 hk5 hf5 hYk hmc2 hmc5 hs5 hcm hlens HSb HEb hM
          gi_upto_region 12 with(fail)
          refine wpIn_wide.2 ?_;refine wpR [1,1,3,3] ?_;simp only[stz];refine wpXA 163 b6 0 cs (CellsAt.whole hcm5) underlying163 39 hcs trivial ?_;try simp only[nmz]
          refine wpD (wpC func159 hdc ?_);rintro e we ⟨hme,dv,rfl,hgd⟩;have HGD:=Lib.hid hgd;obtain⟨dad,dcap,rfl⟩:=hgd.slice;clear hgd;refine⟨_,rfl,?_⟩
          try simp only[nmz]
          refine wpPL ?_;simp only[stz];have HE6:=Lib.hid (HE5.out.mod0 hme);have HS6:=Lib.hid (HS5.out.mod0 hJ hme)
          have h6s:W.heap.size<=we.heap.size:=HS6.out.2.1.1.size
          have HR0:Hid (WkRel (SFoot bs ms bl) J W we t g dl 0 [] we):=Lib.hid ⟨Nat.zero_le _,fun j _ h=>absurd h (Nat.not_lt_zero _),by simpa using HS6.out,KSc.of0 (Mod.refl _ _)⟩
          have HDS:=Lib.hid hids;clear hme hcm5 hdc HE5 HS5 hids
          gi_wp2
          refine wp_loopFr dl.length (WkRel (SFoot bs ms bl) J W we t g dl) HR0.out ⟨_,_,_,rfl,rfl⟩ rfl ?_;clear HR0
          intro k ds g9 g10 x103 x104 x105 x106 x107 x108 x109 x110 x111 x112 x113 x114 x115 x116 x117 x118 x119 x120 x121 wr hrel
          simp only[wkFr,List.set_cons_succ,List.set_cons_zero,List.take_succ_cons,List.take_zero,List.cons_append,List.nil_append];obtain⟨hk,hno,hsr,hkr⟩:=hrel
          by_cases hlt:k<dl.length
          ·have hzk:(k:Int)<(dl.length:Nat):=by omega
           have hgr:GatD w5.heap.size wr (.slice dad dl.length dcap) dl:=HGD.out.kc hkr.1;obtain⟨gb,cap',cur,hq,hgc,hcc,hsz,-,-⟩:=hgr.at xZ k hlt
           cases hq
           obtain⟨rest0,hrest⟩:=walkDs_at g dl k hlt hno;have hst9:=fun e he=>walkDs_stop g e dl k hlt hno he
           have hsn:(dl.take (k+1)).flatMap (fun d=>(g d).1)=(dl.take k).flatMap (fun d=>(g d).1)++(g dl[k]).1:=by rw[List.take_succ_eq_append_getElem hlt,List.flatMap_append];simp
           have hno2:(g dl[k]).2=none->∀j (hj:j<dl.length),j<k+1->(g dl[j]).2=none:=fun h j hj hl=>by
            rcases Nat.lt_or_ge j k with h1|h1
            ·exact hno j hj h1
            ·obtain rfl:j=k:=by omega
             exact h
           have hdid:=HDS.out dl[k] (List.getElem_mem _);generalize dl[k]=d at*;rw[jK hdid]at hcc;have hdsz:(qB d).size=35:=qO hdid
           have hdone:∀c∈qB d,c.oneCell'=true:=zJ _ _ _ _;have HEr:=Lib.hid (HE6.out.keep hkr);have HSr:=Lib.hid hsr;have HKR:=Lib.hid hkr
           have HREST:=Lib.hid hrest;have HST9:=Lib.hid hst9;have HSN:=Lib.hid hsn;have HNO2:=Lib.hid hno2;clear hgr hkr hsr hrest hst9 hsn hno2 hno hsz hgc
           gi_upto_region 14 with(fail)
           refine wpIn_wide.2 ?_;refine wpR [3,1,1,1] ?_;simp only[stz];refine wpPI underlying161 35 hlt ?_;simp only[nmz]
           refine wpXA 46 gb (k*35) (qB d) hcc underlying46 35 hdsz trivial ?_;try simp only[nmz]
           refine wpD (qP 46 _ (by rfl) descZ_i (fun wf hBf hmf hsf=>?_));replace hBf:wf.heap[wr.heap.size]?=some (.cells (qB descZ) 46 (0,0)):=hBf
           try simp only[nmz]
           refine wpDo rfl ?_
           refine qF 46 _ _ wr.heap.size 0 (qB d) (by rfl) (by rfl) (by rfl) hdone 35 (by kernel_rfl) hdsz _ _ hBf (by rw[hdsz];exact Nat.le_of_eq (qO qV).symm) (fun wg hBg hmg=>?_)
           rw[qC (by rw[hdsz];exact(qO qV).symm)]at hBg;simp only[stz];have hmrg:Mod NoB wr wg:=hmf.transB hmg (Nat.le_refl _)
           have HEg:=Lib.hid (HEr.out.mod0 hmrg);have HSg:=Lib.hid (HSr.out.mod0 hJ hmrg)
           have HKG:Hid (KSc (SFoot bs ms bl) we wg):=Lib.hid (HKR.out.trans (KSc.of0 hmrg));have hcg:CellsAt wg wr.heap.size 0 (qB d):=CellsAt.whole hBg
           generalize hb9:wr.heap.size=b9 at*;clear hmf hmg hBf hBg hcc hmrg hsf HEr HSr HKR
           have hdp:=fun(w':World)(hm:Mod NoB wg w')=>(HEg.out.mod0 hm).th.depth hid;have hd5:t.depth<=4:=by omega
           have hbt:=built_thing d hdid ((t.depth+1:Nat):Int) (t.depth+1) rfl false
           gi_upto_region 15 with(fail)
           refine wpIn_wide.2 ?_;have hS:Mod NoB wg wg.drew:=(Mod.refl _ _).drew
           refine zK [(0,0),(1,0),(2,0),(3,3),(4,3),(5,0),(6,3),(7,0),(8,1),(9,1)] [] (fun w'=>Mod NoB wg w') (by kernel_rfl) (by kernel_rfl) (by kernel_rfl) (by kernel_rfl) (fun _ _ _ _ hd h=>⟨xI hd h.1,h.2⟩) hS ?_
           simp only[stz];refine wpLd 29 B1 0 (fun w' hS=>(HEg.out.mod0 hS).sc) underlying29 ?_;simp only[nmz]
           refine wpLA 46 b9 0 (qB d) (fun w' hS=>hcg.keep hS id) underlying46 35 hdsz ?_;simp only[nmz]
           refine wpLd 148 B2 0 (fun w' hS=>(HEg.out.mod0 hS).tc) underlying148 ?_;simp only[stz];refine wpLd 3 bt (0+35) (fun w' hS=>hdp _ hS) underlying3 ?_
           simp only[nmz];refine qY _ _ _ _ (t.depth:Int) 1 ((t.depth+1:Nat):Int) rfl rfl rfl rfl (by omega) (by omega) (by omega) ?_;simp only[nmz]
           refine qQ rfl (fun w' hS=>qL 150 [(0,_),(1,_),(2,_)] [(0,.agg (qB d)),(1,.int .i64 ((t.depth+1:Nat):Int)),(2,.bool false)] _ (by rfl) (by rfl) hbt) ?_
           simp only[nmz];refine qM rfl (fun K hK=>?_);refine zT 150 _ _ (by rfl) (by rfl) (fun wh hBh hmh hsh=>?_)
           replace hBh:wh.heap[wg.drew.heap.size]?=some (.cells (jL ⟨d,t.depth+1,false⟩) 150 (0,0)):=hBh;have hSh:=hS.trans0 hmh;refine hK _ _ hSh ?_
           clear hK K;try simp only[nmz]
           refine qM rfl (fun K hK=>?_);refine wpC func83 (clSeq_any wh bs _) ?_;rintro e wi ⟨C1,C2,rfl,hC1,hC2,hmi⟩;have hSi:=hSh.trans0 hmi
           refine⟨_,rfl,hK _ _ hSi ?_⟩;clear hK K;simp only[stz];have hthi:ThAt wi wg.drew.heap.size ⟨d,t.depth+1,false⟩:=hmi.obj id hBh
           have HEi:=Lib.hid (HEg.out.mod0 hSi);have HSi:=Lib.hid (HSg.out.mod0 hJ hSi);have HKI:Hid (KSc (SFoot bs ms bl) we wi):=Lib.hid (HKG.out.trans (KSc.of0 hSi))
           have hG:=IH.out ⟨d,t.depth+1,false⟩ wi C1 C2 _ hdid (by show t.depth+1+f=6;omega) (by omega) HEi.out.st hC1 hC2 hthi
           rw[show walkL (cont bl) f ⟨d,t.depth+1,false⟩=g d by rw[<-hg]]at hG;have hGs:W.heap.size<=wi.heap.size:=HSi.out.2.1.1.size
           have hXk:X.1=(t::(dl.take k).flatMap (fun d=>(g d).1))++((g d).1++rest0):=by rw[HX1.out,HREST.out];rfl
           have HXK:=Lib.hid hXk;clear hBh hmh hsh hSh hmi hSi hC1 hC2 hthi hdp hbt hcg HEg HSg HKG hXk hS
           gi_wp2
           refine wpIn_rangeFunc_wk (q:=10) (gf:=155) (by rfl) (enters_of func155 (by kernel_rfl) rfl) hG (kept_sc (fun k hk=>by have:=hStl k hk;omega)) (WkI (SFoot bs ms bl) J W wi ds (t::(dl.take k).flatMap fun d=>(g d).1)) (wkI_own hJ hStl hGs HSi.out.2.2) ⟨by simpa using HSi.out,KSc.of0 (Mod.refl _ _)⟩ ?assign ?body ?done ?fell
           case assign=>
            intro l b Wc K hK0;simp only[ss,sz]
            gi_wp2
            exact hK0
           case body=>
            rintro l pre x rest b Wc hxs ⟨⟨hJc,hkc,hmk⟩,hkw⟩ hth;simp only[ss,sz];have HEc:=Lib.hid (HEi.out.keep hkw)
            have hYk:=hY _ x (rest++rest0) Wc #[.pointer (some ⟨b,0,none⟩)] (by rw[HXK.out,hxs];simp) hJc ⟨b,rfl,hth⟩
            gi_upto_region 17 with(fail)
            refine wpIn_region_lit ?_;refine xN rfl rfl fun K hK=>?_
            refine yS (xO 252 _ (by rfl) W.heap.size 0 (by rfl) _ HEc.out.yc _ underlying252 rfl) ?_;refine hK _ _ ?_;clear hK K;simp only[nmz]
            refine xN rfl rfl fun K hK=>?_;refine yS (exec_move _ (by rfl)) ?_;refine hK _ _ ?_;clear hK K;simp only[nmz]
            refine wpListIn_plain rfl fun K hK=>wpIn_yieldR (l:=y) _ _ _ (by rfl) (by rfl) (.pointer (some ⟨b,0,none⟩)) (by rfl) hYk (fun e' w6 he'=>?_)
            obtain⟨rfl,hJ6,hk6,hf6⟩:=he';refine⟨_,rfl,?_⟩;refine hK _ _ ?_;clear hK K;refine xN rfl rfl fun K hK=>?_
            refine yS (exec_not _ _ true (by rfl) (by rfl)) ?_;refine hK _ _ ?_;clear hK K;simp only[nmz];refine wpListIn_nil ?_
            have HF:Hid (KeepsFrom wi.heap.size Wc w6/\KSc (SFoot bs ms bl) Wc w6/\WkI (SFoot bs ms bl) J W wi ds (t::(dl.take k).flatMap fun d=>(g d).1) (pre++[x]) w6):=Lib.hid ⟨⟨hf6.size,fun j o hb ho hc=>hf6.same j o (by omega) ho hc⟩,hk6,⟨by rw[<-List.append_assoc];exact hJ6,hkc.trans hk6,hmk.from hf6 (Nat.le_refl _)⟩,hkw.trans hk6⟩
            clear hJ6 hk6 hf6 hYk
            gi_wp2
            exact HF.out
           case done=>
            rintro hnn D Wd hD ⟨⟨hJd,hkd9,hmk⟩,hkw⟩ hKD;have hnn:(g d).2=none:=by simpa using hnn
            have HR:Hid (WkRel (SFoot bs ms bl) J W we t g dl (k+1) ({ target:=.collected D,args:=#[] }::ds) Wd):=Lib.hid ⟨hlt,HNO2.out hnn,⟨by rw[HSN.out];exact hJd,hkd9,MarksOk.cons HSi.out.2.2 hmk hD (by omega) hKD⟩,HKI.out.trans hkw⟩
            clear hJd hkd9 hmk hkw hKD
            gi_wp2
            refine⟨hlt,_,_,_,_,?hl,rfl,HR.out⟩
            case hl=>rfl
           case fell=>
            rintro c hc D Wd hD ⟨⟨hJd,hkd9,hmk⟩,hkw⟩ hKD
            obtain⟨e9,he9,rfl⟩:∃e9,(g d).2=some e9/\chainW e9=c:=by
             cases h9:(g d).2 with
             |none=>rw[h9]at hc;cases hc
             |some e9=>rw[h9]at hc;exact⟨e9,rfl,by simpa using hc⟩
            have hX9:X=(t::((dl.take k).flatMap (fun d=>(g d).1)++(g d).1),some e9):=by rw[HX1.out,HST9.out e9 he9]
            refine⟨MarksOk.cons HSi.out.2.2 hmk hD (by omega) hKD,?_,?_⟩
            ·rw[hX9];rfl
            ·rw[hX9];exact hJd
          ·have hzk:¬(k:Int)<(dl.length:Nat):=by omega
           obtain rfl:k=dl.length:=by omega
           have hX9:X=(t::dl.flatMap (fun d=>(g d).1),none):=by rw[HX1.out,walkDs_none g dl (fun j hj=>hno j hj hj)]
           have HF:Hid (MarksOk W.heap.size ds wr/\J X.1 wr/\X.2=none):=Lib.hid ⟨hsr.2.2,by rw[hX9];have h9:=hsr.1;rw[List.take_length]at h9;exact h9,by rw[hX9]⟩
           clear hsr hkr hno hX9
           gi_wp2
           exact⟨HF.out.1,fun v=>⟨by rw[HF.out.2.2];exact⟨v,rfl⟩,HF.out.2.1⟩⟩
end
end
section
open Go.RowKit Go.Shelf Go.Proofs.Tryz Go.Lib
theorem exec_assertOk{P:Program}{o:Oper}{a:Act}{w:World}(x:Operand)(ti t:TypeId)(v:Value)(ho:o.op=.typeAssert x ti t true)(hx:a.eval x=.iface t v)(hn:(∀ms,P.underlying t≠some (.interface ms))/\(P.underlying t).isSome=true):(execOp a.eval o).run P w=.ok (.value (.tuple #[v,.bool true])) w:=by
 unfold execOp;simp only[ho,hx];obtain⟨hn,hs⟩:=hn;obtain⟨d,hd⟩:=Option.isSome_iff_exists.1 hs
 cases d<;>simp[Instr.typeAssert,run_underlying hd]
 exact absurd hd (hn _)
structure Res3(w:World)(b4 b5 b6:Nat)(v4:Value)(x5:List UInt8)(n6:Int):Prop where
 r4:w.heap[b4]?=some (.cells #[v4] 25 (0,0))
 r5:w.heap[b5]?=some (.cells (qA x5) 24 (0,0))
 r6:w.heap[b6]?=some (.cells #[.int .i64 n6] 33 (0,0))
theorem catch_wrong{w:World}{b4 b5 b6:Nat}{e:WErr}{v4:Value}{x5:List UInt8}{n6:Int}(h:Res3 w b4 b5 b6 v4 x5 n6)(hx5:x5.length=32)(h45:b4≠b5)(h46:b4≠b6)(h56:b5≠b6)(he:e.1.length=32):
 CallsDIn Fence.wide 0 prog 82 #[.pointer (some ⟨b4,0,none⟩),.pointer (some ⟨b5,0,none⟩),.pointer (some ⟨b6,0,none⟩)] (.panicking (chainW e)) w fun x u' w'=>
  x=.returned (.tuple #[])/\u'=.panicking [{ v:=wrongV e,recovered:=true }]/\Res3 w' b4 b5 b6 (.slice none 0 0) e.1 e.2/\Mod (fun k=>k=b4\/k=b5\/k=b6) w w':=by
 refine callsDIn_of_wpSIn func82 rfl trivial fun c₀ cs hu=>?_
 apply wpSIn_seq
 apply wpSIn_region
 simp[wpOpsSIn,go_sem,recoverD,hu,ntmps82,Exit.thenS,chainW,wrongV]
 simp only[Array.replicate_succ,Array.replicate_zero,List.push_toArray,List.append_toArray,List.nil_append,List.cons_append,List.setIfInBounds_toArray,sz,ss]
 refine wpSIn_of_wpIn rfl ?_;refine wpIn_wide.2 ?_;have hic:(qA x5).size=32:=by rw[qD,hx5]
 have hie:(qA e.1).size=32:=by rw[qD,he]
 have hws:((e.1.map byteV++[Value.int .i64 e.2]).toArray).size=33:=by simp[he]
 have hw1:∀c∈(e.1.map byteV++[Value.int .i64 e.2]).toArray,c.oneCell'=true:=by
  intro c hc;simp only[List.mem_toArray,List.mem_append,List.mem_map,List.mem_singleton]at hc
  rcases hc with⟨x,-,rfl⟩|rfl<;>rfl
 go_upto_region 2 with(fail);refine wpR [3,1,3,3,3,1,1,3] ?_;simp only[stz]
 refine wpX rfl (exec_assertOk _ _ 142 (.agg ((e.1.map byteV++[Value.int .i64 e.2]).toArray)) (by rfl) (by rfl) wrong_noIface) trivial ?_;simp only[stz]
 refine qE (v:=?_) rfl (fun w'=>?_) ?_;rotate_left;·(go_simp;try with_reducible rfl)
 simp only[nmz];refine qE (v:=?_) rfl (fun w'=>?_) ?_;rotate_left;·(go_simp;try with_reducible rfl)
 simp only[nmz];refine wpD (qP 142 _ (by rfl) wrongZ (fun w1 hB1 hm1 hs1=>?_))
 replace hB1:w1.heap[w.heap.size]?=some (.cells ((List.replicate 32 (byteV 0)++[Value.int .i64 0]).toArray) 142 (0,0)):=hB1;try simp only[nmz]
 refine wpD (qF 142 _ _ w.heap.size 0 ((e.1.map byteV++[Value.int .i64 e.2]).toArray) (by rfl) (by rfl) (by rfl) hw1 33 (by kernel_rfl) hws _ _ hB1 (by simp[he]) (fun w2 hB2 hm2=>?_))
 rw[qC (by rw[hws];simp)]at hB2;simp only[stz];have hm02:Mod NoB w w2:=hm1.transB hm2 (Nat.le_refl _)
 have hci:CellsAt w2 w.heap.size 0 (qA e.1):=CellsAt.of_obj hB2 fun j hj=>by
  rw[<-Array.getElem?_toList,<-Array.getElem?_toList,Nat.zero_add];simp only[qA];rw[qD]at hj;rw[List.getElem?_append_left (by simpa using hj)]
 have hce:w2.cell? ⟨w.heap.size,32,none⟩=some (.int .i64 e.2):=by
  rw[cell_of_row _ _ _ _ _ _ hB2,<-Array.getElem?_toList,List.getElem?_append_right (by simp[he])]
  simp[he]
 have l4:=(Array.getElem?_eq_some_iff.1 h.r4).1;have l5:=(Array.getElem?_eq_some_iff.1 h.r5).1;have l6:=(Array.getElem?_eq_some_iff.1 h.r6).1;have h4:=hm02.obj id h.r4
 have h5:=hm02.obj id h.r5;have h6:=hm02.obj id h.r6;generalize hbn:w.heap.size=bn at*;clear hB1 hB2 hm1 hm2 hs1 h;go_upto_region 5 with(fail)
 have hS:Mod (fun k=>k=b4\/k=b5\/k=b6) w2 w2.drew:=(Mod.refl _ _).drew;have hd4:=(Mod.refl NoB w2).drew.obj id h4;have hd5:=(Mod.refl NoB w2).drew.obj id h5
 have hd6:=(Mod.refl NoB w2).drew.obj id h6;refine wpRZ [3,0,3,0,1,1,1] [] (fun w'=>Mod (fun k=>k=b4\/k=b5\/k=b6) w2 w') hS ?_;simp only[stz]
 refine wpLA 24 bn 0 (qA e.1) (fun w' hS=>hci.keep hS (fun h=>by omega)) underlying24 32 hie ?_;simp only[stz]
 refine wpLd 33 bn (0+32) (fun w' hS=>hS.cell (fun h=>by have h:bn=b4\/bn=b5\/bn=b6:=h;omega) hce) underlying33 ?_;simp only[nmz]
 refine qM rfl (fun K hK=>?_);refine qT 25 _ _ b4 0 (.slice none 0 0) (by rfl) (by rfl) (by rfl) rfl (by kernel_rfl) _ _ hd4 (by simp) (fun w3 hB3 hm3=>?_)
 replace hB3:w3.heap[b4]?=some (.cells #[.slice none 0 0] 25 (0,0)):=hB3;have hS3:=hS.trans hm3 (fun _ _ h=>.inl h);have h53:=hm3.objB (fun h=>h45 h.symm) hd5
 have h63:=hm3.objB (fun h=>h46 h.symm) hd6;refine hK _ _ hS3 ?_;clear hK K;try simp only[nmz]
 refine qM rfl (fun K hK=>?_)
 refine qF 24 _ _ b5 0 (qA e.1) (by rfl) (by rfl) (by rfl) (qR _) 32 (by kernel_rfl) hie _ _ h53 (by rw[hie,hic];omega) (fun w4 hB4 hm4=>?_)
 rw[qC (by rw[hie,hic])]at hB4;have hS4:=hS3.trans hm4 (fun _ _ h=>.inr (.inl h));have h44:=hm4.objB h45 hB3;have h64:=hm4.objB (fun h=>h56 h.symm) h63
 refine hK _ _ hS4 ?_;clear hK K;try simp only[nmz]
 refine qM rfl (fun K hK=>?_);refine qT 33 _ _ b6 0 (.int .i64 e.2) (by rfl) (by rfl) (by rfl) rfl (by kernel_rfl) _ _ h64 (by simp) (fun w5 hB5 hm5=>?_)
 replace hB5:w5.heap[b6]?=some (.cells #[.int .i64 e.2] 33 (0,0)):=hB5;have hS5:=hS4.trans hm5 (fun _ _ h=>.inr (.inr h));have h45':=hm5.objB h46 h44
 have h55:=hm5.objB h56 hB4;refine hK _ _ hS5 ?_;clear hK K;simp only[stz];refine⟨rfl,_,rfl,_,results_none rfl _ _ _,rfl,rfl,⟨h45',h55,hB5⟩,?_⟩
 exact(hm02.mono (fun _ _ h=>h.elim)).trans hS5 (fun _ _ h=>h)
theorem catch_idle(b4 b5 b6:Nat)(w:World):
 CallsDIn Fence.wide 0 prog 82 #[.pointer (some ⟨b4,0,none⟩),.pointer (some ⟨b5,0,none⟩),.pointer (some ⟨b6,0,none⟩)] .returning w fun x u' w'=>x=.returned (.tuple #[])/\u'=.returning/\w'=w:=by
 refine callsDIn_of_wpSIn func82 rfl trivial fun c₀ cs hu=>?_
 apply wpSIn_seq
 apply wpSIn_region
 simp[wpOpsSIn,go_sem,recoverD,hu,ntmps82,Exit.thenS]
 simp only[Array.replicate_succ,Array.replicate_zero,List.push_toArray,List.append_toArray,List.nil_append,List.cons_append,List.setIfInBounds_toArray,sz,ss]
 refine wpSIn_of_wpIn rfl ?_;refine wpIn_wide.2 ?_;go_wp2;exact⟨rfl,.returning,by rw[<-hu],_,results_none rfl _ _ _,rfl,rfl,rfl⟩
theorem exec_assertNo{P:Program}{o:Oper}{a:Act}{w:World}(x:Operand)(ti t t':TypeId)(v z:Value)(ho:o.op=.typeAssert x ti t true)(hx:a.eval x=.iface t' v)(hn:(∀ms,P.underlying t≠some (.interface ms))/\(P.underlying t).isSome=true)(hne:t'≠t)(hz:(P.info? t).bind (·.zero)=some z):(execOp a.eval o).run P w=.ok (.value (.tuple #[z,.bool false])) w:=by
 unfold execOp;simp only[ho,hx];obtain⟨hn,hs⟩:=hn;obtain⟨d,hd⟩:=Option.isSome_iff_exists.1 hs
 have hz':(zeroValue t).run P w=.ok z w:=by
  cases hi:P.info? t with
  |none=>simp[hi]at hz
  |some i=>simp[hi]at hz;simp[zeroValue,typeInfo,hi,hz]
 cases d<;>simp[Instr.typeAssert,run_underlying hd,hne,hz']
 exact absurd hd (hn _)
theorem int_noIface:(∀ms,prog.underlying 3≠some (.interface ms))/\(prog.underlying 3).isSome=true:=by
 rw[underlying3];exact⟨fun ms e=>(by cases e),rfl⟩
theorem str_noIface:(∀ms,prog.underlying 9≠some (.interface ms))/\(prog.underlying 9).isSome=true:=by
 rw[underlying9];exact⟨fun ms e=>(by cases e),rfl⟩
theorem bts_noIface:(∀ms,prog.underlying 53≠some (.interface ms))/\(prog.underlying 53).isSome=true:=by
 rw[underlying53];exact⟨fun ms e=>(by cases e),rfl⟩
theorem id_noIface9:(∀ms,prog.underlying 24≠some (.interface ms))/\(prog.underlying 24).isSome=true:=by
 rw[underlying24];exact⟨fun ms e=>(by cases e),rfl⟩
theorem wp_appendNone{P:Program}{o:Oper}{a:Act}{w:World}{K:Act->World->Prop}{Q:Exit->Act->World->Prop}(s x:Operand)(t t' e:TypeId)(ho:o.op=.call { callee:=.builtin .append,args:=#[s,x],argTypes:=#[t,t'] })(ad:Option Addr)(n c:Nat)(hs:a.eval s=.slice ad n c)(hx:a.eval x=.string ⟨#[]⟩)
 (hu:P.underlying t=some (.slice e))(k:Nat)(hi:(P.info? e).map (·.size)=some k)(hu':P.underlying t'=some .string)(hc:n<=c)(h:K (a.put o.dst (.slice ad n c)) w):o.wp P a w K Q:=by
 refine yS ?_ h;unfold execOp
 cases hq:P.info? e with
 |none=>simp[hq]at hi
 |some j=>
  have hz:(⟨#[]⟩:ByteArray).size=0:=rfl;have hd:((⟨#[]⟩:ByteArray).extract 0 0).data=#[]:=by simp
  cases ad<;>simp[ho,hs,hx,resolve,invoke,builtin,Builtin.append_,run_underlying hu,run_underlying hu',sizeOf,typeInfo,hq,Builtin.lenOf,Builtin.firstCells,hc,storeCells,hz,hd]
theorem exec_byte_of_int{P:Program}{w:World}{o:Oper}{a:Act}(t u:TypeId)(x:Operand)(m:Nat)(ho:o.op=.convert t u x)(hx:a.eval x=.int .i64 (m:Int))(ht:(P.underlying t).isSome=true)(hu:P.underlying u=some (.int .u8))(hm:m<256):
 (execOp a.eval o).run P w=.ok (.value (byteV (UInt8.ofNat m))) w:=by
 have hv:IntKind.u8.wrap (m:Int)=((UInt8.ofNat m).toNat:Int):=by
  have h1:(UInt8.ofNat m).toNat=m:=by simp;omega
  rw[h1];exact IntWalk.u8_in _ (by omega)
 unfold execOp;simp only[ho,hx];have hk:P.intKind u=.u8:=by simp[Program.intKind,hu]
 have h1:=run_convert_int (P:=P) w t u .i64 m ht (by rw[hk];exact hu);rw[hk]at h1;rw[Sem.run_bind,h1,hv]
 rfl
def FormR(w:World)(xs:List UInt8):Ending->World->Prop:=fun e w'=>Mod NoB w w'/\∃v,e=.returned (.tuple #[v,.bool true])/\Bts w.heap.size w' v xs
theorem bts_nil(base:Nat)(w:World):Bts base w (.slice none 0 0) []:=Gat.nil (fun b:UInt8=>[byteV b]) 5 1 base w
theorem bts_cap{base:Nat}{w:World}{ad:Option Addr}{n cap:Nat}{xs:List UInt8}(h:Bts base w (.slice ad n cap) xs):n<=cap:=by
 obtain⟨_,h⟩:=h
 rcases h with⟨h,_⟩|⟨g,c,cur,h,_,_,h1,_⟩
 ·cases h;exact Nat.le_refl _
 ·cases h;exact h1
theorem intZ0:(prog.info? 3).bind (·.zero)=some (.int .i64 0):=by kernel_rfl
theorem strZ0:(prog.info? 9).bind (·.zero)=some (.string ⟨#[]⟩):=by kernel_rfl
theorem btsZ0:(prog.info? 53).bind (·.zero)=some (.slice none 0 0):=by kernel_rfl
theorem form_int(n:Nat)(hn:n<192)(w:World):Calls prog 253 #[.slice none 0 0,.iface 3 (.int .i64 n)] w (FormR w [UInt8.ofNat n]):=by
 have hsz:=fun w=>wSize_any n (by omega) w;have h0:sizeN n=0:=by unfold sizeN;rw[if_pos hn]
 simp only[h0]at hsz;have hz0:(0:Int)<=(n:Int):=by omega
 go_enter func253,ntmps253;go_upto_region 2 with(fail);refine wpR [1,3,3] ?_;simp only[stz]
 refine wpX rfl (exec_assertOk _ _ 3 (.int .i64 n) (by rfl) (by rfl) int_noIface) trivial ?_;try simp only[nmz]
 refine qE rfl (fun w'=>qI _ 1 #[.int .i64 n,.bool true] rfl rfl (.bool true) rfl) ?_;simp only[nmz]
 refine qE rfl (fun w'=>qI _ 0 #[.int .i64 n,.bool true] rfl rfl (.int .i64 n) rfl) ?_;simp only[stz];go_upto_region 4 with(fail);refine wpR [3,1,3] ?_
 simp only[stz];refine wpD (wpC func282 (hsz w) ?_);rintro e w1 ⟨rfl,hw⟩;obtain rfl:=hw.symm;refine⟨_,rfl,?_⟩;simp only[stz];go_upto_region 6 with(fail)
 refine wpR [3,3,3,1,1,3,3,3,3] ?_;simp only[stz]
 refine qE (v:=byteV (UInt8.ofNat n)) rfl (fun w'=>exec_byte_of_int _ _ _ n rfl rfl (by kernel_rfl) underlying5 (by omega)) ?_;simp only[nmz]
 refine wpD (qU 53 5 _ (byteV (UInt8.ofNat n)) (.int .u8 0) 1 (by rfl) (by rfl) underlying53 (by kernel_rfl) (by omega) (by omega) (by rfl) (fun w7 hB7 hm7 hs7=>?_))
 replace hB7:w7.heap[w.heap.size]?=some (.cells #[byteV (UInt8.ofNat n)] 5 (0,0)):=hB7;try simp only[nmz]
 refine wpD (xV _ _ (by rfl) w.heap.size _ [] (by rfl) (bts_nil _ _) (.slice (some ⟨w.heap.size,0,none⟩) 1 1) [UInt8.ofNat n] (by rfl) (jD (owns_lit hB7)) (by simp) (by omega) (fun v8 w8 ho8 hm8=>?_))
 have hM8:Mod NoB w w8:=hm7.trans0 (hm8.mono (fun k _ e=>by cases e));simp only[stz];refine qG _ _ _ _ _ _ _ _ rfl rfl rfl rfl rfl true (decide_eq_true hz0) ?_
 simp only[stz];have HF:=hid (⟨hM8,v8,rfl,ho8⟩:FormR w [UInt8.ofNat n] (.returned (.tuple #[v8,.bool true])) w8);clear hB7 hm7 hs7 hm8 ho8 hM8 hsz;go_wp2;go_ret2
 exact HF.out
theorem form_none(w:World):Calls prog 253 #[.slice none 0 0,.iface 9 (.string ⟨#[]⟩)] w (FormR w [0]):=by
 have hfi:=fun w=>form_int 0 (by omega) w;go_enter func253,ntmps253;go_upto_region 2 with(fail);refine wpR [1,3,3] ?_;simp only[stz]
 refine wpX rfl (exec_assertNo _ _ 3 9 (.string ⟨#[]⟩) (.int .i64 0) (by rfl) (by rfl) int_noIface (by decide) intZ0) trivial ?_;try simp only[nmz]
 refine qE rfl (fun w'=>qI _ 1 #[.int .i64 0,.bool false] rfl rfl (.bool false) rfl) ?_;simp only[nmz]
 refine qE rfl (fun w'=>qI _ 0 #[.int .i64 0,.bool false] rfl rfl (.int .i64 0) rfl) ?_;simp only[stz];go_upto_region 14 with(fail);refine wpR [1,3,3] ?_
 simp only[stz];refine wpX rfl (exec_assertOk _ _ 9 (.string ⟨#[]⟩) (by rfl) (by rfl) str_noIface) trivial ?_;try simp only[nmz]
 refine qE rfl (fun w'=>qI _ 1 #[.string ⟨#[]⟩,.bool true] rfl rfl (.bool true) rfl) ?_;simp only[nmz]
 refine qE rfl (fun w'=>qI _ 0 #[.string ⟨#[]⟩,.bool true] rfl rfl (.string ⟨#[]⟩) rfl) ?_;simp only[stz];go_upto_region 16 with(fail)
 refine wpR [3,3,1,1,1,3,3,3,3] ?_;simp only[stz];refine wpDo rfl ?_;go_wp2;try simp only[nmz]
 refine wpX rfl (xX _ 3 (.int .i64 (0:Nat)) (by rfl) (by rfl) int_noIface) trivial ?_;try simp only[nmz]
 refine wpD (wpC func253 (hfi w) ?_);rintro e w1 ⟨hm1,v1,rfl,hb1⟩
 obtain⟨ad,cap,rfl,hcap⟩:∃ad cap,v1=.slice ad 1 cap/\1<=cap:=by
  obtain⟨ad,cap,rfl⟩:=Bts.slice hb1;exact⟨ad,cap,rfl,bts_cap hb1⟩
 refine⟨_,rfl,?_⟩;simp only[stz];refine qE rfl (fun w'=>qI _ 0 #[.slice ad 1 cap,.bool true] rfl rfl (.slice ad 1 cap) rfl) ?_;simp only[nmz]
 refine qE rfl (fun w'=>qI _ 1 #[.slice ad 1 cap,.bool true] rfl rfl (.bool true) rfl) ?_;simp only[stz];go_upto_region 17 with(fail)
 refine wpR [3,3,1,3,3] ?_;simp only[stz];refine wpD (wp_appendNone _ _ 53 9 5 (by rfl) ad 1 cap (by rfl) (by rfl) underlying53 1 (by kernel_rfl) underlying9 hcap ?_)
 simp only[stz];have HF:=hid (⟨hm1,_,rfl,hb1⟩:FormR w [0] (.returned (.tuple #[.slice ad 1 cap,.bool true])) w1);clear hm1 hb1 hfi;go_wp2;go_ret2;exact HF.out
theorem src_id{w:World}{b:Nat}{x:List UInt8}(h:w.heap[b]?=some (.cells (qA x) 24 (0,0)))(hx:x.length=32):Src w 1 (.slice (some ⟨b,0,none⟩) 32 32) x.length (x.map byteV):=by
 refine⟨by simp,some ⟨b,0,none⟩,32,by rw[hx],fun _=>⟨b,0,rfl,fun j y hj=>?_⟩⟩;rw[cell_of_row _ _ _ _ _ _ h,Nat.zero_add,<-Array.getElem?_toList];exact hj
theorem form_id(x:List UInt8)(hx:x.length=32)(w:World):Calls prog 253 #[.slice none 0 0,.iface 24 (.agg (qA x))] w (FormR w x):=by
 have hic:(qA x).size=32:=by rw[qD,hx]
 have hx':=hx;go_enter func253,ntmps253;go_upto_region 2 with(fail);refine wpR [1,3,3] ?_;simp only[stz]
 refine wpX rfl (exec_assertNo _ _ 3 24 (.agg (qA x)) (.int .i64 0) (by rfl) (by rfl) int_noIface (by decide) intZ0) trivial ?_;try simp only[nmz]
 refine qE rfl (fun w'=>qI _ 1 #[.int .i64 0,.bool false] rfl rfl (.bool false) rfl) ?_;simp only[nmz]
 refine qE rfl (fun w'=>qI _ 0 #[.int .i64 0,.bool false] rfl rfl (.int .i64 0) rfl) ?_;simp only[stz];go_upto_region 14 with(fail);refine wpR [1,3,3] ?_
 simp only[stz];refine wpX rfl (exec_assertNo _ _ 9 24 (.agg (qA x)) (.string ⟨#[]⟩) (by rfl) (by rfl) str_noIface (by decide) strZ0) trivial ?_;try simp only[nmz]
 refine qE rfl (fun w'=>qI _ 1 #[.string ⟨#[]⟩,.bool false] rfl rfl (.bool false) rfl) ?_;simp only[nmz]
 refine qE rfl (fun w'=>qI _ 0 #[.string ⟨#[]⟩,.bool false] rfl rfl (.string ⟨#[]⟩) rfl) ?_;simp only[stz];go_upto_region 18 with(fail);refine wpR [1,3,3] ?_
 simp only[stz];refine wpX rfl (exec_assertNo _ _ 53 24 (.agg (qA x)) (.slice none 0 0) (by rfl) (by rfl) bts_noIface (by decide) btsZ0) trivial ?_;try simp only[nmz]
 refine qE rfl (fun w'=>qI _ 1 #[.slice none 0 0,.bool false] rfl rfl (.bool false) rfl) ?_;simp only[nmz]
 refine qE rfl (fun w'=>qI _ 0 #[.slice none 0 0,.bool false] rfl rfl (.slice none 0 0) rfl) ?_;simp only[stz];go_upto_region 22 with(fail)
 refine wpR [1,3,3] ?_;simp only[stz];refine wpX rfl (exec_assertOk _ _ 24 (.agg (qA x)) (by rfl) (by rfl) id_noIface9) trivial ?_;try simp only[nmz]
 refine qE rfl (fun w'=>qI _ 1 #[.agg (qA x),.bool true] rfl rfl (.bool true) rfl) ?_;simp only[nmz]
 refine qE rfl (fun w'=>qI _ 0 #[.agg (qA x),.bool true] rfl rfl (.agg (qA x)) rfl) ?_;simp only[stz];go_upto_region 23 with(fail)
 refine wpR [1,1] ?_;simp only[stz];refine wpD (qP 24 _ (by rfl) idZ (fun w1 hB1 hm1 hs1=>?_))
 replace hB1:w1.heap[w.heap.size]?=some (.cells (qA (List.replicate 32 0)) 24 (0,0)):=hB1;try simp only[nmz]
 refine wpD (qF 24 _ _ w.heap.size 0 (qA x) (by rfl) (by rfl) (by rfl) (qR _) 32 (by kernel_rfl) hic _ _ hB1 (by rw[hic,qD];simp) (fun w2 hB2 hm2=>?_))
 rw[qC (by rw[hic,qD];simp)]at hB2;simp only[stz];have hm02:Mod NoB w w2:=hm1.transB hm2 (Nat.le_refl _);go_upto_region 24 with(fail)
 refine wpR [3,3,1,3,3] ?_;simp only[stz];refine qE rfl (fun w'=>exec_sliceAllA 24 5 _ _ 32 (by rfl) (by rfl) underlying24 (by kernel_rfl)) ?_;simp only[nmz]
 refine wpD (xV _ _ (by rfl) w.heap.size _ [] (by rfl) (bts_nil _ _) (.slice (some ⟨w.heap.size,0,none⟩) 32 32) x (by rfl) (src_id hB2 hx) (by simp;omega) hm02.size (fun v8 w8 ho8 hm8=>?_))
 have hM8:Mod NoB w w8:=hm02.trans0 (hm8.mono (fun k _ e=>by cases e));simp only[stz]
 have HF:=hid (⟨hM8,v8,rfl,ho8⟩:FormR w x (.returned (.tuple #[v8,.bool true])) w8);clear hB1 hB2 hm1 hm2 hs1 hm02 hm8 ho8 hM8;go_wp2;go_ret2;exact HF.out
def WrS(w:World)(b wr:Nat)(Pr:Nat->Prop)(bs:List UInt8):Prop:=∃v,w.heap[wr]?=some (.cells #[.int .i64 0,.int .i64 0] 320 (0,0))/\w.heap[b]?=some (.cells #[.pointer (some ⟨wr,0,none⟩),.int .i64 4096,v] 322 (0,0))/\
 Bts 0 w v bs/\b≠wr/\¬Pr b/\¬Pr wr/\∀q,v.ownBlock=some q->¬Pr q/\q≠b/\q≠wr
def PStep(Pr:Nat->Prop)(w w':World):Prop:=Mod (fun k=>¬Pr k) w w'
theorem PStep.trans{Pr:Nat->Prop}{A B C:World}(h:PStep Pr A B)(k:PStep Pr B C):PStep Pr A C:=Mod.trans h k fun _ _ h=>h
theorem PStep.of0{Pr:Nat->Prop}{A B:World}(h:Mod NoB A B):PStep Pr A B:=h.mono fun _ _ h=>h.elim
theorem WrS.keep0{w w':World}{b wr:Nat}{Pr:Nat->Prop}{bs:List UInt8}(h:WrS w b wr Pr bs)(hm:Mod NoB w w'):WrS w' b wr Pr bs:=by
 obtain⟨v,h1,h2,h3,h4⟩:=h;exact⟨v,hm.obj id h1,hm.obj id h2,zV h3 hm (fun _ _=>id),h4⟩
def WPutR(w:World)(b wr:Nat)(Pr:Nat->Prop)(bs:List UInt8):Ending->World->Prop:=fun e w'=>e=.returned (.int .i64 0)/\WrS w' b wr Pr bs/\PStep Pr w w'
section
variable{w:World}{b wr:Nat}{Pr:Nat->Prop}{bs:List UInt8}
theorem wNone_any(h:WrS w b wr Pr bs):Calls prog 251 #[.pointer (some ⟨b,0,none⟩)] w (RetE (.bool false) w):=by
 obtain⟨v,h1,h2,-⟩:=h;have hc:w.cell? ⟨b,0,none⟩=some (.pointer (some ⟨wr,0,none⟩)):=by simp[World.cell?,h2]
 clear h2 h1;go_enter func251,ntmps251;go_wp2;go_ret;exact⟨rfl,rfl⟩
theorem wPut_any(h:WrS w b wr Pr bs)(hPr:∀k,Pr k->k<w.heap.size){t:TypeId}{xv:Value}{xs:List UInt8}(hf:∀w',Calls prog 253 #[.slice none 0 0,.iface t xv] w' (FormR w' xs))(hl:bs.length+xs.length<=4096):
 Calls prog 222 #[.pointer (some ⟨b,0,none⟩),.iface t xv] w (WPutR w b wr Pr (bs++xs)):=by
 have hno:=wNone_any h;obtain⟨v,h1,h2,h3,h4,h5,h6,h7⟩:=h;have hc0:w.cell? ⟨b,0,none⟩=some (.pointer (some ⟨wr,0,none⟩)):=by simp[World.cell?,h2]
 have hcw:w.cell? ⟨wr,0,none⟩=some (.int .i64 0):=by simp[World.cell?,h1]
 have hfd:=wFailed_at hcw;simp only[ne_eq,not_true_eq_false,decide_false]at hfd;have HF0:=hid hf;clear hf;go_enter func222,ntmps222;go_upto_region 1 with(fail)
 refine wpR [3,1] ?_;simp only[stz];refine wpD (wpC func251 (hno) ?_);rintro e w1 ⟨rfl,hw⟩;obtain rfl:=hw.symm;refine⟨_,rfl,?_⟩;simp only[stz];go_upto_region 3 with(fail)
 refine wpR [3,3,3,1,1,3] ?_;simp only[stz];refine wpXd (v:=(.pointer (some ⟨wr,0,none⟩))) 318 b 0 hc0 underlying318 trivial ?_;try simp only[nmz]
 refine wpD (wpC func252 (hfd) ?_);rintro e w1 ⟨rfl,hw⟩;obtain rfl:=hw.symm;refine⟨_,rfl,?_⟩;try simp only[stz]
 try refine zH _ _ _ rfl rfl rfl ?_
 try simp only[stz]
 go_upto_region 4 with(fail);refine wpR [3,1,3,3,3,3,3] ?_;simp only[stz];refine wpD (wpC func253 (HF0.out w) ?_);rintro e w1 ⟨hm1,v1,rfl,hb1⟩
 obtain⟨ad,cap,rfl⟩:=Bts.slice hb1;refine⟨_,rfl,?_⟩;simp only[stz]
 refine qE rfl (fun w'=>qI _ 0 #[.slice ad xs.length cap,.bool true] rfl rfl (.slice ad xs.length cap) rfl) ?_;simp only[nmz]
 refine qE rfl (fun w'=>qI _ 1 #[.slice ad xs.length cap,.bool true] rfl rfl (.bool true) rfl) ?_;simp only[stz];have h1b:=hm1.obj id h1
 have h2b:=hm1.obj id h2;have h3b:Bts 0 w1 v bs:=zV h3 hm1 (fun _ _=>id);have hsz1:=hm1.size;obtain⟨vad,vcap,rfl⟩:=Bts.slice h3b
 have hcb:w1.cell? ⟨b,2,none⟩=some (.slice vad bs.length vcap):=by simp[World.cell?,h2b]
 have hcl:w1.cell? ⟨b,1,none⟩=some (.int .i64 4096):=by simp[World.cell?,h2b]
 have hz:¬(4096:Int)<(bs.length:Int)+(xs.length:Int):=by omega
 clear hno hfd hc0 hcw h1 h2 h3;go_upto_region 8 with(fail);have hS:Mod NoB w1 w1.drew:=(Mod.refl _ _).drew
 refine wpRZ [3,3,3,0,3,3,3,3,3,3,3,0,3,3] [] (fun w'=>Mod NoB w1 w') hS ?_;simp only[stz];refine wpLd 53 b 2 (fun w' hS=>hS.cell id hcb) underlying53 ?_
 simp only[nmz];refine wpPL ?_;simp only[stz];refine wpPL ?_;simp only[nmz];refine wpPi_add _ _ _ _ _ _ rfl rfl rfl rfl (by omega) (by omega) ?_;simp only[stz]
 refine wpLd 3 b 1 (fun w' hS=>hS.cell id hcl) underlying3 ?_;simp only[nmz];refine qG _ _ _ _ _ _ _ _ rfl rfl rfl rfl rfl false (decide_eq_false hz) ?_;simp only[stz]
 have h1c:=hS.obj id h1b;have h2c:=hS.obj id h2b;have h3c:Bts 0 w1.drew (.slice vad bs.length vcap) bs:=zV h3b hS (fun _ _=>id)
 have hb1c:Bts w.heap.size w1.drew (.slice ad xs.length cap) xs:=zV hb1 hS (fun _ _=>id);have hcb2:=hS.cell id hcb;have hm1d:=hm1.trans0 hS;have hszd:=hm1d.size
 generalize w1.drew=wd at*;clear hS h1b h2b h3b hb1 hcb hcl hm1;go_upto_region 5 with(fail);refine wpR [3,3,3,3,1,3,1,3,3,1] ?_;simp only[stz]
 refine wpXd (v:=(.slice vad bs.length vcap)) 53 b 2 hcb2 underlying53 trivial ?_;simp only[stz]
 refine wpD (wp_append _ _ 53 5 (.int .u8 0) 1 1 (by rfl) underlying53 byte_i (by kernel_rfl) (by omega) 0 _ bs.length _ (by rfl) h3c _ xs.length _ (by rfl) (jD hb1c) (bytes_one xs) (by unfold maxLen;omega) (by omega) (Nat.zero_le _) (fun v2 w2 ho2 hg2 hv2=>?_))
 have hb2:Bts 0 w2 v2 (bs++xs):=by unfold Bts;rw[List.length_append,List.map_append];exact ho2
 have hm2:Mod (fun k=>(Value.slice vad bs.length vcap).ownBlock=some k) wd w2:=(Mod.refl _ _).grown hg2 (fun k e _=>e);have h1e:=hm2.obj (fun e=>(h7 _ e).2.2 rfl) h1c
 have h2e:=hm2.obj (fun e=>(h7 _ e).2.1 rfl) h2c;obtain⟨v2ad,v2cap,hv2s⟩:=Bts.slice hb2;simp only[stz]
 refine wpD (qT 53 _ _ b 2 v2 (by rfl) (by rfl) (by rfl) (by rw[hv2s];rfl) (by kernel_rfl) _ _ h2e (by simp) (fun w3 hB3 hm3=>?_))
 replace hB3:w3.heap[b]?=some (.cells #[.pointer (some ⟨wr,0,none⟩),.int .i64 4096,v2] 322 (0,0)):=hB3;simp only[stz]
 have hnb2:∀q,v2.ownBlock=some q->(¬Pr q/\q≠b/\q≠wr):=fun q hq=>by
  have hbl:=(Array.getElem?_eq_some_iff.1 h2c).1;have hwl:=(Array.getElem?_eq_some_iff.1 h1c).1
  rcases hv2 with e|e
  ·exact h7 q (by rw[<-e];exact hq)
  ·rw[e]at hq
   cases hq
   exact⟨fun e=>by have:=hPr _ e;omega,by omega,by omega⟩
 have h1f:=hm3.objB (fun e=>h4 e.symm) h1e;have hb3:Bts 0 w3 v2 (bs++xs):=zV hb2 hm3 (fun q hq e=>(hnb2 q hq).2.1 e)
 have hmf:PStep Pr w w3:=((hm1d.mono fun _ _ h=>h.elim).trans hm2 (fun k _ e=>(h7 k e).1)).trans hm3 (fun k _ e=>by have e:k=b:=e;rw[e];exact h5)
 have hce:w3.cell? ⟨wr,0,none⟩=some (.int .i64 0):=by simp[World.cell?,h1f]
 have hc0f:w3.cell? ⟨b,0,none⟩=some (.pointer (some ⟨wr,0,none⟩)):=by simp[World.cell?,hB3]
 have HF:=hid (⟨rfl,⟨v2,h1f,hB3,hb3,h4,h5,h6,hnb2⟩,hmf⟩:WPutR w b wr Pr (bs++xs) (.returned (.int .i64 0)) w3)
 clear hm1d hm2 hm3 hb2 ho2 hg2 hv2 h1c h2c h3c hb1c h1e h2e hnb2 hb3 hmf h1f hB3 hcb2 hv2s;go_wp2;go_ret;exact⟨rfl,HF.out.2⟩
end
def NewWR(w:World):Ending->World->Prop:=fun e w'=>Mod NoB w w'/\∃b wr,e=.returned (.tuple #[.pointer (some ⟨b,0,none⟩),.int .i64 0])/\w'.heap[wr]?=some (.cells #[.int .i64 0,.int .i64 0] 320 (0,0))/\w'.heap[b]?=some (.cells #[.pointer (some ⟨wr,0,none⟩),.int .i64 4096,.slice none 0 0] 322 (0,0))/\w.heap.size<=wr/\wr<b
theorem wrs_start{w:World}{b wr:Nat}{Pr:Nat->Prop}(h1:w.heap[wr]?=some (.cells #[.int .i64 0,.int .i64 0] 320 (0,0)))(h2:w.heap[b]?=some (.cells #[.pointer (some ⟨wr,0,none⟩),.int .i64 4096,.slice none 0 0] 322 (0,0)))(hne:b≠wr)(hb:¬Pr b)(hr:¬Pr wr):WrS w b wr Pr []:=
 ⟨_,h1,h2,bts_nil _ _,hne,hb,hr,fun q hq=>by cases hq⟩
theorem writerZ:(prog.info? 322).bind (·.zero)=some (.agg #[.pointer none,.int .i64 0,.slice none 0 0]):=by kernel_rfl
theorem built_writer(wr:Nat):prog.built 322 [(0,.pointer (some ⟨wr,0,none⟩)),(1,.int .i64 4096)]=some #[.pointer (some ⟨wr,0,none⟩),.int .i64 4096,.slice none 0 0]:=by
 have p:xR prog 322=some [(0,1),(1,1),(2,1)]:=by kernel_rfl
 rw[zL writerZ p,zD (off:=0) (size:=1) rfl (by rfl) (by simp),zD (off:=1) (size:=1) rfl (by rfl) (by simp[qZ,Value.cells]),xT]
 rfl
theorem wNew_any(w:World):Calls prog 169 #[.int .i64 4096] w (NewWR w):=by
 go_enter func169,ntmps169;go_upto_region 3 with(fail);refine wpR [0,1,3,0,1,3,3] ?_;simp only[stz]
 refine qQ rfl (fun w' hS=>qL 320 [] [] _ (by rfl) (by rfl) zero_wrong) ?_;simp only[nmz]
 refine wpD (zT 320 _ _ (by rfl) (by rfl) (fun w1 hB1 hm1 hs1=>?_));replace hB1:w1.heap[w.heap.size]?=some (.cells #[.int .i64 0,.int .i64 0] 320 (0,0)):=hB1
 simp only[stz]
 refine qQ rfl (fun w' hS=>qL 322 [(0,_),(1,_)] [(0,.pointer (some ⟨w.heap.size,0,none⟩)),(1,.int .i64 4096)] _ (by rfl) (by rfl) (built_writer _)) ?_
 simp only[nmz];refine wpD (zT 322 _ _ (by rfl) (by rfl) (fun w2 hB2 hm2 hs2=>?_))
 replace hB2:w2.heap[w1.heap.size]?=some (.cells #[.pointer (some ⟨w.heap.size,0,none⟩),.int .i64 4096,.slice none 0 0] 322 (0,0)):=hB2;simp only[stz]
 have HF:=hid (⟨hm1.trans0 hm2,_,_,rfl,hm2.obj id hB1,hB2,Nat.le_refl _,hs1⟩:NewWR w (.returned (.tuple #[.pointer (some ⟨w1.heap.size,0,none⟩),.int .i64 0])) w2)
 clear hB1 hB2 hm1 hm2 hs1;go_wp2;go_ret2;exact HF.out
section
variable{w:World}{b wr:Nat}{Pr:Nat->Prop}{bs:List UInt8}
theorem wNum_any(h:WrS w b wr Pr bs)(hPr:∀k,Pr k->k<w.heap.size)(n:Nat)(hn:n<192)(hl:bs.length<=4000):Calls prog 171 #[.pointer (some ⟨b,0,none⟩),.int .i64 n] w (WPutR w b wr Pr (bs++[UInt8.ofNat n])):=by
 have hp:=wPut_any h hPr (fun w'=>form_int n hn w') (by simp;omega);clear h;go_enter func171,ntmps171;go_upto_region 1 with(fail);refine wpR [3,3,1,1,3] ?_
 simp only[stz];refine wpX rfl (xX _ 3 (.int .i64 n) (by rfl) (by rfl) int_noIface) trivial ?_;try simp only[nmz]
 refine wpD (wpCM func222 (hp) fun w1 hq=>?_);simp only[stz];have HF:=hid hq;clear hq hp;go_wp2;go_ret;exact⟨rfl,HF.out⟩
theorem wText_none(h:WrS w b wr Pr bs)(hPr:∀k,Pr k->k<w.heap.size)(hl:bs.length<=4000):Calls prog 173 #[.pointer (some ⟨b,0,none⟩),.string ⟨#[]⟩] w (WPutR w b wr Pr (bs++[0])):=by
 have hp:=wPut_any h hPr (fun w'=>form_none w') (by simp;omega);clear h;go_enter func173,ntmps173;go_upto_region 1 with(fail);refine wpR [3,3,1,1,3] ?_;simp only[stz]
 refine wpX rfl (xX _ 9 (.string ⟨#[]⟩) (by rfl) (by rfl) str_noIface) trivial ?_;try simp only[nmz]
 refine wpD (wpCM func222 (hp) fun w1 hq=>?_);simp only[stz];have HF:=hid hq;clear hq hp;go_wp2;go_ret;exact⟨rfl,HF.out⟩
theorem wID_any(h:WrS w b wr Pr bs)(hPr:∀k,Pr k->k<w.heap.size)(x:List UInt8)(hx:x.length=32)(hl:bs.length<=4000):Calls prog 172 #[.pointer (some ⟨b,0,none⟩),.agg (qA x)] w (WPutR w b wr Pr (bs++x)):=by
 have hic:(qA x).size=32:=by rw[qD,hx]
 have H:=hid h;clear h;go_enter func172,ntmps172;go_upto_region 0 with(fail);refine wpR [1,3] ?_;simp only[stz]
 refine wpD (zT 24 _ _ (by rfl) (by rfl) (fun w1 hB1 hm1 hs1=>?_));replace hB1:w1.heap[w.heap.size]?=some (.cells (qA x) 24 (0,0)):=hB1;simp only[stz]
 have hp:=wPut_any (H.out.keep0 hm1) (fun k hk=>by have:=hPr k hk;omega) (fun w'=>form_id x hx w') (by omega);have hca:=CellsAt.whole hB1;go_upto_region 1 with(fail)
 refine wpR [3,1,1,1,3] ?_;simp only[stz];refine wpXA 24 w.heap.size 0 (qA x) hca underlying24 32 hic trivial ?_;try simp only[nmz]
 refine wpX rfl (xX _ 24 (.agg (qA x)) (by rfl) (by rfl) id_noIface9) trivial ?_;try simp only[nmz]
 refine wpD (wpC func222 (hp) ?_);rintro e w2 ⟨rfl,hq1,hq2⟩;refine⟨_,rfl,?_⟩;simp only[stz]
 have HF:=hid (⟨hq1,(PStep.of0 hm1).trans hq2⟩:WrS w2 b wr Pr (bs++x)/\PStep Pr w w2);clear hq1 hq2 hp hca hB1 hm1 hs1;go_wp2;go_ret;exact⟨rfl,HF.out⟩
def DoneR(w:World)(bs:List UInt8):Ending->World->Prop:=fun e w'=>Mod NoB w w'/\∃v,e=.returned (.tuple #[v,.int .i64 0])/\Bts w.heap.size w' v bs
theorem wDone_any(h:WrS w b wr Pr bs)(hl:bs.length<=4096):Calls prog 224 #[.pointer (some ⟨b,0,none⟩)] w (DoneR w bs):=by
 have hno:=wNone_any h;obtain⟨v,h1,h2,h3,-⟩:=h;have hc0:w.cell? ⟨b,0,none⟩=some (.pointer (some ⟨wr,0,none⟩)):=by simp[World.cell?,h2]
 have hc2:w.cell? ⟨b,2,none⟩=some v:=by simp[World.cell?,h2]
 have hcw:w.cell? ⟨wr,0,none⟩=some (.int .i64 0):=by simp[World.cell?,h1]
 have hfd:=wFailed_at hcw;simp only[ne_eq,not_true_eq_false,decide_false]at hfd;have hcl:=cloneB_any (Bts.sl h3) (by omega);clear h1 h2 h3 hcw;go_enter func224,ntmps224
 go_upto_region 1 with(fail);refine wpR [3,1,3] ?_;simp only[stz];refine wpD (wpC func251 (hno) ?_);rintro e w1 ⟨rfl,hw⟩;obtain rfl:=hw.symm;refine⟨_,rfl,?_⟩
 simp only[stz];go_upto_region 3 with(fail);refine wpR [3,3,3,1,1,3] ?_;simp only[stz]
 refine wpXd (v:=(.pointer (some ⟨wr,0,none⟩))) 318 b 0 hc0 underlying318 trivial ?_;try simp only[nmz]
 refine wpD (wpC func252 (hfd) ?_);rintro e w1 ⟨rfl,hw⟩;obtain rfl:=hw.symm;refine⟨_,rfl,?_⟩;simp only[stz];go_upto_region 5 with(fail);refine wpR [3,3,3,1,1,3,3] ?_
 simp only[stz];refine wpXd (v:=v) 53 b 2 hc2 underlying53 trivial ?_;try simp only[nmz]
 refine wpD (wpC func239 (hcl) ?_);rintro e w1 ⟨v1,rfl,hb1,hm1⟩;refine⟨_,rfl,?_⟩;simp only[stz]
 have HF:=hid (⟨hm1,v1,rfl,hb1⟩:DoneR w bs (.returned (.tuple #[v1,.int .i64 0])) w1);clear hno hfd hcl hm1 hb1 hc0 hc2;go_wp2;go_ret2;exact HF.out
end
theorem WrS.add{w w1:World}{b wr:Nat}{Pr:Nat->Prop}{bs:List UInt8}(h:WrS w b wr Pr bs)(hm:Mod NoB w w1){x:Nat}(hx:w.heap.size<=x):WrS w1 b wr (fun k=>Pr k\/k=x) bs:=by
 obtain⟨v,h1,h2,h3,h4,h5,h6,h7⟩:=h;have l1:=(Array.getElem?_eq_some_iff.1 h1).1;have l2:=(Array.getElem?_eq_some_iff.1 h2).1
 refine⟨v,hm.obj id h1,hm.obj id h2,zV h3 hm (fun _ _=>id),h4,fun e=>e.elim h5 (fun e=>by omega),fun e=>e.elim h6 (fun e=>by omega),fun q hq=>⟨fun e=>e.elim (h7 q hq).1 (fun e=>?_),(h7 q hq).2⟩⟩
 have:=(Bts.lt h3 hq).2;omega
theorem WrS.less{w:World}{b wr:Nat}{Pr Pr':Nat->Prop}{bs:List UInt8}(h:WrS w b wr Pr' bs)(hs:∀k,Pr k->Pr' k):WrS w b wr Pr bs:=by
 obtain⟨v,h1,h2,h3,h4,h5,h6,h7⟩:=h;exact⟨v,h1,h2,h3,h4,fun e=>h5 (hs _ e),fun e=>h6 (hs _ e),fun q hq=>⟨fun e=>(h7 q hq).1 (hs _ e),(h7 q hq).2⟩⟩
theorem PStep.less{Pr Pr':Nat->Prop}{A B:World}(h:PStep Pr' A B)(hs:∀k,Pr k->Pr' k):PStep Pr A B:=Mod.mono h fun _ _ hn e=>hn (hs _ e)
theorem PStep.obj{Pr:Nat->Prop}{A B:World}(h:PStep Pr A B){k:Nat}{o:Obj}(hp:Pr k)(ho:A.heap[k]?=some o):B.heap[k]?=some o:=Mod.obj h (fun hn=>hn hp) ho
def descB(d:DescL):List UInt8:=UInt8.ofNat d.media::(d.id++[UInt8.ofNat d.size,0])
structure SmallD(d:DescL):Prop where
 id:d.id.length=32
 media:d.media<192
 size:d.size<192
 plat:d.plat=[]
theorem descB_len{d:DescL}(h:SmallD d):(descB d).length=35:=by simp[descB,h.id]
def EncR(w:World)(b wr:Nat)(Pr:Nat->Prop)(bs:List UInt8):Ending->World->Prop:=fun e w'=>e=.returned (.tuple #[])/\WrS w' b wr Pr bs/\PStep Pr w w'
section
variable{w:World}{b wr:Nat}{Pr:Nat->Prop}{bs:List UInt8}
theorem enc2_any(h:WrS w b wr Pr bs)(hPr:∀k,Pr k->k<w.heap.size){c4:Nat}(h4:w.heap[c4]?=some (.cells #[.pointer (some ⟨b,0,none⟩)] 266 (0,0)))(hp4:Pr c4){d:DescL}(hd:SmallD d)(hl:bs.length<=3000):
 Calls prog 170 #[.agg (qB d),.pointer (some ⟨c4,0,none⟩)] w (EncR w b wr Pr (bs++descB d)):=by
 have hid:=hd.id;have hic:(qA d.id).size=32:=by rw[qD,hid]
 have HD:=Lib.hid hd;have hc4:w.cell? ⟨c4,0,none⟩=some (.pointer (some ⟨b,0,none⟩)):=by simp[World.cell?,h4]
 obtain⟨C,hC⟩:∃C,qB d=C:=⟨_,rfl⟩;have q0:C[0]?=some (.int .i64 d.media):=by rw[<-hC];rfl
 have q1:∀j,j<(qA d.id).size->C[1+j]?=(qA d.id)[j]?:=by rw[<-hC];exact descRow_at1
 have q33:C[33]?=some (.int .i64 d.size):=by
  rw[<-hC,<-Array.getElem?_toList];simp only[qB,zX];rw[List.getElem?_cons_succ,List.getElem?_append_right (by simp[hid])]
  simp[hid]
 have q34:C[34]?=some (.string ⟨#[]⟩):=by
  rw[<-hC,<-Array.getElem?_toList];simp only[qB,zX];rw[List.getElem?_cons_succ,List.getElem?_append_right (by simp[hid])]
  simp[hid,hd.plat]
 rw[hC];clear hd hC;go_enter func170,ntmps170;go_upto_region 0 with(fail);refine wpR [1] ?_;simp only[stz]
 refine wpD (zT 46 _ _ (by rfl) (by rfl) (fun w1 hB1 hm1 hs1=>?_));replace hB1:w1.heap[w.heap.size]?=some (.cells C 46 (0,0)):=hB1;simp only[stz]
 have h1:=h.add hm1 (Nat.le_refl _);have hb1:w.heap.size<w1.heap.size:=hs1
 have hp1:∀k,(Pr k\/k=w.heap.size)->k<w1.heap.size:=fun k hk=>hk.elim (fun hk=>by have:=hPr k hk;omega) (fun hk=>by omega)
 have hP01:PStep Pr w w1:=PStep.of0 hm1;have h41:=hm1.obj id h4;generalize hbb:w.heap.size=bd at*;clear hm1 h hc4 h4
 have n1:=wNum_any h1 hp1 d.media HD.out.media (by omega);have hcA:w1.cell? ⟨c4,0,none⟩=some (.pointer (some ⟨b,0,none⟩)):=by simp[World.cell?,h41]
 have hcm:w1.cell? ⟨bd,0,none⟩=some (.int .i64 d.media):=by rw[cell_of_row _ _ _ _ _ _ hB1];exact q0
 go_upto_region 1 with(fail);refine wpR [1,3,1,1] ?_;simp only[stz];refine wpXd (v:=(.pointer (some ⟨b,0,none⟩))) 266 c4 0 hcA underlying266 trivial ?_;simp only[stz]
 refine wpXd (v:=(.int .i64 d.media)) 3 bd 0 hcm underlying3 trivial ?_;try simp only[nmz]
 refine wpD (wpC func171 (n1) ?_);rintro e w2 ⟨rfl,h2,hs2⟩;refine⟨_,rfl,?_⟩;simp only[stz];have h42:=hs2.obj (.inl hp4) h41;have hB2:=hs2.obj (.inr rfl) hB1
 have hp2:∀k,(Pr k\/k=bd)->k<w2.heap.size:=fun k hk=>Nat.lt_of_lt_of_le (hp1 k hk) hs2.size;have n2:=wID_any h2 hp2 d.id hid (by simp;omega)
 have hcA2:w2.cell? ⟨c4,0,none⟩=some (.pointer (some ⟨b,0,none⟩)):=by simp[World.cell?,h42]
 have hci:CellsAt w2 bd (0+1) (qA d.id):=CellsAt.of_obj hB2 (by rw[Nat.zero_add];exact q1);have hP02:=hP01.trans (hs2.less (fun k hk=>.inl hk))
 clear hs2 h41 hB1 hcA hcm n1 h1 hp1 hP01;go_upto_region 2 with(fail);refine wpR [1,3,1,1] ?_;simp only[stz]
 refine wpXd (v:=(.pointer (some ⟨b,0,none⟩))) 266 c4 0 hcA2 underlying266 trivial ?_;simp only[stz];refine wpXA 24 bd (0+1) (qA d.id) hci underlying24 32 hic trivial ?_
 try simp only[nmz]
 refine wpD (wpC func172 (n2) ?_);rintro e w3 ⟨rfl,h3,hs3⟩;refine⟨_,rfl,?_⟩;simp only[stz];have h43:=hs3.obj (.inl hp4) h42;have hB3:=hs3.obj (.inr rfl) hB2
 have hp3:∀k,(Pr k\/k=bd)->k<w3.heap.size:=fun k hk=>Nat.lt_of_lt_of_le (hp2 k hk) hs3.size;have n3:=wNum_any h3 hp3 d.size HD.out.size (by simp;omega)
 have hcA3:w3.cell? ⟨c4,0,none⟩=some (.pointer (some ⟨b,0,none⟩)):=by simp[World.cell?,h43]
 have hcs:w3.cell? ⟨bd,0+33,none⟩=some (.int .i64 d.size):=by rw[cell_of_row _ _ _ _ _ _ hB3];exact q33
 have hP03:=hP02.trans (hs3.less (fun k hk=>.inl hk));clear hs3 h42 hB2 hcA2 hci n2 h2 hp2 hP02;go_upto_region 3 with(fail);refine wpR [1,3,1,1] ?_;simp only[stz]
 refine wpXd (v:=(.pointer (some ⟨b,0,none⟩))) 266 c4 0 hcA3 underlying266 trivial ?_;simp only[stz]
 refine wpXd (v:=(.int .i64 d.size)) 3 bd (0+33) hcs underlying3 trivial ?_;try simp only[nmz]
 refine wpD (wpC func171 (n3) ?_);rintro e w4 ⟨rfl,h4',hs4⟩;refine⟨_,rfl,?_⟩;simp only[stz];have h44:=hs4.obj (.inl hp4) h43;have hB4:=hs4.obj (.inr rfl) hB3
 have hp4':∀k,(Pr k\/k=bd)->k<w4.heap.size:=fun k hk=>Nat.lt_of_lt_of_le (hp3 k hk) hs4.size;have n4:=wText_none h4' hp4' (by simp;omega)
 have hcA4:w4.cell? ⟨c4,0,none⟩=some (.pointer (some ⟨b,0,none⟩)):=by simp[World.cell?,h44]
 have hct:w4.cell? ⟨bd,0+34,none⟩=some (.string ⟨#[]⟩):=by rw[cell_of_row _ _ _ _ _ _ hB4];exact q34
 have hP04:=hP03.trans (hs4.less (fun k hk=>.inl hk));clear hs4 h43 hB3 hcA3 hcs n3 h3 hp3 hP03;go_upto_region 4 with(fail);refine wpR [1,3,1,1] ?_;simp only[stz]
 refine wpXd (v:=(.pointer (some ⟨b,0,none⟩))) 266 c4 0 hcA4 underlying266 trivial ?_;simp only[stz];refine wpXd (v:=(.string ⟨#[]⟩)) 9 bd (0+34) hct underlying9 trivial ?_
 try simp only[nmz]
 refine wpD (wpC func173 (n4) ?_);rintro e w5 ⟨rfl,h5,hs5⟩;refine⟨_,rfl,?_⟩;simp only[stz]
 have HF:=Lib.hid (⟨by simpa[descB]using h5.less (fun k hk=>.inl hk),hP04.trans (hs5.less (fun k hk=>.inl hk))⟩:WrS w5 b wr Pr (bs++descB d)/\PStep Pr w w5)
 clear hs5 h5 h44 hB4 hcA4 hct n4 h4' hp4' hP04;go_wp2
 go_end0
 exact⟨rfl,HF.out⟩
end
theorem descInfo:∃i,prog.info? 46=some i/\i.zero=some (.agg (qB descZ))/\i.size=35/\i.bytes=64:=by
 have h:=desc_i
 cases hi:prog.info? 46 with
 |none=>rw[hi]at h;cases h
 |some i=>
  rw[hi]at h;simp only[Option.map_some,Option.some.injEq,Prod.mk.injEq]at h;exact⟨i,rfl,h.1,h.2.1,h.2.2⟩
def GrowDR(w:World):Ending->World->Prop:=fun e w'=>∃v,e=.returned v/\GatD w.heap.size w' v []/\Mod NoB w w'
theorem growD_nil(n:Nat)(hn:n<=1048576)(w:World):Calls prog 223 #[.slice none 0 0,.int .i64 n] w (GrowDR w):=by
 have h1:¬((n:Int)<0):=by omega
 have h2:wrap64 ((n:Int)-0)=(n:Int):=by unfold wrap64;omega
 by_cases h0:n=0
 ·subst h0
  go_enter func223,ntmps223;go_wp2;go_ret;exact⟨_,rfl,Gat.nil _ _ _ _ _,Mod.refl _ _⟩
 ·have h4:(n:Int)>0:=by omega
  obtain⟨i,hi,hz,hs,hb⟩:=descInfo
  have hrz:∀ty (w:World),(Builtin.append_ #[161,3] ty #[.slice none 0 0,.int .i64 (n:Int)]).run prog w=
   .ok (.slice (some ⟨w.heap.size,0,none⟩) n (grownCap w n 0 46)) (w.drew.alloc (.cells (Builtin.zeroCells (qB descZ) n++Builtin.zeroCells (qB descZ) (grownCap w n 0 46-n)) 46)):=fun ty w=>
   Lib.run_append_nil_zeros w 161 3 ty 46 i _ .i64 .i64 underlying161 underlying3 hi hz n (by omega) (by omega) (by omega) (by rw[hb];omega)
  have HRZ:=hid hrz;clear hrz hi hz hs hb;go_enter func223,ntmps223;go_upto_region 5 with(fail);refine wpR [3,3,3,3,3,1,3,3,3,3] ?_;simp only[stz]
  refine qE (v:=?_) rfl (fun w'=>?_) ?_;rotate_left;·(go_simp;try with_reducible rfl)
  simp only[nmz];refine qE (v:=?_) rfl (fun w'=>?_) ?_;rotate_left;·(go_simp;try with_reducible rfl)
  simp only[stz];refine wpD (Lib.wp_append_run _ _ _ 161 3 (by rfl) (.slice none 0 0) (.int .i64 (n:Int)) (by rfl) (by rfl) _ _ (HRZ.out _ _) ?_);simp only[stz];refine wpPL ?_
  simp only[nmz];refine qE (v:=?_) rfl (fun w'=>?_) ?_;rotate_left;·(go_simp;try with_reducible rfl)
  simp only[stz];have hC1:=grownCap_ge w n 0 46;have hC2:=grownCap_le_maxLen w n 0 46 (by unfold maxLen;omega);generalize grownCap w n 0 46=C at hC1 hC2 |-
  have hB:=heap_alloc_new w.drew (.cells (Builtin.zeroCells (qB descZ) n++Builtin.zeroCells (qB descZ) (C-n)) 46)
  have hm:Mod NoB w (w.drew.alloc (.cells (Builtin.zeroCells (qB descZ) n++Builtin.zeroCells (qB descZ) (C-n)) 46)):=((Mod.refl _ _).drew).alloc _
  have hsz:(Builtin.zeroCells (qB descZ) n++Builtin.zeroCells (qB descZ) (C-n)).size=C*35:=by
   rw[Array.size_append,size_zeroCells,size_zeroCells,show(qB descZ).size=35 from qO qV,<-Nat.add_mul]
   congr 1
   omega
  generalize Builtin.zeroCells (qB descZ) n++Builtin.zeroCells (qB descZ) (C-n)=cur at hB hm hsz |-;generalize w.drew.alloc (.cells cur 46)=w2 at hB hm |-
  clear HRZ;go_wp2;go_ret;exact⟨_,rfl,⟨rfl,.inr ⟨_,C,cur,rfl,Nat.le_refl _,hB,Nat.zero_le _,hC2,hsz,by simp⟩⟩,hm⟩
def ConR(w:World)(l:List DescL):Ending->World->Prop:=fun e w'=>∃v,e=.returned v/\GatD w.heap.size w' v l/\Mod NoB w w'
def ConRel1(w0:World)(la lb:List DescL)(s i:Value)(w:World):Prop:=∃k:Nat,k<=2/\i=.int .i64 k/\s=.int .i64 ((([la,lb].take k).flatten.length:Nat))/\Mod NoB w0 w
def ConRel2(w0:World)(la lb:List DescL)(v i:Value)(w:World):Prop:=∃k:Nat,k<=2/\i=.int .i64 k/\GatD w0.heap.size w v ([la,lb].take k).flatten/\Mod NoB w0 w
theorem concatD_any{w:World}{base R:Nat}{lv sv:Value}{la lb:List DescL}(ha:GatD base w lv la)(hb:GatD base w sv lb)(hR:w.heap[R]?=some (.cells #[lv,sv] 161 (0,0)))(hl:la.length+lb.length<=100):Calls prog 176 #[.slice (some ⟨R,0,none⟩) 2 2] w (ConR w (la++lb)):=by
 have hx:∀(k:Nat),k<2->∃(v:Value)(l:List DescL),w.cell? ⟨R,k,none⟩=some v/\GatD base w v l/\([la,lb].take (k+1)).flatten=([la,lb].take k).flatten++l:=fun k hk=>by
  rcases(by omega:k=0\/k=1)with rfl|rfl
  ·exact⟨lv,la,by simp[World.cell?,hR],ha,by simp⟩
  ·exact⟨sv,lb,by simp[World.cell?,hR],hb,by simp⟩
 have hall:([la,lb].take 2).flatten=la++lb:=by simp
 have hpre:∀k,([la,lb].take k).flatten.length<=100:=fun k=>by
  have h9:([la,lb].take k).flatten.length<=[la,lb].flatten.length:=by
   conv=>rhs;rw[<-List.take_append_drop k [la,lb],List.flatten_append,List.length_append]
   omega
  simp at h9
  simp
  omega
 have HX:=hid hx;have HP:=hid hpre;have HALL:=hid hall;clear hx ha hb hR hl hpre hall;go_enter func176,ntmps176;go_wp2
 go_loopw [3,11] (ConRel1 w la lb) (fun _ i _=>2-(intOf i).toNat)
 case atStart=>exact⟨0,by omega,rfl,by simp,Mod.refl _ _⟩
 case round=>
  rename World=>wr
  obtain⟨k,hk,rfl,rfl,hm⟩:=hrel
  by_cases hlt:k<2
  ·have hz:(k:Int)<2:=by omega
   obtain⟨v,y,hc,hg,hfs⟩:=HX.out k hlt;have hfl:=HP.out (k+1);rw[hfs,List.length_append]at hfl;obtain⟨ay,cy,rfl⟩:=hg.slice;have hcr:=hm.cell id hc
   obtain⟨F,hF⟩:∃F,([la,lb].take k).flatten=F:=⟨_,rfl⟩;rw[hF]at hfs hfl |-;have HFS:=hid hfs;generalize hL:F.length=L at*;clear hc hg hfs
   go_upto_region 4 with(fail);refine wpR [3,1,3] ?_;simp only[stz];refine wpPI underlying324 1 hlt ?_;simp only[nmz]
   refine wpX rfl (xO 161 _ rfl R (k*1) rfl _ (by rw[Nat.mul_one];exact hcr) _ underlying161 rfl) trivial ?_;simp only[stz];go_upto_region 5 with(fail)
   refine wpR [3,3,3,3,3] ?_;simp only[stz];refine wpPL ?_;simp only[nmz]
   refine qY _ _ _ _ (L:Int) (y.length:Int) ((L+y.length:Nat):Int) rfl rfl rfl rfl (by omega) (by omega) (by omega) ?_;simp only[stz]
   have hz2:¬((L+y.length:Nat):Int)<0:=by omega
   have HQ:Hid (ConRel1 w la lb (.int .i64 ((L+y.length:Nat):Int)) (.int .i64 ((k+1:Nat):Int)) wr):=hid ⟨k+1,by omega,rfl,by rw[HFS.out,List.length_append,hL],hm⟩
   clear hm hcr;go_wp2
   go_roundw
   case rel=>exact HQ.out
   case measure=>simp[intOf];omega
  ·have hz:¬(k:Int)<2:=by omega
   obtain rfl:k=2:=by omega
   have h2:=HP.out 2;obtain⟨F,hF⟩:∃F,([la,lb].take 2).flatten=F:=⟨_,rfl⟩;rw[hF]at h2 |-;generalize hL:F.length=L at*;go_upto_region 9 with(fail)
   refine wpR [3,1,3] ?_;simp only[stz];refine wpD (wpC func223 (growD_nil L (by omega) _) ?_);rintro e w2 ⟨v2,rfl,hb2,hm2⟩;refine⟨_,rfl,?_⟩;simp only[stz]
   have hs2:=hm.size;have hR0:Hid (ConRel2 w la lb v2 (.int .i64 (0:Nat)) w2):=hid ⟨0,by omega,rfl,by simpa using hb2.base hs2,hm.trans0 hm2⟩;clear hm hm2 hs2 hb2
   go_wp2
   go_loopw [6,27] (ConRel2 w la lb) (fun _ i _=>2-(intOf i).toNat)
   case atStart=>exact hR0.out
   case round=>
    rename World=>wq
    obtain⟨k,hk,rfl,hob,hm⟩:=hrel
    by_cases hlt:k<2
    ·have hz:(k:Int)<2:=by omega
     obtain⟨v,y,hc,hg,hfs⟩:=HX.out k hlt;have hfl:=HP.out (k+1);rw[hfs,List.length_append]at hfl;obtain⟨ay,cy,rfl⟩:=hg.slice;have hcr:=hm.cell id hc
     have hgr:=Gat.keep0 hg hm;obtain⟨F,hF⟩:∃F,([la,lb].take k).flatten=F:=⟨_,rfl⟩;rw[hF]at hfs hfl hob;have HFS:=hid hfs;obtain⟨ad2,cap2,rfl⟩:=hob.slice
     have hsz:=hm.size;clear hc hg hfs;go_upto_region 12 with(fail);refine wpR [3,1,3] ?_;simp only[stz];refine wpPI underlying324 1 hlt ?_;simp only[nmz]
     refine wpX rfl (xO 161 _ rfl R (k*1) rfl _ (by rw[Nat.mul_one];exact hcr) _ underlying161 rfl) trivial ?_;simp only[stz];go_upto_region 13 with(fail)
     refine wpR [3,3,1,3] ?_;simp only[stz]
     refine wpD (wp_gat descE _ _ 161 46 (.agg (qB descZ)) 35 64 (by rfl) underlying161 desc_i desc_zs (by omega) xY w.heap.size _ F (by rfl) hob _ y (by rfl) (jD hgr) (by unfold maxLen;omega) (by omega) hsz (fun v3 w3 hg3 hm3=>?_))
     have hm03:Mod NoB w w3:=hm.trans hm3 (fun j hj e=>by have:=(Gat.lt hob e).1;omega);simp only[stz]
     have HQ:Hid (ConRel2 w la lb v3 (.int .i64 ((k+1:Nat):Int)) w3):=hid ⟨k+1,by omega,rfl,by rw[HFS.out];exact hg3,hm03⟩;clear hm hcr hgr hob hm3 hg3 hm03
     go_wp2
     go_roundw
     case rel=>exact HQ.out
     case measure=>simp[intOf];omega
    ·have hz:¬(k:Int)<2:=by omega
     obtain rfl:k=2:=by omega
     rw[HALL.out]at hob;have HF:=hid (⟨_,rfl,hob,hm⟩:ConR w (la++lb) (.returned _) wq);clear hob hm;go_wp2;go_ret;exact HF.out
theorem WrS.addX{w w1:World}{b wr:Nat}{Pr X:Nat->Prop}{bs:List UInt8}(h:WrS w b wr Pr bs)(hm:Mod NoB w w1)(hx:∀k,X k->w.heap.size<=k):WrS w1 b wr (fun k=>Pr k\/X k) bs:=by
 obtain⟨v,h1,h2,h3,h4,h5,h6,h7⟩:=h;have l1:=(Array.getElem?_eq_some_iff.1 h1).1;have l2:=(Array.getElem?_eq_some_iff.1 h2).1
 refine⟨v,hm.obj id h1,hm.obj id h2,zV h3 hm (fun _ _=>id),h4,fun e=>e.elim h5 (fun e=>by have:=hx _ e;omega),fun e=>e.elim h6 (fun e=>by have:=hx _ e;omega),fun q hq=>⟨fun e=>e.elim (h7 q hq).1 (fun e=>?_),(h7 q hq).2⟩⟩
 have:=(Bts.lt h3 hq).2;have:=hx _ e;omega
structure EncEnv(w:World)(b c1 c4 c6:Nat)(cs:Array Value)(Pr:Nat->Prop):Prop where
 r1:w.heap[c1]?=some (.cells cs 163 (0,0))
 r4:w.heap[c4]?=some (.cells #[.pointer (some ⟨b,0,none⟩)] 266 (0,0))
 r6:w.heap[c6]?=some (.cells #[.func (.func 170) #[] #[.pointer (some ⟨c4,0,none⟩)]] 272 (0,0))
 p1:Pr c1
 p4:Pr c4
 p6:Pr c6
theorem EncEnv.keep{w w':World}{b c1 c4 c6:Nat}{cs:Array Value}{Pr:Nat->Prop}(h:EncEnv w b c1 c4 c6 cs Pr)(hs:PStep Pr w w'):EncEnv w' b c1 c4 c6 cs Pr:=
 ⟨hs.obj h.p1 h.r1,hs.obj h.p4 h.r4,hs.obj h.p6 h.r6,h.p1,h.p4,h.p6⟩
section
variable{w:World}{b wr c1 c4 c6:Nat}{cs:Array Value}{Pr:Nat->Prop}{bs:List UInt8}
theorem enc5_any(h:WrS w b wr Pr bs)(hPr:∀k,Pr k->k<w.heap.size)(he:EncEnv w b c1 c4 c6 cs Pr)(hl:bs.length<=3000):Calls prog 178 #[.pointer (some ⟨c4,0,none⟩)] w (EncR w b wr Pr (bs++[77])):=by
 have hc:w.cell? ⟨c4,0,none⟩=some (.pointer (some ⟨b,0,none⟩)):=by simp[World.cell?,he.r4]
 have hn:=wNum_any h hPr 77 (by omega) (by omega);clear h he;go_enter func178,ntmps178;go_upto_region 0 with(fail);refine wpR [1,1] ?_;simp only[stz]
 refine wpXd (v:=(.pointer (some ⟨b,0,none⟩))) 266 c4 0 hc underlying266 trivial ?_;try simp only[nmz]
 refine wpD (wpCM func171 (hn) fun w1 hq=>?_);simp only[stz];have HF:=hid hq;clear hq hn hc;go_wp2
 go_end0
 exact⟨rfl,HF.out⟩
theorem enc6_any(h:WrS w b wr Pr bs)(hPr:∀k,Pr k->k<w.heap.size)(he:EncEnv w b c1 c4 c6 cs Pr){k:Nat}(hk:cs[0]?=some (.int .i64 k))(hk1:k<192)(hl:bs.length<=3000):Calls prog 179 #[.pointer (some ⟨c4,0,none⟩),.pointer (some ⟨c1,0,none⟩)] w (EncR w b wr Pr (bs++[UInt8.ofNat k])):=by
 have hc:w.cell? ⟨c4,0,none⟩=some (.pointer (some ⟨b,0,none⟩)):=by simp[World.cell?,he.r4]
 have hck:w.cell? ⟨c1,0,none⟩=some (.int .i64 k):=by rw[cell_of_row _ _ _ _ _ _ he.r1];exact hk
 have hn:=wNum_any h hPr k hk1 (by omega);clear h he;go_enter func179,ntmps179;go_upto_region 0 with(fail);refine wpR [1,3,1,1] ?_;simp only[stz]
 refine wpXd (v:=(.pointer (some ⟨b,0,none⟩))) 266 c4 0 hc underlying266 trivial ?_;simp only[stz];refine wpXd (v:=(.int .i64 k)) 3 c1 0 hck underlying3 trivial ?_
 try simp only[nmz]
 refine wpD (wpCM func171 (hn) fun w1 hq=>?_);simp only[stz];have HF:=hid hq;clear hq hn hc hck;go_wp2
 go_end0
 exact⟨rfl,HF.out⟩
theorem enc7_any(h:WrS w b wr Pr bs)(hPr:∀k,Pr k->k<w.heap.size)(he:EncEnv w b c1 c4 c6 cs Pr)(hk:cs[1]?=some (.string ⟨#[]⟩))(hl:bs.length<=3000):Calls prog 180 #[.pointer (some ⟨c4,0,none⟩),.pointer (some ⟨c1,0,none⟩)] w (EncR w b wr Pr (bs++[0])):=by
 have hc:w.cell? ⟨c4,0,none⟩=some (.pointer (some ⟨b,0,none⟩)):=by simp[World.cell?,he.r4]
 have hck:w.cell? ⟨c1,0+1,none⟩=some (.string ⟨#[]⟩):=by rw[cell_of_row _ _ _ _ _ _ he.r1];exact hk
 have hn:=wText_none h hPr (by omega);clear h he;go_enter func180,ntmps180;go_upto_region 0 with(fail);refine wpR [1,3,1,1] ?_;simp only[stz]
 refine wpXd (v:=(.pointer (some ⟨b,0,none⟩))) 266 c4 0 hc underlying266 trivial ?_;simp only[stz];refine wpXd (v:=(.string ⟨#[]⟩)) 9 c1 (0+1) hck underlying9 trivial ?_
 try simp only[nmz]
 refine wpD (wpCM func173 (hn) fun w1 hq=>?_);simp only[stz];have HF:=hid hq;clear hq hn hc hck;go_wp2
 go_end0
 exact⟨rfl,HF.out⟩
theorem enc3_any(h:WrS w b wr Pr bs)(hPr:∀k,Pr k->k<w.heap.size){m:ManL}{lv sv:Value}(he:EncEnv w b c1 c4 c6 (qN m.kind m.title m.config lv sv) Pr)(hc32:m.config.id.length=32)(hd:m.kind=3->SmallD m.config)(hl:bs.length<=3000):
 Calls prog 174 #[.pointer (some ⟨c1,0,none⟩),.pointer (some ⟨c6,0,none⟩)] w (EncR w b wr Pr (bs++if m.kind=3 then descB m.config else [])):=by
 have hck:w.cell? ⟨c1,0,none⟩=some (.int .i64 m.kind):=by rw[cell_of_row _ _ _ _ _ _ he.r1];exact man_kind _ _ _ _ _
 have hdz:(qB m.config).size=35:=qO hc32
 have hcd:CellsAt w c1 (0+2) (qB m.config):=CellsAt.of_obj he.r1 (by rw[Nat.zero_add];exact man_config hc32)
 have hcf:w.cell? ⟨c6,0,none⟩=some (.func (.func 170) #[] #[.pointer (some ⟨c4,0,none⟩)]):=by simp[World.cell?,he.r6]
 by_cases hk:m.kind=3
 ·have hz:(m.kind:Int)=3:=by omega
  have hn:=enc2_any h hPr he.r4 he.p4 (hd hk) hl;rw[if_pos hk];generalize qB m.config=C at*;generalize descB m.config=D at*;clear h he hd;go_enter func174,ntmps174
  go_upto_region 1 with(fail);refine wpR [1,3,1,1] ?_;simp only[stz]
  refine wpXd (v:=(.func (.func 170) #[] #[.pointer (some ⟨c4,0,none⟩)])) 272 c6 0 hcf underlying272 trivial ?_;simp only[stz]
  refine wpXA 46 c1 (0+2) C hcd underlying46 35 hdz trivial ?_;try simp only[nmz]
  refine wpD (zQ (run_clos _ _ _ 170 #[.pointer (some ⟨c4,0,none⟩)] (by rfl) (by rfl) (.agg C) (by rfl) (enters_of func170 (by kernel_rfl) rfl)) hn ?_)
  rintro e w1 ⟨rfl,hq⟩;refine⟨_,rfl,?_⟩;simp only[stz];have HF:=hid hq;clear hq hn hcd hcf hck;go_wp2
  go_end0
  exact⟨rfl,HF.out⟩
 ·have hz:¬(m.kind:Int)=3:=by omega
  rw[if_neg hk,List.append_nil];have HF:=hid (⟨h,PStep.of0 (Mod.refl _ _)⟩:WrS w b wr Pr bs/\PStep Pr w w);generalize qB m.config=C at*;clear h he hd hcd hcf
  go_enter func174,ntmps174;go_wp2
  go_end0
  exact⟨rfl,HF.out⟩
end
def Own(v:Value):Nat->Prop:=fun k=>v.ownBlock=some k
def E4Rel(w0:World)(b wr:Nat)(Pr2:Nat->Prop)(bs:List UInt8)(l:List DescL)(i:Value)(w:World):Prop:=∃k:Nat,k<=l.length/\i=.int .i64 k/\WrS w b wr Pr2 (bs++(l.take k).flatMap descB)/\PStep Pr2 w0 w
theorem descsB_len{l:List DescL}(h:∀d∈l,SmallD d):(l.flatMap descB).length=35*l.length:=by
 induction l with
 |nil=>rfl
 |cons d l ih=>
  rw[List.flatMap_cons,List.length_append,descB_len (h d (by simp)),ih fun d hd=>h d (by simp[hd]),List.length_cons];omega
section
variable{w:World}{b wr c1 c4 c6:Nat}{Pr:Nat->Prop}{bs:List UInt8}
theorem enc4_any(h:WrS w b wr Pr bs)(hPr:∀k,Pr k->k<w.heap.size){m:ManL}{lv sv:Value}(he:EncEnv w b c1 c4 c6 (qN m.kind m.title m.config lv sv) Pr)(hc32:m.config.id.length=32){base:Nat}(hlv:GatD base w lv m.layers)(hsv:GatD base w sv m.subs)(hd:∀d∈m.layers++m.subs,SmallD d)(hlen:m.layers.length+m.subs.length<=24)(hl:bs.length<=300):
 Calls prog 175 #[.pointer (some ⟨c1,0,none⟩),.pointer (some ⟨c4,0,none⟩),.pointer (some ⟨c6,0,none⟩)] w (EncR w b wr Pr (bs++(UInt8.ofNat (m.layers++m.subs).length::(m.layers++m.subs).flatMap descB))):=by
 obtain⟨lad,lcp,rfl⟩:=hlv.slice;obtain⟨sad,scp,rfl⟩:=hsv.slice
 have hcl:w.cell? ⟨c1,0+37,none⟩=some (.slice lad m.layers.length lcp):=by rw[cell_of_row _ _ _ _ _ _ he.r1];exact man_37 hc32
 have hcs:w.cell? ⟨c1,0+38,none⟩=some (.slice sad m.subs.length scp):=by rw[cell_of_row _ _ _ _ _ _ he.r1];exact man_38 hc32
 have hll:(m.layers++m.subs).length<=24:=by rw[List.length_append];exact hlen
 have H:=hid h;have HE:=hid he;have HLV:=hid hlv;have HSV:=hid hsv;obtain⟨la,hla⟩:∃q,m.layers=q:=⟨_,rfl⟩;obtain⟨sa,hsa⟩:∃q,m.subs=q:=⟨_,rfl⟩
 obtain⟨M,hM⟩:∃M,qN m.kind m.title m.config (.slice lad m.layers.length lcp) (.slice sad m.subs.length scp)=M:=⟨_,rfl⟩;rw[hM]at HE;rw[hla]at HLV hd hll hlen hcl |-
 rw[hsa]at HSV hd hll hlen hcs |-;have HD:=hid hd;clear h he hlv hsv hd hM hla hsa;go_enter func175,ntmps175;go_upto_region 0 with(fail);refine wpR [3,1,3,1,1,1,3] ?_
 simp only[stz];refine wpXd (v:=(.slice lad la.length lcp)) 161 c1 (0+37) hcl underlying161 trivial ?_;simp only[stz]
 refine wpXd (v:=(.slice sad sa.length scp)) 161 c1 (0+38) hcs underlying161 trivial ?_;try simp only[nmz]
 refine wpD (xM 324 161 2 [(0,_),(1,_)] [.slice lad la.length lcp,.slice sad sa.length scp] (.slice none 0 0) 1 (by rfl) (by rfl) (by rfl) underlying324 (by kernel_rfl) (by omega) (by omega) (by intro v hv;simp at hv;rcases hv with rfl|rfl<;>rfl) (fun w1 hB1 hm1 hs1=>?_))
 replace hB1:w1.heap[w.heap.size]?=some (.cells #[.slice lad la.length lcp,.slice sad sa.length scp] 161 (0,0)):=hB1;try simp only[nmz]
 refine wpD (wpC func176 (concatD_any (Gat.keep0 HLV.out hm1) (Gat.keep0 HSV.out hm1) hB1 (by omega)) ?_);rintro e w2 ⟨v,rfl,hg2,hm2⟩;refine⟨_,rfl,?_⟩;simp only[stz]
 have hm02:=hm1.trans0 hm2;have hszw:=hm1.size;obtain⟨L,hL⟩:∃L,la++sa=L:=⟨_,rfl⟩;have HLL:=hid hL;have HD2:=hid HD.out;rw[hL]at hg2 hll HD2 |-
 obtain⟨vad,vcp,hv⟩:=hg2.slice;have hX:∀k,Own v k->w.heap.size<=k:=fun k hk=>Nat.le_trans hszw (Gat.lt hg2 hk).1;have h2:=H.out.addX hm02 hX
 have hP2:∀k,(Pr k\/Own v k)->k<w2.heap.size:=fun k hk=>hk.elim (fun hk=>by have:=hPr k hk;have:=hm02.size;omega) (fun hk=>(Gat.lt hg2 hk).2)
 have hE2:=HE.out.keep (PStep.of0 hm02);have hP02:PStep Pr w w2:=PStep.of0 hm02;have hlb:=descsB_len HD2.out;have hn:=wNum_any h2 hP2 L.length (by omega) (by omega)
 have hc4:w2.cell? ⟨c4,0,none⟩=some (.pointer (some ⟨b,0,none⟩)):=by simp[World.cell?,hE2.r4]
 obtain⟨Pr2,hPr2⟩:∃P,(fun k=>Pr k\/Own v k)=P:=⟨_,rfl⟩;have hpp:∀k,Pr k->Pr2 k:=fun k hk=>by rw[<-hPr2];exact .inl hk
 have hpo:∀k,v.ownBlock=some k->Pr2 k:=fun k hk=>by rw[<-hPr2];exact .inr hk
 rw[hPr2]at hn;have hP2':∀k,Pr2 k->k<w2.heap.size:=by rw[<-hPr2];exact hP2
 have hE3:EncEnv w2 b c1 c4 c6 M Pr2:=⟨hE2.r1,hE2.r4,hE2.r6,hpp _ hE2.p1,hpp _ hE2.p4,hpp _ hE2.p6⟩;have hvv:=hv;subst hv;clear hm1 hm2 hB1 hm02 h2 hX hP2 hE2 hPr2 hL
 go_upto_region 1 with(fail);refine wpR [1,3,3,1] ?_;simp only[stz];refine wpXd (v:=(.pointer (some ⟨b,0,none⟩))) 266 c4 0 hc4 underlying266 trivial ?_;simp only[stz]
 refine wpPL ?_;simp only[nmz];refine wpD (wpC func171 (hn) ?_);rintro e w3 ⟨rfl,hq,hs3⟩;refine⟨_,rfl,?_⟩;simp only[stz]
 have HG3:=hid (Gat.keep hg2 hs3 (fun q hq hn=>hn (hpo q hq)));have HE3:=hid (hE3.keep hs3)
 have HP3:Hid (∀k,Pr2 k->k<w3.heap.size):=hid fun k hk=>Nat.lt_of_lt_of_le (hP2' k hk) hs3.size;have HS3:=hid (hP02.trans (hs3.less hpp))
 have HR0:Hid (E4Rel w3 b wr Pr2 (bs++[UInt8.ofNat L.length]) L (.int .i64 (0:Nat)) w3):=hid ⟨0,Nat.zero_le _,rfl,by simpa using hq,PStep.of0 (Mod.refl _ _)⟩
 clear hq hs3 hn hg2 hE3 hP02 hc4 hP2';go_wp2
 go_loopw [18] (E4Rel w3 b wr Pr2 (bs++[UInt8.ofNat L.length]) L) (fun i _=>L.length-(intOf i).toNat)
 case atStart=>exact HR0.out
 case round=>
  rename World=>wr1
  obtain⟨k,hk,rfl,hwr,hst⟩:=hrel
  by_cases hlt:k<L.length
  ·have hz:(k:Int)<(L.length:Nat):=by omega
   have hgr:=Gat.keep HG3.out hst (fun q hq hn=>hn (hpo q hq));obtain⟨gb,cap',cur,hce,-,hcc,-,-,-⟩:=Gat.at hgr xZ k hlt;injection hce with hce1 hce2 hce3
   subst hce1 hce3;have hsm:=HD2.out _ (List.getElem_mem hlt);rw[jK hsm.id]at hcc;have hdz:(qB L[k]).size=35:=qO hsm.id
   have hdo:∀c∈qB L[k],c.oneCell'=true:=zJ _ _ _ _;have hEr:=HE3.out.keep hst
   have hPk:∀j,Pr2 j->j<wr1.heap.size:=fun j hj=>Nat.lt_of_lt_of_le (HP3.out j hj) hst.size
   have hlk:(bs++[UInt8.ofNat L.length]++(L.take k).flatMap descB).length<=3000:=by
    have h9:=descsB_len (l:=L.take k) (fun d hd=>HD2.out d (List.mem_of_mem_take hd));have h8:(L.take k).length<=24:=by rw[List.length_take];omega
    simp only[List.length_append,List.length_cons,List.length_nil];omega
   have hsn:(L.take (k+1)).flatMap descB=(L.take k).flatMap descB++descB L[k]:=by rw[List.take_succ_eq_append_getElem hlt,List.flatMap_append];simp
   have HSN:=hid hsn;generalize L[k]=y at*;obtain⟨C,hC⟩:∃C,qB y=C:=⟨_,rfl⟩;have HWR:=hid hwr;have HST:=hid hst;have HSM:=hid hsm;have HC:=hid hC
   rw[hC]at hcc hdz hdo;clear hgr hce2 hsn hwr hst hsm hC;go_upto_region 4 with(fail);refine wpR [3,1,1,1] ?_;simp only[stz];refine wpPI underlying161 35 hlt ?_
   simp only[nmz];refine wpXA 46 gb (k*35) C hcc underlying46 35 hdz trivial ?_;try simp only[nmz]
   refine wpD (qP 46 _ (by rfl) descZ_i (fun wf hBf hmf hsf=>?_));replace hBf:wf.heap[wr1.heap.size]?=some (.cells (qB descZ) 46 (0,0)):=hBf
   try simp only[nmz]
   refine wpDo rfl ?_
   refine qF 46 _ _ wr1.heap.size 0 C (by rfl) (by rfl) (by rfl) hdo 35 (by kernel_rfl) hdz _ _ hBf (by rw[hdz];exact Nat.le_of_eq (qO qV).symm) (fun wg hBg hmg=>?_)
   rw[qC (by rw[hdz];exact(qO qV).symm)]at hBg;simp only[stz];have hmrg:Mod NoB wr1 wg:=hmf.transB hmg (Nat.le_refl _)
   have hEg:=hEr.keep (PStep.of0 hmrg);have hcg:CellsAt wg wr1.heap.size 0 C:=CellsAt.whole hBg
   have hcf:wg.cell? ⟨c6,0,none⟩=some (.func (.func 170) #[] #[.pointer (some ⟨c4,0,none⟩)]):=by simp[World.cell?,hEg.r6]
   have hn2:=enc2_any (HWR.out.keep0 hmrg) (fun j hj=>Nat.lt_of_lt_of_le (hPk j hj) hmrg.size) hEg.r4 hEg.p4 HSM.out hlk;rw[HC.out]at hn2;generalize wr1.heap.size=b5 at*
   have HMG:=hid (HST.out.trans (PStep.of0 hmrg));clear hBf hBg hmf hmg hcc hEr hEg hmrg hsf;go_upto_region 5 with(fail);refine wpR [1,1,1] ?_;simp only[stz]
   refine wpXd (v:=(.func (.func 170) #[] #[.pointer (some ⟨c4,0,none⟩)])) 272 c6 0 hcf underlying272 trivial ?_;try simp only[nmz]
   refine wpXA 46 b5 0 C hcg underlying46 35 hdz trivial ?_;try simp only[nmz]
   refine wpD (zQ (run_clos _ _ _ 170 #[.pointer (some ⟨c4,0,none⟩)] (by rfl) (by rfl) (.agg C) (by rfl) (enters_of func170 (by kernel_rfl) rfl)) hn2 ?_)
   rintro e w5 ⟨rfl,hq5,hs5⟩;refine⟨_,rfl,?_⟩;simp only[stz]
   have HQ:Hid (E4Rel w3 b wr Pr2 (bs++[UInt8.ofNat L.length]) L (.int .i64 ((k+1:Nat):Int)) w5):=hid ⟨k+1,hlt,rfl,by rw[HSN.out,<-List.append_assoc];exact hq5,HMG.out.trans hs5⟩
   clear hq5 hs5 hn2 hcf hcg;go_wp2
   go_roundw
   case rel=>exact HQ.out
   case measure=>simp[intOf];omega
  ·have hz:¬(k:Int)<(L.length:Nat):=by omega
   obtain rfl:k=L.length:=by omega
   rw[List.take_length]at hwr
   have HF:=hid (⟨by simpa using hwr.less hpp,HS3.out.trans (hst.less hpp)⟩:WrS wr1 b wr Pr (bs++(UInt8.ofNat L.length::L.flatMap descB))/\PStep Pr w wr1);clear hwr hst
   go_wp2
   go_end0
   have h9:=HF.out;rw[<-HLL.out]at h9;exact⟨rfl,by simpa using h9⟩
def AllAt(w:World)(R c1 c4 c6:Nat):Prop:=w.heap[R]?=some (.cells #[.func (.func 178) #[] #[.pointer (some ⟨c4,0,none⟩)],.func (.func 179) #[] #[.pointer (some ⟨c4,0,none⟩),.pointer (some ⟨c1,0,none⟩)],.func (.func 180) #[] #[.pointer (some ⟨c4,0,none⟩),.pointer (some ⟨c1,0,none⟩)],
 .func (.func 174) #[] #[.pointer (some ⟨c1,0,none⟩),.pointer (some ⟨c6,0,none⟩)],.func (.func 175) #[] #[.pointer (some ⟨c1,0,none⟩),.pointer (some ⟨c4,0,none⟩),.pointer (some ⟨c6,0,none⟩)]] 1 (0,0))
end
def AllRel(w0:World)(b wr:Nat)(Pr:Nat->Prop)(ps:List (List UInt8))(i:Value)(w:World):Prop:=∃k:Nat,k<=5/\i=.int .i64 k/\WrS w b wr Pr (ps.take k).flatten/\PStep Pr w0 w
theorem mAll_any{w:World}{b wr R:Nat}{Pr:Nat->Prop}{fs:Array Value}{ps:List (List UInt8)}(h:WrS w b wr Pr [])(hPr:∀k,Pr k->k<w.heap.size)(hR:w.heap[R]?=some (.cells fs 1 (0,0)))(hpR:Pr R)(hps:ps.length=5)(hlen:ps.flatten.length<=4000)
 (hf:∀k (hk:k<5),∃gf lb,fs[k]?=some (.func (.func gf) #[] lb)/\(∀args w,(callFunc gf args).run prog w=.ok (.enter gf args) w)/\∀w',PStep Pr w w'->WrS w' b wr Pr (ps.take k).flatten->(∀k,Pr k->k<w'.heap.size)->Calls prog gf lb w' (EncR w' b wr Pr ((ps.take k).flatten++ps[k]))):
 Calls prog 177 #[.pointer (some ⟨b,0,none⟩),.slice (some ⟨R,0,none⟩) 5 5] w (fun e w'=>PStep Pr w w'/\∃v,e=.returned (.tuple #[v,.int .i64 0])/\Bts w.heap.size w' v ps.flatten):=by
 have HF0:=Lib.hid hf;have HPR:=Lib.hid hPr;have HR:=Lib.hid hR
 have HR0:Hid (AllRel w b wr Pr ps (.int .i64 (0:Nat)) w):=Lib.hid ⟨0,by omega,rfl,by simpa using h,PStep.of0 (Mod.refl _ _)⟩;clear hf hPr hR h;go_enter func177,ntmps177
 go_wp2
 go_loopw [10] (AllRel w b wr Pr ps) (fun i _=>5-(intOf i).toNat)
 case atStart=>exact HR0.out
 case round=>
  rename World=>wq
  obtain⟨k,hk,rfl,hwr,hst⟩:=hrel
  by_cases hlt:k<5
  ·have hz:(k:Int)<5:=by omega
   obtain⟨gf,lb,hcf,hen,hcall⟩:=HF0.out k hlt;have hc:=hcall wq hst hwr (fun j hj=>Nat.lt_of_lt_of_le (HPR.out j hj) hst.size);have hRq:=hst.obj hpR HR.out
   have hcell:wq.cell? ⟨R,k*1,none⟩=some (.func (.func gf) #[] lb):=by rw[Nat.mul_one,cell_of_row _ _ _ _ _ _ hRq];exact hcf
   have hsn:(ps.take (k+1)).flatten=(ps.take k).flatten++ps[k]:=by rw[List.take_succ_eq_append_getElem (by omega),List.flatten_append];simp
   have HSN:=Lib.hid hsn;have HST:=Lib.hid hst;have HC:=Lib.hid hc;have HEN:=Lib.hid hen;clear hwr hst hcall hc hsn hen hcf hRq;go_upto_region 3 with(fail)
   refine wpR [3,1,3] ?_;simp only[stz];refine wpPI underlying326 1 hlt ?_;simp only[nmz];refine wpX rfl (xO 1 _ rfl R (k*1) rfl _ hcell _ underlying1 rfl) trivial ?_
   simp only[stz];go_upto_region 4 with(fail);refine wpR [3,1] ?_;simp only[stz];refine wpD (wp_callv gf _ [] #[] #[] lb (by rfl) (by rfl) HEN.out ?_)
   refine Calls.mono (by simpa using HC.out) ?_;rintro e w5 ⟨rfl,hq5,hs5⟩;refine⟨_,rfl,?_⟩;simp only[stz]
   have HQ:Hid (AllRel w b wr Pr ps (.int .i64 ((k+1:Nat):Int)) w5):=Lib.hid ⟨k+1,by omega,rfl,by rw[HSN.out];exact hq5,HST.out.trans hs5⟩;clear hq5 hs5 hcell
   go_wp2
   go_roundw
   case rel=>exact HQ.out
   case measure=>simp[intOf];omega
  ·have hz:¬(k:Int)<5:=by omega
   obtain rfl:k=5:=by omega
   rw[List.take_of_length_le (by omega)]at hwr;have hdn:=wDone_any hwr (by omega);have HST:=Lib.hid hst;clear hwr hst;go_upto_region 6 with(fail)
   refine wpR [3,1,3,3,3,3] ?_;simp only[stz];refine wpD (wpC func224 (hdn) ?_);rintro e w6 ⟨hm6,v6,rfl,hb6⟩;refine⟨_,rfl,?_⟩;try simp only[nmz]
   refine qE rfl (fun w'=>qI _ 0 #[v6,.int .i64 0] rfl rfl v6 rfl) ?_;simp only[nmz]
   refine qE rfl (fun w'=>qI _ 1 #[v6,.int .i64 0] rfl rfl (.int .i64 0) rfl) ?_;simp only[stz]
   have HF:Hid (PStep Pr w w6/\Bts w.heap.size w6 v6 ps.flatten):=Lib.hid ⟨HST.out.trans (PStep.of0 hm6),yW hb6 HST.out.size⟩;clear hm6 hb6 hdn;go_wp2;go_ret2
   exact⟨HF.out.1,v6,rfl,HF.out.2⟩
theorem enc1_any(d:DescL)(hid:d.id.length=32)(w:World):Calls prog 168 #[.agg (qB d)] w (RetM (.bool false) w):=by
 obtain⟨C,hC⟩:∃C,qB d=C:=⟨_,rfl⟩;have q0:C[0]?=some (.int .i64 d.media):=by rw[<-hC];rfl
 have q33:C[33]?=some (.int .i64 d.size):=by
  rw[<-hC,<-Array.getElem?_toList];simp only[qB,zX];rw[List.getElem?_cons_succ,List.getElem?_append_right (by simp[hid])]
  simp[hid]
 have hz1:¬(d.media:Int)<0:=by omega
 have hz2:¬(d.size:Int)<0:=by omega
 rw[hC];clear hC;go_enter func168,ntmps168;go_upto_region 0 with(fail);refine wpR [1,3] ?_;simp only[stz]
 refine wpD (zT 46 _ _ (by rfl) (by rfl) (fun w1 hB1 hm1 hs1=>?_));replace hB1:w1.heap[w.heap.size]?=some (.cells C 46 (0,0)):=hB1;simp only[stz]
 have h0:w1.cell? ⟨w.heap.size,0,none⟩=some (.int .i64 d.media):=by rw[cell_of_row _ _ _ _ _ _ hB1];exact q0
 have h33:w1.cell? ⟨w.heap.size,0+33,none⟩=some (.int .i64 d.size):=by rw[cell_of_row _ _ _ _ _ _ hB1];exact q33
 have HM:=Lib.hid hm1;clear hm1 hB1;go_upto_region 1 with(fail);refine wpR [3,1,3,3,3,1,3,3,3] ?_;simp only[stz]
 refine wpXd (v:=(.int .i64 d.media)) 3 w.heap.size 0 h0 underlying3 trivial ?_;try simp only[nmz]
 refine qG _ _ _ _ _ _ _ _ rfl rfl rfl rfl rfl false (decide_eq_false hz1) ?_;simp only[stz]
 refine wpXd (v:=(.int .i64 d.size)) 3 w.heap.size (0+33) h33 underlying3 trivial ?_;try simp only[nmz]
 refine qG _ _ _ _ _ _ _ _ rfl rfl rfl rfl rfl false (decide_eq_false hz2) ?_;simp only[stz];go_wp2;go_ret;exact⟨rfl,HM.out⟩
def IxRel(w0:World)(n:Nat)(i:Value)(w:World):Prop:=∃k:Nat,k<=n/\i=.int .i64 k/\Mod NoB w0 w
theorem indexFD_none{w:World}{base:Nat}{v:Value}{l:List DescL}(hv:GatD base w v l)(h32:∀d∈l,d.id.length=32)(hl:l.length<=1000):Calls prog 221 #[v,.func (.func 168) #[] #[]] w (RetM (.int .i64 (-1)) w):=by
 obtain⟨ad,cap,hve⟩:=hv.slice;have HV:=Lib.hid hv;have H32:=Lib.hid h32
 have HR0:Hid (IxRel w l.length (.int .i64 (0:Nat)) w):=Lib.hid ⟨0,Nat.zero_le _,rfl,Mod.refl _ _⟩;clear hv h32;rw[hve]at HV |-;clear hve;go_enter func221,ntmps221;go_wp2
 go_loopw [8] (IxRel w l.length) (fun i _=>l.length-(intOf i).toNat)
 case atStart=>exact HR0.out
 case round=>
  rename World=>wr
  obtain⟨k,hk,rfl,hmr⟩:=hrel
  by_cases hlt:k<l.length
  ·have hz:(k:Int)<(l.length:Nat):=by omega
   obtain⟨gb,cap',cur,hce,-,hcA,-,-,-⟩:=Gat.at (Gat.keep0 HV.out hmr) xZ k hlt;have hx32:=H32.out _ (List.getElem_mem hlt);rw[jK hx32]at hcA
   generalize l[k]=d at*
   cases hce
   have hdz:(qB d).size=35:=qO hx32;have hcall:=enc1_any d hx32 wr;generalize qB d=C at*;go_upto_region 4 with(fail)
   refine wpR [3,3,3,3,1,1] ?_;simp only[stz];refine wpPI underlying161 35 hlt ?_;simp only[nmz];refine wpXA 46 gb (k*35) C hcA underlying46 35 hdz trivial ?_
   try simp only[nmz]
   refine wpD (zQ (run_clos _ _ _ 168 #[] (by rfl) (by rfl) (.agg C) (by rfl) (enters_of func168 (by kernel_rfl) rfl)) hcall ?_);rintro e w5 ⟨rfl,hm5⟩;refine⟨_,rfl,?_⟩
   simp only[stz];have HQ:Hid (IxRel w l.length (.int .i64 ((k+1:Nat):Int)) w5):=Lib.hid ⟨k+1,hlt,rfl,hmr.trans0 hm5⟩;clear hmr hm5 hcA hcall;go_wp2
   go_roundw
   case rel=>exact HQ.out
   case measure=>simp[intOf];omega
  ·have hz:¬(k:Int)<(l.length:Nat):=by omega
   have HF:=Lib.hid hmr;clear hmr;go_wp2;go_ret;exact⟨rfl,HF.out⟩
theorem containsFD_none{w:World}{base:Nat}{v:Value}{l:List DescL}(hv:GatD base w v l)(h32:∀d∈l,d.id.length=32)(hl:l.length<=1000):Calls prog 167 #[v,.func (.func 168) #[] #[]] w (RetM (.bool false) w):=by
 have hi:=indexFD_none hv h32 hl;obtain⟨ad,cap,rfl⟩:=hv.slice;clear hv;go_enter func167,ntmps167;go_upto_region 1 with(fail);refine wpR [3,3,1,3,3] ?_;simp only[stz]
 refine wpD (wpCM func221 (hi) fun w1 hm1=>?_);try simp only[nmz]
 refine qG _ _ _ _ _ _ _ _ rfl rfl rfl rfl rfl false rfl ?_;simp only[stz];have HF:=Lib.hid hm1;clear hm1 hi;go_wp2;go_ret;exact⟨rfl,HF.out⟩
theorem descGuard:prog.eqGuardType prog.depth 46=false:=by kernel_rfl
theorem run_eql_descZ(w:World):(Go.binOp .eql 46 (.agg (qB descZ)) (.agg (qB descZ))).run prog w=.ok (.bool true) w:=by kernel_rfl
theorem exec_eql_descZ{w:World}{o:Oper}{a:Act}(x y:Operand)(yt:TypeId)(ho:o.op=.binOp .eql 46 x y yt)(hx:a.eval x=.agg (qB descZ))(hy:a.eval y=.agg (qB descZ)):(execOp a.eval o).run prog w=.ok (.value (.bool true)) w:=by
 have h1:=run_eqGuard_agg (P:=prog) w .eql 46 x y (qB descZ) (qB descZ) descGuard;unfold execOp
 simp only[ho,hx,hy,Sem.run_bind,h1,Result.andThen_ok,run_eql_descZ,Sem.run_pure]
structure SmallM(m:ManL):Prop where
 title:m.title=[]
 id:m.config.id.length=32
 kind:(m.kind=3/\SmallD m.config/\m.subs=[])\/(m.kind=4/\m.config=descZ/\m.layers=[])
 all:∀d∈m.layers++m.subs,SmallD d
 len:m.layers.length<=16/\m.subs.length<=8
theorem built_desc0:prog.built 46 []=some (qB descZ):=by kernel_rfl
theorem mKinds_any{m:ManL}(hm:SmallM m){lad sad:Option Addr}{lc sc:Nat}(w:World):Calls prog 166 #[.agg (qN m.kind m.title m.config (.slice lad m.layers.length lc) (.slice sad m.subs.length sc))] w (RetM (.bool true) w):=by
 have q0:=man_kind m.kind m.title m.config (.slice lad m.layers.length lc) (.slice sad m.subs.length sc)
 have q37:=man_37 (k:=m.kind) (t:=m.title) (lv:=.slice lad m.layers.length lc) (sv:=.slice sad m.subs.length sc) hm.id
 have q38:=man_38 (k:=m.kind) (t:=m.title) (lv:=.slice lad m.layers.length lc) (sv:=.slice sad m.subs.length sc) hm.id
 have q2:=man_config (k:=m.kind) (t:=m.title) (lv:=.slice lad m.layers.length lc) (sv:=.slice sad m.subs.length sc) hm.id
 have hdz:(qB m.config).size=35:=qO hm.id;have hkd:=hm.kind
 obtain⟨M,hM⟩:∃M,qN m.kind m.title m.config (.slice lad m.layers.length lc) (.slice sad m.subs.length sc)=M:=⟨_,rfl⟩;rw[hM]at q0 q37 q38 q2 |-;clear hM hm
 go_enter func166,ntmps166;go_upto_region 0 with(fail);refine wpR [1,3] ?_;simp only[stz];refine wpD (zT 163 _ _ (by rfl) (by rfl) (fun w1 hB1 hm1 hs1=>?_))
 replace hB1:w1.heap[w.heap.size]?=some (.cells M 163 (0,0)):=hB1;simp only[stz]
 have h0:w1.cell? ⟨w.heap.size,0,none⟩=some (.int .i64 m.kind):=by rw[cell_of_row _ _ _ _ _ _ hB1];exact q0
 have h37:w1.cell? ⟨w.heap.size,0+37,none⟩=some (.slice lad m.layers.length lc):=by rw[cell_of_row _ _ _ _ _ _ hB1];exact q37
 have h38:w1.cell? ⟨w.heap.size,0+38,none⟩=some (.slice sad m.subs.length sc):=by rw[cell_of_row _ _ _ _ _ _ hB1];exact q38
 have h2:CellsAt w1 w.heap.size (0+2) (qB m.config):=CellsAt.of_obj hB1 (by rw[Nat.zero_add];exact q2);have HM:=hid hm1;clear hm1 hB1 q0 q37 q38 q2
 rcases hkd with⟨hk,-,hs⟩|⟨hk,hc,hl⟩
 ·rw[hk]at h0
  rw[hs]at h38;go_upto_region 1 with(fail);refine wpR [3,1] ?_;simp only[stz];refine wpXd (v:=(.int .i64 ((3:Nat):Int))) 3 w.heap.size 0 h0 underlying3 trivial ?_
  simp only[stz];go_upto_region 3 with(fail);refine wpR [3,1,3,3,3] ?_;simp only[stz]
  refine wpXd (v:=(.slice sad 0 sc)) 161 w.heap.size (0+38) h38 underlying161 trivial ?_;try simp only[nmz]
  refine wpPL ?_;simp only[nmz];refine qG _ _ _ _ _ _ _ _ rfl rfl rfl rfl rfl true rfl ?_;simp only[stz];go_wp2;go_ret;exact⟨rfl,HM.out⟩
 ·rw[hk]at h0
  rw[hl]at h37;rw[hc]at h2 hdz;have hz3:¬((4:Nat):Int)=3:=by omega
  go_upto_region 1 with(fail);refine wpR [3,1] ?_;simp only[stz];refine wpXd (v:=(.int .i64 ((4:Nat):Int))) 3 w.heap.size 0 h0 underlying3 trivial ?_;simp only[stz]
  go_upto_region 5 with(fail);refine wpR [3,1,3,3,3,3,1,0,0,3,3] ?_;simp only[stz]
  refine wpXd (v:=(.slice lad 0 lc)) 161 w.heap.size (0+37) h37 underlying161 trivial ?_;try simp only[nmz]
  refine wpPL ?_;simp only[nmz];refine qG _ _ _ _ _ _ _ _ rfl rfl rfl rfl rfl true rfl ?_;simp only[stz]
  refine wpXA 46 w.heap.size (0+2) (qB descZ) h2 underlying46 35 hdz trivial ?_;try simp only[nmz]
  refine qQ rfl (fun w' hS=>qL 46 [] [] _ (by rfl) (by rfl) built_desc0) ?_;simp only[nmz]
  refine qQ rfl (fun w' hS=>exec_eql_descZ _ _ _ rfl rfl rfl) ?_;simp only[stz];go_wp2;go_ret;exact⟨rfl,HM.out⟩
theorem exec_mkFunc{w:World}{o:Oper}{a:Act}(fn:Fn)(l:List Operand)(vs:List Value)(ho:o.op=.makeFunc fn #[] l.toArray)(hv:l.map a.eval=vs):(execOp a.eval o).run prog w=.ok (.value (.func fn #[] vs.toArray)) w:=by
 subst hv;unfold execOp;simp only[ho,Sem.run_bind,makeFunc_run,Result.andThen_ok,Sem.run_pure,List.map_toArray]
 rfl
def encB(m:ManL):List (List UInt8):=[[77],[UInt8.ofNat m.kind],[0],if m.kind=3 then descB m.config else [],UInt8.ofNat (m.layers++m.subs).length::(m.layers++m.subs).flatMap descB]
def encL(m:ManL):List UInt8:=(encB m).flatten
def EncodeR(w:World)(bs:List UInt8):Ending->World->Prop:=fun e w'=>Mod NoB w w'/\∃v,e=.returned (.tuple #[v,.int .i64 0])/\Bts w.heap.size w' v bs
theorem pWriterZ:(prog.info? 266).bind (·.zero)=some (.pointer none):=by kernel_rfl
theorem fDescZ:(prog.info? 272).bind (·.zero)=some .nilFunc:=by kernel_rfl
theorem encB_len{m:ManL}(hm:SmallM m):(encB m).flatten.length<=4000/\((encB m).take 4).flatten.length<=300:=by
 have h1:=descsB_len hm.all;have h2:=hm.len;have h4:(m.layers++m.subs).length<=24:=by rw[List.length_append];omega
 have h3:(if m.kind=3 then descB m.config else []).length<=35:=by
  split
  ·rcases hm.kind with⟨_,h,_⟩|⟨h,_⟩
   ·rw[descB_len h];exact Nat.le_refl _
   ·omega
  ·simp
 constructor
 ·simp only[encB,List.flatten_cons,List.flatten_nil,List.length_append,List.length_cons,List.length_nil]
  omega
 ·simp only[encB,List.take_succ_cons,List.take_zero,List.flatten_cons,List.flatten_nil,List.length_append,List.length_cons,List.length_nil]
  omega
theorem mEncode_any{w:World}{m:ManL}(hm:SmallM m){base:Nat}{lv sv:Value}(hlv:GatD base w lv m.layers)(hsv:GatD base w sv m.subs):Calls prog 90 #[.agg (qN m.kind m.title m.config lv sv)] w (EncodeR w (encL m)):=by
 obtain⟨lad,lcp,rfl⟩:=hlv.slice;obtain⟨sad,scp,rfl⟩:=hsv.slice;have HM:=hid hm;have HLV:=hid hlv;have HSV:=hid hsv;have hll:=hm.len
 have hkd:=fun w'=>mKinds_any hm (lad:=lad) (sad:=sad) (lc:=lcp) (sc:=scp) w'
 have hds:=fun w' (hm':Mod NoB w w')=>mDescs_any (base:=base) (w:=w') (cs:=qN m.kind m.title m.config (.slice lad m.layers.length lcp) (.slice sad m.subs.length scp)) (m:=m) ⟨hm.id,_,_,rfl,Gat.keep0 hlv hm',Gat.keep0 hsv hm'⟩ ⟨by omega,by omega⟩
 have hmz:=qS (k:=m.kind) (t:=m.title) (lv:=.slice lad m.layers.length lcp) (sv:=.slice sad m.subs.length scp) hm.id
 have q37:=man_37 (k:=m.kind) (t:=m.title) (lv:=.slice lad m.layers.length lcp) (sv:=.slice sad m.subs.length scp) hm.id
 have q38:=man_38 (k:=m.kind) (t:=m.title) (lv:=.slice lad m.layers.length lcp) (sv:=.slice sad m.subs.length scp) hm.id
 have h32:∀d∈zE m,d.id.length=32:=fun d hd=>by
  unfold zE at hd
  rcases List.mem_append.1 hd with h|h
  ·rcases List.mem_append.1 h with h|h
   ·split at h
    ·rw[List.mem_singleton.1 h];exact hm.id
    ·cases h
   ·exact(hm.all d (List.mem_append_left _ h)).id
  ·exact(hm.all d (List.mem_append_right _ h)).id
 have hdl:(zE m).length<=1000:=by
  unfold zE;simp only[List.length_append]
  split<;>simp<;>omega
 obtain⟨M,hM⟩:∃M,qN m.kind m.title m.config (.slice lad m.layers.length lcp) (.slice sad m.subs.length scp)=M:=⟨_,rfl⟩;rw[hM]at hkd hmz q37 q38 |-
 simp only[hM]at hds;have HMM:=hid hM;have HDS:=hid hds;have H32:=hid h32;clear hlv hsv hm hM hds h32;go_enter func90,ntmps90;go_upto_region 0 with(fail)
 refine wpR [1,3,3] ?_;simp only[stz];refine wpD (zT 163 _ _ (by rfl) (by rfl) (fun w1 hB1 hm1 hs1=>?_))
 replace hB1:w1.heap[w.heap.size]?=some (.cells M 163 (0,0)):=hB1;simp only[stz];have hc1:CellsAt w1 w.heap.size 0 M:=CellsAt.whole hB1;go_upto_region 1 with(fail)
 refine wpR [1,1,3,3] ?_;simp only[stz];refine wpXA 163 w.heap.size 0 M hc1 underlying163 39 hmz trivial ?_;try simp only[nmz]
 refine wpD (wpCM func166 (hkd w1) fun w2 hm2=>?_);try simp only[stz]
 try refine zH _ _ _ rfl rfl rfl ?_
 try simp only[stz]
 have hc2:=hc1.keep hm2 id;have hm02:=hm1.trans0 hm2;go_upto_region 3 with(fail);refine wpR [1,1,1,3] ?_;simp only[stz]
 refine wpXA 163 w.heap.size 0 M hc2 underlying163 39 hmz trivial ?_;try simp only[nmz]
 refine wpD (wpC func159 (HDS.out w2 hm02) ?_);rintro e w3 ⟨hm3,dv,rfl,hgd⟩;obtain⟨dad,dcp,rfl⟩:=hgd.slice;have hcf:=containsFD_none hgd H32.out hdl;refine⟨_,rfl,?_⟩
 try simp only[nmz]
 refine wpD (wpCM func167 hcf fun w4 hm4=>?_);simp only[stz];have hc4':=(hc2.keep hm3 id).keep hm4 id;have hm04:=(hm02.trans0 hm3).trans0 hm4
 have hB4:w4.heap[w.heap.size]?=some (.cells M 163 (0,0)):=hm4.obj id (hm3.obj id (hm2.obj id hB1))
 have hw1s:w.heap.size<w4.heap.size:=(Array.getElem?_eq_some_iff.1 hB4).1
 have k37:w4.cell? ⟨w.heap.size,0+37,none⟩=some (.slice lad m.layers.length lcp):=by rw[cell_of_row _ _ _ _ _ _ hB4];exact q37
 have k38:w4.cell? ⟨w.heap.size,0+38,none⟩=some (.slice sad m.subs.length scp):=by rw[cell_of_row _ _ _ _ _ _ hB4];exact q38
 have hz1:¬(16:Int)<(m.layers.length:Nat):=by omega
 have hz2:¬(8:Int)<(m.subs.length:Nat):=by omega
 have HM04:=hid hm04;clear hm1 hm2 hm3 hm4 hm02 hc1 hc2 hcf hgd hkd q37 q38 hB1 hs1 hm04 hc4' hmz;generalize hc1e:w.heap.size=c1 at*;go_upto_region 5 with(fail)
 refine wpR [3,1,3,3,3,3,1,3,3,3,3] ?_;simp only[stz];refine wpXd (v:=(.slice lad m.layers.length lcp)) 161 c1 (0+37) k37 underlying161 trivial ?_;try simp only[nmz]
 refine wpPL ?_;simp only[nmz];refine qG _ _ _ _ _ _ _ _ rfl rfl rfl rfl rfl false (decide_eq_false hz1) ?_;simp only[stz]
 refine wpXd (v:=(.slice sad m.subs.length scp)) 161 c1 (0+38) k38 underlying161 trivial ?_;try simp only[nmz]
 refine wpPL ?_;simp only[nmz];refine qG _ _ _ _ _ _ _ _ rfl rfl rfl rfl rfl false (decide_eq_false hz2) ?_;simp only[stz];clear k37 k38;go_upto_region 7 with(fail)
 refine wpR [1,3,3,3,1,1,3] ?_;simp only[stz];refine wpD (wpC func169 (wNew_any w4) ?_);rintro e w5 ⟨hm5,b,wr,rfl,hwr,hb,hrl,hrb⟩;refine⟨_,rfl,?_⟩;simp only[stz]
 refine qE rfl (fun w'=>qI _ 0 #[.pointer (some ⟨b,0,none⟩),.int .i64 0] rfl rfl (.pointer (some ⟨b,0,none⟩)) rfl) ?_;simp only[nmz]
 refine qE rfl (fun w'=>qI _ 1 #[.pointer (some ⟨b,0,none⟩),.int .i64 0] rfl rfl (.int .i64 0) rfl) ?_;simp only[nmz]
 refine wpD (qP 266 _ (by rfl) pWriterZ (fun w6 hB6 hm6 hs6=>?_));replace hB6:w6.heap[w5.heap.size]?=some (.cells #[.pointer none] 266 (0,0)):=hB6;try simp only[nmz]
 refine wpD (qT 266 _ _ w5.heap.size 0 (.pointer (some ⟨b,0,none⟩)) (by rfl) (by rfl) (by rfl) (by first|rfl|assumption) (by kernel_rfl) _ _ hB6 (by simp) (fun w7 hB7 hm7=>?_))
 replace hB7:w7.heap[w5.heap.size]?=some (.cells #[.pointer (some ⟨b,0,none⟩)] 266 (0,0)):=hB7;simp only[stz];have hm57:Mod NoB w5 w7:=hm6.transB hm7 (Nat.le_refl _)
 have hwr7:=hm57.obj id hwr;have hb7:=hm57.obj id hb;have hM7:=hm57.obj id (hm5.obj id hB4);have hbl:=(Array.getElem?_eq_some_iff.1 hb).1;have h67:=hm7.size
 have hm07:=(HM04.out.trans0 hm5).trans0 hm57;generalize hc4e:w5.heap.size=c4 at*;clear hm5 hm6 hm7 hm57 hwr hb hB4 hB6;go_upto_region 8 with(fail);refine wpR [1,1,1] ?_
 simp only[stz];refine wpX rfl (exec_mkFunc _ [.tmp 4] [.pointer (some ⟨c4,0,none⟩)] (by rfl) (by rfl)) trivial ?_;try simp only[nmz]
 refine wpD (qP 272 _ (by rfl) fDescZ (fun w8 hB8 hm8 hs8=>?_));replace hB8:w8.heap[w7.heap.size]?=some (.cells #[.nilFunc] 272 (0,0)):=hB8;try simp only[nmz]
 refine wpD (qT 272 _ _ w7.heap.size 0 (.func (.func 170) #[] #[.pointer (some ⟨c4,0,none⟩)]) (by rfl) (by rfl) (by rfl) (by first|rfl|assumption) (by kernel_rfl) _ _ hB8 (by simp) (fun w9 hB9 hm9=>?_))
 replace hB9:w9.heap[w7.heap.size]?=some (.cells #[.func (.func 170) #[] #[.pointer (some ⟨c4,0,none⟩)]] 272 (0,0)):=hB9;simp only[stz]
 have hm79:Mod NoB w7 w9:=hm8.transB hm9 (Nat.le_refl _);have hwr9:=hm79.obj id hwr7;have hb9:=hm79.obj id hb7;have hM9:=hm79.obj id hM7;have h49:=hm79.obj id hB7
 have h89:=hm9.size;have hm09:=hm07.trans0 hm79;have hs78:w7.heap.size<w8.heap.size:=hs8;have hs56:c4<w6.heap.size:=hs6;generalize hc6e:w7.heap.size=c6 at*
 clear hm8 hm9 hm79 hwr7 hb7 hM7 hB7 hB8 hm07;go_upto_region 9 with(fail);refine wpR [1,3] ?_;simp only[stz]
 refine wpX rfl (exec_mkFunc _ [.tmp 1,.tmp 6] [.pointer (some ⟨c1,0,none⟩),.pointer (some ⟨c6,0,none⟩)] (by rfl) (by rfl)) trivial ?_;simp only[stz]
 go_upto_region 10 with(fail);refine wpR [1,3] ?_;simp only[stz]
 refine wpX rfl (exec_mkFunc _ [.tmp 1,.tmp 4,.tmp 6] [.pointer (some ⟨c1,0,none⟩),.pointer (some ⟨c4,0,none⟩),.pointer (some ⟨c6,0,none⟩)] (by rfl) (by rfl)) trivial ?_
 simp only[stz];have hcw:w9.cell? ⟨c4,0,none⟩=some (.pointer (some ⟨b,0,none⟩)):=by simp[World.cell?,h49]
 go_upto_region 11 with(fail);refine wpR [1,1,1,1,3,3,1,1,3,3,3,3] ?_;simp only[stz]
 refine wpXd (v:=(.pointer (some ⟨b,0,none⟩))) 266 c4 0 hcw underlying266 trivial ?_;try simp only[nmz]
 refine wpX rfl (exec_mkFunc _ [.tmp 4] [.pointer (some ⟨c4,0,none⟩)] (by rfl) (by rfl)) trivial ?_;try simp only[nmz]
 refine wpX rfl (exec_mkFunc _ [.tmp 4,.tmp 1] [.pointer (some ⟨c4,0,none⟩),.pointer (some ⟨c1,0,none⟩)] (by rfl) (by rfl)) trivial ?_;try simp only[nmz]
 refine wpX rfl (exec_mkFunc _ [.tmp 4,.tmp 1] [.pointer (some ⟨c4,0,none⟩),.pointer (some ⟨c1,0,none⟩)] (by rfl) (by rfl)) trivial ?_;simp only[stz]
 refine wpD (xM 326 1 5 [(0,_),(1,_),(2,_),(3,_),(4,_)] [.func (.func 178) #[] #[.pointer (some ⟨c4,0,none⟩)],.func (.func 179) #[] #[.pointer (some ⟨c4,0,none⟩),.pointer (some ⟨c1,0,none⟩)],.func (.func 180) #[] #[.pointer (some ⟨c4,0,none⟩),.pointer (some ⟨c1,0,none⟩)],.func (.func 174) #[] #[.pointer (some ⟨c1,0,none⟩),.pointer (some ⟨c6,0,none⟩)],.func (.func 175) #[] #[.pointer (some ⟨c1,0,none⟩),.pointer (some ⟨c4,0,none⟩),.pointer (some ⟨c6,0,none⟩)]] .nilFunc 1 (by rfl) (by rfl) (by rfl) underlying326 (by kernel_rfl) (by omega) (by omega) (by simp[Value.cells]) (fun wa hBa hma hsa=>?_))
 replace hBa:AllAt wa w9.heap.size c1 c4 c6:=hBa;try simp only[nmz]
 refine wpDo rfl ?_;have hmm:=HM.out;have hMe:=HMM.out;have hme:=encB_len hmm
 have hwrs:WrS wa b wr (fun k=>k<wa.heap.size/\k≠b/\k≠wr) []:=wrs_start (hma.obj id hwr9) (hma.obj id hb9) (by omega) (fun e=>e.2.1 rfl) (fun e=>e.2.2 rfl)
 have hRa:=(Array.getElem?_eq_some_iff.1 hBa).1
 have henv:EncEnv wa b c1 c4 c6 M (fun k=>k<wa.heap.size/\k≠b/\k≠wr):=⟨hma.obj id hM9,hma.obj id h49,hma.obj id hB9,⟨by omega,by omega,by omega⟩,⟨by omega,by omega,by omega⟩,⟨by omega,by omega,by omega⟩⟩
 have hm0a:=hm09.trans0 hma;rw[<-hMe]at henv
 have hall:=mAll_any (ps:=encB m) hwrs (fun k hk=>hk.1) hBa ⟨by omega,by omega,by omega⟩ rfl hme.1 (fun k hk=>by
  match k,hk with
  |0,_=>exact⟨_,_,rfl,enters_of func178 (by kernel_rfl) rfl,fun w' hs hw hp=>enc5_any hw hp (henv.keep hs) (by simp)⟩
  |1,_=>exact⟨_,_,rfl,enters_of func179 (by kernel_rfl) rfl,fun w' hs hw hp=>enc6_any hw hp (henv.keep hs) (man_kind _ _ _ _ _) (by rcases hmm.kind with h|h<;>omega) (by simp[encB])⟩
  |2,_=>exact⟨_,_,rfl,enters_of func180 (by kernel_rfl) rfl,fun w' hs hw hp=>enc7_any hw hp (henv.keep hs) (by rw[hmm.title];rfl) (by simp[encB])⟩
  |3,_=>exact⟨_,_,rfl,enters_of func174 (by kernel_rfl) rfl,fun w' hs hw hp=>enc3_any hw hp (henv.keep hs) hmm.id (fun h3=>by
   rcases hmm.kind with h|h
   ·exact h.2.1
   ·omega) (by simp[encB])⟩
  |4,_=>exact⟨_,_,rfl,enters_of func175 (by kernel_rfl) rfl,fun w' hs hw hp=>enc4_any hw hp (henv.keep hs) hmm.id (Gat.keep (Gat.keep0 HLV.out hm0a) hs (fun q hq hn=>hn ⟨by have:=(Gat.lt HLV.out hq).2;have:=hm0a.size;omega,by have:=(Gat.lt HLV.out hq).2;omega,by have:=(Gat.lt HLV.out hq).2;omega⟩)) (Gat.keep (Gat.keep0 HSV.out hm0a) hs (fun q hq hn=>hn ⟨by have:=(Gat.lt HSV.out hq).2;have:=hm0a.size;omega,by have:=(Gat.lt HSV.out hq).2;omega,by have:=(Gat.lt HSV.out hq).2;omega⟩)) hmm.all (by have:=hmm.len;omega) hme.2⟩)
 refine wpC func177 hall ?_;rintro e wz ⟨hsz,vz,rfl,hbz⟩
 have HF:Hid (Mod NoB w wz/\Bts w.heap.size wz vz (encL m)):=hid ⟨hm0a.trans hsz (fun k hk hn=>hn ⟨by have:=hm0a.size;omega,by omega,by omega⟩),yW hbz hm0a.size⟩
 refine⟨_,rfl,?_⟩;try simp only[nmz]
 refine qE rfl (fun w'=>qI _ 0 #[vz,.int .i64 0] rfl rfl vz rfl) ?_;simp only[nmz]
 refine qE rfl (fun w'=>qI _ 1 #[vz,.int .i64 0] rfl rfl (.int .i64 0) rfl) ?_;simp only[stz]
 clear hall hsz hbz hwrs henv hBa hma hm0a hm09 hwr9 hb9 hM9 h49 hB9 hcw;go_wp2;go_ret2;exact⟨HF.out.1,vz,rfl,HF.out.2⟩
end
section
open Go.Proofs.Tryz Go.Lib
def thgI(id:List UInt8):Thg:=⟨⟨0,id,0,[]⟩,1,true⟩
def walkM(xs:List Thg):List (List UInt8×Value):=xs.foldl (fun m t=>putL t.d.id (linkV 0) m) []
theorem walkM_snoc(xs:List Thg)(t:Thg):walkM (xs++[t])=putL t.d.id (linkV 0) (walkM xs):=by simp[walkM]
theorem mem_keys{α β:Type}[DecidableEq α](k:α)(v:β)(l:List (α×β))(x:α):x∈(putL k v l).map (·.1)↔x=k\/x∈l.map (·.1):=by
 rw[keys_put]
 split
 ·rename_i h
  exact⟨.inr,fun h'=>h'.elim (fun e=>by rw[e];exact h) id⟩
 ·rw[List.mem_append,List.mem_singleton]
  exact⟨fun h=>h.symm,fun h=>h.symm⟩
theorem walkM_keys(xs:List Thg):((walkM xs).map (·.1)).Nodup/\∀x,x∈(walkM xs).map (·.1)↔∃t∈xs,t.d.id=x:=by
 suffices h:∀(xs:List Thg)(m:List (List UInt8×Value)),(m.map (·.1)).Nodup->((xs.foldl (fun m t=>putL t.d.id (linkV 0) m) m).map (·.1)).Nodup/\∀x,x∈(xs.foldl (fun m t=>putL t.d.id (linkV 0) m) m).map (·.1)↔x∈m.map (·.1)\/∃t∈xs,t.d.id=x by
  have:=h xs [] (by simp);exact⟨this.1,fun x=>by rw[walkM,this.2 x];simp⟩
 intro xs
 induction xs with
 |nil=>intro m hm;exact⟨hm,fun x=>by simp⟩
 |cons t xs ih=>
  intro m hm;obtain⟨h1,h2⟩:=ih (putL t.d.id (linkV 0) m) (nodup_put hm);refine⟨h1,fun x=>?_⟩;rw[List.foldl_cons,h2 x,mem_keys];simp only[List.mem_cons,exists_eq_or_imp]
  constructor
  ·rintro((rfl|h)|h)
   ·exact .inr (.inl rfl)
   ·exact .inl h
   ·exact .inr (.inr h)
  ·rintro(h|rfl|h)
   ·exact .inl (.inr h)
   ·exact .inl (.inl rfl)
   ·exact .inr h
theorem walkDs_mem(g:DescL->List Thg×Option WErr):∀(ds:List DescL)(t:Thg),t∈(zZ g ds).1->∃d∈ds,t∈(g d).1
 | [],t,h=>by simp[zZ]at h
 |d::ds,t,h=>by
  rw[zZ]at h
  cases hg:(g d).2 with
  |some e=>rw[hg]at h;exact⟨d,by simp,h⟩
  |none=>
   rw[hg]at h
   rcases List.mem_append.1 h with h|h
   ·exact⟨d,by simp,h⟩
   ·obtain⟨d',h1,h2⟩:=walkDs_mem g ds t h
    exact⟨d',by simp[h1],h2⟩
theorem walkDs_err(g:DescL->List Thg×Option WErr):∀(ds:List DescL)(e:WErr),(zZ g ds).2=some e->∃d∈ds,(g d).2=some e
 | [],e,h=>by simp[zZ]at h
 |d::ds,e,h=>by
  rw[zZ]at h
  cases hg:(g d).2 with
  |some e'=>rw[hg]at h;exact⟨d,by simp,by rw[hg];exact h⟩
  |none=>
   rw[hg]at h;obtain⟨d',h1,h2⟩:=walkDs_err g ds e h;exact⟨d',by simp[h1],h2⟩
theorem walkL_in(c:BlobM):∀(f:Nat)(t t':Thg),t'∈(walkL c f t).1->(getL t'.d.id c).isSome=true
 |0,t,t',h=>by simp[walkL]at h
 |f+1,t,t',h=>by
  unfold walkL at h
  cases hg:getL t.d.id c with
  |none=>rw[hg]at h;simp at h
  |some b=>
   rw[hg]at h
   dsimp only at h
   have ht:∀l:List Thg,t'∈t::l->t'∉l->(getL t'.d.id c).isSome=true:=fun l h hn=>by
    rcases List.mem_cons.1 h with rfl|h
    ·rw[hg];rfl
    ·exact absurd h hn
   split at h
   ·simp at h
   split at h
   ·split at h
    ·simp at h
    ·exact ht [] h (by simp)
   split at h
   ·simp at h
   cases hd:decL b with
   |none=>rw[hd]at h;simp at h
   |some m=>
    rw[hd]at h
    dsimp only at h
    split at h
    ·simp at h
    rcases List.mem_cons.1 h with rfl|h
    ·rw[hg];rfl
    ·obtain⟨d,_,h2⟩:=walkDs_mem _ _ _ h
     exact walkL_in c f _ _ h2
theorem walkL_err(c:BlobM):∀(f:Nat)(t:Thg)(e:WErr),t.d.id.length=32->(walkL c f t).2=some e->e.1.length=32/\5<=e.2/\e.2<=20
 |0,t,e,_,h=>by simp[walkL]at h
 |f+1,t,e,hid,h=>by
  unfold walkL at h;have hx:∀n:Int,5<=n->n<=20->some (t.d.id,n)=some e->e.1.length=32/\5<=e.2/\e.2<=20:=fun n h1 h2 h=>by cases h;exact⟨hid,h1,h2⟩
  cases hg:getL t.d.id c with
  |none=>rw[hg]at h;exact hx _ (by omega) (by omega) h
  |some b=>
   rw[hg]at h
   dsimp only at h
   split at h
   ·exact hx _ (by omega) (by omega) h
   split at h
   ·split at h
    ·exact hx _ (by omega) (by omega) h
    ·cases h
   split at h
   ·exact hx _ (by omega) (by omega) h
   cases hd:decL b with
   |none=>rw[hd]at h;exact hx _ (by omega) (by omega) h
   |some m=>
    rw[hd]at h
    dsimp only at h
    split at h
    ·exact hx _ (by omega) (by omega) h
    ·obtain⟨d,h1,h2⟩:=walkDs_err _ _ _ h
     exact walkL_err c f _ e (decL_ids hd d h1) h2
theorem walkL_id(c:BlobM):∀(f:Nat)(t t':Thg),t.d.id.length=32->t'∈(walkL c f t).1->t'.d.id.length=32
 |0,t,t',_,h=>by simp[walkL]at h
 |f+1,t,t',hid,h=>by
  unfold walkL at h
  cases hg:getL t.d.id c with
  |none=>rw[hg]at h;simp at h
  |some b=>
   rw[hg]at h
   dsimp only at h
   split at h
   ·simp at h
   split at h
   ·split at h
    ·simp at h
    ·rw[List.mem_singleton.1 h];exact hid
   split at h
   ·simp at h
   cases hd:decL b with
   |none=>rw[hd]at h;simp at h
   |some m=>
    rw[hd]at h
    dsimp only at h
    split at h
    ·simp at h
    rcases List.mem_cons.1 h with rfl|h
    ·exact hid
    ·obtain⟨d,h1,h2⟩:=walkDs_mem _ _ _ h
     exact walkL_id c f _ _ (decL_ids hd d h1) h2
theorem walkM_len(c:BlobM)(f:Nat)(t:Thg):(walkM (walkL c f t).1).length<=c.length:=by
 obtain⟨h1,h2⟩:=walkM_keys (walkL c f t).1
 have:=yO (m:=c.map (·.1)) h1 fun x hx=>by
  obtain⟨t',ht,rfl⟩:=(h2 x).1 hx;have:=walkL_in c f t t' ht
  cases hg:getL t'.d.id c with
  |none=>rw[hg]at this;cases this
  |some b=>exact List.mem_map.2 ⟨_,getL_mem hg,rfl⟩
 simpa using this
def yD(c:BlobM)(id:List UInt8)(ids:List (List UInt8))(bad:List UInt8)(n:Int):Prop:=
 match(walkL c 5 (thgI id)).2 with
 |some e=>ids=[]/\bad=e.1/\n=e.2
 |none=>if 256<(walkM (walkL c 5 (thgI id)).1).length then ids=[]/\bad=id/\n=4 else(ids.Pairwise (fun a b=>a<b)/\ids.Perm ((walkM (walkL c 5 (thgI id)).1).map (·.1)))/\bad=zeros32/\n=0
end
section
open Go.RowKit Go.Proofs.Tryz Go.Lib
theorem run_loadVar1{P:Program}{w:World}{ty:TypeId}{p:Addr}{v:Value}{d:TypeDesc}(hc:w.cell? p=some v)(hu:P.underlying ty=some d)(hd:(match d with| .struct _| .array _ _=>true|_=>false)=false):(loadVar ty p).run P w=.ok v w:=by
 have hagg:(isAgg ty).run P w=.ok false w:=by
  unfold isAgg;rw[Sem.run_bind,run_underlying hu w]
  cases d<;>simp_all
 simp only[loadVar,Sem.run_bind,hagg,Result.andThen_ok,Bool.false_eq_true,if_false]
 simp[load,Sem.run,hc]
end
section
open Go.RowKit Go.Shelf Go.Proofs.Tryz Go.Lib
attribute [local go_sem] Oper.semAt_some
abbrev ptrV(b:Nat):Value:=.pointer (some ⟨b,0,none⟩)
theorem results_walk{fn:Func}(h:fn.results=#[.cell 4 25,.cell 5 24,.cell 6 33]){tmps:Array Value}{w:World}{b4 b5 b6:Nat}{v4:Value}{x5:List UInt8}{n6:Int}(hR:Res3 w b4 b5 b6 v4 x5 n6)(hx:x5.length=32)
 (h4:tmps.getD 4 undef=ptrV b4)(h5:tmps.getD 5 undef=ptrV b5)(h6:tmps.getD 6 undef=ptrV b6):(results fn tmps).run prog w=.ok (.tuple #[v4,.agg (qA x5),.int .i64 n6]) w:=by
 have e4:tmps[4]?.getD undef=ptrV b4:=by simpa using h4
 have e5:tmps[5]?.getD undef=ptrV b5:=by simpa using h5
 have e6:tmps[6]?.getD undef=ptrV b6:=by simpa using h6
 have c4:w.cell? ⟨b4,0,none⟩=some v4:=by simp[World.cell?,hR.r4]
 have c6:w.cell? ⟨b6,0,none⟩=some (.int .i64 n6):=by simp[World.cell?,hR.r6]
 have r4:=run_loadVar1 c4 underlying25 rfl;have r6:=run_loadVar1 c6 underlying33 rfl
 have r5:=run_loadVar_row w b5 24 24 (qA x5) (0,0) _ hR.r5 underlying24 rfl (by rw[qD,hx];kernel_rfl)
 simp[results,h,e4,e5,e6,ptrV,asAddr,r4,r5,r6]
theorem Res3.put{w:World}{b4 b5 b6:Nat}{v4:Value}{x5:List UInt8}{n6:Int}(h:Res3 w b4 b5 b6 v4 x5 n6){D:Nat}(hD:w.heap[D]?=some (.deferred (some [])))(o:Obj):Res3 (w.putObj D o) b4 b5 b6 v4 x5 n6:=by
 have h4:b4≠D:=fun e=>by rw[e]at h;have:=h.r4;rw[hD]at this;cases this
 have h5:b5≠D:=fun e=>by rw[e]at h;have:=h.r5;rw[hD]at this;cases this
 have h6:b6≠D:=fun e=>by rw[e]at h;have:=h.r6;rw[hD]at this;cases this
 exact⟨(World.putObj_heap_other h4).trans h.r4,(World.putObj_heap_other h5).trans h.r5,(World.putObj_heap_other h6).trans h.r6⟩
def clD(b4 b5 b6:Nat):Deferred:={ target:=.fn (.func 82) #[ptrV b4,ptrV b5,ptrV b6],args:=#[] }
theorem clD_leads(b4 b5 b6:Nat)(w:World):(invoke (.fn (.func 82) #[ptrV b4,ptrV b5,ptrV b6]) #[]).run prog w=.ok (.enter 82 #[ptrV b4,ptrV b5,ptrV b6]) w:=by
 have:=enters_of func82 (by kernel_rfl) rfl
 simp[invoke,go_sem,this]
section
variable{fn:Func}{tmps:Array Value}{R:Ending->World->Prop}{w:World}{D b4 b5 b6:Nat}{v4:Value}{x5:List UInt8}{n6:Int}
theorem leave_ret(h:fn.results=#[.cell 4 25,.cell 5 24,.cell 6 33])(hD:w.heap[D]?=some (.deferred (some [])))(hR:Res3 w b4 b5 b6 v4 x5 n6)(hx:x5.length=32)(h4:tmps.getD 4 undef=ptrV b4)(h5:tmps.getD 5 undef=ptrV b5)(h6:tmps.getD 6 undef=ptrV b6)
 (k:R (.returned (.tuple #[v4,.agg (qA x5),.int .i64 n6])) (w.putObj D (.deferred none))):LeavesInM Fence.wide 0 prog fn tmps R [{ target:=.collected D,args:=#[] },clD b4 b5 b6] .returning w:=by
 refine⟨by simp,.inl ⟨D,_,rfl,run_takeDeferred hD,?_⟩⟩;have hR':=hR.put hD (.deferred none)
 refine⟨by simp,.inr ⟨fun h=>(by cases h),_,_,82,_,rfl,clD_leads b4 b5 b6 _,fun _ _=>trivial,?_⟩⟩;refine(catch_idle b4 b5 b6 _).mono ?_;rintro e u' w' ⟨rfl,rfl,rfl⟩
 exact⟨_,results_walk h hR' hx h4 h5 h6,k⟩
theorem leave_wrong{e:WErr}(h:fn.results=#[.cell 4 25,.cell 5 24,.cell 6 33])(hD:w.heap[D]?=some (.deferred (some [])))(hR:Res3 w b4 b5 b6 v4 x5 n6)(hx:x5.length=32)(h45:b4≠b5)(h46:b4≠b6)(h56:b5≠b6)(he:e.1.length=32)(h4:tmps.getD 4 undef=ptrV b4)(h5:tmps.getD 5 undef=ptrV b5)(h6:tmps.getD 6 undef=ptrV b6)
 (k:∀w',Mod (fun k=>k=b4\/k=b5\/k=b6) (w.putObj D (.deferred none)) w'->R (.returned (.tuple #[.slice none 0 0,.agg (qA e.1),.int .i64 e.2])) w'):LeavesInM Fence.wide 0 prog fn tmps R [{ target:=.collected D,args:=#[] },clD b4 b5 b6] (.panicking (chainW e)) w:=by
 refine⟨by simp,.inl ⟨D,_,rfl,run_takeDeferred hD,?_⟩⟩;have hR':=hR.put hD (.deferred none)
 refine⟨by simp,.inr ⟨fun h=>(by cases h),_,_,82,_,rfl,clD_leads b4 b5 b6 _,fun _ _=>trivial,?_⟩⟩;refine(catch_wrong hR' hx h45 h46 h56 he).mono ?_
 rintro e' u' w' ⟨rfl,rfl,hR2,hm⟩;exact⟨_,results_walk h hR2 he h4 h5 h6,k _ hm⟩
end
end
section
open Go.RowKit Go.Proofs.Tryz Go.Lib
section
variable{P:Program}{md:Region.Mode}{ops:Array Oper}{Q:Exit->Act->World->Prop}{l n:Nat}
def noDefer(ops:Array Oper):Bool:=ops.all fun o=>match o.op with| .defer _=>false|_=>true
theorem noDefer_at(h:noDefer ops=true){i:Nat}{o:Oper}(ho:ops[i]?=some o) c:o.op≠.defer c:=by
 intro e;have:=Array.all_eq_true.1 h i (Array.getElem?_eq_some_iff.1 ho).1;rw[(Array.getElem?_eq_some_iff.1 ho).2,e]at this
 cases this
theorem wpOpIn_of_wp{o:Oper}{a:Act}{w:World}{K:Act->World->Prop}(ho:∀c,o.op≠.defer c)(h:o.wp P a w K Q):o.wpIn (Fence.wide.inRound l) n P a w K Q:=by
 refine⟨fun _ _=>trivial,?_⟩;rw[Oper.semAt_eq _ _ _ ho];unfold Oper.wp at h;generalize (execOp a.eval o).run P w=r at h
 cases r with
 |ok x w'=>
  cases x with
  |enter f args=>
   refine⟨fun h=>(by cases h),CallsIn.inRound l (callsIn_wide.2 (Calls.mono h ?_))⟩;intro e w'' he
   cases e<;>exact he
  |row row args=>exact⟨fun h=>(by cases h),fun c cs _=>let ⟨v,w'',r,s⟩:=h c cs;⟨v,w'',r,stepsIn_wide.2 s⟩⟩
  |round=>exact h.elim
  |_=>exact h
 |halt e w'=>cases e<;>exact h
theorem wpAny_in(hd:noDefer ops=true)(hL:¬LetsOut Q):∀(fuel:Nat)(listed:Array Bool)(a:Act)(w:World),wpAny P md ops Q fuel listed a w->wpAnyIn (Fence.wide.inRound l) n P md ops Q fuel listed a w
 |0,_,_,_,h=>h
 |fuel+1,listed,a,w,h=>by
  refine⟨h.1,fun i hi=>?_⟩;have h':=h.2 i hi;unfold wpOp at h';unfold wpOpIn
  cases ho:ops[i]? with
  |none=>rw[ho]at h';exact wpAny_in hd hL fuel _ _ _ h'
  |some o=>
   rw[ho]at h'
   dsimp only at h' |-
   split
   ·rename_i hw
    rw[if_pos hw]at h'
    rcases h' with h'|⟨_,h'⟩
    ·exact wpOpIn_of_wp (noDefer_at hd ho) (Oper.wp_mono (fun a w h=>wpAny_in hd hL fuel _ a w h) h')
    ·exact absurd h' hL
   ·rename_i hw
    rw[if_neg hw]at h';exact⟨fun _ _=>trivial,wpAny_in hd hL fuel _ _ _ h'⟩
theorem wpIn_region_piR{id:Nat}{a:Act}{w:World}{l:List Oper}{L n:Nat}(p:List (Nat×Nat))(tl:List Nat)(S:World->Prop)(hm:P.follows .mixedOrders=true)(hs:Region.noSelect l.toArray=true)
 (hl:p.length=l.toArray.size)(hp:piOk .any l.toArray tl p (Array.replicate l.toArray.size false)=true)(hd:noDefer l.toArray=true)(hL:¬LetsOut Q)(hQ:xQ Q)(hS:S w.drew)
 (h:wpPi P l.toArray Q S (p.map fun x=>(l.getD x.1 default,x.2)) a w.drew):(Code.region id l.toArray true).wpIn (Fence.wide.inRound L) n P Q a w:=
 wpIn_region_any hm (by
  have e:(p.map fun x=>((l.toArray).getD x.1 default,x.2))=(p.map fun x=>(l.getD x.1 default,x.2)):=by
   apply List.map_congr_left;intro x _;simp[Array.getD_eq_getD_getElem?,List.getD]
  have H:=wpAny_of_G _ _ _ _ (yU hs hQ S p _ a w.drew hp (fun _=>hS) (by rw[e];exact h));rw[hl]at H
  exact wpAny_in hd hL _ _ _ _ H)
def NoPanic(Q:Exit->Act->World->Prop):Exit->Act->World->Prop
 | .panic _,_,_=>False
 |e,a,w=>Q e a w
theorem noPanic_le{e:Exit}{a:Act}{w:World}(h:NoPanic Q e a w):Q e a w:=by
 cases e<;>first|exact h|exact h.elim
theorem noPanic_nor{a:Act}{w:World}(h:Q .normal a w):NoPanic Q .normal a w:=h
theorem panicSame_no:xQ (NoPanic Q):=fun _ _ _ _ _ h=>h.elim
end
end
section
open Go.RowKit Go.Shelf Go.Proofs.Tryz Go.Lib
attribute [local go_sem] Oper.semAt_some
def WalkR(w:World)(c:BlobM)(id:List UInt8):Ending->World->Prop:=fun e w'=>Mod NoB w w'/\∃v ids bad n,e=.returned (.tuple #[v,.agg (qA bad),.int .i64 n])/\GatI w.heap.size w' v ids/\yD c id ids bad n/\bad.length=32/\∀x∈ids,x.length=32
theorem mapCZ:(prog.info? 144).bind (·.zero)=some (.map none):=by kernel_rfl
theorem sIDZ9:(prog.info? 25).bind (·.zero)=some (.slice none 0 0):=by kernel_rfl
theorem errnoZ9:(prog.info? 33).bind (·.zero)=some (.int .i64 0):=by kernel_rfl
theorem built_descI(x:List UInt8)(h:x.length=32):prog.built 46 [(1,.agg (qA x))]=some (qB ⟨0,x,0,[]⟩):=by
 have p:xR prog 46=some [(0,1),(1,32),(33,1),(34,1)]:=by kernel_rfl
 have hz:(qB descZ).size=35:=qO qV
 rw[zL descZ_i p,zD (off:=1) (size:=32) rfl (by simp[Value.cells,qA,h]) (by rw[hz];omega),xT]
 congr 1
 apply Array.toList_inj.1
 simp[qZ,qA,Value.cells,qB,zX,h,descZ,zeros32]
structure WlEnv(w:World)(b3 b4 b5 b6 b7 mb:Nat)(id:List UInt8):Prop where
 r3:w.heap[b3]?=some (.cells (qA id) 24 (0,0))
 res:Res3 w b4 b5 b6 (.slice none 0 0) zeros32 0
 r7:w.heap[b7]?=some (.cells #[.map (some mb)] 144 (0,0))
theorem WlEnv.keep{w w':World}{b3 b4 b5 b6 b7 mb:Nat}{id:List UInt8}(h:WlEnv w b3 b4 b5 b6 b7 mb id)(hm:KC w w'):WlEnv w' b3 b4 b5 b6 b7 mb id:=
 ⟨hm.obj h.r3 rfl,⟨hm.obj h.res.r4 rfl,hm.obj h.res.r5 rfl,hm.obj h.res.r6 rfl⟩,hm.obj h.r7 rfl⟩
def WlI(w0:World)(mb:Nat)(pre:List Thg)(w:World):Prop:=MapIs idV IdOk w mb (walkM pre)/\Mod (fun k=>k=mb) w0 w/\KC w0 w
theorem wlI_own{w0:World}{mb:Nat}(hmb:mb<w0.heap.size):OwnFrom w0.heap.size (WlI w0 mb):=by
 intro s A B row hs hg hr;obtain⟨h1,h2,h3⟩:=hs;have hm:Mod (fun k=>some k=row) A B:=Mod.of_grown hg fun r e=>e.symm
 refine⟨h1.keep hm (fun e=>by have:=(hr _ e.symm).1;omega),h2.trans hm (fun k hk e=>by have:=(hr k e.symm).1;omega),h3.trans (KC.of_mod hm (fun k o e ho=>?_))⟩
 obtain⟨_,o',ho',hc⟩:=hr k e.symm;rw[ho]at ho';cases ho';exact hc
theorem GatI.put{base:Nat}{w:World}{v:Value}{l:List (List UInt8)}(h:GatI base w v l){D:Nat}(hD:w.heap[D]?=some (.deferred (some [])))(o:Obj):GatI base (w.putObj D o) v l:=
 Gat.keep h ((Mod.refl (fun k=>k=D) w).grown (grownBy_putObj' w D _) (fun k e _=>by cases e;rfl)) fun q hq e=>by
  obtain⟨o',ho',hc'⟩:=gat_cells h hq;have e:q=D:=e;rw[e,hD]at ho';cases ho';cases hc'
theorem mod_put{w0 w:World}(h:Mod NoB w0 w){D:Nat}(hD:w0.heap.size<=D)(o:Obj):Mod NoB w0 (w.putObj D o):=
 h.trans ((Mod.refl (fun k=>k=D) w).grown (grownBy_putObj' w D o) (fun k e _=>by cases e;rfl)) fun k hk e=>by have e:k=D:=e;omega
theorem clWalk_any{w:World}{bs ms wd:Nat}{room:Int}{bl:List Blb}(h:StInv w bs ms wd room bl)(di:List UInt8)(hid:di.length=32)(hc:(cont bl).length<=1000):Calls prog 20 #[.pointer (some ⟨bs,0,none⟩),.agg (qA di)] w (WalkR w (cont bl) di):=by
 have hmf:=makeFunc_run;have hic:(qA di).size=32:=by rw[qD,hid]
 have HMX:=Lib.hid (@run_makeMap prog);have H:=Lib.hid h;have hlen:=walkM_len (cont bl) 5 (thgI di);have herr:=fun e=>walkL_err (cont bl) 5 (thgI di) e hid
 have hids:=fun t'=>walkL_id (cont bl) 5 (thgI di) t' hid;obtain⟨X,hX⟩:∃X,walkL (cont bl) 5 (thgI di)=X:=⟨_,rfl⟩
 have HOUT:Hid (∀ids bad n,yD (cont bl) di ids bad n=match X.2 with
  |some e=>ids=[]/\bad=e.1/\n=e.2
  |none=>if 256<(walkM X.1).length then ids=[]/\bad=di/\n=4 else(ids.Pairwise (fun a b=>a<b)/\ids.Perm ((walkM X.1).map (·.1)))/\bad=zeros32/\n=0):=Lib.hid fun ids bad n=>by unfold yD;rw[hX];first|done|(cases X.2<;>rfl)
 rw[hX]at hlen herr hids;have HX:=Lib.hid hX;have HERR:=Lib.hid herr;have HID:=Lib.hid hids;have hlen2:(walkM X.1).length<=1000:=by omega
 clear h hX hlen herr hids hc;refine(callsIn_wide (n:=0)).1 (callsIn_of_wp_marks func20 rfl trivial ?_ rfl)
 simp only[ntmps20,List.size_toArray,List.length_cons,List.length_nil,Nat.reduceAdd,Nat.reduceSub,Array.replicate_succ,Array.replicate_zero,List.push_toArray,List.append_toArray,List.nil_append,List.cons_append]
 gi_upto_region 0 with(fail)
 refine wpIn_wide.2 ?_;refine wpR [1,1,1,1] ?_;simp only[stz];refine wpD (zT 24 _ _ (by rfl) (by rfl) (fun w1 hB1 hm1 hs1=>?_))
 replace hB1:w1.heap[w.heap.size]?=some (.cells (qA di) 24 (0,0)):=hB1;try simp only[nmz]
 refine wpD (qP 25 _ (by rfl) sIDZ9 (fun w2 hB2 hm2 hs2=>?_));replace hB2:w2.heap[w1.heap.size]?=some (.cells #[.slice none 0 0] 25 (0,0)):=hB2;try simp only[nmz]
 refine wpD (qP 24 _ (by rfl) idZ (fun w3 hB3 hm3 hs3=>?_));replace hB3:w3.heap[w2.heap.size]?=some (.cells (qA zeros32) 24 (0,0)):=hB3;try simp only[nmz]
 refine wpD (qP 33 _ (by rfl) errnoZ9 (fun w4 hB4 hm4 hs4=>?_));replace hB4:w4.heap[w3.heap.size]?=some (.cells #[.int .i64 0] 33 (0,0)):=hB4;simp only[stz]
 have hm04:Mod NoB w w4:=((hm1.trans0 hm2).trans0 hm3).trans0 hm4;have hE3:=hm4.obj id (hm3.obj id (hm2.obj id hB1))
 have hR3:Res3 w4 w1.heap.size w2.heap.size w3.heap.size (.slice none 0 0) zeros32 0:=⟨hm4.obj id (hm3.obj id hB2),hm4.obj id hB3,hB4⟩
 have h12:w1.heap.size<w2.heap.size:=hs2;have h23:w2.heap.size<w3.heap.size:=hs3;have h34:w3.heap.size<w4.heap.size:=hs4;generalize w1.heap.size=b4 at*
 generalize w2.heap.size=b5 at*;generalize w3.heap.size=b6 at*;generalize hb3:w.heap.size=b3 at*;clear hm1 hm2 hm3 hm4 hB1 hB2 hB3 hB4 hs2 hs3 hs4
 gi_upto_region 4 with(fail)
 refine wpIn_wide.2 ?_;refine wpR [1,1,1] ?_;simp only[stz];refine qM rfl (fun K hK=>?_);unfold Oper.wp execOp
 simp only[Array.map_empty,Option.map_none,Sem.run_bind,HMX.out,Result.andThen_ok,Sem.run_pure];have hB5:=heap_alloc_new w4 (.map #[] 0)
 have hm5:=jJ w4 (.map #[] 0);have hs5:w4.heap.size<(w4.alloc (.map #[] 0)).heap.size:=by simp
 generalize w4.alloc (.map #[] 0)=w5 at hB5 hm5 hs5 |-;refine hK _ _ trivial ?_;clear hK K;try simp only[nmz]
 refine wpD (qP 144 _ (by rfl) mapCZ (fun w6 hB6 hm6 hs6=>?_));replace hB6:w6.heap[w5.heap.size]?=some (.cells #[.map none] 144 (0,0)):=hB6;try simp only[nmz]
 refine wpD (qT 144 _ _ w5.heap.size 0 (.map (some w4.heap.size)) (by rfl) (by rfl) (by rfl) (by first|rfl|assumption) (by kernel_rfl) _ _ hB6 (by simp) (fun w7 hB7 hm7=>?_))
 replace hB7:w7.heap[w5.heap.size]?=some (.cells #[.map (some w4.heap.size)] 144 (0,0)):=hB7;simp only[stz];have hm57:Mod NoB w5 w7:=hm6.transB hm7 (Nat.le_refl _)
 have hm47:Mod NoB w4 w7:=hm5.trans0 hm57;have hMA:MapIs idV IdOk w7 w4.heap.size (walkM []):=(MapIs.made hB5).keep0 hm57;have hmb:w4.heap.size<w5.heap.size:=hs5
 have h57:w5.heap.size<w6.heap.size:=hs6;have h67:=hm7.size
 have HE7:Hid (WlEnv w7 b3 b4 b5 b6 w5.heap.size w4.heap.size di):=Lib.hid ⟨hm47.obj (fun h=>h) hE3,⟨hm47.obj (fun h=>h) hR3.r4,hm47.obj (fun h=>h) hR3.r5,hm47.obj (fun h=>h) hR3.r6⟩,hB7⟩
 have hm07:Mod NoB w w7:=hm04.trans0 hm47;generalize hmbe:w4.heap.size=mb at*;generalize hb7:w5.heap.size=b7 at*;have hlt7:b7<w7.heap.size:=by omega
 clear hm5 hm6 hm7 hm57 hm47 hm04 hB5 hB6 hB7 hE3 hR3 hs5 hs6 h57 h67;have hc3:=CellsAt.whole HE7.out.r3;have hbd:=built_descI di hid
 have hbt:=built_thing ⟨0,di,0,[]⟩ hid 1 1 rfl true
 gi_upto_region 5 with(fail)
 refine wpIn_wide.2 ?_;refine wpR [3,1,0,0,1,1] ?_;simp only[stz];refine wpXA 24 b3 0 (qA di) hc3 underlying24 32 hic trivial ?_;try simp only[nmz]
 refine qQ rfl (fun w' hS=>qL 46 [(1,_)] [(1,.agg (qA di))] _ (by rfl) (by rfl) hbd) ?_;simp only[nmz]
 refine qQ rfl (fun w' hS=>qL 150 [(0,_),(1,_),(2,_)] [(0,.agg (qB ⟨0,di,0,[]⟩)),(1,.int .i64 1),(2,.bool true)] _ (by rfl) (by rfl) hbt) ?_
 simp only[nmz];refine wpD (zT 150 _ _ (by rfl) (by rfl) (fun w8 hB8 hm8 hs8=>?_));replace hB8:w8.heap[w7.heap.size]?=some (.cells (jL (thgI di)) 150 (0,0)):=hB8
 try simp only[nmz]
 refine wpD (wpC func83 (clSeq_any w8 bs _) ?_);rintro e w9 ⟨C1,C2,rfl,hC1,hC2,hm9⟩;refine⟨_,rfl,?_⟩;simp only[stz];have hm79:Mod NoB w7 w9:=hm8.trans0 hm9
 have hm09:Mod NoB w w9:=hm07.trans0 hm79;have hth:ThAt w9 w7.heap.size (thgI di):=hm9.obj (fun h=>h) hB8
 have hG:=clSeq1_gives (bl:=bl) (bs:=bs) (ms:=ms) (wd:=wd) (room:=room) 5 (thgI di) w9 C1 C2 w7.heap.size hid rfl (by omega) (H.out.keep0 hm09) hC1 hC2 hth
 rw[HX.out]at hG;have HE9:=Lib.hid (HE7.out.keep (KC.of0 hm79));have hMA9:=hMA.keep0 hm79;have hs79:=hm79.size;have hStl:=(H.out.keep0 hm09).lt
 have hmbn:¬SFoot bs ms bl mb:=fun e=>by have:=H.out.lt mb e;have:=hm09.size;omega
 have hbl:b4<w9.heap.size:=by omega
 clear hm8 hm9 hB8 hC1 hC2 hth hbd hbt hc3 hm79 hMA HE7 hs8
 gi_wp2
 refine wpIn_rangeFunc_wk (q:=8) (gf:=155) (by rfl) (enters_of func155 (by kernel_rfl) rfl) hG (kept_sc hStl) (WlI w9 mb) (wlI_own (by omega)) ⟨hMA9,Mod.refl _ _,KC.refl _⟩ ?assign ?body ?done ?fell
 case assign=>
  intro l b Wc K hK0;simp only[ss,sz]
  gi_wp2
  exact hK0
 case body=>
  rintro l pre x rest b Wc hxs ⟨hMW,hmW,hkW⟩ hth;simp only[ss,sz];have hx32:x.d.id.length=32:=HID.out x (by rw[hxs];simp)
  have hicx:(qA x.d.id).size=32:=by rw[qD,hx32]
  have hEw:=HE9.out.keep hkW;have hcb:Wc.cell? ⟨b7,0,none⟩=some (.map (some mb)):=by simp[World.cell?,hEw.r7]
  have hci:=hth.id;have hS:Mod NoB Wc Wc.drew:=(Mod.refl _ _).drew
  have hmo:∃es clk,Wc.heap[mb]?=some (.map es clk):=by
   obtain⟨⟨es,clk,h1,_⟩,_⟩:=hMW;exact⟨es,clk,h1⟩
  have HMO:=Lib.hid hmo;clear hEw hmo;refine wpIn_block ?_
  refine wpIn_region_piR [(0,0),(1,3),(2,3),(3,3),(4,3),(5,0),(6,0),(7,2)] [7] (fun w'=>Mod NoB Wc w') (by kernel_rfl) (by kernel_rfl) (by kernel_rfl) (by kernel_rfl) (by kernel_rfl) (fun h=>h.elim fun _ h=>h.elim fun _ h=>h.elim) (fun _ _ _ _ _ h=>h.elim) hS ?_
  simp only[stz];refine wpLd 144 b7 0 (fun w' hS=>hS.cell (fun h=>h) hcb) underlying144 ?_;simp only[stz]
  refine wpLA 24 b (0+1) (qA x.d.id) (fun w' hS=>hci.keep hS (fun h=>h)) underlying24 32 hicx ?_;simp only[nmz]
  refine qQ rfl (fun w' hS=>qL 152 [] [] _ (by rfl) (by rfl) built_cmark0) ?_;simp only[nmz];refine zB rfl (fun K hK=>?_)
  refine wp_putL keyT_id (hMW.keep0 hS) x.d.id hx32 144 152 underlying144 _ _ _ (.agg #[.int .i64 0]) (by rfl) (by rfl) (by rfl) (by rfl) (fun w4 hM4 hm4=>?_);refine hK _ _ ?_
  clear hK K;simp only[stz];have hm04:Mod (fun k=>k=mb) Wc w4:=Mod.trans (hS.mono fun _ _ h=>h.elim) hm4 (fun _ _ h=>h);obtain⟨es,clk,hmo⟩:=HMO.out
  refine⟨?_,⟨KC.of_mod hm04 (fun k o e ho=>?_),hm04.mono (fun k _ e hs=>?_)⟩,?_,?_,?_⟩
  ·exact KeepsFrom.of_grownBy hm04.grownAt (fun j e=>by cases e;omega)
  ·have e:k=mb:=e
   subst e;rw[hmo]at ho;cases ho;rfl
  ·have e:k=mb:=e
   subst e;exact hmbn hs
  ·rw[walkM_snoc];exact hM4
  ·exact hmW.trans hm04 (fun _ _ h=>h)
  ·exact hkW.trans (KC.of_mod hm04 (fun k o e ho=>by
    have e:k=mb:=e
    subst e;rw[hmo]at ho;cases ho;rfl))
 case done=>
  rintro hnn D Wd hD ⟨hMd,hmd,hkd⟩ hKD;have hnn:X.2=none:=by simpa using hnn
  have HO:=Lib.hid HOUT.out;simp only[hnn]at HO;have hEd:=HE9.out.keep hkd;have hm0d:Mod NoB w Wd:=hm09.trans hmd (fun k hk e=>by have e:k=mb:=e;omega)
  have hcb:Wd.cell? ⟨b7,0,none⟩=some (.map (some mb)):=by simp[World.cell?,hEd.r7]
  have hDb:w.heap.size<=D:=by have:=hm09.size;omega
  have HED:=Lib.hid hEd;have HMD:=Lib.hid hMd;clear hEd hMd hmd hkd HE9
  by_cases hgt:256<(walkM X.1).length
  ·have hz:(256:Int)<((walkM X.1).length:Nat):=by omega
   gi_upto_region 8 with(fail)
   refine wpIn_wide.2 ?_;refine wpR [1,1,3] ?_;simp only[stz];refine wpXd (v:=(.map (some mb))) 144 b7 0 hcb underlying144 trivial ?_;try simp only[nmz]
   refine wpX rfl (exec_lenL HMD.out 144 152 underlying144 _ (by rfl) (by rfl)) trivial ?_;try simp only[nmz]
   refine qG _ _ _ _ _ _ _ _ rfl rfl rfl rfl rfl true (decide_eq_true hz) ?_;simp only[stz]
   gi_upto_region 9 with(fail)
   refine wpIn_mono (Q:=NoPanic _) ?_ (fun _ _ _ h=>noPanic_le h);refine wpIn_wide.2 ?_;have hc3:=CellsAt.whole HED.out.r3
   have hS:Mod (fun k=>k=b4\/k=b5\/k=b6) Wd Wd.drew:=(Mod.refl _ _).drew;have hd0:=(Mod.refl NoB Wd).drew;have hd4:=hd0.obj (fun h=>h) HED.out.res.r4
   have hd5:=hd0.obj (fun h=>h) HED.out.res.r5;have hd6:=hd0.obj (fun h=>h) HED.out.res.r6
   refine zK [(0,0),(1,1),(2,1),(3,1)] [] (fun w'=>Mod (fun k=>k=b4\/k=b5\/k=b6) Wd w') (by kernel_rfl) (by kernel_rfl) (by kernel_rfl) (by kernel_rfl) panicSame_no hS ?_
   simp only[stz];refine wpLA 24 b3 0 (qA di) (fun w' hS=>hc3.keep hS (fun h=>by omega)) underlying24 32 hic ?_;simp only[nmz];refine qM rfl (fun K hK=>?_)
   refine qT 25 _ _ b4 0 (.slice none 0 0) (by rfl) (by rfl) (by rfl) rfl (by kernel_rfl) _ _ hd4 (by simp) (fun wx hBx hmx=>?_)
   replace hBx:wx.heap[b4]?=some (.cells #[.slice none 0 0] 25 (0,0)):=hBx;have hSx:=hS.trans hmx (fun _ _ h=>.inl h);have h5x:=hmx.objB (by omega) hd5
   have h6x:=hmx.objB (by omega) hd6;refine hK _ _ hSx ?_;clear hK K;try simp only[nmz]
   refine qM rfl (fun K hK=>?_)
   refine qF 24 _ _ b5 0 (qA di) (by rfl) (by rfl) (by rfl) (qR _) 32 (by kernel_rfl) hic _ _ h5x (by rw[hic,qD];exact Nat.le_refl _) (fun wy hBy hmy=>?_)
   rw[qC (by rw[hic,qD];rfl)]at hBy;have hSy:=hSx.trans hmy (fun _ _ h=>.inr (.inl h));have h4y:=hmy.objB (by omega) hBx
   have h6y:=hmy.objB (by omega) h6x;refine hK _ _ hSy ?_;clear hK K;try simp only[nmz]
   refine qM rfl (fun K hK=>?_);refine qT 33 _ _ b6 0 (.int .i64 4) (by rfl) (by rfl) (by rfl) rfl (by kernel_rfl) _ _ h6y (by simp) (fun wz hBz hmz=>?_)
   replace hBz:wz.heap[b6]?=some (.cells #[.int .i64 4] 33 (0,0)):=hBz;have hSz:=hSy.trans hmz (fun _ _ h=>.inr (.inr h));have h4z:=hmz.objB (by omega) h4y
   have h5z:=hmz.objB (by omega) hBy;refine hK _ _ hSz ?_;clear hK K;simp only[stz]
   have HF:Hid (Res3 wz b4 b5 b6 (.slice none 0 0) di 4/\wz.heap[D]?=some (.deferred (some []))/\Mod NoB w (wz.putObj D (.deferred none))/\yD (cont bl) di [] di 4):=Lib.hid ⟨⟨h4z,h5z,hBz⟩,hSz.obj (fun h=>by
    have h1:=HED.out.res.r4;have h2:=HED.out.res.r5;have h3:=HED.out.res.r6
    rcases h with h|h|h
    ·rw[<-h,hKD]at h1;cases h1
    ·rw[<-h,hKD]at h2;cases h2
    ·rw[<-h,hKD]at h3;cases h3) hKD,mod_put (hm0d.trans hSz (fun k hk h=>by
    have h:k=b4\/k=b5\/k=b6:=h
    omega)) hDb _,by rw[HO.out,if_pos hgt];exact⟨rfl,rfl,rfl⟩⟩
   refine noPanic_nor ?_;clear hS hd0 hd4 hd5 hd6 hSx hSy hSz h4y h6y h5x h6x h4z h5z hBx hBy hBz hmx hmy hmz hc3
   gi_wp2
   exact leave_ret (by rfl) HF.out.2.1 HF.out.1 hid (by rfl) (by rfl) (by rfl) ⟨HF.out.2.2.1,_,[],di,4,rfl,Gat.nil _ _ _ _ _,HF.out.2.2.2,hid,fun x h=>(by cases h)⟩
  ·have hz:¬(256:Int)<((walkM X.1).length:Nat):=by omega
   gi_upto_region 8 with(fail)
   refine wpIn_wide.2 ?_;refine wpR [1,1,3] ?_;simp only[stz];refine wpXd (v:=(.map (some mb))) 144 b7 0 hcb underlying144 trivial ?_;try simp only[nmz]
   refine wpX rfl (exec_lenL HMD.out 144 152 underlying144 _ (by rfl) (by rfl)) trivial ?_;try simp only[nmz]
   refine qG _ _ _ _ _ _ _ _ rfl rfl rfl rfl rfl false (decide_eq_false hz) ?_;simp only[stz];have hris:=clRising_any HMD.out (by omega)
   have hzb:(qA (List.replicate 32 0)).size=32:=idZ_size;have hd4:=HED.out.res.r4;have hd5:=HED.out.res.r5;have hd6:=HED.out.res.r6
   gi_upto_region 10 with(fail)
   refine wpIn_wide.2 ?_;refine wpR [1,1,0,1,1,1] ?_;simp only[stz];refine wpXd (v:=(.map (some mb))) 144 b7 0 hcb underlying144 trivial ?_;try simp only[nmz]
   refine wpD (wpC func84 hris ?_);rintro e wx ⟨hmx,v,ids,rfl,hgx,hsx,hpx,hlx⟩;have h4x:=hmx.obj (fun h=>h) hd4;have h5x:=hmx.obj (fun h=>h) hd5
   have h6x:=hmx.obj (fun h=>h) hd6;obtain⟨ad,cap,rfl⟩:=hgx.slice;refine⟨_,rfl,?_⟩;try simp only[nmz]
   refine qQ rfl (fun w' hS=>qL 24 [] [] _ (by rfl) (by rfl) built_id0) ?_;simp only[nmz]
   refine wpD (qT 25 _ _ b4 0 (.slice ad ids.length cap) (by rfl) (by rfl) (by rfl) rfl (by kernel_rfl) _ _ h4x (by simp) (fun wy hBy hmy=>?_))
   replace hBy:wy.heap[b4]?=some (.cells #[.slice ad ids.length cap] 25 (0,0)):=hBy;have h5y:=hmy.objB (by omega) h5x;have h6y:=hmy.objB (by omega) h6x
   try simp only[nmz]
   refine wpD (qF 24 _ _ b5 0 (qA (List.replicate 32 0)) (by rfl) (by rfl) (by rfl) (qR _) 32 (by kernel_rfl) hzb _ _ h5y (by rw[hzb,qD];exact Nat.le_refl _) (fun wz hBz hmz=>?_))
   rw[qC (by rw[hzb,qD];rfl)]at hBz;have h4z:=hmz.objB (by omega) hBy;have h6z:=hmz.objB (by omega) h6y;try simp only[nmz]
   refine wpD (qT 33 _ _ b6 0 (.int .i64 0) (by rfl) (by rfl) (by rfl) rfl (by kernel_rfl) _ _ h6z (by simp) (fun wu hBu hmu=>?_))
   replace hBu:wu.heap[b6]?=some (.cells #[.int .i64 0] 33 (0,0)):=hBu;have h4u:=hmu.objB (by omega) h4z;have h5u:=hmu.objB (by omega) hBz;simp only[stz]
   have hmxu:Mod (fun k=>k=b4\/k=b5\/k=b6) Wd wu:=(((hmx.mono fun _ _ h=>h.elim).trans hmy (fun _ _ h=>.inl h)).trans hmz (fun _ _ h=>.inr (.inl h))).trans hmu (fun _ _ h=>.inr (.inr h))
   have hmxu':Mod (fun k=>k=b4\/k=b5\/k=b6) wx wu:=((hmy.mono fun _ _ h=>.inl h).trans hmz (fun _ _ h=>.inr (.inl h))).trans hmu (fun _ _ h=>.inr (.inr h))
   have hKu:wu.heap[D]?=some (.deferred (some [])):=hmxu.obj (fun h=>by
    rcases h with h|h|h
    ·rw[<-h,hKD]at hd4;cases hd4
    ·rw[<-h,hKD]at hd5;cases hd5
    ·rw[<-h,hKD]at hd6;cases hd6) hKD
   have hgu:GatI Wd.heap.size wu (.slice ad ids.length cap) ids:=Gat.keep hgx hmxu' fun q hq h=>by
    have h1:=(Gat.lt hgx hq).1;have h2:=(Array.getElem?_eq_some_iff.1 hd4).1;have h3:=(Array.getElem?_eq_some_iff.1 hd5).1;have h4:=(Array.getElem?_eq_some_iff.1 hd6).1
    have h:q=b4\/q=b5\/q=b6:=h;omega
   have HF:Hid (Res3 wu b4 b5 b6 (.slice ad ids.length cap) zeros32 0/\wu.heap[D]?=some (.deferred (some []))/\Mod NoB w (wu.putObj D (.deferred none))/\GatI w.heap.size (wu.putObj D (.deferred none)) (.slice ad ids.length cap) ids/\yD (cont bl) di ids zeros32 0/\∀x∈ids,x.length=32):=Lib.hid ⟨⟨h4u,h5u,hBu⟩,hKu,mod_put (hm0d.trans hmxu (fun k hk h=>by
    have h:k=b4\/k=b5\/k=b6:=h
    omega)) hDb _,GatI.put (hgu.base hm0d.size) hKu _,by rw[HO.out,if_neg hgt];exact⟨⟨hsx,hpx⟩,rfl,rfl⟩,hlx⟩
   clear hmx hmy hmz hmu hgx hsx hpx hlx h4x h5x h6x h5y h6y h4z h6z h4u h5u hBy hBz hBu hmxu hmxu' hKu hgu hris hd4 hd5 hd6
   gi_wp2
   exact leave_ret (by rfl) HF.out.2.1 HF.out.1 zeros32_len (by rfl) (by rfl) (by rfl) ⟨HF.out.2.2.1,_,ids,zeros32,0,rfl,HF.out.2.2.2.1,HF.out.2.2.2.2.1,zeros32_len,HF.out.2.2.2.2.2⟩
 case fell=>
  rintro c hc D Wd hD ⟨hMd,hmd,hkd⟩ hKD
  obtain⟨e,he,rfl⟩:∃e,X.2=some e/\chainW e=c:=by
   cases h9:X.2 with
   |none=>rw[h9]at hc;cases hc
   |some e=>rw[h9]at hc;exact⟨e,rfl,by simpa using hc⟩
  have hEd:=HE9.out.keep hkd;have hm0d:Mod NoB w Wd:=hm09.trans hmd (fun k hk e=>by have e:k=mb:=e;omega);obtain⟨he1,he2,he3⟩:=HERR.out e he
  have hDb:w.heap.size<=D:=by have:=hm09.size;omega
  refine leave_wrong (by rfl) hKD hEd.res zeros32_len (by omega) (by omega) (by omega) he1 (by rfl) (by rfl) (by rfl) (fun w' hm=>?_)
  have hmf:=(mod_put hm0d hDb (.deferred none)).trans hm (fun k hk h=>by
   have h:k=b4\/k=b5\/k=b6:=h
   omega)
  refine⟨hmf,_,[],e.1,e.2,rfl,Gat.nil _ _ _ _ _,?_,he1,fun x h=>(by cases h)⟩;rw[HOUT.out,he];exact⟨rfl,rfl,rfl⟩
end
section
open Go.RowKit Go.Shelf Go.Proofs.Tryz Go.Lib
theorem built_desc3(k:Nat)(x:List UInt8)(n:Nat)(h:x.length=32):prog.built 46 [(0,.int .i64 k),(1,.agg (qA x)),(2,.int .i64 n)]=some (qB ⟨k,x,n,[]⟩):=by
 have p:xR prog 46=some [(0,1),(1,32),(33,1),(34,1)]:=by kernel_rfl
 have hz:(qB descZ).size=35:=qO qV;have hi:(qA x).size=32:=by rw[qD,h]
 have e0:(qB descZ).toList=.int .i64 0::((zeros32.map byteV)++[.int .i64 0,.string ⟨#[]⟩]):=rfl
 have hzl:(zeros32.map byteV).length=32:=by rw[List.length_map];rfl
 rw[zL descZ_i p];generalize qB descZ=z at hz e0
 have s1:∀c:Value,c.cells.size=1->(qZ z 0 c.cells).size=35:=fun c hc=>by rw[yC (by rw[hz,hc];omega),hz]
 have s2:∀c d:Value,c.cells.size=1->d.cells.size=32->(qZ (qZ z 0 c.cells) 1 d.cells).size=35:=fun c d hc hd=>by rw[yC (by rw[s1 c hc,hd];omega),s1 c hc]
 rw[zD (off:=0) (size:=1) rfl (by rfl) (by rw[hz];omega),zD (off:=1) (size:=32) rfl (by simpa[Value.cells]using hi) (by rw[s1 _ rfl];omega),zD (off:=33) (size:=1) rfl (by rfl) (by rw[s2 _ _ rfl (by simpa[Value.cells]using hi)];omega),xT]
 congr 1
 apply Array.toList_inj.1
 generalize zeros32.map byteV=zz at*;simp only[qZ,Value.cells,qB,zX,Array.toList_append,hi]
 simp[e0,hzl,qA,h,List.drop_append]
def DesR(w:World)(d:DescL):Ending->World->Prop:=fun e w'=>e=.returned (.agg (qB d))/\Mod NoB w w'
theorem desc13_any{w:World}{own:Bool}{G:Nat->Prop}{v:Value}{m:List UInt8}(h:Sl own w G 1 ByteC v m)(hl:m.length<=1000000)(k n:Nat)(h1:1<=n)(h2:n<=32):Calls prog 89 #[.int .i64 k,.int .i64 n,v] w (DesR w ⟨k,ofI n m,m.length,[]⟩):=by
 have H:=hid h;obtain⟨ad,cap,rfl,-,-⟩:=Sl.at h;have hdi:(ofI n m).length=32:=ofI_len h2;have hic:(qA (ofI n m)).size=32:=by rw[qD,hdi]
 have hb3:=built_desc3 k (ofI n m) m.length hdi;have hds:(qB ⟨k,ofI n m,m.length,[]⟩).size=35:=qO hdi
 have hzs:(qB descZ).size=35:=qO qV;have hone:∀c∈qB ⟨k,ofI n m,m.length,[]⟩,c.oneCell'=true:=zJ _ _ _ _
 generalize hD:qB ⟨k,ofI n m,m.length,[]⟩=D at*;have HD:=hid hD;clear hD h;go_enter func89,ntmps89;go_upto_region 0 with(fail);refine wpR [1] ?_;simp only[stz]
 refine wpD (qP 46 _ (by rfl) descZ_i (fun w1 hB1 hm1 hs1=>?_));replace hB1:w1.heap[w.heap.size]?=some (.cells (qB descZ) 46 (0,0)):=hB1;simp only[stz]
 have hof:=shaOf_any (H.out.keep0 hm1) hl n h1 h2;go_upto_region 1 with(fail);refine wpR [3,3,1,3,3,3,1,1,3] ?_;simp only[stz]
 refine wpD (wpCM func36 (hof) fun w2 hm2=>?_);simp only[stz]
 refine qE rfl (fun w'=>qI _ 0 #[.agg (qA (ofI n m)),.int .i64 0] rfl rfl (.agg (qA (ofI n m))) rfl) ?_;simp only[nmz]
 refine qE rfl (fun w'=>qI _ 1 #[.agg (qA (ofI n m)),.int .i64 0] rfl rfl (.int .i64 0) rfl) ?_;simp only[nmz]
 refine wpD (qP 24 _ (by rfl) idZ (fun w3 hB3 hm3 hs3=>?_));replace hB3:w3.heap[w2.heap.size]?=some (.cells (qA (List.replicate 32 0)) 24 (0,0)):=hB3
 try simp only[nmz]
 refine wpD (qF 24 _ _ w2.heap.size 0 (qA (ofI n m)) (by rfl) (by rfl) (by rfl) (qR _) 32 (by kernel_rfl) hic _ _ hB3 (by rw[hic,qD];simp) (fun w4 hB4 hm4=>?_))
 rw[qC (by rw[hic,qD];simp)]at hB4;simp only[stz];have hm24:Mod NoB w2 w4:=hm3.transB hm4 (Nat.le_refl _);have hB14:=(hm2.trans0 hm24).obj id hB1
 have hm04:=(hm1.trans0 hm2).trans0 hm24;have hc4:CellsAt w4 w2.heap.size 0 (qA (ofI n m)):=CellsAt.whole hB4;generalize w2.heap.size=b2 at*
 clear hm3 hm4 hm24 hm2 hm1 hB1 hB3 hs3 hof;go_upto_region 2 with(fail);refine wpR [3,1,3,3,0,1] ?_;simp only[stz]
 refine wpXA 24 b2 0 (qA (ofI n m)) hc4 underlying24 32 hic trivial ?_;simp only[stz];refine wpPL ?_;simp only[nmz]
 refine qQ rfl (fun w' hS=>qL 46 [(0,_),(1,_),(2,_)] [(0,.int .i64 k),(1,.agg (qA (ofI n m))),(2,.int .i64 m.length)] _ (by rfl) (by rfl) hb3) ?_
 simp only[nmz];refine wpD (qF 46 _ _ w.heap.size 0 D (by rfl) (by rfl) (by rfl) hone 35 (by kernel_rfl) hds _ _ hB14 (by rw[hds,hzs];omega) (fun w5 hB5 hm5=>?_))
 rw[qC (by rw[hds,hzs])]at hB5;simp only[stz];have HM:Hid (Mod NoB w w5):=hid (hm04.transB hm5 (Nat.le_refl _));clear hm04 hm5;go_wp2
 refine bodyPost_ret (results_row1 (P:=prog) (ty:=46) rfl _ _ w.heap.size _ _ _ _ (by rfl) hB5 underlying46 rfl (by rw[hds];kernel_rfl)) rfl ?_;exact⟨by rw[HD.out],HM.out⟩
def StoAt(w:World)(bs wd:Nat)(c:BlobL)(Ft:Nat->Prop):Prop:=∃ms bl,StInv w bs ms wd 67108864 bl/\cont bl=c/\(∀k,SFoot bs ms bl k->Ft k)/\∀k,Ft k->k<w.heap.size
def SStep(w:World)(bs wd:Nat)(Ft:Nat->Prop)(w':World)(c':BlobL):Prop:=∃F',StoAt w' bs wd c' F'/\Mod Ft w w'/\∀k,F' k->Ft k\/New w w' k
def StNew(w0 w:World)(bs wd:Nat)(c:BlobL):Prop:=∃Ft,StoAt w bs wd c Ft/\(∀k,Ft k->w0.heap.size<=k)/\Mod NoB w0 w
section
variable{w w':World}{bs wd:Nat}{c c':BlobL}{Ft:Nat->Prop}
theorem StoAt.keep{S:Nat->Prop}(h:StoAt w bs wd c Ft)(hm:Mod S w w')(hS:∀k,Ft k->¬S k):StoAt w' bs wd c Ft:=by
 obtain⟨ms,bl,h1,h2,h3,h4⟩:=h;exact⟨ms,bl,h1.keep hm (fun k hk=>hS k (h3 k hk)),h2,h3,fun k hk=>Nat.lt_of_lt_of_le (h4 k hk) hm.size⟩
theorem StoAt.keep0(h:StoAt w bs wd c Ft)(hm:Mod NoB w w'):StoAt w' bs wd c Ft:=h.keep hm (fun _ _=>id)
theorem StoAt.lt(h:StoAt w bs wd c Ft):∀k,Ft k->k<w.heap.size:=by
 obtain⟨_,_,_,_,_,h⟩:=h;exact h
theorem StoAt.put(H:StoAt w bs wd c Ft){own:Bool}{G:Nat->Prop}{v:Value}{m:List UInt8}(hv:Sl own w G 1 ByteC v m)(hm:m.length<=4096)(hfew:c.length<10000):
 Calls prog 37 #[.pointer (some ⟨bs,0,Option.none⟩),.agg (qA (ofI wd m)),v] w (fun e w'=>(∃v,e=.returned v)/\SStep w bs wd Ft w' (putB (ofI wd m) m c)):=by
 obtain⟨ms,bl,h1,rfl,h3,h4⟩:=H;have hu:=h1.used;refine(bPut_any h1 hv hm (by omega) (by simpa[cont]using hfew)).mono ?_;rintro e w' ⟨⟨ok,er,rfl⟩,bl',k1,k2,k3,k4⟩
 exact⟨⟨_,rfl⟩,fun k=>Ft k\/New w w' k,⟨ms,bl',k1,k2,fun k hk=>(k4 k hk).imp (h3 k) id,fun k hk=>hk.elim (fun hk=>Nat.lt_of_lt_of_le (h4 k hk) k3.size) (fun hk=>hk.2)⟩,k3.mono (fun k _ e=>h3 k (e.elim (fun e=>.inl e) (fun e=>.inr (.inl e)))),fun k hk=>hk⟩
end
theorem StNew.step{w0 w w':World}{bs wd:Nat}{c':BlobL}{Ft:Nat->Prop}(hn:∀k,Ft k->w0.heap.size<=k)(hm:Mod NoB w0 w)(hs:SStep w bs wd Ft w' c'):StNew w0 w' bs wd c':=by
 obtain⟨F',h1,h2,h3⟩:=hs;exact⟨F',h1,fun k hk=>(h3 k hk).elim (hn k) (fun h=>Nat.le_trans hm.size h.1),hm.trans h2 (fun k hk hf=>by have:=hn k hf;omega)⟩
def FilR(w:World)(wd:Nat)(L:List (List UInt8)):Ending->World->Prop:=fun e w'=>∃bs,e=.returned (.pointer (some ⟨bs,0,none⟩))/\StNew w w' bs wd (cOf wd L)
def FilRel(w0:World)(bs wd:Nat)(L:List (List UInt8))(i:Value)(w:World):Prop:=∃k:Nat,k<=L.length/\i=.int .i64 k/\StNew w0 w bs wd (cOf wd (L.take k))
theorem filled13_any{w:World}{wn:Nat}(hwz:1<=wn/\wn<=32){lv:Value}{L:List (List UInt8)}(hlv:LsAt w lv L)(hL:L.length<=1000)(hL2:∀b∈L,b.length<=4096):
 Calls prog 18 #[.int .i64 wn,lv] w (FilR w wn L):=by
 obtain⟨lad,lcap,hle,-,-⟩:=Sl.at hlv;have HLV:=hid hlv;clear hlv;rw[hle]at HLV;subst hle;have hnew:=bNew_any (wn:Int) 67108864 (by omega) (by omega) w
 go_enter func18,ntmps18;go_upto_region 1 with(fail);refine wpR [3,1,3,3,3,3,3] ?_;simp only[stz];refine wpD (wpC func78 (hnew) ?_)
 rintro e w1 ⟨bs,ms,rfl,hst3,hm3,hsf3⟩;refine⟨_,rfl,?_⟩;simp only[stz]
 refine qE rfl (fun w'=>qI _ 0 #[.pointer (some ⟨bs,0,none⟩),.int .i64 0] rfl rfl (.pointer (some ⟨bs,0,none⟩)) rfl) ?_;simp only[nmz]
 refine qE rfl (fun w'=>qI _ 1 #[.pointer (some ⟨bs,0,none⟩),.int .i64 0] rfl rfl (.int .i64 0) rfl) ?_;simp only[stz]
 rw[show((wn:Nat):Int).toNat=wn from by simp]at hst3
 have HR0:Hid (FilRel w bs wn L (.int .i64 (0:Nat)) w1):=hid ⟨0,Nat.zero_le _,rfl,SFoot bs ms [],⟨ms,[],hst3,rfl,fun _ h=>h,hst3.lt⟩,fun k hk=>(hsf3 k hk).1,hm3⟩
 clear hst3 hm3 hsf3 hnew;go_wp2
 go_loopw [7] (FilRel w bs wn L) (fun i _=>L.length-(intOf i).toNat)
 case atStart=>exact HR0.out
 case round=>
  rename World=>wr
  obtain⟨k,hk,rfl,hns⟩:=hrel;obtain⟨Ft,hat,hFn,hmr⟩:=hns
  by_cases hlt:k<L.length
  ·have hz:(k:Int)<(L.length:Nat):=by omega
   obtain⟨_,_,hae,-,hatL⟩:=(lsAt_keep0 HLV.out hmr).at;injection hae with hae1 hae2 hae3;subst hae1 hae3;obtain⟨b,off,rfl,-,-,hcc⟩:=hatL k hlt
   obtain⟨cs,-,⟨vk,rfl,hvk⟩,hcA⟩:=hcc k hlt;have hck:=CellsAt.one.1 hcA;have hbw:b<w.heap.size:=sl_lt HLV.out hlt;have hmk:=hL2 _ (List.getElem_mem hlt)
   have hsn:=cOf_snoc wn L k hlt;have hcn:(cOf wn (L.take k)).length<=1000:=Nat.le_trans (cOf_len wn (L.take k) []) (by simp;omega);generalize L[k]=m at*
   obtain⟨va,vc,hve,-,-⟩:=Sl.at hvk;have HVK:=hid hvk;rw[hve]at HVK hck;have HSN:=hid hsn;have href:=refOf_any HVK.out (by omega) wn hwz.1 hwz.2
   have hdi:(ofI wn m).length=32:=ofI_len hwz.2;have hic:(qA (ofI wn m)).size=32:=by rw[qD,hdi]
   clear hsn hatL hcc hcA hae2 hve hvk;go_upto_region 7 with(fail);refine wpR [3,3,3,1,3,1,3,3,3,1,1,3] ?_;simp only[stz];refine wpPI underlying22 1 hlt ?_
   simp only[nmz];refine wpXd (v:=(.slice va m.length vc)) 53 b (off+k*1) hck underlying53 trivial ?_;simp only[stz];refine wpD (wpCM func79 (href) fun w6 hm6=>?_)
   simp only[stz];refine qE rfl (fun w'=>qI _ 0 #[.agg (qA (ofI wn m)),.int .i64 0] rfl rfl (.agg (qA (ofI wn m))) rfl) ?_;simp only[nmz]
   refine qE rfl (fun w'=>qI _ 1 #[.agg (qA (ofI wn m)),.int .i64 0] rfl rfl (.int .i64 0) rfl) ?_;simp only[nmz]
   refine wpD (qP 24 _ (by rfl) idZ (fun w7 hB7 hm7 hs7=>?_));replace hB7:w7.heap[w6.heap.size]?=some (.cells (qA (List.replicate 32 0)) 24 (0,0)):=hB7
   try simp only[nmz]
   refine wpD (qF 24 _ _ w6.heap.size 0 (qA (ofI wn m)) (by rfl) (by rfl) (by rfl) (qR _) 32 (by kernel_rfl) hic _ _ hB7 (by rw[hic,qD];simp) (fun w8 hB8 hm8=>?_))
   rw[qC (by rw[hic,qD];simp)]at hB8;simp only[stz];have hS8:Mod NoB wr w8:=(hm6.trans0 hm7).transB hm8 hm6.size;have hib6:=hm6.size
   have hib8:w6.heap.size<w8.heap.size:=(Array.getElem?_eq_some_iff.1 hB8).1;generalize hib:w6.heap.size=ib at*;have hat8:=hat.keep0 hS8;have hlt8:=hat.lt
   have hput:=(hat8.keep0 ((Mod.refl NoB w8).drew)).put (HVK.out.keep0 (hS8.trans0 ((Mod.refl NoB w8).drew))) hmk (by omega);have hck8:=hS8.cell id hck
   have hci8:CellsAt w8 ib 0 (qA (ofI wn m)):=CellsAt.whole hB8;have hm18:=hmr.trans0 hS8;have hnF:¬Ft ib:=fun e=>by have:=hlt8 _ e;omega
   have hnb:¬Ft b:=fun e=>by have:=hFn _ e;omega
   clear href hck hB8 hB7 hm6 hm7 hm8 hs7 hS8 hat;go_upto_region 8 with(fail)
   have hS:CellsAt w8.drew ib 0 (qA (ofI wn m))/\w8.drew.cell? ⟨b,off+k*1,none⟩=some (.slice va m.length vc)/\Mod Ft w8 w8.drew:=⟨hci8,hck8,(Mod.refl _ _).drew⟩
   refine wpRZ [3,0,3,3,3,0,1] [] (fun w'=>CellsAt w' ib 0 (qA (ofI wn m))/\w'.cell? ⟨b,off+k*1,none⟩=some (.slice va m.length vc)/\Mod Ft w8 w') hS ?_
   simp only[stz];refine wpLA 24 ib 0 (qA (ofI wn m)) (fun w' hS=>hS.1) underlying24 32 hic ?_;simp only[stz];refine wpPI underlying22 1 hlt ?_;simp only[nmz]
   refine wpLd 53 b (off+k*1) (fun w' hS=>hS.2.1) underlying53 ?_;simp only[nmz];refine qM rfl (fun K hK=>?_);refine wpC func37 (hput) ?_
   rintro e w9 ⟨⟨v9,rfl⟩,hst9⟩;have hmd:Mod Ft w8.drew w9:=by obtain⟨_,_,h2,_⟩:=hst9;exact h2
   have hS9:CellsAt w9 ib 0 (qA (ofI wn m))/\w9.cell? ⟨b,off+k*1,none⟩=some (.slice va m.length vc)/\Mod Ft w8 w9:=⟨hci8.keep hmd hnF,hmd.cell hnb hck8,hS.2.2.trans hmd (fun _ _ h=>h)⟩
   have hns9:=StNew.step hFn (hm18.trans0 ((Mod.refl _ _).drew)) hst9
   have HR:Hid (FilRel w bs wn L (.int .i64 ((k+1:Nat):Int)) w9):=hid ⟨k+1,by omega,rfl,by rw[HSN.out];exact hns9⟩;refine⟨_,rfl,hK _ _ hS9 ?_⟩;clear hK K
   simp only[stz];clear hS hS9 hmd hst9 hput hci8 hck8 hat8 hns9;go_wp2
   go_roundw
   case rel=>exact HR.out
   case measure=>simp[intOf];omega
  ·have hz:¬(k:Int)<(L.length:Nat):=by omega
   have hkl:k=L.length:=by omega
   have HF:Hid (FilR w wn L (.returned (.pointer (some ⟨bs,0,none⟩))) wr):=hid ⟨bs,rfl,Ft,by rw[hkl,List.take_length]at hat;exact hat,hFn,hmr⟩;clear hat hFn hmr
   go_wp2;go_ret;exact HF.out
theorem wp_bytesConst{P:Program}{o:Oper}{a:Act}{w:World}{K:Act->World->Prop}{Q:Exit->Act->World->Prop}(t e:TypeId)(x:Operand)(b n c:Nat)(C:Array Value)(ho:o.op=.convert t t x)(hx:a.eval x=.slice (some ⟨b,0,none⟩) n c)
 (ht:P.underlying t=some (.slice e))(he:P.underlying e=some (.int .u8))(hb:w.heap[b]?=some (.cells C e (0,0)))
 (h:∀w',w'.heap[b]?=some (.cells C e (C.size,C.size+1))->Mod (fun k=>k=b) w w'->K (a.put o.dst (.slice (some ⟨b,0,none⟩) n c)) w'):o.wp P a w K Q:=by
 have hsh:w.shape? b=some (e,C.size):=by unfold World.shape?;rw[hb]
 have hr:(convert t t (.slice (some ⟨b,0,none⟩) n c)).run P w=.ok (.slice (some ⟨b,0,none⟩) n c) (w.freeze ⟨b,C.size,none⟩ 1):=by
  simp[convert,run_underlying ht,run_underlying he,markStringish,hsh]
 unfold Oper.wp execOp;simp only[ho,hx,Sem.run_bind,hr,Result.andThen_ok,Sem.run_pure];refine h _ ?_ ⟨rfl,rfl,rfl,?_,fun k hk hne=>?_⟩
 ·unfold World.freeze
  rw[if_neg (by decide)]
  show(w.heap.modify b _)[b]?=_
  rw[Array.getElem?_modify,if_pos rfl,hb]
  rfl
 ·unfold World.freeze
  rw[if_neg (by decide)]
  simp
 ·unfold World.freeze
  rw[if_neg (by decide)]
  show(w.heap.modify b _)[k]?=_
  rw[Array.getElem?_modify,if_neg (fun e=>hne e.symm)]
theorem sl_bytes{w:World}{b n:Nat}{l:List UInt8}{T:TypeId}{fr:Nat×Nat}(h:w.heap[b]?=some (.cells (qA l) T fr))(hn:n=l.length)(hm:l.length<=1000):Sl false w AnyB 1 ByteC (.slice (some ⟨b,0,none⟩) n n) l:=by
 subst hn
 refine⟨some ⟨b,0,none⟩,l.length,rfl,Nat.le_refl _,by unfold maxLen;omega,fun _=>⟨b,0,rfl,trivial,fun e=>(by cases e),fun i hi=>⟨#[byteV l[i]],rfl,rfl,?_⟩⟩⟩
 refine CellsAt.of_obj h fun j hj=>?_;have h0:j=0:=by simpa using hj
 subst h0
 simp[qA,hi]
theorem cells_nth{w:World}{b:Nat}{C:Array Value}{T:TypeId}{fr:Nat×Nat}(h:w.heap[b]?=some (.cells C T fr))(i:Nat)(c:Value)(hc:C[i]?=some c):CellsAt w b (0+i*1) #[c]:=CellsAt.of_obj h fun j hj=>by
 have h0:j=0:=by simpa using hj
 subst h0
 simpa using hc
theorem byte_zs:(prog.info? 5).map (fun i=>(i.zero,i.size))=some (some (byteV 0),1):=by kernel_rfl
theorem bytes_zs:(prog.info? 53).map (fun i=>(i.zero,i.size))=some (some (.slice none 0 0),1):=by kernel_rfl
theorem put_mid(pre a a' suf:List Value)(h:a'.length=a.length):qZ (pre++a++suf).toArray pre.length a'.toArray=(pre++a'++suf).toArray:=by
 apply Array.toList_inj.1
 simp[qZ,h,List.drop_append,List.take_append]
theorem read_mid(pre a suf:List Value)(j:Nat)(h:j<a.length):(pre++a++suf).toArray[pre.length+j]?=a[j]?:=by
 simp only[List.getElem?_toArray,List.append_assoc];rw[List.getElem?_append_right (by omega),Nat.add_sub_cancel_left,List.getElem?_append_left h]
def exRow(p:Value)(A B C D:Array Value):Array Value:=(p::(A.toList++(B.toList++(C.toList++D.toList)))).toArray
section
variable{p q:Value}{A B C D X:Array Value}
theorem yI(hA:A.size=35)(hB:B.size=35)(hC:C.size=35)(hD:D.size=35):(exRow p A B C D).size=141:=by
 simp[exRow,hA,hB,hC,hD]
theorem exRow_one(hp:p.oneCell'=true)(hA:∀c∈A,c.oneCell'=true)(hB:∀c∈B,c.oneCell'=true)(hC:∀c∈C,c.oneCell'=true)(hD:∀c∈D,c.oneCell'=true):∀c∈exRow p A B C D,c.oneCell'=true:=by
 intro c hc;simp only[exRow,List.mem_toArray,List.mem_cons,List.mem_append,Array.mem_toList_iff]at hc
 rcases hc with rfl|hc|hc|hc|hc
 ·exact hp
 ·exact hA _ hc
 ·exact hB _ hc
 ·exact hC _ hc
 ·exact hD _ hc
theorem ex_put1(hA:A.size=35)(hX:X.size=35):qZ (exRow p A B C D) 1 X=exRow p X B C D:=by
 have h:=put_mid [p] A.toList X.toList (B.toList++(C.toList++D.toList)) (by simp[hA,hX])
 simpa[exRow]using h
theorem ex_put2(hA:A.size=35)(hB:B.size=35)(hX:X.size=35):qZ (exRow p A B C D) 36 X=exRow p A X C D:=by
 have h:=put_mid (p::A.toList) B.toList X.toList (C.toList++D.toList) (by simp[hB,hX]);rw[show(p::A.toList).length=36 by simp[hA]]at h
 simpa[exRow]using h
theorem ex_put3(hA:A.size=35)(hB:B.size=35)(hC:C.size=35)(hX:X.size=35):qZ (exRow p A B C D) 71 X=exRow p A B X D:=by
 have h:=put_mid (p::(A.toList++B.toList)) C.toList X.toList D.toList (by simp[hC,hX]);rw[show(p::(A.toList++B.toList)).length=71 by simp[hA,hB]]at h
 simpa[exRow]using h
theorem ex_put4(hA:A.size=35)(hB:B.size=35)(hC:C.size=35)(hD:D.size=35)(hX:X.size=35):qZ (exRow p A B C D) 106 X=exRow p A B C X:=by
 have h:=put_mid (p::(A.toList++(B.toList++C.toList))) D.toList X.toList [] (by simp[hD,hX])
 rw[show(p::(A.toList++(B.toList++C.toList))).length=106 by simp[hA,hB,hC]]at h
 simpa[exRow]using h
variable{w:World}{b:Nat}{T:TypeId}{fr:Nat×Nat}
theorem ex_at0(h:w.heap[b]?=some (.cells (exRow p A B C D) T fr)):w.cell? ⟨b,0,none⟩=some p:=by
 rw[cell_of_row _ _ _ _ _ _ h];rfl
theorem ex_at1(h:w.heap[b]?=some (.cells (exRow p A B C D) T fr)):CellsAt w b 1 A:=CellsAt.of_obj h fun j hj=>by
 have h:=read_mid [p] A.toList (B.toList++(C.toList++D.toList)) j (by simpa using hj)
 simpa[exRow]using h
theorem ex_at2(hA:A.size=35)(h:w.heap[b]?=some (.cells (exRow p A B C D) T fr)):CellsAt w b 36 B:=CellsAt.of_obj h fun j hj=>by
 have h:=read_mid (p::A.toList) B.toList (C.toList++D.toList) j (by simpa using hj);rw[show(p::A.toList).length=36 by simp[hA]]at h
 simpa[exRow]using h
theorem ex_at3(hA:A.size=35)(hB:B.size=35)(h:w.heap[b]?=some (.cells (exRow p A B C D) T fr)):CellsAt w b 71 C:=CellsAt.of_obj h fun j hj=>by
 have h:=read_mid (p::(A.toList++B.toList)) C.toList D.toList j (by simpa using hj);rw[show(p::(A.toList++B.toList)).length=71 by simp[hA,hB]]at h
 simpa[exRow]using h
theorem ex_at4(hA:A.size=35)(hB:B.size=35)(hC:C.size=35)(h:w.heap[b]?=some (.cells (exRow p A B C D) T fr)):CellsAt w b 106 D:=CellsAt.of_obj h fun j hj=>by
 have h:=read_mid (p::(A.toList++(B.toList++C.toList))) D.toList [] j (by simpa using hj)
 rw[show(p::(A.toList++(B.toList++C.toList))).length=106 by simp[hA,hB,hC]]at h
 simpa[exRow]using h
end
section
variable{k k':Nat}{t:List UInt8}{d d':DescL}{lv sv v:Value}
theorem man_put0:qZ (qN k t d lv sv) 0 #[.int .i64 k']=qN k' t d lv sv:=by
 have h:=put_mid [] [.int .i64 k] [.int .i64 k'] (.string ⟨t.toArray⟩::((qB d).toList++[lv,sv])) rfl
 simpa[qN]using h
theorem man_put2(h1:(qB d).size=35)(h2:(qB d').size=35):qZ (qN k t d lv sv) 2 (qB d')=qN k t d' lv sv:=by
 have h:=put_mid [.int .i64 k,.string ⟨t.toArray⟩] (qB d).toList (qB d').toList [lv,sv] (by simp[h1,h2])
 simpa[qN]using h
theorem man_put37(h1:(qB d).size=35):qZ (qN k t d lv sv) 37 #[v]=qN k t d v sv:=by
 have h:=put_mid (.int .i64 k::.string ⟨t.toArray⟩::(qB d).toList) [lv] [v] [sv] rfl
 rw[show(Value.int .i64 k::.string ⟨t.toArray⟩::(qB d).toList).length=37 by simp[h1]]at h
 simpa[qN]using h
theorem man_put38(h1:(qB d).size=35):qZ (qN k t d lv sv) 38 #[v]=qN k t d lv v:=by
 have h:=put_mid (.int .i64 k::.string ⟨t.toArray⟩::((qB d).toList++[lv])) [sv] [v] [] rfl
 rw[show(Value.int .i64 k::.string ⟨t.toArray⟩::((qB d).toList++[lv])).length=38 by simp[h1]]at h
 simpa[qN]using h
end
theorem manZ9:(prog.info? 163).bind (·.zero)=some (.agg (qN 0 [] descZ (.slice none 0 0) (.slice none 0 0))):=by kernel_rfl
theorem man_places:xR prog 163=some [(0,1),(1,1),(2,35),(37,1),(38,1)]:=by kernel_rfl
theorem built_man3(c:DescL)(hc:c.id.length=32)(ad:Option Addr)(n cap:Nat):prog.built 163 [(0,.int .i64 3),(2,.agg (qB c)),(3,.slice ad n cap)]=some (qN 3 [] c (.slice ad n cap) (.slice none 0 0)):=by
 have hz:(qB descZ).size=35:=qO qV;have hs:(qB c).size=35:=qO hc
 have e0:qZ (qN 0 [] descZ (.slice none 0 0) (.slice none 0 0)) 0 #[.int .i64 3]=qN 3 [] descZ (.slice none 0 0) (.slice none 0 0):=man_put0 (k':=3)
 rw[zL manZ9 man_places,zD (off:=0) (size:=1) rfl (by rfl) (by rw[qS qV];omega)];simp only[Value.cells,e0]
 rw[zD (off:=2) (size:=35) rfl (by simpa[Value.cells]using hs) (by rw[qS qV];omega)];simp only[Value.cells,man_put2 hz hs]
 rw[zD (off:=37) (size:=1) rfl (by rfl) (by rw[qS hc];omega)];simp only[Value.cells,man_put37 hs];rw[xT]
theorem built_man4(ad:Option Addr)(n cap:Nat):prog.built 163 [(0,.int .i64 4),(4,.slice ad n cap)]=some (qN 4 [] descZ (.slice none 0 0) (.slice ad n cap)):=by
 have hz:(qB descZ).size=35:=qO qV
 have e0:qZ (qN 0 [] descZ (.slice none 0 0) (.slice none 0 0)) 0 #[.int .i64 4]=qN 4 [] descZ (.slice none 0 0) (.slice none 0 0):=man_put0 (k':=4)
 rw[zL manZ9 man_places,zD (off:=0) (size:=1) rfl (by rfl) (by rw[qS qV];omega)];simp only[Value.cells,e0]
 rw[zD (off:=38) (size:=1) rfl (by rfl) (by rw[qS qV];omega)];simp only[Value.cells,man_put38 hz];rw[xT]
theorem gatD_one{w:World}{b base:Nat}{d:DescL}(hid:d.id.length=32)(h:w.heap[b]?=some (.cells (qB d) 46 (0,0)))(hb:base<=b):GatD base w (.slice (some ⟨b,0,none⟩) 1 1) [d]:=by
 have hs:(qB d).size=35:=qO hid;have he:(descE d).length=35:=xZ d
 refine⟨by simp[he],.inr ⟨b,1,qB d,rfl,hb,h,Nat.le_refl _,by unfold maxLen;omega,by omega,?_⟩⟩;rw[List.take_of_length_le (by simp[hs])]
 simp[descE,hid]
def layB:List UInt8:=[108,97,121,101,114]
def cfgB:List UInt8:=[99,111,110,102,105,103]
def dL:DescL:=⟨2,ofI 32 layB,5,[]⟩
def dC:DescL:=⟨1,ofI 32 cfgB,6,[]⟩
def imgM:ManL:=⟨3,[],dC,[dL],[]⟩
def imgB:List UInt8:=encL imgM
def dM:DescL:=⟨3,ofI 32 imgB,imgB.length,[]⟩
def saidD(more:Nat):DescL:=⟨3,ofI 32 imgB,imgB.length+more,[]⟩
def idxM(more:Nat):ManL:=⟨4,[],descZ,[],[saidD more]⟩
def idxB(more:Nat):List UInt8:=encL (idxM more)
def dX(more:Nat):DescL:=⟨4,ofI 32 (idxB more),(idxB more).length,[]⟩
def libL(more:Nat):List (List UInt8):=[layB,cfgB,imgB,idxB more]
theorem xW(b:List UInt8):(ofI 32 b).length=32:=ofI_len (by omega)
theorem dL_small:SmallD dL:=⟨xW _,by decide,by decide,rfl⟩
theorem dC_small:SmallD dC:=⟨xW _,by decide,by decide,rfl⟩
theorem imgB_len:imgB.length=74:=by
 simp[imgB,encL,encB,imgM,descB,dL,dC,xW]
theorem idxB_len(more:Nat):(idxB more).length=39:=by
 simp[idxB,encL,encB,idxM,descB,saidD,xW]
theorem imgM_small:SmallM imgM:=⟨rfl,dC_small.id,.inl ⟨rfl,dC_small,rfl⟩,fun d hd=>by
 simp[imgM]at hd
 rw[hd]
 exact dL_small,by simp[imgM]⟩
theorem saidD_small{more:Nat}(h:more<=1):SmallD (saidD more):=⟨xW _,by simp[saidD],by simp[saidD,imgB_len];omega,rfl⟩
theorem idxM_small{more:Nat}(h:more<=1):SmallM (idxM more):=⟨rfl,qV,.inr ⟨rfl,rfl,rfl⟩,fun d hd=>by
 simp[idxM]at hd
 rw[hd]
 exact saidD_small h,by simp[idxM]⟩
theorem lib_four:∀more:Nat,more<=1->(cOf 32 (libL more)).length=4:=by
 intro more h
 rcases Nat.le_one_iff_eq_zero_or_eq_one.1 h with rfl|rfl<;>decide+kernel
theorem libL_size(more:Nat):∀b∈libL more,b.length<=4096:=by
 intro b hb;have h1:=imgB_len;have h2:=idxB_len more;simp only[libL,List.mem_cons,List.not_mem_nil,or_false]at hb
 rcases hb with rfl|rfl|rfl|rfl
 ·decide
 ·decide
 ·omega
 ·omega
theorem exampleZ:(prog.info? 48).bind (·.zero)=some (.agg (exRow (.pointer none) (qB descZ) (qB descZ) (qB descZ) (qB descZ))):=by kernel_rfl
theorem said_put(more:Nat):(qB dM).setIfInBounds 33 (.int .i64 ((imgB.length+more:Nat):Int))=qB (saidD more):=by
 apply Array.toList_inj.1
 have h:(ofI 32 imgB).length=32:=xW _;simp only[qB,zX,dM,saidD,Array.toList_setIfInBounds,List.set_cons_succ];generalize ofI 32 imgB=x at*
 rw[List.set_append_right _ _ (by simp[h])]
 simp[h]
theorem dM_33:(qB dM)[33]?=some (.int .i64 (imgB.length:Nat)):=by
 have h:(ofI 32 imgB).length=32:=xW _;rw[<-Array.getElem?_toList];simp only[qB,zX,dM]
 rw[List.getElem?_cons_succ,List.getElem?_append_right (by simp[h])]
 simp[h]
theorem desc_zs9:(prog.info? 46).map (fun i=>(i.zero,i.size))=some (some (.agg (qB descZ)),35):=by kernel_rfl
theorem ex_set0{p q:Value}{A B C D:Array Value}:(exRow p A B C D).setIfInBounds 0 q=exRow q A B C D:=by
 apply Array.toList_inj.1
 simp[exRow]
theorem bts_any{base:Nat}{w:World}{v:Value}{xs:List UInt8}(h:Bts base w v xs):Sl false w AnyB 1 ByteC v xs:=h.sl.weak.mono (fun _ _=>trivial) (fun _ _ h=>h)
theorem StoAt.ids{w:World}{bs wd:Nat}{c:BlobL}{Ft:Nat->Prop}(h:StoAt w bs wd c Ft):Calls prog 38 #[.pointer (some ⟨bs,0,Option.none⟩)] w (IDsR w c):=by
 obtain⟨ms,bl,h1,rfl,_⟩:=h;exact bIDs_any h1
def LibR(w:World)(more:Nat):Ending->World->Prop:=fun e w'=>∃bs,e=.returned (.tuple #[.agg (exRow (.pointer (some ⟨bs,0,none⟩)) (qB dL) (qB dC) (qB dM) (qB (dX more))),.bool true])/\StNew w w' bs 32 (cOf 32 (libL more))
end
end Go.Proofs.YtjeonjoifjbohaaGreat
