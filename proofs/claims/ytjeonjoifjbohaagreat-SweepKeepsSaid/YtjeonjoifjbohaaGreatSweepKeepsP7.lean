/- What the statement SweepKeeps needs, part 7. -/
import Derived.RecoverIn
import Derived.OrdersIn
import Derived.RangeFuncCalls
import Derived.Test.YtjeonjoifjbohaaGreatSweepKeepsP6
set_option linter.unusedVariables false
set_option linter.unusedSimpArgs false
set_option linter.unnecessarySimpa false
set_option linter.unusedSectionVars false
set_option maxRecDepth 10000
set_option maxHeartbeats 8000000
namespace Go.Proofs.YtjeonjoifjbohaaGreat
section
open Go.RowKit Go.Shelf Go.Proofs.Tryz Go.Lib
attribute [local go_sem] Oper.semAt_some
def WkS(St:Nat->Prop)(J:List Thg->World->Prop)(W0:World)(ds:List Deferred)(pre:List Thg)(w:World):Prop:=J pre w/\KSc St W0 w/\MarksOk W0.heap.size ds w
theorem WkS.mod0{St:Nat->Prop}{J:List Thg->World->Prop}{W0 w w':World}{ds:List Deferred}{pre:List Thg}(h:WkS St J W0 ds pre w)(hJ:OwnFrom W0.heap.size J)(hm:Mod NoB w w'):WkS St J W0 ds pre w':=⟨OwnFrom.mod0 hJ h.1 hm,h.2.1.trans (KSc.of0 hm),h.2.2.mod0 hm⟩
theorem ManC.kc{base:Nat}{w w':World}{cs:Array Value}{m:ManL}(h:ManC base w cs m)(hk:KC w w'):ManC base w' cs m:=by
 obtain⟨h0,lv,sv,h1,h2,h3⟩:=h;refine⟨h0,lv,sv,h1,Gat.keep h2 hk (fun q hq hs=>?_),Gat.keep h3 hk (fun q hq hs=>?_)⟩
 ·obtain⟨o,ho,hc⟩:=gat_cells h2 hq
  rw[hs o ho]at hc;cases hc
 ·obtain⟨o,ho,hc⟩:=gat_cells h3 hq
  rw[hs o ho]at hc;cases hc
theorem GatD.kc{base:Nat}{w w':World}{v:Value}{l:List DescL}(h:GatD base w v l)(hk:KC w w'):GatD base w' v l:=Gat.keep h hk fun q hq hs=>by
 obtain⟨o,ho,hc⟩:=gat_cells h hq;rw[hs o ho]at hc;cases hc
def WkI(St:Nat->Prop)(J:List Thg->World->Prop)(W wi:World)(ds:List Deferred)(pre0 pre:List Thg)(w:World):Prop:=WkS St J W ds (pre0++pre) w/\KSc St wi w
theorem wkI_own{St:Nat->Prop}{J:List Thg->World->Prop}{W wi:World}{ds:List Deferred}{pre0:List Thg}(hJ:OwnFrom W.heap.size J)(hSt:∀k,St k->k<W.heap.size)(hW:W.heap.size<=wi.heap.size)(hm:MarksOk W.heap.size ds wi):OwnFrom wi.heap.size (WkI St J W wi ds pre0):=by
 intro s A C row hs hg hr;obtain⟨⟨h1,h2,h3⟩,h4⟩:=hs;have hgm:Mod (fun k=>some k=row) A C:=Mod.of_grown hg fun r e=>e.symm
 have hk:KSc St A C:=⟨KC.of_mod hgm (fun k o e ho=>by
  obtain⟨_,o',ho',hc⟩:=hr k e.symm
  rw[ho]at ho';cases ho';exact hc),hgm.mono (fun k _ e hs=>by have:=(hr k e.symm).1;have:=hSt k hs;omega)⟩
 refine⟨⟨hJ _ A C row h1 hg (fun r e=>⟨Nat.le_trans hW (hr r e).1,(hr r e).2⟩),h2.trans hk,h3.keep fun D _ hmem hD=>?_⟩,h4.trans hk⟩;obtain⟨D',e,hlt⟩:=hm.lt _ hmem
 have e:D=D':=by simpa using e
 exact hgm.obj (fun e'=>by have:=(hr D e'.symm).1;omega) hD
theorem wpIn_rangeFunc_wk{P:Program}{n:Nat}{g:Operand}{assign body:Code}{Q:Exit->Act->World->Prop}{L1:List Value}{ds:List Deferred}{w:World}{p q:Nat}{gf:Nat}{lb:Array Value}(hg:Act.eval ⟨L1.toArray,ds⟩ g=.func (.func gf) #[] lb)
 (eg:∀args w,(callFunc gf args).run P w=.ok (.enter gf args) w){Kp:World->World->Prop}{xs:List Thg}{ch:Option (List PanicEntry)}(hseq:GivesX P gf lb ThE Kp xs ch w)(hKp:Kept Kp w.heap.size)(I:List Thg->World->Prop)(hI:OwnFrom w.heap.size I)(h0:I [] w)
 (hassign:∀(l b:Nat)(W:World)(K:Act->World->Prop),K ⟨((L1.set p (.pointer (some ⟨b,0,none⟩))).set q (.pointer (some ⟨b,0,none⟩))).toArray,[]⟩ W->assign.wpIn (Fence.wide.inRound l) 0 P (Exit.then K (fun _ _ _=>False)) ⟨(L1.set p (.pointer (some ⟨b,0,none⟩))).toArray,[]⟩ W)
 (hbody:∀(l:Nat)(pre:List Thg)(x:Thg)(rest:List Thg)(b:Nat)(W:World),xs=pre++x::rest->I pre W->ThAt W b x->
  body.wpIn (Fence.wide.inRound l) 0 P (Exit.then (fun _ W'=>KeepsFrom w.heap.size W W'/\Kp W W'/\I (pre++[x]) W') (fun _ _ _=>False)) ⟨((L1.set p (.pointer (some ⟨b,0,none⟩))).set q (.pointer (some ⟨b,0,none⟩))).toArray,[]⟩ W)
 (hdone:ch=none->∀(D:Nat)(W:World),w.heap.size<=D->I xs W->W.heap[D]?=some (.deferred (some []))->Q .normal ⟨L1.toArray,{ target:=.collected D,args:=#[] }::ds⟩ W)
 (hfell:∀c,ch=some c->∀(D:Nat)(W:World),w.heap.size<=D->I xs W->W.heap[D]?=some (.deferred (some []))->Q (.panic c) ⟨L1.toArray,{ target:=.collected D,args:=#[] }::ds⟩ W):
 (Code.rangeFunc g #[p] assign body).wpIn Fence.wide n P Q ⟨L1.toArray,ds⟩ w:=by
 refine wpIn_rangeFunc_gvx hg eg hseq (Mod.refl _ _) (fun x args W h=>by obtain⟨b,rfl,-⟩:=h;rfl) hKp I hI h0
  (fun x a W=>∃b,a=⟨((L1.set p (.pointer (some ⟨b,0,none⟩))).set q (.pointer (some ⟨b,0,none⟩))).toArray,[]⟩/\W.heap[b]?=some (.cells (jS x) 150 (0,0)))
  (fun x a' s A C row hs hg hr=>?_) ?_ ?_ hdone hfell
 ·obtain⟨b,h1,h2⟩:=hs
  refine⟨b,h1,(hg.block b (Array.getElem?_eq_some_iff.1 h2).1 (fun e=>?_)).trans h2⟩;obtain⟨_,o,ho,hc⟩:=hr b e.symm;rw[h2]at ho;cases ho;cases hc
 ·rintro l pre x rest args W K hxs hi ⟨b,rfl,hb⟩ hK
  simp only[List.zip_toArray,List.zip_cons_cons,List.zip_nil_right,List.foldl_toArray',List.foldl_cons,List.foldl_nil,List.setIfInBounds_toArray]
  exact hassign l b W _ (hK _ _ (KeepsFrom.refl _ _) (hKp.refl _) hi ⟨b,rfl,hb⟩)
 ·rintro l pre x rest a' W hxs hi ⟨b,rfl,hb⟩
  exact hbody l pre x rest b W hxs hi hb
def WkRel(St:Nat->Prop)(J:List Thg->World->Prop)(W we:World)(t:Thg)(g:DescL->List Thg×Option WErr)(dl:List DescL)(k:Nat)(ds:List Deferred)(w:World):Prop:=
 k<=dl.length/\(∀j (hj:j<dl.length),j<k->(g dl[j]).2=none)/\WkS St J W ds (t::(dl.take k).flatMap fun d=>(g d).1) w/\KSc St we w
section
variable{bs ms wd:Nat}{room:Int}{bl:List Blb}
theorem clSeq1_gives:∀(f:Nat)(t:Thg)(w:World)(B1 B2 bt:Nat),t.d.id.length=32->t.depth+f=6->0<f->StInv w bs ms wd room bl->w.heap[B1]?=some (.cells #[.pointer (some ⟨bs,0,none⟩)] 29 (0,0))->w.heap[B2]?=some (.cells #[.pointer (some ⟨bt,0,none⟩)] 148 (0,0))->ThAt w bt t->
 GivesX prog 155 #[.pointer (some ⟨B1,0,none⟩),.pointer (some ⟨B2,0,none⟩)] ThE (KSc (SFoot bs ms bl)) (walkL (cont bl) f t).1 ((walkL (cont bl) f t).2.map chainW) w
 |0,_,_,_,_,_,_,_,h,_,_,_,_=>by omega
 |f+1,t,w,B1,B2,bt,hid,hdf,_,hst,hb1,hb2,hth=>by
  have IH:=Lib.hid (clSeq1_gives f);intro y J W hW hJ hY h0;have hb1W:=hW.obj id hb1;have hb2W:=hW.obj id hb2;have hthW:ThAt W bt t:=hW.obj id hth
  have hstW:=hst.keep0 hW;have hStl:=hstW.lt;have hic:(qA t.d.id).size=32:=by rw[qD,hid]
  obtain⟨X,hX⟩:∃X,walkL (cont bl) (f+1) t=X:=⟨_,rfl⟩;rw[hX]at hY |-;have HX:=Lib.hid hX;clear hX hb1 hb2 hth hst hW
  refine enter_marks W.heap.size func155 rfl (fun e w D hD hK hr=>⟨hr.1,hJ _ w _ (some D) hr.2 (grownBy_putObj' w D _) (fun r e=>by cases e;exact⟨hD,_,hK,rfl⟩)⟩) (fun t w=>⟨_,results_none rfl _ _ _⟩) ?_
  simp only[ntmps155,List.size_toArray,List.length_cons,List.length_nil,Nat.reduceAdd,Nat.reduceSub,Array.replicate_succ,Array.replicate_zero,List.push_toArray,List.append_toArray,List.nil_append,List.cons_append]
  gi_upto_region 0 with(fail)
  refine wpIn_wide.2 ?_;refine wpR [1] (by rfl) (by rfl) ?_;simp only[stz];refine wpDo rfl ?_;refine zW 252 _ _ (by rfl) (by rfl) (fun w1 hB1 hm1 hs1=>?_)
  replace hB1:w1.heap[W.heap.size]?=some (.cells #[.func (.yield y) #[] #[]] 252 (0,0)):=hB1;simp only[stz]
  have HS1:Hid (WkS (SFoot bs ms bl) J W [] [] w1):=Lib.hid (WkS.mod0 ⟨h0,KSc.of0 (Mod.refl _ _),trivial⟩ hJ hm1)
  have HE1:Hid (WkEnv w1 bs ms wd room bl y W.heap.size B1 B2 bt t):=Lib.hid ⟨by simp[World.cell?,hB1],(by have h9:=hm1.obj id hb1W;simp[World.cell?,h9]),(by have h9:=hm1.obj id hb2W;simp[World.cell?,h9]),hm1.obj id hthW,hstW.keep0 hm1⟩
  clear hB1 hm1 hs1 hb1W hb2W hthW hstW h0;have hget:=fun(w':World)(hm:Mod NoB w1 w')=>bGet_any (HE1.out.mod0 hm).st t.d.id hid
  obtain⟨r,hr⟩:∃q,getL t.d.id (cont bl)=q:=⟨_,rfl⟩;simp only[hr]at hget;have HGR:=Lib.hid hr;clear hr
  cases r with
  |none=>
   obtain rfl:X=([],some (t.d.id,14)):=by rw[<-HX.out];unfold walkL;rw[HGR.out]
   gi_upto_region 1 with(fail)
   refine wpIn_wide.2 ?_;have hS:Mod NoB w1 w1.drew:=(Mod.refl _ _).drew
   refine zY [(0,0),(1,0),(2,3),(3,3),(4,3),(5,0),(6,1),(7,3),(8,3),(9,3),(10,3),(11,3)] [] (fun w'=>Mod NoB w1 w') (by kernel_rfl) (by kernel_rfl) (by kernel_rfl) (by kernel_rfl) (fun _ _ _ _ hd h=>⟨xQ hd h.1,h.2⟩) hS ?_
   simp only[stz];refine wpLd 29 B1 0 (fun w' hS=>(HE1.out.mod0 hS).sc) underlying29 ?_;simp only[nmz];refine wpLd 148 B2 0 (fun w' hS=>(HE1.out.mod0 hS).tc) underlying148 ?_
   simp only[stz];refine wpLA 24 bt (0+1) (qA t.d.id) (fun w' hS=>(HE1.out.mod0 hS).th.id) underlying24 32 hic ?_;simp only[nmz];refine qN rfl (fun K hK=>?_)
   refine qB (qC 33 [.tmp 12,.tmp 17] _ rfl _ func33 rfl (by kernel_rfl) [.pointer (some ⟨bs,0,none⟩),.agg (qA t.d.id)] rfl _) (hget _ hS) ?_
   rintro e w2 ⟨hm2,rfl⟩;refine⟨_,rfl,hK _ _ (hS.trans0 hm2) ?_⟩;clear hK K;simp only[stz]
   refine qE (v:=?_) rfl (fun w'=>?_) ?_;rotate_left;·(go_simp;try with_reducible rfl)
   simp only[nmz];refine qE (v:=?_) rfl (fun w'=>?_) ?_;rotate_left;·(go_simp;try with_reducible rfl)
   simp only[stz];have hm12:=hS.trans0 hm2;have HS2:=Lib.hid (HS1.out.mod0 hJ hm12);have HE2:=Lib.hid (HE1.out.mod0 hm12);clear hS hm2 hm12 hget
   gi_upto_region 2 with(fail)
   refine wpIn_wide.2 ?_;refine wpR [1,3,1] (by rfl) (by rfl) ?_;simp only[stz];refine wpXd (v:=(.pointer (some ⟨bt,0,none⟩))) 148 B2 0 HE2.out.tc underlying148 trivial ?_
   simp only[stz];refine qN rfl (fun K hK=>?_)
   refine wp_enterP (qC 156 [.tmp 21,.tmp 22,.const (.int .i64 14)] _ rfl _ func156 rfl (by kernel_rfl) [.pointer (some ⟨bt,0,none⟩),.bool false,.int .i64 14] rfl _) (thMust_no HE2.out.th hid 14) (fun w9 hm9=>?_)
   exact⟨trivial,rfl,(HS2.out.mod0 hJ hm9).1⟩
  |some m=>
   have hml:m.length<=4096:=by
    have h1:=HGR.out;rw[getB]at h1
    cases hf:findB t.d.id bl with
    |none=>rw[hf]at h1;cases h1
    |some b=>
     rw[hf]at h1;simp only[Option.map_some,Option.some.injEq]at h1;rw[<-h1];exact HE1.out.st.sz b (findB_some hf).1
   have HXS:Hid (X=if(t.first||decide (m.length=t.d.size))=false then([],some (t.d.id,17))else if treeT t=false then(if(decide (t.d.media=1)||decide (t.d.media=2))=false then([],some (t.d.id,20))else([t],none))
    else if 4<t.depth then([],some (t.d.id,18))else match decL m with
     |none=>([],some (t.d.id,5))
     |some M=>if(t.first||decide (M.kind=t.d.media))=false then([],some (t.d.id,20))
      else(t::(yN (fun d=>walkL (cont bl) f ⟨d,t.depth+1,false⟩) (xX M)).1,(yN (fun d=>walkL (cont bl) f ⟨d,t.depth+1,false⟩) (xX M)).2)):=Lib.hid (by rw[<-HX.out,walkL,HGR.out];rfl)
   gi_upto_region 1 with(fail)
   refine wpIn_wide.2 ?_;have hS:Mod NoB w1 w1.drew:=(Mod.refl _ _).drew
   refine zY [(0,0),(1,0),(2,3),(3,3),(4,3),(5,0),(6,1),(7,3),(8,3),(9,3),(10,3),(11,3)] [] (fun w'=>Mod NoB w1 w') (by kernel_rfl) (by kernel_rfl) (by kernel_rfl) (by kernel_rfl) (fun _ _ _ _ hd h=>⟨xQ hd h.1,h.2⟩) hS ?_
   simp only[stz];refine wpLd 29 B1 0 (fun w' hS=>(HE1.out.mod0 hS).sc) underlying29 ?_;simp only[nmz];refine wpLd 148 B2 0 (fun w' hS=>(HE1.out.mod0 hS).tc) underlying148 ?_
   simp only[stz];refine wpLA 24 bt (0+1) (qA t.d.id) (fun w' hS=>(HE1.out.mod0 hS).th.id) underlying24 32 hic ?_;simp only[nmz];refine qN rfl (fun K hK=>?_)
   refine qB (qC 33 [.tmp 12,.tmp 17] _ rfl _ func33 rfl (by kernel_rfl) [.pointer (some ⟨bs,0,none⟩),.agg (qA t.d.id)] rfl _) (hget _ hS) ?_
   rintro e w2 ⟨hm2,bv,rfl,hbv⟩;refine⟨_,rfl,hK _ _ (hS.trans0 hm2) ?_⟩;clear hK K;simp only[stz]
   refine qE (v:=?_) rfl (fun w'=>?_) ?_;rotate_left;·(go_simp;try with_reducible rfl)
   simp only[nmz];refine qE (v:=?_) rfl (fun w'=>?_) ?_;rotate_left;·(go_simp;try with_reducible rfl)
   simp only[stz];have hm12:=hS.trans0 hm2;have HS2:=Lib.hid (HS1.out.mod0 hJ hm12);have HE2:=Lib.hid (HE1.out.mod0 hm12);have hbs:=Bts.sl hbv
   obtain⟨ad,cap,rfl,hle,-⟩:=Sl.at hbs;have HBS:=Lib.hid hbs;clear hS hm2 hm12 hget hbv hbs HS1 HE1 HGR HX
   gi_upto_region 2 with(fail)
   refine wpIn_wide.2 ?_;refine wpR [1,3,1] (by rfl) (by rfl) ?_;simp only[stz];refine wpXd (v:=(.pointer (some ⟨bt,0,none⟩))) 148 B2 0 HE2.out.tc underlying148 trivial ?_
   simp only[stz];refine wpDo rfl ?_
   refine qB (qC 156 [.tmp 21,.tmp 22,.const (.int .i64 14)] _ rfl _ func156 rfl (by kernel_rfl) [.pointer (some ⟨bt,0,none⟩),.bool true,.int .i64 14] rfl _) (thMust_ok bt 14 w2) ?_
   rintro e w3 ⟨rfl,hq⟩;obtain rfl:=hq.symm;refine⟨_,rfl,?_⟩;simp only[stz]
   by_cases hsz:(t.first||decide (m.length=t.d.size))=false
   ·obtain rfl:X=([],some (t.d.id,17)):=by rw[HXS.out,if_pos hsz]
    have hf0:t.first=false:=by simp at hsz;exact hsz.1
    have hz:¬(m.length:Int)=(t.d.size:Int):=by simp at hsz;omega
    have hfs:=fun(w':World)(hm:Mod NoB w2 w')=>(HE2.out.mod0 hm).th.first hid
    have hss:=fun(w':World)(hm:Mod NoB w2 w')=>(HE2.out.mod0 hm).th.size hid;rw[hf0]at hfs
    gi_upto_region 3 with(fail)
    refine wpIn_wide.2 ?_;have hS:Mod NoB w2 w2.drew:=(Mod.refl _ _).drew
    refine zY [(0,0),(1,0),(2,3),(3,3),(4,0),(5,3),(6,3),(7,3),(8,0),(9,3),(10,3),(11,3),(12,0),(13,3),(14,3),(15,1)] [] (fun w'=>Mod NoB w2 w') (by kernel_rfl) (by kernel_rfl) (by kernel_rfl) (by kernel_rfl) (fun _ _ _ _ hd h=>⟨xQ hd h.1,h.2⟩) hS ?_
    simp only[stz];refine wpLd 148 B2 0 (fun w' hS=>(HE2.out.mod0 hS).tc) underlying148 ?_;simp only[nmz]
    refine wpLd 148 B2 0 (fun w' hS=>(HE2.out.mod0 hS).tc) underlying148 ?_;simp only[stz];refine wpLd 4 bt (0+36) (fun w' hS=>hfs _ hS) underlying4 ?_;simp only[stz]
    refine zD _ _ _ _ _ rfl rfl rfl (by kernel_rfl) ?_;simp only[nmz];refine wpLd 148 B2 0 (fun w' hS=>(HE2.out.mod0 hS).tc) underlying148 ?_;simp only[stz]
    refine wpLd 3 bt (0+33) (fun w' hS=>hss _ hS) underlying3 ?_;simp only[nmz];refine qS _ _ _ _ _ _ _ _ rfl rfl rfl rfl rfl false (decide_eq_false hz) ?_
    simp only[stz];refine qN rfl (fun K hK=>?_)
    refine wp_enterP (qC 156 [.tmp 24,.tmp 38,.const (.int .i64 17)] _ rfl _ func156 rfl (by kernel_rfl) [.pointer (some ⟨bt,0,none⟩),.bool false,.int .i64 17] rfl _) (thMust_no (HE2.out.mod0 hS).th hid 17) (fun w9 hm9=>?_)
    exact⟨trivial,rfl,(HS2.out.mod0 hJ (hS.trans0 hm9)).1⟩
   ·have hX2:=HXS.out
    rw[if_neg hsz]at hX2;replace HXS:=Lib.hid hX2;clear hX2
    gi_upto_region 3 with(fail)
    gi_cut [39]from 24 (fun s wx=>s=.tuple #[]/\Mod NoB w2 wx)
    case first=>
     have hfs:=fun(w':World)(hm:Mod NoB w2 w')=>(HE2.out.mod0 hm).th.first hid
     have hss:=fun(w':World)(hm:Mod NoB w2 w')=>(HE2.out.mod0 hm).th.size hid
     by_cases hf0:t.first=true
     ·rw[hf0]at hfs
      clear hsz
      gi_upto_region 3 with(fail)
      refine wpIn_wide.2 ?_;have hS:Mod NoB w2 w2.drew:=(Mod.refl _ _).drew
      refine zY [(0,0),(1,0),(2,3),(3,3),(4,0),(5,3),(6,3),(7,3),(8,0),(9,3),(10,3),(11,3),(12,0),(13,3),(14,3),(15,1)] [] (fun w'=>Mod NoB w2 w') (by kernel_rfl) (by kernel_rfl) (by kernel_rfl) (by kernel_rfl) (fun _ _ _ _ hd h=>⟨xQ hd h.1,h.2⟩) hS ?_
      simp only[stz];refine wpLd 148 B2 0 (fun w' hS=>(HE2.out.mod0 hS).tc) underlying148 ?_;simp only[nmz]
      refine wpLd 148 B2 0 (fun w' hS=>(HE2.out.mod0 hS).tc) underlying148 ?_;simp only[stz];refine wpLd 4 bt (0+36) (fun w' hS=>hfs _ hS) underlying4 ?_;simp only[stz]
      refine qN rfl (fun K hK=>?_)
      refine qB (qC 156 [.tmp 24,.tmp 38,.const (.int .i64 17)] _ rfl _ func156 rfl (by kernel_rfl) [.pointer (some ⟨bt,0,none⟩),.bool true,.int .i64 17] rfl _) (thMust_ok bt 17 _) ?_
      rintro e w3 ⟨rfl,hq⟩;obtain rfl:=hq.symm;refine⟨_,rfl,hK _ _ hS ?_⟩;clear hK K;simp only[stz]
      gi_wp2
      go_meet
      case rel=>exact⟨rfl,hS⟩
     ·have hf0:t.first=false:=by simpa using hf0
      rw[hf0]at hfs;have hz:(m.length:Int)=(t.d.size:Int):=by rw[hf0]at hsz;simp at hsz;omega
      clear hsz
      gi_upto_region 3 with(fail)
      refine wpIn_wide.2 ?_;have hS:Mod NoB w2 w2.drew:=(Mod.refl _ _).drew
      refine zY [(0,0),(1,0),(2,3),(3,3),(4,0),(5,3),(6,3),(7,3),(8,0),(9,3),(10,3),(11,3),(12,0),(13,3),(14,3),(15,1)] [] (fun w'=>Mod NoB w2 w') (by kernel_rfl) (by kernel_rfl) (by kernel_rfl) (by kernel_rfl) (fun _ _ _ _ hd h=>⟨xQ hd h.1,h.2⟩) hS ?_
      simp only[stz];refine wpLd 148 B2 0 (fun w' hS=>(HE2.out.mod0 hS).tc) underlying148 ?_;simp only[nmz]
      refine wpLd 148 B2 0 (fun w' hS=>(HE2.out.mod0 hS).tc) underlying148 ?_;simp only[stz];refine wpLd 4 bt (0+36) (fun w' hS=>hfs _ hS) underlying4 ?_;simp only[stz]
      refine zD _ _ _ _ _ rfl rfl rfl (by kernel_rfl) ?_;simp only[nmz];refine wpLd 148 B2 0 (fun w' hS=>(HE2.out.mod0 hS).tc) underlying148 ?_;simp only[stz]
      refine wpLd 3 bt (0+33) (fun w' hS=>hss _ hS) underlying3 ?_;simp only[nmz];refine qS _ _ _ _ _ _ _ _ rfl rfl rfl rfl rfl true (decide_eq_true hz) ?_
      simp only[stz];refine qN rfl (fun K hK=>?_)
      refine qB (qC 156 [.tmp 24,.tmp 38,.const (.int .i64 17)] _ rfl _ func156 rfl (by kernel_rfl) [.pointer (some ⟨bt,0,none⟩),.bool true,.int .i64 17] rfl _) (thMust_ok bt 17 _) ?_
      rintro e w3 ⟨rfl,hq⟩;obtain rfl:=hq.symm;refine⟨_,rfl,hK _ _ hS ?_⟩;clear hK K;simp only[stz]
      gi_wp2
      go_meet
      case rel=>exact⟨rfl,hS⟩
    case rest=>
     rename World=>wc
     obtain⟨rfl,hmc⟩:=hcut;have HSc:=Lib.hid (HS2.out.mod0 hJ hmc);have HEc:=Lib.hid (HE2.out.mod0 hmc);replace HBS:=Lib.hid (HBS.out.keep0 hmc);clear hmc hsz HS2 HE2
     have htree:=thTree_any HEc.out.th hid;obtain⟨tr,htr⟩:∃q,treeT t=q:=⟨_,rfl⟩;rw[htr]at htree HXS
     gi_upto_region 4 with(fail)
     refine wpIn_wide.2 ?_;refine wpR [1,1,3] (by rfl) (by rfl) ?_;simp only[stz];refine wpXd (v:=(.pointer (some ⟨bt,0,none⟩))) 148 B2 0 HEc.out.tc underlying148 trivial ?_
     try simp only[nmz]
     refine wpDo rfl ?_;refine qB (qC 157 [.tmp 40] _ rfl _ func157 rfl (by kernel_rfl) [.pointer (some ⟨bt,0,none⟩)] rfl _) (htree) ?_;rintro e w3 ⟨rfl,hq⟩
     obtain rfl:=hq.symm;refine⟨_,rfl,?_⟩;try simp only[stz]
     try refine xK _ _ _ rfl rfl rfl ?_
     try simp only[stz]
     clear htree
     cases tr with
     |false=>
      have hmd:=fun(w':World)(hm:Mod NoB wc w')=>(HEc.out.mod0 hm).th.media;have hX2:=HXS.out;rw[if_pos rfl]at hX2
      by_cases h1:t.d.media=1
      ·have hz1:(t.d.media:Int)=1:=by omega
       obtain rfl:X=([t],none):=by rw[hX2,if_neg (by simp[h1])]
       clear hX2
       gi_upto_region 5 with(fail)
       refine wpIn_wide.2 ?_;have hS:Mod NoB wc wc.drew:=(Mod.refl _ _).drew
       refine zY [(0,0),(1,0),(2,3),(3,3),(4,3),(5,0),(6,3),(7,3),(8,0),(9,3),(10,3),(11,3),(12,0),(13,3),(14,3),(15,1)] [] (fun w'=>Mod NoB wc w') (by kernel_rfl) (by kernel_rfl) (by kernel_rfl) (by kernel_rfl) (fun _ _ _ _ hd h=>⟨xQ hd h.1,h.2⟩) hS ?_
       simp only[stz];refine wpLd 148 B2 0 (fun w' hS=>(HEc.out.mod0 hS).tc) underlying148 ?_;simp only[nmz]
       refine wpLd 148 B2 0 (fun w' hS=>(HEc.out.mod0 hS).tc) underlying148 ?_;simp only[stz];refine wpLd 3 bt 0 (fun w' hS=>hmd _ hS) underlying3 ?_;simp only[nmz]
       refine qS _ _ _ _ _ _ _ _ rfl rfl rfl rfl rfl true (decide_eq_true hz1) ?_;simp only[stz];refine qN rfl (fun K hK=>?_)
       refine qB (qC 156 [.tmp 43,.tmp 57,.const (.int .i64 20)] _ rfl _ func156 rfl (by kernel_rfl) [.pointer (some ⟨bt,0,none⟩),.bool true,.int .i64 20] rfl _) (thMust_ok bt 20 _) ?_
       rintro e w3 ⟨rfl,hq⟩;obtain rfl:=hq.symm;refine⟨_,rfl,hK _ _ hS ?_⟩;clear hK K;simp only[stz];have HSd:=Lib.hid (HSc.out.mod0 hJ hS)
       have HEd:=Lib.hid (HEc.out.mod0 hS);have hYk:=hY [] t [] _ _ rfl HSd.out.1 ⟨bt,rfl,HEd.out.th⟩;clear hS
       gi_upto_region 6 with(fail)
       refine wpIn_region_lit ?_;refine wpListIn_plain rfl fun K hK=>zH (fun c h=>by cases h) ?_
       refine zO (zE 252 _ (by rfl) W.heap.size 0 (by rfl) _ HEd.out.yc _ underlying252 rfl) ?_;refine hK _ _ ?_;clear hK K;simp only[nmz]
       refine wpListIn_plain rfl fun K hK=>zH (fun c h=>by cases h) ?_;refine zO (zE 148 _ (by rfl) B2 0 (by rfl) _ HEd.out.tc _ underlying148 rfl) ?_
       refine hK _ _ ?_;clear hK K;simp only[nmz]
       refine wpListIn_plain rfl fun K hK=>jJ (l:=y) _ _ _ (by rfl) (by rfl) (.pointer (some ⟨bt,0,none⟩)) (by rfl) (yield0 hYk) (fun e' w5 he'=>?_)
       obtain⟨rfl,hJ5,hk5,hf5⟩:=he';refine⟨_,rfl,?_⟩;refine hK _ _ ?_;clear hK K;simp only[nmz];refine wpListIn_nil ?_;have HF:Hid (J [t] w5):=Lib.hid hJ5
       clear hJ5 hk5 hf5 hYk
       gi_wp2
       exact⟨trivial,fun v=>⟨⟨v,rfl⟩,HF.out⟩⟩
      ·have hn1:¬(t.d.media:Int)=1:=by omega
       by_cases h2:t.d.media=2
       ·have hz2:(t.d.media:Int)=2:=by omega
        obtain rfl:X=([t],none):=by rw[hX2,if_neg (by simp[h2])]
        clear hX2
        gi_upto_region 5 with(fail)
        refine wpIn_wide.2 ?_;have hS:Mod NoB wc wc.drew:=(Mod.refl _ _).drew
        refine zY [(0,0),(1,0),(2,3),(3,3),(4,3),(5,0),(6,3),(7,3),(8,0),(9,3),(10,3),(11,3),(12,0),(13,3),(14,3),(15,1)] [] (fun w'=>Mod NoB wc w') (by kernel_rfl) (by kernel_rfl) (by kernel_rfl) (by kernel_rfl) (fun _ _ _ _ hd h=>⟨xQ hd h.1,h.2⟩) hS ?_
        simp only[stz];refine wpLd 148 B2 0 (fun w' hS=>(HEc.out.mod0 hS).tc) underlying148 ?_;simp only[nmz]
        refine wpLd 148 B2 0 (fun w' hS=>(HEc.out.mod0 hS).tc) underlying148 ?_;simp only[stz];refine wpLd 3 bt 0 (fun w' hS=>hmd _ hS) underlying3 ?_;simp only[nmz]
        refine qS _ _ _ _ _ _ _ _ rfl rfl rfl rfl rfl false (decide_eq_false hn1) ?_;simp only[stz]
        refine wpLd 148 B2 0 (fun w' hS=>(HEc.out.mod0 hS).tc) underlying148 ?_;simp only[stz];refine wpLd 3 bt 0 (fun w' hS=>hmd _ hS) underlying3 ?_;simp only[nmz]
        refine qS _ _ _ _ _ _ _ _ rfl rfl rfl rfl rfl true (decide_eq_true hz2) ?_;simp only[stz];refine qN rfl (fun K hK=>?_)
        refine qB (qC 156 [.tmp 43,.tmp 57,.const (.int .i64 20)] _ rfl _ func156 rfl (by kernel_rfl) [.pointer (some ⟨bt,0,none⟩),.bool true,.int .i64 20] rfl _) (thMust_ok bt 20 _) ?_
        rintro e w3 ⟨rfl,hq⟩;obtain rfl:=hq.symm;refine⟨_,rfl,hK _ _ hS ?_⟩;clear hK K;simp only[stz];have HSd:=Lib.hid (HSc.out.mod0 hJ hS)
        have HEd:=Lib.hid (HEc.out.mod0 hS);have hYk:=hY [] t [] _ _ rfl HSd.out.1 ⟨bt,rfl,HEd.out.th⟩;clear hS
        gi_upto_region 6 with(fail)
        refine wpIn_region_lit ?_;refine wpListIn_plain rfl fun K hK=>zH (fun c h=>by cases h) ?_
        refine zO (zE 252 _ (by rfl) W.heap.size 0 (by rfl) _ HEd.out.yc _ underlying252 rfl) ?_;refine hK _ _ ?_;clear hK K;simp only[nmz]
        refine wpListIn_plain rfl fun K hK=>zH (fun c h=>by cases h) ?_;refine zO (zE 148 _ (by rfl) B2 0 (by rfl) _ HEd.out.tc _ underlying148 rfl) ?_
        refine hK _ _ ?_;clear hK K;simp only[nmz]
        refine wpListIn_plain rfl fun K hK=>jJ (l:=y) _ _ _ (by rfl) (by rfl) (.pointer (some ⟨bt,0,none⟩)) (by rfl) (yield0 hYk) (fun e' w5 he'=>?_)
        obtain⟨rfl,hJ5,hk5,hf5⟩:=he';refine⟨_,rfl,?_⟩;refine hK _ _ ?_;clear hK K;simp only[nmz];refine wpListIn_nil ?_;have HF:Hid (J [t] w5):=Lib.hid hJ5
        clear hJ5 hk5 hf5 hYk
        gi_wp2
        exact⟨trivial,fun v=>⟨⟨v,rfl⟩,HF.out⟩⟩
       ·have hn2:¬(t.d.media:Int)=2:=by omega
        obtain rfl:X=([],some (t.d.id,20)):=by rw[hX2,if_pos (by simp[h1,h2])]
        clear hX2
        gi_upto_region 5 with(fail)
        refine wpIn_wide.2 ?_;have hS:Mod NoB wc wc.drew:=(Mod.refl _ _).drew
        refine zY [(0,0),(1,0),(2,3),(3,3),(4,3),(5,0),(6,3),(7,3),(8,0),(9,3),(10,3),(11,3),(12,0),(13,3),(14,3),(15,1)] [] (fun w'=>Mod NoB wc w') (by kernel_rfl) (by kernel_rfl) (by kernel_rfl) (by kernel_rfl) (fun _ _ _ _ hd h=>⟨xQ hd h.1,h.2⟩) hS ?_
        simp only[stz];refine wpLd 148 B2 0 (fun w' hS=>(HEc.out.mod0 hS).tc) underlying148 ?_;simp only[nmz]
        refine wpLd 148 B2 0 (fun w' hS=>(HEc.out.mod0 hS).tc) underlying148 ?_;simp only[stz];refine wpLd 3 bt 0 (fun w' hS=>hmd _ hS) underlying3 ?_;simp only[nmz]
        refine qS _ _ _ _ _ _ _ _ rfl rfl rfl rfl rfl false (decide_eq_false hn1) ?_;simp only[stz]
        refine wpLd 148 B2 0 (fun w' hS=>(HEc.out.mod0 hS).tc) underlying148 ?_;simp only[stz];refine wpLd 3 bt 0 (fun w' hS=>hmd _ hS) underlying3 ?_;simp only[nmz]
        refine qS _ _ _ _ _ _ _ _ rfl rfl rfl rfl rfl false (decide_eq_false hn2) ?_;simp only[stz];refine qN rfl (fun K hK=>?_)
        refine wp_enterP (qC 156 [.tmp 43,.tmp 57,.const (.int .i64 20)] _ rfl _ func156 rfl (by kernel_rfl) [.pointer (some ⟨bt,0,none⟩),.bool false,.int .i64 20] rfl _) (thMust_no (HEc.out.mod0 hS).th hid 20) (fun w9 hm9=>?_)
        exact⟨trivial,rfl,(HSc.out.mod0 hJ (hS.trans0 hm9)).1⟩
     |true=>
      have hX2:=HXS.out;rw[if_neg (by simp)]at hX2;have hdp:=fun(w':World)(hm:Mod NoB wc w')=>(HEc.out.mod0 hm).th.depth hid
      by_cases hd4:4<t.depth
      ·have hz:¬(t.depth:Int)<=4:=by omega
       obtain rfl:X=([],some (t.d.id,18)):=by rw[hX2,if_pos hd4]
       clear hX2
       gi_upto_region 7 with(fail)
       refine wpIn_wide.2 ?_;have hS:Mod NoB wc wc.drew:=(Mod.refl _ _).drew
       refine zY [(0,0),(1,0),(2,3),(3,3),(4,0),(5,3),(6,1)] [] (fun w'=>Mod NoB wc w') (by kernel_rfl) (by kernel_rfl) (by kernel_rfl) (by kernel_rfl) (fun _ _ _ _ hd h=>⟨xQ hd h.1,h.2⟩) hS ?_
       simp only[stz];refine wpLd 148 B2 0 (fun w' hS=>(HEc.out.mod0 hS).tc) underlying148 ?_;simp only[nmz]
       refine wpLd 148 B2 0 (fun w' hS=>(HEc.out.mod0 hS).tc) underlying148 ?_;simp only[stz];refine wpLd 3 bt (0+35) (fun w' hS=>hdp _ hS) underlying3 ?_;simp only[nmz]
       refine qS _ _ _ _ _ _ _ _ rfl rfl rfl rfl rfl false (decide_eq_false hz) ?_;simp only[nmz];refine qN rfl (fun K hK=>?_)
       refine wp_enterP (qC 156 [.tmp 62,.tmp 67,.const (.int .i64 18)] _ rfl _ func156 rfl (by kernel_rfl) [.pointer (some ⟨bt,0,none⟩),.bool false,.int .i64 18] rfl _) (thMust_no (HEc.out.mod0 hS).th hid 18) (fun w9 hm9=>?_)
       exact⟨trivial,rfl,(HSc.out.mod0 hJ (hS.trans0 hm9)).1⟩
      ·have hz:(t.depth:Int)<=4:=by omega
       rw[if_neg hd4]at hX2;replace HXS:=Lib.hid hX2;clear hX2
       gi_upto_region 7 with(fail)
       refine wpIn_wide.2 ?_;have hS:Mod NoB wc wc.drew:=(Mod.refl _ _).drew
       refine zY [(0,0),(1,0),(2,3),(3,3),(4,0),(5,3),(6,1)] [] (fun w'=>Mod NoB wc w') (by kernel_rfl) (by kernel_rfl) (by kernel_rfl) (by kernel_rfl) (fun _ _ _ _ hd h=>⟨xQ hd h.1,h.2⟩) hS ?_
       simp only[stz];refine wpLd 148 B2 0 (fun w' hS=>(HEc.out.mod0 hS).tc) underlying148 ?_;simp only[nmz]
       refine wpLd 148 B2 0 (fun w' hS=>(HEc.out.mod0 hS).tc) underlying148 ?_;simp only[stz];refine wpLd 3 bt (0+35) (fun w' hS=>hdp _ hS) underlying3 ?_;simp only[nmz]
       refine qS _ _ _ _ _ _ _ _ rfl rfl rfl rfl rfl true (decide_eq_true hz) ?_;simp only[nmz];refine qN rfl (fun K hK=>?_)
       refine qB (qC 156 [.tmp 62,.tmp 67,.const (.int .i64 18)] _ rfl _ func156 rfl (by kernel_rfl) [.pointer (some ⟨bt,0,none⟩),.bool true,.int .i64 18] rfl _) (thMust_ok bt 18 _) ?_
       rintro e w3 ⟨rfl,hq⟩;obtain rfl:=hq.symm;refine⟨_,rfl,hK _ _ hS ?_⟩;clear hK K;simp only[stz];have HSd:=Lib.hid (HSc.out.mod0 hJ hS)
       have HEd:=Lib.hid (HEc.out.mod0 hS);have hbd:=HBS.out.keep0 hS;clear hdp HSc HEc HBS;generalize hwd:wc.drew=wd' at*;clear hwd hS
       gi_upto_region 8 with(fail)
       refine wpIn_wide.2 ?_;refine wpR [3,1,3,3,3,1,1,1,1] (by rfl) (by rfl) ?_;simp only[stz];refine wpDo rfl ?_
       refine qB (qC 158 [.tmp 70] _ rfl _ func158 rfl (by kernel_rfl) [.slice ad m.length cap] rfl _) (mDecode_any hbd hml) ?_
       rintro e w6 ⟨hm6,cs,er,at_,rfl,her,hmc⟩;have hcs:=hmc.size;have hone:=hmc.one;refine⟨_,rfl,?_⟩;simp only[stz]
       refine qE (v:=?_) rfl (fun w'=>?_) ?_;rotate_left;·(go_simp;try with_reducible rfl)
       simp only[nmz];refine qE (v:=?_) rfl (fun w'=>?_) ?_;rotate_left;·(go_simp;try with_reducible rfl)
       simp only[nmz];refine wpDo rfl ?_;refine qR 163 _ (by rfl) manZ_i (fun w7 hB7 hm7 hs7=>?_)
       replace hB7:w7.heap[w6.heap.size]?=some (.cells (zA 0 [] descZ (.slice none 0 0) (.slice none 0 0)) 163 (0,0)):=hB7;try simp only[nmz]
       refine wpDo rfl ?_;refine qR 255 _ (by rfl) fltZ (fun w8 hB8 hm8 hs8=>?_)
       replace hB8:w8.heap[w7.heap.size]?=some (.cells #[.int .i64 0,.int .i64 0] 255 (0,0)):=hB8;try simp only[nmz]
       refine wpDo rfl ?_
       refine qH 163 _ _ w6.heap.size 0 cs (by rfl) (by rfl) (by rfl) hone 39 (by kernel_rfl) hcs _ _ (hm8.obj id hB7) (by rw[hcs];exact Nat.le_of_eq (zM xF).symm) (fun w9 hB9 hm9=>?_)
       rw[qF (by rw[hcs];exact(zM xF).symm)]at hB9;have hB8':=hm9.objB (by omega) hB8;try simp only[nmz]
       refine wpDo rfl ?_
       refine qH 255 _ _ w7.heap.size 0 #[.int .i64 er,.int .i64 at_] (by rfl) (by rfl) (by rfl) (by simp[Value.oneCell']) 2 (by kernel_rfl) rfl _ _ hB8' (by simp) (fun wa hBa hma=>?_)
       rw[qF (by rfl)]at hBa;have hB9':=hma.objB (by omega) hB9;simp only[stz];have h66:=hm6.size;have h67:=hm7.size
       have hm6a:Mod NoB w6 wa:=((hm7.trans0 hm8).transB hm9 (Nat.le_refl _)).transB hma (by omega);have hmda:Mod NoB wd' wa:=hm6.trans0 hm6a
       have HMC:=Lib.hid (hmc.keep0 hm6a);have hce:wa.cell? ⟨w7.heap.size,0,none⟩=some (.int .i64 er):=by simp[World.cell?,hBa]
       have HER:=Lib.hid her;have HSa:=Lib.hid (HSd.out.mod0 hJ hmda);have HEa:=Lib.hid (HEd.out.mod0 hmda);have HBM:=Lib.hid hB9';generalize hb7:w7.heap.size=b7 at*
       generalize hb6:w6.heap.size=b6 at*;clear hm6 hm7 hm8 hm9 hma hm6a hmda hB7 hB8 hB8' hB9 hB9' hBa hmc her hbd HSd HEd h66 h67 hs7 hs8
       by_cases hez:er=0
       rotate_left
       ·have hdn:decL m=none:=by
         cases hd:decL m with
         |none=>rfl
         |some q=>exact absurd (HER.out.2 (by rw[hd];rfl)) hez
        obtain rfl:X=([],some (t.d.id,5)):=by rw[HXS.out,hdn]
        clear hdn
        gi_upto_region 9 with(fail)
        refine wpIn_wide.2 ?_;refine wpR [1,3,1,3,1] (by rfl) (by rfl) ?_;simp only[stz]
        refine wpXd (v:=(.pointer (some ⟨bt,0,none⟩))) 148 B2 0 HEa.out.tc underlying148 trivial ?_;simp only[stz]
        refine wpXd (v:=(.int .i64 er)) 33 b7 0 hce underlying33 trivial ?_;try simp only[nmz]
        refine qS _ _ _ _ _ _ _ _ rfl rfl rfl rfl rfl false (decide_eq_false hez) ?_;simp only[nmz];refine qN rfl (fun K hK=>?_)
        refine wp_enterP (qC 156 [.tmp 74,.tmp 77,.const (.int .i64 5)] _ rfl _ func156 rfl (by kernel_rfl) [.pointer (some ⟨bt,0,none⟩),.bool false,.int .i64 5] rfl _) (thMust_no HEa.out.th hid 5) (fun w9 hm9=>?_)
        exact⟨trivial,rfl,(HSa.out.mod0 hJ hm9).1⟩
       ·subst hez
        obtain⟨M,hM⟩:∃M,decL m=some M:=Option.isSome_iff_exists.1 (HER.out.1 rfl);have hmc:=HMC.out;rw[hM]at hmc;replace hmc:ManC wd'.heap.size wa cs M:=hmc
        have hX2:=HXS.out;rw[hM]at hX2
        gi_upto_region 9 with(fail)
        refine wpIn_wide.2 ?_;refine wpR [1,3,1,3,1] (by rfl) (by rfl) ?_;simp only[stz]
        refine wpXd (v:=(.pointer (some ⟨bt,0,none⟩))) 148 B2 0 HEa.out.tc underlying148 trivial ?_;simp only[stz]
        refine wpXd (v:=(.int .i64 0)) 33 b7 0 hce underlying33 trivial ?_;try simp only[nmz]
        refine qS _ _ _ _ _ _ _ _ rfl rfl rfl rfl rfl true (by decide) ?_;simp only[nmz];refine wpDo rfl ?_
        refine qB (qC 156 [.tmp 74,.tmp 77,.const (.int .i64 5)] _ rfl _ func156 rfl (by kernel_rfl) [.pointer (some ⟨bt,0,none⟩),.bool true,.int .i64 5] rfl _) (thMust_ok bt 5 wa) ?_
        rintro e w3 ⟨rfl,hq⟩;obtain rfl:=hq.symm;refine⟨_,rfl,?_⟩;simp only[stz]
        have hck:wa.cell? ⟨b6,0,none⟩=some (.int .i64 M.kind):=by
         rw[cell_of_row _ _ _ _ _ _ HBM.out];obtain⟨-,lv,sv,rfl,-,-⟩:=hmc;exact man_kind _ _ _ _ _
        have hfs:=fun(w':World)(hm:Mod NoB wa w')=>(HEa.out.mod0 hm).th.first hid
        have hmd:=fun(w':World)(hm:Mod NoB wa w')=>(HEa.out.mod0 hm).th.media;clear hce HER HXS HMC
        by_cases hkd:(t.first||decide (M.kind=t.d.media))=false
        ·obtain rfl:X=([],some (t.d.id,20)):=by rw[hX2];exact if_pos hkd
         clear hX2;have hf0:t.first=false:=by simp at hkd;exact hkd.1
         have hz9:¬(M.kind:Int)=(t.d.media:Int):=by simp at hkd;omega
         rw[hf0]at hfs
         gi_upto_region 10 with(fail)
         refine wpIn_wide.2 ?_;have hS:Mod NoB wa wa.drew:=(Mod.refl _ _).drew
         refine zY [(0,0),(1,0),(2,3),(3,3),(4,0),(5,3),(6,3),(7,0),(8,0),(9,3),(10,3),(11,3),(12,0),(13,3),(14,3),(15,1)] [] (fun w'=>Mod NoB wa w') (by kernel_rfl) (by kernel_rfl) (by kernel_rfl) (by kernel_rfl) (fun _ _ _ _ hd h=>⟨xQ hd h.1,h.2⟩) hS ?_
         simp only[stz];refine wpLd 148 B2 0 (fun w' hS=>(HEa.out.mod0 hS).tc) underlying148 ?_;simp only[nmz]
         refine wpLd 148 B2 0 (fun w' hS=>(HEa.out.mod0 hS).tc) underlying148 ?_;simp only[stz];refine wpLd 4 bt (0+36) (fun w' hS=>hfs _ hS) underlying4 ?_
         simp only[stz];refine wpLd 3 b6 0 (fun w' hS=>hS.cell id hck) underlying3 ?_;simp only[nmz]
         refine wpLd 148 B2 0 (fun w' hS=>(HEa.out.mod0 hS).tc) underlying148 ?_;simp only[stz];refine wpLd 3 bt 0 (fun w' hS=>hmd _ hS) underlying3 ?_;simp only[nmz]
         refine qS _ _ _ _ _ _ _ _ rfl rfl rfl rfl rfl false (decide_eq_false hz9) ?_;simp only[stz];refine qN rfl (fun K hK=>?_)
         refine wp_enterP (qC 156 [.tmp 79,.tmp 93,.const (.int .i64 20)] _ rfl _ func156 rfl (by kernel_rfl) [.pointer (some ⟨bt,0,none⟩),.bool false,.int .i64 20] rfl _) (thMust_no (HEa.out.mod0 hS).th hid 20) (fun w9 hm9=>?_)
         exact⟨trivial,rfl,(HSa.out.mod0 hJ (hS.trans0 hm9)).1⟩
        ·replace hX2:=hX2.trans (if_neg hkd)
         gi_upto_region 10 with(fail)
         gi_cut [94]from 79 (fun s wx=>s=.tuple #[]/\Mod NoB wa wx)
         case first=>
          clear hX2
          by_cases hf0:t.first=true
          ·rw[hf0]at hfs
           clear hkd
           gi_upto_region 10 with(fail)
           refine wpIn_wide.2 ?_;have hS:Mod NoB wa wa.drew:=(Mod.refl _ _).drew
           refine zY [(0,0),(1,0),(2,3),(3,3),(4,0),(5,3),(6,3),(7,0),(8,0),(9,3),(10,3),(11,3),(12,0),(13,3),(14,3),(15,1)] [] (fun w'=>Mod NoB wa w') (by kernel_rfl) (by kernel_rfl) (by kernel_rfl) (by kernel_rfl) (fun _ _ _ _ hd h=>⟨xQ hd h.1,h.2⟩) hS ?_
           simp only[stz];refine wpLd 148 B2 0 (fun w' hS=>(HEa.out.mod0 hS).tc) underlying148 ?_;simp only[nmz]
           refine wpLd 148 B2 0 (fun w' hS=>(HEa.out.mod0 hS).tc) underlying148 ?_;simp only[stz];refine wpLd 4 bt (0+36) (fun w' hS=>hfs _ hS) underlying4 ?_
           simp only[stz];refine qN rfl (fun K hK=>?_)
           refine qB (qC 156 [.tmp 79,.tmp 93,.const (.int .i64 20)] _ rfl _ func156 rfl (by kernel_rfl) [.pointer (some ⟨bt,0,none⟩),.bool true,.int .i64 20] rfl _) (thMust_ok bt 20 _) ?_
           rintro e w3 ⟨rfl,hq⟩;obtain rfl:=hq.symm;refine⟨_,rfl,hK _ _ hS ?_⟩;clear hK K;simp only[stz]
           gi_wp2
           go_meet
           case rel=>exact⟨rfl,hS⟩
          ·have hf0:t.first=false:=by simpa using hf0
           rw[hf0]at hfs;have hz9:(M.kind:Int)=(t.d.media:Int):=by rw[hf0]at hkd;simp at hkd;omega
           clear hkd
           gi_upto_region 10 with(fail)
           refine wpIn_wide.2 ?_;have hS:Mod NoB wa wa.drew:=(Mod.refl _ _).drew
           refine zY [(0,0),(1,0),(2,3),(3,3),(4,0),(5,3),(6,3),(7,0),(8,0),(9,3),(10,3),(11,3),(12,0),(13,3),(14,3),(15,1)] [] (fun w'=>Mod NoB wa w') (by kernel_rfl) (by kernel_rfl) (by kernel_rfl) (by kernel_rfl) (fun _ _ _ _ hd h=>⟨xQ hd h.1,h.2⟩) hS ?_
           simp only[stz];refine wpLd 148 B2 0 (fun w' hS=>(HEa.out.mod0 hS).tc) underlying148 ?_;simp only[nmz]
           refine wpLd 148 B2 0 (fun w' hS=>(HEa.out.mod0 hS).tc) underlying148 ?_;simp only[stz];refine wpLd 4 bt (0+36) (fun w' hS=>hfs _ hS) underlying4 ?_
           simp only[stz];refine wpLd 3 b6 0 (fun w' hS=>hS.cell id hck) underlying3 ?_;simp only[nmz]
           refine wpLd 148 B2 0 (fun w' hS=>(HEa.out.mod0 hS).tc) underlying148 ?_;simp only[stz];refine wpLd 3 bt 0 (fun w' hS=>hmd _ hS) underlying3 ?_;simp only[nmz]
           refine qS _ _ _ _ _ _ _ _ rfl rfl rfl rfl rfl true (decide_eq_true hz9) ?_;simp only[stz];refine qN rfl (fun K hK=>?_)
           refine qB (qC 156 [.tmp 79,.tmp 93,.const (.int .i64 20)] _ rfl _ func156 rfl (by kernel_rfl) [.pointer (some ⟨bt,0,none⟩),.bool true,.int .i64 20] rfl _) (thMust_ok bt 20 _) ?_
           rintro e w3 ⟨rfl,hq⟩;obtain rfl:=hq.symm;refine⟨_,rfl,hK _ _ hS ?_⟩;clear hK K;simp only[stz]
           gi_wp2
           go_meet
           case rel=>exact⟨rfl,hS⟩
         case rest=>
          rename World=>wb
          obtain⟨rfl,hmb⟩:=hcut;have HSb:=Lib.hid (HSa.out.mod0 hJ hmb);have HEb:=Lib.hid (HEa.out.mod0 hmb);have hmc2:=hmc.keep0 hmb
          have hcm:wb.heap[b6]?=some (.cells cs 163 (0,0)):=hmb.obj id HBM.out;clear hmb hmc hck hfs hmd hkd HSa HEa HBM
          obtain⟨g,hg⟩:∃g,(fun d=>walkL (cont bl) f ⟨d,t.depth+1,false⟩)=g:=⟨_,rfl⟩;rw[hg]at hX2;have hlens:=decL_len hM;have hids:=decL_ids hM
          have hdl:(xX M).length<=33:=by
           unfold xX;simp only[List.length_append]
           split<;>simp<;>omega
          obtain⟨dl,hds⟩:∃ds,xX M=ds:=⟨_,rfl⟩;have hX1:X.1=t::(yN g dl).1:=by rw[hX2,hds]
          have hYk:=hY [] t _ _ _ hX1 HSb.out.1 ⟨bt,rfl,HEb.out.th⟩;have HX1:=Lib.hid hX2;clear hX2 hX1
          gi_upto_region 11 with(fail)
          refine wpIn_region_lit ?_;refine wpListIn_plain rfl fun K hK=>zH (fun c h=>by cases h) ?_
          refine zO (zE 252 _ (by rfl) W.heap.size 0 (by rfl) _ HEb.out.yc _ underlying252 rfl) ?_;refine hK _ _ ?_;clear hK K;simp only[nmz]
          refine wpListIn_plain rfl fun K hK=>zH (fun c h=>by cases h) ?_
          refine zO (zE 148 _ (by rfl) B2 0 (by rfl) _ HEb.out.tc _ underlying148 rfl) ?_;refine hK _ _ ?_;clear hK K;simp only[nmz]
          refine wpListIn_plain rfl fun K hK=>jJ (l:=y) _ _ _ (by rfl) (by rfl) (.pointer (some ⟨bt,0,none⟩)) (by rfl) (yield0 hYk) (fun e' w5 he'=>?_)
          obtain⟨rfl,hJ5,hk5,hf5⟩:=he';refine⟨_,rfl,?_⟩;refine hK _ _ ?_;clear hK K;refine wpListIn_plain rfl fun K hK=>zH (fun c h=>by cases h) ?_
          refine zO (jR _ _ true (by rfl) (by rfl)) ?_;refine hK _ _ ?_;clear hK K;simp only[nmz];refine wpListIn_nil ?_;have hs5:KSc (SFoot bs ms bl) wb w5:=hk5
          have HE5:=Lib.hid (HEb.out.keep hs5);have HS5:Hid (WkS (SFoot bs ms bl) J W [] [t] w5):=Lib.hid ⟨hJ5,HSb.out.2.1.trans hs5,trivial⟩
          have hcm5:=hs5.1.obj hcm rfl;have hmc5:=hmc2.kc hs5.1;have hdc:=mDescs_any hmc5 ⟨hlens.1,hlens.2.1⟩;rw[hds]at hdc HX1 hids hdl
          clear hJ5 hk5 hf5 hYk hmc2 hmc5 hs5 hcm hlens HSb HEb hM
          gi_upto_region 12 with(fail)
          refine wpIn_wide.2 ?_;refine wpR [1,1,3,3] (by rfl) (by rfl) ?_;simp only[stz];refine wpXA 163 b6 0 cs (CellsAt.whole hcm5) underlying163 39 hcs trivial ?_
          try simp only[nmz]
          refine wpDo rfl ?_;refine qB (qC 159 [.tmp 99] _ rfl _ func159 rfl (by kernel_rfl) [.agg cs] rfl _) hdc ?_;rintro e we ⟨hme,dv,rfl,hgd⟩
          have HGD:=Lib.hid hgd;obtain⟨dad,dcap,rfl⟩:=hgd.slice;clear hgd;refine⟨_,rfl,?_⟩;try simp only[nmz]
          refine zD _ _ _ _ _ rfl rfl rfl (by kernel_rfl) ?_;simp only[stz];have HE6:=Lib.hid (HE5.out.mod0 hme);have HS6:=Lib.hid (HS5.out.mod0 hJ hme)
          have h6s:W.heap.size<=we.heap.size:=HS6.out.2.1.1.size
          have HR0:Hid (WkRel (SFoot bs ms bl) J W we t g dl 0 [] we):=Lib.hid ⟨Nat.zero_le _,fun j _ h=>absurd h (Nat.not_lt_zero _),by simpa using HS6.out,KSc.of0 (Mod.refl _ _)⟩
          have HDS:=Lib.hid hids;clear hme hcm5 hdc HE5 HS5 hids
          gi_wp2
          refine wp_loopFr dl.length (WkRel (SFoot bs ms bl) J W we t g dl) HR0.out ⟨_,_,_,rfl,rfl⟩ rfl ?_;clear HR0
          intro k ds g9 g10 x103 x104 x105 x106 x107 x108 x109 x110 x111 x112 x113 x114 x115 x116 x117 x118 x119 x120 x121 wr hrel
          simp only[wkFr,List.set_cons_succ,List.set_cons_zero,List.take_succ_cons,List.take_zero,List.cons_append,List.nil_append];obtain⟨hk,hno,hsr,hkr⟩:=hrel
          by_cases hlt:k<dl.length
          ·have hzk:(k:Int)<(dl.length:Nat):=by omega
           have hgr:GatD w5.heap.size wr (.slice dad dl.length dcap) dl:=HGD.out.kc hkr.1;obtain⟨gb,cap',cur,hq,hgc,hcc,hsz,-,-⟩:=hgr.at descE_len k hlt
           cases hq
           obtain⟨rest0,hrest⟩:=walkDs_at g dl k hlt hno;have hst9:=fun e he=>walkDs_stop g e dl k hlt hno he
           have hsn:(dl.take (k+1)).flatMap (fun d=>(g d).1)=(dl.take k).flatMap (fun d=>(g d).1)++(g dl[k]).1:=by rw[List.take_succ_eq_append_getElem hlt,List.flatMap_append];simp
           have hno2:(g dl[k]).2=none->∀j (hj:j<dl.length),j<k+1->(g dl[j]).2=none:=fun h j hj hl=>by
            rcases Nat.lt_or_ge j k with h1|h1
            ·exact hno j hj h1
            ·obtain rfl:j=k:=by omega
             exact h
           have hdid:=HDS.out dl[k] (List.getElem_mem _);generalize dl[k]=d at*;rw[descE_eq hdid]at hcc;have hdsz:(qW d).size=35:=zQ hdid
           have hdone:∀c∈qW d,c.oneCell'=true:=descRow_one _ _ _ _;have HEr:=Lib.hid (HE6.out.keep hkr);have HSr:=Lib.hid hsr;have HKR:=Lib.hid hkr
           have HREST:=Lib.hid hrest;have HST9:=Lib.hid hst9;have HSN:=Lib.hid hsn;have HNO2:=Lib.hid hno2;clear hgr hkr hsr hrest hst9 hsn hno2 hno hsz hgc
           gi_upto_region 14 with(fail)
           refine wpIn_wide.2 ?_;refine wpR [3,1,1,1] (by rfl) (by rfl) ?_;simp only[stz]
           refine qQ _ _ _ _ _ _ _ _ _ rfl rfl rfl rfl underlying161 (n:=35) (by kernel_rfl) hlt ?_;simp only[nmz]
           refine wpXA 46 gb (k*35) (qW d) hcc underlying46 35 hdsz trivial ?_;try simp only[nmz]
           refine wpDo rfl ?_;refine qR 46 _ (by rfl) descZ_i (fun wf hBf hmf hsf=>?_)
           replace hBf:wf.heap[wr.heap.size]?=some (.cells (qW descZ) 46 (0,0)):=hBf;try simp only[nmz]
           refine wpDo rfl ?_
           refine qH 46 _ _ wr.heap.size 0 (qW d) (by rfl) (by rfl) (by rfl) hdone 35 (by kernel_rfl) hdsz _ _ hBf (by rw[hdsz];exact Nat.le_of_eq (zQ xF).symm) (fun wg hBg hmg=>?_)
           rw[qF (by rw[hdsz];exact(zQ xF).symm)]at hBg;simp only[stz];have hmrg:Mod NoB wr wg:=hmf.transB hmg (Nat.le_refl _)
           have HEg:=Lib.hid (HEr.out.mod0 hmrg);have HSg:=Lib.hid (HSr.out.mod0 hJ hmrg)
           have HKG:Hid (KSc (SFoot bs ms bl) we wg):=Lib.hid (HKR.out.trans (KSc.of0 hmrg));have hcg:CellsAt wg wr.heap.size 0 (qW d):=CellsAt.whole hBg
           generalize hb9:wr.heap.size=b9 at*;clear hmf hmg hBf hBg hcc hmrg hsf HEr HSr HKR
           have hdp:=fun(w':World)(hm:Mod NoB wg w')=>(HEg.out.mod0 hm).th.depth hid;have hd5:t.depth<=4:=by omega
           have hbt:=built_thing d hdid ((t.depth+1:Nat):Int) (t.depth+1) rfl false
           gi_upto_region 15 with(fail)
           refine wpIn_wide.2 ?_;have hS:Mod NoB wg wg.drew:=(Mod.refl _ _).drew
           refine zY [(0,0),(1,0),(2,0),(3,3),(4,3),(5,0),(6,3),(7,0),(8,1),(9,1)] [] (fun w'=>Mod NoB wg w') (by kernel_rfl) (by kernel_rfl) (by kernel_rfl) (by kernel_rfl) (fun _ _ _ _ hd h=>⟨xQ hd h.1,h.2⟩) hS ?_
           simp only[stz];refine wpLd 29 B1 0 (fun w' hS=>(HEg.out.mod0 hS).sc) underlying29 ?_;simp only[nmz]
           refine wpLA 46 b9 0 (qW d) (fun w' hS=>hcg.keep hS id) underlying46 35 hdsz ?_;simp only[nmz]
           refine wpLd 148 B2 0 (fun w' hS=>(HEg.out.mod0 hS).tc) underlying148 ?_;simp only[stz];refine wpLd 3 bt (0+35) (fun w' hS=>hdp _ hS) underlying3 ?_
           simp only[nmz];refine zR _ _ _ _ (t.depth:Int) 1 ((t.depth+1:Nat):Int) rfl rfl rfl rfl (by omega) (by omega) (by omega) ?_;simp only[nmz]
           refine qM rfl (fun w' hS=>qO 150 [(0,_),(1,_),(2,_)] [(0,.agg (qW d)),(1,.int .i64 ((t.depth+1:Nat):Int)),(2,.bool false)] _ (by rfl) (by rfl) hbt) ?_
           simp only[nmz];refine qN rfl (fun K hK=>?_);refine zW 150 _ _ (by rfl) (by rfl) (fun wh hBh hmh hsh=>?_)
           replace hBh:wh.heap[wg.drew.heap.size]?=some (.cells (jS ⟨d,t.depth+1,false⟩) 150 (0,0)):=hBh;have hSh:=hS.trans0 hmh;refine hK _ _ hSh ?_
           clear hK K;try simp only[nmz]
           refine qN rfl (fun K hK=>?_)
           refine qB (qC 83 [.tmp 106,.tmp 114] _ rfl _ func83 rfl (by kernel_rfl) [.pointer (some ⟨bs,0,none⟩),.pointer (some ⟨wg.drew.heap.size,0,none⟩)] rfl _) (clSeq_any wh bs _) ?_
           rintro e wi ⟨C1,C2,rfl,hC1,hC2,hmi⟩;have hSi:=hSh.trans0 hmi;refine⟨_,rfl,hK _ _ hSi ?_⟩;clear hK K;simp only[stz]
           have hthi:ThAt wi wg.drew.heap.size ⟨d,t.depth+1,false⟩:=hmi.obj id hBh;have HEi:=Lib.hid (HEg.out.mod0 hSi);have HSi:=Lib.hid (HSg.out.mod0 hJ hSi)
           have HKI:Hid (KSc (SFoot bs ms bl) we wi):=Lib.hid (HKG.out.trans (KSc.of0 hSi))
           have hG:=IH.out ⟨d,t.depth+1,false⟩ wi C1 C2 _ hdid (by show t.depth+1+f=6;omega) (by omega) HEi.out.st hC1 hC2 hthi
           rw[show walkL (cont bl) f ⟨d,t.depth+1,false⟩=g d by rw[<-hg]]at hG;have hGs:W.heap.size<=wi.heap.size:=HSi.out.2.1.1.size
           have hXk:X.1=(t::(dl.take k).flatMap (fun d=>(g d).1))++((g d).1++rest0):=by rw[HX1.out,HREST.out];rfl
           have HXK:=Lib.hid hXk;clear hBh hmh hsh hSh hmi hSi hC1 hC2 hthi hdp hbt hcg HEg HSg HKG hXk hS
           gi_wp2
           refine wpIn_rangeFunc_wk (q:=10) (gf:=155) (by rfl) (enters_of func155 (by kernel_rfl) rfl) hG (kept_sc (fun k hk=>by have:=hStl k hk;omega)) (WkI (SFoot bs ms bl) J W wi ds (t::(dl.take k).flatMap fun d=>(g d).1)) (wkI_own hJ hStl hGs HSi.out.2.2) ⟨by simpa using HSi.out,KSc.of0 (Mod.refl _ _)⟩ ?assign ?body ?done ?fell
           case assign=>
            intro l b Wc K hK0;simp only[ss,sz]
            gi_wp2
            exact hK0
           case body=>
            rintro l pre x rest b Wc hxs ⟨⟨hJc,hkc,hmk⟩,hkw⟩ hth;simp only[ss,sz];have HEc:=Lib.hid (HEi.out.keep hkw)
            have hYk:=hY _ x (rest++rest0) Wc #[.pointer (some ⟨b,0,none⟩)] (by rw[HXK.out,hxs];simp) hJc ⟨b,rfl,hth⟩
            gi_upto_region 17 with(fail)
            refine wpIn_region_lit ?_;refine qX rfl rfl fun K hK=>?_
            refine zO (zE 252 _ (by rfl) W.heap.size 0 (by rfl) _ HEc.out.yc _ underlying252 rfl) ?_;refine hK _ _ ?_;clear hK K;simp only[nmz]
            refine qX rfl rfl fun K hK=>?_;refine zO (exec_move _ (by rfl)) ?_;refine hK _ _ ?_;clear hK K;simp only[nmz]
            refine wpListIn_plain rfl fun K hK=>wpIn_yieldR (l:=y) _ _ _ (by rfl) (by rfl) (.pointer (some ⟨b,0,none⟩)) (by rfl) hYk (fun e' w6 he'=>?_)
            obtain⟨rfl,hJ6,hk6,hf6⟩:=he';refine⟨_,rfl,?_⟩;refine hK _ _ ?_;clear hK K;refine qX rfl rfl fun K hK=>?_
            refine zO (jR _ _ true (by rfl) (by rfl)) ?_;refine hK _ _ ?_;clear hK K;simp only[nmz];refine wpListIn_nil ?_
            have HF:Hid (KeepsFrom wi.heap.size Wc w6/\KSc (SFoot bs ms bl) Wc w6/\WkI (SFoot bs ms bl) J W wi ds (t::(dl.take k).flatMap fun d=>(g d).1) (pre++[x]) w6):=Lib.hid ⟨⟨hf6.size,fun j o hb ho hc=>hf6.same j o (by omega) ho hc⟩,hk6,⟨by rw[<-List.append_assoc];exact hJ6,hkc.trans hk6,hmk.from hf6 (Nat.le_refl _)⟩,hkw.trans hk6⟩
            clear hJ6 hk6 hf6 hYk
            gi_wp2
            exact HF.out
           case done=>
            rintro hnn D Wd hD ⟨⟨hJd,hkd9,hmk⟩,hkw⟩ hKD;have hnn:(g d).2=none:=by simpa using hnn
            have HR:Hid (WkRel (SFoot bs ms bl) J W we t g dl (k+1) ({ target:=.collected D,args:=#[] }::ds) Wd):=Lib.hid ⟨hlt,HNO2.out hnn,⟨by rw[HSN.out];exact hJd,hkd9,MarksOk.cons HSi.out.2.2 hmk hD (by omega) hKD⟩,HKI.out.trans hkw⟩
            clear hJd hkd9 hmk hkw hKD
            gi_wp2
            refine⟨hlt,_,_,_,_,?hl,rfl,HR.out⟩
            case hl=>rfl
           case fell=>
            rintro c hc D Wd hD ⟨⟨hJd,hkd9,hmk⟩,hkw⟩ hKD
            obtain⟨e9,he9,rfl⟩:∃e9,(g d).2=some e9/\chainW e9=c:=by
             cases h9:(g d).2 with
             |none=>rw[h9]at hc;cases hc
             |some e9=>rw[h9]at hc;exact⟨e9,rfl,by simpa using hc⟩
            have hX9:X=(t::((dl.take k).flatMap (fun d=>(g d).1)++(g d).1),some e9):=by rw[HX1.out,HST9.out e9 he9]
            refine⟨MarksOk.cons HSi.out.2.2 hmk hD (by omega) hKD,?_,?_⟩
            ·rw[hX9];rfl
            ·rw[hX9];exact hJd
          ·have hzk:¬(k:Int)<(dl.length:Nat):=by omega
           obtain rfl:k=dl.length:=by omega
           have hX9:X=(t::dl.flatMap (fun d=>(g d).1),none):=by rw[HX1.out,walkDs_none g dl (fun j hj=>hno j hj hj)]
           have HF:Hid (MarksOk W.heap.size ds wr/\J X.1 wr/\X.2=none):=Lib.hid ⟨hsr.2.2,by rw[hX9];have h9:=hsr.1;rw[List.take_length]at h9;exact h9,by rw[hX9]⟩
           clear hsr hkr hno hX9
           gi_wp2
           exact⟨HF.out.1,fun v=>⟨by rw[HF.out.2.2];exact⟨v,rfl⟩,HF.out.2.1⟩⟩
end
end
section
open Go.RowKit Go.Shelf Go.Proofs.Tryz Go.Lib
theorem exec_assertOk{P:Program}{o:Oper}{a:Act}{w:World}(x:Operand)(ti t:TypeId)(v:Value)(ho:o.op=.typeAssert x ti t true)(hx:a.eval x=.iface t v)(hn:(∀ms,P.underlying t≠some (.interface ms))/\(P.underlying t).isSome=true):(execOp a.eval o).run P w=.ok (.value (.tuple #[v,.bool true])) w:=by
 unfold execOp;simp only[ho,hx];obtain⟨hn,hs⟩:=hn;obtain⟨d,hd⟩:=Option.isSome_iff_exists.1 hs
 cases d<;>simp[Instr.typeAssert,run_underlying hd]
 exact absurd hd (hn _)
structure Res3(w:World)(b4 b5 b6:Nat)(v4:Value)(x5:List UInt8)(n6:Int):Prop where
 r4:w.heap[b4]?=some (.cells #[v4] 25 (0,0))
 r5:w.heap[b5]?=some (.cells (qA x5) 24 (0,0))
 r6:w.heap[b6]?=some (.cells #[.int .i64 n6] 33 (0,0))
theorem catch_wrong{w:World}{b4 b5 b6:Nat}{e:WErr}{v4:Value}{x5:List UInt8}{n6:Int}(h:Res3 w b4 b5 b6 v4 x5 n6)(hx5:x5.length=32)(h45:b4≠b5)(h46:b4≠b6)(h56:b5≠b6)(he:e.1.length=32):
 CallsDIn Fence.wide 0 prog 82 #[.pointer (some ⟨b4,0,none⟩),.pointer (some ⟨b5,0,none⟩),.pointer (some ⟨b6,0,none⟩)] (.panicking (chainW e)) w fun x u' w'=>
  x=.returned (.tuple #[])/\u'=.panicking [{ v:=wrongV e,recovered:=true }]/\Res3 w' b4 b5 b6 (.slice none 0 0) e.1 e.2/\Mod (fun k=>k=b4\/k=b5\/k=b6) w w':=by
 refine callsDIn_of_wpSIn func82 rfl trivial fun c₀ cs hu=>?_
 apply wpSIn_seq
 apply wpSIn_region
 simp[wpOpsSIn,go_sem,recoverD,hu,ntmps82,Exit.thenS,chainW,wrongV]
 simp only[Array.replicate_succ,Array.replicate_zero,List.push_toArray,List.append_toArray,List.nil_append,List.cons_append,List.setIfInBounds_toArray,sz,ss]
 refine wpSIn_of_wpIn rfl ?_;refine wpIn_wide.2 ?_;have hic:(qA x5).size=32:=by rw[qD,hx5]
 have hie:(qA e.1).size=32:=by rw[qD,he]
 have hws:((e.1.map byteV++[Value.int .i64 e.2]).toArray).size=33:=by simp[he]
 have hw1:∀c∈(e.1.map byteV++[Value.int .i64 e.2]).toArray,c.oneCell'=true:=by
  intro c hc;simp only[List.mem_toArray,List.mem_append,List.mem_map,List.mem_singleton]at hc
  rcases hc with⟨x,-,rfl⟩|rfl<;>rfl
 go_upto_region 2 with(fail);refine wpR [3,1,3,3,3,1,1,3] (by rfl) (by rfl) ?_;simp only[stz]
 refine wpX rfl (exec_assertOk _ _ 142 (.agg ((e.1.map byteV++[Value.int .i64 e.2]).toArray)) (by rfl) (by rfl) wrong_noIface) trivial ?_;simp only[stz]
 refine qE (v:=?_) rfl (fun w'=>?_) ?_;rotate_left;·(go_simp;try with_reducible rfl)
 simp only[nmz];refine qE (v:=?_) rfl (fun w'=>?_) ?_;rotate_left;·(go_simp;try with_reducible rfl)
 simp only[nmz];refine wpDo rfl ?_;refine qR 142 _ (by rfl) wrongZ (fun w1 hB1 hm1 hs1=>?_)
 replace hB1:w1.heap[w.heap.size]?=some (.cells ((List.replicate 32 (byteV 0)++[Value.int .i64 0]).toArray) 142 (0,0)):=hB1;try simp only[nmz]
 refine wpDo rfl ?_
 refine qH 142 _ _ w.heap.size 0 ((e.1.map byteV++[Value.int .i64 e.2]).toArray) (by rfl) (by rfl) (by rfl) hw1 33 (by kernel_rfl) hws _ _ hB1 (by simp[he]) (fun w2 hB2 hm2=>?_)
 rw[qF (by rw[hws];simp)]at hB2;simp only[stz];have hm02:Mod NoB w w2:=hm1.transB hm2 (Nat.le_refl _)
 have hci:CellsAt w2 w.heap.size 0 (qA e.1):=CellsAt.of_obj hB2 fun j hj=>by
  rw[<-Array.getElem?_toList,<-Array.getElem?_toList,Nat.zero_add];simp only[qA];rw[qD]at hj;rw[List.getElem?_append_left (by simpa using hj)]
 have hce:w2.cell? ⟨w.heap.size,32,none⟩=some (.int .i64 e.2):=by
  rw[cell_of_row _ _ _ _ _ _ hB2,<-Array.getElem?_toList,List.getElem?_append_right (by simp[he])]
  simp[he]
 have l4:=(Array.getElem?_eq_some_iff.1 h.r4).1;have l5:=(Array.getElem?_eq_some_iff.1 h.r5).1;have l6:=(Array.getElem?_eq_some_iff.1 h.r6).1;have h4:=hm02.obj id h.r4
 have h5:=hm02.obj id h.r5;have h6:=hm02.obj id h.r6;generalize hbn:w.heap.size=bn at*;clear hB1 hB2 hm1 hm2 hs1 h;go_upto_region 5 with(fail)
 have hS:Mod (fun k=>k=b4\/k=b5\/k=b6) w2 w2.drew:=(Mod.refl _ _).drew;have hd4:=(Mod.refl NoB w2).drew.obj id h4;have hd5:=(Mod.refl NoB w2).drew.obj id h5
 have hd6:=(Mod.refl NoB w2).drew.obj id h6;refine wpRP [(0,3),(1,0),(2,3),(3,0),(4,1),(5,1),(6,1)] [] (fun w'=>Mod (fun k=>k=b4\/k=b5\/k=b6) w2 w') hS ?_
 simp only[stz];refine wpLA 24 bn 0 (qA e.1) (fun w' hS=>hci.keep hS (fun h=>by omega)) underlying24 32 hie ?_;simp only[stz]
 refine wpLd 33 bn (0+32) (fun w' hS=>hS.cell (fun h=>by have h:bn=b4\/bn=b5\/bn=b6:=h;omega) hce) underlying33 ?_;simp only[nmz]
 refine qN rfl (fun K hK=>?_);refine qV 25 _ _ b4 0 (.slice none 0 0) (by rfl) (by rfl) (by rfl) rfl (by kernel_rfl) _ _ hd4 (by simp) (fun w3 hB3 hm3=>?_)
 replace hB3:w3.heap[b4]?=some (.cells #[.slice none 0 0] 25 (0,0)):=hB3;have hS3:=hS.trans hm3 (fun _ _ h=>.inl h);have h53:=hm3.objB (fun h=>h45 h.symm) hd5
 have h63:=hm3.objB (fun h=>h46 h.symm) hd6;refine hK _ _ hS3 ?_;clear hK K;try simp only[nmz]
 refine qN rfl (fun K hK=>?_)
 refine qH 24 _ _ b5 0 (qA e.1) (by rfl) (by rfl) (by rfl) (qT _) 32 (by kernel_rfl) hie _ _ h53 (by rw[hie,hic];omega) (fun w4 hB4 hm4=>?_)
 rw[qF (by rw[hie,hic])]at hB4;have hS4:=hS3.trans hm4 (fun _ _ h=>.inr (.inl h));have h44:=hm4.objB h45 hB3;have h64:=hm4.objB (fun h=>h56 h.symm) h63
 refine hK _ _ hS4 ?_;clear hK K;try simp only[nmz]
 refine qN rfl (fun K hK=>?_);refine qV 33 _ _ b6 0 (.int .i64 e.2) (by rfl) (by rfl) (by rfl) rfl (by kernel_rfl) _ _ h64 (by simp) (fun w5 hB5 hm5=>?_)
 replace hB5:w5.heap[b6]?=some (.cells #[.int .i64 e.2] 33 (0,0)):=hB5;have hS5:=hS4.trans hm5 (fun _ _ h=>.inr (.inr h));have h45':=hm5.objB h46 h44
 have h55:=hm5.objB h56 hB4;refine hK _ _ hS5 ?_;clear hK K;simp only[stz];refine⟨rfl,_,rfl,_,results_none rfl _ _ _,rfl,rfl,⟨h45',h55,hB5⟩,?_⟩
 exact(hm02.mono (fun _ _ h=>h.elim)).trans hS5 (fun _ _ h=>h)
theorem catch_idle(b4 b5 b6:Nat)(w:World):
 CallsDIn Fence.wide 0 prog 82 #[.pointer (some ⟨b4,0,none⟩),.pointer (some ⟨b5,0,none⟩),.pointer (some ⟨b6,0,none⟩)] .returning w fun x u' w'=>x=.returned (.tuple #[])/\u'=.returning/\w'=w:=by
 refine callsDIn_of_wpSIn func82 rfl trivial fun c₀ cs hu=>?_
 apply wpSIn_seq
 apply wpSIn_region
 simp[wpOpsSIn,go_sem,recoverD,hu,ntmps82,Exit.thenS]
 simp only[Array.replicate_succ,Array.replicate_zero,List.push_toArray,List.append_toArray,List.nil_append,List.cons_append,List.setIfInBounds_toArray,sz,ss]
 refine wpSIn_of_wpIn rfl ?_;refine wpIn_wide.2 ?_;go_wp2;exact⟨rfl,.returning,by rw[<-hu],_,results_none rfl _ _ _,rfl,rfl,rfl⟩
end
section
open Go.Proofs.Tryz Go.Lib
def thgI(id:List UInt8):Thg:=⟨⟨0,id,0,[]⟩,1,true⟩
def walkM(xs:List Thg):List (List UInt8×Value):=xs.foldl (fun m t=>putL t.d.id (linkV 0) m) []
theorem walkM_snoc(xs:List Thg)(t:Thg):walkM (xs++[t])=putL t.d.id (linkV 0) (walkM xs):=by simp[walkM]
theorem mem_keys{α β:Type}[DecidableEq α](k:α)(v:β)(l:List (α×β))(x:α):x∈(putL k v l).map (·.1)↔x=k\/x∈l.map (·.1):=by
 rw[keys_put]
 split
 ·rename_i h
  exact⟨.inr,fun h'=>h'.elim (fun e=>by rw[e];exact h) id⟩
 ·rw[List.mem_append,List.mem_singleton]
  exact⟨fun h=>h.symm,fun h=>h.symm⟩
theorem walkM_keys(xs:List Thg):((walkM xs).map (·.1)).Nodup/\∀x,x∈(walkM xs).map (·.1)↔∃t∈xs,t.d.id=x:=by
 suffices h:∀(xs:List Thg)(m:List (List UInt8×Value)),(m.map (·.1)).Nodup->((xs.foldl (fun m t=>putL t.d.id (linkV 0) m) m).map (·.1)).Nodup/\∀x,x∈(xs.foldl (fun m t=>putL t.d.id (linkV 0) m) m).map (·.1)↔x∈m.map (·.1)\/∃t∈xs,t.d.id=x by
  have:=h xs [] (by simp);exact⟨this.1,fun x=>by rw[walkM,this.2 x];simp⟩
 intro xs
 induction xs with
 |nil=>intro m hm;exact⟨hm,fun x=>by simp⟩
 |cons t xs ih=>
  intro m hm;obtain⟨h1,h2⟩:=ih (putL t.d.id (linkV 0) m) (nodup_put hm);refine⟨h1,fun x=>?_⟩;rw[List.foldl_cons,h2 x,mem_keys];simp only[List.mem_cons,exists_eq_or_imp]
  constructor
  ·rintro((rfl|h)|h)
   ·exact .inr (.inl rfl)
   ·exact .inl h
   ·exact .inr (.inr h)
  ·rintro(h|rfl|h)
   ·exact .inl (.inr h)
   ·exact .inl (.inl rfl)
   ·exact .inr h
theorem walkDs_mem(g:DescL->List Thg×Option WErr):∀(ds:List DescL)(t:Thg),t∈(yN g ds).1->∃d∈ds,t∈(g d).1
 | [],t,h=>by simp[yN]at h
 |d::ds,t,h=>by
  rw[yN]at h
  cases hg:(g d).2 with
  |some e=>rw[hg]at h;exact⟨d,by simp,h⟩
  |none=>
   rw[hg]at h
   rcases List.mem_append.1 h with h|h
   ·exact⟨d,by simp,h⟩
   ·obtain⟨d',h1,h2⟩:=walkDs_mem g ds t h
    exact⟨d',by simp[h1],h2⟩
theorem walkDs_err(g:DescL->List Thg×Option WErr):∀(ds:List DescL)(e:WErr),(yN g ds).2=some e->∃d∈ds,(g d).2=some e
 | [],e,h=>by simp[yN]at h
 |d::ds,e,h=>by
  rw[yN]at h
  cases hg:(g d).2 with
  |some e'=>rw[hg]at h;exact⟨d,by simp,by rw[hg];exact h⟩
  |none=>
   rw[hg]at h;obtain⟨d',h1,h2⟩:=walkDs_err g ds e h;exact⟨d',by simp[h1],h2⟩
theorem walkL_in(c:BlobM):∀(f:Nat)(t t':Thg),t'∈(walkL c f t).1->(getL t'.d.id c).isSome=true
 |0,t,t',h=>by simp[walkL]at h
 |f+1,t,t',h=>by
  unfold walkL at h
  cases hg:getL t.d.id c with
  |none=>rw[hg]at h;simp at h
  |some b=>
   rw[hg]at h
   dsimp only at h
   have ht:∀l:List Thg,t'∈t::l->t'∉l->(getL t'.d.id c).isSome=true:=fun l h hn=>by
    rcases List.mem_cons.1 h with rfl|h
    ·rw[hg];rfl
    ·exact absurd h hn
   split at h
   ·simp at h
   split at h
   ·split at h
    ·simp at h
    ·exact ht [] h (by simp)
   split at h
   ·simp at h
   cases hd:decL b with
   |none=>rw[hd]at h;simp at h
   |some m=>
    rw[hd]at h
    dsimp only at h
    split at h
    ·simp at h
    rcases List.mem_cons.1 h with rfl|h
    ·rw[hg];rfl
    ·obtain⟨d,_,h2⟩:=walkDs_mem _ _ _ h
     exact walkL_in c f _ _ h2
theorem walkL_err(c:BlobM):∀(f:Nat)(t:Thg)(e:WErr),t.d.id.length=32->(walkL c f t).2=some e->e.1.length=32/\5<=e.2/\e.2<=20
 |0,t,e,_,h=>by simp[walkL]at h
 |f+1,t,e,hid,h=>by
  unfold walkL at h;have hx:∀n:Int,5<=n->n<=20->some (t.d.id,n)=some e->e.1.length=32/\5<=e.2/\e.2<=20:=fun n h1 h2 h=>by cases h;exact⟨hid,h1,h2⟩
  cases hg:getL t.d.id c with
  |none=>rw[hg]at h;exact hx _ (by omega) (by omega) h
  |some b=>
   rw[hg]at h
   dsimp only at h
   split at h
   ·exact hx _ (by omega) (by omega) h
   split at h
   ·split at h
    ·exact hx _ (by omega) (by omega) h
    ·cases h
   split at h
   ·exact hx _ (by omega) (by omega) h
   cases hd:decL b with
   |none=>rw[hd]at h;exact hx _ (by omega) (by omega) h
   |some m=>
    rw[hd]at h
    dsimp only at h
    split at h
    ·exact hx _ (by omega) (by omega) h
    ·obtain⟨d,h1,h2⟩:=walkDs_err _ _ _ h
     exact walkL_err c f _ e (decL_ids hd d h1) h2
theorem walkL_id(c:BlobM):∀(f:Nat)(t t':Thg),t.d.id.length=32->t'∈(walkL c f t).1->t'.d.id.length=32
 |0,t,t',_,h=>by simp[walkL]at h
 |f+1,t,t',hid,h=>by
  unfold walkL at h
  cases hg:getL t.d.id c with
  |none=>rw[hg]at h;simp at h
  |some b=>
   rw[hg]at h
   dsimp only at h
   split at h
   ·simp at h
   split at h
   ·split at h
    ·simp at h
    ·rw[List.mem_singleton.1 h];exact hid
   split at h
   ·simp at h
   cases hd:decL b with
   |none=>rw[hd]at h;simp at h
   |some m=>
    rw[hd]at h
    dsimp only at h
    split at h
    ·simp at h
    rcases List.mem_cons.1 h with rfl|h
    ·exact hid
    ·obtain⟨d,h1,h2⟩:=walkDs_mem _ _ _ h
     exact walkL_id c f _ _ (decL_ids hd d h1) h2
theorem walkM_len(c:BlobM)(f:Nat)(t:Thg):(walkM (walkL c f t).1).length<=c.length:=by
 obtain⟨h1,h2⟩:=walkM_keys (walkL c f t).1
 have:=xS (m:=c.map (·.1)) h1 fun x hx=>by
  obtain⟨t',ht,rfl⟩:=(h2 x).1 hx;have:=walkL_in c f t t' ht
  cases hg:getL t'.d.id c with
  |none=>rw[hg]at this;cases this
  |some b=>exact List.mem_map.2 ⟨_,jK hg,rfl⟩
 simpa using this
def WalkOut(c:BlobM)(id:List UInt8)(ids:List (List UInt8))(bad:List UInt8)(n:Int):Prop:=
 match(walkL c 5 (thgI id)).2 with
 |some e=>ids=[]/\bad=e.1/\n=e.2
 |none=>if 256<(walkM (walkL c 5 (thgI id)).1).length then ids=[]/\bad=id/\n=4 else(ids.Pairwise (fun a b=>a<b)/\ids.Perm ((walkM (walkL c 5 (thgI id)).1).map (·.1)))/\bad=zeros32/\n=0
end
section
open Go.RowKit Go.Proofs.Tryz Go.Lib
theorem swTombs3_any{own own':Bool}{G G':Nat->Prop}{w:World}{sb:Nat}{sv:Value}{st:List Int}{cs:Array Value}{e:Evt}(hs:w.heap[sb]?=some (.cells #[sv] 64 (0,0)))(hl:Sl own w G 1 IntC sv st)(he:EvR own' w G' cs e):
 Calls prog 133 (#[.agg cs]++#[.pointer (some ⟨sb,0,none⟩)]) w (RetM (.bool (hasV st e.r e.n)) w):=by
 obtain⟨dv,rv,hca,hi,-⟩:=he;have cA:=zC e dv rv hi;rw[<-hca]at cA;clear hca;have hone:=Sl.one hl;obtain⟨a0,c0,hsv,-,-⟩:=hl.at;have HL:=hid hl
 have HSV:=hid hsv;rw[show #[Value.agg cs]++#[.pointer (some ⟨sb,0,none⟩)]=#[.agg cs,.pointer (some ⟨sb,0,none⟩)]from rfl];clear hl hsv;go_enter func133,ntmps133
 go_upto_region 0 with(fail);refine wpR [1,3] (by rfl) (by rfl) ?_;simp only[stz];refine wpDo rfl ?_;refine zW 115 _ _ (by rfl) (by rfl) (fun w1 hB1 hm1 hs1=>?_)
 replace hB1:w1.heap[w.heap.size]?=some (.cells cs 115 (0,0)):=hB1;simp only[stz];have hcs:w1.cell? ⟨sb,0,none⟩=some sv:=by simp[World.cell?,hm1.obj id hs]
 have hA:=CellsAt.whole hB1;have hAd:=hA.part (i:=0) (j:=2) (by rw[cA.size];omega);rw[cA.dot]at hAd;have hcall:=vHas_any (HL.out.keep0 hm1) e.r e.n
 rw[HSV.out]at hcall hcs;generalize hasV st e.r e.n=x at*;clear hB1 hA hs;go_upto_region 1 with(fail);refine wpR [1,3,1,1,3] (by rfl) (by rfl) ?_;simp only[stz]
 refine wpXd 64 sb 0 hcs underlying64 trivial ?_;simp only[stz];refine wpXA 113 w.heap.size (0+0) #[.int .i64 e.r,.int .i64 e.n] hAd underlying113 2 rfl trivial ?_
 try simp only[nmz]
 refine wpDo rfl ?_
 refine qB (qC 60 [.tmp 4,.tmp 6] _ rfl _ func60 rfl (by kernel_rfl) [.slice a0 st.length c0,.agg #[.int .i64 e.r,.int .i64 e.n]] rfl _) (hcall) ?_
 rintro e' w2 ⟨rfl,hm2⟩;refine⟨_,rfl,?_⟩;simp only[stz];go_wp2;go_ret;exact⟨rfl,hm1.trans0 hm2⟩
structure TmAt(base kb db:Nat)(kv dv:Value)(lk:List Evt)(ld:List (Int×Int))(w:World):Prop where
 kbox:w.heap[kb]?=some (.cells #[kv] 72 (0,0))
 dbox:w.heap[db]?=some (.cells #[dv] 116 (0,0))
 kept:EvGs (fun k=>dv.ownBlock=some k) base w kv lk
 dots:DotGs base w dv ld
 apart:∀q,kv.ownBlock=some q->dv.ownBlock≠some q
 kblt:kb<base
 dblt:db<base
 ne:kb≠db
 le:base<=w.heap.size
theorem TmAt.keep0{base kb db:Nat}{kv dv:Value}{lk:List Evt}{ld:List (Int×Int)}{w w':World}(h:TmAt base kb db kv dv lk ld w)(hm:Mod NoB w w'):TmAt base kb db kv dv lk ld w':=
 ⟨hm.obj id h.kbox,hm.obj id h.dbox,h.kept.keep0 hm,h.dots.keep0 hm,h.apart,h.kblt,h.dblt,h.ne,Nat.le_trans h.le hm.size⟩
def TmIn(base kb db:Nat)(lk:List Evt)(ld:List (Int×Int))(w:World):Prop:=∃kv dv,TmAt base kb db kv dv lk ld w
def TmR(base kb db:Nat)(lk:List Evt)(ld:List (Int×Int))(w:World):Ending->World->Prop:=fun e w'=>e=.returned (.tuple #[])/\TmIn base kb db lk ld w'/\Mod (fun k=>k=kb\/k=db\/base<=k) w w'
theorem swTombs2_any{base kb db:Nat}{kv dv:Value}{lk:List Evt}{ld:List (Int×Int)}{own:Bool}{G:Nat->Prop}{w:World}{cs:Array Value}{e:Evt}(h:TmAt base kb db kv dv lk ld w)(he:EvR own w G cs e)(hn:ld.length<=10000):
 Calls prog 131 (#[.agg cs]++#[.pointer (some ⟨db,0,none⟩)]) w (TmR base kb db lk (ld++[(e.r,e.n)]) w):=by
 obtain⟨ev,rv,hca,hi,-⟩:=he;have cA:=zC e ev rv hi;rw[<-hca]at cA;clear hca
 rw[show #[Value.agg cs]++#[.pointer (some ⟨db,0,none⟩)]=#[.agg cs,.pointer (some ⟨db,0,none⟩)]from rfl];have HH:=hid h;obtain⟨ad,cap,hdv⟩:=Gat.slice h.dots
 have HDV:=hid hdv;clear h hdv;go_enter func131,ntmps131;go_upto_region 0 with(fail);refine wpR [1] (by rfl) (by rfl) ?_;simp only[stz];refine wpDo rfl ?_
 refine zW 115 _ _ (by rfl) (by rfl) (fun w1 hB1 hm1 hs1=>?_);replace hB1:w1.heap[w.heap.size]?=some (.cells cs 115 (0,0)):=hB1;simp only[stz]
 have h1:=HH.out.keep0 hm1;have hcd:w1.cell? ⟨db,0,none⟩=some dv:=by simp[World.cell?,h1.dbox]
 have hA:=CellsAt.whole hB1;have hAd:=hA.part (i:=0) (j:=2) (by rw[cA.size];omega);rw[cA.dot]at hAd;rw[HDV.out]at hcd;have H1:=hid h1;clear hB1 hA h1
 go_upto_region 1 with(fail);refine wpR [1,3,1,1,1,1] (by rfl) (by rfl) ?_;simp only[stz];refine wpXd 116 db 0 hcd underlying116 trivial ?_;simp only[stz]
 refine wpXA 113 w.heap.size (0+0) #[.int .i64 e.r,.int .i64 e.n] hAd underlying113 2 rfl trivial ?_;try simp only[nmz]
 refine wpDo rfl ?_
 refine qY 116 113 _ (.agg #[.int .i64 e.r,.int .i64 e.n]) (.agg #[.int .i64 0,.int .i64 0]) 2 (by rfl) (by rfl) underlying116 (by kernel_rfl) (by omega) (by omega) rfl (fun w2 hB2 hm2 hs2=>?_)
 replace hB2:w2.heap[w1.heap.size]?=some (.cells (dotEnc (e.r,e.n)).toArray 113 (0,0)):=hB2;have h2:=H1.out.keep0 hm2;try simp only[nmz]
 refine wpDo rfl ?_;refine wp_dots _ _ (by rfl) (v:=dv) (by rw[HDV.out];rfl) h2.dots w1.heap.size (e.r,e.n) (by rfl) hB2 (by omega) h2.le (fun v3 w3 hg3 hv3 hm3=>?_)
 have hd3:=hm3.obj (fun e=>by have:=(Gat.lt h2.dots e).1;have:=h2.dblt;omega) h2.dbox
 have hk3:=hm3.obj (fun e=>by have:=(Gat.lt h2.dots e).1;have:=h2.kblt;omega) h2.kbox
 have hE3:EvGs (fun k=>v3.ownBlock=some k) base w3 kv lk:=by
  have hE:=h2.kept.keep hm3 (fun k hk hd=>h2.apart k hk hd) (fun k hk hd=>hk.2.2.2 hd);obtain⟨css,q1,q2,q3⟩:=h2.kept
  have hq:=q3.imp fun _ _ h=>(h.keep hm3 (fun k hk hd=>hk.2.2.2 hd))
  refine⟨css,zZ q1 hm3 (fun k hk hd=>h2.apart k hk hd),q2,hq.imp fun _ _ h=>h.mono fun k hk=>⟨hk.1,Nat.lt_of_lt_of_le hk.2.1 hm3.size,hk.2.2.1,fun e=>?_⟩⟩
  rcases hv3 with hv|hv
  ·exact hk.2.2.2 (hv▸e)
  ·rw[hv]at e;cases e;exact Nat.lt_irrefl _ hk.2.1
 have hap3:∀q,kv.ownBlock=some q->v3.ownBlock≠some q:=fun q hq e=>by
  rcases hv3 with hv|hv
  ·exact h2.apart q hq (hv▸e)
  ·rw[hv]at e;cases e;have:=(h2.kept.lt hq).2;omega
 have hm03:Mod (fun k=>k=kb\/k=db\/base<=k) w w3:=((hm1.trans0 hm2).mono (fun _ _ h=>h.elim)).trans hm3 (fun k _ e=>.inr (.inr (Gat.lt h2.dots e).1))
 have hle3:=Nat.le_trans h2.le hm3.size;try simp only[nmz]
 refine wpDo rfl ?_;refine qV 116 _ _ db 0 v3 (by rfl) (by rfl) (by rfl) (yC hg3) (by kernel_rfl) _ _ hd3 (by simp) (fun w4 hB4 hm4=>?_)
 replace hB4:w4.heap[db]?=some (.cells #[v3] 116 (0,0)):=hB4
 have HF:Hid (TmR base kb db lk (ld++[(e.r,e.n)]) w (.returned (.tuple #[])) w4):=hid ⟨rfl,⟨kv,v3,hm4.objB h2.ne hk3,hB4,hE3.keep hm4 (fun k hk e=>by have e:k=db:=e;have:=(hE3.lt hk).1;have:=h2.dblt;omega) (fun k hk e=>by have e:k=db:=e;have:=hk.1;have:=h2.dblt;omega),Gat.keep hg3 hm4 (fun k hk e=>by have e:k=db:=e;have:=(Gat.lt hg3 hk).1;have:=h2.dblt;omega),hap3,h2.kblt,h2.dblt,h2.ne,Nat.le_trans hle3 hm4.size⟩,hm03.trans hm4 (fun k _ e=>.inr (.inl e))⟩
 simp only[stz];clear hg3 hE3 hap3 hd3 hk3 hm03 hm4 hB4 h2 hm1 hm2 hm3 hAd hcd hB2 hv3 hle3;go_wp2
 go_end0
 exact HF.out
def longEv(e:Evt):Bool:=decide (20<e.deps.length\/300<e.refs.length\/200<e.repo.size\/200<e.tag.size)
theorem longEvent_any(own:Bool)(G:Nat->Prop)(cs:Array Value)(e:Evt)(w:World)(h:EvR own w G cs e):Calls prog 107 #[.agg cs] w (RetM (.bool (longEv e)) w):=by
 obtain⟨dv,rv,hca,hi,hd,hr,hrepo,htag⟩:=h;have cA:=zC e dv rv hi;rw[<-hca]at cA;clear hca;obtain⟨da,dc,rfl,hdl,-⟩:=hd.at
 obtain⟨ra,rc,rfl,hrl,-⟩:=hr.at;obtain⟨t,ht⟩:∃t,t=longEv e:=⟨_,rfl⟩;rw[<-ht];have HT:=hid ht;clear ht;go_enter func107,ntmps107;go_upto_region 0 with(fail)
 refine wpR [1,3] (by rfl) (by rfl) ?_;simp only[stz];refine wpDo rfl ?_;refine zW 115 _ _ (by rfl) (by rfl) (fun w1 hB0 hM hs1=>?_)
 replace hB0:w1.heap[w.heap.size]?=some (.cells cs 115 (0,0)):=hB0;simp only[stz]
 have hc2:w1.cell? ⟨w.heap.size,2,none⟩=some (.slice da e.deps.length dc):=by rw[cell_of_row _ _ _ _ _ _ hB0,cA.c2]
 have hc38:w1.cell? ⟨w.heap.size,38,none⟩=some (.slice ra e.refs.length rc):=by rw[cell_of_row _ _ _ _ _ _ hB0,cA.c38]
 have hc4:w1.cell? ⟨w.heap.size,4,none⟩=some (.string e.repo):=by rw[cell_of_row _ _ _ _ _ _ hB0,cA.c4]
 have hc5:w1.cell? ⟨w.heap.size,5,none⟩=some (.string e.tag):=by rw[cell_of_row _ _ _ _ _ _ hB0,cA.c5]
 clear cA hB0;go_wp2
 all_goals
  go_ret;refine⟨ret_bool ?_,hM⟩;rw[HT.out];unfold longEv;rw[Bool.eq_iff_iff]
  simp
  all_goals omega
def LngRelE(w:World)(l:List Evt)(n i:Value)(w':World):Prop:=
 ∃(k m:Nat),k<=l.length/\k<=21/\m<=300*k/\i=.int .i64 k/\n=.int .i64 m/\Mod NoB w w'/\∀j (h:j<l.length),j<k->longEv l[j]=false
def LngRE{α:Type}(Small:α->Prop)(l:α)(w:World)(e:Ending)(w':World):Prop:=∃b,e=.returned (.bool b)/\Mod NoB w w'/\(b=false->Small l)
def SmallEvs(l:List Evt):Prop:=l.length<=20/\∀e∈l,longEv e=false
theorem longEvents_any(own:Bool)(E G:Nat->Prop)(v:Value)(l:List Evt)(w:World)(h:Sl own w E 39 (EvR own w G) v l):Calls prog 41 #[v,.int .i64 20] w (LngRE SmallEvs l w):=by
 obtain⟨av,cap,rfl,hlen,hat⟩:=h.at;have HA:=hid hat;clear hat;go_enter func41,ntmps41;go_wp2
 go_loopw [5,6] (LngRelE w l) (fun _ i _=>l.length-(intOf i).toNat)
 case atStart=>exact⟨0,0,by omega,by omega,by omega,rfl,rfl,Mod.refl _ _,fun j h hj=>by omega⟩
 case round=>
  obtain⟨k,m,hk,hk21,hm,rfl,rfl,hM,hall⟩:=hrel
  rename_i wr
  by_cases hlt:k<l.length/\k<=20
  ·obtain⟨hlt,hk20⟩:=hlt
   obtain⟨b,off,rfl,-,-,hat⟩:=HA.out k hlt;obtain⟨cs,hcs,hev,hcells⟩:=hat k hlt;clear hat HA;have hev:=hev.keep0 hM;have hcells:=hcells.keep hM id
   obtain⟨t,ht⟩:∃t,t=longEv l[k]:=⟨_,rfl⟩;have HT:=hid ht;clear ht;go_upto_region 5 with(fail)
   cases t
   ·skip
    refine wpR [3,3,3,1,1] (by rfl) (by rfl) ?_;simp only[stz];refine qQ _ _ _ _ _ _ _ _ _ rfl rfl rfl rfl underlying72 (n:=39) (by kernel_rfl) hlt ?_
    simp only[nmz];refine wpXA 115 b (off+k*39) _ hcells underlying115 39 hcs trivial ?_;try simp only[nmz]
    refine wpDo rfl ?_;go_wp2_with (go_at_call 107;refine(longEvent_any own G cs l[k] wr hev).mono ?_;rintro _ w1 ⟨rfl,hm1⟩;rw[<-HT.out]);simp only[stz]
    obtain⟨dv,rv,hca,hi,hd,hr,hrepo,htag⟩:=id hev;have cA:=zC l[k] dv rv hi;rw[<-hca]at cA;clear hca;obtain⟨ra,rc,rfl,hrl,-⟩:=hr.at
    have hsm:l[k].refs.length<=300:=by
     have h1:=HT.out;unfold longEv at h1;have h2:=of_decide_eq_false h1.symm;omega
    obtain⟨rl,hrl0⟩:∃t,t=l[k].refs.length:=⟨_,rfl⟩
    have hc38:w1.cell? ⟨b,off+k*39+38,none⟩=some (.slice ra rl rc):=by rw[hrl0];exact hm1.cell id (hcells.cell cA.c38)
    rw[<-hrl0]at hsm;clear cA hd hr hrl hrl0;have hMn:=hM.trans0 hm1;go_upto_region 7 with(fail);refine wpR [3,3,3,3,3,1,3,3,3] (by rfl) (by rfl) ?_;simp only[stz]
    refine qQ _ _ _ _ _ _ _ _ _ rfl rfl rfl rfl underlying72 (n:=39) (by kernel_rfl) hlt ?_;simp only[stz];refine wpXd 25 _ _ hc38 underlying25 trivial ?_
    try simp only[nmz]
    refine zD _ _ _ _ _ rfl rfl rfl (by kernel_rfl) ?_;simp only[nmz];refine wpPi_add _ _ _ _ _ _ rfl rfl rfl rfl (by omega) (by omega) ?_;simp only[stz];go_wp2
    go_roundw
    case rel=>exact⟨k+1,m+rl,by omega,by omega,by omega,by go_num,by go_num,hMn,fun j h hj=>by
     rcases Nat.lt_or_ge j k with h'|h'
     ·exact hall j h h'
     ·have e:j=k:=by omega
      subst e;exact HT.out.symm⟩
    case measure=>simp[intOf];omega
   ·skip
    refine wpR [3,3,3,1,1] (by rfl) (by rfl) ?_;simp only[stz];refine qQ _ _ _ _ _ _ _ _ _ rfl rfl rfl rfl underlying72 (n:=39) (by kernel_rfl) hlt ?_
    simp only[nmz];refine wpXA 115 b (off+k*39) _ hcells underlying115 39 hcs trivial ?_;try simp only[nmz]
    refine wpDo rfl ?_;go_wp2_with (go_at_call 107;refine(longEvent_any own G cs l[k] wr hev).mono ?_;rintro _ w1 ⟨rfl,hm1⟩;rw[<-HT.out]);simp only[stz];go_wp2;go_ret
    exact⟨true,rfl,hM.trans0 hm1,fun h=>by cases h⟩
  ·clear HA
   have hfin:l.length<=20->SmallEvs l:=fun h20=>⟨h20,fun e he=>by
    obtain⟨j,hj,rfl⟩:=List.getElem_of_mem he
    exact hall j hj (by omega)⟩
   have hkk:(k:Int)<l.length->20<(k:Int):=by omega
   go_wp2
   all_goals
    go_ret;refine⟨_,rfl,hM,fun hb=>hfin ?_⟩
    first
     |omega
     |(simp at hb;done)
     |(simp at hb;omega)
theorem small_ok{e:Evt}(h:longEv e=false):EvOk e:=by
 unfold longEv at h;have h2:=of_decide_eq_false h;exact⟨by omega,by omega⟩
theorem SmallEvs.ok{l:List Evt}(h:SmallEvs l):∀e∈l,EvOk e:=fun e he=>small_ok (h.2 e he)
theorem small_refs{l:List Evt}(h:∀e∈l,longEv e=false):(l.flatMap (·.refs)).length<=300*l.length:=by
 induction l with
 |nil=>simp
 |cons e l ih=>
  have h1:=ih fun x hx=>h x (List.mem_cons_of_mem _ hx);have h2:=of_decide_eq_false (h e List.mem_cons_self)
  simp only[List.flatMap_cons,List.length_append,List.length_cons];omega
theorem swTombs1_any{base kb db:Nat}{kv dv:Value}{lk:List Evt}{ld:List (Int×Int)}{own:Bool}{G:Nat->Prop}{w:World}{cs:Array Value}{e:Evt}(h:TmAt base kb db kv dv lk ld w)(he:EvR own w G cs e)(hok:EvOk e)(hn:lk.length<=10000):
 Calls prog 128 (#[.agg cs]++#[.pointer (some ⟨kb,0,none⟩)]) w (TmR base kb db (lk++[e]) ld w):=by
 obtain⟨ev,rv,hca,hi,hd,hr,hsz1,hsz2⟩:=he;have cA:=zC e ev rv hi;rw[<-hca]at cA
 rw[show #[Value.agg cs]++#[.pointer (some ⟨kb,0,none⟩)]=#[.agg cs,.pointer (some ⟨kb,0,none⟩)]from rfl];have HH:=hid h;have HCA:=hid hca
 have HKV:Hid (∃ad cap,kv=.slice ad lk.length cap):=hid (by obtain⟨ad,cap,h1,-⟩:=Sl.at h.kept.sl;exact⟨ad,cap,h1⟩);clear h hca;go_enter func128,ntmps128
 go_upto_region 0 with(fail);refine wpR [1] (by rfl) (by rfl) ?_;simp only[stz];refine wpDo rfl ?_;refine zW 115 _ _ (by rfl) (by rfl) (fun w1 hB1 hm1 hs1=>?_)
 replace hB1:w1.heap[w.heap.size]?=some (.cells cs 115 (0,0)):=hB1;simp only[stz];have hA:=CellsAt.whole hB1;have hd1:=hd.keep0 hm1;have hr1:=hr.keep0 hm1
 obtain⟨b0,hb0⟩:∃b,w.heap.size=b:=⟨_,rfl⟩;rw[hb0]at hB1 hA hs1 |-;have HOK:=hid hok;clear hd hr;go_upto_region 1 with(fail)
 have hS:Mod NoB w1 w1.drew:=(Mod.refl _ _).drew
 refine wpRP [(0,3),(1,0),(3,3),(4,0),(2,1),(6,3),(5,1),(7,2),(8,3),(9,2)] [7,9] (fun w'=>Mod NoB w1 w') hS ?_;simp only[stz]
 refine qM rfl (fun w' hS=>zE 64 _ rfl _ _ rfl _ (hS.cell id (hA.cell cA.c2)) _ underlying64 rfl) ?_;simp only[stz]
 refine qM rfl (fun w' hS=>zE 25 _ rfl _ _ rfl _ (hS.cell id (hA.cell cA.c38)) _ underlying25 rfl) ?_;simp only[nmz];refine qN rfl (fun K hK=>?_)
 refine qB (qC 129 [.tmp 4] _ rfl _ func129 rfl (by kernel_rfl) [ev] rfl _) (cloneInts_any own G _ _ _ (hd1.keep0 hS) HOK.out.1) ?_;rintro e' w3 ⟨dv',rfl,hm3,hd'⟩
 have hlow3:∀k,New w1.drew w3 k->b0<k:=fun k hk=>by have:=hk.1;have h9:w1.drew.heap.size=w1.heap.size:=rfl;omega
 have hd3:Sl true w3 (fun k=>b0<k/\k<w3.heap.size) 1 IntC dv' e.deps:=hd'.mono (fun k hk=>⟨hlow3 k hk,hk.2⟩) (fun _ _ h=>h);replace hS:=hS.trans0 hm3
 refine⟨_,rfl,hK _ _ hS ?_⟩;clear hK K hm3 hd' hlow3;simp only[stz];refine qN rfl (fun K hK=>?_)
 refine qB (qC 130 [.tmp 7] _ rfl _ func130 rfl (by kernel_rfl) [rv] rfl _) (cloneIDs_any own G _ _ _ (hr1.keep0 hS) HOK.out.2) ?_;rintro e' w4 ⟨rv',rfl,hm4,hr'⟩
 have hlow4:∀k,New w3 w4 k->b0<k:=fun k hk=>by have:=hk.1;have h9:=hS.size;omega
 have hr4:Sl true w4 (fun k=>b0<k/\k<w4.heap.size) 32 IdC rv' e.refs:=hr'.mono (fun k hk=>⟨hlow4 k hk,hk.2⟩) (fun _ _ h=>h)
 have hd4:Sl true w4 (fun k=>b0<k/\k<w4.heap.size) 1 IntC dv' e.deps:=(hd3.keep0 hm4).mono (fun k hk=>⟨hk.1,Nat.lt_of_lt_of_le hk.2 hm4.size⟩) (fun _ _ h=>h)
 replace hS:=hS.trans0 hm4;refine⟨_,rfl,hK _ _ hS ?_⟩;clear hK K hm4 hr' hlow4 hd3;try simp only[nmz]
 refine zP rfl (fun K hK=>?_);have hB4:=hS.obj id hB1
 refine qV 64 _ _ b0 2 dv' (by rfl) (by rfl) (by rfl) hd4.one (by kernel_rfl) _ _ hB4 (by rw[cA.size];omega) (fun w5 hB5 hm5=>?_)
 have hd5:=hd4.keepB hm5 (fun k hk e=>by have:=hk.1;omega);have hr5:=hr4.keepB hm5 (fun k hk e=>by have:=hk.1;omega);rw[HCA.out,evCells_set2]at hB5;refine hK _ _ ?_
 clear hK K hB4;simp only[stz];refine zP rfl (fun K hK=>?_)
 refine qV 25 _ _ b0 38 rv' (by rfl) (by rfl) (by rfl) hr5.one (by kernel_rfl) _ _ hB5 (by rw[(zC e dv' rv hi).size];omega) (fun w6 hB6 hm6=>?_)
 have hd6:=hd5.keepB hm6 (fun k hk e=>by have:=hk.1;omega);have hr6:=hr5.keepB hm6 (fun k hk e=>by have:=hk.1;omega);rw[evCells_set38 _ _ _ _ hi]at hB6
 have hm06:Mod NoB w w6:=((hm1.trans0 hS).transB hm5 (by omega)).transB hm6 (by omega);refine hK _ _ ?_;clear hK K hB5;simp only[stz];have h6:=HH.out.keep0 hm06
 have s5:=hm5.size;have s6:=hm6.size;have hcK:w6.cell? ⟨kb,0,none⟩=some kv:=by simp[World.cell?,h6.kbox]
 have cC:=zC e dv' rv' hi;have hone:=evCells_one (e:=e) hd6.one hr6.one;have hcE:CellsAt w6 b0 0 (zN e dv' rv'):=CellsAt.whole hB6
 have hbase:base<=b0:=by have:=HH.out.le;omega
 have hIn:∀k,b0<k->k<w6.heap.size->Inn (fun k=>dv.ownBlock=some k) base kv w6 k:=fun k h1 h2=>⟨by omega,h2,fun e=>by have:=(HH.out.kept.lt e).2;omega,fun e=>by have:=(Gat.lt HH.out.dots e).2;omega⟩
 have hEv:EvR true w6 (Inn (fun k=>dv.ownBlock=some k) base kv w6) (zN e dv' rv') e:=⟨dv',rv',rfl,hi,hd6.mono (fun k hk=>hIn k hk.1 (by have:=hk.2;omega)) (fun _ _ h=>h),hr6.mono (fun k hk=>hIn k hk.1 (by have:=hk.2;omega)) (fun _ _ h=>h),hsz1,hsz2⟩
 have HEV:=hid hEv;have H6:=hid h6;obtain⟨ad,cap,hkv⟩:=HKV.out;have HK2:=hid hkv;rw[hkv]at hcK
 clear hIn hd6 hr6 hd5 hr5 hd4 hr4 hB6 hm5 hm6 hS hd1 hr1 hA hB1 h6 hEv hkv cA HCA;go_upto_region 2 with(fail);refine wpR [1,1,1,1,1] (by rfl) (by rfl) ?_;simp only[stz]
 refine wpXd 72 kb 0 hcK underlying72 trivial ?_;try simp only[nmz]
 refine wpXA 115 b0 0 (zN e dv' rv') hcE underlying115 39 cC.size trivial ?_;try simp only[nmz]
 refine wpDo rfl ?_
 refine qY 72 115 _ (.agg (zN e dv' rv')) evZero 39 (by rfl) (by rfl) underlying72 (by kernel_rfl) (by omega) (by omega) cC.size (fun w7 hB7 hm7 hs7=>?_)
 replace hB7:w7.heap[w6.heap.size]?=some (.cells (zN e dv' rv') 115 (0,0)):=hB7;have h7:=H6.out.keep0 hm7
 have hE7:EvR true w7 (Inn (fun k=>dv.ownBlock=some k) base kv w7) (zN e dv' rv') e:=(HEV.out.keep0 hm7).mono fun k hk=>⟨hk.1,Nat.lt_of_lt_of_le hk.2.1 hm7.size,hk.2.2⟩
 try simp only[nmz]
 refine wpDo rfl ?_;refine wp_evs _ _ (by rfl) (v:=kv) (by rw[HK2.out];rfl) h7.kept w6.heap.size _ e (by rfl) hB7 hE7 (by omega) h7.le (fun v8 w8 hg8 hv8 hm8=>?_)
 have hd8:=hm8.obj (fun e=>by have:=(h7.kept.lt e).1;have:=h7.dblt;omega) h7.dbox
 have hk8:=hm8.obj (fun e=>by have:=(h7.kept.lt e).1;have:=h7.kblt;omega) h7.kbox;have hD8:DotGs base w8 dv ld:=Gat.keep h7.dots hm8 (fun q hq hk=>h7.apart q hk hq)
 have hap8:∀q,v8.ownBlock=some q->dv.ownBlock≠some q:=fun q hq e=>by
  rcases hv8 with hv|hv
  ·exact h7.apart q (hv▸hq) e
  ·rw[hv]at hq;cases hq;have:=(Gat.lt h7.dots e).2;omega
 have hm08:Mod (fun k=>k=kb\/k=db\/base<=k) w w8:=((hm06.trans0 hm7).mono (fun _ _ h=>h.elim)).trans hm8 (fun k _ e=>.inr (.inr (h7.kept.lt e).1))
 have hle8:=Nat.le_trans h7.le hm8.size;try simp only[nmz]
 refine wpDo rfl ?_;refine qV 72 _ _ kb 0 v8 (by rfl) (by rfl) (by rfl) hg8.one (by kernel_rfl) _ _ hk8 (by simp) (fun w9 hB9 hm9=>?_)
 replace hB9:w9.heap[kb]?=some (.cells #[v8] 72 (0,0)):=hB9
 have HF:Hid (TmR base kb db (lk++[e]) ld w (.returned (.tuple #[])) w9):=hid ⟨rfl,⟨v8,dv,hB9,hm9.objB (Ne.symm h7.ne) hd8,hg8.keep hm9 (fun k hk e=>by have e:k=kb:=e;have:=(hg8.lt hk).1;have:=h7.kblt;omega) (fun k hk e=>by have e:k=kb:=e;have:=hk.1;have:=h7.kblt;omega),Gat.keep hD8 hm9 (fun k hk e=>by have e:k=kb:=e;have:=(Gat.lt hD8 hk).1;have:=h7.kblt;omega),hap8,h7.kblt,h7.dblt,h7.ne,Nat.le_trans hle8 hm9.size⟩,hm08.trans hm9 (fun k _ e=>.inl e)⟩
 simp only[stz];clear hg8 hD8 hap8 hd8 hk8 hm08 hm9 hB9 h7 hE7 hm7 hm8 hB7 hv8 hle8 hcK hcE;go_wp2
 go_end0
 exact HF.out
def TmRel(w0:World)(base kb db:Nat)(st:List Int)(l:List Evt)(i:Value)(w:World):Prop:=
 ∃k:Nat,k<=l.length/\i=.int .i64 k/\TmIn base kb db (keptE st (l.take k)) (goneE st (l.take k)) w/\Mod (fun k=>k=kb\/k=db\/base<=k) w0 w
theorem keptE_len(st:List Int)(l:List Evt):(keptE st l).length<=l.length:=List.length_filter_le _ _
theorem goneE_len(st:List Int)(l:List Evt):(goneE st l).length<=l.length:=by unfold goneE;rw[List.length_map];exact List.length_filter_le _ _
def FnV(f b:Nat):Value:=.func (.func f) #[] #[.pointer (some ⟨b,0,none⟩)]
theorem swParted_any{own own' own2:Bool}{E G G2:Nat->Prop}{w:World}{lo base kb db sb:Nat}{v sv:Value}{st:List Int}{l:List Evt}(hl:Sl own w E 39 (EvR own' w G) v l)(hE:∀k,E k->k<lo)(hG:∀k,G k->k<lo)
 (hs:w.heap[sb]?=some (.cells #[sv] 64 (0,0)))(hst:Sl own2 w G2 1 IntC sv st)(hG2:∀k,G2 k->k<lo)(hlk:lo<=kb)(hld:lo<=db)(hsk:sb≠kb)(hsd:sb≠db)(hsb:sb<base)(h0:TmIn base kb db [] [] w)(hlen:l.length<=10000)(hok:∀e∈l,EvOk e):
 Calls prog 132 #[v,FnV 133 sb,FnV 128 kb,FnV 131 db] w (TmR base kb db (keptE st l) (goneE st l) w):=by
 obtain⟨ad,cap,rfl,hlm,-⟩:=Sl.at hl;have hlb:lo<=base:=by obtain⟨kv,dv,h⟩:=h0;have:=h.kblt;omega
 have HL:=hid hl;have HST:=hid hst;have HOK:=hid hok
 have HR0:Hid (TmRel w base kb db st l (.int .i64 (0:Nat)) w):=hid ⟨0,Nat.zero_le _,rfl,by rw[List.take_zero];exact h0,Mod.refl _ _⟩;clear hl hst hok h0;unfold FnV
 go_enter func132,ntmps132;go_wp2
 go_loopw [13] (TmRel w base kb db st l) (fun i _=>l.length-(intOf i).toNat)
 case atStart=>exact HR0.out
 case round=>
  rename World=>wr
  obtain⟨k,hk,rfl,hTm,hmr⟩:=hrel;have hHm:=hid hmr
  by_cases hlt:k<l.length
  ·have hz:(k:Int)<(l.length:Nat):=by omega
   have hlr:=HL.out.keep hmr (fun k hk e=>by have:=hE k hk;omega) (fun _ _ h=>h.keep hmr (fun k hk e=>by have:=hG k hk;omega));obtain⟨_,_,hae,-,hat⟩:=hlr.at
   injection hae with hae1 hae2 hae3;subst hae1 hae3;obtain⟨b,off,rfl,-,-,hcc⟩:=hat k hlt;obtain⟨cs,hcs,hev,hcA⟩:=hcc k hlt
   have hok:=HOK.out _ (List.getElem_mem hlt);have hks:=keptE_snoc st (l.take k) l[k];have hgs:=goneE_snoc st (l.take k) l[k]
   rw[<-List.take_succ_eq_append_getElem hlt]at hks hgs;have hlk1:=keptE_len st (l.take k);have hlg1:=goneE_len st (l.take k);rw[List.length_take]at hlk1 hlg1
   generalize l[k]=ev at*;have hsr:=hmr.obj (show ¬(sb=kb\/sb=db\/base<=sb) by omega) hs
   have hstr:=HST.out.keep hmr (fun k hk e=>by have:=hG2 k hk;omega) (fun _ _ h=>h);have HTM:=hid hTm;have HEV:=hid hev;have HSL:=hid hstr
   have h1c:∀c∈cs,c.oneCell'=true:=hev.one;have HKS:=hid hks;have HGS:=hid hgs;clear hlr hat hcc hae2 hTm hev hstr hmr hks hgs;go_upto_region 2 with(fail)
   refine wpR [3,1,1,1] (by rfl) (by rfl) ?_;simp only[stz];refine qQ _ _ _ _ _ _ _ _ _ rfl rfl rfl rfl underlying72 (n:=39) (by kernel_rfl) hlt ?_;simp only[nmz]
   refine wpXA 115 b (off+k*39) cs hcA underlying115 39 hcs trivial ?_;try simp only[nmz]
   refine wpDo rfl ?_;refine qR 115 _ (by rfl) zeroEvV (fun w2 hB2 hm2 hs2=>?_)
   replace hB2:w2.heap[wr.heap.size]?=some (.cells (zN evt0 (.slice none 0 0) (.slice none 0 0)) 115 (0,0)):=hB2;try simp only[nmz]
   refine wpDo rfl ?_
   refine qH 115 _ _ wr.heap.size 0 cs (by rfl) (by rfl) (by rfl) h1c 39 (by kernel_rfl) hcs _ _ hB2 (by rw[hcs,(zC _ _ _ (by simp[evt0])).size];omega) (fun w3 hB3 hm3=>?_)
   rw[qF (by rw[hcs,(zC _ _ _ (by simp[evt0])).size])]at hB3;simp only[stz];have hmr3:Mod NoB wr w3:=hm2.transB hm3 (Nat.le_refl _)
   have hca3:CellsAt w3 wr.heap.size 0 cs:=CellsAt.whole hB3;have htest:=swTombs3_any (hmr3.obj id hsr) (HSL.out.keep0 hmr3) (HEV.out.keep0 hmr3);have hrb:=hmr3.size
   have hb9:base<=wr.heap.size:=by obtain⟨kv,dv,h⟩:=HTM.out;exact h.le
   obtain⟨x,hx⟩:∃x,hasV st ev.r ev.n=x:=⟨_,rfl⟩;rw[hx]at htest;have HX:=hid hx;clear hx hcA hm2 hm3 hB2 hs2;generalize hb7:wr.heap.size=b7 at*
   go_upto_region 4 with(fail);refine wpR [3,1,1] (by rfl) (by rfl) ?_;simp only[stz];refine wpXA 115 b7 0 cs hca3 underlying115 39 hcs trivial ?_;try simp only[nmz]
   refine wpDo rfl ?_;refine qB (run_clos _ _ _ 133 #[.pointer (some ⟨sb,0,none⟩)] (by rfl) (by rfl) (.agg cs) (by rfl) (enters_of func133 (by kernel_rfl) rfl)) htest ?_
   rintro e w4 ⟨rfl,hm4⟩;refine⟨_,rfl,?_⟩;simp only[stz];have hmr4:=hmr3.trans0 hm4;have hca4:CellsAt w4 b7 0 cs:=CellsAt.whole (hm4.obj id hB3)
   have hev4:=HEV.out.keep0 hmr4;clear htest hm4 hB3 hca3 hmr3;obtain⟨kv,dv,htm⟩:=HTM.out;have htm4:=htm.keep0 hmr4
   cases x with
   |true=>
    have hcall:=swTombs2_any htm4 hev4 (by omega);go_upto_region 6 with(fail);refine wpR [3,1,1] (by rfl) (by rfl) ?_;simp only[stz]
    refine wpXA 115 b7 0 cs hca4 underlying115 39 hcs trivial ?_;try simp only[nmz]
    refine wpDo rfl ?_;refine qB (run_clos _ _ _ 131 #[.pointer (some ⟨db,0,none⟩)] (by rfl) (by rfl) (.agg cs) (by rfl) (enters_of func131 (by kernel_rfl) rfl)) hcall ?_
    rintro e w5 ⟨rfl,htm5,hm5⟩
    have HR:Hid (TmRel w base kb db st l (.int .i64 ((k+1:Nat):Int)) w5):=hid ⟨k+1,by omega,rfl,by rw[HKS.out,HGS.out,HX.out,if_pos rfl,if_pos rfl,List.append_nil];exact htm5,(hHm.out.trans hmr4 (fun _ _ h=>h.elim)).trans hm5 (fun _ _ h=>h)⟩
    refine⟨_,rfl,?_⟩;simp only[stz];clear hcall htm4 htm5 hm5 hmr4 htm hev4;go_wp2
    go_roundw
    case rel=>exact HR.out
    case measure=>simp[intOf];omega
   |false=>
    have hcall:=swTombs1_any htm4 hev4 hok (by omega);go_upto_region 6 with(fail);refine wpR [3,1,1] (by rfl) (by rfl) ?_;simp only[stz]
    refine wpXA 115 b7 0 cs hca4 underlying115 39 hcs trivial ?_;try simp only[nmz]
    refine wpDo rfl ?_;refine qB (run_clos _ _ _ 128 #[.pointer (some ⟨kb,0,none⟩)] (by rfl) (by rfl) (.agg cs) (by rfl) (enters_of func128 (by kernel_rfl) rfl)) hcall ?_
    rintro e w5 ⟨rfl,htm5,hm5⟩
    have HR:Hid (TmRel w base kb db st l (.int .i64 ((k+1:Nat):Int)) w5):=hid ⟨k+1,by omega,rfl,by rw[HKS.out,HGS.out,HX.out,if_neg (by simp),if_neg (by simp),List.append_nil];exact htm5,(hHm.out.trans hmr4 (fun _ _ h=>h.elim)).trans hm5 (fun _ _ h=>h)⟩
    refine⟨_,rfl,?_⟩;simp only[stz];clear hcall htm4 htm5 hm5 hmr4 htm hev4;go_wp2
    go_roundw
    case rel=>exact HR.out
    case measure=>simp[intOf];omega
  ·have hz:¬(k:Int)<(l.length:Nat):=by omega
   obtain rfl:k=l.length:=by omega
   rw[List.take_length]at hTm;have HF:Hid (TmR base kb db (keptE st l) (goneE st l) w (.returned (.tuple #[])) wr):=hid ⟨rfl,hTm,hmr⟩;clear hTm hmr hHm;go_wp2
   go_end0
   exact HF.out
theorem run_loadVar1{P:Program}{w:World}{ty:TypeId}{p:Addr}{v:Value}{d:TypeDesc}(hc:w.cell? p=some v)(hu:P.underlying ty=some d)(hd:(match d with| .struct _| .array _ _=>true|_=>false)=false):(loadVar ty p).run P w=.ok v w:=by
 have hagg:(isAgg ty).run P w=.ok false w:=by
  unfold isAgg;rw[Sem.run_bind,run_underlying hu w]
  cases d<;>simp_all
 simp only[loadVar,Sem.run_bind,hagg,Result.andThen_ok,Bool.false_eq_true,if_false]
 simp[load,Sem.run,hc]
theorem results_cell2{P:Program}{fn:Func}{p q:Tmp}{ty tz:TypeId}(h:fn.results=#[.cell p ty,.cell q tz])(tmps:Array Value)(w:World)(b1 b2:Nat)(v1 v2:Value)(d1 d2:TypeDesc)
 (hp1:tmps.getD p undef=.pointer (some ⟨b1,0,none⟩))(hc1:w.cell? ⟨b1,0,none⟩=some v1)(hp2:tmps.getD q undef=.pointer (some ⟨b2,0,none⟩))(hc2:w.cell? ⟨b2,0,none⟩=some v2)
 (hu1:P.underlying ty=some d1)(hd1:(match d1 with| .struct _| .array _ _=>true|_=>false)=false)(hu2:P.underlying tz=some d2)(hd2:(match d2 with| .struct _| .array _ _=>true|_=>false)=false):
 (results fn tmps).run P w=.ok (.tuple #[v1,v2]) w:=by
 have e1:tmps[p]?.getD undef=.pointer (some ⟨b1,0,none⟩):=by simpa using hp1
 have e2:tmps[q]?.getD undef=.pointer (some ⟨b2,0,none⟩):=by simpa using hp2
 have r1:=run_loadVar1 hc1 hu1 hd1;have r2:=run_loadVar1 hc2 hu2 hd2
 simp[results,h,e1,e2,asAddr,r1,r2]
def TombR(w:World)(st:List Int)(l:List Evt):Ending->World->Prop:=fun e w'=>Mod NoB w w'/\∃kv dv,e=.returned (.tuple #[kv,dv])/\EvGs (fun k=>dv.ownBlock=some k) w.heap.size w' kv (keptE st l)/\DotGs w.heap.size w' dv (goneE st l)/\∀q,kv.ownBlock=some q->dv.ownBlock≠some q
theorem swTombs_any{own own' own2:Bool}{E G G2:Nat->Prop}{w:World}{v sv:Value}{st:List Int}{l:List Evt}(hl:Sl own w E 39 (EvR own' w G) v l)(hE:∀k,E k->k<w.heap.size)(hG:∀k,G k->k<w.heap.size)
 (hst:Sl own2 w G2 1 IntC sv st)(hlen:l.length<=10000)(hok:∀e∈l,EvOk e):
 Calls prog 57 #[v,sv] w (TombR w st l):=by
 obtain⟨ad,cap,rfl,hlm,-⟩:=Sl.at hl;have hst':=Sl.inside hst (by omega);obtain⟨sad,scap,hsv,-,-⟩:=Sl.at hst;have hmf:=xD;have HL:=hid hl
 have HST:=hid hst';have HOK:=hid hok;have HSV:=hid hsv;clear hl hst hst' hok;go_enter func57,ntmps57;go_upto_region 0 with(fail);refine wpR [1,1,1] (by rfl) (by rfl) ?_
 simp only[stz];refine wpDo rfl ?_;refine zW 64 _ _ (by rfl) (by rfl) (fun w1 hB1 hm1 hs1=>?_)
 replace hB1:w1.heap[w.heap.size]?=some (.cells #[sv] 64 (0,0)):=by rw[HSV.out]at hB1 |-;exact hB1
 try simp only[nmz]
 refine wpDo rfl ?_;refine qR 72 (.slice none 0 0) (by rfl) (by kernel_rfl) (fun w2 hB2 hm2 hs2=>?_)
 replace hB2:w2.heap[w1.heap.size]?=some (.cells #[.slice none 0 0] 72 (0,0)):=hB2;try simp only[nmz]
 refine wpDo rfl ?_;refine qR 116 (.slice none 0 0) (by rfl) (by kernel_rfl) (fun w3 hB3 hm3 hs3=>?_)
 replace hB3:w3.heap[w2.heap.size]?=some (.cells #[.slice none 0 0] 116 (0,0)):=hB3;simp only[stz];have hm03:=(hm1.trans0 hm2).trans0 hm3
 have hsb3:=(hm2.trans0 hm3).obj id hB1;have hkb3:=hm3.obj id hB2
 have h0:TmIn w3.heap.size w1.heap.size w2.heap.size [] [] w3:=⟨.slice none 0 0,.slice none 0 0,hkb3,hB3,EvGs.nil _ _ _,Gat.nil _ _ _ _ _,fun q e=>by simp[Value.ownBlock]at e,by have:=hm3.size;omega,hs3,by omega,Nat.le_refl _⟩
 have s1:=hm1.size;have s2:=hm2.size
 have hpart:=swParted_any (lo:=w.heap.size) (sb:=w.heap.size) (SlEv.keep0 HL.out hm03) hE hG hsb3 (HST.out.keep0 hm03) (fun _ h=>h) s1 (by omega) (by omega) (by omega) (by omega) h0 hlen HOK.out
 unfold FnV at hpart;generalize hbk:w1.heap.size=kb at*;generalize hbd:w2.heap.size=db at*;generalize hbs:w.heap.size=sb at*
 clear hB1 hB2 hB3 hm1 hm2 hm3 hsb3 hkb3 h0;go_upto_region 3 with(fail);refine wpR [3,1,3,3,1] (by rfl) (by rfl) ?_;simp only[stz]
 refine wpX rfl (jL 133 [.tmp 3] (by rfl) [.pointer (some ⟨sb,0,none⟩)] (by rfl)) trivial ?_;simp only[stz];refine wpDo rfl ?_
 refine qB (qC 132 [.tmp 10,.tmp 11,.tmp 12,.tmp 13] _ rfl _ func132 rfl (by kernel_rfl) [.slice ad l.length cap,.func (.func 133) #[] #[.pointer (some ⟨sb,0,none⟩)],.func (.func 128) #[] #[.pointer (some ⟨kb,0,none⟩)],.func (.func 131) #[] #[.pointer (some ⟨db,0,none⟩)]] rfl _) (hpart) ?_
 rintro e w4 ⟨rfl,⟨kv,dv,htm⟩,hm4⟩;refine⟨_,rfl,?_⟩;simp only[stz];obtain⟨⟨ead,ecap,hkv,-,-⟩,⟨dad,dcap,hdv⟩⟩:=And.intro (Sl.at htm.kept.sl) (Gat.slice htm.dots)
 have HTM:=hid htm;have HKV:=hid hkv;have HDV:=hid hdv;have hm04:Mod NoB w w4:=hm03.trans hm4 (fun k hk e=>by omega);have hkd:=htm.ne
 have hkb4:w4.drew.heap[kb]?=some (.cells #[kv] 72 (0,0)):=htm.kbox;have hdb4:w4.drew.heap[db]?=some (.cells #[dv] 116 (0,0)):=htm.dbox
 have hS:w4.drew.heap[kb]?=some (.cells #[kv] 72 (0,0))/\w4.drew.heap[db]?=some (.cells #[dv] 116 (0,0))/\Mod (fun k=>k=kb\/k=db) w4 w4.drew:=⟨hkb4,hdb4,(Mod.refl _ _).drew⟩
 clear hpart htm hkb4 hdb4;go_upto_region 4 with(fail)
 refine wpRP [(0,0),(1,0),(2,1),(3,1)] [] (fun w'=>w'.heap[kb]?=some (.cells #[kv] 72 (0,0))/\w'.heap[db]?=some (.cells #[dv] 116 (0,0))/\Mod (fun k=>k=kb\/k=db) w4 w') hS ?_
 simp only[stz];refine qM rfl (fun w' hS=>zE 72 _ rfl kb 0 rfl kv (by simp[World.cell?,hS.1]) _ underlying72 rfl) ?_;simp only[nmz]
 refine qM rfl (fun w' hS=>zE 116 _ rfl db 0 rfl dv (by simp[World.cell?,hS.2.1]) _ underlying116 rfl) ?_;simp only[nmz];refine qN rfl (fun K hK=>?_)
 refine qV 72 _ _ kb 0 kv (by rfl) (by rfl) (by rfl) HTM.out.kept.one (by kernel_rfl) _ _ hS.1 (by simp) (fun w5 hB5 hm5=>?_)
 replace hS:w5.heap[kb]?=some (.cells #[kv] 72 (0,0))/\w5.heap[db]?=some (.cells #[dv] 116 (0,0))/\Mod (fun k=>k=kb\/k=db) w4 w5:=⟨hB5,hm5.objB (Ne.symm hkd) hS.2.1,hS.2.2.trans hm5 (fun k _ e=>.inl e)⟩
 refine hK _ _ hS ?_;clear hK K hB5 hm5;try simp only[nmz]
 refine qN rfl (fun K hK=>?_);refine qV 116 _ _ db 0 dv (by rfl) (by rfl) (by rfl) (yC HTM.out.dots) (by kernel_rfl) _ _ hS.2.1 (by simp) (fun w6 hB6 hm6=>?_)
 replace hS:w6.heap[kb]?=some (.cells #[kv] 72 (0,0))/\w6.heap[db]?=some (.cells #[dv] 116 (0,0))/\Mod (fun k=>k=kb\/k=db) w4 w6:=⟨hm6.objB hkd hS.1,hB6,hS.2.2.trans hm6 (fun k _ e=>.inr e)⟩
 refine hK _ _ hS ?_;clear hK K hB6 hm6;simp only[stz];obtain⟨hk6,hd6,hm46⟩:=hS;have hkc:w6.cell? ⟨kb,0,none⟩=some kv:=by simp[World.cell?,hk6]
 have hdc:w6.cell? ⟨db,0,none⟩=some dv:=by simp[World.cell?,hd6]
 have htm:=HTM.out;have hb:=htm.kblt;have hb':=htm.dblt
 have HF:Hid (TombR w st l (.returned (.tuple #[kv,dv])) w6):=hid ⟨hm04.trans hm46 (fun k hk e=>by omega),kv,dv,rfl,(htm.kept.keep hm46 (fun k hk e=>by have:=(htm.kept.lt hk).1;omega) (fun k hk e=>by have:=hk.1;omega)).based (by omega),Gat.base (Gat.keep htm.dots hm46 (fun k hk e=>by have:=(Gat.lt htm.dots hk).1;omega)) (by omega),htm.apart⟩
 rw[HKV.out]at hkc;rw[HDV.out]at hdc;clear htm hk6 hd6 hm46 hm04 hm4;go_wp2
 refine bodyPost_ret (results_cell2 (P:=prog) (ty:=72) (tz:=116) rfl _ _ kb db _ _ _ _ (by rfl) hkc (by rfl) hdc underlying72 rfl underlying116 rfl) rfl ?_;have h9:=HF.out
 rw[HKV.out,HDV.out]at h9;exact h9
end
section
open Go.RowKit Go.Shelf Go.Proofs.Tryz Go.Lib
attribute [local go_sem] Oper.semAt_some
abbrev ptrV(b:Nat):Value:=.pointer (some ⟨b,0,none⟩)
theorem results_walk{fn:Func}(h:fn.results=#[.cell 4 25,.cell 5 24,.cell 6 33]){tmps:Array Value}{w:World}{b4 b5 b6:Nat}{v4:Value}{x5:List UInt8}{n6:Int}(hR:Res3 w b4 b5 b6 v4 x5 n6)(hx:x5.length=32)
 (h4:tmps.getD 4 undef=ptrV b4)(h5:tmps.getD 5 undef=ptrV b5)(h6:tmps.getD 6 undef=ptrV b6):(results fn tmps).run prog w=.ok (.tuple #[v4,.agg (qA x5),.int .i64 n6]) w:=by
 have e4:tmps[4]?.getD undef=ptrV b4:=by simpa using h4
 have e5:tmps[5]?.getD undef=ptrV b5:=by simpa using h5
 have e6:tmps[6]?.getD undef=ptrV b6:=by simpa using h6
 have c4:w.cell? ⟨b4,0,none⟩=some v4:=by simp[World.cell?,hR.r4]
 have c6:w.cell? ⟨b6,0,none⟩=some (.int .i64 n6):=by simp[World.cell?,hR.r6]
 have r4:=run_loadVar1 c4 underlying25 rfl;have r6:=run_loadVar1 c6 underlying33 rfl
 have r5:=run_loadVar_row w b5 24 24 (qA x5) (0,0) _ hR.r5 underlying24 rfl (by rw[qD,hx];kernel_rfl)
 simp[results,h,e4,e5,e6,ptrV,asAddr,r4,r5,r6]
theorem Res3.put{w:World}{b4 b5 b6:Nat}{v4:Value}{x5:List UInt8}{n6:Int}(h:Res3 w b4 b5 b6 v4 x5 n6){D:Nat}(hD:w.heap[D]?=some (.deferred (some [])))(o:Obj):Res3 (w.putObj D o) b4 b5 b6 v4 x5 n6:=by
 have h4:b4≠D:=fun e=>by rw[e]at h;have:=h.r4;rw[hD]at this;cases this
 have h5:b5≠D:=fun e=>by rw[e]at h;have:=h.r5;rw[hD]at this;cases this
 have h6:b6≠D:=fun e=>by rw[e]at h;have:=h.r6;rw[hD]at this;cases this
 exact⟨(World.putObj_heap_other h4).trans h.r4,(World.putObj_heap_other h5).trans h.r5,(World.putObj_heap_other h6).trans h.r6⟩
def clD(b4 b5 b6:Nat):Deferred:={ target:=.fn (.func 82) #[ptrV b4,ptrV b5,ptrV b6],args:=#[] }
theorem clD_leads(b4 b5 b6:Nat)(w:World):(invoke (.fn (.func 82) #[ptrV b4,ptrV b5,ptrV b6]) #[]).run prog w=.ok (.enter 82 #[ptrV b4,ptrV b5,ptrV b6]) w:=by
 have:=enters_of func82 (by kernel_rfl) rfl
 simp[invoke,go_sem,this]
section
variable{fn:Func}{tmps:Array Value}{R:Ending->World->Prop}{w:World}{D b4 b5 b6:Nat}{v4:Value}{x5:List UInt8}{n6:Int}
theorem leave_ret(h:fn.results=#[.cell 4 25,.cell 5 24,.cell 6 33])(hD:w.heap[D]?=some (.deferred (some [])))(hR:Res3 w b4 b5 b6 v4 x5 n6)(hx:x5.length=32)(h4:tmps.getD 4 undef=ptrV b4)(h5:tmps.getD 5 undef=ptrV b5)(h6:tmps.getD 6 undef=ptrV b6)
 (k:R (.returned (.tuple #[v4,.agg (qA x5),.int .i64 n6])) (w.putObj D (.deferred none))):LeavesInM Fence.wide 0 prog fn tmps R [{ target:=.collected D,args:=#[] },clD b4 b5 b6] .returning w:=by
 refine⟨by simp,.inl ⟨D,_,rfl,run_takeDeferred hD,?_⟩⟩;have hR':=hR.put hD (.deferred none)
 refine⟨by simp,.inr ⟨fun h=>(by cases h),_,_,82,_,rfl,clD_leads b4 b5 b6 _,fun _ _=>trivial,?_⟩⟩;refine(catch_idle b4 b5 b6 _).mono ?_;rintro e u' w' ⟨rfl,rfl,rfl⟩
 exact⟨_,results_walk h hR' hx h4 h5 h6,k⟩
theorem leave_wrong{e:WErr}(h:fn.results=#[.cell 4 25,.cell 5 24,.cell 6 33])(hD:w.heap[D]?=some (.deferred (some [])))(hR:Res3 w b4 b5 b6 v4 x5 n6)(hx:x5.length=32)(h45:b4≠b5)(h46:b4≠b6)(h56:b5≠b6)(he:e.1.length=32)(h4:tmps.getD 4 undef=ptrV b4)(h5:tmps.getD 5 undef=ptrV b5)(h6:tmps.getD 6 undef=ptrV b6)
 (k:∀w',Mod (fun k=>k=b4\/k=b5\/k=b6) (w.putObj D (.deferred none)) w'->R (.returned (.tuple #[.slice none 0 0,.agg (qA e.1),.int .i64 e.2])) w'):LeavesInM Fence.wide 0 prog fn tmps R [{ target:=.collected D,args:=#[] },clD b4 b5 b6] (.panicking (chainW e)) w:=by
 refine⟨by simp,.inl ⟨D,_,rfl,run_takeDeferred hD,?_⟩⟩;have hR':=hR.put hD (.deferred none)
 refine⟨by simp,.inr ⟨fun h=>(by cases h),_,_,82,_,rfl,clD_leads b4 b5 b6 _,fun _ _=>trivial,?_⟩⟩;refine(catch_wrong hR' hx h45 h46 h56 he).mono ?_
 rintro e' u' w' ⟨rfl,rfl,hR2,hm⟩;exact⟨_,results_walk h hR2 he h4 h5 h6,k _ hm⟩
end
end
section
open Go.RowKit Go.Proofs.Tryz Go.Lib
section
variable{P:Program}{md:Region.Mode}{ops:Array Oper}{Q:Exit->Act->World->Prop}{l n:Nat}
def noDefer(ops:Array Oper):Bool:=ops.all fun o=>match o.op with| .defer _=>false|_=>true
theorem noDefer_at(h:noDefer ops=true){i:Nat}{o:Oper}(ho:ops[i]?=some o) c:o.op≠.defer c:=by
 intro e;have:=Array.all_eq_true.1 h i (Array.getElem?_eq_some_iff.1 ho).1;rw[(Array.getElem?_eq_some_iff.1 ho).2,e]at this
 cases this
theorem wpOpIn_of_wp{o:Oper}{a:Act}{w:World}{K:Act->World->Prop}(ho:∀c,o.op≠.defer c)(h:o.wp P a w K Q):o.wpIn (Fence.wide.inRound l) n P a w K Q:=by
 refine⟨fun _ _=>trivial,?_⟩;rw[Oper.semAt_eq _ _ _ ho];unfold Oper.wp at h;generalize (execOp a.eval o).run P w=r at h
 cases r with
 |ok x w'=>
  cases x with
  |enter f args=>
   refine⟨fun h=>(by cases h),CallsIn.inRound l (callsIn_wide.2 (Calls.mono h ?_))⟩;intro e w'' he
   cases e<;>exact he
  |row row args=>exact⟨fun h=>(by cases h),fun c cs _=>let ⟨v,w'',r,s⟩:=h c cs;⟨v,w'',r,stepsIn_wide.2 s⟩⟩
  |round=>exact h.elim
  |_=>exact h
 |halt e w'=>cases e<;>exact h
theorem wpAny_in(hd:noDefer ops=true)(hL:¬LetsOut Q):∀(fuel:Nat)(listed:Array Bool)(a:Act)(w:World),wpAny P md ops Q fuel listed a w->wpAnyIn (Fence.wide.inRound l) n P md ops Q fuel listed a w
 |0,_,_,_,h=>h
 |fuel+1,listed,a,w,h=>by
  refine⟨h.1,fun i hi=>?_⟩;have h':=h.2 i hi;unfold wpOp at h';unfold wpOpIn
  cases ho:ops[i]? with
  |none=>rw[ho]at h';exact wpAny_in hd hL fuel _ _ _ h'
  |some o=>
   rw[ho]at h'
   dsimp only at h' |-
   split
   ·rename_i hw
    rw[if_pos hw]at h'
    rcases h' with h'|⟨_,h'⟩
    ·exact wpOpIn_of_wp (noDefer_at hd ho) (Oper.wp_mono (fun a w h=>wpAny_in hd hL fuel _ a w h) h')
    ·exact absurd h' hL
   ·rename_i hw
    rw[if_neg hw]at h';exact⟨fun _ _=>trivial,wpAny_in hd hL fuel _ _ _ h'⟩
theorem wpIn_region_piR{id:Nat}{a:Act}{w:World}{l:List Oper}{L n:Nat}(p:List (Nat×Nat))(tl:List Nat)(S:World->Prop)(hm:P.follows .mixedOrders=true)(hs:Region.noSelect l.toArray=true)
 (hl:p.length=l.toArray.size)(hp:piOk .any l.toArray tl p (Array.replicate l.toArray.size false)=true)(hd:noDefer l.toArray=true)(hL:¬LetsOut Q)(hQ:yG Q)(hS:S w.drew)
 (h:wpPi P l.toArray Q S (p.map fun x=>(l.getD x.1 default,x.2)) a w.drew):(Code.region id l.toArray true).wpIn (Fence.wide.inRound L) n P Q a w:=
 wpIn_region_any hm (by
  have e:(p.map fun x=>((l.toArray).getD x.1 default,x.2))=(p.map fun x=>(l.getD x.1 default,x.2)):=by
   apply List.map_congr_left;intro x _;simp[Array.getD_eq_getD_getElem?,List.getD]
  have H:=wpAny_of_G _ _ _ _ (jG hs hQ S p _ a w.drew hp (fun _=>hS) (by rw[e];exact h));rw[hl]at H
  exact wpAny_in hd hL _ _ _ _ H)
def NoPanic(Q:Exit->Act->World->Prop):Exit->Act->World->Prop
 | .panic _,_,_=>False
 |e,a,w=>Q e a w
theorem noPanic_le{e:Exit}{a:Act}{w:World}(h:NoPanic Q e a w):Q e a w:=by
 cases e<;>first|exact h|exact h.elim
theorem noPanic_nor{a:Act}{w:World}(h:Q .normal a w):NoPanic Q .normal a w:=h
theorem panicSame_no:yG (NoPanic Q):=fun _ _ _ _ _ h=>h.elim
end
end
section
open Go.RowKit Go.Shelf Go.Proofs.Tryz Go.Lib
attribute [local go_sem] Oper.semAt_some
def WalkR(w:World)(c:BlobM)(id:List UInt8):Ending->World->Prop:=fun e w'=>Mod NoB w w'/\∃v ids bad n,e=.returned (.tuple #[v,.agg (qA bad),.int .i64 n])/\GatI w.heap.size w' v ids/\WalkOut c id ids bad n/\bad.length=32/\∀x∈ids,x.length=32
theorem mapCZ:(prog.info? 144).bind (·.zero)=some (.map none):=by kernel_rfl
theorem sIDZ9:(prog.info? 25).bind (·.zero)=some (.slice none 0 0):=by kernel_rfl
theorem errnoZ9:(prog.info? 33).bind (·.zero)=some (.int .i64 0):=by kernel_rfl
theorem built_descI(x:List UInt8)(h:x.length=32):prog.built 46 [(1,.agg (qA x))]=some (qW ⟨0,x,0,[]⟩):=by
 have p:xT prog 46=some [(0,1),(1,32),(33,1),(34,1)]:=by kernel_rfl
 have hz:(qW descZ).size=35:=zQ xF
 rw[zS descZ_i p,zK (off:=1) (size:=32) rfl (by simp[Value.cells,qA,h]) (by rw[hz];omega),xU]
 congr 1
 apply Array.toList_inj.1
 simp[zF,qA,Value.cells,qW,xV,h,descZ,zeros32]
structure WlEnv(w:World)(b3 b4 b5 b6 b7 mb:Nat)(id:List UInt8):Prop where
 r3:w.heap[b3]?=some (.cells (qA id) 24 (0,0))
 res:Res3 w b4 b5 b6 (.slice none 0 0) zeros32 0
 r7:w.heap[b7]?=some (.cells #[.map (some mb)] 144 (0,0))
theorem WlEnv.keep{w w':World}{b3 b4 b5 b6 b7 mb:Nat}{id:List UInt8}(h:WlEnv w b3 b4 b5 b6 b7 mb id)(hm:KC w w'):WlEnv w' b3 b4 b5 b6 b7 mb id:=
 ⟨hm.obj h.r3 rfl,⟨hm.obj h.res.r4 rfl,hm.obj h.res.r5 rfl,hm.obj h.res.r6 rfl⟩,hm.obj h.r7 rfl⟩
def WlI(w0:World)(mb:Nat)(pre:List Thg)(w:World):Prop:=MapIs idV IdOk w mb (walkM pre)/\Mod (fun k=>k=mb) w0 w/\KC w0 w
theorem wlI_own{w0:World}{mb:Nat}(hmb:mb<w0.heap.size):OwnFrom w0.heap.size (WlI w0 mb):=by
 intro s A B row hs hg hr;obtain⟨h1,h2,h3⟩:=hs;have hm:Mod (fun k=>some k=row) A B:=Mod.of_grown hg fun r e=>e.symm
 refine⟨h1.keep hm (fun e=>by have:=(hr _ e.symm).1;omega),h2.trans hm (fun k hk e=>by have:=(hr k e.symm).1;omega),h3.trans (KC.of_mod hm (fun k o e ho=>?_))⟩
 obtain⟨_,o',ho',hc⟩:=hr k e.symm;rw[ho]at ho';cases ho';exact hc
theorem GatI.put{base:Nat}{w:World}{v:Value}{l:List (List UInt8)}(h:GatI base w v l){D:Nat}(hD:w.heap[D]?=some (.deferred (some [])))(o:Obj):GatI base (w.putObj D o) v l:=
 Gat.keep h ((Mod.refl (fun k=>k=D) w).grown (grownBy_putObj' w D _) (fun k e _=>by cases e;rfl)) fun q hq e=>by
  obtain⟨o',ho',hc'⟩:=gat_cells h hq;have e:q=D:=e;rw[e,hD]at ho';cases ho';cases hc'
theorem mod_put{w0 w:World}(h:Mod NoB w0 w){D:Nat}(hD:w0.heap.size<=D)(o:Obj):Mod NoB w0 (w.putObj D o):=
 h.trans ((Mod.refl (fun k=>k=D) w).grown (grownBy_putObj' w D o) (fun k e _=>by cases e;rfl)) fun k hk e=>by have e:k=D:=e;omega
theorem clWalk_any{w:World}{bs ms wd:Nat}{room:Int}{bl:List Blb}(h:StInv w bs ms wd room bl)(di:List UInt8)(hid:di.length=32)(hc:(cont bl).length<=1000):Calls prog 20 #[.pointer (some ⟨bs,0,none⟩),.agg (qA di)] w (WalkR w (cont bl) di):=by
 have hmf:=xD;have hic:(qA di).size=32:=by rw[qD,hid]
 have HMX:=Lib.hid (@run_makeMap prog);have H:=Lib.hid h;have hlen:=walkM_len (cont bl) 5 (thgI di);have herr:=fun e=>walkL_err (cont bl) 5 (thgI di) e hid
 have hids:=fun t'=>walkL_id (cont bl) 5 (thgI di) t' hid;obtain⟨X,hX⟩:∃X,walkL (cont bl) 5 (thgI di)=X:=⟨_,rfl⟩
 have HOUT:Hid (∀ids bad n,WalkOut (cont bl) di ids bad n=match X.2 with
  |some e=>ids=[]/\bad=e.1/\n=e.2
  |none=>if 256<(walkM X.1).length then ids=[]/\bad=di/\n=4 else(ids.Pairwise (fun a b=>a<b)/\ids.Perm ((walkM X.1).map (·.1)))/\bad=zeros32/\n=0):=Lib.hid fun ids bad n=>by unfold WalkOut;rw[hX];first|done|(cases X.2<;>rfl)
 rw[hX]at hlen herr hids;have HX:=Lib.hid hX;have HERR:=Lib.hid herr;have HID:=Lib.hid hids;have hlen2:(walkM X.1).length<=1000:=by omega
 clear h hX hlen herr hids hc;refine(callsIn_wide (n:=0)).1 (callsIn_of_wp_marks func20 rfl trivial ?_ rfl)
 simp only[ntmps20,List.size_toArray,List.length_cons,List.length_nil,Nat.reduceAdd,Nat.reduceSub,Array.replicate_succ,Array.replicate_zero,List.push_toArray,List.append_toArray,List.nil_append,List.cons_append]
 gi_upto_region 0 with(fail)
 refine wpIn_wide.2 ?_;refine wpR [1,1,1,1] (by rfl) (by rfl) ?_;simp only[stz];refine wpDo rfl ?_;refine zW 24 _ _ (by rfl) (by rfl) (fun w1 hB1 hm1 hs1=>?_)
 replace hB1:w1.heap[w.heap.size]?=some (.cells (qA di) 24 (0,0)):=hB1;try simp only[nmz]
 refine wpDo rfl ?_;refine qR 25 _ (by rfl) sIDZ9 (fun w2 hB2 hm2 hs2=>?_);replace hB2:w2.heap[w1.heap.size]?=some (.cells #[.slice none 0 0] 25 (0,0)):=hB2
 try simp only[nmz]
 refine wpDo rfl ?_;refine qR 24 _ (by rfl) idZ (fun w3 hB3 hm3 hs3=>?_);replace hB3:w3.heap[w2.heap.size]?=some (.cells (qA zeros32) 24 (0,0)):=hB3
 try simp only[nmz]
 refine wpDo rfl ?_;refine qR 33 _ (by rfl) errnoZ9 (fun w4 hB4 hm4 hs4=>?_);replace hB4:w4.heap[w3.heap.size]?=some (.cells #[.int .i64 0] 33 (0,0)):=hB4
 simp only[stz];have hm04:Mod NoB w w4:=((hm1.trans0 hm2).trans0 hm3).trans0 hm4;have hE3:=hm4.obj id (hm3.obj id (hm2.obj id hB1))
 have hR3:Res3 w4 w1.heap.size w2.heap.size w3.heap.size (.slice none 0 0) zeros32 0:=⟨hm4.obj id (hm3.obj id hB2),hm4.obj id hB3,hB4⟩
 have h12:w1.heap.size<w2.heap.size:=hs2;have h23:w2.heap.size<w3.heap.size:=hs3;have h34:w3.heap.size<w4.heap.size:=hs4;generalize w1.heap.size=b4 at*
 generalize w2.heap.size=b5 at*;generalize w3.heap.size=b6 at*;generalize hb3:w.heap.size=b3 at*;clear hm1 hm2 hm3 hm4 hB1 hB2 hB3 hB4 hs2 hs3 hs4
 gi_upto_region 4 with(fail)
 refine wpIn_wide.2 ?_;refine wpR [1,1,1] (by rfl) (by rfl) ?_;simp only[stz];refine qN rfl (fun K hK=>?_);unfold Oper.wp execOp
 simp only[Array.map_empty,Option.map_none,Sem.run_bind,HMX.out,Result.andThen_ok,Sem.run_pure];have hB5:=heap_alloc_new w4 (.map #[] 0)
 have hm5:=qZ w4 (.map #[] 0);have hs5:w4.heap.size<(w4.alloc (.map #[] 0)).heap.size:=by simp
 generalize w4.alloc (.map #[] 0)=w5 at hB5 hm5 hs5 |-;refine hK _ _ trivial ?_;clear hK K;try simp only[nmz]
 refine wpDo rfl ?_;refine qR 144 _ (by rfl) mapCZ (fun w6 hB6 hm6 hs6=>?_);replace hB6:w6.heap[w5.heap.size]?=some (.cells #[.map none] 144 (0,0)):=hB6
 try simp only[nmz]
 refine wpDo rfl ?_
 refine qV 144 _ _ w5.heap.size 0 (.map (some w4.heap.size)) (by rfl) (by rfl) (by rfl) (by first|rfl|assumption) (by kernel_rfl) _ _ hB6 (by simp) (fun w7 hB7 hm7=>?_)
 replace hB7:w7.heap[w5.heap.size]?=some (.cells #[.map (some w4.heap.size)] 144 (0,0)):=hB7;simp only[stz];have hm57:Mod NoB w5 w7:=hm6.transB hm7 (Nat.le_refl _)
 have hm47:Mod NoB w4 w7:=hm5.trans0 hm57;have hMA:MapIs idV IdOk w7 w4.heap.size (walkM []):=(MapIs.made hB5).keep0 hm57;have hmb:w4.heap.size<w5.heap.size:=hs5
 have h57:w5.heap.size<w6.heap.size:=hs6;have h67:=hm7.size
 have HE7:Hid (WlEnv w7 b3 b4 b5 b6 w5.heap.size w4.heap.size di):=Lib.hid ⟨hm47.obj (fun h=>h) hE3,⟨hm47.obj (fun h=>h) hR3.r4,hm47.obj (fun h=>h) hR3.r5,hm47.obj (fun h=>h) hR3.r6⟩,hB7⟩
 have hm07:Mod NoB w w7:=hm04.trans0 hm47;generalize hmbe:w4.heap.size=mb at*;generalize hb7:w5.heap.size=b7 at*;have hlt7:b7<w7.heap.size:=by omega
 clear hm5 hm6 hm7 hm57 hm47 hm04 hB5 hB6 hB7 hE3 hR3 hs5 hs6 h57 h67;have hc3:=CellsAt.whole HE7.out.r3;have hbd:=built_descI di hid
 have hbt:=built_thing ⟨0,di,0,[]⟩ hid 1 1 rfl true
 gi_upto_region 5 with(fail)
 refine wpIn_wide.2 ?_;refine wpR [3,1,0,0,1,1] (by rfl) (by rfl) ?_;simp only[stz];refine wpXA 24 b3 0 (qA di) hc3 underlying24 32 hic trivial ?_;try simp only[nmz]
 refine qM rfl (fun w' hS=>qO 46 [(1,_)] [(1,.agg (qA di))] _ (by rfl) (by rfl) hbd) ?_;simp only[nmz]
 refine qM rfl (fun w' hS=>qO 150 [(0,_),(1,_),(2,_)] [(0,.agg (qW ⟨0,di,0,[]⟩)),(1,.int .i64 1),(2,.bool true)] _ (by rfl) (by rfl) hbt) ?_
 simp only[nmz];refine wpDo rfl ?_;refine zW 150 _ _ (by rfl) (by rfl) (fun w8 hB8 hm8 hs8=>?_)
 replace hB8:w8.heap[w7.heap.size]?=some (.cells (jS (thgI di)) 150 (0,0)):=hB8;try simp only[nmz]
 refine wpDo rfl ?_
 refine qB (qC 83 [.tmp 14,.tmp 18] _ rfl _ func83 rfl (by kernel_rfl) [.pointer (some ⟨bs,0,none⟩),.pointer (some ⟨w7.heap.size,0,none⟩)] rfl _) (clSeq_any w8 bs _) ?_
 rintro e w9 ⟨C1,C2,rfl,hC1,hC2,hm9⟩;refine⟨_,rfl,?_⟩;simp only[stz];have hm79:Mod NoB w7 w9:=hm8.trans0 hm9;have hm09:Mod NoB w w9:=hm07.trans0 hm79
 have hth:ThAt w9 w7.heap.size (thgI di):=hm9.obj (fun h=>h) hB8
 have hG:=clSeq1_gives (bl:=bl) (bs:=bs) (ms:=ms) (wd:=wd) (room:=room) 5 (thgI di) w9 C1 C2 w7.heap.size hid rfl (by omega) (H.out.keep0 hm09) hC1 hC2 hth
 rw[HX.out]at hG;have HE9:=Lib.hid (HE7.out.keep (KC.of0 hm79));have hMA9:=hMA.keep0 hm79;have hs79:=hm79.size;have hStl:=(H.out.keep0 hm09).lt
 have hmbn:¬SFoot bs ms bl mb:=fun e=>by have:=H.out.lt mb e;have:=hm09.size;omega
 have hbl:b4<w9.heap.size:=by omega
 clear hm8 hm9 hB8 hC1 hC2 hth hbd hbt hc3 hm79 hMA HE7 hs8
 gi_wp2
 refine wpIn_rangeFunc_wk (q:=8) (gf:=155) (by rfl) (enters_of func155 (by kernel_rfl) rfl) hG (kept_sc hStl) (WlI w9 mb) (wlI_own (by omega)) ⟨hMA9,Mod.refl _ _,KC.refl _⟩ ?assign ?body ?done ?fell
 case assign=>
  intro l b Wc K hK0;simp only[ss,sz]
  gi_wp2
  exact hK0
 case body=>
  rintro l pre x rest b Wc hxs ⟨hMW,hmW,hkW⟩ hth;simp only[ss,sz];have hx32:x.d.id.length=32:=HID.out x (by rw[hxs];simp)
  have hicx:(qA x.d.id).size=32:=by rw[qD,hx32]
  have hEw:=HE9.out.keep hkW;have hcb:Wc.cell? ⟨b7,0,none⟩=some (.map (some mb)):=by simp[World.cell?,hEw.r7]
  have hci:=hth.id;have hS:Mod NoB Wc Wc.drew:=(Mod.refl _ _).drew
  have hmo:∃es clk,Wc.heap[mb]?=some (.map es clk):=by
   obtain⟨⟨es,clk,h1,_⟩,_⟩:=hMW;exact⟨es,clk,h1⟩
  have HMO:=Lib.hid hmo;clear hEw hmo;refine wpIn_block ?_
  refine wpIn_region_piR [(0,0),(1,3),(2,3),(3,3),(4,3),(5,0),(6,0),(7,2)] [7] (fun w'=>Mod NoB Wc w') (by kernel_rfl) (by kernel_rfl) (by kernel_rfl) (by kernel_rfl) (by kernel_rfl) (fun h=>h.elim fun _ h=>h.elim fun _ h=>h.elim) (fun _ _ _ _ _ h=>h.elim) hS ?_
  simp only[stz];refine wpLd 144 b7 0 (fun w' hS=>hS.cell (fun h=>h) hcb) underlying144 ?_;simp only[stz]
  refine wpLA 24 b (0+1) (qA x.d.id) (fun w' hS=>hci.keep hS (fun h=>h)) underlying24 32 hicx ?_;simp only[nmz]
  refine qM rfl (fun w' hS=>qO 152 [] [] _ (by rfl) (by rfl) built_cmark0) ?_;simp only[nmz];refine zP rfl (fun K hK=>?_)
  refine wp_putL keyT_id (hMW.keep0 hS) x.d.id hx32 144 152 underlying144 _ _ _ (.agg #[.int .i64 0]) (by rfl) (by rfl) (by rfl) (by rfl) (fun w4 hM4 hm4=>?_);refine hK _ _ ?_
  clear hK K;simp only[stz];have hm04:Mod (fun k=>k=mb) Wc w4:=Mod.trans (hS.mono fun _ _ h=>h.elim) hm4 (fun _ _ h=>h);obtain⟨es,clk,hmo⟩:=HMO.out
  refine⟨?_,⟨KC.of_mod hm04 (fun k o e ho=>?_),hm04.mono (fun k _ e hs=>?_)⟩,?_,?_,?_⟩
  ·exact KeepsFrom.of_grownBy hm04.grownAt (fun j e=>by cases e;omega)
  ·have e:k=mb:=e
   subst e;rw[hmo]at ho;cases ho;rfl
  ·have e:k=mb:=e
   subst e;exact hmbn hs
  ·rw[walkM_snoc];exact hM4
  ·exact hmW.trans hm04 (fun _ _ h=>h)
  ·exact hkW.trans (KC.of_mod hm04 (fun k o e ho=>by
    have e:k=mb:=e
    subst e;rw[hmo]at ho;cases ho;rfl))
 case done=>
  rintro hnn D Wd hD ⟨hMd,hmd,hkd⟩ hKD;have hnn:X.2=none:=by simpa using hnn
  have HO:=Lib.hid HOUT.out;simp only[hnn]at HO;have hEd:=HE9.out.keep hkd;have hm0d:Mod NoB w Wd:=hm09.trans hmd (fun k hk e=>by have e:k=mb:=e;omega)
  have hcb:Wd.cell? ⟨b7,0,none⟩=some (.map (some mb)):=by simp[World.cell?,hEd.r7]
  have hDb:w.heap.size<=D:=by have:=hm09.size;omega
  have HED:=Lib.hid hEd;have HMD:=Lib.hid hMd;clear hEd hMd hmd hkd HE9
  by_cases hgt:256<(walkM X.1).length
  ·have hz:(256:Int)<((walkM X.1).length:Nat):=by omega
   gi_upto_region 8 with(fail)
   refine wpIn_wide.2 ?_;refine wpR [1,1,3] (by rfl) (by rfl) ?_;simp only[stz];refine wpXd (v:=(.map (some mb))) 144 b7 0 hcb underlying144 trivial ?_;try simp only[nmz]
   refine wpX rfl (exec_lenL HMD.out 144 152 underlying144 _ (by rfl) (by rfl)) trivial ?_;try simp only[nmz]
   refine qS _ _ _ _ _ _ _ _ rfl rfl rfl rfl rfl true (decide_eq_true hz) ?_;simp only[stz]
   gi_upto_region 9 with(fail)
   refine wpIn_mono (Q:=NoPanic _) ?_ (fun _ _ _ h=>noPanic_le h);refine wpIn_wide.2 ?_;have hc3:=CellsAt.whole HED.out.r3
   have hS:Mod (fun k=>k=b4\/k=b5\/k=b6) Wd Wd.drew:=(Mod.refl _ _).drew;have hd0:=(Mod.refl NoB Wd).drew;have hd4:=hd0.obj (fun h=>h) HED.out.res.r4
   have hd5:=hd0.obj (fun h=>h) HED.out.res.r5;have hd6:=hd0.obj (fun h=>h) HED.out.res.r6
   refine zY [(0,0),(1,1),(2,1),(3,1)] [] (fun w'=>Mod (fun k=>k=b4\/k=b5\/k=b6) Wd w') (by kernel_rfl) (by kernel_rfl) (by kernel_rfl) (by kernel_rfl) panicSame_no hS ?_
   simp only[stz];refine wpLA 24 b3 0 (qA di) (fun w' hS=>hc3.keep hS (fun h=>by omega)) underlying24 32 hic ?_;simp only[nmz];refine qN rfl (fun K hK=>?_)
   refine qV 25 _ _ b4 0 (.slice none 0 0) (by rfl) (by rfl) (by rfl) rfl (by kernel_rfl) _ _ hd4 (by simp) (fun wx hBx hmx=>?_)
   replace hBx:wx.heap[b4]?=some (.cells #[.slice none 0 0] 25 (0,0)):=hBx;have hSx:=hS.trans hmx (fun _ _ h=>.inl h);have h5x:=hmx.objB (by omega) hd5
   have h6x:=hmx.objB (by omega) hd6;refine hK _ _ hSx ?_;clear hK K;try simp only[nmz]
   refine qN rfl (fun K hK=>?_)
   refine qH 24 _ _ b5 0 (qA di) (by rfl) (by rfl) (by rfl) (qT _) 32 (by kernel_rfl) hic _ _ h5x (by rw[hic,qD];exact Nat.le_refl _) (fun wy hBy hmy=>?_)
   rw[qF (by rw[hic,qD];rfl)]at hBy;have hSy:=hSx.trans hmy (fun _ _ h=>.inr (.inl h));have h4y:=hmy.objB (by omega) hBx
   have h6y:=hmy.objB (by omega) h6x;refine hK _ _ hSy ?_;clear hK K;try simp only[nmz]
   refine qN rfl (fun K hK=>?_);refine qV 33 _ _ b6 0 (.int .i64 4) (by rfl) (by rfl) (by rfl) rfl (by kernel_rfl) _ _ h6y (by simp) (fun wz hBz hmz=>?_)
   replace hBz:wz.heap[b6]?=some (.cells #[.int .i64 4] 33 (0,0)):=hBz;have hSz:=hSy.trans hmz (fun _ _ h=>.inr (.inr h));have h4z:=hmz.objB (by omega) h4y
   have h5z:=hmz.objB (by omega) hBy;refine hK _ _ hSz ?_;clear hK K;simp only[stz]
   have HF:Hid (Res3 wz b4 b5 b6 (.slice none 0 0) di 4/\wz.heap[D]?=some (.deferred (some []))/\Mod NoB w (wz.putObj D (.deferred none))/\WalkOut (cont bl) di [] di 4):=Lib.hid ⟨⟨h4z,h5z,hBz⟩,hSz.obj (fun h=>by
    have h1:=HED.out.res.r4;have h2:=HED.out.res.r5;have h3:=HED.out.res.r6
    rcases h with h|h|h
    ·rw[<-h,hKD]at h1;cases h1
    ·rw[<-h,hKD]at h2;cases h2
    ·rw[<-h,hKD]at h3;cases h3) hKD,mod_put (hm0d.trans hSz (fun k hk h=>by
    have h:k=b4\/k=b5\/k=b6:=h
    omega)) hDb _,by rw[HO.out,if_pos hgt];exact⟨rfl,rfl,rfl⟩⟩
   refine noPanic_nor ?_;clear hS hd0 hd4 hd5 hd6 hSx hSy hSz h4y h6y h5x h6x h4z h5z hBx hBy hBz hmx hmy hmz hc3
   gi_wp2
   exact leave_ret (by rfl) HF.out.2.1 HF.out.1 hid (by rfl) (by rfl) (by rfl) ⟨HF.out.2.2.1,_,[],di,4,rfl,Gat.nil _ _ _ _ _,HF.out.2.2.2,hid,fun x h=>(by cases h)⟩
  ·have hz:¬(256:Int)<((walkM X.1).length:Nat):=by omega
   gi_upto_region 8 with(fail)
   refine wpIn_wide.2 ?_;refine wpR [1,1,3] (by rfl) (by rfl) ?_;simp only[stz];refine wpXd (v:=(.map (some mb))) 144 b7 0 hcb underlying144 trivial ?_;try simp only[nmz]
   refine wpX rfl (exec_lenL HMD.out 144 152 underlying144 _ (by rfl) (by rfl)) trivial ?_;try simp only[nmz]
   refine qS _ _ _ _ _ _ _ _ rfl rfl rfl rfl rfl false (decide_eq_false hz) ?_;simp only[stz];have hris:=clRising_any HMD.out (by omega)
   have hzb:(qA (List.replicate 32 0)).size=32:=idZ_size;have hd4:=HED.out.res.r4;have hd5:=HED.out.res.r5;have hd6:=HED.out.res.r6
   gi_upto_region 10 with(fail)
   refine wpIn_wide.2 ?_;refine wpR [1,1,0,1,1,1] (by rfl) (by rfl) ?_;simp only[stz];refine wpXd (v:=(.map (some mb))) 144 b7 0 hcb underlying144 trivial ?_
   try simp only[nmz]
   refine wpDo rfl ?_;refine qB (qC 84 [.tmp 32] _ rfl _ func84 rfl (by kernel_rfl) [.map (some mb)] rfl _) hris ?_;rintro e wx ⟨hmx,v,ids,rfl,hgx,hsx,hpx,hlx⟩
   have h4x:=hmx.obj (fun h=>h) hd4;have h5x:=hmx.obj (fun h=>h) hd5;have h6x:=hmx.obj (fun h=>h) hd6;obtain⟨ad,cap,rfl⟩:=hgx.slice;refine⟨_,rfl,?_⟩
   try simp only[nmz]
   refine qM rfl (fun w' hS=>qO 24 [] [] _ (by rfl) (by rfl) built_id0) ?_;simp only[nmz];refine wpDo rfl ?_
   refine qV 25 _ _ b4 0 (.slice ad ids.length cap) (by rfl) (by rfl) (by rfl) rfl (by kernel_rfl) _ _ h4x (by simp) (fun wy hBy hmy=>?_)
   replace hBy:wy.heap[b4]?=some (.cells #[.slice ad ids.length cap] 25 (0,0)):=hBy;have h5y:=hmy.objB (by omega) h5x;have h6y:=hmy.objB (by omega) h6x
   try simp only[nmz]
   refine wpDo rfl ?_
   refine qH 24 _ _ b5 0 (qA (List.replicate 32 0)) (by rfl) (by rfl) (by rfl) (qT _) 32 (by kernel_rfl) hzb _ _ h5y (by rw[hzb,qD];exact Nat.le_refl _) (fun wz hBz hmz=>?_)
   rw[qF (by rw[hzb,qD];rfl)]at hBz;have h4z:=hmz.objB (by omega) hBy;have h6z:=hmz.objB (by omega) h6y;try simp only[nmz]
   refine wpDo rfl ?_;refine qV 33 _ _ b6 0 (.int .i64 0) (by rfl) (by rfl) (by rfl) rfl (by kernel_rfl) _ _ h6z (by simp) (fun wu hBu hmu=>?_)
   replace hBu:wu.heap[b6]?=some (.cells #[.int .i64 0] 33 (0,0)):=hBu;have h4u:=hmu.objB (by omega) h4z;have h5u:=hmu.objB (by omega) hBz;simp only[stz]
   have hmxu:Mod (fun k=>k=b4\/k=b5\/k=b6) Wd wu:=(((hmx.mono fun _ _ h=>h.elim).trans hmy (fun _ _ h=>.inl h)).trans hmz (fun _ _ h=>.inr (.inl h))).trans hmu (fun _ _ h=>.inr (.inr h))
   have hmxu':Mod (fun k=>k=b4\/k=b5\/k=b6) wx wu:=((hmy.mono fun _ _ h=>.inl h).trans hmz (fun _ _ h=>.inr (.inl h))).trans hmu (fun _ _ h=>.inr (.inr h))
   have hKu:wu.heap[D]?=some (.deferred (some [])):=hmxu.obj (fun h=>by
    rcases h with h|h|h
    ·rw[<-h,hKD]at hd4;cases hd4
    ·rw[<-h,hKD]at hd5;cases hd5
    ·rw[<-h,hKD]at hd6;cases hd6) hKD
   have hgu:GatI Wd.heap.size wu (.slice ad ids.length cap) ids:=Gat.keep hgx hmxu' fun q hq h=>by
    have h1:=(Gat.lt hgx hq).1;have h2:=(Array.getElem?_eq_some_iff.1 hd4).1;have h3:=(Array.getElem?_eq_some_iff.1 hd5).1;have h4:=(Array.getElem?_eq_some_iff.1 hd6).1
    have h:q=b4\/q=b5\/q=b6:=h;omega
   have HF:Hid (Res3 wu b4 b5 b6 (.slice ad ids.length cap) zeros32 0/\wu.heap[D]?=some (.deferred (some []))/\Mod NoB w (wu.putObj D (.deferred none))/\GatI w.heap.size (wu.putObj D (.deferred none)) (.slice ad ids.length cap) ids/\WalkOut (cont bl) di ids zeros32 0/\∀x∈ids,x.length=32):=Lib.hid ⟨⟨h4u,h5u,hBu⟩,hKu,mod_put (hm0d.trans hmxu (fun k hk h=>by
    have h:k=b4\/k=b5\/k=b6:=h
    omega)) hDb _,GatI.put (hgu.base hm0d.size) hKu _,by rw[HO.out,if_neg hgt];exact⟨⟨hsx,hpx⟩,rfl,rfl⟩,hlx⟩
   clear hmx hmy hmz hmu hgx hsx hpx hlx h4x h5x h6x h5y h6y h4z h6z h4u h5u hBy hBz hBu hmxu hmxu' hKu hgu hris hd4 hd5 hd6
   gi_wp2
   exact leave_ret (by rfl) HF.out.2.1 HF.out.1 zeros32_len (by rfl) (by rfl) (by rfl) ⟨HF.out.2.2.1,_,ids,zeros32,0,rfl,HF.out.2.2.2.1,HF.out.2.2.2.2.1,zeros32_len,HF.out.2.2.2.2.2⟩
 case fell=>
  rintro c hc D Wd hD ⟨hMd,hmd,hkd⟩ hKD
  obtain⟨e,he,rfl⟩:∃e,X.2=some e/\chainW e=c:=by
   cases h9:X.2 with
   |none=>rw[h9]at hc;cases hc
   |some e=>rw[h9]at hc;exact⟨e,rfl,by simpa using hc⟩
  have hEd:=HE9.out.keep hkd;have hm0d:Mod NoB w Wd:=hm09.trans hmd (fun k hk e=>by have e:k=mb:=e;omega);obtain⟨he1,he2,he3⟩:=HERR.out e he
  have hDb:w.heap.size<=D:=by have:=hm09.size;omega
  refine leave_wrong (by rfl) hKD hEd.res zeros32_len (by omega) (by omega) (by omega) he1 (by rfl) (by rfl) (by rfl) (fun w' hm=>?_)
  have hmf:=(mod_put hm0d hDb (.deferred none)).trans hm (fun k hk h=>by
   have h:k=b4\/k=b5\/k=b6:=h
   omega)
  refine⟨hmf,_,[],e.1,e.2,rfl,Gat.nil _ _ _ _ _,?_,he1,fun x h=>(by cases h)⟩;rw[HOUT.out,he];exact⟨rfl,rfl,rfl⟩
end
section
open Go.RowKit Go.Shelf Go.Proofs.Tryz Go.Lib
theorem sameSwept_any{w:World}{o o':Bool}{G G':Nat->Prop}{va vb:Value}{la lb:List (List UInt8)}(ha:Sl o w G 32 IdC va la)(hb:Sl o' w G' 32 IdC vb lb)(b1 n1 b2 n2:Nat):
 Calls prog 54 #[.agg (qK va b1 n1),.agg (qK vb b2 n2)] w (RetK (.bool (decide (la=lb)&&decide (b1=b2)&&decide (n1=n2))) w):=by
 have h1a:=Sl.one ha;have h1b:=Sl.one hb;obtain⟨r,hr⟩:∃r,decide (la=lb)=r:=⟨_,rfl⟩;rw[hr]
 obtain⟨res,hres⟩:∃x,(r&&decide (b1=b2)&&decide (n1=n2))=x:=⟨_,rfl⟩;rw[hres];have HRES:=hid hres;clear hres;go_enter func54,ntmps54
 go_upto_region 0 with(fail);refine wpR [1,1,3] (by rfl) (by rfl) ?_;simp only[stz];refine wpDo rfl ?_;refine zW 104 _ _ (by rfl) (by rfl) (fun w1 hB1 hm1 hs1=>?_)
 replace hB1:w1.heap[w.heap.size]?=some (.cells (qK va b1 n1) 104 (0,0)):=hB1;try simp only[nmz]
 refine wpDo rfl ?_;refine zW 104 _ _ (by rfl) (by rfl) (fun w2 hB2 hm2 hs2=>?_);replace hB2:w2.heap[w1.heap.size]?=some (.cells (qK vb b2 n2) 104 (0,0)):=hB2
 simp only[stz];have hm02:=hm1.trans0 hm2;have hB12:=hm2.obj id hB1;have hca0:w2.cell? ⟨w.heap.size,0+0,none⟩=some va:=by simp[World.cell?,hB12,qK]
 have hcb0:w2.cell? ⟨w1.heap.size,0+0,none⟩=some vb:=by simp[World.cell?,hB2,qK]
 have hca1:w2.cell? ⟨w.heap.size,0+1,none⟩=some (.int .i64 (b1:Nat)):=by simp[World.cell?,hB12,qK]
 have hcb1:w2.cell? ⟨w1.heap.size,0+1,none⟩=some (.int .i64 (b2:Nat)):=by simp[World.cell?,hB2,qK]
 have hca2:w2.cell? ⟨w.heap.size,0+2,none⟩=some (.int .i64 (n1:Nat)):=by simp[World.cell?,hB12,qK]
 have hcb2:w2.cell? ⟨w1.heap.size,0+2,none⟩=some (.int .i64 (n2:Nat)):=by simp[World.cell?,hB2,qK]
 have hsame:=yH _ _ _ _ va vb la lb w2 (ha.keep0 hm02) (hb.keep0 hm02);rw[hr]at hsame;clear hr;generalize w.heap.size=ba at*;generalize w1.heap.size=bb at*
 go_upto_region 1 with(fail)
 cases r with
 |false=>
  refine wpR [3,1,3,1,1,3,3,0,3,0,3,3,3,3,0,3,0,3,3,3] (by rfl) (by rfl) ?_;simp only[stz];refine wpXd 25 ba (0+0) hca0 underlying25 trivial ?_;simp only[stz]
  refine wpXd 25 bb (0+0) hcb0 underlying25 trivial ?_;try simp only[nmz]
  refine wpDo rfl ?_;refine qB (qC 24 [.tmp 6,.tmp 8] _ rfl _ func24 rfl (by kernel_rfl) [va,vb] rfl _) (hsame) ?_;rintro e w3 ⟨rfl,hg3⟩;have hm3:=hm02.trans0 hg3
  refine⟨_,rfl,?_⟩;simp only[stz];clear hca0 hcb0 hca1 hcb1 hca2 hcb2 hB12 hB1 hB2;have h9:=HRES.out;have hres:res=false:=by simpa using h9.symm
  clear h9;go_wp2;go_ret;exact⟨by rw[hres];rfl,hm3⟩
 |true=>
  have H9:=hid (show(decide (b1=b2)&&decide (n1=n2))=res by have h:=HRES.out;simpa using h)
  by_cases hb12:b1=b2
  ·have hz:(b1:Int)=(b2:Nat):=by omega
   have hzb:((b1:Int)==((b2:Nat):Int))=true:=by simpa using hz
   refine wpR [3,1,3,1,1,3,3,1,3,1,3,3,3,3,1,3,1,3,3,3] (by rfl) (by rfl) ?_;simp only[stz];refine wpXd 25 ba (0+0) hca0 underlying25 trivial ?_
   simp only[stz];refine wpXd 25 bb (0+0) hcb0 underlying25 trivial ?_;try simp only[nmz]
   refine wpDo rfl ?_;refine qB (qC 24 [.tmp 6,.tmp 8] _ rfl _ func24 rfl (by kernel_rfl) [va,vb] rfl _) (hsame) ?_;rintro e w3 ⟨rfl,hg3⟩
   have hm3:=hm02.trans0 hg3;have hca1':=hg3.cell id hca1;have hcb1':=hg3.cell id hcb1;have hca2':=hg3.cell id hca2;have hcb2':=hg3.cell id hcb2;refine⟨_,rfl,?_⟩
   simp only[stz];refine wpXd 3 ba (0+1) hca1' underlying3 trivial ?_;simp only[stz];refine wpXd 3 bb (0+1) hcb1' underlying3 trivial ?_;try simp only[nmz]
   refine qS _ _ _ _ _ _ _ _ rfl rfl rfl rfl rfl true (decide_eq_true hz) ?_;simp only[stz];refine wpXd 3 ba (0+2) hca2' underlying3 trivial ?_;simp only[stz]
   refine wpXd 3 bb (0+2) hcb2' underlying3 trivial ?_;try simp only[nmz]
   refine qS _ _ _ _ _ _ _ _ rfl rfl rfl rfl rfl (decide (n1=n2)) (show decide (((n1:Nat):Int)=((n2:Nat):Int))=decide (n1=n2) by rw[decide_eq_decide];omega) ?_
   simp only[stz];clear hca0 hcb0 hca1 hcb1 hca2 hcb2 hB12 hB1 hB2;have h9:=H9.out;rw[decide_eq_true hb12,Bool.true_and]at h9;have HR:=hid h9;clear h9;go_wp2;go_ret
   exact⟨by rw[<-HR.out];rfl,hm3⟩
  ·have hz:¬(b1:Int)=(b2:Nat):=by omega
   refine wpR [3,1,3,1,1,3,3,1,3,1,3,3,3,3,0,3,0,3,3,3] (by rfl) (by rfl) ?_;simp only[stz];refine wpXd 25 ba (0+0) hca0 underlying25 trivial ?_
   simp only[stz];refine wpXd 25 bb (0+0) hcb0 underlying25 trivial ?_;try simp only[nmz]
   refine wpDo rfl ?_;refine qB (qC 24 [.tmp 6,.tmp 8] _ rfl _ func24 rfl (by kernel_rfl) [va,vb] rfl _) (hsame) ?_;rintro e w3 ⟨rfl,hg3⟩
   have hm3:=hm02.trans0 hg3;have hca1':=hg3.cell id hca1;have hcb1':=hg3.cell id hcb1;refine⟨_,rfl,?_⟩;simp only[stz]
   refine wpXd 3 ba (0+1) hca1' underlying3 trivial ?_;simp only[stz];refine wpXd 3 bb (0+1) hcb1' underlying3 trivial ?_;try simp only[nmz]
   refine qS _ _ _ _ _ _ _ _ rfl rfl rfl rfl rfl false (decide_eq_false hz) ?_;simp only[stz];clear hca0 hcb0 hca1 hcb1 hca2 hcb2 hB12 hB1 hB2;have h9:=H9.out
   rw[decide_eq_false hb12,Bool.false_and]at h9;go_wp2;go_ret;exact⟨by rw[<-h9];rfl,hm3⟩
theorem wp_bytesConst{P:Program}{o:Oper}{a:Act}{w:World}{K:Act->World->Prop}{Q:Exit->Act->World->Prop}(t e:TypeId)(x:Operand)(b n c:Nat)(C:Array Value)(ho:o.op=.convert t t x)(hx:a.eval x=.slice (some ⟨b,0,none⟩) n c)
 (ht:P.underlying t=some (.slice e))(he:P.underlying e=some (.int .u8))(hb:w.heap[b]?=some (.cells C e (0,0)))
 (h:∀w',w'.heap[b]?=some (.cells C e (C.size,C.size+1))->Mod (fun k=>k=b) w w'->K (a.put o.dst (.slice (some ⟨b,0,none⟩) n c)) w'):o.wp P a w K Q:=by
 have hsh:w.shape? b=some (e,C.size):=by unfold World.shape?;rw[hb]
 have hr:(convert t t (.slice (some ⟨b,0,none⟩) n c)).run P w=.ok (.slice (some ⟨b,0,none⟩) n c) (w.freeze ⟨b,C.size,none⟩ 1):=by
  simp[convert,run_underlying ht,run_underlying he,markStringish,hsh]
 unfold Oper.wp execOp;simp only[ho,hx,Sem.run_bind,hr,Result.andThen_ok,Sem.run_pure];refine h _ ?_ ⟨rfl,rfl,rfl,?_,fun k hk hne=>?_⟩
 ·unfold World.freeze
  rw[if_neg (by decide)]
  show(w.heap.modify b _)[b]?=_
  rw[Array.getElem?_modify,if_pos rfl,hb]
  rfl
 ·unfold World.freeze
  rw[if_neg (by decide)]
  simp
 ·unfold World.freeze
  rw[if_neg (by decide)]
  show(w.heap.modify b _)[k]?=_
  rw[Array.getElem?_modify,if_neg (fun e=>hne e.symm)]
theorem sl_bytes{w:World}{b n:Nat}{l:List UInt8}{T:TypeId}{fr:Nat×Nat}(h:w.heap[b]?=some (.cells (qA l) T fr))(hn:n=l.length)(hm:l.length<=1000):Sl false w AnyB 1 ByteC (.slice (some ⟨b,0,none⟩) n n) l:=by
 subst hn
 refine⟨some ⟨b,0,none⟩,l.length,rfl,Nat.le_refl _,by unfold maxLen;omega,fun _=>⟨b,0,rfl,trivial,fun e=>(by cases e),fun i hi=>⟨#[byteV l[i]],rfl,rfl,?_⟩⟩⟩
 refine CellsAt.of_obj h fun j hj=>?_;have h0:j=0:=by simpa using hj
 subst h0
 simp[qA,hi]
theorem cells_nth{w:World}{b:Nat}{C:Array Value}{T:TypeId}{fr:Nat×Nat}(h:w.heap[b]?=some (.cells C T fr))(i:Nat)(c:Value)(hc:C[i]?=some c):CellsAt w b (0+i*1) #[c]:=CellsAt.of_obj h fun j hj=>by
 have h0:j=0:=by simpa using hj
 subst h0
 simpa using hc
theorem results_row3{P:Program}{fn:Func}{p q r:Tmp}{ty tz tx:TypeId}(h:fn.results=#[.cell p ty,.cell q tz,.cell r tx])(tmps:Array Value)(w:World)(g1 g2 g3:Nat)(t1 t2 t3:TypeId)(c1 c2 c3:Array Value)(f1 f2 f3:Nat×Nat)(d1 d2 d3:TypeDesc)
 (hp1:tmps.getD p undef=.pointer (some ⟨g1,0,none⟩))(hg1:w.heap[g1]?=some (.cells c1 t1 f1))(hp2:tmps.getD q undef=.pointer (some ⟨g2,0,none⟩))(hg2:w.heap[g2]?=some (.cells c2 t2 f2))(hp3:tmps.getD r undef=.pointer (some ⟨g3,0,none⟩))(hg3:w.heap[g3]?=some (.cells c3 t3 f3))
 (hu1:P.underlying ty=some d1)(hd1:(match d1 with| .struct _| .array _ _=>true|_=>false)=true)(hi1:(P.info? ty).map (·.size)=some c1.size)
 (hu2:P.underlying tz=some d2)(hd2:(match d2 with| .struct _| .array _ _=>true|_=>false)=true)(hi2:(P.info? tz).map (·.size)=some c2.size)
 (hu3:P.underlying tx=some d3)(hd3:(match d3 with| .struct _| .array _ _=>true|_=>false)=true)(hi3:(P.info? tx).map (·.size)=some c3.size):
 (results fn tmps).run P w=.ok (.tuple #[.agg c1,.agg c2,.agg c3]) w:=by
 have e1:tmps[p]?.getD undef=.pointer (some ⟨g1,0,none⟩):=by simpa using hp1
 have e2:tmps[q]?.getD undef=.pointer (some ⟨g2,0,none⟩):=by simpa using hp2
 have e3:tmps[r]?.getD undef=.pointer (some ⟨g3,0,none⟩):=by simpa using hp3
 simp[results,h,e1,e2,e3,asAddr,run_loadVar_row w g1 t1 ty c1 f1 d1 hg1 hu1 hd1 hi1,run_loadVar_row w g2 t2 tz c2 f2 d2 hg2 hu2 hd2 hi2,run_loadVar_row w g3 t3 tx c3 f3 d3 hg3 hu3 hd3 hi3]
def idA:List UInt8:=shaL [65]
def idB:List UInt8:=shaL [66,33]
def TwoR(w:World):Ending->World->Prop:=fun e w'=>Mod NoB w w'/\∃lv kv,e=.returned (.tuple #[.agg (qA idA),.agg (qA idB),.agg #[.int .i64 31,lv,kv]])/\LsAt w' lv [[65],[66,33]]/\Sl false w' AnyB 1 IntC kv [0,0,0,1]
theorem houseZ:(prog.info? 68).bind (·.zero)=some (.agg #[.int .i64 0,.slice none 0 0,.slice none 0 0]):=by kernel_rfl
theorem byte_zs:(prog.info? 5).map (fun i=>(i.zero,i.size))=some (some (byteV 0),1):=by kernel_rfl
theorem bytes_zs:(prog.info? 53).map (fun i=>(i.zero,i.size))=some (some (.slice none 0 0),1):=by kernel_rfl
theorem built_house(n:Int)(ad bd:Option Addr)(k c k' c':Nat):prog.built 68 [(0,.int .i64 n),(1,.slice ad k c),(2,.slice bd k' c')]=some #[.int .i64 n,.slice ad k c,.slice bd k' c']:=by
 have p:xT prog 68=some [(0,1),(1,1),(2,1)]:=by kernel_rfl
 rw[zS houseZ p,zK (off:=0) (size:=1) rfl (by rfl) (by simp),zK (off:=1) (size:=1) rfl (by rfl) (by simp[zF,Value.cells]),zK (off:=2) (size:=1) rfl (by rfl) (by simp[zF,Value.cells]),xU]
 rfl
theorem two_any(w:World):Calls prog 55 #[] w (TwoR w):=by
 have hA:(qA idA).size=32:=by rw[qD];exact shaL_len _
 have hB:(qA idB).size=32:=by rw[qD];exact shaL_len _
 have hz32:(qA (List.replicate 32 0)).size=32:=idZ_size;go_enter func55,ntmps55;go_upto_region 0 with(fail);refine wpR [1,1,1] (by rfl) (by rfl) ?_;simp only[stz]
 refine wpDo rfl ?_;refine qR 24 _ (by rfl) idZ (fun w1 hB1 hm1 hs1=>?_);replace hB1:w1.heap[w.heap.size]?=some (.cells (qA (List.replicate 32 0)) 24 (0,0)):=hB1
 try simp only[nmz]
 refine wpDo rfl ?_;refine qR 24 _ (by rfl) idZ (fun w2 hB2 hm2 hs2=>?_)
 replace hB2:w2.heap[w1.heap.size]?=some (.cells (qA (List.replicate 32 0)) 24 (0,0)):=hB2;try simp only[nmz]
 refine wpDo rfl ?_;refine qR 68 _ (by rfl) houseZ (fun w3 hB3 hm3 hs3=>?_)
 replace hB3:w3.heap[w2.heap.size]?=some (.cells #[.int .i64 0,.slice none 0 0,.slice none 0 0] 68 (0,0)):=hB3;simp only[stz];have hB13:=(hm2.trans0 hm3).obj id hB1
 have hB23:=hm3.obj id hB2;have hm03:=(hm1.trans0 hm2).trans0 hm3;have hs12:w1.heap.size<w2.heap.size:=hs2;have hs01:w.heap.size<w1.heap.size:=hs1
 generalize hb0:w.heap.size=b0 at*;generalize hb1:w1.heap.size=b1 at*;generalize hb2:w2.heap.size=b2 at*;clear hm1 hm2 hm3 hB1 hB2 hs1 hs2
 go_upto_region 1 with(fail);refine wpR [1,1,1,1,1,1,1,1,1,1,1,1,0,1,1,1] (by rfl) (by rfl) ?_;simp only[stz];refine wpDo rfl ?_
 refine qY 53 5 _ (byteV 65) (byteV 0) 1 (by rfl) (by rfl) underlying53 byte_zs (by omega) (by omega) rfl (fun w4 hB4 hm4 hs4=>?_)
 replace hB4:w4.heap[w3.heap.size]?=some (.cells (qA [65]) 5 (0,0)):=hB4;try simp only[nmz]
 refine wpDo rfl ?_;refine wp_bytesConst 53 5 _ w3.heap.size 1 1 _ (by rfl) (by rfl) underlying53 underlying5 hB4 (fun w5 hB5 hm5=>?_)
 have hm35:Mod NoB w3 w5:=hm4.transB hm5 (Nat.le_refl _);have hsA:=shaSum_any (sl_bytes (n:=1) hB5 rfl (by simp)) (by simp);try simp only[nmz]
 refine wpDo rfl ?_;refine qB (qC 96 [.tmp 4] _ rfl _ func96 rfl (by kernel_rfl) [.slice (some ⟨w3.heap.size,0,none⟩) 1 1] rfl _) (hsA) ?_;rintro e w6 ⟨rfl,hm6⟩
 have hm36:=hm35.trans0 hm6;refine⟨_,rfl,?_⟩;try simp only[nmz]
 refine wpDo rfl ?_
 refine xP 53 5 2 [(0,_),(1,_)] [byteV 66,byteV 33] (byteV 0) 1 (by rfl) (by rfl) (by rfl) underlying53 byte_zs (by omega) (by omega) (by simp[Value.cells,byteV]) (fun w7 hB7 hm7 hs7=>?_)
 replace hB7:w7.heap[w6.heap.size]?=some (.cells (qA [66,33]) 5 (0,0)):=hB7;try simp only[nmz]
 refine wpDo rfl ?_;refine wp_bytesConst 53 5 _ w6.heap.size 2 2 _ (by rfl) (by rfl) underlying53 underlying5 hB7 (fun w8 hB8 hm8=>?_)
 have hm68:Mod NoB w6 w8:=hm7.transB hm8 (Nat.le_refl _);have hsB:=shaSum_any (sl_bytes (n:=2) hB8 rfl (by simp)) (by simp);try simp only[nmz]
 refine wpDo rfl ?_;refine qB (qC 96 [.tmp 7] _ rfl _ func96 rfl (by kernel_rfl) [.slice (some ⟨w6.heap.size,0,none⟩) 2 2] rfl _) (hsB) ?_;rintro e w9 ⟨rfl,hm9⟩
 have hm39:=hm36.trans0 (hm68.trans0 hm9);clear hm36 hm68 hm9 hm7 hm8 hB7 hB8 hsA hsB hm35 hm6 hB4 hB5 hm4 hm5;refine⟨_,rfl,?_⟩;try simp only[nmz]
 refine wpDo rfl ?_;refine qY 53 5 _ (byteV 65) (byteV 0) 1 (by rfl) (by rfl) underlying53 byte_zs (by omega) (by omega) rfl (fun wa hBa hma hsa=>?_)
 replace hBa:wa.heap[w9.heap.size]?=some (.cells (qA [65]) 5 (0,0)):=hBa;try simp only[nmz]
 refine wpDo rfl ?_;refine wp_bytesConst 53 5 _ w9.heap.size 1 1 _ (by rfl) (by rfl) underlying53 underlying5 hBa (fun wb hBb hmb=>?_)
 have hm9b:Mod NoB w9 wb:=hma.transB hmb (Nat.le_refl _);try simp only[nmz]
 refine wpDo rfl ?_
 refine xP 53 5 2 [(0,_),(1,_)] [byteV 66,byteV 33] (byteV 0) 1 (by rfl) (by rfl) (by rfl) underlying53 byte_zs (by omega) (by omega) (by simp[Value.cells,byteV]) (fun wc hBc hmc hsc=>?_)
 replace hBc:wc.heap[wb.heap.size]?=some (.cells (qA [66,33]) 5 (0,0)):=hBc;try simp only[nmz]
 refine wpDo rfl ?_;refine wp_bytesConst 53 5 _ wb.heap.size 2 2 _ (by rfl) (by rfl) underlying53 underlying5 hBc (fun wd hBd hmd=>?_)
 have hmbd:Mod NoB wb wd:=hmc.transB hmd (Nat.le_refl _);try simp only[nmz]
 refine wpDo rfl ?_
 refine xP 22 53 2 [(0,_),(1,_)] [.slice (some ⟨w9.heap.size,0,none⟩) 1 1,.slice (some ⟨wb.heap.size,0,none⟩) 2 2] (.slice none 0 0) 1 (by rfl) (by rfl) (by rfl) underlying22 bytes_zs (by omega) (by omega) (by simp[Value.cells]) (fun we hBe hme hse=>?_)
 replace hBe:we.heap[wd.heap.size]?=some (.cells #[.slice (some ⟨w9.heap.size,0,none⟩) 1 1,.slice (some ⟨wb.heap.size,0,none⟩) 2 2] 53 (0,0)):=hBe;try simp only[nmz]
 refine wpDo rfl ?_
 refine xP 64 3 4 [(0,_),(1,_),(2,_),(3,_)] [.int .i64 0,.int .i64 0,.int .i64 0,.int .i64 1] (.int .i64 0) 1 (by rfl) (by rfl) (by rfl) underlying64 int_zs (by omega) (by omega) (by simp[Value.cells]) (fun wf hBf hmf hsf=>?_)
 replace hBf:wf.heap[we.heap.size]?=some (.cells #[.int .i64 0,.int .i64 0,.int .i64 0,.int .i64 1] 3 (0,0)):=hBf
 have hm3f:Mod NoB w3 wf:=hm39.trans0 ((hm9b.trans0 hmbd).trans0 (hme.trans0 hmf));have hX1:=hm3f.obj id hB13;try simp only[nmz]
 refine qM rfl (fun w' hS=>qO 68 [(0,_),(1,_),(2,_)] [(0,.int .i64 31),(1,.slice (some ⟨wd.heap.size,0,none⟩) 2 2),(2,.slice (some ⟨we.heap.size,0,none⟩) 4 4)] _ (by rfl) (by rfl) (built_house 31 _ _ 2 2 4 4)) ?_
 simp only[nmz];refine wpDo rfl ?_
 refine qH 24 _ _ b0 0 (qA idA) (by rfl) (by rfl) (by rfl) (qT _) 32 (by kernel_rfl) hA _ _ hX1 (by rw[hA,hz32];omega) (fun wg hBg hmg=>?_)
 rw[qF (by rw[hA,hz32])]at hBg;have hX2:=hmg.objB (b:=b1) (by omega) (hm3f.obj id hB23);have hX3:=hmg.objB (b:=b2) (by omega) (hm3f.obj id hB3)
 try simp only[nmz]
 refine wpDo rfl ?_
 refine qH 24 _ _ b1 0 (qA idB) (by rfl) (by rfl) (by rfl) (qT _) 32 (by kernel_rfl) hB _ _ hX2 (by rw[hB,hz32];omega) (fun wh hBh hmh=>?_)
 rw[qF (by rw[hB,hz32])]at hBh;have hY1:=hmh.objB (b:=b0) (by omega) hBg;have hY3:=hmh.objB (b:=b2) (by omega) hX3;try simp only[nmz]
 refine wpDo rfl ?_
 refine qH 68 _ _ b2 0 #[.int .i64 31,.slice (some ⟨wd.heap.size,0,none⟩) 2 2,.slice (some ⟨we.heap.size,0,none⟩) 4 4] (by rfl) (by rfl) (by rfl) (by intro c hc;simp at hc;rcases hc with rfl|rfl|rfl<;>rfl) 3 (by kernel_rfl) rfl _ _ hY3 (by simp) (fun wi hBi hmi=>?_)
 rw[qF (by simp)]at hBi;have hZ1:=hmi.objB (b:=b0) (by omega) hY1;have hZ2:=hmi.objB (b:=b1) (by omega) hBh;simp only[stz]
 have hb23:b2<w3.heap.size:=(Array.getElem?_eq_some_iff.1 hB3).1
 have keep:∀k o,w3.heap.size<=k->wf.heap[k]?=some o->wi.heap[k]?=some o:=fun k o hk ho=>
  hmi.obj (fun e=>by have e:k=b2:=e;omega) (hmh.obj (fun e=>by have e:k=b1:=e;omega) (hmg.obj (fun e=>by have e:k=b0:=e;omega) ho))
 have hM:Mod NoB w wi:=(((hm03.trans0 hm3f).transB hmg (by omega)).transB hmh (by omega)).transB hmi (by omega);have s9:=hm39.size;have sb:=hm9b.size;have sd:=hmbd.size
 have se:=hme.size;have kb:=keep _ _ (by omega) ((hmbd.trans0 (hme.trans0 hmf)).obj id hBb);have kd:=keep _ _ (by omega) ((hme.trans0 hmf).obj id hBd)
 have ke:=keep _ _ (by omega) (hmf.obj id hBe);have kf:=keep _ _ (by omega) hBf
 have hl:LsAt wi (.slice (some ⟨wd.heap.size,0,none⟩) 2 2) [[65],[66,33]]:=by
  refine⟨_,_,rfl,Nat.le_refl _,by unfold maxLen;omega,fun _=>⟨wd.heap.size,0,rfl,trivial,fun e=>(by cases e),fun i hi=>?_⟩⟩
  match i,hi with
  |0,_=>exact⟨#[.slice (some ⟨w9.heap.size,0,none⟩) 1 1],rfl,⟨_,rfl,sl_bytes kb rfl (by simp)⟩,cells_nth ke _ _ rfl⟩
  |1,_=>exact⟨#[.slice (some ⟨wb.heap.size,0,none⟩) 2 2],rfl,⟨_,rfl,sl_bytes kd rfl (by simp)⟩,cells_nth ke _ _ rfl⟩
 have hk4:Sl false wi AnyB 1 IntC (.slice (some ⟨we.heap.size,0,none⟩) 4 4) [0,0,0,1]:=by
  refine⟨_,_,rfl,Nat.le_refl _,by unfold maxLen;omega,fun _=>⟨we.heap.size,0,rfl,trivial,fun e=>(by cases e),fun i hi=>?_⟩⟩
  match i,hi with
  |0,_=>exact⟨_,rfl,rfl,cells_nth kf _ _ rfl⟩
  |1,_=>exact⟨_,rfl,rfl,cells_nth kf _ _ rfl⟩
  |2,_=>exact⟨_,rfl,rfl,cells_nth kf _ _ rfl⟩
  |3,_=>exact⟨_,rfl,rfl,cells_nth kf _ _ rfl⟩
 have HF:Hid (TwoR w (.returned (.tuple #[.agg (qA idA),.agg (qA idB),.agg #[.int .i64 31,.slice (some ⟨wd.heap.size,0,none⟩) 2 2,.slice (some ⟨we.heap.size,0,none⟩) 4 4]])) wi):=hid ⟨hM,_,_,rfl,hl,hk4⟩
 clear hM hl hk4 kb kd ke kf keep hm3f hm39 hm9b hmbd hme hmf hma hmb hmc hmd hmg hmh hmi hBa hBb hBc hBd hBe hBf hBg hBh hX1 hX2 hX3 hY1 hY3 hm03;go_wp2
 refine bodyPost_ret (results_row3 (P:=prog) (ty:=24) (tz:=24) (tx:=68) rfl _ _ b0 b1 b2 _ _ _ _ _ _ _ _ _ _ _ _ (by rfl) hZ1 (by rfl) hZ2 (by rfl) hBi underlying24 rfl (by rw[hA];kernel_rfl) underlying24 rfl (by rw[hB];kernel_rfl) underlying68 rfl (by kernel_rfl)) rfl ?_
 exact HF.out
end
section
open Go.RowKit Go.Proofs.Tryz Go.Lib
theorem yS:idA.length=32:=shaL_len _
theorem idB_len:idB.length=32:=shaL_len _
theorem idA_ne_idB:idA≠idB:=by decide+kernel
theorem idB_ne_idA:idB≠idA:=fun e=>idA_ne_idB e.symm
theorem wid31:widZ 31=32:=by decide
theorem decA:decL [65]=none:=by decide+kernel
attribute [local irreducible] shaL ofI
def cAB:BlobL:=[(idA,[65]),(idB,[66,33])]
def rA:ByteArray:=⟨#[97]⟩
def lAB:LinkL:=[((rA,idA),1),((rA,idB),2)]
theorem cOf_AB:cOf 32 [[65],[66,33]]=cAB:=by
 have h1:putB idA [65] []=[(idA,[65])]:=rfl
 have h2:putB idB [66,33] [(idA,[65])]=cAB:=by
  unfold putB;rw[if_neg (by simp[getL,idB_ne_idA,idA_ne_idB])]
  rfl
 have h3:ofI 32 [65]=idA:=ofI_whole _;have h4:ofI 32 [66,33]=idB:=ofI_whole _;unfold cOf;rw[List.foldl_cons,List.foldl_cons,List.foldl_nil,h3,h4,h1,h2]
theorem nameB_a:nameB rA=true:=by decide+kernel
theorem addL_ok(l:LinkL)(k:Key)(size:Int)(hn:nameB k.1=true)(h0:0<=size)(h1:size<=4096)(hg:getL k l=none)(hl:l.length<65536):addL false 1099511627776 l k size=l++[(k,size)]:=by
 have h:(addE false 1099511627776 l k size).1=true:=by
  unfold addE;rw[if_pos hn,if_neg (by omega),hg]
  simp[holdB,Nat.not_le.2 hl]
 unfold addL;rw[if_pos h]
theorem lOf_AB:lOf 32 [[65],[66,33]] [0,0,0,1] (laysN [[65],[66,33]] [0,0,0,1])=lAB:=by
 have h0:laysN [[65],[66,33]] [0,0,0,1]=2:=rfl;have hr:repoZ 0=rA:=rfl
 have e1:layZ 32 [[65],[66,33]] [] 0 0=[((rA,idA),1)]:=by
  have h:=addL_ok [] (rA,idA) 1 nameB_a (by omega) (by omega) rfl (by simp);have h3:ofI 32 [65]=idA:=ofI_whole _
  show addL false 1099511627776 [] (repoZ 0,ofI 32 [65]) (([65]:List UInt8).length:Nat)=_
  rw[h3,hr];exact h
 have e2:layZ 32 [[65],[66,33]] [((rA,idA),1)] 0 1=lAB:=by
  have h:=addL_ok [((rA,idA),1)] (rA,idB) 2 nameB_a (by omega) (by omega) (by simp[getL,idB_ne_idA,idA_ne_idB]) (by simp);have h3:ofI 32 [66,33]=idB:=ofI_whole _
  show addL false 1099511627776 [((rA,idA),1)] (repoZ 0,ofI 32 [66,33]) (([66,33]:List UInt8).length:Nat)=_
  rw[h3,hr];exact h
 rw[h0]
 show layZ 32 [[65],[66,33]] (layZ 32 [[65],[66,33]] [] 0 0) 0 1=lAB
 rw[e1,e2]
theorem getAB1:getL idA cAB=some [65]:=by simp[cAB,getL]
theorem inR_A(x:List UInt8):inR cAB 5 idA 1 x↔x=idA:=by
 have hd:yW cAB idA=none:=by unfold yW;rw[getAB1];simp[decA]
 constructor
 ·rintro(h|⟨_,ds,hds,_⟩)
  ·exact h
  ·rw[hd]at hds;cases hds
 ·intro h;exact .inl h
theorem sorted_ext{l m:List (List UInt8)}(hl:l.Pairwise (fun a b=>a<b))(hm:m.Pairwise (fun a b=>a<b))(h:∀x,x∈l↔x∈m):l=m:=by
 have hp:l.Perm m:=(List.perm_ext_iff_of_nodup (lt_nodup hl) (lt_nodup hm)).2 h;exact hp.eq_of_pairwise (fun a b _ _ h1 h2=>absurd (ltB_trans h1 h2) (List.lt_irrefl _)) hl hm
theorem marks_A{out:List (List UInt8)}(h:MarkedOf cAB [idA] [] out):out=[idA]:=by
 refine sorted_ext h.1 (List.pairwise_singleton _ _) fun x=>?_;rw[h.2 x]
 simp[refsL,inR_A]
theorem roots_A{out:List (List UInt8)}(h:SetOf [idA] out):out=[idA]:=sorted_ext h.1 (List.pairwise_singleton _ _) h.2
theorem gone_A{ids:List (List UInt8)}(h:IDsC cAB ids):goneL ids [idA]=[idB]:=by
 have hp:(goneL ids [idA]).Pairwise (fun a b=>a<b):=h.1.sublist List.filter_sublist;refine sorted_ext hp (List.pairwise_singleton _ _) fun x=>?_;unfold goneL
 rw[List.mem_filter,h.2.mem_iff];simp only[cAB,List.map_cons,List.map_nil,List.mem_cons,List.not_mem_nil,or_false,Bool.not_eq_true',decide_eq_false_iff_not]
 constructor
 ·rintro⟨rfl|rfl,h2⟩
  ·exact absurd rfl h2
  ·rfl
 ·rintro rfl
  exact⟨.inr rfl,fun e=>idA_ne_idB e.symm⟩
theorem run_A:swRun [idB] cAB lAB=([(idA,[65])],[((rA,idA),1)],2,1):=by
 have hne:=idA_ne_idB;have hn2:idB≠idA:=fun e=>hne e.symm
 simp[swRun,yY,cAB,lAB,delL,getL,forgetL,yU,hne,hn2]
end
section
open Go.RowKit Go.Proofs.Tryz Go.Lib
theorem forgetN_forgetL{l:LinkL}{x y:List UInt8}(h:x≠y):yU (forgetL l y) x=yU l x:=by
 unfold yU forgetL;rw[List.filter_filter]
 congr 1
 refine List.filter_congr fun p _=>?_
 by_cases hp:p.1.2=x
 ·simp[hp,h]
 ·simp[hp]
theorem run_sums(xs:List (List UInt8)):∀s:SwS,xs.Nodup->(s.1.map (·.1)).Nodup->
 (xs.foldl yY s).2.2.1=s.2.2.1+(xs.map fun x=>((getL x s.1).getD []).length).sum/\(xs.foldl yY s).2.2.2=s.2.2.2+(xs.map (yU s.2.1)).sum:=by
 induction xs with
 |nil=>intro s _ _;simp
 |cons y xs ih=>
  intro s hn hc;obtain⟨hy,hn⟩:=List.nodup_cons.1 hn;obtain⟨h1,h2⟩:=ih (yY s y) hn (nodup_del hc)
  have e1:(xs.map fun x=>((getL x (yY s y).1).getD []).length)=xs.map fun x=>((getL x s.1).getD []).length:=by
   refine List.map_congr_left fun x hx=>?_
   show((getL x (delL y s.1)).getD []).length=_
   rw[getL_del _ _ _ hc,if_neg (fun e:x=y=>hy (by rw[<-e];exact hx))]
  have e2:xs.map (yU (yY s y).2.1)=xs.map (yU s.2.1):=by
   refine List.map_congr_left fun x hx=>?_;exact forgetN_forgetL (fun e:x=y=>hy (by rw[<-e];exact hx))
  rw[List.foldl_cons,h1,h2,e1,e2,List.map_cons,List.sum_cons,List.map_cons,List.sum_cons]
  constructor
  ·show s.2.2.1+((getL y s.1).getD []).length+_=_
   omega
  ·show s.2.2.2+yU s.2.1 y+_=_
   omega
theorem ids_nodup{c:BlobL}{ids:List (List UInt8)}(h:IDsC c ids):ids.Nodup/\(c.map (·.1)).Nodup:=by
 have h1:=lt_nodup h.1;exact⟨h1,h.2.nodup_iff.1 h1⟩
theorem descsOf_same{c c':BlobM}{id:List UInt8}(h:getL id c=getL id c'):yW c id=yW c' id:=by unfold yW;rw[h]
theorem inR_same{c c':BlobM}:∀(f:Nat)(id:List UInt8)(depth:Nat)(x:List UInt8),(∀y,inR c f id depth y->getL y c=getL y c')->(inR c f id depth x↔inR c' f id depth x)
 |0,_,_,_,_=>Iff.rfl
 |f+1,id,depth,x,h=>by
  have hd:=descsOf_same (h id (.inl rfl))
  have ih:depth<=4->∀ds,yW c id=some ds->∀d∈ds,yP d=true->(inR c f d.id (depth+1) x↔inR c' f d.id (depth+1) x):=fun h4 ds hds d hm ht=>
   inR_same f d.id (depth+1) x fun y hy=>h y (.inr ⟨h4,ds,hds,d,hm,by rw[if_pos ht];exact hy⟩)
  unfold inR;rw[<-hd]
  constructor
  ·rintro(h1|⟨h4,ds,hds,d,hm,hx⟩)
   ·exact .inl h1
   ·refine .inr ⟨h4,ds,hds,d,hm,?_⟩
    split at hx
    ·rename_i ht
     rw[if_pos ht];exact(ih h4 ds hds d hm ht).1 hx
    ·rename_i ht
     rw[if_neg ht];exact hx
  ·rintro(h1|⟨h4,ds,hds,d,hm,hx⟩)
   ·exact .inl h1
   ·refine .inr ⟨h4,ds,hds,d,hm,?_⟩
    split at hx
    ·rename_i ht
     rw[if_pos ht];exact(ih h4 ds hds d hm ht).2 hx
    ·rename_i ht
     rw[if_neg ht];exact hx
theorem walkDs_same{g g':DescL->List Thg×Option WErr}:∀{ds:List DescL},(∀d∈ds,g d=g' d)->yN g ds=yN g' ds
 | [],_=>rfl
 |d::ds,h=>by rw[yN,yN,h d (by simp),walkDs_same fun d hd=>h d (by simp[hd])]
theorem walk_same{c c':BlobM}:∀(f:Nat)(t:Thg),(∀y,(if treeT t=true then inR c f t.d.id t.depth y else y=t.d.id)->getL y c=getL y c')->walkL c f t=walkL c' f t
 |0,_,_=>rfl
 |f+1,t,h=>by
  have hid:getL t.d.id c=getL t.d.id c':=h _ (by split;exact .inl rfl;rfl);unfold walkL;rw[<-hid]
  cases hg:getL t.d.id c with
  |none=>rfl
  |some b=>
   dsimp only
   by_cases h1:(t.first||decide (b.length=t.d.size))=false
   ·rw[if_pos h1,if_pos h1]
   rw[if_neg h1,if_neg h1]
   by_cases h2:treeT t=false
   ·rw[if_pos h2,if_pos h2]
   rw[if_neg h2,if_neg h2]
   by_cases h3:4<t.depth
   ·rw[if_pos h3,if_pos h3]
   rw[if_neg h3,if_neg h3]
   cases hd:decL b with
   |none=>rfl
   |some m=>
    dsimp only
    have ht:treeT t=true:=by simpa using h2
    have he:yN (fun d=>walkL c f ⟨d,t.depth+1,false⟩) (xX m)=yN (fun d=>walkL c' f ⟨d,t.depth+1,false⟩) (xX m):=walkDs_same fun d hm=>walk_same f _ fun y hy=>h y (by
     rw[if_pos ht];refine .inr ⟨by omega,xX m,by unfold yW;rw[hg];show(decL b).map xX=_;rw[hd];rfl,d,hm,?_⟩
     have e:treeT ⟨d,t.depth+1,false⟩=yP d:=rfl;rw[e]at hy
     exact hy)
    rw[he]
theorem walkOut_same{c c':BlobM}{id:List UInt8}(h:∀y,inR c 5 id 1 y->getL y c=getL y c'){ids ids':List (List UInt8)}{bad bad':List UInt8}{n n':Int}(h1:WalkOut c id ids bad n)(h2:WalkOut c' id ids' bad' n'):ids=ids'/\bad=bad'/\n=n':=by
 have e:=walk_same (c:=c) (c':=c') 5 (thgI id) fun y hy=>h y hy;unfold WalkOut at h1 h2;rw[<-e]at h2
 cases hx:(walkL c 5 (thgI id)).2 with
 |some e=>
  rw[hx]at h1 h2;obtain⟨rfl,rfl,rfl⟩:=h1;obtain⟨rfl,rfl,rfl⟩:=h2;exact⟨rfl,rfl,rfl⟩
 |none=>
  rw[hx]at h1 h2
  dsimp only at h1 h2
  split at h1
  ·rename_i hg
   rw[if_pos hg]at h2;obtain⟨rfl,rfl,rfl⟩:=h1;obtain⟨rfl,rfl,rfl⟩:=h2;exact⟨rfl,rfl,rfl⟩
  ·rename_i hg
   rw[if_neg hg]at h2;obtain⟨⟨a1,a2⟩,rfl,rfl⟩:=h1;obtain⟨⟨b1,b2⟩,rfl,rfl⟩:=h2;exact⟨sorted_ext a1 b1 fun x=>by rw[a2.mem_iff,b2.mem_iff],rfl,rfl⟩
theorem run_left(xs:List (List UInt8)):∀s:SwS,(s.1.map (·.1)).Nodup->((xs.foldl yY s).1.map (·.1)).Nodup/\(∀x,getL x (xs.foldl yY s).1=if x∈xs then none else getL x s.1)/\(xs.foldl yY s).2.1=s.2.1.filter (fun p=> !decide (p.1.2∈xs)):=by
 induction xs with
 |nil=>
  intro s h;exact⟨h,fun x=>by simp,(List.filter_eq_self.2 (by simp)).symm⟩
 |cons y xs ih=>
  intro s h;obtain⟨h1,h2,h3⟩:=ih (yY s y) (nodup_del h);refine⟨h1,fun x=>?_,?_⟩
  ·rw[List.foldl_cons,h2 x]
   have e:getL x (yY s y).1=if x=y then none else getL x s.1:=getL_del _ _ _ h
   rw[e]
   by_cases hx:x∈xs
   ·rw[if_pos hx,if_pos (by simp[hx])]
   ·rw[if_neg hx]
    by_cases hy:x=y
    ·rw[if_pos hy,if_pos (by simp[hy])]
    ·rw[if_neg hy,if_neg (by simp[hx,hy])]
  ·rw[List.foldl_cons,h3]
   show(forgetL s.2.1 y).filter _=_
   unfold forgetL;rw[List.filter_filter];refine List.filter_congr fun p _=>?_
   by_cases hp:p.1.2=y
   ·simp[hp]
   ·simp[hp]
theorem del_len{x:List UInt8}:∀{c:BlobL},(getL x c).isSome=true->(delL x c).length+1=c.length
 | [],h=>by simp[getL]at h
 |p::c,h=>by
  unfold delL
  by_cases e:x=p.1
  ·rw[if_pos e];rfl
  ·rw[if_neg e,List.length_cons,List.length_cons,del_len (c:=c) (by rw[getL,if_neg e]at h;exact h)]
theorem run_lens(xs:List (List UInt8)):∀s:SwS,xs.Nodup->(s.1.map (·.1)).Nodup->(∀x∈xs,(getL x s.1).isSome=true)->(xs.foldl yY s).1.length+xs.length=s.1.length/\usedL (xs.foldl yY s).1+(xs.foldl yY s).2.2.1=usedL s.1+s.2.2.1:=by
 induction xs with
 |nil=>intro s _ _ _;exact⟨rfl,rfl⟩
 |cons y xs ih=>
  intro s hn hc hs;obtain⟨hy,hn⟩:=List.nodup_cons.1 hn;have hys:=hs y (by simp);obtain⟨m,hm⟩:=Option.isSome_iff_exists.1 hys
  obtain⟨h1,h2⟩:=ih (yY s y) hn (nodup_del hc) fun x hx=>by
   show(getL x (delL y s.1)).isSome=true
   rw[getL_del _ _ _ hc,if_neg (fun e:x=y=>hy (by rw[<-e];exact hx))];exact hs x (by simp[hx])
  have e1:(yY s y).1.length+1=s.1.length:=del_len hys;have e2:usedL (yY s y).1+m.length=usedL s.1:=usedL_del hm
  have e3:(yY s y).2.2.1=s.2.2.1+m.length:=by show s.2.2.1+((getL y s.1).getD []).length=_;rw[hm];rfl
  rw[List.foldl_cons,List.length_cons];omega
theorem gone_some{c:BlobL}{ids marks:List (List UInt8)}(h:IDsC c ids):∀x∈goneL ids marks,(getL x c).isSome=true:=fun x hx=>by
 have h1:=(h.2.mem_iff).1 (List.mem_filter.1 hx).1
 cases hg:getL x c with
 |none=>exact absurd h1 (getL_none.1 hg)
 |some b=>rfl
structure LeftOf(c:BlobL)(l:LinkL)(marks gone:List (List UInt8))(s:SwS):Prop where
 nd:(s.1.map (·.1)).Nodup
 get:∀x,getL x s.1=if x∈gone then none else getL x c
 lk:s.2.1=l.filter (fun p=> !decide (p.1.2∈gone))
 len:s.1.length+gone.length=c.length
 used:usedL s.1+s.2.2.1=usedL c
 sum:s.2.2.2=(gone.map (yU l)).sum
 gnd:gone.Nodup
 mem:∀x,x∈gone↔(getL x c).isSome=true/\x∉marks
theorem left_of{c:BlobL}{l:LinkL}{ids marks:List (List UInt8)}(h:IDsC c ids):LeftOf c l marks (goneL ids marks) (swRun (goneL ids marks) c l):=by
 obtain⟨hn,hc⟩:=ids_nodup h;have hgn:(goneL ids marks).Nodup:=hn.sublist List.filter_sublist;obtain⟨h1,h2,h3⟩:=run_left (goneL ids marks) (c,l,0,0) hc
 obtain⟨h4,h5⟩:=run_lens (goneL ids marks) (c,l,0,0) hgn hc (gone_some h);have h6:=(run_sums (goneL ids marks) (c,l,0,0) hgn hc).2
 refine⟨h1,h2,h3,h4,by unfold swRun;simpa using h5,by unfold swRun;simpa using h6,hgn,fun x=>?_⟩;unfold goneL;rw[List.mem_filter,h.2.mem_iff]
 simp only[Bool.not_eq_true',decide_eq_false_iff_not];refine and_congr_left fun _=>?_
 cases hg:getL x c with
 |none=>exact⟨fun hm=>absurd hm (getL_none.1 hg),fun h=>by cases h⟩
 |some b=>exact⟨fun _=>rfl,fun _=>List.mem_map.2 ⟨_,jK hg,rfl⟩⟩
section
variable{c:BlobL}{l:LinkL}{marks gone:List (List UInt8)}{s:SwS}(H:LeftOf c l marks gone s)
include H
theorem LeftOf.same{x:List UInt8}(hx:x∈marks):getL x c=getL x s.1:=by
 rw[H.get,if_neg fun hg=>((H.mem x).1 hg).2 hx]
theorem LeftOf.walk{roots:List (List UInt8)}{evs:List Evt}(hM:MarkedOf c roots evs marks){id:List UInt8}(hr:id∈roots){ids ids':List (List UInt8)}{bad bad':List UInt8}{n n':Int}(h1:WalkOut c id ids bad n)(h2:WalkOut s.1 id ids' bad' n'):ids=ids'/\bad=bad'/\n=n':=
 walkOut_same (fun y hy=>H.same ((hM.2 y).2 (.inl ⟨id,hr,hy⟩))) h1 h2
theorem LeftOf.outs{roots:List (List UInt8)}{evs:List Evt}(hM:MarkedOf c roots evs marks){out:List (List UInt8)}(h2:MarkedOf s.1 roots evs out):out=marks:=
 sorted_ext h2.1 hM.1 fun x=>by
  rw[h2.2,hM.2];refine or_congr_left (exists_congr fun r=>and_congr_right fun hr=>?_);exact(inR_same 5 r 1 x fun y hy=>H.same ((hM.2 y).2 (.inl ⟨r,hr,hy⟩))).symm
theorem LeftOf.again{ids:List (List UInt8)}(h:IDsC s.1 ids):goneL ids marks=[]:=by
 unfold goneL;rw[List.filter_eq_nil_iff];intro x hx;have h1:=(h.2.mem_iff).1 hx
 have h2:(getL x s.1).isSome=true:=by
  cases hg:getL x s.1 with
  |none=>exact absurd h1 (getL_none.1 hg)
  |some b=>rfl
 rw[H.get]at h2
 by_cases hg:x∈gone
 ·rw[if_pos hg]at h2;cases h2
 ·rw[if_neg hg]at h2
  have:x∈marks:=Decidable.byContradiction fun hn=>hg ((H.mem x).2 ⟨h2,hn⟩)
  simp[this]
end
theorem filter_or{α:Type}(p q:α->Bool):∀(l:List α),(∀x∈l,p x=true->q x=true->False)->(l.filter fun x=>p x||q x).length=(l.filter p).length+(l.filter q).length
 | [],_=>rfl
 |x::l,h=>by
  have ih:=filter_or p q l fun y hy=>h y (by simp[hy]);have hx:=h x (by simp);rw[List.filter_cons,List.filter_cons,List.filter_cons]
  cases hp:p x<;>cases hq:q x
  ·simpa using ih
  ·simp[ih];omega
  ·simp[ih];omega
  ·exact(hx hp hq).elim
theorem forget_sum(l:LinkL):∀(xs:List (List UInt8)),xs.Nodup->(xs.map (yU l)).sum=(l.filter fun p=>decide (p.1.2∈xs)).length
 | [],_=>by rw[List.filter_eq_nil_iff.2 (by simp)];rfl
 |x::xs,h=>by
  obtain⟨h1,h2⟩:=List.nodup_cons.1 h;rw[List.map_cons,List.sum_cons,forget_sum l xs h2];unfold yU
  rw[<-filter_or _ _ l fun p _ hp hq=>h1 (by
   have hp:p.1.2=x:=by simpa using hp
   rw[<-hp];simpa using hq)]
  congr 1
  refine List.filter_congr fun p _=>?_
  simp
def cntR(gone ids:List (List UInt8)):Nat:=(ids.filter fun x=>decide (x∈gone)).length
def cntL(l:LinkL)(gone:List (List UInt8))(r:ByteArray):Nat:=(l.filter fun p=>decide (p.1.1=r)&&decide (p.1.2∈gone)).length
theorem cnt_one{l:LinkL}(hnd:(l.map (·.1)).Nodup){r:ByteArray}{ids:List (List UInt8)}(h:IDsOf l r ids)(gone:List (List UInt8)):cntR gone ids=cntL l gone r:=by
 have hp:((ids.filter fun x=>decide (x∈gone)).map fun x=>(r,x)).Perm ((l.filter fun p=>decide (p.1.1=r)&&decide (p.1.2∈gone)).map (·.1)):=by
  refine(List.perm_ext_iff_of_nodup ?_ ?_).2 fun k=>?_
  ·exact List.pairwise_map.2 (((lt_nodup h.1).sublist List.filter_sublist).imp fun hne e=>hne (by cases e;rfl))
  ·exact hnd.sublist (List.filter_sublist.map _)
  ·simp only[List.mem_map,List.mem_filter,Bool.and_eq_true,decide_eq_true_eq]
   constructor
   ·rintro⟨x,⟨hx,hg⟩,rfl⟩
    obtain⟨p,hp,e⟩:=List.mem_map.1 ((h.2 x).1 hx);exact⟨p,⟨hp,by rw[e],by rw[e];exact hg⟩,e⟩
   ·rintro⟨p,⟨hp,e1,e2⟩,rfl⟩
    refine⟨p.1.2,⟨(h.2 _).2 (List.mem_map.2 ⟨p,hp,by rw[<-e1]⟩),e2⟩,by rw[<-e1]⟩
 have:=hp.length_eq
 simpa[cntR,cntL]using this
theorem cnt_all{l:LinkL}{r0 r1 r2:ByteArray}(h01:r0≠r1)(h02:r0≠r2)(h12:r1≠r2)(hl:∀p∈l,p.1.1=r0\/p.1.1=r1\/p.1.1=r2){gone:List (List UInt8)}(hg:gone.Nodup):cntL l gone r0+cntL l gone r1+cntL l gone r2=(gone.map (yU l)).sum:=by
 rw[forget_sum l gone hg];unfold cntL;rw[<-filter_or _ _ l,<-filter_or _ _ l]
 ·congr 1
  refine List.filter_congr fun p hp=>?_
  by_cases hgp:p.1.2∈gone
  ·rcases hl p hp with e|e|e<;>simp[e,hgp]
  ·simp[hgp]
 ·intro p _ h1 h2
  simp only[Bool.or_eq_true,Bool.and_eq_true,decide_eq_true_eq]at h1 h2
  rcases h1 with h1|h1
  ·exact h02 (h1.1.symm.trans h2.1)
  ·exact h12 (h1.1.symm.trans h2.1)
 ·intro p _ h1 h2
  simp only[Bool.and_eq_true,decide_eq_true_eq]at h1 h2;exact h01 (h1.1.symm.trans h2.1)
theorem repoZ_of(n:Int):repoZ n=repoZ 0\/repoZ n=repoZ 1\/repoZ n=repoZ 2:=by
 have h:=pickZ_lt n 3 (by omega);have h3:pickZ n 3=0\/pickZ n 3=1\/pickZ n 3=2:=by omega
 rcases h3 with e|e|e
 ·exact .inl (by unfold repoZ;rw[e];rfl)
 ·exact .inr (.inl (by unfold repoZ;rw[e];rfl))
 ·exact .inr (.inr (by unfold repoZ;rw[e];rfl))
theorem repoZ_ne:repoZ 0≠repoZ 1/\repoZ 0≠repoZ 2/\repoZ 1≠repoZ 2:=by decide+kernel
theorem lOf_repo(wd:Nat)(L:List (List UInt8))(K:List Int):∀(j:Nat),∀p∈lOf wd L K j,p.1.1=repoZ 0\/p.1.1=repoZ 1\/p.1.1=repoZ 2
 |0,p,h=>by simp[lOf]at h
 |j+1,p,h=>by
  rw[lOf_snoc]at h;unfold layZ addL at h
  dsimp only at h
  split at h
  ·rcases List.mem_append.1 h with h|h
   ·exact lOf_repo wd L K j p h
   ·rw[List.mem_singleton.1 h];exact repoZ_of _
  ·exact lOf_repo wd L K j p h
theorem LeftOf.has{c:BlobL}{l:LinkL}{marks gone:List (List UInt8)}{s:SwS}(H:LeftOf c l marks gone s){r:ByteArray}{ids:List (List UInt8)}(h:IDsOf l r ids){x:List UInt8}(hx:x∈ids):(getL (r,x) s.2.1).isSome= !decide (x∈gone):=by
 have hk:=(h.2 x).1 hx;rw[H.lk]
 by_cases hg:x∈gone
 ·have:getL (r,x) (l.filter fun p=> !decide (p.1.2∈gone))=none:=getL_none.2 fun hm=>by
   obtain⟨p,hp,e⟩:=List.mem_map.1 hm;have:=(List.mem_filter.1 hp).2;rw[e]at this
   simp[hg]at this
  rw[this];simp[hg]
 ·cases hq:getL (r,x) (l.filter fun p=> !decide (p.1.2∈gone))with
  |none=>
   obtain⟨p,hp,e⟩:=List.mem_map.1 hk;exact absurd (List.mem_map.2 ⟨p,List.mem_filter.2 ⟨hp,by rw[e];simp[hg]⟩,e⟩) (getL_none.1 hq)
  |some v=>simp[hg]
section
variable{w:World}{h:House}{c:BlobL}{l:LinkL}{Ft:Nat->Prop}(H:HsAt w h c l Ft)
include H
theorem hsLnd:(l.map (·.1)).Nodup:=by
 obtain⟨bl,F,h1,rfl,h3,_⟩:=H;exact h3.facts.2.1
theorem hsGet(di:List UInt8)(hd:di.length=32):Calls prog 33 #[.pointer (some ⟨h.bs,0,none⟩),.agg (qA di)] w (GetR w (getL di c)):=by
 obtain⟨bl,F,h1,rfl,_⟩:=H;exact bGet_any h1 di hd
theorem hsUsed:Calls prog 75 #[.pointer (some ⟨h.bs,0,none⟩)] w (RetE (.int .i64 (usedL c:Nat)) w):=by
 obtain⟨bl,F,h1,rfl,_⟩:=H;exact bUsed_any h1
theorem hsUsedLe:usedL c<=40960000:=by
 obtain⟨bl,F,h1,rfl,_⟩:=H;exact h1.used
theorem hsWalk(di:List UInt8)(hd:di.length=32)(hc:c.length<=1000):Calls prog 20 #[.pointer (some ⟨h.bs,0,none⟩),.agg (qA di)] w (WalkR w c di):=by
 obtain⟨bl,F,h1,rfl,_⟩:=H;exact clWalk_any h1 di hd hc
theorem hsLids(r:ByteArray):Calls prog 71 #[h.q,.string r] w (RetN w fun v w'=>∃ids,IDsOf l r ids/\(∀x∈ids,x.length=32)/\Sl true w' (New w w') 32 IdC v ids):=by
 obtain⟨bl,F,h1,rfl,h3,_⟩:=H;obtain⟨_,⟨b,ml,mu,hold,us,e,hi,hF⟩,_,_⟩:=id h3;rw[e];exact ids_any hi r
theorem hsLidsQ{v:Value}(hq:h.q=v)(r:ByteArray):Calls prog 71 #[v,.string r] w (RetN w fun v w'=>∃ids,IDsOf l r ids/\(∀x∈ids,x.length=32)/\Sl true w' (New w w') 32 IdC v ids):=by
 rw[<-hq];exact hsLids H r
theorem hsLhas(k:Key)(hk:KeyOk k):Calls prog 76 #[h.q,.string k.1,.agg (qA k.2)] w (RetM (.bool (getL k l).isSome) w):=by
 obtain⟨bl,F,h1,rfl,h3,_⟩:=H;exact has_at h3 k hk
theorem hsLhasQ{v:Value}(hq:h.q=v)(r:ByteArray)(x:List UInt8)(hx:x.length=32){b:Bool}(hb:(getL (r,x) l).isSome=b):Calls prog 76 #[v,.string r,.agg (qA x)] w (RetM (.bool b) w):=by
 rw[<-hq,<-hb];exact hsLhas H (r,x) hx
end
end
section
open Go.RowKit Go.Shelf Go.Proofs.Tryz Go.Lib
theorem zG{P:Program}{o:Oper}{a:Act}{w:World}{K:Act->World->Prop}{Q:Exit->Act->World->Prop}(t e:TypeId)(x:Operand)(v:Value)(z:Value)(n:Nat)(ho:o.op=.buildSlice t 1 #[(0,x)])(hx:a.eval x=v)(hu:P.underlying t=some (.slice e))
 (hi:(P.info? e).map (fun i=>(i.zero,i.size))=some (some z,n))(hn:0<n)(hn':n<=16777216)(hv:v.cells.size=n)
 (h:∀b w',w'.heap[b]?=some (.cells v.cells e (0,0))->Mod NoB w w'->K (a.put o.dst (.slice (some ⟨b,0,none⟩) 1 1)) w'):o.wp P a w K Q:=
 qY t e x v z n ho hx hu hi hn hn' hv fun w' h1 h2 _=>h _ w' h1 h2
theorem built_swept(ad:Option Addr)(k c:Nat)(x y:Int):prog.built 104 [(0,.slice ad k c),(1,.int .i64 x),(2,.int .i64 y)]=some #[.slice ad k c,.int .i64 x,.int .i64 y]:=by
 have p:xT prog 104=some [(0,1),(1,1),(2,1)]:=by kernel_rfl
 rw[zS sweptZ p,zK (off:=0) (size:=1) rfl (by rfl) (by simp),zK (off:=1) (size:=1) rfl (by rfl) (by simp[zF,Value.cells]),zK (off:=2) (size:=1) rfl (by rfl) (by simp[zF,Value.cells]),xU]
 rfl
theorem id_zs:(prog.info? 24).map (fun i=>(i.zero,i.size))=some (some (.agg (qA (List.replicate 32 0))),32):=by kernel_rfl
theorem awake_any(w:World):Calls prog 42 #[] w (RetM (.bool true) w):=by
 have hA:(qA idA).size=32:=by rw[qD,yS]
 have hB:(qA idB).size=32:=by rw[qD,idB_len]
 have hz32:(qA (List.replicate 32 0)).size=32:=idZ_size;go_enter func42,ntmps42;go_upto_region 1 with(fail)
 refine wpR [1,3,3,3,3,1,1,1,1,1,1] (by rfl) (by rfl) ?_;simp only[stz];refine wpDo rfl ?_
 refine qB (qC 55 [] _ rfl _ func55 rfl (by kernel_rfl) [] rfl _) (two_any _) ?_;rintro e w1 ⟨hm1,lv,kv,he1,hl1,hk1⟩;subst he1;refine⟨_,rfl,?_⟩;simp only[stz]
 refine qE rfl (fun w'=>qL _ 0 #[.agg (qA idA),.agg (qA idB),.agg #[.int .i64 31,lv,kv]] rfl rfl (.agg (qA idA)) rfl) ?_;simp only[nmz]
 refine qE rfl (fun w'=>qL _ 1 #[.agg (qA idA),.agg (qA idB),.agg #[.int .i64 31,lv,kv]] rfl rfl (.agg (qA idB)) rfl) ?_;simp only[nmz]
 refine qE rfl (fun w'=>qL _ 2 #[.agg (qA idA),.agg (qA idB),.agg #[.int .i64 31,lv,kv]] rfl rfl (.agg #[.int .i64 31,lv,kv]) rfl) ?_
 simp only[nmz];refine wpDo rfl ?_;refine qR 24 _ (by rfl) idZ (fun w2 hB2 hm2 hs2=>?_)
 replace hB2:w2.heap[w1.heap.size]?=some (.cells (qA (List.replicate 32 0)) 24 (0,0)):=hB2;try simp only[nmz]
 refine wpDo rfl ?_;refine qR 24 _ (by rfl) idZ (fun w3 hB3 hm3 hs3=>?_)
 replace hB3:w3.heap[w2.heap.size]?=some (.cells (qA (List.replicate 32 0)) 24 (0,0)):=hB3;try simp only[nmz]
 refine wpDo rfl ?_;refine qR 68 _ (by rfl) houseZ (fun w4 hB4 hm4 hs4=>?_)
 replace hB4:w4.heap[w3.heap.size]?=some (.cells #[.int .i64 0,.slice none 0 0,.slice none 0 0] 68 (0,0)):=hB4;have hX1:=(hm3.trans0 hm4).obj id hB2;try simp only[nmz]
 refine wpDo rfl ?_
 refine qH 24 _ _ w1.heap.size 0 (qA idA) (by rfl) (by rfl) (by rfl) (qT _) 32 (by kernel_rfl) hA _ _ hX1 (by rw[hA,hz32];omega) (fun w5 hB5 hm5=>?_)
 rw[qF (by rw[hA,hz32])]at hB5;have hX2:=hm5.objB (b:=w2.heap.size) (by omega) (hm4.obj id hB3);have hX3:=hm5.objB (b:=w3.heap.size) (by omega) hB4
 try simp only[nmz]
 refine wpDo rfl ?_
 refine qH 24 _ _ w2.heap.size 0 (qA idB) (by rfl) (by rfl) (by rfl) (qT _) 32 (by kernel_rfl) hB _ _ hX2 (by rw[hB,hz32];omega) (fun w6 hB6 hm6=>?_)
 rw[qF (by rw[hB,hz32])]at hB6;have hY1:=hm6.objB (b:=w1.heap.size) (by omega) hB5;have hY3:=hm6.objB (b:=w3.heap.size) (by omega) hX3;try simp only[nmz]
 refine wpDo rfl ?_
 refine qH 68 _ _ w3.heap.size 0 #[.int .i64 31,lv,kv] (by rfl) (by rfl) (by rfl) (by intro c hc;simp at hc;rcases hc with rfl|rfl|rfl<;>first|rfl|exact Sl.one hl1|exact Sl.one hk1) 3 (by kernel_rfl) rfl _ _ hY3 (by simp) (fun w7 hB7 hm7=>?_)
 rw[qF (by simp)]at hB7;have hZ1:=hm7.objB (b:=w1.heap.size) (by omega) hY1;have hZ2:=hm7.objB (b:=w2.heap.size) (by omega) hB6;simp only[stz]
 have s1:=hm2.size;have s2:=hm3.size;have s3:=hm4.size
 have hm17:Mod NoB w1 w7:=((((hm2.trans0 hm3).trans0 hm4).transB hm5 (Nat.le_refl _)).transB hm6 s1).transB hm7 (by omega);have hl7:=jD hl1 hm17
 have hk7:=hk1.keep0 hm17;have hm07:=hm1.trans0 hm17
 have hbl:=built_any (w:=w7) (wd:=31) (by constructor<;>omega) hl7 hk7 (by simp) (by simp) (by simp) (by intro x hx;simp at hx;rcases hx with rfl|rfl<;>constructor<;>omega)
 rw[wid31]at hbl;have b17:w1.heap.size<w7.heap.size:=(Array.getElem?_eq_some_iff.1 hZ1).1;have b27:w2.heap.size<w7.heap.size:=(Array.getElem?_eq_some_iff.1 hZ2).1
 generalize hb1:w1.heap.size=b1 at*;generalize hb2:w2.heap.size=b2 at*;generalize hb3:w3.heap.size=b3 at*
 clear hm1 hm2 hm3 hm4 hm5 hm6 hm7 hB2 hB3 hB4 hB5 hB6 hX1 hX2 hX3 hY1 hY3 hm17 hl1 hk1 hs2 hs3 hs4;have hcH:CellsAt w7 b3 0 #[.int .i64 31,lv,kv]:=CellsAt.whole hB7
 go_upto_region 2 with(fail);refine wpR [1,1,3,3,3,3,3] (by rfl) (by rfl) ?_;simp only[stz];refine wpXA 68 b3 0 #[.int .i64 31,lv,kv] hcH underlying68 3 rfl trivial ?_
 try simp only[nmz]
 refine wpDo rfl ?_;refine qB (qC 43 [.tmp 15] _ rfl _ func43 rfl (by kernel_rfl) [.agg #[.int .i64 31,lv,kv]] rfl _) (hbl) ?_
 rintro e w8 ⟨h,hhw,hhr,hhl,⟨qb,hhq⟩,he8,Ft,hat,hFn,hm78⟩;subst he8;rw[hhq];refine⟨_,rfl,?_⟩;simp only[stz]
 refine qE rfl (fun w'=>qL _ 0 #[.pointer (some ⟨h.bs,0,none⟩),.pointer (some ⟨qb,0,none⟩)] rfl rfl (.pointer (some ⟨h.bs,0,none⟩)) rfl) ?_;simp only[nmz]
 refine qE rfl (fun w'=>qL _ 1 #[.pointer (some ⟨h.bs,0,none⟩),.pointer (some ⟨qb,0,none⟩)] rfl rfl (.pointer (some ⟨qb,0,none⟩)) rfl) ?_;simp only[stz]
 rw[cOf_AB,lOf_AB]at hat;have hI1:CellsAt w8 b1 0 (qA idA):=CellsAt.whole (hm78.obj id hZ1);have hI2:CellsAt w8 b2 0 (qA idB):=CellsAt.whole (hm78.obj id hZ2)
 have hm08:=hm07.trans0 hm78;clear hbl hl7 hk7 hcH hB7 hZ1 hZ2;go_upto_region 5 with(fail);refine wpR [3,1,1,1,3] (by rfl) (by rfl) ?_;simp only[stz]
 refine wpXA 24 b1 0 (qA idA) hI1 underlying24 32 hA trivial ?_;try simp only[nmz]
 refine wpDo rfl ?_;refine qB (qC 56 [.tmp 26] _ rfl _ func56 rfl (by kernel_rfl) [.agg (qA idA)] rfl _) (tagged_any idA yS _) ?_
 rintro e w9 ⟨hm9,vv,rv,reps,he9,hvv,hreps,hroots⟩;subst he9;have hat9:=hat.keep0 hm9
 have hmk:Calls prog 48 #[.pointer (some ⟨h.bs,0,none⟩),.agg #[vv,rv],.slice none 0 0] w9 (MarksR w9 cAB [idA] []):=by
  obtain⟨bl,F,k1,k2,_⟩:=hat9
  have h9:=swMarks_any (l:=[]) k1 (by rw[k2];simp[cAB]) hvv hreps (by rw[hroots];simp) (Sl.nil false w9 AnyB 39 (EvR false w9 AnyB)) (by simp[refsL]);rw[k2,hroots]at h9
  exact h9
 refine⟨_,rfl,?_⟩;try simp only[nmz]
 refine wpDo rfl ?_
 refine qB (qC 48 [.tmp 25,.tmp 27,.const (.slice none 0 0)] _ rfl _ func48 rfl (by kernel_rfl) [.pointer (some ⟨h.bs,0,none⟩),.agg #[vv,rv],.slice none 0 0] rfl _) (hmk) ?_
 rintro e wa ⟨hma,vM,out,hea,hga,hMo,hla⟩;subst hea;obtain rfl:=marks_A hMo;refine⟨_,rfl,?_⟩;simp only[stz];have hlt8:=hat.lt;have hm8a:=hm9.trans0 hma
 have hata:=hat.keep0 hm8a;have hslM:=slI hga hla;have s9:=hm9.size
 have hGM:∀k,(w9.heap.size<=k/\k<wa.heap.size/\vM.ownBlock=some k)->¬Ft k:=fun k hk hf=>by have:=hlt8 _ hf;have:=hk.1;omega
 have hsw:=swSweep_any hata hslM hGM;rw[hhq]at hsw;clear hmk hreps hroots hga hMo;go_upto_region 6 with(fail);refine wpR [3,3,3,1,3,3,3,1,1,3] (by rfl) (by rfl) ?_
 simp only[stz];refine wpDo rfl ?_
 refine qB (qC 53 [.tmp 30,.tmp 31,.tmp 32] _ rfl _ func53 rfl (by kernel_rfl) [.pointer (some ⟨h.bs,0,none⟩),.pointer (some ⟨qb,0,none⟩),vM] rfl _) (hsw) ?_
 rintro e wb ⟨ids,bv,s,Fb,hidc,hrun,heb,hgb,hatb,hmb,hsb,hnb⟩;subst heb;rw[gone_A hidc]at hrun hgb;rw[run_A]at hrun;subst hrun;refine⟨_,rfl,?_⟩;simp only[stz]
 refine qE rfl (fun w'=>qL _ 0 #[.agg (qK bv 2 1),.int .i64 0] rfl rfl (.agg (qK bv 2 1)) rfl) ?_;simp only[nmz]
 refine qE rfl (fun w'=>qL _ 1 #[.agg (qK bv 2 1),.int .i64 0] rfl rfl (.int .i64 0) rfl) ?_;simp only[nmz];refine wpDo rfl ?_
 refine qR 104 _ (by rfl) sweptZ (fun wc hBc hmc hsc=>?_);replace hBc:wc.heap[wb.heap.size]?=some (.cells #[.slice none 0 0,.int .i64 0,.int .i64 0] 104 (0,0)):=hBc
 try simp only[nmz]
 refine wpDo rfl ?_
 refine qH 104 _ _ wb.heap.size 0 (qK bv 2 1) (by rfl) (by rfl) (by rfl) (by intro c hc;simp[qK]at hc;rcases hc with rfl|rfl|rfl<;>first|rfl|exact yC hgb) 3 (by kernel_rfl) rfl _ _ hBc (by simp[qK]) (fun wd hBd hmd=>?_)
 rw[qF (by simp[qK])]at hBd;simp only[stz];have hmbd:Mod NoB wb wd:=hmc.transB hmd (Nat.le_refl _)
 have hF1:∀k,k<w7.heap.size->¬Ft k:=fun k hk e=>by have:=hFn _ e;omega
 have hI1a:=hI1.keep hm8a id;have hI1d:=(hI1a.keep hmb (hF1 b1 b17)).keep hmbd id;have hI2d:=((hI2.keep hm8a id).keep hmb (hF1 b2 b27)).keep hmbd id
 have hMd:=(hslM.keep hmb hGM (fun _ _ h=>h)).keep0 hmbd;have hVd:=slI (hgb.keep0 hmbd) (fun x hx=>by simp at hx;rw[hx];exact idB_len)
 have hCd:CellsAt wd wb.heap.size 0 (qK bv 2 1):=CellsAt.whole hBd;have s78:=hm78.size
 have hm0d:Mod NoB w wd:=((hm08.trans0 hm8a).trans hmb (fun k hk hf=>by have h1:=hFn k hf;have h2:=hm07.size;omega)).trans0 hmbd;generalize hbo:wb.heap.size=bo at*
 clear hsw hata hat hlt8 hslM hGM hmb hsb hnb hatb hgb hidc hBc hmc hmd hBd hmbd hI1 hI2 hI1a hla;go_upto_region 7 with(fail);have hS:Mod NoB wd wd.drew:=(Mod.refl _ _).drew
 have hT:Mod NoB wd wd.drew:=(Mod.refl _ _).drew
 refine jN [(0,0),(3,0)] 3 [(5,1),(6,3),(7,3),(8,0),(9,1),(10,1),(11,3),(12,3),(13,3),(14,3),(15,3),(16,3),(17,0),(18,0),(19,1),(20,0),(21,1),(22,3),(23,3)] [] (fun w'=>Mod NoB wd w') #[true,false,false,true,false,false,false,false,false,false,false,false,false,false,false,false,false,false,false,false,false,false,false,false] (by kernel_rfl) (by kernel_rfl) (by kernel_rfl) (by kernel_rfl) (by kernel_rfl) (fun _ _ _ _ hd h=>⟨hd.trans h.1,h.2⟩) hS ?_
 simp only[stz];refine wpLA 24 b1 0 (qA idA) (fun w' hS=>hI1d.keep hS id) underlying24 32 hA ?_;simp only[nmz]
 refine wpLA 24 b1 0 (qA idA) (fun w' hS=>hI1d.keep hS id) underlying24 32 hA ?_;simp only[stz];refine zJ [1,4] (by kernel_rfl) ?_
 simp only[zz3,false_implies,implies_true];refine⟨?_,?_⟩
 ·intro K hK
  simp only[zz5];refine qB (qC 56 [.tmp 36] _ rfl _ func56 rfl (by kernel_rfl) [.agg (qA idA)] rfl _) (tagged_any idA yS _) ?_
  rintro e we ⟨hme,tv,tr,treps,rfl,htv,htr,htroots⟩
  try replace hX:=hX.keep0 hme
  replace hT:=hT.trans0 hme;clear hme;refine⟨_,rfl,hK _ _ hT ?_⟩;clear hK K;try simp only[nmz]
  refine zJ [2,4] (by kernel_rfl) ?_;simp only[zz3,false_implies,implies_true];refine⟨?_,?_⟩
  ·intro K hK
   simp only[zz5];refine qB (qC 47 [.tmp 37] _ rfl _ func47 rfl (by kernel_rfl) [.agg #[tv,tr]] rfl _) (swRoots_any htv htr (by rw[htroots];simp)) ?_
   rintro e wf ⟨hmf,vR,outR,rfl,hgR,hsR,hlR⟩;rw[htroots]at hsR;obtain rfl:=roots_A hsR;have hR:=slI hgR hlR
   try replace hX:=hX.keep0 hmf
   replace hT:=hT.trans0 hmf;clear hmf hgR hsR hlR htr;refine⟨_,rfl,hK _ _ hT ?_⟩;clear hK K;try simp only[nmz]
   refine zJ [4] (by kernel_rfl) ?_;simp only[zz3,false_implies,implies_true];intro K hK;simp only[zz5]
   refine zG 25 24 _ (.agg (qA idA)) (.agg (qA (List.replicate 32 0))) 32 (by rfl) (by rfl) underlying25 id_zs (by omega) (by omega) hA (fun bX wg hBg hmg=>?_)
   have hX:Sl false wg AnyB 32 IdC (.slice (some ⟨bX,0,none⟩) 1 1) [idA]:=sl_one hBg ⟨rfl,yS⟩ 32 hA
   try replace htr:=xN htr (KC.of0 hmg)
   try replace hR:=hR.keep0 hmg
   replace hT:=hT.trans0 hmg;clear hmg hBg;refine hK _ _ hT ?_;clear hK K;try simp only[nmz]
   refine xZ ?_;try simp only[zz4]
   try simp only[nmz]
   refine qN rfl (fun K hK=>?_)
   refine qB (qC 24 [.tmp 38,.tmp 40] _ rfl _ func24 rfl (by kernel_rfl) [vR,.slice (some ⟨bX,0,none⟩) 1 1] rfl _) (yH _ _ _ _ _ _ _ _ _ hR hX) ?_
   rintro e wh ⟨rfl,hmh⟩;replace hT:=hT.trans0 hmh;rw[decide_eq_true rfl];clear hmh hR hX;refine⟨_,rfl,hK _ _ hT ?_⟩;clear hK K;simp only[stz]
   refine wpLA 24 b1 0 (qA idA) (fun w' hS=>hI1d.keep hS id) underlying24 32 hA ?_;simp only[nmz];refine qN rfl (fun K hK=>?_)
   refine zG 25 24 _ (.agg (qA idA)) (.agg (qA (List.replicate 32 0))) 32 (by rfl) (by rfl) underlying25 id_zs (by omega) (by omega) hA (fun bY wi hBi hmi=>?_)
   have hY:Sl false wi AnyB 32 IdC (.slice (some ⟨bY,0,none⟩) 1 1) [idA]:=sl_one hBi ⟨rfl,yS⟩ 32 hA;replace hT:=hT.trans0 hmi;clear hmi hBi;refine hK _ _ hT ?_
   clear hK K;try simp only[nmz]
   refine qN rfl (fun K hK=>?_)
   refine qB (qC 24 [.tmp 43,.tmp 45] _ rfl _ func24 rfl (by kernel_rfl) [vM,.slice (some ⟨bY,0,none⟩) 1 1] rfl _) (yH _ _ _ _ _ _ _ _ _ (hMd.keep0 hT) hY) ?_
   rintro e wj ⟨rfl,hmj⟩;replace hT:=hT.trans0 hmj;rw[decide_eq_true rfl];clear hmj hY;refine⟨_,rfl,hK _ _ hT ?_⟩;clear hK K;simp only[stz]
   refine qE (v:=?_) rfl (fun w'=>?_) ?_;rotate_left;·(go_simp;try with_reducible rfl)
   simp only[stz];refine wpLA 104 bo 0 (qK bv 2 1) (fun w' hS=>hCd.keep hS id) underlying104 3 rfl ?_;simp only[nmz]
   refine wpLA 24 b2 0 (qA idB) (fun w' hS=>hI2d.keep hS id) underlying24 32 hB ?_;simp only[nmz];refine qN rfl (fun K hK=>?_)
   refine zG 25 24 _ (.agg (qA idB)) (.agg (qA (List.replicate 32 0))) 32 (by rfl) (by rfl) underlying25 id_zs (by omega) (by omega) hB (fun bZ wk hBk hmk=>?_)
   have hZ:Sl false wk AnyB 32 IdC (.slice (some ⟨bZ,0,none⟩) 1 1) [idB]:=sl_one hBk ⟨rfl,idB_len⟩ 32 hB;replace hT:=hT.trans0 hmk;clear hmk hBk;refine hK _ _ hT ?_
   clear hK K;try simp only[nmz]
   refine qM rfl (fun w' hS=>qO 104 [(0,_),(1,_),(2,_)] [(0,.slice (some ⟨bZ,0,none⟩) 1 1),(1,.int .i64 2),(2,.int .i64 1)] _ (by rfl) (by rfl) (built_swept _ 1 1 2 1)) ?_
   simp only[nmz];refine qN rfl (fun K hK=>?_)
   refine qB (qC 54 [.tmp 53,.tmp 56] _ rfl _ func54 rfl (by kernel_rfl) [.agg (qK bv 2 1),.agg (qK (.slice (some ⟨bZ,0,none⟩) 1 1) 2 1)] rfl _) (sameSwept_any (hVd.keep0 hT) hZ 2 1 2 1) ?_
   rintro e wl ⟨rfl,hml⟩;replace hT:=hT.trans0 hml;simp only[decide_true,Bool.and_self];clear hml hZ;refine⟨_,rfl,hK _ _ hT ?_⟩;clear hK K;simp only[stz]
   have HF:=hid (hm0d.trans0 hT);go_wp2;go_ret;exact⟨rfl,HF.out⟩
  ·intro K hK
   simp only[zz5]
   refine zG 25 24 _ (.agg (qA idA)) (.agg (qA (List.replicate 32 0))) 32 (by rfl) (by rfl) underlying25 id_zs (by omega) (by omega) hA (fun bX wg hBg hmg=>?_)
   have hX:Sl false wg AnyB 32 IdC (.slice (some ⟨bX,0,none⟩) 1 1) [idA]:=sl_one hBg ⟨rfl,yS⟩ 32 hA
   try replace htr:=xN htr (KC.of0 hmg)
   try replace hR:=hR.keep0 hmg
   replace hT:=hT.trans0 hmg;clear hmg hBg;refine hK _ _ hT ?_;clear hK K;try simp only[nmz]
   refine zJ [2] (by kernel_rfl) ?_;simp only[zz3,false_implies,implies_true];intro K hK;simp only[zz5]
   refine qB (qC 47 [.tmp 37] _ rfl _ func47 rfl (by kernel_rfl) [.agg #[tv,tr]] rfl _) (swRoots_any htv htr (by rw[htroots];simp)) ?_
   rintro e wf ⟨hmf,vR,outR,rfl,hgR,hsR,hlR⟩;rw[htroots]at hsR;obtain rfl:=roots_A hsR;have hR:=slI hgR hlR
   try replace hX:=hX.keep0 hmf
   replace hT:=hT.trans0 hmf;clear hmf hgR hsR hlR htr;refine⟨_,rfl,hK _ _ hT ?_⟩;clear hK K;try simp only[nmz]
   refine xZ ?_;try simp only[zz4]
   try simp only[nmz]
   refine qN rfl (fun K hK=>?_)
   refine qB (qC 24 [.tmp 38,.tmp 40] _ rfl _ func24 rfl (by kernel_rfl) [vR,.slice (some ⟨bX,0,none⟩) 1 1] rfl _) (yH _ _ _ _ _ _ _ _ _ hR hX) ?_
   rintro e wh ⟨rfl,hmh⟩;replace hT:=hT.trans0 hmh;rw[decide_eq_true rfl];clear hmh hR hX;refine⟨_,rfl,hK _ _ hT ?_⟩;clear hK K;simp only[stz]
   refine wpLA 24 b1 0 (qA idA) (fun w' hS=>hI1d.keep hS id) underlying24 32 hA ?_;simp only[nmz];refine qN rfl (fun K hK=>?_)
   refine zG 25 24 _ (.agg (qA idA)) (.agg (qA (List.replicate 32 0))) 32 (by rfl) (by rfl) underlying25 id_zs (by omega) (by omega) hA (fun bY wi hBi hmi=>?_)
   have hY:Sl false wi AnyB 32 IdC (.slice (some ⟨bY,0,none⟩) 1 1) [idA]:=sl_one hBi ⟨rfl,yS⟩ 32 hA;replace hT:=hT.trans0 hmi;clear hmi hBi;refine hK _ _ hT ?_
   clear hK K;try simp only[nmz]
   refine qN rfl (fun K hK=>?_)
   refine qB (qC 24 [.tmp 43,.tmp 45] _ rfl _ func24 rfl (by kernel_rfl) [vM,.slice (some ⟨bY,0,none⟩) 1 1] rfl _) (yH _ _ _ _ _ _ _ _ _ (hMd.keep0 hT) hY) ?_
   rintro e wj ⟨rfl,hmj⟩;replace hT:=hT.trans0 hmj;rw[decide_eq_true rfl];clear hmj hY;refine⟨_,rfl,hK _ _ hT ?_⟩;clear hK K;simp only[stz]
   refine qE (v:=?_) rfl (fun w'=>?_) ?_;rotate_left;·(go_simp;try with_reducible rfl)
   simp only[stz];refine wpLA 104 bo 0 (qK bv 2 1) (fun w' hS=>hCd.keep hS id) underlying104 3 rfl ?_;simp only[nmz]
   refine wpLA 24 b2 0 (qA idB) (fun w' hS=>hI2d.keep hS id) underlying24 32 hB ?_;simp only[nmz];refine qN rfl (fun K hK=>?_)
   refine zG 25 24 _ (.agg (qA idB)) (.agg (qA (List.replicate 32 0))) 32 (by rfl) (by rfl) underlying25 id_zs (by omega) (by omega) hB (fun bZ wk hBk hmk=>?_)
   have hZ:Sl false wk AnyB 32 IdC (.slice (some ⟨bZ,0,none⟩) 1 1) [idB]:=sl_one hBk ⟨rfl,idB_len⟩ 32 hB;replace hT:=hT.trans0 hmk;clear hmk hBk;refine hK _ _ hT ?_
   clear hK K;try simp only[nmz]
   refine qM rfl (fun w' hS=>qO 104 [(0,_),(1,_),(2,_)] [(0,.slice (some ⟨bZ,0,none⟩) 1 1),(1,.int .i64 2),(2,.int .i64 1)] _ (by rfl) (by rfl) (built_swept _ 1 1 2 1)) ?_
   simp only[nmz];refine qN rfl (fun K hK=>?_)
   refine qB (qC 54 [.tmp 53,.tmp 56] _ rfl _ func54 rfl (by kernel_rfl) [.agg (qK bv 2 1),.agg (qK (.slice (some ⟨bZ,0,none⟩) 1 1) 2 1)] rfl _) (sameSwept_any (hVd.keep0 hT) hZ 2 1 2 1) ?_
   rintro e wl ⟨rfl,hml⟩;replace hT:=hT.trans0 hml;simp only[decide_true,Bool.and_self];clear hml hZ;refine⟨_,rfl,hK _ _ hT ?_⟩;clear hK K;simp only[stz]
   have HF:=hid (hm0d.trans0 hT);go_wp2;go_ret;exact⟨rfl,HF.out⟩
 ·intro K hK
  simp only[zz5]
  refine zG 25 24 _ (.agg (qA idA)) (.agg (qA (List.replicate 32 0))) 32 (by rfl) (by rfl) underlying25 id_zs (by omega) (by omega) hA (fun bX wg hBg hmg=>?_)
  have hX:Sl false wg AnyB 32 IdC (.slice (some ⟨bX,0,none⟩) 1 1) [idA]:=sl_one hBg ⟨rfl,yS⟩ 32 hA
  try replace htr:=xN htr (KC.of0 hmg)
  try replace hR:=hR.keep0 hmg
  replace hT:=hT.trans0 hmg;clear hmg hBg;refine hK _ _ hT ?_;clear hK K;try simp only[nmz]
  refine zJ [1] (by kernel_rfl) ?_;simp only[zz3,false_implies,implies_true];intro K hK;simp only[zz5]
  refine qB (qC 56 [.tmp 36] _ rfl _ func56 rfl (by kernel_rfl) [.agg (qA idA)] rfl _) (tagged_any idA yS _) ?_
  rintro e we ⟨hme,tv,tr,treps,rfl,htv,htr,htroots⟩
  try replace hX:=hX.keep0 hme
  replace hT:=hT.trans0 hme;clear hme;refine⟨_,rfl,hK _ _ hT ?_⟩;clear hK K;try simp only[nmz]
  refine zJ [2] (by kernel_rfl) ?_;simp only[zz3,false_implies,implies_true];intro K hK;simp only[zz5]
  refine qB (qC 47 [.tmp 37] _ rfl _ func47 rfl (by kernel_rfl) [.agg #[tv,tr]] rfl _) (swRoots_any htv htr (by rw[htroots];simp)) ?_
  rintro e wf ⟨hmf,vR,outR,rfl,hgR,hsR,hlR⟩;rw[htroots]at hsR;obtain rfl:=roots_A hsR;have hR:=slI hgR hlR
  try replace hX:=hX.keep0 hmf
  replace hT:=hT.trans0 hmf;clear hmf hgR hsR hlR htr;refine⟨_,rfl,hK _ _ hT ?_⟩;clear hK K;try simp only[nmz]
  refine xZ ?_;try simp only[zz4]
  try simp only[nmz]
  refine qN rfl (fun K hK=>?_)
  refine qB (qC 24 [.tmp 38,.tmp 40] _ rfl _ func24 rfl (by kernel_rfl) [vR,.slice (some ⟨bX,0,none⟩) 1 1] rfl _) (yH _ _ _ _ _ _ _ _ _ hR hX) ?_
  rintro e wh ⟨rfl,hmh⟩;replace hT:=hT.trans0 hmh;rw[decide_eq_true rfl];clear hmh hR hX;refine⟨_,rfl,hK _ _ hT ?_⟩;clear hK K;simp only[stz]
  refine wpLA 24 b1 0 (qA idA) (fun w' hS=>hI1d.keep hS id) underlying24 32 hA ?_;simp only[nmz];refine qN rfl (fun K hK=>?_)
  refine zG 25 24 _ (.agg (qA idA)) (.agg (qA (List.replicate 32 0))) 32 (by rfl) (by rfl) underlying25 id_zs (by omega) (by omega) hA (fun bY wi hBi hmi=>?_)
  have hY:Sl false wi AnyB 32 IdC (.slice (some ⟨bY,0,none⟩) 1 1) [idA]:=sl_one hBi ⟨rfl,yS⟩ 32 hA;replace hT:=hT.trans0 hmi;clear hmi hBi;refine hK _ _ hT ?_
  clear hK K;try simp only[nmz]
  refine qN rfl (fun K hK=>?_)
  refine qB (qC 24 [.tmp 43,.tmp 45] _ rfl _ func24 rfl (by kernel_rfl) [vM,.slice (some ⟨bY,0,none⟩) 1 1] rfl _) (yH _ _ _ _ _ _ _ _ _ (hMd.keep0 hT) hY) ?_
  rintro e wj ⟨rfl,hmj⟩;replace hT:=hT.trans0 hmj;rw[decide_eq_true rfl];clear hmj hY;refine⟨_,rfl,hK _ _ hT ?_⟩;clear hK K;simp only[stz]
  refine qE (v:=?_) rfl (fun w'=>?_) ?_;rotate_left;·(go_simp;try with_reducible rfl)
  simp only[stz];refine wpLA 104 bo 0 (qK bv 2 1) (fun w' hS=>hCd.keep hS id) underlying104 3 rfl ?_;simp only[nmz]
  refine wpLA 24 b2 0 (qA idB) (fun w' hS=>hI2d.keep hS id) underlying24 32 hB ?_;simp only[nmz];refine qN rfl (fun K hK=>?_)
  refine zG 25 24 _ (.agg (qA idB)) (.agg (qA (List.replicate 32 0))) 32 (by rfl) (by rfl) underlying25 id_zs (by omega) (by omega) hB (fun bZ wk hBk hmk=>?_)
  have hZ:Sl false wk AnyB 32 IdC (.slice (some ⟨bZ,0,none⟩) 1 1) [idB]:=sl_one hBk ⟨rfl,idB_len⟩ 32 hB;replace hT:=hT.trans0 hmk;clear hmk hBk;refine hK _ _ hT ?_
  clear hK K;try simp only[nmz]
  refine qM rfl (fun w' hS=>qO 104 [(0,_),(1,_),(2,_)] [(0,.slice (some ⟨bZ,0,none⟩) 1 1),(1,.int .i64 2),(2,.int .i64 1)] _ (by rfl) (by rfl) (built_swept _ 1 1 2 1)) ?_
  simp only[nmz];refine qN rfl (fun K hK=>?_)
  refine qB (qC 54 [.tmp 53,.tmp 56] _ rfl _ func54 rfl (by kernel_rfl) [.agg (qK bv 2 1),.agg (qK (.slice (some ⟨bZ,0,none⟩) 1 1) 2 1)] rfl _) (sameSwept_any (hVd.keep0 hT) hZ 2 1 2 1) ?_
  rintro e wl ⟨rfl,hml⟩;replace hT:=hT.trans0 hml;simp only[decide_true,Bool.and_self];clear hml hZ;refine⟨_,rfl,hK _ _ hT ?_⟩;clear hK K;simp only[stz]
  have HF:=hid (hm0d.trans0 hT);go_wp2;go_ret;exact⟨rfl,HF.out⟩
theorem built_swept0:prog.built 104 []=some #[.slice none 0 0,.int .i64 0,.int .i64 0]:=by kernel_rfl
def noneV:Value:=.tuple #[.agg (qK (.slice none 0 0) 0 0),.int .i64 1]
section
variable{w:World}{h:House}{c:BlobL}{l:LinkL}{Ft:Nat->Prop}
theorem NoStore.keepF{S:Nat->Prop}{w':World}{v:Value}(hn:NoStore w v)(hm:Mod S w w')(hS:∀b,v=.pointer (some ⟨b,0,none⟩)->¬S b):NoStore w' v:=by
 rcases hn with rfl|⟨b,x,y,z,rfl,hb⟩
 ·exact .inl rfl
 ·exact .inr ⟨b,x,y,z,rfl,hm.obj (hS b rfl) hb⟩
theorem swSweep_noStore(H:HsAt w h c l Ft){v:Value}(hn:NoStore w v)(hF:∀b,v=.pointer (some ⟨b,0,none⟩)->¬Ft b)(mv:Value)(h1:mv.oneCell'=true):
 Calls prog 53 #[v,h.q,mv] w (fun e w'=>e=.returned noneV/\HStep w h Ft w' c l):=by
 have HH:=hid H;clear H;generalize hq:h.q=qv;go_enter func53,ntmps53;go_upto_region 0 with(fail);refine wpR [1,3] (by rfl) (by rfl) ?_;simp only[stz];refine wpDo rfl ?_
 refine qR 104 _ (by rfl) sweptZ (fun w1 hB1 hm1 hs1=>?_);replace hB1:w1.heap[w.heap.size]?=some (.cells #[.slice none 0 0,.int .i64 0,.int .i64 0] 104 (0,0)):=hB1
 simp only[stz];have H1:=HH.out.keep0 hm1;have hlk:=H1.none;rw[hq]at hlk;go_upto_region 1 with(fail);refine wpR [3,0,1,3,3,3,3,3] (by rfl) (by rfl) ?_;simp only[stz]
 refine qM rfl (fun w' hS=>qO 24 [] [] _ (by rfl) (by rfl) built_id0) ?_;simp only[nmz];refine wpDo rfl ?_
 refine qB (qC 123 [.tmp 16,.const (.string { data:=#[] }),.tmp 17,.const (.int .i64 0)] _ rfl _ func123 rfl (by kernel_rfl) [qv,.string ⟨#[]⟩,.agg (qA (List.replicate 32 0)),.int .i64 0] rfl _) (hlk) ?_
 rintro e w2 ⟨⟨er,her,rfl⟩,hst2⟩;refine⟨_,rfl,?_⟩;simp only[stz];refine qE rfl (fun w'=>qL _ 0 #[.bool false,.int .i64 er] rfl rfl (.bool false) rfl) ?_
 simp only[nmz];refine qE rfl (fun w'=>qL _ 1 #[.bool false,.int .i64 er] rfl rfl (.int .i64 er) rfl) ?_;simp only[stz];obtain⟨F2,H2,hmd,hs2⟩:=hst2
 have hobF:¬Ft w.heap.size:=fun e=>by have:=HH.out.lt _ e;omega
 have hob2:¬F2 w.heap.size:=fun e=>(hs2 _ e).elim hobF (fun h=>by have:=h.1;omega);have hBo2:=hmd.obj hobF hB1
 have hwid:=bWidth_no (NoStore.keepF (NoStore.keepF hn hm1 (fun _ _=>id)) hmd hF);have HWID:=hid hwid
 have hm02:Mod Ft w w2:=(hm1.mono (fun _ _ h=>h.elim)).trans hmd (fun _ _ h=>h)
 have hs02:∀k,F2 k->Ft k\/New w w2 k:=fun k hk=>(hs2 k hk).imp id (fun h=>⟨by have:=h.1;have:=hm1.size;omega,h.2⟩);clear hlk hwid hn hm1 hmd hs2 hB1 H1
 go_upto_region 3 with(go_at_call 124;refine HWID.out.mono ?_;rintro _ w3 ⟨rfl,hw3⟩;obtain rfl:=hw3.symm);refine wpR [0,1,3] (by rfl) (by rfl) ?_;simp only[stz]
 refine qM rfl (fun w' hS=>qO 104 [] [] _ (by rfl) (by rfl) built_swept0) ?_;simp only[nmz];refine wpDo rfl ?_
 refine qH 104 _ _ w.heap.size 0 #[.slice none 0 0,.int .i64 0,.int .i64 0] (by rfl) (by rfl) (by rfl) (by intro c hc;simp at hc;rcases hc with rfl|rfl<;>rfl) 3 (by kernel_rfl) rfl _ _ hBo2 (by simp) (fun w4 hB4 hm4=>?_)
 rw[qF (by simp)]at hB4;simp only[stz]
 have HST:Hid (HStep w h Ft w4 c l):=hid ⟨F2,H2.keep hm4 (fun k hk e=>hob2 (by rw[<-show k=w.heap.size from e];exact hk)),hm02.trans hm4 (fun k hk e=>by have e:k=w.heap.size:=e;omega),fun k hk=>(hs02 k hk).imp id (fun h=>⟨h.1,by have:=h.2;have:=hm4.size;omega⟩)⟩
 clear hm02 hs02 hm4 hBo2 H2 HWID;go_wp2
 refine bodyPost_ret (xH (P:=prog) (ty:=104) rfl _ _ w.heap.size _ _ _ _ (by rfl) hB4 underlying104 rfl (by kernel_rfl)) rfl ?_;exact⟨rfl,HST.out⟩
end
end
section
open Go.RowKit Go.Proofs.Tryz Go.Lib
theorem cmp_AB:cmpI idA idB=-1:=by decide+kernel
theorem lt_AB:idA<idB:=by decide+kernel
attribute [local irreducible] shaL ofI
def cA1:BlobL:=[(idA,[65])]
def lA1:LinkL:=[((rA,idA),1)]
theorem marks_AB{l:List Evt}{out:List (List UInt8)}(h:MarkedOf cAB [idA] l out)(hl:refsL l=[idB]):out=[idA,idB]:=by
 refine sorted_ext h.1 (by simp[lt_AB]) fun x=>?_;rw[h.2 x,hl]
 simp[inR_A]
theorem gone_A1{ids:List (List UInt8)}(h:IDsC cA1 ids):goneL ids [idA]=[]:=by
 unfold goneL;rw[List.filter_eq_nil_iff];intro x hx;rw[h.2.mem_iff]at hx
 simpa[cA1]using hx
theorem run_A1:swRun [] cA1 lA1=(cA1,lA1,0,0):=rfl
theorem run_AB:swRun [idB] cAB lAB=(cA1,lA1,2,1):=run_A
def evOne:Evt:=⟨1,1,[],0,⟨#[]⟩,⟨#[]⟩,List.replicate 32 0,[]⟩
def yK:Evt:=⟨2,1,[],0,⟨#[]⟩,⟨#[]⟩,List.replicate 32 0,[]⟩
theorem kept_12:keptE [1,0] [evOne,yK]=[yK]:=by decide
theorem gone_12:goneE [1,0] [evOne,yK]=[(1,1)]:=by decide
end
end Go.Proofs.YtjeonjoifjbohaaGreat
