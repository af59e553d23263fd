/- What the statement ClosureWalks needs, part 4. -/
import Derived.Shelf.SlSortCmp.NoneTotal
import Derived.RangeFuncNested
import Derived.Sort.CutIn
import Derived.Test.YtjeonjoifjbohaaGreatClosureWalksP3
set_option linter.unusedVariables false
set_option linter.unusedSimpArgs false
set_option linter.unnecessarySimpa false
set_option linter.unusedSectionVars false
set_option maxRecDepth 10000
set_option maxHeartbeats 8000000
namespace Go.Proofs.YtjeonjoifjbohaaGreat
section
open Go.RowKit Go.Shelf Go.Sort Go.Proofs.Tryz Go.Lib
abbrev IdS:={x:List UInt8//IdOk x}
instance:Inhabited IdS:=⟨⟨List.replicate 32 0,by simp[IdOk]⟩⟩
def idES(x:IdS):Value:=idV x.1
theorem yR{x:List UInt8}(h:IdOk x):(qA x).size=32:=by rw[qD];exact h
theorem idZ_size:(qA (List.replicate 32 0)).size=32:=by rw[qD];simp
def IdsRelM(mb it:Nat)(es:Array MapEntry)(clk:Nat)(J:List IdS->World->Prop)(_:Value)(w:World):Prop:=
 ∃xs ks,IterAt w mb it es clk xs/\xs.map (·.key)=ks.map idES/\J ks w
theorem keysC_any(w:World)(mb:Nat):Calls prog 161 #[.map (some mb)] w fun e w'=>e=.returned (.func (.func 216) #[] #[.pointer (some ⟨w.heap.size,0,none⟩)])/\w'=w.alloc (.cells #[.map (some mb)] 144):=by
 have hmf:=makeFunc_run;go_enter func161,ntmps161;go_wp2;go_ret;exact⟨rfl,rfl⟩
theorem keysC_stops(n:Nat)(hn:1<=n)(w:World)(Bm mb:Nat)(l:List (List UInt8×Value))(hB:w.heap[Bm]?=some (.cells #[.map (some mb)] 144 (0,0)))(hM:MapIs idV IdOk w mb l):
 SeqStopsK Fence.wide n prog 216 #[.pointer (some ⟨Bm,0,none⟩)] (fun k:IdS=>#[idES k]) KeepsWalks (fun ks=>(ks.map (·.1)).Perm (l.map (·.1))) (fun _=>True) l.length w:=by
 intro y J Jx W hW hJ hJx hY h0;have hMW:=Mod.of_below0 hW;have hBW:=hMW.obj id hB;have hMM:=hM.keep0 hMW;obtain⟨⟨es,clk,hb,hkd,hbo,hbn⟩,_,hok⟩:=hMM
 have hc:W.cell? ⟨Bm,0,none⟩=some (.map (some mb)):=by simp[World.cell?,hBW]
 have hkeys:es.toList.map (·.key)=(l.map (·.1)).map idV:=by
  have:=congrArg (List.map (·.1)) hkd
  simpa[List.map_map,Function.comp_def]using this
 have hsize:es.size=l.length:=by have:=congrArg List.length hkd;simpa using this
 have HKEYS:=hid hkeys;have HSIZE:=hid hsize;clear hkeys hsize hkd hB hM hBW;refine callsIn_wide.2 ?_;go_enter func216,ntmps216;go_upto_region 0 with(fail)
 refine wpR [1,1] ?_;simp only[stz];refine wpXd 144 Bm 0 hc underlying144 trivial ?_;try simp only[nmz]
 refine wpD (wp_rangeM 144 24 152 _ mb es clk (by rfl) (by rfl) underlying144 hb (fun w1 hit1 hm1 hs1=>?_));simp only[stz]
 have hI1:IterAt w1 mb W.heap.size es clk []:=⟨hm1.obj id hb,clk,Nat.le_refl _,hit1,by simp,by simp⟩
 have hJ1:J [] w1:=hJ [] W w1 none h0 hm1.grownNone (fun r e=>by cases e);clear hm1 hb hc h0 hit1;go_wp2
 go_loopw [3] (IdsRelM mb W.heap.size es clk J) (fun _ wx=>seenLeft W.heap.size (l.length+1) wx)
 case atStart=>exact⟨[],[],hI1,rfl,hJ1⟩
 case round=>
  rename_i wr
  obtain⟨xs,ks,hI,hxk,hJr⟩:=hrel;have HXK:=hid hxk;have hlen:ks.length=xs.length:=by have:=congrArg List.length hxk;simpa using this.symm
  have HLEN:=hid hlen;clear hxk hlen;obtain⟨_,c0,_,hitr,_⟩:=id hI;have hleft:=seenLeft_eq (n:=l.length+1) hitr;have HLEFT:=hid hleft;clear hleft
  go_upto_region 1 with(fail);refine wpR [1,3] ?_;simp only[stz];refine qM rfl (fun K hK=>?_)
  refine wp_nextM _ mb W.heap.size es clk xs (by rfl) (by rfl) hI hbo hbn (fun hp=>?_) (fun e w2 he hI2 hlt hm2 hs2 hit2=>?_)
  ·refine hK _ _ trivial ?_
   refine qE (v:=.bool false) rfl (fun w'=>?_) ?_
   ·go_simp
   simp only[stz];go_wp2
   go_end0
   refine⟨⟨_,rfl⟩,.inl ⟨ks,?_,hJr⟩⟩;refine perm_of_map (fun _ _=>idV_inj) ?_;rw[<-HKEYS.out,List.map_map]
   show List.Perm (ks.map idES) _
   rw[<-HXK.out];exact hp.map _
  refine hK _ _ trivial ?_;clear hK K;try simp only[nmz]
  refine qE (v:=?_) rfl (fun w'=>?_) ?_;rotate_left;·(go_simp;try with_reducible rfl)
  simp only[stz];have hJ2:J ks w2:=hJ ks wr w2 (some W.heap.size) hJr hm2.grownAt (fun r e=>by cases e;exact⟨Nat.le_refl _,_,hitr,rfl⟩)
  obtain⟨k,hkl,hek⟩:∃k∈l.map (·.1),idV k=e.key:=List.mem_map.1 (by rw[<-HKEYS.out];exact List.mem_map.2 ⟨e,he,rfl⟩)
  have hkok:IdOk k:=by
   obtain⟨p,hp,rfl⟩:=List.mem_map.1 hkl;exact hok p hp
  have HEK:=hid hek;have HSZ:=hid hs2;clear hek hs2 hitr hJr hI hm2;go_upto_region 2 with(fail);refine wpR [1,3,1,1] ?_;simp only[stz]
  refine wpX rfl (v:=.tuple #[idV k,e.val]) ((exec_entryM _ mb W.heap.size es clk e _ (by rfl) (by rfl) hI2.1 hit2 he hbn).trans (by rw[HEK.out])) trivial ?_;try simp only[nmz]
  refine qE (v:=?_) rfl (fun w'=>?_) ?_;rotate_left;·(go_simp;try with_reducible rfl)
  simp only[nmz];refine wpD (qP 24 _ (by rfl) idZ (fun w3 hB3 hm3 hs3=>?_))
  replace hB3:w3.heap[w2.heap.size]?=some (.cells (qA (List.replicate 32 0)) 24 (0,0)):=hB3;try simp only[nmz]
  refine wpD (qF 24 _ _ w2.heap.size 0 (qA k) (by rfl) (by rfl) (by rfl) (qR k) 32 (by kernel_rfl) (yR hkok) _ _ hB3 (by rw[yR hkok,idZ_size];omega) (fun w4 hB4 hm4=>?_))
  have hm24:Mod NoB w2 w4:=hm3.transB hm4 (Nat.le_refl _);simp only[stz];rw[qC (by rw[yR hkok,idZ_size])]at hB4
  have hI4:IterAt w4 mb W.heap.size es clk (xs++[e]):=by
   obtain⟨h1,c0,h2,h3,h4⟩:=hI2;exact⟨hm24.obj id h1,c0,h2,hm24.obj id h3,h4⟩
  have hJ4:J ks w4:=hJ ks w2 w4 none hJ2 hm24.grownNone (fun r e=>by cases e);have hca:CellsAt w4 w2.heap.size 0 (qA k):=CellsAt.whole hB4
  have hYk:=hY ks ⟨k,hkok⟩ w4 hJ4 (by rw[HLEN.out,<-HSIZE.out];exact hlt);clear hJ2 hB3 hm3 hs3 hm4 hit2 hI2 hJ4;go_upto_region 3 with(fail)
  refine(wpIn_wide (n:=n)).1 (wpIn_region_lit ?_);refine wpListIn_plain rfl fun K hK=>yG (fun c h=>by cases h) ?_;refine yS (exec_move _ (by rfl)) ?_
  refine hK _ _ ?_;clear hK K;refine wpListIn_plain rfl fun K hK=>yG (fun c h=>by cases h) ?_
  refine yS (exec_loadA 24 _ (by rfl) w2.heap.size 0 (by rfl) (qA k) hca _ underlying24 rfl 32 (by kernel_rfl) (yR hkok)) ?_;refine hK _ _ ?_;clear hK K
  refine wpListIn_plain rfl fun K hK=>wpIn_yield (l:=y) _ _ _ (by rfl) (by rfl) (idV k) (by rfl) hYk (fun e' w5 he'=>?_)
  rcases he' with⟨rfl,hJ5,hk5⟩|⟨rfl,hJx5⟩
  rotate_left
  ·refine⟨_,rfl,?_⟩
   refine hK _ _ ?_;clear hK K;refine wpListIn_plain rfl fun K hK=>yG (fun c h=>by cases h) ?_;refine yS (exec_not _ _ false (by rfl) (by rfl)) ?_;refine hK _ _ ?_
   clear hK K;simp only[nmz];refine wpListIn_nil ?_;go_wp2;refine bodyPost_ret (results_none (by rfl) _ _ _) rfl ?_;exact⟨⟨_,rfl⟩,.inr ⟨_,trivial,hJx5⟩⟩
  refine⟨_,rfl,?_⟩;refine hK _ _ ?_;clear hK K;refine wpListIn_plain rfl fun K hK=>yG (fun c h=>by cases h) ?_;refine yS (exec_not _ _ true (by rfl) (by rfl)) ?_
  refine hK _ _ ?_;clear hK K;simp only[nmz];refine wpListIn_nil ?_
  have hI5:IterAt w5 mb W.heap.size es clk (xs++[e]):=by
   obtain⟨h1,c0,h2,h3,h4⟩:=hI4;exact⟨hk5.same _ _ h1 rfl,c0,h2,hk5.same _ _ h3 rfl,h4⟩
  have hrk:(xs++[e]).map (·.key)=(ks++[(⟨k,hkok⟩:IdS)]).map idES:=by
   rw[List.map_append,List.map_append,HXK.out];simp[idES,HEK.out]
  obtain⟨_,c5,_,hit5,_⟩:=id hI5;have hleft5:=seenLeft_eq (n:=l.length+1) hit5;have HL5:=hid hleft5;have HRK:=hid hrk;clear hleft5 hrk hit5;go_wp2
  go_roundw
  case rel=>exact⟨xs++[e],ks++[⟨k,hkok⟩],hI5,HRK.out,hJ5⟩
  case measure=>rw[HL5.out,HLEFT.out];have:=HSIZE.out;simp;omega
def idLS(k:IdS):List Value:=(qA k.1).toList
theorem idLS_one(k:IdS):∀c∈idLS k,c.oneCell'=true:=fun c hc=>qR k.1 c (by simpa[idLS]using hc)
theorem idLS_len(k:IdS):(idLS k).length=32:=by
 have:=yR k.2
 simp[idLS,this]
def GotI(n0:Nat)(Bs:Nat)(ks:List IdS)(w:World):Prop:=∃v,Boxed w Bs 25 v/\w.ownsRow n0 24 32 v ks.length (ks.flatMap idLS)
theorem gotI_own(n0 Bs:Nat):Own (GotI n0 Bs):=by
 intro s A B row hs hg hr;obtain⟨v,h1,h2⟩:=hs
 obtain⟨v,h1,h2,_⟩:=holdsRow_own n0 Bs 25 24 32 (fun ks:List IdS=>ks.length) (fun ks=>ks.flatMap idLS) (fun _ _=>True) s A B row ⟨v,h1,h2,trivial⟩ hg hr
 exact⟨v,h1,h2⟩
def AxI(fv:Value)(Bs:Nat)(x:IdS)(a:Act)(w:World):Prop:=∃Bx,w.heap[Bx]?=some (.cells (qA x.1) 24 (0,0))/\a={ tmps:=#[.slice none 0 0,fv,.pointer (some ⟨Bs,0,none⟩),undef,.slice none 0 0,.pointer (some ⟨Bx,0,none⟩),fv,idES x,undef,undef,undef,undef,undef],defers:=[] }
theorem appendSeqI_any(n:Nat)(hn:3<=n)(g:Nat)(lb:Array Value)(eg:∀args w,(callFunc g args).run prog w=.ok (.enter g args) w)(S Sp:List IdS->Prop)(N:Nat)(hN:N<=65536)(w:World)(hseq:SeqStopsK Fence.wide (n-1) prog g lb (fun k:IdS=>#[idES k]) KeepsWalks S Sp N w):
 Calls prog 246 #[.slice none 0 0,.func (.func g) #[] lb] w fun e w'=>∃v ks,e=.returned v/\S ks/\w'.ownsRow w.heap.size 24 32 v ks.length (ks.flatMap idLS)/\Below w.heap.size w w':=by
 refine(callsIn_wide (n:=n)).1 (callsIn_of_wp_marks func246 rfl trivial ?_ rfl)
 simp only[ntmps246,List.size_toArray,List.length_cons,List.length_nil,Nat.reduceAdd,Nat.reduceSub,Array.replicate_succ,Array.replicate_zero,List.push_toArray,List.append_toArray,List.nil_append,List.cons_append]
 gi_wp2
 obtain⟨W0,hW0⟩:∃W0,w.alloc (.cells #[.slice none 0 0] 25)=W0:=⟨_,rfl⟩;have hs0:W0.heap.size=w.heap.size+1:=by rw[<-hW0];simp
 have hv0:Boxed W0 w.heap.size 25 (.slice none 0 0):=by rw[<-hW0];exact World.alloc_heap_new w _
 have hb0:Below w.heap.size w W0:=by rw[<-hW0];exact(Below.refl _ w).alloc (Nat.le_refl _) _
 rw[hW0];clear hW0
 refine wpIn_rangeFunc_ownH rfl (by omega) (gf:=g) (lb:=lb) (by rfl) trivial eg hseq walksK_t walksK_b hb0 (fun _=>rfl)
  (fun ks W=>GotI w.heap.size w.heap.size ks W/\Below w.heap.size w W) (fun _ _ _=>False)
  (OwnFrom.and (Own.from (gotI_own _ _) _) (ownFrom_below (Nat.le_refl _) (by omega)))
  (fun _ _ _ _ _ hs _ _=>hs)
  ⟨⟨_,hv0,World.ownsRow_nil _ _ _ _⟩,hb0⟩
  (AxI (.func (.func g) #[] lb) w.heap.size)
  (fun x a' s A B row hs hg hr=>by
   obtain⟨Bx,h1,rfl⟩:=hs;refine⟨Bx,(hg.block Bx (Array.getElem?_eq_some_iff.1 h1).1 (fun e=>?_)).trans h1,rfl⟩;obtain⟨_,o,ho,hc⟩:=hr Bx e.symm
   rw[h1]at ho;cases ho;cases hc)
  ?assign ?body ?done ?stop
 case assign=>
  rintro l pre x W K ⟨⟨v,hv,hrow⟩,hB⟩ hK0
  simp only[List.zip_toArray,List.zip_cons_cons,List.zip_nil_right,List.foldl_toArray',List.foldl_cons,List.foldl_nil,List.setIfInBounds_toArray,ss,sz]
  refine wpIn_region_lit ?_;refine xN rfl rfl fun K hK=>?_;refine qP 24 _ (by rfl) idZ (fun w3 hB3 hm3 hs3=>?_)
  replace hB3:w3.heap[W.heap.size]?=some (.cells (qA (List.replicate 32 0)) 24 (0,0)):=hB3;refine hK _ _ ?_;clear hK K;refine xN rfl rfl fun K hK=>?_
  refine qF 24 _ _ W.heap.size 0 (qA x.1) (by rfl) (by rfl) (by rfl) (qR x.1) 32 (by kernel_rfl) (yR x.2) _ _ hB3 (by rw[yR x.2,idZ_size];omega) (fun w4 hB4 hm4=>?_)
  have hm24:Mod NoB W w4:=hm3.transB hm4 (Nat.le_refl _);rw[qC (by rw[yR x.2,idZ_size])]at hB4;refine hK _ _ ?_;clear hK K;refine wpListIn_nil ?_
  refine hK0 _ _ (hm24.keepsOthers0.from _) hm24.keepsOthers0.walks ⟨⟨v,hm24.obj id hv,zV hrow hm24 (fun _ _=>id)⟩,hB.trans (hm24.below0.mono hB.size)⟩ ⟨W.heap.size,hB4,rfl⟩
 case body=>
  rintro l pre x a' W hl ⟨r,hr⟩ ⟨⟨v,hv,hrow⟩,hB⟩ ⟨Bx,hBx,rfl⟩ hlt;have hvc:=hv.cell;have hca:CellsAt W Bx 0 (qA x.1):=CellsAt.whole hBx;refine wpIn_block ?_
  refine wpIn_region_lit ?_;refine xN rfl rfl fun K hK=>?_;refine yS (xO 25 _ (by rfl) w.heap.size 0 (by rfl) v hvc _ underlying25 rfl) ?_;refine hK _ _ ?_
  clear hK K;refine xN rfl rfl fun K hK=>?_
  refine yS (exec_loadA 24 _ (by rfl) Bx 0 (by rfl) (qA x.1) hca _ underlying24 rfl 32 (by kernel_rfl) (yR x.2)) ?_;refine hK _ _ ?_;clear hK K;simp only[nmz]
  refine xN rfl rfl fun K hK=>?_
  refine qU 25 24 _ (.agg (qA x.1)) (.agg (qA (List.replicate 32 0))) 32 (by rfl) (by rfl) underlying25 (by kernel_rfl) (by omega) (by omega) (yR x.2) (fun w3 hB3 hm3 hs3=>?_)
  refine hK _ _ ?_;clear hK K;simp only[nmz];have hv3:Boxed w3 w.heap.size 25 v:=hm3.obj id hv;have hrow3:=zV hrow hm3 (fun _ _=>id)
  have hb3:=hm3.below0.mono hB.size;have hsz:=hB.size;have hplen:=hlt;refine xN rfl rfl fun K hK=>?_
  refine wp_append _ _ 25 24 (.agg (qA (List.replicate 32 0))) 32 32 (by rfl) underlying25 id_i (by kernel_rfl) (by omega) w.heap.size v pre.length (pre.flatMap idLS) (by rfl) hrow3 (.slice (some ⟨W.heap.size,0,none⟩) 1 1) 1 (idLS x) (by rfl) ⟨by simp[idLS_len],_,_,rfl,fun _=>⟨W.heap.size,0,rfl,fun j y hj=>?_⟩⟩ (idLS_one x) (by unfold maxLen;omega) (by omega) (by omega) (fun v' w4 hrow4 hg4 hv4=>?_)
  ·have:(qA x.1)[j]?=some y:=by simpa[idLS]using hj
   exact(CellsAt.whole hB3).cell this
  have hne:some w.heap.size≠v.ownBlock:=hv.not_row (by decide) hrow;have hbx4:Boxed w4 w.heap.size 25 v:=hv3.kept hg4 hne
  have hv1:v'.oneCell'=true:=by
   rcases hrow4.2 with⟨rfl,_⟩|⟨g,cap,cur,rfl,_⟩<;>rfl
  refine hK _ _ ?_;clear hK K;simp only[nmz];refine xN rfl rfl fun K hK=>?_
  refine qT 25 _ _ w.heap.size 0 v' (by rfl) (by rfl) (by rfl) hv1 (by kernel_rfl) _ _ hbx4 (by simp) (fun w5 hB5 hm5=>?_);replace hB5:Boxed w5 w.heap.size 25 v':=hB5
  refine hK _ _ ?_;clear hK K;refine wpListIn_nil ?_;have hne':some w.heap.size≠v'.ownBlock:=hbx4.not_row (by decide) hrow4
  have hrow5:=zV hrow4 hm5 (fun k hk e=>hne' (by rw[hk,e]))
  have hk4:KeepsOthers w3 w4:=KeepsOthers.of_grownBy hg4 (fun j o hj ho=>by
   rcases hrow3.2 with⟨rfl,_⟩|⟨g,cap,cur,rfl,_,hg,_⟩
   ·cases hj
   ·have e:g=j:=by simpa[Value.ownBlock]using hj
    subst e;rw[hg]at ho;cases ho;rfl)
  have hk5:KeepsOthers w4 w5:=hm5.keepsOthers (fun k o e ho=>by rw[e,hbx4]at ho;cases ho;rfl);have hko:=(hm3.keepsOthers0.trans hk4).trans hk5
  have hb4:Below w.heap.size w w4:=(hB.trans hb3).grown hg4 (by have:=hm3.size;omega) (fun k e=>(hrow3.lt k e).1)
  have hb5:Below w.heap.size w w5:=hb4.trans ⟨hm5.os,hm5.tape,hm5.output,hm5.size,fun k hk=>hm5.block k (by have:=hb4.size;omega) (fun e=>by have e:k=w.heap.size:=e;omega)⟩
  exact⟨hko.from _,hko.walks,⟨_,hB5,by simpa using hrow5⟩,hb5⟩
 case done=>
  rintro D ks W hD hks ⟨⟨v,hv,hrow⟩,hB⟩ hK;have hvc:=hv.cell
  gi_wp2
  refine⟨by simp,.inl ⟨_,_,rfl,run_takeDeferred hK,?_⟩⟩
  exact⟨_,results_tmp rfl _ _ _,v,ks,rfl,hks,ownsRow_putObj hrow _ hK rfl,hB.trans (belowK_b (w:=w) (Nat.le_refl _) W D _ _ (by omega) hK rfl rfl)⟩
 case stop=>
  rintro D c pre W _ _ h _;exact h.elim
theorem collectI_any(n:Nat)(hn:3<=n)(g:Nat)(lb:Array Value)(eg:∀args w,(callFunc g args).run prog w=.ok (.enter g args) w)(S Sp:List IdS->Prop)(N:Nat)(hN:N<=65536)(w:World)(hseq:SeqStopsK Fence.wide (n-1) prog g lb (fun k:IdS=>#[idES k]) KeepsWalks S Sp N w):
 Calls prog 214 #[.func (.func g) #[] lb] w fun e w'=>∃v ks,e=.returned v/\S ks/\w'.ownsRow w.heap.size 24 32 v ks.length (ks.flatMap idLS)/\Below w.heap.size w w':=by
 go_enter func214,ntmps214;go_wp2_with (go_at_call 246;refine(appendSeqI_any n hn g lb eg S Sp N hN _ hseq).mono ?_;rintro _ w1 ⟨v,ks,rfl,h1,h2,h3⟩);go_ret
 exact⟨v,ks,rfl,h1,h2,h3⟩
theorem isAggId(w:World):(isAgg 24).run prog w=.ok true w:=by
 unfold isAgg;rw[Sem.run_bind,run_underlying underlying24 w];rfl
def cfI(a b:IdS):Int:=cmpI a.1 b.1
theorem cfI_neg(a b:IdS):cfI a b<0↔a.1<b.1:=cmpI_neg _ _
theorem swoI:SWO (ltOf cfI):=swo_of cfI_neg (fun a=>List.lt_irrefl a.1) ltB_trans (fun a b=>by
 rcases ltB_tri a.1 b.1 with h|h|h
 ·exact .inl h
 ·exact .inr (.inl (Subtype.ext h))
 ·exact .inr (.inr h))
theorem sizeId(w:World):(Go.sizeOf 24).run prog w=.ok 32 w:=sizeOf_of (by kernel_rfl) w
def yH(ks:List IdS):List IdS:=ks.mergeSort fun x y=> !(ltOf cfI) y x
theorem sortIS_perm(ks:List IdS):(yH ks).Perm ks:=List.mergeSort_perm _ _
theorem sortIS_sorted{ks:List IdS}(hn:ks.Nodup):(yH ks).Pairwise (fun a b=>a.1<b.1):=by
 have hlt:∀a b:IdS,(!(ltOf cfI) b a)=true↔¬b.1<a.1:=fun a b=>by simp[ltOf,cfI_neg]
 have h:=List.pairwise_mergeSort (le:=fun x y=> !(ltOf cfI) y x) (fun a b c h1 h2=>by
  rw[hlt]at*;intro h
  rcases ltB_tri a.1 b.1 with h3|h3|h3
  ·exact h2 (ltB_trans h h3)
  ·rw[h3]at h;exact h2 h
  ·exact h1 h3) (fun a b=>by
  rw[Bool.or_eq_true,hlt,hlt]
  by_cases h:b.1<a.1
  ·exact .inr fun h'=>List.lt_irrefl _ (ltB_trans h h')
  ·exact .inl h) ks
 have hn2:(ks.mergeSort fun x y=> !(ltOf cfI) y x).Nodup:=(List.mergeSort_perm _ _).nodup_iff.2 hn;refine(h.and hn2).imp fun{a b} hab=>?_;have h1:=(hlt a b).1 hab.1
 rcases ltB_tri a.1 b.1 with h2|h2|h2
 ·exact h2
 ·exact absurd (Subtype.ext h2) hab.2
 ·exact absurd h2 h1
theorem cmpLaysI(g off size:Nat)(w:World):CmpLays prog 35 #[] idLS 32 cfI g off size w:=by
 intro m os dk _ x y;have h:=shaCompare_any x.1 y.1 x.2 y.2 (sortWorldK idLS 32 w g off m dk os)
 have e:(#[.agg (idLS x).toArray,.agg (idLS y).toArray]++#[]:Array Value)=#[.agg (qA x.1),.agg (qA y.1)]:=by simp[idLS]
 rw[e];refine h.mono ?_;rintro _ w' ⟨rfl,q,os',rfl⟩;exact⟨rfl,q,os',rfl⟩
theorem sortFuncI_any(v:Value)(ks:List IdS)(w:World)(base:Nat)(h:w.ownsRow base 24 32 v ks.length (ks.flatMap idLS))(hlen:ks.length<=65536):
 Calls prog 215 #[v,.func (.func 35) #[] #[]] w fun e w'=>e=.returned (.tuple #[])/\Mod (fun j=>v.ownBlock=some j) w w'/\w'.ownsRow base 24 32 v ks.length ((yH ks).flatMap idLS):=by
 rcases h.2 with⟨rfl,h0⟩|⟨g,cap,cur,rfl,hb,hg,hc,hm,hcs,ht⟩
 ·have:ks=[]:=List.eq_nil_of_length_eq_zero h0
  subst this;refine(AnyF.slices_SortFunc_none sortI none 0 _ w).mono ?_;rintro _ _ ⟨rfl,rfl⟩;have e:yH []=[]:=by simp[yH]
  rw[e];exact⟨rfl,Mod.refl _ _,by simp,.inl ⟨rfl,rfl⟩⟩
 ·have hH:HoldsK idLS 32 w g 0 ks.toArray:=holdsK_of_cells idLS_len (by omega) hg ht
  have hlt:g<w.heap.size:=(Array.getElem?_eq_some_iff.1 hg).1
  have hs:=AnyQ.slices_SortFunc_total sortI 32 isAggId sizeId idLS idLS_len idLS_one cfI swoI 35 #[] g 0 cap ks.toArray w (enters_of func35 (by kernel_rfl) rfl) (cmpLaysI g 0 _ w) hH hlt (by simp;omega) (fun x y h1 h2=>by
   simp only[ltOf,decide_eq_false_iff_not,cfI_neg]at h1 h2
   rcases ltB_tri x.1 y.1 with h|h|h
   ·exact absurd h h1
   ·exact Subtype.ext h
   ·exact absurd h h2)
  have e:ks.toArray.size=ks.length:=by simp
  rw[e]at hs;refine hs.mono ?_;rintro _ w' ⟨rfl,n,os,rfl⟩;have hM:Mod (fun j=>j=g) w (sortWorldK idLS 32 w g 0 n (yH ks).toArray os):=mod_sortWorldK
  have hH':=holdsK_sortWorldK_c idLS 32 w g 0 ks.toArray (yH ks).toArray n os hH hlt (by simp[(sortIS_perm ks).length_eq])
  refine⟨rfl,hM.mono (fun j _ e=>by subst e;rfl),?_⟩;have hl:(yH ks).length=ks.length:=(sortIS_perm ks).length_eq
  have key:(sortWorldK idLS 32 w g 0 n (yH ks).toArray os).ownsRow base 24 32 (.slice (some ⟨g,0,none⟩) ks.length cap) ks.length ((yH ks).flatMap idLS):=by
   obtain⟨cur',hg',hcs'⟩:∃cur',(sortWorldK idLS 32 w g 0 n (yH ks).toArray os).heap[g]?=some (.cells cur' 24 (0,0))/\cur'.size=cur.size:=by
    refine⟨putCells id 0 (flatK idLS 32 (yH ks).toArray) cur,?_,by simp[putCells]⟩
    show((mapBlock (Sort.ahead w n) g (putCells id 0 (flatK idLS 32 (yH ks).toArray))).heap++os)[g]?=_
    rw[Array.getElem?_append_left (by simpa[mapBlock,Sort.ahead]using hlt)]
    show((Sort.ahead w n).heap.modify g _)[g]?=_
    have hga:(Sort.ahead w n).heap[g]?=some (.cells cur 24 (0,0)):=hg;rw[Array.getElem?_modify,if_pos rfl,hga]
    rfl
   generalize sortWorldK idLS 32 w g 0 n (yH ks).toArray os=w9 at hH' hg' |-;have hfl:((yH ks).flatMap idLS).length=ks.length*32:=by rw[len_enc idLS_len,hl]
   have hle:ks.length*32<=cur'.toList.length:=by
    have h1:cur'.toList.length=cur'.size:=Array.length_toList;rw[h1,hcs',hcs];exact Nat.mul_le_mul_right _ hc
   refine⟨hfl,.inr ⟨g,cap,cur',rfl,hb,hg',hc,hm,by rw[hcs'];exact hcs,?_⟩⟩
   apply List.ext_getElem?
   intro t
   rcases Nat.lt_or_ge t (ks.length*32)with hlt'|hge
   ·rw[List.getElem?_take_of_lt hlt']
    have hi:t/32<(yH ks).length:=by rw[hl];exact Nat.div_lt_of_lt_mul (by rw[Nat.mul_comm];exact hlt')
    have hm32:t%32<32:=Nat.mod_lt _ (by omega);have hfe:=flat_enc idLS_len (yH ks) (t/32) hi (t%32) hm32;rw[Nat.mul_comm,Nat.div_add_mod]at hfe;rw[hfe]
    have hc9:=(hH' t (by simp[hl];exact hlt')).1;rw[Nat.zero_add,cell_of_row w9 g _ cur' 24 (0,0) hg']at hc9
    rw[Array.getElem?_toList,hc9,get_flatK _ _ _ _ (by simp[hl];exact hlt')];have e1:(yH ks).toArray[t/32]! =(yH ks)[t/32]:=by simp[hi]
    rw[e1];have e2:t%32<(idLS (yH ks)[t/32]).length:=by rw[idLS_len];exact hm32
    rw[List.getElem?_eq_getElem e2]
    show some ((idLS (yH ks)[t/32])[t%32]!)=some _
    rw[getElem!_pos (idLS (yH ks)[t/32]) (t%32) e2]
   ·rw[List.getElem?_eq_none (l:=cur'.toList.take (ks.length*32)) (by rw[List.length_take];omega),List.getElem?_eq_none (by rw[hfl];exact hge)]
  exact key
theorem sortedI_of{n:Nat}(hn:3<=n)(g:Nat)(lb:Array Value)(eg:∀args w,(callFunc g args).run prog w=.ok (.enter g args) w)(S Sp:List IdS->Prop)(N:Nat)(hN:N<=65536)(w:World)(hseq:SeqStopsK Fence.wide (n-1) prog g lb (fun k:IdS=>#[idES k]) KeepsWalks S Sp N w)(hSN:∀ks,S ks->ks.length<=65536):
 Calls prog 160 #[.func (.func g) #[] lb,.func (.func 35) #[] #[]] w (fun e w'=>∃v ks,e=.returned v/\S ks/\Mod NoB w w'/\w'.ownsRow w.heap.size 24 32 v ks.length ((yH ks).flatMap idLS)):=by
 have hc:=collectI_any n hn g lb eg S Sp N hN w hseq;go_enter func160,ntmps160;go_upto_region 2 with(go_at_call 214;refine hc.mono ?_;rintro _ w2 ⟨v,ks,rfl,hS,hrow,hb⟩)
 have hf:=sortFuncI_any v ks w2 _ hrow (hSN ks hS);have hvb:=hrow.lt;have hM2:=Mod.of_below0 hb;clear hrow hb hc hseq;refine wpR [3,3,1] ?_;simp only[stz]
 refine wpDo rfl ?_;go_wp2_with (go_at_call 215;refine hf.mono ?_;rintro _ w3 ⟨rfl,hm3,hsl⟩);simp only[stz];go_wp2;go_ret
 exact⟨v,ks,rfl,hS,hM2.trans hm3 (fun k hk e=>by have:=(hvb k e).1;omega),hsl⟩
theorem idLS_flat(ks:List IdS):ks.flatMap idLS=(ks.map (·.1)).flatMap idE:=by
 rw[List.flatMap_map]
 congr 1
 funext x
 show idL x.1=if x.1.length=32 then idL x.1 else List.replicate 32 (byteV 0)
 rw[if_pos (show x.1.length=32 from x.2)]
end
section
open Go.Proofs.Tryz Go.Lib
abbrev BlobM:=List (List UInt8×List UInt8)
def xL(c:BlobM)(id:List UInt8):Option (List DescL):=match getL id c with
 |none=>none
 |some b=>(decL b).map zE
def xK(d:DescL):Bool:=d.media==3||d.media==4
def inR(c:BlobM):Nat->List UInt8->Nat->List UInt8->Prop
 |0,_,_,_=>False
 |f+1,id,depth,x=>x=id\/depth<=4/\∃ds,xL c id=some ds/\∃d∈ds,if xK d then inR c f d.id (depth+1) x else x=d.id
abbrev Marks:=List (List UInt8×Nat)
def wasM(all:Marks)(id:List UInt8)(depth:Nat):Bool:=match getL id all with
 |none=>false
 |some k=>decide (0<k)&&decide (k<=depth)
def leafM(all:Marks)(id:List UInt8):Marks:=if(getL id all).isSome then all else putL id 0 all
def yE(c:BlobM):Nat->List UInt8->Nat->Marks->Marks
 |0,_,_,all=>all
 |f+1,id,depth,all=>
  if wasM all id depth then all
  else if 4<depth then putL id depth all
  else match xL c id with
   |none=>putL id depth all
   |some ds=>ds.foldl (fun all d=>if xK d then yE c f d.id (depth+1) all else leafM all d.id) (putL id depth all)
def LeM(a b:Marks):Prop:=∀x k,getL x a=some k->∃k',getL x b=some k'/\(0<k->0<k'/\k'<=k)
theorem LeM.refl(a:Marks):LeM a a:=fun _ k h=>⟨k,h,fun h=>⟨h,Nat.le_refl _⟩⟩
theorem LeM.trans{a b d:Marks}(h:LeM a b)(h':LeM b d):LeM a d:=fun x k hx=>by
 obtain⟨k1,h1,h2⟩:=h x k hx;obtain⟨k3,h3,h4⟩:=h' x k1 h1;exact⟨k3,h3,fun h0=>⟨(h4 (h2 h0).1).1,Nat.le_trans (h4 (h2 h0).1).2 (h2 h0).2⟩⟩
def DoneE(c:BlobM)(all:Marks)(x:List UInt8)(k:Nat):Prop:=k<=4->∀ds,xL c x=some ds->∀d∈ds,
 if xK d then ∃k',getL d.id all=some k'/\0<k'/\k'<=k+1 else(getL d.id all).isSome=true
theorem DoneE.mono{c:BlobM}{a b:Marks}{x:List UInt8}{k:Nat}(h:DoneE c a x k)(hl:LeM a b):DoneE c b x k:=fun hk ds hds d hd=>by
 have:=h hk ds hds d hd
 split at this
 ·rename_i ht
  rw[if_pos ht];obtain⟨k',h1,h2,h3⟩:=this;obtain⟨k2,h4,h5⟩:=hl _ _ h1;exact⟨k2,h4,(h5 h2).1,Nat.le_trans (h5 h2).2 h3⟩
 ·rename_i ht
  rw[if_neg ht];obtain⟨k',hk'⟩:=Option.isSome_iff_exists.1 this;obtain⟨k2,h4,_⟩:=hl _ _ hk';rw[h4];rfl
theorem putL_le{all:Marks}{id:List UInt8}{depth:Nat}(h0:0<depth)(h:wasM all id depth=false):LeM all (putL id depth all):=fun x k hx=>by
 rw[getL_put]
 split
 ·rename_i e
  subst e;refine⟨depth,rfl,fun hk=>⟨h0,?_⟩⟩;simp only[wasM,hx,Bool.and_eq_false_iff,decide_eq_false_iff_not]at h;omega
 ·exact⟨k,hx,fun h=>⟨h,Nat.le_refl _⟩⟩
theorem leafM_le(all:Marks)(id:List UInt8):LeM all (leafM all id):=fun x k hx=>by
 unfold leafM
 split
 ·exact⟨k,hx,fun h=>⟨h,Nat.le_refl _⟩⟩
 ·rename_i hn
  rw[getL_put]
  split
  ·rename_i e;subst e;rw[hx]at hn;exact absurd rfl hn
  ·exact⟨k,hx,fun h=>⟨h,Nat.le_refl _⟩⟩
theorem leafM_has(all:Marks)(id:List UInt8):(getL id (leafM all id)).isSome=true:=by
 unfold leafM
 split
 ·assumption
 ·rw[getL_put,if_pos rfl];rfl
def NewDone(c:BlobM)(a b:Marks):Prop:=∀x k,getL x b=some k->0<k->DoneE c b x k\/getL x a=some k
theorem NewDone.trans{c:BlobM}{a b d:Marks}(h:NewDone c a b)(h':NewDone c b d)(hl:LeM b d):NewDone c a d:=fun x k hx hk=>by
 rcases h' x k hx hk with h1|h1
 ·exact .inl h1
 ·rcases h x k h1 hk with h2|h2
  ·exact .inl (h2.mono hl)
  ·exact .inr h2
theorem leafM_new(c:BlobM)(all:Marks)(id:List UInt8):NewDone c all (leafM all id):=fun x k hx hk=>by
 unfold leafM at hx
 split at hx
 ·exact .inr hx
 ·rw[getL_put]at hx
  split at hx
  ·simp only[Option.some.injEq]at hx;omega
  ·exact .inr hx
theorem leafM_keys(all:Marks)(id x:List UInt8):(getL x (leafM all id)).isSome=true↔(getL x all).isSome=true\/x=id:=by
 unfold leafM
 split
 ·rename_i h
  exact⟨.inl,fun h'=>h'.elim (fun h=>h) (fun e=>by rw[e];exact h)⟩
 ·rw[getL_put]
  split<;>simp_all
structure ReachOk(c:BlobM)(f:Nat)(id:List UInt8)(depth:Nat)(a b:Marks):Prop where
 le:LeM a b
 own:∃k,getL id b=some k/\0<k/\k<=depth
 new:NewDone c a b
 keys:∀x,(getL x b).isSome=true->(getL x a).isSome=true\/inR c f id depth x
theorem reach_ok(c:BlobM):∀(f:Nat)(id:List UInt8)(depth:Nat)(all:Marks),0<depth->depth+f=6->0<f->ReachOk c f id depth all (yE c f id depth all)
 |0,_,_,_,_,_,h=>by omega
 |f+1,id,depth,all,h0,hf,_=>by
  unfold yE
  by_cases hw:wasM all id depth=true
  ·rw[if_pos hw]
   refine⟨.refl _,?_,fun x k hx _=>.inr hx,fun x hx=>.inl hx⟩;unfold wasM at hw
   split at hw
   ·cases hw
   ·rename_i k hk
    simp only[Bool.and_eq_true,decide_eq_true_eq]at hw;exact⟨k,hk,hw.1,hw.2⟩
  ·rw[if_neg hw]
   simp only[Bool.not_eq_true]at hw;have hle:=putL_le h0 hw;have hown:getL id (putL id depth all)=some depth:=by rw[getL_put,if_pos rfl]
   have hkeys:∀x,(getL x (putL id depth all)).isSome=true->(getL x all).isSome=true\/x=id:=fun x hx=>by
    rw[getL_put]at hx
    split at hx
    ·rename_i e;exact .inr e
    ·exact .inl hx
   have hstop:∀(hd:4<depth\/xL c id=none),ReachOk c (f+1) id depth all (putL id depth all):=fun hd=>
    ⟨hle,⟨depth,hown,h0,Nat.le_refl _⟩,fun x k hx hk=>by
     rw[getL_put]at hx
     split at hx
     ·rename_i e
      subst e;simp only[Option.some.injEq]at hx;subst hx
      left
      intro h4 ds hds
      rcases hd with hd|hd
      ·omega
      ·rw[hd]at hds;cases hds
     ·exact .inr hx,fun x hx=>(hkeys x hx).imp_right fun e=>.inl e⟩
   by_cases hd:4<depth
   ·rw[if_pos hd];exact hstop (.inl hd)
   ·rw[if_neg hd]
    cases hds:xL c id with
    |none=>exact hstop (.inr hds)
    |some ds=>
     dsimp only
     have hfold:∀(ds':List DescL)(all1:Marks),(∀d∈ds',d∈ds)->
      LeM all1 (ds'.foldl (fun all d=>if xK d then yE c f d.id (depth+1) all else leafM all d.id) all1)/\
      NewDone c all1 (ds'.foldl (fun all d=>if xK d then yE c f d.id (depth+1) all else leafM all d.id) all1)/\
      (∀d∈ds',if xK d then ∃k',getL d.id (ds'.foldl (fun all d=>if xK d then yE c f d.id (depth+1) all else leafM all d.id) all1)=some k'/\0<k'/\k'<=depth+1
       else(getL d.id (ds'.foldl (fun all d=>if xK d then yE c f d.id (depth+1) all else leafM all d.id) all1)).isSome=true)/\
      (∀x,(getL x (ds'.foldl (fun all d=>if xK d then yE c f d.id (depth+1) all else leafM all d.id) all1)).isSome=true->(getL x all1).isSome=true\/inR c (f+1) id depth x):=by
      intro ds'
      induction ds' with
      |nil=>exact fun all1 _=>⟨.refl _,fun x k hx _=>.inr hx,(fun d hd=>by cases hd),fun x hx=>.inl hx⟩
      |cons d ds' ih=>
       intro all1 hsub;rw[List.foldl_cons];have hdm:d∈ds:=hsub d (by simp)
       have hone:∃all2,(if xK d then yE c f d.id (depth+1) all1 else leafM all1 d.id)=all2/\LeM all1 all2/\NewDone c all1 all2/\
        (if xK d then ∃k',getL d.id all2=some k'/\0<k'/\k'<=depth+1 else(getL d.id all2).isSome=true)/\(∀x,(getL x all2).isSome=true->(getL x all1).isSome=true\/inR c (f+1) id depth x):=by
        refine⟨_,rfl,?_⟩
        by_cases ht:xK d=true
        ·simp only[ht,if_true]
         have hr:=reach_ok c f d.id (depth+1) all1 (by omega) (by omega) (by omega)
         exact⟨hr.le,hr.new,hr.own,fun x hx=>(hr.keys x hx).imp_right fun hi=>.inr ⟨by omega,ds,hds,d,hdm,by rw[if_pos ht];exact hi⟩⟩
        ·simp only[ht,Bool.false_eq_true,if_false]
         refine⟨leafM_le _ _,leafM_new _ _ _,leafM_has _ _,fun x hx=>?_⟩
         rcases(leafM_keys _ _ _).1 hx with hx|hx
         ·exact .inl hx
         ·exact .inr (.inr ⟨by omega,ds,hds,d,hdm,by rw[if_neg ht];exact hx⟩)
       obtain⟨all2,h1,h2,h3,h4,h5⟩:=hone;rw[h1];obtain⟨k1,k2,k3,k4⟩:=ih all2 (fun d hd=>hsub d (by simp[hd]))
       refine⟨h2.trans k1,h3.trans k2 k1,fun e he=>?_,fun x hx=>(k4 x hx).elim (h5 x) .inr⟩
       rcases List.mem_cons.1 he with rfl|he
       ·split at h4
        ·rename_i ht
         rw[if_pos ht];obtain⟨k',g1,g2,g3⟩:=h4;obtain⟨k'',g4,g5⟩:=k1 _ _ g1;exact⟨k'',g4,(g5 g2).1,Nat.le_trans (g5 g2).2 g3⟩
        ·rename_i ht
         rw[if_neg ht];obtain⟨k',hk'⟩:=Option.isSome_iff_exists.1 h4;obtain⟨k2',g4,_⟩:=k1 _ _ hk';rw[g4];rfl
       ·exact k3 e he
     obtain⟨k1,k2,k3,k4⟩:=hfold ds (putL id depth all) (fun _ h=>h);refine⟨hle.trans k1,?_,fun x k hx hk=>?_,fun x hx=>?_⟩
     ·obtain⟨k',g1,g2⟩:=k1 _ _ hown
      exact⟨k',g1,(g2 h0).1,(g2 h0).2⟩
     ·rcases k2 x k hx hk with h1|h1
      ·exact .inl h1
      ·rw[getL_put]at h1
       split at h1
       ·rename_i e
        subst e;simp only[Option.some.injEq]at h1;subst h1
        left
        intro _ ds' hds' d hd;rw[hds]at hds';cases hds';exact k3 d hd
       ·exact .inr h1
     ·rcases k4 x hx with h1|h1
      ·exact(hkeys x h1).imp_right fun e=>.inl e
      ·exact .inr h1
def Closed(c:BlobM)(all:Marks):Prop:=∀x k,getL x all=some k->0<k->DoneE c all x k
theorem closed_in{c:BlobM}{all:Marks}(h:Closed c all):∀(f:Nat)(id:List UInt8)(depth k:Nat)(x:List UInt8),getL id all=some k->0<k->k<=depth->inR c f id depth x->(getL x all).isSome=true
 |0,_,_,_,_,_,_,_,hi=>hi.elim
 |f+1,id,depth,k,x,hg,h0,hk,hi=>by
  rcases hi with rfl|⟨h4,ds,hds,d,hd,hx⟩
  ·rw[hg];rfl
  ·have:=h id k hg h0 (by omega) ds hds d hd
   split at hx
   ·rename_i ht
    rw[if_pos ht]at this;obtain⟨k',h1,h2,h3⟩:=this;exact closed_in h f d.id (depth+1) k' x h1 h2 (by omega) hx
   ·rename_i ht
    rw[if_neg ht]at this;rw[hx];exact this
theorem reach_closed{c:BlobM}{all:Marks}(h:Closed c all)(id:List UInt8):Closed c (yE c 5 id 1 all):=fun x k hx hk=>by
 have hr:=reach_ok c 5 id 1 all (by omega) (by omega) (by omega)
 rcases hr.new x k hx hk with h1|h1
 ·exact h1
 ·exact(h x k h1 hk).mono hr.le
theorem reach_keys{c:BlobM}{all:Marks}(h:Closed c all)(id x:List UInt8):(getL x (yE c 5 id 1 all)).isSome=true↔(getL x all).isSome=true\/inR c 5 id 1 x:=by
 have hr:=reach_ok c 5 id 1 all (by omega) (by omega) (by omega);refine⟨hr.keys x,fun hx=>?_⟩
 rcases hx with hx|hx
 ·obtain⟨k,hk⟩:=Option.isSome_iff_exists.1 hx
  obtain⟨k',h1,_⟩:=hr.le _ _ hk;rw[h1];rfl
 ·obtain⟨k,h1,h2,h3⟩:=hr.own
  exact closed_in (reach_closed h id) 5 id 1 k x h1 h2 h3 hx
def MarkOf(c:BlobM)(roots l:List (List UInt8)):Prop:=l.Pairwise (fun a b=>a<b)/\∀x,x∈l↔∃r∈roots,inR c 5 r 1 x
def marksL(c:BlobM)(roots:List (List UInt8)):Marks:=roots.foldl (fun all id=>yE c 5 id 1 all) []
theorem marks_keys(c:BlobM)(roots:List (List UInt8)):∀x,(getL x (marksL c roots)).isSome=true↔∃r∈roots,inR c 5 r 1 x:=by
 have key:∀(roots:List (List UInt8))(all:Marks),Closed c all->∀x,(getL x (roots.foldl (fun all id=>yE c 5 id 1 all) all)).isSome=true↔(getL x all).isSome=true\/∃r∈roots,inR c 5 r 1 x:=by
  intro roots
  induction roots with
  |nil=>intro all _ x;simp
  |cons r roots ih=>
   intro all ha x;rw[List.foldl_cons,ih _ (reach_closed ha r) x,reach_keys ha]
   simp[or_assoc]
 intro x;have:=key roots [] (fun x k h=>by cases h) x
 simpa[marksL,getL]using this
end
section
open Go.RowKit Go.Shelf Go.Proofs.Tryz Go.Lib
def zX(m:Nat)(x:List UInt8)(n:Nat)(p:List UInt8):Array Value:=(.int .i64 m::(x.map byteV++[.int .i64 n,.string ⟨p.toArray⟩])).toArray
def qB(d:DescL):Array Value:=zX d.media d.id d.size d.plat
theorem qO{m:Nat}{x:List UInt8}{n:Nat}{p:List UInt8}(h:x.length=32):(zX m x n p).size=35:=by simp[zX,h]
theorem zJ(m:Nat)(x:List UInt8)(n:Nat)(p:List UInt8):∀c∈zX m x n p,c.oneCell'=true:=by
 intro c hc;simp only[zX,List.mem_toArray,List.mem_cons,List.mem_append,List.mem_map,List.not_mem_nil,or_false]at hc
 rcases hc with rfl|⟨x,_,rfl⟩|rfl|rfl<;>rfl
theorem descRow_put0(m k:Nat)(x:List UInt8)(n:Nat)(p:List UInt8):(zX m x n p).setIfInBounds 0 (.int .i64 k)=zX k x n p:=by
 apply Array.toList_inj.1
 simp[zX]
theorem descRow_put1{m:Nat}{x y:List UInt8}{n:Nat}{p:List UInt8}(hx:x.length=32)(hy:y.length=32):qZ (zX m x n p) 1 (qA y)=zX m y n p:=by
 apply Array.toList_inj.1
 simp[zX,qZ,qA,hx,hy]
theorem descRow_put33{m k:Nat}{x:List UInt8}{n:Nat}{p:List UInt8}(hx:x.length=32):(zX m x n p).setIfInBounds 33 (.int .i64 k)=zX m x k p:=by
 apply Array.toList_inj.1
 simp[zX,hx]
theorem descRow_put34{m:Nat}{x:List UInt8}{n:Nat}{p q:List UInt8}(hx:x.length=32):(zX m x n p).setIfInBounds 34 (.string ⟨q.toArray⟩)=zX m x n q:=by
 apply Array.toList_inj.1
 simp[zX,hx]
theorem descZ_i:(prog.info? 46).bind (·.zero)=some (.agg (qB descZ)):=by kernel_rfl
theorem zeros32_len:zeros32.length=32:=by simp[zeros32]
theorem cell0{w:World}{b:Nat}{v u:Value}{T:TypeId}{fz:Nat×Nat}(h:w.heap[b]?=some (.cells #[v,u] T fz)):w.cell? ⟨b,0,none⟩=some v:=by simp[World.cell?,h]
section
variable{w:World}{rb wb:Nat}{bv:Value}{b:List UInt8}{a:Nat}{e p:Int}
theorem RdS.obj{w1 w2:World}{s:RS}{n:Nat}{o:Obj}(h:RdS w1 w2 rb wb bv b s)(hn:n≠rb/\n≠wb)(hc:w1.heap[n]?=some o):w2.heap[n]?=some o:=h.2.obj (fun e=>e.elim hn.1 hn.2) hc
def DescR(w:World)(rb wb:Nat)(bv:Value)(b:List UInt8)(d:DescL)(s:RS):Ending->World->Prop:=fun x w'=>RdS w w' rb wb bv b s/\x=.returned (.agg (qB d))
theorem mDesc_any(h:RdI w rb wb bv b a e p)(size:Int):Calls prog 242 #[.agg #[.pointer (some ⟨rb,0,none⟩),.int .i64 size]] w (DescR w rb wb bv b (zS b (stOf a e)).1 (zS b (stOf a e)).2):=by
 have hall:=h.all;have hrl:=h.lts;obtain⟨m,hm⟩:∃m,rNumL b (stOf a e)=m:=⟨_,rfl⟩;obtain⟨i,hi⟩:∃i,rIDL b m.2=i:=⟨_,rfl⟩
 obtain⟨n,hn⟩:∃n,rNumL b i.2=n:=⟨_,rfl⟩;obtain⟨t,ht⟩:∃t,xD b 4096 n.2=t:=⟨_,rfl⟩
 have hd:zS b (stOf a e)=(⟨m.1,i.1,n.1,t.1⟩,t.2):=by unfold zS;simp only[hm,hi,hn,ht]
 rw[hd];have hnum:=fun(w':World)(a':Nat)(e' p':Int)(h':RdI w' rb wb bv b a' e' p')=>rNum_any h'
 have HN1:Hid (∀w',RdS w w' rb wb bv b (stOf a e)->Calls prog 240 #[.pointer (some ⟨rb,0,none⟩)] w' (NumR w' rb wb bv b m.1 m.2)):=hid (fun w' hw'=>by
  obtain⟨⟨a',e',p',h',hs⟩,-⟩:=hw';have:=rNum_any h'
  rwa[hs,hm]at this)
 have HN2:Hid (∀w',RdS w w' rb wb bv b m.2->Calls prog 284 #[.pointer (some ⟨rb,0,none⟩)] w' (IDR w' rb wb bv b i.1 i.2)):=hid (fun w' hw'=>by
  obtain⟨⟨a',e',p',h',hs⟩,-⟩:=hw';have:=rID_any h'
  rwa[hs,hi]at this)
 have HN3:Hid (∀w',RdS w w' rb wb bv b i.2->Calls prog 240 #[.pointer (some ⟨rb,0,none⟩)] w' (NumR w' rb wb bv b n.1 n.2)):=hid (fun w' hw'=>by
  obtain⟨⟨a',e',p',h',hs⟩,-⟩:=hw';have:=rNum_any h'
  rwa[hs,hn]at this)
 have HN4:Hid (∀w',RdS w w' rb wb bv b n.2->Calls prog 241 #[.pointer (some ⟨rb,0,none⟩),.int .i64 (4096:Nat)] w' (TextR w' rb wb bv b t.1 t.2)):=hid (fun w' hw'=>by
  obtain⟨⟨a',e',p',h',hs⟩,-⟩:=hw';have:=rText_any h' 4096 (Nat.le_refl _)
  rwa[hs,ht]at this)
 have hil:i.1.length=32:=by
  have:=(rIDL_ok (b:=b) (s:=m.2) (by rw[<-hm];exact rNumL_ok.1)).2
  rwa[hi]at this
 have HR0:Hid (RdS w w rb wb bv b (stOf a e)):=hid h.stay;have hzl:=zeros32_len;have his:(qA i.1).size=32:=by rw[qD,hil]
 obtain⟨m,s1⟩:=m;obtain⟨i,s2⟩:=i;obtain⟨n,s3⟩:=n;obtain⟨t,s4⟩:=t
 dsimp only at HN1 HN2 HN3 HN4 hil his |-
 clear h hm hi hn ht hd hnum;go_enter func242,ntmps242;go_upto_region 0 with(fail);refine wpR [1,1] ?_;simp only[stz]
 refine wpD (zT 307 _ _ (by rfl) (by rfl) (fun wx hBx hmx hsx=>?_))
 replace hBx:wx.heap[w.heap.size]?=some (.cells #[.pointer (some ⟨rb,0,none⟩),.int .i64 size] 307 (0,0)):=hBx;try simp only[nmz]
 refine wpD (qP 46 _ (by rfl) descZ_i (fun w1 hB1 hm1 hs1=>?_));replace hB1:w1.heap[wx.heap.size]?=some (.cells (qB descZ) 46 (0,0)):=hB1;simp only[stz]
 have hA1:=hm1.obj id hBx;have hb12:w.heap.size<wx.heap.size:=hsx;generalize hb1:w.heap.size=b1 at*;generalize hb2:wx.heap.size=b2 at*
 have HR1:Hid (RdS w w1 rb wb bv b (stOf a e)):=hid (by
  obtain⟨⟨a',e',p',h',hs⟩,-⟩:=HR0.out
  exact⟨⟨a',e',p',h'.keep0 (hmx.trans0 hm1),hs⟩,(hmx.trans0 hm1).mono (fun _ _ h=>h.elim)⟩)
 have HC1:=hid (cell0 hA1);replace hB1:w1.heap[b2]?=some (.cells (zX 0 zeros32 0 []) 46 (0,0)):=hB1
 replace hall:∀k,k=rb\/k=wb\/bv.ownBlock=some k->k<w.heap.size:=by rw[hb1];exact hall
 clear hmx hm1 HR0 hBx hsx hs1;go_upto_region 1 with(fail);refine wpR [3,1,1,3,1] ?_;simp only[stz]
 refine wpXd (v:=(.pointer (some ⟨rb,0,none⟩))) 304 b1 0 HC1.out underlying304 trivial ?_;try simp only[nmz]
 refine wpD (wpC func240 ((HN1.out _ HR1.out)) ?_);rintro e w1x ⟨rfl,hr⟩;have HR:=hid (HR1.out.trans hr);have HA:=hid (RdS.obj hr ⟨by omega,by omega⟩ hA1)
 have hB:=RdS.obj hr ⟨by omega,by omega⟩ hB1;clear hr;refine⟨_,rfl,?_⟩;simp only[stz]
 refine wpD (qT 3 _ _ b2 0 (.int .i64 m) (by rfl) (by rfl) (by rfl) rfl (by kernel_rfl) _ _ hB (by rw[qO hzl];omega) (fun w2 hB2 hmS=>?_))
 rw[descRow_put0]at hB2;have HR2:Hid (RdS w w2 rb wb bv b _):=hid (HR.out.keepN hall (Nat.le_refl _) hmS (by omega));have hA2:=hmS.objB (by omega) HA.out
 have HC2:=hid (cell0 hA2);clear hmS hB HA HR HR1 hA1 hB1 HC1;simp only[stz];go_upto_region 2 with(fail);refine wpR [3,1,1,3,1] ?_;simp only[stz]
 refine wpXd (v:=(.pointer (some ⟨rb,0,none⟩))) 304 b1 0 HC2.out underlying304 trivial ?_;try simp only[nmz]
 refine wpD (wpC func284 ((HN2.out _ HR2.out)) ?_);rintro e w2x ⟨hr,rfl⟩;have HR:=hid (HR2.out.trans hr);have HA:=hid (RdS.obj hr ⟨by omega,by omega⟩ hA2)
 have hB:=RdS.obj hr ⟨by omega,by omega⟩ hB2;clear hr;refine⟨_,rfl,?_⟩;simp only[stz]
 refine wpD (qF 24 _ _ b2 1 (qA i) (by rfl) (by rfl) (by rfl) (qR _) 32 (by kernel_rfl) his _ _ hB (by rw[qO hzl,his];omega) (fun w3 hB3 hmS=>?_))
 rw[descRow_put1 hzl hil]at hB3;have HR3:Hid (RdS w w3 rb wb bv b _):=hid (HR.out.keepN hall (Nat.le_refl _) hmS (by omega));have hA3:=hmS.objB (by omega) HA.out
 have HC3:=hid (cell0 hA3);clear hmS hB HA HR HR2 hA2 hB2 HC2;simp only[stz];go_upto_region 3 with(fail);refine wpR [3,1,1,3,1] ?_;simp only[stz]
 refine wpXd (v:=(.pointer (some ⟨rb,0,none⟩))) 304 b1 0 HC3.out underlying304 trivial ?_;try simp only[nmz]
 refine wpD (wpC func240 ((HN3.out _ HR3.out)) ?_);rintro e w3x ⟨rfl,hr⟩;have HR:=hid (HR3.out.trans hr);have HA:=hid (RdS.obj hr ⟨by omega,by omega⟩ hA3)
 have hB:=RdS.obj hr ⟨by omega,by omega⟩ hB3;clear hr;refine⟨_,rfl,?_⟩;simp only[stz]
 refine wpD (qT 3 _ _ b2 33 (.int .i64 n) (by rfl) (by rfl) (by rfl) rfl (by kernel_rfl) _ _ hB (by rw[qO hil];omega) (fun w4 hB4 hmS=>?_))
 rw[descRow_put33 hil]at hB4;have HR4:Hid (RdS w w4 rb wb bv b _):=hid (HR.out.keepN hall (Nat.le_refl _) hmS (by omega));have hA4:=hmS.objB (by omega) HA.out
 have HC4:=hid (cell0 hA4);clear hmS hB HA HR HR3 hA3 hB3 HC3;simp only[stz];go_upto_region 4 with(fail);refine wpR [3,1,1,3,1] ?_;simp only[stz]
 refine wpXd (v:=(.pointer (some ⟨rb,0,none⟩))) 304 b1 0 HC4.out underlying304 trivial ?_;try simp only[nmz]
 refine wpD (wpC func241 ((HN4.out _ HR4.out)) ?_);rintro e w4x ⟨hr,rfl⟩;have HR:=hid (HR4.out.trans hr);have HA:=hid (RdS.obj hr ⟨by omega,by omega⟩ hA4)
 have hB:=RdS.obj hr ⟨by omega,by omega⟩ hB4;clear hr;refine⟨_,rfl,?_⟩;simp only[stz]
 refine wpD (qT 9 _ _ b2 34 (.string ⟨t.toArray⟩) (by rfl) (by rfl) (by rfl) rfl (by kernel_rfl) _ _ hB (by rw[qO hil];omega) (fun w5 hB5 hmS=>?_))
 rw[descRow_put34 hil]at hB5;have HR5:Hid (RdS w w5 rb wb bv b _):=hid (HR.out.keepN hall (Nat.le_refl _) hmS (by omega));have hA5:=hmS.objB (by omega) HA.out
 have HC5:=hid (cell0 hA5);clear hmS hB HA HR HR4 hA4 hB4 HC4;simp only[stz];have hrs:=qO (m:=m) (n:=n) (p:=t) hil;have hone:=zJ m i n t
 go_upto_region 5 with(fail);refine wpR [1,1] ?_;simp only[stz];refine wpXA 46 b2 0 (zX m i n t) (CellsAt.whole hB5) underlying46 35 hrs trivial ?_;try simp only[nmz]
 refine wpD (qF 46 _ _ b2 0 (zX m i n t) (by rfl) (by rfl) (by rfl) hone 35 (by kernel_rfl) hrs _ _ hB5 (by omega) (fun w6 hB6 hm6=>?_))
 rw[qC (by rfl)]at hB6;have HR6:=hid (HR5.out.keepN hall (Nat.le_refl _) hm6 (by omega));clear hB5 hm6;simp only[stz];clear HC5 hA5;go_wp2
 refine bodyPost_ret (results_cell_row (P:=prog) (ty:=46) rfl _ _ b2 _ _ _ _ (by rfl) hB6 underlying46 rfl (by rw[hrs];kernel_rfl)) rfl ?_;exact⟨HR6.out,rfl⟩
end
def descE(d:DescL):List Value:=if d.id.length=32 then(qB d).toList else List.replicate 35 (.int .i64 0)
theorem xZ(d:DescL):(descE d).length=35:=by
 unfold descE
 split
 ·rename_i h;rw[Array.length_toList];exact qO h
 ·simp
theorem xY(d:DescL):∀c∈descE d,c.oneCell'=true:=by
 unfold descE
 split
 ·intro c hc;exact zJ _ _ _ _ c (by simpa[qB]using hc)
 ·intro c hc;rw[List.eq_of_mem_replicate hc];rfl
theorem jK{d:DescL}(h:d.id.length=32):(descE d).toArray=qB d:=by unfold descE;rw[if_pos h]
theorem desc_i:(prog.info? 46).map (fun i=>(i.zero,i.size,i.bytes))=some (some (.agg (qB descZ)),35,64):=by kernel_rfl
theorem desc_zs:(Value.agg (qB descZ)).cells.size=35:=by kernel_rfl
abbrev GatD(base:Nat)(w:World)(v:Value)(l:List DescL):Prop:=Gat descE 46 35 base w v l
section
variable{w:World}{rb wb:Nat}{bv:Value}{b:List UInt8}{a:Nat}{e p:Int}
theorem RdS.keepS{S:Nat->Prop}{w1 w2:World}{s:RS}(h:RdS w w1 rb wb bv b s)(h0:∀k,k=rb\/k=wb\/bv.ownBlock=some k->k<w.heap.size)(hm:Mod S w1 w2)(hS:∀k,S k->w.heap.size<=k):RdS w w2 rb wb bv b s:=by
 obtain⟨⟨a,e,p,hi,hst⟩,hM⟩:=h;refine⟨⟨a,e,p,hi.keep hm (fun e=>?_) (fun e=>?_) (fun k hk e=>?_),hst⟩,hM.trans hm (fun k hk e=>?_)⟩
 ·have:=hS _ e;have:=h0 rb (.inl rfl);omega
 ·have:=hS _ e;have:=h0 wb (.inr (.inl rfl));omega
 ·have:=hS _ e;have:=h0 k (.inr (.inr hk));omega
 ·have:=hS _ e;omega
def ManyR(w:World)(rb wb:Nat)(bv:Value)(b:List UInt8)(l:List DescL)(s:RS):Ending->World->Prop:=fun x w'=>RdS w w' rb wb bv b s/\∃v,x=.returned v/\GatD w.heap.size w' v l
def ManyRel(w0:World)(rb wb:Nat)(bv:Value)(b:List UInt8)(s:RS)(n:Nat)(v i:Value)(w:World):Prop:=∃k:Nat,k<=n/\i=.int .i64 k/\RdS w0 w rb wb bv b (zF b k s).2/\GatD w0.heap.size w v (zF b k s).1
theorem mMany_any(h:RdI w rb wb bv b a e p)(size:Int)(n:Nat)(hn:n<=4096):Calls prog 244 #[.int .i64 n,.func (.func 242) #[.agg #[.pointer (some ⟨rb,0,none⟩),.int .i64 size]] #[]] w (ManyR w rb wb bv b (zF b n (stOf a e)).1 (zF b n (stOf a e)).2):=by
 have hall:=h.all;have hst:=h.stay;have hok:=h.notOk;generalize stOf a e=s at hst hok |-;have HST:=hid hst
 have HD:=hid (show ∀(w':World)(s':RS),RdS w w' rb wb bv b s'->Calls prog 242 #[.agg #[.pointer (some ⟨rb,0,none⟩),.int .i64 size]] w' (DescR w' rb wb bv b (zS b s').1 (zS b s').2)from fun w' s' hw'=>by
  obtain⟨⟨a',e',p',h',hs⟩,-⟩:=hw';have:=mDesc_any h' size
  rwa[hs]at this)
 clear h hst;go_enter func244,ntmps244;go_upto_region 1 with(fail);go_wp2
 go_loopw [4,6] (ManyRel w rb wb bv b s n) (fun _ i _=>n-(intOf i).toNat)
 case atStart=>exact⟨0,Nat.zero_le _,rfl,HST.out,Gat.nil _ _ _ _ _⟩
 case round=>
  rename World=>wr
  obtain⟨k,hk,rfl,hrd,hg⟩:=hrel;have HRD:=hid hrd;have HG:=hid hg
  by_cases hlt:k<n
  ·have hz:(k:Int)<(n:Int):=by omega
   have hidl:=(rDescL_ok (b:=b) (s:=(zF b k s).2)).2.1;have hlen:=rDescsL_len (b:=b) (s:=s) k;obtain⟨d,hd⟩:∃d,(zS b (zF b k s).2).1=d:=⟨_,rfl⟩
   have hcall:=HD.out wr _ hrd;rw[hd]at hidl hcall;have HDD:=hid hd;have HE:=hid (jK hidl);have hds:=qO (m:=d.media) (n:=d.size) (p:=d.plat) hidl
   replace hds:(qB d).size=35:=hds;clear hrd hg hd;go_upto_region 3 with(fail);refine wpR [3,3,1,1,1,3] ?_;simp only[stz]
   refine wpD (wp_callv 242 _ [] _ #[.agg #[.pointer (some ⟨rb,0,none⟩),.int .i64 size]] #[] (by rfl) (by rfl) (enters_of func242 (by kernel_rfl) rfl) ?_)
   show Calls prog 242 #[.agg #[.pointer (some ⟨rb,0,none⟩),.int .i64 size]] _ _
   refine hcall.mono ?_;rintro e w2 ⟨hr2,rfl⟩;have HR2:=hid (HRD.out.trans hr2)
   have HG2:Hid (GatD w.heap.size w2 _ (zF b k s).1):=hid (HG.out.keep hr2.2 (fun q hq e=>by
    have h1:=(HG.out.lt hq).1
    rcases e with e|e
    ·have:=hall rb (.inl rfl);omega
    ·have:=hall wb (.inr (.inl rfl));omega))
   clear hr2;refine⟨_,rfl,?_⟩;try simp only[nmz]
   refine wpD (qU 161 46 _ (.agg (qB d)) (.agg (qB descZ)) 35 (by rfl) (by rfl) underlying161 (by kernel_rfl) (by omega) (by omega) hds (fun w3 hB3 hm3 hs3=>?_))
   have hsrc:=jM (enc:=descE) (e:=46) (x:=d) xZ (by rw[HE.out];exact hB3);have HR3:=hid (HR2.out.keepS hall hm3 (fun _ h=>h.elim))
   have HG3:=hid (HG2.out.keep0 hm3);have hws:w.heap.size<=w3.heap.size:=HR3.out.2.size;clear hm3 hB3 hs3;try simp only[nmz]
   refine wpD (wp_gat descE _ _ 161 46 (.agg (qB descZ)) 35 64 (by rfl) underlying161 desc_i desc_zs (by omega) xY w.heap.size _ (zF b k s).1 (by rfl) HG3.out _ [d] (by rfl) hsrc (by rw[hlen];unfold maxLen;simp;omega) (by rw[hlen];simp;omega) hws (fun v' w4 hg4 hm4=>?_))
   have HR4:=hid (HR3.out.keepS hall hm4 (fun q hq=>(HG3.out.lt hq).1));have HG4:=hid hg4;clear hm4 hsrc hg4;simp only[stz]
   have HNX:Hid (zF b (k+1) s=((zF b k s).1++[d],(zS b (zF b k s).2).2)):=hid (by rw[<-HDD.out];rfl);clear hcall hidl;go_wp2
   go_roundw
   case rel=>exact⟨k+1,by omega,by go_num,by rw[HNX.out];exact HR4.out,by rw[HNX.out];exact HG4.out⟩
   case measure=>simp[intOf];omega
  ·have hz:¬(k:Int)<(n:Int):=by omega
   obtain rfl:k=n:=by omega
   clear hrd hg;go_wp2;go_ret;exact⟨HRD.out,_,rfl,HG.out⟩
theorem built_fault1(x:Int):prog.built 255 [(0,.int .i64 x)]=some #[.int .i64 x,.int .i64 0]:=by
 have z:(prog.info? 255).bind (·.zero)=some (.agg #[.int .i64 0,.int .i64 0]):=by kernel_rfl
 have p:xR prog 255=some [(0,1),(1,1)]:=by kernel_rfl
 rw[zL z p,zD (off:=0) (size:=1) rfl (by rfl) (by simp),xT]
 rfl
theorem exec_bindFunc{P:Program}{w:World}{o:Oper}{a:Act}(f:FuncId)(xs:List Operand)(ho:o.op=.makeFunc (.func f) xs.toArray #[])(vals:List Value)(hx:xs.map a.eval=vals):(execOp a.eval o).run P w=.ok (.value (.func (.func f) vals.toArray #[])) w:=by
 subst hx;unfold execOp
 simp[ho,Instr.makeFunc]
theorem cell1{w:World}{b:Nat}{v u:Value}{T:TypeId}{fz:Nat×Nat}(h:w.heap[b]?=some (.cells #[v,u] T fz)):w.cell? ⟨b,1,none⟩=some u:=by simp[World.cell?,h]
def FailedR(w:World)(b:List UInt8)(a:Nat)(e:Int):Ending->World->Prop:=fun x w'=>Mod NoB w w'/\∃(er at_:Int)(is:Bool),x=.returned (.tuple #[.agg #[.int .i64 er,.int .i64 at_],.bool is])/\(er=0↔e=0/\a=b.length)/\(er=0->at_=0)/\(is=true->er≠0)
end
def qN(k:Nat)(t:List UInt8)(d:DescL)(lv sv:Value):Array Value:=(.int .i64 k::.string ⟨t.toArray⟩::((qB d).toList++[lv,sv])).toArray
section
variable{k k':Nat}{t t':List UInt8}{d d':DescL}{lv sv v:Value}
theorem descL_len(h:d.id.length=32):(qB d).toList.length=35:=by rw[Array.length_toList];exact qO h
theorem qS(h:d.id.length=32):(qN k t d lv sv).size=39:=by
 have:=descL_len h
 simp[qN,this]
theorem zU(h1:lv.oneCell'=true)(h2:sv.oneCell'=true):∀c∈qN k t d lv sv,c.oneCell'=true:=by
 intro c hc;simp only[qN,List.mem_toArray,List.mem_cons,List.mem_append,List.not_mem_nil,or_false]at hc
 rcases hc with rfl|rfl|hc|rfl|rfl
 ·rfl
 ·rfl
 ·exact zJ _ _ _ _ c (by simpa[qB]using hc)
 ·exact h1
 ·exact h2
theorem manRow_put0:(qN k t d lv sv).setIfInBounds 0 (.int .i64 k')=qN k' t d lv sv:=by
 apply Array.toList_inj.1
 simp[qN]
theorem manRow_put1:(qN k t d lv sv).setIfInBounds 1 (.string ⟨t'.toArray⟩)=qN k t' d lv sv:=by
 apply Array.toList_inj.1
 simp[qN]
theorem manRow_putD(h:d.id.length=32)(h':d'.id.length=32):qZ (qN k t d lv sv) 2 (qB d')=qN k t d' lv sv:=by
 have h1:=descL_len h;have h2:=qO (m:=d'.media) (n:=d'.size) (p:=d'.plat) h';replace h2:(qB d').size=35:=h2
 apply Array.toList_inj.1
 simp only[qZ,qN,h2];rw[List.drop_succ_cons,List.drop_succ_cons,List.drop_append_of_le_length (by omega),List.drop_of_length_le (by omega)]
 rfl
theorem manRow_put37(h:d.id.length=32):(qN k t d lv sv).setIfInBounds 37 v=qN k t d v sv:=by
 have h1:=descL_len h
 apply Array.toList_inj.1
 simp only[qN,Array.toList_setIfInBounds,List.set_cons_succ];rw[List.set_append_right _ _ (by omega),h1]
 rfl
theorem manRow_put38(h:d.id.length=32):(qN k t d lv sv).setIfInBounds 38 v=qN k t d lv v:=by
 have h1:=descL_len h
 apply Array.toList_inj.1
 simp only[qN,Array.toList_setIfInBounds,List.set_cons_succ];rw[List.set_append_right _ _ (by omega),h1]
 rfl
end
theorem manZ_i:(prog.info? 163).bind (·.zero)=some (.agg (qN 0 [] descZ (.slice none 0 0) (.slice none 0 0))):=by kernel_rfl
theorem qX{P:Program}{fn:Func}{p u:Tmp}{ty tz:TypeId}(h:fn.results=#[.cell p ty,.cell u tz])(tmps:Array Value)(w:World)(g g':Nat)(t t':TypeId)(cs cs':Array Value)(fr fr':Nat×Nat)(d d':TypeDesc)
 (hp:tmps.getD p undef=.pointer (some ⟨g,0,none⟩))(hg:w.heap[g]?=some (.cells cs t fr))(hq:tmps.getD u undef=.pointer (some ⟨g',0,none⟩))(hg':w.heap[g']?=some (.cells cs' t' fr'))
 (hu:P.underlying ty=some d)(hd:(match d with| .struct _| .array _ _=>true|_=>false)=true)(hi:(P.info? ty).map (·.size)=some cs.size)
 (hu':P.underlying tz=some d')(hd':(match d' with| .struct _| .array _ _=>true|_=>false)=true)(hi':(P.info? tz).map (·.size)=some cs'.size):
 (results fn tmps).run P w=.ok (.tuple #[.agg cs,.agg cs']) w:=by
 have hp':tmps[p]?.getD undef=.pointer (some ⟨g,0,none⟩):=by simpa using hp
 have hq':tmps[u]?.getD undef=.pointer (some ⟨g',0,none⟩):=by simpa using hq
 simp[results,h,hp',hq',asAddr,run_loadVar_row w g t ty cs fr d hg hu hd hi,run_loadVar_row w g' t' tz cs' fr' d' hg' hu' hd' hi']
def ManC(base:Nat)(w:World)(cs:Array Value)(m:ManL):Prop:=m.config.id.length=32/\∃lv sv,cs=qN m.kind m.title m.config lv sv/\GatD base w lv m.layers/\GatD base w sv m.subs
theorem ManC.keep0{base:Nat}{w w':World}{cs:Array Value}{m:ManL}(h:ManC base w cs m)(hm:Mod NoB w w'):ManC base w' cs m:=by
 obtain⟨h0,lv,sv,h1,h2,h3⟩:=h;exact⟨h0,lv,sv,h1,h2.keep0 hm,h3.keep0 hm⟩
theorem ManC.size{base:Nat}{w:World}{cs:Array Value}{m:ManL}(h:ManC base w cs m):cs.size=39:=by
 obtain⟨h0,lv,sv,rfl,-,-⟩:=h;exact qS h0
theorem ManC.one{base:Nat}{w:World}{cs:Array Value}{m:ManL}(h:ManC base w cs m):∀c∈cs,c.oneCell'=true:=by
 obtain⟨h0,lv,sv,rfl,h1,h2⟩:=h;exact zU (yF h1) (yF h2)
section
variable{w:World}{rb wb:Nat}{bv:Value}{b:List UInt8}{a:Nat}{e p:Int}
def ManR(w:World)(rb wb:Nat)(bv:Value)(b:List UInt8)(r:ManL×RS×Bool):Ending->World->Prop:=fun x w'=>RdS w w' rb wb bv b r.2.1/\∃(cs:Array Value)(er at_:Int),x=.returned (.tuple #[.agg cs,.agg #[.int .i64 er,.int .i64 at_]])/\(er=0↔r.2.2=true)/\(er=0->at_=0)/\ManC w.heap.size w' cs r.1
theorem mManifest_any(h:RdI w rb wb bv b 0 0 p):Calls prog 212 #[.agg #[.pointer (some ⟨rb,0,none⟩),.int .i64 b.length]] w (ManR w rb wb bv b (manR b)):=by
 have hall:=h.all;have hrl:=h.lts;have hbl:=h.len;have hst:=h.stay;rw[stOf_zero]at hst;have HST:=hid hst
 have HN:=hid (show ∀(w':World)(s':RS),RdS w w' rb wb bv b s'->Calls prog 240 #[.pointer (some ⟨rb,0,none⟩)] w' (NumR w' rb wb bv b (rNumL b s').1 (rNumL b s').2)from fun w' s' hw'=>by
  obtain⟨⟨a',e',p',h',hs⟩,-⟩:=hw';have:=rNum_any h'
  rwa[hs]at this)
 have HT:=hid (show ∀(w':World)(s':RS),RdS w w' rb wb bv b s'->Calls prog 241 #[.pointer (some ⟨rb,0,none⟩),.int .i64 (4096:Nat)] w' (TextR w' rb wb bv b (xD b 4096 s').1 (xD b 4096 s').2)from fun w' s' hw'=>by
  obtain⟨⟨a',e',p',h',hs⟩,-⟩:=hw';have:=rText_any h' 4096 (Nat.le_refl _)
  rwa[hs]at this)
 have HD:=hid (show ∀(w':World)(s':RS),RdS w w' rb wb bv b s'->Calls prog 242 #[.agg #[.pointer (some ⟨rb,0,none⟩),.int .i64 b.length]] w' (DescR w' rb wb bv b (zS b s').1 (zS b s').2)from fun w' s' hw'=>by
  obtain⟨⟨a',e',p',h',hs⟩,-⟩:=hw';have:=mDesc_any h' b.length
  rwa[hs]at this)
 have HM:=hid (show ∀(w':World)(s':RS)(n:Nat),n<=4096->RdS w w' rb wb bv b s'->Calls prog 244 #[.int .i64 n,.func (.func 242) #[.agg #[.pointer (some ⟨rb,0,none⟩),.int .i64 b.length]] #[]] w' (ManyR w' rb wb bv b (zF b n s').1 (zF b n s').2)from fun w' s' n hn hw'=>by
  obtain⟨⟨a',e',p',h',hs⟩,-⟩:=hw';have:=mMany_any h' b.length n hn
  rwa[hs]at this)
 have HL:=hid (show ∀(w':World)(s':RS),RdS w w' rb wb bv b s'->∃r:Int,0<=r/\r<=4096/\Calls prog 243 #[.pointer (some ⟨rb,0,none⟩)] w' (RetM (.int .i64 r) w')from fun w' s' hw'=>by
  obtain⟨⟨a',e',p',h',hs⟩,-⟩:=hw'
  refine⟨_,?_,?_,rRest_any h'⟩<;>have:=h'.al<;>have:=h'.len<;>split<;>omega)
 obtain⟨f,hf⟩:∃f,rNumL b (some 0)=f:=⟨_,rfl⟩;obtain⟨k,hk⟩:∃k,rNumL b f.2=k:=⟨_,rfl⟩;obtain⟨t,ht⟩:∃t,xD b 4096 k.2=t:=⟨_,rfl⟩
 have HMR:Hid (manR b=if f.1≠77 then(manZ,f.2,false)else if k.1≠3/\k.1≠4 then({ manZ with kind:=k.1 },k.2,false)
  else if(if k.1=3 then 16 else 8)<(rNumL b (if k.1=3 then zS b t.2 else(descZ,t.2)).2).1 then(⟨k.1,t.1,(if k.1=3 then zS b t.2 else(descZ,t.2)).1,[],[]⟩,(rNumL b (if k.1=3 then zS b t.2 else(descZ,t.2)).2).2,false)
  else(⟨k.1,t.1,(if k.1=3 then zS b t.2 else(descZ,t.2)).1,if k.1=3 then(zF b (rNumL b (if k.1=3 then zS b t.2 else(descZ,t.2)).2).1 (rNumL b (if k.1=3 then zS b t.2 else(descZ,t.2)).2).2).1 else [],if k.1=3 then []else(zF b (rNumL b (if k.1=3 then zS b t.2 else(descZ,t.2)).2).1 (rNumL b (if k.1=3 then zS b t.2 else(descZ,t.2)).2).2).1⟩,(zF b (rNumL b (if k.1=3 then zS b t.2 else(descZ,t.2)).2).1 (rNumL b (if k.1=3 then zS b t.2 else(descZ,t.2)).2).2).2,true)):=hid (by
  unfold manR
  simp only[hf,hk,ht])
 have hn1:=HN.out w _ hst;rw[hf]at hn1
 have HK2:Hid (∀w',RdS w w' rb wb bv b f.2->Calls prog 240 #[.pointer (some ⟨rb,0,none⟩)] w' (NumR w' rb wb bv b k.1 k.2)):=hid (fun w' hw'=>by
  have:=HN.out w' _ hw'
  rwa[hk]at this)
 have HT2:Hid (∀w',RdS w w' rb wb bv b k.2->Calls prog 241 #[.pointer (some ⟨rb,0,none⟩),.int .i64 (4096:Nat)] w' (TextR w' rb wb bv b t.1 t.2)):=hid (fun w' hw'=>by
  have:=HT.out w' _ hw'
  rwa[ht]at this)
 have HN1:Hid (∀w',RdS w w' rb wb bv b (some 0)->Calls prog 240 #[.pointer (some ⟨rb,0,none⟩)] w' (NumR w' rb wb bv b f.1 f.2)):=hid (fun w' hw'=>by
  have:=HN.out w' _ hw'
  rwa[hf]at this)
 have hfb:=(rNumL_ok (b:=b) (s:=some 0)).2.1;have hkb:=(rNumL_ok (b:=b) (s:=f.2)).2.1;rw[hf]at hfb;rw[hk]at hkb;obtain⟨f,s1⟩:=f;obtain⟨k,s2⟩:=k
 obtain⟨t,s3⟩:=t
 dsimp only at HMR HK2 HT2 HN1 hfb hkb
 clear h hst hf hk ht hn1 HT;have hzi:=qV;go_enter func212,ntmps212;go_upto_region 0 with(fail);refine wpR [1,1,1] ?_;simp only[stz]
 refine wpD (zT 307 _ _ (by rfl) (by rfl) (fun wx hBx hmx hsx=>?_))
 replace hBx:wx.heap[w.heap.size]?=some (.cells #[.pointer (some ⟨rb,0,none⟩),.int .i64 b.length] 307 (0,0)):=hBx;try simp only[nmz]
 refine wpD (qP 163 _ (by rfl) manZ_i (fun wy hBy hmy hsy=>?_))
 replace hBy:wy.heap[wx.heap.size]?=some (.cells (qN 0 [] descZ (.slice none 0 0) (.slice none 0 0)) 163 (0,0)):=hBy;try simp only[nmz]
 refine wpD (qP 255 _ (by rfl) fltZ (fun wz hBz hmz hsz=>?_));replace hBz:wz.heap[wy.heap.size]?=some (.cells #[.int .i64 0,.int .i64 0] 255 (0,0)):=hBz
 simp only[stz];have HA:=hid ((hmy.trans0 hmz).obj id hBx);have hB:=hmz.obj id hBy;have hC:=hBz;have hb12:w.heap.size<wx.heap.size:=hsx
 have hb23:wx.heap.size<wy.heap.size:=hsy;have HR:Hid (RdS w wz rb wb bv b (some 0)):=hid (HST.out.keepS hall ((hmx.trans0 hmy).trans0 hmz) (fun _ h=>h.elim))
 clear hmx hmy hmz hBx hBy hBz hsx hsy hsz HST;generalize hb1:w.heap.size=b1 at*;generalize hb2:wx.heap.size=b2 at*;generalize hb3:wy.heap.size=b3 at*
 replace hall:∀k,k=rb\/k=wb\/bv.ownBlock=some k->k<w.heap.size:=by rw[hb1];exact hall
 go_upto_region 1 with(fail);refine wpR [3,1,1,3] ?_;simp only[stz];refine wpXd (v:=(.pointer (some ⟨rb,0,none⟩))) 304 b1 0 (cell0 HA.out) underlying304 trivial ?_
 try simp only[nmz]
 refine wpD (wpC func240 (HN1.out _ HR.out) ?_);rintro e w1 ⟨rfl,hr⟩;replace HA:=hid (RdS.obj hr ⟨by omega,by omega⟩ HA.out);replace hB:=RdS.obj hr ⟨by omega,by omega⟩ hB
 replace hC:=RdS.obj hr ⟨by omega,by omega⟩ hC;replace HR:=hid (HR.out.trans hr);clear hr;refine⟨_,rfl,?_⟩;simp only[stz]
 by_cases h77:f=77
 rotate_left
 · -- it begins with another number
   have hz:¬(f:Int)=77:=by omega
   have hr0:=HMR.out;rw[if_pos h77]at hr0;have HE:=hid hr0;clear hr0
   have hsz:(qN 0 [] descZ (.slice none 0 0) (.slice none 0 0)).size=39:=qS (by first|exact qV|assumption)
   have hone:∀c∈qN 0 [] descZ (.slice none 0 0) (.slice none 0 0),c.oneCell'=true:=zU rfl rfl;go_upto_region 3 with(fail);refine wpR [1,0,1,1] ?_
   simp only[stz];refine wpXA 163 b2 0 (qN 0 [] descZ (.slice none 0 0) (.slice none 0 0)) (CellsAt.whole hB) underlying163 39 hsz trivial ?_;try simp only[nmz]
   refine qQ rfl (fun w' hS=>qL 255 [(0,_)] [(0,.int .i64 20)] _ (by rfl) (by rfl) (built_fault1 20)) ?_;simp only[nmz]
   refine wpD (qF 163 _ _ b2 0 (qN 0 [] descZ (.slice none 0 0) (.slice none 0 0)) (by rfl) (by rfl) (by rfl) hone 39 (by kernel_rfl) hsz _ _ hB (by omega) (fun wf hBf hmf=>?_))
   rw[qC (by rfl)]at hBf;have hCf:=hmf.objB (by omega) hC;have HRf:=hid (HR.out.keepN hall (Nat.le_refl _) hmf (by omega));clear hmf hB hC;try simp only[nmz]
   refine wpD (qF 255 _ _ b3 0 #[.int .i64 20,.int .i64 0] (by rfl) (by rfl) (by rfl) (by simp[Value.oneCell']) 2 (by kernel_rfl) rfl _ _ hCf (by simp) (fun wg hCg hmg=>?_))
   rw[qC (by rfl)]at hCg;have hBg:=hmg.objB (by omega) hBf;have HRg:=hid (HRf.out.keepN hall (Nat.le_refl _) hmg (by omega));clear hmg hBf hCf;simp only[stz]
   have hsz2:(prog.info? 163).map (·.size)=some (qN 0 [] descZ (.slice none 0 0) (.slice none 0 0)).size:=by rw[hsz];kernel_rfl
   clear HR HA;go_wp2
   refine bodyPost_ret (qX (P:=prog) (ty:=163) (tz:=255) rfl _ _ b2 b3 _ _ _ _ _ _ _ _ (by rfl) hBg (by rfl) hCg underlying163 rfl hsz2 underlying255 rfl (by kernel_rfl)) rfl ?_
   rw[HE.out];exact⟨HRg.out,_,20,0,rfl,by simp,by simp,qV,_,_,rfl,Gat.nil _ _ _ _ _,Gat.nil _ _ _ _ _⟩
 ·subst h77
  have hr0:=HMR.out;rw[if_neg (by simp)]at hr0;replace HMR:=hid hr0;clear hr0;go_upto_region 4 with(fail)
  have hsz0:(qN 0 [] descZ (.slice none 0 0) (.slice none 0 0)).size=39:=qS hzi;refine wpR [3,1,1,3,1] ?_;simp only[stz]
  refine wpXd (v:=(.pointer (some ⟨rb,0,none⟩))) 304 b1 0 (cell0 HA.out) underlying304 trivial ?_;try simp only[nmz]
  refine wpD (wpC func240 (HK2.out _ HR.out) ?_);rintro e w2 ⟨rfl,hr⟩;replace HA:=hid (RdS.obj hr ⟨by omega,by omega⟩ HA.out);replace hB:=RdS.obj hr ⟨by omega,by omega⟩ hB
  replace hC:=RdS.obj hr ⟨by omega,by omega⟩ hC;replace HR:=hid (HR.out.trans hr);clear hr;refine⟨_,rfl,?_⟩;simp only[stz]
  refine wpD (qT 3 _ _ b2 0 (.int .i64 k) (by rfl) (by rfl) (by rfl) rfl (by kernel_rfl) _ _ hB (by omega) (fun w3 hB3 hm3=>?_));rw[manRow_put0]at hB3;replace hB:=hB3
  replace HA:=hid (hm3.objB (by omega) HA.out);replace hC:=hm3.objB (by omega) hC;replace HR:=hid (HR.out.keepN hall (Nat.le_refl _) hm3 (by omega));clear hm3 hB3
  simp only[stz];clear hsz0;have hck:w3.cell? ⟨b2,0,none⟩=some (.int .i64 k):=by rw[cell_of_row _ _ _ _ _ _ hB];rfl
  by_cases hbad:k≠3/\k≠4
  ·have hz3:¬(k:Int)=3:=by omega
   have hz4:¬(k:Int)=4:=by omega
   go_upto_region 5 with(fail);refine wpR [3,1,3,3,3,1,3,3] ?_;simp only[stz];refine wpXd (v:=(.int .i64 k)) 3 b2 0 hck underlying3 trivial ?_;try simp only[nmz]
   refine qG _ _ _ _ _ _ _ _ rfl rfl rfl rfl rfl true (decide_eq_true (by omega)) ?_;simp only[stz];refine wpXd (v:=(.int .i64 k)) 3 b2 0 hck underlying3 trivial ?_
   try simp only[nmz]
   refine qG _ _ _ _ _ _ _ _ rfl rfl rfl rfl rfl true (decide_eq_true (by omega)) ?_;simp only[stz];have hr0:=HMR.out;rw[if_pos hbad]at hr0;have HE:=hid hr0;clear hr0
   have hsz:(qN k [] descZ (.slice none 0 0) (.slice none 0 0)).size=39:=qS (by first|exact qV|assumption)
   have hone:∀c∈qN k [] descZ (.slice none 0 0) (.slice none 0 0),c.oneCell'=true:=zU rfl rfl;go_upto_region 6 with(fail);refine wpR [1,0,1,1] ?_
   simp only[stz];refine wpXA 163 b2 0 (qN k [] descZ (.slice none 0 0) (.slice none 0 0)) (CellsAt.whole hB) underlying163 39 hsz trivial ?_;try simp only[nmz]
   refine qQ rfl (fun w' hS=>qL 255 [(0,_)] [(0,.int .i64 20)] _ (by rfl) (by rfl) (built_fault1 20)) ?_;simp only[nmz]
   refine wpD (qF 163 _ _ b2 0 (qN k [] descZ (.slice none 0 0) (.slice none 0 0)) (by rfl) (by rfl) (by rfl) hone 39 (by kernel_rfl) hsz _ _ hB (by omega) (fun wf hBf hmf=>?_))
   rw[qC (by rfl)]at hBf;have hCf:=hmf.objB (by omega) hC;have HRf:=hid (HR.out.keepN hall (Nat.le_refl _) hmf (by omega));clear hmf hB hC;try simp only[nmz]
   refine wpD (qF 255 _ _ b3 0 #[.int .i64 20,.int .i64 0] (by rfl) (by rfl) (by rfl) (by simp[Value.oneCell']) 2 (by kernel_rfl) rfl _ _ hCf (by simp) (fun wg hCg hmg=>?_))
   rw[qC (by rfl)]at hCg;have hBg:=hmg.objB (by omega) hBf;have HRg:=hid (HRf.out.keepN hall (Nat.le_refl _) hmg (by omega));clear hmg hBf hCf;simp only[stz]
   have hsz2:(prog.info? 163).map (·.size)=some (qN k [] descZ (.slice none 0 0) (.slice none 0 0)).size:=by rw[hsz];kernel_rfl
   clear HR HA;go_wp2
   refine bodyPost_ret (qX (P:=prog) (ty:=163) (tz:=255) rfl _ _ b2 b3 _ _ _ _ _ _ _ _ (by rfl) hBg (by rfl) hCg underlying163 rfl hsz2 underlying255 rfl (by kernel_rfl)) rfl ?_
   rw[HE.out];exact⟨HRg.out,_,20,0,rfl,by simp,by simp,qV,_,_,rfl,Gat.nil _ _ _ _ _,Gat.nil _ _ _ _ _⟩
  ·rcases(by omega:k=3\/k=4)with rfl|rfl
   ·skip
    go_upto_region 5 with(fail);refine wpR [3,1,3,3,3,0,3,3] ?_;simp only[stz];refine wpXd (v:=(.int .i64 3)) 3 b2 0 hck underlying3 trivial ?_;try simp only[nmz]
    refine qG _ _ _ _ _ _ _ _ rfl rfl rfl rfl rfl false (by decide) ?_;simp only[stz]
    have hsz0:(qN 3 [] descZ (.slice none 0 0) (.slice none 0 0)).size=39:=qS hzi;go_upto_region 7 with(fail);refine wpR [3,1,1,3,1] ?_;simp only[stz]
    refine wpXd (v:=(.pointer (some ⟨rb,0,none⟩))) 304 b1 0 (cell0 HA.out) underlying304 trivial ?_;try simp only[nmz]
    refine wpD (wpC func241 (HT2.out _ HR.out) ?_);rintro e w4 ⟨hr,rfl⟩;replace HA:=hid (RdS.obj hr ⟨by omega,by omega⟩ HA.out)
    replace hB:=RdS.obj hr ⟨by omega,by omega⟩ hB;replace hC:=RdS.obj hr ⟨by omega,by omega⟩ hC;replace HR:=hid (HR.out.trans hr);clear hr;refine⟨_,rfl,?_⟩
    simp only[stz];refine wpD (qT 9 _ _ b2 1 (.string ⟨t.toArray⟩) (by rfl) (by rfl) (by rfl) rfl (by kernel_rfl) _ _ hB (by omega) (fun w5 hB5 hm5=>?_))
    rw[manRow_put1]at hB5;replace hB:=hB5;replace HA:=hid (hm5.objB (by omega) HA.out);replace hC:=hm5.objB (by omega) hC
    replace HR:=hid (HR.out.keepN hall (Nat.le_refl _) hm5 (by omega));clear hm5 hB5;simp only[stz];clear hsz0 hck
    have hsz0:(qN 3 t descZ (.slice none 0 0) (.slice none 0 0)).size=39:=qS hzi
    have hck:w5.cell? ⟨b2,0,none⟩=some (.int .i64 3):=by rw[cell_of_row _ _ _ _ _ _ hB];rfl
    obtain⟨⟨d,s4⟩,hd⟩:∃d,zS b s3=d:=⟨_,rfl⟩;have hdl:=(rDescL_ok (b:=b) (s:=s3)).2.1;have hdc:=HD.out _ _ HR.out;rw[hd]at hdl hdc
    dsimp only at hdl hdc
    have hdz:=qO (m:=d.media) (n:=d.size) (p:=d.plat) hdl;replace hdz:(qB d).size=35:=hdz
    have hdo:∀c∈qB d,c.oneCell'=true:=zJ _ _ _ _;have hr0:=HMR.out;rw[if_neg (by omega)]at hr0;simp only[if_true,hd]at hr0;replace HMR:=hid hr0
    clear hr0 hd;go_upto_region 9 with(fail);refine wpR [3,1,3] ?_;simp only[stz];refine wpXd (v:=(.int .i64 3)) 3 b2 0 hck underlying3 trivial ?_;try simp only[nmz]
    refine qE (v:=?_) rfl (fun w'=>?_) ?_;rotate_left;·(go_simp;try with_reducible rfl)
    simp only[stz];clear hck;go_upto_region 10 with(fail);refine wpR [1,1,3,1] ?_;simp only[stz]
    refine wpXA 307 b1 0 #[.pointer (some ⟨rb,0,none⟩),.int .i64 b.length] (CellsAt.whole HA.out) underlying307 2 rfl trivial ?_;try simp only[nmz]
    refine wpD (wpC func242 (hdc) ?_);rintro e w6 ⟨hr,rfl⟩;replace HA:=hid (RdS.obj hr ⟨by omega,by omega⟩ HA.out);replace hB:=RdS.obj hr ⟨by omega,by omega⟩ hB
    replace hC:=RdS.obj hr ⟨by omega,by omega⟩ hC;replace HR:=hid (HR.out.trans hr);clear hr;refine⟨_,rfl,?_⟩;simp only[stz]
    refine wpD (qF 46 _ _ b2 2 (qB d) (by rfl) (by rfl) (by rfl) hdo 35 (by kernel_rfl) hdz _ _ hB (by omega) (fun w7 hB7 hm7=>?_))
    rw[manRow_putD hzi hdl]at hB7;replace hB:=hB7;replace HA:=hid (hm7.objB (by omega) HA.out);replace hC:=hm7.objB (by omega) hC
    replace HR:=hid (HR.out.keepN hall (Nat.le_refl _) hm7 (by omega));clear hm7 hB7;simp only[stz];clear hsz0
    have hszr:(qN 3 t d (.slice none 0 0) (.slice none 0 0)).size=39:=qS hdl
    obtain⟨r,hr1,hr2,hrc⟩:=HL.out _ _ (RdS.keepS HR.out hall (S:=NoB) (w2:=w7.drew) ((Mod.refl _ _).drew) (fun _ h=>h.elim))
    obtain⟨⟨n,s5⟩,hn⟩:∃n,rNumL b s4=n:=⟨_,rfl⟩
    have HNC:Hid (∀w',RdS w w' rb wb bv b s4->Calls prog 240 #[.pointer (some ⟨rb,0,none⟩)] w' (NumR w' rb wb bv b n s5)):=hid (fun w' hw'=>by
     have:=HN.out w' _ hw'
     rwa[hn]at this)
    have hnb:=(rNumL_ok (b:=b) (s:=s4)).2.1;rw[hn]at hnb
    dsimp only at hnb
    have hr0:=HMR.out;simp only[hn]at hr0;replace HMR:=hid hr0;clear hr0 hn;go_upto_region 12 with(fail);have hS:Mod NoB w7 w7.drew:=(Mod.refl _ _).drew
    refine wpRZ [3,0,3,0,1,3,3] [] (fun w'=>Mod NoB w7 w') hS ?_;simp only[stz]
    refine wpLd (v:=(.int .i64 b.length)) 3 b1 1 (fun w' hS=>hS.cell id (cell1 HA.out)) underlying3 ?_;simp only[stz]
    refine wpLd 304 b1 0 (fun w' hS=>hS.cell id (cell0 HA.out)) underlying304 ?_;simp only[nmz];refine qM rfl (fun K hK=>?_);refine wpC func243 (hrc) ?_
    rintro e w8 ⟨rfl,hm8⟩;have hS8:=hS.trans0 hm8;refine⟨_,rfl,hK _ _ hS8 ?_⟩;clear hK K;try simp only[nmz]
    refine xB _ _ _ _ ((b.length:Nat):Int) r rfl rfl rfl rfl (by omega) (by omega) ?_;simp only[stz];replace HA:=hid (hS8.obj id HA.out);replace hB:=hS8.obj id hB
    replace hC:=hS8.obj id hC;replace HR:=hid (HR.out.keepS hall hS8 (fun _ h=>h.elim));clear hS hS8 hm8 hrc;go_upto_region 13 with(fail);refine wpR [3,1,1,3] ?_
    simp only[stz];refine wpXd (v:=(.pointer (some ⟨rb,0,none⟩))) 304 b1 0 (cell0 HA.out) underlying304 trivial ?_;try simp only[nmz]
    refine wpD (wpC func240 (HNC.out _ HR.out) ?_);rintro e w9 ⟨rfl,hr⟩;replace HA:=hid (RdS.obj hr ⟨by omega,by omega⟩ HA.out)
    replace hB:=RdS.obj hr ⟨by omega,by omega⟩ hB;replace hC:=RdS.obj hr ⟨by omega,by omega⟩ hC;replace HR:=hid (HR.out.trans hr);clear hr;refine⟨_,rfl,?_⟩
    simp only[stz]
    by_cases hmost:16<n
    ·have hmz:(n:Int)>16:=by omega
     have hr0:=HMR.out;rw[if_pos hmost]at hr0;have HE:=hid hr0;clear hr0
     have hsz:(qN 3 t d (.slice none 0 0) (.slice none 0 0)).size=39:=qS (by first|exact qV|assumption)
     have hone:∀c∈qN 3 t d (.slice none 0 0) (.slice none 0 0),c.oneCell'=true:=zU rfl rfl;go_upto_region 15 with(fail);refine wpR [1,3,0,1,1] ?_
     simp only[stz];refine wpXA 163 b2 0 (qN 3 t d (.slice none 0 0) (.slice none 0 0)) (CellsAt.whole hB) underlying163 39 hsz trivial ?_;simp only[stz]
     refine qQ rfl (fun w' hS=>qL 255 [(0,_),(1,_)] [(0,.int .i64 4),(1,.int .i64 (b.length-r))] _ (by rfl) (by rfl) (jA 4 (b.length-r))) ?_
     simp only[nmz]
     refine wpD (qF 163 _ _ b2 0 (qN 3 t d (.slice none 0 0) (.slice none 0 0)) (by rfl) (by rfl) (by rfl) hone 39 (by kernel_rfl) hsz _ _ hB (by omega) (fun wf hBf hmf=>?_))
     rw[qC (by rfl)]at hBf;have hCf:=hmf.objB (by omega) hC;have HRf:=hid (HR.out.keepN hall (Nat.le_refl _) hmf (by omega));clear hmf hB hC;try simp only[nmz]
     refine wpD (qF 255 _ _ b3 0 #[.int .i64 4,.int .i64 (b.length-r)] (by rfl) (by rfl) (by rfl) (by simp[Value.oneCell']) 2 (by kernel_rfl) rfl _ _ hCf (by simp) (fun wg hCg hmg=>?_))
     rw[qC (by rfl)]at hCg;have hBg:=hmg.objB (by omega) hBf;have HRg:=hid (HRf.out.keepN hall (Nat.le_refl _) hmg (by omega));clear hmg hBf hCf;simp only[stz]
     have hsz2:(prog.info? 163).map (·.size)=some (qN 3 t d (.slice none 0 0) (.slice none 0 0)).size:=by rw[hsz];kernel_rfl
     clear HR HA;go_wp2
     refine bodyPost_ret (qX (P:=prog) (ty:=163) (tz:=255) rfl _ _ b2 b3 _ _ _ _ _ _ _ _ (by rfl) hBg (by rfl) hCg underlying163 rfl hsz2 underlying255 rfl (by kernel_rfl)) rfl ?_
     rw[HE.out];exact⟨HRg.out,_,4,_,rfl,by simp,by simp,hdl,_,_,rfl,Gat.nil _ _ _ _ _,Gat.nil _ _ _ _ _⟩
    ·have hmz:¬(n:Int)>16:=by omega
     have hr0:=HMR.out;rw[if_neg hmost]at hr0;have HE0:=hid hr0;clear hr0 HMR;have hmn:=HM.out _ _ n (by omega) HR.out;have HC9:=hid hC
     obtain⟨l,hl⟩:∃l,zF b n s5=l:=⟨_,rfl⟩;rw[hl]at hmn;have hr0:=HE0.out;rw[hl]at hr0;have HE:=hid hr0;clear hl hr0 HE0;go_upto_region 16 with(fail)
     refine wpR [3,3,1,1,1,3,1] ?_;simp only[stz]
     refine wpXA 307 b1 0 #[.pointer (some ⟨rb,0,none⟩),.int .i64 b.length] (CellsAt.whole HA.out) underlying307 2 rfl trivial ?_;try simp only[nmz]
     refine wpX rfl (exec_bindFunc 242 [.tmp 59] (by rfl) [.agg #[.pointer (some ⟨rb,0,none⟩),.int .i64 b.length]] (by rfl)) trivial ?_;try simp only[nmz]
     refine wpD (wpC func244 (hmn) ?_);rintro e wa ⟨hr,v,rfl,hg⟩;have hws:=HR.out.2.size;replace HA:=hid (RdS.obj hr ⟨by omega,by omega⟩ HA.out)
     replace hB:=RdS.obj hr ⟨by omega,by omega⟩ hB;replace hC:=RdS.obj hr ⟨by omega,by omega⟩ hC
     have hw9s:b3<w9.heap.size:=(Array.getElem?_eq_some_iff.1 (show w9.heap[b3]?=some _ from HC9.out)).1;replace HR:=hid (HR.out.trans hr)
     have hvn:∀q,v.ownBlock=some q->b3<q:=fun q hq=>Nat.lt_of_lt_of_le hw9s (hg.lt hq).1;have hv1:v.oneCell'=true:=yF hg
     have hg0:GatD w.heap.size wa v l.1:=hg.base hws;clear hr hg;refine⟨_,rfl,?_⟩;simp only[stz]
     refine wpD (qT 161 _ _ b2 37 v (by rfl) (by rfl) (by rfl) hv1 (by kernel_rfl) _ _ hB (by omega) (fun wb' hBb hmb=>?_));rw[manRow_put37 hdl]at hBb
     replace hB:=hBb;replace hC:=hmb.objB (by omega) hC;replace HR:=hid (HR.out.keepN hall (Nat.le_refl _) hmb (by omega))
     replace hg0:=hg0.keep hmb (fun q hq e=>by
      have:=hvn q hq;have e':q=b2:=e
      omega)
     clear hmb hBb;simp only[stz];obtain⟨MR,hMR⟩:∃MR,qN 3 t d v (.slice none 0 0)=MR:=⟨_,rfl⟩;have hsz:MR.size=39:=by rw[<-hMR];exact qS hdl
     have hone:∀c∈MR,c.oneCell'=true:=by rw[<-hMR];exact zU hv1 rfl
     have HMM:=hid hMR;rw[hMR]at hB;clear hMR HA;go_upto_region 17 with(fail)
     have hS:Mod (fun q=>q=b2) wb' wb'.drew/\wb'.drew.heap[b2]?=some (.cells MR 163 (0,0)):=⟨(Mod.refl _ _).drew,hB⟩
     refine wpRZ [0,0,1,2] [3] (fun w'=>Mod (fun q=>q=b2) wb' w'/\w'.heap[b2]?=some (.cells MR 163 (0,0))) hS ?_;simp only[stz]
     refine wpLA 163 b2 0 MR (fun w' hS=>CellsAt.whole hS.2) underlying163 39 hsz ?_;simp only[nmz]
     refine wpLA 255 b3 0 #[.int .i64 0,.int .i64 0] (fun w' hS=>CellsAt.whole (hS.1.objB (by omega) hC)) underlying255 2 rfl ?_;simp only[nmz]
     refine qM rfl (fun K hK=>?_);refine qF 163 _ _ b2 0 MR (by rfl) (by rfl) (by rfl) hone 39 (by kernel_rfl) hsz _ _ hS.2 (by omega) (fun wc hBc hmc=>?_)
     rw[qC (by rfl)]at hBc;have hSc:Mod (fun q=>q=b2) wb' wc:=hS.1.trans hmc (fun _ _ h=>h);refine hK _ _ ⟨hSc,hBc⟩ ?_;clear hK K;try simp only[nmz]
     refine zB rfl (fun K hK=>?_)
     refine qF 255 _ _ b3 0 #[.int .i64 0,.int .i64 0] (by rfl) (by rfl) (by rfl) (by simp[Value.oneCell']) 2 (by kernel_rfl) rfl _ _ (hSc.objB (by omega) hC) (by simp) (fun wd hCd hmd=>?_)
     rw[qC (by rfl)]at hCd;have hBd:=hmd.objB (by omega) hBc;refine hK _ _ ?_;clear hK K;simp only[stz]
     have HRd:=hid ((HR.out.keepN hall (Nat.le_refl _) hSc (by omega)).keepN hall (Nat.le_refl _) hmd (by omega))
     have HGd:=hid ((hg0.keep hSc (fun q hq e=>by
      have:=hvn q hq;have e':q=b2:=e
      omega)).keep hmd (fun q hq e=>by
      have:=hvn q hq;have e':q=b3:=e
      omega))
     have hsz2:(prog.info? 163).map (·.size)=some MR.size:=by rw[hsz];kernel_rfl
     clear hS hSc hmc hmd hBc hB hC hg0 HR;go_wp2
     refine bodyPost_ret (qX (P:=prog) (ty:=163) (tz:=255) rfl _ _ b2 b3 _ _ _ _ _ _ _ _ (by rfl) hBd (by rfl) hCd underlying163 rfl hsz2 underlying255 rfl (by kernel_rfl)) rfl ?_
     rw[HE.out];exact⟨HRd.out,_,0,0,rfl,by simp,by simp,hdl,_,_,HMM.out.symm,HGd.out,Gat.nil _ _ _ _ _⟩
   ·skip
    go_upto_region 5 with(fail);refine wpR [3,1,3,3,3,1,3,3] ?_;simp only[stz];refine wpXd (v:=(.int .i64 4)) 3 b2 0 hck underlying3 trivial ?_;try simp only[nmz]
    refine qG _ _ _ _ _ _ _ _ rfl rfl rfl rfl rfl true (by decide) ?_;simp only[stz];refine wpXd (v:=(.int .i64 4)) 3 b2 0 hck underlying3 trivial ?_;try simp only[nmz]
    refine qG _ _ _ _ _ _ _ _ rfl rfl rfl rfl rfl false (by decide) ?_;simp only[stz]
    have hsz0:(qN 4 [] descZ (.slice none 0 0) (.slice none 0 0)).size=39:=qS hzi;go_upto_region 7 with(fail);refine wpR [3,1,1,3,1] ?_;simp only[stz]
    refine wpXd (v:=(.pointer (some ⟨rb,0,none⟩))) 304 b1 0 (cell0 HA.out) underlying304 trivial ?_;try simp only[nmz]
    refine wpD (wpC func241 (HT2.out _ HR.out) ?_);rintro e w4 ⟨hr,rfl⟩;replace HA:=hid (RdS.obj hr ⟨by omega,by omega⟩ HA.out)
    replace hB:=RdS.obj hr ⟨by omega,by omega⟩ hB;replace hC:=RdS.obj hr ⟨by omega,by omega⟩ hC;replace HR:=hid (HR.out.trans hr);clear hr;refine⟨_,rfl,?_⟩
    simp only[stz];refine wpD (qT 9 _ _ b2 1 (.string ⟨t.toArray⟩) (by rfl) (by rfl) (by rfl) rfl (by kernel_rfl) _ _ hB (by omega) (fun w5 hB5 hm5=>?_))
    rw[manRow_put1]at hB5;replace hB:=hB5;replace HA:=hid (hm5.objB (by omega) HA.out);replace hC:=hm5.objB (by omega) hC
    replace HR:=hid (HR.out.keepN hall (Nat.le_refl _) hm5 (by omega));clear hm5 hB5;simp only[stz];clear hsz0 hck
    have hsz0:(qN 4 t descZ (.slice none 0 0) (.slice none 0 0)).size=39:=qS hzi
    have hck:w5.cell? ⟨b2,0,none⟩=some (.int .i64 4):=by rw[cell_of_row _ _ _ _ _ _ hB];rfl
    have hr0:=HMR.out;rw[if_neg (by omega)]at hr0;simp only[show ¬((4:Nat)=3) by omega,if_false]at hr0;replace HMR:=hid hr0;clear hr0;have hdl:=hzi
    go_upto_region 9 with(fail);refine wpR [3,1,3] ?_;simp only[stz];refine wpXd (v:=(.int .i64 4)) 3 b2 0 hck underlying3 trivial ?_;try simp only[nmz]
    refine qE (v:=?_) rfl (fun w'=>?_) ?_;rotate_left;·(go_simp;try with_reducible rfl)
    simp only[stz];clear hck hsz0;have hszr:(qN 4 t descZ (.slice none 0 0) (.slice none 0 0)).size=39:=qS hdl
    obtain⟨r,hr1,hr2,hrc⟩:=HL.out _ _ (RdS.keepS HR.out hall (S:=NoB) (w2:=w5.drew) ((Mod.refl _ _).drew) (fun _ h=>h.elim))
    obtain⟨⟨n,s5⟩,hn⟩:∃n,rNumL b s3=n:=⟨_,rfl⟩
    have HNC:Hid (∀w',RdS w w' rb wb bv b s3->Calls prog 240 #[.pointer (some ⟨rb,0,none⟩)] w' (NumR w' rb wb bv b n s5)):=hid (fun w' hw'=>by
     have:=HN.out w' _ hw'
     rwa[hn]at this)
    have hnb:=(rNumL_ok (b:=b) (s:=s3)).2.1;rw[hn]at hnb
    dsimp only at hnb
    have hr0:=HMR.out;simp only[hn]at hr0;replace HMR:=hid hr0;clear hr0 hn;go_upto_region 12 with(fail);have hS:Mod NoB w5 w5.drew:=(Mod.refl _ _).drew
    refine wpRZ [3,0,3,0,1,3,3] [] (fun w'=>Mod NoB w5 w') hS ?_;simp only[stz]
    refine wpLd (v:=(.int .i64 b.length)) 3 b1 1 (fun w' hS=>hS.cell id (cell1 HA.out)) underlying3 ?_;simp only[stz]
    refine wpLd 304 b1 0 (fun w' hS=>hS.cell id (cell0 HA.out)) underlying304 ?_;simp only[nmz];refine qM rfl (fun K hK=>?_);refine wpC func243 (hrc) ?_
    rintro e w8 ⟨rfl,hm8⟩;have hS8:=hS.trans0 hm8;refine⟨_,rfl,hK _ _ hS8 ?_⟩;clear hK K;try simp only[nmz]
    refine xB _ _ _ _ ((b.length:Nat):Int) r rfl rfl rfl rfl (by omega) (by omega) ?_;simp only[stz];replace HA:=hid (hS8.obj id HA.out);replace hB:=hS8.obj id hB
    replace hC:=hS8.obj id hC;replace HR:=hid (HR.out.keepS hall hS8 (fun _ h=>h.elim));clear hS hS8 hm8 hrc;go_upto_region 13 with(fail);refine wpR [3,1,1,3] ?_
    simp only[stz];refine wpXd (v:=(.pointer (some ⟨rb,0,none⟩))) 304 b1 0 (cell0 HA.out) underlying304 trivial ?_;try simp only[nmz]
    refine wpD (wpC func240 (HNC.out _ HR.out) ?_);rintro e w9 ⟨rfl,hr⟩;replace HA:=hid (RdS.obj hr ⟨by omega,by omega⟩ HA.out)
    replace hB:=RdS.obj hr ⟨by omega,by omega⟩ hB;replace hC:=RdS.obj hr ⟨by omega,by omega⟩ hC;replace HR:=hid (HR.out.trans hr);clear hr;refine⟨_,rfl,?_⟩
    simp only[stz]
    by_cases hmost:8<n
    ·have hmz:(n:Int)>8:=by omega
     have hr0:=HMR.out;rw[if_pos hmost]at hr0;have HE:=hid hr0;clear hr0
     have hsz:(qN 4 t descZ (.slice none 0 0) (.slice none 0 0)).size=39:=qS (by first|exact qV|assumption)
     have hone:∀c∈qN 4 t descZ (.slice none 0 0) (.slice none 0 0),c.oneCell'=true:=zU rfl rfl;go_upto_region 15 with(fail);refine wpR [1,3,0,1,1] ?_
     simp only[stz];refine wpXA 163 b2 0 (qN 4 t descZ (.slice none 0 0) (.slice none 0 0)) (CellsAt.whole hB) underlying163 39 hsz trivial ?_;simp only[stz]
     refine qQ rfl (fun w' hS=>qL 255 [(0,_),(1,_)] [(0,.int .i64 4),(1,.int .i64 (b.length-r))] _ (by rfl) (by rfl) (jA 4 (b.length-r))) ?_
     simp only[nmz]
     refine wpD (qF 163 _ _ b2 0 (qN 4 t descZ (.slice none 0 0) (.slice none 0 0)) (by rfl) (by rfl) (by rfl) hone 39 (by kernel_rfl) hsz _ _ hB (by omega) (fun wf hBf hmf=>?_))
     rw[qC (by rfl)]at hBf;have hCf:=hmf.objB (by omega) hC;have HRf:=hid (HR.out.keepN hall (Nat.le_refl _) hmf (by omega));clear hmf hB hC;try simp only[nmz]
     refine wpD (qF 255 _ _ b3 0 #[.int .i64 4,.int .i64 (b.length-r)] (by rfl) (by rfl) (by rfl) (by simp[Value.oneCell']) 2 (by kernel_rfl) rfl _ _ hCf (by simp) (fun wg hCg hmg=>?_))
     rw[qC (by rfl)]at hCg;have hBg:=hmg.objB (by omega) hBf;have HRg:=hid (HRf.out.keepN hall (Nat.le_refl _) hmg (by omega));clear hmg hBf hCf;simp only[stz]
     have hsz2:(prog.info? 163).map (·.size)=some (qN 4 t descZ (.slice none 0 0) (.slice none 0 0)).size:=by rw[hsz];kernel_rfl
     clear HR HA;go_wp2
     refine bodyPost_ret (qX (P:=prog) (ty:=163) (tz:=255) rfl _ _ b2 b3 _ _ _ _ _ _ _ _ (by rfl) hBg (by rfl) hCg underlying163 rfl hsz2 underlying255 rfl (by kernel_rfl)) rfl ?_
     rw[HE.out];exact⟨HRg.out,_,4,_,rfl,by simp,by simp,hdl,_,_,rfl,Gat.nil _ _ _ _ _,Gat.nil _ _ _ _ _⟩
    ·have hmz:¬(n:Int)>8:=by omega
     have hr0:=HMR.out;rw[if_neg hmost]at hr0;have HE0:=hid hr0;clear hr0 HMR;have hmn:=HM.out _ _ n (by omega) HR.out;have HC9:=hid hC
     obtain⟨l,hl⟩:∃l,zF b n s5=l:=⟨_,rfl⟩;rw[hl]at hmn;have hr0:=HE0.out;rw[hl]at hr0;have HE:=hid hr0;clear hl hr0 HE0;go_upto_region 16 with(fail)
     refine wpR [3,3,1,1,1,3,1] ?_;simp only[stz]
     refine wpXA 307 b1 0 #[.pointer (some ⟨rb,0,none⟩),.int .i64 b.length] (CellsAt.whole HA.out) underlying307 2 rfl trivial ?_;try simp only[nmz]
     refine wpX rfl (exec_bindFunc 242 [.tmp 59] (by rfl) [.agg #[.pointer (some ⟨rb,0,none⟩),.int .i64 b.length]] (by rfl)) trivial ?_;try simp only[nmz]
     refine wpD (wpC func244 (hmn) ?_);rintro e wa ⟨hr,v,rfl,hg⟩;have hws:=HR.out.2.size;replace HA:=hid (RdS.obj hr ⟨by omega,by omega⟩ HA.out)
     replace hB:=RdS.obj hr ⟨by omega,by omega⟩ hB;replace hC:=RdS.obj hr ⟨by omega,by omega⟩ hC
     have hw9s:b3<w9.heap.size:=(Array.getElem?_eq_some_iff.1 (show w9.heap[b3]?=some _ from HC9.out)).1;replace HR:=hid (HR.out.trans hr)
     have hvn:∀q,v.ownBlock=some q->b3<q:=fun q hq=>Nat.lt_of_lt_of_le hw9s (hg.lt hq).1;have hv1:v.oneCell'=true:=yF hg
     have hg0:GatD w.heap.size wa v l.1:=hg.base hws;clear hr hg;refine⟨_,rfl,?_⟩;simp only[stz]
     refine wpD (qT 161 _ _ b2 38 v (by rfl) (by rfl) (by rfl) hv1 (by kernel_rfl) _ _ hB (by omega) (fun wb' hBb hmb=>?_));rw[manRow_put38 hdl]at hBb
     replace hB:=hBb;replace hC:=hmb.objB (by omega) hC;replace HR:=hid (HR.out.keepN hall (Nat.le_refl _) hmb (by omega))
     replace hg0:=hg0.keep hmb (fun q hq e=>by
      have:=hvn q hq;have e':q=b2:=e
      omega)
     clear hmb hBb;simp only[stz];obtain⟨MR,hMR⟩:∃MR,qN 4 t descZ (.slice none 0 0) v=MR:=⟨_,rfl⟩;have hsz:MR.size=39:=by rw[<-hMR];exact qS hdl
     have hone:∀c∈MR,c.oneCell'=true:=by rw[<-hMR];exact zU rfl hv1
     have HMM:=hid hMR;rw[hMR]at hB;clear hMR HA;go_upto_region 17 with(fail)
     have hS:Mod (fun q=>q=b2) wb' wb'.drew/\wb'.drew.heap[b2]?=some (.cells MR 163 (0,0)):=⟨(Mod.refl _ _).drew,hB⟩
     refine wpRZ [0,0,1,2] [3] (fun w'=>Mod (fun q=>q=b2) wb' w'/\w'.heap[b2]?=some (.cells MR 163 (0,0))) hS ?_;simp only[stz]
     refine wpLA 163 b2 0 MR (fun w' hS=>CellsAt.whole hS.2) underlying163 39 hsz ?_;simp only[nmz]
     refine wpLA 255 b3 0 #[.int .i64 0,.int .i64 0] (fun w' hS=>CellsAt.whole (hS.1.objB (by omega) hC)) underlying255 2 rfl ?_;simp only[nmz]
     refine qM rfl (fun K hK=>?_);refine qF 163 _ _ b2 0 MR (by rfl) (by rfl) (by rfl) hone 39 (by kernel_rfl) hsz _ _ hS.2 (by omega) (fun wc hBc hmc=>?_)
     rw[qC (by rfl)]at hBc;have hSc:Mod (fun q=>q=b2) wb' wc:=hS.1.trans hmc (fun _ _ h=>h);refine hK _ _ ⟨hSc,hBc⟩ ?_;clear hK K;try simp only[nmz]
     refine zB rfl (fun K hK=>?_)
     refine qF 255 _ _ b3 0 #[.int .i64 0,.int .i64 0] (by rfl) (by rfl) (by rfl) (by simp[Value.oneCell']) 2 (by kernel_rfl) rfl _ _ (hSc.objB (by omega) hC) (by simp) (fun wd hCd hmd=>?_)
     rw[qC (by rfl)]at hCd;have hBd:=hmd.objB (by omega) hBc;refine hK _ _ ?_;clear hK K;simp only[stz]
     have HRd:=hid ((HR.out.keepN hall (Nat.le_refl _) hSc (by omega)).keepN hall (Nat.le_refl _) hmd (by omega))
     have HGd:=hid ((hg0.keep hSc (fun q hq e=>by
      have:=hvn q hq;have e':q=b2:=e
      omega)).keep hmd (fun q hq e=>by
      have:=hvn q hq;have e':q=b3:=e
      omega))
     have hsz2:(prog.info? 163).map (·.size)=some MR.size:=by rw[hsz];kernel_rfl
     clear hS hSc hmc hmd hBc hB hC hg0 HR;go_wp2
     refine bodyPost_ret (qX (P:=prog) (ty:=163) (tz:=255) rfl _ _ b2 b3 _ _ _ _ _ _ _ _ (by rfl) hBd (by rfl) hCd underlying163 rfl hsz2 underlying255 rfl (by kernel_rfl)) rfl ?_
     rw[HE.out];exact⟨HRd.out,_,0,0,rfl,by simp,by simp,hdl,_,_,HMM.out.symm,Gat.nil _ _ _ _ _,HGd.out⟩
end
section
variable{w:World}{o:Oper}{a:Act}
theorem exec_eql_flt(x y:Operand)(yt:TypeId)(m n:Int)(ho:o.op=.binOp .eql 255 x y yt)(hx:a.eval x=.agg #[.int .i64 m,.int .i64 n])(hy:a.eval y=.agg #[.int .i64 0,.int .i64 0])(r:Bool)(hr:(decide (m=0)&&decide (n=0))=r):(execOp a.eval o).run prog w=.ok (.value (.bool r)) w:=by
 subst hr;have h1:=run_eqGuard_agg (P:=prog) w .eql 255 x y #[.int .i64 m,.int .i64 n] #[.int .i64 0,.int .i64 0] eqGuardType255;unfold execOp
 simp only[ho,hx,hy,Sem.run_bind,h1,Result.andThen_ok]
 go_simp
 by_cases h1:m=0<;>by_cases h2:n=0<;>simp[h1,h2]
theorem exec_neq_flt(x y:Operand)(yt:TypeId)(m n:Int)(ho:o.op=.binOp .neq 255 x y yt)(hx:a.eval x=.agg #[.int .i64 m,.int .i64 n])(hy:a.eval y=.agg #[.int .i64 0,.int .i64 0])(r:Bool)(hr:(!(decide (m=0)&&decide (n=0)))=r):(execOp a.eval o).run prog w=.ok (.value (.bool r)) w:=by
 subst hr;have h1:=run_eqGuard_agg (P:=prog) w .neq 255 x y #[.int .i64 m,.int .i64 n] #[.int .i64 0,.int .i64 0] eqGuardType255;unfold execOp
 simp only[ho,hx,hy,Sem.run_bind,h1,Result.andThen_ok]
 go_simp
 by_cases h1:m=0<;>by_cases h2:n=0<;>simp[h1,h2]
end
section
variable{w:World}{rb wb:Nat}{bv:Value}{b:List UInt8}{a:Nat}{e p:Int}
theorem mFailed_any(h:RdI w rb wb bv b a e p)(size:Int):Calls prog 213 #[.agg #[.pointer (some ⟨rb,0,none⟩),.int .i64 size]] w (FailedR w b a e):=by
 have H:=hid h;have HE:=hid (show ∀(w':World),RdI w' rb wb bv b a e p->Calls prog 245 #[.pointer (some ⟨rb,0,none⟩)] w' (EndR w' b a e p)from fun w' h'=>rEnd_any h')
 have HL:=hid (show ∃r:Int,∀(w':World),RdI w' rb wb bv b a e p->Calls prog 243 #[.pointer (some ⟨rb,0,none⟩)] w' (RetM (.int .i64 r) w')from⟨_,fun w' h'=>rRest_any h'⟩)
 clear h;go_enter func213,ntmps213;go_upto_region 0 with(fail);refine wpR [1,1,3] ?_;simp only[stz];refine wpD (zT 307 _ _ (by rfl) (by rfl) (fun w1 hB1 hm1 hs1=>?_))
 replace hB1:w1.heap[w.heap.size]?=some (.cells #[.pointer (some ⟨rb,0,none⟩),.int .i64 size] 307 (0,0)):=hB1;try simp only[nmz]
 refine wpD (qP 255 _ (by rfl) fltZ (fun w2 hB2 hm2 hs2=>?_));replace hB2:w2.heap[w1.heap.size]?=some (.cells #[.int .i64 0,.int .i64 0] 255 (0,0)):=hB2
 simp only[stz];have hA:=hm2.obj id hB1;have HM2:=hid (hm1.trans0 hm2);have hb12:w.heap.size<w1.heap.size:=hs1;generalize hb1:w.heap.size=b1 at*
 generalize hb2:w1.heap.size=b2 at*;clear hm1 hm2 hB1;go_upto_region 1 with(fail);refine wpR [3,1,1,1,1] ?_;simp only[stz]
 refine wpXd (v:=(.pointer (some ⟨rb,0,none⟩))) 304 b1 0 (cell0 hA) underlying304 trivial ?_;try simp only[nmz]
 refine wpD (wpC func245 (HE.out _ (H.out.keep0 HM2.out)) ?_);rintro e w3 ⟨hm3,er,at_,rfl,hz1,hz2⟩;refine⟨_,rfl,?_⟩;try simp only[nmz]
 refine wpD (qP 255 _ (by rfl) fltZ (fun w4 hB4 hm4 hs4=>?_));replace hB4:w4.heap[w3.heap.size]?=some (.cells #[.int .i64 0,.int .i64 0] 255 (0,0)):=hB4
 try simp only[nmz]
 refine wpD (qF 255 _ _ w3.heap.size 0 #[.int .i64 er,.int .i64 at_] (by rfl) (by rfl) (by rfl) (by simp[Value.oneCell']) 2 (by kernel_rfl) rfl _ _ hB4 (by simp) (fun w5 hB5 hm5=>?_))
 rw[qC (by rfl)]at hB5;simp only[stz]
 have h25:b2<w3.heap.size:=by
  have:=hm3.size;have h3:=(Array.getElem?_eq_some_iff.1 hB2).1;omega
 have hm25:Mod NoB w2 w5:=(hm3.trans0 hm4).transB hm5 (by have:=hm3.size;omega);have HM5:=hid (HM2.out.trans0 hm25);have hA5:=hm25.obj id hA;have hC5:=hm25.obj id hB2
 have HZ:=hid (show(er=0↔e=0/\a=b.length)/\(er=0->at_=0)from⟨hz1,hz2⟩);generalize hb4:w3.heap.size=b4 at*;clear hm3 hm4 hm5 hm25 hA hB2 hB4 hz1 hz2
 obtain⟨r,hr⟩:=HL.out;have HR:=hid hr;clear hr HL;go_upto_region 2 with(fail);have hS:Mod (fun k=>k=b2) w5 w5.drew:=(Mod.refl _ _).drew
 have h4l:b4<w5.heap.size:=(Array.getElem?_eq_some_iff.1 hB5).1
 by_cases her:er=0
 ·subst her
  have hC0:=(show w5.drew.heap[b2]?=_ from hC5);refine wpRZ [0,3,0,3,3,3,0,1,3,3,1,3] [] (fun w'=>Mod (fun k=>k=b2) w5 w') hS ?_;simp only[stz]
  refine wpLA 255 b4 0 #[.int .i64 0,.int .i64 at_] (fun w' hS=>CellsAt.whole (hS.objB (by omega) hB5)) underlying255 2 rfl ?_;simp only[stz]
  refine wpLd (v:=(.int .i64 0)) 33 b4 0 (fun w' hS=>hS.cell (fun e=>by have e':b4=b2:=e;omega) (cell0 hB5)) underlying33 ?_;simp only[nmz]
  refine qG _ _ _ _ _ _ _ _ rfl rfl rfl rfl rfl false (by decide) ?_;simp only[stz];refine xF rfl hS ?_;simp only[stz];refine qM rfl (fun K hK=>?_)
  refine qF 255 _ _ b2 0 #[.int .i64 0,.int .i64 at_] (by rfl) (by rfl) (by rfl) (by simp[Value.oneCell']) 2 (by kernel_rfl) rfl _ _ hC0 (by simp) (fun w6 hB6 hm6=>?_)
  rw[qC (by rfl)]at hB6;have hS8:Mod (fun k=>k=b2) w5 w6:=hS.trans hm6 (fun _ _ h=>h);refine hK _ _ hS8 ?_;clear hK K;simp only[stz]
  have HM6:=hid (HM5.out.transB hS8 (by omega));clear hS hS8 hm6 hB5 hA5 hC5 hC0;go_wp2
  refine bodyPost_ret (xC (P:=prog) (ty:=255) rfl _ _ b2 _ _ _ _ (by rfl) hB6 underlying255 rfl (by kernel_rfl)) rfl ?_
  exact⟨HM6.out,0,at_,false,rfl,by simpa using HZ.out.1,by simpa using HZ.out.2,by simp⟩
 ·have hez:¬er=0:=her
  have hC0:=(show w5.drew.heap[b2]?=_ from hC5);refine wpRZ [0,3,0,3,3,3,0,1,3,3,1,3] [] (fun w'=>Mod (fun k=>k=b2) w5 w') hS ?_;simp only[stz]
  refine wpLA 255 b4 0 #[.int .i64 er,.int .i64 at_] (fun w' hS=>CellsAt.whole (hS.objB (by omega) hB5)) underlying255 2 rfl ?_;simp only[stz]
  refine wpLd (v:=(.int .i64 er)) 33 b4 0 (fun w' hS=>hS.cell (fun e=>by have e':b4=b2:=e;omega) (cell0 hB5)) underlying33 ?_;simp only[nmz]
  refine qG _ _ _ _ _ _ _ _ rfl rfl rfl rfl rfl true (decide_eq_true hez) ?_;simp only[stz]
  refine wpLd 304 b1 0 (fun w' hS=>hS.cell (fun e=>by have e':b1=b2:=e;omega) (cell0 hA5)) underlying304 ?_;simp only[nmz];refine qM rfl (fun K hK=>?_)
  refine wpC func243 (HR.out _ (H.out.keep0 (HM5.out.transB hS (by omega)))) ?_;rintro e w7 ⟨rfl,hm7⟩;have hS7:Mod (fun k=>k=b2) w5 w7:=hS.trans hm7 (fun _ _ h=>h.elim)
  have hC7:=hm7.obj id hC0;refine⟨_,rfl,hK _ _ hS7 ?_⟩;clear hK K;try simp only[nmz]
  refine qG _ _ _ _ _ _ _ _ rfl rfl rfl rfl rfl (decide (r=0)) rfl ?_;simp only[stz];refine qM rfl (fun K hK=>?_)
  refine qF 255 _ _ b2 0 #[.int .i64 er,.int .i64 at_] (by rfl) (by rfl) (by rfl) (by simp[Value.oneCell']) 2 (by kernel_rfl) rfl _ _ hC7 (by simp) (fun w6 hB6 hm6=>?_)
  rw[qC (by rfl)]at hB6;have hS8:Mod (fun k=>k=b2) w5 w6:=hS7.trans hm6 (fun _ _ h=>h);refine hK _ _ hS8 ?_;clear hK K;simp only[stz]
  have HM6:=hid (HM5.out.transB hS8 (by omega));clear hS hS7 hS8 hm6 hm7 hB5 hA5 hC5 hC0 hC7;go_wp2
  refine bodyPost_ret (xC (P:=prog) (ty:=255) rfl _ _ b2 _ _ _ _ (by rfl) hB6 underlying255 rfl (by kernel_rfl)) rfl ?_
  exact⟨HM6.out,er,at_,decide (r=0),rfl,HZ.out.1,HZ.out.2,fun _=>her⟩
end
section
variable{w:World}{b:List UInt8}
def DecR(w:World)(b:List UInt8):Ending->World->Prop:=fun x w'=>Mod NoB w w'/\∃(cs:Array Value)(er at_:Int),x=.returned (.tuple #[.agg cs,.agg #[.int .i64 er,.int .i64 at_]])/\(er=0↔(decL b).isSome=true)/\ManC w.heap.size w' cs ((decL b).getD manZ)
theorem built_mreader(rb:Nat)(n:Int):prog.built 307 [(0,.pointer (some ⟨rb,0,none⟩)),(1,.int .i64 n)]=some #[.pointer (some ⟨rb,0,none⟩),.int .i64 n]:=by
 have z:(prog.info? 307).bind (·.zero)=some (.agg #[.pointer none,.int .i64 0]):=by kernel_rfl
 have p:xR prog 307=some [(0,1),(1,1)]:=by kernel_rfl
 rw[zL z p,zD (off:=0) (size:=1) rfl (by rfl) (by simp),zD (off:=1) (size:=1) rfl (by rfl) (by simp[qZ,Value.cells]),xT]
 rfl
theorem mreader_i:(prog.info? 307).bind (·.zero)=some (.agg #[.pointer none,.int .i64 0]):=by kernel_rfl
theorem zero_man:prog.built 163 []=some (qN 0 [] descZ (.slice none 0 0) (.slice none 0 0)):=by kernel_rfl
theorem zero_flt:prog.built 255 []=some #[.int .i64 0,.int .i64 0]:=by kernel_rfl
theorem mDecode_any{own:Bool}{G:Nat->Prop}{v:Value}(h:Sl own w G 1 ByteC v b)(hl:b.length<=4096):Calls prog 158 #[v] w (DecR w b):=by
 obtain⟨ad,cap,rfl,-,-⟩:=Sl.at h;have H:=hid h;have hlz:¬((b.length:Nat):Int)>4096:=by omega
 have HDL:Hid (decL b=if(manR b).2.2=true/\(manR b).2.1=some b.length then some (manR b).1 else none):=hid (by unfold decL;simp only[hl,true_and])
 obtain⟨⟨m,s,ok⟩,hmr⟩:∃r,manR b=r:=⟨_,rfl⟩;rw[hmr]at HDL;have HMR:=hid hmr;clear h hmr;go_enter func158,ntmps158;go_upto_region 0 with(fail);refine wpR [1,1] ?_
 simp only[stz];refine wpD (qP 163 _ (by rfl) manZ_i (fun w1 hB1 hm1 hs1=>?_))
 replace hB1:w1.heap[w.heap.size]?=some (.cells (qN 0 [] descZ (.slice none 0 0) (.slice none 0 0)) 163 (0,0)):=hB1;try simp only[nmz]
 refine wpD (qP 255 _ (by rfl) fltZ (fun w2 hB2 hm2 hs2=>?_));replace hB2:w2.heap[w1.heap.size]?=some (.cells #[.int .i64 0,.int .i64 0] 255 (0,0)):=hB2
 simp only[stz];have hB1':=hm2.obj id hB1;have HM2:=hid (hm1.trans0 hm2);have hb23:w.heap.size<w1.heap.size:=hs1;have hbs2:w1.heap.size<w2.heap.size:=hs2
 have hwb2:w.heap.size<=w.heap.size:=Nat.le_refl _;generalize hb2:w.heap.size=b2 at*;generalize hb3:w1.heap.size=b3 at*;have hB2x:=hB2;clear hm1 hm2 hB1 hB2
 go_upto_region 3 with(fail);refine wpR [3,1,3,3,0,1,1] ?_;simp only[stz];refine wpD (wpC func211 (rNew_any (H.out.keep0 HM2.out) hl) ?_)
 rintro e w3 ⟨rb,wb,bv,rfl,hrd,hm3,hrn⟩;refine⟨_,rfl,?_⟩;simp only[stz];refine wpPL ?_;simp only[nmz]
 refine qQ rfl (fun w' hS=>qL 307 [(0,_),(1,_)] [(0,.pointer (some ⟨rb,0,none⟩)),(1,.int .i64 b.length)] _ (by rfl) (by rfl) (built_mreader rb b.length)) ?_
 simp only[nmz];refine wpD (qP 307 _ (by rfl) mreader_i (fun w4 hB4 hm4 hs4=>?_))
 replace hB4:w4.heap[w3.heap.size]?=some (.cells #[.pointer none,.int .i64 0] 307 (0,0)):=hB4;try simp only[nmz]
 refine wpD (qF 307 _ _ w3.heap.size 0 #[.pointer (some ⟨rb,0,none⟩),.int .i64 b.length] (by rfl) (by rfl) (by rfl) (by simp[Value.oneCell']) 2 (by kernel_rfl) rfl _ _ hB4 (by simp) (fun w5 hB5 hm5=>?_))
 rw[qC (by rfl)]at hB5;simp only[stz];have hs3:=hm3.size;have hm25:Mod NoB w2 w5:=(hm3.trans0 hm4).transB hm5 hs3;have hB2:=hm25.obj id hB1'
 have hC2:=hm25.obj id hB2x;have HM5:=hid (HM2.out.trans0 hm25);have hall:=hrd.all;have hrd5:=(hrd.keep0 hm4).keepN hall hm5 (Nat.le_refl _);have hst5:=hrd5.stay
 have hman:=mManifest_any hrd5;have h34:w3.heap.size<w5.heap.size:=(Array.getElem?_eq_some_iff.1 hB5).1
 replace hrn:∀k,k=rb\/k=wb\/bv.ownBlock=some k->b3<k/\k<w3.heap.size:=fun k hk=>by
  have:=hrn k hk;have:=hall k hk;omega
 have h3l:b3<w3.heap.size:=by omega
 generalize hb4:w3.heap.size=b4 at*;rw[HMR.out]at hman;clear hm3 hm4 hm5 hm25 hB1' hB4 hB2x hrd hst5;go_upto_region 4 with(fail);refine wpR [1,1,3,3,3,1,1,1,1] ?_
 simp only[stz];refine wpXA 307 b4 0 #[.pointer (some ⟨rb,0,none⟩),.int .i64 b.length] (CellsAt.whole hB5) underlying307 2 rfl trivial ?_;try simp only[nmz]
 refine wpD (wpC func212 (hman) ?_);rintro e w6 ⟨hr6,cs,er,at_,rfl,he1,he2,hmc⟩
 have hB26:=hr6.obj ⟨fun e=>by have:=hrn rb (.inl rfl);omega,fun e=>by have:=hrn wb (.inr (.inl rfl));omega⟩ hB2
 have hC26:=hr6.obj ⟨fun e=>by have:=hrn rb (.inl rfl);omega,fun e=>by have:=hrn wb (.inr (.inl rfl));omega⟩ hC2
 have hB56:=hr6.obj ⟨fun e=>by have:=hrn rb (.inl rfl);omega,fun e=>by have:=hrn wb (.inr (.inl rfl));omega⟩ hB5
 have hm06:Mod NoB w w6:=HM5.out.trans hr6.2 (fun k hk e=>by
  have e':k=rb\/k=wb:=e
  rcases e' with rfl|rfl
  ·have:=hrn k (.inl rfl);omega
  ·have:=hrn k (.inr (.inl rfl));omega)
 have hcs:=hmc.size;have hone:=hmc.one;have h56:=hr6.2.size;obtain⟨⟨a6,e6,p6,hrd6,hst6⟩,-⟩:=hr6
 have hmc0:ManC b2 w6 cs m:=by
  obtain⟨q0,lv,sv,q1,q2,q3⟩:=hmc;exact⟨q0,lv,sv,q1,q2.base (by omega),q3.base (by omega)⟩
 have hmcs:∀(S:Nat->Prop)(w':World),Mod S w6 w'->(∀k,S k->w6.heap.size<=k\/k<=b4)->ManC b2 w' cs m:=fun S w' hmm hS=>by
  obtain⟨q0,lv,sv,q1,q2,q3⟩:=hmc;refine⟨q0,lv,sv,q1,(q2.keep hmm (fun k hk e=>?_)).base (by omega),(q3.keep hmm (fun k hk e=>?_)).base (by omega)⟩
  ·have:=q2.lt hk;have:=hS k e;omega
  ·have:=q3.lt hk;have:=hS k e;omega
 have HMC:=hid hmcs;clear hmc hmc0 hmcs;refine⟨_,rfl,?_⟩;simp only[stz];refine qE (v:=?_) rfl (fun w'=>?_) ?_;rotate_left;·(go_simp;try with_reducible rfl)
 simp only[nmz];refine qE (v:=?_) rfl (fun w'=>?_) ?_;rotate_left;·(go_simp;try with_reducible rfl)
 simp only[nmz];refine wpD (qP 163 _ (by rfl) manZ_i (fun w7 hB7 hm7 hs7=>?_))
 replace hB7:w7.heap[w6.heap.size]?=some (.cells (qN 0 [] descZ (.slice none 0 0) (.slice none 0 0)) 163 (0,0)):=hB7;try simp only[nmz]
 refine wpD (qP 255 _ (by rfl) fltZ (fun w8 hB8 hm8 hs8=>?_));replace hB8:w8.heap[w7.heap.size]?=some (.cells #[.int .i64 0,.int .i64 0] 255 (0,0)):=hB8
 try simp only[nmz]
 refine wpDo rfl ?_
 refine qF 163 _ _ w6.heap.size 0 cs (by rfl) (by rfl) (by rfl) hone 39 (by kernel_rfl) hcs _ _ (hm8.obj id hB7) (by rw[hcs];exact Nat.le_of_eq (qS qV).symm) (fun w9 hB9 hm9=>?_)
 rw[qC (by rw[hcs];exact(qS qV).symm)]at hB9;have hB8':=hm9.objB (by omega) hB8;try simp only[nmz]
 refine wpD (qF 255 _ _ w7.heap.size 0 #[.int .i64 er,.int .i64 at_] (by rfl) (by rfl) (by rfl) (by simp[Value.oneCell']) 2 (by kernel_rfl) rfl _ _ hB8' (by simp) (fun wa hBa hma=>?_))
 rw[qC (by rfl)]at hBa;have hB9':=hma.objB (by omega) hB9;simp only[stz]
 have hm6a:Mod NoB w6 wa:=((hm7.trans0 hm8).transB hm9 (Nat.le_refl _)).transB hma (by omega);have HMa:=hid (hm06.trans0 hm6a);have hB2a:=hm6a.obj id hB26
 have hC2a:=hm6a.obj id hC26;have hB5a:=hm6a.obj id hB56;have hrda:=hrd6.keep0 hm6a;have h6a:=hm6a.size;have hfl:=mFailed_any hrda b.length
 have h67:w6.heap.size<w7.heap.size:=hs7;have hb4l:b4<w6.heap.size:=by omega
 have h7a:w7.heap.size<wa.heap.size:=(Array.getElem?_eq_some_iff.1 hBa).1
 replace HMC:Hid (∀(S:Nat->Prop)(w':World),Mod S wa w'->(∀k,S k->w6.heap.size<=k\/k<=b4)->ManC b2 w' cs m):=hid (fun S w' hmm hS=>HMC.out S w' ((hm6a.mono (fun _ _ h=>h.elim)).trans hmm (fun _ _ h=>h)) hS)
 have HST:=hid hst6;generalize hb5:w6.heap.size=b5 at*;generalize hb6:w7.heap.size=b6 at*
 clear hm06 hm6a hm7 hm8 hm9 hma hB26 hC26 hB56 hB7 hB8 hB8' hB9 hrd6 hrd5 hman hst6 HM5 HM2;go_upto_region 5 with(fail);refine wpR [1,1,3,3,3,1,1,3] ?_;simp only[stz]
 refine wpXA 307 b4 0 #[.pointer (some ⟨rb,0,none⟩),.int .i64 b.length] (CellsAt.whole hB5a) underlying307 2 rfl trivial ?_;try simp only[nmz]
 refine wpD (wpC func213 (hfl) ?_);rintro e wc ⟨hmc,er2,at2,is,rfl,hg1,hg2,hg3⟩;refine⟨_,rfl,?_⟩;simp only[stz]
 refine qE (v:=?_) rfl (fun w'=>?_) ?_;rotate_left;·(go_simp;try with_reducible rfl)
 simp only[nmz];refine qE (v:=?_) rfl (fun w'=>?_) ?_;rotate_left;·(go_simp;try with_reducible rfl)
 simp only[nmz];refine wpD (qP 255 _ (by rfl) fltZ (fun wd hBd hmd hsd=>?_))
 replace hBd:wd.heap[wc.heap.size]?=some (.cells #[.int .i64 0,.int .i64 0] 255 (0,0)):=hBd;try simp only[nmz]
 refine wpD (qF 255 _ _ wc.heap.size 0 #[.int .i64 er2,.int .i64 at2] (by rfl) (by rfl) (by rfl) (by simp[Value.oneCell']) 2 (by kernel_rfl) rfl _ _ hBd (by simp) (fun we hBe hme=>?_))
 rw[qC (by rfl)]at hBe;simp only[stz];have hac:=hmc.size;have hmae:Mod NoB wa we:=(hmc.trans0 hmd).transB hme hac;have HMe:=hid (HMa.out.trans0 hmae)
 have hB2e:=hmae.obj id hB2a;have hC2e:=hmae.obj id hC2a;have hB9e:=hmae.obj id hB9';have hBae:=hmae.obj id hBa
 replace HMC:Hid (∀(S:Nat->Prop)(w':World),Mod S we w'->(∀k,S k->b5<=k\/k<=b4)->ManC b2 w' cs m):=hid (fun S w' hmm hS=>HMC.out S w' ((hmae.mono (fun _ _ h=>h.elim)).trans hmm (fun _ _ h=>h)) hS)
 have hgst:er2=0↔s=some b.length:=by
  have hst:stOf a6 e6=s:=HST.out;rw[hg1,<-hst];unfold stOf
  by_cases h6:e6=0
  ·simp[h6]
  ·simp[h6]
 have h67c:b6<wc.heap.size:=by omega
 generalize hb7:wc.heap.size=b7 at*;clear hmc hmd hme hmae hBd hB2a hC2a hB9' hBa hB5a hfl hrda hg1 HMa HST
 cases is with
 |true=>
  have hne:=hg3 rfl;have hno:¬(ok=true/\s=some b.length):=fun hq=>hne (hgst.2 hq.2);go_upto_region 7 with(fail);refine wpR [1,1] ?_;simp only[stz]
  refine wpXA 255 b7 0 #[.int .i64 er2,.int .i64 at2] (CellsAt.whole hBe) underlying255 2 rfl trivial ?_;try simp only[nmz]
  refine wpD (qF 255 _ _ b6 0 #[.int .i64 er2,.int .i64 at2] (by rfl) (by rfl) (by rfl) (by simp[Value.oneCell']) 2 (by kernel_rfl) rfl _ _ hBae (by simp) (fun wf hBz hmz=>?_))
  rw[qC (by rfl)]at hBz;have HMf:=hid (HMe.out.transB hmz (by omega));have hB2f:=hmz.objB (by omega) hB2e;have hC2f:=hmz.objB (by omega) hC2e
  have hB9f:=hmz.objB (by omega) hB9e
  have HMCf:Hid (∀(S:Nat->Prop)(w':World),Mod S wf w'->(∀k,S k->b5<=k\/k<=b4)->ManC b2 w' cs m):=hid (fun S w' hmm hS=>HMC.out (fun k=>k=b6\/S k) w' ((hmz.mono (fun _ _ h=>.inl h)).trans hmm (fun _ _ h=>.inr h)) (fun k hk=>hk.elim (fun e=>.inl (by omega)) (hS k)))
  clear hmz hBae hB2e hC2e hB9e HMe HMC;simp only[stz];go_upto_region 10 with(fail);refine wpR [1,0,0] ?_;simp only[stz]
  refine wpXA 255 b6 0 #[.int .i64 er2,.int .i64 at2] (CellsAt.whole hBz) underlying255 2 rfl trivial ?_;try simp only[nmz]
  refine qQ rfl (fun w' hS=>qL 255 [] [] _ (by rfl) (by rfl) zero_flt) ?_;simp only[nmz]
  refine qQ rfl (fun w' hS=>exec_neq_flt _ _ _ er2 at2 (by rfl) (by rfl) (by rfl) true (by simp[hne])) ?_;simp only[stz];go_upto_region 11 with(fail)
  have hzs:(qN 0 [] descZ (.slice none 0 0) (.slice none 0 0)).size=39:=qS qV
  have hzo:∀c∈qN 0 [] descZ (.slice none 0 0) (.slice none 0 0),c.oneCell'=true:=zU rfl rfl;have hS:Mod (fun k=>k=b2) wf wf.drew:=(Mod.refl _ _).drew
  have hB2d:wf.drew.heap[b2]?=some (.cells (qN 0 [] descZ (.slice none 0 0) (.slice none 0 0)) 163 (0,0)):=hB2f
  refine wpRZ [0,0,1,2] [3] (fun w'=>Mod (fun k=>k=b2) wf w') hS ?_;simp only[stz]
  refine qQ rfl (fun w' hS=>qL 163 [] [] _ (by rfl) (by rfl) zero_man) ?_;simp only[nmz]
  refine wpLA 255 b6 0 #[.int .i64 er2,.int .i64 at2] (fun w' hS=>CellsAt.whole (hS.objB (by omega) hBz)) underlying255 2 rfl ?_;simp only[nmz]
  refine qM rfl (fun K hK=>?_)
  refine qF 163 _ _ b2 0 (qN 0 [] descZ (.slice none 0 0) (.slice none 0 0)) (by rfl) (by rfl) (by rfl) hzo 39 (by kernel_rfl) hzs _ _ hB2d (by omega) (fun wg hBg hmg=>?_)
  rw[qC (by rfl)]at hBg;have hSg:Mod (fun k=>k=b2) wf wg:=hS.trans hmg (fun _ _ h=>h);refine hK _ _ hSg ?_;clear hK K;try simp only[nmz]
  refine zB rfl (fun K hK=>?_)
  refine qF 255 _ _ b3 0 #[.int .i64 er2,.int .i64 at2] (by rfl) (by rfl) (by rfl) (by simp[Value.oneCell']) 2 (by kernel_rfl) rfl _ _ (hSg.objB (by omega) hC2f) (by simp) (fun wh hCh hmh=>?_)
  rw[qC (by rfl)]at hCh;have hBh:=hmh.objB (by omega) hBg;refine hK _ _ ?_;clear hK K;simp only[stz]
  have HMh:=hid ((HMf.out.transB hSg (by omega)).transB hmh (by omega))
  have hsz2:(prog.info? 163).map (·.size)=some (qN 0 [] descZ (.slice none 0 0) (.slice none 0 0)).size:=by rw[hzs];kernel_rfl
  clear hS hSg hmg hmh hBg hB2d hBz hB2f hC2f hB9f HMf HMCf;go_wp2
  refine bodyPost_ret (qX (P:=prog) (ty:=163) (tz:=255) rfl _ _ b2 b3 _ _ _ _ _ _ _ _ (by rfl) hBh (by rfl) hCh underlying163 rfl hsz2 underlying255 rfl (by kernel_rfl)) rfl ?_
  have hdn:decL b=none:=by rw[HDL.out,if_neg hno]
  rw[show DecR w b=fun x w'=>Mod NoB w w'/\∃(cs:Array Value)(er at_:Int),x=.returned (.tuple #[.agg cs,.agg #[.int .i64 er,.int .i64 at_]])/\(er=0↔(decL b).isSome=true)/\ManC w.heap.size w' cs ((decL b).getD manZ)from rfl,hdn]
  exact⟨HMh.out,_,er2,at2,rfl,by simp[hne],qV,_,_,rfl,Gat.nil _ _ _ _ _,Gat.nil _ _ _ _ _⟩
 |false=>
  by_cases h1:er=0
  ·subst h1
   obtain rfl:=he2 rfl;have hok:ok=true:=he1.1 rfl;go_upto_region 8 with(fail);refine wpR [1,0,0] ?_;simp only[stz]
   refine wpXA 255 b6 0 #[.int .i64 0,.int .i64 0] (CellsAt.whole hBae) underlying255 2 rfl trivial ?_;try simp only[nmz]
   refine qQ rfl (fun w' hS=>qL 255 [] [] _ (by rfl) (by rfl) zero_flt) ?_;simp only[nmz]
   refine qQ rfl (fun w' hS=>exec_eql_flt _ _ _ 0 0 (by rfl) (by rfl) (by rfl) true (by simp)) ?_;simp only[stz];go_upto_region 9 with(fail);refine wpR [1,1] ?_
   simp only[stz];refine wpXA 255 b7 0 #[.int .i64 er2,.int .i64 at2] (CellsAt.whole hBe) underlying255 2 rfl trivial ?_;try simp only[nmz]
   refine wpD (qF 255 _ _ b6 0 #[.int .i64 er2,.int .i64 at2] (by rfl) (by rfl) (by rfl) (by simp[Value.oneCell']) 2 (by kernel_rfl) rfl _ _ hBae (by simp) (fun wf hBz hmz=>?_))
   rw[qC (by rfl)]at hBz;have HMf:=hid (HMe.out.transB hmz (by omega));have hB2f:=hmz.objB (by omega) hB2e;have hC2f:=hmz.objB (by omega) hC2e
   have hB9f:=hmz.objB (by omega) hB9e
   have HMCf:Hid (∀(S:Nat->Prop)(w':World),Mod S wf w'->(∀k,S k->b5<=k\/k<=b4)->ManC b2 w' cs m):=hid (fun S w' hmm hS=>HMC.out (fun k=>k=b6\/S k) w' ((hmz.mono (fun _ _ h=>.inl h)).trans hmm (fun _ _ h=>.inr h)) (fun k hk=>hk.elim (fun e=>.inl (by omega)) (hS k)))
   clear hmz hBae hB2e hC2e hB9e HMe HMC;simp only[stz]
   by_cases h2:er2=0
   ·subst h2
    obtain rfl:=hg2 rfl;have hyes:ok=true/\s=some b.length:=⟨hok,hgst.1 rfl⟩;go_upto_region 10 with(fail);refine wpR [1,0,0] ?_;simp only[stz]
    refine wpXA 255 b6 0 #[.int .i64 0,.int .i64 0] (CellsAt.whole hBz) underlying255 2 rfl trivial ?_;try simp only[nmz]
    refine qQ rfl (fun w' hS=>qL 255 [] [] _ (by rfl) (by rfl) zero_flt) ?_;simp only[nmz]
    refine qQ rfl (fun w' hS=>exec_neq_flt _ _ _ 0 0 (by rfl) (by rfl) (by rfl) false (by simp)) ?_;simp only[stz];go_upto_region 12 with(fail)
    have hzs:(qN 0 [] descZ (.slice none 0 0) (.slice none 0 0)).size=39:=qS qV;have hS:Mod (fun k=>k=b2) wf wf.drew:=(Mod.refl _ _).drew
    have hB2d:wf.drew.heap[b2]?=some (.cells (qN 0 [] descZ (.slice none 0 0) (.slice none 0 0)) 163 (0,0)):=hB2f
    refine wpRZ [0,0,1,2] [3] (fun w'=>Mod (fun k=>k=b2) wf w') hS ?_;simp only[stz]
    refine wpLA 163 b5 0 cs (fun w' hS=>CellsAt.whole (hS.objB (by omega) hB9f)) underlying163 39 hcs ?_;simp only[nmz]
    refine wpLA 255 b6 0 #[.int .i64 0,.int .i64 0] (fun w' hS=>CellsAt.whole (hS.objB (by omega) hBz)) underlying255 2 rfl ?_;simp only[nmz]
    refine qM rfl (fun K hK=>?_);refine qF 163 _ _ b2 0 cs (by rfl) (by rfl) (by rfl) hone 39 (by kernel_rfl) hcs _ _ hB2d (by omega) (fun wg hBg hmg=>?_)
    rw[qC (by rw[hcs,hzs])]at hBg;have hSg:Mod (fun k=>k=b2) wf wg:=hS.trans hmg (fun _ _ h=>h);refine hK _ _ hSg ?_;clear hK K;try simp only[nmz]
    refine zB rfl (fun K hK=>?_)
    refine qF 255 _ _ b3 0 #[.int .i64 0,.int .i64 0] (by rfl) (by rfl) (by rfl) (by simp[Value.oneCell']) 2 (by kernel_rfl) rfl _ _ (hSg.objB (by omega) hC2f) (by simp) (fun wh hCh hmh=>?_)
    rw[qC (by rfl)]at hCh;have hBh:=hmh.objB (by omega) hBg;refine hK _ _ ?_;clear hK K;simp only[stz]
    have HMh:=hid ((HMf.out.transB hSg (by omega)).transB hmh (by omega))
    have HMCh:=hid (HMCf.out (fun k=>k=b2\/k=b3) wh ((hSg.mono (fun _ _ h=>.inl h)).trans hmh (fun _ _ h=>.inr h)) (fun k hk=>.inr (by omega)))
    have hsz2:(prog.info? 163).map (·.size)=some cs.size:=by rw[hcs];kernel_rfl
    clear hS hSg hmg hmh hBg hB2d hBz hB2f hC2f hB9f HMf HMCf;go_wp2
    refine bodyPost_ret (qX (P:=prog) (ty:=163) (tz:=255) rfl _ _ b2 b3 _ _ _ _ _ _ _ _ (by rfl) hBh (by rfl) hCh underlying163 rfl hsz2 underlying255 rfl (by kernel_rfl)) rfl ?_
    have hdn:decL b=some m:=by rw[HDL.out,if_pos hyes]
    rw[show DecR w b=fun x w'=>Mod NoB w w'/\∃(cs:Array Value)(er at_:Int),x=.returned (.tuple #[.agg cs,.agg #[.int .i64 er,.int .i64 at_]])/\(er=0↔(decL b).isSome=true)/\ManC w.heap.size w' cs ((decL b).getD manZ)from rfl,hdn]
    exact⟨HMh.out,_,0,0,rfl,by simp,by rw[hb2];exact HMCh.out⟩
   ·have hne:=h2
    have hno:¬(ok=true/\s=some b.length):=fun hq=>hne (hgst.2 hq.2);go_upto_region 10 with(fail);refine wpR [1,0,0] ?_;simp only[stz]
    refine wpXA 255 b6 0 #[.int .i64 er2,.int .i64 at2] (CellsAt.whole hBz) underlying255 2 rfl trivial ?_;try simp only[nmz]
    refine qQ rfl (fun w' hS=>qL 255 [] [] _ (by rfl) (by rfl) zero_flt) ?_;simp only[nmz]
    refine qQ rfl (fun w' hS=>exec_neq_flt _ _ _ er2 at2 (by rfl) (by rfl) (by rfl) true (by simp[hne])) ?_;simp only[stz];go_upto_region 11 with(fail)
    have hzs:(qN 0 [] descZ (.slice none 0 0) (.slice none 0 0)).size=39:=qS qV
    have hzo:∀c∈qN 0 [] descZ (.slice none 0 0) (.slice none 0 0),c.oneCell'=true:=zU rfl rfl
    have hS:Mod (fun k=>k=b2) wf wf.drew:=(Mod.refl _ _).drew
    have hB2d:wf.drew.heap[b2]?=some (.cells (qN 0 [] descZ (.slice none 0 0) (.slice none 0 0)) 163 (0,0)):=hB2f
    refine wpRZ [0,0,1,2] [3] (fun w'=>Mod (fun k=>k=b2) wf w') hS ?_;simp only[stz]
    refine qQ rfl (fun w' hS=>qL 163 [] [] _ (by rfl) (by rfl) zero_man) ?_;simp only[nmz]
    refine wpLA 255 b6 0 #[.int .i64 er2,.int .i64 at2] (fun w' hS=>CellsAt.whole (hS.objB (by omega) hBz)) underlying255 2 rfl ?_;simp only[nmz]
    refine qM rfl (fun K hK=>?_)
    refine qF 163 _ _ b2 0 (qN 0 [] descZ (.slice none 0 0) (.slice none 0 0)) (by rfl) (by rfl) (by rfl) hzo 39 (by kernel_rfl) hzs _ _ hB2d (by omega) (fun wg hBg hmg=>?_)
    rw[qC (by rfl)]at hBg;have hSg:Mod (fun k=>k=b2) wf wg:=hS.trans hmg (fun _ _ h=>h);refine hK _ _ hSg ?_;clear hK K;try simp only[nmz]
    refine zB rfl (fun K hK=>?_)
    refine qF 255 _ _ b3 0 #[.int .i64 er2,.int .i64 at2] (by rfl) (by rfl) (by rfl) (by simp[Value.oneCell']) 2 (by kernel_rfl) rfl _ _ (hSg.objB (by omega) hC2f) (by simp) (fun wh hCh hmh=>?_)
    rw[qC (by rfl)]at hCh;have hBh:=hmh.objB (by omega) hBg;refine hK _ _ ?_;clear hK K;simp only[stz]
    have HMh:=hid ((HMf.out.transB hSg (by omega)).transB hmh (by omega))
    have hsz2:(prog.info? 163).map (·.size)=some (qN 0 [] descZ (.slice none 0 0) (.slice none 0 0)).size:=by rw[hzs];kernel_rfl
    clear hS hSg hmg hmh hBg hB2d hBz hB2f hC2f hB9f HMf HMCf;go_wp2
    refine bodyPost_ret (qX (P:=prog) (ty:=163) (tz:=255) rfl _ _ b2 b3 _ _ _ _ _ _ _ _ (by rfl) hBh (by rfl) hCh underlying163 rfl hsz2 underlying255 rfl (by kernel_rfl)) rfl ?_
    have hdn:decL b=none:=by rw[HDL.out,if_neg hno]
    rw[show DecR w b=fun x w'=>Mod NoB w w'/\∃(cs:Array Value)(er at_:Int),x=.returned (.tuple #[.agg cs,.agg #[.int .i64 er,.int .i64 at_]])/\(er=0↔(decL b).isSome=true)/\ManC w.heap.size w' cs ((decL b).getD manZ)from rfl,hdn]
    exact⟨HMh.out,_,er2,at2,rfl,by simp[hne],qV,_,_,rfl,Gat.nil _ _ _ _ _,Gat.nil _ _ _ _ _⟩
  ·have hne:=h1
   have hno:¬(ok=true/\s=some b.length):=fun hq=>hne (he1.2 hq.1);go_upto_region 8 with(fail);refine wpR [1,0,0] ?_;simp only[stz]
   refine wpXA 255 b6 0 #[.int .i64 er,.int .i64 at_] (CellsAt.whole hBae) underlying255 2 rfl trivial ?_;try simp only[nmz]
   refine qQ rfl (fun w' hS=>qL 255 [] [] _ (by rfl) (by rfl) zero_flt) ?_;simp only[nmz]
   refine qQ rfl (fun w' hS=>exec_eql_flt _ _ _ er at_ (by rfl) (by rfl) (by rfl) false (by simp[hne])) ?_;simp only[stz];have hBz:=hBae;have HMf:=HMe
   have hB2f:=hB2e;have hC2f:=hC2e;have hB9f:=hB9e;have HMCf:=HMC;clear hBae hB2e hC2e hB9e;go_upto_region 10 with(fail);refine wpR [1,0,0] ?_;simp only[stz]
   refine wpXA 255 b6 0 #[.int .i64 er,.int .i64 at_] (CellsAt.whole hBz) underlying255 2 rfl trivial ?_;try simp only[nmz]
   refine qQ rfl (fun w' hS=>qL 255 [] [] _ (by rfl) (by rfl) zero_flt) ?_;simp only[nmz]
   refine qQ rfl (fun w' hS=>exec_neq_flt _ _ _ er at_ (by rfl) (by rfl) (by rfl) true (by simp[hne])) ?_;simp only[stz];go_upto_region 11 with(fail)
   have hzs:(qN 0 [] descZ (.slice none 0 0) (.slice none 0 0)).size=39:=qS qV
   have hzo:∀c∈qN 0 [] descZ (.slice none 0 0) (.slice none 0 0),c.oneCell'=true:=zU rfl rfl;have hS:Mod (fun k=>k=b2) we we.drew:=(Mod.refl _ _).drew
   have hB2d:we.drew.heap[b2]?=some (.cells (qN 0 [] descZ (.slice none 0 0) (.slice none 0 0)) 163 (0,0)):=hB2f
   refine wpRZ [0,0,1,2] [3] (fun w'=>Mod (fun k=>k=b2) we w') hS ?_;simp only[stz]
   refine qQ rfl (fun w' hS=>qL 163 [] [] _ (by rfl) (by rfl) zero_man) ?_;simp only[nmz]
   refine wpLA 255 b6 0 #[.int .i64 er,.int .i64 at_] (fun w' hS=>CellsAt.whole (hS.objB (by omega) hBz)) underlying255 2 rfl ?_;simp only[nmz]
   refine qM rfl (fun K hK=>?_)
   refine qF 163 _ _ b2 0 (qN 0 [] descZ (.slice none 0 0) (.slice none 0 0)) (by rfl) (by rfl) (by rfl) hzo 39 (by kernel_rfl) hzs _ _ hB2d (by omega) (fun wg hBg hmg=>?_)
   rw[qC (by rfl)]at hBg;have hSg:Mod (fun k=>k=b2) we wg:=hS.trans hmg (fun _ _ h=>h);refine hK _ _ hSg ?_;clear hK K;try simp only[nmz]
   refine zB rfl (fun K hK=>?_)
   refine qF 255 _ _ b3 0 #[.int .i64 er,.int .i64 at_] (by rfl) (by rfl) (by rfl) (by simp[Value.oneCell']) 2 (by kernel_rfl) rfl _ _ (hSg.objB (by omega) hC2f) (by simp) (fun wh hCh hmh=>?_)
   rw[qC (by rfl)]at hCh;have hBh:=hmh.objB (by omega) hBg;refine hK _ _ ?_;clear hK K;simp only[stz]
   have HMh:=hid ((HMf.out.transB hSg (by omega)).transB hmh (by omega))
   have hsz2:(prog.info? 163).map (·.size)=some (qN 0 [] descZ (.slice none 0 0) (.slice none 0 0)).size:=by rw[hzs];kernel_rfl
   clear hS hSg hmg hmh hBg hB2d hBz hB2f hC2f hB9f HMf HMCf;go_wp2
   refine bodyPost_ret (qX (P:=prog) (ty:=163) (tz:=255) rfl _ _ b2 b3 _ _ _ _ _ _ _ _ (by rfl) hBh (by rfl) hCh underlying163 rfl hsz2 underlying255 rfl (by kernel_rfl)) rfl ?_
   have hdn:decL b=none:=by rw[HDL.out,if_neg hno]
   rw[show DecR w b=fun x w'=>Mod NoB w w'/\∃(cs:Array Value)(er at_:Int),x=.returned (.tuple #[.agg cs,.agg #[.int .i64 er,.int .i64 at_]])/\(er=0↔(decL b).isSome=true)/\ManC w.heap.size w' cs ((decL b).getD manZ)from rfl,hdn]
   exact⟨HMh.out,_,er,at_,rfl,by simp[hne],qV,_,_,rfl,Gat.nil _ _ _ _ _,Gat.nil _ _ _ _ _⟩
end
theorem decL_len{b:List UInt8}{m:ManL}(h:decL b=some m):m.layers.length<=16/\m.subs.length<=16/\(m.kind=3\/m.kind=4):=by
 unfold decL at h
 split at h
 ·rename_i hc
  have hm:=Option.some.inj h;subst hm;obtain⟨-,h2,-⟩:=hc
  revert h2
  unfold manR
  dsimp only
  generalize (rNumL b (some 0))=f
  split
  ·simp
  ·generalize rNumL b f.2=k
   split
   ·simp
   ·rename_i hk4
    generalize xD b 4096 k.2=t
    by_cases hk:k.1=3
    ·simp only[hk,if_true]
     split
     ·simp
     ·intro _
      refine⟨by rw[rDescsL_len];omega,by simp,.inl rfl⟩
    ·simp only[hk,if_false]
     split
     ·simp
     ·intro _
      refine⟨by simp,by rw[rDescsL_len];omega,.inr (by show k.1=4;omega)⟩
 ·cases h
def DescsR(w:World)(l:List DescL):Ending->World->Prop:=fun x w'=>Mod NoB w w'/\∃v,x=.returned v/\GatD w.heap.size w' v l
theorem man_kind(k:Nat)(t:List UInt8)(d:DescL)(lv sv:Value):(qN k t d lv sv)[0]?=some (.int .i64 k):=by simp[qN]
theorem man_37{k:Nat}{t:List UInt8}{d:DescL}{lv sv:Value}(h:d.id.length=32):(qN k t d lv sv)[37]?=some lv:=by
 have h1:=descL_len h;rw[<-Array.getElem?_toList];simp only[qN,List.getElem?_cons_succ];rw[List.getElem?_append_right (by omega),h1]
 rfl
theorem man_38{k:Nat}{t:List UInt8}{d:DescL}{lv sv:Value}(h:d.id.length=32):(qN k t d lv sv)[38]?=some sv:=by
 have h1:=descL_len h;rw[<-Array.getElem?_toList];simp only[qN,List.getElem?_cons_succ];rw[List.getElem?_append_right (by omega),h1]
 rfl
theorem man_config{k:Nat}{t:List UInt8}{d:DescL}{lv sv:Value}(h:d.id.length=32):∀j,j<(qB d).size->(qN k t d lv sv)[2+j]?=(qB d)[j]?:=by
 intro j hj;have h1:=descL_len h;have h2:(qB d).size=35:=qO h;rw[<-Array.getElem?_toList,<-Array.getElem?_toList,show 2+j=j+1+1 by omega]
 simp only[qN,List.getElem?_cons_succ];rw[List.getElem?_append_left (by omega)]
section
variable{w:World}{base:Nat}{cs:Array Value}{m:ManL}
theorem mDescs_any(h:ManC base w cs m)(hl:m.layers.length<=16/\m.subs.length<=16):Calls prog 159 #[.agg cs] w (DescsR w (zE m)):=by
 obtain⟨hid,lv,sv,rfl,hlv,hsv⟩:=h;obtain⟨hl1,hl2⟩:=hl;have HL:=Lib.hid hlv;have HS:=Lib.hid hsv
 have hlk:∀q,lv.ownBlock=some q->q<w.heap.size:=fun q hq=>(hlv.lt hq).2;have hsk:∀q,sv.ownBlock=some q->q<w.heap.size:=fun q hq=>(hsv.lt hq).2
 have hl1c:lv.oneCell'=true:=yF hlv;have hs1c:sv.oneCell'=true:=yF hsv;obtain⟨adl,cpl,rfl⟩:=hlv.slice;obtain⟨ads,cps,rfl⟩:=hsv.slice
 have hmk:=man_kind m.kind m.title m.config (.slice adl m.layers.length cpl) (.slice ads m.subs.length cps)
 have hm37:=man_37 (k:=m.kind) (t:=m.title) (lv:=.slice adl m.layers.length cpl) (sv:=.slice ads m.subs.length cps) hid
 have hm38:=man_38 (k:=m.kind) (t:=m.title) (lv:=.slice adl m.layers.length cpl) (sv:=.slice ads m.subs.length cps) hid
 have hmcf:=man_config (k:=m.kind) (t:=m.title) (lv:=.slice adl m.layers.length cpl) (sv:=.slice ads m.subs.length cps) hid
 have hds:(qB m.config).size=35:=qO hid
 obtain⟨cs,hcs⟩:∃cs,qN m.kind m.title m.config (.slice adl m.layers.length cpl) (.slice ads m.subs.length cps)=cs:=⟨_,rfl⟩;rw[hcs]at hmk hm37 hm38 hmcf |-
 have HDE:=Lib.hid (jK hid);clear hcs hlv hsv;go_enter func159,ntmps159;go_upto_region 0 with(fail);refine wpR [1,3] ?_;simp only[stz]
 refine wpD (zT 163 _ _ (by rfl) (by rfl) (fun w1 hB1 hm1 hs1=>?_));replace hB1:w1.heap[w.heap.size]?=some (.cells cs 163 (0,0)):=hB1;simp only[stz]
 have hck:w1.cell? ⟨w.heap.size,0,none⟩=some (.int .i64 m.kind):=by rw[cell_of_row _ _ _ _ _ _ hB1];exact hmk
 have hc37:w1.cell? ⟨w.heap.size,37,none⟩=some (.slice adl m.layers.length cpl):=by rw[cell_of_row _ _ _ _ _ _ hB1];exact hm37
 have hc38:w1.cell? ⟨w.heap.size,38,none⟩=some (.slice ads m.subs.length cps):=by rw[cell_of_row _ _ _ _ _ _ hB1];exact hm38
 have hcc:CellsAt w1 w.heap.size 2 (qB m.config):=CellsAt.of_obj hB1 hmcf;have HM1:=Lib.hid hm1;replace HL:=Lib.hid (HL.out.keep0 hm1)
 replace HS:=Lib.hid (HS.out.keep0 hm1);have hs1':w.heap.size<w1.heap.size:=hs1;generalize hb1:w.heap.size=b1 at*;clear hm1 hB1 hmk hm37 hm38 hmcf
 by_cases hk3:m.kind=3
 ·have hkz:(m.kind:Int)=3:=by omega
  have hdl:zE m=[m.config]++m.layers++m.subs:=by unfold zE;rw[if_pos hk3]
  have HDL:=Lib.hid hdl;clear hdl;go_upto_region 1 with(fail);refine wpR [3,1,3] ?_;simp only[stz];refine wpXd (v:=(.int .i64 m.kind)) 3 b1 0 hck underlying3 trivial ?_
  try simp only[nmz]
  refine qE (v:=?_) rfl (fun w'=>?_) ?_;rotate_left;·(go_simp;try with_reducible rfl)
  simp only[stz];go_upto_region 2 with(fail);refine wpR [3,3,1,1,1,3] ?_;simp only[stz];refine wpXA 46 b1 2 (qB m.config) hcc underlying46 35 hds trivial ?_
  try simp only[nmz]
  refine wpD (qU 161 46 _ (.agg (qB m.config)) (.agg (qB descZ)) 35 (by rfl) (by rfl) underlying161 (by kernel_rfl) (by omega) (by omega) hds (fun w3 hB3 hm3 hs3=>?_))
  have hsrc:=jM (enc:=descE) (e:=46) (x:=m.config) xZ (by rw[HDE.out];exact hB3);have h3s:=hm3.size;try simp only[nmz]
  refine wpD (wp_gat descE _ _ 161 46 (.agg (qB descZ)) 35 64 (by rfl) underlying161 desc_i desc_zs (by omega) xY w3.heap.size _ [] (by rfl) (Gat.nil _ _ _ _ _) _ [m.config] (by rfl) hsrc (by unfold maxLen;simp) (by simp) (Nat.le_refl _) (fun v4 w4 hg4 hm4=>?_))
  have hm4':Mod NoB w3 w4:=hm4.mono (fun k hk e=>by cases e);rw[List.nil_append]at hg4;simp only[stz];have hm14:=hm3.trans0 hm4';have h34:=hm4'.size
  have HM4:=Lib.hid (HM1.out.trans0 hm14);replace HL:=Lib.hid (HL.out.keep0 hm14);replace HS:=Lib.hid (HS.out.keep0 hm14);replace hc37:=hm14.cell id hc37
  replace hc38:=hm14.cell id hc38;have HG2:=Lib.hid hg4
  have hv2:∀q,v4.ownBlock=some q->b1<q/\q<w4.heap.size:=fun q hq=>by
   have:=hg4.lt hq;omega
  have hv1c:v4.oneCell'=true:=yF hg4;have h14s:=hm14.size;clear hm3 hm4 hm4' hm14 hB3 hsrc hg4 hck hcc;go_upto_region 3 with(fail)
  have hS:Mod (fun q=>b1<q) w4 w4.drew:=(Mod.refl _ _).drew;have hg4d:=HG2.out.keep0 (Mod.refl NoB w4).drew
  refine wpRP [(0,3),(1,3),(2,0),(4,3),(5,0),(3,1),(6,1),(7,3)] [] (fun w'=>Mod (fun q=>b1<q) w4 w') hS ?_;simp only[stz]
  refine wpLd 161 b1 37 (fun w' hS=>hS.cell (fun e=>Nat.lt_irrefl _ e) hc37) underlying161 ?_;simp only[stz]
  refine wpLd 161 b1 38 (fun w' hS=>hS.cell (fun e=>Nat.lt_irrefl _ e) hc38) underlying161 ?_;simp only[nmz];refine qM rfl (fun K hK=>?_)
  refine wp_gat descE _ _ 161 46 (.agg (qB descZ)) 35 64 (by rfl) underlying161 desc_i desc_zs (by omega) xY w3.heap.size _ [m.config] (by rfl) hg4d _ m.layers (by rfl) (HL.out.keep hS (fun q hq e=>by have:=hlk q hq;have e':b1<q:=e;omega)).src (by unfold maxLen;simp;omega) (by simp;omega) (by have:=hS.size;omega) (fun v5 w5 hg5 hm5=>?_)
  have hS5:Mod (fun q=>v4.ownBlock=some q) w4 w5:=(show Mod (fun q=>v4.ownBlock=some q) w4 w4.drew from(Mod.refl _ _).drew).trans hm5 (fun _ _ h=>h)
  have hS5b:Mod (fun q=>b1<q) w4 w5:=hS5.mono (fun k _ e=>(hv2 k e).1);refine hK _ _ hS5b ?_;clear hK K;try simp only[nmz]
  refine qM rfl (fun K hK=>?_)
  refine wp_gat descE _ _ 161 46 (.agg (qB descZ)) 35 64 (by rfl) underlying161 desc_i desc_zs (by omega) xY w3.heap.size _ ([m.config]++m.layers) (by rfl) hg5 _ m.subs (by rfl) (HS.out.keep hS5 (fun q hq e=>by have:=hsk q hq;have:=hv2 q e;omega)).src (by unfold maxLen;simp;omega) (by simp;omega) (by have:=hS5.size;omega) (fun v6 w6 hg6 hm6=>?_)
  have hm46:Mod NoB w w6:=(HM4.out.trans hS5 (fun k hk e=>by have:=hv2 k e;omega)).trans hm6 (fun k hk e=>by have:=hg5.lt e;omega)
  have hS6b:Mod (fun q=>b1<q) w4 w6:=hS5b.trans hm6 (fun k _ e=>by have:=hg5.lt e;omega)
  have HR:Hid (DescsR w (zE m) (.returned v6) w6):=Lib.hid ⟨hm46,v6,rfl,by rw[HDL.out];exact hg6.base (by omega)⟩;refine hK _ _ hS6b ?_
  clear hm46 hg5 hg6 hm5 hm6 hS5 hS5b hS6b;clear hK K;simp only[stz];clear hS hg4d hc37 hc38;go_wp2;go_ret;exact HR.out
 ·have hkz:¬(m.kind:Int)=3:=by omega
  have hdl:zE m=m.layers++m.subs:=by unfold zE;rw[if_neg hk3];rfl
  have HDL:=Lib.hid hdl;clear hdl;go_upto_region 1 with(fail);refine wpR [3,1,3] ?_;simp only[stz];refine wpXd (v:=(.int .i64 m.kind)) 3 b1 0 hck underlying3 trivial ?_
  try simp only[nmz]
  refine qE (v:=?_) rfl (fun w'=>?_) ?_;rotate_left;·(go_simp;try with_reducible rfl)
  simp only[stz];clear hck hcc;go_upto_region 3 with(fail);have hS:Mod (fun q=>b1<q) w1 w1.drew:=(Mod.refl _ _).drew
  refine wpRP [(0,3),(1,3),(2,0),(4,3),(5,0),(3,1),(6,1),(7,3)] [] (fun w'=>Mod (fun q=>b1<q) w1 w') hS ?_;simp only[stz]
  refine wpLd 161 b1 37 (fun w' hS=>hS.cell (fun e=>Nat.lt_irrefl _ e) hc37) underlying161 ?_;simp only[stz]
  refine wpLd 161 b1 38 (fun w' hS=>hS.cell (fun e=>Nat.lt_irrefl _ e) hc38) underlying161 ?_;simp only[nmz];refine qM rfl (fun K hK=>?_)
  refine wp_gat descE _ _ 161 46 (.agg (qB descZ)) 35 64 (by rfl) underlying161 desc_i desc_zs (by omega) xY w1.heap.size _ [] (by rfl) (Gat.nil _ _ _ _ _) _ m.layers (by rfl) (HL.out.keep hS (fun q hq e=>by have:=hlk q hq;have e':b1<q:=e;omega)).src (by unfold maxLen;simp;omega) (by simp;omega) hS.size (fun v5 w5 hg5 hm5=>?_)
  rw[List.nil_append]at hg5;have hS5:Mod NoB w1 w5:=(show Mod NoB w1 w1.drew from(Mod.refl _ _).drew).trans hm5 (fun k hk e=>by cases e)
  have hS5b:Mod (fun q=>b1<q) w1 w5:=hS5.mono (fun k _ e=>e.elim);refine hK _ _ hS5b ?_;clear hK K;try simp only[nmz]
  refine qM rfl (fun K hK=>?_)
  refine wp_gat descE _ _ 161 46 (.agg (qB descZ)) 35 64 (by rfl) underlying161 desc_i desc_zs (by omega) xY w1.heap.size _ m.layers (by rfl) hg5 _ m.subs (by rfl) (HS.out.keep0 hS5).src (by unfold maxLen;omega) (by omega) hS5.size (fun v6 w6 hg6 hm6=>?_)
  have hm46:Mod NoB w w6:=(HM1.out.trans0 hS5).trans hm6 (fun k hk e=>by have:=hg5.lt e;omega)
  have hS6b:Mod (fun q=>b1<q) w1 w6:=hS5b.trans hm6 (fun k _ e=>by have:=hg5.lt e;omega)
  have HR:Hid (DescsR w (zE m) (.returned v6) w6):=Lib.hid ⟨hm46,v6,rfl,by rw[HDL.out];exact hg6.base (by omega)⟩;refine hK _ _ hS6b ?_
  clear hm46 hg5 hg6 hm5 hm6 hS5 hS5b hS6b;clear hK K;simp only[stz];clear hS hc37 hc38;go_wp2;go_ret;exact HR.out
end
theorem cmarkZ:(prog.info? 152).bind (·.zero)=some (.agg #[.int .i64 0]):=by kernel_rfl
theorem built_cmark(n:Int):prog.built 152 [(0,.int .i64 n)]=some #[.int .i64 n]:=by
 have p:xR prog 152=some [(0,1)]:=by kernel_rfl
 rw[zL cmarkZ p,zD (off:=0) (size:=1) rfl (by rfl) (by simp),xT]
 rfl
theorem built_cmark0:prog.built 152 []=some #[.int .i64 0]:=by kernel_rfl
def marksV(all:Marks):List (List UInt8×Value):=all.map fun p=>(p.1,linkV ((p.2:Nat):Int))
abbrev MarksAt(w:World)(mb:Nat)(all:Marks):Prop:=MapIs idV IdOk w mb (marksV all)
theorem marks_get(id:List UInt8)(all:Marks):getL id (marksV all)=(getL id all).map fun k=>linkV ((k:Nat):Int):=getL_map (fun k:Nat=>linkV (k:Int)) id all
theorem marks_put(id:List UInt8)(k:Nat)(all:Marks):putL id (linkV ((k:Nat):Int)) (marksV all)=marksV (putL id k all):=putL_map (fun k:Nat=>linkV (k:Int)) id k all
def RisingR(w:World)(l:List (List UInt8)):Ending->World->Prop:=fun e w'=>Mod NoB w w'/\∃v ids,e=.returned v/\GatI w.heap.size w' v ids/\ids.Pairwise (fun a b=>a<b)/\ids.Perm l/\∀x∈ids,x.length=32
theorem rising_of{w w1 w':World}{v:Value}{ks:List IdS}{l:List (List UInt8)}(hS:(ks.map (·.1)).Perm l)(hnd:l.Nodup)(hm1:Mod NoB w w1)(hm:Mod NoB w1 w')(hrow:w'.ownsRow w1.heap.size 24 32 v ks.length ((yH ks).flatMap idLS)):RisingR w l (.returned v) w':=by
 have hl:(yH ks).length=ks.length:=(sortIS_perm ks).length_eq
 have hkn:ks.Nodup:=by
  have:(ks.map (·.1)).Nodup:=hS.nodup_iff.2 hnd;exact(List.pairwise_map.1 this).imp fun hne e=>hne (by rw[e])
 refine⟨hm1.trans0 hm,v,(yH ks).map (·.1),rfl,?_,?_,?_,?_⟩
 ·have h1:GatI w1.heap.size w' v ((yH ks).map (·.1)):=by
   unfold GatI Gat;rw[List.length_map,hl,<-idLS_flat];exact hrow
  exact h1.base hm1.size
 ·exact List.pairwise_map.2 (sortIS_sorted hkn)
 ·exact((sortIS_perm ks).map _).trans hS
 ·intro x hx
  obtain⟨k,_,rfl⟩:=List.mem_map.1 hx;exact k.2
theorem clRising_any{w:World}{mb:Nat}{l:List (List UInt8×Value)}(hM:MapIs idV IdOk w mb l)(hlen:l.length<=65536):Calls prog 84 #[.map (some mb)] w (RisingR w (l.map (·.1))):=by
 have hm1:=jJ w (.cells #[.map (some mb)] 144);have hB:=heap_alloc_new w (.cells #[.map (some mb)] 144);have hk:=keysC_any w mb;have hnd:=hM.nd
 obtain⟨w1,hw1⟩:∃w1,w.alloc (.cells #[.map (some mb)] 144)=w1:=⟨_,rfl⟩;rw[hw1]at hm1 hB;simp only[hw1]at hk
 have hst:=keysC_stops 2 (by omega) w1 w.heap.size mb l hB (hM.keep0 hm1)
 have hso:=sortedI_of (n:=3) (by omega) 216 #[.pointer (some ⟨w.heap.size,0,none⟩)] (enters_of func216 (by kernel_rfl) rfl) _ _ l.length hlen w1 hst (fun ks h=>by have:=h.length_eq;simp at this;omega)
 clear hst hw1 hB;go_enter func84,ntmps84;go_upto_region 1 with(fail);refine wpR [3,1,1,3] ?_;simp only[stz];refine wpD (wpC func161 (hk) ?_);rintro e wa ⟨rfl,hw⟩
 obtain rfl:=hw.symm;refine⟨_,rfl,?_⟩;try simp only[nmz]
 refine wpD (wpC func160 hso ?_);rintro e w3 ⟨v,ks,rfl,hS,hm3,hrow⟩;have HR:=hid (rising_of hS hnd hm1 hm3 hrow);clear hS hm3 hrow;refine⟨_,rfl,?_⟩;simp only[stz];go_wp2
 go_ret;exact HR.out
section
variable{w:World}{bs ms wd:Nat}{room:Int}{bl:List Blb}
theorem clNone_any(h:StInv w bs ms wd room bl):Calls prog 86 #[.pointer (some ⟨bs,0,none⟩)] w (RetE (.bool false) w):=by
 have hw:=bWidth_any h;have hz:¬(wd:Int)=0:=by have:=h.wok;omega
 clear h;go_enter func86,ntmps86;go_wp2_with (go_at_call 124;refine hw.mono ?_;rintro _ w1 ⟨rfl,hw1⟩;obtain rfl:=hw1.symm);go_ret;have hz2:¬wd=0:=by omega
 exact⟨by simp[hz2],rfl⟩
end
instance:Inhabited DescL:=⟨descZ⟩
def ReachR(w:World)(mb:Nat)(all:Marks):Ending->World->Prop:=fun e w'=>e=.returned (.tuple #[])/\MarksAt w' mb all/\Mod (fun k=>k=mb) w w'
def foldM(c:BlobM)(f depth:Nat)(ds:List DescL)(all:Marks):Marks:=ds.foldl (fun all d=>if xK d then yE c f d.id (depth+1) all else leafM all d.id) all
theorem foldM_succ(c:BlobM)(f depth:Nat)(ds:List DescL)(all:Marks)(k:Nat)(hk:k<ds.length):foldM c f depth (ds.take (k+1)) all=if xK ds[k]then yE c f ds[k].id (depth+1) (foldM c f depth (ds.take k) all)else leafM (foldM c f depth (ds.take k) all) ds[k].id:=by
 unfold foldM;rw[List.take_succ_eq_append_getElem hk,List.foldl_append]
 rfl
def ReachRel(w0:World)(mb:Nat)(c:BlobM)(f depth:Nat)(ds:List DescL)(all:Marks)(i:Value)(w:World):Prop:=∃k:Nat,k<=ds.length/\i=.int .i64 k/\MarksAt w mb (foldM c f depth (ds.take k) all)/\Mod (fun q=>q=mb) w0 w
theorem descRow_at1{m:Nat}{x:List UInt8}{n:Nat}{p:List UInt8}:∀j,j<(qA x).size->(zX m x n p)[1+j]?=(qA x)[j]?:=by
 intro j hj;rw[qD]at hj;rw[<-Array.getElem?_toList,<-Array.getElem?_toList,Nat.add_comm];simp only[zX,List.getElem?_cons_succ,qA]
 rw[List.getElem?_append_left (by simpa using hj)]
theorem wasM_eq(all:Marks)(id:List UInt8)(depth:Nat):wasM all id depth=((getL id all).isSome&&(decide (0<(getL id all).getD 0)&&decide ((getL id all).getD 0<=depth))):=by
 unfold wasM
 cases getL id all<;>simp
theorem mark_look(id:List UInt8)(all:Marks):(if true=true then Value.tuple #[(getL id (marksV all)).getD (linkV 0),.bool (getL id (marksV all)).isSome]else(getL id (marksV all)).getD (linkV 0))=.tuple #[linkV ((((getL id all).getD 0:Nat)):Int),.bool (getL id all).isSome]:=by
 rw[if_pos rfl,marks_get]
 cases getL id all<;>rfl
theorem linkV_one(n:Int):∀c∈(#[.int .i64 n]:Array Value),c.oneCell'=true:=by simp[Value.oneCell']
section
variable{bs ms wd:Nat}{room:Int}{bl:List Blb}{mb:Nat}
theorem StInv.keepM{w w':World}(h:StInv w bs ms wd room bl)(hmb:¬SFoot bs ms bl mb)(hm:Mod (fun k=>k=mb) w w'):StInv w' bs ms wd room bl:=h.keep hm (fun k hk e=>hmb (by have e':k=mb:=e;rw[<-e'];exact hk))
theorem clReach_any(hmb:¬SFoot bs ms bl mb):∀(f:Nat)(id:List UInt8)(depth:Nat)(all:Marks)(w:World),id.length=32->0<depth->depth+f=6->0<f->StInv w bs ms wd room bl->MarksAt w mb all->
 Calls prog 87 #[.pointer (some ⟨bs,0,none⟩),.agg (qA id),.int .i64 depth,.map (some mb)] w (ReachR w mb (yE (cont bl) f id depth all))
 |0,_,_,_,_,_,_,_,h,_,_=>by omega
 |f+1,di,depth,all,w,hid,hd0,hdf,_,hst,hM=>by
  have ih:=clReach_any hmb f;have IH:=Lib.hid ih;have hic:(qA di).size=32:=by rw[qD,hid]
  have H:=Lib.hid hst;have HM:=Lib.hid hM;have hmbl:mb<w.heap.size:=hM.lt;have HW:=Lib.hid (wasM_eq all di depth);have HLK:=Lib.hid (mark_look di all)
  obtain⟨kk,hkk⟩:∃q,(getL di all).getD 0=q:=⟨_,rfl⟩;obtain⟨is,his⟩:∃q,(getL di all).isSome=q:=⟨_,rfl⟩;rw[hkk,his]at HW HLK
  have hwas:∃q,wasM all di depth=q:=⟨_,rfl⟩;obtain⟨was,hwas⟩:=hwas;rw[hwas]at HW;have HWAS:=Lib.hid hwas;have hdz:depth<=5:=by omega
  clear hst hM hkk his hwas ih;go_enter func87,ntmps87;go_upto_region 0 with(fail);refine wpR [1] ?_;simp only[stz]
  refine wpD (zT 24 _ _ (by rfl) (by rfl) (fun w1 hB1 hm1 hs1=>?_));replace hB1:w1.heap[w.heap.size]?=some (.cells (qA di) 24 (0,0)):=hB1;simp only[stz]
  have HM1:=Lib.hid (HM.out.keep0 hm1);have hm1s:w.heap.size<w1.heap.size:=hs1;generalize hb5:w.heap.size=b5 at*;go_upto_region 1 with(fail)
  refine wpR [3,1,1,3,3,3,1,1,3] ?_;simp only[stz];refine wpXA 24 b5 0 (qA di) (CellsAt.whole hB1) underlying24 32 hic trivial ?_;try simp only[nmz]
  refine wpX rfl (exec_lookupL keyT_id HM1.out di hid 144 152 underlying144 (linkV 0) cmarkZ _ _ true (by rfl) (by rfl) (by rfl) _ HLK.out) trivial ?_;simp only[stz]
  refine qE (v:=?_) rfl (fun w'=>?_) ?_;rotate_left;·(go_simp;try with_reducible rfl)
  simp only[nmz];refine qE (v:=?_) rfl (fun w'=>?_) ?_;rotate_left;·(go_simp;try with_reducible rfl)
  simp only[nmz];refine wpD (qP 152 _ (by rfl) cmarkZ (fun w2 hB2 hm2 hs2=>?_));replace hB2:w2.heap[w1.heap.size]?=some (.cells #[.int .i64 0] 152 (0,0)):=hB2
  try simp only[nmz]
  refine wpD (qF 152 _ _ w1.heap.size 0 #[.int .i64 kk] (by rfl) (by rfl) (by rfl) (linkV_one _) 1 (by kernel_rfl) rfl _ _ hB2 (by simp) (fun w3 hB3 hm3=>?_))
  rw[qC (by rfl)]at hB3;simp only[stz];have hm13:Mod NoB w1 w3:=hm2.transB hm3 (Nat.le_refl _);have HB1:=Lib.hid (hm13.obj id hB1)
  have hck:w3.cell? ⟨w1.heap.size,0,none⟩=some (.int .i64 kk):=by simp[World.cell?,hB3]
  have HM03:=Lib.hid (hm1.trans0 hm13);replace HM1:=Lib.hid (HM1.out.keep0 hm13);generalize hb8:w1.heap.size=b8 at*;clear hm1 hm13 hm2 hm3 hB1 hB2 hB3 hs1 hs2
  go_upto_region 2 with(fail)
  go_cut [35] (fun s wx=>s=.bool was/\wx=w3)
  case first=>
   have hw:=HW.out
   cases is with
   |false=>
    obtain rfl:was=false:=by simpa using hw
    clear hw;refine wpR [3,3,3,0,3,3,3,3,0,3,3,3] ?_;simp only[stz];go_wp2
    go_meet
    case rel=>exact⟨rfl,rfl⟩
   |true=>
    by_cases hk0:0<kk
    ·have hz:(kk:Int)>0:=by omega
     by_cases hkd:kk<=depth
     ·have hz2:(kk:Int)<=(depth:Int):=by omega
      obtain rfl:was=true:=by simpa[hk0,hkd]using hw
      clear hw;refine wpR [3,3,3,1,3,3,3,3,1,3,3,3] ?_;simp only[stz];refine wpXd (v:=(.int .i64 kk)) 3 b8 0 hck underlying3 trivial ?_;try simp only[nmz]
      refine qG _ _ _ _ _ _ _ _ rfl rfl rfl rfl rfl true (decide_eq_true hz) ?_;simp only[stz];refine wpXd (v:=(.int .i64 kk)) 3 b8 0 hck underlying3 trivial ?_
      simp only[stz];refine qG _ _ _ _ _ _ _ _ rfl rfl rfl rfl rfl true (decide_eq_true hz2) ?_;simp only[stz];go_wp2
      go_meet
      case rel=>exact⟨rfl,rfl⟩
     ·have hz2:¬(kk:Int)<=(depth:Int):=by omega
      obtain rfl:was=false:=by simpa[hk0,hkd]using hw
      clear hw;refine wpR [3,3,3,1,3,3,3,3,1,3,3,3] ?_;simp only[stz];refine wpXd (v:=(.int .i64 kk)) 3 b8 0 hck underlying3 trivial ?_;try simp only[nmz]
      refine qG _ _ _ _ _ _ _ _ rfl rfl rfl rfl rfl true (decide_eq_true hz) ?_;simp only[stz];refine wpXd (v:=(.int .i64 kk)) 3 b8 0 hck underlying3 trivial ?_
      simp only[stz];refine qG _ _ _ _ _ _ _ _ rfl rfl rfl rfl rfl false (decide_eq_false hz2) ?_;simp only[stz];go_wp2
      go_meet
      case rel=>exact⟨rfl,rfl⟩
    ·have hz:¬(kk:Int)>0:=by omega
     obtain rfl:was=false:=by simpa[hk0]using hw
     clear hw;refine wpR [3,3,3,1,3,3,3,3,0,3,3,3] ?_;simp only[stz];refine wpXd (v:=(.int .i64 kk)) 3 b8 0 hck underlying3 trivial ?_;try simp only[nmz]
     refine qG _ _ _ _ _ _ _ _ rfl rfl rfl rfl rfl false (decide_eq_false hz) ?_;simp only[stz];go_wp2
     go_meet
     case rel=>exact⟨rfl,rfl⟩
  case rest=>
   obtain⟨rfl,hw⟩:=hcut;obtain rfl:=hw.symm;clear HW hck HLK
   cases was with
   |true=>
    have HF:Hid (ReachR w mb (yE (cont bl) (f+1) di depth all) (.returned (.tuple #[])) w3):=Lib.hid ⟨rfl,by unfold yE;rw[if_pos HWAS.out];exact HM1.out,HM03.out.mono (fun _ _ h=>h.elim)⟩
    go_wp2
    go_end0
    exact HF.out
   |false=>
    have HRE:Hid (yE (cont bl) (f+1) di depth all=if 4<depth then putL di depth all else match xL (cont bl) di with|none=>putL di depth all|some ds=>foldM (cont bl) f depth ds (putL di depth all)):=Lib.hid (by
     unfold yE;rw[if_neg (by rw[HWAS.out];simp)]
     rfl)
    have hb1c:=HB1.out;go_upto_region 3 with(fail);refine wpR [3,1,3,0,1] ?_;simp only[stz]
    refine wpXA 24 b5 0 (qA di) (CellsAt.whole hb1c) underlying24 32 hic trivial ?_;simp only[stz]
    refine qQ rfl (fun w' hS=>qL 152 [(0,_)] [(0,.int .i64 depth)] _ (by rfl) (by rfl) (built_cmark depth)) ?_;simp only[nmz]
    refine wpD (wp_putL keyT_id HM1.out di hid 144 152 underlying144 _ _ _ (linkV depth) (by rfl) (by rfl) (by rfl) (by rfl) (fun w4 hM4 hm4=>?_));rw[marks_put]at hM4
    have HM4:=Lib.hid hM4;simp only[stz];have hm04:Mod (fun k=>k=mb) w w4:=(HM03.out.mono (fun _ _ h=>h.elim)).trans hm4 (fun _ _ h=>h)
    have H4:=Lib.hid (H.out.keepM hmb hm04);have hb14:=hm4.objB (b:=b5) (by omega) hb1c;have HM04:=Lib.hid hm04;obtain⟨all1,hall1⟩:∃q,putL di depth all=q:=⟨_,rfl⟩
    rw[hall1]at HM4 HRE;have hget:=bGet_any H4.out di hid;clear hM4 hm4 hm04 hb1c hall1;obtain⟨r,hr⟩:∃q,getL di (cont bl)=q:=⟨_,rfl⟩;rw[hr]at hget
    have HGR:=Lib.hid hr;clear hr
    cases r with
    |none=>
     have HF0:Hid (yE (cont bl) (f+1) di depth all=all1):=Lib.hid (by
      rw[HRE.out];have:xL (cont bl) di=none:=by unfold xL;rw[HGR.out]
      rw[this]
      split<;>rfl)
     go_upto_region 4 with(fail);refine wpR [3,1,1,3,3,3,3,3] ?_;simp only[stz];refine wpXA 24 b5 0 (qA di) (CellsAt.whole hb14) underlying24 32 hic trivial ?_
     try simp only[nmz]
     refine wpD (wpC func33 (hget) ?_);rintro e w5 ⟨hm5,rfl⟩;refine⟨_,rfl,?_⟩;simp only[stz]
     refine qE (v:=?_) rfl (fun w'=>?_) ?_;rotate_left;·(go_simp;try with_reducible rfl)
     simp only[nmz];refine qE (v:=?_) rfl (fun w'=>?_) ?_;rotate_left;·(go_simp;try with_reducible rfl)
     simp only[stz];go_upto_region 5 with(fail);refine wpR [3,1,3,3,3,1,1,1,1] ?_;simp only[stz]
     refine wpD (wpC func158 (mDecode_any (b:=[]) (Sl.nil true w5 (fun _=>True) 1 ByteC) (by simp)) ?_);rintro e w6 ⟨hm6,cs,er,at_,rfl,her,hmc⟩;have hcs:=hmc.size
     have hone:=hmc.one;refine⟨_,rfl,?_⟩;simp only[stz];refine qE (v:=?_) rfl (fun w'=>?_) ?_;rotate_left;·(go_simp;try with_reducible rfl)
     simp only[nmz];refine qE (v:=?_) rfl (fun w'=>?_) ?_;rotate_left;·(go_simp;try with_reducible rfl)
     simp only[nmz];refine wpD (qP 163 _ (by rfl) manZ_i (fun w7 hB7 hm7 hs7=>?_))
     replace hB7:w7.heap[w6.heap.size]?=some (.cells (qN 0 [] descZ (.slice none 0 0) (.slice none 0 0)) 163 (0,0)):=hB7;try simp only[nmz]
     refine wpD (qP 255 _ (by rfl) fltZ (fun w8 hB8 hm8 hs8=>?_));replace hB8:w8.heap[w7.heap.size]?=some (.cells #[.int .i64 0,.int .i64 0] 255 (0,0)):=hB8
     try simp only[nmz]
     refine wpDo rfl ?_
     refine qF 163 _ _ w6.heap.size 0 cs (by rfl) (by rfl) (by rfl) hone 39 (by kernel_rfl) hcs _ _ (hm8.obj id hB7) (by rw[hcs];exact Nat.le_of_eq (qS qV).symm) (fun w9 hB9 hm9=>?_)
     have hB8':=hm9.objB (by omega) hB8;try simp only[nmz]
     refine wpD (qF 255 _ _ w7.heap.size 0 #[.int .i64 er,.int .i64 at_] (by rfl) (by rfl) (by rfl) (by simp[Value.oneCell']) 2 (by kernel_rfl) rfl _ _ hB8' (by simp) (fun wa hBa hma=>?_))
     simp only[stz]
     have hm4a:Mod NoB w4 wa:=((((hm5.trans0 hm6).trans0 hm7).trans0 hm8).transB hm9 (by have:=hm5.size;have:=hm6.size;omega)).transB hma (by have:=hm5.size;have:=hm6.size;have:=hm7.size;omega)
     have HF:Hid (ReachR w mb (yE (cont bl) (f+1) di depth all) (.returned (.tuple #[])) wa):=Lib.hid ⟨rfl,by rw[HF0.out];exact HM4.out.keep0 hm4a,HM04.out.trans hm4a (fun _ _ h=>h.elim)⟩
     clear hm5 hm6 hm7 hm8 hm9 hma hm4a hB7 hB8 hB8' hB9 hBa hmc hb14;go_upto_region 6 with(fail);refine wpR [3,3,3,3,0,3,3,3,3,3,3] ?_;simp only[stz]
     try refine zH _ _ false (by rfl) (by rfl) (by rfl) ?_
     try simp only[stz]
     go_wp2
     go_end0
     exact HF.out
    |some m=>
     have hml:m.length<=4096:=by
      have h1:=HGR.out;rw[getB]at h1
      cases hf:findB di bl with
      |none=>rw[hf]at h1;cases h1
      |some b=>
       rw[hf]at h1;simp only[Option.map_some,Option.some.injEq]at h1;rw[<-h1];exact H.out.sz b (findB_some hf).1
     have HDO:Hid (xL (cont bl) di=(decL m).map zE):=Lib.hid (by unfold xL;rw[HGR.out]);go_upto_region 4 with(fail);refine wpR [3,1,1,3,3,3,3,3] ?_
     simp only[stz];refine wpXA 24 b5 0 (qA di) (CellsAt.whole hb14) underlying24 32 hic trivial ?_;try simp only[nmz]
     refine wpD (wpC func33 (hget) ?_);rintro e w5 ⟨hm5,bv,rfl,hbv⟩;refine⟨_,rfl,?_⟩;simp only[stz]
     refine qE (v:=?_) rfl (fun w'=>?_) ?_;rotate_left;·(go_simp;try with_reducible rfl)
     simp only[nmz];refine qE (v:=?_) rfl (fun w'=>?_) ?_;rotate_left;·(go_simp;try with_reducible rfl)
     simp only[stz];go_upto_region 5 with(fail);refine wpR [3,1,3,3,3,1,1,1,1] ?_;simp only[stz];refine wpD (wpC func158 (mDecode_any (Bts.sl hbv) hml) ?_)
     rintro e w6 ⟨hm6,cs,er,at_,rfl,her,hmc⟩;have hcs:=hmc.size;have hone:=hmc.one;refine⟨_,rfl,?_⟩;simp only[stz]
     refine qE (v:=?_) rfl (fun w'=>?_) ?_;rotate_left;·(go_simp;try with_reducible rfl)
     simp only[nmz];refine qE (v:=?_) rfl (fun w'=>?_) ?_;rotate_left;·(go_simp;try with_reducible rfl)
     simp only[nmz];refine wpD (qP 163 _ (by rfl) manZ_i (fun w7 hB7 hm7 hs7=>?_))
     replace hB7:w7.heap[w6.heap.size]?=some (.cells (qN 0 [] descZ (.slice none 0 0) (.slice none 0 0)) 163 (0,0)):=hB7;try simp only[nmz]
     refine wpD (qP 255 _ (by rfl) fltZ (fun w8 hB8 hm8 hs8=>?_));replace hB8:w8.heap[w7.heap.size]?=some (.cells #[.int .i64 0,.int .i64 0] 255 (0,0)):=hB8
     try simp only[nmz]
     refine wpDo rfl ?_
     refine qF 163 _ _ w6.heap.size 0 cs (by rfl) (by rfl) (by rfl) hone 39 (by kernel_rfl) hcs _ _ (hm8.obj id hB7) (by rw[hcs];exact Nat.le_of_eq (qS qV).symm) (fun w9 hB9 hm9=>?_)
     rw[qC (by rw[hcs];exact(qS qV).symm)]at hB9;have hB8':=hm9.objB (by omega) hB8;try simp only[nmz]
     refine wpD (qF 255 _ _ w7.heap.size 0 #[.int .i64 er,.int .i64 at_] (by rfl) (by rfl) (by rfl) (by simp[Value.oneCell']) 2 (by kernel_rfl) rfl _ _ hB8' (by simp) (fun wa hBa hma=>?_))
     rw[qC (by rfl)]at hBa;have hB9':=hma.objB (by omega) hB9;simp only[stz];have h56:=hm5.size;have h66:=hm6.size;have h67:=hm7.size
     have hm6a:Mod NoB w6 wa:=((hm7.trans0 hm8).transB hm9 (Nat.le_refl _)).transB hma (by omega);have hm4a:Mod NoB w4 wa:=(hm5.trans0 hm6).trans0 hm6a
     have HMC:=Lib.hid (hmc.keep0 hm6a);have hce:wa.cell? ⟨w7.heap.size,0,none⟩=some (.int .i64 er):=by simp[World.cell?,hBa]
     have HER:=Lib.hid her;have HMa:=Lib.hid (HM4.out.keep0 hm4a);have H4a:=Lib.hid (H4.out.keep0 hm4a)
     have HM0a:Hid (Mod (fun k=>k=mb) w wa):=Lib.hid (HM04.out.trans hm4a (fun _ _ h=>h.elim));generalize hb13:w7.heap.size=b13 at*
     generalize hb12:w6.heap.size=b12 at*;clear hm5 hm6 hm7 hm8 hm9 hma hm4a hm6a hB7 hB8 hB8' hB9 hBa hmc hb14 her hbv
     by_cases hez:er=0
     rotate_left
     ·have hF0:yE (cont bl) (f+1) di depth all=all1:=by
       rw[HRE.out,HDO.out]
       have:decL m=none:=by
        cases hd:decL m with
        |none=>rfl
        |some q=>exact absurd (HER.out.2 (by rw[hd];rfl)) hez
       rw[this]
       simp
      have HF:Hid (ReachR w mb (yE (cont bl) (f+1) di depth all) (.returned (.tuple #[])) wa):=Lib.hid ⟨rfl,by rw[hF0];exact HMa.out,HM0a.out⟩;clear hF0
      go_upto_region 6 with(fail);refine wpR [3,3,3,3,1,3,3,3,3,3,3] ?_;simp only[stz]
      try refine zH _ _ true (by rfl) (by rfl) (by rfl) ?_
      try simp only[stz]
      refine wpXd (v:=(.int .i64 er)) 33 b13 0 hce underlying33 trivial ?_;try simp only[nmz]
      refine qG _ _ _ _ _ _ _ _ rfl rfl rfl rfl rfl true (decide_eq_true hez) ?_;simp only[stz];go_wp2
      go_end0
      exact HF.out
     ·subst hez
      obtain⟨M,hM⟩:∃M,decL m=some M:=Option.isSome_iff_exists.1 (HER.out.1 rfl);have hmc:=HMC.out;rw[hM]at hmc;replace hmc:ManC w5.heap.size wa cs M:=hmc
      by_cases hd4:4<depth
      ·have hz4:(depth:Int)>4:=by omega
       have HF:Hid (ReachR w mb (yE (cont bl) (f+1) di depth all) (.returned (.tuple #[])) wa):=Lib.hid ⟨rfl,by rw[HRE.out,if_pos hd4];exact HMa.out,HM0a.out⟩
       clear hmc;go_upto_region 6 with(fail);refine wpR [3,3,3,3,1,3,3,3,3,3,3] ?_;simp only[stz]
       try refine zH _ _ true (by rfl) (by rfl) (by rfl) ?_
       try simp only[stz]
       refine wpXd (v:=(.int .i64 0)) 33 b13 0 hce underlying33 trivial ?_;try simp only[nmz]
       refine qG _ _ _ _ _ _ _ _ rfl rfl rfl rfl rfl false (by decide) ?_;simp only[stz];refine qG _ _ _ _ _ _ _ _ rfl rfl rfl rfl rfl true (decide_eq_true hz4) ?_
       simp only[stz];go_wp2
       go_end0
       exact HF.out
      ·have hz4:¬(depth:Int)>4:=by omega
       have hlens:=decL_len hM;have hids:=decL_ids hM
       have hR0:yE (cont bl) (f+1) di depth all=foldM (cont bl) f depth (zE M) all1:=by
        rw[HRE.out,if_neg hd4,HDO.out,hM]
        rfl
       have HR0:=Lib.hid hR0;have hdc:=mDescs_any hmc ⟨hlens.1,hlens.2.1⟩
       have hdl:(zE M).length<=33:=by
        unfold zE;simp only[List.length_append]
        split<;>simp<;>omega
       have HIDS:=Lib.hid hids;obtain⟨ds,hds⟩:∃ds,zE M=ds:=⟨_,rfl⟩;rw[hds]at hdc HR0 HIDS hdl;clear hR0 hlens hids hmc HMC hM hds HRE HDO HER
       go_upto_region 6 with(fail);refine wpR [3,3,3,3,1,3,3,3,3,3,3] ?_;simp only[stz]
       try refine zH _ _ true (by rfl) (by rfl) (by rfl) ?_
       try simp only[stz]
       refine wpXd (v:=(.int .i64 0)) 33 b13 0 hce underlying33 trivial ?_;try simp only[nmz]
       refine qG _ _ _ _ _ _ _ _ rfl rfl rfl rfl rfl false (by decide) ?_;simp only[stz];refine qG _ _ _ _ _ _ _ _ rfl rfl rfl rfl rfl false (decide_eq_false hz4) ?_
       simp only[stz];clear hce;go_upto_region 7 with(fail);refine wpR [1,1,3,3] ?_;simp only[stz]
       refine wpXA 163 b12 0 cs (CellsAt.whole hB9') underlying163 39 hcs trivial ?_;try simp only[nmz]
       refine wpD (wpC func159 hdc ?_);rintro e wb ⟨hmb',dv,rfl,hgd⟩;have HGD:=Lib.hid hgd;obtain⟨dad,dcap,rfl⟩:=hgd.slice;clear hgd;refine⟨_,rfl,?_⟩
       try simp only[nmz]
       refine wpPL ?_;simp only[stz]
       have HRL:Hid (ReachRel wb mb (cont bl) f depth ds all1 (.int .i64 (0:Nat)) wb):=Lib.hid ⟨0,Nat.zero_le _,rfl,HMa.out.keep0 hmb',Mod.refl _ _⟩
       have H4b:=Lib.hid (H4a.out.keep0 hmb');have HM0b:Hid (Mod (fun k=>k=mb) w wb):=Lib.hid (HM0a.out.trans hmb' (fun _ _ h=>h.elim))
       have hmbb:mb<wa.heap.size:=HMa.out.lt;have hwab:wa.heap.size<=wb.heap.size:=hmb'.size
       have hgl:∀q,(Value.slice dad ds.length dcap).ownBlock=some q->q≠mb:=fun q hq=>by
        have:=(HGD.out.lt hq).1;omega
       clear hmb' hB9' hdc;go_wp2
       go_loopw [65] (ReachRel wb mb (cont bl) f depth ds all1) (fun i _=>ds.length-(intOf i).toNat)
       case atStart=>exact HRL.out
       case round=>
        rename World=>wr
        obtain⟨k,hk,rfl,hMr,hmr⟩:=hrel;have HMR:=Lib.hid hMr;have HmR:=Lib.hid hmr;have hmbr:mb<wr.heap.size:=hMr.lt
        by_cases hlt:k<ds.length
        ·have hzk:(k:Int)<(ds.length:Nat):=by omega
         have hgr:GatD wa.heap.size wr (.slice dad ds.length dcap) ds:=HGD.out.keep hmr (fun q hq e=>hgl q hq e)
         obtain⟨g,cap',cur,hq,hgc,hcc,hsz,-,-⟩:=hgr.at xZ k hlt
         cases hq
         have hfs:=foldM_succ (cont bl) f depth ds all1 k hlt;have hdid:=HIDS.out ds[k] (List.getElem_mem _);generalize ds[k]=d at*;rw[jK hdid]at hcc
         have hdsz:(qB d).size=35:=qO hdid;have hdic:(qA d.id).size=32:=by rw[qD,hdid]
         have hdone:∀c∈qB d,c.oneCell'=true:=zJ _ _ _ _;have HFS:=Lib.hid hfs;clear hfs hMr hmr hgr;go_upto_region 9 with(fail)
         refine wpR [3,1,1,1] ?_;simp only[stz];refine wpPI underlying161 35 hlt ?_;simp only[nmz]
         refine wpXA 46 g (k*35) (qB d) hcc underlying46 35 hdsz trivial ?_;try simp only[nmz]
         refine wpD (qP 46 _ (by rfl) descZ_i (fun wc hBc hmc hsc=>?_));replace hBc:wc.heap[wr.heap.size]?=some (.cells (qB descZ) 46 (0,0)):=hBc
         try simp only[nmz]
         refine wpDo rfl ?_
         refine qF 46 _ _ wr.heap.size 0 (qB d) (by rfl) (by rfl) (by rfl) hdone 35 (by kernel_rfl) hdsz _ _ hBc (by rw[hdsz];exact Nat.le_of_eq (qO qV).symm) (fun wd' hBd hmd=>?_)
         rw[qC (by rw[hdsz];exact(qO qV).symm)]at hBd;simp only[stz];have hmrd:Mod NoB wr wd':=hmc.transB hmd (Nat.le_refl _)
         have hcm:wd'.cell? ⟨wr.heap.size,0,none⟩=some (.int .i64 d.media):=by rw[cell_of_row _ _ _ _ _ _ hBd];rfl
         have hci:CellsAt wd' wr.heap.size 1 (qA d.id):=CellsAt.of_obj hBd descRow_at1;replace HMR:=Lib.hid (HMR.out.keep0 hmrd)
         replace HmR:Hid (Mod (fun q=>q=mb) wb wd'):=Lib.hid (HmR.out.trans hmrd (fun _ _ h=>h.elim));have Hd:=Lib.hid (H4b.out.keepM hmb HmR.out)
         have hmbd:mb<wd'.heap.size:=HMR.out.lt;generalize hb15:wr.heap.size=b15 at*;clear hmc hmd hmrd hBc hBd hcc hgc hsz;go_upto_region 10 with(fail)
         go_cut [76] (fun s wx=>s=.bool (xK d)/\wx=wd')
         case first=>
          by_cases h3:d.media=3
          ·have hz3:(d.media:Int)=3:=by omega
           have ht:xK d=true:=by simp[xK,h3]
           refine wpR [3,1,3,3,3,0,3,3] ?_;simp only[stz];refine wpXd (v:=(.int .i64 d.media)) 3 b15 0 hcm underlying3 trivial ?_;try simp only[nmz]
           refine qG _ _ _ _ _ _ _ _ rfl rfl rfl rfl rfl true (decide_eq_true hz3) ?_;simp only[stz];go_wp2
           go_meet
           case rel=>exact⟨by rw[ht],rfl⟩
          ·have hz3:¬(d.media:Int)=3:=by omega
           by_cases h4:d.media=4
           ·have hz4':(d.media:Int)=4:=by omega
            have ht:xK d=true:=by simp[xK,h4]
            refine wpR [3,1,3,3,3,1,3,3] ?_;simp only[stz];refine wpXd (v:=(.int .i64 d.media)) 3 b15 0 hcm underlying3 trivial ?_;try simp only[nmz]
            refine qG _ _ _ _ _ _ _ _ rfl rfl rfl rfl rfl false (decide_eq_false hz3) ?_;simp only[stz]
            refine wpXd (v:=(.int .i64 d.media)) 3 b15 0 hcm underlying3 trivial ?_;try simp only[nmz]
            refine qG _ _ _ _ _ _ _ _ rfl rfl rfl rfl rfl true (decide_eq_true hz4') ?_;simp only[stz];go_wp2
            go_meet
            case rel=>exact⟨by rw[ht],rfl⟩
           ·have hz4':¬(d.media:Int)=4:=by omega
            have ht:xK d=false:=by simp[xK,h3,h4]
            refine wpR [3,1,3,3,3,1,3,3] ?_;simp only[stz];refine wpXd (v:=(.int .i64 d.media)) 3 b15 0 hcm underlying3 trivial ?_;try simp only[nmz]
            refine qG _ _ _ _ _ _ _ _ rfl rfl rfl rfl rfl false (decide_eq_false hz3) ?_;simp only[stz]
            refine wpXd (v:=(.int .i64 d.media)) 3 b15 0 hcm underlying3 trivial ?_;try simp only[nmz]
            refine qG _ _ _ _ _ _ _ _ rfl rfl rfl rfl rfl false (decide_eq_false hz4') ?_;simp only[stz];go_wp2
            go_meet
            case rel=>exact⟨by rw[ht],rfl⟩
         case rest=>
          obtain⟨rfl,hw⟩:=hcut;obtain rfl:=hw.symm;clear hcm;obtain⟨tr,htr⟩:∃q,xK d=q:=⟨_,rfl⟩;rw[htr]at HFS |-;clear htr
          cases tr with
          |true=>
           have hrec:=IH.out d.id (depth+1) _ _ hdid (by omega) (by omega) (by omega) Hd.out HMR.out;go_upto_region 11 with(fail);refine wpR [3,3,1,3,3,3,1] ?_
           simp only[stz];refine wpXA 24 b15 1 (qA d.id) hci underlying24 32 hdic trivial ?_;simp only[stz]
           refine qY _ _ _ _ (depth:Int) 1 ((depth+1:Nat):Int) rfl rfl rfl rfl (by omega) (by omega) (by omega) ?_;simp only[stz]
           refine wpD (wpC func87 (hrec) ?_);rintro e we ⟨rfl,hMe,hme⟩
           have HR:Hid (ReachRel wb mb (cont bl) f depth ds all1 (.int .i64 ((k+1:Nat):Int)) we):=Lib.hid ⟨k+1,by omega,rfl,by rw[HFS.out];exact hMe,HmR.out.trans hme (fun _ _ h=>h)⟩
           refine⟨_,rfl,?_⟩;simp only[stz];clear hMe hme hci hrec;go_wp2
           go_roundw
           case rel=>exact HR.out
           case measure=>simp[intOf];omega
          |false=>
           have HLK:=Lib.hid (mark_look d.id (foldM (cont bl) f depth (ds.take k) all1))
           obtain⟨kk2,hkk2⟩:∃q,(getL d.id (foldM (cont bl) f depth (ds.take k) all1)).getD 0=q:=⟨_,rfl⟩
           obtain⟨is2,his2⟩:∃q,(getL d.id (foldM (cont bl) f depth (ds.take k) all1)).isSome=q:=⟨_,rfl⟩;rw[hkk2,his2]at HLK;have HIS2:=Lib.hid his2
           clear hkk2 his2;go_upto_region 12 with(fail);refine wpR [3,3,1,1,3,3,3,1,1,3] ?_;simp only[stz]
           refine wpXA 24 b15 1 (qA d.id) hci underlying24 32 hdic trivial ?_;try simp only[nmz]
           refine wpX rfl (exec_lookupL keyT_id HMR.out d.id hdid 144 152 underlying144 (linkV 0) cmarkZ _ _ true (by rfl) (by rfl) (by rfl) _ HLK.out) trivial ?_;simp only[stz]
           refine qE (v:=?_) rfl (fun w'=>?_) ?_;rotate_left;·(go_simp;try with_reducible rfl)
           simp only[nmz];refine qE (v:=?_) rfl (fun w'=>?_) ?_;rotate_left;·(go_simp;try with_reducible rfl)
           simp only[nmz];refine wpD (qP 152 _ (by rfl) cmarkZ (fun we hBe hme hse=>?_))
           replace hBe:we.heap[wd'.heap.size]?=some (.cells #[.int .i64 0] 152 (0,0)):=hBe;try simp only[nmz]
           refine wpD (qF 152 _ _ wd'.heap.size 0 #[.int .i64 kk2] (by rfl) (by rfl) (by rfl) (linkV_one _) 1 (by kernel_rfl) rfl _ _ hBe (by simp) (fun wf hBf hmf=>?_))
           simp only[stz];have hmdf:Mod NoB wd' wf:=hme.transB hmf (Nat.le_refl _);have hcf:=hci.keep hmdf id;have HMf:=Lib.hid (HMR.out.keep0 hmdf)
           have HmF:Hid (Mod (fun q=>q=mb) wb wf):=Lib.hid (HmR.out.trans hmdf (fun _ _ h=>h.elim));clear hme hmf hmdf hBe hBf hse hci
           cases is2 with
           |true=>
            have HR:Hid (ReachRel wb mb (cont bl) f depth ds all1 (.int .i64 ((k+1:Nat):Int)) wf):=Lib.hid ⟨k+1,by omega,rfl,by rw[HFS.out];simp only[Bool.false_eq_true,if_false];unfold leafM;rw[if_pos HIS2.out];exact HMf.out,HmF.out⟩
            clear hcf;go_wp2
            go_roundw
            case rel=>exact HR.out
            case measure=>simp[intOf];omega
           |false=>
            go_upto_region 14 with(fail);refine wpR [3,3,1,0,1] ?_;simp only[stz];refine wpXA 24 b15 1 (qA d.id) hcf underlying24 32 hdic trivial ?_
            try simp only[nmz]
            refine qQ rfl (fun w' hS=>qL 152 [] [] _ (by rfl) (by rfl) built_cmark0) ?_;simp only[nmz];refine qM rfl (fun K hK=>?_)
            refine wp_putL keyT_id HMf.out d.id hdid 144 152 underlying144 _ _ _ (linkV ((0:Nat):Int)) (by rfl) (by rfl) (by rfl) (by rfl) (fun wg hMg hmg=>?_)
            rw[marks_put]at hMg
            have HR:Hid (ReachRel wb mb (cont bl) f depth ds all1 (.int .i64 ((k+1:Nat):Int)) wg):=Lib.hid ⟨k+1,by omega,rfl,by rw[HFS.out];simp only[Bool.false_eq_true,if_false];unfold leafM;rw[if_neg (by rw[HIS2.out];simp)];exact hMg,HmF.out.trans hmg (fun _ _ h=>h)⟩
            refine hK _ _ trivial ?_;clear hMg hmg;clear hK K;simp only[stz];clear hcf;go_wp2
            go_roundw
            case rel=>exact HR.out
            case measure=>simp[intOf];omega
        ·have hzk:¬(k:Int)<(ds.length:Nat):=by omega
         obtain rfl:k=ds.length:=by omega
         have HF:Hid (ReachR w mb (yE (cont bl) (f+1) di depth all) (.returned (.tuple #[])) wr):=Lib.hid ⟨rfl,by
          rw[HR0.out];have h1:=HMR.out;rw[List.take_length]at h1
          exact h1,HM0b.out.trans HmR.out (fun _ _ h=>h)⟩
         clear hMr hmr;go_wp2
         go_end0
         exact HF.out
end
end
section
open Go.RowKit Go.Proofs.Tryz Go.Lib
def KC(W W':World):Prop:=Mod (fun k=>∀o,W.heap[k]?=some o->o.isCells=false) W W'
theorem KC.refl(W:World):KC W W:=Mod.refl _ W
theorem KC.obj{W W':World}(h:KC W W'){k:Nat}{o:Obj}(ho:W.heap[k]?=some o)(hc:o.isCells=true):W'.heap[k]?=some o:=
 Mod.obj h (fun hs=>by rw[hs o ho]at hc;cases hc) ho
theorem KC.trans{A B C:World}(h:KC A B)(k:KC B C):KC A C:=
 Mod.trans h k (fun i _ hs o ho=>by
  cases hc:o.isCells with
  |false=>rfl
  |true=>rw[<-hs o (h.obj ho hc),hc])
theorem KC.of_mod{S:Nat->Prop}{W W':World}(h:Mod S W W')(hS:∀k o,S k->W.heap[k]?=some o->o.isCells=false):KC W W':=
 h.mono fun k _ hk o ho=>hS k o hk ho
theorem KC.of0{W W':World}(h:Mod NoB W W'):KC W W':=KC.of_mod h fun _ _ h=>h.elim
theorem KC.putObj{W:World}{l:Nat}{o:Obj}(o':Obj)(h:W.heap[l]?=some o)(hc:o.isCells=false):KC W (W.putObj l o'):=
 KC.of_mod (S:=fun k=>k=l) ((Mod.refl _ W).grown (grownBy_putObj' W l o') (fun k e _=>by cases e;rfl)) (fun k o1 e ho=>by
  have e:k=l:=e
  subst e;rw[h]at ho;cases ho;exact hc)
theorem KC.cell{W W':World}(h:KC W W'){p:Addr}{v:Value}(hc:W.cell? p=some v):W'.cell? p=some v:=by
 obtain⟨o,ho,hk⟩:=cells_of_cell hc;exact(World.cell?_of_block ((h.obj ho hk).trans ho.symm)).trans hc
theorem OwnFrom.mod0{β:Type}{I:β->World->Prop}{B:Nat}(h:OwnFrom B I){s:β}{W W':World}(hs:I s W)(hm:Mod NoB W W'):I s W':=
 h s W W' none hs hm.grownNone (fun r e=>by cases e)
theorem yield0{m m':Nat}{P:Program}{l:Nat}{args:Array Value}{W:World}{R:Ending->World->Prop}(h:YieldAt Fence.wide m P l args W R):YieldAt Fence.wide m' P l args W R:=by
 obtain⟨fn,tmps,assign,body,hy,hR⟩:=h;exact⟨fn,tmps,assign,body,hy,hR.1,fun c cs _=>hR.2 c cs (room_wide _)⟩
theorem yield_round{m l₀:Nat}{P:Program}{l:Nat}{args:Array Value}{W:World}{R:Ending->World->Prop}(h:YieldAt Fence.wide m P l args W R):YieldAt (Fence.wide.inRound l₀) m P l args W R:=h
end
section
open Go.RowKit Go.Shelf Go.Proofs.Tryz Go.Lib
theorem take_snoc{α:Type}{l:List α}{k:Nat}(hk:k<l.length):l.take k++[l[k]]=l.take (k+1):=(List.take_succ_eq_append_getElem hk).symm
abbrev AnyB:Nat->Prop:=fun _=>True
attribute [local go_sem] Oper.semAt_some
theorem wpIn_yieldR{P:Program}{n l₀:Nat}{o:Oper}{a:Act}{w:World}{K:Act->World->Prop}{Q:Exit->Act->World->Prop}{l:Nat}{R:Ending->World->Prop}(x y:Operand)(ts:Array TypeId)(ho:o.op=.call { callee:=.value x,args:=#[y],argTypes:=ts })(hx:a.eval x=.func (.yield l) #[] #[])(v:Value)(hv:a.eval y=v)
 (hy:YieldAt Fence.wide 0 P l #[v] w R)(hR:∀e w',R e w'->∃v,e=.returned v/\K (a.put o.dst v) w'):o.wpIn (Fence.wide.inRound l₀) n P a w K Q:=by
 subst hv;obtain⟨fn,tmps,assign,body,hrun,hround⟩:=yield_round (l₀:=l₀) (yield0 (m':=n-1) hy);unfold Oper.wpIn;refine⟨fun _ _=>trivial,?_⟩
 rw[Oper.semAt_eq _ _ _ (fun c h=>by rw[ho]at h;cases h)]
 have e:(execOp a.eval o).run P w=.ok (.round l fn tmps assign body) w:=by
  unfold execOp
  simp[ho,resolve,hx,Deferred.ofValue,invoke,hrun]
 rw[e];refine⟨fun h=>by simp[Fence.wide]at h,hround.mono fun e w' he=>?_⟩;obtain⟨v,rfl,hk⟩:=hR e w' he;exact hk
end
section
open Go.RowKit Go.Shelf Go.Proofs.Tryz Go.Lib
theorem run_clos{P:Program}{o:Oper}{a:Act}{w:World}(x y:Operand)(ts:Array TypeId)(gf:Nat)(lb:Array Value)(ho:o.op=.call { callee:=.value x,args:=#[y],argTypes:=ts })(hx:a.eval x=.func (.func gf) #[] lb)(v:Value)(hv:a.eval y=v)
 (eg:∀args w,(callFunc gf args).run P w=.ok (.enter gf args) w):(execOp a.eval o).run P w=.ok (.enter gf (#[v]++lb)) w:=by
 subst hv;unfold execOp
 simp[ho,resolve,hx,Deferred.ofValue,invoke,eg]
section
variable{w:World}{base gf:Nat}{lb:Array Value}{v:Value}{ids:List (List UInt8)}{del:List UInt8->Bool}
end
section
variable{P:Program}{o:Oper}{a:Act}{w:World}{K:Act->World->Prop}{Q:Exit->Act->World->Prop}
end
section
variable{w:World}{base gf:Nat}{lb:Array Value}{v:Value}{ids:List (List UInt8)}{del:List UInt8->Bool}
end
structure House where
 bs:Nat
 ms:Nat
 wd:Nat
 room:Int
 q:Value
 limit:Int
section
variable{w w':World}{h:House}{c c':BlobL}{l l':LinkL}{Ft:Nat->Prop}
end
abbrev SwS:=BlobL×LinkL×Nat×Nat
theorem built_id0:prog.built 24 []=some (qA (List.replicate 32 0)):=by kernel_rfl
section
variable{w:World}{h:House}{c:BlobL}{l:LinkL}{Ft:Nat->Prop}
end
end
section
open Go.RowKit Go.Proofs.Tryz Go.Lib
structure Evt where
 r:Int
 n:Int
 deps:List Int
 kind:Int
 repo:ByteArray
 tag:ByteArray
 id:List UInt8
 refs:List (List UInt8)
 deriving DecidableEq
end
section
open Go.RowKit Go.Shelf Go.Proofs.Tryz Go.Lib
def jE(c:BlobM):List (List UInt8):=c.flatMap fun p=>((decL p.2).map zE).getD [] |>.map (·.id)
theorem allDescs_len(c:BlobM):(jE c).length<=33*c.length:=by
 induction c with
 |nil=>simp[jE]
 |cons p c ih=>
  have h:(((decL p.2).map zE).getD []).length<=33:=by
   cases hd:decL p.2 with
   |none=>simp
   |some m=>
    have:=decL_len hd;simp only[Option.map_some,Option.getD_some,zE,List.length_append]
    split<;>simp<;>omega
  simp only[jE,List.flatMap_cons,List.length_append,List.length_map,List.length_cons]at ih |-;omega
theorem descsOf_mem{c:BlobM}{id:List UInt8}{ds:List DescL}(h:xL c id=some ds):∀d∈ds,d.id∈jE c:=by
 intro d hd;unfold xL at h
 cases hg:getL id c with
 |none=>rw[hg]at h;cases h
 |some b=>
  rw[hg]at h;refine List.mem_flatMap.2 ⟨(id,b),getL_mem hg,List.mem_map.2 ⟨d,?_,rfl⟩⟩;have h':(decL b).map zE=some ds:=h
  show d∈((decL b).map zE).getD []
  rw[h'];exact hd
theorem inR_mem{c:BlobM}:∀{f:Nat}{id:List UInt8}{depth:Nat}{x:List UInt8},inR c f id depth x->x=id\/x∈jE c
 |0,_,_,_,h=>h.elim
 |f+1,id,depth,x,h=>by
  rcases h with rfl|⟨_,ds,hds,d,hd,hx⟩
  ·exact .inl rfl
  ·right
   have hm:=descsOf_mem hds d hd
   split at hx
   ·rcases inR_mem hx with rfl|hx
    ·exact hm
    ·exact hx
   ·rw[hx];exact hm
theorem marks_len(c:BlobM)(roots:List (List UInt8))(h:((marksL c roots).map (·.1)).Nodup):(marksL c roots).length<=roots.length+33*c.length:=by
 have h1:=yO (l:=(marksL c roots).map (·.1)) (m:=roots++jE c) h (fun x hx=>by
  have hs:(getL x (marksL c roots)).isSome=true:=by
   cases hg:getL x (marksL c roots)with
   |none=>exact absurd hx (getL_none.1 hg)
   |some k=>rfl
  obtain⟨r,hr,hi⟩:=(marks_keys c roots x).1 hs
  rcases inR_mem hi with rfl|hm
  ·exact List.mem_append_left _ hr
  ·exact List.mem_append_right _ hm)
 have h2:=allDescs_len c;simp only[List.length_map,List.length_append]at h1;omega
theorem marks_of{c:BlobM}{roots ids:List (List UInt8)}(hs:ids.Pairwise (fun a b=>a<b))(hp:ids.Perm ((marksL c roots).map (·.1))):MarkOf c roots ids:=by
 refine⟨hs,fun x=>?_⟩;rw[hp.mem_iff,<-marks_keys c roots x]
 cases hg:getL x (marksL c roots)with
 |none=>simp[getL_none.1 hg]
 |some k=>
  simp only[Option.isSome_some,iff_true];exact List.mem_map.2 ⟨_,getL_mem hg,rfl⟩
def MarkR(w:World)(c:BlobM)(roots:List (List UInt8)):Ending->World->Prop:=fun e w'=>Mod NoB w w'/\∃v ids,e=.returned v/\GatI w.heap.size w' v ids/\MarkOf c roots ids/\∀x∈ids,x.length=32
def MarkRel(w0:World)(mb:Nat)(c:BlobM)(roots:List (List UInt8))(i:Value)(w:World):Prop:=∃k:Nat,k<=roots.length/\i=.int .i64 k/\MarksAt w mb (marksL c (roots.take k))/\Mod NoB w0 w
theorem marksL_succ(c:BlobM)(roots:List (List UInt8))(k:Nat)(hk:k<roots.length):marksL c (roots.take (k+1))=yE c 5 roots[k] 1 (marksL c (roots.take k)):=by
 unfold marksL;rw[List.take_succ_eq_append_getElem hk,List.foldl_append]
 rfl
section
variable{w:World}{bs ms wd:Nat}{room:Int}{bl:List Blb}
theorem clMark_any(h:StInv w bs ms wd room bl){own:Bool}{G:Nat->Prop}{v:Value}{roots:List (List UInt8)}(hv:Sl own w G 32 IdC v roots)(hn:roots.length<=10000)(hc:(cont bl).length<=1000):Calls prog 22 #[.pointer (some ⟨bs,0,none⟩),v] w (MarkR w (cont bl) roots):=by
 have hmm:= @run_makeMap prog;have H:=hid h;have HV:=hid hv;obtain⟨ad,cap,rfl,-,hat⟩:=Sl.at hv;have HAT:=hid hat;clear h hv hat;go_enter func22,ntmps22
 go_upto_region 1 with(fail);refine wpR [1,3] ?_;simp only[stz];refine qM rfl (fun K hK=>?_);unfold Oper.wp execOp
 simp only[Array.map_empty,Option.map_none,Sem.run_bind,hmm,Result.andThen_ok,Sem.run_pure];have hB:=heap_alloc_new w (.map #[] 0);have hM:=jJ w (.map #[] 0)
 have hs:w.heap.size<(w.alloc (.map #[] 0)).heap.size:=by simp
 generalize w.alloc (.map #[] 0)=w1 at hB hM hs |-;refine hK _ _ trivial ?_;clear hK K;simp only[stz];have hMA:MarksAt w1 w.heap.size (marksL (cont bl) []):=MapIs.made hB
 have HR0:Hid (MarkRel w w.heap.size (cont bl) roots (.int .i64 (0:Nat)) w1):=hid ⟨0,Nat.zero_le _,rfl,by rw[List.take_zero];exact hMA,hM⟩
 generalize hmb:w.heap.size=mb at*;have hns:¬SFoot bs ms bl mb:=fun e=>by have:=H.out.lt mb e;omega
 clear hmm hB hM hMA;go_wp2
 go_loopw [11] (MarkRel w mb (cont bl) roots) (fun i _=>roots.length-(intOf i).toNat)
 case atStart=>exact HR0.out
 case round=>
  rename World=>wr
  obtain⟨k,hk,rfl,hMr,hm⟩:=hrel;have HMR:=hid hMr
  by_cases hlt:k<roots.length
  ·have hz:(k:Int)<(roots.length:Nat):=by omega
   obtain⟨b,off,rfl,-,-,hcc⟩:=HAT.out k hlt;obtain⟨cs,-,⟨rfl,hx32⟩,hcA⟩:=hcc k hlt;have hms:=marksL_succ (cont bl) roots k hlt;generalize roots[k]=x at*
   have hic:(qA x).size=32:=by rw[qD,hx32]
   have hcr:=hcA.keep hm id;have Hr:=hid (H.out.keep0 hm);have HMS:=hid hms;clear hms hcc hcA hMr;go_upto_region 4 with(fail);refine wpR [3,1,1,1] ?_;simp only[stz]
   refine wpPI underlying25 32 hlt ?_;simp only[nmz];refine wpXA 24 b (off+k*32) (qA x) hcr underlying24 32 hic trivial ?_;try simp only[nmz]
   refine wpD (qP 24 _ (by rfl) idZ (fun w2 hB2 hm2 hs2=>?_));replace hB2:w2.heap[wr.heap.size]?=some (.cells (qA (List.replicate 32 0)) 24 (0,0)):=hB2
   try simp only[nmz]
   refine wpD (qF 24 _ _ wr.heap.size 0 (qA x) (by rfl) (by rfl) (by rfl) (qR _) 32 (by kernel_rfl) hic _ _ hB2 (by rw[hic,qD];simp) (fun w3 hB3 hm3=>?_))
   rw[qC (by rw[hic,qD];simp)]at hB3;simp only[stz];have hmr3:Mod NoB wr w3:=hm2.transB hm3 (Nat.le_refl _);have hm03:=hm.trans0 hmr3
   have H3:=hid (Hr.out.keep0 hmr3);have HM3:=hid (HMR.out.keep0 hmr3);have hrec:=clReach_any hns 5 x 1 _ _ hx32 (by omega) (by omega) (by omega) H3.out HM3.out
   have hno:=clNone_any H3.out;generalize hb7:wr.heap.size=b7 at*;clear hm hm2 hm3 hmr3 hB2 hcr hs2
   go_upto_region 7 with(go_at_call 86;refine hno.mono ?_;rintro _ w4 ⟨rfl,hw⟩;obtain rfl:=hw.symm);refine wpR [3,1,3,1] ?_;simp only[stz]
   refine wpXA 24 b7 0 (qA x) (CellsAt.whole hB3) underlying24 32 hic trivial ?_;simp only[stz];refine wpD (wpC func87 (hrec) ?_);rintro e w5 ⟨rfl,hM5,hm5⟩
   have HR:Hid (MarkRel w mb (cont bl) roots (.int .i64 ((k+1:Nat):Int)) w5):=hid ⟨k+1,by omega,rfl,by rw[HMS.out];exact hM5,hm03.transB hm5 (by omega)⟩
   refine⟨_,rfl,?_⟩;simp only[stz];clear hB3 hM5 hm5 hm03 hrec hno;go_wp2
   go_roundw
   case rel=>exact HR.out
   case measure=>simp[intOf];omega
  ·have hz:¬(k:Int)<(roots.length:Nat):=by omega
   obtain rfl:k=roots.length:=by omega
   have hMf:=HMR.out;rw[List.take_length]at hMf
   have hnd:((marksL (cont bl) roots).map (·.1)).Nodup:=by
    have:=hMf.nd
    simpa[marksV,List.map_map,Function.comp_def]using this
   have hln:=marks_len (cont bl) roots hnd;have hris:=clRising_any hMf (by unfold marksV;rw[List.length_map];omega)
   have hkm:(marksV (marksL (cont bl) roots)).map (·.1)=(marksL (cont bl) roots).map (·.1):=by simp[marksV,List.map_map,Function.comp_def]
   rw[hkm]at hris;clear hMr hMf hkm hnd hln;go_upto_region 9 with(fail);refine wpR [3,1,3] ?_;simp only[stz];refine wpD (wpC func84 (hris) ?_)
   rintro e w6 ⟨hm6,v6,ids,he6,hg6,hs6,hp6,hl6⟩;subst he6
   have HF:Hid (MarkR w (cont bl) roots (.returned v6) w6):=hid ⟨hm.trans0 hm6,v6,ids,rfl,hg6.base (by have:=hm.size;omega),marks_of hs6 hp6,hl6⟩;refine⟨_,rfl,?_⟩
   simp only[stz];clear hm hm6 hg6 hs6 hp6 hl6;go_wp2;go_ret;exact HF.out
end
theorem Sl.memR{α:Type}{own:Bool}{w:World}{G:Nat->Prop}{sz:Nat}{R R':Array Value->α->Prop}{v:Value}{l:List α}(h:Sl own w G sz R v l)(hR:∀cs x,x∈l->R cs x->R' cs x):Sl own w G sz R' v l:=by
 obtain⟨a,cap,hv,hl,hc,h⟩:=h;refine⟨a,cap,hv,hl,hc,fun hne=>?_⟩;obtain⟨b,off,ha,hG,ho,hi⟩:=h hne;refine⟨b,off,ha,hG,ho,fun i hlt=>?_⟩
 obtain⟨cs,h1,h2,h3⟩:=hi i hlt;exact⟨cs,h1,hR _ _ (List.getElem_mem hlt) h2,h3⟩
theorem slI{base:Nat}{w:World}{v:Value}{ids:List (List UInt8)}(h:GatI base w v ids)(h32:∀x∈ids,x.length=32):Sl true w (fun q=>base<=q/\q<w.heap.size/\v.ownBlock=some q) 32 IdC v ids:=
 Sl.memR (h.sl yX) fun cs x hx hcs=>⟨by rw[hcs,idE_eq (h32 x hx)],h32 x hx⟩
theorem lt_nodup{l:List (List UInt8)}(h:l.Pairwise (fun a b=>a<b)):l.Nodup:=h.imp fun{a b} hab e=>by rw[e]at hab;exact List.lt_irrefl _ hab
def cutTo(n k:Nat)(x:List UInt8):List UInt8:=x.take n++List.replicate (k-n) 0++x.drop k
theorem cutTo_len{n k:Nat}{x:List UInt8}(hx:x.length=32)(hn:n<=k)(hk:k<=32):(cutTo n k x).length=32:=by simp[cutTo,hx];omega
theorem cutTo_start{n:Nat}{x:List UInt8}:cutTo n n x=x:=by simp[cutTo]
theorem cutTo_end{n:Nat}{x:List UInt8}(hx:x.length=32):cutTo n 32 x=cutI n x:=by
 unfold cutTo cutI;rw[List.drop_of_length_le (by omega),List.append_nil]
theorem cutTo_step{n k:Nat}{x:List UInt8}(hx:x.length=32)(hn:n<=k)(hk:k<32):(qA (cutTo n k x)).setIfInBounds k (byteV 0)=qA (cutTo n (k+1) x):=by
 apply Array.toList_inj.1
 have h1:(x.take n).length=n:=by simp[hx];omega
 have e:List.replicate (k+1-n) (0:UInt8)=List.replicate (k-n) 0++[0]:=by rw[show k+1-n=(k-n)+1 by omega,List.replicate_succ']
 have d:x.drop k=x[k]'(by omega)::x.drop (k+1):=List.drop_eq_getElem_cons (by omega);simp only[qA,cutTo,Array.toList_setIfInBounds];rw[e,d]
 have hl:((x.take n++List.replicate (k-n) 0).map byteV).length=k:=by simp[hx];omega
 rw[List.map_append,List.set_append_right _ _ (by rw[hl];exact Nat.le_refl _),hl,Nat.sub_self]
 simp
 rw[<-List.map_drop,d,<-List.map_drop]
 rfl
def CutRel(n:Nat)(x:List UInt8)(b:Nat)(w0:World)(i:Value)(w:World):Prop:=∃k:Nat,n<=k/\k<=32/\i=.int .i64 k/\w.heap[b]?=some (.cells (qA (cutTo n k x)) 24 (0,0))/\Mod (fun q=>q=b) w0 w
theorem refCut_any(x:List UInt8)(hx:x.length=32)(n:Nat)(h1:1<=n)(h2:n<=32)(w:World):Calls prog 151 #[.agg (qA x),.int .i64 n] w (CutR2 w n x):=by
 have hrs:(qA (cutI n x)).size=32:=by rw[qD,cutI_len hx h2]
 have HE:=hid (cutTo_end (n:=n) hx);go_enter func151,ntmps151;go_upto_region 0 with(fail);refine wpR [1,1,3] ?_;simp only[stz]
 refine wpD (zT 24 _ _ (by rfl) (by rfl) (fun w1 hB1 hm1 hs1=>?_));replace hB1:w1.heap[w.heap.size]?=some (.cells (qA x) 24 (0,0)):=hB1;try simp only[nmz]
 refine wpD (qP 24 _ (by rfl) idZ (fun w2 hB2 hm2 hs2=>?_));replace hB2:w2.heap[w1.heap.size]?=some (.cells (qA (List.replicate 32 0)) 24 (0,0)):=hB2
 simp only[stz];replace hB1:=hm2.obj id hB1;have hM2:=hm1.trans0 hm2;have hne:w.heap.size≠w1.heap.size:=by omega
 have hs1':w.heap.size<=w1.heap.size:=hm1.size;generalize hb1:w.heap.size=b1 at*;generalize hb2:w1.heap.size=b2 at*;clear hm1 hm2;go_wp2
 go_loopw [6] (CutRel n x b1 w2) (fun i _=>32-(intOf i).toNat)
 case atStart=>exact⟨n,Nat.le_refl _,h2,rfl,by rw[cutTo_start];exact hB1,Mod.refl _ _⟩
 case round=>
  rename World=>wr
  obtain⟨k,hnk,hk,rfl,hrow,hm⟩:=hrel
  by_cases hlt:k<32
  ·have hz:(k:Int)<32:=by omega
   have hst:=cutTo_step hx hnk hlt;have hsz:(qA (cutTo n k x)).size=32:=by rw[qD,cutTo_len hx hnk hk]
   go_upto_region 6 with(fail);refine wpR [3,3,1] ?_;simp only[stz];refine qJ _ _ _ _ _ _ _ _ rfl rfl rfl rfl underlying24 (n:=1) (by kernel_rfl) hlt ?_
   simp only[nmz];refine wpD (qT 5 _ _ b1 (k*1) (byteV 0) (by rfl) (by rfl) (by rfl) rfl (by kernel_rfl) _ _ hrow (by rw[hsz];omega) (fun w3 hB3 hm3=>?_))
   rw[Nat.mul_one,hst]at hB3;have hM3:Mod (fun q=>q=b1) w2 w3:=hm.trans hm3 (fun _ _ h=>h);simp only[stz];clear hm hm3 hrow hst hsz;go_wp2
   go_roundw
   case rel=>exact⟨k+1,by omega,by omega,by go_num,hB3,hM3⟩
   case measure=>simp[intOf];omega
  ·have hz:¬(k:Int)<32:=by omega
   obtain rfl:k=32:=by omega
   rw[HE.out]at hrow;have hB23:=hm.objB (fun e=>hne e.symm) hB2;have hM3:Mod NoB w wr:=hM2.transB hm (by omega);clear hm hM2 hB2;go_upto_region 7 with(fail)
   refine wpR [1,1,3] ?_;simp only[stz];refine wpXA 24 b1 0 (qA (cutI n x)) (CellsAt.whole hrow) underlying24 32 hrs trivial ?_;try simp only[nmz]
   refine wpD (qF 24 _ _ b2 0 (qA (cutI n x)) (by rfl) (by rfl) (by rfl) (qR _) 32 (by kernel_rfl) hrs _ _ hB23 (by rw[hrs,qD];simp) (fun w4 hB4 hm4=>?_))
   rw[qC (by rw[hrs,qD];rfl)]at hB4;simp only[stz];have hM4:Mod NoB w w4:=hM3.transB hm4 (by omega);clear hm4 hM3;go_wp2
   refine bodyPost_ret (xC (P:=prog) (ty:=24) rfl _ _ b2 _ _ _ _ (by rfl) hB4 underlying24 rfl (by rw[hrs];kernel_rfl)) rfl ?_;exact⟨rfl,hM4⟩
theorem refOf_any{own:Bool}{G:Nat->Prop}{v:Value}{m:List UInt8}{w:World}(h:Sl own w G 1 ByteC v m)(hl:m.length<=1000000)(n:Nat)(h1:1<=n)(h2:n<=32):Calls prog 79 #[v,.int .i64 n] w (OfR w n m):=by
 have H:=hid h;obtain⟨ad,cap,rfl,-,-⟩:=Sl.at h;have hsl:(shaL m).length=32:=shaL_len _;have hrs:(qA (ofI n m)).size=32:=by rw[qD,ofI_len h2]
 have HC:=hid (show cutI n (shaL m)=ofI n m from rfl);clear h;go_enter func79,ntmps79;go_upto_region 0 with(fail);refine wpR [1,3] ?_;simp only[stz]
 refine wpD (qP 24 _ (by rfl) idZ (fun w1 hB1 hm1 hs1=>?_));replace hB1:w1.heap[w.heap.size]?=some (.cells (qA (List.replicate 32 0)) 24 (0,0)):=hB1
 simp only[stz];go_upto_region 1 with(fail);refine wpR [3,1,3,1,3,3,1,3] ?_;simp only[stz]
 refine wpD (wpCM func152 (refSum_any (H.out.keep0 hm1) (by omega)) fun w2 hm2=>?_);simp only[stz];refine wpD (wpC func151 (refCut_any (shaL m) hsl n h1 h2 _) ?_)
 rintro e w3 ⟨rfl,hm3⟩;rw[HC.out];have hB3:=(hm2.trans0 hm3).obj id hB1;refine⟨_,rfl,?_⟩;try simp only[nmz]
 refine qE (v:=?_) rfl (fun w'=>?_) ?_;rotate_left;·(go_simp;try with_reducible rfl)
 simp only[nmz];refine qE (v:=?_) rfl (fun w'=>?_) ?_;rotate_left;·(go_simp;try with_reducible rfl)
 simp only[nmz]
 refine wpD (qF 24 _ _ w.heap.size 0 (qA (ofI n m)) (by rfl) (by rfl) (by rfl) (qR _) 32 (by kernel_rfl) hrs _ _ hB3 (by rw[hrs,qD];simp) (fun w4 hB4 hm4=>?_))
 rw[qC (by rw[hrs,qD];rfl)]at hB4;simp only[stz];have hM4:Mod NoB w w4:=((hm1.trans0 hm2).trans0 hm3).transB hm4 (Nat.le_refl _);clear hm1 hm2 hm3 hm4
 go_wp2;refine bodyPost_ret (xC (P:=prog) (ty:=24) rfl _ _ w.heap.size _ _ _ _ (by rfl) hB4 underlying24 rfl (by rw[hrs];kernel_rfl)) rfl ?_;exact⟨rfl,hM4⟩
def pickZ(x n:Int):Int:=if n<=0 then 0 else x%n
theorem pickZ_lt(x n:Int)(h:0<n):0<=pickZ x n/\pickZ x n<n:=by
 unfold pickZ;rw[if_neg (by omega)];exact⟨Int.emod_nonneg _ (by omega),Int.emod_lt_of_pos _ h⟩
theorem tmod_up(x n:Int)(h:0<n):(if x.tmod n<0 then x.tmod n+n else x.tmod n)=x%n:=by
 have h1:=Int.tmod_lt_of_pos x h;have h2:=Int.lt_tmod_of_pos x h;have h3:x.tmod n=x-n*x.tdiv n:=by have:=Int.mul_tdiv_add_tmod x n;omega
 split
 ·rw[h3,<-Int.emod_eq_of_lt (a:=x-n*x.tdiv n+n) (b:=n) (by omega) (by omega)]
  rw[show x-n*x.tdiv n+n=x+n*(1-x.tdiv n) by rw[Int.mul_sub];omega];rw[Int.add_mul_emod_self_left]
 ·rw[<-Int.emod_eq_of_lt (a:=x.tmod n) (b:=n) (by omega) (by omega),h3]
  rw[show x-n*x.tdiv n=x+n*(-x.tdiv n) by rw[Int.mul_neg];omega];rw[Int.add_mul_emod_self_left]
abbrev I64(x:Int):Prop:=-9223372036854775808<=x/\x<=9223372036854775807
theorem pick_any(x n:Int)(hx:I64 x)(hn:n<=1000000)(w:World):Calls prog 17 #[.int .i64 x,.int .i64 n] w (RetE (.int .i64 (pickZ x n)) w):=by
 obtain⟨hx1,hx2⟩:=hx
 by_cases h0:n<=0
 ·rw[show pickZ x n=0 by simp[pickZ,h0]]
  go_enter func17,ntmps17;go_wp2;go_ret;exact⟨rfl,rfl⟩
 ·have hp:=tmod_up x n (by omega)
  have h1:=Int.tmod_lt_of_pos x (show 0<n by omega);have h2:=Int.lt_tmod_of_pos x (show 0<n by omega);rw[show pickZ x n=x%n by simp[pickZ,h0]];rw[<-hp];clear hp
  go_enter func17,ntmps17;go_wp2
  all_goals
   go_ret;exact⟨rfl,rfl⟩
section
variable{w w':World}{h:House}{c c':BlobL}{l l':LinkL}{Ft:Nat->Prop}
theorem putB_len(di m:List UInt8)(c:BlobL):(putB di m c).length<=c.length+1:=by
 unfold putB
 split<;>simp
end
def BtsC(w:World)(cs:Array Value)(b:List UInt8):Prop:=∃v,cs=#[v]/\Sl false w AnyB 1 ByteC v b
theorem BtsC.keep0{w w':World}{cs:Array Value}{b:List UInt8}(h:BtsC w cs b)(hm:Mod NoB w w'):BtsC w' cs b:=by
 obtain⟨v,h1,h2⟩:=h;exact⟨v,h1,h2.keep0 hm⟩
abbrev LsAt(w:World)(v:Value)(L:List (List UInt8)):Prop:=Sl false w AnyB 1 (BtsC w) v L
theorem lsAt_keep0{w w':World}{v:Value}{L:List (List UInt8)}(h:LsAt w v L)(hm:Mod NoB w w'):LsAt w' v L:=h.keep hm (fun _ _=>id) (fun _ _ h=>h.keep0 hm)
def cOf(wd:Nat)(L:List (List UInt8)):BlobL:=L.foldl (fun c b=>putB (ofI wd b) b c) []
theorem cOf_snoc(wd:Nat)(L:List (List UInt8))(k:Nat)(hk:k<L.length):cOf wd (L.take (k+1))=putB (ofI wd L[k]) L[k] (cOf wd (L.take k)):=by
 unfold cOf;rw[List.take_succ_eq_append_getElem hk,List.foldl_append]
 rfl
theorem cOf_len(wd:Nat):∀(L:List (List UInt8))(c:BlobL),(L.foldl (fun c b=>putB (ofI wd b) b c) c).length<=c.length+L.length
 | [],c=>by simp
 |b::L,c=>by
  have h1:=cOf_len wd L (putB (ofI wd b) b c);have h2:=putB_len (ofI wd b) b c;simp only[List.foldl_cons,List.length_cons];omega
theorem sl_lt{α:Type}{own:Bool}{w:World}{G:Nat->Prop}{R:Array Value->α->Prop}{b off n cap:Nat}{l:List α}(h:Sl own w G 1 R (.slice (some ⟨b,off,none⟩) n cap) l){i:Nat}(hi:i<l.length):b<w.heap.size:=by
 obtain⟨a,c,e,_,_,h2⟩:=h;injection e with e1 e2 e3;obtain⟨b',off',e4,_,_,hc⟩:=h2 (fun e=>by rw[e]at hi;simp at hi);rw[<-e1]at e4;injection e4 with e4
 injection e4 with e5 e6 e7;obtain⟨cs,hs,_,hcs⟩:=hc i hi;have h0:=hcs 0 (by omega);rw[Array.getElem?_eq_getElem (by omega)]at h0;have:=block_lt_of_cell h0;rw[e5]
 exact this
end
section
open Go.RowKit Go.Proofs.Tryz Go.Lib
theorem sameIDs_any(o o':Bool)(G G':Nat->Prop)(va vb:Value)(la lb:List (List UInt8))(w:World)(ha:Sl o w G 32 IdC va la)(hb:Sl o' w G' 32 IdC vb lb):
 Calls prog 24 #[va,vb] w (RetM (.bool (decide (la=lb))) w):=by
 obtain⟨aa,ca,rfl,hla,ha⟩:=ha.at;obtain⟨ab,cb,rfl,hlb,hb⟩:=hb.at
 by_cases hlen:la.length=lb.length
 ·have e1:((la.length:Int)==(lb.length:Int))=true:=by simp[hlen]
  have H:=hid hlen;have HA:=hid ha;have HB:=hid hb;clear hlen ha hb;go_enter func24,ntmps24;go_wp2
  go_loopw [5,6] (SameRel la lb w) (fun _ i _=>la.length-(intOf i).toNat)
  case atStart=>exact⟨0,by omega,rfl,by rw[pre_zero],Mod.refl _ _⟩
  case round=>
   obtain⟨k,hk,rfl,rfl,hm⟩:=hrel
   rename_i wr
   by_cases hs:pre k la lb=true
   ·by_cases hlt:k<la.length
    ·have hlt':k<lb.length:=by rw[<-H.out];exact hlt
     obtain⟨ba,oa,rfl,-,-,hca⟩:=HA.out k hlt;obtain⟨bb,ob,rfl,-,-,hcb⟩:=HB.out k hlt';obtain⟨_,-,⟨rfl,hc32⟩,hca⟩:=hca k hlt
     obtain⟨_,-,⟨rfl,hd32⟩,hcb⟩:=hcb k hlt';have hps:=hid (pre_succ hlt hlt' hs);clear HA HB;go_wp2_with fail;have hS:=hm.drew
     refine wpRZ [3,3,3,0,3,3,3,0,0,3] [] (fun w'=>Mod NoB w w') hS ?_;simp only[stz];refine wpPI underlying25 32 hlt ?_;simp only[nmz]
     refine qQ rfl (fun w' hS=>exec_loadA _ _ rfl _ _ rfl _ (hca.keep hS id) _ underlying24 rfl 32 (by kernel_rfl) (by rw[qD,hc32])) ?_;simp only[stz]
     refine wpPI underlying25 32 hlt' ?_;simp only[nmz]
     refine qQ rfl (fun w' hS=>exec_loadA _ _ rfl _ _ rfl _ (hcb.keep hS id) _ underlying24 rfl 32 (by kernel_rfl) (by rw[qD,hd32])) ?_;simp only[nmz]
     refine qQ rfl (fun w' hS=>yZ _ _ _ _ rfl _ _ rfl rfl 32 5 underlying24 underlying5 (by kernel_rfl) (by kernel_rfl) hc32 hd32 _ rfl) ?_;simp only[stz]
     go_wp2
     go_roundw
     case rel=>exact⟨k+1,by omega,by go_num,by rw[hps.out],hS⟩
     case measure=>simp[intOf];omega
    ·go_wp2
     go_ret;exact⟨by rw[<-pre_full H.out (Nat.le_of_not_lt hlt),hs];rfl,hm⟩
   ·have hs':pre k la lb=false:=by simpa using hs
    have hps:=hid (pre_false hs');clear hs;go_wp2;go_ret;exact⟨by rw[hps.out];rfl,hm⟩
 ·have e1:((la.length:Int)==(lb.length:Int))=false:=by simp;omega
  have hps:=hid (decide_eq_false (show ¬la=lb by rintro rfl;exact hlen rfl));clear hlen;go_enter func24,ntmps24;go_wp2;refine wp_loop_once ?_;go_wp2;go_ret
  exact⟨by rw[hps.out];rfl,Mod.refl _ _⟩
end
section
open Go.RowKit Go.Shelf Go.Proofs.Tryz Go.Lib
theorem results_row1{P:Program}{fn:Func}{p:Tmp}{ty:TypeId}(h:fn.results=#[.cell p ty])(tmps:Array Value)(w:World)(g:Nat)(t:TypeId)(cs:Array Value)(fr:Nat×Nat)(d:TypeDesc)
 (hp:tmps.getD p undef=.pointer (some ⟨g,0,none⟩))(hg:w.heap[g]?=some (.cells cs t fr))
 (hu:P.underlying ty=some d)(hd:(match d with| .struct _| .array _ _=>true|_=>false)=true)(hi:(P.info? ty).map (·.size)=some cs.size):
 (results fn tmps).run P w=.ok (.agg cs) w:=by
 have hp':tmps[p]?.getD undef=.pointer (some ⟨g,0,none⟩):=by simpa using hp
 simp[results,h,hp',asAddr,run_loadVar_row w g t ty cs fr d hg hu hd hi]
structure Thg where
 d:DescL
 depth:Nat
 first:Bool
deriving DecidableEq
abbrev WErr:=List UInt8×Int
def treeT(t:Thg):Bool:=t.first||xK t.d
def zZ(g:DescL->List Thg×Option WErr):List DescL->List Thg×Option WErr
 | []=>([],none)
 |d::ds=>match(g d).2 with
  |some e=>((g d).1,some e)
  |none=>((g d).1++(zZ g ds).1,(zZ g ds).2)
def walkL(c:BlobM):Nat->Thg->List Thg×Option WErr
 |0,_=>([],none)
 |f+1,t=>match getL t.d.id c with
  |none=>([],some (t.d.id,14))
  |some b=>
   if(t.first||decide (b.length=t.d.size))=false then([],some (t.d.id,17))
   else if treeT t=false then(if(decide (t.d.media=1)||decide (t.d.media=2))=false then([],some (t.d.id,20))else([t],none))
   else if 4<t.depth then([],some (t.d.id,18))
   else match decL b with
    |none=>([],some (t.d.id,5))
    |some m=>
     if(t.first||decide (m.kind=t.d.media))=false then([],some (t.d.id,20))
     else(t::(zZ (fun d=>walkL c f ⟨d,t.depth+1,false⟩) (zE m)).1,(zZ (fun d=>walkL c f ⟨d,t.depth+1,false⟩) (zE m)).2)
theorem walkDs_at(g:DescL->List Thg×Option WErr):∀(ds:List DescL)(k:Nat)(hk:k<ds.length),(∀j (hj:j<ds.length),j<k->(g ds[j]).2=none)->∃rest,(zZ g ds).1=(ds.take k).flatMap (fun d=>(g d).1)++((g ds[k]).1++rest)
 | [],k,hk,_=>by simp at hk
 |d::ds,0,_,_=>by
  simp only[List.take_zero,List.flatMap_nil,List.nil_append,List.getElem_cons_zero,zZ]
  split
  ·exact⟨[],by simp⟩
  ·exact⟨_,rfl⟩
 |d::ds,k+1,hk,h=>by
  have h0:(g d).2=none:=h 0 (by simp) (by omega);obtain⟨rest,hr⟩:=walkDs_at g ds k (by simpa using hk) (fun j hj hl=>h (j+1) (by simpa using hj) (by omega))
  refine⟨rest,?_⟩;rw[zZ,h0];simp only[List.take_succ_cons,List.flatMap_cons,List.getElem_cons_succ,List.append_assoc,hr]
theorem walkDs_stop(g:DescL->List Thg×Option WErr)(e:WErr):∀(ds:List DescL)(k:Nat)(hk:k<ds.length),(∀j (hj:j<ds.length),j<k->(g ds[j]).2=none)->(g ds[k]).2=some e->zZ g ds=((ds.take k).flatMap (fun d=>(g d).1)++(g ds[k]).1,some e)
 | [],k,hk,_,_=>by simp at hk
 |d::ds,0,_,_,he=>by
  have he:(g d).2=some e:=he;simp only[List.take_zero,List.flatMap_nil,List.nil_append,List.getElem_cons_zero,zZ,he]
 |d::ds,k+1,hk,h,he=>by
  have h0:(g d).2=none:=h 0 (by simp) (by omega);have hr:=walkDs_stop g e ds k (by simpa using hk) (fun j hj hl=>h (j+1) (by simpa using hj) (by omega)) he
  rw[zZ,h0];simp only[List.take_succ_cons,List.flatMap_cons,List.getElem_cons_succ,List.append_assoc,hr]
theorem walkDs_none(g:DescL->List Thg×Option WErr):∀(ds:List DescL),(∀j (hj:j<ds.length),(g ds[j]).2=none)->zZ g ds=(ds.flatMap (fun d=>(g d).1),none)
 | [],_=>rfl
 |d::ds,h=>by
  have h0:(g d).2=none:=h 0 (by simp);have hr:=walkDs_none g ds (fun j hj=>h (j+1) (by simpa using hj));rw[zZ,h0];simp only[List.flatMap_cons,hr]
def jL(t:Thg):Array Value:=(.int .i64 t.d.media::(t.d.id.map byteV++[.int .i64 t.d.size,.string ⟨t.d.plat.toArray⟩,.int .i64 t.depth,.bool t.first])).toArray
theorem thCells_size{t:Thg}(h:t.d.id.length=32):(jL t).size=37:=by simp[jL,h]
theorem thCells_at1(t:Thg):∀j,j<(qA t.d.id).size->(jL t)[1+j]?=(qA t.d.id)[j]?:=by
 intro j hj;rw[qD]at hj;rw[<-Array.getElem?_toList,<-Array.getElem?_toList,Nat.add_comm];simp only[jL,List.getElem?_cons_succ,qA]
 rw[List.getElem?_append_left (by simpa using hj)]
def ThAt(w:World)(b:Nat)(t:Thg):Prop:=w.heap[b]?=some (.cells (jL t) 150 (0,0))
theorem ThAt.id{w:World}{b:Nat}{t:Thg}(h:ThAt w b t):CellsAt w b (0+1) (qA t.d.id):=CellsAt.of_obj h (by rw[Nat.zero_add];exact thCells_at1 t)
theorem ThAt.media{w:World}{b:Nat}{t:Thg}(h:ThAt w b t):w.cell? ⟨b,0,none⟩=some (.int .i64 t.d.media):=by rw[cell_of_row _ _ _ _ _ _ h];rfl
theorem th_back{t:Thg}(h:t.d.id.length=32)(j:Nat):(jL t)[33+j]?=[Value.int .i64 t.d.size,.string ⟨t.d.plat.toArray⟩,.int .i64 t.depth,.bool t.first][j]?:=by
 rw[<-Array.getElem?_toList];simp only[jL];rw[show 33+j=32+j+1 by omega,List.getElem?_cons_succ,List.getElem?_append_right (by simp[h])]
 simp[h]
theorem ThAt.size{w:World}{b:Nat}{t:Thg}(h:ThAt w b t)(hl:t.d.id.length=32):w.cell? ⟨b,0+33,none⟩=some (.int .i64 t.d.size):=by rw[cell_of_row _ _ _ _ _ _ h];exact th_back hl 0
theorem ThAt.depth{w:World}{b:Nat}{t:Thg}(h:ThAt w b t)(hl:t.d.id.length=32):w.cell? ⟨b,0+35,none⟩=some (.int .i64 t.depth):=by rw[cell_of_row _ _ _ _ _ _ h];exact th_back hl 2
theorem ThAt.first{w:World}{b:Nat}{t:Thg}(h:ThAt w b t)(hl:t.d.id.length=32):w.cell? ⟨b,0+36,none⟩=some (.bool t.first):=by rw[cell_of_row _ _ _ _ _ _ h];exact th_back hl 3
def wrongV(e:WErr):Value:=.iface 142 (.agg ((e.1.map byteV++[Value.int .i64 e.2]).toArray))
def chainW(e:WErr):List PanicEntry:=[{ v:=wrongV e,recovered:=false }]
theorem wrong_noIface:(∀ms,prog.underlying 142≠some (.interface ms))/\(prog.underlying 142).isSome=true:=by
 rw[underlying142];exact⟨fun ms e=>(by cases e),rfl⟩
theorem wrongZ:(prog.info? 142).bind (·.zero)=some (.agg ((List.replicate 32 (byteV 0)++[Value.int .i64 0]).toArray)):=by kernel_rfl
theorem built_wrong(x:List UInt8)(h:x.length=32)(n:Int):prog.built 142 [(0,.agg (qA x)),(1,.int .i64 n)]=some ((x.map byteV++[Value.int .i64 n]).toArray):=by
 have p:xR prog 142=some [(0,32),(32,1)]:=by kernel_rfl
 have hz:((List.replicate 32 (byteV 0)++[Value.int .i64 0]).toArray).size=33:=by simp
 rw[zL wrongZ p]
 rw[zD (off:=0) (size:=32) rfl (by simp[Value.cells,qA,h]) (by rw[hz];omega),zD (off:=32) (size:=1) rfl (by rfl) (by rw[yC (by rw[hz];simp[Value.cells,qA,h])];rw[hz];omega),xT]
 congr 1
 apply Array.toList_inj.1
 simp[qZ,qA,Value.cells,h,List.drop_append]
theorem wp_panicI{P:Program}{o:Oper}{a:Act}{w:World}{K:Act->World->Prop}{Q:Exit->Act->World->Prop}(x:Operand)(ho:o.op=.panic x){t:TypeId}{v:Value}(hx:a.eval x=.iface t v)(h:Q (.panic [{ v:=.iface t v,recovered:=false }]) a w):o.wp P a w K Q:=by
 unfold Oper.wp execOp;simp only[ho,hx,Sem.run_bind,run_panic_iface,Result.andThen_halt];exact h
theorem thMust_ok(b:Nat)(n:Int)(w:World):Calls prog 156 #[.pointer (some ⟨b,0,none⟩),.bool true,.int .i64 n] w (RetE (.tuple #[]) w):=by
 go_enter func156,ntmps156;go_wp2
 go_end0
 exact⟨rfl,rfl⟩
theorem thMust_no{w:World}{b:Nat}{t:Thg}(h:ThAt w b t)(hl:t.d.id.length=32)(n:Int):Calls prog 156 #[.pointer (some ⟨b,0,none⟩),.bool false,.int .i64 n] w (fun e w'=>e=.panicked (chainW (t.d.id,n))/\Mod NoB w w'):=by
 have hci:=h.id;have hic:(qA t.d.id).size=32:=by rw[qD,hl]
 have hbw:=built_wrong _ hl n;clear h;go_enter func156,ntmps156;go_upto_region 1 with(fail);refine wpR [3,3,3,3,1,3,0,1,1] ?_;simp only[stz]
 refine wpXA 24 b (0+1) (qA t.d.id) hci underlying24 32 hic trivial ?_;simp only[stz]
 refine qQ rfl (fun w' hS=>qL 142 [(0,_),(1,_)] [(0,.agg (qA t.d.id)),(1,.int .i64 n)] _ (by rfl) (by rfl) hbw) ?_;simp only[nmz]
 refine wpX rfl (xX _ 142 (.agg ((t.d.id.map byteV++[Value.int .i64 n]).toArray)) (by rfl) (by rfl) wrong_noIface) trivial ?_;try simp only[nmz]
 refine qM rfl (fun K hK=>?_);refine wp_panicI _ (by rfl) (t:=142) (v:=.agg ((t.d.id.map byteV++[Value.int .i64 n]).toArray)) (by rfl) ?_;exact⟨rfl,rfl,Mod.refl _ _⟩
theorem thTree_any{w:World}{b:Nat}{t:Thg}(h:ThAt w b t)(hl:t.d.id.length=32):Calls prog 157 #[.pointer (some ⟨b,0,none⟩)] w (RetE (.bool (treeT t)) w):=by
 have hcm:=h.media;have hcf:=h.first hl
 obtain⟨r,hr⟩:∃r,treeT t=r:=⟨_,rfl⟩;rw[hr];unfold treeT xK at hr;obtain⟨fs,hfs⟩:∃r,t.first=r:=⟨_,rfl⟩
 obtain⟨m,hm⟩:∃r,t.d.media=r:=⟨_,rfl⟩;rw[hfs]at hcf hr;rw[hm]at hcm hr;clear h hl hfs hm
 cases fs with
 |true=>
  obtain rfl:r=true:=by simpa using hr.symm
  clear hr;go_enter func157,ntmps157;go_upto_region 1 with(fail);refine wpR [3,3,3,1,3,3,3,3,3,0,3,3,3,3,3,3,3,0,3,3,3] ?_;simp only[stz]
  refine wpXd (v:=(.bool true)) 4 b (0+36) hcf underlying4 trivial ?_;simp only[stz];go_wp2;go_ret;exact⟨rfl,rfl⟩
 |false=>
  by_cases h3:m=3
  ·have hz:(m:Int)=3:=by omega
   obtain rfl:r=true:=by simpa[h3]using hr.symm
   clear hr;go_enter func157,ntmps157;go_upto_region 1 with(fail);refine wpR [3,3,3,1,3,3,3,3,3,1,3,3,3,3,3,3,3,0,3,3,3] ?_;simp only[stz]
   refine wpXd (v:=(.bool false)) 4 b (0+36) hcf underlying4 trivial ?_;simp only[stz];refine wpXd (v:=(.int .i64 m)) 3 b 0 hcm underlying3 trivial ?_;try simp only[nmz]
   refine qG _ _ _ _ _ _ _ _ rfl rfl rfl rfl rfl true (decide_eq_true hz) ?_;simp only[stz];go_wp2;go_ret;exact⟨rfl,rfl⟩
  ·have hz:¬(m:Int)=3:=by omega
   by_cases h4:m=4
   ·have hz4:(m:Int)=4:=by omega
    obtain rfl:r=true:=by simpa[h4]using hr.symm
    clear hr;go_enter func157,ntmps157;go_upto_region 1 with(fail);refine wpR [3,3,3,1,3,3,3,3,3,1,3,3,3,3,3,3,3,1,3,3,3] ?_;simp only[stz]
    refine wpXd (v:=(.bool false)) 4 b (0+36) hcf underlying4 trivial ?_;simp only[stz];refine wpXd (v:=(.int .i64 m)) 3 b 0 hcm underlying3 trivial ?_;try simp only[nmz]
    refine qG _ _ _ _ _ _ _ _ rfl rfl rfl rfl rfl false (decide_eq_false hz) ?_;simp only[stz];refine wpXd (v:=(.int .i64 m)) 3 b 0 hcm underlying3 trivial ?_
    try simp only[nmz]
    refine qG _ _ _ _ _ _ _ _ rfl rfl rfl rfl rfl true (decide_eq_true hz4) ?_;simp only[stz];go_wp2;go_ret;exact⟨rfl,rfl⟩
   ·have hz4:¬(m:Int)=4:=by omega
    obtain rfl:r=false:=by rw[<-hr];simp[h3,h4]
    clear hr;go_enter func157,ntmps157;go_upto_region 1 with(fail);refine wpR [3,3,3,1,3,3,3,3,3,1,3,3,3,3,3,3,3,1,3,3,3] ?_;simp only[stz]
    refine wpXd (v:=(.bool false)) 4 b (0+36) hcf underlying4 trivial ?_;simp only[stz];refine wpXd (v:=(.int .i64 m)) 3 b 0 hcm underlying3 trivial ?_;try simp only[nmz]
    refine qG _ _ _ _ _ _ _ _ rfl rfl rfl rfl rfl false (decide_eq_false hz) ?_;simp only[stz];refine wpXd (v:=(.int .i64 m)) 3 b 0 hcm underlying3 trivial ?_
    try simp only[nmz]
    refine qG _ _ _ _ _ _ _ _ rfl rfl rfl rfl rfl false (decide_eq_false hz4) ?_;simp only[stz];go_wp2;go_ret;exact⟨rfl,rfl⟩
end
end Go.Proofs.YtjeonjoifjbohaaGreat
