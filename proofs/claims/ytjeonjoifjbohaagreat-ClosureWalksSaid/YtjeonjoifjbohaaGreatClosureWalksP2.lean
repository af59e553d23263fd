/- What the statement ClosureWalks needs, part 2. -/
import Derived.Laws.Slices
import Derived.Lib.SliceRun
import Derived.RangeFuncBox
import Derived.RangeFuncBound
import Derived.Great.BuildSlice
import Derived.Shelf.SlSortCmp.InsertionK
import Derived.Shelf.SlIter.Sorted
import Derived.Shelf.SortM.Plain
import Derived.Shelf.SortM.SortNone
import Derived.Ground.GgzProg
import Derived.Ground.SlgmProg
import Derived.Shelf.SlSortCmp.WholeK
import Derived.Ground.SlsfProg
import Derived.Test.YtjeonjoifjbohaaGreatRows
import Derived.Shelf.SlSortCmp.NoneTotal
import Derived.Test.YtjeonjoifjbohaaGreatClosureWalksP1
set_option linter.unusedVariables false
set_option linter.unusedSimpArgs false
set_option linter.unnecessarySimpa false
set_option linter.unusedSectionVars false
set_option maxRecDepth 10000
set_option maxHeartbeats 8000000
namespace Go.Proofs.YtjeonjoifjbohaaGreat
section
open Go.RowKit Go.Proofs.Tryz Go.Lib
theorem words_at{w:World}{ba oa:Nat}{cur:Array Value}{T:TypeId}{s:W8}(hcur:w.heap[ba]?=some (.cells cur T (0,0)))(hs:∀k,k<8->cur[oa+k]?=some (wordV (s.list.getD k 0))):CellsAt w ba oa (qK s.list):=by
 intro j hj;rw[qH]at hj;have hj8:j<8:=by simpa[W8.list]using hj
 rw[cell_of_row _ _ _ _ _ _ hcur,hs j hj8,yV hj,List.getD_eq_getElem?_getD,List.getElem?_eq_getElem hj]
 rfl
theorem built8(x0 x1 x2 x3 x4 x5 x6 x7:UInt32):prog.built 328 [(0,wordV x0),(1,wordV x1),(2,wordV x2),(3,wordV x3),(4,wordV x4),(5,wordV x5),(6,wordV x6),(7,wordV x7)]=some (qK [x0,x1,x2,x3,x4,x5,x6,x7]):=by kernel_rfl
theorem putRow_get{cur cs:Array Value}{off:Nat}(h:off+cs.size<=cur.size)(k:Nat):(qZ cur off cs)[k]?=if off<=k/\k<off+cs.size then cs[k-off]? else cur[k]?:=by
 have hl:(cur.toList.take off).length=off:=by rw[List.length_take,Array.length_toList];omega
 simp only[qZ,List.getElem?_toArray,List.append_assoc]
 rcases Nat.lt_or_ge k off with h1|h1
 ·rw[List.getElem?_append_left (by omega),if_neg (by omega),List.getElem?_take_of_lt h1,Array.getElem?_toList]
 ·rw[List.getElem?_append_right (by omega),hl]
  rcases Nat.lt_or_ge k (off+cs.size)with h2|h2
  ·rw[List.getElem?_append_left (by rw[Array.length_toList];omega),if_pos ⟨h1,h2⟩,Array.getElem?_toList]
  ·rw[List.getElem?_append_right (by rw[Array.length_toList];omega),if_neg (by omega),Array.length_toList,List.getElem?_drop,Array.getElem?_toList]
   congr 1;try omega
theorem putRow_none{cur:Array Value}{off:Nat}(h:off<=cur.size):qZ cur off (qK [])=cur:=by
 apply Array.ext_getElem?;intro k
 rw[putRow_get (by rw[show(qK []).size=0 from rfl];omega),if_neg (by rw[show(qK []).size=0 from rfl];omega)]
theorem putRow_step{cur:Array Value}{oa n:Nat}{l:List UInt32}(hn:n<l.length)(h:oa+l.length<=cur.size):(qZ cur oa (qK (l.take n))).setIfInBounds (oa+n) (wordV (l.getD n 0))=qZ cur oa (qK (l.take (n+1))):=by
 have s1:(qK (l.take n)).size=n:=by rw[qH,List.length_take];omega
 have s2:(qK (l.take (n+1))).size=n+1:=by rw[qH,List.length_take];omega
 have hp:(qZ cur oa (qK (l.take n))).size=cur.size:=yC (by omega)
 apply Array.ext_getElem?;intro k
 rw[putRow_get (by omega),Array.getElem?_setIfInBounds,hp,s2]
 by_cases e:oa+n=k
 ·subst e
  rw[if_pos rfl,if_pos (by omega),if_pos (by omega),yV (by rw[List.length_take];omega),List.getD_eq_getElem?_getD,List.getElem?_eq_getElem hn]
  simp
 ·rw[if_neg e,putRow_get (by omega),s1]
  by_cases h2:oa<=k/\k<oa+n
  ·rw[if_pos h2,if_pos (by omega),yV (by rw[List.length_take];omega),yV (by rw[List.length_take];omega)]
   simp
  ·rw[if_neg h2,if_neg (by omega)]
theorem addW_at(s t:W8)(n:Nat)(h:n<8):(addW s t).list.getD n 0=s.list.getD n 0+t.list.getD n 0:=by
 match n,h with
 |0,_|1,_|2,_|3,_|4,_|5,_|6,_|7,_=>rfl
def AddRel(w0:World)(ba oa:Nat)(cur:Array Value)(T:TypeId)(b4:Nat)(s c:W8)(i:Value)(w:World):Prop:=∃n:Nat,n<=8/\i=.int .i64 n/\w.heap[ba]?=some (.cells (qZ cur oa (qK ((addW s c).list.take n))) T (0,0))/\
 w.heap[b4]?=some (.cells (qK c.list) 328 (0,0))/\Mod (fun k=>k=ba) w0 w
def BlockR(w:World)(ba oa:Nat)(cur:Array Value)(T:TypeId)(r:W8):Ending->World->Prop:=fun e w'=>e=.returned (.tuple #[])/\w'.heap[ba]?=some (.cells (qZ cur oa (qK r.list)) T (0,0))/\Mod (fun k=>k=ba) w w'
def RoundRel(w0:World)(b4 b5 b6:Nat)(sp:List UInt32)(s:W8)(i:Value)(w:World):Prop:=∃n:Nat,n<=64/\i=.int .i64 n/\w.heap[b4]?=some (.cells (qK (rounds shaKeys sp n s).list) 328 (0,0))/\
 w.heap[b5]?=some (.cells (qK shaKeys) 340 (0,0))/\w.heap[b6]?=some (.cells (qK sp) 340 (0,0))/\Mod NoB w0 w
theorem block_any{own:Bool}{G:Nat->Prop}{v:Value}{b:List UInt8}{w:World}(hb:Sl own w G 1 ByteC v b)(hl:b.length=64)(ba oa:Nat)(cur:Array Value)(T:TypeId)(s:W8)
 (hcur:w.heap[ba]?=some (.cells cur T (0,0)))(hsz:oa+8<=cur.size)(hs:∀k,k<8->cur[oa+k]?=some (wordV (s.list.getD k 0))):
 Calls prog 227 #[.pointer (some ⟨ba,oa,none⟩),v] w (BlockR w ba oa cur T (blockL s b)):=by
 obtain⟨sp,hsp⟩:∃sp,zW b 64=sp:=⟨_,rfl⟩;have hspl:sp.length=64:=by rw[<-hsp];exact jN b 64
 have hspr:∀w1,Mod NoB w w1->Calls prog 256 #[v] w1 (RetM (.agg (qK sp)) w1):=fun w1 hm=>by
  have:=spread_any (hb.keep0 hm) hl
  rwa[hsp]at this
 have HSP:=hid hsp;have HSR:=hid hspr;have HSS:=hid hs;clear hsp hb hspr hs;go_enter func227,ntmps227;go_upto_region 0 with(fail)
 have hD:Mod NoB w w.drew:=(Mod.refl _ _).drew
 refine jG [(0,3),(1,3),(2,0),(4,3)] 5 [(9,1),(10,1),(11,1)] [] (fun w'=>Mod NoB w.drew w') #[true,true,true,false,true,false,false,false,false,false,false,false] (by kernel_rfl) (by kernel_rfl) (by kernel_rfl) (by kernel_rfl) (by kernel_rfl) (fun _ _ _ _ hd h=>⟨hd.trans h.1,h.2⟩) (Mod.refl _ _) ?_
 simp only[stz];refine wpLA 328 ba oa (qK s.list) (fun w' hS=>words_at ((hD.trans0 hS).obj id hcur) HSS.out) underlying328 8 (by rw[qH];rfl) ?_
 simp only[stz]
 refine wpTree_rows (grpG [(14,.inl (.agg (qK shaKeys))),(16,.inl (.agg (qK sp))),(4,.inr (.cells (qK (List.replicate 8 0)) 328 (0,0))),(5,.inr (.cells (qK (List.replicate 64 0)) 340 (0,0))),(6,.inr (.cells (qK (List.replicate 64 0)) 340 (0,0)))]) [(3,14),(5,16),(6,4),(7,5),(8,6)] (fun _ h=>h) (by kernel_rfl) (by decide) ?hend ?hop
 case hop=>
  intro q hq ps w1 hm hps K hK;simp only[List.mem_cons,List.not_mem_nil,or_false]at hq
  rcases hq with rfl|rfl|rfl|rfl|rfl
  ·simp only[grpG,Nat.reduceEqDiff,if_true,if_false,reduceIte]at hK
   simp only[Array.getD_eq_getD_getElem?,List.getElem?_toArray,List.getElem?_cons_succ,List.getElem?_cons_zero,Option.getD_some]
   exact yL (zI 255 [] _ rfl _ func255 rfl (by kernel_rfl) [] rfl _) (keys_any w1) hK
  ·simp only[grpG,Nat.reduceEqDiff,if_true,if_false,reduceIte]at hK
   simp only[Array.getD_eq_getD_getElem?,List.getElem?_toArray,List.getElem?_cons_succ,List.getElem?_cons_zero,Option.getD_some]
   exact yL (zI 256 [.tmp 15] _ rfl _ func256 rfl (by kernel_rfl) [v] (by rw[List.map_cons,puts_eval (fun p hp e=>by have:=(hps p hp).2;rw[e]at this;simp at this)];rfl) _) (HSR.out _ (hD.trans0 hm)) hK
  ·simp only[grpG,Nat.reduceEqDiff,if_true,if_false,reduceIte]at hK
   simp only[Array.getD_eq_getD_getElem?,List.getElem?_toArray,List.getElem?_cons_succ,List.getElem?_cons_zero,Option.getD_some]
   exact qP 328 _ (by rfl) wordsZ (fun w' hB hm' hs'=>hK w' hB hm' hs')
  ·simp only[grpG,Nat.reduceEqDiff,if_true,if_false,reduceIte]at hK
   simp only[Array.getD_eq_getD_getElem?,List.getElem?_toArray,List.getElem?_cons_succ,List.getElem?_cons_zero,Option.getD_some]
   exact qP 340 _ (by rfl) w64Z (fun w' hB hm' hs'=>hK w' hB hm' hs')
  ·simp only[grpG,Nat.reduceEqDiff,if_true,if_false,reduceIte]at hK
   simp only[Array.getD_eq_getD_getElem?,List.getElem?_toArray,List.getElem?_cons_succ,List.getElem?_cons_zero,Option.getD_some]
   exact qP 340 _ (by rfl) w64Z (fun w' hB hm' hs'=>hK w' hB hm' hs')
 intro vals wz hvl hJ;obtain⟨v14,vals1,rfl,hvl1⟩:=vals_cons hvl;obtain⟨v16,vals2,rfl,hvl2⟩:=vals_cons hvl1;obtain⟨v4,vals3,rfl,hvl3⟩:=vals_cons hvl2
 obtain⟨v5,vals4,rfl,hvl4⟩:=vals_cons hvl3;obtain⟨v6,vals5,rfl,hvl5⟩:=vals_cons hvl4;obtain rfl:=List.eq_nil_of_length_eq_zero hvl5
 simp only[List.map_cons,List.map_nil,List.zip_cons_cons,List.zip_nil_left]at hJ |-;have h14:=hJ.2.1 (14,v14) (by simp)
 simp only[GrpF,grpG,Nat.reduceEqDiff,if_true,if_false,reduceIte]at h14;subst h14;have h16:=hJ.2.1 (16,v16) (by simp)
 simp only[GrpF,grpG,Nat.reduceEqDiff,if_true,if_false,reduceIte]at h16;subst h16;have h4:=hJ.2.1 (4,v4) (by simp)
 simp only[GrpF,grpG,Nat.reduceEqDiff,if_true,if_false,reduceIte]at h4;obtain⟨b4,rfl,hB4,hL4,hH4⟩:=h4;have h5:=hJ.2.1 (5,v5) (by simp)
 simp only[GrpF,grpG,Nat.reduceEqDiff,if_true,if_false,reduceIte]at h5;obtain⟨b5,rfl,hB5,hL5,hH5⟩:=h5;have h6:=hJ.2.1 (6,v6) (by simp)
 simp only[GrpF,grpG,Nat.reduceEqDiff,if_true,if_false,reduceIte]at h6;obtain⟨b6,rfl,hB6,hL6,hH6⟩:=h6
 have hN4_5:b4≠b5:=hJ.ne (d:=4) (e:=5) (by simp) (by simp) (by decide) (by simp only[grpG,Nat.reduceEqDiff,if_true,if_false,reduceIte];rfl) (by simp only[grpG,Nat.reduceEqDiff,if_true,if_false,reduceIte];rfl)
 have hN4_6:b4≠b6:=hJ.ne (d:=4) (e:=6) (by simp) (by simp) (by decide) (by simp only[grpG,Nat.reduceEqDiff,if_true,if_false,reduceIte];rfl) (by simp only[grpG,Nat.reduceEqDiff,if_true,if_false,reduceIte];rfl)
 have hN5_6:b5≠b6:=hJ.ne (d:=5) (e:=6) (by simp) (by simp) (by decide) (by simp only[grpG,Nat.reduceEqDiff,if_true,if_false,reduceIte];rfl) (by simp only[grpG,Nat.reduceEqDiff,if_true,if_false,reduceIte];rfl)
 have hGM:=hJ.1;clear hJ hvl hvl1 hvl2 hvl3 hvl4 hvl5;simp only[puts];try simp only[nmz]
 refine qM rfl (fun K hK=>?_)
 refine qF 328 _ _ b4 0 (qK s.list) (by rfl) (by rfl) (by rfl) (zO _) 8 (by kernel_rfl) (by rw[qH];rfl) _ _ hB4 (by rw[qH,qH];simp[W8.list]) (fun w2 hC4 hm2=>?_)
 rw[qC (by rw[qH,qH];simp[W8.list])]at hC4;have hG2:=hGM.transB hm2 hL4;replace hB5:=hm2.objB (by omega) hB5
 replace hB6:=hm2.objB (by omega) hB6;clear hB4 hm2;refine hK _ _ hG2 ?_;clear hK K;try simp only[nmz]
 refine qM rfl (fun K hK=>?_)
 refine qF 340 _ _ b5 0 (qK shaKeys) (by rfl) (by rfl) (by rfl) (zO _) 64 (by kernel_rfl) (by rw[qH];rfl) _ _ hB5 (by rw[qH,qH];simp[shaKeys]) (fun w3 hC5 hm3=>?_)
 rw[qC (by rw[qH,qH];simp[shaKeys])]at hC5;have hG3:=hG2.transB hm3 hL5;replace hC4:=hm3.objB (by omega) hC4
 replace hB6:=hm3.objB (by omega) hB6;clear hB5 hm3;refine hK _ _ hG3 ?_;clear hK K;try simp only[nmz]
 refine qM rfl (fun K hK=>?_)
 refine qF 340 _ _ b6 0 (qK sp) (by rfl) (by rfl) (by rfl) (zO _) 64 (by kernel_rfl) (by rw[qH];exact hspl) _ _ hB6 (by rw[qH,qH,hspl];simp) (fun w4 hC6 hm4=>?_)
 rw[qC (by rw[qH,qH,hspl];simp)]at hC6;have hG4:=hG3.transB hm4 hL6;replace hC4:=hm4.objB (by omega) hC4
 replace hC5:=hm4.objB (by omega) hC5;clear hB6 hm4;refine hK _ _ hG4 ?_;clear hK K;simp only[stz];have hM:=hD.trans0 hG4
 have hba:ba<w.heap.size:=by
  rcases Nat.lt_or_ge ba w.heap.size with h|h
  ·exact h
  ·rw[Array.getElem?_eq_none h]at hcur;cases hcur
 replace hL4:w.heap.size<=b4:=hL4;replace hL5:w.heap.size<=b5:=hL5;replace hL6:w.heap.size<=b6:=hL6;clear hG2 hG3 hG4 hGM hH4 hH5 hH6 hD;go_wp2
 go_loopw [17] (RoundRel w b4 b5 b6 sp s) (fun i _=>64-(intOf i).toNat)
 case atStart=>exact⟨0,by omega,rfl,hC4,hC5,hC6,hM⟩
 case round=>
  rename World=>wr
  clear hC4 hC5 hC6 hM;obtain⟨n,hn,rfl,hC4,hC5,hC6,hM⟩:=hrel
  by_cases hlt:n<64
  ·have hz:(n:Int)<64:=by omega
   obtain⟨c,hc⟩:∃c,rounds shaKeys sp n s=c:=⟨_,rfl⟩;have hnext:rounds shaKeys sp (n+1) s=round c (shaKeys.getD n 0) (sp.getD n 0):=by rw[<-hc];rfl
   rw[hc]at hC4;have HC:=hid hc;have HN:=hid hnext;clear hc hnext;go_upto_region 4 with(fail);have hS:Mod NoB wr wr.drew:=(Mod.refl _ _).drew
   refine wpRZ [3,0,3,0,0,3,0,0,3,3,0,0,3,3,3,0,3,0,3,3,0,3,3,0,3,3,3,3,3,0,3,3,3,0,3,3] [] (fun w'=>Mod NoB wr w') hS ?_;simp only[stz]
   refine qJ _ _ _ _ _ _ _ 7 rfl rfl rfl rfl underlying328 (n:=1) (by kernel_rfl) (by omega) ?_;simp only[nmz]
   refine wpLd (v:=(wordV c.h)) 301 b4 7 (fun w' hS=>word8 (hS.obj id hC4) 7 (by omega)) underlying301 ?_;simp only[nmz]
   refine qJ _ _ _ _ _ _ _ 4 rfl rfl rfl rfl underlying328 (n:=1) (by kernel_rfl) (by omega) ?_;simp only[nmz]
   refine wpLd (v:=(wordV c.e)) 301 b4 4 (fun w' hS=>word8 (hS.obj id hC4) 4 (by omega)) underlying301 ?_;simp only[nmz]
   refine jH (f:=257) rfl ?_ (fun w' hS=>yQ c.e 6 (by omega) w') ?_
   ·exact zI 257 _ _ rfl _ func257 rfl (by kernel_rfl) _ rfl
   simp only[nmz];refine qJ _ _ _ _ _ _ _ 4 rfl rfl rfl rfl underlying328 (n:=1) (by kernel_rfl) (by omega) ?_;simp only[nmz]
   refine wpLd (v:=(wordV c.e)) 301 b4 4 (fun w' hS=>word8 (hS.obj id hC4) 4 (by omega)) underlying301 ?_;simp only[nmz]
   refine jH (f:=257) rfl ?_ (fun w' hS=>yQ c.e 11 (by omega) w') ?_
   ·exact zI 257 _ _ rfl _ func257 rfl (by kernel_rfl) _ rfl
   simp only[nmz];refine zM _ _ _ _ _ _ rfl rfl rfl rfl ?_;simp only[nmz]
   refine qJ _ _ _ _ _ _ _ 4 rfl rfl rfl rfl underlying328 (n:=1) (by kernel_rfl) (by omega) ?_;simp only[nmz]
   refine wpLd (v:=(wordV c.e)) 301 b4 4 (fun w' hS=>word8 (hS.obj id hC4) 4 (by omega)) underlying301 ?_;simp only[nmz]
   refine jH (f:=257) rfl ?_ (fun w' hS=>yQ c.e 25 (by omega) w') ?_
   ·exact zI 257 _ _ rfl _ func257 rfl (by kernel_rfl) _ rfl
   simp only[nmz];refine zM _ _ _ _ _ _ rfl rfl rfl rfl ?_;simp only[nmz];refine zN _ _ _ _ _ _ rfl rfl rfl rfl ?_;simp only[nmz]
   refine qJ _ _ _ _ _ _ _ 4 rfl rfl rfl rfl underlying328 (n:=1) (by kernel_rfl) (by omega) ?_;simp only[nmz]
   refine wpLd (v:=(wordV c.e)) 301 b4 4 (fun w' hS=>word8 (hS.obj id hC4) 4 (by omega)) underlying301 ?_;simp only[nmz]
   refine qJ _ _ _ _ _ _ _ 5 rfl rfl rfl rfl underlying328 (n:=1) (by kernel_rfl) (by omega) ?_;simp only[nmz]
   refine wpLd (v:=(wordV c.f)) 301 b4 5 (fun w' hS=>word8 (hS.obj id hC4) 5 (by omega)) underlying301 ?_;simp only[nmz];refine yP _ _ _ _ _ _ rfl rfl rfl rfl ?_
   simp only[nmz];refine qJ _ _ _ _ _ _ _ 4 rfl rfl rfl rfl underlying328 (n:=1) (by kernel_rfl) (by omega) ?_;simp only[nmz]
   refine wpLd (v:=(wordV c.e)) 301 b4 4 (fun w' hS=>word8 (hS.obj id hC4) 4 (by omega)) underlying301 ?_;simp only[nmz];refine wpPi_not32 _ _ _ rfl rfl rfl ?_;simp only[nmz]
   refine qJ _ _ _ _ _ _ _ 6 rfl rfl rfl rfl underlying328 (n:=1) (by kernel_rfl) (by omega) ?_;simp only[nmz]
   refine wpLd (v:=(wordV c.g)) 301 b4 6 (fun w' hS=>word8 (hS.obj id hC4) 6 (by omega)) underlying301 ?_;simp only[nmz];refine yP _ _ _ _ _ _ rfl rfl rfl rfl ?_
   simp only[nmz];refine zM _ _ _ _ _ _ rfl rfl rfl rfl ?_;simp only[nmz];refine zN _ _ _ _ _ _ rfl rfl rfl rfl ?_;simp only[stz]
   refine qJ _ _ _ _ _ _ _ _ rfl rfl rfl rfl underlying340 (n:=1) (by kernel_rfl) hlt ?_;simp only[nmz]
   refine wpLd (v:=(wordV (shaKeys.getD n 0))) 301 b5 (n*1) (fun w' hS=>by rw[Nat.mul_one];exact word64 (hS.obj id hC5) (by rfl) hlt) underlying301 ?_;simp only[nmz]
   refine zN _ _ _ _ _ _ rfl rfl rfl rfl ?_;simp only[stz];refine qJ _ _ _ _ _ _ _ _ rfl rfl rfl rfl underlying340 (n:=1) (by kernel_rfl) hlt ?_;simp only[nmz]
   refine wpLd (v:=(wordV (sp.getD n 0))) 301 b6 (n*1) (fun w' hS=>by rw[Nat.mul_one];exact word64 (hS.obj id hC6) hspl hlt) underlying301 ?_;simp only[nmz]
   refine zN _ _ _ _ _ _ rfl rfl rfl rfl ?_;simp only[stz];replace hM:=hM.trans0 hS;replace hC4:=hS.obj id hC4;replace hC5:=hS.obj id hC5
   replace hC6:=hS.obj id hC6;clear hS;generalize wr.drew=wy at*;go_upto_region 5 with(fail);have hS:Mod NoB wy wy.drew:=(Mod.refl _ _).drew
   refine wpRZ [3,0,0,3,0,0,3,3,0,0,3,3,0,3,0,3,3,0,3,0,3,3,3,0,3,0,3,3,3,3] [] (fun w'=>Mod NoB wy w') hS ?_;simp only[stz]
   refine qJ _ _ _ _ _ _ _ 0 rfl rfl rfl rfl underlying328 (n:=1) (by kernel_rfl) (by omega) ?_;simp only[nmz]
   refine wpLd (v:=(wordV c.a)) 301 b4 0 (fun w' hS=>word8 (hS.obj id hC4) 0 (by omega)) underlying301 ?_;simp only[nmz]
   refine jH (f:=257) rfl ?_ (fun w' hS=>yQ c.a 2 (by omega) w') ?_
   ·exact zI 257 _ _ rfl _ func257 rfl (by kernel_rfl) _ rfl
   simp only[nmz];refine qJ _ _ _ _ _ _ _ 0 rfl rfl rfl rfl underlying328 (n:=1) (by kernel_rfl) (by omega) ?_;simp only[nmz]
   refine wpLd (v:=(wordV c.a)) 301 b4 0 (fun w' hS=>word8 (hS.obj id hC4) 0 (by omega)) underlying301 ?_;simp only[nmz]
   refine jH (f:=257) rfl ?_ (fun w' hS=>yQ c.a 13 (by omega) w') ?_
   ·exact zI 257 _ _ rfl _ func257 rfl (by kernel_rfl) _ rfl
   simp only[nmz];refine zM _ _ _ _ _ _ rfl rfl rfl rfl ?_;simp only[nmz]
   refine qJ _ _ _ _ _ _ _ 0 rfl rfl rfl rfl underlying328 (n:=1) (by kernel_rfl) (by omega) ?_;simp only[nmz]
   refine wpLd (v:=(wordV c.a)) 301 b4 0 (fun w' hS=>word8 (hS.obj id hC4) 0 (by omega)) underlying301 ?_;simp only[nmz]
   refine jH (f:=257) rfl ?_ (fun w' hS=>yQ c.a 22 (by omega) w') ?_
   ·exact zI 257 _ _ rfl _ func257 rfl (by kernel_rfl) _ rfl
   simp only[nmz];refine zM _ _ _ _ _ _ rfl rfl rfl rfl ?_;simp only[nmz]
   refine qJ _ _ _ _ _ _ _ 0 rfl rfl rfl rfl underlying328 (n:=1) (by kernel_rfl) (by omega) ?_;simp only[nmz]
   refine wpLd (v:=(wordV c.a)) 301 b4 0 (fun w' hS=>word8 (hS.obj id hC4) 0 (by omega)) underlying301 ?_;simp only[nmz]
   refine qJ _ _ _ _ _ _ _ 1 rfl rfl rfl rfl underlying328 (n:=1) (by kernel_rfl) (by omega) ?_;simp only[nmz]
   refine wpLd (v:=(wordV c.b)) 301 b4 1 (fun w' hS=>word8 (hS.obj id hC4) 1 (by omega)) underlying301 ?_;simp only[nmz];refine yP _ _ _ _ _ _ rfl rfl rfl rfl ?_
   simp only[nmz];refine qJ _ _ _ _ _ _ _ 0 rfl rfl rfl rfl underlying328 (n:=1) (by kernel_rfl) (by omega) ?_;simp only[nmz]
   refine wpLd (v:=(wordV c.a)) 301 b4 0 (fun w' hS=>word8 (hS.obj id hC4) 0 (by omega)) underlying301 ?_;simp only[nmz]
   refine qJ _ _ _ _ _ _ _ 2 rfl rfl rfl rfl underlying328 (n:=1) (by kernel_rfl) (by omega) ?_;simp only[nmz]
   refine wpLd (v:=(wordV c.c)) 301 b4 2 (fun w' hS=>word8 (hS.obj id hC4) 2 (by omega)) underlying301 ?_;simp only[nmz];refine yP _ _ _ _ _ _ rfl rfl rfl rfl ?_
   simp only[nmz];refine zM _ _ _ _ _ _ rfl rfl rfl rfl ?_;simp only[nmz]
   refine qJ _ _ _ _ _ _ _ 1 rfl rfl rfl rfl underlying328 (n:=1) (by kernel_rfl) (by omega) ?_;simp only[nmz]
   refine wpLd (v:=(wordV c.b)) 301 b4 1 (fun w' hS=>word8 (hS.obj id hC4) 1 (by omega)) underlying301 ?_;simp only[nmz]
   refine qJ _ _ _ _ _ _ _ 2 rfl rfl rfl rfl underlying328 (n:=1) (by kernel_rfl) (by omega) ?_;simp only[nmz]
   refine wpLd (v:=(wordV c.c)) 301 b4 2 (fun w' hS=>word8 (hS.obj id hC4) 2 (by omega)) underlying301 ?_;simp only[nmz];refine yP _ _ _ _ _ _ rfl rfl rfl rfl ?_
   simp only[nmz];refine zM _ _ _ _ _ _ rfl rfl rfl rfl ?_;simp only[nmz];refine zN _ _ _ _ _ _ rfl rfl rfl rfl ?_;simp only[stz];replace hM:=hM.trans0 hS
   replace hC4:=hS.obj id hC4;replace hC5:=hS.obj id hC5;replace hC6:=hS.obj id hC6;clear hS;generalize wy.drew=wz at*;go_upto_region 6 with(fail)
   refine wpR [3,3,3,3,1,3,1,3,1,3,1,3,3,3,1,3,1,3,1,3,1] ?_;simp only[stz];refine zN _ _ _ _ _ _ rfl rfl rfl rfl ?_;simp only[nmz]
   refine qJ _ _ _ _ _ _ _ 0 rfl rfl rfl rfl underlying328 (n:=1) (by kernel_rfl) (by omega) ?_;simp only[nmz]
   refine wpXd (v:=(wordV c.a)) 301 b4 0 (word8 hC4 0 (by omega)) underlying301 trivial ?_;try simp only[nmz]
   refine qJ _ _ _ _ _ _ _ 1 rfl rfl rfl rfl underlying328 (n:=1) (by kernel_rfl) (by omega) ?_;simp only[nmz]
   refine wpXd (v:=(wordV c.b)) 301 b4 1 (word8 hC4 1 (by omega)) underlying301 trivial ?_;try simp only[nmz]
   refine qJ _ _ _ _ _ _ _ 2 rfl rfl rfl rfl underlying328 (n:=1) (by kernel_rfl) (by omega) ?_;simp only[nmz]
   refine wpXd (v:=(wordV c.c)) 301 b4 2 (word8 hC4 2 (by omega)) underlying301 trivial ?_;try simp only[nmz]
   refine qJ _ _ _ _ _ _ _ 3 rfl rfl rfl rfl underlying328 (n:=1) (by kernel_rfl) (by omega) ?_;simp only[nmz]
   refine wpXd (v:=(wordV c.d)) 301 b4 3 (word8 hC4 3 (by omega)) underlying301 trivial ?_;simp only[stz];refine zN _ _ _ _ _ _ rfl rfl rfl rfl ?_;simp only[nmz]
   refine qJ _ _ _ _ _ _ _ 4 rfl rfl rfl rfl underlying328 (n:=1) (by kernel_rfl) (by omega) ?_;simp only[nmz]
   refine wpXd (v:=(wordV c.e)) 301 b4 4 (word8 hC4 4 (by omega)) underlying301 trivial ?_;try simp only[nmz]
   refine qJ _ _ _ _ _ _ _ 5 rfl rfl rfl rfl underlying328 (n:=1) (by kernel_rfl) (by omega) ?_;simp only[nmz]
   refine wpXd (v:=(wordV c.f)) 301 b4 5 (word8 hC4 5 (by omega)) underlying301 trivial ?_;try simp only[nmz]
   refine qJ _ _ _ _ _ _ _ 6 rfl rfl rfl rfl underlying328 (n:=1) (by kernel_rfl) (by omega) ?_;simp only[nmz]
   refine wpXd (v:=(wordV c.g)) 301 b4 6 (word8 hC4 6 (by omega)) underlying301 trivial ?_;try simp only[nmz]
   refine qE (v:=.agg (qK (round c (shaKeys.getD n 0) (sp.getD n 0)).list)) rfl (fun w'=>qL 328 _ [(0,wordV (roundX c (shaKeys.getD n 0) (sp.getD n 0)+roundY c)),(1,wordV c.a),(2,wordV c.b),(3,wordV c.c),(4,wordV (c.d+roundX c (shaKeys.getD n 0) (sp.getD n 0))),(5,wordV c.e),(6,wordV c.f),(7,wordV c.g)] _ (by rfl) (by rfl) (built8 _ _ _ _ _ _ _ _)) ?_
   simp only[nmz]
   refine wpD (qF 328 _ _ b4 0 (qK (round c (shaKeys.getD n 0) (sp.getD n 0)).list) (by rfl) (by rfl) (by rfl) (zO _) 8 (by kernel_rfl) (by rw[qH];rfl) _ _ hC4 (by rw[qH,qH];simp[W8.list]) (fun w5 hD4 hm5=>?_))
   rw[qC (by rw[qH,qH];simp[W8.list]),<-HN.out]at hD4;have hM5:=hM.transB hm5 hL4;replace hC5:=hm5.objB (by omega) hC5
   replace hC6:=hm5.objB (by omega) hC6;clear hC4 hm5;simp only[stz];go_wp2
   go_roundw
   case rel=>exact⟨n+1,by omega,by go_num,hD4,hC5,hC6,hM5⟩
   case measure=>simp[intOf];omega
  ·have hz:¬(n:Int)<64:=by omega
   obtain rfl:n=64:=by omega
   obtain⟨c,hc⟩:∃c,rounds shaKeys sp 64 s=c:=⟨_,rfl⟩;rw[hc]at hC4;have hr:blockL s b=addW s c:=by unfold blockL;rw[HSP.out,hc]
   have HR:=hid hr;clear hr hc;have hrowA:=hM.obj id hcur;have hMA:Mod (fun k=>k=ba) w wr:=hM.mono (fun _ _ h=>h.elim);clear hcur hM hC5 hC6 hz hn
   have hlen:(addW s c).list.length=8:=rfl;go_wp2
   go_loopw [105] (AddRel w ba oa cur T b4 s c) (fun i _=>8-(intOf i).toNat)
   case atStart=>exact⟨0,by omega,rfl,by rw[List.take_zero,putRow_none (by omega)];exact hrowA,hC4,hMA⟩
   case round=>
    rename World=>wv
    clear hC4 hrowA hMA;obtain⟨n,hn,rfl,hrow,hC4,hM⟩:=hrel
    by_cases hlt:n<8
    ·have hz:(n:Int)<8:=by omega
     have hw1:wv.cell? ⟨ba,oa+n*1,none⟩=some (wordV (s.list.getD n 0)):=by
      rw[cell_of_row _ _ _ _ _ _ hrow,Nat.mul_one,putRow_get (by rw[qH,List.length_take];omega),if_neg (by rw[qH,List.length_take];omega),HSS.out n hlt]
     have hstep:=putRow_step (cur:=cur) (oa:=oa) (n:=n) (l:=(addW s c).list) (by omega) (by omega)
     have hpsz:(qZ cur oa (qK ((addW s c).list.take n))).size=cur.size:=yC (by rw[qH,List.length_take];omega)
     rw[addW_at s c n hlt]at hstep;have HST:=hid hstep;clear hstep;go_upto_region 11 with(fail);have hS:Mod NoB wv wv.drew:=(Mod.refl _ _).drew
     refine wpRZ [3,3,3,3,0,3,3,0,3,3,3,2] [11] (fun w'=>Mod NoB wv w') hS ?_;simp only[stz]
     refine qJ _ _ _ _ _ _ _ _ rfl rfl rfl rfl underlying328 (n:=1) (by kernel_rfl) hlt ?_;simp only[nmz]
     refine wpLd (v:=(wordV (s.list.getD n 0))) 301 ba (oa+n*1) (fun w' hS=>hS.cell id hw1) underlying301 ?_;simp only[stz]
     refine qJ _ _ _ _ _ _ _ _ rfl rfl rfl rfl underlying328 (n:=1) (by kernel_rfl) hlt ?_;simp only[nmz]
     refine wpLd (v:=(wordV (c.list.getD n 0))) 301 b4 (n*1) (fun w' hS=>by rw[Nat.mul_one];exact word8 (hS.obj id hC4) n hlt) underlying301 ?_;simp only[nmz]
     refine zN _ _ _ _ _ _ rfl rfl rfl rfl ?_;simp only[stz];refine qJ _ _ _ _ _ _ _ _ rfl rfl rfl rfl underlying328 (n:=1) (by kernel_rfl) hlt ?_
     simp only[nmz];refine zB rfl (fun K hK=>?_)
     refine qT 301 _ _ ba (oa+n*1) (wordV (s.list.getD n 0+c.list.getD n 0)) (by rfl) (by rfl) (by rfl) rfl (by kernel_rfl) _ _ (show wv.drew.heap[ba]?=_ from hrow) (by rw[hpsz];omega) (fun w2 hB2 hm2=>?_)
     rw[Nat.mul_one,HST.out]at hB2;replace hC4:=hm2.objB (by omega) (show wv.drew.heap[b4]?=_ from hC4);refine hK _ _ ?_;clear hK K;simp only[stz]
     have hM2:Mod (fun k=>k=ba) w w2:=(hM.trans hS (fun _ _ h=>h.elim)).trans hm2 (fun _ _ h=>h);clear hM hS hm2 hrow hw1;go_wp2
     go_roundw
     case rel=>exact⟨n+1,by omega,by go_num,hB2,hC4,hM2⟩
     case measure=>simp[intOf];omega
    ·have hz:¬(n:Int)<8:=by omega
     obtain rfl:n=8:=by omega
     go_wp2
     go_end0
     refine⟨rfl,?_,hM⟩;rw[HR.out];exact hrow
section
variable{P:Program}{ops:Array Oper}{Q:Exit->Act->World->Prop}{S:World->Prop}{o:Oper}{r:List (Oper×Nat)}{a:Act}{w:World}
theorem yK(t e:TypeId)(x h:Operand)(ad:Option Addr)(len cap i n:Nat)(hw:Region.wanted o (yielded ops a.tmps)=true)(ho:o.op=.slice t x none (some h) none)(hx:a.eval x=.slice ad len cap)(hh:a.eval h=.int .i64 (i:Int))
 (hu:P.underlying t=some (.slice e))(hs:(P.info? e).map (·.size)=some n)(hi:i<=cap)(hk:wpPi P ops Q S r (a.put o.dst (sliced ad 0 i cap n)) w):wpPi P ops Q S ((o,3)::r) a w:=
 qE hw (fun w=>by
  have he:P.elem t=e:=by simp[Program.elem,hu]
  have hsz:(sizeOf e).run P w=.ok n w:=by
   cases hq:P.info? e with
   |none=>simp[hq]at hs
   |some i=>simp[hq]at hs;simp[sizeOf,typeInfo,hq,hs]
  unfold execOp;simp only[ho,hx,hh,Option.map_none,Option.map_some]
  have h1:=run_sliceAt_slice (P:=P) (w:=w) t (.slice ad len cap) none (some (.int .i64 (i:Int))) none (by rw[he];exact hu)
  have h2:=run_slice_h (P:=P) (w:=w) t ad len cap (by rw[he];exact hu) .i64 (i:Int) (by omega) (by omega)
  simp only[Sem.run_bind,h1,h2,he,hsz,Result.andThen_ok,Sem.run_pure,Int.toNat_natCast]) hk
theorem yA(t e:TypeId)(x l:Operand)(ad:Option Addr)(len cap i n:Nat)(hw:Region.wanted o (yielded ops a.tmps)=true)(ho:o.op=.slice t x (some l) none none)(hx:a.eval x=.slice ad len cap)(hl:a.eval l=.int .i64 (i:Int))
 (hu:P.underlying t=some (.slice e))(hs:(P.info? e).map (·.size)=some n)(hi:i<=len)(hk:wpPi P ops Q S r (a.put o.dst (sliced ad i len cap n)) w):wpPi P ops Q S ((o,3)::r) a w:=
 qE hw (fun w=>by
  have he:P.elem t=e:=by simp[Program.elem,hu]
  have hsz:(sizeOf e).run P w=.ok n w:=by
   cases hq:P.info? e with
   |none=>simp[hq]at hs
   |some i=>simp[hq]at hs;simp[sizeOf,typeInfo,hq,hs]
  unfold execOp;simp only[ho,hx,hl,Option.map_none,Option.map_some]
  have h1:=run_sliceAt_slice (P:=P) (w:=w) t (.slice ad len cap) (some (.int .i64 (i:Int))) none none (by rw[he];exact hu)
  have h2:=run_slice_l (P:=P) (w:=w) t ad len cap (by rw[he];exact hu) .i64 (i:Int) (by omega) (by omega)
  simp only[Sem.run_bind,h1,h2,he,hsz,Result.andThen_ok,Sem.run_pure,Int.toNat_natCast]) hk
end
theorem addr_add0(b off k:Nat):Addr.add ⟨b,off,none⟩ k=⟨b,off+k,none⟩:=by
 unfold Addr.add
 split
 ·rename_i hk;subst hk;rfl
 ·rfl
section
variable{w w':World}{base e sz n i cap:Nat}{v:Value}{xs:List Value}{ad:Option Addr}
theorem yF(h:w.ownsRow base e sz v n xs):v.oneCell'=true:=by
 rcases h.2 with⟨rfl,_⟩|⟨g,cap,cur,rfl,_⟩<;>rfl
theorem yW{base':Nat}(h:w.ownsRow base e sz v n xs)(hb:base'<=base):w.ownsRow base' e sz v n xs:=by
 refine⟨h.1,?_⟩
 rcases h.2 with h|⟨g,cap,cur,h1,h2,h3⟩
 ·exact .inl h
 ·exact .inr ⟨g,cap,cur,h1,Nat.le_trans hb h2,h3⟩
theorem owns_to(h:w.ownsRow base e sz (.slice ad n cap) n xs)(hi:i<=n):w.ownsRow base e sz (sliced ad 0 i cap sz) i (xs.take (i*sz))/\(sliced ad 0 i cap sz).ownBlock=(Value.slice ad n cap).ownBlock:=by
 have hm:i*sz<=n*sz:=Nat.mul_le_mul_right _ hi
 rcases h.2 with⟨h1,h2⟩|⟨g,c,cur,h1,hb,hg,hc,hm',hcs,ht⟩
 ·cases h1
  obtain rfl:i=0:=by omega
  have e1:xs=[]:=List.eq_nil_of_length_eq_zero (by rw[h.1];simp);refine⟨⟨by simp,.inl ⟨by simp[sliced],rfl⟩⟩,by simp[sliced,Value.ownBlock]⟩
 ·cases h1
  have e1:sliced (some ⟨g,0,none⟩) 0 i cap sz=.slice (some ⟨g,0,none⟩) i cap:=by
   simp only[sliced,Option.map_some,addr_add0,Nat.zero_mul,Nat.add_zero,Nat.sub_zero,ite_self]
  rw[e1];refine⟨⟨by rw[List.length_take,h.1];omega,.inr ⟨g,cap,cur,rfl,hb,hg,by omega,hm',hcs,?_⟩⟩,rfl⟩;rw[<-ht,List.take_take,Nat.min_eq_left hm]
theorem jD(h:w.ownsRow base e sz v n xs):Src w sz v n xs:=by
 rcases h.2 with⟨rfl,rfl⟩|⟨g,c,cur,rfl,hb,hg,hc,hm',hcs,ht⟩
 ·exact⟨h.1,_,_,rfl,fun h=>absurd rfl h⟩
 ·refine⟨h.1,_,_,rfl,fun _=>⟨g,0,rfl,fun j x hj=>?_⟩⟩
  have hjl:j<xs.length:=by
   rcases Nat.lt_or_ge j xs.length with h|h
   ·exact h
   ·rw[List.getElem?_eq_none h]at hj;cases hj
  rw[cell_of_row _ _ _ _ _ _ hg,Nat.zero_add,<-hj,<-ht,List.getElem?_take_of_lt (by rw[<-h.1];exact hjl)]
  simp
theorem Src.drop{m:Nat}(h:Src w sz (.slice ad m cap) m xs)(hi:i<=m)(hm:m<=cap):Src w sz (sliced ad i m cap sz) (m-i) (xs.drop (i*sz)):=by
 obtain⟨h1,ad',c',e,h2⟩:=h;obtain⟨rfl,rfl⟩:ad=ad'/\cap=c':=by simpa using e
 refine⟨by rw[List.length_drop,h1,Nat.sub_mul],_,_,rfl,fun hi0=>?_⟩;obtain⟨b,off,rfl,hc⟩:=h2 (by omega);refine⟨b,off+i*sz,?_,fun j x hj=>?_⟩
 ·rw[if_neg (by omega)]
  simp[addr_add0]
 ·rw[Nat.add_assoc]
  exact hc _ _ (by rw[<-hj,List.getElem?_drop])
end
section
variable{α:Type}{own:Bool}{w:World}{G:Nat->Prop}{sz cap:Nat}{R:Array Value->α->Prop}{ad:Option Addr}{l:List α}
theorem Sl.cut(h:Sl own w G sz R (.slice ad l.length cap) l)(i:Nat)(hi:i<=l.length):Sl own w G sz R (sliced ad i l.length cap sz) (l.drop i):=by
 obtain⟨a,c,e,h1,h2,h3⟩:=h
 cases e
 refine⟨_,_,by rw[List.length_drop];rfl,by rw[List.length_drop];omega,by omega,fun hne=>?_⟩
 have hlt:i<l.length:=by
  rcases Nat.lt_or_ge i l.length with h|h
  ·exact h
  ·exact absurd (List.drop_eq_nil_of_le h) hne
 obtain⟨b,off,rfl,hG,ho,hc⟩:=h3 (by rintro rfl;simp at hlt);refine⟨b,off+i*sz,by rw[if_neg (by omega)];simp[addr_add0],hG,ho,fun j hj=>?_⟩
 rw[List.length_drop]at hj;obtain⟨cs,hs,hR,hcs⟩:=hc (i+j) (by omega);refine⟨cs,hs,by rw[List.getElem_drop];exact hR,?_⟩
 rw[show off+i*sz+j*sz=off+(i+j)*sz by rw[Nat.add_mul];omega];exact hcs
theorem Sl.fst(h:Sl own w G sz R (.slice ad l.length cap) l)(i:Nat)(hi:i<=l.length):Sl own w G sz R (sliced ad 0 i cap sz) (l.take i):=by
 obtain⟨a,c,e,h1,h2,h3⟩:=h
 cases e
 refine⟨_,_,by rw[List.length_take,Nat.min_eq_left hi];rfl,by rw[List.length_take];omega,by omega,fun hne=>?_⟩
 obtain⟨b,off,rfl,hG,ho,hc⟩:=h3 (by rintro rfl;simp at hne);refine⟨b,off,by simp[addr_add0],hG,ho,fun j hj=>?_⟩;rw[List.length_take]at hj
 obtain⟨cs,hs,hR,hcs⟩:=hc j (by omega);exact⟨cs,hs,by rw[List.getElem_take];exact hR,hcs⟩
end
def yN(s:W8)(rest:Value)(n:Nat):Array Value:=#[wordV s.a,wordV s.b,wordV s.c,wordV s.d,wordV s.e,wordV s.f,wordV s.g,wordV s.h,rest,.int .i64 (n:Int),.bool true]
theorem hashRow_put(s r:W8)(rest:Value)(n:Nat):qZ (yN s rest n) 0 (qK r.list)=yN r rest n:=rfl
theorem hashRow_at(s:W8)(rest:Value)(n k:Nat)(h:k<8):(yN s rest n)[0+k]?=some (wordV (s.list.getD k 0)):=by
 match k,h with
 |0,_|1,_|2,_|3,_|4,_|5,_|6,_|7,_=>rfl
theorem builtH:prog.built 331 [(0,.agg (qK shaBegin.list)),(3,.bool true)]=some (yN shaBegin (.slice none 0 0) 0):=by kernel_rfl
theorem zQ{P:Program}{K:Act->World->Prop}{Q:Exit->Act->World->Prop}{o:Oper}{a:Act}{w:World}{f:FuncId}{args:Array Value}{R:Ending->World->Prop}(hr:(execOp a.eval o).run P w=.ok (.enter f args) w)(hc:Calls P f args w R)
 (k:∀e w',R e w'->∃v,e=.returned v/\K (a.put o.dst v) w'):o.wp P a w K Q:=by
 unfold Oper.wp;rw[hr,Oper.upon_enter];refine hc.mono fun e w' he=>?_;obtain⟨v,rfl,h⟩:=k e w' he;exact h
theorem shaNone_at(b:Nat)(w:World)(hc:w.cell? ⟨b,10,none⟩=some (.bool true)):Calls prog 226 #[.pointer (some ⟨b,0,none⟩)] w (RetE (.bool false) w):=by
 go_enter func226,ntmps226;go_wp2;go_ret;exact⟨rfl,rfl⟩
def NewH(w:World):Ending->World->Prop:=fun e w'=>∃b,e=.returned (.pointer (some ⟨b,0,none⟩))/\w.heap.size<=b/\b<w'.heap.size/\w'.heap[b]?=some (.cells (yN shaBegin (.slice none 0 0) 0) 331 (0,0))/\Mod NoB w w'
theorem shaNew_any(w:World):Calls prog 182 #[] w (NewH w):=by
 go_enter func182,ntmps182;go_upto_region 1 with(fail);refine wpR [1,3,1,3] ?_;simp only[stz]
 refine wpD (yL (zI 225 [] _ rfl _ func225 rfl (by kernel_rfl) [] rfl _) (begin_any _) (fun w1 hm1=>?_));try simp only[nmz]
 refine qE (v:=.agg (yN shaBegin (.slice none 0 0) 0)) rfl (fun w'=>qL 331 _ _ _ (by rfl) (by rfl) builtH) ?_;simp only[nmz]
 refine wpD (zT 331 _ _ (by rfl) (by rfl) (fun w2 hB2 hm2 hs2=>?_))
 replace hB2:w2.heap[w1.heap.size]?=some (.cells (yN shaBegin (.slice none 0 0) 0) 331 (0,0)):=hB2;simp only[stz];go_wp2;go_ret
 exact⟨_,rfl,hm1.size,hs2,hB2,hm1.trans0 hm2⟩
def restN(w:World)(b:Nat):Nat:=match w.cell? ⟨b,8,none⟩with
 |some (.slice _ n _)=>n
 |_=>0
theorem restN_of{w:World}{b:Nat}{s:W8}{ad:Option Addr}{n cap m:Nat}(h:w.heap[b]?=some (.cells (yN s (.slice ad n cap) m) 331 (0,0))):restN w b=n:=by
 unfold restN;rw[cell_of_row _ _ _ _ _ _ h]
 rfl
def WRel(w0:World)(bh:Nat)(m:List UInt8)(w:World):Prop:=∃k rest,64*k<=m.length/\w.heap[bh]?=some (.cells (yN (zY k shaBegin m) rest m.length) 331 (0,0))/\
 Sl false w (fun g=>w0.heap.size<=g) 1 ByteC rest (m.drop (64*k))/\Mod (fun k=>k=bh) w0 w
def WriteR(w0:World)(bh:Nat)(m:List UInt8):Ending->World->Prop:=fun e w=>e=.returned (.int .i64 0)/\∃rest,w.heap[bh]?=some (.cells (yN (zY (m.length/64) shaBegin m) rest m.length) 331 (0,0))/\
 Sl false w (fun g=>w0.heap.size<=g) 1 ByteC rest (m.drop (64*(m.length/64)))/\Mod (fun k=>k=bh) w0 w
theorem byte_i:(prog.info? 5).map (fun i=>(i.zero,i.size,i.bytes))=some (some (.int .u8 0),1,1):=by kernel_rfl
theorem shaWrite_any{own:Bool}{G:Nat->Prop}{v:Value}{m:List UInt8}{w:World}(hb:Sl own w G 1 ByteC v m)(hl:m.length<=140737488355328)(bh:Nat)(hG:∀k,G k->k≠bh)
 (hrow:w.heap[bh]?=some (.cells (yN shaBegin (.slice none 0 0) 0) 331 (0,0))):
 Calls prog 183 #[.pointer (some ⟨bh,0,none⟩),v] w (WriteR w bh m):=by
 have hbh:bh<w.heap.size:=by
  rcases Nat.lt_or_ge bh w.heap.size with h|h
  ·exact h
  ·rw[Array.getElem?_eq_none h]at hrow;cases hrow
 have hc10:w.cell? ⟨bh,10,none⟩=some (.bool true):=by rw[cell_of_row _ _ _ _ _ _ hrow];rfl
 have hbS:=hid hb;obtain⟨ad,cap,rfl,hle,hmx,-⟩:=hb;go_enter func183,ntmps183
 go_upto_region 3 with(go_at_call 226;refine(shaNone_at bh _ hc10).mono ?_;rintro _ w3 ⟨rfl,hw⟩;obtain rfl:=hw.symm);refine wpR [3,3,3,1,3,3,3,3,3,1] ?_
 simp only[stz];refine wpXd (v:=(.int .i64 0)) 3 bh 9 (by rw[cell_of_row _ _ _ _ _ _ hrow];rfl) underlying3 trivial ?_;simp only[stz];refine wpPL ?_;simp only[nmz]
 refine qY _ _ _ _ 0 (m.length:Int) (m.length:Int) rfl rfl rfl rfl (by omega) (by omega) (by omega) ?_;simp only[stz]
 refine wpD (qT 3 _ _ bh 9 (.int .i64 (m.length:Int)) (by rfl) (by rfl) (by rfl) rfl (by kernel_rfl) _ _ hrow (by simp[yN]) (fun w2 hB2 hm2=>?_))
 replace hB2:w2.heap[bh]?=some (.cells (yN shaBegin (.slice none 0 0) m.length) 331 (0,0)):=hB2;simp only[stz];go_upto_region 4 with(fail)
 have hbS2:=hbS.out.keepB hm2 hG;obtain⟨css,hall,hcs,hsrc⟩:=hbS2.src (by omega);refine wpR [3,3,3,3,1,3,1,3,3,1] ?_;simp only[stz]
 refine wpXd (v:=(.slice none 0 0)) 53 bh 8 (by rw[cell_of_row _ _ _ _ _ _ hB2];rfl) underlying53 trivial ?_;simp only[stz]
 refine wpD (wp_append _ _ 53 5 (.int .u8 0) 1 1 (by rfl) underlying53 byte_i (by kernel_rfl) (by omega) w2.heap.size _ 0 [] (by rfl) ⟨rfl,.inl ⟨rfl,rfl⟩⟩ _ m.length _ (by rfl) hsrc (all2_one hall fun _ _=>byteC_one) (by omega) (by omega) (by omega) (fun v3 w3 ho3 hg3 hv3=>?_))
 have hm3:Mod NoB w2 w3:=(Mod.refl _ _).grown hg3 (fun k e _=>nomatch (show(none:Option Nat)=some k from e))
 have hs3:Sl true w3 (fun k=>w2.heap.size<=k/\k<w3.heap.size/\v3.ownBlock=some k) 1 ByteC v3 m:=Sl.of_owns ho3 (List.nil_append _) hcs hall (Nat.zero_add _)
 replace hB2:=hm3.obj id hB2;simp only[stz]
 refine wpD (qT 53 _ _ bh 8 v3 (by rfl) (by rfl) (by rfl) hs3.one (by kernel_rfl) _ _ hB2 (by simp[yN]) (fun w4 hB4 hm4=>?_))
 replace hB4:w4.heap[bh]?=some (.cells (yN shaBegin v3 m.length) 331 (0,0)):=hB4;simp only[stz];have hw2:=hm2.size;have hw3:=hm3.size
 have hM4:Mod (fun k=>k=bh) w w4:=(hm2.trans hm3 (fun _ _ h=>h.elim)).trans hm4 (fun _ _ h=>h)
 have hs4:Sl false w4 (fun g=>w.heap.size<=g) 1 ByteC v3 m:=((hs3.keepB hm4 (fun k hk=>by have:=hk.1;omega)).mono (G':=fun g=>w.heap.size<=g) (fun k hk=>Nat.le_trans hw2 hk.1) (fun _ _ h=>h)).weak
 clear hB2 hs3 hm2 hm3 hm4 hg3 hv3 ho3 hsrc hall hcs hbS2 hbS hc10 hrow;go_wp2
 go_loopw [] (WRel w bh m) (fun w'=>restN w' bh)
 case atStart=>exact⟨0,v3,by omega,hB4,hs4,hM4⟩
 case round=>
  rename World=>wr
  clear hB4 hs4 hM4;obtain⟨k,rest,hk,hrow,hsl,hM⟩:=hrel;obtain⟨r,hr⟩:∃r,m.drop (64*k)=r:=⟨_,rfl⟩
  have hrl:r.length=m.length-64*k:=by rw[<-hr,List.length_drop]
  rw[hr]at hsl;have hslH:=hid hsl;obtain⟨ad2,cap2,rfl,hle2,hmx2,-⟩:=hsl;have hrowH:=hid hrow
  have hc8:wr.cell? ⟨bh,8,none⟩=some (.slice ad2 r.length cap2):=by rw[cell_of_row _ _ _ _ _ _ hrow];rfl
  by_cases hlt:64<=r.length
  ·have hz:(64:Int)<=(r.length:Int):=by omega
   go_upto_region 6 with(fail);have hS:Mod (fun k=>k=bh) wr wr.drew/\wr.drew.cell? ⟨bh,8,none⟩=some (.slice ad2 r.length cap2):=⟨(Mod.refl _ _).drew,hc8⟩
   refine wpRZ [3,3,3,3,3,3,0,3,1] [] (fun w'=>Mod (fun k=>k=bh) wr w'/\w'.cell? ⟨bh,8,none⟩=some (.slice ad2 r.length cap2)) hS ?_;simp only[stz]
   refine wpLd 53 bh 8 (fun w' hS=>hS.2) underlying53 ?_;simp only[nmz];refine yK 53 5 _ _ _ _ _ 64 1 rfl rfl rfl rfl underlying53 (by kernel_rfl) (by omega) ?_
   simp only[nmz];refine qM rfl (fun K hK=>?_)
   refine wpC func227 (block_any ((hslH.out.keep0 (Mod.refl NoB wr).drew).fst 64 hlt) (by rw[List.length_take];omega) bh 0 _ _ (zY k shaBegin m) (show wr.drew.heap[bh]?=_ from hrowH.out) (by simp[yN]) (fun j hj=>hashRow_at _ _ _ j hj)) ?_
   rintro e w5 ⟨rfl,hB5,hm5⟩;rw[hashRow_put]at hB5
   have hS5:Mod (fun k=>k=bh) wr w5:=(show Mod (fun k=>k=bh) wr wr.drew from(Mod.refl _ _).drew).trans hm5 (fun _ _ h=>h)
   refine⟨_,rfl,hK _ _ ⟨hS5,by rw[cell_of_row _ _ _ _ _ _ hB5];rfl⟩ ?_⟩;clear hK K;simp only[stz];clear hS hm5;go_upto_region 7 with(fail)
   refine wpR [3,3,3,3,1,3,3,3,1] ?_;simp only[stz]
   refine wpXd (v:=(.slice ad2 r.length cap2)) 53 bh 8 (by rw[cell_of_row _ _ _ _ _ _ hB5];rfl) underlying53 trivial ?_;try simp only[nmz]
   refine yA 53 5 _ _ _ _ _ 64 1 rfl rfl rfl rfl underlying53 (by kernel_rfl) hlt ?_;simp only[stz]
   refine wpD (qT 53 _ _ bh 8 (sliced ad2 64 r.length cap2 1) (by rfl) (by rfl) (by rfl) rfl (by kernel_rfl) _ _ hB5 (by simp[yN]) (fun w6 hB6 hm6=>?_))
   replace hB6:w6.heap[bh]?=some (.cells (yN (blockL (zY k shaBegin m) (r.take 64)) (sliced ad2 64 r.length cap2 1) m.length) 331 (0,0)):=hB6;simp only[stz]
   have hS6:Mod (fun k=>k=bh) wr w6:=hS5.trans hm6 (fun _ _ h=>h);have hM6:Mod (fun k=>k=bh) w w6:=hM.trans hS6 (fun _ _ h=>h)
   have hsl6:=(hslH.out.cut 64 hlt).keepB hS6 (fun k hk=>by have hk':w.heap.size<=k:=hk;omega);have hrest:restN w6 bh=r.length-64:=restN_of hB6
   have hrest0:restN wr bh=r.length:=restN_of hrowH.out;have hd:r.drop 64=m.drop (64*(k+1)):=by rw[<-hr,List.drop_drop];congr 1
   have hblk:blockL (zY k shaBegin m) (r.take 64)=zY (k+1) shaBegin m:=by rw[blocksL_add,hr];rfl
   rw[hblk]at hB6;rw[hd]at hsl6;have HW6:Hid (WRel w bh m w6):=⟨k+1,_,by omega,hB6,hsl6,hM6⟩;have HME:Hid (restN w6 bh<restN wr bh):=by unfold Hid;omega
   clear hB5 hB6 hsl6 hM6 hS6 hm6 hrest hrest0 hS5 hblk hd;go_wp2
   go_roundw
   case rel=>exact HW6.out
   case measure=>exact HME.out
  ·have hz:¬(64:Int)<=(r.length:Int):=by omega
   go_wp2;go_ret;have hkk:m.length/64=k:=by omega
   exact⟨rfl,_,by rw[hkk];exact hrowH.out,by rw[hkk,hr];exact hslH.out,hM⟩
section
variable{P:Program}{w:World}{o:Oper}{a:Act}
theorem exec_mul64(t:TypeId)(x y:Operand)(yt:TypeId)(m n d:Nat)(ho:o.op=.binOp .mul t x y yt)(hx:a.eval x=.int .u64 (m:Int))(hy:a.eval y=.int .u64 (n:Int))(hd:m*n=d)(hv:d<18446744073709551616):(execOp a.eval o).run P w=.ok (.value (.int .u64 (d:Int))) w:=by
 subst hd
 have h1:IntKind.u64.wrap ((m:Int)*(n:Int))=((m*n:Nat):Int):=by
  rw[<-Int.natCast_mul]
  simp[IntKind.wrap,IntKind.bits,IntKind.signed];omega
 unfold execOp;simp only[ho,hx,hy]
 go_simp
 try exact h1
theorem exec_shr64(t:TypeId)(x y:Operand)(yt:TypeId)(m:Nat)(k:IntKind)(n:Nat)(ho:o.op=.binOp .shr t x y yt)(hx:a.eval x=.int .u64 (m:Int))(hy:a.eval y=.int k (n:Int))(hn:n<=63)(hm:m<18446744073709551616):(execOp a.eval o).run P w=.ok (.value (.int .u64 ((m/2^n:Nat):Int))) w:=by
 have h1:(0:Int)<=(m:Int)/2^n:=Int.ediv_nonneg (by omega) (Int.le_of_lt (Int.pow_pos (by omega)))
 have h2:(m:Int)/2^n<=(m:Int):=Int.ediv_le_self _ (by omega);have h3:((m/2^n:Nat):Int)=(m:Int)/2^n:=by simp
 rw[h3];unfold execOp;simp only[ho,hx,hy]
 go_simp
 all_goals (try rw[Int.emod_eq_of_lt h1 (by omega)])
theorem exec_byte_of_u64(t u:TypeId)(x:Operand)(m:Nat)(ho:o.op=.convert t u x)(hx:a.eval x=.int .u64 (m:Int))(ht:(P.underlying t).isSome=true)(hu:P.underlying u=some (.int .u8)):
 (execOp a.eval o).run P w=.ok (.value (byteV (UInt8.ofNat m))) w:=by
 unfold execOp;simp only[ho,hx];have hk:P.intKind u=.u8:=by simp[Program.intKind,hu]
 have h1:=run_convert_int (P:=P) w t u .u64 (m:Int) ht (by rw[hk];exact hu);rw[hk]at h1
 have h2:IntKind.u8.wrap (m:Int)=((UInt8.ofNat m).toNat:Int):=by
  rw[IntKind.wrap_u8']
  simp
 rw[h2]at h1;rw[Sem.run_bind,h1]
 rfl
end
theorem zV{S:Nat->Prop}{w w':World}{base e size k:Nat}{v:Value}{xs:List Value}(h:w.ownsRow base e size v k xs)(hm:Mod S w w')(hS:∀k,v.ownBlock=some k->¬S k):w'.ownsRow base e size v k xs:=by
 refine⟨h.1,?_⟩
 rcases h.2 with h|⟨g,cap,cur,rfl,hb,hg,r⟩
 ·exact .inl h
 ·exact .inr ⟨g,cap,cur,rfl,hb,hm.obj (hS g rfl) hg,r⟩
def Bts(base:Nat)(w:World)(v:Value)(xs:List UInt8):Prop:=w.ownsRow base 5 1 v xs.length (xs.map byteV)
theorem bytes_flat(xs:List UInt8):xs.map byteV=(xs.map fun x=>#[byteV x]).flatMap Array.toList:=by
 induction xs with
 |nil=>rfl
 |cons x xs ih=>rw[List.map_cons,List.map_cons,List.flatMap_cons,ih];rfl
theorem Bts.sl{base:Nat}{w:World}{v:Value}{xs:List UInt8}(h:Bts base w v xs):Sl true w (fun k=>base<=k/\k<w.heap.size/\v.ownBlock=some k) 1 ByteC v xs:=
 Sl.of_owns h (bytes_flat xs) (fun c hc=>by obtain⟨x,_,rfl⟩:=List.mem_map.1 hc;rfl) ⟨by simp,fun i h1 h2=>by simp[ByteC]⟩ rfl
theorem bytes_of_all{css:List (Array Value)}{l:List UInt8}(h:All2 ByteC css l):css.flatMap Array.toList=l.map byteV:=by
 have:css=l.map fun x=>#[byteV x]:=by
  apply List.ext_getElem
  ·simp[h.1]
  ·intro i h1 h2
   have:=h.2 i h1 (by rw[<-h.1];exact h1);rw[this];simp
 rw[this,bytes_flat]
theorem Sl.bsrc{own:Bool}{w:World}{G:Nat->Prop}{v:Value}{l:List UInt8}(h:Sl own w G 1 ByteC v l):Src w 1 v l.length (l.map byteV):=by
 obtain⟨css,h1,_,h2⟩:=h.src (by omega)
 rwa[bytes_of_all h1]at h2
theorem bytes_one(xs:List UInt8):∀c∈xs.map byteV,c.oneCell'=true:=by
 intro c hc;obtain⟨x,_,rfl⟩:=List.mem_map.1 hc
 rfl
theorem owns_lit{w:World}{b:Nat}{x:UInt8}(h:w.heap[b]?=some (.cells #[byteV x] 5 (0,0))):w.ownsRow b 5 1 (.slice (some ⟨b,0,none⟩) 1 1) 1 [byteV x]:=
 ⟨rfl,.inr ⟨b,1,#[byteV x],rfl,Nat.le_refl _,h,by omega,by unfold maxLen;omega,rfl,rfl⟩⟩
theorem xV{o:Oper}{a:Act}{w:World}{K:Act->World->Prop}{Q:Exit->Act->World->Prop}(s x:Operand)(ho:o.op=.call { callee:=.builtin .append,args:=#[s,x],argTypes:=#[53,53] })
 (base:Nat)(v:Value)(xs:List UInt8)(hs:a.eval s=v)(hown:Bts base w v xs)(u:Value)(ys:List UInt8)(hx:a.eval x=u)(hsrc:Src w 1 u ys.length (ys.map byteV))(hlen:xs.length+ys.length<=140737488355328)(hbase:base<=w.heap.size)
 (h:∀v' w',Bts base w' v' (xs++ys)->Mod (fun k=>v.ownBlock=some k) w w'->K (a.put o.dst v') w'):o.wp prog a w K Q:=by
 refine wp_append s x 53 5 (.int .u8 0) 1 1 ho underlying53 byte_i (by kernel_rfl) (by omega) base v xs.length _ hs hown u ys.length _ hx hsrc (bytes_one ys) (by unfold maxLen;omega) (by omega) hbase (fun v' w' ho' hg hv=>?_)
 refine h v' w' ?_ ((Mod.refl _ _).grown hg (fun k e _=>e));unfold Bts;rw[List.length_append,List.map_append];exact ho'
theorem Bts.lt{base:Nat}{w:World}{v:Value}{xs:List UInt8}(h:Bts base w v xs){k:Nat}(e:v.ownBlock=some k):base<=k/\k<w.heap.size:=World.ownsRow.lt h k e
theorem Bts.keep{S:Nat->Prop}{base:Nat}{w w':World}{v:Value}{xs:List UInt8}(h:Bts base w v xs)(hm:Mod S w w')(hn:∀k,v.ownBlock=some k->¬S k):Bts base w' v xs:=zV h hm hn
def CloneR(w:World)(m:List UInt8):Ending->World->Prop:=fun e w'=>∃v,e=.returned v/\Bts w.heap.size w' v m/\Mod NoB w w'
theorem bytesClone_any{own:Bool}{G:Nat->Prop}{v:Value}{m:List UInt8}{w:World}(hb:Sl own w G 1 ByteC v m)(hl:m.length<=140737488355328):Calls prog 93 #[v] w (CloneR w m):=by
 have hbS:=hid hb;obtain⟨ad,cap,rfl,hle,hmx,hne⟩:=hb
 cases ad with
 |none=>
  have hm:m=[]:=by
   cases m with
   |nil=>rfl
   |cons x m=>obtain⟨b,off,h,_⟩:=hne (by simp);cases h
  subst hm;clear hne;rw[List.length_nil];have heq:=fun w=>Lib.run_eql_slice_nil (P:=prog) w 53 5 none 0 cap 0 0 underlying53;go_enter func93,ntmps93;go_wp2;go_ret
  exact⟨_,rfl,⟨rfl,.inl ⟨rfl,rfl⟩⟩,Mod.refl _ _⟩
 |some q=>
  clear hne;have heq:=fun w=>Lib.run_eql_slice_nil (P:=prog) w 53 5 (some q) m.length cap 0 0 underlying53;go_enter func93,ntmps93;go_upto_region 3 with(fail)
  refine wpR [1,3,1,3] ?_;simp only[stz];refine wpD (zG 53 5 (by rfl) underlying53 (by kernel_rfl) (fun w1 hB1 hm1 hs1=>?_));simp only[stz]
  refine wpD (xV _ _ (by rfl) w.heap.size _ [] (by rfl) (xH _ hB1 (Nat.le_refl _)) _ m (by rfl) (hbS.out.keep0 hm1).bsrc (by simpa using hl) hm1.size (fun v' w2 ho2 hm2=>?_))
  rw[List.nil_append]at ho2;simp only[stz];go_wp2;go_ret
  exact⟨_,rfl,ho2,hm1.trans hm2 (fun k hk e=>by
   have e':some w.heap.size=some k:=e
   cases e';omega)⟩
end
section
open Go.RowKit Go.Shelf Go.Proofs.Tryz Go.Lib
end
section
open Go.RowKit Go.Proofs.Tryz Go.Lib
end
section
open Go.RowKit Go.Shelf Go.Sort Go.Proofs.Tryz Go.Lib
section
variable{α:Type}[Inhabited α]{enc:α->List Value}{k:Nat}
theorem flat_enc(hk:∀x,(enc x).length=k):∀(l:List α)(i:Nat)(hi:i<l.length)(j:Nat),j<k->(l.flatMap enc)[i*k+j]?=(enc l[i])[j]?
 |x::l,0,_,j,hj=>by
  simp only[List.flatMap_cons,Nat.zero_mul,Nat.zero_add,List.getElem_cons_zero];rw[List.getElem?_append_left (by rw[hk];exact hj)]
 |x::l,i+1,hi,j,hj=>by
  simp only[List.flatMap_cons,List.getElem_cons_succ]
  rw[List.getElem?_append_right (by rw[hk,Nat.succ_mul];omega),hk,show(i+1)*k+j-k=i*k+j by rw[Nat.succ_mul];omega]
  exact flat_enc hk l i (by simpa using hi) j hj
theorem len_enc(hk:∀x,(enc x).length=k):∀(l:List α),(l.flatMap enc).length=l.length*k
 | []=>by simp
 |x::l=>by simp[len_enc hk l,hk,Nat.add_mul];omega
theorem holdsK_of_cells(hk:∀x,(enc x).length=k)(h0:0<k){w:World}{g e:Nat}{cur:Array Value}{l:List α}(h:w.heap[g]?=some (.cells cur e (0,0)))(ht:cur.toList.take (l.length*k)=l.flatMap enc):HoldsK enc k w g 0 l.toArray:=by
 intro t ht';have hlt:t<l.length*k:=by simpa using ht'
 have hi:t/k<l.length:=Nat.div_lt_of_lt_mul (by rw[Nat.mul_comm];exact hlt);have hm:t%k<k:=Nat.mod_lt _ h0
 have e0:t/k*k+t%k=t:=by rw[Nat.mul_comm];exact Nat.div_add_mod t k
 have h1:=flat_enc hk l (t/k) hi (t%k) hm;rw[e0,<-ht,List.getElem?_take_of_lt hlt]at h1
 have h2:(flatK enc k l.toArray)[t]! =(enc l[t/k])[t%k]'(by rw[hk];exact hm):=by
  rw[get_flatK _ _ _ _ (by simpa using hlt)];have:l.toArray[t/k]! =l[t/k]:=by simp[hi]
  rw[this];exact getElem!_pos _ _ (by rw[hk];exact hm)
 refine⟨?_,by simp[World.frozen?,h]⟩;rw[Nat.zero_add,cell_of_row w g _ cur e (0,0) h,h2];rw[Array.getElem?_toList]at h1;rw[h1];exact List.getElem?_eq_getElem _
theorem mod_sortWorldK{w:World}{blk off n:Nat}{d:Array α}{os:Array Obj}:Mod (fun j=>j=blk) w (sortWorldK enc k w blk off n d os):=by
 have hs:(mapBlock (Sort.ahead w n) blk (putCells id off (flatK enc k d))).heap.size=w.heap.size:=by simp[mapBlock,Sort.ahead]
 refine⟨rfl,rfl,rfl,?_,fun j hj hne=>?_⟩
 ·show w.heap.size<=((mapBlock (Sort.ahead w n) blk (putCells id off (flatK enc k d))).heap++os).size
  rw[Array.size_append,hs];omega
 ·show((mapBlock (Sort.ahead w n) blk (putCells id off (flatK enc k d))).heap++os)[j]?=_
  rw[Array.getElem?_append_left (by rw[hs];exact hj)]
  show((Sort.ahead w n).heap.modify blk _)[j]?=_
  rw[Array.getElem?_modify,if_neg (fun e=>hne e.symm)]
  rfl
end
theorem ltB_tri(a b:List UInt8):a<b\/a=b\/b<a:=by
 rcases List.le_total a b with h|h
 ·rcases List.le_iff_lt_or_eq.1 h with h|h
  ·exact .inl h
  ·exact .inr (.inl h)
 ·rcases List.le_iff_lt_or_eq.1 h with h|h
  ·exact .inr (.inr h)
  ·exact .inr (.inl h.symm)
theorem ltB_trans{a b c:List UInt8}(h:a<b)(k:b<c):a<c:=by
 rcases ltB_tri a c with h1|h1|h1
 ·exact h1
 ·subst h1;exact absurd h (List.lt_asymm k)
 ·have h2:c<=a:=List.le_of_lt h1
  have h3:a<=b:=List.le_of_lt h;have h4:c<=b:=List.le_trans h2 h3;exact absurd k (List.not_lt.2 h4)
theorem swo_of{α:Type}{cf:α->α->Int}{lt:α->α->Prop}(hc:∀a b,cf a b<0↔lt a b)(hi:∀a,¬lt a a)(ht:∀{a b c},lt a b->lt b c->lt a c)(htri:∀a b,lt a b\/a=b\/lt b a):SWO (ltOf cf):=by
 refine⟨fun x=>?_,fun x y z h k=>?_,fun x y z h k=>?_⟩
 ·simp[ltOf,hc];exact hi x
 ·simp only[ltOf,decide_eq_true_eq,hc]at*;exact ht h k
 ·simp only[ltOf,decide_eq_false_iff_not,hc]at*
  intro hxz
  rcases htri x y with h1|h1|h1
  ·exact h h1
  ·subst h1;exact k hxz
  ·exact k (ht h1 hxz)
end
section
open Go.Shelf Go.Proofs.Tryz Go.Lib
def sortI_ren:Go.Shelf.Ren:=⟨fun|6=>215|15=>234|14=>247|28=>271|29=>272|20=>285|21=>286|22=>287|23=>288|24=>289|25=>290|26=>291|27=>292|46=>314|47=>304|48=>305|49=>315|50=>316|57=>321|n=>n,fun|22=>25|24=>24|25=>58|3=>3|39=>337|0=>0|53=>301|55=>300|4=>4|46=>362|45=>361|50=>164|5=>5|9=>9|66=>390|70=>394|76=>406|77=>407|n=>n,fun|n=>n⟩
theorem sortI:Go.Proofs.SlLaysF0.n6 prog sortI_ren:={
 mixed:=by kernel_rfl
 f6:=⟨f215.name,by decide,func215.trans (congrArg some (by kernel_rfl))⟩
 f14:=⟨f247.name,by decide,func247.trans (congrArg some (by kernel_rfl))⟩
 f15:=func234.trans (congrArg some (by kernel_rfl))
 f20:=⟨f285.name,by decide,func285.trans (congrArg some (by kernel_rfl))⟩
 f21:=⟨f286.name,by decide,func286.trans (congrArg some (by kernel_rfl))⟩
 f22:=⟨f287.name,by decide,func287.trans (congrArg some (by kernel_rfl))⟩
 f23:=⟨f288.name,by decide,func288.trans (congrArg some (by kernel_rfl))⟩
 f24:=⟨f289.name,by decide,func289.trans (congrArg some (by kernel_rfl))⟩
 f25:=⟨f290.name,by decide,func290.trans (congrArg some (by kernel_rfl))⟩
 f26:=⟨f291.name,by decide,func291.trans (congrArg some (by kernel_rfl))⟩
 f27:=⟨f292.name,by decide,func292.trans (congrArg some (by kernel_rfl))⟩
 f28:=func271.trans (congrArg some (by kernel_rfl))
 f29:=func272.trans (congrArg some (by kernel_rfl))
 f46:=⟨f314.name,by decide,func314.trans (congrArg some (by kernel_rfl))⟩
 f47:=func304.trans (congrArg some (by kernel_rfl))
 f48:=func305.trans (congrArg some (by kernel_rfl))
 f49:=⟨f315.name,by decide,func315.trans (congrArg some (by kernel_rfl))⟩
 f50:=⟨f316.name,by decide,func316.trans (congrArg some (by kernel_rfl))⟩
 f57:=⟨f321.name,by decide,func321.trans (congrArg some (by kernel_rfl))⟩
 t0:=underlying0
 a0:=isAgg0
 z0:=sizeOf0
 v0:=zeroValue0
 t3:=underlying3
 a3:=isAgg3
 z3:=sizeOf3
 v3:=zeroValue3
 t4:=underlying4
 a4:=isAgg4
 z4:=sizeOf4
 v4:=zeroValue4
 t5:=underlying5
 a5:=isAgg5
 z5:=sizeOf5
 v5:=zeroValue5
 t9:=underlying9
 a9:=isAgg9
 z9:=sizeOf9
 v9:=zeroValue9
 t22:=underlying25
 a22:=isAgg25
 z22:=sizeOf25
 v22:=zeroValue25
 t25:=underlying58
 a25:=isAgg58
 z25:=sizeOf58
 v25:=zeroValue58
 t39:=underlying337
 a39:=isAgg337
 z39:=sizeOf337
 v39:=zeroValue337
 t45:=underlying361
 a45:=isAgg361
 z45:=sizeOf361
 v45:=zeroValue361
 t46:=underlying362
 a46:=isAgg362
 z46:=sizeOf362
 v46:=zeroValue362
 t50:=underlying164
 a50:=isAgg164
 z50:=sizeOf164
 v50:=zeroValue164
 t53:=underlying301
 a53:=isAgg301
 z53:=sizeOf301
 v53:=zeroValue301
 t55:=underlying300
 a55:=isAgg300
 z55:=sizeOf300
 v55:=zeroValue300
 t66:=underlying390
 a66:=isAgg390
 z66:=sizeOf390
 v66:=zeroValue390
 t70:=underlying394
 a70:=isAgg394
 z70:=sizeOf394
 v70:=zeroValue394
 t76:=underlying406
 a76:=isAgg406
 z76:=sizeOf406
 v76:=zeroValue406
 t77:=underlying407
 a77:=isAgg407
 z77:=sizeOf407
 v77:=zeroValue407 }
end
section
open Go.RowKit Go.Shelf Go.Sort Go.Proofs.Tryz Go.Lib
end
section
open Go.RowKit Go.Shelf Go.Proofs.Tryz Go.Lib
theorem id_i:(prog.info? 24).map (fun i=>(i.zero,i.size,i.bytes))=some (some (.agg (qA (List.replicate 32 0))),32,32):=by kernel_rfl
def idL(x:List UInt8):List Value:=(qA x).toList
theorem idL_len{x:List UInt8}(h:x.length=32):(idL x).length=32:=by simp[idL,qD,h]
theorem idL_one(x:List UInt8):∀c∈idL x,c.oneCell'=true:=fun c hc=>qR x c (by simpa[idL]using hc)
section
variable{w:World}{bl ml mu:Nat}{limit:Int}{hold:Value}{l:LinkL}{us:List (ByteArray×Nat)}
end
end
section
open Go.RowKit Go.Shelf Go.Sort Go.Proofs.Tryz Go.Lib
section
variable{α:Type}{enc:α->List Value}{e k:Nat}
def Gat(enc:α->List Value)(e:TypeId)(k base:Nat)(w:World)(v:Value)(l:List α):Prop:=w.ownsRow base e k v l.length (l.flatMap enc)
theorem Gat.lt{base:Nat}{w:World}{v:Value}{l:List α}(h:Gat enc e k base w v l){q:Nat}(hq:v.ownBlock=some q):base<=q/\q<w.heap.size:=World.ownsRow.lt h q hq
theorem Gat.keep{S:Nat->Prop}{base:Nat}{w w':World}{v:Value}{l:List α}(h:Gat enc e k base w v l)(hm:Mod S w w')(hn:∀q,v.ownBlock=some q->¬S q):Gat enc e k base w' v l:=zV h hm hn
theorem Gat.keep0{base:Nat}{w w':World}{v:Value}{l:List α}(h:Gat enc e k base w v l)(hm:Mod NoB w w'):Gat enc e k base w' v l:=h.keep hm (fun _ _=>id)
theorem Gat.base{base b':Nat}{w:World}{v:Value}{l:List α}(h:Gat enc e k base w v l)(hb:b'<=base):Gat enc e k b' w v l:=yW h hb
theorem Gat.slice{base:Nat}{w:World}{v:Value}{l:List α}(h:Gat enc e k base w v l):∃ad cap,v=.slice ad l.length cap:=by
 rcases h.2 with⟨rfl,h0⟩|⟨g,cap,cur,rfl,-⟩
 ·exact⟨none,0,by rw[h0]⟩
 ·exact⟨_,_,rfl⟩
theorem Gat.nil(enc:α->List Value)(e k base:Nat)(w:World):Gat enc e k base w (.slice none 0 0) []:=⟨by simp,.inl ⟨rfl,rfl⟩⟩
theorem Gat.sl{base:Nat}{w:World}{v:Value}{l:List α}(h:Gat enc e k base w v l)(hk:∀x,(enc x).length=k):Sl true w (fun q=>base<=q/\q<w.heap.size/\v.ownBlock=some q) k (fun cs x=>cs=(enc x).toArray) v l:=by
 refine Sl.of_owns (css:=l.map fun x=>(enc x).toArray) h ?_ ?_ ⟨by simp,fun i h1 h2=>by simp⟩ rfl
 ·rw[List.flatMap_map]
 ·intro c hc
  obtain⟨x,_,rfl⟩:=List.mem_map.1 hc
  simp[hk]
theorem jM(hk:∀x,(enc x).length=k){w:World}{b:Nat}{x:α}(h:w.heap[b]?=some (.cells (enc x).toArray e (0,0))):Src w k (.slice (some ⟨b,0,none⟩) 1 1) 1 ([x].flatMap enc):=by
 refine⟨by simp[hk],_,_,rfl,fun _=>⟨b,0,rfl,fun j y hj=>?_⟩⟩;have hc:=CellsAt.whole h;exact hc.cell (j:=j) (by simpa using hj)
theorem Gat.src{base:Nat}{w:World}{v:Value}{l:List α}(h:Gat enc e k base w v l):Src w k v l.length (l.flatMap enc):=jD h
theorem wp_gat{P:Program}{o:Oper}{a:Act}{w:World}{K:Act->World->Prop}{Q:Exit->Act->World->Prop}(enc:α->List Value)(s x:Operand)(t e:TypeId)(z:Value)(k bytes:Nat)(ho:o.op=.call { callee:=.builtin .append,args:=#[s,x],argTypes:=#[t,t] })
 (ht:P.underlying t=some (.slice e))(hi:(P.info? e).map (fun i=>(i.zero,i.size,i.bytes))=some (some z,k,bytes))(hzs:z.cells.size=k)(hk0:0<k)(h1:∀x,∀c∈enc x,c.oneCell'=true)
 (base:Nat)(v:Value)(l:List α)(hs:a.eval s=v)(hown:Gat enc e k base w v l)(u:Value)(m:List α)(hx:a.eval x=u)(hsrc:Src w k u m.length (m.flatMap enc))(h63:l.length+m.length<=maxLen)(hlen:(l.length+m.length)*bytes<=140737488355328)(hbase:base<=w.heap.size)
 (h:∀v' w',Gat enc e k base w' v' (l++m)->Mod (fun q=>v.ownBlock=some q) w w'->K (a.put o.dst v') w'):o.wp P a w K Q:=by
 refine wp_append s x t e z k bytes ho ht hi hzs hk0 base v l.length _ hs hown u m.length _ hx hsrc (fun c hc=>?_) h63 hlen hbase (fun v' w' ho' hg hv=>?_)
 ·obtain⟨y,_,hy⟩:=List.mem_flatMap.1 hc
  exact h1 y c hy
 ·refine h v' w' ?_ ((Mod.refl _ _).grown hg (fun k e _=>e))
  unfold Gat;rw[List.length_append,List.flatMap_append];exact ho'
end
end
section
open Go.Proofs.Tryz Go.Lib
section
variable{α:Type}[Inhabited α]
def atD(l:List α)(k:Nat):α:=l.getD k default
def swp(l:List α)(i j:Nat):List α:=(l.set i (atD l j)).set j (atD l i)
theorem swp_len(l:List α)(i j:Nat):(swp l i j).length=l.length:=by simp[swp]
theorem at_lt{l:List α}{k:Nat}(h:k<l.length):atD l k=l[k]:=by simp[atD,List.getD,h]
theorem swp_at{l:List α}{i j:Nat}(hi:i<l.length)(hj:j<l.length)(k:Nat):atD (swp l i j) k=if k=j then atD l i else if k=i then atD l j else atD l k:=by
 unfold swp;simp only[atD,List.getD,List.getElem?_set,List.length_set]
 by_cases h1:k=j
 ·subst h1;simp[hj]
 ·by_cases h2:k=i
  ·subst h2;simp[h1,Ne.symm h1,hi]
  ·simp[h1,h2,Ne.symm h1,Ne.symm h2]
theorem swp_perm{l:List α}{i j:Nat}(hi:i<l.length)(hj:j<l.length):(swp l i j).Perm l:=by
 have h:=Array.swap_perm (xs:=l.toArray) (i:=i) (j:=j) (by simpa using hi) (by simpa using hj);have h2:=Array.perm_iff_toList_perm.1 h
 have e:(l.toArray.swap i j (by simpa using hi) (by simpa using hj)).toList=swp l i j:=by
  simp[Array.swap,swp,atD,List.getD,hi,hj]
 rwa[e]at h2
variable{le:α->α->Prop}(hr:∀a,le a a)(ht:∀{a b c},le a b->le b c->le a c)
def par(i:Nat):Nat:=(i-1)/2
theorem par_lt{i:Nat}(h:0<i):par i<i:=by unfold par;omega
theorem par_of{i k:Nat}(h:par k=i)(hk:0<k):k=2*i+1\/k=2*i+2:=by unfold par at h;omega
def Heap(le:α->α->Prop)(l:List α)(n:Nat):Prop:=∀i,0<i->i<n->le (atD l (par i)) (atD l i)
def UpI(le:α->α->Prop)(l:List α)(n j:Nat):Prop:=
 (∀i,0<i->i<n->i≠j->le (atD l (par i)) (atD l i))/\(0<j->∀i,0<i->i<n->par i=j->le (atD l (par j)) (atD l i))
def DownI(le:α->α->Prop)(l:List α)(n j:Nat):Prop:=
 (∀i,0<i->i<n->par i≠j->le (atD l (par i)) (atD l i))/\(0<j->∀i,0<i->i<n->par i=j->le (atD l (par j)) (atD l i))
theorem UpI.done{l:List α}{n j:Nat}(h:UpI le l n j)(hj:j=0\/le (atD l (par j)) (atD l j)):Heap le l n:=fun i h0 hn=>by
 by_cases e:i=j
 ·subst e
  rcases hj with hj|hj
  ·omega
  ·exact hj
 ·exact h.1 i h0 hn e
theorem UpI.snoc{l:List α}{x:α}(h:Heap le l l.length):UpI le (l++[x]) (l.length+1) l.length:=by
 have e:∀k,k<l.length->atD (l++[x]) k=atD l k:=fun k hk=>by simp[atD,List.getD,List.getElem?_append_left hk]
 refine⟨fun i h0 hn hi=>?_,fun h0 i hi hn hp=>?_⟩
 ·rw[e i (by omega),e (par i) (by have:=par_lt h0;omega)]
  exact h i h0 (by omega)
 ·have:=par_of hp hi;omega
include ht in
theorem UpI.step{l:List α}{n j:Nat}(h:UpI le l n j)(hl:n<=l.length)(hj:j<n)(h0:0<j)(hle:le (atD l j) (atD l (par j))):UpI le (swp l (par j) j) n (par j):=by
 have hp:=par_lt h0;have A:=fun k=>swp_at (l:=l) (i:=par j) (j:=j) (by omega) (by omega) k;refine⟨fun i hi hn hne=>?_,fun hpp i hi hn hpi=>?_⟩
 ·rw[A i,A (par i)]
  by_cases h1:i=j
  ·subst h1
   rw[if_pos rfl,if_neg (by omega),if_pos rfl];exact hle
  ·rw[if_neg h1,if_neg hne]
   by_cases h2:par i=j
   ·rw[if_pos h2]
    exact h.2 h0 i hi hn h2
   ·rw[if_neg h2]
    by_cases h3:par i=par j
    ·rw[if_pos h3]
     have:=h.1 i hi hn h1;rw[h3]at this;exact ht hle this
    ·rw[if_neg h3]
     exact h.1 i hi hn h1
 ·have hq:=par_lt hpp
  rw[A i,A (par (par j))];rw[if_neg (by omega),if_neg (by omega)];have h1:=h.1 (par j) hpp (by omega) (by omega)
  by_cases e:i=j
  ·rw[if_pos e];exact h1
  ·rw[if_neg e,if_neg (by have:=par_lt hi;omega)]
   have h2:=h.1 i hi hn e;rw[hpi]at h2;exact ht h1 h2
theorem DownI.start{l:List α}{n:Nat}(h:Heap le l (n+1))(hl:n<l.length):DownI le (swp l 0 n) n 0:=by
 have A:=fun k=>swp_at (l:=l) (i:=0) (j:=n) (by omega) (by omega) k;refine⟨fun i h0 hn hp=>?_,fun h0=>by omega⟩;have:=par_lt h0
 rw[A i,A (par i),if_neg (show ¬i=n by omega),if_neg (show ¬i=0 by omega),if_neg (show ¬par i=n by omega),if_neg hp];exact h i h0 (by omega)
theorem DownI.leaf{l:List α}{n j:Nat}(h:DownI le l n j)(hn:n<=2*j+1):Heap le l n:=fun i h0 hi=>h.1 i h0 hi (fun e=>by have:=par_of e h0;omega)
include ht in
theorem DownI.stop{l:List α}{n j c:Nat}(h:DownI le l n j)(hle:le (atD l j) (atD l c))(hc:∀k,0<k->k<n->par k=j->le (atD l c) (atD l k)):Heap le l n:=fun i h0 hi=>by
 by_cases e:par i=j
 ·rw[e];exact ht hle (hc i h0 hi e)
 ·exact h.1 i h0 hi e
theorem DownI.step{l:List α}{n j c:Nat}(h:DownI le l n j)(hl:n<=l.length)(hcn:c<n)(hc0:0<c)(hcp:par c=j)(hle:le (atD l c) (atD l j))(hc:∀k,0<k->k<n->par k=j->le (atD l c) (atD l k)):DownI le (swp l j c) n c:=by
 have hjc:=par_lt hc0;rw[hcp]at hjc;have A:=fun k=>swp_at (l:=l) (i:=j) (j:=c) (by omega) (by omega) k;refine⟨fun i hi hn hne=>?_,fun _ i hi hn hpi=>?_⟩
 ·rw[A i,A (par i),if_neg hne]
  by_cases h1:i=c
  ·rw[if_pos h1,if_pos (by rw[h1];exact hcp)]
   exact hle
  ·rw[if_neg h1]
   by_cases h2:par i=j
   ·rw[if_pos h2,if_neg (by have:=par_lt hi;omega)]
    exact hc i hi hn h2
   ·rw[if_neg h2]
    by_cases h3:i=j
    ·subst h3
     rw[if_pos rfl];exact h.2 hi c hc0 hcn hcp
    ·rw[if_neg h3]
     exact h.1 i hi hn h2
 ·have:=par_lt hi
  rw[A i,A (par c),hcp,if_neg (by omega),if_pos rfl,if_neg (by omega),if_neg (by omega)];have:=h.1 i hi hn (by omega)
  rwa[hpi]at this
include hr ht in
theorem Heap.top{l:List α}{n:Nat}(h:Heap le l n):∀k,k<n->le (atD l 0) (atD l k):=fun k=>by
 induction k using Nat.strongRecOn with
 |ind k ih=>
  intro hk
  by_cases h0:k=0
  ·subst h0;exact hr _
  ·have hp:=par_lt (i:=k) (by omega)
   exact ht (ih _ hp (by omega)) (h k (by omega) hk)
theorem Heap.take{l:List α}{n:Nat}(h:Heap le l n):Heap le (l.take n) n:=fun i h0 hi=>by
 have e:∀k,k<n->atD (l.take n) k=atD l k:=fun k hk=>by simp[atD,List.getD,List.getElem?_take_of_lt hk]
 rw[e i hi,e (par i) (by have:=par_lt h0;omega)];exact h i h0 hi
end
def leB(a b:List UInt8):Prop:=¬b<a
theorem leB_refl(a:List UInt8):leB a a:=fun h=>by
 have:=List.lt_irrefl a;exact this h
theorem leB_trans{a b c:List UInt8}(h:leB a b)(k:leB b c):leB a c:=fun hc=>by
 rcases ltB_tri a b with h1|h1|h1
 ·exact k (ltB_trans hc h1)
 ·subst h1;exact k hc
 ·exact h h1
theorem leB_of_lt{a b:List UInt8}(h:a<b):leB a b:=fun k=>List.lt_irrefl a (ltB_trans h k)
theorem sorted_snoc{out:List (List UInt8)}{x:List UInt8}(h:out.Pairwise (fun a b=>a<b))(hx:∀a∈out,a<x):(out++[x]).Pairwise (fun a b=>a<b):=by
 rw[List.pairwise_append];exact⟨h,by simp,fun a ha b hb=>by simp at hb;subst hb;exact hx a ha⟩
end
section
open Go.RowKit Go.Proofs.Tryz Go.Lib
section
variable{P:Program}{ops:Array Oper}{Q:Exit->Act->World->Prop}{S:World->Prop}{md:Region.Mode}
abbrev Step:=List (Nat×Nat)⊕(Nat⊕(Nat×Array Bool))
def treeAll(md:Region.Mode)(ops:Array Oper)(f:Array Bool->Bool):Nat->Array Bool->Bool
 |0,L=>f L
 |k+1,L=> !(Region.ready md ops L).isEmpty&&(Region.ready md ops L).all fun i=>decide (i<ops.size)&&treeAll md ops f k (L.setIfInBounds i true)
def planOk(md:Region.Mode)(ops:Array Oper):List Step->Array Bool->Nat->Bool
 | [],L,n=>n==0&&(Region.ready md ops L).isEmpty
 | .inl l::p,L,n=>match piPre md ops [] l L with
  |some L'=>decide (l.length<=n)&&planOk md ops p L' (n-l.length)
  |none=>false
 | .inr (.inl i)::p,L,n=>decide (i<ops.size)&&(Region.ready md ops L==[i])&&decide (0<n)&&planOk md ops p (L.setIfInBounds i true) (n-1)
 | .inr (.inr (k,L0))::p,L,n=>decide (L=L0)&&decide (k<=n)&&treeAll md ops (fun L'=>planOk md ops p L' (n-k)) k L
def wpTr(P:Program)(md:Region.Mode)(ops:Array Oper)(Q:Exit->Act->World->Prop)(S:World->Prop)(K:Act->World->Prop):Nat->Array Bool->Act->World->Prop
 |0,_,a,w=>K a w
 |n+1,L,a,w=>∀i∈Region.ready md ops L,Region.wanted (ops.getD i default) (yielded ops a.tmps)=true/\(ops.getD i default).wp P a w (fun a' w'=>S w'/\wpTr P md ops Q S K n (L.setIfInBounds i true) a' w') Q
def planQ(K:Act->World->Prop):Exit->Act->World->Prop
 | .normal,a,w=>K a w
 |_,_,_=>True
def wpPlan(P:Program)(md:Region.Mode)(ops:Array Oper)(Q:Exit->Act->World->Prop)(S:World->Prop):List Step->Act->World->Prop
 | [],a,w=>Q .normal a w
 | .inl l::p,a,w=>wpPi P ops (planQ (wpPlan P md ops Q S p)) S (l.map fun x=>(ops.getD x.1 default,x.2)) a w
 | .inr (.inl i)::p,a,w=>if Region.wanted (ops.getD i default) (yielded ops a.tmps)then(ops.getD i default).wp P a w (fun a' w'=>S w'/\wpPlan P md ops Q S p a' w') Q\/((ops.getD i default).asks P a w/\LetsOut Q)else S w/\wpPlan P md ops Q S p (a.put (ops.getD i default).dst undef) w
 | .inr (.inr (k,L))::p,a,w=>wpTr P md ops Q S (wpPlan P md ops Q S p) k L a w
theorem wpAnyG_of_tr{K:Act->World->Prop}{f:Array Bool->Bool}{m:Nat}(hk:∀L a w,f L=true->S w->K a w->wpAnyG P md ops Q S [] m L a w):
 ∀(k:Nat)(L:Array Bool)(a:Act)(w:World),treeAll md ops f k L=true->S w->wpTr P md ops Q S K k L a w->wpAnyG P md ops Q S [] (k+m) L a w
 |0,L,a,w,hp,hS,h=>by
  rw[Nat.zero_add];exact hk L a w hp hS h
 |k+1,L,a,w,hp,hS,h=>by
  simp only[treeAll,Bool.and_eq_true,Bool.not_eq_true',List.all_eq_true]at hp;rw[Nat.succ_add];refine⟨fun h0=>(by rw[h0]at hp;simp at hp),fun i hi=>?_⟩
  have h1:=hp.2 i hi;simp only[decide_eq_true_eq]at h1;obtain⟨hsz,hp'⟩:=h1;have hi':ops[i]?=some (ops.getD i default):=by simp[Array.getD,hsz]
  obtain⟨hwant,hw⟩:=h i hi;unfold wpOp;generalize ops.getD i default=oi at hi' hw hwant;simp only[hi'];rw[if_pos hwant]
  exact .inl (Oper.wp_mono (fun a' w' h'=>⟨fun _=>h'.1,wpAnyG_of_tr hk k _ a' w' hp' h'.1 h'.2⟩) hw)
theorem wpAnyG_of_plan(hs:Region.noSelect ops=true)(hQ:xQ Q):
 ∀(p:List Step)(L:Array Bool)(a:Act)(w:World)(n:Nat),planOk md ops p L n=true->S w->wpPlan P md ops Q S p a w->wpAnyG P md ops Q S [] n L a w
 | [],L,a,w,n,hp,hS,h=>by
  simp only[planOk,Bool.and_eq_true,beq_iff_eq,List.isEmpty_iff]at hp;obtain⟨rfl,hr⟩:=hp;exact⟨hr,h⟩
 | .inl l::p,L,a,w,n,hp,hS,h=>by
  simp only[planOk]at hp
  split at hp
  ·rename_i L' hL
   simp only[Bool.and_eq_true,decide_eq_true_eq]at hp;obtain⟨hn,hp⟩:=hp
   have:=wpAnyG_of_pre (S:=S) (tl:=[]) hs hQ (Q1:=planQ (wpPlan P md ops Q S p)) (L:=L') (fuel:=n-l.length) (fun a w hS h=>wpAnyG_of_plan hs hQ p L' a w (n-l.length) hp (hS rfl) h) l L a w hL (fun _=>hS) h
   rwa[show l.length+(n-l.length)=n by omega]at this
  ·cases hp
 | .inr (.inl i)::p,L,a,w,n,hp,hS,h=>by
  simp only[planOk,Bool.and_eq_true,decide_eq_true_eq,beq_iff_eq]at hp;obtain⟨⟨⟨hi,hr⟩,hn⟩,hp⟩:=hp;obtain⟨m,rfl⟩:∃m,n=m+1:=⟨n-1,by omega⟩
  refine⟨fun h0=>(by rw[hr]at h0;cases h0),fun j hj=>?_⟩;have:j=i:=by rw[hr]at hj;simpa using hj
  subst this;have hi':ops[j]?=some (ops.getD j default):=by simp[Array.getD,hi]
  unfold wpPlan at h;refine wpOp_mono (K:=fun a' w'=>S w'/\wpPlan P md ops Q S p a' w') (fun a' w' h'=>⟨fun _=>h'.1,wpAnyG_of_plan hs hQ p _ a' w' m hp h'.1 h'.2⟩) ?_
  unfold wpOp;generalize ops.getD j default=oj at hi' h;simp only[hi']
  by_cases hg:Region.wanted oj (yielded ops a.tmps)=true
  ·rw[if_pos hg]at h |-
   exact h
  ·rw[if_neg hg]at h |-
   exact h
 | .inr (.inr (k,L0))::p,L,a,w,n,hp,hS,h=>by
  simp only[planOk,Bool.and_eq_true,decide_eq_true_eq]at hp;obtain⟨⟨rfl,hk⟩,hp⟩:=hp
  have:=wpAnyG_of_tr (S:=S) (m:=n-k) (f:=fun L'=>planOk md ops p L' (n-k)) (fun L' a w hf hS h=>wpAnyG_of_plan hs hQ p L' a w (n-k) hf hS h) k L a w hp hS h
  rwa[show k+(n-k)=n by omega]at this
theorem wp_region_plan{id:Nat}{a:Act}{w:World}{l:List Oper}(p:List Step)(S:World->Prop)(hm:P.follows .mixedOrders=true)(hs:Region.noSelect l.toArray=true)
 (hp:planOk .any l.toArray p (Array.replicate l.toArray.size false) l.toArray.size=true)(hQ:xQ Q)(hS:S w.drew)
 (h:wpPlan P .any l.toArray Q S p a w.drew):(Code.region id l.toArray true).wp P Q a w:=by
 exact wp_region_any hm (wpAny_of_G _ _ _ _ (wpAnyG_of_plan hs hQ p _ a w.drew _ hp hS h))
theorem wpPlan_seg{l:List (Nat×Nat)}{p:List Step}{a:Act}{w:World}(h:wpPi P ops (planQ (wpPlan P md ops Q S p)) S (l.map fun x=>(ops.getD x.1 default,x.2)) a w):wpPlan P md ops Q S (.inl l::p) a w:=h
theorem wpPlan_one{i:Nat}{p:List Step}{a:Act}{w:World}(hw:Region.wanted (ops.getD i default) (yielded ops a.tmps)=true)(h:∀K:Act->World->Prop,(∀a' w',S w'->wpPlan P md ops Q S p a' w'->K a' w')->(ops.getD i default).wp P a w K Q):wpPlan P md ops Q S (.inr (.inl i)::p) a w:=by
 unfold wpPlan;rw[if_pos hw];exact .inl (h _ fun a' w' h1 h2=>⟨h1,h2⟩)
theorem planQ_normal{K:Act->World->Prop}{a:Act}{w:World}(h:K a w):planQ K .normal a w:=h
theorem wpPlan_fin{a:Act}{w:World}(h:Q .normal a w):wpPlan P md ops Q S [] a w:=h
theorem puts_slot{ps:List (Nat×Value)}{t:Nat}(h:∀p∈ps,p.1≠t)(a:Act):(puts ps a).tmps[t]?=a.tmps[t]?:=by
 induction ps with
 |nil=>rfl
 |cons p ps ih=>
  rw[<-ih fun q hq=>h q (List.mem_cons_of_mem _ hq)];have:=h p List.mem_cons_self;simp only[puts,Act.put,Array.getElem?_setIfInBounds_ne this]
def guardFar(ops:Array Oper)(ds:List Nat)(o:Oper):Bool:=match o.guard with
 |none=>true
 |some (j,_)=>match(ops[j]?).bind (·.dst)with
  |some t=>ds.all (·!=t)
  |none=>true
theorem wanted_puts{ps:List (Nat×Value)}{ds:List Nat}(hps:∀p∈ps,p.1∈ds){o:Oper}(hg:guardFar ops ds o=true)(a:Act):Region.wanted o (yielded ops (puts ps a).tmps)=Region.wanted o (yielded ops a.tmps):=by
 unfold Region.wanted
 cases hq:o.guard with
 |none=>rfl
 |some x=>
  obtain⟨j,b⟩:=x;unfold guardFar at hg;simp only[hq]at hg;unfold yielded
  cases hd:(ops[j]?).bind (·.dst)with
  |none=>simp[hd]
  |some t=>
   simp only[hd,List.all_eq_true,bne_iff_ne]at hg;simp only[hd,Option.bind_some];rw[puts_slot (fun p hp=>hg _ (hps p hp))]
def depOk(md:Region.Mode)(ops:Array Oper):Nat->List (Nat×Nat×List Nat)->Array Bool->Bool
 |0,g,_=>g.isEmpty
 |n+1,g,L=>(Region.ready md ops L).all fun i=>g.any fun q=>q.1==i&&(q.2.2.all fun d=> !(g.any fun r=>r.2.1==d))&&depOk md ops n (g.erase q) (L.setIfInBounds i true)
theorem wpTr_dep{a:Act}{w0:World}{K:Act->World->Prop}(F:Nat->Value->World->Prop)(g0:List (Nat×Nat×List Nat))(hF:∀d v w w',F d v w->Mod NoB w w'->F d v w')(hS:∀w,Mod NoB w0 w->S w)(hn:(g0.map (·.2.1)).Nodup)(hds:(g0.all fun q=>q.2.2.all fun d=>(g0.map (·.2.1)).contains d)=true)
 (hgf:(g0.all fun q=>guardFar ops (g0.map (·.2.1)) (ops.getD q.1 default))=true)(hw:∀q∈g0,Region.wanted (ops.getD q.1 default) (yielded ops a.tmps)=true)
 (hend:∀(vals:List Value)(w:World),vals.length=g0.length->Mod NoB w0 w->(∀p∈(g0.map (·.2.1)).zip vals,F p.1 p.2 w)->K (puts ((g0.map (·.2.1)).zip vals) a) w)
 (hop:∀q∈g0,∀(ps:List (Nat×Value))(w:World),Mod NoB w0 w->(∀p∈ps,F p.1 p.2 w)->(∀d∈q.2.2,∃v,(d,v)∈ps)->(ps.map (·.1)).Nodup->(∀p∈ps,p.1≠q.2.1/\p.1∈g0.map (·.2.1))->
  ∀K',(∀v w',Mod NoB w w'->F q.2.1 v w'->K' ((puts ps a).put (some q.2.1) v) w')->(ops.getD q.1 default).wp P (puts ps a) w K' Q):
 ∀(n:Nat)(g:List (Nat×Nat×List Nat))(L:Array Bool)(ps:List (Nat×Value))(w:World),depOk md ops n g L=true->(∀q∈g,q∈g0)->(ps.map (·.1)++g.map (·.2.1)).Perm (g0.map (·.2.1))->Mod NoB w0 w->(∀p∈ps,F p.1 p.2 w)->
  wpTr P md ops Q S K n L (puts ps a) w
 |0,g,L,ps,w,hg,hsub,hp,hm,hps=>by
  simp only[depOk,List.isEmpty_iff]at hg;subst hg;have hp':(ps.map (·.1)).Perm (g0.map (·.2.1)):=by simpa using hp
  obtain⟨vals,hl,hv⟩:=perm_vals hp'
  show K (puts ps a) w
  rw[puts_perm hv a (hp'.symm.nodup_iff.1 hn)];exact hend vals w (by simpa using hl) hm (fun p hp=>hps p (hv.symm.subset hp))
 |n+1,g,L,ps,w,hg,hsub,hp,hm,hps=>by
  intro i hi;simp only[depOk,List.all_eq_true]at hg;have h1:=hg i hi;rw[List.any_eq_true]at h1;obtain⟨q,hq,h1⟩:=h1;simp only[Bool.and_eq_true,beq_iff_eq]at h1
  obtain⟨⟨rfl,hdep⟩,hg'⟩:=h1;have hnd:(ps.map (·.1)++g.map (·.2.1)).Nodup:=hp.symm.nodup_iff.1 hn
  have hin:∀p∈ps,p.1∈g0.map (·.2.1):=fun p hpp=>hp.subset (List.mem_append_left _ (List.mem_map_of_mem hpp));refine⟨?_,?_⟩
  ·rw[wanted_puts hin (by simpa using List.all_eq_true.1 hgf q (hsub q hq))]
   exact hw q (hsub q hq)
  ·refine hop q (hsub q hq) ps w hm hps (fun d hd=>?_) (List.nodup_append.1 hnd).1 (fun p hpp=>⟨?_,hin p hpp⟩) _ fun v w' hm' hv=>⟨hS _ (hm.trans0 hm'),?_⟩
   ·have h2:d∈g0.map (·.2.1):=by
     have:=List.all_eq_true.1 (List.all_eq_true.1 hds q (hsub q hq)) d hd
     simpa using this
    rcases List.mem_append.1 (hp.symm.subset h2)with h3|h3
    ·obtain⟨p,hp1,rfl⟩:=List.mem_map.1 h3
     exact⟨p.2,hp1⟩
    ·exfalso
     have:=List.all_eq_true.1 hdep d hd;obtain⟨r,hr,rfl⟩:=List.mem_map.1 h3;simp only[Bool.not_eq_true',List.any_eq_false]at this;exact this r hr (by simp)
   ·rw[List.nodup_append]at hnd
    exact hnd.2.2 _ (List.mem_map_of_mem hpp) _ (List.mem_map_of_mem (f:=(·.2.1)) hq)
   ·refine wpTr_dep F g0 hF hS hn hds hgf hw hend hop n (g.erase q) _ ((q.2.1,v)::ps) w' hg' (fun r hr=>hsub r (List.mem_of_mem_erase hr)) ?_ (hm.trans0 hm') (fun p hpp=>?_)
    ·refine List.Perm.trans ?_ hp
     simp only[List.map_cons,List.cons_append];refine(List.perm_middle (l₁:=ps.map (·.1)) (a:=q.2.1) (l₂:=(g.erase q).map (·.2.1))).symm.trans ?_
     exact List.Perm.append_left _ (by simpa using((List.perm_cons_erase hq).map (·.2.1)).symm)
    ·rcases List.mem_cons.1 hpp with rfl|hpp
     ·exact hv
     ·exact hF _ _ _ _ (hps p hpp) hm'
def depF:List (Nat×(Value->World->Prop))->Nat->Value->World->Prop
 | [],_,_,_=>True
 |(d,f)::r,e,v,w=>if d=e then f v w else depF r e v w
theorem depF_keep{fs:List (Nat×(Value->World->Prop))}(h:∀x∈fs,∀v w w',x.2 v w->Mod NoB w w'->x.2 v w'):∀d v w w',depF fs d v w->Mod NoB w w'->depF fs d v w':=by
 induction fs with
 |nil=>intros;trivial
 |cons x fs ih=>
  obtain⟨d0,f⟩:=x;intro d v w w' hf hm;unfold depF at hf |-
  by_cases hd:d0=d
  ·rw[if_pos hd]at hf |-
   exact h (d0,f) (by simp) v w w' hf hm
  ·rw[if_neg hd]at hf |-
   exact ih (fun x hx=>h x (by simp[hx])) d v w w' hf hm
theorem wpPlan_dep{p:List Step}{a:Act}{w0:World}{n:Nat}{L:Array Bool}(fs:List (Nat×(Value->World->Prop)))(g0:List (Nat×Nat×List Nat))(hF:∀x∈fs,∀v w w',x.2 v w->Mod NoB w w'->x.2 v w')(hS:∀w,Mod NoB w0 w->S w)(hn:(g0.map (·.2.1)).Nodup)(hds:(g0.all fun q=>q.2.2.all fun d=>(g0.map (·.2.1)).contains d)=true)
 (hgf:(g0.all fun q=>guardFar ops (g0.map (·.2.1)) (ops.getD q.1 default))=true)(hok:depOk md ops n g0 L=true)(hw:∀q∈g0,Region.wanted (ops.getD q.1 default) (yielded ops a.tmps)=true)
 (hend:∀(vals:List Value)(w:World),vals.length=g0.length->Mod NoB w0 w->(∀p∈(g0.map (·.2.1)).zip vals,depF fs p.1 p.2 w)->wpPlan P md ops Q S p (puts ((g0.map (·.2.1)).zip vals) a) w)
 (hop:∀q∈g0,∀(ps:List (Nat×Value))(w:World),Mod NoB w0 w->(∀p∈ps,depF fs p.1 p.2 w)->(∀d∈q.2.2,∃v,(d,v)∈ps)->(ps.map (·.1)).Nodup->(∀p∈ps,p.1≠q.2.1/\p.1∈g0.map (·.2.1))->
  ∀K',(∀v w',Mod NoB w w'->depF fs q.2.1 v w'->K' ((puts ps a).put (some q.2.1) v) w')->(ops.getD q.1 default).wp P (puts ps a) w K' Q):
 wpPlan P md ops Q S (.inr (.inr (n,L))::p) a w0:=
 wpTr_dep (depF fs) g0 (depF_keep hF) hS hn hds hgf hw hend hop n g0 L [] w0 hok (fun _ h=>h) (by simp) (Mod.refl _ _) (fun p hp=>(nomatch hp))
end
end
section
open Go.Proofs.Tryz Go.Lib
def be(l:List UInt8):Nat:=l.foldl (fun n x=>n*256+x.toNat) 0
theorem be_snoc(l:List UInt8)(x:UInt8):be (l++[x])=be l*256+x.toNat:=by simp[be]
theorem be_lt_aux(l:List UInt8)(n m:Nat)(h:n<256^m):l.foldl (fun n x=>n*256+x.toNat) n<256^(m+l.length):=by
 induction l generalizing n m with
 |nil=>exact h
 |cons x l ih=>
  have hx:=x.toNat_lt;have:=ih (n*256+x.toNat) (m+1) (by rw[Nat.pow_succ];omega)
  rw[List.foldl_cons,List.length_cons,show m+(l.length+1)=m+1+l.length by omega];exact this
theorem be_lt(l:List UInt8):be l<256^l.length:=by
 have:=be_lt_aux l 0 0 (by decide)
 rwa[Nat.zero_add]at this
def szK(n k:Nat):Nat:=if h:k<8/\0<n/256^k then szK n (k+1)else k
termination_by 8-k
theorem szK_step{n k:Nat}(h:k<8/\0<n/256^k):szK n k=szK n (k+1):=by rw[szK,dif_pos h]
theorem szK_stop{n k:Nat}(h:¬(k<8/\0<n/256^k)):szK n k=k:=by rw[szK,dif_neg h]
def sizeN(n:Nat):Nat:=if n<192 then 0 else szK n 1
theorem szK_le(n:Nat):∀(j k:Nat),k<=8->8-k=j->szK n k<=8:=fun j=>by
 induction j with
 |zero=>intro k h1 h2;rw[szK_stop (by omega)];omega
 |succ j ih=>
  intro k h1 h2
  by_cases h:k<8/\0<n/256^k
  ·rw[szK_step h];exact ih (k+1) (by omega) (by omega)
  ·rw[szK_stop h];omega
def rdNum(b:List UInt8)(a:Nat):Option (Nat×Nat):=
 match b[a]? with
 |none=>none
 |some c=>
  if 199<c.toNat then none
  else if b.length-a-1<c.toNat-191 then none
  else if c.toNat-191=0 then some (c.toNat,a+1)
  else if be ((b.drop (a+1)).take (c.toNat-191))>=9223372036854775808\/sizeN (be ((b.drop (a+1)).take (c.toNat-191)))≠c.toNat-191 then none
  else some (be ((b.drop (a+1)).take (c.toNat-191)),a+1+(c.toNat-191))
abbrev RS:=Option Nat
def rNumL(b:List UInt8):RS->Nat×RS
 |none=>(0,none)
 |some a=>match rdNum b a with
  |none=>(0,none)
  |some (n,a')=>(n,some a')
def rManyL(b:List UInt8)(most:Nat)(s:RS):Nat×RS:=if most<(rNumL b s).1 then((rNumL b s).1,none)else rNumL b s
def jF(b:List UInt8)(n:Nat):RS->List UInt8×RS
 |none=>([],none)
 |some a=>if b.length-a<n then([],none)else((b.drop a).take n,some (a+n))
def xD(b:List UInt8)(most:Nat)(s:RS):List UInt8×RS:=jF b (rManyL b most s).1 (rManyL b most s).2
def zeros32:List UInt8:=List.replicate 32 0
def rIDL(b:List UInt8)(s:RS):List UInt8×RS:=(if(jF b 32 s).1=[]then zeros32 else(jF b 32 s).1,(jF b 32 s).2)
structure DescL where
 media:Nat
 id:List UInt8
 size:Nat
 plat:List UInt8
deriving DecidableEq
def descZ:DescL:=⟨0,zeros32,0,[]⟩
def zS(b:List UInt8)(s:RS):DescL×RS:=
 let m:=rNumL b s
 let i:=rIDL b m.2
 let n:=rNumL b i.2
 let p:=xD b 4096 n.2
 (⟨m.1,i.1,n.1,p.1⟩,p.2)
def zF(b:List UInt8):Nat->RS->List DescL×RS
 |0,s=>([],s)
 |n+1,s=>((zF b n s).1++[(zS b (zF b n s).2).1],(zS b (zF b n s).2).2)
structure ManL where
 kind:Nat
 title:List UInt8
 config:DescL
 layers:List DescL
 subs:List DescL
deriving DecidableEq
def manZ:ManL:=⟨0,[],descZ,[],[]⟩
def manR(b:List UInt8):ManL×RS×Bool:=
 let f:=rNumL b (some 0)
 if f.1≠77 then(manZ,f.2,false)
 else
  let k:=rNumL b f.2
  if k.1≠3/\k.1≠4 then({ manZ with kind:=k.1 },k.2,false)
  else
   let t:=xD b 4096 k.2
   let c:=if k.1=3 then zS b t.2 else(descZ,t.2)
   let n:=rNumL b c.2
   if(if k.1=3 then 16 else 8)<n.1 then(⟨k.1,t.1,c.1,[],[]⟩,n.2,false)
   else
    let l:=zF b n.1 n.2
    (⟨k.1,t.1,c.1,if k.1=3 then l.1 else [],if k.1=3 then []else l.1⟩,l.2,true)
def decL(b:List UInt8):Option ManL:=if b.length<=4096/\(manR b).2.2=true/\(manR b).2.1=some b.length then some (manR b).1 else none
def zE(m:ManL):List DescL:=(if m.kind=3 then [m.config]else [])++m.layers++m.subs
def RsOk(b:List UInt8)(s:RS):Prop:=∀a,s=some a->a<=b.length
theorem rdNum_ok{b:List UInt8}{a n a':Nat}(h:rdNum b a=some (n,a')):a<a'/\a'<=b.length/\n<9223372036854775808:=by
 unfold rdNum at h
 split at h
 ·cases h
 ·rename_i c hc
  have ha:a<b.length:=by
   rcases Nat.lt_or_ge a b.length with h|h
   ·exact h
   ·rw[List.getElem?_eq_none h]at hc;cases hc
  split at h
  ·cases h
  ·split at h
   ·cases h
   ·split at h
    ·simp only[Option.some.injEq,Prod.mk.injEq]at h;have:=c.toNat_lt;omega
    ·split at h
     ·cases h
     ·simp only[Option.some.injEq,Prod.mk.injEq]at h;omega
theorem rNumL_ok{b:List UInt8}{s:RS}:RsOk b (rNumL b s).2/\(rNumL b s).1<9223372036854775808/\((rNumL b s).2=none->(rNumL b s).1=0):=by
 unfold rNumL RsOk
 cases s with
 |none=>simp
 |some a=>
  cases h:rdNum b a with
  |none=>simp[h]
  |some p=>
   obtain⟨n,a'⟩:=p;have:=rdNum_ok h
   simp[h];omega
theorem rManyL_ok{b:List UInt8}{most:Nat}{s:RS}:RsOk b (rManyL b most s).2/\(rManyL b most s).1<9223372036854775808:=by
 have:=rNumL_ok (b:=b) (s:=s);unfold rManyL
 split
 ·exact⟨fun a h=>(by cases h),this.2.1⟩
 ·exact⟨this.1,this.2.1⟩
theorem rTakeL_ok{b:List UInt8}{n:Nat}{s:RS}(h:RsOk b s):RsOk b (jF b n s).2/\((jF b n s).1=[]\/(jF b n s).1.length=n):=by
 unfold jF
 cases s with
 |none=>exact⟨fun a h=>(by cases h),Or.inl rfl⟩
 |some a=>
  have:=h a rfl
  by_cases hc:b.length-a<n
  ·simp[hc,RsOk]
  ·simp only[hc,if_false]
   refine⟨fun a' e=>?_,.inr (by simp;omega)⟩
   cases e;omega
theorem rBytesL_ok{b:List UInt8}{most:Nat}{s:RS}:RsOk b (xD b most s).2:=(rTakeL_ok rManyL_ok.1).1
theorem rIDL_ok{b:List UInt8}{s:RS}(h:RsOk b s):RsOk b (rIDL b s).2/\(rIDL b s).1.length=32:=by
 have:=rTakeL_ok (n:=32) h;refine⟨this.1,?_⟩;unfold rIDL
 by_cases hc:(jF b 32 s).1=[]
 ·simp[hc,zeros32]
 ·simp only[hc,if_false]
  exact this.2.resolve_left hc
theorem rDescL_ok{b:List UInt8}{s:RS}:RsOk b (zS b s).2/\(zS b s).1.id.length=32/\(zS b s).1.media<9223372036854775808/\(zS b s).1.size<9223372036854775808:=
 ⟨rBytesL_ok,(rIDL_ok rNumL_ok.1).2,rNumL_ok.2.1,rNumL_ok.2.1⟩
theorem rDescsL_len{b:List UInt8}{s:RS}:∀n,(zF b n s).1.length=n
 |0=>rfl
 |n+1=>by simp[zF,rDescsL_len n]
theorem rDescsL_ok{b:List UInt8}{s:RS}(h:RsOk b s):∀n,RsOk b (zF b n s).2/\∀d∈(zF b n s).1,d.id.length=32
 |0=>⟨h,fun d hd=>by cases hd⟩
 |n+1=>⟨rDescL_ok.1,fun d hd=>by
  simp only[zF,List.mem_append,List.mem_singleton]at hd
  rcases hd with hd|rfl
  ·exact(rDescsL_ok h n).2 d hd
  ·exact rDescL_ok.2.1⟩
theorem qV:descZ.id.length=32:=by simp[descZ,zeros32]
theorem decL_ids{b:List UInt8}{m:ManL}(h:decL b=some m):∀d∈zE m,d.id.length=32:=by
 unfold decL at h
 split at h
 ·rename_i hc
  have hm:=Option.some.inj h;subst hm;obtain⟨-,h2,-⟩:=hc
  revert h2
  unfold manR
  dsimp only
  generalize (rNumL b (some 0))=f
  split
  ·simp
  ·generalize rNumL b f.2=k
   split
   ·simp
   ·generalize xD b 4096 k.2=t
    by_cases hk:k.1=3
    ·simp only[hk,if_true]
     split
     ·simp
     ·intro _ d hd
      simp only[zE,if_true,List.append_nil,List.mem_append,List.mem_singleton]at hd
      rcases hd with rfl|hd
      ·exact rDescL_ok.2.1
      ·exact(rDescsL_ok rNumL_ok.1 _).2 d hd
    ·simp only[hk,if_false]
     split
     ·simp
     ·intro _ d hd
      simp only[zE,hk,if_false,List.append_nil,List.nil_append]at hd;exact(rDescsL_ok rNumL_ok.1 _).2 d hd
 ·cases h
end
section
open Go.RowKit Go.Proofs.Tryz Go.Lib
structure RdI(w:World)(rb wb:Nat)(bv:Value)(b:List UInt8)(a:Nat)(e p:Int):Prop where
 box:w.heap[rb]?=some (.cells #[.pointer (some ⟨wb,0,none⟩),bv,.int .i64 a] 344 (0,0))
 wr:w.heap[wb]?=some (.cells #[.int .i64 e,.int .i64 p] 320 (0,0))
 sl:Sl false w (fun k=>bv.ownBlock=some k) 1 ByteC bv b
 lt:∀k,bv.ownBlock=some k->k<w.heap.size/\k≠rb/\k≠wb
 len:b.length<=4096
 al:a<=b.length
 z:e=0->p=0
 ne:rb≠wb
def stOf(a:Nat)(e:Int):RS:=if e=0 then some a else none
theorem stOf_zero(a:Nat):stOf a 0=some a:=rfl
theorem jB{a:Nat}{e:Int}(h:e≠0):stOf a e=none:=by simp[stOf,h]
def RdS(w w':World)(rb wb:Nat)(bv:Value)(b:List UInt8)(s:RS):Prop:=(∃a e p,RdI w' rb wb bv b a e p/\stOf a e=s)/\Mod (fun k=>k=rb\/k=wb) w w'
section
variable{w:World}{rb wb:Nat}{bv:Value}{b:List UInt8}{a:Nat}{e p:Int}
theorem RdI.keep{S:Nat->Prop}{w':World}(h:RdI w rb wb bv b a e p)(hm:Mod S w w')(h1:¬S rb)(h2:¬S wb)(h3:∀k,bv.ownBlock=some k->¬S k):RdI w' rb wb bv b a e p:=
 ⟨hm.obj h1 h.box,hm.obj h2 h.wr,h.sl.keep hm h3 (fun _ _ h=>h),fun k hk=>⟨Nat.lt_of_lt_of_le (h.lt k hk).1 hm.size,(h.lt k hk).2⟩,h.len,h.al,h.z,h.ne⟩
theorem RdI.keep0{w':World}(h:RdI w rb wb bv b a e p)(hm:Mod NoB w w'):RdI w' rb wb bv b a e p:=h.keep hm id id (fun _ _=>id)
theorem RdI.lts(h:RdI w rb wb bv b a e p):rb<w.heap.size/\wb<w.heap.size:=⟨(Array.getElem?_eq_some_iff.1 h.box).1,(Array.getElem?_eq_some_iff.1 h.wr).1⟩
theorem RdI.keepN{w0 w':World}{n:Nat}(h:RdI w rb wb bv b a e p)(h0:∀k,k=rb\/k=wb\/bv.ownBlock=some k->k<w0.heap.size)(hm:Mod (fun k=>k=n) w w')(hn:w0.heap.size<=n):RdI w' rb wb bv b a e p:=
 h.keep hm (fun e=>by have:=h0 rb (.inl rfl);omega) (fun e=>by have:=h0 wb (.inr (.inl rfl));omega) (fun k hk e=>by have:=h0 k (.inr (.inr hk));omega)
theorem RdI.all(h:RdI w rb wb bv b a e p):∀k,k=rb\/k=wb\/bv.ownBlock=some k->k<w.heap.size:=fun k hk=>by
 rcases hk with rfl|rfl|hk
 ·exact h.lts.1
 ·exact h.lts.2
 ·exact(h.lt k hk).1
theorem RdI.cell(h:RdI w rb wb bv b a e p):w.cell? ⟨rb,0,none⟩=some (.pointer (some ⟨wb,0,none⟩))/\w.cell? ⟨rb,1,none⟩=some bv/\w.cell? ⟨rb,2,none⟩=some (.int .i64 a)/\w.cell? ⟨wb,0,none⟩=some (.int .i64 e)/\w.cell? ⟨wb,1,none⟩=some (.int .i64 p):=by
 simp[World.cell?,h.box,h.wr]
theorem RdI.row(h:RdI w rb wb bv b a e p):CellsAt w wb 0 #[.int .i64 e,.int .i64 p]:=CellsAt.whole h.wr
theorem RdI.stay(h:RdI w rb wb bv b a e p):RdS w w rb wb bv b (stOf a e):=⟨⟨a,e,p,h,rfl⟩,Mod.refl _ _⟩
theorem RdS.keepN{w0 w1 w2:World}{n:Nat}{s:RS}(h:RdS w w1 rb wb bv b s)(h0:∀k,k=rb\/k=wb\/bv.ownBlock=some k->k<w0.heap.size)(hs:w0.heap.size<=w.heap.size)(hm:Mod (fun k=>k=n) w1 w2)(hn:w.heap.size<=n):RdS w w2 rb wb bv b s:=by
 obtain⟨⟨a,e,p,hi,hst⟩,hM⟩:=h;exact⟨⟨a,e,p,hi.keepN h0 hm (by omega),hst⟩,hM.trans hm (fun k hk e=>by have e':k=n:=e;omega)⟩
theorem RdS.pre{w1 w2:World}{s:RS}(h:Mod NoB w w1)(k:RdS w1 w2 rb wb bv b s):RdS w w2 rb wb bv b s:=⟨k.1,(h.mono (fun _ _ h=>h.elim)).trans k.2 (fun _ _ h=>h)⟩
theorem RdS.trans{w1 w2:World}{s s':RS}(h:RdS w w1 rb wb bv b s)(k:RdS w1 w2 rb wb bv b s'):RdS w w2 rb wb bv b s':=⟨k.1,h.2.trans k.2 (fun _ _ h=>h)⟩
theorem RdI.fail(h:RdI w rb wb bv b a 0 p){w':World}(hm:Mod (fun k=>k=wb) w w'){er at_:Int}(he:er≠0)(hw:w'.heap[wb]?=some (.cells #[.int .i64 er,.int .i64 at_] 320 (0,0))):RdS w w' rb wb bv b none:=
 ⟨⟨a,er,at_,⟨hm.objB h.ne h.box,hw,h.sl.keep hm (fun k hk hs=>(h.lt k hk).2.2 hs) (fun _ _ h=>h),fun k hk=>⟨Nat.lt_of_lt_of_le (h.lt k hk).1 hm.size,(h.lt k hk).2⟩,h.len,h.al,fun h=>absurd h he,h.ne⟩,jB he⟩,hm.mono fun _ _ h=>.inr h⟩
theorem RdI.on(h:RdI w rb wb bv b a 0 p){w':World}(hm:Mod (fun k=>k=rb) w w'){a':Nat}(ha:a'<=b.length)(hw:w'.heap[rb]?=some (.cells #[.pointer (some ⟨wb,0,none⟩),bv,.int .i64 a'] 344 (0,0))):RdS w w' rb wb bv b (some a'):=
 ⟨⟨a',0,p,⟨hw,hm.objB (fun e=>h.ne e.symm) h.wr,h.sl.keep hm (fun k hk hs=>(h.lt k hk).2.1 hs) (fun _ _ h=>h),fun k hk=>⟨Nat.lt_of_lt_of_le (h.lt k hk).1 hm.size,(h.lt k hk).2⟩,h.len,ha,h.z,h.ne⟩,rfl⟩,hm.mono fun _ _ h=>.inl h⟩
theorem wFailed_at(hc:w.cell? ⟨wb,0,none⟩=some (.int .i64 e)):Calls prog 252 #[.pointer (some ⟨wb,0,none⟩)] w (RetE (.bool (decide (e≠0))) w):=by
 go_enter func252,ntmps252;go_upto_region 1 with(fail);refine wpR [3,3,3,3,1,3,3] ?_;simp only[stz];refine wpXd (v:=(.int .i64 e)) 33 wb 0 hc underlying33 trivial ?_
 try simp only[nmz]
 refine qG _ _ _ _ _ _ _ _ rfl rfl rfl rfl rfl (decide (e≠0)) rfl ?_;simp only[stz];go_wp2;go_ret;exact⟨rfl,rfl⟩
theorem rNone_any(h:RdI w rb wb bv b a e p):Calls prog 281 #[.pointer (some ⟨rb,0,none⟩)] w (RetE (.bool (decide (e≠0))) w):=by
 have hc0:=h.cell.1;have hcw:=h.cell.2.2.2.1;clear h;go_enter func281,ntmps281
 go_wp2_with (go_at_call 252;refine(wFailed_at hcw).mono ?_;rintro _ w1 ⟨rfl,hw⟩;obtain rfl:=hw.symm);go_ret;exact⟨by simp,rfl⟩
def FailsR(w:World)(wb:Nat)(er at_:Int):Ending->World->Prop:=fun e w'=>e=.returned (.tuple #[])/\Mod (fun k=>k=wb) w w'/\w'.heap[wb]?=some (.cells #[.int .i64 er,.int .i64 at_] 320 (0,0))
theorem jA(x y:Int):prog.built 255 [(0,.int .i64 x),(1,.int .i64 y)]=some #[.int .i64 x,.int .i64 y]:=by
 have z:(prog.info? 255).bind (·.zero)=some (.agg #[.int .i64 0,.int .i64 0]):=by kernel_rfl
 have p:xR prog 255=some [(0,1),(1,1)]:=by kernel_rfl
 rw[zL z p,zD (off:=0) (size:=1) rfl (by rfl) (by simp),zD (off:=1) (size:=1) rfl (by rfl) (by simp[qZ,Value.cells]),xT]
 rfl
theorem wFails_any(p er at_:Int)(hw:w.heap[wb]?=some (.cells #[.int .i64 0,.int .i64 p] 320 (0,0))):Calls prog 254 #[.pointer (some ⟨wb,0,none⟩),.int .i64 er,.int .i64 at_] w (FailsR w wb er at_):=by
 have hc:w.cell? ⟨wb,0,none⟩=some (.int .i64 0):=by simp[World.cell?,hw]
 go_enter func254,ntmps254;go_upto_region 0 with(fail);refine wpR [3,3,3,3,1,3] ?_;simp only[stz];refine wpXd (v:=(.int .i64 0)) 33 wb 0 hc underlying33 trivial ?_
 try simp only[nmz]
 refine qE (v:=?_) rfl (fun w'=>?_) ?_;rotate_left;·(go_simp;try with_reducible rfl)
 simp only[stz];go_upto_region 1 with(fail);refine wpR [3,3,3,0,3,3,1] ?_;simp only[stz]
 refine qQ rfl (fun w' hS=>qL 255 [(0,_),(1,_)] [(0,.int .i64 er),(1,.int .i64 at_)] _ (by rfl) (by rfl) (jA er at_)) ?_;simp only[stz]
 refine wpD (qF 255 _ _ wb 0 #[.int .i64 er,.int .i64 at_] (by rfl) (by rfl) (by rfl) (by simp[Value.oneCell']) 2 (by kernel_rfl) rfl _ _ hw (by simp) (fun w3 hB3 hm3=>?_))
 rw[qC (by rfl)]at hB3;simp only[stz];go_wp2
 go_end0
 exact⟨rfl,hm3,hB3⟩
theorem rPlace_any(h:RdI w rb wb bv b a e p):Calls prog 311 #[.pointer (some ⟨rb,0,none⟩)] w (RetE (.int .i64 (if e≠0 then 0 else a)) w):=by
 have hc2:=h.cell.2.2.1;have hn:=rNone_any h;clear h
 by_cases he:e=0
 ·subst he
  go_enter func311,ntmps311;go_wp2_with (go_at_call 281;refine hn.mono ?_;rintro _ w1 ⟨rfl,hw⟩;obtain rfl:=hw.symm);go_ret;exact⟨rfl,rfl⟩
 ·have hd:decide (e≠0)=true:=by simpa using he
  rw[hd]at hn;rw[if_pos he];go_enter func311,ntmps311;go_wp2_with (go_at_call 281;refine hn.mono ?_;rintro _ w1 ⟨rfl,hw⟩;obtain rfl:=hw.symm);go_ret;exact⟨rfl,rfl⟩
theorem rRest_any(h:RdI w rb wb bv b a e p):Calls prog 243 #[.pointer (some ⟨rb,0,none⟩)] w (RetM (.int .i64 (if e≠0 then 0 else(b.length:Int)-a)) w):=by
 have hc2:=h.cell.2.2.1;have hc1:=h.cell.2.1;have hn:=rNone_any h;have hle:=h.al;have hln:=h.len;obtain⟨ad,cap,rfl,-,-⟩:=Sl.at h.sl;clear h
 by_cases he:e=0
 ·subst he
  go_enter func243,ntmps243;go_upto_region 3 with(go_at_call 281;refine hn.mono ?_;rintro _ w1 ⟨rfl,hw⟩;obtain rfl:=hw.symm)
  have hS:Mod NoB w w.drew:=(Mod.refl _ _).drew;refine wpRZ [3,3,3,0,3,3,3,3,0,3,3] [] (fun w'=>Mod NoB w w') hS ?_;simp only[stz]
  refine wpLd 53 rb 1 (fun w' hS=>hS.cell id hc1) underlying53 ?_;simp only[nmz];refine wpPL ?_;simp only[stz];refine wpLd 3 rb 2 (fun w' hS=>hS.cell id hc2) underlying3 ?_
  simp only[nmz];refine xB _ _ _ _ ((b.length:Nat):Int) (a:Int) rfl rfl rfl rfl (by omega) (by omega) ?_;simp only[stz];go_wp2;go_ret;exact⟨rfl,hS⟩
 ·have hd:decide (e≠0)=true:=by simpa using he
  rw[hd]at hn;rw[if_pos he];go_enter func243,ntmps243;go_wp2_with (go_at_call 281;refine hn.mono ?_;rintro _ w1 ⟨rfl,hw⟩;obtain rfl:=hw.symm);go_ret
  exact⟨rfl,Mod.refl _ _⟩
def EndR(w:World)(b:List UInt8)(a:Nat)(e p:Int):Ending->World->Prop:=fun x w'=>Mod NoB w w'/\∃er at_:Int,x=.returned (.agg #[.int .i64 er,.int .i64 at_])/\(er=0↔e=0/\a=b.length)/\(er=0->at_=0)
end
theorem wpPi_rem{P:Program}{ops:Array Oper}{Q:Exit->Act->World->Prop}{S:World->Prop}{o:Oper}{r:List (Oper×Nat)}{a:Act}{w:World}(t:TypeId)(x y:Operand)(yt:TypeId)(m n:Int)(hw:Region.wanted o (yielded ops a.tmps)=true)(ho:o.op=.binOp .rem t x y yt)(hx:a.eval x=.int .i64 m)(hy:a.eval y=.int .i64 n)
 (h1:0<=m)(h2:0<n)(h:wpPi P ops Q S r (a.put o.dst (.int .i64 (m%n))) w):wpPi P ops Q S ((o,3)::r) a w:=
 qE hw (fun w=>by
  unfold execOp;have e:m.tmod n=m%n:=Int.tmod_eq_emod_of_nonneg h1;have hn:n≠0:=by omega
  simp[ho,hx,hy,eqGuard,binOp,Op.intDiv,e,hn]) h
theorem wpPi_quo{P:Program}{ops:Array Oper}{Q:Exit->Act->World->Prop}{S:World->Prop}{o:Oper}{r:List (Oper×Nat)}{a:Act}{w:World}(t:TypeId)(x y:Operand)(yt:TypeId)(m n:Int)(hw:Region.wanted o (yielded ops a.tmps)=true)(ho:o.op=.binOp .quo t x y yt)(hx:a.eval x=.int .i64 m)(hy:a.eval y=.int .i64 n)
 (h2:n≠0)(h3:-9223372036854775808<=m.tdiv n)(h4:m.tdiv n<=9223372036854775807)(h:wpPi P ops Q S r (a.put o.dst (.int .i64 (m.tdiv n))) w):wpPi P ops Q S ((o,3)::r) a w:=
 qE hw (fun w=>by
  unfold execOp;have e:=wrap_in h3 h4
  simp[ho,hx,hy,eqGuard,binOp,Op.intDiv,e,h2]) h
theorem wpPi_remR{P:Program}{ops:Array Oper}{Q:Exit->Act->World->Prop}{S:World->Prop}{o:Oper}{r:List (Oper×Nat)}{a:Act}{w:World}(t:TypeId)(x y:Operand)(yt:TypeId)(m n d:Int)(hw:Region.wanted o (yielded ops a.tmps)=true)(ho:o.op=.binOp .rem t x y yt)(hx:a.eval x=.int .i64 m)(hy:a.eval y=.int .i64 n)
 (hd:m%n=d)(h1:0<=m)(h2:0<n)(h:wpPi P ops Q S r (a.put o.dst (.int .i64 d)) w):wpPi P ops Q S ((o,3)::r) a w:=by
 subst hd;exact wpPi_rem t x y yt m n hw ho hx hy h1 h2 h
theorem wpPi_quoR{P:Program}{ops:Array Oper}{Q:Exit->Act->World->Prop}{S:World->Prop}{o:Oper}{r:List (Oper×Nat)}{a:Act}{w:World}(t:TypeId)(x y:Operand)(yt:TypeId)(m n d:Int)(hw:Region.wanted o (yielded ops a.tmps)=true)(ho:o.op=.binOp .quo t x y yt)(hx:a.eval x=.int .i64 m)(hy:a.eval y=.int .i64 n)
 (hd:m.tdiv n=d)(h2:n≠0)(h3:-9223372036854775808<=d)(h4:d<=9223372036854775807)(h:wpPi P ops Q S r (a.put o.dst (.int .i64 d)) w):wpPi P ops Q S ((o,3)::r) a w:=by
 subst hd;exact wpPi_quo t x y yt m n hw ho hx hy h2 h3 h4 h
theorem idZ:(prog.info? 24).bind (·.zero)=some (.agg (qA (List.replicate 32 0))):=by kernel_rfl
def lenV:Value->Nat
 | .slice _ n _=>n
 |_=>0
def padM(n:Nat):Nat:=(120-n%64)%64
theorem Bts.slice{base:Nat}{w:World}{v:Value}{xs:List UInt8}(h:Bts base w v xs):∃ad cap,v=.slice ad xs.length cap:=by
 rcases h.2 with⟨rfl,h0⟩|⟨g,cap,cur,rfl,_⟩
 ·exact⟨_,_,by rw[h0]⟩
 ·exact⟨_,_,rfl⟩
theorem Bts.len{base:Nat}{w:World}{v:Value}{xs:List UInt8}(h:Bts base w v xs):lenV v=xs.length:=by
 obtain⟨ad,cap,rfl⟩:=h.slice;rfl
def padJ(l:List UInt8)(j:Nat):List UInt8:=l++[128]++List.replicate j 0
theorem padJ_len(l:List UInt8)(j:Nat):(padJ l j).length=l.length+1+j:=by simp[padJ];omega
theorem padJ_succ(l:List UInt8)(j:Nat):padJ l j++[0]=padJ l (j+1):=by simp[padJ,List.replicate_succ']
def PadRel(w0:World)(l:List UInt8)(v:Value)(w:World):Prop:=∃j,j<=padN l.length/\Bts w0.heap.size w v (padJ l j)/\Mod NoB w0 w
def LenRel(w0:World)(X:List UInt8)(n:Nat)(v i:Value)(w:World):Prop:=∃k:Nat,k<=8/\i=.int .i64 k/\Bts w0.heap.size w v (X++(xS n).take k)/\Mod NoB w0 w
theorem lenBytes_step(n k:Nat)(h:k<8):(xS n).take (k+1)=(xS n).take k++[UInt8.ofNat (n*8/2^(56-8*k))]:=by
 rw[List.take_add_one]
 congr 1
 simp[xS,h]
def BlkRel(w0:World)(b4:Nat)(s:W8)(Y:List UInt8)(v:Value)(w:World):Prop:=∃k,64*k<=Y.length/\w.heap[b4]?=some (.cells (qK (zY k s Y).list) 328 (0,0))/\
 Sl false w (fun g=>w0.heap.size<=g) 1 ByteC v (Y.drop (64*k))/\Mod (fun q=>q=b4) w0 w
theorem words_row(c:W8)(j:Nat)(h:j<8):(qK c.list)[0+j]?=some (wordV (c.list.getD j 0)):=by
 match j,h with
 |0,_|1,_|2,_|3,_|4,_|5,_|6,_|7,_=>rfl
theorem words_put(c d:W8):qZ (qK c.list) 0 (qK d.list)=qK d.list:=rfl
def outRow(c:W8)(i:Nat):Array Value:=qA ((outL c).take i++List.replicate (32-i) 0)
theorem outL_len(c:W8):(outL c).length=32:=by simp[outL]
theorem outRow_size(c:W8)(i:Nat)(h:i<=32):(outRow c i).size=32:=by simp[outRow,qD,outL_len];omega
theorem outRow_step(c:W8)(i:Nat)(h:i<32):(outRow c i).setIfInBounds i (byteV (outByte c i))=outRow c (i+1):=by
 have hl:=outL_len c;have hg:(outL c)[i]?=some (outByte c i):=by simp[outL,h]
 apply Array.ext_getElem?;intro k
 rw[Array.getElem?_setIfInBounds,outRow_size c i (by omega)];simp only[outRow,qA,List.getElem?_toArray,List.getElem?_map]
 by_cases e:i=k
 ·subst e
  rw[if_pos rfl,if_pos h,List.getElem?_append_left (by rw[List.length_take];omega),List.getElem?_take_of_lt (by omega),hg];rfl
 ·rw[if_neg e]
  congr 1
  rcases Nat.lt_or_ge k i with h1|h1
  ·rw[List.getElem?_append_left (by rw[List.length_take];omega),List.getElem?_append_left (by rw[List.length_take];omega),List.getElem?_take_of_lt h1,List.getElem?_take_of_lt (by omega)]
  ·rw[List.getElem?_append_right (by rw[List.length_take];omega),List.getElem?_append_right (by rw[List.length_take];omega),List.length_take,List.length_take,List.getElem?_replicate,List.getElem?_replicate]
   by_cases h2:k<32
   ·rw[if_pos (by omega),if_pos (by omega)]
   ·rw[if_neg (by omega),if_neg (by omega)]
def OutRel(w0:World)(b2 b4:Nat)(c:W8)(i:Value)(w:World):Prop:=∃n:Nat,n<=32/\i=.int .i64 n/\w.heap[b2]?=some (.cells (outRow c n) 24 (0,0))/\w.heap[b4]?=some (.cells (qK c.list) 328 (0,0))/\Mod (fun q=>q=b2) w0 w
theorem xC{P:Program}{fn:Func}{p u:Tmp}{ty:TypeId}(h:fn.results=#[.cell p ty,.tmp u])(tmps:Array Value)(w:World)(g:Nat)(t:TypeId)(cs:Array Value)(fr:Nat×Nat)(d:TypeDesc)
 (hp:tmps.getD p undef=.pointer (some ⟨g,0,none⟩))(hg:w.heap[g]?=some (.cells cs t fr))
 (hu:P.underlying ty=some d)(hd:(match d with| .struct _| .array _ _=>true|_=>false)=true)(hi:(P.info? ty).map (·.size)=some cs.size):
 (results fn tmps).run P w=.ok (.tuple #[.agg cs,tmps.getD u undef]) w:=by
 have hp':tmps[p]?.getD undef=.pointer (some ⟨g,0,none⟩):=by simpa using hp
 simp[results,h,hp',asAddr,run_loadVar_row w g t ty cs fr d hg hu hd hi]
def SumR(w:World)(r:List UInt8):Ending->World->Prop:=fun e w'=>e=.returned (.tuple #[.agg (qA r),.int .i64 0])/\Mod NoB w w'
theorem shaHSum_any{own:Bool}{G:Nat->Prop}{rest:Value}{l:List UInt8}{s:W8}{n bh:Nat}{w:World}(hb:Sl own w G 1 ByteC rest l)(hl:l.length<64)(hn:n<=140737488355328)(hnl:n%64=l.length)
 (hrow:w.heap[bh]?=some (.cells (yN s rest n) 331 (0,0))):
 Calls prog 184 #[.pointer (some ⟨bh,0,none⟩)] w (SumR w (outL (zY ((padJ l (padN n)++xS n).length/64) s (padJ l (padN n)++xS n)))):=by
 have hbS:=hid hb;clear hb;go_enter func184,ntmps184;go_upto_region 0 with(fail);refine wpR [1,3] ?_;simp only[stz]
 refine wpD (qP 24 _ (by rfl) idZ (fun w1 hB1 hm1 hs1=>?_));replace hB1:w1.heap[w.heap.size]?=some (.cells (qA (List.replicate 32 0)) 24 (0,0)):=hB1
 simp only[stz];replace hrow:=hm1.obj id hrow;have hW1:=hB1;have hc10:w1.cell? ⟨bh,10,none⟩=some (.bool true):=by rw[cell_of_row _ _ _ _ _ _ hrow];rfl
 go_upto_region 3 with(go_at_call 226;refine(shaNone_at bh _ hc10).mono ?_;rintro _ w3 ⟨rfl,hw⟩;obtain rfl:=hw.symm);refine wpR [3,3,3,1,1,1] ?_;simp only[stz]
 refine wpXA 328 bh 0 (qK s.list) (words_at hrow (fun k hk=>hashRow_at _ _ _ k hk)) underlying328 8 (by rw[qH];rfl) trivial ?_;try simp only[nmz]
 refine wpD (qP 328 _ (by rfl) wordsZ (fun w2 hB2 hm2 hs2=>?_));replace hB2:w2.heap[w1.heap.size]?=some (.cells (qK (List.replicate 8 0)) 328 (0,0)):=hB2
 try simp only[nmz]
 refine wpD (qF 328 _ _ w1.heap.size 0 (qK s.list) (by rfl) (by rfl) (by rfl) (zO _) 8 (by kernel_rfl) (by rw[qH];rfl) _ _ hB2 (by rw[qH,qH];simp[W8.list]) (fun w3 hB3 hm3=>?_))
 rw[qC (by rw[qH,qH];simp[W8.list])]at hB3;simp only[stz];have hs3:=hm3.size;have hM13:Mod NoB w1 w3:=hm2.transB hm3 (Nat.le_refl _)
 have hM3:Mod NoB w w3:=hm1.trans0 hM13;replace hB1:=hM13.obj id hB1;replace hrow:=hM13.obj id hrow;clear hm2 hm3 hB2 hc10;go_upto_region 4 with(fail)
 refine wpR [3,3,3,1,1,1,1,3] ?_;simp only[stz];refine wpXd (v:=rest) 53 bh 8 (by rw[cell_of_row _ _ _ _ _ _ hrow];rfl) underlying53 trivial ?_;try simp only[nmz]
 refine wpD (wpC func93 (bytesClone_any (hbS.out.keep0 hM3) (by omega)) ?_);rintro e w4 ⟨v4,rfl,ho4,hm4⟩;refine⟨_,rfl,?_⟩;try simp only[nmz]
 refine wpD (qU 53 5 _ (byteV 128) (.int .u8 0) 1 (by rfl) (by rfl) underlying53 (by kernel_rfl) (by omega) (by omega) (by rfl) (fun w5 hB5 hm5 hs5=>?_))
 replace hB5:w5.heap[w4.heap.size]?=some (.cells #[byteV 128] 5 (0,0)):=hB5;try simp only[nmz]
 refine wpDo rfl ?_;have hs4:=hm4.size
 refine xV _ _ (by rfl) w3.heap.size _ l (by rfl) (ho4.keep hm5 (fun _ _=>id)) (.slice (some ⟨w4.heap.size,0,none⟩) 1 1) [128] (by rfl) (jD (owns_lit hB5)) (by simp;omega) (by omega) (fun v6 w6 ho6 hm6=>?_)
 simp only[stz];have hM6:Mod NoB w3 w6:=(hm4.trans0 hm5).trans hm6 (fun k hk e=>by have:=(ho4.lt e).1;omega);have hpN:padN n=padN l.length:=by unfold padN;omega
 rw[hpN];replace hs3:w3.heap.size<=w6.heap.size:=hM6.size;clear hM13 hm4 hm5 hm6 ho4 hB5 hs5 hs2 hs1 hm1;go_wp2
 go_loopw [5] (PadRel w3 l) (fun v _=>padM (lenV v))
 case atStart=>exact⟨0,Nat.zero_le _,by simpa[padJ]using ho6,hM6⟩
 case round=>
  rename World=>wr
  clear ho6 hM6 hs3;obtain⟨j,hj,hob,hM⟩:=hrel;have hoH:=hid hob;have hjl:=padJ_len l j;have hpad:padN l.length<64:=by unfold padN;omega
  have hPS:=hid (padJ_succ l j);obtain⟨ad,cap,rfl⟩:=hob.slice;clear hob;have hwr:=hM.size;go_upto_region 5 with(fail)
  by_cases h56:(l.length+1+j)%64=56
  ·skip
   refine wpR [3,3,3,3] ?_;simp only[stz];refine wpPL ?_;simp only[nmz]
   refine wpPi_remR _ _ _ _ ((padJ l j).length:Int) 64 56 rfl rfl rfl rfl (by omega) (by omega) (by omega) ?_;simp only[nmz]
   refine qG _ _ _ _ _ _ _ _ rfl rfl rfl rfl rfl false (by rfl) ?_;simp only[stz];have hj2:j=padN l.length:=by unfold padN at hj |-;omega
   subst hj2;clear hPS h56 hj;generalize hX:padJ l (padN l.length)=X at hoH hjl |-;have HX:=hid hX;go_wp2
   go_loopw [5,29] (LenRel w3 X n) (fun _ i _=>8-(intOf i).toNat)
   case atStart=>exact⟨0,by omega,rfl,by simpa using hoH.out,hM⟩
   case round=>
    rename World=>wq
    clear hoH hM hwr;obtain⟨k,hk,rfl,hob,hM⟩:=hrel;obtain⟨Y,hY⟩:∃Y,X++(xS n).take k=Y:=⟨_,rfl⟩;rw[hY]at hob
    have hYl:Y.length=X.length+k:=by rw[<-hY,List.length_append,List.length_take,lenBytes_len];omega
    have hoH:=hid hob;obtain⟨ad2,cap2,rfl⟩:=hob.slice;clear hob;have hwq:=hM.size;have hrowq:=hM.obj id hrow
    by_cases hlt:k<8
    ·have hz:(k:Int)<8:=by omega
     have hstep:Y++[UInt8.ofNat (n*8/2^(56-8*k))]=X++(xS n).take (k+1):=by rw[lenBytes_step n k hlt,<-hY,List.append_assoc]
     have hcv:IntKind.u64.wrap (n:Int)=(n:Int):=by simp[IntKind.wrap,IntKind.bits,IntKind.signed];omega
     have HSTEP:=hid hstep;have HCV:=hid hcv;have HYY:=hid hY;clear hstep hcv hY;obtain⟨y,hy⟩:∃y,UInt8.ofNat (n*8/2^(56-8*k))=y:=⟨_,rfl⟩
     have HY:=hid hy;clear hy;go_upto_region 10 with(fail);refine wpR [3,3,3,3,1,3,3,3,3,3,3,3,1,1,3] ?_;simp only[stz]
     refine wpXd (v:=(.int .i64 (n:Int))) 3 bh 9 (by rw[cell_of_row _ _ _ _ _ _ hrowq];rfl) underlying3 trivial ?_;try simp only[nmz]
     refine qE (v:=.int .u64 (n:Int)) rfl (fun w'=>exec_conv_uint 3 300 _ _ rfl rfl (by kernel_rfl) underlying300 _ HCV.out) ?_;simp only[nmz]
     refine qE (v:=.int .u64 ((n*8:Nat):Int)) rfl (fun w'=>exec_mul64 _ _ _ _ n 8 (n*8) rfl rfl rfl rfl (by omega)) ?_;simp only[stz]
     refine xG _ _ _ _ 8 (k:Int) ((8*k:Nat):Int) rfl rfl rfl rfl (by omega) (by omega) (by omega) ?_;simp only[nmz]
     refine zR _ _ _ _ 56 ((8*k:Nat):Int) ((56-8*k:Nat):Int) rfl rfl rfl rfl (by omega) (by omega) (by omega) ?_;simp only[nmz]
     refine qE (v:=.int .u64 ((n*8/2^(56-8*k):Nat):Int)) rfl (fun w'=>exec_shr64 _ _ _ _ (n*8) .i64 (56-8*k) rfl rfl rfl (by omega) (by omega)) ?_
     simp only[nmz];refine qE (v:=byteV y) rfl (fun w'=>by rw[<-HY.out];exact exec_byte_of_u64 _ _ _ _ rfl rfl (by kernel_rfl) underlying5) ?_;simp only[nmz]
     refine wpD (qU 53 5 _ (byteV y) (.int .u8 0) 1 (by rfl) (by rfl) underlying53 (by kernel_rfl) (by omega) (by omega) (by rfl) (fun w7 hB7 hm7 hs7=>?_))
     replace hB7:w7.heap[wq.heap.size]?=some (.cells #[byteV y] 5 (0,0)):=hB7;try simp only[nmz]
     refine wpD (xV _ _ (by rfl) w3.heap.size _ Y (by rfl) (hoH.out.keep hm7 (fun _ _=>id)) (.slice (some ⟨wq.heap.size,0,none⟩) 1 1) [y] (by rfl) (jD (owns_lit hB7)) (by simp;omega) (by omega) (fun v8 w8 ho8 hm8=>?_))
     rw[<-HY.out,HSTEP.out]at ho8;have hM8:Mod NoB w3 w8:=(hM.trans0 hm7).trans hm8 (fun k hk e=>by have:=(hoH.out.lt e).1;omega);simp only[stz]
     clear hm8 hm7 hB7 hs7 hrowq;go_wp2
     go_roundw
     case rel=>exact⟨k+1,by omega,by go_num,ho8,hM8⟩
     case measure=>simp[intOf];omega
    ·have hz:¬(k:Int)<8:=by omega
     obtain rfl:k=8:=by omega
     have hYX:X++xS n=Y:=by rw[<-hY,List.take_of_length_le (by rw[lenBytes_len];omega)]
     have hY64:Y.length%64=0:=by unfold padN at hjl hpad;omega
     have HYX:=hid hYX;clear hYX
     have hsl:Sl false wq (fun g=>w3.heap.size<=g) 1 ByteC (.slice ad2 Y.length cap2) Y:=((hoH.out.sl).mono (G':=fun g=>w3.heap.size<=g) (fun k hk=>hk.1) (fun _ _ h=>h)).weak
     have hrow4:=hM.obj id hB3;have hMB:Mod (fun q=>q=w1.heap.size) w3 wq:=hM.mono (fun _ _ h=>h.elim)
     have hb1:w.heap.size<w1.heap.size:=by
      rcases Nat.lt_or_ge w.heap.size w1.heap.size with h|h
      ·exact h
      ·exfalso;rw[Array.getElem?_eq_none (by omega)]at hW1;cases hW1
     have hb3:w1.heap.size<w3.heap.size:=by
      rcases Nat.lt_or_ge w1.heap.size w3.heap.size with h|h
      ·exact h
      ·rw[Array.getElem?_eq_none h]at hB3;cases hB3
     clear hoH hM hwq hrowq hY hX hjl hpad hz hk;go_wp2
     go_loopw [5] (BlkRel w3 w1.heap.size s Y) (fun v _=>lenV v)
     case atStart=>exact⟨0,by omega,hrow4,hsl,hMB⟩
     case round=>
      rename World=>wv
      clear hrow4 hsl hMB;obtain⟨k,hk,hrow4,hsl,hM⟩:=hrel;obtain⟨r,hr⟩:∃r,Y.drop (64*k)=r:=⟨_,rfl⟩
      have hrl:r.length=Y.length-64*k:=by rw[<-hr,List.length_drop]
      rw[hr]at hsl;have hslH:=hid hsl;obtain⟨ad3,cap3,rfl,hle3,hmx3,-⟩:=hsl
      by_cases hz:(0:Int)<(r.length:Int)
      ·have hlt:64<=r.length:=by omega
       go_upto_region 14 with(fail);refine wpR [3,3,1] ?_;simp only[stz];refine yK 53 5 _ _ _ _ _ 64 1 rfl rfl rfl rfl underlying53 (by kernel_rfl) (by omega) ?_
       simp only[nmz]
       refine wpD (wpC func227 (block_any (hslH.out.fst 64 hlt) (by rw[List.length_take];omega) w1.heap.size 0 _ _ (zY k s Y) hrow4 (by rw[qH];simp[W8.list]) (fun j hj=>words_row _ j hj)) ?_)
       rintro e w5 ⟨rfl,hB5,hm5⟩;rw[words_put]at hB5;refine⟨_,rfl,?_⟩;simp only[stz];go_upto_region 13 with(fail);refine wpR [3,3,3] ?_;simp only[stz]
       refine yA 53 5 _ _ _ _ _ 64 1 rfl rfl rfl rfl underlying53 (by kernel_rfl) hlt ?_;simp only[stz]
       have hM6:Mod (fun q=>q=w1.heap.size) w3 w5:=hM.trans hm5 (fun _ _ h=>h)
       have hsl6:=(hslH.out.cut 64 hlt).keepB hm5 (fun k hk=>by have hk':w3.heap.size<=k:=hk;omega)
       have hd:r.drop 64=Y.drop (64*(k+1)):=by rw[<-hr,List.drop_drop];congr 1
       have hblk:blockL (zY k s Y) (r.take 64)=zY (k+1) s Y:=by rw[blocksL_add,hr];rfl
       rw[hblk]at hB5;rw[hd]at hsl6;have HW6:Hid (BlkRel w3 w1.heap.size s Y (sliced ad3 64 r.length cap3 1) w5):=⟨k+1,by omega,hB5,hsl6,hM6⟩
       have HME:Hid (lenV (sliced ad3 64 r.length cap3 1)<r.length):=by
        show r.length-64<r.length
        omega
       clear hB5 hsl6 hM6 hm5 hblk hd hrow4;go_wp2
       go_roundw
       case rel=>exact HW6.out
       case measure=>exact HME.out
      ·have hkk:Y.length/64=k:=by omega
       obtain⟨c,hc⟩:∃c,zY k s Y=c:=⟨_,rfl⟩;rw[hc]at hrow4
       have HCC:Hid (zY (Y.length/64) s Y=c):=by
        show zY (Y.length/64) s Y=c
        rw[hkk];exact hc
       have hrow2:=hM.objB (by omega) hB1;clear hc hkk hslH hr hrl hle3 hmx3 hk hY64
       have hr2:wv.heap[w.heap.size]?=some (.cells (outRow c 0) 24 (0,0)):=by
        have e:outRow c 0=qA (List.replicate 32 0):=by simp[outRow]
        rw[e];exact hrow2
       have hMw:Mod NoB w wv:=hM3.transB hM (by omega);clear hrow2;go_wp2
       go_loopw [55] (OutRel wv w.heap.size w1.heap.size c) (fun i _=>32-(intOf i).toNat)
       case atStart=>exact⟨0,by omega,rfl,hr2,hrow4,Mod.refl _ _⟩
       case round=>
        rename World=>wu
        clear hr2 hrow4;obtain⟨i,hi,rfl,hr2,hrow4,hMu⟩:=hrel;have hosz:=outRow_size c i hi
        by_cases hlt:i<32
        ·have hzi:(i:Int)<32:=by omega
         have HST:=hid (outRow_step c i hlt);have hq4:i/4<8:=by omega
         have hw4:=word8 hrow4 (i/4) hq4;obtain⟨x,hx⟩:∃x,c.list.getD (i/4) 0=x:=⟨_,rfl⟩;rw[hx]at hw4
         have hy:UInt8.ofNat (shrU x (24-8*(i%4))).toNat=outByte c i:=by unfold outByte;rw[hx]
         have HY:=hid hy;clear hy hx;generalize outByte c i=y at*;go_upto_region 18 with(fail);refine wpR [3,3,3,3,1,3,3,3,3,3,3,3,1] ?_;simp only[stz]
         refine wpPi_quoR _ _ _ _ (i:Int) 4 ((i/4:Nat):Int) rfl rfl rfl rfl (by rw[Int.tdiv_eq_ediv_of_nonneg (by omega)];omega) (by omega) (by omega) (by omega) ?_
         simp only[nmz];refine qJ _ _ _ _ _ _ _ _ rfl rfl rfl rfl underlying328 (n:=1) (by kernel_rfl) hq4 ?_;simp only[nmz]
         refine wpXd (v:=(wordV x)) 301 w1.heap.size (i/4*1) (by rw[Nat.mul_one];exact hw4) underlying301 trivial ?_;simp only[stz]
         refine wpPi_remR _ _ _ _ (i:Int) 4 ((i%4:Nat):Int) rfl rfl rfl rfl (by omega) (by omega) (by omega) ?_;simp only[nmz]
         refine xG _ _ _ _ 8 ((i%4:Nat):Int) ((8*(i%4):Nat):Int) rfl rfl rfl rfl (by omega) (by omega) (by omega) ?_;simp only[nmz]
         refine zR _ _ _ _ 24 ((8*(i%4):Nat):Int) ((24-8*(i%4):Nat):Int) rfl rfl rfl rfl (by omega) (by omega) (by omega) ?_;simp only[nmz]
         refine jO _ _ _ _ _ .i64 (24-8*(i%4)) rfl rfl rfl rfl (by omega) ?_;simp only[nmz]
         refine qE (v:=byteV y) rfl (fun w'=>by rw[<-HY.out];exact exec_byte_of_word _ _ _ _ rfl rfl (by kernel_rfl) underlying5) ?_;simp only[nmz]
         refine qJ _ _ _ _ _ _ _ _ rfl rfl rfl rfl underlying24 (n:=1) (by kernel_rfl) hlt ?_;simp only[nmz]
         refine wpD (qT 5 _ _ w.heap.size (i*1) (byteV y) (by rfl) (by rfl) (by rfl) rfl (by kernel_rfl) _ _ hr2 (by rw[hosz];omega) (fun w9 hB9 hm9=>?_))
         rw[Nat.mul_one,HST.out]at hB9;have hrow9:=hm9.objB (by omega) hrow4;have hM9:Mod (fun q=>q=w.heap.size) wv w9:=hMu.trans hm9 (fun _ _ h=>h)
         simp only[stz];clear hm9 hr2 hrow4 hw4;go_wp2
         go_roundw
         case rel=>exact⟨i+1,by omega,by go_num,hB9,hrow9,hM9⟩
         case measure=>simp[intOf];omega
        ·have hzi:¬(i:Int)<32:=by omega
         obtain rfl:i=32:=by omega
         have hout:outRow c 32=qA (outL c):=by simp[outRow,List.take_of_length_le (Nat.le_of_eq (outL_len c))]
         rw[hout]at hr2 hosz;go_upto_region 20 with(fail);refine wpR [1,1,3] ?_;simp only[stz]
         refine wpXA 24 w.heap.size 0 (qA (outL c)) (CellsAt.whole hr2) underlying24 32 hosz trivial ?_;try simp only[nmz]
         refine wpD (qF 24 _ _ w.heap.size 0 (qA (outL c)) (by rfl) (by rfl) (by rfl) (qR _) 32 (by kernel_rfl) hosz _ _ hr2 (by omega) (fun w9 hB9 hm9=>?_))
         rw[qC (by rfl)]at hB9;simp only[stz];have hM9:Mod NoB w w9:=(hMw.transB hMu (Nat.le_refl _)).transB hm9 (Nat.le_refl _);clear hm9 hr2 hrow4 hMu;go_wp2
         refine bodyPost_ret (xC rfl _ _ w.heap.size _ _ _ _ (by rfl) hB9 underlying24 rfl (by rw[hosz];kernel_rfl)) rfl ?_;refine⟨?_,hM9⟩
         rw[HX.out,<-List.length_append,HYX.out,HCC.out]
         rfl
  ·obtain⟨q,hq⟩:∃q:Nat,(padJ l j).length%64=q:=⟨_,rfl⟩
   have hq56:q≠56:=by rw[<-hq,hjl];exact h56
   refine wpR [3,3,3,3] ?_;simp only[stz];refine wpPL ?_;simp only[nmz]
   refine wpPi_remR _ _ _ _ ((padJ l j).length:Int) 64 (q:Int) rfl rfl rfl rfl (by omega) (by omega) (by omega) ?_;simp only[nmz]
   refine qG _ _ _ _ _ _ _ _ rfl rfl rfl rfl rfl true (by simp[cmpB];omega) ?_;simp only[stz]
   have hjlt:j<padN l.length:=by
    rcases Nat.lt_or_ge j (padN l.length)with h|h
    ·exact h
    ·exfalso;unfold padN at hj h hpad;omega
   go_upto_region 6 with(fail);refine wpR [3,1,1,3] ?_;simp only[stz]
   refine wpD (qU 53 5 _ (byteV 0) (.int .u8 0) 1 (by rfl) (by rfl) underlying53 (by kernel_rfl) (by omega) (by omega) (by rfl) (fun w7 hB7 hm7 hs7=>?_))
   replace hB7:w7.heap[wr.heap.size]?=some (.cells #[byteV 0] 5 (0,0)):=hB7;try simp only[nmz]
   refine wpD (xV _ _ (by rfl) w3.heap.size _ (padJ l j) (by rfl) (hoH.out.keep hm7 (fun _ _=>id)) (.slice (some ⟨wr.heap.size,0,none⟩) 1 1) [0] (by rfl) (jD (owns_lit hB7)) (by simp;omega) (by omega) (fun v8 w8 ho8 hm8=>?_))
   rw[hPS.out]at ho8;have hM8:Mod NoB w3 w8:=(hM.trans0 hm7).trans hm8 (fun k hk e=>by have:=(hoH.out.lt e).1;omega);simp only[stz]
   have hME:Hid (padM (lenV v8)<padM (padJ l j).length):=by
    show _<_
    rw[ho8.len,padJ_len,padJ_len];unfold padM;omega
   have HR:Hid (PadRel w3 l v8 w8):=⟨j+1,hjlt,ho8,hM8⟩;clear ho8 hM8 hm8 hm7 hB7;go_wp2
   go_roundw
   case rel=>exact HR.out
   case measure=>exact hME.out
theorem Sl.bound{own:Bool}{w:World}{G:Nat->Prop}{v:Value}{l:List UInt8}(h:Sl own w G 1 ByteC v l):Sl own w (fun k=>k<w.heap.size) 1 ByteC v l:=by
 obtain⟨ad,cap,e,h1,h2,h3⟩:=h;refine⟨ad,cap,e,h1,h2,fun hne=>?_⟩;obtain⟨b,off,ha,hG,ho,hc⟩:=h3 hne;refine⟨b,off,ha,?_,ho,hc⟩
 cases l with
 |nil=>exact absurd rfl hne
 |cons x l=>
  obtain⟨cs,_,rfl,hcs⟩:=hc 0 (by simp);exact block_lt_of_cell (CellsAt.one.1 hcs)
theorem sha_split(m:List UInt8):outL (zY ((padJ (m.drop (64*(m.length/64))) (padN m.length)++xS m.length).length/64) (zY (m.length/64) shaBegin m) (padJ (m.drop (64*(m.length/64))) (padN m.length)++xS m.length))=shaL m:=by
 have hX:padJ (m.drop (64*(m.length/64))) (padN m.length)++xS m.length=(padL m).drop (64*(m.length/64)):=by
  unfold padJ padL;rw[List.append_assoc,List.append_assoc,List.append_assoc,List.append_assoc,List.drop_append_of_le_length (by omega)]
 rw[hX,List.length_drop];have hl:=padL_len m;have hk:(padL m).length/64=m.length/64+((padL m).length-64*(m.length/64))/64:=by omega
 unfold shaL;rw[hk,blocksL_add]
 congr 2
 unfold padL;rw[List.append_assoc,List.append_assoc,blocksL_app _ _ _ _ (by omega)]
theorem shaSum_any{own:Bool}{G:Nat->Prop}{v:Value}{m:List UInt8}{w:World}(hb:Sl own w G 1 ByteC v m)(hl:m.length<=140737488355328):
 Calls prog 96 #[v] w (RetM (.agg (qA (shaL m))) w):=by
 have hbS:=hid hb.bound;have HSP:=hid (sha_split m);have hxl:(qA (shaL m)).size=32:=by rw[qD];exact shaL_len m
 obtain⟨x,hx⟩:∃x,shaL m=x:=⟨_,rfl⟩;rw[hx]at hxl HSP |-;clear hb hx;go_enter func96,ntmps96;go_upto_region 0 with(fail);refine wpR [1] ?_;simp only[stz]
 refine wpD (qP 24 _ (by rfl) idZ (fun w1 hB1 hm1 hs1=>?_));replace hB1:w1.heap[w.heap.size]?=some (.cells (qA (List.replicate 32 0)) 24 (0,0)):=hB1
 simp only[stz];go_upto_region 1 with(fail);refine wpR [1,3] ?_;simp only[stz];refine wpD (wpC func182 (shaNew_any _) ?_);rintro e w2 ⟨bh,rfl,hb1,hb2,hrow,hm2⟩
 refine⟨_,rfl,?_⟩;simp only[stz];have hM2:=hm1.trans0 hm2;go_upto_region 2 with(fail);refine wpR [3,3,1] ?_;simp only[stz]
 refine wpD (wpC func183 (shaWrite_any (hbS.out.keep0 hM2) hl bh (fun k hk=>by have:=hm1.size;have hk':k<w.heap.size:=hk;omega) hrow) ?_)
 rintro e w3 ⟨rfl,rest,hrow3,hsl3,hm3⟩;refine⟨_,rfl,?_⟩;simp only[stz];have hM3:Mod NoB w1 w3:=hm2.transB hm3 hb1;replace hB1:=hM3.obj id hB1
 replace hM3:=hm1.trans0 hM3;clear hM2 hm1 hm2 hm3 hrow;have hs3:=hM3.size;go_upto_region 3 with(fail);refine wpR [3,1,3,3,3,1,1,3] ?_;simp only[stz]
 refine wpD (wpC func184 (shaHSum_any hsl3 (by rw[List.length_drop];omega) hl (by rw[List.length_drop];omega) hrow3) ?_);rintro e w4 ⟨rfl,hm4⟩;rw[HSP.out];refine⟨_,rfl,?_⟩
 simp only[stz];refine qE (v:=?_) rfl (fun w'=>?_) ?_;rotate_left;·(go_simp;try with_reducible rfl)
 simp only[nmz];refine qE (v:=?_) rfl (fun w'=>?_) ?_;rotate_left;·(go_simp;try with_reducible rfl)
 simp only[nmz];refine wpD (qP 24 _ (by rfl) idZ (fun w5 hB5 hm5 hs5=>?_))
 replace hB5:w5.heap[w4.heap.size]?=some (.cells (qA (List.replicate 32 0)) 24 (0,0)):=hB5;try simp only[nmz]
 refine wpD (qF 24 _ _ w4.heap.size 0 (qA x) (by rfl) (by rfl) (by rfl) (qR _) 32 (by kernel_rfl) hxl _ _ hB5 (by rw[hxl,qD];simp) (fun w6 hB6 hm6=>?_))
 rw[qC (by rw[hxl,qD];rfl)]at hB6;simp only[stz];have hM46:Mod NoB w4 w6:=hm5.transB hm6 (Nat.le_refl _);have hM36:=hm4.trans0 hM46
 have hB2:=hM36.obj id hB1;have hM6:=hM3.trans0 hM36;clear hB1 hM46 hM36 hm5 hm6 hm4 hB5;go_upto_region 4 with(fail);refine wpR [1,1] ?_;simp only[stz]
 refine wpXA 24 w4.heap.size 0 (qA x) (CellsAt.whole hB6) underlying24 32 hxl trivial ?_;try simp only[nmz]
 refine wpD (qF 24 _ _ w.heap.size 0 (qA x) (by rfl) (by rfl) (by rfl) (qR _) 32 (by kernel_rfl) hxl _ _ hB2 (by rw[hxl,qD];simp) (fun w7 hB7 hm7=>?_))
 rw[qC (by rw[hxl,qD];rfl)]at hB7;simp only[stz];have hM7:=hM6.transB hm7 (Nat.le_refl _);clear hm7 hB2;go_wp2
 refine bodyPost_ret (results_cell_row rfl _ _ w.heap.size _ _ _ _ (by rfl) hB7 underlying24 rfl (by rw[hxl];kernel_rfl)) rfl ?_;exact⟨rfl,hM7⟩
theorem w8Z:(prog.info? 302).bind (·.zero)=some (.agg (qK (List.replicate 8 0))):=by kernel_rfl
theorem yB(x:UInt32)(n:Nat)(h:0<n/\n<32)(w:World):Calls prog 237 #[wordV x,.int .i64 (n:Int)] w (RetM (wordV (rotr x n)) w):=by
 have hc:rotr x n=shrU x n ||| shlU x (32-n):=by unfold rotr;exact UInt32.or_comm _ _
 rw[hc];clear hc;go_enter func237,ntmps237;go_upto_region 1 with(fail);refine wpRZ [3,3,3,3,3,3,3,3,3] [] (fun _=>True) trivial ?_;simp only[stz]
 refine jO _ _ _ _ _ .i64 n rfl rfl rfl rfl (by omega) ?_;simp only[stz]
 refine zR _ _ _ _ 32 (n:Int) ((32-n:Nat):Int) rfl rfl rfl rfl (by omega) (by omega) (by omega) ?_;simp only[nmz]
 refine jP _ _ _ _ _ .i64 (32-n) rfl rfl rfl rfl (by omega) ?_;simp only[nmz];refine wpPi_or32 _ _ _ _ _ _ rfl rfl rfl rfl ?_;simp only[stz];go_wp2;go_ret
 exact⟨rfl,(Mod.refl _ _).drew⟩
theorem refKeys_any(w:World):Calls prog 238 #[] w (RetM (.agg (qK shaKeys)) w):=by
 go_enter func238,ntmps238;go_upto_region 0 with(fail);refine wpR [1] ?_;simp only[stz];refine wpD (qP 340 _ (by rfl) w64Z (fun w1 hB1 hm1 hs1=>?_))
 replace hB1:w1.heap[w.heap.size]?=some (.cells (qK (List.replicate 64 0)) 340 (0,0)):=hB1;simp only[stz];go_upto_region 1 with(fail);refine wpR [1,1] ?_
 simp only[stz];refine wpX rfl (qL 340 _ _ (qK shaKeys) (by rfl) (by rfl) (by kernel_rfl)) trivial ?_;try simp only[nmz]
 refine wpD (qF 340 _ _ w.heap.size 0 (qK shaKeys) (by rfl) (by rfl) (by rfl) (zO _) 64 (by kernel_rfl) (by kernel_rfl) _ _ hB1 (by rw[qH,qH];simp[shaKeys]) (fun w2 hB2 hm2=>?_))
 simp only[stz];rw[qC (by kernel_rfl)]at hB2;go_wp2
 refine bodyPost_ret (results_cell_row rfl _ _ w.heap.size _ _ _ _ (by rfl) hB2 underlying340 rfl (by kernel_rfl)) rfl ?_;exact⟨rfl,hm1.transB hm2 (Nat.le_refl _)⟩
def SprRel(b:List UInt8)(lo hi b5:Nat)(w0:World)(i:Value)(w:World):Prop:=∃n:Nat,lo<=n/\n<=hi/\i=.int .i64 n/\w.heap[b5]?=some (.cells (qK (rowW b n)) 340 (0,0))/\Mod (fun k=>k=b5) w0 w
def RndRel(w0:World)(b2 b4 b10 b11 b5:Nat)(sp:List UInt32)(s:W8)(i:Value)(w:World):Prop:=∃n:Nat,n<=64/\i=.int .i64 n/\w.heap[b10]?=some (.cells (qK (rounds shaKeys sp n s).list) 302 (0,0))/\
 w.heap[b11]?=some (.cells (qK shaKeys) 340 (0,0))/\w.heap[b5]?=some (.cells (qK sp) 340 (0,0))/\w.heap[b2]?=some (.cells (qK s.list) 302 (0,0))/\w.heap[b4]?=some (.cells (qK (List.replicate 8 0)) 302 (0,0))/\Mod NoB w0 w
def Add2Rel(w0:World)(b2 b4 b10:Nat)(s c:W8)(i:Value)(w:World):Prop:=∃n:Nat,n<=8/\i=.int .i64 n/\w.heap[b10]?=some (.cells (qZ (qK c.list) 0 (qK ((addW s c).list.take n))) 302 (0,0))/\
 w.heap[b2]?=some (.cells (qK s.list) 302 (0,0))/\w.heap[b4]?=some (.cells (qK (List.replicate 8 0)) 302 (0,0))/\Mod NoB w0 w
theorem built8w(x0 x1 x2 x3 x4 x5 x6 x7:UInt32):prog.built 302 [(0,wordV x0),(1,wordV x1),(2,wordV x2),(3,wordV x3),(4,wordV x4),(5,wordV x5),(6,wordV x6),(7,wordV x7)]=some (qK [x0,x1,x2,x3,x4,x5,x6,x7]):=by kernel_rfl
theorem refBlock_any{own:Bool}{G:Nat->Prop}{v:Value}{b:List UInt8}{s:W8}{w:World}(hb:Sl own w G 1 ByteC v b)(hl:b.length=64):Calls prog 210 #[.agg (qK s.list),v] w (RetM (.agg (qK (blockL s b).list)) w):=by
 obtain⟨av,cap,rfl,hlen,hat⟩:=hb.at;obtain⟨bb,off,rfl,-,-,hcs⟩:=hat 0 (by omega)
 have hbyte:∀j,j<64->w.cell? ⟨bb,off+j*1,none⟩=some (byteV (b.getD j 0)):=fun j hj=>by
  obtain⟨cs,_,rfl,hc⟩:=hcs j (by omega);rw[List.getD_eq_getElem?_getD,List.getElem?_eq_getElem (by omega)];exact CellsAt.one.1 hc
 have hbb:bb<w.heap.size:=block_lt_of_cell (hbyte 0 (by omega));have HB0:=hid hbyte;clear hat hcs hb hbyte;go_enter func210,ntmps210;go_upto_region 0 with(fail)
 refine wpR [1,1] ?_;simp only[stz];refine wpD (zT 302 _ _ (by rfl) (by rfl) (fun w1 hB2 hm1 hs1=>?_))
 replace hB2:w1.heap[w.heap.size]?=some (.cells (qK s.list) 302 (0,0)):=hB2;try simp only[nmz]
 refine wpD (qP 302 _ (by rfl) w8Z (fun w2 hB4 hm2 hs2=>?_));replace hB4:w2.heap[w1.heap.size]?=some (.cells (qK (List.replicate 8 0)) 302 (0,0)):=hB4
 simp only[stz];replace hB2:=hm2.obj id hB2;go_upto_region 1 with(fail);refine wpR [1] ?_;simp only[stz];refine wpD (qP 340 _ (by rfl) w64Z (fun w3 hB5 hm3 hs3=>?_))
 replace hB5:w3.heap[w2.heap.size]?=some (.cells (qK (List.replicate 64 0)) 340 (0,0)):=hB5;simp only[stz];replace hB2:=hm3.obj id hB2;replace hB4:=hm3.obj id hB4
 have hM3:Mod NoB w w3:=(hm1.trans0 hm2).trans0 hm3
 have HB:Hid (∀j,j<64->w3.cell? ⟨bb,off+j*1,none⟩=some (byteV (b.getD j 0))):=fun j hj=>hM3.cell id (HB0.out j hj);have hz1:=hm1.size;have hz2:=hm2.size
 clear hm1 hm2 hm3 HB0;generalize hb2:w.heap.size=b2 at*;generalize hb4:w1.heap.size=b4 at*;generalize hb5:w2.heap.size=b5 at*;clear hb4 hb5 hz2 hz1;go_wp2
 go_loopw [6] (SprRel b 0 16 b5 w3) (fun i _=>16-(intOf i).toNat)
 case atStart=>exact⟨0,by omega,by omega,rfl,by simpa[rowW,zW]using hB5,Mod.refl _ _⟩
 case round=>
  rename World=>wr
  clear hB5;obtain⟨n,-,hn,rfl,hrow,hM⟩:=hrel;have hbne:¬bb=b5:=by omega
  by_cases hlt16:n<16
  ·have hz:(n:Int)<16:=by omega
   have hlt:n<64:=by omega
   have hsz:=qH (rowW b n);rw[rowW_len b (by omega)]at hsz;have hset:=rowW_set b hlt;rw[if_pos hlt16]at hset
   have hbw:∀j,j<64->wr.cell? ⟨bb,off+j*1,none⟩=some (byteV (b.getD j 0)):=fun j hj=>hM.cell hbne (HB.out j hj);have HBW:=hid hbw;have HSET:=hid hset
   have h0:4*n<b.length:=by omega
   have h1:4*n+1<b.length:=by omega
   have h2:4*n+2<b.length:=by omega
   have h3:4*n+3<b.length:=by omega
   clear hbw hset HB;go_upto_region 5 with(fail);have hS:Mod (fun k=>k=b5) wr wr.drew:=(Mod.refl _ _).drew
   refine wpRZ [3,3,3,3,3,0,3,3,3,3,3,3,3,0,3,3,3,3,3,3,3,3,0,3,3,3,3,3,3,3,3,0,3,3,3,1] [] (fun w'=>Mod (fun k=>k=b5) wr w') hS ?_
   simp only[stz];refine xG _ _ _ _ 4 (n:Int) ((4*n:Nat):Int) rfl rfl rfl rfl (by omega) (by omega) (by omega) ?_;simp only[nmz];refine wpPI underlying53 1 h0 ?_
   simp only[nmz];refine wpLd 5 bb (off+4*n*1) (fun w' hS=>hS.cell hbne (HBW.out (4*n) (by omega))) underlying5 ?_;simp only[nmz]
   refine qE rfl (fun w'=>xA _ _ _ _ rfl rfl (by kernel_rfl) underlying301) ?_;simp only[nmz]
   refine jP _ _ _ _ _ .u64 24 rfl rfl rfl rfl (by omega) ?_;simp only[stz]
   refine xG _ _ _ _ 4 (n:Int) ((4*n:Nat):Int) rfl rfl rfl rfl (by omega) (by omega) (by omega) ?_;simp only[nmz]
   refine qY _ _ _ _ ((4*n:Nat):Int) 1 ((4*n+1:Nat):Int) rfl rfl rfl rfl (by omega) (by omega) (by omega) ?_;simp only[nmz];refine wpPI underlying53 1 h1 ?_
   simp only[nmz];refine wpLd 5 bb (off+(4*n+1)*1) (fun w' hS=>hS.cell hbne (HBW.out (4*n+1) (by omega))) underlying5 ?_;simp only[nmz]
   refine qE rfl (fun w'=>xA _ _ _ _ rfl rfl (by kernel_rfl) underlying301) ?_;simp only[nmz]
   refine jP _ _ _ _ _ .u64 16 rfl rfl rfl rfl (by omega) ?_;simp only[nmz];refine wpPi_or32 _ _ _ _ _ _ rfl rfl rfl rfl ?_;simp only[stz]
   refine xG _ _ _ _ 4 (n:Int) ((4*n:Nat):Int) rfl rfl rfl rfl (by omega) (by omega) (by omega) ?_;simp only[nmz]
   refine qY _ _ _ _ ((4*n:Nat):Int) 2 ((4*n+2:Nat):Int) rfl rfl rfl rfl (by omega) (by omega) (by omega) ?_;simp only[nmz];refine wpPI underlying53 1 h2 ?_
   simp only[nmz];refine wpLd 5 bb (off+(4*n+2)*1) (fun w' hS=>hS.cell hbne (HBW.out (4*n+2) (by omega))) underlying5 ?_;simp only[nmz]
   refine qE rfl (fun w'=>xA _ _ _ _ rfl rfl (by kernel_rfl) underlying301) ?_;simp only[nmz]
   refine jP _ _ _ _ _ .u64 8 rfl rfl rfl rfl (by omega) ?_;simp only[nmz];refine wpPi_or32 _ _ _ _ _ _ rfl rfl rfl rfl ?_;simp only[stz]
   refine xG _ _ _ _ 4 (n:Int) ((4*n:Nat):Int) rfl rfl rfl rfl (by omega) (by omega) (by omega) ?_;simp only[nmz]
   refine qY _ _ _ _ ((4*n:Nat):Int) 3 ((4*n+3:Nat):Int) rfl rfl rfl rfl (by omega) (by omega) (by omega) ?_;simp only[nmz];refine wpPI underlying53 1 h3 ?_
   simp only[nmz];refine wpLd 5 bb (off+(4*n+3)*1) (fun w' hS=>hS.cell hbne (HBW.out (4*n+3) (by omega))) underlying5 ?_;simp only[nmz]
   refine qE rfl (fun w'=>xA _ _ _ _ rfl rfl (by kernel_rfl) underlying301) ?_;simp only[nmz];refine wpPi_or32 _ _ _ _ _ _ rfl rfl rfl rfl ?_
   simp only[nmz];refine qJ _ _ _ _ _ _ _ _ rfl rfl rfl rfl underlying340 (n:=1) (by kernel_rfl) hlt ?_;simp only[nmz];refine qM rfl (fun K hK=>?_)
   refine qT 301 _ _ b5 (n*1) (wordV (wordAt b n)) (by rfl) (by rfl) (by rfl) rfl (by kernel_rfl) _ _ (show wr.drew.heap[b5]?=_ from hrow) (by rw[hsz];omega) (fun w2' hB2' hm2'=>?_)
   rw[Nat.mul_one,HSET.out]at hB2';replace hS:=hS.trans hm2' (fun _ _ h=>h);refine hK _ _ hS ?_;clear hK K;simp only[stz]
   have hM2:Mod (fun k=>k=b5) w3 w2':=hM.trans hS (fun _ _ h=>h);clear hM hS hm2' hrow;go_wp2
   go_roundw
   case rel=>exact⟨n+1,by omega,by omega,by go_num,hB2',hM2⟩
   case measure=>simp[intOf];omega
  ·have hz:¬(n:Int)<16:=by omega
   obtain rfl:n=16:=by omega
   clear HB hlt16 hz hn;go_wp2
   go_loopw [7] (SprRel b 16 64 b5 w3) (fun i _=>64-(intOf i).toNat)
   case atStart=>exact⟨16,by omega,by omega,rfl,hrow,hM⟩
   case round=>
    rename World=>wq
    clear hrow hM;obtain⟨n,hlo,hn,rfl,hrow,hM⟩:=hrel
    by_cases hlt:n<64
    ·have hz:(n:Int)<64:=by omega
     have hsz:=qH (rowW b n);rw[rowW_len b hn]at hsz;have hset:=rowW_set b hlt;rw[if_neg (by omega)]at hset;have HSET:=hid hset
     have hwd:∀i,i<n->(qK (rowW b n))[i]?=some (wordV ((zW b n).getD i 0)):=fun i hi=>rowW_at b hn hi;have HW:=hid hwd
     have hk15:n-15<64:=by omega
     have hk2:n-2<64:=by omega
     have hk16:n-16<64:=by omega
     have hk7:n-7<64:=by omega
     clear hwd hset;go_upto_region 9 with(fail);have hS:Mod NoB wq wq.drew:=(Mod.refl _ _).drew
     refine wpRP [(0,3),(1,3),(2,3),(3,0),(5,3),(6,3),(7,3),(8,0),(11,3),(12,3),(13,3),(14,0),(15,3),(4,1),(9,1),(10,3),(16,3),(17,3)] [] (fun w'=>Mod NoB wq w') hS ?_
     simp only[stz];refine zR _ _ _ _ (n:Int) 15 ((n-15:Nat):Int) rfl rfl rfl rfl (by omega) (by omega) (by omega) ?_;simp only[nmz]
     refine qJ _ _ _ _ _ _ _ _ rfl rfl rfl rfl underlying340 (n:=1) (by kernel_rfl) hk15 ?_;simp only[nmz]
     refine wpLd 301 b5 ((n-15)*1) (fun w' hS=>by rw[cell_of_row _ _ _ _ _ _ (hS.obj id hrow),Nat.mul_one];exact HW.out (n-15) (by omega)) underlying301 ?_
     simp only[stz];refine zR _ _ _ _ (n:Int) 15 ((n-15:Nat):Int) rfl rfl rfl rfl (by omega) (by omega) (by omega) ?_;simp only[nmz]
     refine qJ _ _ _ _ _ _ _ _ rfl rfl rfl rfl underlying340 (n:=1) (by kernel_rfl) hk15 ?_;simp only[nmz]
     refine wpLd 301 b5 ((n-15)*1) (fun w' hS=>by rw[cell_of_row _ _ _ _ _ _ (hS.obj id hrow),Nat.mul_one];exact HW.out (n-15) (by omega)) underlying301 ?_
     simp only[stz];refine zR _ _ _ _ (n:Int) 15 ((n-15:Nat):Int) rfl rfl rfl rfl (by omega) (by omega) (by omega) ?_;simp only[nmz]
     refine qJ _ _ _ _ _ _ _ _ rfl rfl rfl rfl underlying340 (n:=1) (by kernel_rfl) hk15 ?_;simp only[nmz]
     refine wpLd 301 b5 ((n-15)*1) (fun w' hS=>by rw[cell_of_row _ _ _ _ _ _ (hS.obj id hrow),Nat.mul_one];exact HW.out (n-15) (by omega)) underlying301 ?_
     simp only[nmz];refine jO _ _ _ _ _ .u64 3 rfl rfl rfl rfl (by omega) ?_;simp only[nmz];refine qM rfl (fun K hK=>?_)
     refine yL (zI 237 [.tmp 62,.const (.int .i64 7)] _ rfl _ func237 rfl (by kernel_rfl) [wordV ((zW b n).getD (n-15) 0),.int .i64 7] rfl _) (yB ((zW b n).getD (n-15) 0) 7 (by omega) _) (fun wc1 hc1=>?_)
     have hS1:=hS.trans0 hc1;refine hK _ _ hS1 ?_;clear hK K;try simp only[nmz]
     refine qM rfl (fun K hK=>?_)
     refine yL (zI 237 [.tmp 67,.const (.int .i64 18)] _ rfl _ func237 rfl (by kernel_rfl) [wordV ((zW b n).getD (n-15) 0),.int .i64 18] rfl _) (yB ((zW b n).getD (n-15) 0) 18 (by omega) _) (fun wc2 hc2=>?_)
     have hS2:=hS1.trans0 hc2;refine hK _ _ hS2 ?_;clear hK K;try simp only[nmz]
     refine zM _ _ _ _ _ _ rfl rfl rfl rfl ?_;simp only[nmz];refine zM _ _ _ _ _ _ rfl rfl rfl rfl ?_;simp only[stz]
     replace hM:=hM.trans hS2 (fun _ _ h=>h.elim);replace hrow:=hS2.obj id hrow;clear hS hS1 hS2 hc1 hc2;generalize wc2=wy at*;go_upto_region 10 with(fail)
     have hS:Mod NoB wy wy.drew:=(Mod.refl _ _).drew
     refine wpRP [(0,3),(1,3),(2,3),(3,0),(5,3),(6,3),(7,3),(8,0),(11,3),(12,3),(13,3),(14,0),(15,3),(4,1),(9,1),(10,3),(16,3),(17,3)] [] (fun w'=>Mod NoB wy w') hS ?_
     simp only[stz];refine zR _ _ _ _ (n:Int) 2 ((n-2:Nat):Int) rfl rfl rfl rfl (by omega) (by omega) (by omega) ?_;simp only[nmz]
     refine qJ _ _ _ _ _ _ _ _ rfl rfl rfl rfl underlying340 (n:=1) (by kernel_rfl) hk2 ?_;simp only[nmz]
     refine wpLd 301 b5 ((n-2)*1) (fun w' hS=>by rw[cell_of_row _ _ _ _ _ _ (hS.obj id hrow),Nat.mul_one];exact HW.out (n-2) (by omega)) underlying301 ?_
     simp only[stz];refine zR _ _ _ _ (n:Int) 2 ((n-2:Nat):Int) rfl rfl rfl rfl (by omega) (by omega) (by omega) ?_;simp only[nmz]
     refine qJ _ _ _ _ _ _ _ _ rfl rfl rfl rfl underlying340 (n:=1) (by kernel_rfl) hk2 ?_;simp only[nmz]
     refine wpLd 301 b5 ((n-2)*1) (fun w' hS=>by rw[cell_of_row _ _ _ _ _ _ (hS.obj id hrow),Nat.mul_one];exact HW.out (n-2) (by omega)) underlying301 ?_
     simp only[stz];refine zR _ _ _ _ (n:Int) 2 ((n-2:Nat):Int) rfl rfl rfl rfl (by omega) (by omega) (by omega) ?_;simp only[nmz]
     refine qJ _ _ _ _ _ _ _ _ rfl rfl rfl rfl underlying340 (n:=1) (by kernel_rfl) hk2 ?_;simp only[nmz]
     refine wpLd 301 b5 ((n-2)*1) (fun w' hS=>by rw[cell_of_row _ _ _ _ _ _ (hS.obj id hrow),Nat.mul_one];exact HW.out (n-2) (by omega)) underlying301 ?_
     simp only[nmz];refine jO _ _ _ _ _ .u64 10 rfl rfl rfl rfl (by omega) ?_;simp only[nmz];refine qM rfl (fun K hK=>?_)
     refine yL (zI 237 [.tmp 79,.const (.int .i64 17)] _ rfl _ func237 rfl (by kernel_rfl) [wordV ((zW b n).getD (n-2) 0),.int .i64 17] rfl _) (yB ((zW b n).getD (n-2) 0) 17 (by omega) _) (fun wc1 hc1=>?_)
     have hS1:=hS.trans0 hc1;refine hK _ _ hS1 ?_;clear hK K;try simp only[nmz]
     refine qM rfl (fun K hK=>?_)
     refine yL (zI 237 [.tmp 84,.const (.int .i64 19)] _ rfl _ func237 rfl (by kernel_rfl) [wordV ((zW b n).getD (n-2) 0),.int .i64 19] rfl _) (yB ((zW b n).getD (n-2) 0) 19 (by omega) _) (fun wc2 hc2=>?_)
     have hS2:=hS1.trans0 hc2;refine hK _ _ hS2 ?_;clear hK K;try simp only[nmz]
     refine zM _ _ _ _ _ _ rfl rfl rfl rfl ?_;simp only[nmz];refine zM _ _ _ _ _ _ rfl rfl rfl rfl ?_;simp only[stz]
     replace hM:=hM.trans hS2 (fun _ _ h=>h.elim);replace hrow:=hS2.obj id hrow;clear hS hS1 hS2 hc1 hc2;generalize wc2=wz at*;go_upto_region 11 with(fail)
     have hS:Mod NoB wz wz.drew:=(Mod.refl _ _).drew;refine wpRZ [3,3,3,3,0,3,3,3,3,3,0,3,3,3,3,2] [15] (fun w'=>Mod NoB wz w') hS ?_;simp only[stz]
     refine zR _ _ _ _ (n:Int) 16 ((n-16:Nat):Int) rfl rfl rfl rfl (by omega) (by omega) (by omega) ?_;simp only[nmz]
     refine qJ _ _ _ _ _ _ _ _ rfl rfl rfl rfl underlying340 (n:=1) (by kernel_rfl) hk16 ?_;simp only[nmz]
     refine wpLd 301 b5 ((n-16)*1) (fun w' hS=>by rw[cell_of_row _ _ _ _ _ _ (hS.obj id hrow),Nat.mul_one];exact HW.out (n-16) (by omega)) underlying301 ?_
     simp only[stz];refine zN _ _ _ _ _ _ rfl rfl rfl rfl ?_;simp only[stz]
     refine zR _ _ _ _ (n:Int) 7 ((n-7:Nat):Int) rfl rfl rfl rfl (by omega) (by omega) (by omega) ?_;simp only[nmz]
     refine qJ _ _ _ _ _ _ _ _ rfl rfl rfl rfl underlying340 (n:=1) (by kernel_rfl) hk7 ?_;simp only[nmz]
     refine wpLd 301 b5 ((n-7)*1) (fun w' hS=>by rw[cell_of_row _ _ _ _ _ _ (hS.obj id hrow),Nat.mul_one];exact HW.out (n-7) (by omega)) underlying301 ?_
     simp only[nmz];refine zN _ _ _ _ _ _ rfl rfl rfl rfl ?_;simp only[stz];refine zN _ _ _ _ _ _ rfl rfl rfl rfl ?_;simp only[nmz]
     refine qJ _ _ _ _ _ _ _ _ rfl rfl rfl rfl underlying340 (n:=1) (by kernel_rfl) hlt ?_;simp only[nmz];refine zB rfl (fun K hK=>?_)
     refine qT 301 _ _ b5 (n*1) (wordV (wordNext (zW b n) n)) (by rfl) (by rfl) (by rfl) rfl (by kernel_rfl) _ _ (show wz.drew.heap[b5]?=_ from hrow) (by rw[hsz];omega) (fun wn hBn hmn=>?_)
     rw[Nat.mul_one,HSET.out]at hBn;refine hK _ _ ?_;clear hK K;simp only[stz]
     have hMn:Mod (fun k=>k=b5) w3 wn:=(hM.trans hS (fun _ _ h=>h.elim)).trans hmn (fun _ _ h=>h);clear hM hS hmn hrow;go_wp2
     go_roundw
     case rel=>exact⟨n+1,by omega,by omega,by go_num,hBn,hMn⟩
     case measure=>simp[intOf];omega
    ·have hz:¬(n:Int)<64:=by omega
     obtain rfl:n=64:=by omega
     have e64:rowW b 64=zW b 64:=by simp[rowW]
     rw[e64]at hrow;obtain⟨sp,hsp⟩:∃sp,zW b 64=sp:=⟨_,rfl⟩;have hspl:sp.length=64:=by rw[<-hsp];exact jN b 64
     rw[hsp]at hrow;have HSP:=hid hsp;replace hB2:=hM.objB (by omega) hB2;replace hB4:=hM.objB (by omega) hB4;have hMq:Mod NoB w wq:=hM3.transB hM (by omega)
     have hq:=hM.size;clear hsp e64 hz hn hlo hM;go_upto_region 12 with(fail);refine wpR [1,1,1] ?_;simp only[stz]
     refine wpXA 302 b2 0 (qK s.list) (CellsAt.whole hB2) underlying302 8 (by rw[qH];rfl) trivial ?_;try simp only[nmz]
     refine wpD (qP 302 _ (by rfl) w8Z (fun w5 hC10 hm5 hs5=>?_));replace hC10:w5.heap[wq.heap.size]?=some (.cells (qK (List.replicate 8 0)) 302 (0,0)):=hC10
     try simp only[nmz]
     refine wpD (qF 302 _ _ wq.heap.size 0 (qK s.list) (by rfl) (by rfl) (by rfl) (zO _) 8 (by kernel_rfl) (by rw[qH];rfl) _ _ hC10 (by rw[qH,qH];simp[W8.list]) (fun w6 hD10 hm6=>?_))
     rw[qC (by rw[qH,qH];simp[W8.list])]at hD10;simp only[stz];have hmq:Mod NoB wq w6:=hm5.transB hm6 (Nat.le_refl _)
     have hq6:=hm6.size;replace hB2:=hmq.obj id hB2;replace hB4:=hmq.obj id hB4;replace hrow:=hmq.obj id hrow;replace hMq:=hMq.trans0 hmq;clear hm5 hm6 hmq hC10
     go_upto_region 13 with(fail);refine wpR [1,1,1] ?_;simp only[stz]
     refine wpD (yL (zI 238 [] _ rfl _ func238 rfl (by kernel_rfl) [] rfl _) (refKeys_any _) (fun w7 hm7=>?_));try simp only[nmz]
     refine wpD (qP 340 _ (by rfl) w64Z (fun w8 hC11 hm8 hs8=>?_))
     replace hC11:w8.heap[w7.heap.size]?=some (.cells (qK (List.replicate 64 0)) 340 (0,0)):=hC11;try simp only[nmz]
     refine wpD (qF 340 _ _ w7.heap.size 0 (qK shaKeys) (by rfl) (by rfl) (by rfl) (zO _) 64 (by kernel_rfl) (by rw[qH];rfl) _ _ hC11 (by rw[qH,qH];simp[shaKeys]) (fun w9 hD11 hm9=>?_))
     rw[qC (by rw[qH,qH];simp[shaKeys])]at hD11;simp only[stz];have hq7:=hm7.size
     have hmq:Mod NoB w6 w9:=(hm7.trans0 hm8).transB hm9 hm7.size;replace hB2:=hmq.obj id hB2;replace hB4:=hmq.obj id hB4;replace hrow:=hmq.obj id hrow
     replace hD10:=hmq.obj id hD10;replace hMq:=hMq.trans0 hmq;clear hm7 hm8 hm9 hmq hC11;generalize wq.heap.size=b10 at*;generalize w7.heap.size=b11 at*
     have hL10:w.heap.size<=b10:=by omega
     go_wp2
     go_loopw [12] (RndRel w b2 b4 b10 b11 b5 sp s) (fun i _=>64-(intOf i).toNat)
     case atStart=>exact⟨0,by omega,rfl,hD10,hD11,hrow,hB2,hB4,hMq⟩
     case round=>
      rename World=>wu
      clear hB2 hB4 hrow hD10 hD11 hMq;obtain⟨n,hn,rfl,hC10,hC11,hSP,hB2,hB4,hM⟩:=hrel
      by_cases hlt:n<64
      ·have hz:(n:Int)<64:=by omega
       obtain⟨c,hc⟩:∃c,rounds shaKeys sp n s=c:=⟨_,rfl⟩;have hnext:rounds shaKeys sp (n+1) s=round c (shaKeys.getD n 0) (sp.getD n 0):=by rw[<-hc];rfl
       rw[hc]at hC10;have HC:=hid hc;have HN:=hid hnext;clear hc hnext;go_upto_region 17 with(fail);have hS:Mod NoB wu wu.drew:=(Mod.refl _ _).drew
       refine wpRP [(0,3),(1,0),(2,3),(3,0),(5,3),(6,0),(9,3),(10,0),(14,3),(15,0),(16,3),(17,0),(18,3),(19,3),(20,0),(21,3),(22,3),(23,0),(24,3),(25,3),(27,3),(28,3),(29,0),(31,3),(32,3),(33,0),(4,1),(7,1),(8,3),(11,1),(12,3),(13,3),(26,3),(30,3),(34,3),(35,3)] [] (fun w'=>Mod NoB wu w') hS ?_
       simp only[stz];refine qJ _ _ _ _ _ _ _ 7 rfl rfl rfl rfl underlying302 (n:=1) (by kernel_rfl) (by omega) ?_;simp only[nmz]
       refine wpLd (v:=(wordV c.h)) 301 b10 7 (fun w' hS=>word8 (hS.obj id hC10) 7 (by omega)) underlying301 ?_;simp only[nmz]
       refine qJ _ _ _ _ _ _ _ 4 rfl rfl rfl rfl underlying302 (n:=1) (by kernel_rfl) (by omega) ?_;simp only[nmz]
       refine wpLd (v:=(wordV c.e)) 301 b10 4 (fun w' hS=>word8 (hS.obj id hC10) 4 (by omega)) underlying301 ?_;simp only[nmz]
       refine qJ _ _ _ _ _ _ _ 4 rfl rfl rfl rfl underlying302 (n:=1) (by kernel_rfl) (by omega) ?_;simp only[nmz]
       refine wpLd (v:=(wordV c.e)) 301 b10 4 (fun w' hS=>word8 (hS.obj id hC10) 4 (by omega)) underlying301 ?_;simp only[nmz]
       refine qJ _ _ _ _ _ _ _ 4 rfl rfl rfl rfl underlying302 (n:=1) (by kernel_rfl) (by omega) ?_;simp only[nmz]
       refine wpLd (v:=(wordV c.e)) 301 b10 4 (fun w' hS=>word8 (hS.obj id hC10) 4 (by omega)) underlying301 ?_;simp only[nmz]
       refine qJ _ _ _ _ _ _ _ 4 rfl rfl rfl rfl underlying302 (n:=1) (by kernel_rfl) (by omega) ?_;simp only[nmz]
       refine wpLd (v:=(wordV c.e)) 301 b10 4 (fun w' hS=>word8 (hS.obj id hC10) 4 (by omega)) underlying301 ?_;simp only[nmz]
       refine qJ _ _ _ _ _ _ _ 5 rfl rfl rfl rfl underlying302 (n:=1) (by kernel_rfl) (by omega) ?_;simp only[nmz]
       refine wpLd (v:=(wordV c.f)) 301 b10 5 (fun w' hS=>word8 (hS.obj id hC10) 5 (by omega)) underlying301 ?_;simp only[nmz]
       refine yP _ _ _ _ _ _ rfl rfl rfl rfl ?_;simp only[nmz];refine qJ _ _ _ _ _ _ _ 4 rfl rfl rfl rfl underlying302 (n:=1) (by kernel_rfl) (by omega) ?_
       simp only[nmz];refine wpLd (v:=(wordV c.e)) 301 b10 4 (fun w' hS=>word8 (hS.obj id hC10) 4 (by omega)) underlying301 ?_;simp only[nmz]
       refine wpPi_not32 _ _ _ rfl rfl rfl ?_;simp only[nmz];refine qJ _ _ _ _ _ _ _ 6 rfl rfl rfl rfl underlying302 (n:=1) (by kernel_rfl) (by omega) ?_
       simp only[nmz];refine wpLd (v:=(wordV c.g)) 301 b10 6 (fun w' hS=>word8 (hS.obj id hC10) 6 (by omega)) underlying301 ?_;simp only[nmz]
       refine yP _ _ _ _ _ _ rfl rfl rfl rfl ?_;simp only[nmz];refine zM _ _ _ _ _ _ rfl rfl rfl rfl ?_;simp only[stz]
       refine qJ _ _ _ _ _ _ _ _ rfl rfl rfl rfl underlying340 (n:=1) (by kernel_rfl) hlt ?_;simp only[nmz]
       refine wpLd (v:=(wordV (shaKeys.getD n 0))) 301 b11 (n*1) (fun w' hS=>by rw[Nat.mul_one];exact word64 (hS.obj id hC11) (by rfl) hlt) underlying301 ?_
       simp only[stz];refine qJ _ _ _ _ _ _ _ _ rfl rfl rfl rfl underlying340 (n:=1) (by kernel_rfl) hlt ?_;simp only[nmz]
       refine wpLd (v:=(wordV (sp.getD n 0))) 301 b5 (n*1) (fun w' hS=>by rw[Nat.mul_one];exact word64 (hS.obj id hSP) hspl hlt) underlying301 ?_;simp only[nmz]
       refine qM rfl (fun K hK=>?_)
       refine yL (zI 237 [.tmp 117,.const (.int .i64 6)] _ rfl _ func237 rfl (by kernel_rfl) [wordV c.e,.int .i64 6] rfl _) (yB c.e 6 (by omega) _) (fun wc1 hc1=>?_)
       have hS1:=hS.trans0 hc1;refine hK _ _ hS1 ?_;clear hK K;try simp only[nmz]
       refine qM rfl (fun K hK=>?_)
       refine yL (zI 237 [.tmp 120,.const (.int .i64 11)] _ rfl _ func237 rfl (by kernel_rfl) [wordV c.e,.int .i64 11] rfl _) (yB c.e 11 (by omega) _) (fun wc2 hc2=>?_)
       have hS2:=hS1.trans0 hc2;refine hK _ _ hS2 ?_;clear hK K;try simp only[nmz]
       refine zM _ _ _ _ _ _ rfl rfl rfl rfl ?_;simp only[nmz];refine qM rfl (fun K hK=>?_)
       refine yL (zI 237 [.tmp 124,.const (.int .i64 25)] _ rfl _ func237 rfl (by kernel_rfl) [wordV c.e,.int .i64 25] rfl _) (yB c.e 25 (by omega) _) (fun wc3 hc3=>?_)
       have hS3:=hS2.trans0 hc3;refine hK _ _ hS3 ?_;clear hK K;try simp only[nmz]
       refine zM _ _ _ _ _ _ rfl rfl rfl rfl ?_;simp only[nmz];refine zN _ _ _ _ _ _ rfl rfl rfl rfl ?_;simp only[nmz]
       refine zN _ _ _ _ _ _ rfl rfl rfl rfl ?_;simp only[nmz];refine zN _ _ _ _ _ _ rfl rfl rfl rfl ?_;simp only[nmz]
       refine zN _ _ _ _ _ _ rfl rfl rfl rfl ?_;simp only[stz];replace hM:=hM.trans0 hS3;replace hC10:=hS3.obj id hC10;replace hC11:=hS3.obj id hC11
       replace hSP:=hS3.obj id hSP;replace hB2:=hS3.obj id hB2;replace hB4:=hS3.obj id hB4;clear hS hS1 hS2 hS3 hc1 hc2 hc3;generalize wc3=wv at*
       go_upto_region 18 with(fail);have hS:Mod NoB wv wv.drew:=(Mod.refl _ _).drew
       refine wpRP [(0,3),(1,0),(3,3),(4,0),(7,3),(8,0),(11,3),(12,0),(13,3),(14,0),(15,3),(16,3),(17,0),(18,3),(19,0),(20,3),(21,3),(22,3),(23,0),(24,3),(25,0),(26,3),(27,3),(2,1),(5,1),(6,3),(9,1),(10,3),(28,3),(29,3)] [] (fun w'=>Mod NoB wv w') hS ?_
       simp only[stz];refine qJ _ _ _ _ _ _ _ 0 rfl rfl rfl rfl underlying302 (n:=1) (by kernel_rfl) (by omega) ?_;simp only[nmz]
       refine wpLd (v:=(wordV c.a)) 301 b10 0 (fun w' hS=>word8 (hS.obj id hC10) 0 (by omega)) underlying301 ?_;simp only[nmz]
       refine qJ _ _ _ _ _ _ _ 0 rfl rfl rfl rfl underlying302 (n:=1) (by kernel_rfl) (by omega) ?_;simp only[nmz]
       refine wpLd (v:=(wordV c.a)) 301 b10 0 (fun w' hS=>word8 (hS.obj id hC10) 0 (by omega)) underlying301 ?_;simp only[nmz]
       refine qJ _ _ _ _ _ _ _ 0 rfl rfl rfl rfl underlying302 (n:=1) (by kernel_rfl) (by omega) ?_;simp only[nmz]
       refine wpLd (v:=(wordV c.a)) 301 b10 0 (fun w' hS=>word8 (hS.obj id hC10) 0 (by omega)) underlying301 ?_;simp only[nmz]
       refine qJ _ _ _ _ _ _ _ 0 rfl rfl rfl rfl underlying302 (n:=1) (by kernel_rfl) (by omega) ?_;simp only[nmz]
       refine wpLd (v:=(wordV c.a)) 301 b10 0 (fun w' hS=>word8 (hS.obj id hC10) 0 (by omega)) underlying301 ?_;simp only[nmz]
       refine qJ _ _ _ _ _ _ _ 1 rfl rfl rfl rfl underlying302 (n:=1) (by kernel_rfl) (by omega) ?_;simp only[nmz]
       refine wpLd (v:=(wordV c.b)) 301 b10 1 (fun w' hS=>word8 (hS.obj id hC10) 1 (by omega)) underlying301 ?_;simp only[nmz]
       refine yP _ _ _ _ _ _ rfl rfl rfl rfl ?_;simp only[nmz];refine qJ _ _ _ _ _ _ _ 0 rfl rfl rfl rfl underlying302 (n:=1) (by kernel_rfl) (by omega) ?_
       simp only[nmz];refine wpLd (v:=(wordV c.a)) 301 b10 0 (fun w' hS=>word8 (hS.obj id hC10) 0 (by omega)) underlying301 ?_;simp only[nmz]
       refine qJ _ _ _ _ _ _ _ 2 rfl rfl rfl rfl underlying302 (n:=1) (by kernel_rfl) (by omega) ?_;simp only[nmz]
       refine wpLd (v:=(wordV c.c)) 301 b10 2 (fun w' hS=>word8 (hS.obj id hC10) 2 (by omega)) underlying301 ?_;simp only[nmz]
       refine yP _ _ _ _ _ _ rfl rfl rfl rfl ?_;simp only[nmz];refine zM _ _ _ _ _ _ rfl rfl rfl rfl ?_;simp only[nmz]
       refine qJ _ _ _ _ _ _ _ 1 rfl rfl rfl rfl underlying302 (n:=1) (by kernel_rfl) (by omega) ?_;simp only[nmz]
       refine wpLd (v:=(wordV c.b)) 301 b10 1 (fun w' hS=>word8 (hS.obj id hC10) 1 (by omega)) underlying301 ?_;simp only[nmz]
       refine qJ _ _ _ _ _ _ _ 2 rfl rfl rfl rfl underlying302 (n:=1) (by kernel_rfl) (by omega) ?_;simp only[nmz]
       refine wpLd (v:=(wordV c.c)) 301 b10 2 (fun w' hS=>word8 (hS.obj id hC10) 2 (by omega)) underlying301 ?_;simp only[nmz]
       refine yP _ _ _ _ _ _ rfl rfl rfl rfl ?_;simp only[nmz];refine zM _ _ _ _ _ _ rfl rfl rfl rfl ?_;simp only[nmz];refine qM rfl (fun K hK=>?_)
       refine yL (zI 237 [.tmp 150,.const (.int .i64 2)] _ rfl _ func237 rfl (by kernel_rfl) [wordV c.a,.int .i64 2] rfl _) (yB c.a 2 (by omega) _) (fun wc1 hc1=>?_)
       have hS1:=hS.trans0 hc1;refine hK _ _ hS1 ?_;clear hK K;try simp only[nmz]
       refine qM rfl (fun K hK=>?_)
       refine yL (zI 237 [.tmp 153,.const (.int .i64 13)] _ rfl _ func237 rfl (by kernel_rfl) [wordV c.a,.int .i64 13] rfl _) (yB c.a 13 (by omega) _) (fun wc2 hc2=>?_)
       have hS2:=hS1.trans0 hc2;refine hK _ _ hS2 ?_;clear hK K;try simp only[nmz]
       refine zM _ _ _ _ _ _ rfl rfl rfl rfl ?_;simp only[nmz];refine qM rfl (fun K hK=>?_)
       refine yL (zI 237 [.tmp 157,.const (.int .i64 22)] _ rfl _ func237 rfl (by kernel_rfl) [wordV c.a,.int .i64 22] rfl _) (yB c.a 22 (by omega) _) (fun wc3 hc3=>?_)
       have hS3:=hS2.trans0 hc3;refine hK _ _ hS3 ?_;clear hK K;try simp only[nmz]
       refine zM _ _ _ _ _ _ rfl rfl rfl rfl ?_;simp only[nmz];refine zN _ _ _ _ _ _ rfl rfl rfl rfl ?_;simp only[stz];replace hM:=hM.trans0 hS3
       replace hC10:=hS3.obj id hC10;replace hC11:=hS3.obj id hC11;replace hSP:=hS3.obj id hSP;replace hB2:=hS3.obj id hB2;replace hB4:=hS3.obj id hB4
       clear hS hS1 hS2 hS3 hc1 hc2 hc3;generalize wc3=wx at*;go_upto_region 19 with(fail);refine wpR [3,3,3,3,1,3,1,3,1,3,1,3,3,3,1,3,1,3,1,3,1] ?_
       simp only[stz];refine zN _ _ _ _ _ _ rfl rfl rfl rfl ?_;simp only[nmz]
       refine qJ _ _ _ _ _ _ _ 0 rfl rfl rfl rfl underlying302 (n:=1) (by kernel_rfl) (by omega) ?_;simp only[nmz]
       refine wpXd (v:=(wordV c.a)) 301 b10 0 (word8 hC10 0 (by omega)) underlying301 trivial ?_;try simp only[nmz]
       refine qJ _ _ _ _ _ _ _ 1 rfl rfl rfl rfl underlying302 (n:=1) (by kernel_rfl) (by omega) ?_;simp only[nmz]
       refine wpXd (v:=(wordV c.b)) 301 b10 1 (word8 hC10 1 (by omega)) underlying301 trivial ?_;try simp only[nmz]
       refine qJ _ _ _ _ _ _ _ 2 rfl rfl rfl rfl underlying302 (n:=1) (by kernel_rfl) (by omega) ?_;simp only[nmz]
       refine wpXd (v:=(wordV c.c)) 301 b10 2 (word8 hC10 2 (by omega)) underlying301 trivial ?_;try simp only[nmz]
       refine qJ _ _ _ _ _ _ _ 3 rfl rfl rfl rfl underlying302 (n:=1) (by kernel_rfl) (by omega) ?_;simp only[nmz]
       refine wpXd (v:=(wordV c.d)) 301 b10 3 (word8 hC10 3 (by omega)) underlying301 trivial ?_;simp only[stz];refine zN _ _ _ _ _ _ rfl rfl rfl rfl ?_
       simp only[nmz];refine qJ _ _ _ _ _ _ _ 4 rfl rfl rfl rfl underlying302 (n:=1) (by kernel_rfl) (by omega) ?_;simp only[nmz]
       refine wpXd (v:=(wordV c.e)) 301 b10 4 (word8 hC10 4 (by omega)) underlying301 trivial ?_;try simp only[nmz]
       refine qJ _ _ _ _ _ _ _ 5 rfl rfl rfl rfl underlying302 (n:=1) (by kernel_rfl) (by omega) ?_;simp only[nmz]
       refine wpXd (v:=(wordV c.f)) 301 b10 5 (word8 hC10 5 (by omega)) underlying301 trivial ?_;try simp only[nmz]
       refine qJ _ _ _ _ _ _ _ 6 rfl rfl rfl rfl underlying302 (n:=1) (by kernel_rfl) (by omega) ?_;simp only[nmz]
       refine wpXd (v:=(wordV c.g)) 301 b10 6 (word8 hC10 6 (by omega)) underlying301 trivial ?_;try simp only[nmz]
       refine qE (v:=.agg (qK (round c (shaKeys.getD n 0) (sp.getD n 0)).list)) rfl (fun w'=>qL 302 _ [(0,wordV (roundX c (shaKeys.getD n 0) (sp.getD n 0)+roundY c)),(1,wordV c.a),(2,wordV c.b),(3,wordV c.c),(4,wordV (c.d+roundX c (shaKeys.getD n 0) (sp.getD n 0))),(5,wordV c.e),(6,wordV c.f),(7,wordV c.g)] _ (by rfl) (by rfl) (built8w _ _ _ _ _ _ _ _)) ?_
       simp only[nmz]
       refine wpD (qF 302 _ _ b10 0 (qK (round c (shaKeys.getD n 0) (sp.getD n 0)).list) (by rfl) (by rfl) (by rfl) (zO _) 8 (by kernel_rfl) (by rw[qH];rfl) _ _ hC10 (by rw[qH,qH];simp[W8.list]) (fun w5 hD4 hm5=>?_))
       rw[qC (by rw[qH,qH];simp[W8.list]),<-HN.out]at hD4;have hM5:=hM.transB hm5 hL10;replace hB2:=hm5.objB (by omega) hB2
       replace hB4:=hm5.objB (by omega) hB4;replace hC11:=hm5.objB (by omega) hC11;replace hSP:=hm5.objB (by omega) hSP;clear hC10 hm5;simp only[stz];go_wp2
       go_roundw
       case rel=>exact⟨n+1,by omega,by go_num,hD4,hC11,hSP,hB2,hB4,hM5⟩
       case measure=>simp[intOf];omega
      ·have hz:¬(n:Int)<64:=by omega
       obtain rfl:n=64:=by omega
       obtain⟨c,hc⟩:∃c,rounds shaKeys sp 64 s=c:=⟨_,rfl⟩;rw[hc]at hC10
       have HR:Hid (blockL s b=addW s c):=by
        show blockL s b=addW s c
        unfold blockL;rw[HSP.out,hc]
       have hlen:(addW s c).list.length=8:=rfl;have hcsz:(qK c.list).size=8:=by rw[qH];rfl
       clear hc hC11 hSP hz hn;go_wp2
       go_loopw [15] (Add2Rel w b2 b4 b10 s c) (fun i _=>8-(intOf i).toNat)
       case atStart=>exact⟨0,by omega,rfl,by rw[List.take_zero,putRow_none (by omega)];exact hC10,hB2,hB4,hM⟩
       case round=>
        rename World=>wl
        clear hC10 hB2 hB4 hM;obtain⟨n,hn,rfl,hrow,hB2,hB4,hM⟩:=hrel
        by_cases hlt:n<8
        ·have hz:(n:Int)<8:=by omega
         have hw1:wl.cell? ⟨b10,n*1,none⟩=some (wordV (c.list.getD n 0)):=by
          have h0:=words_row c n hlt;rw[Nat.zero_add]at h0
          rw[cell_of_row _ _ _ _ _ _ hrow,Nat.mul_one,putRow_get (by rw[qH,List.length_take];omega),if_neg (by rw[qH,List.length_take];omega),h0]
         have hstep:=putRow_step (cur:=qK c.list) (oa:=0) (n:=n) (l:=(addW s c).list) (by omega) (by omega)
         have hpsz:(qZ (qK c.list) 0 (qK ((addW s c).list.take n))).size=8:=by rw[yC (by rw[qH,List.length_take];omega),hcsz]
         rw[addW_at s c n hlt,UInt32.add_comm,Nat.zero_add]at hstep;have HST:=hid hstep;clear hstep;go_upto_region 23 with(fail)
         have hS:Mod NoB wl wl.drew:=(Mod.refl _ _).drew;refine wpRZ [3,3,3,0,3,3,0,3,3,2] [9] (fun w'=>Mod NoB wl w') hS ?_;simp only[stz]
         refine qJ _ _ _ _ _ _ _ _ rfl rfl rfl rfl underlying302 (n:=1) (by kernel_rfl) hlt ?_;simp only[nmz]
         refine wpLd (v:=(wordV (c.list.getD n 0))) 301 b10 (n*1) (fun w' hS=>hS.cell id hw1) underlying301 ?_;simp only[stz]
         refine qJ _ _ _ _ _ _ _ _ rfl rfl rfl rfl underlying302 (n:=1) (by kernel_rfl) hlt ?_;simp only[nmz]
         refine wpLd (v:=(wordV (s.list.getD n 0))) 301 b2 (n*1) (fun w' hS=>by rw[Nat.mul_one];exact word8 (hS.obj id hB2) n hlt) underlying301 ?_;simp only[nmz]
         refine zN _ _ _ _ _ _ rfl rfl rfl rfl ?_;simp only[nmz];refine qJ _ _ _ _ _ _ _ _ rfl rfl rfl rfl underlying302 (n:=1) (by kernel_rfl) hlt ?_
         simp only[nmz];refine zB rfl (fun K hK=>?_)
         refine qT 301 _ _ b10 (n*1) (wordV (c.list.getD n 0+s.list.getD n 0)) (by rfl) (by rfl) (by rfl) rfl (by kernel_rfl) _ _ (show wl.drew.heap[b10]?=_ from hrow) (by rw[hpsz];omega) (fun wn hBn hmn=>?_)
         rw[Nat.mul_one,HST.out]at hBn;replace hB2:=hmn.objB (by omega) (show wl.drew.heap[b2]?=_ from hB2)
         replace hB4:=hmn.objB (by omega) (show wl.drew.heap[b4]?=_ from hB4);refine hK _ _ ?_;clear hK K;simp only[stz]
         have hMn:Mod NoB w wn:=(hM.trans0 hS).transB hmn (by omega);clear hM hS hmn hrow hw1;go_wp2
         go_roundw
         case rel=>exact⟨n+1,by omega,by go_num,hBn,hB2,hB4,hMn⟩
         case measure=>simp[intOf];omega
        ·have hz:¬(n:Int)<8:=by omega
         obtain rfl:n=8:=by omega
         have hfin:qZ (qK c.list) 0 (qK ((addW s c).list.take 8))=qK (addW s c).list:=by
          rw[List.take_of_length_le (by omega)];exact qC (by rw[hcsz,qH];rfl)
         rw[hfin]at hrow;clear hfin;go_upto_region 24 with(fail);refine wpR [1,1] ?_;simp only[stz]
         refine wpXA 302 b10 0 (qK (addW s c).list) (CellsAt.whole hrow) underlying302 8 (by rw[qH];rfl) trivial ?_;try simp only[nmz]
         refine wpD (qF 302 _ _ b4 0 (qK (addW s c).list) (by rfl) (by rfl) (by rfl) (zO _) 8 (by kernel_rfl) (by rw[qH];rfl) _ _ hB4 (by rw[qH,qH];simp[W8.list]) (fun wz hD4 hmz=>?_))
         rw[qC (by rw[qH,qH];simp[W8.list])]at hD4;simp only[stz];have hMz:Mod NoB w wz:=hM.transB hmz (by omega)
         clear hmz hM hB4 hB2 hrow;go_wp2;refine bodyPost_ret (results_cell_row rfl _ _ b4 _ _ _ _ (by rfl) hD4 underlying302 rfl (by rw[qH];kernel_rfl)) rfl ?_
         exact⟨by rw[HR.out],hMz⟩
section
variable{P:Program}{ops:Array Oper}{Q:Exit->Act->World->Prop}{S:World->Prop}{o:Oper}{r:List (Oper×Nat)}{a:Act}{w:World}
theorem wpPi_sliceLH(t e:TypeId)(x l h:Operand)(ad:Option Addr)(len cap i j n:Nat)(hw:Region.wanted o (yielded ops a.tmps)=true)(ho:o.op=.slice t x (some l) (some h) none)(hx:a.eval x=.slice ad len cap)(hl:a.eval l=.int .i64 (i:Int))(hh:a.eval h=.int .i64 (j:Int))
 (hu:P.underlying t=some (.slice e))(hs:(P.info? e).map (·.size)=some n)(hi:i<=j)(hj:j<=cap)(hk:wpPi P ops Q S r (a.put o.dst (sliced ad i j cap n)) w):wpPi P ops Q S ((o,3)::r) a w:=
 qE hw (fun w=>by
  have he:P.elem t=e:=by simp[Program.elem,hu]
  have hsz:(sizeOf e).run P w=.ok n w:=by
   cases hq:P.info? e with
   |none=>simp[hq]at hs
   |some i=>simp[hq]at hs;simp[sizeOf,typeInfo,hq,hs]
  unfold execOp;simp only[ho,hx,hl,hh,Option.map_none,Option.map_some]
  have h1:=run_sliceAt_slice (P:=P) (w:=w) t (.slice ad len cap) (some (.int .i64 (i:Int))) (some (.int .i64 (j:Int))) none (by rw[he];exact hu)
  have h2:=run_slice_lh (P:=P) (w:=w) t ad len cap (by rw[he];exact hu) .i64 .i64 (i:Int) (j:Int) (by omega) (by omega) (by omega)
  simp only[Sem.run_bind,h1,h2,he,hsz,Result.andThen_ok,Sem.run_pure,Int.toNat_natCast]) hk
end
theorem Sl.mid{α:Type}{own:Bool}{w:World}{G:Nat->Prop}{sz cap:Nat}{R:Array Value->α->Prop}{ad:Option Addr}{l:List α}(h:Sl own w G sz R (.slice ad l.length cap) l)(i j:Nat)(hij:i<j)(hj:j<=l.length):Sl own w G sz R (sliced ad i j cap sz) ((l.drop i).take (j-i)):=by
 obtain⟨a,c,e,h1,h2,h3⟩:=h
 cases e
 refine⟨_,_,by rw[List.length_take,List.length_drop,Nat.min_eq_left (by omega)];rfl,by rw[List.length_take,List.length_drop];omega,by omega,fun hne=>?_⟩
 obtain⟨b,off,rfl,hG,ho,hc⟩:=h3 (by rintro rfl;simp at hj;omega);refine⟨b,off+i*sz,by rw[if_neg (by omega)];simp[addr_add0],hG,ho,fun k hk=>?_⟩
 rw[List.length_take,List.length_drop]at hk;obtain⟨cs,hs,hR,hcs⟩:=hc (i+k) (by omega);refine⟨cs,hs,by rw[List.getElem_take,List.getElem_drop];exact hR,?_⟩
 rw[show off+i*sz+k*sz=off+(i+k)*sz by rw[Nat.add_mul];omega];exact hcs
def BlkRel2(w0:World)(b6:Nat)(Y:List UInt8)(i:Value)(w:World):Prop:=∃k:Nat,64*k<=Y.length/\i=.int .i64 ((64*k:Nat):Int)/\w.heap[b6]?=some (.cells (qK (zY k shaBegin Y).list) 302 (0,0))/\Mod (fun q=>q=b6) w0 w
def OutRel2(w0:World)(b2 b4:Nat)(c:W8)(i:Value)(w:World):Prop:=∃n:Nat,n<=32/\i=.int .i64 n/\w.heap[b2]?=some (.cells (outRow c n) 24 (0,0))/\w.heap[b4]?=some (.cells (qK c.list) 302 (0,0))/\Mod (fun q=>q=b2) w0 w
theorem built8b:prog.built 302 [(0,.int .u32 1779033703),(1,.int .u32 3144134277),(2,.int .u32 1013904242),(3,.int .u32 2773480762),(4,.int .u32 1359893119),(5,.int .u32 2600822924),(6,.int .u32 528734635),(7,.int .u32 1541459225)]=some (qK shaBegin.list):=by kernel_rfl
def LenDRel(w0:World)(X:List UInt8)(n:Nat)(v i:Value)(w:World):Prop:=∃k:Nat,k<=8/\i=.int .i64 (7-(k:Int))/\Bts w0.heap.size w v (X++(xS n).take k)/\Mod NoB w0 w
theorem refSum_any{own:Bool}{G:Nat->Prop}{v:Value}{m:List UInt8}{w:World}(hb:Sl own w G 1 ByteC v m)(hl:m.length<=70368744177664):
 Calls prog 152 #[v] w (RetM (.agg (qA (shaL m))) w):=by
 have hbS:=hid hb;obtain⟨adm,capm,rfl,hlem,hmxm,-⟩:=hb;go_enter func152,ntmps152;go_upto_region 0 with(fail);refine wpR [1] ?_;simp only[stz]
 refine wpD (qP 24 _ (by rfl) idZ (fun w1 hB1 hm1 hs1=>?_));replace hB1:w1.heap[w.heap.size]?=some (.cells (qA (List.replicate 32 0)) 24 (0,0)):=hB1
 simp only[stz];go_upto_region 1 with(fail);refine wpR [1,3,1,1,1,3] ?_;simp only[stz]
 refine wpD (zG 53 5 (by rfl) underlying53 (by kernel_rfl) (fun w2 hB2 hm2 hs2=>?_));simp only[stz]
 refine wpD (xV _ _ (by rfl) w1.heap.size _ [] (by rfl) (xH _ hB2 (Nat.le_refl _)) _ m (by rfl) (hbS.out.keep0 (hm1.trans0 hm2)).bsrc (by simp;omega) hm2.size (fun v3 w3 ho3 hm3=>?_))
 rw[List.nil_append]at ho3;try simp only[nmz]
 refine wpD (qU 53 5 _ (byteV 128) (.int .u8 0) 1 (by rfl) (by rfl) underlying53 (by kernel_rfl) (by omega) (by omega) (by rfl) (fun w5 hB5 hm5 hs5=>?_))
 replace hB5:w5.heap[w3.heap.size]?=some (.cells #[byteV 128] 5 (0,0)):=hB5;try simp only[nmz]
 refine wpDo rfl ?_;have hs3:=hm3.size
 refine xV _ _ (by rfl) w1.heap.size _ m (by rfl) (ho3.keep hm5 (fun _ _=>id)) (.slice (some ⟨w3.heap.size,0,none⟩) 1 1) [128] (by rfl) (jD (owns_lit hB5)) (by simp;omega) (by omega) (fun v6 w6 ho6 hm6=>?_)
 simp only[stz]
 have hM3:Mod NoB w1 w3:=hm2.trans hm3 (fun k hk e=>by
  have e':some w1.heap.size=some k:=e
  cases e';omega)
 have hM6:Mod NoB w1 w6:=(hM3.trans0 hm5).trans hm6 (fun k hk e=>by have:=(ho3.lt e).1;omega);clear hM3 hm2 hm3 hm5 hm6 ho3 hB5 hs5 hs2 hB2;go_wp2
 go_loopw [3] (PadRel w1 m) (fun v _=>padM (lenV v))
 case atStart=>exact⟨0,Nat.zero_le _,by simpa[padJ]using ho6,hM6⟩
 case round=>
  rename World=>wr
  clear ho6 hM6;obtain⟨j,hj,hob,hM⟩:=hrel;have hoH:=hid hob;have hjl:=padJ_len m j;have hpad:padN m.length<64:=by unfold padN;omega
  have hPS:=hid (padJ_succ m j);obtain⟨ad,cap,rfl⟩:=hob.slice;clear hob;have hwr:=hM.size;go_upto_region 2 with(fail)
  by_cases h56:(m.length+1+j+8)%64=0
  ·skip
   refine wpR [3,3,3,3,3] ?_;simp only[stz];refine wpPL ?_;simp only[nmz]
   refine qY _ _ _ _ ((padJ m j).length:Int) 8 (((padJ m j).length+8:Nat):Int) rfl rfl rfl rfl (by omega) (by omega) (by omega) ?_;simp only[nmz]
   refine wpPi_remR _ _ _ _ (((padJ m j).length+8:Nat):Int) 64 0 rfl rfl rfl rfl (by omega) (by omega) (by omega) ?_;simp only[nmz]
   refine qG _ _ _ _ _ _ _ _ rfl rfl rfl rfl rfl false (by rfl) ?_;simp only[stz];have hj2:j=padN m.length:=by unfold padN at hj |-;omega
   subst hj2;clear hPS h56 hj;generalize hX:padJ m (padN m.length)=X at hoH hjl |-;have HX:=hid hX
   have hcv:IntKind.u64.wrap (m.length:Int)=(m.length:Int):=by simp[IntKind.wrap,IntKind.bits,IntKind.signed];omega
   have HCV:=hid hcv;clear hcv;go_upto_region 4 with(fail);refine wpR [3,3,3,3,3] ?_;simp only[stz];refine wpPL ?_;simp only[nmz]
   refine qE (v:=.int .u64 (m.length:Int)) rfl (fun w'=>exec_conv_uint 3 300 _ _ rfl rfl (by kernel_rfl) underlying300 _ HCV.out) ?_;simp only[nmz]
   refine qE (v:=.int .u64 ((m.length*8:Nat):Int)) rfl (fun w'=>exec_mul64 _ _ _ _ m.length 8 (m.length*8) rfl rfl rfl rfl (by omega)) ?_;simp only[stz];go_wp2
   go_loopw [3,5] (LenDRel w1 X m.length) (fun _ i _=>(intOf i+1).toNat)
   case atStart=>exact⟨0,by omega,rfl,by simpa using hoH.out,hM⟩
   case round=>
    rename World=>wq
    clear hoH hM hwr;obtain⟨k,hk,rfl,hob,hM⟩:=hrel;obtain⟨Y,hY⟩:∃Y,X++(xS m.length).take k=Y:=⟨_,rfl⟩;rw[hY]at hob
    have hYl:Y.length=X.length+k:=by rw[<-hY,List.length_append,List.length_take,lenBytes_len];omega
    have hoH:=hid hob;obtain⟨ad2,cap2,rfl⟩:=hob.slice;clear hob;have hwq:=hM.size
    by_cases hlt:k<8
    ·have hz:(0:Int)<=7-(k:Int):=by omega
     have hstep:Y++[UInt8.ofNat (m.length*8/2^(56-8*k))]=X++(xS m.length).take (k+1):=by rw[lenBytes_step m.length k hlt,<-hY,List.append_assoc]
     have HSTEP:=hid hstep;have HYY:=hid hY;clear hstep hY;obtain⟨y,hy⟩:∃y,UInt8.ofNat (m.length*8/2^(56-8*k))=y:=⟨_,rfl⟩;have HY:=hid hy;clear hy
     go_upto_region 8 with(fail);refine wpR [3,3,3,3,3,3,1,1,3] ?_;simp only[stz]
     refine xG _ _ _ _ 8 (7-(k:Int)) ((56-8*k:Nat):Int) rfl rfl rfl rfl (by omega) (by omega) (by omega) ?_;simp only[nmz]
     refine qE (v:=.int .u64 ((m.length*8/2^(56-8*k):Nat):Int)) rfl (fun w'=>exec_shr64 _ _ _ _ (m.length*8) .i64 (56-8*k) rfl rfl rfl (by omega) (by omega)) ?_
     simp only[nmz];refine qE (v:=byteV y) rfl (fun w'=>by rw[<-HY.out];exact exec_byte_of_u64 _ _ _ _ rfl rfl (by kernel_rfl) underlying5) ?_;simp only[nmz]
     refine wpD (qU 53 5 _ (byteV y) (.int .u8 0) 1 (by rfl) (by rfl) underlying53 (by kernel_rfl) (by omega) (by omega) (by rfl) (fun w7 hB7 hm7 hs7=>?_))
     replace hB7:w7.heap[wq.heap.size]?=some (.cells #[byteV y] 5 (0,0)):=hB7;try simp only[nmz]
     refine wpD (xV _ _ (by rfl) w1.heap.size _ Y (by rfl) (hoH.out.keep hm7 (fun _ _=>id)) (.slice (some ⟨wq.heap.size,0,none⟩) 1 1) [y] (by rfl) (jD (owns_lit hB7)) (by simp;omega) (by omega) (fun v8 w8 ho8 hm8=>?_))
     rw[<-HY.out,HSTEP.out]at ho8;have hM8:Mod NoB w1 w8:=(hM.trans0 hm7).trans hm8 (fun k hk e=>by have:=(hoH.out.lt e).1;omega);simp only[stz];clear hm8 hm7 hB7 hs7
     go_wp2
     go_roundw
     case rel=>exact⟨k+1,by omega,by congr 1;omega,ho8,hM8⟩
     case measure=>simp[intOf];omega
    ·have hz:¬(0:Int)<=7-(k:Int):=by omega
     obtain rfl:k=8:=by omega
     have hYX:padL m=Y:=by
      rw[<-hY,<-HX.out,List.take_of_length_le (by rw[lenBytes_len];omega)];rfl
     have hY64:Y.length%64=0:=by rw[<-hYX];exact(padL_len m).2
     have hYmax:Y.length<=140737488355328:=by omega
     have HYX:=hid hYX;have hb1:w.heap.size<w1.heap.size:=hs1;clear hY hYX hz hk;go_upto_region 9 with(fail);refine wpR [1,1,1] ?_;simp only[stz]
     refine wpX rfl (qL 302 _ _ (qK shaBegin.list) (by rfl) (by rfl) built8b) trivial ?_;try simp only[nmz]
     refine wpD (qP 302 _ (by rfl) w8Z (fun w7 hC6 hm7 hs7=>?_));replace hC6:w7.heap[wq.heap.size]?=some (.cells (qK (List.replicate 8 0)) 302 (0,0)):=hC6
     try simp only[nmz]
     refine wpD (qF 302 _ _ wq.heap.size 0 (qK shaBegin.list) (by rfl) (by rfl) (by rfl) (zO _) 8 (by kernel_rfl) (by rw[qH];rfl) _ _ hC6 (by rw[qH,qH];simp[W8.list]) (fun w8 hD6 hm8=>?_))
     rw[qC (by rw[qH,qH];simp[W8.list])]at hD6;simp only[stz];have hmq:Mod NoB wq w8:=hm7.transB hm8 (Nat.le_refl _)
     have hsl:Sl true w8 (fun k=>k<wq.heap.size) 1 ByteC (.slice ad2 Y.length cap2) Y:=((hoH.out.sl).mono (G':=fun k=>k<wq.heap.size) (fun k hk=>hk.2.1) (fun _ _ h=>h)).keep0 hmq
     have HSL:=hid hsl
     have hcap2:Y.length<=cap2:=by
      obtain⟨a',c',e,h,-⟩:=hsl;cases e;exact h
     have hM8:Mod NoB w1 w8:=hM.trans0 hmq;clear hm7 hm8 hmq hoH hM hC6 hsl;generalize hb6:wq.heap.size=b6 at*;go_wp2
     go_loopw [7] (BlkRel2 w8 b6 Y) (fun i _=>Y.length-(intOf i).toNat)
     case atStart=>exact⟨0,by omega,rfl,hD6,Mod.refl _ _⟩
     case round=>
      rename World=>wv
      clear hD6;obtain⟨k,hk,rfl,hrow6,hM⟩:=hrel
      by_cases hz:((64*k:Nat):Int)<(Y.length:Int)
      ·have hlt:64*k+64<=Y.length:=by omega
       have hslv:=HSL.out.keepB hM (fun k hk=>by have hk':k<b6:=hk;omega);go_upto_region 13 with(fail);have hS:Mod NoB wv wv.drew:=(Mod.refl _ _).drew
       refine wpRZ [0,3,3,3,3,3,1,2] [7] (fun w'=>Mod NoB wv w') hS ?_;simp only[stz]
       refine wpLA 302 b6 0 (qK (zY k shaBegin Y).list) (fun w' hS=>CellsAt.whole (hS.obj id hrow6)) underlying302 8 (by rw[qH];rfl) ?_
       simp only[stz];refine qY _ _ _ _ ((64*k:Nat):Int) 64 ((64*k+64:Nat):Int) rfl rfl rfl rfl (by omega) (by omega) (by omega) ?_;simp only[nmz]
       refine wpPi_sliceLH 53 5 _ _ _ _ _ _ (64*k) (64*k+64) 1 rfl rfl rfl rfl rfl underlying53 (by kernel_rfl) (by omega) (by omega) ?_;simp only[nmz]
       refine qM rfl (fun K hK=>?_)
       refine yL (zI 210 [.tmp 46,.tmp 51] _ rfl _ func210 rfl (by kernel_rfl) [.agg (qK (zY k shaBegin Y).list),sliced ad2 (64*k) (64*k+64) cap2 1] rfl _) (refBlock_any ((hslv.keep0 hS).mid (64*k) (64*k+64) (by omega) hlt) (by rw[List.length_take,List.length_drop];omega)) (fun w9 hm9=>?_)
       have hS9:=hS.trans0 hm9;refine hK _ _ hS9 ?_;clear hK K;try simp only[nmz]
       refine zB rfl (fun K hK=>?_)
       refine qF 302 _ _ b6 0 (qK (blockL (zY k shaBegin Y) ((Y.drop (64*k)).take (64*k+64-64*k))).list) (by rfl) (by rfl) (by rfl) (zO _) 8 (by kernel_rfl) (by rw[qH];rfl) _ _ (hS9.obj id hrow6) (by rw[qH,qH];simp[W8.list]) (fun wa hBa hma=>?_)
       rw[qC (by rw[qH,qH];simp[W8.list])]at hBa;refine hK _ _ ?_;clear hK K;simp only[stz]
       have hMa:Mod (fun q=>q=b6) w8 wa:=(hM.trans hS9 (fun _ _ h=>h.elim)).trans hma (fun _ _ h=>h)
       have hblk:blockL (zY k shaBegin Y) ((Y.drop (64*k)).take (64*k+64-64*k))=zY (k+1) shaBegin Y:=by
        rw[blocksL_add,Nat.add_sub_cancel_left];rfl
       rw[hblk]at hBa;clear hma hS9 hm9 hM hS hrow6 hblk hslv;go_wp2
       go_roundw
       case rel=>exact⟨k+1,by omega,by congr 1<;>omega,hBa,hMa⟩
       case measure=>simp[intOf];omega
      ·have hkk:Y.length/64=k:=by omega
       obtain⟨c,hc⟩:∃c,zY k shaBegin Y=c:=⟨_,rfl⟩;rw[hc]at hrow6
       have HSH:Hid (shaL m=outL c):=by
        show shaL m=outL c
        unfold shaL;rw[HYX.out,hkk,hc]
       have hMv:Mod NoB w1 wv:=hM8.transB hM (by omega);replace hB1:=hMv.obj id hB1;have hMw:Mod NoB w wv:=hm1.trans0 hMv;have hv:=hMv.size
       have hb6v:b6<wv.heap.size:=by
        rcases Nat.lt_or_ge b6 wv.heap.size with h|h
        ·exact h
        ·rw[Array.getElem?_eq_none h]at hrow6;cases hrow6
       clear hc hkk hk hY64 hM;go_upto_region 14 with(fail);refine wpR [1] ?_;simp only[stz];refine wpD (qP 24 _ (by rfl) idZ (fun w9 hB8 hm9 hs9=>?_))
       replace hB8:w9.heap[wv.heap.size]?=some (.cells (qA (List.replicate 32 0)) 24 (0,0)):=hB8;simp only[stz];replace hB1:=hm9.obj id hB1
       replace hrow6:=hm9.obj id hrow6;replace hMw:=hMw.trans0 hm9
       have hr8:w9.heap[wv.heap.size]?=some (.cells (outRow c 0) 24 (0,0)):=by
        have e:outRow c 0=qA (List.replicate 32 0):=by simp[outRow]
        rw[e];exact hB8
       clear hB8 hm9;generalize hb8:wv.heap.size=b8 at*;go_wp2
       go_loopw [9] (OutRel2 w9 b8 b6 c) (fun i _=>32-(intOf i).toNat)
       case atStart=>exact⟨0,by omega,rfl,hr8,hrow6,Mod.refl _ _⟩
       case round=>
        rename World=>wu
        clear hr8 hrow6;obtain⟨i,hi,rfl,hr8,hrow6,hMu⟩:=hrel;have hosz:=outRow_size c i hi
        by_cases hlt:i<32
        ·have hzi:(i:Int)<32:=by omega
         have HST:=hid (outRow_step c i hlt);have hq4:i/4<8:=by omega
         have hw4:=word8 hrow6 (i/4) hq4;obtain⟨x,hx⟩:∃x,c.list.getD (i/4) 0=x:=⟨_,rfl⟩;rw[hx]at hw4
         have hy:UInt8.ofNat (shrU x (24-8*(i%4))).toNat=outByte c i:=by unfold outByte;rw[hx]
         have HY:=hid hy;clear hy hx;generalize outByte c i=y at*;go_upto_region 18 with(fail);refine wpR [3,3,3,3,1,3,3,3,3,3,3,3,1] ?_;simp only[stz]
         refine wpPi_quoR _ _ _ _ (i:Int) 4 ((i/4:Nat):Int) rfl rfl rfl rfl (by rw[Int.tdiv_eq_ediv_of_nonneg (by omega)];omega) (by omega) (by omega) (by omega) ?_
         simp only[nmz];refine qJ _ _ _ _ _ _ _ _ rfl rfl rfl rfl underlying302 (n:=1) (by kernel_rfl) hq4 ?_;simp only[nmz]
         refine wpXd (v:=(wordV x)) 301 b6 (i/4*1) (by rw[Nat.mul_one];exact hw4) underlying301 trivial ?_;simp only[stz]
         refine wpPi_remR _ _ _ _ (i:Int) 4 ((i%4:Nat):Int) rfl rfl rfl rfl (by omega) (by omega) (by omega) ?_;simp only[nmz]
         refine xG _ _ _ _ 8 ((i%4:Nat):Int) ((8*(i%4):Nat):Int) rfl rfl rfl rfl (by omega) (by omega) (by omega) ?_;simp only[nmz]
         refine zR _ _ _ _ 24 ((8*(i%4):Nat):Int) ((24-8*(i%4):Nat):Int) rfl rfl rfl rfl (by omega) (by omega) (by omega) ?_;simp only[nmz]
         refine jO _ _ _ _ _ .i64 (24-8*(i%4)) rfl rfl rfl rfl (by omega) ?_;simp only[nmz]
         refine qE (v:=byteV y) rfl (fun w'=>by rw[<-HY.out];exact exec_byte_of_word _ _ _ _ rfl rfl (by kernel_rfl) underlying5) ?_;simp only[nmz]
         refine qJ _ _ _ _ _ _ _ _ rfl rfl rfl rfl underlying24 (n:=1) (by kernel_rfl) hlt ?_;simp only[nmz]
         refine wpD (qT 5 _ _ b8 (i*1) (byteV y) (by rfl) (by rfl) (by rfl) rfl (by kernel_rfl) _ _ hr8 (by rw[hosz];omega) (fun wb hBb hmb=>?_))
         rw[Nat.mul_one,HST.out]at hBb;have hrowb:=hmb.objB (by omega) hrow6;have hMb:Mod (fun q=>q=b8) w9 wb:=hMu.trans hmb (fun _ _ h=>h);simp only[stz]
         clear hmb hr8 hrow6 hw4;go_wp2
         go_roundw
         case rel=>exact⟨i+1,by omega,by go_num,hBb,hrowb,hMb⟩
         case measure=>simp[intOf];omega
        ·have hzi:¬(i:Int)<32:=by omega
         obtain rfl:i=32:=by omega
         have hout:outRow c 32=qA (outL c):=by simp[outRow,List.take_of_length_le (Nat.le_of_eq (outL_len c))]
         rw[hout]at hr8 hosz;have hB1u:=hMu.objB (by omega) hB1;go_upto_region 19 with(fail);refine wpR [1,1] ?_;simp only[stz]
         refine wpXA 24 b8 0 (qA (outL c)) (CellsAt.whole hr8) underlying24 32 hosz trivial ?_;try simp only[nmz]
         refine wpD (qF 24 _ _ w.heap.size 0 (qA (outL c)) (by rfl) (by rfl) (by rfl) (qR _) 32 (by kernel_rfl) hosz _ _ hB1u (by rw[hosz,qD];simp) (fun wb hBb hmb=>?_))
         rw[qC (by rw[hosz,qD];rfl)]at hBb;simp only[stz];have hMb:Mod NoB w wb:=(hMw.transB hMu (by omega)).transB hmb (Nat.le_refl _)
         clear hmb hr8 hrow6 hMu;go_wp2;refine bodyPost_ret (results_cell_row rfl _ _ w.heap.size _ _ _ _ (by rfl) hBb underlying24 rfl (by rw[hosz];kernel_rfl)) rfl ?_
         exact⟨by rw[HSH.out],hMb⟩
  ·obtain⟨q,hq⟩:∃q:Nat,((padJ m j).length+8)%64=q:=⟨_,rfl⟩
   have hq56:q≠0:=by rw[<-hq,hjl];exact h56
   refine wpR [3,3,3,3,3] ?_;simp only[stz];refine wpPL ?_;simp only[nmz]
   refine qY _ _ _ _ ((padJ m j).length:Int) 8 (((padJ m j).length+8:Nat):Int) rfl rfl rfl rfl (by omega) (by omega) (by omega) ?_;simp only[nmz]
   refine wpPi_remR _ _ _ _ (((padJ m j).length+8:Nat):Int) 64 (q:Int) rfl rfl rfl rfl (by omega) (by omega) (by omega) ?_;simp only[nmz]
   refine qG _ _ _ _ _ _ _ _ rfl rfl rfl rfl rfl true (by simp[cmpB];omega) ?_;simp only[stz]
   have hjlt:j<padN m.length:=by
    rcases Nat.lt_or_ge j (padN m.length)with h|h
    ·exact h
    ·exfalso;unfold padN at hj h hpad;omega
   go_upto_region 3 with(fail);refine wpR [3,1,1,3] ?_;simp only[stz]
   refine wpD (qU 53 5 _ (byteV 0) (.int .u8 0) 1 (by rfl) (by rfl) underlying53 (by kernel_rfl) (by omega) (by omega) (by rfl) (fun w7 hB7 hm7 hs7=>?_))
   replace hB7:w7.heap[wr.heap.size]?=some (.cells #[byteV 0] 5 (0,0)):=hB7;try simp only[nmz]
   refine wpD (xV _ _ (by rfl) w1.heap.size _ (padJ m j) (by rfl) (hoH.out.keep hm7 (fun _ _=>id)) (.slice (some ⟨wr.heap.size,0,none⟩) 1 1) [0] (by rfl) (jD (owns_lit hB7)) (by simp;omega) (by omega) (fun v8 w8 ho8 hm8=>?_))
   rw[hPS.out]at ho8;have hM8:Mod NoB w1 w8:=(hM.trans0 hm7).trans hm8 (fun k hk e=>by have:=(hoH.out.lt e).1;omega);simp only[stz]
   have hME:Hid (padM (lenV v8)<padM (padJ m j).length):=by
    show _<_
    rw[ho8.len,padJ_len,padJ_len];unfold padM;omega
   have HR:Hid (PadRel w1 m v8 w8):=⟨j+1,hjlt,ho8,hM8⟩;clear ho8 hM8 hm8 hm7 hB7;go_wp2
   go_roundw
   case rel=>exact HR.out
   case measure=>exact hME.out
section
variable{P:Program}{w:World}{o:Oper}{a:Act}
theorem exec_shl64(t:TypeId)(x y:Operand)(yt:TypeId)(m:Nat)(k:IntKind)(n d:Nat)(ho:o.op=.binOp .shl t x y yt)(hx:a.eval x=.int .u64 (m:Int))(hy:a.eval y=.int k (n:Int))(hn:n<=63)(hd:m*2^n=d)(hv:d<18446744073709551616):(execOp a.eval o).run P w=.ok (.value (.int .u64 (d:Int))) w:=by
 subst hd
 have h1:IntKind.u64.wrap ((m:Int)*2^n)=((m*2^n:Nat):Int):=by
  have h2:((m:Int)*2^n)=((m*2^n:Nat):Int):=by simp
  rw[h2];generalize m*2^n=q at hv
  simp[IntKind.wrap,IntKind.bits,IntKind.signed];omega
 unfold execOp;simp only[ho,hx,hy]
 go_simp
 try exact h1
theorem exec_or64(t:TypeId)(x y:Operand)(yt:TypeId)(m n d:Nat)(ho:o.op=.binOp .or t x y yt)(hx:a.eval x=.int .u64 (m:Int))(hy:a.eval y=.int .u64 (n:Int))(hm:m<18446744073709551616)(hn:n<18446744073709551616)(hd:m ||| n=d):(execOp a.eval o).run P w=.ok (.value (.int .u64 (d:Int))) w:=by
 subst hd;have hb:=u64_or_nat m n hm hn;unfold execOp;simp only[ho,hx,hy]
 go_simp
theorem exec_u64_of_byte(t u:TypeId)(x:Operand)(m:UInt8)(ho:o.op=.convert t u x)(hx:a.eval x=byteV m)(ht:(P.underlying t).isSome=true)(hu:P.underlying u=some (.int .u64)):
 (execOp a.eval o).run P w=.ok (.value (.int .u64 ((m.toNat:Nat):Int))) w:=by
 unfold execOp;unfold byteV at hx;simp only[ho,hx];have hk:P.intKind u=.u64:=by simp[Program.intKind,hu]
 have h1:=run_convert_int (P:=P) w t u .u8 (m.toNat:Int) ht (by rw[hk];exact hu);rw[hk]at h1
 have h2:IntKind.u64.wrap (m.toNat:Int)=(m.toNat:Int):=by
  have h9:=m.toNat_lt
  simp[IntKind.wrap,IntKind.bits,IntKind.signed]
  omega
 rw[h2]at h1;rw[Sem.run_bind,h1]
 rfl
theorem exec_int_of_byte(t u:TypeId)(x:Operand)(m:UInt8)(ho:o.op=.convert t u x)(hx:a.eval x=byteV m)(ht:(P.underlying t).isSome=true)(hu:P.underlying u=some (.int .i64)):
 (execOp a.eval o).run P w=.ok (.value (.int .i64 ((m.toNat:Nat):Int))) w:=by
 unfold execOp;unfold byteV at hx;simp only[ho,hx];have hk:P.intKind u=.i64:=by simp[Program.intKind,hu]
 have h1:=run_convert_int (P:=P) w t u .u8 (m.toNat:Int) ht (by rw[hk];exact hu);rw[hk]at h1;have h9:=m.toNat_lt;rw[wrap_in (by omega) (by omega)]at h1
 rw[Sem.run_bind,h1]
 rfl
theorem yY(t u:TypeId)(x:Operand)(m:Nat)(ho:o.op=.convert t u x)(hx:a.eval x=.int .u64 (m:Int))(ht:(P.underlying t).isSome=true)(hu:P.underlying u=some (.int .i64))(hm:m<9223372036854775808):
 (execOp a.eval o).run P w=.ok (.value (.int .i64 (m:Int))) w:=by
 unfold execOp;simp only[ho,hx];have hk:P.intKind u=.i64:=by simp[Program.intKind,hu]
 have h1:=run_convert_int (P:=P) w t u .u64 (m:Int) ht (by rw[hk];exact hu);rw[hk,wrap_in (by omega) (by omega)]at h1;rw[Sem.run_bind,h1]
 rfl
theorem exec_shrI(t:TypeId)(x y:Operand)(yt:TypeId)(m n:Nat)(ho:o.op=.binOp .shr t x y yt)(hx:a.eval x=.int .i64 (m:Int))(hy:a.eval y=.int .i64 (n:Int))(hn:n<=63)(hm:m<9223372036854775808):(execOp a.eval o).run P w=.ok (.value (.int .i64 ((m/2^n:Nat):Int))) w:=by
 have h0:m/2^n<=m:=Nat.div_le_self _ _;have h1:((m/2^n:Nat):Int)=(m:Int)/2^n:=by simp
 have h3:0<=((m/2^n:Nat):Int)/\((m/2^n:Nat):Int)<=9223372036854775807:=by
  generalize m/2^n=q at h0;omega
 have h2:=wrap_in (m:=((m/2^n:Nat):Int)) (by omega) (by omega);rw[h1]at h2;rw[h1];unfold execOp;simp only[ho,hx,hy]
 go_simp
 all_goals (try exact h2)
theorem exec_max(t:TypeId)(x y:Operand)(m n d:Int)(ho:o.op=.call { callee:=.builtin .max,args:=#[x,y],argTypes:=#[t,t] })(hx:a.eval x=.int .i64 m)(hy:a.eval y=.int .i64 n)(hd:max m n=d):(execOp a.eval o).run P w=.ok (.value (.int .i64 d)) w:=by
 subst hd;have h:(if n>m then n else m)=max m n:=by omega
 unfold execOp
 simp[ho,hx,hy,resolve,invoke,builtin,run_max_int2,h]
end
theorem pow8(k:Nat):2^(8*k)=256^k:=by rw[Nat.pow_mul]
theorem be_or(n:Nat)(x:UInt8):n*2^8 ||| x.toNat=n*256+x.toNat:=by
 have h:=Nat.shiftLeft_add_eq_or_of_lt (b:=x.toNat) (i:=8) x.toNat_lt n;rw[Nat.shiftLeft_eq]at h;exact h.symm
def NSizeR(n:Nat)(i:Value)(w0 w:World):Prop:=∃k:Nat,1<=k/\k<=8/\i=.int .i64 k/\szK n 1=szK n k/\w=w0
theorem wSize_any(n:Nat)(hn:n<9223372036854775808)(w:World):Calls prog 282 #[.int .i64 n] w (RetE (.int .i64 (sizeN n:Nat)) w):=by
 have hsz:=fun(w:World)(o:Oper)(a:Act)=> @exec_shrI prog w o a
 by_cases h:n<192
 ·have hs:sizeN n=0:=if_pos h
  have hz:(n:Int)<192:=by omega
  rw[hs];go_enter func282,ntmps282;go_wp2;go_ret;exact⟨rfl,rfl⟩
 ·have hs:sizeN n=szK n 1:=if_neg h
  have hz:¬(n:Int)<192:=by omega
  rw[hs];obtain⟨r,hr⟩:∃r,szK n 1=r:=⟨_,rfl⟩;have HR:=hid hr;rw[hr];clear hr hs h;go_enter func282,ntmps282;go_upto_region 3 with(fail);go_wp2
  go_loopw [3] (fun i wr=>NSizeR n i w wr) (fun i _=>8-(intOf i).toNat)
  case atStart=>exact⟨1,by omega,by omega,rfl,rfl,rfl⟩
  case round=>
   rename World=>wr
   obtain⟨k,hk1,hk8,rfl,hsk,rfl⟩:=hrel;rw[HR.out]at hsk;have HSK:=hid hsk;clear hsk
   by_cases hlt:k<8
   ·have hp:2^(8*k)=256^k:=pow8 k
    have hm8:(8:Int)*(k:Int)=((8*k:Nat):Int):=by omega
    by_cases hg:0<n/256^k
    ·go_upto_region 4 with(fail)
     refine wpR [3,3,3,3,3,3,3,3,3] ?_;simp only[stz];refine qG _ _ _ _ _ _ _ _ rfl rfl rfl rfl rfl true (by simp[cmpB];omega) ?_;simp only[stz]
     refine xG _ _ _ _ 8 (k:Int) ((8*k:Nat):Int) rfl rfl rfl rfl hm8 (by omega) (by omega) ?_;simp only[nmz]
     refine qE rfl (fun w'=>hsz w' _ _ _ _ _ _ n (8*k) rfl rfl rfl (by omega) hn) ?_;simp only[nmz]
     refine qG _ _ _ _ _ _ _ _ rfl rfl rfl rfl rfl true (by simp only[cmpB,decide_eq_true_eq];rw[hp];exact Int.natCast_pos.2 hg) ?_;simp only[stz];go_wp2
     go_roundw
     case rel=>exact⟨k+1,by omega,by omega,by go_num,by rw[HR.out,<-szK_step ⟨hlt,hg⟩];exact HSK.out,rfl⟩
     case measure=>simp[intOf];omega
    ·have hz0:n/256^k=0:=Nat.eq_zero_of_not_pos hg
     go_upto_region 4 with(fail);refine wpR [3,3,3,3,3,3,3,3,3] ?_;simp only[stz];refine qG _ _ _ _ _ _ _ _ rfl rfl rfl rfl rfl true (by simp[cmpB];omega) ?_
     simp only[stz];refine xG _ _ _ _ 8 (k:Int) ((8*k:Nat):Int) rfl rfl rfl rfl hm8 (by omega) (by omega) ?_;simp only[nmz]
     refine qE rfl (fun w'=>hsz w' _ _ _ _ _ _ n (8*k) rfl rfl rfl (by omega) hn) ?_;simp only[nmz]
     refine qG _ _ _ _ _ _ _ _ rfl rfl rfl rfl rfl false (by simp only[cmpB,decide_eq_false_iff_not];rw[hp,hz0];simp) ?_;simp only[stz];go_wp2;go_ret
     have e:r=k:=HSK.out.trans (szK_stop (by omega));exact⟨by rw[e];rfl,rfl⟩
   ·go_upto_region 4 with(fail)
    refine wpR [3,3,3,3,3,3,3,3,3] ?_;simp only[stz];refine qG _ _ _ _ _ _ _ _ rfl rfl rfl rfl rfl false (by simp[cmpB];omega) ?_;simp only[stz];go_wp2;go_ret
    have e:r=k:=HSK.out.trans (szK_stop (by omega));exact⟨by rw[e];rfl,rfl⟩
end
end Go.Proofs.YtjeonjoifjbohaaGreat
