/- What the statement SweepKeeps needs, part 8. -/
import Derived.WalkKit
import Derived.ProofKit
import Derived.OpenShut
import Derived.ChangeStays
import Derived.ChangeBook
import Derived.ChangeSlices
import Derived.Test.YtjeonjoifjbohaaGreatSweepKeepsP7
set_option linter.unusedVariables false
set_option linter.unusedSimpArgs false
set_option linter.unnecessarySimpa false
set_option linter.unusedSectionVars false
set_option maxRecDepth 10000
set_option maxHeartbeats 8000000
namespace Go.Proofs.YtjeonjoifjbohaaGreat
section
open Go.RowKit Go.Shelf Go.Proofs.Tryz Go.Lib
theorem sl_oneB{α:Type}{w:World}{b:Nat}{cs:Array Value}{T:TypeId}{R:Array Value->α->Prop}{x:α}(h:w.heap[b]?=some (.cells cs T (0,0)))(hR:R cs x)(n:Nat)(hn:cs.size=n):Sl false w (fun k=>k=b) n R (.slice (some ⟨b,0,none⟩) 1 1) [x]:=by
 refine⟨some ⟨b,0,none⟩,1,rfl,Nat.le_refl _,by unfold maxLen;omega,fun _=>⟨b,0,rfl,rfl,fun e=>(by cases e),fun i hi=>?_⟩⟩;have h0:i=0:=by simpa using hi
 subst h0;exact⟨cs,hn,hR,by simpa using CellsAt.whole h⟩
theorem sl_twoB{α:Type}{w:World}{b:Nat}{c1 c2:Array Value}{T:TypeId}{R:Array Value->α->Prop}{x y:α}(h:w.heap[b]?=some (.cells (c1++c2) T (0,0)))(h1:R c1 x)(h2:R c2 y)(n:Nat)(hn1:c1.size=n)(hn2:c2.size=n):Sl false w (fun k=>k=b) n R (.slice (some ⟨b,0,none⟩) 2 2) [x,y]:=by
 refine⟨some ⟨b,0,none⟩,2,rfl,Nat.le_refl _,by unfold maxLen;omega,fun _=>⟨b,0,rfl,rfl,fun e=>(by cases e),fun i hi=>?_⟩⟩;have hw:=CellsAt.whole h
 match i,hi with
 |0,_=>exact⟨c1,hn1,h1,CellsAt.of_obj h fun j hj=>by rw[Nat.zero_mul,Nat.zero_add,Array.getElem?_append_left hj]⟩
 |1,_=>exact⟨c2,hn2,h2,CellsAt.of_obj h fun j hj=>by rw[Nat.one_mul,Nat.zero_add,Array.getElem?_append_right (by omega),hn1,Nat.add_sub_cancel_left]⟩
def evB:Evt:=⟨0,0,[],0,⟨#[]⟩,⟨#[]⟩,List.replicate 32 0,[idB]⟩
theorem ev_places:xT prog 115=some [(0,2),(2,1),(3,1),(4,1),(5,1),(6,32),(38,1)]:=by kernel_rfl
theorem built_evB(ad:Option Addr)(k c:Nat):prog.built 115 [(6,.slice ad k c)]=some (zN evB (.slice none 0 0) (.slice ad k c)):=by
 rw[zS eventZ ev_places,zK (off:=38) (size:=1) rfl (by rfl) (by rw[(zC _ _ _ (by simp)).size];omega),xU]
 rfl
theorem built_evOne:prog.built 115 [(0,.agg #[.int .i64 1,.int .i64 1])]=some (zN evOne (.slice none 0 0) (.slice none 0 0)):=by kernel_rfl
theorem built_evOther:prog.built 115 [(0,.agg #[.int .i64 2,.int .i64 1])]=some (zN yK (.slice none 0 0) (.slice none 0 0)):=by kernel_rfl
theorem built_dot11:prog.built 113 [(0,.int .i64 1),(1,.int .i64 1)]=some #[.int .i64 1,.int .i64 1]:=by kernel_rfl
theorem built_dot21:prog.built 113 [(0,.int .i64 2),(1,.int .i64 1)]=some #[.int .i64 2,.int .i64 1]:=by kernel_rfl
theorem ev_zs:(prog.info? 115).map (fun i=>(i.zero,i.size))=some (some evZero,39):=by kernel_rfl
theorem evOne_r(w:World)(G:Nat->Prop):EvR false w G (zN evOne (.slice none 0 0) (.slice none 0 0)) evOne:=⟨_,_,rfl,by simp[evOne],Sl.nil _ _ _ _ _,Sl.nil _ _ _ _ _,by simp[evOne,ByteArray.size,maxLen],by simp[evOne,ByteArray.size,maxLen]⟩
theorem evOther_r(w:World)(G:Nat->Prop):EvR false w G (zN yK (.slice none 0 0) (.slice none 0 0)) yK:=⟨_,_,rfl,by simp[yK],Sl.nil _ _ _ _ _,Sl.nil _ _ _ _ _,by simp[yK,ByteArray.size,maxLen],by simp[yK,ByteArray.size,maxLen]⟩
def KnMid(w:World)(s:Value)(wx:World):Prop:=Mod NoB w wx/\GatI w.heap.size wx s [idA,idB]
theorem swMarks_of{w:World}{h:House}{l:LinkL}{Ft:Nat->Prop}(H:HsAt w h cAB l Ft){vv rv ev:Value}{reps:List RepX}(h1:vv.oneCell'=true)(hv:RepsAt w rv reps)(hr:rootsX reps=[idA])(hev:Sl false w AnyB 39 (EvR false w AnyB) ev [evB]):
 Calls prog 48 #[.pointer (some ⟨h.bs,0,none⟩),.agg #[vv,rv],ev] w (MarksR w cAB [idA] [evB]):=by
 obtain⟨bl,F,k1,k2,_⟩:=H;have h9:=swMarks_any (l:=[evB]) k1 (by rw[k2];simp[cAB]) h1 hv (by rw[hr];simp) hev (by simp[refsL,evB]);rw[k2,hr]at h9;exact h9
theorem sweep_one{w:World}{h:House}{c:BlobL}{l:LinkL}{Ft:Nat->Prop}(H:HsAt w h c l Ft){b qb:Nat}{x:List UInt8}(hx:x.length=32)(hB:w.heap[b]?=some (.cells (qA x) 24 (0,0)))(hb:¬Ft b)(hq:h.q=.pointer (some ⟨qb,0,none⟩)):
 Calls prog 53 #[.pointer (some ⟨h.bs,0,none⟩),.pointer (some ⟨qb,0,none⟩),.slice (some ⟨b,0,none⟩) 1 1] w (SwpR w h Ft c l [x]):=by
 have h9:=swSweep_any H (sl_oneB (R:=IdC) hB ⟨rfl,hx⟩ 32 (by rw[qD,hx])) (fun k e hf=>hb (by have e:k=b:=e;rw[<-e];exact hf));rw[hq]at h9;exact h9
theorem sweepKnown_walk(w:World):Calls prog 10 #[] w (RetM (.bool true) w):=by
 have hA:(qA idA).size=32:=by rw[qD,yS]
 have hB:(qA idB).size=32:=by rw[qD,idB_len]
 have hz32:(qA (List.replicate 32 0)).size=32:=idZ_size;go_enter func10,ntmps10;go_upto_region 1 with(fail)
 refine wpR [1,3,3,3,3,1,1,1,1,1,1] (by rfl) (by rfl) ?_;simp only[stz];refine wpDo rfl ?_
 refine qB (qC 55 [] _ rfl _ func55 rfl (by kernel_rfl) [] rfl _) (two_any _) ?_;rintro e w1 ⟨hm1,lv,kv,he1,hl1,hk1⟩;subst he1;refine⟨_,rfl,?_⟩;simp only[stz]
 refine qE rfl (fun w'=>qL _ 0 #[.agg (qA idA),.agg (qA idB),.agg #[.int .i64 31,lv,kv]] rfl rfl (.agg (qA idA)) rfl) ?_;simp only[nmz]
 refine qE rfl (fun w'=>qL _ 1 #[.agg (qA idA),.agg (qA idB),.agg #[.int .i64 31,lv,kv]] rfl rfl (.agg (qA idB)) rfl) ?_;simp only[nmz]
 refine qE rfl (fun w'=>qL _ 2 #[.agg (qA idA),.agg (qA idB),.agg #[.int .i64 31,lv,kv]] rfl rfl (.agg #[.int .i64 31,lv,kv]) rfl) ?_
 simp only[nmz];refine wpDo rfl ?_;refine qR 24 _ (by rfl) idZ (fun w2 hB2 hm2 hs2=>?_)
 replace hB2:w2.heap[w1.heap.size]?=some (.cells (qA (List.replicate 32 0)) 24 (0,0)):=hB2;try simp only[nmz]
 refine wpDo rfl ?_;refine qR 24 _ (by rfl) idZ (fun w3 hB3 hm3 hs3=>?_)
 replace hB3:w3.heap[w2.heap.size]?=some (.cells (qA (List.replicate 32 0)) 24 (0,0)):=hB3;try simp only[nmz]
 refine wpDo rfl ?_;refine qR 68 _ (by rfl) houseZ (fun w4 hB4 hm4 hs4=>?_)
 replace hB4:w4.heap[w3.heap.size]?=some (.cells #[.int .i64 0,.slice none 0 0,.slice none 0 0] 68 (0,0)):=hB4;have hX1:=(hm3.trans0 hm4).obj id hB2;try simp only[nmz]
 refine wpDo rfl ?_
 refine qH 24 _ _ w1.heap.size 0 (qA idA) (by rfl) (by rfl) (by rfl) (qT _) 32 (by kernel_rfl) hA _ _ hX1 (by rw[hA,hz32];omega) (fun w5 hB5 hm5=>?_)
 rw[qF (by rw[hA,hz32])]at hB5;have hX2:=hm5.objB (b:=w2.heap.size) (by omega) (hm4.obj id hB3);have hX3:=hm5.objB (b:=w3.heap.size) (by omega) hB4
 try simp only[nmz]
 refine wpDo rfl ?_
 refine qH 24 _ _ w2.heap.size 0 (qA idB) (by rfl) (by rfl) (by rfl) (qT _) 32 (by kernel_rfl) hB _ _ hX2 (by rw[hB,hz32];omega) (fun w6 hB6 hm6=>?_)
 rw[qF (by rw[hB,hz32])]at hB6;have hY1:=hm6.objB (b:=w1.heap.size) (by omega) hB5;have hY3:=hm6.objB (b:=w3.heap.size) (by omega) hX3;try simp only[nmz]
 refine wpDo rfl ?_
 refine qH 68 _ _ w3.heap.size 0 #[.int .i64 31,lv,kv] (by rfl) (by rfl) (by rfl) (by intro c hc;simp at hc;rcases hc with rfl|rfl|rfl<;>first|rfl|exact Sl.one hl1|exact Sl.one hk1) 3 (by kernel_rfl) rfl _ _ hY3 (by simp) (fun w7 hB7 hm7=>?_)
 rw[qF (by simp)]at hB7;have hZ1:=hm7.objB (b:=w1.heap.size) (by omega) hY1;have hZ2:=hm7.objB (b:=w2.heap.size) (by omega) hB6;simp only[stz]
 have s1:=hm2.size;have s2:=hm3.size;have s3:=hm4.size
 have hm17:Mod NoB w1 w7:=((((hm2.trans0 hm3).trans0 hm4).transB hm5 (Nat.le_refl _)).transB hm6 s1).transB hm7 (by omega);have hl7:=jD hl1 hm17
 have hk7:=hk1.keep0 hm17;have hm07:=hm1.trans0 hm17
 have hbl:=built_any (w:=w7) (wd:=31) (by constructor<;>omega) hl7 hk7 (by simp) (by simp) (by simp) (by intro x hx;simp at hx;rcases hx with rfl|rfl<;>constructor<;>omega)
 rw[wid31]at hbl;have b17:w1.heap.size<w7.heap.size:=(Array.getElem?_eq_some_iff.1 hZ1).1;have b27:w2.heap.size<w7.heap.size:=(Array.getElem?_eq_some_iff.1 hZ2).1
 generalize hb1:w1.heap.size=b1 at*;generalize hb2:w2.heap.size=b2 at*;generalize hb3:w3.heap.size=b3 at*
 clear hm1 hm2 hm3 hm4 hm5 hm6 hm7 hB2 hB3 hB4 hB5 hB6 hX1 hX2 hX3 hY1 hY3 hm17 hl1 hk1 hs2 hs3 hs4;have hcH:CellsAt w7 b3 0 #[.int .i64 31,lv,kv]:=CellsAt.whole hB7
 go_upto_region 2 with(fail);refine wpR [1,1,3,3,3,3,3] (by rfl) (by rfl) ?_;simp only[stz];refine wpXA 68 b3 0 #[.int .i64 31,lv,kv] hcH underlying68 3 rfl trivial ?_
 try simp only[nmz]
 refine wpDo rfl ?_;refine qB (qC 43 [.tmp 24] _ rfl _ func43 rfl (by kernel_rfl) [.agg #[.int .i64 31,lv,kv]] rfl _) (hbl) ?_
 rintro e w8 ⟨h,hhw,hhr,hhl,⟨qb,hhq⟩,he8,Ft,hat,hFn,hm78⟩;subst he8;rw[hhq];refine⟨_,rfl,?_⟩;simp only[stz]
 refine qE rfl (fun w'=>qL _ 0 #[.pointer (some ⟨h.bs,0,none⟩),.pointer (some ⟨qb,0,none⟩)] rfl rfl (.pointer (some ⟨h.bs,0,none⟩)) rfl) ?_;simp only[nmz]
 refine qE rfl (fun w'=>qL _ 1 #[.pointer (some ⟨h.bs,0,none⟩),.pointer (some ⟨qb,0,none⟩)] rfl rfl (.pointer (some ⟨qb,0,none⟩)) rfl) ?_;simp only[stz]
 rw[cOf_AB,lOf_AB]at hat;have hI1:CellsAt w8 b1 0 (qA idA):=CellsAt.whole (hm78.obj id hZ1);have hI2:CellsAt w8 b2 0 (qA idB):=CellsAt.whole (hm78.obj id hZ2)
 have hm08:=hm07.trans0 hm78;clear hbl hl7 hk7 hcH hB7 hZ1 hZ2;go_upto_region 5 with(fail);refine wpR [1,1,1,3] (by rfl) (by rfl) ?_;simp only[stz]
 refine wpXA 24 b1 0 (qA idA) hI1 underlying24 32 hA trivial ?_;try simp only[nmz]
 refine wpXA 24 b2 0 (qA idB) hI2 underlying24 32 hB trivial ?_;try simp only[nmz]
 refine wpDo rfl ?_
 refine xP 25 24 2 [(0,_),(1,_)] [.agg (qA idA),.agg (qA idB)] (.agg (qA (List.replicate 32 0))) 32 (by rfl) (by rfl) (by rfl) underlying25 id_zs (by omega) (by omega) (by intro v hv;simp at hv;rcases hv with rfl|rfl<;>assumption) (fun w9 hB9 hm9 hs9=>?_)
 replace hB9:w9.heap[w8.heap.size]?=some (.cells (qA idA++qA idB) 24 (0,0)):=by rw[hB9];simp[Value.cells]
 simp only[stz];have hBoth:=sl_twoB (R:=IdC) hB9 ⟨rfl,yS⟩ ⟨rfl,idB_len⟩ 32 hA hB;have hI1:=hI1.keep hm9 id;have hI2:=hI2.keep hm9 id
 have hcmp:=shaCompare_any idA idB yS idB_len w9;rw[cmp_AB]at hcmp;have hat9:=hat.keep0 hm9;have hlt8':=hat.lt;have hm09:=hm08.trans0 hm9
 have s89:w8.heap.size<w9.heap.size:=hs9;generalize hb6:w8.heap.size=b6 at*;clear hat hB9 hm9 hs9;go_upto_region 6 with(fail)
 refine wpR [1,1,1,3] (by rfl) (by rfl) ?_;simp only[stz];refine wpXA 24 b1 0 (qA idA) hI1 underlying24 32 hA trivial ?_;try simp only[nmz]
 refine wpXA 24 b2 0 (qA idB) hI2 underlying24 32 hB trivial ?_;try simp only[nmz]
 refine wpDo rfl ?_;refine qB (qC 35 [.tmp 37,.tmp 38] _ rfl _ func35 rfl (by kernel_rfl) [.agg (qA idA),.agg (qA idB)] rfl _) (hcmp) ?_
 rintro e wa ⟨rfl,hga⟩;have hma:Mod NoB w9 wa:=hga.mod;refine⟨_,rfl,?_⟩;try simp only[nmz]
 refine qE (v:=?_) rfl (fun w'=>?_) ?_;rotate_left;·(go_simp;try with_reducible rfl)
 simp only[stz];have hata:=hat9.keep0 hma;have hI1:=hI1.keep hma id;have hI2:=hI2.keep hma id;have hBoth:=hBoth.keep0 hma;have hm0a:=hm09.trans0 hma;have sa:=hma.size
 clear hat9 hga hcmp;go_upto_region 8 with(fail)
 go_cut [7] (fun s wx=>KnMid wa s wx)
 case first=>
  have hS:Mod NoB wa wa.drew:=(Mod.refl _ _).drew;have hT:Mod NoB wa wa.drew:=(Mod.refl _ _).drew
  refine jN [(0,3),(1,0),(3,0)] 4 [(7,1),(8,3)] [] (fun w'=>Mod NoB wa w') #[true,true,false,true,false,false,false,false,false] (by kernel_rfl) (by kernel_rfl) (by kernel_rfl) (by kernel_rfl) (by kernel_rfl) (fun _ _ _ _ hd h=>⟨hd.trans h.1,h.2⟩) hS ?_
  simp only[stz];refine wpLA 24 b1 0 (qA idA) (fun w' hS=>hI1.keep hS id) underlying24 32 hA ?_;simp only[nmz]
  refine wpLA 24 b2 0 (qA idB) (fun w' hS=>hI2.keep hS id) underlying24 32 hB ?_;simp only[stz];refine zJ [2,4] (by kernel_rfl) ?_
  simp only[zz3,false_implies,implies_true];refine⟨?_,?_⟩
  ·intro K hK
   simp only[zz5];refine qB (qC 56 [.tmp 45] _ rfl _ func56 rfl (by kernel_rfl) [.agg (qA idA)] rfl _) (tagged_any idA yS _) ?_
   rintro e we ⟨hme,tv,tr,treps,rfl,htv,htr,htroots⟩
   try replace hX:=hX.keep0 hme
   try replace hE:=SlEv.keep0 hE hme
   replace hT:=hT.trans0 hme;clear hme;refine⟨_,rfl,hK _ _ hT ?_⟩;clear hK K;try simp only[nmz]
   refine zJ [4] (by kernel_rfl) ?_;simp only[zz3,false_implies,implies_true];intro K hK;simp only[zz5]
   refine zG 25 24 _ (.agg (qA idB)) (.agg (qA (List.replicate 32 0))) 32 (by rfl) (by rfl) underlying25 id_zs (by omega) (by omega) hB (fun bX wg hBg hmg=>?_)
   have hX:Sl false wg AnyB 32 IdC (.slice (some ⟨bX,0,none⟩) 1 1) [idB]:=sl_one hBg ⟨rfl,idB_len⟩ 32 hB
   try replace htr:=xN htr (KC.of0 hmg)
   replace hT:=hT.trans0 hmg;clear hmg hBg;refine hK _ _ hT ?_;clear hK K;try simp only[nmz]
   refine xC 5 (.agg (zN evB (.slice none 0 0) (.slice (some ⟨bX,0,none⟩) 1 1))) (by kernel_rfl) (fun _ _ _ _ hd h=>⟨hd.trans h.1,h.2⟩) (fun w'=>by simp only[zz5];exact qO 115 [(6,_)] [(6,.slice (some ⟨bX,0,none⟩) 1 1)] _ (by rfl) (by rfl) (built_evB _ 1 1)) hT ?_
   simp only[zz5];try simp only[nmz]
   refine zJ [6] (by kernel_rfl) ?_;simp only[zz3,false_implies,implies_true];intro K hK;simp only[zz5]
   refine zG 72 115 _ (.agg (zN evB (.slice none 0 0) (.slice (some ⟨bX,0,none⟩) 1 1))) evZero 39 (by rfl) (by rfl) underlying72 ev_zs (by omega) (by omega) (zC evB _ _ (by simp[evB])).size (fun bE wh hBh hmh=>?_)
   have hE:Sl false wh AnyB 39 (EvR false wh AnyB) (.slice (some ⟨bE,0,none⟩) 1 1) [evB]:=sl_one hBh ⟨_,_,rfl,by simp[evB],Sl.nil _ _ _ _ _,hX.keep0 hmh,by simp[evB,ByteArray.size,maxLen],by simp[evB,ByteArray.size,maxLen]⟩ 39 (zC evB _ _ (by simp[evB])).size
   try replace htr:=xN htr (KC.of0 hmh)
   replace hT:=hT.trans0 hmh;clear hmh hBh hX;refine hK _ _ hT ?_;clear hK K;try simp only[nmz]
   refine xZ ?_;try simp only[zz4]
   try simp only[nmz]
   refine qN rfl (fun K hK=>?_);have hmk:=swMarks_of (hata.keep0 hT) htv htr htroots hE
   refine qB (qC 48 [.tmp 44,.tmp 46,.tmp 50] _ rfl _ func48 rfl (by kernel_rfl) [.pointer (some ⟨h.bs,0,none⟩),.agg #[tv,tr],.slice (some ⟨bE,0,none⟩) 1 1] rfl _) hmk ?_
   rintro e wi ⟨hmi,vM,out,rfl,hgi,hMo,hli⟩;obtain rfl:=marks_AB hMo rfl;have HF:Hid (KnMid wa vM wi):=hid ⟨hT.trans0 hmi,hgi.base hT.size⟩;replace hT:=hT.trans0 hmi
   refine⟨_,rfl,hK _ _ hT ?_⟩;clear hK K hmk hmi hgi hMo hli;simp only[stz];go_wp2
   go_meet
   case rel=>exact HF.out
  ·intro K hK
   simp only[zz5]
   refine zG 25 24 _ (.agg (qA idB)) (.agg (qA (List.replicate 32 0))) 32 (by rfl) (by rfl) underlying25 id_zs (by omega) (by omega) hB (fun bX wg hBg hmg=>?_)
   have hX:Sl false wg AnyB 32 IdC (.slice (some ⟨bX,0,none⟩) 1 1) [idB]:=sl_one hBg ⟨rfl,idB_len⟩ 32 hB
   try replace htr:=xN htr (KC.of0 hmg)
   replace hT:=hT.trans0 hmg;clear hmg hBg;refine hK _ _ hT ?_;clear hK K;try simp only[nmz]
   refine xC 5 (.agg (zN evB (.slice none 0 0) (.slice (some ⟨bX,0,none⟩) 1 1))) (by kernel_rfl) (fun _ _ _ _ hd h=>⟨hd.trans h.1,h.2⟩) (fun w'=>by simp only[zz5];exact qO 115 [(6,_)] [(6,.slice (some ⟨bX,0,none⟩) 1 1)] _ (by rfl) (by rfl) (built_evB _ 1 1)) hT ?_
   simp only[zz5];try simp only[nmz]
   refine zJ [2,6] (by kernel_rfl) ?_;simp only[zz3,false_implies,implies_true];refine⟨?_,?_⟩
   ·intro K hK
    simp only[zz5];refine qB (qC 56 [.tmp 45] _ rfl _ func56 rfl (by kernel_rfl) [.agg (qA idA)] rfl _) (tagged_any idA yS _) ?_
    rintro e we ⟨hme,tv,tr,treps,rfl,htv,htr,htroots⟩
    try replace hX:=hX.keep0 hme
    try replace hE:=SlEv.keep0 hE hme
    replace hT:=hT.trans0 hme;clear hme;refine⟨_,rfl,hK _ _ hT ?_⟩;clear hK K;try simp only[nmz]
    refine zJ [6] (by kernel_rfl) ?_;simp only[zz3,false_implies,implies_true];intro K hK;simp only[zz5]
    refine zG 72 115 _ (.agg (zN evB (.slice none 0 0) (.slice (some ⟨bX,0,none⟩) 1 1))) evZero 39 (by rfl) (by rfl) underlying72 ev_zs (by omega) (by omega) (zC evB _ _ (by simp[evB])).size (fun bE wh hBh hmh=>?_)
    have hE:Sl false wh AnyB 39 (EvR false wh AnyB) (.slice (some ⟨bE,0,none⟩) 1 1) [evB]:=sl_one hBh ⟨_,_,rfl,by simp[evB],Sl.nil _ _ _ _ _,hX.keep0 hmh,by simp[evB,ByteArray.size,maxLen],by simp[evB,ByteArray.size,maxLen]⟩ 39 (zC evB _ _ (by simp[evB])).size
    try replace htr:=xN htr (KC.of0 hmh)
    replace hT:=hT.trans0 hmh;clear hmh hBh hX;refine hK _ _ hT ?_;clear hK K;try simp only[nmz]
    refine xZ ?_;try simp only[zz4]
    try simp only[nmz]
    refine qN rfl (fun K hK=>?_);have hmk:=swMarks_of (hata.keep0 hT) htv htr htroots hE
    refine qB (qC 48 [.tmp 44,.tmp 46,.tmp 50] _ rfl _ func48 rfl (by kernel_rfl) [.pointer (some ⟨h.bs,0,none⟩),.agg #[tv,tr],.slice (some ⟨bE,0,none⟩) 1 1] rfl _) hmk ?_
    rintro e wi ⟨hmi,vM,out,rfl,hgi,hMo,hli⟩;obtain rfl:=marks_AB hMo rfl;have HF:Hid (KnMid wa vM wi):=hid ⟨hT.trans0 hmi,hgi.base hT.size⟩
    replace hT:=hT.trans0 hmi;refine⟨_,rfl,hK _ _ hT ?_⟩;clear hK K hmk hmi hgi hMo hli;simp only[stz];go_wp2
    go_meet
    case rel=>exact HF.out
   ·intro K hK
    simp only[zz5]
    refine zG 72 115 _ (.agg (zN evB (.slice none 0 0) (.slice (some ⟨bX,0,none⟩) 1 1))) evZero 39 (by rfl) (by rfl) underlying72 ev_zs (by omega) (by omega) (zC evB _ _ (by simp[evB])).size (fun bE wh hBh hmh=>?_)
    have hE:Sl false wh AnyB 39 (EvR false wh AnyB) (.slice (some ⟨bE,0,none⟩) 1 1) [evB]:=sl_one hBh ⟨_,_,rfl,by simp[evB],Sl.nil _ _ _ _ _,hX.keep0 hmh,by simp[evB,ByteArray.size,maxLen],by simp[evB,ByteArray.size,maxLen]⟩ 39 (zC evB _ _ (by simp[evB])).size
    try replace htr:=xN htr (KC.of0 hmh)
    replace hT:=hT.trans0 hmh;clear hmh hBh hX;refine hK _ _ hT ?_;clear hK K;try simp only[nmz]
    refine zJ [2] (by kernel_rfl) ?_;simp only[zz3,false_implies,implies_true];intro K hK;simp only[zz5]
    refine qB (qC 56 [.tmp 45] _ rfl _ func56 rfl (by kernel_rfl) [.agg (qA idA)] rfl _) (tagged_any idA yS _) ?_
    rintro e we ⟨hme,tv,tr,treps,rfl,htv,htr,htroots⟩
    try replace hX:=hX.keep0 hme
    try replace hE:=SlEv.keep0 hE hme
    replace hT:=hT.trans0 hme;clear hme;refine⟨_,rfl,hK _ _ hT ?_⟩;clear hK K;try simp only[nmz]
    refine xZ ?_;try simp only[zz4]
    try simp only[nmz]
    refine qN rfl (fun K hK=>?_);have hmk:=swMarks_of (hata.keep0 hT) htv htr htroots hE
    refine qB (qC 48 [.tmp 44,.tmp 46,.tmp 50] _ rfl _ func48 rfl (by kernel_rfl) [.pointer (some ⟨h.bs,0,none⟩),.agg #[tv,tr],.slice (some ⟨bE,0,none⟩) 1 1] rfl _) hmk ?_
    rintro e wi ⟨hmi,vM,out,rfl,hgi,hMo,hli⟩;obtain rfl:=marks_AB hMo rfl;have HF:Hid (KnMid wa vM wi):=hid ⟨hT.trans0 hmi,hgi.base hT.size⟩
    replace hT:=hT.trans0 hmi;refine⟨_,rfl,hK _ _ hT ?_⟩;clear hK K hmk hmi hgi hMo hli;simp only[stz];go_wp2
    go_meet
    case rel=>exact HF.out
 case rest=>
  rename World=>wx
  obtain⟨hmx,hgM⟩:=hcut;have hatx:=hata.keep0 hmx;have hI1:=hI1.keep hmx id;have hI2:=hI2.keep hmx id;have hBoth:=hBoth.keep0 hmx;have hm0x:=hm0a.trans0 hmx
  have sx:=hmx.size;have hM:=slI hgM (fun x hx=>by simp at hx;rcases hx with rfl|rfl;exact yS;exact idB_len);have hlo:∀k,Ft k->w7.heap.size<=k:=hFn
  have hlt8:=hata.lt;have hF1:∀k,k<w7.heap.size->¬Ft k:=fun k hk e=>by have:=hlo _ e;omega
  have hFb6:¬Ft b6:=fun e=>by
   have h1:=hlt8' _ e;omega
  have hFM:∀k,(wa.heap.size<=k/\k<wx.heap.size/\u7.ownBlock=some k)->¬Ft k:=fun k hk e=>by have:=hlt8 _ e;have:=hk.1;omega
  clear hata hgM;go_upto_region 9 with(fail);refine wpR [3,3,1,1,1,3,3,3,1,1,3] (by rfl) (by rfl) ?_;simp only[stz]
  refine wpXA 24 b1 0 (qA idA) hI1 underlying24 32 hA trivial ?_;try simp only[nmz]
  refine wpDo rfl ?_
  refine qY 25 24 _ (.agg (qA idA)) (.agg (qA (List.replicate 32 0))) 32 (by rfl) (by rfl) underlying25 id_zs (by omega) (by omega) hA (fun wb hBb hmb hsbX=>?_)
  replace hBb:wb.heap[wx.heap.size]?=some (.cells (qA idA) 24 (0,0)):=hBb;have hbX:¬Ft wx.heap.size:=fun e=>Nat.lt_irrefl _ (hatx.lt _ e)
  have hsw:=sweep_one (hatx.keep0 hmb) yS hBb hbX hhq;try simp only[nmz]
  refine wpDo rfl ?_
  refine qB (qC 53 [.tmp 53,.tmp 54,.tmp 56] _ rfl _ func53 rfl (by kernel_rfl) [.pointer (some ⟨h.bs,0,none⟩),.pointer (some ⟨qb,0,none⟩),.slice (some ⟨wx.heap.size,0,none⟩) 1 1] rfl _) (hsw) ?_
  rintro e wc ⟨ids,bv,sr,Fc,hidc,hrun,hec,hgc,hatc,hmc,hsc,hnc⟩;subst hec;rw[gone_A hidc]at hrun hgc;rw[run_AB]at hrun;subst hrun
  replace hatc:HsAt wc h cA1 lA1 Fc:=hatc;refine⟨_,rfl,?_⟩;simp only[stz]
  refine qE rfl (fun w'=>qL _ 0 #[.agg (qK bv 2 1),.int .i64 0] rfl rfl (.agg (qK bv 2 1)) rfl) ?_;simp only[nmz]
  refine qE rfl (fun w'=>qL _ 1 #[.agg (qK bv 2 1),.int .i64 0] rfl rfl (.int .i64 0) rfl) ?_;simp only[nmz];refine wpDo rfl ?_
  refine qR 104 _ (by rfl) sweptZ (fun wd hBd hmd hsd=>?_)
  replace hBd:wd.heap[wc.heap.size]?=some (.cells #[.slice none 0 0,.int .i64 0,.int .i64 0] 104 (0,0)):=hBd;try simp only[nmz]
  refine wpDo rfl ?_
  refine qH 104 _ _ wc.heap.size 0 (qK bv 2 1) (by rfl) (by rfl) (by rfl) (by intro c hc;simp[qK]at hc;rcases hc with rfl|rfl|rfl<;>first|rfl|exact yC hgc) 3 (by kernel_rfl) rfl _ _ hBd (by simp[qK]) (fun we hBe hme=>?_)
  rw[qF (by simp[qK])]at hBe;simp only[stz];have hmce:Mod NoB wc we:=hmd.transB hme (Nat.le_refl _)
  have hmxc:Mod Ft wx wc:=(hmb.mono (fun _ _ h=>h.elim)).trans hmc (fun k _ h=>h);have hI1e:=(hI1.keep hmxc (hF1 b1 b17)).keep hmce id
  have hBe2:=(hBoth.keep hmxc (fun k hk=>by have e:k=b6:=hk;rw[e];exact hFb6) (fun _ _ h=>h)).keep0 hmce;have hMe:=(hM.keep hmxc hFM (fun _ _ h=>h)).keep0 hmce
  have hate:=hatc.keep0 hmce;have hFlt:∀k,Fc k->k<wc.heap.size:=hatc.lt;have sb:=hmb.size;have sc:=hmxc.size
  have hFlow:∀k,Fc k->k<wx.heap.size->Ft k:=fun k hk hl=>(hsc k hk).elim id (fun hn=>by have:=hn.1;omega)
  have hm7x:w7.heap.size<=wx.heap.size:=by have:=hm78.size;omega
  have hlo2:∀k,Fc k->w7.heap.size<=k:=fun k hk=>(hsc k hk).elim (hlo k) (fun hn=>by have:=hn.1;omega)
  have hm0e:Mod NoB w we:=(hm0x.trans hmxc (fun k hk hf=>by have:=hlo k hf;have:=hm07.size;omega)).trans0 hmce;obtain⟨bad,bcap,hbv⟩:=hgc.slice
  replace hbv:bv=.slice bad 1 bcap:=hbv;generalize hb8:wc.heap.size=b8 at*;clear hsw hatx hmb hmc hgc hatc hmd hme hBd hidc hI1 hI2 hBoth hM hnc hsd hBb hbX hsc hsbX
  go_upto_region 10 with(fail);refine wpR [3,3,1,1,1,3,3,3,1,1,3] (by rfl) (by rfl) ?_;simp only[stz]
  refine wpXA 24 b1 0 (qA idA) hI1e underlying24 32 hA trivial ?_;try simp only[nmz]
  refine wpDo rfl ?_
  refine qY 25 24 _ (.agg (qA idA)) (.agg (qA (List.replicate 32 0))) 32 (by rfl) (by rfl) underlying25 id_zs (by omega) (by omega) hA (fun wf hBf hmf hsbY=>?_)
  replace hBf:wf.heap[we.heap.size]?=some (.cells (qA idA) 24 (0,0)):=hBf;have hbY:¬Fc we.heap.size:=fun e=>Nat.lt_irrefl _ (hate.lt _ e)
  have hsw:=sweep_one (hate.keep0 hmf) yS hBf hbY hhq;try simp only[nmz]
  refine wpDo rfl ?_
  refine qB (qC 53 [.tmp 61,.tmp 62,.tmp 64] _ rfl _ func53 rfl (by kernel_rfl) [.pointer (some ⟨h.bs,0,none⟩),.pointer (some ⟨qb,0,none⟩),.slice (some ⟨we.heap.size,0,none⟩) 1 1] rfl _) (hsw) ?_
  rintro e wg ⟨ids,bw,sr,Fg,hidg,hrun,heg,hgg,hatg,hmg,hsg,hng⟩;subst heg;rw[gone_A1 hidg]at hrun hgg;rw[run_A1]at hrun;subst hrun
  replace hatg:HsAt wg h cA1 lA1 Fg:=hatg;refine⟨_,rfl,?_⟩;simp only[stz]
  refine qE rfl (fun w'=>qL _ 0 #[.agg (qK bw 0 0),.int .i64 0] rfl rfl (.agg (qK bw 0 0)) rfl) ?_;simp only[nmz]
  refine qE rfl (fun w'=>qL _ 1 #[.agg (qK bw 0 0),.int .i64 0] rfl rfl (.int .i64 0) rfl) ?_;simp only[nmz];refine wpDo rfl ?_
  refine qR 104 _ (by rfl) sweptZ (fun wh hBh hmh hsh=>?_)
  replace hBh:wh.heap[wg.heap.size]?=some (.cells #[.slice none 0 0,.int .i64 0,.int .i64 0] 104 (0,0)):=hBh;try simp only[nmz]
  refine wpDo rfl ?_
  refine qH 104 _ _ wg.heap.size 0 (qK bw 0 0) (by rfl) (by rfl) (by rfl) (by intro c hc;simp[qK]at hc;rcases hc with rfl|rfl|rfl<;>first|rfl|exact yC hgg) 3 (by kernel_rfl) rfl _ _ hBh (by simp[qK]) (fun wi hBi hmi=>?_)
  rw[qF (by simp[qK])]at hBi;simp only[stz];have hmgi:Mod NoB wg wi:=hmh.transB hmi (Nat.le_refl _)
  have hmeg:Mod Fc we wg:=(hmf.mono (fun _ _ h=>h.elim)).trans hmg (fun k _ h=>h);have hFc8:¬Fc b8:=fun e=>by have:=hFlt _ e;omega
  have hBi8:wi.heap[b8]?=some (.cells (qK bv 2 1) 104 (0,0)):=hmgi.obj id (hmeg.obj hFc8 hBe)
  have hB6i:=(hBe2.keep hmeg (fun k hk e=>by have e1:k=b6:=hk;subst e1;exact hFb6 (hFlow _ e (by omega))) (fun _ _ h=>h)).keep0 hmgi
  have hMi:=(hMe.keep hmeg (fun k hk e=>hFM k hk (hFlow _ e hk.2.1)) (fun _ _ h=>h)).keep0 hmgi;have hati:=hatg.keep0 hmgi
  have hFglt:∀k,Fg k->k<wg.heap.size:=hatg.lt;have se:=hmce.size;have sf:=hmf.size
  have hFg6:¬Fg b6:=fun e=>(hsg _ e).elim (fun h1=>hFb6 (hFlow _ h1 (by omega))) (fun hn=>by have:=hn.1;omega)
  have hFg8:¬Fg b8:=fun e=>(hsg _ e).elim hFc8 (fun hn=>by have:=hn.1;have:=(Array.getElem?_eq_some_iff.1 hBe).1;omega)
  have hFgM:∀k,(wa.heap.size<=k/\k<wx.heap.size/\u7.ownBlock=some k)->¬Fg k:=fun k hk e=>(hsg _ e).elim (fun h1=>hFM k hk (hFlow _ h1 hk.2.1)) (fun hn=>by have:=hn.1;have:=hk.2.1;omega)
  have hlo3:∀k,Fg k->w7.heap.size<=k:=fun k hk=>(hsg k hk).elim (hlo2 k) (fun hn=>by have:=hn.1;omega)
  have hm0i:Mod NoB w wi:=(hm0e.trans hmeg (fun k hk hf=>by have:=hlo2 k hf;have:=hm07.size;omega)).trans0 hmgi
  have hVi:=slI (hgg.keep0 hmgi) (fun x hx=>by simp at hx);have hns:=swSweep_noStore hati (v:=.pointer none) (.inl rfl) (fun b e=>by cases e) (.slice none 0 0) rfl
  rw[hhq]at hns;generalize hb10:wg.heap.size=b10 at*;clear hsw hate hmf hmg hgg hatg hmh hmi hBh hidg hI1e hBe2 hMe hng hsh hBf hbY hsg hsbY hBe;go_upto_region 11 with(fail)
  refine wpR [3,1,3,3,3,1,1,3] (by rfl) (by rfl) ?_;simp only[stz];refine wpDo rfl ?_
  refine qB (qC 53 [.const (.pointer none),.tmp 69,.const (.slice none 0 0)] _ rfl _ func53 rfl (by kernel_rfl) [.pointer none,.pointer (some ⟨qb,0,none⟩),.slice none 0 0] rfl _) (hns) ?_
  rintro e wj ⟨hej,Fj,hatj,hmj,hsj⟩;subst hej;unfold noneV;refine⟨_,rfl,?_⟩;simp only[stz]
  refine qE rfl (fun w'=>qL _ 0 #[.agg (qK (.slice none 0 0) 0 0),.int .i64 1] rfl rfl (.agg (qK (.slice none 0 0) 0 0)) rfl) ?_;simp only[nmz]
  refine qE rfl (fun w'=>qL _ 1 #[.agg (qK (.slice none 0 0) 0 0),.int .i64 1] rfl rfl (.int .i64 1) rfl) ?_;simp only[nmz];refine wpDo rfl ?_
  refine qR 104 _ (by rfl) sweptZ (fun wk hBk hmk hsk=>?_)
  replace hBk:wk.heap[wj.heap.size]?=some (.cells #[.slice none 0 0,.int .i64 0,.int .i64 0] 104 (0,0)):=hBk;try simp only[nmz]
  refine wpDo rfl ?_
  refine qH 104 _ _ wj.heap.size 0 (qK (.slice none 0 0) 0 0) (by rfl) (by rfl) (by rfl) (by intro c hc;simp[qK]at hc;rcases hc with rfl|rfl|rfl<;>rfl) 3 (by kernel_rfl) rfl _ _ hBk (by simp[qK]) (fun wl hBl hml=>?_)
  simp only[stz];have hmjl:Mod NoB wj wl:=hmk.transB hml (Nat.le_refl _);have hFg10:¬Fg b10:=fun e=>by have:=hFglt _ e;omega
  have hBl8:wl.heap[b8]?=some (.cells (qK bv 2 1) 104 (0,0)):=hmjl.obj id (hmj.obj hFg8 hBi8)
  have hBl10:wl.heap[b10]?=some (.cells (qK bw 0 0) 104 (0,0)):=hmjl.obj id (hmj.obj hFg10 hBi)
  have hB6l:=(hB6i.keep hmj (fun k hk e=>hFg6 (by have e1:k=b6:=hk;rw[<-e1];exact e)) (fun _ _ h=>h)).keep0 hmjl
  have hMl:=(hMi.keep hmj (fun k hk e=>hFgM k hk e) (fun _ _ h=>h)).keep0 hmjl
  have hm0l:Mod NoB w wl:=(hm0i.trans hmj (fun k hk hf=>by have:=hlo3 k hf;have:=hm07.size;omega)).trans0 hmjl
  have hVl:Sl false wl AnyB 32 IdC bw []:=by
   obtain⟨ad9,cap9,e9,q1,q2,-⟩:=hVi;exact⟨ad9,cap9,e9,q1,q2,fun h=>absurd rfl h⟩
  have z1:=(zC evOne (.slice none 0 0) (.slice none 0 0) (by simp[evOne])).size
  have z2:=(zC yK (.slice none 0 0) (.slice none 0 0) (by simp[yK])).size
  have zz:=(zC evt0 (.slice none 0 0) (.slice none 0 0) (by simp[evt0])).size
  have o1:=evCells_one (e:=evOne) (dv:=.slice none 0 0) (rv:=.slice none 0 0) rfl rfl
  have o2:=evCells_one (e:=yK) (dv:=.slice none 0 0) (rv:=.slice none 0 0) rfl rfl
  clear hns hati hmj hatj hsj hmk hml hBk hBl hsk hmjl hmgi hmeg hmxc hmce hm0i hm0e hm0x hm0a hmx hma hm09 hm08 hm07 hm78 hBi8 hBi hB6i hMi hVi hF1 hFb6 hFM hFlow hFg6 hFg8 hFgM hFg10 hFc8 hlo hlo2 hlo3 hlt8 hlt8' hFlt hFglt hFn
  go_upto_region 12 with(fail);refine wpR [0,0,0,0,1,1,1,1] (by rfl) (by rfl) ?_;simp only[stz]
  refine qM rfl (fun w' hS=>qO 113 [(0,_),(1,_)] [(0,.int .i64 1),(1,.int .i64 1)] _ (by rfl) (by rfl) built_dot11) ?_;simp only[nmz]
  refine qM rfl (fun w' hS=>qO 115 [(0,_)] [(0,.agg #[.int .i64 1,.int .i64 1])] _ (by rfl) (by rfl) built_evOne) ?_;simp only[nmz]
  refine qM rfl (fun w' hS=>qO 113 [(0,_),(1,_)] [(0,.int .i64 2),(1,.int .i64 1)] _ (by rfl) (by rfl) built_dot21) ?_;simp only[nmz]
  refine qM rfl (fun w' hS=>qO 115 [(0,_)] [(0,.agg #[.int .i64 2,.int .i64 1])] _ (by rfl) (by rfl) built_evOther) ?_;simp only[nmz];refine wpDo rfl ?_
  refine qR 115 _ (by rfl) zeroEvV (fun wm hBm hmm hsm=>?_)
  replace hBm:wm.heap[wl.heap.size]?=some (.cells (zN evt0 (.slice none 0 0) (.slice none 0 0)) 115 (0,0)):=hBm;try simp only[nmz]
  refine wpDo rfl ?_;refine qR 115 _ (by rfl) zeroEvV (fun wn hBn hmn hsn=>?_)
  replace hBn:wn.heap[wm.heap.size]?=some (.cells (zN evt0 (.slice none 0 0) (.slice none 0 0)) 115 (0,0)):=hBn;have hBm2:=hmn.obj id hBm;try simp only[nmz]
  refine wpDo rfl ?_
  refine qH 115 _ _ wl.heap.size 0 (zN evOne (.slice none 0 0) (.slice none 0 0)) (by rfl) (by rfl) (by rfl) o1 39 (by kernel_rfl) z1 _ _ hBm2 (by rw[z1,zz];omega) (fun wo hBo hmo=>?_)
  rw[qF (by rw[z1,zz])]at hBo;have hBn2:=hmo.objB (b:=wm.heap.size) (by omega) hBn;try simp only[nmz]
  refine wpDo rfl ?_
  refine qH 115 _ _ wm.heap.size 0 (zN yK (.slice none 0 0) (.slice none 0 0)) (by rfl) (by rfl) (by rfl) o2 39 (by kernel_rfl) z2 _ _ hBn2 (by rw[z2,zz];omega) (fun wp hBp hmp=>?_)
  rw[qF (by rw[z2,zz])]at hBp;have hBo2:=hmp.objB (b:=wl.heap.size) (by omega) hBo;simp only[stz]
  have hmlp:Mod NoB wl wp:=((hmm.trans0 hmn).transB hmo (Nat.le_refl _)).transB hmp (by omega)
  have hE14:CellsAt wp wl.heap.size 0 (zN evOne (.slice none 0 0) (.slice none 0 0)):=CellsAt.whole hBo2
  have hE15:CellsAt wp wm.heap.size 0 (zN yK (.slice none 0 0) (.slice none 0 0)):=CellsAt.whole hBp;have hBp8:=hmlp.obj id hBl8;have hBp10:=hmlp.obj id hBl10
  have hB6p:=hB6l.keep0 hmlp;have hMp:=hMl.keep0 hmlp;have hVp:=hVl.keep0 hmlp;have hm0p:=hm0l.trans0 hmlp;generalize hb14:wl.heap.size=b14 at*
  generalize hb15:wm.heap.size=b15 at*;clear hBl8 hBl10 hB6l hMl hVl hm0l hmlp hmm hmn hmo hmp hBm hBn hBo hBm2 hBn2 hBo2 hBp hsm hsn;go_upto_region 13 with(fail)
  refine wpR [1,1,1,1,1,3,3,3,3,3] (by rfl) (by rfl) ?_;simp only[stz]
  refine wpXA 115 b14 0 (zN evOne (.slice none 0 0) (.slice none 0 0)) hE14 underlying115 39 z1 trivial ?_;try simp only[nmz]
  refine wpXA 115 b15 0 (zN yK (.slice none 0 0) (.slice none 0 0)) hE15 underlying115 39 z2 trivial ?_;try simp only[nmz]
  refine wpDo rfl ?_
  refine xP 72 115 2 [(0,_),(1,_)] [.agg (zN evOne (.slice none 0 0) (.slice none 0 0)),.agg (zN yK (.slice none 0 0) (.slice none 0 0))] evZero 39 (by rfl) (by rfl) (by rfl) underlying72 ev_zs (by omega) (by omega) (by intro v hv;simp only[List.mem_cons,List.not_mem_nil,or_false]at hv;rcases hv with rfl|rfl;exact z1;exact z2) (fun wq hBq hmq hsq=>?_)
  replace hBq:wq.heap[wp.heap.size]?=some (.cells (zN evOne (.slice none 0 0) (.slice none 0 0)++zN yK (.slice none 0 0) (.slice none 0 0)) 115 (0,0)):=by rw[hBq];simp[Value.cells]
  have hEq:=sl_twoB (R:=EvR false wq (fun _=>False)) hBq (evOne_r _ _) (evOther_r _ _) 39 z1 z2;try simp only[nmz]
  refine wpDo rfl ?_
  refine xP 64 3 2 [(0,_),(1,_)] [.int .i64 1,.int .i64 0] (.int .i64 0) 1 (by rfl) (by rfl) (by rfl) underlying64 int_zs (by omega) (by omega) (by simp[Value.cells]) (fun wr hBr hmr hsr=>?_)
  replace hBr:wr.heap[wq.heap.size]?=some (.cells (#[.int .i64 1]++#[.int .i64 0]) 3 (0,0)):=by rw[hBr];simp[Value.cells]
  have hIr:=sl_twoB (R:=IntC) hBr rfl rfl 1 rfl rfl;have hEr:=SlEv.keep0 hEq hmr
  have htomb:=swTombs_any hEr (fun k hk=>by have e:k=wp.heap.size:=hk;have:=hmr.size;omega) (fun k hk=>hk.elim) hIr (by simp) (fun e he=>by simp at he;rcases he with rfl|rfl<;>simp[EvOk,evOne,yK])
  try simp only[nmz]
  refine wpDo rfl ?_
  refine qB (qC 57 [.tmp 80,.tmp 81] _ rfl _ func57 rfl (by kernel_rfl) [.slice (some ⟨wp.heap.size,0,none⟩) 2 2,.slice (some ⟨wq.heap.size,0,none⟩) 2 2] rfl _) (htomb) ?_
  rintro e ws ⟨hms,kv2,dv2,hes,hks,hds,-⟩;subst hes;rw[kept_12]at hks;rw[gone_12]at hds;refine⟨_,rfl,?_⟩;simp only[stz]
  refine qE rfl (fun w'=>qL _ 0 #[kv2,dv2] rfl rfl kv2 rfl) ?_;simp only[nmz];refine qE rfl (fun w'=>qL _ 1 #[kv2,dv2] rfl rfl dv2 rfl) ?_
  simp only[stz];have hmps:Mod NoB wp ws:=(hmq.trans0 hmr).trans0 hms;have hE14:=hE14.keep hmps id;have hE15:=hE15.keep hmps id;have hBs8:=hmps.obj id hBp8
  have hBs10:=hmps.obj id hBp10;have hB6s:=hB6p.keep0 hmps;have hMs:=hMp.keep0 hmps;have hVs:=hVp.keep0 hmps;have hm0s:=hm0p.trans0 hmps;have hKs:=hks.slb
  have hDs:=DotGs.sl hds;have hD14:=hE14.part (i:=0) (j:=2) (by rw[z1];omega);rw[(zC evOne (.slice none 0 0) (.slice none 0 0) (by simp[evOne])).dot]at hD14
  clear htomb hks hds hmq hmr hms hBq hBr hEq hIr hEr hmps hBp8 hBp10 hB6p hMp hVp hm0p hsq hsr;have hbl8:CellsAt ws b8 0 (qK bv 2 1):=CellsAt.whole hBs8
  have hcv:ws.cell? ⟨b8,0+0,none⟩=some bv:=hbl8.cell (j:=0) (by simp[qK]);rw[hbv]at hcv
  have hC10:CellsAt ws b10 0 (qK bw 0 0):=CellsAt.whole hBs10;clear hbl8 hBs8 hBs10;go_upto_region 14 with(fail)
  refine wpR [1,3,3,3,1,3,3,3,3,3,3,3,1,3,3,3,3,3,3,3,3,1,0,1,3,3,3,3,3,3,3,1,1,1,3,3,3,3,1,1,1,3,3] (by rfl) (by rfl) ?_;simp only[stz]
  refine wpDo rfl ?_;refine qB (qC 42 [] _ rfl _ func42 rfl (by kernel_rfl) [] rfl _) (awake_any _) ?_;rintro e wt ⟨rfl,hmt⟩;refine⟨_,rfl,?_⟩;simp only[stz]
  refine wpDo rfl ?_
  refine qB (qC 24 [.tmp 87,.tmp 88] _ rfl _ func24 rfl (by kernel_rfl) [u7,.slice (some ⟨b6,0,none⟩) 2 2] rfl _) (yH _ _ _ _ _ _ _ _ _ (hMs.keep0 hmt) (hB6s.keep0 hmt)) ?_
  rintro e wu ⟨rfl,hmu⟩;rw[decide_eq_true rfl];have hmsu:=hmt.trans0 hmu;have hcv:=hmsu.cell id hcv;clear hmt hmu;refine⟨_,rfl,?_⟩;simp only[stz]
  refine qS _ _ _ _ _ _ _ _ rfl rfl rfl rfl rfl true rfl ?_;simp only[stz];refine wpXd 25 b8 (0+0) hcv underlying25 trivial ?_;try simp only[nmz]
  refine zD _ _ _ _ _ rfl rfl rfl (by kernel_rfl) ?_;simp only[nmz];refine qS _ _ _ _ _ _ _ _ rfl rfl rfl rfl rfl true rfl ?_;simp only[stz]
  refine qS _ _ _ _ _ _ _ _ rfl rfl rfl rfl rfl true rfl ?_;simp only[stz];refine wpXA 104 b10 0 (qK bw 0 0) (hC10.keep hmsu id) underlying104 3 rfl trivial ?_
  try simp only[nmz]
  refine qM rfl (fun w' hS=>qO 104 [] [] _ (by rfl) (by rfl) built_swept0) ?_;simp only[nmz];refine wpDo rfl ?_
  refine qB (qC 54 [.tmp 106,.tmp 107] _ rfl _ func54 rfl (by kernel_rfl) [.agg (qK bw 0 0),.agg (qK (.slice none 0 0) 0 0)] rfl _) (sameSwept_any (hVs.keep0 hmsu) (Sl.nil false wu AnyB 32 IdC) 0 0 0 0) ?_
  rintro e wv ⟨rfl,hmv⟩;simp only[decide_true,Bool.and_self];replace hmsu:=hmsu.trans0 hmv;clear hmv;refine⟨_,rfl,?_⟩;simp only[stz]
  refine qS _ _ _ _ _ _ _ _ rfl rfl rfl rfl rfl true rfl ?_;simp only[stz]
  refine wpXA 115 b15 0 (zN yK (.slice none 0 0) (.slice none 0 0)) (hE15.keep hmsu id) underlying115 39 z2 trivial ?_;try simp only[nmz]
  refine wpDo rfl ?_
  refine zG 72 115 _ (.agg (zN yK (.slice none 0 0) (.slice none 0 0))) evZero 39 (by rfl) (by rfl) underlying72 ev_zs (by omega) (by omega) z2 (fun bE wx1 hBx hmx1=>?_)
  have hE:Sl false wx1 AnyB 39 (EvR false wx1 AnyB) (.slice (some ⟨bE,0,none⟩) 1 1) [yK]:=sl_one hBx (evOther_r _ _) 39 z2;replace hmsu:=hmsu.trans0 hmx1;clear hmx1 hBx
  try simp only[nmz]
  refine wpDo rfl ?_
  refine qB (qC 52 [.tmp 115,.tmp 117] _ rfl _ func52 rfl (by kernel_rfl) [kv2,.slice (some ⟨bE,0,none⟩) 1 1] rfl _) (sameEvents_eq _ _ _ _ _ _ _ _ _ _ (SlEv.keep0 hKs hmsu) hE) ?_
  rintro e wy ⟨rfl,hmy⟩;replace hmsu:=hmsu.trans0 hmy;clear hmy hE;refine⟨_,rfl,?_⟩;simp only[stz]
  refine wpXA 113 b14 (0+0) #[.int .i64 1,.int .i64 1] (hD14.keep hmsu id) underlying113 2 rfl trivial ?_;try simp only[nmz]
  refine wpDo rfl ?_
  refine zG 116 113 _ (.agg #[.int .i64 1,.int .i64 1]) (.agg #[.int .i64 0,.int .i64 0]) 2 (by rfl) (by rfl) underlying116 (by kernel_rfl) (by omega) (by omega) rfl (fun bD wz hBz hmz=>?_)
  have hD:Sl false wz AnyB 2 DotC (.slice (some ⟨bD,0,none⟩) 1 1) [(1,1)]:=sl_one (R:=DotC) (x:=(1,1)) hBz rfl 2 rfl;replace hmsu:=hmsu.trans0 hmz;clear hmz hBz
  try simp only[nmz]
  refine wpDo rfl ?_
  refine qB (qC 58 [.tmp 121,.tmp 124] _ rfl _ func58 rfl (by kernel_rfl) [dv2,.slice (some ⟨bD,0,none⟩) 1 1] rfl _) (sameDots_any _ _ _ _ _ _ _ _ _ (hDs.keep0 hmsu) hD) ?_
  rintro e wend ⟨rfl,hmend⟩;rw[decide_eq_true rfl];replace hmsu:=hmsu.trans0 hmend;clear hmend hD;refine⟨_,rfl,?_⟩;simp only[stz];have HF:=hid (hm0s.trans0 hmsu)
  clear hmsu hm0s hcv hC10 hE14 hE15 hD14 hKs hDs hMs hB6s hVs;go_wp2;go_ret;exact⟨rfl,HF.out⟩
theorem sweepKnown_any(W:World):Calls prog 10 #[] W (RetM (.bool true) W):=sweepKnown_walk W
def SmallRep(r:RepX):Prop:=r.tags.length<=10/\r.man.2.length<=20/\∀t∈r.tags,t.row.2.length<=20
def SmallTb(reps:List RepX):Prop:=reps.length<=10/\∀r∈reps,SmallRep r
theorem SmallRep.len{r:RepX}(h:SmallRep r):(yE (repRows r)).length<=220:=by
 obtain⟨h1,h2,h3⟩:=h
 have hs:∀(l:List TagX),(∀t∈l,t.row.2.length<=20)->(yE (l.map (·.row))).length<=20*l.length:=by
  intro l
  induction l with
  |nil=>intro _;simp[yE]
  |cons t l ih=>
   intro hl;have h4:=ih fun x hx=>hl x (List.mem_cons_of_mem _ hx);have h5:=hl t List.mem_cons_self
   simp only[yE,List.map_cons,List.flatMap_cons,List.length_append,List.length_map,List.length_cons]at h4 |-;omega
 have h4:=hs r.tags h3;unfold repRows;rw[rowIds_app,List.length_append];have h5:(yE [r.man]).length=r.man.2.length:=by simp[yE]
 omega
theorem SmallTb.len{reps:List RepX}(h:SmallTb reps):(rootsX reps).length<=2200:=by
 obtain⟨h1,h2⟩:=h
 have hs:∀(l:List RepX),(∀r∈l,SmallRep r)->(rootsX l).length<=220*l.length:=by
  intro l
  induction l with
  |nil=>intro _;simp[rootsX,rowsX,yE]
  |cons r l ih=>
   intro hl;have h4:=ih fun x hx=>hl x (List.mem_cons_of_mem _ hx);have h5:=(hl r List.mem_cons_self).len
   have e:rootsX (r::l)=yE (repRows r)++rootsX l:=by unfold rootsX;rw[rowsX_cons,rowIds_app];rfl
   rw[e,List.length_append,List.length_cons];omega
 have:=hs reps h2;omega
def tagB(t:TagX):Bool:=decide (t.name.size<=200)&&decide (t.row.2.length<=20)
def repB(r:RepX):Bool:=decide (r.name.size<=200)&&decide (r.tags.length<=10)&&decide (r.man.2.length<=20)&&r.tags.all tagB
def tbB(n:Nat)(reps:List RepX):Bool:=decide (n<=20)&&decide (reps.length<=10)&&reps.all repB
theorem tbB_small{n:Nat}{reps:List RepX}(h:tbB n reps=true):SmallTb reps:=by
 simp only[tbB,repB,tagB,Bool.and_eq_true,decide_eq_true_eq,List.all_eq_true]at h
 exact⟨h.1.2,fun r hr=>⟨(h.2 r hr).1.1.2,(h.2 r hr).1.2,fun t ht=>((h.2 r hr).2 t ht).2⟩⟩
theorem tbB_rep{n:Nat}{reps:List RepX}{k:Nat}(hk:k<reps.length)(h:repB reps[k]=false):tbB n reps=false:=by
 have h1:reps.all repB=false:=by
  rw[<-Bool.not_eq_true,List.all_eq_true];intro h2;rw[h2 _ (List.getElem_mem hk)]at h
  cases h
 simp[tbB,h1]
theorem repB_tag{r:RepX}{m:Nat}(hm:m<r.tags.length)(h:tagB r.tags[m]=false):repB r=false:=by
 have h1:r.tags.all tagB=false:=by
  rw[<-Bool.not_eq_true,List.all_eq_true];intro h2;rw[h2 _ (List.getElem_mem hm)]at h
  cases h
 simp[repB,h1]
def TbRel(w0:World)(reps:List RepX)(i:Value)(w:World):Prop:=∃k:Nat,k<=reps.length/\i=.int .i64 k/\(∀j (h:j<reps.length),j<k->repB reps[j]=true)/\Mod NoB w0 w
def TgRel(w0:World)(tags:List TagX)(i:Value)(w:World):Prop:=∃k:Nat,k<=tags.length/\i=.int .i64 k/\(∀j (h:j<tags.length),j<k->tagB tags[j]=true)/\Mod NoB w0 w
theorem longTable_any{w:World}{vv rv:Value}{V:List Int}{reps:List RepX}(hV:Sl false w AnyB 1 IntC vv V)(hv:RepsAt w rv reps):Calls prog 40 #[.agg #[vv,rv]] w (RetM (.bool (!tbB V.length reps)) w):=by
 obtain⟨r,hr⟩:∃r,tbB V.length reps=r:=⟨_,rfl⟩;have HR:=hid hr;rw[hr];clear hr;obtain⟨vad,vcap,rfl,hvl,-⟩:=Sl.at hV;obtain⟨rad,rcap,rfl,hrl,-⟩:=Sl.at hv
 have HV:=hid hv;clear hV hv;go_enter func40,ntmps40;go_upto_region 0 with(fail);refine wpR [1,3] (by rfl) (by rfl) ?_;simp only[stz];refine wpDo rfl ?_
 refine zW 71 _ _ (by rfl) (by rfl) (fun w1 hB1 hm1 hs1=>?_)
 replace hB1:w1.heap[w.heap.size]?=some (.cells #[.slice vad V.length vcap,.slice rad reps.length rcap] 71 (0,0)):=hB1;simp only[stz]
 have hc0:w1.cell? ⟨w.heap.size,0,none⟩=some (.slice vad V.length vcap):=by simp[World.cell?,hB1]
 have hc1:w1.cell? ⟨w.heap.size,1,none⟩=some (.slice rad reps.length rcap):=by simp[World.cell?,hB1]
 have HV1:=hid (xN HV.out (KC.of0 hm1));have hm01:=hid hm1;generalize w.heap.size=b1 at*;clear hB1 hs1 hm1 HV
 by_cases z1:(20:Int)<(V.length:Nat)
 ·have HB:Hid (r=false):=hid (by rw[<-HR.out];simp[tbB];omega)
  go_wp2;go_ret;exact⟨by rw[HB.out];rfl,hm01.out⟩
 by_cases z2:(10:Int)<(reps.length:Nat)
 ·have HB:Hid (r=false):=hid (by rw[<-HR.out];simp[tbB];omega)
  go_wp2;go_ret;exact⟨by rw[HB.out];rfl,hm01.out⟩
 go_wp2
 go_loopw [3] (TbRel w1 reps) (fun i _=>reps.length-(intOf i).toNat)
 case atStart=>exact⟨0,Nat.zero_le _,rfl,fun j h hj=>absurd hj (Nat.not_lt_zero _),Mod.refl _ _⟩
 case round=>
  rename World=>wr
  obtain⟨k,hk,rfl,hall,hmr⟩:=hrel;have hcr:wr.cell? ⟨b1,1,none⟩=some (.slice rad reps.length rcap):=hmr.cell id hc1
  by_cases hlt:k<reps.length
  ·have hz:(k:Int)<(reps.length:Nat):=by omega
   obtain⟨_,_,hae,-,hat⟩:=(xN HV1.out (KC.of0 hmr)).at;injection hae with hae1 hae2 hae3;subst hae1 hae3;obtain⟨b,off,rfl,-,-,hcc⟩:=hat k hlt
   obtain⟨cs,-,⟨rfl,hra⟩,hcA⟩:=hcc k hlt;have HALL:=hid hall;have hbad:repB reps[k]=false->r=false:=fun h=>by rw[<-HR.out];exact tbB_rep hlt h
   have HBAD:=hid hbad
   have hstep:repB reps[k]=true->∀j (h:j<reps.length),j<k+1->repB reps[j]=true:=fun hs j h hj=>by
    rcases Nat.lt_or_ge j k with h1|h1
    ·exact HALL.out j h h1
    ·have e:j=k:=by omega
     subst e;exact hs
   have HST:=hid hstep;generalize reps[k]=x at*
   have h1x:∀c∈(#[Value.string x.name,x.tv,x.man.1]:Array Value),c.oneCell'=true:=by
    intro c hc
    simp at hc
    rcases hc with rfl|rfl|rfl
    ·rfl
    ·exact Sl.one hra.tags
    ·exact hra.man.one
   have HRA:=hid hra;have hcr0:wr.cell? ⟨b1,0+1,none⟩=some (.slice (some ⟨b,off,none⟩) reps.length rcap):=hcr;clear hat hcc hae2 hra hall hstep hbad
   go_upto_region 6 with(fail);refine wpR [3,1,3,3,1,1,1] (by rfl) (by rfl) ?_;simp only[stz];refine wpXd 69 b1 (0+1) hcr0 underlying69 trivial ?_;simp only[stz]
   refine qQ _ _ _ _ _ _ _ _ _ rfl rfl rfl rfl underlying69 (n:=3) (by kernel_rfl) hlt ?_;simp only[nmz]
   refine wpXA 186 b (off+k*3) #[Value.string x.name,x.tv,x.man.1] hcA underlying186 3 rfl trivial ?_;try simp only[nmz]
   refine wpDo rfl ?_;refine qR 186 _ (by rfl) repZ (fun w2 hB2 hm2 hs2=>?_)
   replace hB2:w2.heap[wr.heap.size]?=some (.cells #[.string ⟨#[]⟩,.slice none 0 0,.slice none 0 0] 186 (0,0)):=hB2;try simp only[nmz]
   refine wpDo rfl ?_
   refine qH 186 _ _ wr.heap.size 0 #[Value.string x.name,x.tv,x.man.1] (by rfl) (by rfl) (by rfl) h1x 3 (by kernel_rfl) rfl _ _ hB2 (by simp) (fun w3 hB3 hm3=>?_)
   rw[qF (by simp)]at hB3;simp only[stz];have hmr3:Mod NoB wr w3:=hm2.transB hm3 (Nat.le_refl _);have hra3:=HRA.out.kc (KC.of0 hmr3)
   obtain⟨tad,tcap,htv,htl,-⟩:=Sl.at hra3.tags;obtain⟨mad,mcap,hmv,hml,-⟩:=Sl.at hra3.man;rw[htv,hmv]at hB3
   have hn0:w3.cell? ⟨wr.heap.size,0,none⟩=some (.string x.name):=by simp[World.cell?,hB3]
   have hn1:w3.cell? ⟨wr.heap.size,1,none⟩=some (.slice tad x.tags.length tcap):=by simp[World.cell?,hB3]
   have hn2:w3.cell? ⟨wr.heap.size,2,none⟩=some (.slice mad x.man.2.length mcap):=by simp[World.cell?,hB3]
   have hm13:=hmr.trans0 hmr3;have HTG:=hid hra3.tags;rw[htv]at HTG;generalize wr.heap.size=b4 at*;clear hm2 hm3 hB2 hs2 hB3 hcA hra3 hmr3 hcr hcr0 h1x htv hmv
   by_cases c1:(200:Int)<(x.name.size:Nat)
   ·have HB:Hid (r=false):=hid (HBAD.out (by simp[repB];omega))
    go_wp2;go_ret;exact⟨by rw[HB.out];rfl,hm01.out.trans0 hm13⟩
   by_cases c2:(10:Int)<(x.tags.length:Nat)
   ·have HB:Hid (r=false):=hid (HBAD.out (by simp[repB];omega))
    go_wp2;go_ret;exact⟨by rw[HB.out];rfl,hm01.out.trans0 hm13⟩
   by_cases c3:(20:Int)<(x.man.2.length:Nat)
   ·have HB:Hid (r=false):=hid (HBAD.out (by simp[repB];omega))
    go_wp2;go_ret;exact⟨by rw[HB.out];rfl,hm01.out.trans0 hm13⟩
   go_wp2
   go_loopw [5] (TgRel w3 x.tags) (fun i _=>x.tags.length-(intOf i).toNat)
   case atStart=>exact⟨0,Nat.zero_le _,rfl,fun j h hj=>absurd hj (Nat.not_lt_zero _),Mod.refl _ _⟩
   case round=>
    rename World=>wq
    obtain⟨m,hmle,rfl,hallt,hmq⟩:=hrel;have hnq:wq.cell? ⟨b4,1,none⟩=some (.slice tad x.tags.length tcap):=hmq.cell id hn1
    by_cases hltm:m<x.tags.length
    ·have hzm:(m:Int)<(x.tags.length:Nat):=by omega
     have htq:Sl false wq AnyB 2 (TagC wq) (.slice tad x.tags.length tcap) x.tags:=Sl.kc HTG.out (KC.of0 hmq) fun _ _ h=>⟨h.1,h.2.kc (KC.of0 hmq)⟩
     obtain⟨_,_,hte,-,htat⟩:=htq.at;injection hte with hte1 hte2 hte3;subst hte1 hte3;obtain⟨tb,toff,rfl,-,-,htcc⟩:=htat m hltm
     obtain⟨cs,-,⟨rfl,hta⟩,htA⟩:=htcc m hltm;have HAT:=hid hallt;have hbt:tagB x.tags[m]=false->r=false:=fun h=>HBAD.out (repB_tag hltm h);have HBT:=hid hbt
     have hstep:tagB x.tags[m]=true->∀j (h:j<x.tags.length),j<m+1->tagB x.tags[j]=true:=fun hs j h hj=>by
      rcases Nat.lt_or_ge j m with h1|h1
      ·exact HAT.out j h h1
      ·have e:j=m:=by omega
       subst e;exact hs
     have HS2:=hid hstep;generalize x.tags[m]=t at*;obtain⟨had,hcap,hhv,hhl,-⟩:=Sl.at hta;have ht0:=htA.cell (j:=0) (v:=.string t.name) rfl
     have ht1:=htA.cell (j:=1) (v:=t.row.1) rfl;rw[hhv]at ht1;have hnq0:wq.cell? ⟨b4,0+1,none⟩=some (.slice (some ⟨tb,toff,none⟩) x.tags.length tcap):=hnq
     clear htat htcc hte2 hta htA hallt hstep htq hbt
     by_cases c4:(200:Int)<(t.name.size:Nat)
     ·have HB:Hid (r=false):=hid (HBT.out (by simp[tagB];omega))
      go_upto_region 12 with(fail);refine wpR [3,1,3,3,3,1,3,3,3,3,0,3,3,3,0,3,3,3] (by rfl) (by rfl) ?_;simp only[stz]
      refine wpXd 183 b4 (0+1) hnq0 underlying183 trivial ?_;simp only[stz];refine qQ _ _ _ _ _ _ _ _ _ rfl rfl rfl rfl underlying183 (n:=2) (by kernel_rfl) hltm ?_
      simp only[stz];refine wpXd 9 tb (toff+m*2+0) ht0 underlying9 trivial ?_;try simp only[nmz]
      refine wpPi_lenS _ _ _ rfl rfl rfl underlying9 ?_;simp only[nmz];refine qS _ _ _ _ _ _ _ _ rfl rfl rfl rfl rfl true (decide_eq_true c4) ?_;simp only[stz];go_wp2
      go_ret;exact⟨by rw[HB.out];rfl,(hm01.out.trans0 hm13).trans0 hmq⟩
     by_cases c5:(20:Int)<(t.row.2.length:Nat)
     ·have HB:Hid (r=false):=hid (HBT.out (by simp[tagB];omega))
      go_upto_region 12 with(fail);refine wpR [3,1,3,3,3,1,3,3,3,3,1,3,3,3,1,3,3,3] (by rfl) (by rfl) ?_;simp only[stz]
      refine wpXd 183 b4 (0+1) hnq0 underlying183 trivial ?_;simp only[stz];refine qQ _ _ _ _ _ _ _ _ _ rfl rfl rfl rfl underlying183 (n:=2) (by kernel_rfl) hltm ?_
      simp only[stz];refine wpXd 9 tb (toff+m*2+0) ht0 underlying9 trivial ?_;try simp only[nmz]
      refine wpPi_lenS _ _ _ rfl rfl rfl underlying9 ?_;simp only[nmz];refine qS _ _ _ _ _ _ _ _ rfl rfl rfl rfl rfl false (decide_eq_false c4) ?_;simp only[stz]
      refine wpXd 183 b4 (0+1) hnq0 underlying183 trivial ?_;simp only[stz];refine qQ _ _ _ _ _ _ _ _ _ rfl rfl rfl rfl underlying183 (n:=2) (by kernel_rfl) hltm ?_
      simp only[stz];refine wpXd 184 tb (toff+m*2+1) ht1 underlying184 trivial ?_;try simp only[nmz]
      refine zD _ _ _ _ _ rfl rfl rfl (by kernel_rfl) ?_;simp only[nmz];refine qS _ _ _ _ _ _ _ _ rfl rfl rfl rfl rfl true (decide_eq_true c5) ?_;simp only[stz]
      go_wp2;go_ret;exact⟨by rw[HB.out];rfl,(hm01.out.trans0 hm13).trans0 hmq⟩
     go_upto_region 12 with(fail);refine wpR [3,1,3,3,3,1,3,3,3,3,1,3,3,3,1,3,3,3] (by rfl) (by rfl) ?_;simp only[stz]
     refine wpXd 183 b4 (0+1) hnq0 underlying183 trivial ?_;simp only[stz];refine qQ _ _ _ _ _ _ _ _ _ rfl rfl rfl rfl underlying183 (n:=2) (by kernel_rfl) hltm ?_
     simp only[stz];refine wpXd 9 tb (toff+m*2+0) ht0 underlying9 trivial ?_;try simp only[nmz]
     refine wpPi_lenS _ _ _ rfl rfl rfl underlying9 ?_;simp only[nmz];refine qS _ _ _ _ _ _ _ _ rfl rfl rfl rfl rfl false (decide_eq_false c4) ?_;simp only[stz]
     refine wpXd 183 b4 (0+1) hnq0 underlying183 trivial ?_;simp only[stz];refine qQ _ _ _ _ _ _ _ _ _ rfl rfl rfl rfl underlying183 (n:=2) (by kernel_rfl) hltm ?_
     simp only[stz];refine wpXd 184 tb (toff+m*2+1) ht1 underlying184 trivial ?_;try simp only[nmz]
     refine zD _ _ _ _ _ rfl rfl rfl (by kernel_rfl) ?_;simp only[nmz];refine qS _ _ _ _ _ _ _ _ rfl rfl rfl rfl rfl false (decide_eq_false c5) ?_;simp only[stz]
     have HQ:Hid (TgRel w3 x.tags (.int .i64 ((m+1:Nat):Int)) wq):=hid ⟨m+1,by omega,rfl,HS2.out (by simp[tagB];omega),hmq⟩;clear hmq ht0 ht1 hnq hnq0;go_wp2
     go_roundw
     case rel=>exact HQ.out
     case measure=>simp[intOf];omega
    ·have hzm:¬(m:Int)<(x.tags.length:Nat):=by omega
     have hsm:repB x=true:=by
      have h1:x.tags.all tagB=true:=List.all_eq_true.2 fun t ht=>by
       obtain⟨j,hj,rfl⟩:=List.getElem_of_mem ht;exact hallt j hj (by omega)
      simp only[repB,h1,Bool.and_true,Bool.and_eq_true,decide_eq_true_eq];omega
     have HQ:Hid (TbRel w1 reps (.int .i64 ((k+1:Nat):Int)) wq):=hid ⟨k+1,by omega,rfl,HST.out hsm,hm13.trans0 hmq⟩;clear hallt hsm hmq;go_wp2
     go_roundw
     case rel=>exact HQ.out
     case measure=>simp[intOf];omega
  ·have hz:¬(k:Int)<(reps.length:Nat):=by omega
   have HB:Hid (r=true):=hid (by
    rw[<-HR.out]
    have h1:reps.all repB=true:=List.all_eq_true.2 fun t ht=>by
     obtain⟨j,hj,rfl⟩:=List.getElem_of_mem ht;exact hall j hj (by omega)
    simp only[tbB,h1,Bool.and_true,Bool.and_eq_true,decide_eq_true_eq]
    omega)
   clear hall;go_wp2;go_ret;exact⟨by rw[HB.out];rfl,hm01.out.trans0 hmr⟩
end
section
open Go.RowKit Go.Proofs.Tryz Go.Lib
def HasRel(w0:World)(l:List (List UInt8))(x:List UInt8)(i:Value)(w:World):Prop:=∃k:Nat,k<=l.length/\i=.int .i64 k/\(∀j (h:j<l.length),j<k->l[j]≠x)/\Mod NoB w0 w
theorem has27_any{own:Bool}{G:Nat->Prop}{w:World}{v:Value}{l:List (List UInt8)}{x:List UInt8}(hl:Sl own w G 32 IdC v l)(hx:x.length=32):Calls prog 59 #[v,.agg (qA x)] w (RetM (.bool (decide (x∈l))) w):=by
 obtain⟨ad,cap,rfl,hlm,-⟩:=Sl.at hl;have hic:(qA x).size=32:=by rw[qD,hx]
 have HL:=hid hl;clear hl;obtain⟨r,hr⟩:∃r,decide (x∈l)=r:=⟨_,rfl⟩;have HR:=hid hr;rw[hr];clear hr;go_enter func59,ntmps59;go_upto_region 0 with(fail)
 refine wpR [1,3] (by rfl) (by rfl) ?_;simp only[stz];refine wpDo rfl ?_;refine zW 24 _ _ (by rfl) (by rfl) (fun w1 hB1 hm1 hs1=>?_)
 replace hB1:w1.heap[w.heap.size]?=some (.cells (qA x) 24 (0,0)):=hB1;simp only[stz];have hl1:=HL.out.keep0 hm1
 have hc1:CellsAt w1 w.heap.size 0 (qA x):=CellsAt.whole hB1;have HL1:=hid hl1;have hm01:=hid hm1;generalize w.heap.size=b0 at*;clear hl1 hB1 hs1 hm1;go_wp2
 go_loopw [5] (HasRel w1 l x) (fun i _=>l.length-(intOf i).toNat)
 case atStart=>exact⟨0,Nat.zero_le _,rfl,fun j h hj=>absurd hj (Nat.not_lt_zero _),Mod.refl _ _⟩
 case round=>
  rename World=>wr
  obtain⟨k,hk,rfl,hall,hmr⟩:=hrel
  by_cases hlt:k<l.length
  ·have hz:(k:Int)<(l.length:Nat):=by omega
   obtain⟨_,_,hae,-,hat⟩:=(HL1.out.keep0 hmr).at;injection hae with hae1 hae2 hae3;subst hae1 hae3;obtain⟨b,off,rfl,-,-,hcc⟩:=hat k hlt
   obtain⟨cs,-,⟨rfl,hy32⟩,hcA⟩:=hcc k hlt;have hyi:(qA l[k]).size=32:=by rw[qD,hy32]
   have hcx:=hc1.keep hmr id
   by_cases heq:l[k]=x
   ·have HD:Hid (decide (l[k]=x)=true):=hid (decide_eq_true heq)
    have HRT:Hid (r=true):=hid (by rw[<-HR.out];exact decide_eq_true (heq▸List.getElem_mem hlt));clear hat hcc hae2 hall heq;go_upto_region 4 with(fail)
    have hS:Mod NoB wr wr.drew:=(Mod.refl _ _).drew;refine wpRP [(0,3),(1,3),(2,3),(3,0),(4,0),(5,0)] [] (fun w'=>Mod NoB wr w') hS ?_;simp only[stz]
    refine qQ _ _ _ _ _ _ _ _ _ rfl rfl rfl rfl underlying25 (n:=32) (by kernel_rfl) hlt ?_;simp only[nmz]
    refine qM rfl (fun w' hS=>zI 24 _ rfl _ _ rfl _ (hcA.keep hS id) _ underlying24 rfl 32 (by kernel_rfl) hyi) ?_;simp only[nmz]
    refine qM rfl (fun w' hS=>zI 24 _ rfl _ _ rfl _ (hcx.keep hS id) _ underlying24 rfl 32 (by kernel_rfl) hic) ?_;simp only[nmz]
    refine qM rfl (fun w' hS=>exec_eql_id _ _ _ _ rfl _ _ rfl rfl 32 5 underlying24 underlying5 (by kernel_rfl) (by kernel_rfl) hy32 hx true HD.out) ?_;simp only[stz]
    go_wp2;go_ret;exact⟨by rw[HRT.out];rfl,hm01.out.trans0 (hmr.trans0 hS)⟩
   ·have HD:Hid (decide (l[k]=x)=false):=hid (decide_eq_false heq)
    have HA:Hid (∀j (h:j<l.length),j<k+1->l[j]≠x):=hid (fun j h hj=>by
     rcases Nat.lt_or_ge j k with h1|h1
     ·exact hall j h h1
     ·have e:j=k:=by omega
      subst e;exact heq)
    clear hat hcc hae2 hall heq;go_upto_region 4 with(fail);have hS:Mod NoB wr wr.drew:=(Mod.refl _ _).drew
    refine wpRP [(0,3),(1,3),(2,3),(3,0),(4,0),(5,0)] [] (fun w'=>Mod NoB wr w') hS ?_;simp only[stz]
    refine qQ _ _ _ _ _ _ _ _ _ rfl rfl rfl rfl underlying25 (n:=32) (by kernel_rfl) hlt ?_;simp only[nmz]
    refine qM rfl (fun w' hS=>zI 24 _ rfl _ _ rfl _ (hcA.keep hS id) _ underlying24 rfl 32 (by kernel_rfl) hyi) ?_;simp only[nmz]
    refine qM rfl (fun w' hS=>zI 24 _ rfl _ _ rfl _ (hcx.keep hS id) _ underlying24 rfl 32 (by kernel_rfl) hic) ?_;simp only[nmz]
    refine qM rfl (fun w' hS=>exec_eql_id _ _ _ _ rfl _ _ rfl rfl 32 5 underlying24 underlying5 (by kernel_rfl) (by kernel_rfl) hy32 hx false HD.out) ?_;simp only[stz]
    have HQ:Hid (HasRel w1 l x (.int .i64 ((k+1:Nat):Int)) wr.drew):=hid ⟨k+1,by omega,rfl,HA.out,hmr.drew⟩;clear hS hmr hcA hcx;go_wp2
    go_roundw
    case rel=>exact HQ.out
    case measure=>simp[intOf];omega
  ·have hz:¬(k:Int)<(l.length:Nat):=by omega
   have HRF:Hid (r=false):=hid (by
    rw[<-HR.out];refine decide_eq_false fun h=>?_;obtain⟨j,hj,e⟩:=List.getElem_of_mem h
    exact hall j hj (by omega) e)
   clear hall;go_wp2;go_ret;exact⟨by rw[HRF.out];rfl,hm01.out.trans0 hmr⟩
end
section
open Go.RowKit Go.Shelf Go.Proofs.Tryz Go.Lib
def longB(L:List (List UInt8))(n mx:Nat):Bool:=(L.take (n+1)).any (fun m=>decide (mx<m.length))||decide (n<L.length)
theorem longB_false{L:List (List UInt8)}{n mx:Nat}(h:longB L n mx=false):L.length<=n/\∀m∈L,m.length<=mx:=by
 unfold longB at h;rw[Bool.or_eq_false_iff,decide_eq_false_iff_not]at h;have hl:L.length<=n:=by omega
 rw[List.take_of_length_le (by omega)]at h;refine⟨hl,fun m hm=>?_⟩;have h1:=List.any_eq_false.1 h.1 m hm
 simpa using h1
theorem longB_big{L:List (List UInt8)}{n mx k:Nat}(hk:k<L.length)(hn:k<=n)(hb:mx<L[k].length):longB L n mx=true:=by
 unfold longB
 have:(L.take (n+1)).any (fun m=>decide (mx<m.length))=true:=List.any_eq_true.2 ⟨L[k],by rw[List.mem_take_iff_getElem];exact⟨k,by omega,rfl⟩,by simpa using hb⟩
 rw[this,Bool.true_or]
theorem longB_many{L:List (List UInt8)}{n mx:Nat}(h:n<L.length):longB L n mx=true:=by
 unfold longB;rw[decide_eq_true h,Bool.or_true]
theorem longB_not{L:List (List UInt8)}{n mx:Nat}(h:L.length<=n)(h2:∀m∈L,m.length<=mx):longB L n mx=false:=by
 unfold longB;rw[List.take_of_length_le (by omega),Bool.or_eq_false_iff,decide_eq_false_iff_not];refine⟨List.any_eq_false.2 fun m hm=>?_,by omega⟩;have:=h2 m hm
 simpa using this
def LngRel(w0:World)(L:List (List UInt8))(n mx:Nat)(i:Value)(w:World):Prop:=∃k:Nat,k<=L.length/\k<=n+1/\i=.int .i64 k/\Mod NoB w0 w/\∀m∈L.take k,m.length<=mx
theorem longLists_any{w:World}{lv:Value}{L:List (List UInt8)}(hl:LsAt w lv L)(n mx:Nat)(hn:n<=1000000)(hsz:mx<=1000000):Calls prog 77 #[lv,.int .i64 n,.int .i64 mx] w (RetM (.bool (longB L n mx)) w):=by
 obtain⟨lad,lcap,rfl,hle,-⟩:=Sl.at hl;have HL:=hid hl
 have HR0:Hid (LngRel w L n mx (.int .i64 (0:Nat)) w):=hid ⟨0,Nat.zero_le _,Nat.zero_le _,rfl,Mod.refl _ _,by simp⟩;clear hl;go_enter func77,ntmps77;go_wp2
 go_loopw [7] (LngRel w L n mx) (fun i _=>L.length+1-(intOf i).toNat)
 case atStart=>exact HR0.out
 case round=>
  rename World=>wr
  obtain⟨k,hk,hkn,rfl,hmr,hpre⟩:=hrel
  by_cases hlt:k<L.length
  ·have hz:(k:Int)<(L.length:Nat):=by omega
   by_cases hkle:k<=n
   ·have hz2:(k:Int)<=(n:Nat):=by omega
    obtain⟨_,_,hae,-,hat⟩:=(jD HL.out hmr).at;injection hae with hae1 hae2 hae3;subst hae1 hae3;obtain⟨b,off,rfl,-,-,hcc⟩:=hat k hlt
    obtain⟨cs,-,⟨vk,rfl,hvk⟩,hcA⟩:=hcc k hlt;have hc:=CellsAt.one.1 hcA;have hsn:=take_snoc hlt;have hbg:mx<L[k].length->longB L n mx=true:=longB_big hlt hkle
    have HBG:=hid hbg;clear hbg;generalize L[k]=m at*;obtain⟨va,vc,rfl,hml,-⟩:=Sl.at hvk;clear hcc hcA hvk hat hae2;go_upto_region 4 with(fail)
    refine wpR [3,3,3,1,3,3,3] (by rfl) (by rfl) ?_;simp only[stz];refine qQ _ _ _ _ _ _ _ _ _ rfl rfl rfl rfl underlying22 (n:=1) (by kernel_rfl) hlt ?_
    simp only[nmz];refine wpXd 53 b (off+k*1) hc underlying53 trivial ?_;try simp only[nmz]
    refine zD _ _ _ _ _ rfl rfl rfl (by kernel_rfl) ?_;simp only[stz];refine qE (v:=?_) rfl (fun w'=>?_) ?_;rotate_left;·(go_simp;try with_reducible rfl)
    simp only[stz]
    by_cases hbig:m.length>mx
    ·have hz3:(m.length:Int)>(mx:Nat):=by omega
     have HV:=hid (HBG.out hbig);clear hc hsn hpre;go_wp2;go_ret;exact⟨by rw[HV.out];rfl,hmr⟩
    ·have hz3:¬(m.length:Int)>(mx:Nat):=by omega
     have HR:Hid (LngRel w L n mx (.int .i64 ((k+1:Nat):Int)) wr):=hid ⟨k+1,by omega,by omega,rfl,hmr,fun x hx=>by
      rw[<-hsn,List.mem_append,List.mem_singleton]at hx
      rcases hx with hx|rfl
      ·exact hpre x hx
      ·omega⟩
     clear hc hsn hpre;go_wp2
     go_roundw
     case rel=>exact HR.out
     case measure=>simp[intOf];omega
   ·have hz2:¬(k:Int)<=(n:Nat):=by omega
    have hz4:(L.length:Int)>(n:Nat):=by omega
    have HV:=hid (longB_many (mx:=mx) (show n<L.length by omega));clear hpre;go_wp2;go_ret;exact⟨by rw[HV.out];rfl,hmr⟩
  ·have hz:¬(k:Int)<(L.length:Nat):=by omega
   obtain rfl:k=L.length:=by omega
   rw[List.take_length]at hpre;have HP:=hid hpre;clear hpre
   by_cases hgt:L.length>n
   ·have hz4:(L.length:Int)>(n:Nat):=by omega
    have HV:=hid (longB_many (mx:=mx) (show n<L.length by omega));go_wp2;go_ret;exact⟨by rw[HV.out];rfl,hmr⟩
   ·have hz4:¬(L.length:Int)>(n:Nat):=by omega
    have HV:=hid (longB_not (mx:=mx) (show L.length<=n by omega) HP.out);go_wp2;go_ret;exact⟨by rw[HV.out];rfl,hmr⟩
def longH(L:List (List UInt8))(KK:List Int):Bool:=longB L 30 700||decide (60<KK.length)
theorem longH_false{L:List (List UInt8)}{KK:List Int}(h:longH L KK=false):L.length<=30/\(∀m∈L,m.length<=700)/\KK.length<=60:=by
 unfold longH at h;rw[Bool.or_eq_false_iff,decide_eq_false_iff_not]at h;have:=longB_false h.1;exact⟨this.1,this.2,by omega⟩
theorem long27_any{w:World}{wd:Int}{lv kv:Value}{L:List (List UInt8)}{KK:List Int}(hl:LsAt w lv L)(hk:Sl false w AnyB 1 IntC kv KK):Calls prog 39 #[.agg #[.int .i64 wd,lv,kv]] w (RetM (.bool (longH L KK)) w):=by
 obtain⟨lad,lcap,rfl,hle,-⟩:=Sl.at hl;obtain⟨kad,kcap,rfl,hke,-⟩:=Sl.at hk;have HL:=hid hl;obtain⟨res,hres⟩:∃r,longH L KK=r:=⟨_,rfl⟩;rw[hres]
 unfold longH at hres;have HRES:=hid hres;clear hl hk hres;go_enter func39,ntmps39;go_upto_region 0 with(fail);refine wpR [1,3] (by rfl) (by rfl) ?_;simp only[stz]
 refine wpDo rfl ?_;refine zW 68 _ _ (by rfl) (by rfl) (fun w1 hB1 hm1 hs1=>?_)
 replace hB1:w1.heap[w.heap.size]?=some (.cells #[.int .i64 wd,.slice lad L.length lcap,.slice kad KK.length kcap] 68 (0,0)):=hB1;simp only[stz]
 have hc1:w1.cell? ⟨w.heap.size,0+1,none⟩=some (.slice lad L.length lcap):=by simp[World.cell?,hB1]
 have hc2:w1.cell? ⟨w.heap.size,0+2,none⟩=some (.slice kad KK.length kcap):=by simp[World.cell?,hB1]
 have hcall:=longLists_any (jD HL.out hm1) 30 700 (by omega) (by omega);obtain⟨lb,hlb⟩:∃b,longB L 30 700=b:=⟨_,rfl⟩;rw[hlb]at HRES hcall;clear hlb
 generalize w.heap.size=hb at*;go_upto_region 1 with(fail)
 cases lb with
 |true=>
  have hr:res=true:=by have h:=HRES.out;simpa using h.symm
  refine wpR [3,1,1,3,3,0,3,3,3,3] (by rfl) (by rfl) ?_;simp only[stz];refine wpXd 22 hb (0+1) hc1 underlying22 trivial ?_;try simp only[nmz]
  refine wpDo rfl ?_
  refine qB (qC 77 [.tmp 4,.const (.int .i64 30),.const (.int .i64 700)] _ rfl _ func77 rfl (by kernel_rfl) [.slice lad L.length lcap,.int .i64 ((30:Nat):Int),.int .i64 ((700:Nat):Int)] rfl _) (hcall) ?_
  rintro e w2 ⟨rfl,hm2⟩;refine⟨_,rfl,?_⟩;simp only[stz];clear hc1 hc2 hB1;go_wp2;go_ret;exact⟨by rw[hr];rfl,hm1.trans0 hm2⟩
 |false=>
  have hr:decide (60<KK.length)=res:=by have h:=HRES.out;simpa using h
  refine wpR [3,1,1,3,3,1,3,3,3,3] (by rfl) (by rfl) ?_;simp only[stz];refine wpXd 22 hb (0+1) hc1 underlying22 trivial ?_;try simp only[nmz]
  refine wpDo rfl ?_
  refine qB (qC 77 [.tmp 4,.const (.int .i64 30),.const (.int .i64 700)] _ rfl _ func77 rfl (by kernel_rfl) [.slice lad L.length lcap,.int .i64 ((30:Nat):Int),.int .i64 ((700:Nat):Int)] rfl _) (hcall) ?_
  rintro e w2 ⟨rfl,hm2⟩;have hc2':=hm2.cell id hc2;refine⟨_,rfl,?_⟩;simp only[stz];refine wpXd 64 hb (0+2) hc2' underlying64 trivial ?_;try simp only[nmz]
  refine zD _ _ _ _ _ rfl rfl rfl (by kernel_rfl) ?_;simp only[nmz]
  refine qS _ _ _ _ _ _ _ _ rfl rfl rfl rfl rfl (decide (60<KK.length)) (show decide (((KK.length:Nat):Int)>60)=decide (60<KK.length) by rw[decide_eq_decide];omega) ?_
  simp only[stz];clear hc1 hc2 hc2' hB1;rw[hr];go_wp2;go_ret;exact⟨rfl,hm1.trans0 hm2⟩
end
section
open Go.ChangeShapes Go.WideShapes Go.ChangeAt Go.RowKit Go.Proofs.Tryz Go.Lib
theorem Mod.kept{w w':World}(h:Mod NoB w w')(may:MemPlace->Prop):w.keptBut w' may:=by
 refine⟨h.os,h.output,fun i hi=>?_⟩;have e:=h.block i hi id
 cases hw:w.heap[i]? with
 |none=>rw[hw]at e;simp[e]
 |some o=>
  rw[hw]at e
  cases o<;>simp[e]
theorem post_of_mod{H:Type}{enc:TypeId×Value->H}{P:Program}{f:Func}{s:ChangeSpec}{apart fresh handsOn:Bool}{W W':World}{args:Array Value}{v:Value}{ds gs:List (DataW H)}{before pa pv:List MemPlace}
 (hold:DataW.Whole enc P f.params.toList s.vars apart W args.toList ds gs before)(hm:Mod NoB W W')
 (hr:∀(b:Nat),DataW.TrodAll enc P W' b (fun _=>false) handsOn f.resultTypes.toList (v.resultList f.resultTypes.size) (s.fn H (ds++gs)).results [])
 (ha:DataW.TrodAll enc P W' 0 (fun b=>decide (b<W.heap.size)) true f.params.toList args.toList (s.fn H (ds++gs)).args pa)
 (hv:DataW.TrodVars enc P W' (fun b=>decide (b<W.heap.size)) s.vars (s.fn H (ds++gs)).vars pv):s.post enc P f apart fresh handsOn false W args v W':=by
 unfold ChangeSpec.post;exact⟨ds,gs,before,[],pa,pv,hold,hr _,ha,hv,hm.kept _,fun h=>Bool.noConfusion h⟩
theorem laidOut:laidOutB prog=true:=by kernel_rfl
theorem carry{H:Type}{enc:TypeId×Value->H}{t:TypeId}(hr:prog.readableRec t=true)(hrow:t<prog.types.size){W W':World}(hm:Mod NoB W W'){v:Value}{d:DataW H}{ps:List MemPlace}
 (h:DataW.Trod enc prog W 0 (fun _=>true) true t v d ps):DataW.Trod enc prog W' 0 (fun b=>decide (b<W.heap.size)) true t v d ps:=by
 obtain⟨n,h⟩:=h;have hlt:=DataW.trod_lt n t _ _ h
 refine⟨n,DataW.trod_stays (kids_book laidOut hr) (book_sized hr) (fun h=>by cases h) ⟨hrow,book_self t⟩ h (fun p hp=>?_) (fun p hp=>by simpa using hlt p hp)⟩
 have hb:=hlt p hp
 cases p with
 |cell b off=>exact World.cell?_of_block (w:=W) (hm.block b hb id)
 |map b=>exact hm.block b hb id
theorem fit_i64{n:Int}(h:(Lit.int .i64 n).wf=true):-9223372036854775808<=n/\n<=9223372036854775807:=bounds_i64 h
theorem addr_add{w:World}{a:Addr}{v:Value}(i:Nat)(h0:∃u,w.cell? (a.add 0)=some u)(h:w.cell? (a.add i)=some v):a=⟨a.block,a.off,none⟩/\w.cell? ⟨a.block,a.off+i,none⟩=some v:=by
 obtain⟨u,h0⟩:=h0;obtain⟨b,off,spot⟩:=a
 have hs:spot=none:=by
  simp only[Addr.add,if_true]at h0;unfold World.cell? at h0
  cases spot with
  |none=>rfl
  |some s=>cases hw:w.heap[b]? with
   |none=>simp[hw]at h0
   |some o=>cases o<;>simp[hw]at h0
 subst hs;refine⟨rfl,?_⟩;unfold Addr.add at h
 split at h
 ·rename_i hi;subst hi;exact h
 ·exact h
theorem list_of_all{α:Type}{n:Nat}{Q:Nat->α->Prop}(h:∀i,i<n->∃a,Q i a):∃l:List α,l.length=n/\∀i (hi:i<l.length),Q i l[i]:=by
 refine⟨List.ofFn fun i:Fin n=>Classical.choose (h i.1 i.2),by simp,fun i hi=>?_⟩;rw[List.getElem_ofFn];exact Classical.choose_spec (h i (by simpa using hi))
theorem addr_cells{w:World}{a:Addr}{i j:Nat}{u v:Value}(h0:w.cell? ((a.add 0).add 0)=some u)(h:w.cell? ((a.add i).add j)=some v):a=⟨a.block,a.off,none⟩/\w.cell? ⟨a.block,a.off+i+j,none⟩=some v:=by
 have e0:(a.add 0).add 0=a.add 0:=by simp[Addr.add]
 have h1:=(addr_add 0 ⟨u,e0▸h0⟩ (e0▸h0)).1;refine⟨h1,?_⟩;rw[h1]at h
 have e:∀(b o k:Nat),Addr.add ⟨b,o,none⟩ k=⟨b,o+k,none⟩:=fun b o k=>by
  unfold Addr.add
  split
  ·rename_i hk;subst hk;rfl
  ·rfl
 rwa[e,e]at h
section
variable{H:Type}{enc:TypeId×Value->H}{P:Program}{W:World}{sp:Nat->Bool}{held:Bool}
theorem jW{α:Type}{R:Array Value->α->Prop}{t e:TypeId}{sz fuel:Nat}{cs:List Value}{x:DataW H×List MemPlace}(ht:P.underlying t=some (.slice e))(hsz:P.cellsOf e=sz)(hpos:0<sz)
 (hR:∀n cs x,DataW.trod enc P W 0 sp held n e cs=some x->∃a,R cs.toArray a)(h:DataW.trod enc P W 0 sp held fuel t cs=some x):∃v l,cs=[v]/\Sl false W (fun k=>k<W.heap.size) sz R v l:=by
 rcases DataW.trod_slice ht h with⟨rfl,_⟩|⟨a,len,cap,elems,rest,n,_,rfl,_,_,hlc,hcm,hel,helem,_,_⟩
 ·exact⟨_,[],rfl,Sl.nil _ _ _ _ _⟩
 ·subst hsz
  have hall:∀i,i<len->∃y:α,∃cs:List Value,cs.length=P.cellsOf e/\R cs.toArray y/\∀j,j<P.cellsOf e->W.cell? ((a.add (i*P.cellsOf e)).add j)=cs[j]?:=by
   intro i hi;have h1:=helem i hi;rw[List.getElem?_eq_getElem (by omega)]at h1;obtain⟨cs,h2,h3⟩:=Option.bind_eq_some_iff.1 h1;obtain⟨_,hl,hc⟩:=World.cells?_some h2
   obtain⟨y,hy⟩:=hR _ _ _ h3;exact⟨y,cs,hl,hy,hc⟩
  obtain⟨l,hl,hq⟩:=list_of_all hall;refine⟨_,l,rfl,some a,cap,by rw[hl],by omega,hcm,fun hne=>?_⟩;have hp:0<l.length:=List.length_pos_iff.2 hne
  have h0:∃u,W.cell? ((a.add 0).add 0)=some u:=by
   obtain⟨cs,h1,_,h3⟩:=hq 0 hp;have:=h3 0 hpos;rw[List.getElem?_eq_getElem (by omega),Nat.zero_mul]at this;exact⟨_,this⟩
  obtain⟨u,h0⟩:=h0
  refine⟨a.block,a.off,by rw[<-(addr_cells h0 h0).1],(block_lt_of_cell (a:=⟨a.block,a.off+0+0,none⟩) (addr_cells h0 h0).2),fun h=>(by cases h),fun i hi=>?_⟩
  obtain⟨cs,h1,h2,h3⟩:=hq i hi;refine⟨cs.toArray,by simpa using h1,h2,fun j hj=>?_⟩;have hj':j<cs.length:=by simpa using hj
  have:=h3 j (by omega);rw[List.getElem?_eq_getElem hj']at this;rw[(addr_cells h0 this).2]
  simp[List.getElem?_eq_getElem hj']
theorem yV{t:TypeId}{fs:Array Field}{fuel:Nat}{cs:List Value}{x:DataW H×List MemPlace}(ht:P.underlying t=some (.struct fs))(h:DataW.trod enc P W 0 sp held fuel t cs=some x):
 cs.length=P.cellsOf t/\∀(i:Nat)(f:Field),fs[i]?=some f->∃n y,DataW.trod enc P W 0 sp held n f.type ((cs.drop f.offset).take (P.cellsOf f.type))=some y:=by
 obtain⟨xs,n,_,_,hl,hx,hf⟩:=DataW.trod_struct ht h;refine⟨hl,fun i f hi=>⟨n,?_⟩⟩
 have hi':i<xs.length:=by
  rcases Nat.lt_or_ge i fs.size with h|h
  ·omega
  ·rw[Array.getElem?_eq_none h]at hi;cases hi
 have:=hf i f hi;rw[List.getElem?_eq_getElem hi']at this;exact⟨_,this⟩
theorem xJ(cs:List Value)(k n:Nat):cs.drop k=(cs.drop k).take n++cs.drop (k+n):=by
 rw[<-List.drop_drop,List.take_append_drop]
end
section
variable{H:Type}{enc:TypeId×Value->H}{W:World}{sp:Nat->Bool}{held:Bool}{fuel:Nat}{cs:List Value}{x:DataW H×List MemPlace}
theorem read_u8(h:DataW.trod enc prog W 0 sp held fuel 5 cs=some x):∃b,cs=[byteV b]:=by
 obtain⟨n,rfl,_,hw⟩:=DataW.trod_int underlying5 h;have:=bounds_u8 hw;refine⟨UInt8.ofNat n.toNat,?_⟩;unfold byteV
 rw[UInt8.toNat_ofNat_of_lt' (by rw[show UInt8.size=256 from rfl];omega),Int.toNat_of_nonneg this.1]
theorem read_id(h:DataW.trod enc prog W 0 sp held fuel 24 cs=some x):∃i:List UInt8,i.length=32/\cs=i.map byteV:=by
 obtain⟨xs,m,_,_,hl,hx,hf⟩:=DataW.trod_array underlying24 h;have hc:prog.cellsOf 24=32:=by kernel_rfl
 have h5:prog.cellsOf 5=1:=by kernel_rfl
 rw[hc]at hl
 have hall:∀i,i<32->∃b,cs[i]?=some (byteV b):=by
  intro i hi;have h1:=hf i hi;rw[List.getElem?_eq_getElem (by omega)]at h1;obtain⟨b,hb⟩:=read_u8 h1;rw[h5,Nat.mul_one]at hb;refine⟨b,?_⟩
  have:=congrArg (fun l=>l[0]?) hb
  simpa using this
 obtain⟨l,hl',hq⟩:=list_of_all hall;refine⟨l,hl',List.ext_getElem (by simp;omega) fun i h1 h2=>?_⟩;have:=hq i (by simpa using h2)
 rw[List.getElem?_eq_getElem h1]at this
 simpa using this
theorem read_ids(h:DataW.trod enc prog W 0 sp held fuel 25 cs=some x):∃v l,cs=[v]/\Sl false W (fun k=>k<W.heap.size) 32 IdC v l:=
 jW underlying25 (by kernel_rfl) (by decide) (fun _ _ _ h=>by
  obtain⟨n,hn,rfl⟩:=read_id h
  exact⟨n,rfl,hn⟩) h
theorem read_bytes(h:DataW.trod enc prog W 0 sp held fuel 53 cs=some x):∃v l,cs=[v]/\Sl false W (fun k=>k<W.heap.size) 1 ByteC v l:=
 jW underlying53 (by kernel_rfl) (by decide) (fun _ _ _ h=>by
  obtain⟨b,rfl⟩:=read_u8 h
  exact⟨b,rfl⟩) h
theorem read_lists(h:DataW.trod enc prog W 0 sp held fuel 22 cs=some x):∃v l,cs=[v]/\LsAt W v l:=by
 obtain⟨v,l,e,hs⟩:=jW (R:=BtsC W) (sz:=1) underlying22 (by kernel_rfl) (by decide) (fun _ _ _ h=>by
  obtain⟨v,l,rfl,hs⟩:=read_bytes h
  exact⟨l,v,rfl,hs.mono (fun _ _=>trivial) (fun _ _ h=>h)⟩) h
 exact⟨v,l,e,hs.mono (fun _ _=>trivial) (fun _ _ h=>h)⟩
def IntF(cs:Array Value)(n:Int):Prop:=cs=#[.int .i64 n]/\I64 n
theorem read_ints(h:DataW.trod enc prog W 0 sp held fuel 64 cs=some x):∃v l,cs=[v]/\Sl false W AnyB 1 IntF v l:=by
 obtain⟨v,l,e,hs⟩:=jW (R:=IntF) (sz:=1) underlying64 (by kernel_rfl) (by decide) (fun _ _ _ h=>by
  obtain⟨n,rfl,_,hw⟩:=DataW.trod_int underlying3 h
  exact⟨n,rfl,fit_i64 hw⟩) h
 exact⟨v,l,e,hs.mono (fun _ _=>trivial) (fun _ _ h=>h)⟩
theorem read_house(h:DataW.trod enc prog W 0 sp held fuel 68 cs=some x):∃wd lv kv L KK,cs=[.int .i64 wd,lv,kv]/\I64 wd/\LsAt W lv L/\Sl false W AnyB 1 IntF kv KK:=by
 obtain⟨hl,hf⟩:=yV underlying68 h;have c3:prog.cellsOf 3=1:=by kernel_rfl
 have c22:prog.cellsOf 22=1:=by kernel_rfl
 have c64:prog.cellsOf 64=1:=by kernel_rfl
 have hc:prog.cellsOf 68=3:=by kernel_rfl
 obtain⟨_,_,h0⟩:∃n y,DataW.trod enc prog W 0 sp held n 3 ((cs.drop 0).take (prog.cellsOf 3))=some y:=hf 0 _ rfl
 obtain⟨_,_,h1⟩:∃n y,DataW.trod enc prog W 0 sp held n 22 ((cs.drop 1).take (prog.cellsOf 22))=some y:=hf 1 _ rfl
 obtain⟨_,_,h2⟩:∃n y,DataW.trod enc prog W 0 sp held n 64 ((cs.drop 2).take (prog.cellsOf 64))=some y:=hf 2 _ rfl;obtain⟨n,e0,_,hw⟩:=DataW.trod_int underlying3 h0
 obtain⟨lv,L,e1,hs1⟩:=read_lists h1;obtain⟨kv,KK,e2,hs2⟩:=read_ints h2;rw[hc]at hl;rw[c3]at e0;rw[c22]at e1;rw[c64]at e2
 refine⟨n,lv,kv,L,KK,?_,fit_i64 hw,hs1,hs2⟩;have:=xJ cs 0 1
 rw[e0,xJ cs (0+1) 1,e1,xJ cs (0+1+1) 1,e2,show 0+1+1+1=3 from rfl,List.drop_of_length_le (i:=3) (by omega),List.drop_zero]at this;rw[this]
 rfl
end
structure HsX where
 wd:Int
 lv:Value
 kv:Value
 L:List (List UInt8)
 KK:List Int
def HsIn(W:World)(a:HsX):Prop:=I64 a.wd/\LsAt W a.lv a.L/\Sl false W AnyB 1 IntF a.kv a.KK
section
variable{H:Type}{enc:TypeId×Value->H}{W W0:World}{sp:Nat->Bool}{r:Reach}{b0:Nat}{v:Value}{d:DataW H}{ps:List MemPlace}
theorem open_house(hval:Value.okWide prog W0 r b0 68 v)(h:DataW.Trod enc prog W 0 sp true 68 v d ps):∃a:HsX,v=.agg #[.int .i64 a.wd,a.lv,a.kv]/\HsIn W a:=by
 obtain⟨cs,rfl,_⟩:=okWide_struct underlying68 hval;obtain⟨fuel,h⟩:=h;obtain⟨wd,lv,kv,L,KK,e,h1,h2,h3⟩:=read_house h;refine⟨⟨wd,lv,kv,L,KK⟩,?_,h1,h2,h3⟩
 congr 1
 exact Array.toList_inj.1 e
end
end
section
open Go.RowKit Go.Proofs.Tryz Go.Lib
theorem sl_mem{α:Type}{own:Bool}{w:World}{G:Nat->Prop}{n:Nat}{R:Array Value->α->Prop}{v:Value}{l:List α}{Q:α->Prop}(h:Sl own w G n R v l)(hQ:∀cs x,R cs x->Q x):∀x∈l,Q x:=by
 intro x hx;obtain⟨a,cap,_,_,hat⟩:=Sl.at h;obtain⟨i,hi,rfl⟩:=List.getElem_of_mem hx;obtain⟨b,off,_,_,_,hc⟩:=hat i hi;obtain⟨cs,_,h2,_⟩:=hc i hi
 exact hQ _ _ h2
end
section
open Go.ChangeShapes Go.WideShapes Go.ChangeAt Go.RowKit Go.Proofs.Tryz Go.Lib
section
variable{H:Type}{enc:TypeId×Value->H}{W:World}{sp:Nat->Bool}{held:Bool}{fuel:Nat}{cs:List Value}{x:DataW H×List MemPlace}
theorem read_dot(h:DataW.trod enc prog W 0 sp held fuel 113 cs=some x):∃r n:Int,cs=[.int .i64 r,.int .i64 n]:=by
 obtain⟨hl,hf⟩:=yV underlying113 h;have h3:prog.cellsOf 3=1:=by kernel_rfl
 have hc:prog.cellsOf 113=2:=by kernel_rfl
 obtain⟨_,_,h0⟩:∃n y,DataW.trod enc prog W 0 sp held n 3 ((cs.drop 0).take (prog.cellsOf 3))=some y:=hf 0 _ rfl
 obtain⟨_,_,h1⟩:∃n y,DataW.trod enc prog W 0 sp held n 3 ((cs.drop 1).take (prog.cellsOf 3))=some y:=hf 1 _ rfl;obtain⟨r,e0,_⟩:=DataW.trod_int underlying3 h0
 obtain⟨n,e1,_⟩:=DataW.trod_int underlying3 h1;rw[h3]at e0 e1;rw[hc]at hl;refine⟨r,n,?_⟩;have:=xJ cs 0 1
 rw[e0,xJ cs (0+1) 1,e1,show 0+1+1=2 from rfl,List.drop_of_length_le (i:=2) (by omega),List.drop_zero]at this
 simpa using this
theorem read_event(h:DataW.trod enc prog W 0 sp held fuel 115 cs=some x):∃e,EvR false W (fun k=>k<W.heap.size) cs.toArray e:=by
 obtain⟨hl,hf⟩:=yV underlying115 h;have c3:prog.cellsOf 3=1:=by kernel_rfl
 have c9:prog.cellsOf 9=1:=by kernel_rfl
 have c30:prog.cellsOf 64=1:=by kernel_rfl
 have c33:prog.cellsOf 113=2:=by kernel_rfl
 have c35:prog.cellsOf 24=32:=by kernel_rfl
 have c102:prog.cellsOf 25=1:=by kernel_rfl
 have hc:prog.cellsOf 115=39:=by kernel_rfl
 obtain⟨_,_,h0⟩:∃n y,DataW.trod enc prog W 0 sp held n 113 ((cs.drop 0).take (prog.cellsOf 113))=some y:=hf 0 _ rfl
 obtain⟨_,_,h1⟩:∃n y,DataW.trod enc prog W 0 sp held n 64 ((cs.drop 2).take (prog.cellsOf 64))=some y:=hf 1 _ rfl
 obtain⟨_,_,h2⟩:∃n y,DataW.trod enc prog W 0 sp held n 3 ((cs.drop 3).take (prog.cellsOf 3))=some y:=hf 2 _ rfl
 obtain⟨_,_,h3⟩:∃n y,DataW.trod enc prog W 0 sp held n 9 ((cs.drop 4).take (prog.cellsOf 9))=some y:=hf 3 _ rfl
 obtain⟨_,_,h4⟩:∃n y,DataW.trod enc prog W 0 sp held n 9 ((cs.drop 5).take (prog.cellsOf 9))=some y:=hf 4 _ rfl
 obtain⟨_,_,h5⟩:∃n y,DataW.trod enc prog W 0 sp held n 24 ((cs.drop 6).take (prog.cellsOf 24))=some y:=hf 5 _ rfl
 obtain⟨_,_,h6⟩:∃n y,DataW.trod enc prog W 0 sp held n 25 ((cs.drop 38).take (prog.cellsOf 25))=some y:=hf 6 _ rfl;obtain⟨r,n,e0⟩:=read_dot h0
 obtain⟨dv,dl,e1,s1⟩:=read_ints h1;replace s1:Sl false W (fun k=>k<W.heap.size) 1 IntC dv dl:=Sl.inside (s1.mono (fun _ _=>trivial) fun _ _ h=>h.1) (by omega)
 obtain⟨k,e2,_⟩:=DataW.trod_int underlying3 h2;obtain⟨repo,e3,_,b3⟩:=DataW.trod_string underlying9 h3;obtain⟨tag,e4,_,b4⟩:=DataW.trod_string underlying9 h4
 obtain⟨id,hid,e5⟩:=read_id h5;obtain⟨rv,rl,e6,s6⟩:=read_ids h6;rw[hc]at hl;rw[c33]at e0;rw[c30]at e1;rw[c3]at e2;rw[c9]at e3 e4;rw[c35]at e5;rw[c102]at e6
 refine⟨⟨r,n,dl,k,repo,tag,id,rl⟩,dv,rv,?_,hid,s1,s6,b3,b4⟩;have:=xJ cs 0 2
 rw[e0,xJ cs (0+2) 1,e1,xJ cs (0+2+1) 1,e2,xJ cs (0+2+1+1) 1,e3,xJ cs (0+2+1+1+1) 1,e4,xJ cs (0+2+1+1+1+1) 32,e5,
  xJ cs (0+2+1+1+1+1+32) 1,e6,show 0+2+1+1+1+1+32+1=39 from rfl,List.drop_of_length_le (i:=39) (by omega),List.drop_zero]at this
 rw[this]
 simp[zN,qA]
theorem read_events(h:DataW.trod enc prog W 0 sp held fuel 72 cs=some x):∃v l,cs=[v]/\Sl false W (fun k=>k<W.heap.size) 39 (EvR false W (fun k=>k<W.heap.size)) v l:=
 jW underlying72 (by kernel_rfl) (by decide) (fun _ _ _ h=>read_event h) h
end
def EvsIn(W:World)(v:Value)(l:List Evt):Prop:=Sl false W (fun k=>k<W.heap.size) 39 (EvR false W (fun k=>k<W.heap.size)) v l
section
variable{H:Type}{enc:TypeId×Value->H}{W W0:World}{sp:Nat->Bool}{r:Reach}{b0:Nat}{v:Value}{d:DataW H}{ps:List MemPlace}
theorem open_events(hval:Value.okWide prog W0 r b0 72 v)(h:DataW.Trod enc prog W 0 sp true 72 v d ps):∃l,EvsIn W v l:=by
 obtain⟨a0,n0,c0,rfl⟩:=okWide_slice underlying72 hval;obtain⟨fuel,h⟩:=h;obtain⟨v,l,hv,hl⟩:=read_events h
 have:Value.slice a0 n0 c0=v:=by simpa[Value.cells]using hv
 rw[this];exact⟨l,hl⟩
end
section
variable{H:Type}{enc:TypeId×Value->H}{W:World}{sp:Nat->Bool}{held:Bool}{fuel:Nat}{cs:List Value}{x:DataW H×List MemPlace}
theorem read_held(h:DataW.trod enc prog W 0 sp held fuel 211 cs=some x):∃y:HeldL,HeldC cs.toArray y:=by
 obtain⟨hl,hf⟩:=yV underlying211 h;have c2:prog.cellsOf 113=2:=by kernel_rfl
 have c32:prog.cellsOf 24=32:=by kernel_rfl
 have hc:prog.cellsOf 211=34:=by kernel_rfl
 obtain⟨_,_,h0⟩:∃n y,DataW.trod enc prog W 0 sp held n 113 ((cs.drop 0).take (prog.cellsOf 113))=some y:=hf 0 _ rfl
 obtain⟨_,_,h1⟩:∃n y,DataW.trod enc prog W 0 sp held n 24 ((cs.drop 2).take (prog.cellsOf 24))=some y:=hf 1 _ rfl;obtain⟨r,n,e0⟩:=read_dot h0
 obtain⟨id,hid,e1⟩:=read_id h1;rw[hc]at hl;rw[c2]at e0;rw[c32]at e1;refine⟨((r,n),id),?_,hid⟩;have:=xJ cs 0 2
 rw[e0,xJ cs (0+2) 32,e1,show 0+2+32=34 from rfl,List.drop_of_length_le (i:=34) (by omega),List.drop_zero]at this;rw[this]
 simp[xM,qA]
theorem read_helds(h:DataW.trod enc prog W 0 sp held fuel 184 cs=some x):∃v l,cs=[v]/\RowAt W (v,l):=by
 obtain⟨v,l,e,hs⟩:=jW (R:=HeldC) (sz:=34) underlying184 (by kernel_rfl) (by decide) (fun _ _ _ h=>read_held h) h
 exact⟨v,l,e,hs.mono (fun _ _=>trivial) (fun _ _ h=>h)⟩
theorem read_tag(h:DataW.trod enc prog W 0 sp held fuel 188 cs=some x):∃t:TagX,TagC W cs.toArray t:=by
 obtain⟨hl,hf⟩:=yV underlying188 h;have c1:prog.cellsOf 9=1:=by kernel_rfl
 have c2:prog.cellsOf 184=1:=by kernel_rfl
 have hc:prog.cellsOf 188=2:=by kernel_rfl
 obtain⟨_,_,h0⟩:∃n y,DataW.trod enc prog W 0 sp held n 9 ((cs.drop 0).take (prog.cellsOf 9))=some y:=hf 0 _ rfl
 obtain⟨_,_,h1⟩:∃n y,DataW.trod enc prog W 0 sp held n 184 ((cs.drop 1).take (prog.cellsOf 184))=some y:=hf 1 _ rfl
 obtain⟨s,e0,_,b0⟩:=DataW.trod_string underlying9 h0;obtain⟨v,l,e1,hr⟩:=read_helds h1;rw[hc]at hl;rw[c1]at e0;rw[c2]at e1;refine⟨⟨s,(v,l)⟩,?_,hr⟩
 have:=xJ cs 0 1;rw[e0,xJ cs (0+1) 1,e1,show 0+1+1=2 from rfl,List.drop_of_length_le (i:=2) (by omega),List.drop_zero]at this;rw[this]
 rfl
theorem read_tags(h:DataW.trod enc prog W 0 sp held fuel 183 cs=some x):∃v l,cs=[v]/\Sl false W AnyB 2 (TagC W) v l:=by
 obtain⟨v,l,e,hs⟩:=jW (R:=TagC W) (sz:=2) underlying183 (by kernel_rfl) (by decide) (fun _ _ _ h=>read_tag h) h
 exact⟨v,l,e,hs.mono (fun _ _=>trivial) (fun _ _ h=>h)⟩
theorem read_rep(h:DataW.trod enc prog W 0 sp held fuel 186 cs=some x):∃r:RepX,RepC W cs.toArray r:=by
 obtain⟨hl,hf⟩:=yV underlying186 h;have c1:prog.cellsOf 9=1:=by kernel_rfl
 have c2:prog.cellsOf 183=1:=by kernel_rfl
 have c3:prog.cellsOf 184=1:=by kernel_rfl
 have hc:prog.cellsOf 186=3:=by kernel_rfl
 obtain⟨_,_,h0⟩:∃n y,DataW.trod enc prog W 0 sp held n 9 ((cs.drop 0).take (prog.cellsOf 9))=some y:=hf 0 _ rfl
 obtain⟨_,_,h1⟩:∃n y,DataW.trod enc prog W 0 sp held n 183 ((cs.drop 1).take (prog.cellsOf 183))=some y:=hf 1 _ rfl
 obtain⟨_,_,h2⟩:∃n y,DataW.trod enc prog W 0 sp held n 184 ((cs.drop 2).take (prog.cellsOf 184))=some y:=hf 2 _ rfl
 obtain⟨s,e0,_,b0⟩:=DataW.trod_string underlying9 h0;obtain⟨tv,tags,e1,hr1⟩:=read_tags h1;obtain⟨mv,man,e2,hr2⟩:=read_helds h2;rw[hc]at hl;rw[c1]at e0
 rw[c2]at e1;rw[c3]at e2;refine⟨⟨s,tv,tags,(mv,man)⟩,?_,hr1,hr2⟩;have:=xJ cs 0 1
 rw[e0,xJ cs (0+1) 1,e1,xJ cs (0+1+1) 1,e2,show 0+1+1+1=3 from rfl,List.drop_of_length_le (i:=3) (by omega),List.drop_zero]at this;rw[this]
 rfl
theorem read_reps(h:DataW.trod enc prog W 0 sp held fuel 69 cs=some x):∃v l,cs=[v]/\RepsAt W v l:=by
 obtain⟨v,l,e,hs⟩:=jW (R:=RepC W) (sz:=3) underlying69 (by kernel_rfl) (by decide) (fun _ _ _ h=>read_rep h) h
 exact⟨v,l,e,hs.mono (fun _ _=>trivial) (fun _ _ h=>h)⟩
theorem read_table(h:DataW.trod enc prog W 0 sp held fuel 71 cs=some x):∃vv V rv reps,cs=[vv,rv]/\Sl false W AnyB 1 IntF vv V/\RepsAt W rv reps:=by
 obtain⟨hl,hf⟩:=yV underlying71 h;have c1:prog.cellsOf 64=1:=by kernel_rfl
 have c2:prog.cellsOf 69=1:=by kernel_rfl
 have hc:prog.cellsOf 71=2:=by kernel_rfl
 obtain⟨_,_,h0⟩:∃n y,DataW.trod enc prog W 0 sp held n 64 ((cs.drop 0).take (prog.cellsOf 64))=some y:=hf 0 _ rfl
 obtain⟨_,_,h1⟩:∃n y,DataW.trod enc prog W 0 sp held n 69 ((cs.drop 1).take (prog.cellsOf 69))=some y:=hf 1 _ rfl;obtain⟨vv,V,e0,hr0⟩:=read_ints h0
 obtain⟨rv,reps,e1,hr1⟩:=read_reps h1;rw[hc]at hl;rw[c1]at e0;rw[c2]at e1;refine⟨vv,V,rv,reps,?_,hr0,hr1⟩;have:=xJ cs 0 1
 rw[e0,xJ cs (0+1) 1,e1,show 0+1+1=2 from rfl,List.drop_of_length_le (i:=2) (by omega),List.drop_zero]at this;rw[this]
 rfl
end
structure TblX where
 vv:Value
 V:List Int
 rv:Value
 reps:List RepX
def TblIn(W:World)(a:TblX):Prop:=Sl false W AnyB 1 IntF a.vv a.V/\RepsAt W a.rv a.reps
section
variable{H:Type}{enc:TypeId×Value->H}{W W0:World}{sp:Nat->Bool}{r:Reach}{b0:Nat}{v:Value}{d:DataW H}{ps:List MemPlace}
theorem open_table(hval:Value.okWide prog W0 r b0 71 v)(h:DataW.Trod enc prog W 0 sp true 71 v d ps):∃a:TblX,v=.agg #[a.vv,a.rv]/\TblIn W a:=by
 obtain⟨cs,rfl,_⟩:=okWide_struct underlying71 hval;obtain⟨fuel,h⟩:=h;obtain⟨vv,V,rv,reps,e,h1,h2⟩:=read_table h;refine⟨⟨vv,V,rv,reps⟩,?_,h1,h2⟩
 congr 1
 exact Array.toList_inj.1 e
end
end
section
open Go.RowKit Go.Shelf Go.Proofs.Tryz Go.Lib
def LessPass(w:World)(wd:Int)(L:List (List UInt8))(KK:List Int)(reps:List RepX)(l:List Evt)(s:Value)(wx:World):Prop:=
 Mod NoB w wx/\(s=.bool true\/s=.bool false/\longH L KK=false/\SmallTb reps/\SmallEvs l)
theorem swMarks_hs{w:World}{h:House}{c:BlobL}{l:LinkL}{Ft:Nat->Prop}(H:HsAt w h c l Ft)(hc:c.length<=1000){vv rv ev:Value}{reps:List RepX}(h1:vv.oneCell'=true)(hv:RepsAt w rv reps)(hn:(rootsX reps).length<=10000)
 {own own':Bool}{E G:Nat->Prop}{evs:List Evt}(hev:Sl own w E 39 (EvR own' w G) ev evs)(hr:(refsL evs).length<=20000):
 Calls prog 48 #[.pointer (some ⟨h.bs,0,none⟩),.agg #[vv,rv],ev] w (MarksR w c (rootsX reps) evs):=by
 obtain⟨bl,F,k1,k2,_⟩:=H;have h9:=swMarks_any k1 (by rw[k2];exact hc) h1 hv hn hev hr;rw[k2]at h9;exact h9
def LsRel1(w0:World)(n:Nat)(i:Value)(w:World):Prop:=∃k:Nat,k<=n/\i=.int .i64 k/\Mod NoB w0 w
theorem get_r{w w':World}{r:Option (List UInt8)}{e:Ending}(h:GetR w r e w'):Mod NoB w w'/\∃v,e=.returned (.tuple #[v,.bool r.isSome]):=by
 obtain⟨h1,h2⟩:=h
 cases r with
 |none=>exact⟨h1,_,h2⟩
 |some m=>obtain⟨v,h3,-⟩:=h2;exact⟨h1,v,h3⟩
def totN(l:LinkL)(gone:List (List UInt8)):Nat->Nat
 |0=>0
 |k+1=>totN l gone k+cntL l gone (repoZ (k:Nat))
theorem cntL_le(l:LinkL)(gone:List (List UInt8))(r:ByteArray):cntL l gone r<=l.length:=List.length_filter_le _ _
theorem totN_le(l:LinkL)(gone:List (List UInt8)):∀k,totN l gone k<=k*l.length
 |0=>by simp[totN]
 |k+1=>by
  have:=totN_le l gone k;have:=cntL_le l gone (repoZ (k:Nat));rw[totN,Nat.succ_mul];omega
theorem cntR_snoc(gone ids:List (List UInt8))(m:Nat)(hm:m<ids.length):cntR gone (ids.take (m+1))=cntR gone (ids.take m)+if ids[m]∈gone then 1 else 0:=by
 unfold cntR;rw[List.take_succ_eq_append_getElem hm,List.filter_append,List.length_append]
 congr 1
 by_cases h:ids[m]∈gone<;>simp[h]
theorem cntR_take(gone ids:List (List UInt8))(m:Nat):cntR gone (ids.take m)<=cntR gone ids:=((List.take_sublist m ids).filter _).length_le
def KpRel(w0:World)(l:LinkL)(gone:List (List UInt8))(gv iv:Value)(w:World):Prop:=∃k:Nat,k<=3/\gv=.int .i64 (totN l gone k:Nat)/\iv=.int .i64 k/\Mod NoB w0 w
def KpRel2(w0:World)(base:Nat)(gone ids:List (List UInt8))(gv iv:Value)(w:World):Prop:=∃m:Nat,m<=ids.length/\gv=.int .i64 ((base+cntR gone (ids.take m):Nat))/\iv=.int .i64 m/\Mod NoB w0 w
theorem sweepKeeps_walk{w:World}{wd:Int}(hwd:I64 wd){lv kv vv rv ev:Value}{L:List (List UInt8)}{KK V:List Int}{reps:List RepX}{l:List Evt}(hlv:LsAt w lv L)(hkv:Sl false w AnyB 1 IntC kv KK)(hK2:∀x∈KK,I64 x)
 (hV:Sl false w AnyB 1 IntC vv V)(hrv:RepsAt w rv reps)(hev:EvsIn w ev l):
 Calls prog 14 #[.agg #[.int .i64 wd,lv,kv],.agg #[vv,rv],ev] w (RetM (.bool true) w):=by
 have hl1:=Sl.one hlv;have hk1:=Sl.one hkv;have hv1:=Sl.one hV;have hr1:=Sl.one hrv;obtain⟨ead,ecap,rfl,hel,-⟩:=Sl.at hev;have HL:=hid hlv;have HKV:=hid hkv
 have HV:=hid hV;have HRV:=hid hrv;have HE:=hid hev;clear hlv hkv hV hrv hev;go_enter func14,ntmps14;go_upto_region 0 with(fail);refine wpR [1,1,3] (by rfl) (by rfl) ?_
 simp only[zz2];refine wpDo rfl ?_;refine zW 68 _ _ (by rfl) (by rfl) (fun w1 hB1 hm1 hs1=>?_)
 replace hB1:w1.heap[w.heap.size]?=some (.cells #[.int .i64 wd,lv,kv] 68 (0,0)):=hB1;try simp only[nmz]
 refine wpDo rfl ?_;refine zW 71 _ _ (by rfl) (by rfl) (fun w2 hB2 hm2 hs2=>?_);replace hB2:w2.heap[w1.heap.size]?=some (.cells #[vv,rv] 71 (0,0)):=hB2
 have hB12:=hm2.obj id hB1;refine zB _ rfl rfl ?_;simp only[nmz];refine xA ?_;have hm02:=hm1.trans0 hm2;have hs4:w.heap.size<w1.heap.size:=hs1
 generalize hb4:w.heap.size=b4 at*;generalize hb5:w1.heap.size=b5 at*;clear hm1 hm2 hB1 hs1;go_upto_region 1 with(fail);refine wpR [1,3] (by rfl) (by rfl) ?_
 simp only[zz2];refine wpDo rfl ?_;refine qB (qC 10 [] _ rfl _ func10 rfl (by kernel_rfl) [] rfl _) (sweepKnown_any _) ?_;rintro e w3 ⟨rfl,hm3⟩;refine⟨_,rfl,?_⟩
 refine zB _ rfl rfl ?_;simp only[nmz];refine xA ?_;have hm03:=hm02.trans0 hm3;have hB43:=hm3.obj id hB12;have hB53:=hm3.obj id hB2
 have hb53:b5<w3.heap.size:=(Array.getElem?_eq_some_iff.1 hB53).1;have hcH:CellsAt w3 b4 0 #[.int .i64 wd,lv,kv]:=CellsAt.whole hB43
 have hcT:CellsAt w3 b5 0 #[vv,rv]:=CellsAt.whole hB53;have hlong:=long27_any (wd:=wd) (jD HL.out hm03) (HKV.out.keep0 hm03)
 have hltb:=fun w' (hm':Mod NoB w3 w')=>longTable_any (HV.out.keep0 (hm03.trans0 hm')) (xN HRV.out (KC.of0 (hm03.trans0 hm')))
 have hlev:=fun w' (hm':Mod NoB w3 w')=>longEvents_any _ _ _ _ _ w' (SlEv.keep0 HE.out (hm03.trans0 hm'));obtain⟨lg,hlg⟩:∃b,longH L KK=b:=⟨_,rfl⟩
 obtain⟨tb,htb⟩:∃b,tbB V.length reps=b:=⟨_,rfl⟩;rw[hlg]at hlong;rw[htb]at hltb;have HLG:=hid hlg;have HTB:=hid htb;clear hlg htb hm02 hm3 hB12 hB2
 go_upto_region 2 with(fail)
 go_cut [46] (fun s wx=>LessPass w3 wd L KK reps l s wx)
 case first=>
  cases lg with
  |true=>
   refine wpR [1,1,3,0,1,3,3,3,1,3] (by rfl) (by rfl) ?_;simp only[zz2];refine wpXA 68 b4 0 #[.int .i64 wd,lv,kv] hcH underlying68 3 rfl trivial ?_;try simp only[nmz]
   refine wpDo rfl ?_;refine qB (qC 39 [.tmp 37] _ rfl _ func39 rfl (by kernel_rfl) [.agg #[.int .i64 wd,lv,kv]] rfl _) (hlong) ?_;rintro e w4 ⟨rfl,hm4⟩
   refine⟨_,rfl,?_⟩;refine qP _ rfl rfl ?_;simp only[nmz];refine wpPi_skip0 rfl ?_;simp only[nmz];refine xW rfl trivial ?_;simp only[nmz]
   refine yF _ _ _ _ rfl rfl rfl ?_;simp only[nmz];refine qP _ rfl rfl ?_;simp only[nmz];refine wpPi_skip rfl ?_;simp only[nmz];refine xW rfl trivial ?_
   simp only[nmz];refine yF _ _ _ _ rfl rfl rfl ?_;simp only[nmz];refine xA ?_;go_wp2
   go_meet
   case rel=>exact⟨hm4,.inl rfl⟩
  |false=>
   cases tb with
   |false=>
    refine wpR [1,1,3,1,1,3,3,3,1,3] (by rfl) (by rfl) ?_;simp only[zz2];refine wpXA 68 b4 0 #[.int .i64 wd,lv,kv] hcH underlying68 3 rfl trivial ?_;try simp only[nmz]
    refine wpDo rfl ?_;refine qB (qC 39 [.tmp 37] _ rfl _ func39 rfl (by kernel_rfl) [.agg #[.int .i64 wd,lv,kv]] rfl _) (hlong) ?_;rintro e w4 ⟨rfl,hm4⟩
    refine⟨_,rfl,?_⟩;refine qP _ rfl rfl ?_;simp only[nmz];refine wpXA 71 b5 0 #[vv,rv] (hcT.keep hm4 id) underlying71 2 rfl trivial ?_;try simp only[nmz]
    refine wpDo rfl ?_;refine qB (qC 40 [.tmp 40] _ rfl _ func40 rfl (by kernel_rfl) [.agg #[vv,rv]] rfl _) (hltb _ hm4) ?_;rintro e w5 ⟨rfl,hm5⟩;refine⟨_,rfl,?_⟩
    refine yF _ _ _ _ rfl rfl rfl ?_;simp only[nmz];refine qP _ rfl rfl ?_;simp only[nmz];refine wpPi_skip rfl ?_;simp only[nmz];refine xW rfl trivial ?_
    simp only[nmz];refine yF _ _ _ _ rfl rfl rfl ?_;simp only[nmz];refine xA ?_;go_wp2
    go_meet
    case rel=>exact⟨hm4.trans0 hm5,.inl rfl⟩
   |true=>
    refine wpR [1,1,3,1,1,3,3,3,1,3] (by rfl) (by rfl) ?_;simp only[zz2];refine wpXA 68 b4 0 #[.int .i64 wd,lv,kv] hcH underlying68 3 rfl trivial ?_;try simp only[nmz]
    refine wpDo rfl ?_;refine qB (qC 39 [.tmp 37] _ rfl _ func39 rfl (by kernel_rfl) [.agg #[.int .i64 wd,lv,kv]] rfl _) (hlong) ?_;rintro e w4 ⟨rfl,hm4⟩
    refine⟨_,rfl,?_⟩;refine qP _ rfl rfl ?_;simp only[nmz];refine wpXA 71 b5 0 #[vv,rv] (hcT.keep hm4 id) underlying71 2 rfl trivial ?_;try simp only[nmz]
    refine wpDo rfl ?_;refine qB (qC 40 [.tmp 40] _ rfl _ func40 rfl (by kernel_rfl) [.agg #[vv,rv]] rfl _) (hltb _ hm4) ?_;rintro e w5 ⟨rfl,hm5⟩;refine⟨_,rfl,?_⟩
    refine yF _ _ _ _ rfl rfl rfl ?_;simp only[nmz];refine qP _ rfl rfl ?_;simp only[nmz];refine qP _ rfl rfl ?_;simp only[nmz];refine wpDo rfl ?_
    refine qB (qC 41 [.tmp 44,.const (.int .i64 20)] _ rfl _ func41 rfl (by kernel_rfl) [.slice ead l.length ecap,.int .i64 20] rfl _) (hlev _ (hm4.trans0 hm5)) ?_
    rintro e w6 ⟨t,rfl,hm6,hsm⟩;refine⟨_,rfl,?_⟩;refine yF _ _ _ _ rfl rfl rfl ?_;simp only[nmz];refine xA ?_;go_wp2
    go_meet
    case rel=>
     refine⟨(hm4.trans0 hm5).trans0 hm6,?_⟩
     cases t
     ·exact .inr ⟨rfl,HLG.out,tbB_small HTB.out,hsm rfl⟩
     ·exact .inl rfl
 case rest=>
  as_aux_lemma=>
   rename World=>wx
   obtain⟨hmx,rfl|⟨rfl,hlgf,htbs,hsm⟩⟩:=hcut
   ·clear hlong hltb hlev
    have hmw:=hm03.trans0 hmx;clear hm03 hmx;go_wp2;go_ret;exact⟨rfl,hmw⟩
   obtain⟨hL30,hL700,hK60⟩:=longH_false hlgf;have hmw:=hm03.trans0 hmx;have hcHx:=hcH.keep hmx id;have hcTx:=hcT.keep hmx id;have hl20:=hsm.1;have hrt:=htbs.len
   have hrf:(refsL l).length<=20000:=by
    have h9:=small_refs (l:=l) (fun e he=>hsm.2 e he);unfold refsL;omega
   have hbl:=built_any (w:=wx) hwd (jD HL.out hmw) (HKV.out.keep0 hmw) (by omega) (fun b hb=>by have:=hL700 b hb;omega) (by omega) hK2
   have hbl2:=fun w' (hm':Mod NoB wx w')=>built_any (w:=w') hwd (jD HL.out (hmw.trans0 hm')) (HKV.out.keep0 (hmw.trans0 hm')) (by omega) (fun b hb=>by have:=hL700 b hb;omega) (by omega) hK2
   have hcl:(cOf (widZ wd) L).length<=1000:=by have:=cOf_len (widZ wd) L [];unfold cOf;simp at this;omega
   have hrepo:=lOf_repo (widZ wd) L KK (laysN L KK);have hb5x:b5<wx.heap.size:=Nat.lt_of_lt_of_le hb53 hmx.size;clear hlong hltb hlev hcH hcT hm03 hB43 hB53
   go_upto_region 4 with(fail);refine wpR [1,1,3,3,3,3,3] (by rfl) (by rfl) ?_;simp only[zz2];refine wpXA 68 b4 0 #[.int .i64 wd,lv,kv] hcHx underlying68 3 rfl trivial ?_
   try simp only[nmz]
   refine wpDo rfl ?_;refine qB (qC 43 [.tmp 49] _ rfl _ func43 rfl (by kernel_rfl) [.agg #[.int .i64 wd,lv,kv]] rfl _) (hbl) ?_
   rintro e wb ⟨h,hhw,hhr,hhl,⟨qb,hhq⟩,heb,Ft,hat,hFn,hmb⟩;subst heb;rw[hhq];refine⟨_,rfl,?_⟩;refine qP _ rfl rfl ?_;simp only[nmz]
   refine qE rfl (fun w'=>qL _ 0 #[.pointer (some ⟨h.bs,0,none⟩),.pointer (some ⟨qb,0,none⟩)] rfl rfl (.pointer (some ⟨h.bs,0,none⟩)) rfl) ?_
   simp only[nmz];refine qE rfl (fun w'=>qL _ 1 #[.pointer (some ⟨h.bs,0,none⟩),.pointer (some ⟨qb,0,none⟩)] rfl rfl (.pointer (some ⟨qb,0,none⟩)) rfl) ?_
   simp only[nmz];refine zB _ rfl rfl ?_;simp only[nmz];refine zB _ rfl rfl ?_;simp only[nmz];refine xA ?_;have hcHb:=hcHx.keep hmb id
   have hbl3:=hbl2 wb hmb;have hFlt:=hat.lt;clear hbl hbl2 hcHx;go_upto_region 5 with(fail);refine wpR [1,1,3,3,3,3,3] (by rfl) (by rfl) ?_;simp only[zz2]
   refine wpXA 68 b4 0 #[.int .i64 wd,lv,kv] hcHb underlying68 3 rfl trivial ?_;try simp only[nmz]
   refine wpDo rfl ?_;refine qB (qC 43 [.tmp 54] _ rfl _ func43 rfl (by kernel_rfl) [.agg #[.int .i64 wd,lv,kv]] rfl _) (hbl3) ?_
   rintro e wc ⟨g,hgw,hgr,hgl,⟨qc,hgq⟩,hec,F2,hat2,hF2n,hmc⟩;subst hec;rw[hgq];refine⟨_,rfl,?_⟩;refine qP _ rfl rfl ?_;simp only[nmz]
   refine qE rfl (fun w'=>qL _ 0 #[.pointer (some ⟨g.bs,0,none⟩),.pointer (some ⟨qc,0,none⟩)] rfl rfl (.pointer (some ⟨g.bs,0,none⟩)) rfl) ?_
   simp only[nmz];refine qE rfl (fun w'=>qL _ 1 #[.pointer (some ⟨g.bs,0,none⟩),.pointer (some ⟨qc,0,none⟩)] rfl rfl (.pointer (some ⟨qc,0,none⟩)) rfl) ?_
   simp only[nmz];refine zB _ rfl rfl ?_;simp only[nmz];refine zB _ rfl rfl ?_;simp only[nmz];refine xA ?_;clear hbl3;generalize cOf (widZ wd) L=c0 at*
   generalize lOf (widZ wd) L KK (laysN L KK)=l0 at*;have hatc:=hat.keep0 hmc;have hF2lt:=hat2.lt;have hm0c:=(hmw.trans0 hmb).trans0 hmc
   have hcTc:=(hcTx.keep hmb id).keep hmc id;have hdis:∀k,F2 k->¬Ft k:=fun k h2 h1=>by have:=hF2n k h2;have:=hFlt k h1;omega
   have sbc:=hmc.size;have sxb:=hmb.size;have hevc:=SlEv.keep0 HE.out hm0c
   have hmk:=fun w' (hm':Mod NoB wc w')=>swMarks_hs (hatc.keep0 hm') hcl hv1 (xN HRV.out (KC.of0 (hm0c.trans0 hm'))) (by omega) (SlEv.keep0 hevc hm') hrf
   have hrts:=fun w' (hm':Mod NoB wc w')=>swRoots_any hv1 (xN HRV.out (KC.of0 (hm0c.trans0 hm'))) (by omega)
   have hF2b:∀k,F2 k->b5<k:=fun k h2=>by have:=hF2n k h2;omega
   clear hcHb hat hcTx;go_upto_region 8 with(fail);have hS:Mod NoB wc wc.drew:=(Mod.refl _ _).drew
   refine wpRP [(0,3),(1,0),(2,3),(4,0),(3,1),(5,1),(6,3),(7,3)] [] (fun w'=>Mod NoB wc w') hS ?_;simp only[zz4];refine qP _ rfl rfl ?_;simp only[nmz]
   refine wpLA 71 b5 0 #[vv,rv] (fun w' hS=>hcTc.keep hS id) underlying71 2 rfl ?_;simp only[nmz];refine qP _ rfl rfl ?_;simp only[nmz]
   refine wpLA 71 b5 0 #[vv,rv] (fun w' hS=>hcTc.keep hS id) underlying71 2 rfl ?_;simp only[nmz];refine qN rfl (fun K hK=>?_)
   refine qB (qC 48 [.tmp 72,.tmp 73,.tmp 74] _ rfl _ func48 rfl (by kernel_rfl) [.pointer (some ⟨h.bs,0,none⟩),.agg #[vv,rv],.slice ead l.length ecap] rfl _) (hmk _ hS) ?_
   rintro e wA ⟨hmA,vA,outA,rfl,hgA,hMoA,hlA⟩;have hbA:=hS.size;replace hS:=hS.trans0 hmA;refine⟨_,rfl,hK _ _ hS ?_⟩;clear hK K;try simp only[nmz]
   refine qN rfl (fun K hK=>?_);refine qB (qC 47 [.tmp 76] _ rfl _ func47 rfl (by kernel_rfl) [.agg #[vv,rv]] rfl _) (hrts _ hS) ?_
   rintro e wB ⟨hmB,vB,outB,rfl,hgB,hMoB,hlB⟩;have hbB:=hS.size;have hgA2:=hgA.keep0 hmB;replace hS:=hS.trans0 hmB;refine⟨_,rfl,hK _ _ hS ?_⟩;clear hK K
   refine zB _ rfl rfl ?_;simp only[nmz];refine zB _ rfl rfl ?_;simp only[nmz];refine xA ?_;have hA:=slI (hgA2.base hbA) hlA
   have hB:=slI (hgB.base hbB) hlB;obtain⟨aad,acap,hva⟩:=hgA2.slice;obtain⟨bad,bcap,hvb⟩:=hgB.slice;subst hva hvb;have hatB:=hatc.keep0 hS;have hat2B:=hat2.keep0 hS
   have hm0B:=hm0c.trans0 hS;have hcTB:=hcTc.keep hS id;have hBl:outB.length<=9223372036854775807:=by obtain⟨_,_,_,h9,_⟩:=Sl.at hB;exact h9
   have sB:=hS.size
   have hGA:∀z,(wc.heap.size<=z/\z<wB.heap.size/\(Value.slice aad outA.length acap).ownBlock=some z)->¬Ft z:=fun z hz hf=>by have:=hFlt z hf;have:=hz.1;omega
   have hGB:∀z,(wc.heap.size<=z/\z<wB.heap.size/\(Value.slice bad outB.length bcap).ownBlock=some z)->¬Ft z:=fun z hz hf=>by have:=hFlt z hf;have:=hz.1;omega
   have hsw:=swSweep_any hatB hA hGA;rw[hhq]at hsw;clear hmk hrts hmA hmB hgA hgB hatc hat2 hgA2 hcTc hS hevc;go_upto_region 9 with(fail)
   refine wpR [3,3,3,1,3,3,3,1,1,3] (by rfl) (by rfl) ?_;simp only[zz2];refine qP _ rfl rfl ?_;simp only[nmz];refine qP _ rfl rfl ?_;simp only[nmz]
   refine qP _ rfl rfl ?_;simp only[nmz];refine wpDo rfl ?_
   refine qB (qC 53 [.tmp 79,.tmp 80,.tmp 81] _ rfl _ func53 rfl (by kernel_rfl) [.pointer (some ⟨h.bs,0,none⟩),.pointer (some ⟨qb,0,none⟩),.slice aad outA.length acap] rfl _) (hsw) ?_
   rintro e ws ⟨ids1,bv1,s1,F1,hid1,hrun1,hes1,hgs1,hat1,hms,hF1s,-⟩;subst hes1;refine⟨_,rfl,?_⟩;refine qP _ rfl rfl ?_;simp only[nmz]
   refine qE rfl (fun w'=>qL _ 0 #[.agg (qK bv1 s1.2.2.1 s1.2.2.2),.int .i64 0] rfl rfl (.agg (qK bv1 s1.2.2.1 s1.2.2.2)) rfl) ?_;simp only[nmz]
   refine qE rfl (fun w'=>qL _ 1 #[.agg (qK bv1 s1.2.2.1 s1.2.2.2),.int .i64 0] rfl rfl (.int .i64 0) rfl) ?_;simp only[nmz];refine wpDo rfl ?_
   refine qR 104 _ (by rfl) sweptZ (fun wt hBt hmt hst=>?_)
   replace hBt:wt.heap[ws.heap.size]?=some (.cells #[.slice none 0 0,.int .i64 0,.int .i64 0] 104 (0,0)):=hBt;try simp only[nmz]
   refine wpDo rfl ?_
   refine qH 104 _ _ ws.heap.size 0 (qK bv1 s1.2.2.1 s1.2.2.2) (by rfl) (by rfl) (by rfl) (by intro c hc;simp[qK]at hc;rcases hc with rfl|rfl|rfl<;>first|rfl|exact yC hgs1) 3 (by kernel_rfl) rfl _ _ hBt (by simp[qK]) (fun wu hBu hmu=>?_)
   rw[qF (by simp[qK])]at hBu;refine zB _ rfl rfl ?_;simp only[nmz];refine xA ?_;have hc32:=hat2B.small.1
   have hleft:=left_of (l:=l0) (marks:=outA) hid1;rw[hrun1]at hleft
   have h32a:∀x∈goneL ids1 outA,x.length=32:=fun x hx=>by
    obtain⟨p9,hp9,rfl⟩:=List.mem_map.1 ((hid1.2.mem_iff).1 (List.mem_filter.1 hx).1);exact(hc32 p9 hp9).1
   have hmsu:Mod NoB ws wu:=hmt.transB hmu (Nat.le_refl _);have hat1u:=hat1.keep0 hmsu;have hat2u:=(hat2B.keep hms hdis).keep0 hmsu
   have hBu2:=(hB.keep hms hGB (fun _ _ h=>h)).keep0 hmsu;have hm0u:Mod NoB w wu:=(hm0B.trans hms (fun k hk hf=>by have:=hFn k hf;have:=hmw.size;omega)).trans0 hmsu
   have ss1:=hms.size;have hF1b:=hat1.lt;have hX1:=slI (hgs1.keep0 hmsu) h32a;have hb5f:¬Ft b5:=fun e=>by have:=hFn _ e;omega
   have hcTu:CellsAt wu b5 0 #[vv,rv]:=(hcTB.keep hms hb5f).keep hmsu id;obtain⟨xad,xcap,hbv1⟩:=hgs1.slice
   have hcg:∀k,F1 k->b5<k:=fun k hk=>by
    rcases hF1s k hk with h9|h9
    ·have:=hFn k h9;omega
    ·have:=h9.1;omega
   have hl1:s1.1.length<=1000:=by have:=hleft.len;omega
   generalize goneL ids1 outA=gone at*;generalize hb14:ws.heap.size=b14 at*;have hs14:b14<wu.heap.size:=(Array.getElem?_eq_some_iff.1 hBu).1
   have hb14r:wB.heap.size<=b14:=ss1;have n0:wu.cell? ⟨b14,0+0,none⟩=some (.slice xad gone.length xcap):=by rw[<-hbv1];simp[World.cell?,hBu,qK]
   have n1:wu.cell? ⟨b14,0+1,none⟩=some (.int .i64 (s1.2.2.1:Nat)):=by simp[World.cell?,hBu,qK]
   have n2:wu.cell? ⟨b14,0+2,none⟩=some (.int .i64 (s1.2.2.2:Nat)):=by simp[World.cell?,hBu,qK]
   rw[hbv1]at hX1;have hX1l:gone.length<=9223372036854775807:=by obtain⟨_,_,_,h9,_⟩:=Sl.at hX1;exact h9
   have hd12:∀k,F2 k->¬F1 k:=fun k h2 h1=>by
    have hk2:=hF2lt k h2
    rcases hF1s k h1 with h9|h9
    ·exact hdis k h2 h9
    ·have:=h9.1;omega
   have hu1:=hsUsedLe hat1u;have hu2:=hsUsedLe hat2u;have hlu:=hleft.used;have hll:=hleft.len;have hux:=fun w' (hm':Mod NoB wu w')=>hsUsed (hat1u.keep0 hm')
   have hux2:=fun w' (hm':Mod NoB wu w')=>hsUsed (hat2u.keep0 hm');have hix:=fun w' (hm':Mod NoB wu w')=>(hat1u.keep0 hm').ids
   have hix2:=fun w' (hm':Mod NoB wu w')=>(hat2u.keep0 hm').ids;generalize hu1e:usedL s1.1=u1 at*;generalize hu2e:usedL c0=u2 at*
   clear hsw hatB hat2B hB hA hms hmt hmu hBt hst hgs1 hm0B hcTB hat1 hBu hGA hGB hrun1 hid1 hmsu;go_upto_region 10 with(fail);have hS:Mod NoB wu wu.drew:=(Mod.refl _ _).drew
   refine wpRP [(0,3),(1,3),(2,3),(3,3),(4,0),(5,3),(7,3),(6,1),(8,1),(9,3),(10,3),(11,3),(12,3),(13,3),(14,0),(15,3),(16,3),(19,3),(17,1),(18,3),(20,1),(21,3),(22,3),(23,3),(24,3)] [] (fun w'=>Mod NoB wu w') hS ?_
   simp only[zz4];refine qP _ rfl rfl ?_;simp only[nmz];refine qS _ _ _ _ _ _ _ _ rfl rfl rfl rfl rfl false rfl ?_;simp only[nmz];refine qP _ rfl rfl ?_
   simp only[nmz];refine xY _ _ _ _ _ _ rfl rfl rfl fo_104_1 ?_;simp only[nmz];refine wpLd 3 b14 (0+1) (fun w' hS=>hS.cell id n1) underlying3 ?_;simp only[nmz]
   refine qP _ rfl rfl ?_;simp only[nmz];refine qP _ rfl rfl ?_;simp only[nmz];refine qN rfl (fun K hK=>?_)
   refine qB (qC 75 [.tmp 90] _ rfl _ func75 rfl (by kernel_rfl) [.pointer (some ⟨g.bs,0,none⟩)] rfl _) (hux2 _ hS) ?_;rintro e w4 ⟨rfl,hw⟩;subst hw
   refine⟨_,rfl,hK _ _ hS ?_⟩;clear hK K;try simp only[nmz]
   refine qN rfl (fun K hK=>?_);refine qB (qC 75 [.tmp 92] _ rfl _ func75 rfl (by kernel_rfl) [.pointer (some ⟨h.bs,0,none⟩)] rfl _) (hux _ hS) ?_
   rintro e w4 ⟨rfl,hw⟩;subst hw;refine⟨_,rfl,hK _ _ hS ?_⟩;clear hK K;try simp only[nmz]
   refine yB _ _ _ _ _ _ rfl rfl rfl rfl (by omega) (by omega) ?_;simp only[nmz];refine qS _ _ _ _ _ _ _ _ rfl rfl rfl rfl rfl false (decide_eq_false (by omega)) ?_
   simp only[nmz];refine yF _ _ _ _ rfl rfl rfl ?_;simp only[nmz];refine qP _ rfl rfl ?_;simp only[nmz];refine xY _ _ _ _ _ _ rfl rfl rfl fo_104_0 ?_
   simp only[nmz];refine wpLd 25 b14 (0+0) (fun w' hS=>hS.cell id n0) underlying25 ?_;simp only[nmz];refine zD _ _ _ _ _ rfl rfl rfl (by kernel_rfl) ?_;simp only[nmz]
   refine qP _ rfl rfl ?_;simp only[nmz];refine qP _ rfl rfl ?_;simp only[nmz];refine qN rfl (fun K hK=>?_)
   refine qB (qC 38 [.tmp 101] _ rfl _ func38 rfl (by kernel_rfl) [.pointer (some ⟨g.bs,0,none⟩)] rfl _) (hix2 _ hS) ?_;rintro e w4 ⟨hm4,v4,i4,rfl,hg4,hI4⟩
   obtain⟨d4,p4,rfl⟩:=hg4.slice;have hL4:i4.length=c0.length:=by have:=hI4.2.length_eq;simpa using this
   replace hS:=hS.trans0 hm4;refine⟨_,rfl,hK _ _ hS ?_⟩;clear hK K hg4 hm4 hI4;try simp only[nmz]
   refine zD _ _ _ _ _ rfl rfl rfl (by kernel_rfl) ?_;simp only[nmz];refine qN rfl (fun K hK=>?_)
   refine qB (qC 38 [.tmp 104] _ rfl _ func38 rfl (by kernel_rfl) [.pointer (some ⟨h.bs,0,none⟩)] rfl _) (hix _ hS) ?_;rintro e w5 ⟨hm5,v5,i5,rfl,hg5,hI5⟩
   obtain⟨d5,p5,rfl⟩:=hg5.slice;have hL5:i5.length=s1.1.length:=by have:=hI5.2.length_eq;simpa using this
   replace hS:=hS.trans0 hm5;refine⟨_,rfl,hK _ _ hS ?_⟩;clear hK K hg5 hm5 hI5;try simp only[nmz]
   refine zD _ _ _ _ _ rfl rfl rfl (by kernel_rfl) ?_;simp only[nmz];refine yB _ _ _ _ _ _ rfl rfl rfl rfl (by omega) (by omega) ?_;simp only[nmz]
   refine qS _ _ _ _ _ _ _ _ rfl rfl rfl rfl rfl false (decide_eq_false (by omega)) ?_;simp only[nmz];refine yF _ _ _ _ rfl rfl rfl ?_;simp only[nmz]
   refine xA ?_;have hm0v:=hm0u.trans0 hS;have hat1v:=hat1u.keep0 hS;have hat2v:=hat2u.keep0 hS;have hBv:=hBu2.keep0 hS;have hX1v:=hX1.keep0 hS
   have hcTv:=hcTu.keep hS id;have n0v:=hS.cell id n0;have n2v:=hS.cell id n2;have svu:=hS.size
   rename World=>wv
   have HAT1:=hid hat1v;have HAT2:=hid hat2v;have HBV:=hid hBv;have HXV:=hid hX1v;have HCT:=hid hcTv;have HN0:=hid n0v;have HN2:=hid n2v;have HM0:=hid hm0v
   have HLF:=hid hleft;have HMA:=hid hMoA;have HMB:=hid hMoB;have HLB:=hid hlB;have HBL:=hid hBl;have HXL:=hid hX1l
   have HR0:Hid (LsRel1 wv outB.length (.int .i64 (0:Nat)) wv):=hid ⟨0,Nat.zero_le _,rfl,Mod.refl _ _⟩
   clear hS hat1u hat2u hBu2 hX1 hcTu n0 n1 n2 hat1v hat2v hBv hX1v hcTv n0v n2v hm0v hm0u hleft hMoA hMoB hlB hux hux2 hix hix2 hL4 hL5 hm0c hBl hX1l hc32 h32a hu1 hu2 hlu hll hu1e hu2e
   go_wp2
   go_loopw [16] (LsRel1 wv outB.length) (fun i _=>outB.length-(intOf i).toNat)
   case atStart=>exact HR0.out
   case round=>
    as_aux_lemma=>
     rename World=>wr
     obtain⟨k,hk,rfl,hmr⟩:=hrel
     by_cases hlt:k<outB.length
     ·have hz:(k:Int)<(outB.length:Nat):=by omega
      have hBl:=HBL.out;obtain⟨_,_,hae,-,haat⟩:=(HBV.out.keep0 hmr).at;injection hae with hae1 hae2 hae3;subst hae1 hae3;obtain⟨b,off,rfl,-,-,hcc⟩:=haat k hlt
      obtain⟨cs,-,⟨rfl,hy32⟩,hcA⟩:=hcc k hlt;have hyi:(qA outB[k]).size=32:=by rw[qD,hy32]
      have hrt9:outB[k]∈rootsX reps:=(HMB.out.2 _).1 (List.getElem_mem hlt)
      have hng:outB[k]∉gone:=fun hg9=>((HLF.out.mem _).1 hg9).2 ((HMA.out.2 _).2 (.inl ⟨_,hrt9,.inl rfl⟩));have HNG:=hid hng;have HRT9:=hid hrt9
      generalize outB[k]=y at*;have hw1:=hsWalk (HAT2.out.keep0 hmr) y hy32 hcl;have hw2:=fun w' (hm':Mod NoB wr w')=>hsWalk ((HAT1.out.keep0 hmr).keep0 hm') y hy32 hl1
      clear haat hcc hae2 hng hrt9;go_upto_region 15 with(fail);refine wpR [3,3,3,3,1,1,3,3,3,3,1,3,1,3] (by rfl) (by rfl) ?_;simp only[zz2]
      refine qP _ rfl rfl ?_;simp only[nmz];refine qP _ rfl rfl ?_;simp only[nmz];refine qP _ rfl rfl ?_;simp only[nmz]
      refine qQ _ _ _ _ _ _ _ _ _ rfl rfl rfl rfl underlying25 (n:=32) (by kernel_rfl) hlt ?_;simp only[nmz]
      refine wpXA 24 b (off+k*32) (qA y) hcA underlying24 32 hyi trivial ?_;try simp only[nmz]
      refine wpDo rfl ?_;refine qB (qC 20 [.tmp 117,.tmp 121] _ rfl _ func20 rfl (by kernel_rfl) [.pointer (some ⟨g.bs,0,none⟩),.agg (qA y)] rfl _) (hw1) ?_
      rintro e wp ⟨hmp,v1,i1,bad1,m1,rfl,hg1,hO1,hb1,h321⟩;obtain⟨d1,p1,rfl⟩:=hg1.slice;have hbi1:(qA bad1).size=32:=by rw[qD,hb1]
      refine⟨_,rfl,?_⟩;refine qP _ rfl rfl ?_;simp only[nmz]
      refine qE rfl (fun w'=>qL _ 0 #[.slice d1 i1.length p1,.agg (qA bad1),.int .i64 m1] rfl rfl (.slice d1 i1.length p1) rfl) ?_;simp only[nmz]
      refine qE rfl (fun w'=>qL _ 1 #[.slice d1 i1.length p1,.agg (qA bad1),.int .i64 m1] rfl rfl (.agg (qA bad1)) rfl) ?_;simp only[nmz]
      refine qE rfl (fun w'=>qL _ 2 #[.slice d1 i1.length p1,.agg (qA bad1),.int .i64 m1] rfl rfl (.int .i64 m1) rfl) ?_;simp only[nmz]
      refine wpDo rfl ?_;refine qR 24 _ (by rfl) idZ (fun wq hBq hmq hsq=>?_)
      replace hBq:wq.heap[wp.heap.size]?=some (.cells (qA (List.replicate 32 0)) 24 (0,0)):=hBq;refine zB _ rfl rfl ?_;simp only[nmz];refine wpDo rfl ?_
      refine qH 24 _ _ wp.heap.size 0 (qA bad1) (by rfl) (by rfl) (by rfl) (qT _) 32 (by kernel_rfl) hbi1 _ _ hBq (by rw[hbi1,qD];simp) (fun wj hBj hmj=>?_)
      rw[qF (by rw[hbi1,qD];simp)]at hBj;refine zB _ rfl rfl ?_;simp only[nmz];refine xA ?_
      have hmrj:Mod NoB wr wj:=(hmp.trans0 hmq).transB hmj hmp.size;have hmpj:Mod NoB wp wj:=hmq.transB hmj (Nat.le_refl _);have hI1:=slI (hg1.keep0 hmpj) h321
      have hc18:CellsAt wj wp.heap.size 0 (qA bad1):=CellsAt.whole hBj;have hcA2:=hcA.keep hmrj id;have hw3:=hw2 wj hmrj;generalize wp.heap.size=b18 at*
      clear hmp hmq hmj hmpj hBq hBj hsq hg1 hw1 hw2 hcA;go_upto_region 16 with(fail);refine wpR [3,3,3,3,1,1,3,3,3,3,1,3,1,3] (by rfl) (by rfl) ?_;simp only[zz2]
      refine qP _ rfl rfl ?_;simp only[nmz];refine qP _ rfl rfl ?_;simp only[nmz];refine qP _ rfl rfl ?_;simp only[nmz]
      refine qQ _ _ _ _ _ _ _ _ _ rfl rfl rfl rfl underlying25 (n:=32) (by kernel_rfl) hlt ?_;simp only[nmz]
      refine wpXA 24 b (off+k*32) (qA y) hcA2 underlying24 32 hyi trivial ?_;try simp only[nmz]
      refine wpDo rfl ?_;refine qB (qC 20 [.tmp 127,.tmp 131] _ rfl _ func20 rfl (by kernel_rfl) [.pointer (some ⟨h.bs,0,none⟩),.agg (qA y)] rfl _) (hw3) ?_
      rintro e wp2 ⟨hmp2,v2,i2,bad2,m2,rfl,hg2,hO2,hb2,h322⟩;obtain⟨d2,p2,rfl⟩:=hg2.slice;have hbi2:(qA bad2).size=32:=by rw[qD,hb2]
      refine⟨_,rfl,?_⟩;refine qP _ rfl rfl ?_;simp only[nmz]
      refine qE rfl (fun w'=>qL _ 0 #[.slice d2 i2.length p2,.agg (qA bad2),.int .i64 m2] rfl rfl (.slice d2 i2.length p2) rfl) ?_;simp only[nmz]
      refine qE rfl (fun w'=>qL _ 1 #[.slice d2 i2.length p2,.agg (qA bad2),.int .i64 m2] rfl rfl (.agg (qA bad2)) rfl) ?_;simp only[nmz]
      refine qE rfl (fun w'=>qL _ 2 #[.slice d2 i2.length p2,.agg (qA bad2),.int .i64 m2] rfl rfl (.int .i64 m2) rfl) ?_;simp only[nmz]
      refine wpDo rfl ?_;refine qR 24 _ (by rfl) idZ (fun wq2 hBq2 hmq2 hsq2=>?_)
      replace hBq2:wq2.heap[wp2.heap.size]?=some (.cells (qA (List.replicate 32 0)) 24 (0,0)):=hBq2;refine zB _ rfl rfl ?_;simp only[nmz];refine wpDo rfl ?_
      refine qH 24 _ _ wp2.heap.size 0 (qA bad2) (by rfl) (by rfl) (by rfl) (qT _) 32 (by kernel_rfl) hbi2 _ _ hBq2 (by rw[hbi2,qD];simp) (fun wj2 hBj2 hmj2=>?_)
      rw[qF (by rw[hbi2,qD];simp)]at hBj2;refine zB _ rfl rfl ?_;simp only[nmz];refine xA ?_
      have hmj2r:Mod NoB wj wj2:=(hmp2.trans0 hmq2).transB hmj2 hmp2.size;have hmp2j:Mod NoB wp2 wj2:=hmq2.transB hmj2 (Nat.le_refl _)
      have hI2:=slI (hg2.keep0 hmp2j) h322;have hc21:CellsAt wj2 wp2.heap.size 0 (qA bad2):=CellsAt.whole hBj2;have hc18b:=hc18.keep hmj2r id
      have hcA3:=hcA2.keep hmj2r id;have hI1b:=hI1.keep0 hmj2r;have hmrj2:=hmrj.trans0 hmj2r;have hX9:=(HXV.out.keep0 hmr).keep0 hmrj2
      have n0r:=hmrj2.cell id (hmr.cell id HN0.out);obtain⟨rfl,rfl,rfl⟩:=HLF.out.walk HMA.out HRT9.out hO1 hO2
      have hsame:=fun w' (hm':Mod NoB wj2 w')=>yH _ _ _ _ _ _ i1 i1 w' (hI1b.keep0 hm') (hI2.keep0 hm');simp only[decide_true]at hsame
      have hhas:=fun w' (hm':Mod NoB wj2 w')=>has27_any (hX9.keep0 hm') hy32;simp only[decide_eq_false HNG.out]at hhas;generalize wp2.heap.size=b21 at*
      clear hmp2 hmq2 hmj2 hmp2j hBq2 hBj2 hsq2 hg2 hw3 hcA2 hI1 hI2 hI1b hX9 hc18 hO1 hO2 hmrj hmj2r h321 h322;go_upto_region 17 with(fail)
      have hS:Mod NoB wj2 wj2.drew:=(Mod.refl _ _).drew
      refine wpRP [(0,3),(1,3),(2,1),(3,3),(4,3),(5,0),(6,0),(7,0),(8,3),(9,3),(10,3),(11,3),(12,3),(13,3),(14,3),(15,3),(16,0),(17,3),(18,3),(19,3),(20,0),(21,1),(22,3)] [] (fun w'=>Mod NoB wj2 w') hS ?_
      simp only[zz4];refine qP _ rfl rfl ?_;simp only[nmz];refine qP _ rfl rfl ?_;simp only[nmz];refine qN rfl (fun K hK=>?_)
      refine qB (qC 24 [.tmp 136,.tmp 137] _ rfl _ func24 rfl (by kernel_rfl) [.slice d1 i1.length p1,.slice d2 i1.length p2] rfl _) (hsame _ hS) ?_
      rintro e w5 ⟨rfl,hm5⟩;replace hS:=hS.trans0 hm5;refine⟨_,rfl,hK _ _ hS ?_⟩;clear hK K hm5;try simp only[nmz]
      refine xK _ _ _ rfl rfl rfl ?_;simp only[nmz];refine qP _ rfl rfl ?_;simp only[nmz]
      refine wpLA 24 b18 0 (qA bad1) (fun w' hS=>hc18b.keep hS id) underlying24 32 hbi1 ?_;simp only[nmz]
      refine wpLA 24 b21 0 (qA bad1) (fun w' hS=>hc21.keep hS id) underlying24 32 hbi1 ?_;simp only[nmz]
      refine qM rfl (fun w' hS=>exec_neq_id _ _ _ _ rfl bad1 bad1 rfl rfl 32 5 underlying24 underlying5 (by kernel_rfl) (by kernel_rfl) hb1 hb1 false (decide_eq_false (fun h=>h rfl))) ?_
      simp only[nmz];refine yF _ _ _ _ rfl rfl rfl ?_;simp only[nmz];refine qP _ rfl rfl ?_;simp only[nmz];refine qP _ rfl rfl ?_;simp only[nmz]
      refine qP _ rfl rfl ?_;simp only[nmz];refine qS _ _ _ _ _ _ _ _ rfl rfl rfl rfl rfl false (decide_eq_false (fun h=>h rfl)) ?_;simp only[nmz]
      refine yF _ _ _ _ rfl rfl rfl ?_;simp only[nmz];refine qP _ rfl rfl ?_;simp only[nmz];refine xY _ _ _ _ _ _ rfl rfl rfl fo_104_0 ?_;simp only[nmz]
      refine wpLd 25 b14 (0+0) (fun w' hS=>hS.cell id n0r) underlying25 ?_;simp only[nmz];refine qP _ rfl rfl ?_;simp only[nmz];refine qP _ rfl rfl ?_
      simp only[nmz];refine qQ _ _ _ _ _ _ _ _ _ rfl rfl rfl rfl underlying25 (n:=32) (by kernel_rfl) hlt ?_;simp only[nmz]
      refine qM rfl (fun w' hS=>zI 24 _ rfl _ _ rfl (qA y) (hcA3.keep hS id) _ underlying24 rfl 32 (by kernel_rfl) hyi) ?_;simp only[nmz]
      refine qN rfl (fun K hK=>?_)
      refine qB (qC 59 [.tmp 152,.tmp 156] _ rfl _ func59 rfl (by kernel_rfl) [.slice xad gone.length xcap,.agg (qA y)] rfl _) (hhas _ hS) ?_
      rintro e w6 ⟨rfl,hm6⟩;replace hS:=hS.trans0 hm6;refine⟨_,rfl,hK _ _ hS ?_⟩;clear hK K hm6;refine yF _ _ _ _ rfl rfl rfl ?_;simp only[nmz];refine xA ?_
      have HQ:Hid (LsRel1 wv outB.length (.int .i64 ((k+1:Nat):Int)) w6):=hid ⟨k+1,by omega,rfl,(hmr.trans0 hmrj2).trans0 hS⟩
      clear hmr hmrj2 hS hcA3 hhas hsame hc18b hc21 n0r;go_wp2
      go_roundw
      case rel=>exact HQ.out
      case measure=>simp[intOf];omega
     ·have hz:¬(k:Int)<(outB.length:Nat):=by omega
      obtain rfl:k=outB.length:=by omega
      clear hlt hk;have HMR:=hid hmr;have HR1:Hid (LsRel1 wr l.length (.int .i64 (0:Nat)) wr):=hid ⟨0,Nat.zero_le _,rfl,Mod.refl _ _⟩;clear hmr;go_wp2
      go_loopw [23] (LsRel1 wr l.length) (fun i _=>l.length-(intOf i).toNat)
      case atStart=>exact HR1.out
      case round=>
       as_aux_lemma=>
        rename World=>we1
        obtain⟨k2,hk2,rfl,hme⟩:=hrel
        by_cases hlt2:k2<l.length
        ·have hz2:(k2:Int)<(l.length:Nat):=by omega
         have hm0e:=(HM0.out.trans0 HMR.out).trans0 hme;obtain⟨_,_,hae,-,haat⟩:=(SlEv.keep0 HE.out hm0e).at;injection hae with hae1 hae2 hae3;subst hae1 hae3
         obtain⟨b,off,rfl,-,-,hcc⟩:=haat k2 hlt2;obtain⟨cs,-,hevr,hcE⟩:=hcc k2 hlt2;obtain⟨dv,rv2,rfl,hi9,-,hrs,-,-⟩:=hevr
         have cA:=zC l[k2] dv rv2 hi9;have hc38:=hcE.cell (j:=38) cA.c38;obtain⟨ra,rc,rfl,hrl,hrat⟩:=Sl.at hrs
         have hin:∀x∈l[k2].refs,getL x s1.1=getL x c0:=fun x hx=>(HLF.out.same ((HMA.out.2 x).2 (.inr (by unfold refsL;exact List.mem_flatMap.2 ⟨_,List.getElem_mem hlt2,hx⟩)))).symm
         have HIN:=hid hin;have HRS:=hid hrs;have H38:=hid hc38;have HME:=hid hme;generalize l[k2].refs=refs at*
         have HR2:Hid (LsRel1 we1 refs.length (.int .i64 (0:Nat)) we1):=hid ⟨0,Nat.zero_le _,rfl,Mod.refl _ _⟩;clear haat hcc hae2 cA hcE hin hrs hrat hc38 hme hm0e
         go_wp2
         go_loopw [24] (LsRel1 we1 refs.length) (fun i _=>refs.length-(intOf i).toNat)
         case atStart=>exact HR2.out
         case round=>
          as_aux_lemma=>
           rename World=>we2
           obtain⟨m,hm,rfl,hmf⟩:=hrel;have hc38:=hmf.cell id H38.out
           by_cases hlt3:m<refs.length
           ·have hz3:(m:Int)<(refs.length:Nat):=by omega
            obtain⟨_,_,hae,-,haat⟩:=(HRS.out.keep0 hmf).at;injection hae with hae1 hae2 hae3;subst hae1 hae3;obtain⟨b9,off9,rfl,-,-,hcc⟩:=haat m hlt3
            obtain⟨cs,-,⟨rfl,hy32⟩,hcA⟩:=hcc m hlt3;have hyi:(qA refs[m]).size=32:=by rw[qD,hy32]
            have hsm:=HIN.out _ (List.getElem_mem hlt3);generalize refs[m]=y at*;have hmvf:=(HMR.out.trans0 HME.out).trans0 hmf
            have hg1:=hsGet (HAT2.out.keep0 hmvf) y hy32;have hg2:=fun w' (hm':Mod NoB we2 w')=>hsGet ((HAT1.out.keep0 hmvf).keep0 hm') y hy32;simp only[hsm]at hg2
            generalize getL y c0=gy at*;clear haat hcc hae2;go_upto_region 23 with(fail);refine wpR [3,3,3,3,3,1,3,3] (by rfl) (by rfl) ?_;simp only[zz2]
            refine qP _ rfl rfl ?_;simp only[nmz];refine qP _ rfl rfl ?_;simp only[nmz];refine qP _ rfl rfl ?_;simp only[nmz]
            refine qQ _ _ _ _ _ _ _ _ _ rfl rfl rfl rfl underlying72 (n:=39) (by kernel_rfl) hlt2 ?_;simp only[nmz]
            refine xY _ _ _ _ _ _ rfl rfl rfl fo_115_6 ?_;simp only[nmz]
            refine wpXd (v:=(.slice (some ⟨b9,off9,none⟩) refs.length rc)) 25 b (off+k2*39+38) hc38 underlying25 trivial ?_;try simp only[nmz]
            refine zD _ _ _ _ _ rfl rfl rfl (by kernel_rfl) ?_;simp only[nmz];refine qS _ _ _ _ _ _ _ _ rfl rfl rfl rfl rfl true (decide_eq_true hz3) ?_
            simp only[nmz];refine xA ?_;go_upto_region 25 with(fail);refine wpR [3,3,3,3,3,1,3,3,1,1,3,3,3,3,3] (by rfl) (by rfl) ?_;simp only[zz2]
            refine qP _ rfl rfl ?_;simp only[nmz];refine qP _ rfl rfl ?_;simp only[nmz];refine qP _ rfl rfl ?_;simp only[nmz]
            refine qQ _ _ _ _ _ _ _ _ _ rfl rfl rfl rfl underlying72 (n:=39) (by kernel_rfl) hlt2 ?_;simp only[nmz]
            refine xY _ _ _ _ _ _ rfl rfl rfl fo_115_6 ?_;simp only[nmz]
            refine wpXd (v:=(.slice (some ⟨b9,off9,none⟩) refs.length rc)) 25 b (off+k2*39+38) hc38 underlying25 trivial ?_;refine qP _ rfl rfl ?_
            simp only[nmz];refine qQ _ _ _ _ _ _ _ _ _ rfl rfl rfl rfl underlying25 (n:=32) (by kernel_rfl) hlt3 ?_;simp only[nmz]
            refine wpXA 24 b9 (off9+m*32) (qA y) hcA underlying24 32 hyi trivial ?_;try simp only[nmz]
            refine wpDo rfl ?_
            refine qB (qC 33 [.tmp 176,.tmp 184] _ rfl _ func33 rfl (by kernel_rfl) [.pointer (some ⟨g.bs,0,none⟩),.agg (qA y)] rfl _) hg1 ?_;intro e wp hp
            obtain⟨hmp,v1,rfl⟩:=get_r hp;have hc38p:=hmp.cell id hc38;have hcAp:=hcA.keep hmp id;have hg3:=hg2 wp hmp;refine⟨_,rfl,?_⟩;clear hp
            refine qP _ rfl rfl ?_;simp only[nmz];refine qE rfl (fun w'=>qL _ 0 #[v1,.bool gy.isSome] rfl rfl v1 rfl) ?_;simp only[nmz]
            refine qE rfl (fun w'=>qL _ 1 #[v1,.bool gy.isSome] rfl rfl (.bool gy.isSome) rfl) ?_;simp only[nmz];refine zB _ rfl rfl ?_
            simp only[nmz];refine zB _ rfl rfl ?_;simp only[nmz];refine xA ?_;clear hg1 hg2 hc38 hcA;go_upto_region 26 with(fail)
            refine wpR [3,3,3,3,3,1,3,3,1,1,3,3,3,3,3] (by rfl) (by rfl) ?_;simp only[zz2];refine qP _ rfl rfl ?_;simp only[nmz]
            refine qP _ rfl rfl ?_;simp only[nmz];refine qP _ rfl rfl ?_;simp only[nmz]
            refine qQ _ _ _ _ _ _ _ _ _ rfl rfl rfl rfl underlying72 (n:=39) (by kernel_rfl) hlt2 ?_;simp only[nmz]
            refine xY _ _ _ _ _ _ rfl rfl rfl fo_115_6 ?_;simp only[nmz]
            refine wpXd (v:=(.slice (some ⟨b9,off9,none⟩) refs.length rc)) 25 b (off+k2*39+38) hc38p underlying25 trivial ?_;refine qP _ rfl rfl ?_
            simp only[nmz];refine qQ _ _ _ _ _ _ _ _ _ rfl rfl rfl rfl underlying25 (n:=32) (by kernel_rfl) hlt3 ?_;simp only[nmz]
            refine wpXA 24 b9 (off9+m*32) (qA y) hcAp underlying24 32 hyi trivial ?_;try simp only[nmz]
            refine wpDo rfl ?_
            refine qB (qC 33 [.tmp 189,.tmp 197] _ rfl _ func33 rfl (by kernel_rfl) [.pointer (some ⟨h.bs,0,none⟩),.agg (qA y)] rfl _) hg3 ?_;intro e wq hq
            obtain⟨hmq,v2,rfl⟩:=get_r hq;refine⟨_,rfl,?_⟩;clear hq;refine qP _ rfl rfl ?_;simp only[nmz]
            refine qE rfl (fun w'=>qL _ 0 #[v2,.bool gy.isSome] rfl rfl v2 rfl) ?_;simp only[nmz]
            refine qE rfl (fun w'=>qL _ 1 #[v2,.bool gy.isSome] rfl rfl (.bool gy.isSome) rfl) ?_;simp only[nmz];refine zB _ rfl rfl ?_
            simp only[nmz];refine zB _ rfl rfl ?_;simp only[nmz];refine xA ?_
            have HQ:Hid (LsRel1 we1 refs.length (.int .i64 ((m+1:Nat):Int)) wq):=hid ⟨m+1,by omega,rfl,(hmf.trans0 hmp).trans0 hmq⟩
            clear hmf hmp hmq hc38p hcAp hg3;generalize gy.isSome=gb at*
            cases gb
            ·go_wp2
             go_roundw
             case rel=>exact HQ.out
             case measure=>simp[intOf];omega
            ·go_wp2
             go_roundw
             case rel=>exact HQ.out
             case measure=>simp[intOf];omega
           ·have hz3:¬(m:Int)<(refs.length:Nat):=by omega
            go_upto_region 23 with(fail);refine wpR [3,3,3,3,3,1,3,3] (by rfl) (by rfl) ?_;simp only[zz2];refine qP _ rfl rfl ?_;simp only[nmz]
            refine qP _ rfl rfl ?_;simp only[nmz];refine qP _ rfl rfl ?_;simp only[nmz]
            refine qQ _ _ _ _ _ _ _ _ _ rfl rfl rfl rfl underlying72 (n:=39) (by kernel_rfl) hlt2 ?_;simp only[nmz]
            refine xY _ _ _ _ _ _ rfl rfl rfl fo_115_6 ?_;simp only[nmz]
            refine wpXd (v:=(.slice ra refs.length rc)) 25 b (off+k2*39+38) hc38 underlying25 trivial ?_;try simp only[nmz]
            refine zD _ _ _ _ _ rfl rfl rfl (by kernel_rfl) ?_;simp only[nmz];refine qS _ _ _ _ _ _ _ _ rfl rfl rfl rfl rfl false (decide_eq_false hz3) ?_
            simp only[nmz];refine xA ?_;have HQ:Hid (LsRel1 wr l.length (.int .i64 ((k2+1:Nat):Int)) we2):=hid ⟨k2+1,by omega,rfl,HME.out.trans0 hmf⟩
            clear hmf hc38;go_wp2
            go_roundw
            case rel=>exact HQ.out
            case measure=>simp[intOf];omega
        ·have hz2:¬(k2:Int)<(l.length:Nat):=by omega
         obtain rfl:k2=l.length:=by omega
         clear hlt2 hk2;have HME:=hid (HMR.out.trans0 hme);have hl6:=HAT2.out.small.2.2
         have HR3:Hid (KpRel we1 l0 gone (.int .i64 (0:Nat)) (.int .i64 (0:Nat)) we1):=hid ⟨0,by omega,rfl,rfl,Mod.refl _ _⟩;clear hme;go_wp2
         go_loopw [29,30] (KpRel we1 l0 gone) (fun _ i _=>3-(intOf i).toNat)
         case atStart=>exact HR3.out
         case round=>
          as_aux_lemma=>
           rename World=>wa
           obtain⟨k3,hk3,rfl,rfl,hma⟩:=hrel
           by_cases hlt3:k3<3
           ·have hz3:(k3:Int)<3:=by omega
            have hmva:=HME.out.trans0 hma;have hrp:=repo_any (k3:Nat) ⟨by omega,by omega⟩ wa
            have hli2:=fun w' (hm':Mod NoB wa w')=>hsLidsQ (HAT2.out.keep0 (hmva.trans0 hm')) hgq (repoZ (k3:Nat));have HMA3:=hid hma;have HMVA:=hid hmva
            clear hma hmva;go_upto_region 33 with(fail);refine wpR [3,3,1,1,3] (by rfl) (by rfl) ?_;simp only[zz2];refine qP _ rfl rfl ?_;simp only[nmz]
            refine qP _ rfl rfl ?_;simp only[nmz];refine wpDo rfl ?_
            refine qB (qC 69 [.tmp 209] _ rfl _ func69 rfl (by kernel_rfl) [.int .i64 (k3:Nat)] rfl _) (hrp) ?_;rintro e wb1 ⟨rfl,hmb1⟩;refine⟨_,rfl,?_⟩
            try simp only[nmz]
            refine wpDo rfl ?_
            refine qB (qC 71 [.tmp 208,.tmp 210] _ rfl _ func71 rfl (by kernel_rfl) [.pointer (some ⟨qc,0,none⟩),.string (repoZ (k3:Nat))] rfl _) (hli2 _ hmb1) ?_
            rintro e wb2 ⟨v,rfl,hmb2,ids,hid9,h329,hsl9⟩;obtain⟨dad,dcap,rfl,hdl,-⟩:=Sl.at hsl9;refine⟨_,rfl,?_⟩;refine zB _ rfl rfl ?_;simp only[nmz]
            refine xA ?_;have hmab:=hmb1.trans0 hmb2;have hcn:=cnt_one (hsLnd HAT2.out) hid9 gone;have hcl9:=cntL_le l0 gone (repoZ (k3:Nat))
            have htn:=totN_le l0 gone k3
            have ht9:totN l0 gone k3<=3*65536:=by
             have:k3*l0.length<=3*65536:=Nat.mul_le_mul (by omega) hl6;omega
            have HSL:=hid hsl9;have HID:=hid hid9;have HCN:Hid (cntR gone ids=cntL l0 gone (repoZ (k3:Nat))):=hid hcn;have HMAB:=hid (HMVA.out.trans0 hmab)
            have HMA4:=hid (HMA3.out.trans0 hmab);have hcni:cntR gone ids<=65536:=by rw[HCN.out];omega
            obtain⟨tn,htne⟩:∃q,totN l0 gone k3=q:=⟨_,rfl⟩;have HTN:=hid htne;rw[htne]at ht9 |-
            have HR4:Hid (KpRel2 wb2 tn gone ids (.int .i64 (tn:Nat)) (.int .i64 (0:Nat)) wb2):=hid ⟨0,Nat.zero_le _,by simp[cntR],rfl,Mod.refl _ _⟩
            clear hmb1 hmb2 hmab hsl9 hid9 hcn hli2 hrp htne htn hcl9;go_wp2
            go_loopw [29,32] (KpRel2 wb2 tn gone ids) (fun _ i _=>ids.length-(intOf i).toNat)
            case atStart=>exact HR4.out
            case round=>
             as_aux_lemma=>
              rename World=>wc1
              obtain⟨m,hm,rfl,rfl,hmc1⟩:=hrel
              by_cases hlt4:m<ids.length
              ·have hz4:(m:Int)<(ids.length:Nat):=by omega
               obtain⟨_,_,hae,-,haat⟩:=(HSL.out.keep0 hmc1).at;injection hae with hae1 hae2 hae3;subst hae1 hae3;obtain⟨b9,off9,rfl,-,-,hcc⟩:=haat m hlt4
               obtain⟨cs,-,⟨rfl,hy32⟩,hcA⟩:=hcc m hlt4;have hyi:(qA ids[m]).size=32:=by rw[qD,hy32]
               have hmvc:=HMAB.out.trans0 hmc1;have hsn:=cntR_snoc gone ids m hlt4;have htk:=cntR_take gone ids m;have htk2:=cntR_take gone ids (m+1)
               have hbk:=HLF.out.has HID.out (List.getElem_mem hlt4);have hhas:=fun w' (hm':Mod NoB wc1 w')=>has27_any ((HXV.out.keep0 hmvc).keep0 hm') hy32
               have hlh:=fun w' (hm':Mod NoB wc1 w')=>hsLhasQ ((HAT1.out.keep0 hmvc).keep0 hm') hhq (repoZ (k3:Nat)) ids[m] hy32 hbk;have n0c:=hmvc.cell id HN0.out
               have hrp:=fun w'=>repo_any (k3:Nat) ⟨by omega,by omega⟩ w';have HSN:=hid hsn;obtain⟨gb,hgb⟩:∃b,decide (ids[m]∈gone)=b:=⟨_,rfl⟩
               have HGB:=hid hgb;simp only[hgb]at hhas hlh;generalize ids[m]=y at*;have HC2:=hid hmc1;clear haat hcc hae2 hsn hbk hmvc hgb hmc1
               cases gb with
               |false=>
                go_upto_region 37 with(fail);have hS:Mod NoB wc1 wc1.drew:=(Mod.refl _ _).drew
                refine wpRP [(0,3),(1,0),(2,3),(3,3),(4,3),(5,0),(6,1),(7,3)] [] (fun w'=>Mod NoB wc1 w') hS ?_;simp only[zz4]
                refine xY _ _ _ _ _ _ rfl rfl rfl fo_104_0 ?_;simp only[nmz];refine wpLd 25 b14 (0+0) (fun w' hS=>hS.cell id n0c) underlying25 ?_;simp only[nmz]
                refine qP _ rfl rfl ?_;simp only[nmz];refine qP _ rfl rfl ?_;simp only[nmz]
                refine qQ _ _ _ _ _ _ _ _ _ rfl rfl rfl rfl underlying25 (n:=32) (by kernel_rfl) hlt4 ?_;simp only[nmz]
                refine qM rfl (fun w' hS=>zI 24 _ rfl _ _ rfl (qA y) (hcA.keep hS id) _ underlying24 rfl 32 (by kernel_rfl) hyi) ?_;simp only[nmz]
                refine qN rfl (fun K hK=>?_)
                refine qB (qC 59 [.tmp 219,.tmp 223] _ rfl _ func59 rfl (by kernel_rfl) [.slice xad gone.length xcap,.agg (qA y)] rfl _) (hhas _ hS) ?_
                rintro e wd1 ⟨rfl,hmd1⟩;replace hS:=hS.trans0 hmd1;refine⟨_,rfl,hK _ _ hS ?_⟩;clear hK K hmd1;refine zB _ rfl rfl ?_;simp only[nmz]
                refine xA ?_;have hcA5:=hcA.keep hS id;have hlh5:=fun w' (hm':Mod NoB wd1 w')=>hlh w' (hS.trans0 hm');have HS5:=hid hS;clear hS hcA hhas hlh
                go_upto_region 38 with(fail);have hS:Mod NoB wd1 wd1.drew:=(Mod.refl _ _).drew
                refine wpRP [(0,3),(1,3),(3,3),(4,3),(5,3),(6,0),(8,3),(2,1),(7,1),(9,3)] [] (fun w'=>Mod NoB wd1 w') hS ?_;simp only[zz4]
                refine qP _ rfl rfl ?_;simp only[nmz];refine qP _ rfl rfl ?_;simp only[nmz];refine qP _ rfl rfl ?_;simp only[nmz]
                refine qP _ rfl rfl ?_;simp only[nmz];refine qQ _ _ _ _ _ _ _ _ _ rfl rfl rfl rfl underlying25 (n:=32) (by kernel_rfl) hlt4 ?_;simp only[nmz]
                refine qM rfl (fun w' hS=>zI 24 _ rfl _ _ rfl (qA y) (hcA5.keep hS id) _ underlying24 rfl 32 (by kernel_rfl) hyi) ?_;simp only[nmz]
                refine qP _ rfl rfl ?_;simp only[nmz];refine qN rfl (fun K hK=>?_)
                refine qB (qC 69 [.tmp 226] _ rfl _ func69 rfl (by kernel_rfl) [.int .i64 (k3:Nat)] rfl _) (hrp _) ?_;rintro e we5 ⟨rfl,hme5⟩
                replace hS:=hS.trans0 hme5;refine⟨_,rfl,hK _ _ hS ?_⟩;clear hK K hme5;try simp only[nmz]
                refine qN rfl (fun K hK=>?_)
                refine qB (qC 76 [.tmp 225,.tmp 227,.tmp 231] _ rfl _ func76 rfl (by kernel_rfl) [.pointer (some ⟨qb,0,none⟩),.string (repoZ (k3:Nat)),.agg (qA y)] rfl _) (hlh5 _ hS) ?_
                rintro e wf5 ⟨rfl,hmf5⟩;replace hS:=hS.trans0 hmf5;refine⟨_,rfl,hK _ _ hS ?_⟩;clear hK K hmf5;try simp only[nmz]
                refine qE (v:=?_) rfl (fun w'=>?_) ?_;rotate_left;·(go_simp;try with_reducible rfl)
                simp only[nmz];refine xA ?_
                have HQ:Hid (KpRel2 wb2 tn gone ids (.int .i64 ((tn+cntR gone (ids.take m):Nat))) (.int .i64 ((m+1:Nat):Int)) wf5):=hid ⟨m+1,by omega,by rw[HSN.out,if_neg (of_decide_eq_false HGB.out)];rfl,rfl,(HC2.out.trans0 HS5.out).trans0 hS⟩
                clear hS hcA5 hlh5 n0c;go_wp2
                go_roundw
                case rel=>exact HQ.out
                case measure=>simp[intOf];omega
               |true=>
                go_upto_region 37 with(fail);have hS:Mod NoB wc1 wc1.drew:=(Mod.refl _ _).drew
                refine wpRP [(0,3),(1,0),(2,3),(3,3),(4,3),(5,0),(6,1),(7,3)] [] (fun w'=>Mod NoB wc1 w') hS ?_;simp only[zz4]
                refine xY _ _ _ _ _ _ rfl rfl rfl fo_104_0 ?_;simp only[nmz];refine wpLd 25 b14 (0+0) (fun w' hS=>hS.cell id n0c) underlying25 ?_;simp only[nmz]
                refine qP _ rfl rfl ?_;simp only[nmz];refine qP _ rfl rfl ?_;simp only[nmz]
                refine qQ _ _ _ _ _ _ _ _ _ rfl rfl rfl rfl underlying25 (n:=32) (by kernel_rfl) hlt4 ?_;simp only[nmz]
                refine qM rfl (fun w' hS=>zI 24 _ rfl _ _ rfl (qA y) (hcA.keep hS id) _ underlying24 rfl 32 (by kernel_rfl) hyi) ?_;simp only[nmz]
                refine qN rfl (fun K hK=>?_)
                refine qB (qC 59 [.tmp 219,.tmp 223] _ rfl _ func59 rfl (by kernel_rfl) [.slice xad gone.length xcap,.agg (qA y)] rfl _) (hhas _ hS) ?_
                rintro e wd1 ⟨rfl,hmd1⟩;replace hS:=hS.trans0 hmd1;refine⟨_,rfl,hK _ _ hS ?_⟩;clear hK K hmd1;refine zB _ rfl rfl ?_;simp only[nmz]
                refine xA ?_;have hcA5:=hcA.keep hS id;have hlh5:=fun w' (hm':Mod NoB wd1 w')=>hlh w' (hS.trans0 hm');have HS5:=hid hS;clear hS hcA hhas hlh
                go_upto_region 38 with(fail);have hS:Mod NoB wd1 wd1.drew:=(Mod.refl _ _).drew
                refine wpRP [(0,3),(1,3),(3,3),(4,3),(5,3),(6,0),(8,3),(2,1),(7,1),(9,3)] [] (fun w'=>Mod NoB wd1 w') hS ?_;simp only[zz4]
                refine qP _ rfl rfl ?_;simp only[nmz];refine qP _ rfl rfl ?_;simp only[nmz];refine qP _ rfl rfl ?_;simp only[nmz]
                refine qP _ rfl rfl ?_;simp only[nmz];refine qQ _ _ _ _ _ _ _ _ _ rfl rfl rfl rfl underlying25 (n:=32) (by kernel_rfl) hlt4 ?_;simp only[nmz]
                refine qM rfl (fun w' hS=>zI 24 _ rfl _ _ rfl (qA y) (hcA5.keep hS id) _ underlying24 rfl 32 (by kernel_rfl) hyi) ?_;simp only[nmz]
                refine qP _ rfl rfl ?_;simp only[nmz];refine qN rfl (fun K hK=>?_)
                refine qB (qC 69 [.tmp 226] _ rfl _ func69 rfl (by kernel_rfl) [.int .i64 (k3:Nat)] rfl _) (hrp _) ?_;rintro e we5 ⟨rfl,hme5⟩
                replace hS:=hS.trans0 hme5;refine⟨_,rfl,hK _ _ hS ?_⟩;clear hK K hme5;try simp only[nmz]
                refine qN rfl (fun K hK=>?_)
                refine qB (qC 76 [.tmp 225,.tmp 227,.tmp 231] _ rfl _ func76 rfl (by kernel_rfl) [.pointer (some ⟨qb,0,none⟩),.string (repoZ (k3:Nat)),.agg (qA y)] rfl _) (hlh5 _ hS) ?_
                rintro e wf5 ⟨rfl,hmf5⟩;replace hS:=hS.trans0 hmf5;refine⟨_,rfl,hK _ _ hS ?_⟩;clear hK K hmf5;try simp only[nmz]
                refine qE (v:=?_) rfl (fun w'=>?_) ?_;rotate_left;·(go_simp;try with_reducible rfl)
                simp only[nmz];refine xA ?_
                have HQ:Hid (KpRel2 wb2 tn gone ids (.int .i64 (((tn+cntR gone (ids.take m):Nat):Int)+1)) (.int .i64 ((m+1:Nat):Int)) wf5):=hid ⟨m+1,by omega,by rw[HSN.out,if_pos (of_decide_eq_true HGB.out)];rfl,rfl,(HC2.out.trans0 HS5.out).trans0 hS⟩
                clear hS hcA5 hlh5 n0c;go_wp2
                go_roundw
                case rel=>exact HQ.out
                case measure=>simp[intOf];omega
              ·have hz4:¬(m:Int)<(ids.length:Nat):=by omega
               obtain rfl:m=ids.length:=by omega
               have HQ:Hid (KpRel we1 l0 gone (.int .i64 ((tn+cntR gone (ids.take ids.length):Nat))) (.int .i64 ((k3+1:Nat):Int)) wc1):=hid ⟨k3+1,by omega,by rw[List.take_length,HCN.out,totN,HTN.out],rfl,HMA4.out.trans0 hmc1⟩
               clear hmc1;go_wp2
               go_roundw
               case rel=>exact HQ.out
               case measure=>simp[intOf];omega
           ·have hz3:¬(k3:Int)<3:=by omega
            obtain rfl:k3=3:=by omega
            clear hlt3 hk3;have hmva:=HME.out.trans0 hma;have hat1z:=HAT1.out.keep0 hmva;have hm0z:=HM0.out.trans0 hmva;have hcTz:=HCT.out.keep hmva id
            have hmk:=swMarks_hs hat1z hl1 hv1 (xN HRV.out (KC.of0 hm0z)) (by omega) (SlEv.keep0 HE.out hm0z) hrf
            have htot:totN l0 gone 3=s1.2.2.2:=by
             rw[HLF.out.sum,<-cnt_all repoZ_ne.1 repoZ_ne.2.1 repoZ_ne.2.2 hrepo HLF.out.gnd];simp only[totN,Nat.zero_add]
             rfl
            have n2a:=hmva.cell id HN2.out;have hF1z:=hat1z.lt;clear hma hmva;go_upto_region 42 with(fail)
            refine wpR [3,3,3,1,3,1,1,3,3,3,1,1,3] (by rfl) (by rfl) ?_;simp only[zz2];refine qP _ rfl rfl ?_;simp only[nmz];refine qP _ rfl rfl ?_
            simp only[nmz];refine qP _ rfl rfl ?_;simp only[nmz];refine wpXA 71 b5 0 #[vv,rv] hcTz underlying71 2 rfl trivial ?_;refine qP _ rfl rfl ?_
            simp only[nmz];refine wpDo rfl ?_
            refine qB (qC 48 [.tmp 241,.tmp 242,.tmp 243] _ rfl _ func48 rfl (by kernel_rfl) [.pointer (some ⟨h.bs,0,none⟩),.agg #[vv,rv],.slice ead l.length ecap] rfl _) hmk ?_
            rintro e wA ⟨hmA,vA,out2,rfl,hgA,hMo2,hlA2⟩;have hout:=HLF.out.outs HMA.out hMo2;subst hout;obtain⟨sad,scap,rfl⟩:=hgA.slice
            have hsw2:=swSweep_any (hat1z.keep0 hmA) (slI hgA hlA2) (fun z hz hf=>by have:=hF1z z hf;have:=hz.1;omega);rw[hhq]at hsw2;refine⟨_,rfl,?_⟩
            try simp only[nmz]
            refine wpDo rfl ?_
            refine qB (qC 53 [.tmp 239,.tmp 240,.tmp 244] _ rfl _ func53 rfl (by kernel_rfl) [.pointer (some ⟨h.bs,0,none⟩),.pointer (some ⟨qb,0,none⟩),.slice sad out2.length scap] rfl _) hsw2 ?_
            rintro e wB9 ⟨ids2,bv2,s2,F3,hid2,hrun2,hes2,hgs2,-,hms2,-,-⟩;have hag:=HLF.out.again hid2;rw[hag]at hrun2 hgs2
            have e1:s2.2.2.1=0:=by rw[<-hrun2];rfl
            have e2:s2.2.2.2=0:=by rw[<-hrun2];rfl
            rw[e1,e2]at hes2;subst hes2;refine⟨_,rfl,?_⟩;refine qP _ rfl rfl ?_;simp only[nmz]
            refine qE rfl (fun w'=>qL _ 0 #[.agg (qK bv2 0 0),.int .i64 0] rfl rfl (.agg (qK bv2 0 0)) rfl) ?_;simp only[nmz]
            refine qE rfl (fun w'=>qL _ 1 #[.agg (qK bv2 0 0),.int .i64 0] rfl rfl (.int .i64 0) rfl) ?_;simp only[nmz];refine wpDo rfl ?_
            refine qR 104 _ (by rfl) sweptZ (fun wt9 hBt hmt hst=>?_)
            replace hBt:wt9.heap[wB9.heap.size]?=some (.cells #[.slice none 0 0,.int .i64 0,.int .i64 0] 104 (0,0)):=hBt;try simp only[nmz]
            refine wpDo rfl ?_
            refine qH 104 _ _ wB9.heap.size 0 (qK bv2 0 0) (by rfl) (by rfl) (by rfl) (by intro c hc;simp[qK]at hc;rcases hc with rfl|rfl|rfl<;>first|rfl|exact yC hgs2) 3 (by kernel_rfl) rfl _ _ hBt (by simp[qK]) (fun wu9 hBu hmu=>?_)
            rw[qF (by simp[qK])]at hBu;refine zB _ rfl rfl ?_;simp only[nmz];refine xA ?_
            have hmBu:Mod NoB wB9 wu9:=hmt.transB hmu (Nat.le_refl _);have hb14F:¬F1 b14:=fun hf=>by have:=hF1b _ hf;omega
            have n2z:=hmBu.cell id (hms2.cell hb14F (hmA.cell id n2a))
            have hmf9:Mod NoB w wu9:=((hm0z.trans0 hmA).trans hms2 (fun k hk hf=>by have:=hcg k hf;omega)).trans0 hmBu
            have hc34:CellsAt wu9 wB9.heap.size 0 (qK bv2 0 0):=CellsAt.whole hBu
            have hss:=sameSwept_any (slI (hgs2.keep0 hmBu) (fun x hx=>(by cases hx))) (Sl.nil false wu9 AnyB 32 IdC) 0 0 0 0;simp only[decide_true,Bool.and_self]at hss
            have HF9:=hid hmf9;clear hmk hmA hmt hmu hms2 hgs2 hgA hsw2 hBt hBu hat1z hcTz hmf9 hm0z n2a;go_upto_region 43 with(fail)
            refine wpR [3,3,3,3,1,3,3,3,3,3,3,3,1,0,1,3,3] (by rfl) (by rfl) ?_;simp only[zz2];refine qP _ rfl rfl ?_;simp only[nmz]
            refine qP _ rfl rfl ?_;simp only[nmz];refine qP _ rfl rfl ?_;simp only[nmz];refine xY _ _ _ _ _ _ rfl rfl rfl fo_104_2 ?_;simp only[nmz]
            refine wpXd (v:=(.int .i64 (s1.2.2.2:Nat))) 3 b14 (0+2) n2z underlying3 trivial ?_;try simp only[nmz]
            refine qS _ _ _ _ _ _ _ _ rfl rfl rfl rfl rfl true (decide_eq_true (by rw[htot])) ?_;simp only[nmz];refine yF _ _ _ _ rfl rfl rfl ?_;simp only[nmz]
            refine qP _ rfl rfl ?_;simp only[nmz];refine qP _ rfl rfl ?_;simp only[nmz];refine qS _ _ _ _ _ _ _ _ rfl rfl rfl rfl rfl true rfl ?_
            simp only[nmz];refine yF _ _ _ _ rfl rfl rfl ?_;simp only[nmz];refine qP _ rfl rfl ?_;simp only[nmz]
            refine wpXA 104 wB9.heap.size 0 (qK bv2 0 0) hc34 underlying104 3 rfl trivial ?_;try simp only[nmz]
            refine qM rfl (fun w' hS=>qO 104 [] [] _ (by rfl) (by rfl) built_swept0) ?_;simp only[nmz];refine wpDo rfl ?_
            refine qB (qC 54 [.tmp 260,.tmp 261] _ rfl _ func54 rfl (by kernel_rfl) [.agg (qK bv2 0 0),.agg (qK (.slice none 0 0) 0 0)] rfl _) (hss) ?_
            rintro e wf9 ⟨rfl,hmf9⟩;refine⟨_,rfl,?_⟩;refine yF _ _ _ _ rfl rfl rfl ?_;simp only[nmz];refine zB _ rfl rfl ?_;simp only[nmz]
            refine xA ?_;have HFF:=hid (HF9.out.trans0 hmf9);clear hmf9 hss n2z hc34;go_wp2;go_ret;exact⟨rfl,HFF.out⟩
theorem sweepKeeps_any(W:World)(a:HsX)(t:TblX)(ev:Value)(l:List Evt)(ha:HsIn W a)(ht:TblIn W t)(hl:EvsIn W ev l):Calls prog 14 #[.agg #[.int .i64 a.wd,a.lv,a.kv],.agg #[t.vv,t.rv],ev] W (RetM (.bool true) W):=
 sweepKeeps_walk ha.1 ha.2.1 (ha.2.2.mono (fun _ h=>h) (fun _ _ h=>h.1)) (sl_mem ha.2.2 fun _ _ h=>h.2) (ht.1.mono (fun _ h=>h) (fun _ _ h=>h.1)) ht.2 hl
end
end Go.Proofs.YtjeonjoifjbohaaGreat
