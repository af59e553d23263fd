/- What the statement SweepMarks needs, part 3. -/
import Derived.Lib.SliceRun
import Derived.Test.YtjeonjoifjbohaaGreatSweepMarksP2
set_option linter.unusedVariables false
set_option linter.unusedSimpArgs false
set_option linter.unnecessarySimpa false
set_option linter.unusedSectionVars false
set_option maxRecDepth 10000
set_option maxHeartbeats 8000000
namespace Go.Proofs.YtjeonjoifjbohaaGreat
variable{a:Act}{K:Act->iN->Prop}{Q:Exit->Act->iN->Prop}{l:List iK}{cap hb i n:Nat}{o:Oper}{ad:Option Addr}{P:Program}{v v1:Value}{b m x:iK}{G S:iM}{w w' w1 w2:iN}
section
open Go.RowKit Go.Proofs.Tryz Go.Lib
def SprRel(b:iK)(lo hi b5:Nat)(w0:iN)(i:Value)(w:iN):Prop:=∃n:Nat,lo<=n/\n<=hi/\i=.int .i64 n/\w.heap[b5]?=some (.cells (qI (cL b n)) 340 (0,0))/\Mod (fun k=>k=b5) w0 w
def RndRel(w0:iN)(b2 b4 b10 b11 b5:Nat)(sp:List UInt32)(s:W8)(i:Value)(w:iN):Prop:=∃n:Nat,n<=64/\i=.int .i64 n/\w.heap[b10]?=some (.cells (qI (bR shaKeys sp n s).list) 302 (0,0))/\
 w.heap[b11]?=some (.cells (qI shaKeys) 340 (0,0))/\w.heap[b5]?=some (.cells (qI sp) 340 (0,0))/\w.heap[b2]?=some (.cells (qI s.list) 302 (0,0))/\w.heap[b4]?=some (.cells (qI (List.replicate 8 0)) 302 (0,0))/\Mod qJ w0 w
def Add2Rel(w0:iN)(b2 b4 b10:Nat)(s c:W8)(i:Value)(w:iN):Prop:=∃n:Nat,n<=8/\i=.int .i64 n/\w.heap[b10]?=some (.cells (zE (qI c.list) 0 (qI ((gA s c).list.take n))) 302 (0,0))/\
 w.heap[b2]?=some (.cells (qI s.list) 302 (0,0))/\w.heap[b4]?=some (.cells (qI (List.replicate 8 0)) 302 (0,0))/\Mod qJ w0 w
theorem built8w(x0 x1 x2 x3 x4 x5 x6 x7:UInt32):prog.built 302 [(0,qX x0),(1,qX x1),(2,qX x2),(3,qX x3),(4,qX x4),(5,qX x5),(6,qX x6),(7,qX x7)]=some (qI [x0,x1,x2,x3,x4,x5,x6,x7]):=by kernel_rfl
theorem refBlock_any{own:Bool}{s:W8}(hb:Sl own w G 1 yA v b)(hl:b.length=64):Calls prog 210 #[.agg (qI s.list),v] w (vO (.agg (qI (sM s b).list)) w):=by
 obtain⟨av,cap,rfl,hlen,hat⟩:=hb.at;obtain⟨bb,off,rfl,-,-,hcs⟩:=hat 0 (by omega)
 have hbyte:∀j,j<64->w.cell? ⟨bb,off+j*1,none⟩=some (qW (b.getD j 0)):=fun j hj=>by
  obtain⟨cs,_,rfl,hc⟩:=hcs j (by omega);rw[List.getD_eq_getElem?_getD,List.getElem?_eq_getElem (by omega)];exact CellsAt.one.1 hc
 have hbb:bb<w.heap.size:=block_lt_of_cell (hbyte 0 (by omega));have HB0:=O hbyte;clear hat hcs hb hbyte;go_enter func210,ntmps210;go_upto_region 0 with(fail)
 refine qL [1,1] ?_;simp only[qB];refine qK (zT 302 (fun w1 hB2 hm1 hs1=>?_));replace hB2:w1.heap[w.heap.size]?=some (.cells (qI s.list) 302 (0,0)):=hB2
 try simp only[qC]
 refine qK (zB w8Z (fun w2 hB4 hm2 hs2=>?_));simp only[qB];replace hB2:=hm2.obj id hB2;go_upto_region 1 with(fail);refine qL [1] ?_;simp only[qB]
 refine qK (zB w64Z (fun w3 hB5 hm3 hs3=>?_));simp only[qB];replace hB2:=hm3.obj id hB2;replace hB4:=hm3.obj id hB4
 have hM3:Mod qJ w w3:=(hm1.trans0 hm2).trans0 hm3
 have HB:Hid (∀j,j<64->w3.cell? ⟨bb,off+j*1,none⟩=some (qW (b.getD j 0))):=fun j hj=>hM3.cell id (HB0.out j hj);have hz1:=hm1.size;have hz2:=hm2.size
 clear hm1 hm2 hm3 HB0;generalize hb2:w.heap.size=b2 at*;generalize hb4:w1.heap.size=b4 at*;generalize hb5:w2.heap.size=b5 at*;clear hb4 hb5 hz2 hz1;go_wp2
 go_loopw [6] (SprRel b 0 16 b5 w3) (fun i _=>16-(intOf i).toNat)
 case atStart=>exact⟨0,by omega,by omega,rfl,by simpa[cL,xW]using hB5,Mod.refl _ _⟩
 case round=>
  rename iN=>wr
  clear hB5;obtain⟨n,-,hn,rfl,hrow,hM⟩:=hrel;have hbne:¬bb=b5:=by omega
  by_cases hlt16:n<16
  ·have hz:(n:Int)<16:=by omega
   have hlt:n<64:=by omega
   have hsz:=qF (cL b n);rw[rowW_len b (by omega)]at hsz;have hset:=rowW_set b hlt;rw[if_pos hlt16]at hset
   have hbw:∀j,j<64->wr.cell? ⟨bb,off+j*1,none⟩=some (qW (b.getD j 0)):=fun j hj=>hM.cell hbne (HB.out j hj);have HBW:=O hbw;have HSET:=O hset
   have h0:4*n<b.length:=by omega
   have h1:4*n+1<b.length:=by omega
   have h2:4*n+2<b.length:=by omega
   have h3:4*n+3<b.length:=by omega
   clear hbw hset HB;go_upto_region 5 with(fail);have hS:Mod (fun k=>k=b5) wr wr.drew:=(Mod.refl _ _).drew
   refine zZ [3,3,3,3,3,0,3,3,3,3,3,3,3,0,3,3,3,3,3,3,3,3,0,3,3,3,3,3,3,3,3,0,3,3,3,1] [] (fun w'=>Mod (fun k=>k=b5) wr w') hS ?_
   simp only[qB];refine yT _ _ _ _ 4 (n:Int) ((4*n:Nat):Int) rfl rfl rfl rfl (by omega) (by omega) (by omega) ?_;simp only[qC];refine zC 53 1 h0 ?_
   simp only[qC];refine qE 5 (fun w' hS=>hS.cell hbne (HBW.out (4*n) (by omega))) ?_;simp only[qC]
   refine qM rfl (fun w'=>yS _ _ _ _ rfl rfl (by kernel_rfl) underlying301) ?_;simp only[qC]
   refine uZ _ _ _ _ _ .u64 24 rfl rfl rfl rfl (by omega) ?_;simp only[qB]
   refine yT _ _ _ _ 4 (n:Int) ((4*n:Nat):Int) rfl rfl rfl rfl (by omega) (by omega) (by omega) ?_;simp only[qC];refine jH ((4*n+1:Nat):Int) ?_
   simp only[qC];refine zC 53 1 h1 ?_;simp only[qC];refine qE 5 (fun w' hS=>hS.cell hbne (HBW.out (4*n+1) (by omega))) ?_;simp only[qC]
   refine qM rfl (fun w'=>yS _ _ _ _ rfl rfl (by kernel_rfl) underlying301) ?_;simp only[qC]
   refine uZ _ _ _ _ _ .u64 16 rfl rfl rfl rfl (by omega) ?_;simp only[qC];refine pY _ _ _ _ _ _ rfl rfl rfl rfl ?_;simp only[qB]
   refine yT _ _ _ _ 4 (n:Int) ((4*n:Nat):Int) rfl rfl rfl rfl (by omega) (by omega) (by omega) ?_;simp only[qC];refine jH ((4*n+2:Nat):Int) ?_
   simp only[qC];refine zC 53 1 h2 ?_;simp only[qC];refine qE 5 (fun w' hS=>hS.cell hbne (HBW.out (4*n+2) (by omega))) ?_;simp only[qC]
   refine qM rfl (fun w'=>yS _ _ _ _ rfl rfl (by kernel_rfl) underlying301) ?_;simp only[qC]
   refine uZ _ _ _ _ _ .u64 8 rfl rfl rfl rfl (by omega) ?_;simp only[qC];refine pY _ _ _ _ _ _ rfl rfl rfl rfl ?_;simp only[qB]
   refine yT _ _ _ _ 4 (n:Int) ((4*n:Nat):Int) rfl rfl rfl rfl (by omega) (by omega) (by omega) ?_;simp only[qC];refine jH ((4*n+3:Nat):Int) ?_
   simp only[qC];refine zC 53 1 h3 ?_;simp only[qC];refine qE 5 (fun w' hS=>hS.cell hbne (HBW.out (4*n+3) (by omega))) ?_;simp only[qC]
   refine qM rfl (fun w'=>yS _ _ _ _ rfl rfl (by kernel_rfl) underlying301) ?_;simp only[qC];refine pY _ _ _ _ _ _ rfl rfl rfl rfl ?_
   simp only[qC];refine zO 340 1 hlt ?_;simp only[qC];refine qH rfl (fun K hK=>?_)
   refine zR 301 (n*1) (qX (wordAt b n)) (show wr.drew.heap[b5]?=_ from hrow) (fun w2' hB2' hm2'=>?_) (hoff:=by rw[hsz];omega);rw[Nat.mul_one,HSET.out]at hB2'
   replace hS:=hS.trans hm2' (fun _ _ h=>h);refine hK _ _ hS ?_;clear hK K;simp only[qB];have hM2:Mod (fun k=>k=b5) w3 w2':=hM.trans hS (fun _ _ h=>h)
   clear hM hS hm2' hrow;go_wp2
   go_roundw
   case rel=>exact⟨n+1,by omega,by omega,by go_num,hB2',hM2⟩
   case measure=>simp[intOf];omega
  ·have hz:¬(n:Int)<16:=by omega
   obtain rfl:n=16:=by omega
   clear HB hlt16 hz hn;go_wp2
   go_loopw [7] (SprRel b 16 64 b5 w3) (fun i _=>64-(intOf i).toNat)
   case atStart=>exact⟨16,by omega,by omega,rfl,hrow,hM⟩
   case round=>
    rename iN=>wq
    clear hrow hM;obtain⟨n,hlo,hn,rfl,hrow,hM⟩:=hrel
    by_cases hlt:n<64
    ·have hz:(n:Int)<64:=by omega
     have hsz:=qF (cL b n);rw[rowW_len b hn]at hsz;have hset:=rowW_set b hlt;rw[if_neg (by omega)]at hset;have HSET:=O hset
     have hwd:∀i,i<n->(qI (cL b n))[i]?=some (qX ((xW b n).getD i 0)):=fun i hi=>rowW_at b hn hi;have HW:=O hwd
     have hk15:n-15<64:=by omega
     have hk2:n-2<64:=by omega
     have hk16:n-16<64:=by omega
     have hk7:n-7<64:=by omega
     clear hwd hset;go_upto_region 9 with(fail);have hS:Mod qJ wq wq.drew:=(Mod.refl _ _).drew
     refine cH [(0,3),(1,3),(2,3),(3,0),(5,3),(6,3),(7,3),(8,0),(11,3),(12,3),(13,3),(14,0),(15,3),(4,1),(9,1),(10,3),(16,3),(17,3)] [] (fun w'=>Mod qJ wq w') hS ?_
     simp only[qB];refine vZ ((n-15:Nat):Int) ?_;simp only[qC];refine zO 340 1 hk15 ?_;simp only[qC]
     refine qE (b:=b5) (off:=(n-15)*1) 301 (fun w' hS=>by rw[cell_of_row _ _ _ _ _ _ (hS.obj id hrow),Nat.mul_one];exact HW.out (n-15) (by omega)) ?_
     simp only[qB];refine vZ ((n-15:Nat):Int) ?_;simp only[qC];refine zO 340 1 hk15 ?_;simp only[qC]
     refine qE (b:=b5) (off:=(n-15)*1) 301 (fun w' hS=>by rw[cell_of_row _ _ _ _ _ _ (hS.obj id hrow),Nat.mul_one];exact HW.out (n-15) (by omega)) ?_
     simp only[qB];refine vZ ((n-15:Nat):Int) ?_;simp only[qC];refine zO 340 1 hk15 ?_;simp only[qC]
     refine qE (b:=b5) (off:=(n-15)*1) 301 (fun w' hS=>by rw[cell_of_row _ _ _ _ _ _ (hS.obj id hrow),Nat.mul_one];exact HW.out (n-15) (by omega)) ?_
     simp only[qC];refine uY _ _ _ _ _ .u64 3 rfl rfl rfl rfl (by omega) ?_;simp only[qC];refine qH rfl (fun K hK=>?_)
     refine kW (xM 237 [.tmp 62,.const (.int .i64 7)] _ rfl _ func237 rfl (by kernel_rfl) [qX ((xW b n).getD (n-15) 0),.int .i64 7] rfl _) (kP ((xW b n).getD (n-15) 0) 7 (by omega) _) (fun wc1 hc1=>?_)
     have hS1:=hS.trans0 hc1;refine hK _ _ hS1 ?_;clear hK K;try simp only[qC]
     refine qH rfl (fun K hK=>?_)
     refine kW (xM 237 [.tmp 67,.const (.int .i64 18)] _ rfl _ func237 rfl (by kernel_rfl) [qX ((xW b n).getD (n-15) 0),.int .i64 18] rfl _) (kP ((xW b n).getD (n-15) 0) 18 (by omega) _) (fun wc2 hc2=>?_)
     have hS2:=hS1.trans0 hc2;refine hK _ _ hS2 ?_;clear hK K;try simp only[qC]
     refine xQ _ _ _ _ _ _ rfl rfl rfl rfl ?_;simp only[qC];refine xQ _ _ _ _ _ _ rfl rfl rfl rfl ?_;simp only[qB]
     replace hM:=hM.trans hS2 (fun _ _ h=>h.elim);replace hrow:=hS2.obj id hrow;clear hS hS1 hS2 hc1 hc2;generalize wc2=wy at*;go_upto_region 10 with(fail)
     have hS:Mod qJ wy wy.drew:=(Mod.refl _ _).drew
     refine cH [(0,3),(1,3),(2,3),(3,0),(5,3),(6,3),(7,3),(8,0),(11,3),(12,3),(13,3),(14,0),(15,3),(4,1),(9,1),(10,3),(16,3),(17,3)] [] (fun w'=>Mod qJ wy w') hS ?_
     simp only[qB];refine vZ ((n-2:Nat):Int) ?_;simp only[qC];refine zO 340 1 hk2 ?_;simp only[qC]
     refine qE (b:=b5) (off:=(n-2)*1) 301 (fun w' hS=>by rw[cell_of_row _ _ _ _ _ _ (hS.obj id hrow),Nat.mul_one];exact HW.out (n-2) (by omega)) ?_
     simp only[qB];refine vZ ((n-2:Nat):Int) ?_;simp only[qC];refine zO 340 1 hk2 ?_;simp only[qC]
     refine qE (b:=b5) (off:=(n-2)*1) 301 (fun w' hS=>by rw[cell_of_row _ _ _ _ _ _ (hS.obj id hrow),Nat.mul_one];exact HW.out (n-2) (by omega)) ?_
     simp only[qB];refine vZ ((n-2:Nat):Int) ?_;simp only[qC];refine zO 340 1 hk2 ?_;simp only[qC]
     refine qE (b:=b5) (off:=(n-2)*1) 301 (fun w' hS=>by rw[cell_of_row _ _ _ _ _ _ (hS.obj id hrow),Nat.mul_one];exact HW.out (n-2) (by omega)) ?_
     simp only[qC];refine uY _ _ _ _ _ .u64 10 rfl rfl rfl rfl (by omega) ?_;simp only[qC];refine qH rfl (fun K hK=>?_)
     refine kW (xM 237 [.tmp 79,.const (.int .i64 17)] _ rfl _ func237 rfl (by kernel_rfl) [qX ((xW b n).getD (n-2) 0),.int .i64 17] rfl _) (kP ((xW b n).getD (n-2) 0) 17 (by omega) _) (fun wc1 hc1=>?_)
     have hS1:=hS.trans0 hc1;refine hK _ _ hS1 ?_;clear hK K;try simp only[qC]
     refine qH rfl (fun K hK=>?_)
     refine kW (xM 237 [.tmp 84,.const (.int .i64 19)] _ rfl _ func237 rfl (by kernel_rfl) [qX ((xW b n).getD (n-2) 0),.int .i64 19] rfl _) (kP ((xW b n).getD (n-2) 0) 19 (by omega) _) (fun wc2 hc2=>?_)
     have hS2:=hS1.trans0 hc2;refine hK _ _ hS2 ?_;clear hK K;try simp only[qC]
     refine xQ _ _ _ _ _ _ rfl rfl rfl rfl ?_;simp only[qC];refine xQ _ _ _ _ _ _ rfl rfl rfl rfl ?_;simp only[qB]
     replace hM:=hM.trans hS2 (fun _ _ h=>h.elim);replace hrow:=hS2.obj id hrow;clear hS hS1 hS2 hc1 hc2;generalize wc2=wz at*;go_upto_region 11 with(fail)
     have hS:Mod qJ wz wz.drew:=(Mod.refl _ _).drew;refine zZ [3,3,3,3,0,3,3,3,3,3,0,3,3,3,3,2] [15] (fun w'=>Mod qJ wz w') hS ?_;simp only[qB]
     refine vZ ((n-16:Nat):Int) ?_;simp only[qC];refine zO 340 1 hk16 ?_;simp only[qC]
     refine qE (b:=b5) (off:=(n-16)*1) 301 (fun w' hS=>by rw[cell_of_row _ _ _ _ _ _ (hS.obj id hrow),Nat.mul_one];exact HW.out (n-16) (by omega)) ?_
     simp only[qB];refine xR _ _ _ _ _ _ rfl rfl rfl rfl ?_;simp only[qB];refine vZ ((n-7:Nat):Int) ?_;simp only[qC];refine zO 340 1 hk7 ?_
     simp only[qC]
     refine qE (b:=b5) (off:=(n-7)*1) 301 (fun w' hS=>by rw[cell_of_row _ _ _ _ _ _ (hS.obj id hrow),Nat.mul_one];exact HW.out (n-7) (by omega)) ?_
     simp only[qC];refine xR _ _ _ _ _ _ rfl rfl rfl rfl ?_;simp only[qB];refine xR _ _ _ _ _ _ rfl rfl rfl rfl ?_;simp only[qC];refine zO 340 1 hlt ?_
     simp only[qC];refine zP rfl (fun K hK=>?_)
     refine zR 301 (n*1) (qX (wordNext (xW b n) n)) (show wz.drew.heap[b5]?=_ from hrow) (fun wn hBn hmn=>?_) (hoff:=by rw[hsz];omega)
     rw[Nat.mul_one,HSET.out]at hBn;refine hK _ _ ?_;clear hK K;simp only[qB]
     have hMn:Mod (fun k=>k=b5) w3 wn:=(hM.trans hS (fun _ _ h=>h.elim)).trans hmn (fun _ _ h=>h);clear hM hS hmn hrow;go_wp2
     go_roundw
     case rel=>exact⟨n+1,by omega,by omega,by go_num,hBn,hMn⟩
     case measure=>simp[intOf];omega
    ·have hz:¬(n:Int)<64:=by omega
     obtain rfl:n=64:=by omega
     have e64:cL b 64=xW b 64:=by simp[cL]
     rw[e64]at hrow;obtain⟨sp,hsp⟩:∃sp,xW b 64=sp:=⟨_,rfl⟩;have hspl:sp.length=64:=by rw[<-hsp];exact pA b 64
     rw[hsp]at hrow;have HSP:=O hsp;replace hB2:=hM.objB (by omega) hB2;replace hB4:=hM.objB (by omega) hB4;have hMq:Mod qJ w wq:=hM3.transB hM (by omega)
     have hq:=hM.size;clear hsp e64 hz hn hlo hM;go_upto_region 12 with(fail);refine qL [1,1,1] ?_;simp only[qB]
     refine qY 302 (CellsAt.whole hB2) 8 (by rw[qF];rfl) ?_;try simp only[qC]
     refine qK (zB w8Z (fun w5 hC10 hm5 hs5=>?_));try simp only[qC]
     refine qK (qT 302 (qI s.list) (xV _) 8 (by rw[qF];rfl) hC10 (fun w6 hD10 hm6=>?_) (hoff:=by rw[qF,qF];simp[W8.list]))
     simp only[qB];have hmq:Mod qJ wq w6:=hm5.transB hm6 (Nat.le_refl _);have hq6:=hm6.size;replace hB2:=hmq.obj id hB2;replace hB4:=hmq.obj id hB4
     replace hrow:=hmq.obj id hrow;replace hMq:=hMq.trans0 hmq;clear hm5 hm6 hmq hC10;go_upto_region 13 with(fail);refine qL [1,1,1] ?_;simp only[qB]
     refine qK (kW (xM 238 [] _ rfl _ func238 rfl (by kernel_rfl) [] rfl _) (refKeys_any _) (fun w7 hm7=>?_));try simp only[qC]
     refine qK (zB w64Z (fun w8 hC11 hm8 hs8=>?_));try simp only[qC]
     refine qK (qT 340 (qI shaKeys) (xV _) 64 (by rw[qF];rfl) hC11 (fun w9 hD11 hm9=>?_) (hoff:=by rw[qF,qF];simp[shaKeys]))
     simp only[qB];have hq7:=hm7.size;have hmq:Mod qJ w6 w9:=(hm7.trans0 hm8).transB hm9 hm7.size;replace hB2:=hmq.obj id hB2;replace hB4:=hmq.obj id hB4
     replace hrow:=hmq.obj id hrow;replace hD10:=hmq.obj id hD10;replace hMq:=hMq.trans0 hmq;clear hm7 hm8 hm9 hmq hC11;generalize wq.heap.size=b10 at*
     generalize w7.heap.size=b11 at*;have hL10:w.heap.size<=b10:=by omega
     go_wp2
     go_loopw [12] (RndRel w b2 b4 b10 b11 b5 sp s) (fun i _=>64-(intOf i).toNat)
     case atStart=>exact⟨0,by omega,rfl,hD10,hD11,hrow,hB2,hB4,hMq⟩
     case round=>
      rename iN=>wu
      clear hB2 hB4 hrow hD10 hD11 hMq;obtain⟨n,hn,rfl,hC10,hC11,hSP,hB2,hB4,hM⟩:=hrel
      by_cases hlt:n<64
      ·have hz:(n:Int)<64:=by omega
       obtain⟨c,hc⟩:∃c,bR shaKeys sp n s=c:=⟨_,rfl⟩;have hnext:bR shaKeys sp (n+1) s=round c (shaKeys.getD n 0) (sp.getD n 0):=by rw[<-hc];rfl
       rw[hc]at hC10;have HC:=O hc;have HN:=O hnext;clear hc hnext;go_upto_region 17 with(fail);have hS:Mod qJ wu wu.drew:=(Mod.refl _ _).drew
       refine cH [(0,3),(1,0),(2,3),(3,0),(5,3),(6,0),(9,3),(10,0),(14,3),(15,0),(16,3),(17,0),(18,3),(19,3),(20,0),(21,3),(22,3),(23,0),(24,3),(25,3),(27,3),(28,3),(29,0),(31,3),(32,3),(33,0),(4,1),(7,1),(8,3),(11,1),(12,3),(13,3),(26,3),(30,3),(34,3),(35,3)] [] (fun w'=>Mod qJ wu w') hS ?_
       simp only[qB];refine zO 302 1 (i:=7) (by omega) ?_;simp only[qC];refine qE 301 (fun w' hS=>yF (hS.obj id hC10) 7 (by omega)) ?_;simp only[qC]
       refine zO 302 1 (i:=4) (by omega) ?_;simp only[qC];refine qE 301 (fun w' hS=>yF (hS.obj id hC10) 4 (by omega)) ?_;simp only[qC]
       refine zO 302 1 (i:=4) (by omega) ?_;simp only[qC];refine qE 301 (fun w' hS=>yF (hS.obj id hC10) 4 (by omega)) ?_;simp only[qC]
       refine zO 302 1 (i:=4) (by omega) ?_;simp only[qC];refine qE 301 (fun w' hS=>yF (hS.obj id hC10) 4 (by omega)) ?_;simp only[qC]
       refine zO 302 1 (i:=4) (by omega) ?_;simp only[qC];refine qE 301 (fun w' hS=>yF (hS.obj id hC10) 4 (by omega)) ?_;simp only[qC]
       refine zO 302 1 (i:=5) (by omega) ?_;simp only[qC];refine qE 301 (fun w' hS=>yF (hS.obj id hC10) 5 (by omega)) ?_;simp only[qC]
       refine vP _ _ _ _ _ _ rfl rfl rfl rfl ?_;simp only[qC];refine zO 302 1 (i:=4) (by omega) ?_;simp only[qC]
       refine qE 301 (fun w' hS=>yF (hS.obj id hC10) 4 (by omega)) ?_;simp only[qC];refine wpPi_not32 _ _ _ rfl rfl rfl ?_;simp only[qC]
       refine zO 302 1 (i:=6) (by omega) ?_;simp only[qC];refine qE 301 (fun w' hS=>yF (hS.obj id hC10) 6 (by omega)) ?_;simp only[qC]
       refine vP _ _ _ _ _ _ rfl rfl rfl rfl ?_;simp only[qC];refine xQ _ _ _ _ _ _ rfl rfl rfl rfl ?_;simp only[qB];refine zO 340 1 hlt ?_;simp only[qC]
       refine qE (v:=qX (shaKeys.getD n 0)) (b:=b11) (off:=n*1) 301 (fun w' hS=>by rw[Nat.mul_one];exact word64 (hS.obj id hC11) (by rfl) hlt) ?_
       simp only[qB];refine zO 340 1 hlt ?_;simp only[qC]
       refine qE (v:=qX (sp.getD n 0)) (b:=b5) (off:=n*1) 301 (fun w' hS=>by rw[Nat.mul_one];exact word64 (hS.obj id hSP) hspl hlt) ?_;simp only[qC]
       refine qH rfl (fun K hK=>?_)
       refine kW (xM 237 [.tmp 117,.const (.int .i64 6)] _ rfl _ func237 rfl (by kernel_rfl) [qX c.e,.int .i64 6] rfl _) (kP c.e 6 (by omega) _) (fun wc1 hc1=>?_)
       have hS1:=hS.trans0 hc1;refine hK _ _ hS1 ?_;clear hK K;try simp only[qC]
       refine qH rfl (fun K hK=>?_)
       refine kW (xM 237 [.tmp 120,.const (.int .i64 11)] _ rfl _ func237 rfl (by kernel_rfl) [qX c.e,.int .i64 11] rfl _) (kP c.e 11 (by omega) _) (fun wc2 hc2=>?_)
       have hS2:=hS1.trans0 hc2;refine hK _ _ hS2 ?_;clear hK K;try simp only[qC]
       refine xQ _ _ _ _ _ _ rfl rfl rfl rfl ?_;simp only[qC];refine qH rfl (fun K hK=>?_)
       refine kW (xM 237 [.tmp 124,.const (.int .i64 25)] _ rfl _ func237 rfl (by kernel_rfl) [qX c.e,.int .i64 25] rfl _) (kP c.e 25 (by omega) _) (fun wc3 hc3=>?_)
       have hS3:=hS2.trans0 hc3;refine hK _ _ hS3 ?_;clear hK K;try simp only[qC]
       refine xQ _ _ _ _ _ _ rfl rfl rfl rfl ?_;simp only[qC];refine xR _ _ _ _ _ _ rfl rfl rfl rfl ?_;simp only[qC]
       refine xR _ _ _ _ _ _ rfl rfl rfl rfl ?_;simp only[qC];refine xR _ _ _ _ _ _ rfl rfl rfl rfl ?_;simp only[qC]
       refine xR _ _ _ _ _ _ rfl rfl rfl rfl ?_;simp only[qB];replace hM:=hM.trans0 hS3;replace hC10:=hS3.obj id hC10;replace hC11:=hS3.obj id hC11
       replace hSP:=hS3.obj id hSP;replace hB2:=hS3.obj id hB2;replace hB4:=hS3.obj id hB4;clear hS hS1 hS2 hS3 hc1 hc2 hc3;generalize wc3=wv at*
       go_upto_region 18 with(fail);have hS:Mod qJ wv wv.drew:=(Mod.refl _ _).drew
       refine cH [(0,3),(1,0),(3,3),(4,0),(7,3),(8,0),(11,3),(12,0),(13,3),(14,0),(15,3),(16,3),(17,0),(18,3),(19,0),(20,3),(21,3),(22,3),(23,0),(24,3),(25,0),(26,3),(27,3),(2,1),(5,1),(6,3),(9,1),(10,3),(28,3),(29,3)] [] (fun w'=>Mod qJ wv w') hS ?_
       simp only[qB];refine zO 302 1 (i:=0) (by omega) ?_;simp only[qC];refine qE 301 (fun w' hS=>yF (hS.obj id hC10) 0 (by omega)) ?_;simp only[qC]
       refine zO 302 1 (i:=0) (by omega) ?_;simp only[qC];refine qE 301 (fun w' hS=>yF (hS.obj id hC10) 0 (by omega)) ?_;simp only[qC]
       refine zO 302 1 (i:=0) (by omega) ?_;simp only[qC];refine qE 301 (fun w' hS=>yF (hS.obj id hC10) 0 (by omega)) ?_;simp only[qC]
       refine zO 302 1 (i:=0) (by omega) ?_;simp only[qC];refine qE 301 (fun w' hS=>yF (hS.obj id hC10) 0 (by omega)) ?_;simp only[qC]
       refine zO 302 1 (i:=1) (by omega) ?_;simp only[qC];refine qE 301 (fun w' hS=>yF (hS.obj id hC10) 1 (by omega)) ?_;simp only[qC]
       refine vP _ _ _ _ _ _ rfl rfl rfl rfl ?_;simp only[qC];refine zO 302 1 (i:=0) (by omega) ?_;simp only[qC]
       refine qE 301 (fun w' hS=>yF (hS.obj id hC10) 0 (by omega)) ?_;simp only[qC];refine zO 302 1 (i:=2) (by omega) ?_;simp only[qC]
       refine qE 301 (fun w' hS=>yF (hS.obj id hC10) 2 (by omega)) ?_;simp only[qC];refine vP _ _ _ _ _ _ rfl rfl rfl rfl ?_;simp only[qC]
       refine xQ _ _ _ _ _ _ rfl rfl rfl rfl ?_;simp only[qC];refine zO 302 1 (i:=1) (by omega) ?_;simp only[qC]
       refine qE 301 (fun w' hS=>yF (hS.obj id hC10) 1 (by omega)) ?_;simp only[qC];refine zO 302 1 (i:=2) (by omega) ?_;simp only[qC]
       refine qE 301 (fun w' hS=>yF (hS.obj id hC10) 2 (by omega)) ?_;simp only[qC];refine vP _ _ _ _ _ _ rfl rfl rfl rfl ?_;simp only[qC]
       refine xQ _ _ _ _ _ _ rfl rfl rfl rfl ?_;simp only[qC];refine qH rfl (fun K hK=>?_)
       refine kW (xM 237 [.tmp 150,.const (.int .i64 2)] _ rfl _ func237 rfl (by kernel_rfl) [qX c.a,.int .i64 2] rfl _) (kP c.a 2 (by omega) _) (fun wc1 hc1=>?_)
       have hS1:=hS.trans0 hc1;refine hK _ _ hS1 ?_;clear hK K;try simp only[qC]
       refine qH rfl (fun K hK=>?_)
       refine kW (xM 237 [.tmp 153,.const (.int .i64 13)] _ rfl _ func237 rfl (by kernel_rfl) [qX c.a,.int .i64 13] rfl _) (kP c.a 13 (by omega) _) (fun wc2 hc2=>?_)
       have hS2:=hS1.trans0 hc2;refine hK _ _ hS2 ?_;clear hK K;try simp only[qC]
       refine xQ _ _ _ _ _ _ rfl rfl rfl rfl ?_;simp only[qC];refine qH rfl (fun K hK=>?_)
       refine kW (xM 237 [.tmp 157,.const (.int .i64 22)] _ rfl _ func237 rfl (by kernel_rfl) [qX c.a,.int .i64 22] rfl _) (kP c.a 22 (by omega) _) (fun wc3 hc3=>?_)
       have hS3:=hS2.trans0 hc3;refine hK _ _ hS3 ?_;clear hK K;try simp only[qC]
       refine xQ _ _ _ _ _ _ rfl rfl rfl rfl ?_;simp only[qC];refine xR _ _ _ _ _ _ rfl rfl rfl rfl ?_;simp only[qB];replace hM:=hM.trans0 hS3
       replace hC10:=hS3.obj id hC10;replace hC11:=hS3.obj id hC11;replace hSP:=hS3.obj id hSP;replace hB2:=hS3.obj id hB2;replace hB4:=hS3.obj id hB4
       clear hS hS1 hS2 hS3 hc1 hc2 hc3;generalize wc3=wx at*;go_upto_region 19 with(fail);refine qL [3,3,3,3,1,3,1,3,1,3,1,3,3,3,1,3,1,3,1,3,1] ?_
       simp only[qB];refine xR _ _ _ _ _ _ rfl rfl rfl rfl ?_;simp only[qC];refine zO 302 1 (i:=0) (by omega) ?_;simp only[qC]
       refine qG 301 (yF hC10 0 (by omega)) ?_;try simp only[qC]
       refine zO 302 1 (i:=1) (by omega) ?_;simp only[qC];refine qG 301 (yF hC10 1 (by omega)) ?_;try simp only[qC]
       refine zO 302 1 (i:=2) (by omega) ?_;simp only[qC];refine qG 301 (yF hC10 2 (by omega)) ?_;try simp only[qC]
       refine zO 302 1 (i:=3) (by omega) ?_;simp only[qC];refine qG 301 (yF hC10 3 (by omega)) ?_;simp only[qB];refine xR _ _ _ _ _ _ rfl rfl rfl rfl ?_
       simp only[qC];refine zO 302 1 (i:=4) (by omega) ?_;simp only[qC];refine qG 301 (yF hC10 4 (by omega)) ?_;try simp only[qC]
       refine zO 302 1 (i:=5) (by omega) ?_;simp only[qC];refine qG 301 (yF hC10 5 (by omega)) ?_;try simp only[qC]
       refine zO 302 1 (i:=6) (by omega) ?_;simp only[qC];refine qG 301 (yF hC10 6 (by omega)) ?_;try simp only[qC]
       refine qM (v:=.agg (qI (round c (shaKeys.getD n 0) (sp.getD n 0)).list)) rfl (fun w'=>zH 302 _ [(0,qX (roundX c (shaKeys.getD n 0) (sp.getD n 0)+roundY c)),(1,qX c.a),(2,qX c.b),(3,qX c.c),(4,qX (c.d+roundX c (shaKeys.getD n 0) (sp.getD n 0))),(5,qX c.e),(6,qX c.f),(7,qX c.g)] _ (by rfl) (by rfl) (built8w _ _ _ _ _ _ _ _)) ?_
       simp only[qC]
       refine qK (xU 302 0 (qI (round c (shaKeys.getD n 0) (sp.getD n 0)).list) (xV _) 8 (by rw[qF];rfl) hC10 (fun w5 hD4 hm5=>?_) (hoff:=by rw[qF,qF];simp[W8.list]))
       rw[yQ (by rw[qF,qF];simp[W8.list]),<-HN.out]at hD4;have hM5:=hM.transB hm5 hL10;replace hB2:=hm5.objB (by omega) hB2
       replace hB4:=hm5.objB (by omega) hB4;replace hC11:=hm5.objB (by omega) hC11;replace hSP:=hm5.objB (by omega) hSP;clear hC10 hm5;simp only[qB];go_wp2
       go_roundw
       case rel=>exact⟨n+1,by omega,by go_num,hD4,hC11,hSP,hB2,hB4,hM5⟩
       case measure=>simp[intOf];omega
      ·have hz:¬(n:Int)<64:=by omega
       obtain rfl:n=64:=by omega
       obtain⟨c,hc⟩:∃c,bR shaKeys sp 64 s=c:=⟨_,rfl⟩;rw[hc]at hC10
       have HR:Hid (sM s b=gA s c):=by
        show sM s b=gA s c
        unfold sM;rw[HSP.out,hc]
       have hlen:(gA s c).list.length=8:=rfl;have hcsz:(qI c.list).size=8:=by rw[qF];rfl
       clear hc hC11 hSP hz hn;go_wp2
       go_loopw [15] (Add2Rel w b2 b4 b10 s c) (fun i _=>8-(intOf i).toNat)
       case atStart=>exact⟨0,by omega,rfl,by rw[List.take_zero,putRow_none (by omega)];exact hC10,hB2,hB4,hM⟩
       case round=>
        rename iN=>wl
        clear hC10 hB2 hB4 hM;obtain⟨n,hn,rfl,hrow,hB2,hB4,hM⟩:=hrel
        by_cases hlt:n<8
        ·have hz:(n:Int)<8:=by omega
         have hw1:wl.cell? ⟨b10,n*1,none⟩=some (qX (c.list.getD n 0)):=by
          have h0:=words_row c n hlt;rw[Nat.zero_add]at h0
          rw[cell_of_row _ _ _ _ _ _ hrow,Nat.mul_one,aK (by rw[qF,List.length_take];omega),if_neg (by rw[qF,List.length_take];omega),h0]
         have hstep:=putRow_step (cur:=qI c.list) (oa:=0) (n:=n) (l:=(gA s c).list) (by omega) (by omega)
         have hpsz:(zE (qI c.list) 0 (qI ((gA s c).list.take n))).size=8:=by rw[kQ (by rw[qF,List.length_take];omega),hcsz]
         rw[addW_at s c n hlt,UInt32.add_comm,Nat.zero_add]at hstep;have HST:=O hstep;clear hstep;go_upto_region 23 with(fail)
         have hS:Mod qJ wl wl.drew:=(Mod.refl _ _).drew;refine zZ [3,3,3,0,3,3,0,3,3,2] [9] (fun w'=>Mod qJ wl w') hS ?_;simp only[qB]
         refine zO 302 1 hlt ?_;simp only[qC];refine qE 301 (fun w' hS=>hS.cell id hw1) ?_;simp only[qB];refine zO 302 1 hlt ?_;simp only[qC]
         refine qE (v:=qX (s.list.getD n 0)) (b:=b2) (off:=n*1) 301 (fun w' hS=>by rw[Nat.mul_one];exact yF (hS.obj id hB2) n hlt) ?_;simp only[qC]
         refine xR _ _ _ _ _ _ rfl rfl rfl rfl ?_;simp only[qC];refine zO 302 1 hlt ?_;simp only[qC];refine zP rfl (fun K hK=>?_)
         refine zR 301 (n*1) (qX (c.list.getD n 0+s.list.getD n 0)) (show wl.drew.heap[b10]?=_ from hrow) (fun wn hBn hmn=>?_) (hoff:=by rw[hpsz];omega)
         rw[Nat.mul_one,HST.out]at hBn;replace hB2:=hmn.objB (by omega) (show wl.drew.heap[b2]?=_ from hB2)
         replace hB4:=hmn.objB (by omega) (show wl.drew.heap[b4]?=_ from hB4);refine hK _ _ ?_;clear hK K;simp only[qB]
         have hMn:Mod qJ w wn:=(hM.trans0 hS).transB hmn (by omega);clear hM hS hmn hrow hw1;go_wp2
         go_roundw
         case rel=>exact⟨n+1,by omega,by go_num,hBn,hB2,hB4,hMn⟩
         case measure=>simp[intOf];omega
        ·have hz:¬(n:Int)<8:=by omega
         obtain rfl:n=8:=by omega
         have hfin:zE (qI c.list) 0 (qI ((gA s c).list.take 8))=qI (gA s c).list:=by
          rw[List.take_of_length_le (by omega)];exact yQ (by rw[hcsz,qF];rfl)
         rw[hfin]at hrow;clear hfin;go_upto_region 24 with(fail);refine qL [1,1] ?_;simp only[qB];refine qY 302 (CellsAt.whole hrow) 8 (by rw[qF];rfl) ?_
         try simp only[qC]
         refine qK (qT 302 (qI (gA s c).list) (xV _) 8 (by rw[qF];rfl) hB4 (fun wz hD4 hmz=>?_) (hoff:=by rw[qF,qF];simp[W8.list]))
         simp only[qB];have hMz:Mod qJ w wz:=hM.transB hmz (by omega);clear hmz hM hB4 hB2 hrow;go_wp2
         refine bodyPost_ret (results_cell_row rfl _ _ b4 _ _ _ _ (by rfl) hD4 underlying302 rfl (by rw[qF];kernel_rfl)) rfl ?_;exact⟨by rw[HR.out],hMz⟩
section
variable{P:Program}{ops:Array Oper}{Q:Exit->Act->iN->Prop}{S:iN->Prop}{o:Oper}{r:List (Oper×Nat)}{a:Act}{w:iN}
theorem rL(t e:TypeId)(x l h:Operand)(ad:Option Addr)(len cap i j n:Nat)(hw:Region.wanted o (yielded ops a.tmps)=true)(ho:o.op=.slice t x (some l) (some h) none)(hx:a.eval x=.slice ad len cap)(hl:a.eval l=.int .i64 (i:Int))(hh:a.eval h=.int .i64 (j:Int))
 (hu:P.underlying t=some (.slice e))(hs:(P.info? e).map (·.size)=some n)(hi:i<=j)(hj:j<=cap)(hk:zF P ops Q S r (a.put o.dst (sliced ad i j cap n)) w):zF P ops Q S ((o,3)::r) a w:=
 qM hw (fun w=>by
  have he:P.elem t=e:=by simp[Program.elem,hu]
  have hsz:(sizeOf e).run P w=.ok n w:=by
   cases hq:P.info? e with
   |none=>simp[hq]at hs
   |some i=>simp[hq]at hs;simp[sizeOf,typeInfo,hq,hs]
  unfold execOp;simp only[ho,hx,hl,hh,Option.map_none,Option.map_some]
  have h1:=run_sliceAt_slice (P:=P) (w:=w) t (.slice ad len cap) (some (.int .i64 (i:Int))) (some (.int .i64 (j:Int))) none (by rw[he];exact hu)
  have h2:=run_slice_lh (P:=P) (w:=w) t ad len cap (by rw[he];exact hu) .i64 .i64 (i:Int) (j:Int) (by omega) (by omega) (by omega)
  simp only[Sem.run_bind,h1,h2,he,hsz,Result.andThen_ok,Sem.run_pure,Int.toNat_natCast]) hk
end
theorem Sl.mid{α:Type}{own:Bool}{sz:Nat}{R:iL->α->Prop}{l:List α}(h:Sl own w G sz R (.slice ad l.length cap) l)(i j:Nat)(hij:i<j)(hj:j<=l.length):Sl own w G sz R (sliced ad i j cap sz) ((l.drop i).take (j-i)):=by
 obtain⟨a,c,e,h1,h2,h3⟩:=h
 cases e
 refine⟨_,_,by rw[List.length_take,List.length_drop,Nat.min_eq_left (by omega)];rfl,by rw[List.length_take,List.length_drop];omega,by omega,fun hne=>?_⟩
 obtain⟨b,off,rfl,hG,ho,hc⟩:=h3 (by rintro rfl;simp at hj;omega);refine⟨b,off+i*sz,by rw[if_neg (by omega)];simp[uV],hG,ho,fun k hk=>?_⟩
 rw[List.length_take,List.length_drop]at hk;obtain⟨cs,hs,hR,hcs⟩:=hc (i+k) (by omega);refine⟨cs,hs,by rw[List.getElem_take,List.getElem_drop];exact hR,?_⟩
 rw[show off+i*sz+k*sz=off+(i+k)*sz by rw[Nat.add_mul];omega];exact hcs
def BlkRel2(w0:iN)(b6:Nat)(Y:iK)(i:Value)(w:iN):Prop:=∃k:Nat,64*k<=Y.length/\i=.int .i64 ((64*k:Nat):Int)/\w.heap[b6]?=some (.cells (qI (yB k shaBegin Y).list) 302 (0,0))/\Mod (fun q=>q=b6) w0 w
def OutRel2(w0:iN)(b2 b4:Nat)(c:W8)(i:Value)(w:iN):Prop:=∃n:Nat,n<=32/\i=.int .i64 n/\w.heap[b2]?=some (.cells (pD c n) 24 (0,0))/\w.heap[b4]?=some (.cells (qI c.list) 302 (0,0))/\Mod (fun q=>q=b2) w0 w
theorem built8b:prog.built 302 [(0,.int .u32 1779033703),(1,.int .u32 3144134277),(2,.int .u32 1013904242),(3,.int .u32 2773480762),(4,.int .u32 1359893119),(5,.int .u32 2600822924),(6,.int .u32 528734635),(7,.int .u32 1541459225)]=some (qI shaBegin.list):=by kernel_rfl
def LenDRel(w0:iN)(X:iK)(n:Nat)(v i:Value)(w:iN):Prop:=∃k:Nat,k<=8/\i=.int .i64 (7-(k:Int))/\Bts w0.heap.size w v (X++(jY n).take k)/\Mod qJ w0 w
theorem refSum_any{own:Bool}(hb:Sl own w G 1 yA v m)(hl:m.length<=70368744177664):
 Calls prog 152 #[v] w (vO (.agg (qA (bC m))) w):=by
 have hbS:=O hb;obtain⟨adm,capm,rfl,hlem,hmxm,-⟩:=hb;go_enter func152,ntmps152;go_upto_region 0 with(fail);refine qL [1] ?_;simp only[qB]
 refine qK (zB eC (fun w1 hB1 hm1 hs1=>?_));simp only[qB];go_upto_region 1 with(fail);refine qL [1,3,1,1,1,3] ?_;simp only[qB]
 refine qK (zU 53 5 (by rfl) underlying53 (by kernel_rfl) (fun w2 hB2 hm2 hs2=>?_));simp only[qB]
 refine qK (kX _ _ (by rfl) w1.heap.size _ [] (by rfl) (yI _ hB2 (Nat.le_refl _)) _ m (by rfl) (hbS.out.keep0 (hm1.trans0 hm2)).bsrc (by simp;omega) hm2.size (fun v3 w3 ho3 hm3=>?_))
 rw[List.nil_append]at ho3;try simp only[qC]
 refine qK (kK 53 (qW 128) (.int .u8 0) 1 (by rfl) (fun w5 hB5 hm5 hs5=>?_));replace hB5:w5.heap[w3.heap.size]?=some (.cells #[qW 128] 5 (0,0)):=hB5
 try simp only[qC]
 refine kS rfl ?_;have hs3:=hm3.size
 refine kX _ _ (by rfl) w1.heap.size _ m (by rfl) (ho3.keep hm5 (fun _ _=>id)) (.slice (some ⟨w3.heap.size,0,none⟩) 1 1) [128] (by rfl) (uO (rT hB5)) (by simp;omega) (by omega) (fun v6 w6 ho6 hm6=>?_)
 simp only[qB]
 have hM3:Mod qJ w1 w3:=hm2.trans hm3 (fun k hk e=>by
  have e':some w1.heap.size=some k:=e
  cases e';omega)
 have hM6:Mod qJ w1 w6:=(hM3.trans0 hm5).trans hm6 (fun k hk e=>by have:=(ho3.lt e).1;omega);clear hM3 hm2 hm3 hm5 hm6 ho3 hB5 hs5 hs2 hB2;go_wp2
 go_loopw [3] (PadRel w1 m) (fun v _=>padM (lenV v))
 case atStart=>exact⟨0,Nat.zero_le _,by simpa[sB]using ho6,hM6⟩
 case round=>
  rename iN=>wr
  clear ho6 hM6;obtain⟨j,hj,hob,hM⟩:=hrel;have hoH:=O hob;have hjl:=cQ m j;have hpad:rJ m.length<64:=by unfold rJ;omega
  have hPS:=O (padJ_succ m j);obtain⟨ad,cap,rfl⟩:=hob.slice;clear hob;have hwr:=hM.size;go_upto_region 2 with(fail)
  by_cases h56:(m.length+1+j+8)%64=0
  ·skip
   refine qL [3,3,3,3,3] ?_;simp only[qB];refine xF ?_;simp only[qC];refine jH (((sB m j).length+8:Nat):Int) ?_;simp only[qC]
   refine tO _ _ _ _ (((sB m j).length+8:Nat):Int) 64 0 rfl rfl rfl rfl (by omega) (by omega) (by omega) ?_;simp only[qC]
   refine qN _ _ _ _ _ _ _ _ rfl rfl rfl rfl rfl false (by rfl) ?_;simp only[qB];have hj2:j=rJ m.length:=by unfold rJ at hj |-;omega
   subst hj2;clear hPS h56 hj;generalize hX:sB m (rJ m.length)=X at hoH hjl |-;have HX:=O hX
   have hcv:IntKind.u64.wrap (m.length:Int)=(m.length:Int):=by simp[IntKind.wrap,IntKind.bits,IntKind.signed];omega
   have HCV:=O hcv;clear hcv;go_upto_region 4 with(fail);refine qL [3,3,3,3,3] ?_;simp only[qB];refine xF ?_;simp only[qC]
   refine qM (v:=.int .u64 (m.length:Int)) rfl (fun w'=>aS 3 300 _ _ rfl rfl (by kernel_rfl) underlying300 _ HCV.out) ?_;simp only[qC]
   refine qM (v:=.int .u64 ((m.length*8:Nat):Int)) rfl (fun w'=>exec_mul64 _ _ _ _ m.length 8 (m.length*8) rfl rfl rfl rfl (by omega)) ?_;simp only[qB];go_wp2
   go_loopw [3,5] (LenDRel w1 X m.length) (fun _ i _=>(intOf i+1).toNat)
   case atStart=>exact⟨0,by omega,rfl,by simpa using hoH.out,hM⟩
   case round=>
    rename iN=>wq
    clear hoH hM hwr;obtain⟨k,hk,rfl,hob,hM⟩:=hrel;obtain⟨Y,hY⟩:∃Y,X++(jY m.length).take k=Y:=⟨_,rfl⟩;rw[hY]at hob
    have hYl:Y.length=X.length+k:=by rw[<-hY,List.length_append,List.length_take,rV];omega
    have hoH:=O hob;obtain⟨ad2,cap2,rfl⟩:=hob.slice;clear hob;have hwq:=hM.size
    by_cases hlt:k<8
    ·have hz:(0:Int)<=7-(k:Int):=by omega
     have hstep:Y++[UInt8.ofNat (m.length*8/2^(56-8*k))]=X++(jY m.length).take (k+1):=by rw[gL m.length k hlt,<-hY,List.append_assoc]
     have HSTEP:=O hstep;have HYY:=O hY;clear hstep hY;obtain⟨y,hy⟩:∃y,UInt8.ofNat (m.length*8/2^(56-8*k))=y:=⟨_,rfl⟩;have HY:=O hy;clear hy
     go_upto_region 8 with(fail);refine qL [3,3,3,3,3,3,1,1,3] ?_;simp only[qB]
     refine yT _ _ _ _ 8 (7-(k:Int)) ((56-8*k:Nat):Int) rfl rfl rfl rfl (by omega) (by omega) (by omega) ?_;simp only[qC]
     refine qM (v:=.int .u64 ((m.length*8/2^(56-8*k):Nat):Int)) rfl (fun w'=>exec_shr64 _ _ _ _ (m.length*8) .i64 (56-8*k) rfl rfl rfl (by omega) (by omega)) ?_
     simp only[qC];refine qM (v:=qW y) rfl (fun w'=>by rw[<-HY.out];exact dD _ _ _ _ rfl rfl (by kernel_rfl) underlying5) ?_;simp only[qC]
     refine qK (kK 53 (qW y) (.int .u8 0) 1 (by rfl) (fun w7 hB7 hm7 hs7=>?_));replace hB7:w7.heap[wq.heap.size]?=some (.cells #[qW y] 5 (0,0)):=hB7
     try simp only[qC]
     refine qK (kX _ _ (by rfl) w1.heap.size _ Y (by rfl) (hoH.out.keep hm7 (fun _ _=>id)) (.slice (some ⟨wq.heap.size,0,none⟩) 1 1) [y] (by rfl) (uO (rT hB7)) (by simp;omega) (by omega) (fun v8 w8 ho8 hm8=>?_))
     rw[<-HY.out,HSTEP.out]at ho8;have hM8:Mod qJ w1 w8:=(hM.trans0 hm7).trans hm8 (fun k hk e=>by have:=(hoH.out.lt e).1;omega);simp only[qB];clear hm8 hm7 hB7 hs7
     go_wp2
     go_roundw
     case rel=>exact⟨k+1,by omega,by congr 1;omega,ho8,hM8⟩
     case measure=>simp[intOf];omega
    ·have hz:¬(0:Int)<=7-(k:Int):=by omega
     obtain rfl:k=8:=by omega
     have hYX:padL m=Y:=by
      rw[<-hY,<-HX.out,List.take_of_length_le (by rw[rV];omega)];rfl
     have hY64:Y.length%64=0:=by rw[<-hYX];exact(padL_len m).2
     have hYmax:Y.length<=140737488355328:=by omega
     have HYX:=O hYX;have hb1:w.heap.size<w1.heap.size:=hs1;clear hY hYX hz hk;go_upto_region 9 with(fail);refine qL [1,1,1] ?_;simp only[qB]
     refine cF rfl (zH 302 _ _ (qI shaBegin.list) (by rfl) (by rfl) built8b) trivial ?_;try simp only[qC]
     refine qK (zB w8Z (fun w7 hC6 hm7 hs7=>?_));try simp only[qC]
     refine qK (qT 302 (qI shaBegin.list) (xV _) 8 (by rw[qF];rfl) hC6 (fun w8 hD6 hm8=>?_) (hoff:=by rw[qF,qF];simp[W8.list]))
     simp only[qB];have hmq:Mod qJ wq w8:=hm7.transB hm8 (Nat.le_refl _)
     have hsl:Sl true w8 (fun k=>k<wq.heap.size) 1 yA (.slice ad2 Y.length cap2) Y:=((hoH.out.sl).mono (G':=fun k=>k<wq.heap.size) (fun k hk=>hk.2.1) (fun _ _ h=>h)).keep0 hmq
     have HSL:=O hsl
     have hcap2:Y.length<=cap2:=by
      obtain⟨a',c',e,h,-⟩:=hsl;cases e;exact h
     have hM8:Mod qJ w1 w8:=hM.trans0 hmq;clear hm7 hm8 hmq hoH hM hC6 hsl;generalize hb6:wq.heap.size=b6 at*;go_wp2
     go_loopw [7] (BlkRel2 w8 b6 Y) (fun i _=>Y.length-(intOf i).toNat)
     case atStart=>exact⟨0,by omega,rfl,hD6,Mod.refl _ _⟩
     case round=>
      rename iN=>wv
      clear hD6;obtain⟨k,hk,rfl,hrow6,hM⟩:=hrel
      by_cases hz:((64*k:Nat):Int)<(Y.length:Int)
      ·have hlt:64*k+64<=Y.length:=by omega
       have hslv:=HSL.out.keepB hM (fun k hk=>by have hk':k<b6:=hk;omega);go_upto_region 13 with(fail);have hS:Mod qJ wv wv.drew:=(Mod.refl _ _).drew
       refine zZ [0,3,3,3,3,3,1,2] [7] (fun w'=>Mod qJ wv w') hS ?_;simp only[qB]
       refine zJ 302 (fun w' hS=>CellsAt.whole (hS.obj id hrow6)) 8 (by rw[qF];rfl) ?_;simp only[qB];refine jH ((64*k+64:Nat):Int) ?_
       simp only[qC];refine rL 53 5 _ _ _ _ _ _ (64*k) (64*k+64) 1 rfl rfl rfl rfl rfl underlying53 (by kernel_rfl) (by omega) (by omega) ?_;simp only[qC]
       refine qH rfl (fun K hK=>?_)
       refine kW (xM 210 [.tmp 46,.tmp 51] _ rfl _ func210 rfl (by kernel_rfl) [.agg (qI (yB k shaBegin Y).list),sliced ad2 (64*k) (64*k+64) cap2 1] rfl _) (refBlock_any ((hslv.keep0 hS).mid (64*k) (64*k+64) (by omega) hlt) (by rw[List.length_take,List.length_drop];omega)) (fun w9 hm9=>?_)
       have hS9:=hS.trans0 hm9;refine hK _ _ hS9 ?_;clear hK K;try simp only[qC]
       refine zP rfl (fun K hK=>?_)
       refine qT 302 (qI (sM (yB k shaBegin Y) ((Y.drop (64*k)).take (64*k+64-64*k))).list) (xV _) 8 (by rw[qF];rfl) (hS9.obj id hrow6) (fun wa hBa hma=>?_) (hoff:=by rw[qF,qF];simp[W8.list])
       refine hK _ _ ?_;clear hK K;simp only[qB];have hMa:Mod (fun q=>q=b6) w8 wa:=(hM.trans hS9 (fun _ _ h=>h.elim)).trans hma (fun _ _ h=>h)
       have hblk:sM (yB k shaBegin Y) ((Y.drop (64*k)).take (64*k+64-64*k))=yB (k+1) shaBegin Y:=by
        rw[sY,Nat.add_sub_cancel_left];rfl
       rw[hblk]at hBa;clear hma hS9 hm9 hM hS hrow6 hblk hslv;go_wp2
       go_roundw
       case rel=>exact⟨k+1,by omega,by congr 1<;>omega,hBa,hMa⟩
       case measure=>simp[intOf];omega
      ·have hkk:Y.length/64=k:=by omega
       obtain⟨c,hc⟩:∃c,yB k shaBegin Y=c:=⟨_,rfl⟩;rw[hc]at hrow6
       have HSH:Hid (bC m=iA c):=by
        show bC m=iA c
        unfold bC;rw[HYX.out,hkk,hc]
       have hMv:Mod qJ w1 wv:=hM8.transB hM (by omega);replace hB1:=hMv.obj id hB1;have hMw:Mod qJ w wv:=hm1.trans0 hMv;have hv:=hMv.size
       have hb6v:b6<wv.heap.size:=by
        rcases Nat.lt_or_ge b6 wv.heap.size with h|h
        ·exact h
        ·rw[Array.getElem?_eq_none h]at hrow6;cases hrow6
       clear hc hkk hk hY64 hM;go_upto_region 14 with(fail);refine qL [1] ?_;simp only[qB];refine qK (zB eC (fun w9 hB8 hm9 hs9=>?_));simp only[qB]
       replace hB1:=hm9.obj id hB1;replace hrow6:=hm9.obj id hrow6;replace hMw:=hMw.trans0 hm9
       have hr8:w9.heap[wv.heap.size]?=some (.cells (pD c 0) 24 (0,0)):=by
        have e:pD c 0=qA (List.replicate 32 0):=by simp[pD]
        rw[e];exact hB8
       clear hB8 hm9;generalize hb8:wv.heap.size=b8 at*;go_wp2
       go_loopw [9] (OutRel2 w9 b8 b6 c) (fun i _=>32-(intOf i).toNat)
       case atStart=>exact⟨0,by omega,rfl,hr8,hrow6,Mod.refl _ _⟩
       case round=>
        rename iN=>wu
        clear hr8 hrow6;obtain⟨i,hi,rfl,hr8,hrow6,hMu⟩:=hrel;have hosz:=eW c i hi
        by_cases hlt:i<32
        ·have hzi:(i:Int)<32:=by omega
         have HST:=O (outRow_step c i hlt);have hq4:i/4<8:=by omega
         have hw4:=yF hrow6 (i/4) hq4;obtain⟨x,hx⟩:∃x,c.list.getD (i/4) 0=x:=⟨_,rfl⟩;rw[hx]at hw4
         have hy:UInt8.ofNat (shrU x (24-8*(i%4))).toNat=tE c i:=by unfold tE;rw[hx]
         have HY:=O hy;clear hy hx;generalize tE c i=y at*;go_upto_region 18 with(fail);refine qL [3,3,3,3,1,3,3,3,3,3,3,3,1] ?_;simp only[qB]
         refine wpPi_quoR _ _ _ _ (i:Int) 4 ((i/4:Nat):Int) rfl rfl rfl rfl (by rw[Int.tdiv_eq_ediv_of_nonneg (by omega)];omega) (by omega) (by omega) (by omega) ?_
         simp only[qC];refine zO 302 1 hq4 ?_;simp only[qC];refine qG (v:=qX x) (b:=b6) (off:=i/4*1) 301 (by rw[Nat.mul_one];exact hw4) ?_
         simp only[qB];refine tO _ _ _ _ (i:Int) 4 ((i%4:Nat):Int) rfl rfl rfl rfl (by omega) (by omega) (by omega) ?_;simp only[qC]
         refine yT _ _ _ _ 8 ((i%4:Nat):Int) ((8*(i%4):Nat):Int) rfl rfl rfl rfl (by omega) (by omega) (by omega) ?_;simp only[qC]
         refine vZ ((24-8*(i%4):Nat):Int) ?_;simp only[qC];refine uY _ _ _ _ _ .i64 (24-8*(i%4)) rfl rfl rfl rfl (by omega) ?_;simp only[qC]
         refine qM (v:=qW y) rfl (fun w'=>by rw[<-HY.out];exact bM _ _ _ _ rfl rfl (by kernel_rfl) underlying5) ?_;simp only[qC]
         refine zO 24 1 hlt ?_;simp only[qC];refine qK (zR 5 (i*1) (qW y) hr8 (fun wb hBb hmb=>?_) (hoff:=by rw[hosz];omega))
         rw[Nat.mul_one,HST.out]at hBb;have hrowb:=hmb.objB (by omega) hrow6;have hMb:Mod (fun q=>q=b8) w9 wb:=hMu.trans hmb (fun _ _ h=>h);simp only[qB]
         clear hmb hr8 hrow6 hw4;go_wp2
         go_roundw
         case rel=>exact⟨i+1,by omega,by go_num,hBb,hrowb,hMb⟩
         case measure=>simp[intOf];omega
        ·have hzi:¬(i:Int)<32:=by omega
         obtain rfl:i=32:=by omega
         have hout:pD c 32=qA (iA c):=by simp[pD,List.take_of_length_le (Nat.le_of_eq (outL_len c))]
         rw[hout]at hr8 hosz;have hB1u:=hMu.objB (by omega) hB1;go_upto_region 19 with(fail);refine qL [1,1] ?_;simp only[qB]
         refine qY 24 (CellsAt.whole hr8) 32 hosz ?_;try simp only[qC]
         refine qK (qT 24 (qA (iA c)) (qQ _) 32 hosz hB1u (fun wb hBb hmb=>?_) (hoff:=by rw[hosz,qD];rfl));simp only[qB]
         have hMb:Mod qJ w wb:=(hMw.transB hMu (by omega)).transB hmb (Nat.le_refl _);clear hmb hr8 hrow6 hMu;go_wp2
         refine bodyPost_ret (results_cell_row rfl _ _ w.heap.size _ _ _ _ (by rfl) hBb underlying24 rfl (by rw[hosz];kernel_rfl)) rfl ?_;exact⟨by rw[HSH.out],hMb⟩
  ·obtain⟨q,hq⟩:∃q:Nat,((sB m j).length+8)%64=q:=⟨_,rfl⟩
   have hq56:q≠0:=by rw[<-hq,hjl];exact h56
   refine qL [3,3,3,3,3] ?_;simp only[qB];refine xF ?_;simp only[qC];refine jH (((sB m j).length+8:Nat):Int) ?_;simp only[qC]
   refine tO _ _ _ _ (((sB m j).length+8:Nat):Int) 64 (q:Int) rfl rfl rfl rfl (by omega) (by omega) (by omega) ?_;simp only[qC]
   refine qN _ _ _ _ _ _ _ _ rfl rfl rfl rfl rfl true (by simp[vW];omega) ?_;simp only[qB]
   have hjlt:j<rJ m.length:=by
    rcases Nat.lt_or_ge j (rJ m.length)with h|h
    ·exact h
    ·exfalso;unfold rJ at hj h hpad;omega
   go_upto_region 3 with(fail);refine qL [3,1,1,3] ?_;simp only[qB];refine qK (kK 53 (qW 0) (.int .u8 0) 1 (by rfl) (fun w7 hB7 hm7 hs7=>?_))
   replace hB7:w7.heap[wr.heap.size]?=some (.cells #[qW 0] 5 (0,0)):=hB7;try simp only[qC]
   refine qK (kX _ _ (by rfl) w1.heap.size _ (sB m j) (by rfl) (hoH.out.keep hm7 (fun _ _=>id)) (.slice (some ⟨wr.heap.size,0,none⟩) 1 1) [0] (by rfl) (uO (rT hB7)) (by simp;omega) (by omega) (fun v8 w8 ho8 hm8=>?_))
   rw[hPS.out]at ho8;have hM8:Mod qJ w1 w8:=(hM.trans0 hm7).trans hm8 (fun k hk e=>by have:=(hoH.out.lt e).1;omega);simp only[qB]
   have hME:Hid (padM (lenV v8)<padM (sB m j).length):=by
    show _<_
    rw[ho8.len,cQ,cQ];unfold padM;omega
   have HR:Hid (PadRel w1 m v8 w8):=⟨j+1,hjlt,ho8,hM8⟩;clear ho8 hM8 hm8 hm7 hB7;go_wp2
   go_roundw
   case rel=>exact HR.out
   case measure=>exact hME.out
section
variable{P:Program}{w:iN}{o:Oper}{a:Act}
theorem exec_shl64(t:TypeId)(x y:Operand)(yt:TypeId)(m:Nat)(k:IntKind)(n d:Nat)(ho:o.op=.binOp .shl t x y yt)(hx:a.eval x=.int .u64 (m:Int))(hy:a.eval y=.int k (n:Int))(hn:n<=63)(hd:m*2^n=d)(hv:d<18446744073709551616):(execOp a.eval o).run P w=.ok (.value (.int .u64 (d:Int))) w:=by
 subst hd
 have h1:IntKind.u64.wrap ((m:Int)*2^n)=((m*2^n:Nat):Int):=by
  have h2:((m:Int)*2^n)=((m*2^n:Nat):Int):=by simp
  rw[h2];generalize m*2^n=q at hv
  simp[IntKind.wrap,IntKind.bits,IntKind.signed];omega
 unfold execOp;simp only[ho,hx,hy]
 go_simp
 try exact h1
theorem exec_or64(t:TypeId)(x y:Operand)(yt:TypeId)(m n d:Nat)(ho:o.op=.binOp .or t x y yt)(hx:a.eval x=.int .u64 (m:Int))(hy:a.eval y=.int .u64 (n:Int))(hm:m<18446744073709551616)(hn:n<18446744073709551616)(hd:m ||| n=d):(execOp a.eval o).run P w=.ok (.value (.int .u64 (d:Int))) w:=by
 subst hd;have hb:=u64_or_nat m n hm hn;unfold execOp;simp only[ho,hx,hy]
 go_simp
theorem cZ(t u:TypeId)(x:Operand)(m:UInt8)(ho:o.op=.convert t u x)(hx:a.eval x=qW m)(ht:(P.underlying t).isSome=true)(hu:P.underlying u=some (.int .u64)):
 (execOp a.eval o).run P w=.ok (.value (.int .u64 ((m.toNat:Nat):Int))) w:=by
 unfold execOp;unfold qW at hx;simp only[ho,hx];have hk:P.intKind u=.u64:=by simp[Program.intKind,hu]
 have h1:=run_convert_int (P:=P) w t u .u8 (m.toNat:Int) ht (by rw[hk];exact hu);rw[hk]at h1
 have h2:IntKind.u64.wrap (m.toNat:Int)=(m.toNat:Int):=by
  have h9:=m.toNat_lt
  simp[IntKind.wrap,IntKind.bits,IntKind.signed]
  omega
 rw[h2]at h1;rw[Sem.run_bind,h1]
 rfl
theorem dB(t u:TypeId)(x:Operand)(m:UInt8)(ho:o.op=.convert t u x)(hx:a.eval x=qW m)(ht:(P.underlying t).isSome=true)(hu:P.underlying u=some (.int .i64)):
 (execOp a.eval o).run P w=.ok (.value (.int .i64 ((m.toNat:Nat):Int))) w:=by
 unfold execOp;unfold qW at hx;simp only[ho,hx];have hk:P.intKind u=.i64:=by simp[Program.intKind,hu]
 have h1:=run_convert_int (P:=P) w t u .u8 (m.toNat:Int) ht (by rw[hk];exact hu);rw[hk]at h1;have h9:=m.toNat_lt;rw[bE (by omega) (by omega)]at h1
 rw[Sem.run_bind,h1]
 rfl
theorem uQ(t u:TypeId)(x:Operand)(m:Nat)(ho:o.op=.convert t u x)(hx:a.eval x=.int .u64 (m:Int))(ht:(P.underlying t).isSome=true)(hu:P.underlying u=some (.int .i64))(hm:m<9223372036854775808):
 (execOp a.eval o).run P w=.ok (.value (.int .i64 (m:Int))) w:=by
 unfold execOp;simp only[ho,hx];have hk:P.intKind u=.i64:=by simp[Program.intKind,hu]
 have h1:=run_convert_int (P:=P) w t u .u64 (m:Int) ht (by rw[hk];exact hu);rw[hk,bE (by omega) (by omega)]at h1;rw[Sem.run_bind,h1]
 rfl
theorem exec_shrI(t:TypeId)(x y:Operand)(yt:TypeId)(m n:Nat)(ho:o.op=.binOp .shr t x y yt)(hx:a.eval x=.int .i64 (m:Int))(hy:a.eval y=.int .i64 (n:Int))(hn:n<=63)(hm:m<9223372036854775808):(execOp a.eval o).run P w=.ok (.value (.int .i64 ((m/2^n:Nat):Int))) w:=by
 have h0:m/2^n<=m:=Nat.div_le_self _ _;have h1:((m/2^n:Nat):Int)=(m:Int)/2^n:=by simp
 have h3:0<=((m/2^n:Nat):Int)/\((m/2^n:Nat):Int)<=9223372036854775807:=by
  generalize m/2^n=q at h0;omega
 have h2:=bE (m:=((m/2^n:Nat):Int)) (by omega) (by omega);rw[h1]at h2;rw[h1];unfold execOp;simp only[ho,hx,hy]
 go_simp
 all_goals (try exact h2)
theorem exec_max(t:TypeId)(x y:Operand)(m n d:Int)(ho:o.op=.call { callee:=.builtin .max,args:=#[x,y],argTypes:=#[t,t] })(hx:a.eval x=.int .i64 m)(hy:a.eval y=.int .i64 n)(hd:max m n=d):(execOp a.eval o).run P w=.ok (.value (.int .i64 d)) w:=by
 subst hd;have h:(if n>m then n else m)=max m n:=by omega
 unfold execOp
 simp[ho,hx,hy,resolve,invoke,builtin,run_max_int2,h]
end
theorem pow8(k:Nat):2^(8*k)=256^k:=by rw[Nat.pow_mul]
theorem be_or(n:Nat)(x:UInt8):n*2^8 ||| x.toNat=n*256+x.toNat:=by
 have h:=Nat.shiftLeft_add_eq_or_of_lt (b:=x.toNat) (i:=8) x.toNat_lt n;rw[Nat.shiftLeft_eq]at h;exact h.symm
def NSizeR(n:Nat)(i:Value)(w0 w:iN):Prop:=∃k:Nat,1<=k/\k<=8/\i=.int .i64 k/\szK n 1=szK n k/\w=w0
theorem wSize_any(n:Nat)(hn:n<9223372036854775808)(w:iN):Calls prog 282 #[.int .i64 n] w (pT (.int .i64 (bH n:Nat)) w):=by
 have hsz:=fun(w:iN)(o:Oper)(a:Act)=> @exec_shrI prog w o a
 by_cases h:n<192
 ·have hs:bH n=0:=if_pos h
  have hz:(n:Int)<192:=by omega
  rw[hs];go_enter func282,ntmps282;go_wp2;go_ret;exact⟨rfl,rfl⟩
 ·have hs:bH n=szK n 1:=if_neg h
  have hz:¬(n:Int)<192:=by omega
  rw[hs];obtain⟨r,hr⟩:∃r,szK n 1=r:=⟨_,rfl⟩;have HR:=O hr;rw[hr];clear hr hs h;go_enter func282,ntmps282;go_upto_region 3 with(fail);go_wp2
  go_loopw [3] (fun i wr=>NSizeR n i w wr) (fun i _=>8-(intOf i).toNat)
  case atStart=>exact⟨1,by omega,by omega,rfl,rfl,rfl⟩
  case round=>
   rename iN=>wr
   obtain⟨k,hk1,hk8,rfl,hsk,rfl⟩:=hrel;rw[HR.out]at hsk;have HSK:=O hsk;clear hsk
   by_cases hlt:k<8
   ·have hp:2^(8*k)=256^k:=pow8 k
    have hm8:(8:Int)*(k:Int)=((8*k:Nat):Int):=by omega
    by_cases hg:0<n/256^k
    ·go_upto_region 4 with(fail)
     refine qL [3,3,3,3,3,3,3,3,3] ?_;simp only[qB];refine qN _ _ _ _ _ _ _ _ rfl rfl rfl rfl rfl true (by simp[vW];omega) ?_;simp only[qB]
     refine yT _ _ _ _ 8 (k:Int) ((8*k:Nat):Int) rfl rfl rfl rfl hm8 (by omega) (by omega) ?_;simp only[qC]
     refine qM rfl (fun w'=>hsz w' _ _ _ _ _ _ n (8*k) rfl rfl rfl (by omega) hn) ?_;simp only[qC]
     refine qN _ _ _ _ _ _ _ _ rfl rfl rfl rfl rfl true (by simp only[vW,decide_eq_true_eq];rw[hp];exact Int.natCast_pos.2 hg) ?_;simp only[qB];go_wp2
     go_roundw
     case rel=>exact⟨k+1,by omega,by omega,by go_num,by rw[HR.out,<-szK_step ⟨hlt,hg⟩];exact HSK.out,rfl⟩
     case measure=>simp[intOf];omega
    ·have hz0:n/256^k=0:=Nat.eq_zero_of_not_pos hg
     go_upto_region 4 with(fail);refine qL [3,3,3,3,3,3,3,3,3] ?_;simp only[qB];refine qN _ _ _ _ _ _ _ _ rfl rfl rfl rfl rfl true (by simp[vW];omega) ?_
     simp only[qB];refine yT _ _ _ _ 8 (k:Int) ((8*k:Nat):Int) rfl rfl rfl rfl hm8 (by omega) (by omega) ?_;simp only[qC]
     refine qM rfl (fun w'=>hsz w' _ _ _ _ _ _ n (8*k) rfl rfl rfl (by omega) hn) ?_;simp only[qC]
     refine qN _ _ _ _ _ _ _ _ rfl rfl rfl rfl rfl false (by simp only[vW,decide_eq_false_iff_not];rw[hp,hz0];simp) ?_;simp only[qB];go_wp2;go_ret
     have e:r=k:=HSK.out.trans (sS (by omega));exact⟨by rw[e];rfl,rfl⟩
   ·go_upto_region 4 with(fail)
    refine qL [3,3,3,3,3,3,3,3,3] ?_;simp only[qB];refine qN _ _ _ _ _ _ _ _ rfl rfl rfl rfl rfl false (by simp[vW];omega) ?_;simp only[qB];go_wp2;go_ret
    have e:r=k:=HSK.out.trans (sS (by omega));exact⟨by rw[e];rfl,rfl⟩
theorem Sl.midLe{α:Type}{own:Bool}{sz:Nat}{R:iL->α->Prop}{l:List α}(h:Sl own w G sz R (.slice ad l.length cap) l)(i j:Nat)(hij:i<=j)(hj:j<=l.length):Sl own w G sz R (sliced ad i j cap sz) ((l.drop i).take (j-i)):=by
 obtain⟨a,c,e,h1,h2,h3⟩:=h
 cases e
 refine⟨_,_,by rw[List.length_take,List.length_drop,Nat.min_eq_left (by omega)];rfl,by rw[List.length_take,List.length_drop];omega,by omega,fun hne=>?_⟩
 have hlt:i<j:=by
  rcases Nat.lt_or_ge i j with h|h
  ·exact h
  ·rw[show j-i=0 by omega]at hne;simp at hne
 obtain⟨b,off,rfl,hG,ho,hc⟩:=h3 (by rintro rfl;simp at hj;omega);refine⟨b,off+i*sz,by rw[if_neg (by omega)];simp[uV],hG,ho,fun k hk=>?_⟩
 rw[List.length_take,List.length_drop]at hk;obtain⟨cs,hs,hR,hcs⟩:=hc (i+k) (by omega);refine⟨cs,hs,by rw[List.getElem_take,List.getElem_drop];exact hR,?_⟩
 rw[show off+i*sz+k*sz=off+(i+k)*sz by rw[Nat.add_mul];omega];exact hcs
theorem dM{l:iK}(h:i<l.length):be (l.take (i+1))=be (l.take i)*256+l[i].toNat:=by
 rw[List.take_succ_eq_append_getElem h,be_snoc]
theorem be_take_lt(l:iK)(i:Nat)(hi:i<=7):be (l.take i)<72057594037927936:=by
 have h:=be_lt (l.take i);have h2:(l.take i).length<=7:=by rw[List.length_take];omega
 have h3:256^(l.take i).length<=256^7:=Nat.pow_le_pow_right (by omega) h2;omega
def NumRel(w0:iN)(l:iK)(s i:Value)(w:iN):Prop:=∃k:Nat,k<=l.length/\i=.int .i64 k/\s=.int .u64 (be (l.take k):Nat)/\Mod qJ w0 w
section
variable{w:iN}{rb wb:Nat}{bv:Value}{b:iK}{a:Nat}{e p:Int}
def NumR(w:iN)(rb wb:Nat)(bv:Value)(b:iK)(n:Nat)(s:RS):iJ:=fun x w'=>x=.returned (.int .i64 n)/\RdS w w' rb wb bv b s
theorem RdI.of_drew(h:RdI w1 rb wb bv b a 0 p)(h1:Mod qJ w w1)(hm:Mod (fun k=>k=wb) w1 w2){er at_:Int}(he:er≠0)(hw:w2.heap[wb]?=some (.cells #[.int .i64 er,.int .i64 at_] 320 (0,0))):RdS w w2 rb wb bv b none:=RdS.pre h1 (h.fail hm he hw)
theorem eT(h:RdI w rb wb bv b a e p):Calls prog 240 #[iO rb] w (NumR w rb wb bv b (zM b (yW a e)).1 (zM b (yW a e)).2):=by
 have hn:=cO h;have H:=O h
 by_cases he:e=0
 ·subst he
  have hal:=h.al;have hln:=h.len;obtain⟨ad,cap,rfl,hcap,hat⟩:=Sl.at h.sl;obtain⟨n,s,hns⟩:∃n s,zM b (some a)=(n,s):=⟨_,_,rfl⟩
  have HE:Hid ((zM b (some a)).1=n):=O (by rw[hns]);have HE2:Hid ((zM b (some a)).2=s):=O (by rw[hns]);rw[sE,HE.out,HE2.out]
  have HNS:=O hns;clear hns h;have HM:Hid (Mod qJ w w):=O (Mod.refl _ _);go_enter func240,ntmps240
  go_upto_region 3 with(go_at_call 281;refine hn.mono ?_;rintro _ w1 ⟨rfl,hw⟩;obtain rfl:=hw.symm);have hS:Mod qJ w w.drew:=(Mod.refl _ _).drew
  rcases Nat.lt_or_ge a b.length with hlt|hge
  rotate_left
  · -- nothing is left
    have hz:(a:Int)>=(b.length:Nat):=by omega
    have hbn:b[a]?=none:=List.getElem?_eq_none hge;have hr0:zM b (some a)=(0,none):=by simp[zM,rdNum,hbn]
    replace HE:Hid (n=0):=O (by rw[<-HE.out,hr0]);replace HE2:Hid (s=none):=O (by rw[<-HE2.out,hr0]);clear hbn hr0
    refine zZ [3,3,3,0,3,3,3,0,3,3] [] (fun w'=>Mod qJ w w') hS ?_;simp only[qB];refine qE 3 (fun w' hS=>hS.cell id H.out.cell.2.2.1) ?_;simp only[qB]
    refine qE 53 (fun w' hS=>hS.cell id H.out.cell.2.1) ?_;simp only[qC];refine xF ?_;simp only[qC]
    refine qN _ _ _ _ _ _ _ _ rfl rfl rfl rfl rfl true (decide_eq_true (by omega)) ?_;simp only[qB];have H1:=O (H.out.keep0 hS)
    replace HM:Hid (Mod qJ w w.drew):=O hS;clear hS;generalize w.drew=w0 at*;go_upto_region 4 with(fail);have hS:Mod qJ w0 w0.drew:=(Mod.refl _ _).drew
    refine zZ [3,3,3,0,3,3,3,0,2] [8] (fun w'=>Mod qJ w0 w') hS ?_;simp only[qB];refine qE 318 (fun w' hS=>hS.cell id (H1.out.cell.1)) ?_;simp only[qB]
    refine qE 3 (fun w' hS=>hS.cell id (H1.out.cell.2.2.1)) ?_;simp only[qC];refine zP rfl (fun K hK=>?_)
    refine xE func254 (pX p 6 a (hS.obj id H1.out.wr)) ?_;rintro e w2 ⟨rfl,hm2,hB2⟩;refine⟨_,rfl,hK _ _ ?_⟩;clear hK K;simp only[qB]
    have HF:Hid (RdS w0 w2 rb wb _ b none):=O (RdI.of_drew (H1.out.keep0 hS) hS hm2 (by decide) hB2);clear hS hm2 hB2;go_wp2;go_ret
    exact⟨by rw[HE.out];rfl,by rw[HE2.out];exact RdS.pre HM.out HF.out⟩
  ·obtain⟨c,hc⟩:∃c,b[a]=c:=⟨_,rfl⟩
   have hbs:b[a]?=some c:=by rw[List.getElem?_eq_getElem hlt,hc]
   have hz:¬(a:Int)>=(b.length:Nat):=by omega
   obtain⟨k,hk⟩:∃k,c.toNat-191=k:=⟨_,rfl⟩;have hct:=c.toNat_lt
   have hrd:zM b (some a)=(match(if 199<c.toNat then none else if b.length-a-1<k then none else if k=0 then some (c.toNat,a+1)else if be ((b.drop (a+1)).take k)>=9223372036854775808\/bH (be ((b.drop (a+1)).take k))≠k then none else some (be ((b.drop (a+1)).take k),a+1+k):Option (Nat×Nat))with|none=>(0,none)|some q=>(q.1,some q.2)):=by
    simp only[zM,rdNum,hbs,hk]
    generalize (if 199<c.toNat then none else if b.length-a-1<k then none else if k=0 then some (c.toNat,a+1)else if be ((b.drop (a+1)).take k)>=9223372036854775808\/bH (be ((b.drop (a+1)).take k))≠k then none else some (be ((b.drop (a+1)).take k),a+1+k):Option (Nat×Nat))=q
    cases q<;>rfl
   obtain⟨bk,off,rfl,-,-,hcells⟩:=hat a hlt;obtain⟨cs,hcs,hcR,hcA⟩:=hcells a hlt;rw[hc]at hcR;obtain rfl:cs=#[qW c]:=hcR;have hcell:=CellsAt.one.1 hcA
   rw[Nat.mul_one]at hcell;have HRD:=O hrd;clear hrd hcells hat hcA hcs hbs;refine zZ [3,3,3,0,3,3,3,0,3,3] [] (fun w'=>Mod qJ w w') hS ?_;simp only[qB]
   refine qE 3 (fun w' hS=>hS.cell id H.out.cell.2.2.1) ?_;simp only[qB];refine qE 53 (fun w' hS=>hS.cell id H.out.cell.2.1) ?_;simp only[qC];refine xF ?_
   simp only[qC];refine qN _ _ _ _ _ _ _ _ rfl rfl rfl rfl rfl false (decide_eq_false (by omega)) ?_;simp only[qB];have hcell0:=hS.cell id hcell
   have H0:=O (H.out.keep0 hS);have HM0:Hid (Mod qJ w w.drew):=O hS;clear hS hcell HM H;generalize w.drew=w0 at*;go_upto_region 6 with(fail)
   have hS:Mod qJ w0 w0.drew:=(Mod.refl _ _).drew;refine zZ [3,3,3,0,3,3,3,0,3,0,3,3] [] (fun w'=>Mod qJ w0 w') hS ?_;simp only[qB]
   refine qE 53 (fun w' hS=>hS.cell id H0.out.cell.2.1) ?_;simp only[qB];refine qE 3 (fun w' hS=>hS.cell id H0.out.cell.2.2.1) ?_;simp only[qC]
   refine zC 53 1 hlt ?_;simp only[qC];refine qE (v:=qW c) (b:=bk) (off:=off+a*1) 5 (fun w' hS=>by rw[Nat.mul_one];exact hS.cell id hcell0) ?_
   simp only[qC];refine qM rfl (fun w'=>dB _ _ _ c rfl rfl (by kernel_rfl) underlying3) ?_;simp only[qB];have H1:=O (H0.out.keep0 hS)
   have HM1:Hid (Mod qJ w w0.drew):=O (HM0.out.trans0 hS);clear hS hcell0 H0 HM0;generalize w0.drew=w1 at*;go_upto_region 7 with(fail)
   have hkk:max ((c.toNat:Int)-191) 0=(k:Int):=by omega
   refine qL [3,3,1,3] ?_;simp only[qB];refine yC _ _ _ _ ((c.toNat:Nat):Int) 191 rfl rfl rfl rfl (by omega) (by omega) ?_;simp only[qC]
   refine cF rfl (exec_max _ _ _ ((c.toNat:Int)-191) 0 (k:Int) (by rfl) (by rfl) (by rfl) hkk) trivial ?_;simp only[qB];have HMM:=HM1
   by_cases h199:199<c.toNat
   · -- no number begins so
     have h199z:((c.toNat:Nat):Int)>199:=by omega
     have hr0:zM b (some a)=(0,none):=by rw[HRD.out,if_pos h199]
     replace HE:Hid (n=0):=O (by rw[<-HE.out,hr0]);replace HE2:Hid (s=none):=O (by rw[<-HE2.out,hr0]);replace HM:Hid (Mod qJ w w1):=HM1;clear hr0
     go_upto_region 9 with(fail);have hS:Mod qJ w1 w1.drew:=(Mod.refl _ _).drew;refine zZ [3,3,3,0,3,3,3,0,2] [8] (fun w'=>Mod qJ w1 w') hS ?_;simp only[qB]
     refine qE 318 (fun w' hS=>hS.cell id (H1.out.cell.1)) ?_;simp only[qB];refine qE 3 (fun w' hS=>hS.cell id (H1.out.cell.2.2.1)) ?_;simp only[qC]
     refine zP rfl (fun K hK=>?_);refine xE func254 (pX p 5 a (hS.obj id H1.out.wr)) ?_;rintro e w2 ⟨rfl,hm2,hB2⟩;refine⟨_,rfl,hK _ _ ?_⟩;clear hK K
     simp only[qB];have HF:Hid (RdS w1 w2 rb wb _ b none):=O (RdI.of_drew (H1.out.keep0 hS) hS hm2 (by decide) hB2);clear hS hm2 hB2;go_wp2;go_ret
     exact⟨by rw[HE.out];rfl,by rw[HE2.out];exact RdS.pre HM.out HF.out⟩
   ·have h199z:¬((c.toNat:Nat):Int)>199:=by omega
    have hr1:=HRD.out;rw[if_neg h199]at hr1;replace HRD:=O hr1;clear hr1;go_upto_region 11 with(fail);have hS:Mod qJ w1 w1.drew:=(Mod.refl _ _).drew
    by_cases hsh:b.length-a-1<k
    ·have hr0:zM b (some a)=(0,none):=by rw[HRD.out,if_pos hsh]
     replace HE:Hid (n=0):=O (by rw[<-HE.out,hr0]);replace HE2:Hid (s=none):=O (by rw[<-HE2.out,hr0]);clear hr0
     refine zZ [3,3,3,0,3,3,3,3,0,3,3,3,3,3] [] (fun w'=>Mod qJ w1 w') hS ?_;simp only[qB];refine qE 53 (fun w' hS=>hS.cell id H1.out.cell.2.1) ?_
     simp only[qC];refine xF ?_;simp only[qB];refine qE 3 (fun w' hS=>hS.cell id H1.out.cell.2.2.1) ?_;simp only[qC]
     refine yC _ _ _ _ ((b.length:Nat):Int) (a:Int) rfl rfl rfl rfl (by omega) (by omega) ?_;simp only[qC]
     refine yC _ _ _ _ ((b.length:Int)-(a:Int)) 1 rfl rfl rfl rfl (by omega) (by omega) ?_;simp only[qB]
     refine qN _ _ _ _ _ _ _ _ rfl rfl rfl rfl rfl true (decide_eq_true (by omega)) ?_;simp only[qB];have H2:=O (H1.out.keep0 hS)
     replace HM:Hid (Mod qJ w w1.drew):=O (HM1.out.trans0 hS);clear hS;generalize w1.drew=w2 at*;go_upto_region 12 with(fail)
     have hS:Mod qJ w2 w2.drew:=(Mod.refl _ _).drew;refine zZ [3,3,3,0,3,3,3,0,2] [8] (fun w'=>Mod qJ w2 w') hS ?_;simp only[qB]
     refine qE 318 (fun w' hS=>hS.cell id (H2.out.cell.1)) ?_;simp only[qB];refine qE 3 (fun w' hS=>hS.cell id (H2.out.cell.2.2.1)) ?_;simp only[qC]
     refine zP rfl (fun K hK=>?_);refine xE func254 (pX p 6 a (hS.obj id H2.out.wr)) ?_;rintro e w3 ⟨rfl,hm2,hB2⟩;refine⟨_,rfl,hK _ _ ?_⟩;clear hK K
     simp only[qB];have HF:Hid (RdS w2 w3 rb wb _ b none):=O (RdI.of_drew (H2.out.keep0 hS) hS hm2 (by decide) hB2);clear hS hm2 hB2;go_wp2;go_ret
     exact⟨by rw[HE.out];rfl,by rw[HE2.out];exact RdS.pre HM.out HF.out⟩
    ·have hr1:=HRD.out
     rw[if_neg hsh]at hr1;replace HRD:=O hr1;clear hr1;refine zZ [3,3,3,0,3,3,3,3,0,3,3,3,3,3] [] (fun w'=>Mod qJ w1 w') hS ?_;simp only[qB]
     refine qE 53 (fun w' hS=>hS.cell id H1.out.cell.2.1) ?_;simp only[qC];refine xF ?_;simp only[qB];refine qE 3 (fun w' hS=>hS.cell id H1.out.cell.2.2.1) ?_
     simp only[qC];refine yC _ _ _ _ ((b.length:Nat):Int) (a:Int) rfl rfl rfl rfl (by omega) (by omega) ?_;simp only[qC]
     refine yC _ _ _ _ ((b.length:Int)-(a:Int)) 1 rfl rfl rfl rfl (by omega) (by omega) ?_;simp only[qB]
     refine qN _ _ _ _ _ _ _ _ rfl rfl rfl rfl rfl false (decide_eq_false (by omega)) ?_;simp only[qB];have H2:=O (H1.out.keep0 hS)
     have HM2:Hid (Mod qJ w w1.drew):=O (HM1.out.trans0 hS);clear hS HM1 HMM H1;generalize w1.drew=w2 at*
     by_cases hk0:k=0
     · -- a number of one byte
       have hkz:(k:Int)=0:=by omega
       have hr0:zM b (some a)=(c.toNat,some (a+1)):=by rw[HRD.out,if_pos hk0]
       replace HE:Hid (n=c.toNat):=O (by rw[<-HE.out,hr0]);replace HE2:Hid (s=some (a+1)):=O (by rw[<-HE2.out,hr0]);clear hr0;have hbox:=H2.out.box
       have hca:=H2.out.cell.2.2.1;go_upto_region 15 with(fail);refine qL [3,3,3,1,3,3,3,1] ?_;simp only[qB];refine qG 3 hca ?_;try simp only[qC]
       refine jH ((a+1:Nat):Int) ?_;simp only[qB];refine qK (zR 3 2 (.int .i64 ((a+1:Nat):Int)) hbox (fun w3 hB3 hm3=>?_) (hoff:=by simp))
       have HT:Hid (RdS w2 w3 rb wb (.slice (some ⟨bk,off,none⟩) b.length cap) b (some (a+1))):=O (H2.out.on hm3 (by omega) hB3);simp only[qB]
       clear hbox hca hB3 hm3;go_wp2;go_ret;exact⟨by rw[HE.out];rfl,by rw[HE2.out];exact RdS.pre HM2.out HT.out⟩
     ·have hkz:¬(k:Int)=0:=by omega
      have hr1:=HRD.out;rw[if_neg hk0]at hr1;replace HRD:=O hr1;clear hr1;have hk8:k<=8:=by omega
      obtain⟨l,hl⟩:∃l,(b.drop (a+1)).take k=l:=⟨_,rfl⟩;have hll:l.length=k:=by rw[<-hl,List.length_take,List.length_drop];omega
      have hsl:=(H2.out.sl).midLe (a+1) (a+1+k) (by omega) (by omega);rw[show a+1+k-(a+1)=k by omega,hl]at hsl;have HL:=O hl;clear hl
      go_upto_region 18 with(fail);have hS:Mod qJ w2 w2.drew:=(Mod.refl _ _).drew
      have hcap1:a+1+k<=cap:=by
       obtain⟨ad',cap',hq,hle,-⟩:=H2.out.sl
       cases hq
       omega
      refine zZ [3,3,3,0,3,3,3,0,3,3,3,3,0,3,3,3,3,3,3] [] (fun w'=>Mod qJ w2 w') hS ?_;simp only[qB]
      refine qE 53 (fun w' hS=>hS.cell id H2.out.cell.2.1) ?_;simp only[qB];refine qE 3 (fun w' hS=>hS.cell id H2.out.cell.2.2.1) ?_;simp only[qC]
      refine jH ((a+1:Nat):Int) ?_;simp only[qB];refine qE 3 (fun w' hS=>hS.cell id H2.out.cell.2.2.1) ?_;simp only[qC];refine jH ((a+1:Nat):Int) ?_
      simp only[qB];refine jH ((a+1+k:Nat):Int) ?_;simp only[qC]
      refine rL 53 5 _ _ _ _ _ _ (a+1) (a+1+k) 1 rfl rfl rfl rfl rfl underlying53 (by kernel_rfl) (by omega) hcap1 ?_;simp only[qC];refine xF ?_
      simp only[qB];have H3:=O (H2.out.keep0 hS);have HM3:Hid (Mod qJ w w2.drew):=O (HM2.out.trans0 hS);replace hsl:=hsl.keep0 hS;clear hS HM2 H2
      generalize w2.drew=w3 at*;obtain⟨sv,hsv⟩:∃sv,sliced (some ⟨bk,off,none⟩) (a+1) (a+1+k) cap 1=sv:=⟨_,rfl⟩;rw[hsv]at hsl |-;clear hsv
      obtain⟨ad2,cap2,rfl,hlm,hat2⟩:=Sl.at hsl;have HAT:=O hat2;clear hsl hat2 hcap1;go_wp2
      go_loopw [5,107] (NumRel w3 l) (fun _ i _=>l.length-(intOf i).toNat)
      case atStart=>exact⟨0,Nat.zero_le _,rfl,by simp[be],Mod.refl _ _⟩
      case round=>
       rename iN=>wr
       obtain⟨j,hj,rfl,rfl,hmr⟩:=hrel
       by_cases hjl:j<l.length
       ·have hjz:(j:Int)<(l.length:Nat):=by omega
        obtain⟨b2,off2,rfl,-,-,hcc⟩:=HAT.out j hjl;obtain⟨cs,-,hcR,hcA⟩:=hcc j hjl;obtain rfl:cs=#[qW l[j]]:=hcR;have hcell:=CellsAt.one.1 hcA
        rw[Nat.mul_one]at hcell;have hcr:=hmr.cell id hcell;have hnx:=dM hjl;have hbt:=be_take_lt l j (by omega);generalize l[j]=x at*
        have hxt:=x.toNat_lt;obtain⟨q,hq⟩:∃q,be (l.take j)=q:=⟨_,rfl⟩;rw[hq]at hnx hbt |-;have hor:=be_or q x;have HNX:=O hnx;clear hnx hq hcell hcA hcc
        go_upto_region 20 with(fail);refine qL [3,1,3] ?_;simp only[qB]
        refine dJ _ _ _ _ _ _ _ _ _ rfl rfl rfl rfl underlying53 (n:=1) (by kernel_rfl) (by omega) ?_;simp only[qC]
        refine qG (v:=qW x) (b:=b2) (off:=off2+j*1) 5 (by rw[Nat.mul_one];exact hcr) ?_;simp only[qB];go_upto_region 21 with(fail)
        refine qL [3,3,3,3,3,3] ?_;simp only[qB];refine qM rfl (fun w'=>exec_shl64 _ _ _ _ q _ 8 (q*2^8) rfl rfl rfl (by omega) rfl (by omega)) ?_
        simp only[qB];refine qM rfl (fun w'=>cZ _ _ _ x rfl rfl (by kernel_rfl) underlying300) ?_;simp only[qC]
        refine qM rfl (fun w'=>exec_or64 _ _ _ _ (q*2^8) x.toNat (q*256+x.toNat) rfl rfl rfl (by omega) (by omega) hor) ?_;simp only[qB];clear hcr hor;go_wp2
        go_roundw
        case rel=>exact⟨j+1,by omega,by go_num,by rw[HNX.out],hmr⟩
        case measure=>simp[intOf];omega
       ·obtain rfl:j=l.length:=by omega
        have hjz:¬((l.length:Nat):Int)<(l.length:Nat):=by omega
        have hfull:l.take l.length=l:=List.take_length;rw[hfull];have hbl:=be_lt l;have hb8:256^l.length<=256^8:=Nat.pow_le_pow_right (by omega) (by omega)
        have h256:(256:Nat)^8=18446744073709551616:=by decide
        have hr1:=HRD.out;rw[HL.out]at hr1;obtain⟨q,hq⟩:∃q,be l=q:=⟨_,rfl⟩;rw[hq]at hr1 hbl |-;have hqb:q<18446744073709551616:=by omega
        have HR1:=O hr1;have H4:=O (H3.out.keep0 hmr);have HM4:Hid (Mod qJ w wr):=O (HM3.out.trans0 hmr)
        clear hr1 hbl hb8 h256 hq hfull hmr HRD HL HAT H3 HM3
        by_cases hbig:9223372036854775808<=q
        ·have hr0:zM b (some a)=(0,none):=by rw[HR1.out,if_pos (.inl hbig)]
         replace HE:Hid (n=0):=O (by rw[<-HE.out,hr0]);replace HE2:Hid (s=none):=O (by rw[<-HE2.out,hr0]);replace HM:Hid (Mod qJ w wr):=HM4
         clear hr0;go_upto_region 23 with(fail);refine qL [3,3,3,3,3,1,3,3,3] ?_;simp only[qB]
         refine qN _ _ _ _ _ _ _ _ rfl rfl rfl rfl rfl true (decide_eq_true (by omega)) ?_;simp only[qB];refine xN rfl trivial ?_;simp only[qB]
         go_upto_region 24 with(fail);have hS:Mod qJ wr wr.drew:=(Mod.refl _ _).drew;refine zZ [3,3,3,0,3,3,3,0,2] [8] (fun w'=>Mod qJ wr w') hS ?_
         simp only[qB];refine qE 318 (fun w' hS=>hS.cell id (H4.out.cell.1)) ?_;simp only[qB];refine qE 3 (fun w' hS=>hS.cell id (H4.out.cell.2.2.1)) ?_
         simp only[qC];refine zP rfl (fun K hK=>?_);refine xE func254 (pX p 5 a (hS.obj id H4.out.wr)) ?_;rintro e w2 ⟨rfl,hm2,hB2⟩
         refine⟨_,rfl,hK _ _ ?_⟩;clear hK K;simp only[qB];have HF:Hid (RdS wr w2 rb wb _ b none):=O (RdI.of_drew (H4.out.keep0 hS) hS hm2 (by decide) hB2)
         clear hS hm2 hB2;go_wp2;go_ret;exact⟨by rw[HE.out];rfl,by rw[HE2.out];exact RdS.pre HM.out HF.out⟩
        ·have hsn:=wSize_any q (by omega)
         obtain⟨sn,hsne⟩:∃sn,bH q=sn:=⟨_,rfl⟩;rw[hsne]at hsn;have hr1:=HR1.out;rw[hsne]at hr1
         by_cases hsk:sn=k
         ·have hskz:(sn:Int)=(k:Int):=by omega
          have hr0:zM b (some a)=(q,some (a+1+k)):=by rw[hr1,if_neg (by omega)]
          replace HE:Hid (n=q):=O (by rw[<-HE.out,hr0]);replace HE2:Hid (s=some (a+1+k)):=O (by rw[<-HE2.out,hr0]);clear hr0 hr1 HR1 hsne
          go_upto_region 23 with(fail);refine qL [3,3,3,3,3,1,3,3,3] ?_;simp only[qB]
          refine qN _ _ _ _ _ _ _ _ rfl rfl rfl rfl rfl false (decide_eq_false (by omega)) ?_;simp only[qB]
          refine qM rfl (fun w'=>uQ _ _ _ q rfl rfl (by kernel_rfl) underlying3 (by omega)) ?_;simp only[qC];refine qK (xE func282 (hsn _) ?_)
          rintro e w5 ⟨rfl,hw⟩;obtain rfl:=hw.symm;refine⟨_,rfl,?_⟩;simp only[qB]
          refine qN _ _ _ _ _ _ _ _ rfl rfl rfl rfl rfl false (by simp only[vW,decide_eq_false_iff_not];omega) ?_;simp only[qB];have hbox:=H4.out.box
          have hca:=H4.out.cell.2.2.1;go_upto_region 26 with(fail);refine qL [3,3,3,1,3,3,3,3,3,1] ?_;simp only[qB];refine qG 3 hca ?_;simp only[qB]
          refine jH ((1+k:Nat):Int) ?_;simp only[qC];refine jH ((a+1+k:Nat):Int) ?_;simp only[qB]
          refine qK (zR 3 2 (.int .i64 ((a+1+k:Nat):Int)) hbox (fun w6 hB6 hm6=>?_) (hoff:=by simp))
          have HT:Hid (RdS wr w6 rb wb (.slice (some ⟨bk,off,none⟩) b.length cap) b (some (a+1+k))):=O (H4.out.on hm6 (by omega) hB6);simp only[qB]
          go_upto_region 27 with(fail);refine qL [3,3,3] ?_;simp only[qB]
          refine qM rfl (fun w'=>uQ _ _ _ q rfl rfl (by kernel_rfl) underlying3 (by omega)) ?_;simp only[qB];clear hbox hca hB6 hm6;go_wp2;go_ret
          exact⟨by rw[HE.out];rfl,by rw[HE2.out];exact RdS.pre HM4.out HT.out⟩
         ·have hskz:¬(sn:Int)=(k:Int):=by omega
          have hr0:zM b (some a)=(0,none):=by rw[hr1,if_pos (.inr hsk)]
          replace HE:Hid (n=0):=O (by rw[<-HE.out,hr0]);replace HE2:Hid (s=none):=O (by rw[<-HE2.out,hr0]);replace HM:Hid (Mod qJ w wr):=HM4
          clear hr0 hr1 HR1 hsne;go_upto_region 23 with(fail);refine qL [3,3,3,3,3,1,3,3,3] ?_;simp only[qB]
          refine qN _ _ _ _ _ _ _ _ rfl rfl rfl rfl rfl false (decide_eq_false (by omega)) ?_;simp only[qB]
          refine qM rfl (fun w'=>uQ _ _ _ q rfl rfl (by kernel_rfl) underlying3 (by omega)) ?_;simp only[qC];refine qK (xE func282 (hsn _) ?_)
          rintro e w5 ⟨rfl,hw⟩;obtain rfl:=hw.symm;refine⟨_,rfl,?_⟩;simp only[qB]
          refine qN _ _ _ _ _ _ _ _ rfl rfl rfl rfl rfl true (by simp only[vW,decide_eq_true_eq];omega) ?_;simp only[qB];go_upto_region 24 with(fail)
          have hS:Mod qJ wr wr.drew:=(Mod.refl _ _).drew;refine zZ [3,3,3,0,3,3,3,0,2] [8] (fun w'=>Mod qJ wr w') hS ?_;simp only[qB]
          refine qE 318 (fun w' hS=>hS.cell id (H4.out.cell.1)) ?_;simp only[qB];refine qE 3 (fun w' hS=>hS.cell id (H4.out.cell.2.2.1)) ?_;simp only[qC]
          refine zP rfl (fun K hK=>?_);refine xE func254 (pX p 5 a (hS.obj id H4.out.wr)) ?_;rintro e w2 ⟨rfl,hm2,hB2⟩;refine⟨_,rfl,hK _ _ ?_⟩
          clear hK K;simp only[qB];have HF:Hid (RdS wr w2 rb wb _ b none):=O (RdI.of_drew (H4.out.keep0 hS) hS hm2 (by decide) hB2);clear hS hm2 hB2;go_wp2;go_ret
          exact⟨by rw[HE.out];rfl,by rw[HE2.out];exact RdS.pre HM.out HF.out⟩
 ·have hd:decide (e≠0)=true:=by simpa using he
  rw[hd]at hn;rw[uC he];have HT:Hid (RdS w w rb wb bv b (yW a e)):=O h.stay;clear h H;go_enter func240,ntmps240
  go_wp2_with (go_at_call 281;refine hn.mono ?_;rintro _ w1 ⟨rfl,hw⟩;obtain rfl:=hw.symm);go_ret;have hT:=HT.out;rw[uC he]at hT;exact⟨rfl,hT⟩
end
theorem cloneB_any{own:Bool}(hb:Sl own w G 1 yA v m)(hl:m.length<=140737488355328):Calls prog 239 #[v] w (CloneR w m):=by
 have hbS:=O hb;obtain⟨ad,cap,rfl,hle,hmx,hne⟩:=hb
 cases ad with
 |none=>
  have hm:m=[]:=by
   cases m with
   |nil=>rfl
   |cons x m=>obtain⟨b,off,h,_⟩:=hne (by simp);cases h
  subst hm;clear hne;rw[List.length_nil];have heq:=fun w=>Lib.run_eql_slice_nil (P:=prog) w 53 5 none 0 cap 0 0 underlying53;go_enter func239,ntmps239;go_wp2;go_ret
  exact⟨_,rfl,⟨rfl,.inl ⟨rfl,rfl⟩⟩,Mod.refl _ _⟩
 |some q=>
  clear hne;have heq:=fun w=>Lib.run_eql_slice_nil (P:=prog) w 53 5 (some q) m.length cap 0 0 underlying53;go_enter func239,ntmps239;go_upto_region 3 with(fail)
  refine qL [1,3,1,3] ?_;simp only[qB];refine qK (zU 53 5 (by rfl) underlying53 (by kernel_rfl) (fun w1 hB1 hm1 hs1=>?_));simp only[qB]
  refine qK (kX _ _ (by rfl) w.heap.size _ [] (by rfl) (yI _ hB1 (Nat.le_refl _)) _ m (by rfl) (hbS.out.keep0 hm1).bsrc (by simpa using hl) hm1.size (fun v' w2 ho2 hm2=>?_))
  rw[List.nil_append]at ho2;simp only[qB];go_wp2;go_ret
  exact⟨_,rfl,ho2,hm1.trans hm2 (fun k hk e=>by
   have e':some w.heap.size=some k:=e
   cases e';omega)⟩
section
variable{w:iN}{rb wb:Nat}{bv:Value}{b:iK}{a:Nat}{e p:Int}
theorem rMany_any(h:RdI w rb wb bv b a e p)(most:Nat)(hm:most<=4096):Calls prog 313 #[iO rb,.int .i64 most] w (NumR w rb wb bv b (pC b most (yW a e)).1 (pC b most (yW a e)).2):=by
 have hn:=cO h;have H:=O h;have hnum:=eT h;have hc2:=h.cell.2.2.1;have hok:=rNumL_ok (b:=b) (s:=yW a e)
 by_cases he:e=0
 ·subst he
  rw[sE]at hnum hok |-;obtain⟨n,hne⟩:∃n,(zM b (some a)).1=n:=⟨_,rfl⟩;obtain⟨s,hse⟩:∃s,(zM b (some a)).2=s:=⟨_,rfl⟩
  have hml:pC b most (some a)=if most<n then(n,none)else(n,s):=by
   unfold pC;rw[hne]
   split
   ·rfl
   ·exact Prod.ext hne hse
  rw[hml];rw[hne,hse]at hnum hok;clear hml;have hnb:=hok.2.1;have HOK:=O hok;clear h hok hne hse
  by_cases hgt:most<n
  ·have hz:(n:Int)>(most:Nat):=by omega
   rw[if_pos hgt];go_enter func313,ntmps313;go_upto_region 3 with(go_at_call 281;refine hn.mono ?_;rintro _ w1 ⟨rfl,hw⟩;obtain rfl:=hw.symm);refine qL [3,3,3,1,3] ?_
   simp only[qB];refine qG 3 hc2 ?_;simp only[qB];go_upto_region 4 with(fail);refine qL [3,1,3] ?_;simp only[qB];refine qK (xE func240 (hnum) ?_)
   rintro e w2 ⟨rfl,hr2⟩;have HR2:=O hr2;refine⟨_,rfl,?_⟩;simp only[qB];go_upto_region 6 with(fail);obtain⟨⟨a2,e2,p2,hi2,hs2⟩,hm2⟩:=HR2.out
   have he2:e2=0:=by
    rcases Int.decEq e2 0 with h|h
    ·rw[uC h]at hs2
     have:=HOK.out.2.2 hs2.symm;omega
    ·exact h
   subst he2;have HI2:=O hi2;clear hi2 hs2;refine qL [3,3,3,1,3,1] ?_;simp only[qB];refine qG 318 HI2.out.cell.1 ?_;simp only[qB]
   refine qK (xE func254 (pX p2 4 a HI2.out.wr) ?_);rintro e w3 ⟨rfl,hm3,hB3⟩;refine⟨_,rfl,?_⟩;simp only[qB]
   have HF:Hid (RdS w2 w3 rb wb _ b none):=O (HI2.out.fail hm3 (by decide) hB3);clear hm3 hB3;go_wp2;go_ret;exact⟨rfl,HR2.out.trans HF.out⟩
  ·have hz:¬(n:Int)>(most:Nat):=by omega
   rw[if_neg hgt];go_enter func313,ntmps313;go_upto_region 3 with(go_at_call 281;refine hn.mono ?_;rintro _ w1 ⟨rfl,hw⟩;obtain rfl:=hw.symm);refine qL [3,3,3,1,3] ?_
   simp only[qB];refine qG 3 hc2 ?_;simp only[qB];go_upto_region 4 with(fail);refine qL [3,1,3] ?_;simp only[qB];refine qK (xE func240 (hnum) ?_)
   rintro e w2 ⟨rfl,hr2⟩;have HR2:=O hr2;refine⟨_,rfl,?_⟩;simp only[qB];clear hr2;go_wp2;go_ret;exact⟨rfl,HR2.out⟩
 ·have hd:decide (e≠0)=true:=by simpa using he
  rw[hd]at hn;have HT:=O h.stay;rw[uC he]at HT |-;have hr:pC b most none=(0,none):=by simp[pC,zM]
  rw[hr];clear h H hnum hok;go_enter func313,ntmps313;go_wp2_with (go_at_call 281;refine hn.mono ?_;rintro _ w1 ⟨rfl,hw⟩;obtain rfl:=hw.symm);go_ret;exact⟨rfl,HT.out⟩
def TakeR(w:iN)(rb wb:Nat)(bv:Value)(b x:iK)(s:RS):iJ:=fun e w'=>RdS w w' rb wb bv b s/\∃v,e=.returned v/\Bts w.heap.size w' v x
theorem rTake_any(h:RdI w rb wb bv b a e p)(n:Nat)(hnb:n<9223372036854775808)(at_:Int):Calls prog 312 #[iO rb,.int .i64 n,.int .i64 at_] w (TakeR w rb wb bv b (vF b n (yW a e)).1 (vF b n (yW a e)).2):=by
 have hn:=cO h;have H:=O h;have hal:=h.al;have hln:=h.len
 by_cases he:e=0
 ·subst he
  rw[sE];obtain⟨ad,cap,rfl,-,-⟩:=Sl.at h.sl
  have hcap:b.length<=cap:=by
   obtain⟨ad',cap',hq,hle,-⟩:=h.sl
   cases hq;exact hle
  clear h
  by_cases hgt:b.length-a<n
  ·have hr:vF b n (some a)=([],none):=by simp[vF,hgt]
   rw[hr];clear hr;go_enter func312,ntmps312;go_upto_region 3 with(go_at_call 281;refine hn.mono ?_;rintro _ w1 ⟨rfl,hw⟩;obtain rfl:=hw.symm)
   have hS:Mod qJ w w.drew:=(Mod.refl _ _).drew;refine zZ [3,3,3,3,0,3,3,3,3,0,3,3] [] (fun w'=>Mod qJ w w') hS ?_;simp only[qB]
   refine qE 53 (fun w' hS=>hS.cell id H.out.cell.2.1) ?_;simp only[qC];refine xF ?_;simp only[qB];refine qE 3 (fun w' hS=>hS.cell id H.out.cell.2.2.1) ?_
   simp only[qC];refine yC _ _ _ _ ((b.length:Nat):Int) (a:Int) rfl rfl rfl rfl (by omega) (by omega) ?_;simp only[qC]
   refine qN _ _ _ _ _ _ _ _ rfl rfl rfl rfl rfl true (decide_eq_true (by omega)) ?_;simp only[qB];have H1:=O (H.out.keep0 hS);have HM:=O hS;clear hS
   generalize w.drew=w1 at*;go_upto_region 4 with(fail);refine qL [3,3,3,1,3,1] ?_;simp only[qB];refine qG 318 H1.out.cell.1 ?_;simp only[qB]
   refine qK (xE func254 (pX p 6 at_ H1.out.wr) ?_);rintro e w3 ⟨rfl,hm3,hB3⟩;refine⟨_,rfl,?_⟩;simp only[qB]
   have HF:Hid (RdS w1 w3 rb wb _ b none):=O (H1.out.fail hm3 (by decide) hB3);clear hm3 hB3;go_wp2;go_ret;exact⟨RdS.pre HM.out HF.out,_,rfl,⟨rfl,.inl ⟨rfl,rfl⟩⟩⟩
  ·have hr:vF b n (some a)=((b.drop a).take n,some (a+n)):=by simp[vF,hgt]
   rw[hr];clear hr;go_enter func312,ntmps312;go_upto_region 3 with(go_at_call 281;refine hn.mono ?_;rintro _ w1 ⟨rfl,hw⟩;obtain rfl:=hw.symm)
   have hS:Mod qJ w w.drew:=(Mod.refl _ _).drew;refine zZ [3,3,3,3,0,3,3,3,3,0,3,3] [] (fun w'=>Mod qJ w w') hS ?_;simp only[qB]
   refine qE 53 (fun w' hS=>hS.cell id H.out.cell.2.1) ?_;simp only[qC];refine xF ?_;simp only[qB];refine qE 3 (fun w' hS=>hS.cell id H.out.cell.2.2.1) ?_
   simp only[qC];refine yC _ _ _ _ ((b.length:Nat):Int) (a:Int) rfl rfl rfl rfl (by omega) (by omega) ?_;simp only[qC]
   refine qN _ _ _ _ _ _ _ _ rfl rfl rfl rfl rfl false (decide_eq_false (by omega)) ?_;simp only[qB];have H1:=O (H.out.keep0 hS);have HM:=O hS;clear hS
   generalize hw1:w.drew=w1 at*;have HSZ:Hid (w.heap.size=w1.heap.size):=O (by rw[<-hw1];rfl);clear hw1
   have hsl:=(H1.out.sl).midLe a (a+n) (by omega) (by omega);rw[show a+n-a=n by omega]at hsl;obtain⟨sv,hsv⟩:∃sv,sliced ad a (a+n) cap 1=sv:=⟨_,rfl⟩
   have HSV:=O hsv;rw[hsv]at hsl;have HSL:=O hsl;clear hsl hsv;go_upto_region 6 with(fail);have hS:Mod qJ w1 w1.drew:=(Mod.refl _ _).drew
   refine zZ [3,3,3,0,3,3,3,0,3,3,3,0,3,3,3,1,3] [] (fun w'=>Mod qJ w1 w') hS ?_;simp only[qB];refine qE 53 (fun w' hS=>hS.cell id H1.out.cell.2.1) ?_
   simp only[qB];refine qE 3 (fun w' hS=>hS.cell id H1.out.cell.2.2.1) ?_;simp only[qB];refine qE 3 (fun w' hS=>hS.cell id H1.out.cell.2.2.1) ?_;simp only[qB]
   refine jH ((a+n:Nat):Int) ?_;simp only[qC];refine rL 53 5 _ _ _ _ _ _ a (a+n) 1 rfl rfl rfl rfl rfl underlying53 (by kernel_rfl) (by omega) (by omega) ?_
   simp only[qC];refine qH rfl (fun K hK=>?_);rw[HSV.out];refine xE func239 (cloneB_any (HSL.out.keep0 hS) (by rw[List.length_take];omega)) ?_
   rintro e w2 ⟨v2,rfl,hv2,hm2⟩;have hS2:=hS.trans0 hm2;have hv0:Bts w.heap.size w2 v2 ((b.drop a).take n):=by rw[HSZ.out];exact uT hv2 (Nat.le_refl _)
   have hone:v2.oneCell'=true:=jJ hv2;refine⟨_,rfl,hK _ _ hS2 ?_⟩;clear hK K;simp only[qB];have H2:=O (H1.out.keep0 hS2)
   have HM2:=O (HM.out.trans0 hS2)
   have hvl:∀k,v2.ownBlock=some k->k≠rb:=fun k hk e=>by
    have h1:=(Bts.lt hv0 hk).1;have h2:=(Array.getElem?_eq_some_iff.1 H.out.box).1;omega
   clear hS hS2 hm2 hv2;go_upto_region 7 with(fail);refine qL [3,3,3,1,3,3,3,3,1] ?_;simp only[qB];refine qG 3 H2.out.cell.2.2.1 ?_;simp only[qB]
   refine jH ((a+n:Nat):Int) ?_;simp only[qB];refine qK (zR 3 2 (.int .i64 ((a+n:Nat):Int)) H2.out.box (fun w3 hB3 hm3=>?_) (hoff:=by simp))
   have HT:Hid (RdS w2 w3 rb wb (.slice ad b.length cap) b (some (a+n))):=O (H2.out.on hm3 (by omega) hB3)
   have HB:Hid (Bts w.heap.size w3 v2 ((b.drop a).take n)):=O (hv0.keep hm3 (fun k hk e=>hvl k hk e));simp only[qB];clear hB3 hm3 hv0;go_wp2;go_ret
   exact⟨RdS.pre HM2.out HT.out,_,rfl,HB.out⟩
 ·have hd:decide (e≠0)=true:=by simpa using he
  rw[hd]at hn;have HT:=O h.stay;rw[uC he]at HT |-;clear h H;go_enter func312,ntmps312
  go_wp2_with (go_at_call 281;refine hn.mono ?_;rintro _ w1 ⟨rfl,hw⟩;obtain rfl:=hw.symm);go_ret;exact⟨HT.out,_,rfl,⟨rfl,.inl ⟨rfl,rfl⟩⟩⟩
end
section
variable{w:iN}{rb wb:Nat}{bv:Value}{b:iK}{a:Nat}{e p:Int}
theorem RdI.notOk(h:RdI w rb wb bv b a e p):RsOk b (yW a e):=fun x hx=>by
 unfold yW at hx
 split at hx
 ·cases hx;exact h.al
 ·cases hx
theorem rBytes_any(h:RdI w rb wb bv b a e p)(most:Nat)(hm:most<=4096):Calls prog 283 #[iO rb,.int .i64 most] w (TakeR w rb wb bv b (yK b most (yW a e)).1 (yK b most (yW a e)).2):=by
 have hpl:=rPlace_any h;have hmn:=rMany_any h most hm;have hok:=rManyL_ok (b:=b) (most:=most) (s:=yW a e);unfold yK
 obtain⟨n,hne⟩:∃n,(pC b most (yW a e)).1=n:=⟨_,rfl⟩;obtain⟨s,hse⟩:∃s,(pC b most (yW a e)).2=s:=⟨_,rfl⟩;rw[hne,hse]at hmn hok |-;have hnb:=hok.2
 obtain⟨plc,hple⟩:∃q,(if e≠0 then 0 else(a:Int))=q:=⟨_,rfl⟩;rw[hple]at hpl;clear h hok hne hse hple;go_enter func283,ntmps283;go_upto_region 1 with(fail)
 refine qL [3,1,3] ?_;simp only[qB];refine qK (xE func311 (hpl) ?_);rintro e w1 ⟨rfl,hw⟩;obtain rfl:=hw.symm;refine⟨_,rfl,?_⟩;simp only[qB]
 go_upto_region 2 with(fail);refine qL [3,3,3,1,3,1,3] ?_;simp only[qB];refine qK (xE func313 (hmn) ?_);rintro e w2 ⟨rfl,hr2⟩;have HR2:=O hr2
 obtain⟨⟨a2,e2,p2,hi2,hs2⟩,hm2⟩:=hr2;have ht:=rTake_any hi2 n hnb plc;rw[hs2]at ht;clear hi2 hs2;refine⟨_,rfl,?_⟩;simp only[qB];refine qK (xE func312 (ht) ?_)
 rintro e w3 ⟨hr3,v,rfl,hv⟩;have HR3:=O (HR2.out.trans hr3);have HV:=O (uT hv hm2.size);clear hr3 hv hm2;refine⟨_,rfl,?_⟩;simp only[qB];go_wp2;go_ret
 exact⟨HR3.out,_,rfl,HV.out⟩
def TextR(w:iN)(rb wb:Nat)(bv:Value)(b x:iK)(s:RS):iJ:=fun e w'=>RdS w w' rb wb bv b s/\e=.returned (.string ⟨x.toArray⟩)
theorem rText_any(h:RdI w rb wb bv b a e p)(most:Nat)(hm:most<=4096):Calls prog 241 #[iO rb,.int .i64 most] w (TextR w rb wb bv b (yK b most (yW a e)).1 (yK b most (yW a e)).2):=by
 have hb:=rBytes_any h most hm;clear h;go_enter func241,ntmps241;go_upto_region 1 with(fail);refine qL [3,3,1,1,3] ?_;simp only[qB];refine qK (xE func283 (hb) ?_)
 rintro e w2 ⟨hr2,v,rfl,hv⟩;have HR2:=O hr2;have HV:=O hv;clear hr2 hv;refine⟨_,rfl,?_⟩;try simp only[qC]
 refine cF rfl (yD 53 5 9 _ (by rfl) v (by rfl) (Bts.sl HV.out) underlying53 underlying5 underlying9) trivial ?_;simp only[qB];go_wp2;go_ret
 exact⟨HR2.out,rfl⟩
def IDR(w:iN)(rb wb:Nat)(bv:Value)(b x:iK)(s:RS):iJ:=fun e w'=>RdS w w' rb wb bv b s/\e=.returned (.agg (qA x))
theorem wp_copyRow{a:Act}(t e:TypeId)(x y:Operand)(b n c:Nat)(ho:o.op=.call { callee:=.builtin .copy,args:=#[x,y],argTypes:=#[t,t] })(hx:a.eval x=.slice (some ⟨b,0,none⟩) n c)(ht:P.underlying t=some (.slice e))(hs:(P.info? e).map (·.size)=some 1)
 (v:Value)(ys:iK)(hy:a.eval y=v)(hsrc:Src w 1 v ys.length (ys.map qW))(hl:ys.length<=n)(cur:iL)(T:TypeId)(hb:w.heap[b]?=some (.cells cur T (0,0)))(hoff:n<=cur.size)
 (h:∀w',w'.heap[b]?=some (.cells (zE cur 0 (qA ys)) T (0,0))->Mod (fun k=>k=b) w w'->K (a.put o.dst (.int .i64 ys.length)) w'):o.wp P a w K Q:=by
 obtain⟨hl',ad,cap,rfl,hsrc⟩:=hsrc;have hmin:Nat.min ys.length n=ys.length:=Nat.min_eq_left hl
 by_cases h0:ys=[]
 ·subst h0
  have hr:=run_copy_none (P:=P) w t t o.type e (some ⟨b,0,none⟩) ad n c 0 cap ht hs (by simp)
  have e1:zE cur 0 (qA [])=cur:=by
   apply Array.toList_inj.1
   simp[zE,qA]
  have h':=h w (by rw[e1];exact hb) (Mod.refl _ _);unfold Oper.wp execOp
  simp only[ho,hx,hy,resolve,invoke,builtin,List.map_toArray,List.map_cons,List.map_nil,Sem.run_bind,Sem.run_pure,Result.andThen_ok,List.length_nil]at hr h' |-;rw[hr]
  exact h'
 ·obtain⟨b2,off,rfl,hc⟩:=hsrc (by intro h;exact h0 (List.eq_nil_of_length_eq_zero h))
  have hr:=run_copy_row (P:=P) w t t o.type e b 0 n c ⟨b2,off,none⟩ ys.length cap cur T (ys.map qW) ht hs hb (by rw[List.length_map];exact hmin.symm) (fun j v hj=>by rw[uV];exact hc j v hj) (by rw[List.length_map];omega) (fun v hv=>by obtain⟨x,_,rfl⟩:=List.mem_map.1 hv;rfl)
  have e1:(cur.toList.take 0++ys.map qW++cur.toList.drop (0+(ys.map qW).length)).toArray=zE cur 0 (qA ys):=by
   simp[zE,qA]
  rw[e1,List.length_map]at hr;have h':=h _ (setRow_heap w b cur _ T _ hb) ⟨rfl,rfl,rfl,by simp,fun k _ hk=>setRow_other w b k _ (fun e=>hk e)⟩;unfold Oper.wp execOp
  simp only[ho,hx,hy,resolve,invoke,builtin,List.map_toArray,List.map_cons,List.map_nil,Sem.run_bind,Sem.run_pure,Result.andThen_ok];rw[hr];exact h'
theorem exec_sliceAllA{a:Act}(t e:TypeId)(x:Operand)(b n:Nat)(ho:o.op=.slice t x none none none)(hx:a.eval x=iO b)(ht:P.underlying t=some (.array n e))(he:(P.info? e).map (·.size)=some 1):
 (execOp a.eval o).run P w=.ok (.value (.slice (some ⟨b,0,none⟩) n n)) w:=by
 have h1:P.arrayLen t=n:=by simp[Program.arrayLen,ht]
 have h2:P.elem t=e:=by simp[Program.elem,ht]
 have h3:(sizeOf e).run P w=.ok 1 w:=by
  cases hq:P.info? e with
  |none=>simp[hq]at he
  |some j=>simp[hq]at he;simp[sizeOf,typeInfo,hq,he]
 have h:=run_sliceAt_array_all (P:=P) w t ⟨b,0,none⟩ (by rw[h1,h2];exact ht);unfold execOp
 simp only[ho,hx,Option.map_none,Sem.run_bind,h,Result.andThen_ok,Sem.run_pure];rw[h1,h2,h3]
 simp[slicedAt,uV]
theorem rID_any(h:RdI w rb wb bv b a e p):Calls prog 284 #[iO rb] w (IDR w rb wb bv b (dO b (yW a e)).1 (dO b (yW a e)).2):=by
 have H:=O h;have htl:=rTakeL_ok (n:=32) h.notOk;obtain⟨x,hx⟩:∃x,(vF b 32 (yW a e)).1=x:=⟨_,rfl⟩
 obtain⟨s,hs⟩:∃s,(vF b 32 (yW a e)).2=s:=⟨_,rfl⟩;have hid:dO b (yW a e)=(if x=[]then zeros32 else x,s):=by unfold dO;rw[hx,hs]
 rw[hx]at htl;have hx32:=htl.2;rw[hid]
 have hres:zE (qA (List.replicate 32 0)) 0 (qA x)=qA (if x=[]then zeros32 else x):=by
  rcases hx32 with rfl|h32
  ·apply Array.toList_inj.1
   simp[zE,qA,zeros32]
  ·rw[if_neg (by rintro rfl;simp at h32),yQ (by rw[qD,qD,h32];simp)]
 have hrs:(qA (if x=[]then zeros32 else x)).size=32:=by
  rw[qD]
  rcases hx32 with rfl|h32
  ·simp[zeros32]
  ·rw[if_neg (by rintro rfl;simp at h32)];exact h32
 have hxl:x.length<=32:=by
  rcases hx32 with rfl|h32
  ·simp
  ·omega
 obtain⟨r,hr⟩:∃r,(if x=[]then zeros32 else x)=r:=⟨_,rfl⟩
 have hTK:=O (show ∀(w':iN),RdI w' rb wb bv b a e p->∀at_,Calls prog 312 #[iO rb,.int .i64 32,.int .i64 at_] w' (TakeR w' rb wb bv b x s)from fun w' hw' at_=>by
  have:=rTake_any hw' 32 (by omega) at_;rw[hx,hs]at this
  exact this)
 rw[hr]at hres hrs |-;have HRES:=O hres;have HXL:=O hxl;obtain⟨plc,hple⟩:∃q,(if e≠0 then 0 else(a:Int))=q:=⟨_,rfl⟩
 have HPL:=O (show ∀(w':iN),RdI w' rb wb bv b a e p->Calls prog 311 #[iO rb] w' (pT (.int .i64 plc) w')from fun w' hw'=>by
  have:=rPlace_any hw'
  rwa[hple]at this)
 clear h hx hs hid htl hx32 hres hxl hr hple;go_enter func284,ntmps284;go_upto_region 0 with(fail);refine qL [1] ?_;simp only[qB]
 refine qK (zB eC (fun w1 hB1 hm1 hs1=>?_));simp only[qB];go_upto_region 1 with(fail);have hS:Mod qJ w1 w1.drew:=(Mod.refl _ _).drew
 refine zZ [3,3,3,1,2,2] [4,5] (fun w'=>Mod qJ w1 w') hS ?_;simp only[qB]
 refine qM rfl (fun w'=>exec_sliceAllA 24 5 _ _ 32 (by rfl) (by rfl) underlying24 (by kernel_rfl)) ?_;simp only[qB];refine qH rfl (fun K hK=>?_)
 refine xE func311 (HPL.out _ (H.out.keep0 (hm1.trans0 hS))) ?_;rintro e w2 ⟨rfl,hw⟩;subst hw;refine⟨_,rfl,hK _ _ hS ?_⟩;clear hK K;try simp only[qC]
 refine zP rfl (fun K hK=>?_);refine xE func312 (hTK.out _ (H.out.keep0 (hm1.trans0 hS)) plc) ?_;rintro e w3 ⟨hr3,v,rfl,hv⟩
 have HR3:=O (RdS.pre (hm1.trans0 hS) hr3);have hrl:=(Array.getElem?_eq_some_iff.1 H.out.box).1;have hwl:=(Array.getElem?_eq_some_iff.1 H.out.wr).1
 have hB3:=hr3.2.obj (fun e=>by
  have e':w.heap.size=rb\/w.heap.size=wb:=e
  omega) (hS.obj id hB1)
 have hsrc:=(Bts.sl hv).bsrc
 have hvn:∀k,v.ownBlock=some k->k≠w.heap.size:=fun k hk e=>by
  have:=(Bts.lt hv hk).1;have h2:=hS.size;omega
 clear hr3;refine⟨_,rfl,hK _ _ ?_⟩;clear hK K;try simp only[qC]
 refine zP rfl (fun K hK=>?_)
 refine wp_copyRow 53 5 _ _ w.heap.size 32 32 (by rfl) (by rfl) underlying53 (by kernel_rfl) v x (by rfl) hsrc HXL.out _ _ hB3 (by simp[qA]) (fun w4 hB4 hm4=>?_)
 rw[HRES.out]at hB4;have HR4:Hid (RdS w w4 rb wb bv b s):=O (HR3.out.keepN H.out.all (Nat.le_refl _) hm4 (Nat.le_refl _));refine hK _ _ ?_;clear hK K;simp only[qB]
 clear hm1 hm4 hS hB1 hB3 hsrc hvn hv;go_upto_region 2 with(fail);refine qL [1,1] ?_;simp only[qB];refine qY 24 (CellsAt.whole hB4) 32 hrs ?_;try simp only[qC]
 refine qK (qT 24 (qA r) (qQ _) 32 hrs hB4 (fun w5 hB5 hm5=>?_) (hoff:=rfl));simp only[qB]
 have HR5:Hid (RdS w w5 rb wb bv b s):=O (HR4.out.keepN H.out.all (Nat.le_refl _) hm5 (Nat.le_refl _));clear hm5 hB4;go_wp2
 refine bodyPost_ret (results_cell_row (P:=prog) (ty:=24) rfl _ _ w.heap.size _ _ _ _ (by rfl) hB5 underlying24 rfl (by rw[hrs];kernel_rfl)) rfl ?_;exact⟨HR5.out,rfl⟩
end
theorem fZ:(prog.info? 255).bind (·.zero)=some (.agg #[.int .i64 0,.int .i64 0]):=by kernel_rfl
section
variable{w:iN}{rb wb:Nat}{bv:Value}{b:iK}{a:Nat}{e p:Int}
theorem rEnd_any(h:RdI w rb wb bv b a e p):Calls prog 245 #[iO rb] w (EndR w b a e p):=by
 have H:=O h;have hal:=h.al;have hln:=h.len;have hzp:=h.z;have hc0:=h.cell.1
 have hfl:=O (fun(w':iN)(hw':RdI w' rb wb bv b a e p)=>wFailed_at hw'.cell.2.2.2.1);obtain⟨ad,cap,rfl,-,-⟩:=Sl.at h.sl;clear h;go_enter func245,ntmps245
 go_upto_region 0 with(fail);refine qL [1] ?_;simp only[qB];refine qK (zB fZ (fun w1 hB1 hm1 hs1=>?_));simp only[qB];have H1:=O (H.out.keep0 hm1)
 replace hc0:=hm1.cell id hc0;go_upto_region 3 with(fail);have hS:Mod qJ w1 w1.drew:=(Mod.refl _ _).drew
 by_cases he:e=0
 ·subst he
  obtain rfl:=hzp rfl
  rcases Nat.lt_or_ge a b.length with hlt|hge
  ·have hlz:(a:Int)<(b.length:Nat):=by omega
   refine zZ [3,3,3,0,1,3,3,3,3,3,0,3,3,3,0,3,3,3,3] [] (fun w'=>Mod qJ w1 w') hS ?_;simp only[qB]
   refine qE 318 (fun w' hS=>hS.cell id H1.out.cell.1) ?_;simp only[qC];refine qH rfl (fun K hK=>?_);refine xE func252 (hfl.out _ (H1.out.keep0 hS)) ?_
   rintro e w2 ⟨rfl,hw⟩;subst hw;refine⟨_,rfl,hK _ _ hS ?_⟩;clear hK K;try simp only[qB]
   try refine xC _ _ false (by rfl) (by rfl) (by rfl) ?_
   try simp only[qB]
   refine qE 3 (fun w' hS=>hS.cell id H1.out.cell.2.2.1) ?_;simp only[qB];refine qE 53 (fun w' hS=>hS.cell id H1.out.cell.2.1) ?_;simp only[qC];refine xF ?_
   simp only[qC];refine qN _ _ _ _ _ _ _ _ rfl rfl rfl rfl rfl true (decide_eq_true (by omega)) ?_;simp only[qB];have H3:=O (H1.out.keep0 hS)
   have HM3:Hid (Mod qJ w w1.drew):=O (hm1.trans0 hS);have hB3:=hS.obj id hB1;clear hS hm1 hB1 hc0 H1 H hfl;generalize w1.drew=w3 at*;go_upto_region 4 with(fail)
   refine qL [3,3,3,1,0,1] ?_;simp only[qB];refine qG 3 H3.out.cell.2.2.1 ?_;try simp only[qC]
   refine yV (uI 4 a) ?_;simp only[qC]
   refine qK (qT 255 #[.int .i64 4,.int .i64 a] (by simp[Value.oneCell']) 2 rfl hB3 (fun w4 hB4 hm4=>?_) (hoff:=by rfl));simp only[qB]
   have hM4:Hid (Mod qJ w w4):=O (HM3.out.transB hm4 (Nat.le_refl _));clear hm4 hB3;go_wp2
   refine bodyPost_ret (results_cell_row (P:=prog) (ty:=255) rfl _ _ w.heap.size _ _ _ _ (by rfl) hB4 underlying255 rfl (by kernel_rfl)) rfl ?_
   exact⟨hM4.out,4,a,rfl,by omega,by omega⟩
  ·have hlz:¬(a:Int)<(b.length:Nat):=by omega
   refine zZ [3,3,3,0,1,3,3,3,3,3,0,3,3,3,0,3,3,3,3] [] (fun w'=>Mod qJ w1 w') hS ?_;simp only[qB]
   refine qE 318 (fun w' hS=>hS.cell id H1.out.cell.1) ?_;simp only[qC];refine qH rfl (fun K hK=>?_);refine xE func252 (hfl.out _ (H1.out.keep0 hS)) ?_
   rintro e w2 ⟨rfl,hw⟩;subst hw;refine⟨_,rfl,hK _ _ hS ?_⟩;clear hK K;try simp only[qB]
   try refine xC _ _ false (by rfl) (by rfl) (by rfl) ?_
   try simp only[qB]
   refine qE 3 (fun w' hS=>hS.cell id H1.out.cell.2.2.1) ?_;simp only[qB];refine qE 53 (fun w' hS=>hS.cell id H1.out.cell.2.1) ?_;simp only[qC];refine xF ?_
   simp only[qC];refine qN _ _ _ _ _ _ _ _ rfl rfl rfl rfl rfl false (decide_eq_false (by omega)) ?_;simp only[qB];have H3:=O (H1.out.keep0 hS)
   have HM3:Hid (Mod qJ w w1.drew):=O (hm1.trans0 hS);have hB3:=hS.obj id hB1;clear hS hm1 hB1 hc0 H1 H hfl;generalize w1.drew=w3 at*;go_upto_region 5 with(fail)
   refine qL [3,3,3,1,3,3,1,1] ?_;simp only[qB];refine qG 318 H3.out.cell.1 ?_;simp only[qB];refine qY 255 H3.out.row 2 rfl ?_;try simp only[qC]
   refine qK (qT 255 #[.int .i64 0,.int .i64 0] (by simp[Value.oneCell']) 2 rfl hB3 (fun w4 hB4 hm4=>?_) (hoff:=by rfl));simp only[qB]
   have hM4:Hid (Mod qJ w w4):=O (HM3.out.transB hm4 (Nat.le_refl _));clear hm4 hB3;go_wp2
   refine bodyPost_ret (results_cell_row (P:=prog) (ty:=255) rfl _ _ w.heap.size _ _ _ _ (by rfl) hB4 underlying255 rfl (by kernel_rfl)) rfl ?_
   exact⟨hM4.out,0,0,rfl,by omega,by omega⟩
 ·have hd:decide (e≠0)=true:=by simpa using he
  have hf2:=hfl.out;simp only[hd]at hf2;replace hfl:=O hf2;clear hf2
  refine zZ [3,3,3,0,1,3,3,3,3,3,0,3,3,3,0,3,3,3,3] [] (fun w'=>Mod qJ w1 w') hS ?_;simp only[qB]
  refine qE 318 (fun w' hS=>hS.cell id H1.out.cell.1) ?_;simp only[qC];refine qH rfl (fun K hK=>?_);refine xE func252 (hfl.out _ (H1.out.keep0 hS)) ?_
  rintro e w2 ⟨rfl,hw⟩;subst hw;refine⟨_,rfl,hK _ _ hS ?_⟩;clear hK K;try simp only[qB]
  try refine xC _ _ true (by rfl) (by rfl) (by rfl) ?_
  try simp only[qB]
  have H3:=O (H1.out.keep0 hS);have HM3:Hid (Mod qJ w w1.drew):=O (hm1.trans0 hS);have hB3:=hS.obj id hB1;clear hS hm1 hB1 hc0 H1 H hfl
  generalize w1.drew=w3 at*;go_upto_region 5 with(fail);refine qL [3,3,3,1,3,3,1,1] ?_;simp only[qB];refine qG 318 H3.out.cell.1 ?_;simp only[qB]
  refine qY 255 H3.out.row 2 rfl ?_;try simp only[qC]
  refine qK (qT 255 #[.int .i64 e,.int .i64 p] (by simp[Value.oneCell']) 2 rfl hB3 (fun w4 hB4 hm4=>?_) (hoff:=by rfl));simp only[qB]
  have hM4:Hid (Mod qJ w w4):=O (HM3.out.transB hm4 (Nat.le_refl _));clear hm4 hB3;go_wp2
  refine bodyPost_ret (results_cell_row (P:=prog) (ty:=255) rfl _ _ w.heap.size _ _ _ _ (by rfl) hB4 underlying255 rfl (by kernel_rfl)) rfl ?_
  exact⟨hM4.out,e,p,rfl,by omega,by omega⟩
theorem zero_wrong:prog.built 320 []=some #[.int .i64 0,.int .i64 0]:=by kernel_rfl
theorem built_reader(wb:Nat)(v:Value)(h:v.cells=#[v]):prog.built 344 [(0,iO wb),(1,v)]=some #[iO wb,v,.int .i64 0]:=by
 have z:(prog.info? 344).bind (·.zero)=some (.agg #[.pointer none,.slice none 0 0,.int .i64 0]):=by kernel_rfl
 have p:yM prog 344=some [(0,1),(1,1),(2,1)]:=by kernel_rfl
 rw[zX z p,zN (off:=0) (size:=1) rfl (by rfl) (by simp),zN (off:=1) (size:=1) rfl (by rw[h];rfl) (by simp[zE,Value.cells]),yN,h]
 rfl
def NewRd(w:iN)(b:iK):iJ:=fun x w'=>∃rb wb bv,x=.returned (iO rb)/\RdI w' rb wb bv b 0 0 0/\Mod qJ w w'/\∀k,k=rb\/k=wb\/bv.ownBlock=some k->w.heap.size<=k
theorem rNew_any{own:Bool}(h:Sl own w G 1 yA v b)(hl:b.length<=4096):Calls prog 211 #[v] w (NewRd w b):=by
 have H:=O h;clear h;go_enter func211,ntmps211;go_upto_region 1 with(fail);refine qL [0,1,3,1,0,1,3] ?_;simp only[qB];refine yV zero_wrong ?_;simp only[qC]
 refine qK (zT 320 (fun w1 hB1 hm1 hs1=>?_));replace hB1:w1.heap[w.heap.size]?=some (.cells #[.int .i64 0,.int .i64 0] 320 (0,0)):=hB1;simp only[qB]
 refine qK (xE func239 (cloneB_any (H.out.keep0 hm1) (by omega)) ?_);rintro e w2 ⟨v2,rfl,hv2,hm2⟩
 have hvc:v2.cells=#[v2]:=by obtain⟨ad,cap,rfl,-,-⟩:=Sl.at hv2.sl;rfl
 have hbr:=built_reader w.heap.size v2 hvc;refine⟨_,rfl,?_⟩;try simp only[qC]
 refine yV hbr ?_;simp only[qC];refine qK (zT 344 (fun w3 hB3 hm3 hs3=>?_))
 replace hB3:w3.heap[w2.heap.size]?=some (.cells #[iO w.heap.size,v2,.int .i64 0] 344 (0,0)):=hB3;simp only[qB]
 have hB1':=(hm2.trans0 hm3).obj id hB1;have hs1:=hs1;have hs2:=hm2.size;have hv3:=Bts.keep hv2 hm3 (fun _ _=>id)
 have hvk:∀k,v2.ownBlock=some k->w1.heap.size<=k/\k<w2.heap.size:=fun k hk=>Bts.lt hv2 hk
 have HT:Hid (NewRd w b (.returned (iO w2.heap.size)) w3):=O ⟨_,_,v2,rfl,⟨hB3,hB1',(hv3.sl.weak).mono (fun k hk=>hk.2.2) (fun _ _ h=>h),fun k hk=>⟨by have:=hvk k hk;have:=hm3.size;omega,by have:=hvk k hk;omega,by have:=hvk k hk;omega⟩,hl,by omega,fun _=>rfl,by omega⟩,(hm1.trans0 hm2).trans0 hm3,fun k hk=>by
  rcases hk with rfl|rfl|hk
  ·omega
  ·omega
  ·have:=hvk k hk;omega⟩
 clear hB1 hB3 hm1 hm2 hm3 hv2 hv3 hB1' hvk;go_wp2;go_ret;exact HT.out
end
end
section
open Go.RowKit Go.Shelf Go.Proofs.Tryz Go.Lib
section
variable{P:Program}{w:iN}{o:Oper}{a:Act}
theorem run_typeInfo{t:TypeId}{i:TypeInfo}(h:P.info? t=some i):(typeInfo t).run P w=.ok i w:=by simp[typeInfo,h]
theorem run_methP(n:Nat)(t e:TypeId)(p:Addr)(name:String)(f:FuncId)
 (hm:((P.info? t).bind fun i=>(i.methods.find? (·.name==name)).map fun m=>(m.path,m.func))=some (#[],some (f,true)))(ht:P.underlying t=some (.pointer e)):
 (_root_.Go.method (n+1) t (.pointer (some p)) name).run P w=.ok (f,.pointer (some p)) w:=by
 cases hi:P.info? t with
 |none=>simp[hi]at hm
 |some i=>
  simp only[hi,Option.bind_some]at hm
  cases hf:i.methods.find? (·.name==name)with
  |none=>simp[hf]at hm
  |some m=>
   simp only[hf,Option.map_some,Option.some.injEq,Prod.mk.injEq]at hm;obtain⟨hp,hfn⟩:=hm
   simp[_root_.Go.method,run_typeInfo hi,hf,hp,hfn,_root_.Go.follow,_root_.Go.receiverAt,run_underlying ht,_root_.Go.Place.get]
theorem run_wrapNil(ts:Array TypeId)(t:TypeId)(p:Addr)(s m:ByteArray):(Builtin.ssaWrapNilChk_ ts t #[.pointer (some p),.string s,.string m]).run P w=.ok (.pointer (some p)) w:=by rfl
theorem run_methV(n:Nat)(t e:TypeId)(p:Addr)(name:String)(f:FuncId)(v:Value)(d:TypeDesc)
 (hm:((P.info? t).bind fun i=>(i.methods.find? (·.name==name)).map fun m=>(m.path,m.func))=some (#[],some (f,false)))(ht:P.underlying t=some (.pointer e))
 (hu:P.underlying e=some d)(hd:(match d with| .struct _| .array _ _=>true|_=>false)=false)(hc:w.cell? p=some v):
 (_root_.Go.method (n+1) t (.pointer (some p)) name).run P w=.ok (f,v) w:=by
 have hagg:(isAgg e).run P w=.ok false w:=by
  unfold isAgg;rw[Sem.run_bind,run_underlying hu w]
  cases d<;>simp_all
 cases hi:P.info? t with
 |none=>simp[hi]at hm
 |some i=>
  simp only[hi,Option.bind_some]at hm
  cases hf:i.methods.find? (·.name==name)with
  |none=>simp[hf]at hm
  |some m=>
   simp only[hf,Option.map_some,Option.some.injEq,Prod.mk.injEq]at hm;obtain⟨hp,hfn⟩:=hm
   have hl:(loadVar e p).run P w=.ok v w:=by
    unfold loadVar;rw[Sem.run_bind,hagg]
    simp[load,Sem.run,hc]
   simp[_root_.Go.method,run_typeInfo hi,hf,hp,hfn,_root_.Go.follow,_root_.Go.receiverAt,run_underlying ht,_root_.Go.Place.get,run_wrapNil,asAddr,hl,strVal]
theorem aG(x:Operand)(name:String)(xs:List Operand)(ts:Array TypeId)(ho:o.op=.call { callee:=.invoke x name,args:=xs.toArray,argTypes:=ts })(t:TypeId)(v:Value)(hx:a.eval x=.iface t v)(f:FuncId)(r:Value)
 (hm:∀n,(_root_.Go.method (n+1) t v name).run P w=.ok (f,r) w)(hpos:0<P.types.size)(fn:Func)(hf:P.funcs[f]?=some fn)(hb:fn.body.isSome=true)(hn:(fn.name== "runtime.NumGoroutine")=false)(args:List Value)(ha:xs.map a.eval=args):
 (execOp a.eval o).run P w=.ok (.enter f (r::args).toArray) w:=by
 subst ha;have hb':¬fn.body=none:=by intro h;simp[h]at hb
 have hn':¬fn.name= "runtime.NumGoroutine" :=by simpa using hn
 obtain⟨n,hn1⟩:∃n,P.types.size+Made.depth=n+1:=⟨P.types.size+Made.depth-1,by omega⟩;unfold execOp
 simp[ho,resolve,invoke,callMethod,hx,hn1,hm,callFunc,hf,hb',hn']
 exact List.take_of_length_le (by simp)
end
theorem pTypes:0<prog.types.size:=of_decide_eq_true (by kernel_rfl)
theorem meth_Less:((prog.info? 178).bind fun i=>(i.methods.find? (·.name== "Less")).map fun m=>(m.path,m.func))=some (#[],some (345,false)):=by kernel_rfl
theorem meth_Len:((prog.info? 178).bind fun i=>(i.methods.find? (·.name== "Len")).map fun m=>(m.path,m.func))=some (#[],some (105,false)):=by kernel_rfl
theorem meth_Swap:((prog.info? 178).bind fun i=>(i.methods.find? (·.name== "Swap")).map fun m=>(m.path,m.func))=some (#[],some (348,false)):=by kernel_rfl
theorem meth_Push:((prog.info? 178).bind fun i=>(i.methods.find? (·.name== "Push")).map fun m=>(m.path,m.func))=some (#[],some (347,true)):=by kernel_rfl
theorem meth_Pop:((prog.info? 178).bind fun i=>(i.methods.find? (·.name== "Pop")).map fun m=>(m.path,m.func))=some (#[],some (346,true)):=by kernel_rfl
section
variable{α:Type}[Inhabited α]{enc:α->List Value}{e k:Nat}{base:Nat}{w:iN}{v:Value}{l:List α}
omit [Inhabited α] in
theorem flat_split(enc:α->List Value)(l:List α)(i:Nat)(hi:i<l.length):l.flatMap enc=(l.take i).flatMap enc++(enc l[i]++(l.drop (i+1)).flatMap enc):=by
 conv=>lhs;rw[<-List.take_append_drop i l,List.drop_eq_getElem_cons hi]
 rw[List.flatMap_append,List.flatMap_cons]
omit [Inhabited α] in
theorem flat_set(enc:α->List Value)(l:List α)(i:Nat)(x:α)(hi:i<l.length):(l.set i x).flatMap enc=(l.take i).flatMap enc++(enc x++(l.drop (i+1)).flatMap enc):=by
 rw[List.set_eq_take_append_cons_drop,if_pos hi,List.flatMap_append,List.flatMap_cons]
theorem Gat.at(h:Gat enc e k base w v l)(hk:∀x,(enc x).length=k)(i:Nat)(hi:i<l.length):∃g cap cur,v=.slice (some ⟨g,0,none⟩) l.length cap/\w.heap[g]?=some (.cells cur e (0,0))/\CellsAt w g (i*k) (enc l[i]).toArray/\i*k+k<=cur.size/\base<=g/\
 ∀(x:α)(w':iN),w'.heap[g]?=some (.cells (zE cur (i*k) (enc x).toArray) e (0,0))->Gat enc e k base w' v (l.set i x):=by
 rcases h.2 with⟨rfl,h0⟩|⟨g,cap,cur,rfl,hb,hg,hc,hm,hcs,ht⟩
 ·omega
 ·have hlen:=dQ hk l
  have hA:((l.take i).flatMap enc).length=i*k:=by rw[dQ hk,List.length_take,Nat.min_eq_left (by omega)]
  have hC:((l.drop (i+1)).flatMap enc).length=(l.length-(i+1))*k:=by rw[dQ hk,List.length_drop]
  have hnk:i*k+k<=l.length*k:=by
   have:(i+1)*k<=l.length*k:=Nat.mul_le_mul_right _ hi
   rwa[Nat.succ_mul]at this
  have hck:l.length*k<=cap*k:=Nat.mul_le_mul_right _ hc;have hcur:cur.toList=l.flatMap enc++cur.toList.drop (l.length*k):=by rw[<-ht,List.take_append_drop]
  have hsp:=flat_split enc l i hi;refine⟨g,cap,cur,rfl,hg,CellsAt.of_obj hg (fun j hj=>?_),by omega,hb,fun x w' hw'=>?_⟩
  ·have hj':j<k:=by simpa[hk]using hj
   have h1:=flat_enc hk l i hi j hj';rw[<-ht,List.getElem?_take_of_lt (by omega)]at h1;rw[Array.getElem?_toList]at h1;rw[h1];simp
  ·have hx:=hk x
   have hrow:(zE cur (i*k) (enc x).toArray).toList=(l.set i x).flatMap enc++cur.toList.drop (l.length*k):=by
    rw[flat_set enc l i x hi];unfold zE;simp only[List.size_toArray,hx]
    have h1:cur.toList.take (i*k)=(l.take i).flatMap enc:=by
     conv=>lhs;rw[hcur,hsp]
     rw[List.append_assoc,List.take_append_of_le_length (by omega),List.take_of_length_le (by omega)]
    have h2:cur.toList.drop (i*k+k)=(l.drop (i+1)).flatMap enc++cur.toList.drop (l.length*k):=by
     conv=>lhs;rw[hcur,hsp]
     have e1:((l.take i).flatMap enc++(enc l[i]++(l.drop (i+1)).flatMap enc))++cur.toList.drop (l.length*k)=((l.take i).flatMap enc++enc l[i])++((l.drop (i+1)).flatMap enc++cur.toList.drop (l.length*k)):=by simp
     rw[e1,List.drop_append_of_le_length (by rw[List.length_append,hA,hk];omega),List.drop_of_length_le (by rw[List.length_append,hA,hk];omega),List.nil_append]
    rw[h1,h2]
    simp
   have hl2:((l.set i x).flatMap enc).length=l.length*k:=by rw[dQ hk,List.length_set]
   refine⟨by rw[hl2,List.length_set],.inr ⟨g,cap,_,by rw[List.length_set],hb,hw',by rw[List.length_set];exact hc,hm,by rw[kQ (by simp[hk];omega)];exact hcs,?_⟩⟩
   rw[hrow,List.length_set,List.take_append_of_le_length (by omega),List.take_of_length_le (by omega)]
end
def iI(x:iK):List Value:=if x.length=32 then idL x else List.replicate 32 (qW 0)
theorem jL(x:iK):(iI x).length=32:=by
 unfold iI
 split
 ·rename_i h;exact idL_len h
 ·simp
theorem jD(x:iK):∀c∈iI x,c.oneCell'=true:=by
 unfold iI
 split
 ·exact idL_one x
 ·intro c hc;rw[List.eq_of_mem_replicate hc];rfl
theorem pG(h:x.length=32):(iI x).toArray=qA x:=by unfold iI;rw[if_pos h];simp[idL]
abbrev kI(base:Nat)(w:iN)(v:Value)(l:List iK):Prop:=Gat iI 24 32 base w v l
structure DgI(w:iN)(hb base:Nat)(v:Value)(l:List iK):Prop where
 box:w.heap[hb]?=some (.cells #[v] 179 (0,0))
 row:kI base w v l
 ids:∀x∈l,x.length=32
 ne:∀q,v.ownBlock=some q->q≠hb
 few:l.length<=65536
theorem DgI.cell{w:iN}{hb base:Nat}{v:Value}{l:List iK}(h:DgI w hb base v l):w.cell? ⟨hb,0,none⟩=some v:=by simp[World.cell?,h.box]
theorem DgI.keep{S:iM}{w w':iN}{hb base:Nat}{v:Value}{l:List iK}(h:DgI w hb base v l)(hm:Mod S w w')(h1:¬S hb)(h2:∀q,v.ownBlock=some q->¬S q):DgI w' hb base v l:=
 ⟨hm.obj h1 h.box,h.row.keep hm h2,h.ids,h.ne,h.few⟩
theorem DgI.keep0{base:Nat}(h:DgI w hb base v l)(hm:Mod qJ w w'):DgI w' hb base v l:=h.keep hm id (fun _ _=>id)
theorem atD_mem(hi:i<l.length):kB l i∈l:=by rw[at_lt hi];exact List.getElem_mem _
section
variable{w:iN}{hb base:Nat}{v:Value}{l:List iK}
theorem DgI.at(h:DgI w hb base v l)(i:Nat)(hi:i<l.length):∃g cap cur,v=.slice (some ⟨g,0,none⟩) l.length cap/\w.heap[g]?=some (.cells cur 24 (0,0))/\CellsAt w g (i*32) (qA (kB l i))/\i*32+32<=cur.size/\base<=g/\(kB l i).length=32/\
 ∀(x:iK)(w':iN),x.length=32->w'.heap[g]?=some (.cells (zE cur (i*32) (qA x)) 24 (0,0))->kI base w' v (l.set i x):=by
 obtain⟨g,cap,cur,h1,h2,h3,h4,h5,h6⟩:=h.row.at jL i hi;have hm:=h.ids _ (atD_mem hi);rw[at_lt hi]at hm |-
 refine⟨g,cap,cur,h1,h2,?_,h4,h5,hm,fun x w' hx hw=>h6 x w' ?_⟩
 ·rw[<-pG hm];exact h3
 ·rw[pG hx];exact hw
theorem dgLen_any(w:iN):Calls prog 105 #[.slice ad n cap] w (pT (.int .i64 n) w):=by
 go_enter func105,ntmps105;go_upto_region 1 with(fail);refine qL [3,3,3] ?_;simp only[qB];refine xF ?_;simp only[qB];go_wp2;go_ret;exact⟨rfl,rfl⟩
theorem aV(h:DgI w hb base v l)(i j:Nat)(hi:i<l.length)(hj:j<l.length):Calls prog 345 #[v,.int .i64 i,.int .i64 j] w (vO (.bool (decide (kB l i<kB l j))) w):=by
 obtain⟨g,cap,cur,rfl,hg,hci,-,-,hli,-⟩:=h.at i hi;obtain⟨g2,cap2,cur2,he,hg2,hcj,-,-,hlj,-⟩:=h.at j hj
 cases he
 have hneg:=rZ (kB l i) (kB l j);have hic:=qD (kB l i);have hjc:=qD (kB l j);rw[hli]at hic;rw[hlj]at hjc;generalize kB l i=x at*
 generalize kB l j=y at*;obtain⟨c,hc⟩:∃c,uW x y=c:=⟨_,rfl⟩;have hsc:=fun w'=>eO x y hli hlj w';rw[hc]at hneg;simp only[hc]at hsc
 have hd:decide (c<0)=decide (x<y):=by rw[decide_eq_decide];exact hneg
 rw[<-hd];clear h hc hd hneg;go_enter func345,ntmps345;go_upto_region 1 with(fail);have hS:Mod qJ w w.drew:=(Mod.refl _ _).drew
 refine zZ [3,3,3,0,3,3,3,0,1,3,3] [] (fun w'=>Mod qJ w w') hS ?_;simp only[qB];refine zC 179 32 hi ?_;simp only[qC]
 refine zJ 24 (fun w' hS=>hci.keep hS id) 32 hic ?_;simp only[qB];refine zC 179 32 hj ?_;simp only[qC];refine zJ 24 (fun w' hS=>hcj.keep hS id) 32 hjc ?_
 simp only[qC];refine qH rfl (fun K hK=>?_);refine xE func35 (hsc _) ?_;rintro e w2 ⟨rfl,hg2⟩;have hS2:=hS.trans0 hg2.mod;refine⟨_,rfl,hK _ _ hS2 ?_⟩;clear hK K
 try simp only[qC]
 refine qN _ _ _ _ _ _ _ _ rfl rfl rfl rfl rfl (decide (c<0)) rfl ?_;simp only[qB];go_wp2;go_ret;exact⟨rfl,hS2⟩
def DgM(w:iN)(v:Value)(hb:Nat)(w':iN)(v':Value):Prop:=Mod (fun k=>k=hb\/v.ownBlock=some k) w w'/\∀q,v'.ownBlock=some q->v.ownBlock=some q\/w.heap.size<=q
theorem DgM.refl(w:iN)(v:Value)(hb:Nat):DgM w v hb w v:=⟨Mod.refl _ _,fun _ h=>.inl h⟩
theorem DgM.trans{w w1 w2:iN}{v v1 v2:Value}{hb:Nat}(h:DgM w v hb w1 v1)(k:DgM w1 v1 hb w2 v2):DgM w v hb w2 v2:=
 ⟨h.1.trans k.1 (fun q hq e=>e.elim .inl fun e=>(h.2 q e).elim .inr fun e=>by omega),fun q hq=>(k.2 q hq).elim (h.2 q) fun e=>.inr (Nat.le_trans h.1.size e)⟩
theorem DgM.trans0(h:DgM w v hb w1 v1)(k:Mod qJ w1 w2):DgM w v hb w2 v1:=⟨h.1.trans k (fun _ _ h=>h.elim),h.2⟩
def DgTo(w:iN)(hb base:Nat)(v:Value)(l':List iK)(w':iN):Prop:=∃v',DgI w' hb base v' l'/\DgM w v hb w' v'
theorem aU(h:DgI w hb base v l)(i j:Nat)(hi:i<l.length)(hj:j<l.length):Calls prog 348 #[v,.int .i64 i,.int .i64 j] w (fun e w'=>e=.returned (.tuple #[])/\DgTo w hb base v (swp l i j) w'):=by
 obtain⟨g,cap,cur,rfl,hg,hci,hszi,hbg,hli,hpi⟩:=h.at i hi;obtain⟨g2,cap2,cur2,he,hg2,hcj,hszj,-,hlj,-⟩:=h.at j hj
 cases he
 have H:=O h;have hic:=qD (kB l i);have hjc:=qD (kB l j);rw[hli]at hic;rw[hlj]at hjc;obtain⟨x,hx⟩:∃x,kB l i=x:=⟨_,rfl⟩
 obtain⟨y,hy⟩:∃y,kB l j=y:=⟨_,rfl⟩;rw[hx]at hci hli hic;rw[hy]at hcj hlj hjc;have HXY:Hid (swp l i j=(l.set i y).set j x):=O (by unfold swp;rw[hx,hy])
 have HPI:=O hpi;have hgn:g≠hb:=h.ne g rfl;clear h hpi hx hy hg2;go_enter func348,ntmps348;go_upto_region 0 with(fail)
 have hS:Mod qJ w w.drew:=(Mod.refl _ _).drew;refine zZ [3,3,3,3,3,3,3,0,3,3,3,0,3,2,3,2] [13,15] (fun w'=>Mod qJ w w') hS ?_;simp only[qB]
 refine zC 179 32 hj ?_;simp only[qC];refine zJ 24 (fun w' hS=>hcj.keep hS id) 32 hjc ?_;simp only[qB];refine zC 179 32 hi ?_;simp only[qC]
 refine zJ 24 (fun w' hS=>hci.keep hS id) 32 hic ?_;simp only[qC];refine zC 179 32 hi ?_;simp only[qC];refine zP rfl (fun K hK=>?_)
 refine xU 24 (i*32) (qA y) (qQ _) 32 hjc (hS.obj id hg) (fun w3 hB3 hm3=>?_)
 have hm03:Mod (fun k=>k=g) w w3:=(hS.mono (fun _ _ h=>h.elim)).trans hm3 (fun _ _ h=>h);have hrow3:=HPI.out y w3 hlj hB3
 have hD3:DgI w3 hb base (.slice (some ⟨g,0,none⟩) l.length cap) (l.set i y):=⟨hm03.objB (fun e=>hgn e.symm) H.out.box,hrow3,fun q hq=>by
  rcases List.mem_or_eq_of_mem_set hq with hq|hq
  ·exact H.out.ids q hq
  ·rw[hq];exact hlj,H.out.ne,by rw[List.length_set];exact H.out.few⟩
 obtain⟨g4,cap4,cur4,he4,hg4,-,hsz4,-,-,hp4⟩:=hD3.at j (by rw[List.length_set];exact hj);rw[List.length_set]at he4
 cases he4
 refine hK _ _ ?_;clear hK K;try simp only[qC]
 refine zC 179 32 hj ?_;simp only[qC];refine zP rfl (fun K hK=>?_);refine xU 24 (j*32) (qA x) (qQ _) 32 hic hg4 (fun w5 hB5 hm5=>?_)
 have hrow5:=hp4 x w5 hli hB5
 have HR:Hid (DgTo w hb base (.slice (some ⟨g,0,none⟩) l.length cap) (swp l i j) w5):=O ⟨_,⟨hm5.objB (fun e=>hgn e.symm) hD3.box,by rw[HXY.out];exact hrow5,fun q hq=>by
  rw[HXY.out]at hq
  rcases List.mem_or_eq_of_mem_set hq with hq|hq
  ·exact hD3.ids q hq
  ·rw[hq];exact hli,H.out.ne,by rw[swp_len];exact H.out.few⟩,(hm03.mono (fun k _ e=>.inr (by have e':k=g:=e;rw[e'];rfl))).trans hm5 (fun k _ e=>.inr (by have e':k=g:=e;rw[e'];rfl)),fun q hq=>.inl hq⟩
 refine hK _ _ ?_;clear hm3 hm5 hB3 hB5 hrow3 hrow5 hp4 hg4 hD3 hm03;clear hK K;simp only[qB];clear hS;go_wp2
 go_end0
 exact⟨rfl,HR.out⟩
end
section
variable{P:Program}{w:iN}{o:Oper}{a:Act}
theorem exec_assert(x:Operand)(ti t:TypeId)(v:Value)(ho:o.op=.typeAssert x ti t false)(hx:a.eval x=.iface t v)(hn:(∀ms,P.underlying t≠some (.interface ms))/\(P.underlying t).isSome=true):(execOp a.eval o).run P w=.ok (.value v) w:=by
 unfold execOp;simp only[ho,hx];obtain⟨hn,hs⟩:=hn;obtain⟨d,hd⟩:=Option.isSome_iff_exists.1 hs
 cases d<;>simp[Instr.typeAssert,run_underlying hd]
 exact absurd hd (hn _)
theorem tL(x:Operand)(t:TypeId)(v:Value)(ho:o.op=.makeInterface t x)(hx:a.eval x=v)(hn:(∀ms,P.underlying t≠some (.interface ms))/\(P.underlying t).isSome=true):(execOp a.eval o).run P w=.ok (.value (.iface t v)) w:=by
 subst hx;unfold execOp;simp only[ho];obtain⟨hn,hs⟩:=hn;obtain⟨d,hd⟩:=Option.isSome_iff_exists.1 hs
 cases d<;>simp[Instr.makeInterface,run_underlying hd]
 exact absurd hd (hn _)
end
theorem tS{α:Type}{enc:α->List Value}{k:Nat}(hk:∀x,(enc x).length=k):∀(l:List α)(i:Nat),i<=l.length->(l.flatMap enc).take (i*k)=(l.take i).flatMap enc:=by
 intro l
 induction l with
 |nil=>intro i hi;simp
 |cons x l ih=>
  intro i hi
  cases i with
  |zero=>simp
  |succ i=>
   have hi':i<=l.length:=by simpa using hi
   rw[List.flatMap_cons,List.take_succ_cons,List.flatMap_cons,<-ih i hi',Nat.succ_mul,List.take_append,hk,List.take_of_length_le (by rw[hk];omega),show i*k+k-k=i*k by omega]
theorem wp_gatV{α:Type}(enc:α->List Value)(s x:Operand)(t e:TypeId)(z:Value)(k bytes:Nat)(ho:o.op=.call { callee:=.builtin .append,args:=#[s,x],argTypes:=#[t,t] })
 (ht:P.underlying t=some (.slice e))(hi:(P.info? e).map (fun i=>(i.zero,i.size,i.bytes))=some (some z,k,bytes))(hzs:z.cells.size=k)(hk0:0<k)(h1:∀x,∀c∈enc x,c.oneCell'=true)
 (base:Nat)(v:Value)(l:List α)(hs:a.eval s=v)(hown:Gat enc e k base w v l)(u:Value)(m:List α)(hx:a.eval x=u)(hsrc:Src w k u m.length (m.flatMap enc))(h63:l.length+m.length<=maxLen)(hlen:(l.length+m.length)*bytes<=140737488355328)(hbase:base<=w.heap.size)
 (h:∀v' w',Gat enc e k base w' v' (l++m)->Mod (fun q=>v.ownBlock=some q) w w'->(v'.ownBlock=v.ownBlock\/v'.ownBlock=some w.heap.size)->K (a.put o.dst v') w'):o.wp P a w K Q:=by
 refine vY s x t e z k bytes ho ht hi hzs hk0 base v l.length _ hs hown u m.length _ hx hsrc (fun c hc=>?_) h63 hlen hbase (fun v' w' ho' hg hv=>?_)
 ·obtain⟨y,_,hy⟩:=List.mem_flatMap.1 hc
  exact h1 y c hy
 ·refine h v' w' ?_ ((Mod.refl _ _).grown hg (fun k e _=>e)) hv
  unfold Gat;rw[List.length_append,List.flatMap_append];exact ho'
theorem dR:(∀ms,prog.underlying 24≠some (.interface ms))/\(prog.underlying 24).isSome=true:=⟨fun ms h=>(by rw[underlying24]at h;cases h),by rw[underlying24];rfl⟩
theorem pdg_noIface:(∀ms,prog.underlying 178≠some (.interface ms))/\(prog.underlying 178).isSome=true:=⟨fun ms h=>(by rw[underlying178]at h;cases h),by rw[underlying178];rfl⟩
section
variable{w:iN}{hb base:Nat}{v:Value}{l:List iK}
theorem dgPush_any(h:DgI w hb base v l)(hbw:base<=w.heap.size)(x:iK)(hx:x.length=32)(hfew:l.length<65536):Calls prog 347 #[iO hb,.iface 24 (.agg (qA x))] w (fun e w'=>e=.returned (.tuple #[])/\DgTo w hb base v (l++[x]) w'):=by
 have H:=O h;have hbn:=h.ne;have hbs:hb<w.heap.size:=(Array.getElem?_eq_some_iff.1 h.box).1;have hic:(qA x).size=32:=by rw[qD,hx]
 have HE:=O (pG hx);obtain⟨ad,cap,rfl⟩:=h.row.slice;clear h;go_enter func347,ntmps347;go_upto_region 0 with(fail)
 have hS:Mod (fun k=>(Value.slice ad l.length cap).ownBlock=some k) w w.drew:=(Mod.refl _ _).drew;have HD:=O (H.out.keep0 (Mod.refl qJ w).drew)
 refine zZ [3,3,3,0,3,1,1,1,3,2] [9] (fun w'=>Mod (fun k=>(Value.slice ad l.length cap).ownBlock=some k) w w') hS ?_;simp only[qB]
 refine qE 179 (fun w' hS=>hS.cell (fun e=>hbn hb e rfl) H.out.cell) ?_;simp only[qB]
 refine cF rfl (exec_assert _ _ 24 (.agg (qA x)) (by rfl) (by rfl) dR) hS ?_;try simp only[qC]
 refine qH rfl (fun K hK=>?_);refine kK 179 (.agg (qA x)) (.agg (qA (List.replicate 32 0))) 32 hic (fun w3 hB3 hm3 hs3=>?_)
 have hsrc:=uK (enc:=iI) (e:=24) (x:=x) jL (by rw[HE.out];exact hB3);replace HD:=O (HD.out.keep0 hm3)
 have hS3:Mod (fun k=>(Value.slice ad l.length cap).ownBlock=some k) w w3:=hS.trans hm3 (fun _ _ h=>h.elim);refine hK _ _ hS3 ?_;clear hK K;try simp only[qC]
 refine qH rfl (fun K hK=>?_)
 refine wp_gatV iI _ _ 179 24 (.agg (qA (List.replicate 32 0))) 32 32 (by rfl) underlying179 tH (by kernel_rfl) (by omega) jD base _ l (by rfl) HD.out.row _ [x] (by rfl) hsrc (by unfold maxLen;simp;omega) (by simp;omega) (by have:=hS3.size;omega) (fun v4 w4 hg4 hm4 hvv4=>?_)
 have hS4:Mod (fun k=>(Value.slice ad l.length cap).ownBlock=some k) w w4:=hS3.trans hm4 (fun k _ e=>e);have hbx4:=hm4.obj (b:=hb) (fun e=>hbn hb e rfl) HD.out.box
 have hv1:v4.oneCell'=true:=jJ hg4
 have hn4:∀q,v4.ownBlock=some q->q≠hb:=fun q hq=>by
  rcases hvv4 with e|e
  ·rw[e]at hq;exact hbn q hq
  ·rw[e]at hq
   have:=Option.some.inj hq;have:=hS3.size;omega
 refine hK _ _ hS4 ?_;clear hK K;simp only[qB];refine zP rfl (fun K hK=>?_);refine zR 179 0 v4 hbx4 (fun w5 hB5 hm5=>?_) (hoff:=by simp) (h1:=hv1)
 replace hB5:w5.heap[hb]?=some (.cells #[v4] 179 (0,0)):=hB5
 have HR:Hid (DgTo w hb base (.slice ad l.length cap) (l++[x]) w5):=O ⟨v4,⟨hB5,hg4.keep hm5 (fun q hq e=>hn4 q hq e),fun q hq=>by
  rcases List.mem_append.1 hq with hq|hq
  ·exact H.out.ids q hq
  ·simp at hq;rw[hq];exact hx,hn4,by simp;omega⟩,(hS4.mono (fun _ _ h=>.inr h)).trans hm5 (fun _ _ h=>.inl h),fun q hq=>by
  rcases hvv4 with e|e
  ·rw[e]at hq;exact .inl hq
  ·rw[e]at hq
   have:=Option.some.inj hq;have:=hS3.size
   exact .inr (by omega)⟩
 clear hS hS3 hS4 hm4 hm5 hB3 hm3 hB5 hg4 hbx4 hsrc HD;refine hK _ _ ?_;clear hK K;simp only[qB];go_wp2
 go_end0
 exact⟨rfl,HR.out⟩
def PopR(w:iN)(hb base:Nat)(v:Value)(l:List iK):iJ:=fun e w'=>e=.returned (.iface 24 (.agg (qA (kB l (l.length-1)))))/\DgTo w hb base v l.dropLast w'
theorem dgPop_any(h:DgI w hb base v l)(hbw:base<=w.heap.size)(hne:0<l.length):Calls prog 346 #[iO hb] w (PopR w hb base v l):=by
 have H:=O h;have hbl:=h.ne;have hbhw:hb<w.heap.size:=(Array.getElem?_eq_some_iff.1 h.box).1;have hfew:=h.few
 obtain⟨g,cap,cur,rfl,hg,hci,hszi,hbg,hli,-⟩:=h.at (l.length-1) (by omega);have hrow:=h.row;have hto:=owns_to hrow (i:=l.length-1) (by omega)
 have hcap:l.length<=cap:=by
  rcases hrow.2 with⟨h1,h2⟩|⟨g',cap',cur',h1,h2,h3,h4,h5⟩
  ·omega
  ·cases h1;exact h4
 have hd:l.dropLast=l.take (l.length-1):=List.dropLast_eq_take;have hft:=tS jL l (l.length-1) (by omega)
 have hlt:(l.take (l.length-1)).length=l.length-1:=by rw[List.length_take];omega
 unfold PopR;obtain⟨x,hx⟩:∃x,kB l (l.length-1)=x:=⟨_,rfl⟩;have hic:=qD (kB l (l.length-1));rw[hli]at hic;rw[hx]at hic hci hli |-
 obtain⟨n1,hn1⟩:∃n,l.length-1=n:=⟨_,rfl⟩;rw[hn1]at hto hft hlt hci hszi hd;obtain⟨sv,hsv⟩:∃q,sliced (some ⟨g,0,none⟩) 0 n1 cap 32=q:=⟨_,rfl⟩
 have HSV:=O hsv;rw[hsv]at hto;have HTO:=O hto;have hs1:sv.oneCell'=true:=by rw[<-hsv];rfl
 have HD:=O hd;have HFT:=O hft;have HLT:=O hlt;clear h hrow hto hsv hd hft hlt hx;go_enter func346,ntmps346;go_upto_region 1 with(fail)
 have hS:Mod qJ w w.drew:=(Mod.refl _ _).drew;refine zZ [3,3,0,3,3,0,3,3,3,0,1,2] [11] (fun w'=>Mod qJ w w') hS ?_;simp only[qB]
 refine qE 179 (fun w' hS=>hS.cell id H.out.cell) ?_;simp only[qB];refine qE 179 (fun w' hS=>hS.cell id H.out.cell) ?_;simp only[qC];refine xF ?_;simp only[qC]
 refine vZ (n1:Int) ?_;simp only[qC];refine dJ _ _ _ _ _ _ _ _ _ rfl rfl rfl rfl underlying179 (n:=32) (by kernel_rfl) (by omega) ?_;simp only[qC]
 refine zJ 24 (fun w' hS=>hci.keep hS id) 32 hic ?_;simp only[qC];refine qH rfl (fun K hK=>?_);refine zB eC (fun w3 hB3 hm3 hs3=>?_);have hS3:=hS.trans0 hm3
 refine hK _ _ hS3 ?_;clear hK K;try simp only[qC]
 refine zP rfl (fun K hK=>?_);refine qT 24 (qA x) (qQ _) 32 hic hB3 (fun w4 hB4 hm4=>?_) (hoff:=by rw[hic,qD];simp)
 have hS4:Mod qJ w w4:=hS3.transB hm4 hS.size;refine hK _ _ ?_;clear hK K;simp only[qB];have hwd:w.heap.size<=w.drew.heap.size:=hS.size
 generalize hb3:w.drew.heap.size=b3 at*;have H4:=O (H.out.keep0 hS4);have HM4:=O hS4;clear hS hS3 hS4 hm3 hm4 hB3 hci hg;go_upto_region 2 with(fail)
 have hS:Mod qJ w4 w4.drew:=(Mod.refl _ _).drew;refine zZ [3,3,3,0,3,3,0,3,3,3,3,2] [11] (fun w'=>Mod qJ w4 w') hS ?_;simp only[qB]
 refine qE 179 (fun w' hS=>hS.cell id H4.out.cell) ?_;simp only[qB];refine qE 179 (fun w' hS=>hS.cell id H4.out.cell) ?_;simp only[qC];refine xF ?_;simp only[qC]
 refine vZ (n1:Int) ?_;simp only[qC];refine vH 179 24 _ _ _ _ _ n1 32 rfl rfl rfl rfl underlying179 (by kernel_rfl) (by omega) ?_;simp only[qB]
 refine zP rfl (fun K hK=>?_);rw[HSV.out];refine zR 179 0 sv (hS.obj id H4.out.box) (fun w5 hB5 hm5=>?_) (hoff:=by simp) (h1:=hs1)
 replace hB5:w5.heap[hb]?=some (.cells #[sv] 179 (0,0)):=hB5
 have hM5:Mod (fun k=>k=hb) w w5:=((HM4.out.trans0 hS).mono (fun _ _ h=>h.elim)).trans hm5 (fun _ _ h=>h)
 have hrow5:kI base w5 sv (l.take n1):=by
  have h1:=HTO.out.1
  have h2:kI base w sv (l.take n1):=by
   unfold kI Gat;rw[HLT.out,<-HFT.out];exact h1
  exact h2.keep hM5 (fun q hq e=>hbl q (by rw[<-HTO.out.2];exact hq) e)
 have HR:Hid (DgTo w hb base (.slice (some ⟨g,0,none⟩) l.length cap) l.dropLast w5):=O ⟨sv,⟨hB5,by rw[HD.out];exact hrow5,fun q hq=>by
  rw[HD.out]at hq
  exact H.out.ids q (List.mem_of_mem_take hq),fun q hq=>hbl q (by rw[<-HTO.out.2];exact hq),by rw[HD.out,HLT.out];omega⟩,hM5.mono (fun _ _ h=>.inl h),fun q hq=>.inl (by rw[<-HTO.out.2];exact hq)⟩
 have hB45:=hm5.objB (b:=b3) (by omega) (hS.obj id hB4);refine hK _ _ ?_;clear hK K;simp only[qB];clear hS hm5 hB5 hM5 hrow5 hB4;go_upto_region 3 with(fail)
 refine qL [1,1,3] ?_;simp only[qB];refine qY 24 (CellsAt.whole hB45) 32 hic ?_;try simp only[qC]
 refine cF rfl (tL _ 24 (.agg (qA x)) (by rfl) (by rfl) dR) trivial ?_;simp only[qB];clear hB45;go_wp2;go_ret;exact⟨rfl,HR.out⟩
end
section
variable{P:Program}{w:iN}{o:Oper}{a:Act}
theorem exec_quo2(t:TypeId)(x y:Operand)(yt:TypeId)(m d:Int)(ho:o.op=.binOp .quo t x y yt)(hx:a.eval x=.int .i64 m)(hy:a.eval y=.int .i64 2)(hd:Int.tdiv m 2=d)(h1:-9223372036854775808<=d)(h2:d<=9223372036854775807):(execOp a.eval o).run P w=.ok (.value (.int .i64 d)) w:=by
 subst hd;have hw:=bE h1 h2;unfold execOp
 simp[ho,hx,hy,eqGuard,binOp,Op.intArith,Op.intDiv,hw]
end
section
variable{w:iN}{hb base:Nat}{v:Value}{l:List iK}{o:Oper}{a:Act}
theorem pR(h:DgI w hb base v l)(x y z:Operand)(ts:Array TypeId)(i j:Nat)(ho:o.op=.call { callee:=.invoke x "Less",args:=#[y,z],argTypes:=ts })(hx:a.eval x=.iface 178 (iO hb))(hy:a.eval y=.int .i64 i)(hz:a.eval z=.int .i64 j):
 (execOp a.eval o).run prog w=.ok (.enter 345 #[v,.int .i64 i,.int .i64 j]) w:=
 aG x "Less" [y,z] ts ho _ _ hx 345 v (fun n=>run_methV n 178 179 _ "Less" 345 v _ meth_Less underlying178 underlying179 rfl h.cell) pTypes _ func345 rfl (by kernel_rfl) [.int .i64 i,.int .i64 j] (by simp[hy,hz])
theorem eZ(h:DgI w hb base v l)(x y z:Operand)(ts:Array TypeId)(i j:Nat)(ho:o.op=.call { callee:=.invoke x "Swap",args:=#[y,z],argTypes:=ts })(hx:a.eval x=.iface 178 (iO hb))(hy:a.eval y=.int .i64 i)(hz:a.eval z=.int .i64 j):
 (execOp a.eval o).run prog w=.ok (.enter 348 #[v,.int .i64 i,.int .i64 j]) w:=
 aG x "Swap" [y,z] ts ho _ _ hx 348 v (fun n=>run_methV n 178 179 _ "Swap" 348 v _ meth_Swap underlying178 underlying179 rfl h.cell) pTypes _ func348 rfl (by kernel_rfl) [.int .i64 i,.int .i64 j] (by simp[hy,hz])
theorem inv_Len(h:DgI w hb base v l)(x:Operand)(ts:Array TypeId)(ho:o.op=.call { callee:=.invoke x "Len",args:=#[],argTypes:=ts })(hx:a.eval x=.iface 178 (iO hb)):
 (execOp a.eval o).run prog w=.ok (.enter 105 #[v]) w:=
 aG x "Len" [] ts ho _ _ hx 105 v (fun n=>run_methV n 178 179 _ "Len" 105 v _ meth_Len underlying178 underlying179 rfl h.cell) pTypes _ func105 rfl (by kernel_rfl) [] rfl
theorem inv_Push(u:Value)(x y:Operand)(ts:Array TypeId)(ho:o.op=.call { callee:=.invoke x "Push",args:=#[y],argTypes:=ts })(hx:a.eval x=.iface 178 (iO hb))(hy:a.eval y=u):
 (execOp a.eval o).run prog w=.ok (.enter 347 #[iO hb,u]) w:=
 aG x "Push" [y] ts ho _ _ hx 347 _ (fun n=>run_methP n 178 179 _ "Push" 347 meth_Push underlying178) pTypes _ func347 rfl (by kernel_rfl) [u] (by simp[hy])
theorem inv_Pop(x:Operand)(ts:Array TypeId)(ho:o.op=.call { callee:=.invoke x "Pop",args:=#[],argTypes:=ts })(hx:a.eval x=.iface 178 (iO hb)):
 (execOp a.eval o).run prog w=.ok (.enter 346 #[iO hb]) w:=
 aG x "Pop" [] ts ho _ _ hx 346 _ (fun n=>run_methP n 178 179 _ "Pop" 346 meth_Pop underlying178) pTypes _ func346 rfl (by kernel_rfl) [] rfl
theorem dgLen_of(h:DgI w hb base v l):Calls prog 105 #[v] w (pT (.int .i64 l.length) w):=by
 obtain⟨ad,cap,rfl⟩:=h.row.slice;exact dgLen_any w
def HeapTo(w:iN)(hb base:Nat)(v:Value)(l:List iK)(w':iN):Prop:=∃l',l'.Perm l/\Heap iH l' l'.length/\DgTo w hb base v l' w'
def UpRel(w0:iN)(hb base:Nat)(v0:Value)(l:List iK)(i:Value)(w:iN):Prop:=∃(j:Nat)(l':List iK)(v:Value),i=.int .i64 j/\j<l.length/\l'.Perm l/\UpI iH l' l'.length j/\DgI w hb base v l'/\DgM w0 v0 hb w v
theorem heapUp_any(h:DgI w hb base v l)(j:Nat)(hj:j<l.length)(hu:UpI iH l l.length j):Calls prog 185 #[.iface 178 (iO hb),.int .i64 j] w (fun e w'=>e=.returned (.tuple #[])/\HeapTo w hb base v l w'):=by
 have hfew:=h.few;have H0:Hid (UpRel w hb base v l (.int .i64 j) w):=O ⟨j,l,v,rfl,hj,.refl _,hu,h,DgM.refl _ _ _⟩;obtain⟨n,hn⟩:∃n,l.length=n:=⟨_,rfl⟩
 have HN:=O hn;clear h hu;go_enter func185,ntmps185;go_wp2
 go_loopw [1] (UpRel w hb base v l) (fun i _=>(intOf i).toNat)
 case atStart=>exact H0.out
 case round=>
  rename iN=>wr
  obtain⟨j,l',v',rfl,hj,hp,hu,hd,hm⟩:=hrel;have hlen:=hp.length_eq;have HU:=O hu;have HD:=O hd;have HP:=O hp
  by_cases h0:j=0
  ·subst h0
   go_upto_region 0 with(fail);refine qL [3,3,1,3] ?_;simp only[qB];refine yC _ _ _ _ ((0:Nat):Int) 1 rfl rfl rfl rfl (by omega) (by omega) ?_;simp only[qC]
   refine cF rfl (exec_quo2 _ _ _ _ (((0:Nat):Int)-1) 0 (by rfl) (by rfl) (by rfl) (by decide) (by omega) (by omega)) trivial ?_;simp only[qB];go_upto_region 1 with(fail)
   refine qL [3,3,3,3,3,3,3,1,3,3] ?_;simp only[qB];refine qN _ _ _ _ _ _ _ _ rfl rfl rfl rfl rfl true (by decide) ?_;simp only[qB]
   refine xN rfl trivial ?_;simp only[qB];have HT:Hid (HeapTo w hb base v l wr):=O ⟨l',HP.out,HU.out.done (.inl rfl),v',HD.out,hm⟩;clear hu hd hp;go_wp2
   go_end0
   exact⟨rfl,HT.out⟩
  ·have hjp:=aM (i:=j) (by omega)
   obtain⟨q,hq⟩:∃q,bT j=q:=⟨_,rfl⟩;have hqj:q<j:=by omega
   have hz:¬(q:Int)=(j:Int):=by omega
   have htd:Int.tdiv ((j:Int)-1) 2=(q:Int):=by
    rw[show(j:Int)-1=((j-1:Nat):Int) by omega];rw[<-hq];unfold bT;rw[Int.tdiv_eq_ediv_of_nonneg (by omega)]
    simp
   have hls:=aV hd j q (by omega) (by omega);have HQ:=O hq;clear hu hp hq;go_upto_region 0 with(fail);refine qL [3,3,1,3] ?_;simp only[qB]
   refine yC _ _ _ _ (j:Int) 1 rfl rfl rfl rfl (by omega) (by omega) ?_;simp only[qC]
   refine cF rfl (exec_quo2 _ _ _ _ ((j:Int)-1) q (by rfl) (by rfl) (by rfl) htd (by omega) (by omega)) trivial ?_;simp only[qB];clear htd
   by_cases hless:kB l' j<kB l' q
   ·have hlt:decide (kB l' j<kB l' q)=true:=decide_eq_true hless
    rw[hlt]at hls;go_upto_region 1 with(fail);refine qL [3,3,3,3,3,3,3,1,3,3] ?_;simp only[qB];refine xT hz ?_;simp only[qB]
    refine qK (xS (pR HD.out _ _ _ _ j q (by rfl) (by rfl) (by rfl) (by rfl)) hls ?_);rintro e w2 ⟨rfl,hm2⟩;refine⟨_,rfl,?_⟩;try simp only[qB]
    try refine xC _ _ _ rfl rfl rfl ?_
    try simp only[qB]
    have HD2:=O (HD.out.keep0 hm2);have hsw:=aU HD2.out q j (by omega) (by omega);go_upto_region 2 with(fail);refine qL [3,3,3,1] ?_;simp only[qB]
    refine qK (xS (eZ HD2.out _ _ _ _ q j (by rfl) (by rfl) (by rfl) (by rfl)) hsw ?_);rintro e w3 ⟨rfl,v3,hd3,hm3⟩;have HD3:=O hd3
    have hM3:DgM w v hb w3 v3:=(hm.trans0 hm2).trans hm3;refine⟨_,rfl,?_⟩;simp only[qB]
    have HR:Hid (UpRel w hb base v l (.int .i64 q) w3):=O ⟨q,swp l' q j,v3,rfl,by omega,(eL (by omega) (by omega)).trans HP.out,by
     rw[swp_len,<-HQ.out]
     exact UpI.step (le:=iH) cU HU.out (Nat.le_refl _) (by omega) (by omega) (by rw[HQ.out];exact cV hless),HD3.out,hM3⟩
    clear hd hd3 hm hm2 hm3 hM3 hls hsw hless hlt;go_wp2
    go_roundw
    case rel=>exact HR.out
    case measure=>simp[intOf];omega
   ·have hlt:decide (kB l' j<kB l' q)=false:=decide_eq_false hless
    rw[hlt]at hls;go_upto_region 1 with(fail);refine qL [3,3,3,3,3,3,3,1,3,3] ?_;simp only[qB];refine xT hz ?_;simp only[qB]
    refine qK (xS (pR HD.out _ _ _ _ j q (by rfl) (by rfl) (by rfl) (by rfl)) hls ?_);rintro e w2 ⟨rfl,hm2⟩;refine⟨_,rfl,?_⟩;try simp only[qB]
    try refine xC _ _ _ rfl rfl rfl ?_
    try simp only[qB]
    have HT:Hid (HeapTo w hb base v l w2):=O ⟨l',HP.out,HU.out.done (.inr (by rw[HQ.out];exact hless)),v',HD.out.keep0 hm2,hm.trans0 hm2⟩
    clear hd hm hm2 hls hless hlt;go_wp2
    go_end0
    exact⟨rfl,HT.out⟩
def IsB(e:Ending):Prop:=∃b:Bool,e=.returned (.bool b)
def DownTo(w:iN)(hb base:Nat)(v:Value)(l:List iK)(n:Nat)(w':iN):Prop:=∃l',l'.Perm l/\Heap iH l' n/\(∀k,n<=k->kB l' k=kB l k)/\DgTo w hb base v l' w'
def DownRel(w0:iN)(hb base:Nat)(v0:Value)(l:List iK)(n:Nat)(i:Value)(w:iN):Prop:=∃(j:Nat)(l':List iK)(v:Value),i=.int .i64 j/\j<=n/\(n=0\/j<n)/\l'.Perm l/\DownI iH l' n j/\(∀k,n<=k->kB l' k=kB l k)/\DgI w hb base v l'/\DgM w0 v0 hb w v
theorem heapDown_any(h:DgI w hb base v l)(n:Nat)(hn:n<l.length)(hu:DownI iH l n 0):Calls prog 186 #[.iface 178 (iO hb),.int .i64 (0:Nat),.int .i64 n] w (fun e w'=>IsB e/\DownTo w hb base v l n w'):=by
 have hfew:=h.few;have H0:Hid (DownRel w hb base v l n (.int .i64 (0:Nat)) w):=O ⟨0,l,v,rfl,by omega,by omega,.refl _,hu,fun _ _=>rfl,h,DgM.refl _ _ _⟩
 clear h hu;go_enter func186,ntmps186;go_upto_region 1 with(fail);go_wp2
 go_loopw [7] (DownRel w hb base v l n) (fun i _=>n-(intOf i).toNat)
 case atStart=>exact H0.out
 case round=>
  rename iN=>wr
  obtain⟨j,l',v',rfl,hjn,hjn2,hp,hu,hfx,hd,hm⟩:=hrel;have hlen:=hp.length_eq;have HU:=O hu;have HD:=O hd;have HP:=O hp;have HF:=O hfx
  have hj1:(2:Int)*(j:Int)=((2*j:Nat):Int):=by omega
  clear hu hp hfx hd;go_upto_region 2 with(fail);refine qL [3,3,3,3] ?_;simp only[qB]
  refine yT _ _ _ _ 2 (j:Int) ((2*j:Nat):Int) rfl rfl rfl rfl hj1 (by omega) (by omega) ?_;simp only[qC];refine jH ((2*j+1:Nat):Int) ?_;simp only[qB]
  clear hj1
  by_cases hleaf:n<=2*j+1
  ·have hz:((2*j+1:Nat):Int)>=(n:Int):=by omega
   go_upto_region 3 with(fail);refine qL [3,3,3,3,3,3,3] ?_;simp only[qB];refine qN _ _ _ _ _ _ _ _ rfl rfl rfl rfl rfl true (decide_eq_true (by omega)) ?_
   simp only[qB];have HT:Hid (DownTo w hb base v l n wr):=O ⟨l',HP.out,HU.out.leaf hleaf,HF.out,v',HD.out,hm⟩;clear hm;go_wp2;go_ret;exact⟨⟨_,rfl⟩,HT.out⟩
  ·have hz:¬((2*j+1:Nat):Int)>=(n:Int):=by omega
   go_upto_region 3 with(fail);refine qL [3,3,3,3,3,3,3] ?_;simp only[qB];refine qN _ _ _ _ _ _ _ _ rfl rfl rfl rfl rfl false (decide_eq_false (by omega)) ?_
   simp only[qB];refine qN _ _ _ _ _ _ _ _ rfl rfl rfl rfl rfl false (by simp only[vW,decide_eq_false_iff_not];omega) ?_;simp only[qB];go_upto_region 5 with(fail)
   refine qL [3,3,3] ?_;simp only[qB];refine jH ((2*j+2:Nat):Int) ?_;simp only[qB]
   by_cases hj2:2*j+2<n
   ·have hz2:((2*j+2:Nat):Int)<(n:Int):=by omega
    have hls:=aV HD.out (2*j+2) (2*j+1) (by omega) (by omega)
    by_cases hless:kB l' (2*j+2)<kB l' (2*j+1)
    ·have hlt:decide (kB l' (2*j+2)<kB l' (2*j+1))=true:=decide_eq_true hless
     rw[hlt]at hls;go_upto_region 6 with(fail);refine qL [3,3,3,3,3,3,3,1,3] ?_;simp only[qB];refine xD hz2 ?_;simp only[qB]
     refine qK (xS (pR HD.out _ _ _ _ (2*j+2) (2*j+1) (by rfl) (by rfl) (by rfl) (by rfl)) hls ?_);rintro e w2 ⟨rfl,hm2⟩
     have hmm2:DgM w v hb w2 v':=hm.trans0 hm2;refine⟨_,rfl,?_⟩;simp only[qB]
     have HC:Hid (∀k,0<k->k<n->bT k=j->iH (kB l' (2*j+2)) (kB l' k)):=O (fun k h0 hk hpk=>by
      rcases par_of hpk h0 with rfl|rfl
      ·exact cV hless
      ·exact leB_refl _)
     have HDw2:=O (HD.out.keep0 hm2);have hls2:=aV HDw2.out (2*j+2) j (by omega) (by omega)
     by_cases hless2:kB l' (2*j+2)<kB l' j
     ·have hlt2:decide (kB l' (2*j+2)<kB l' j)=true:=decide_eq_true hless2
      rw[hlt2]at hls2;go_upto_region 8 with(fail);refine qL [3,3,3,1,3] ?_;simp only[qB]
      refine qK (xS (pR HDw2.out _ _ _ _ (2*j+2) j (by rfl) (by rfl) (by rfl) (by rfl)) hls2 ?_);rintro e w4 ⟨rfl,hm4⟩;refine⟨_,rfl,?_⟩;try simp only[qB]
      try refine xC _ _ true (by rfl) (by rfl) (by rfl) ?_
      try simp only[qB]
      have HD4:=O (HDw2.out.keep0 hm4);have hsw:=aU HD4.out j (2*j+2) (by omega) (by omega);go_upto_region 9 with(fail);refine qL [3,3,3,1] ?_
      simp only[qB];refine qK (xS (eZ HD4.out _ _ _ _ j (2*j+2) (by rfl) (by rfl) (by rfl) (by rfl)) hsw ?_);rintro e w5 ⟨rfl,v5,hd5,hm5⟩
      have HD5:=O hd5;have hM5:DgM w v hb w5 v5:=(hmm2.trans0 hm4).trans hm5;refine⟨_,rfl,?_⟩;simp only[qB]
      have HR:Hid (DownRel w hb base v l n (.int .i64 ((2*j+2:Nat):Int)) w5):=O ⟨2*j+2,swp l' j (2*j+2),v5,rfl,by omega,by omega,(eL (by omega) (by omega)).trans HP.out,HU.out.step (by omega) (by omega) (by omega) (by unfold bT;omega) (cV hless2) HC.out,fun k hk=>by
       rw[gU (by omega) (by omega),if_neg (by omega),if_neg (by omega)]
       exact HF.out k hk,HD5.out,hM5⟩
      clear hd5 hm4 hm5 hM5 hls2 hsw hless2 hlt2;go_wp2
      go_roundw
      case rel=>exact HR.out
      case measure=>simp[intOf];omega
     ·have hlt2:decide (kB l' (2*j+2)<kB l' j)=false:=decide_eq_false hless2
      rw[hlt2]at hls2;go_upto_region 8 with(fail);refine qL [3,3,3,1,3] ?_;simp only[qB]
      refine qK (xS (pR HDw2.out _ _ _ _ (2*j+2) j (by rfl) (by rfl) (by rfl) (by rfl)) hls2 ?_);rintro e w4 ⟨rfl,hm4⟩;refine⟨_,rfl,?_⟩;try simp only[qB]
      try refine xC _ _ false (by rfl) (by rfl) (by rfl) ?_
      try simp only[qB]
      have HT:Hid (DownTo w hb base v l n w4):=O ⟨l',HP.out,DownI.stop (le:=iH) cU HU.out (show iH (kB l' j) (kB l' (2*j+2))from hless2) HC.out,HF.out,v',HDw2.out.keep0 hm4,hmm2.trans0 hm4⟩
      clear hm4 hls2 hless2 hlt2;go_wp2;go_ret;exact⟨⟨_,rfl⟩,HT.out⟩
    ·have hlt:decide (kB l' (2*j+2)<kB l' (2*j+1))=false:=decide_eq_false hless
     rw[hlt]at hls;go_upto_region 6 with(fail);refine qL [3,3,3,3,3,3,3,1,3] ?_;simp only[qB];refine xD hz2 ?_;simp only[qB]
     refine qK (xS (pR HD.out _ _ _ _ (2*j+2) (2*j+1) (by rfl) (by rfl) (by rfl) (by rfl)) hls ?_);rintro e w2 ⟨rfl,hm2⟩
     have hmm2:DgM w v hb w2 v':=hm.trans0 hm2;refine⟨_,rfl,?_⟩;simp only[qB]
     have HC:Hid (∀k,0<k->k<n->bT k=j->iH (kB l' (2*j+1)) (kB l' k)):=O (fun k h0 hk hpk=>by
      rcases par_of hpk h0 with rfl|rfl
      ·exact leB_refl _
      ·exact hless)
     have HDw2:=O (HD.out.keep0 hm2);have hls2:=aV HDw2.out (2*j+1) j (by omega) (by omega)
     by_cases hless2:kB l' (2*j+1)<kB l' j
     ·have hlt2:decide (kB l' (2*j+1)<kB l' j)=true:=decide_eq_true hless2
      rw[hlt2]at hls2;go_upto_region 8 with(fail);refine qL [3,3,3,1,3] ?_;simp only[qB]
      refine qK (xS (pR HDw2.out _ _ _ _ (2*j+1) j (by rfl) (by rfl) (by rfl) (by rfl)) hls2 ?_);rintro e w4 ⟨rfl,hm4⟩;refine⟨_,rfl,?_⟩;try simp only[qB]
      try refine xC _ _ true (by rfl) (by rfl) (by rfl) ?_
      try simp only[qB]
      have HD4:=O (HDw2.out.keep0 hm4);have hsw:=aU HD4.out j (2*j+1) (by omega) (by omega);go_upto_region 9 with(fail);refine qL [3,3,3,1] ?_
      simp only[qB];refine qK (xS (eZ HD4.out _ _ _ _ j (2*j+1) (by rfl) (by rfl) (by rfl) (by rfl)) hsw ?_);rintro e w5 ⟨rfl,v5,hd5,hm5⟩
      have HD5:=O hd5;have hM5:DgM w v hb w5 v5:=(hmm2.trans0 hm4).trans hm5;refine⟨_,rfl,?_⟩;simp only[qB]
      have HR:Hid (DownRel w hb base v l n (.int .i64 ((2*j+1:Nat):Int)) w5):=O ⟨2*j+1,swp l' j (2*j+1),v5,rfl,by omega,by omega,(eL (by omega) (by omega)).trans HP.out,HU.out.step (by omega) (by omega) (by omega) (by unfold bT;omega) (cV hless2) HC.out,fun k hk=>by
       rw[gU (by omega) (by omega),if_neg (by omega),if_neg (by omega)]
       exact HF.out k hk,HD5.out,hM5⟩
      clear hd5 hm4 hm5 hM5 hls2 hsw hless2 hlt2;go_wp2
      go_roundw
      case rel=>exact HR.out
      case measure=>simp[intOf];omega
     ·have hlt2:decide (kB l' (2*j+1)<kB l' j)=false:=decide_eq_false hless2
      rw[hlt2]at hls2;go_upto_region 8 with(fail);refine qL [3,3,3,1,3] ?_;simp only[qB]
      refine qK (xS (pR HDw2.out _ _ _ _ (2*j+1) j (by rfl) (by rfl) (by rfl) (by rfl)) hls2 ?_);rintro e w4 ⟨rfl,hm4⟩;refine⟨_,rfl,?_⟩;try simp only[qB]
      try refine xC _ _ false (by rfl) (by rfl) (by rfl) ?_
      try simp only[qB]
      have HT:Hid (DownTo w hb base v l n w4):=O ⟨l',HP.out,DownI.stop (le:=iH) cU HU.out (show iH (kB l' j) (kB l' (2*j+1))from hless2) HC.out,HF.out,v',HDw2.out.keep0 hm4,hmm2.trans0 hm4⟩
      clear hm4 hls2 hless2 hlt2;go_wp2;go_ret;exact⟨⟨_,rfl⟩,HT.out⟩
   ·have hz2:¬((2*j+2:Nat):Int)<(n:Int):=by omega
    go_upto_region 6 with(fail);refine qL [3,3,3,3,3,3,3,1,3] ?_;simp only[qB];refine xT hz2 ?_;simp only[qB];refine xN rfl trivial ?_;simp only[qB]
    have HC:Hid (∀k,0<k->k<n->bT k=j->iH (kB l' (2*j+1)) (kB l' k)):=O (fun k h0 hk hpk=>by
     rcases par_of hpk h0 with rfl|rfl
     ·exact leB_refl _
     ·omega)
    have HDwr:=O (HD.out);have hls2:=aV HDwr.out (2*j+1) j (by omega) (by omega)
    by_cases hless2:kB l' (2*j+1)<kB l' j
    ·have hlt2:decide (kB l' (2*j+1)<kB l' j)=true:=decide_eq_true hless2
     rw[hlt2]at hls2;go_upto_region 8 with(fail);refine qL [3,3,3,1,3] ?_;simp only[qB]
     refine qK (xS (pR HDwr.out _ _ _ _ (2*j+1) j (by rfl) (by rfl) (by rfl) (by rfl)) hls2 ?_);rintro e w4 ⟨rfl,hm4⟩;refine⟨_,rfl,?_⟩;try simp only[qB]
     try refine xC _ _ true (by rfl) (by rfl) (by rfl) ?_
     try simp only[qB]
     have HD4:=O (HDwr.out.keep0 hm4);have hsw:=aU HD4.out j (2*j+1) (by omega) (by omega);go_upto_region 9 with(fail);refine qL [3,3,3,1] ?_
     simp only[qB];refine qK (xS (eZ HD4.out _ _ _ _ j (2*j+1) (by rfl) (by rfl) (by rfl) (by rfl)) hsw ?_);rintro e w5 ⟨rfl,v5,hd5,hm5⟩
     have HD5:=O hd5;have hM5:DgM w v hb w5 v5:=(hm.trans0 hm4).trans hm5;refine⟨_,rfl,?_⟩;simp only[qB]
     have HR:Hid (DownRel w hb base v l n (.int .i64 ((2*j+1:Nat):Int)) w5):=O ⟨2*j+1,swp l' j (2*j+1),v5,rfl,by omega,by omega,(eL (by omega) (by omega)).trans HP.out,HU.out.step (by omega) (by omega) (by omega) (by unfold bT;omega) (cV hless2) HC.out,fun k hk=>by
      rw[gU (by omega) (by omega),if_neg (by omega),if_neg (by omega)]
      exact HF.out k hk,HD5.out,hM5⟩
     clear hd5 hm4 hm5 hM5 hls2 hsw hless2 hlt2;go_wp2
     go_roundw
     case rel=>exact HR.out
     case measure=>simp[intOf];omega
    ·have hlt2:decide (kB l' (2*j+1)<kB l' j)=false:=decide_eq_false hless2
     rw[hlt2]at hls2;go_upto_region 8 with(fail);refine qL [3,3,3,1,3] ?_;simp only[qB]
     refine qK (xS (pR HDwr.out _ _ _ _ (2*j+1) j (by rfl) (by rfl) (by rfl) (by rfl)) hls2 ?_);rintro e w4 ⟨rfl,hm4⟩;refine⟨_,rfl,?_⟩;try simp only[qB]
     try refine xC _ _ false (by rfl) (by rfl) (by rfl) ?_
     try simp only[qB]
     have HT:Hid (DownTo w hb base v l n w4):=O ⟨l',HP.out,DownI.stop (le:=iH) cU HU.out (show iH (kB l' j) (kB l' (2*j+1))from hless2) HC.out,HF.out,v',HDwr.out.keep0 hm4,hm.trans0 hm4⟩
     clear hm4 hls2 hless2 hlt2;go_wp2;go_ret;exact⟨⟨_,rfl⟩,HT.out⟩
theorem heapPush_any(h:DgI w hb base v l)(hbw:base<=w.heap.size)(x:iK)(hx:x.length=32)(hfew:l.length<65536)(hh:Heap iH l l.length):Calls prog 103 #[.iface 178 (iO hb),.iface 24 (.agg (qA x))] w (fun e w'=>e=.returned (.tuple #[])/\HeapTo w hb base v (l++[x]) w'):=by
 have hp:=dgPush_any h hbw x hx hfew;have HU:=O (UpI.snoc (x:=x) hh);have hbl:hb<w.heap.size:=(Array.getElem?_eq_some_iff.1 h.box).1;clear h hh
 go_enter func103,ntmps103;go_upto_region 0 with(fail);refine qL [3,3,1] ?_;simp only[qB];refine qK (xS (inv_Push _ _ _ _ (by rfl) (by rfl) (by rfl)) hp ?_)
 rintro e w2 ⟨rfl,v2,hd2,hm2⟩;refine⟨_,rfl,?_⟩;simp only[qB];have HD2:=O hd2
 have hup:=heapUp_any HD2.out l.length (by simp) (by rw[List.length_append,List.length_singleton];exact HU.out);have hln:=dgLen_of hd2
 rw[List.length_append,List.length_singleton]at hln;clear hd2;go_upto_region 1 with(fail);refine qL [3,3,1,3,1] ?_;simp only[qB]
 refine qK (xS (inv_Len HD2.out _ _ (by rfl) (by rfl)) hln ?_);rintro e w3 ⟨rfl,hw⟩;obtain rfl:=hw.symm;refine⟨_,rfl,?_⟩;try simp only[qC]
 refine vZ (l.length:Int) ?_;simp only[qC];refine qK (xE func185 (hup) ?_);rintro e w4 ⟨rfl,l4,hp4,hh4,v4,hd4,hm4⟩
 have HR:Hid (HeapTo w hb base v (l++[x]) w4):=O ⟨l4,hp4,hh4,v4,hd4,hm2.trans hm4⟩;refine⟨_,rfl,?_⟩;simp only[qB];clear hm2 hp4 hh4 hd4 hm4 hup hln;go_wp2
 go_end0
 exact⟨rfl,HR.out⟩
def HpPopR(w:iN)(hb base:Nat)(v:Value)(l:List iK):iJ:=fun e w'=>∃x l',e=.returned (.iface 24 (.agg (qA x)))/\x.length=32/\(x::l').Perm l/\Heap iH l' l'.length/\(∀y∈l,iH x y)/\DgTo w hb base v l' w'
theorem heapPop_any(h:DgI w hb base v l)(hbw:base<=w.heap.size)(hne:0<l.length)(hh:Heap iH l l.length):Calls prog 106 #[.iface 178 (iO hb)] w (HpPopR w hb base v l):=by
 obtain⟨n,hn⟩:∃n,l.length=n+1:=⟨l.length-1,by omega⟩;rw[hn]at hh;have hln:=dgLen_of h;rw[hn]at hln;have hsw:=aU h 0 n (by omega) (by omega)
 have HD:=O h;have hst:=DownI.start hh (by omega);have hfew:=h.few;have hids:=h.ids;have htop:=Heap.top leB_refl cU hh;have HST:=O hst
 have HTOP:=O htop;have HIDS:=O hids;clear h hh hst htop hids;go_enter func106,ntmps106;go_upto_region 1 with(fail);refine qL [3,1,3,3] ?_;simp only[qB]
 refine qK (xS (inv_Len HD.out _ _ (by rfl) (by rfl)) hln ?_);rintro e w3 ⟨rfl,hw⟩;obtain rfl:=hw.symm;refine⟨_,rfl,?_⟩;try simp only[qC]
 refine vZ (n:Int) ?_;simp only[qB];go_upto_region 2 with(fail);refine qL [3,3,1] ?_;simp only[qB]
 refine qK (xS (eZ HD.out _ _ _ _ 0 n (by rfl) (by rfl) (by rfl) (by rfl)) hsw ?_);rintro e w4 ⟨rfl,v4,hd4,hm4⟩;have HD4:=O hd4;refine⟨_,rfl,?_⟩
 simp only[qB];have hdn:=heapDown_any HD4.out n (by rw[swp_len];omega) HST.out;clear hd4 hsw;go_upto_region 3 with(fail);refine qL [3,3,1] ?_;simp only[qB]
 refine qK (xE func186 (hdn) ?_);rintro e w5 ⟨⟨b5,rfl⟩,l5,hp5,hh5,hf5,v5,hd5,hm5⟩;have HD5:=O hd5;refine⟨_,rfl,?_⟩;simp only[qB]
 have hl5:l5.length=n+1:=by rw[hp5.length_eq,swp_len,hn]
 have hpop:=dgPop_any HD5.out (by have:=hm4.1.size;have:=hm5.1.size;omega) (by omega)
 have hx5:kB l5 (l5.length-1)=kB l 0:=by
  rw[hl5,Nat.add_sub_cancel,hf5 n (Nat.le_refl _),gU (by omega) (by omega),if_pos rfl]
 have hx32:(kB l 0).length=32:=HIDS.out _ (atD_mem (by omega));have hP5:l5.Perm l:=hp5.trans (eL (by omega) (by omega))
 have hsp:l5=l5.dropLast++[kB l 0]:=by
  have hne5:l5≠[]:=by intro e;rw[e]at hl5;simp at hl5
  have h1:=List.dropLast_concat_getLast hne5
  have h2:l5.getLast hne5=kB l 0:=by
   rw[List.getLast_eq_getElem,<-hx5,at_lt (by omega)]
  rw[h2]at h1;exact h1.symm
 have HFIN:Hid ((kB l 0::l5.dropLast).Perm l/\Heap iH l5.dropLast l5.dropLast.length/\∀y∈l,iH (kB l 0) y):=O ⟨by
  refine List.Perm.trans ?_ hP5
  conv=>rhs;rw[hsp]
  exact(List.perm_append_comm (l₁:=[kB l 0]) (l₂:=l5.dropLast)),by
  rw[List.dropLast_eq_take,List.length_take,hl5,Nat.add_sub_cancel,Nat.min_eq_left (by omega)];exact Heap.take hh5,fun y hy=>by
  obtain⟨k,hk,rfl⟩:=List.getElem_of_mem hy;have:=HTOP.out k (by omega)
  rwa[at_lt hk]at this⟩
 unfold PopR at hpop;rw[hx5]at hpop;obtain⟨x,hx⟩:∃x,kB l 0=x:=⟨_,rfl⟩;rw[hx]at hpop hx32 HFIN;clear hp5 hh5 hf5 hd5 hsp hx5 hP5 hx hdn;go_upto_region 4 with(fail)
 refine qL [3,1,3] ?_;simp only[qB];refine qK (xS (inv_Pop _ _ (by rfl) (by rfl)) hpop ?_);rintro e w6 ⟨rfl,v6,hd6,hm6⟩
 have HR:Hid (HpPopR w hb base v l (.returned (.iface 24 (.agg (qA x)))) w6):=O ⟨x,l5.dropLast,rfl,hx32,HFIN.out.1,HFIN.out.2.1,HFIN.out.2.2,v6,hd6,(hm4.trans hm5).trans hm6⟩
 refine⟨_,rfl,?_⟩;simp only[qB];clear hm4 hm5 hm6 hd6 hpop;go_wp2;go_ret;exact HR.out
end
end
section
open Go.RowKit Go.Shelf Go.Maps Go.Sort Go.WideShapes Go.WideMaps Go.Proofs.Tryz Go.Lib
def StrC(cs:iL)(x:ByteArray):Prop:=cs=#[.string x]
def eN(ks:List ByteArray):List ByteArray:=((ks.map (·.data.toList)).mergeSort fun x y=>decide (x<=y)).map fun x=>⟨x.toArray⟩
def ReposOf(l:qU)(names:List ByteArray):Prop:=names.Pairwise (fun a b=>a.data.toList<b.data.toList)/\∀r,r∈names↔0<xL l r
theorem sortS_perm(ks:List ByteArray):(eN ks).Perm ks:=by
 have h:=(List.mergeSort_perm (ks.map (·.data.toList)) (fun x y=>decide (x<=y))).map (fun x:iK=>(⟨x.toArray⟩:ByteArray))
 simpa[eN,List.map_map,Function.comp_def]using h
theorem sortS_sorted{ks:List ByteArray}(hn:ks.Nodup):(eN ks).Pairwise (fun a b=>a.data.toList<b.data.toList):=by
 have tr:∀a b c:iK,decide (a<=b)=true->decide (b<=c)=true->decide (a<=c)=true:=fun a b c h1 h2=>by simp only[decide_eq_true_eq]at*;exact List.le_trans h1 h2
 have tot:∀a b:iK,(decide (a<=b)||decide (b<=a))=true:=fun a b=>by simp only[Bool.or_eq_true,decide_eq_true_eq];exact List.le_total a b
 have h:=List.pairwise_mergeSort tr tot (ks.map (·.data.toList))
 have hnd:(ks.map (·.data.toList)).Nodup:=by
  refine List.pairwise_map.2 (hn.imp fun{a b} hne e=>hne ?_);obtain⟨⟨a⟩⟩:=a;obtain⟨⟨b⟩⟩:=b
  simp at e;rw[e]
 have hnd2:((ks.map (·.data.toList)).mergeSort fun x y=>decide (x<=y)).Nodup:=(List.mergeSort_perm _ _).nodup_iff.2 hnd;unfold eN;rw[List.pairwise_map]
 refine(h.and hnd2).imp fun{a b} hab=>?_;obtain⟨h1,h2⟩:=hab;simp only[decide_eq_true_eq]at h1
 rcases List.le_iff_lt_or_eq.1 h1 with h3|h3
 ·exact h3
 ·exact absurd h3 h2
theorem flatMap_one{α β:Type}(f:α->β):∀l:List α,l.flatMap (fun a=>[f a])=l.map f
 | []=>rfl
 |x::l=>by simp[List.flatMap_cons,flatMap_one f l]
theorem perm_keys{H:Type}(f:MapEntry->Lit×DataW H)(es:List MapEntry):(((es.map f).foldr DataW.insert []).map (fun p=>strOf p.1)).Perm (es.map fun x=>strOf (f x).1):=by
 have:=(sorted_perm (es.map f)).map (fun p=>strOf p.1);rw[List.map_map]at this;exact this
section
variable{w:iN}{mu:Nat}{us:List (ByteArray×Nat)}
theorem keysS_any(w:iN)(mu:Nat):Calls prog 143 #[.map (some mu)] w fun e w'=>e=.returned (.func (.func 204) #[] #[iO w.heap.size])/\w'=w.alloc (.cells #[.map (some mu)] 98):=
 callsIn_wide.1 (AnyZ.keys_in keysA Fence.wide 5 trivial rfl (some mu) w)
theorem sorts_in(m:Nat):AnyZ.SortsIn prog sortedA_ren Fence.wide m:=
 ⟨fun blk off cap ss W hH hblk hsz=>callsIn_wide.2 (AnyM.slices_Sort_string sortA blk off cap ss W hH hblk hsz),
  fun p cap W=>callsIn_wide.2 (AnyM.slices_Sort_string_none sortA p cap W)⟩
theorem owns_uses(hum:MapIs Value.string (fun _=>True) w mu (us.map fun p=>(p.1,tD p.2)))(hsz:∀p∈us,p.1.size<=maxLen)(hlen:us.length<=65536):
 ∃D0:DataW Unit,w.ownsMap prog 9 (fun _=>some (.nil,[])) mu us.length D0/\(strKeys D0).Perm (us.map (·.1.data.toList))/\Maps.size D0=us.length:=by
 obtain⟨⟨es,clk,hb,hkd,hbo,hbn⟩,hnd,_⟩:=hum;have hlen':es.size=us.length:=by have:=congrArg List.length hkd;simpa using this
 have hkeys:es.toList.map (·.key)=us.map fun p=>Value.string p.1:=by
  have:=congrArg (List.map (·.1)) hkd
  simpa[List.map_map,Function.comp_def]using this
 have hkof:∀x∈es.toList,∃s:ByteArray,x.key=.string s/\s.size<=maxLen:=by
  intro x hx;have h1:x.key∈es.toList.map (·.key):=List.mem_map.2 ⟨x,hx,rfl⟩;rw[hkeys]at h1;obtain⟨p,hp,e⟩:=List.mem_map.1 h1;exact⟨p.1,e.symm,hsz p hp⟩
 have hrg:es.toList.map (fun x=>strOf (WideElems.rg (H:=Unit) prog 9 (fun _=>some (.nil,[])) x).1)=us.map (·.1.data.toList):=by
  have h2:es.toList.map (fun x=>strOf (WideElems.rg (H:=Unit) prog 9 (fun _=>some (.nil,[])) x).1)=(es.toList.map (·.key)).map (fun v=>match v with| .string s=>s.data.toList|_=>[]):=by
   rw[List.map_map]
   apply List.map_congr_left
   intro x hx;obtain⟨s,hs,hl⟩:=hkof x hx
   simp[WideElems.rg,WideElems.rd,hs,keyOf_string_mk underlying9 hl,strOf]
  rw[h2,hkeys,List.map_map];rfl
 refine⟨_,⟨es,clk,hb,⟨?_,⟨hbo,hbn,?_⟩,?_⟩,by omega,rfl⟩,?_,?_⟩
 ·unfold maxLen;omega
 ·rw[hkeys]
  have:(us.map fun p=>p.1).Nodup:=by simpa[List.map_map,Function.comp_def]using hnd
  refine List.pairwise_map.2 ((List.pairwise_map.1 this).imp fun hne e=>hne (by simpa using e))
 ·intro x hx
  obtain⟨s,hs,hl⟩:=hkof x hx;exact⟨(.string s.data.toList,.nil),by simp only[WideElems.rd,hs,keyOf_string_mk underlying9 hl,Option.bind_some,Option.map_some]⟩
 ·simp only[strKeys]
  rw[<-hrg];exact perm_keys _ _
 ·simp only[Maps.size]
  rw[(sorted_perm _).length_eq];simp[hlen']
theorem sortedS_any(hum:MapIs Value.string (fun _=>True) w mu (us.map fun p=>(p.1,tD p.2)))(hsz:∀p∈us,p.1.size<=maxLen)(hlen:us.length<=65536):
 Calls prog 142 #[.func (.func 204) #[] #[iO w.heap.size]] (w.alloc (.cells #[.map (some mu)] 98)) (RetN w fun v w'=>Sl true w' (gD w w') 1 StrC v (eN (us.map (·.1)))):=by
 obtain⟨D0,hown,hperm,hsize⟩:=owns_uses hum hsz hlen;have hbl:=hown.lt
 have hseq:SeqGives Fence.wide 2 prog 204 #[iO w.heap.size] encStr (fun ss=>ss.Perm (strKeys D0)) (Maps.size D0) (w.alloc (.cells #[.map (some mu)] 98)):=
  AnyZ.keys_gives (ρ:=keysA_ren) { keysA with } Fence.wide _ trivial rfl (by omega) w.heap.size mu us.length D0 _ (by simp) (by simp) (by
   obtain⟨es,clock,hb,Ft,hs,hD⟩:=hown
   exact⟨es,clock,(Below.heap_alloc _ _ mu hbl).trans hb,Ft,hs,hD⟩)
 have h:=AnyZ.sorted_in sortedA Fence.wide 5 trivial trivial trivial trivial rfl (by omega) (sorts_in _) (enters_of func203 (by kernel_rfl) rfl) 204 #[iO w.heap.size] trivial (enters_of func204 (by kernel_rfl) rfl) _ _ (by rw[hsize];unfold maxLen;omega) (by rw[hsize];omega) _ hseq
 refine(callsIn_wide.1 h).mono ?_;rintro e w' ⟨v,ss,rfl,hp,hrow,hnil,hb⟩
 have hsort:ss.mergeSort (fun x y=>decide (x<=y))=(us.map (·.1.data.toList)).mergeSort (fun x y=>decide (x<=y)):=mergeSort_of_perm (hp.trans hperm)
 have hM:Mod qJ w w':=(zI w _).trans0 ((Mod.of_below hb).mono fun k hk h=>by omega);refine⟨v,rfl,hM,?_⟩
 have hlen2:ss.length=(eN (us.map (·.1))).length:=by
  rw[(sortS_perm _).length_eq,(hp.trans hperm).length_eq];simp
 have hmap:(ss.mergeSort (fun x y=>decide (x<=y))).map encStr=(eN (us.map (·.1))).map Value.string:=by
  rw[hsort];unfold eN;simp[List.map_map,Function.comp_def]
 have hS:=Sl.of_owns (R:=StrC) (css:=(eN (us.map (·.1))).map fun x=>#[.string x]) (l:=eN (us.map (·.1))) hrow (by rw[hmap,List.flatMap_map];exact(flatMap_one _ _).symm) (by simp) ⟨by simp,fun i h h'=>by simp[StrC]⟩ hlen2
 exact hS.mono (fun k hk=>⟨by have h1:=hk.1;simp at h1;omega,hk.2.1⟩) (fun _ _ h=>h)
end
section
variable{w:iN}{bl ml mu:Nat}{limit:Int}{hold:Value}{l:qU}{us:List (ByteArray×Nat)}
theorem LkInv.repos(h:LkInv w bl ml mu limit hold l us):ReposOf l (eN (us.map (·.1)))/\us.length<=65536/\∀p∈us,p.1.size<=128:=by
 have hmem:∀p∈us,∃q∈l,q.1.1=p.1:=fun p hp=>cntOf_pos ((h.uk p.1).1 (List.mem_map.2 ⟨p,hp,rfl⟩))
 refine⟨⟨sortS_sorted h.und,fun r=>by rw[(sortS_perm _).mem_iff];exact h.uk r⟩,?_,fun p hp=>?_⟩
 ·have hsub:∀r∈us.map (·.1),r∈l.map (·.1.1):=fun r hr=>by
   obtain⟨q,hq,e⟩:=cntOf_pos ((h.uk r).1 hr);exact List.mem_map.2 ⟨q,hq,e⟩
  have:=jC h.und hsub;have h2:=h.few
  simp at this;omega
 ·obtain⟨q,hq,e⟩:=hmem p hp
  have:=h.nm q hq;rw[e]at this;unfold uP at this;simp only[Bool.and_eq_true,decide_eq_true_eq]at this;exact this.1
theorem repos_any(h:LkInv w bl ml mu limit hold l us):Calls prog 66 #[iO bl] w (RetN w fun v w'=>∃names,ReposOf l names/\Sl true w' (gD w w') 1 StrC v names):=by
 obtain⟨hR,hlen,hsz⟩:=h.repos;have hc:=h.cell.2.2.1;have hsz':∀p∈us,p.1.size<=maxLen:=fun p hp=>by have:=hsz p hp;unfold maxLen;omega
 go_enter func66,ntmps66;go_upto_region 3 with(go_at_call 141;refine h.made.mono ?_;rintro _ w1 ⟨rfl,hw⟩;obtain rfl:=hw.symm);refine qL [3,3,3,1,1,1,3] ?_
 simp only[qB];refine qG 98 hc ?_;try simp only[qC]
 refine kS rfl ?_;go_wp2_with (go_at_call 143;refine(keysS_any _ mu).mono ?_;rintro _ w2 ⟨rfl,rfl⟩);try simp only[qC]
 refine kS rfl ?_;go_wp2_with (go_at_call 142;refine(sortedS_any h.um hsz' hlen).mono ?_;rintro _ w3 ⟨v,rfl,hm3,hv⟩);simp only[qB];go_wp2;go_ret
 exact⟨v,rfl,hm3,_,hR,hv⟩
end
end
section
open Go.RowKit Go.Shelf Go.Proofs.Tryz Go.Lib
def dS(l:qU)(x:iK):qU:=l.filter fun p=>decide (p.1.2≠x)
def tI(l:qU)(x:iK):Nat:=(l.filter fun p=>decide (p.1.2=x)).length
theorem delL_filter{α β:Type}[DecidableEq α](k:α):∀(l:List (α×β)),(l.map (·.1)).Nodup->jE k l=l.filter fun p=>decide (p.1≠k)
 | [],_=>rfl
 |p::l,h=>by
  simp only[List.map_cons,List.nodup_cons]at h;unfold jE
  by_cases hp:k=p.1
  ·have hall:l.filter (fun p=>decide (p.1≠k))=l:=List.filter_eq_self.2 fun q hq=>by
    have:q.1≠k:=fun e=>h.1 (by rw[<-hp,<-e];exact List.mem_map.2 ⟨q,hq,rfl⟩)
    simpa using this
   rw[if_pos hp,List.filter_cons_of_neg (by simp[hp]),hall]
  ·rw[if_neg hp,List.filter_cons_of_pos (by simpa using fun e=>hp e.symm),delL_filter k l h.2]
theorem unL_filter(l:qU)(k:uN)(h:(l.map (·.1)).Nodup):unL l k=l.filter fun p=>decide (p.1≠k):=by
 unfold unL
 split
 ·exact delL_filter k l h
 ·rename_i hs
  have hn:qR k l=none:=by simpa using hs
  have:=getL_none.1 hn
  exact(List.filter_eq_self.2 fun q hq=>by
   have:q.1≠k:=fun e=>this (e▸List.mem_map.2 ⟨q,hq,rfl⟩)
   simpa using this).symm
theorem nodup_filter{l:qU}{f:uN×Int->Bool}(h:(l.map (·.1)).Nodup):((l.filter f).map (·.1)).Nodup:=h.sublist (List.filter_sublist.map _)
def hasR(rs:List ByteArray)(r:ByteArray):Bool:=rs.any fun a=>decide (a=r)
theorem cY(rs:List ByteArray)(r:ByteArray):hasR rs r=true↔r∈rs:=by
 simp only[hasR,List.any_eq_true,decide_eq_true_eq];exact⟨fun⟨a,h,e⟩=>e▸h,fun h=>⟨r,h,rfl⟩⟩
def fgL(l:qU)(x:iK)(rs:List ByteArray):qU:=l.filter fun p=>decide (¬(hasR rs p.1.1=true/\p.1.2=x))
def fgN(l:qU)(x:iK)(rs:List ByteArray):Nat:=(l.filter fun p=>decide (hasR rs p.1.1=true/\p.1.2=x)).length
theorem fgL_nil(l:qU)(x:iK):fgL l x []=l:=by simp[fgL,hasR]
theorem fgN_nil(l:qU)(x:iK):fgN l x []=0:=by simp[fgN,hasR]
theorem fgL_snoc(l:qU)(x:iK)(rs:List ByteArray)(r:ByteArray)(h:(l.map (·.1)).Nodup):unL (fgL l x rs) (r,x)=fgL l x (rs++[r]):=by
 unfold fgL;rw[unL_filter _ _ (nodup_filter h),List.filter_filter]
 apply List.filter_congr
 intro p _;rw[Bool.eq_iff_iff];simp only[Bool.and_eq_true,decide_eq_true_eq,cY,List.mem_append,List.mem_singleton,Prod.ext_iff,ne_eq]
 constructor
 ·rintro⟨h1,h2⟩ ⟨h3|h3,h4⟩
  ·exact h2 ⟨h3,h4⟩
  ·exact h1 ⟨h3,h4⟩
 ·intro h1
  exact⟨fun⟨h2,h3⟩=>h1 ⟨.inr h2,h3⟩,fun⟨h2,h3⟩=>h1 ⟨.inl h2,h3⟩⟩
theorem getL_fg(l:qU)(x:iK)(rs:List ByteArray)(r:ByteArray)(hr:r∉rs)(h:(l.map (·.1)).Nodup):(qR (r,x) (fgL l x rs)).isSome=(qR (r,x) l).isSome:=by
 have key:∀m:qU,(qR (r,x) m).isSome=true↔(r,x)∈m.map (·.1):=fun m=>by
  have:=getL_none (k:=(r,x)) (l:=m)
  cases hg:qR (r,x) m with
  |none=>simp[this.1 hg]
  |some v=>
   simp only[Option.isSome_some,true_iff];exact Classical.byContradiction fun hn=>by rw[this.2 hn]at hg;cases hg
 rw[Bool.eq_iff_iff,key,key];unfold fgL;simp only[List.mem_map,List.mem_filter,decide_eq_true_eq,cY]
 constructor
 ·rintro⟨p,⟨h1,_⟩,h2⟩;exact⟨p,h1,h2⟩
 ·rintro⟨p,h1,h2⟩;exact⟨p,⟨h1,fun h3=>hr (by have h4:=h3.1;rw[h2]at h4;exact h4)⟩,h2⟩
theorem count_key:∀{l:qU}{k:uN},(l.map (·.1)).Nodup->(l.filter fun p=>decide (p.1=k)).length=if(qR k l).isSome then 1 else 0
 | [],k,_=>by simp[qR]
 |p::l,k,h=>by
  simp only[List.map_cons,List.nodup_cons]at h;have ih:=count_key (k:=k) h.2
  by_cases hp:p.1=k
  ·have hn:qR k l=none:=getL_none.2 (hp▸h.1)
   rw[hn]at ih;simp only[List.filter_cons,hp,decide_true,if_true,List.length_cons,ih]
   simp[qR,hp]
  ·simp only[List.filter_cons,hp,decide_false,Bool.false_eq_true,if_false,ih]
   have hp':¬k=p.1:=fun e=>hp e.symm
   simp[qR,hp']
theorem cT{α:Type}(f g:α->Bool)(h:∀a,¬(f a=true/\g a=true)):∀l:List α,(l.filter fun a=>f a||g a).length=(l.filter f).length+(l.filter g).length
 | []=>rfl
 |a::l=>by
  have ih:=cT f g h l;have:=h a;simp only[List.filter_cons]
  cases hf:f a<;>cases hg:g a<;>simp_all<;>omega
theorem fgN_snoc(l:qU)(x:iK)(rs:List ByteArray)(r:ByteArray)(hr:r∉rs)(h:(l.map (·.1)).Nodup):fgN l x (rs++[r])=fgN l x rs+(if(qR (r,x) l).isSome then 1 else 0):=by
 rw[<-count_key h];unfold fgN;rw[<-cT]
 ·congr 1
  apply List.filter_congr
  intro p _;rw[Bool.eq_iff_iff];simp only[Bool.or_eq_true,decide_eq_true_eq,cY,List.mem_append,List.mem_singleton,Prod.ext_iff]
  constructor
  ·rintro⟨h1|h1,h2⟩
   ·exact .inl ⟨h1,h2⟩
   ·exact .inr ⟨h1,h2⟩
  ·rintro(⟨h1,h2⟩|⟨h1,h2⟩)
   ·exact⟨.inl h1,h2⟩
   ·exact⟨.inr h1,h2⟩
 ·intro p
  simp only[decide_eq_true_eq,cY,Prod.ext_iff];rintro⟨⟨h1,_⟩,h2,_⟩;exact hr (h2▸h1)
theorem fg_all(l:qU)(x:iK)(rs:List ByteArray)(h:∀r,r∈rs↔0<xL l r):fgL l x rs=dS l x/\fgN l x rs=tI l x:=by
 constructor
 ·unfold fgL dS
  apply List.filter_congr
  intro p hp;have:=(cY rs p.1.1).2 ((h p.1.1).2 (dV hp))
  simp[this]
 ·unfold fgN tI
  congr 1
  apply List.filter_congr
  intro p hp;have:=(cY rs p.1.1).2 ((h p.1.1).2 (dV hp))
  simp[this]
theorem fgN_le(l:qU)(x:iK)(rs:List ByteArray):fgN l x rs<=l.length:=List.length_filter_le _ _
section
variable{w0 w:iN}{p:Value}{limit:Int}{l:qU}{F:iM}
theorem repos_at(h:LkAt w0 w p limit l F):Calls prog 66 #[p] w (RetN w fun v w'=>∃names,ReposOf l names/\Sl true w' (gD w w') 1 StrC v names):=by
 obtain⟨_,⟨bl,ml,mu,hold,us,rfl,hi,hF⟩,_,_⟩:=id h;exact repos_any hi
def FgRel(w0 w w1:iN)(p:Value)(limit:Int)(l:qU)(F:iM)(x:iK)(names:List ByteArray)(n i:Value)(wr:iN):Prop:=
 ∃k Fk,k<=names.length/\i=.int .i64 k/\n=.int .i64 (fgN l x (names.take k))/\LkAt w0 wr p limit (fgL l x (names.take k)) Fk/\Mod F w wr/\(∀j,Fk j->F j\/w1.heap.size<=j)/\(∀j,w.heap.size<=j->j<w1.heap.size->wr.heap[j]?=w1.heap[j]?)/\Mod (fun j=>F j) w1 wr
theorem forget_at(h:LkAt w0 w p limit l F)(x:iK)(hx:x.length=32):
 Calls prog 127 #[p,.agg (qA x)] w (fun e w'=>e=.returned (.int .i64 (tI l x))/\LStep w0 w p limit F w' (dS l x)):=by
 obtain⟨bp,rfl⟩:=h.facts.1;have hnd:=h.facts.2.1;have hfew:=h.facts.2.2.2.2.2;go_enter func127,ntmps127;go_upto_region 0 with(fail);refine qL [1,3] ?_;simp only[qB]
 refine qK (zT 24 (fun w1 hB1 hm1 hs1=>?_));replace hB1:w1.heap[w.heap.size]?=some (.cells (qA x) 24 (0,0)):=hB1;simp only[qB];have h1:=h.keep0 hm1
 have hlt:=h.lt;go_upto_region 1 with(fail);refine qL [3,1,3,3] ?_;simp only[qB];refine kS rfl ?_
 go_wp2_with (go_at_call 66;refine(repos_at h1).mono ?_;rintro _ w2 ⟨v,rfl,hm2,names,hnames,hsl⟩;obtain⟨na,nc,rfl,hnl,hna⟩:=id hsl.at);try simp only[qC]
 refine xF ?_;simp only[qB];have hrd:=hm2.obj id hB1;have h2:=h1.keep0 hm2;have hM2:=hm1.trans0 hm2;have hs2:=hm2.size
 have hndn:names.Nodup:=hnames.1.imp fun{a b} hab e=>by rw[e]at hab;exact List.lt_irrefl _ hab
 have hmem:=hnames.2;have HND:=O hndn;have HMEM:=O hmem;have HNA:=O hna;clear hB1 hnames hsl hndn hmem hna h1;go_wp2
 go_loopw [4,6,10] (fun n _ i wx=>FgRel w0 w w2 (iO bp) limit l F x names n i wx) (fun _ _ i _=>names.length-(intOf i).toNat)
 case atStart=>exact⟨0,F,by omega,rfl,by simp[fgN_nil],by simpa[fgL_nil]using h2,hM2.mono (fun _ _ h=>h.elim),fun j hj=>.inl hj,fun _ _ _=>rfl,Mod.refl _ _⟩
 case round=>
  rename_i wr
  obtain⟨k,Fk,hk,rfl,rfl,hA,hM,hFk,hkeep,hMw⟩:=hrel
  by_cases hlt2:k<names.length
  ·have hz:(k:Int)<(names.length:Int):=by omega
   obtain⟨ba,oa,rfl,hba,-,hca⟩:=HNA.out k hlt2;obtain⟨_,-,rfl,hca⟩:=hca k hlt2
   have hnm:wr.cell? ⟨ba,oa+k*1,none⟩=some (.string names[k]):=by
    have h1:=CellsAt.one.1 hca;rw[World.cell?_of_block (w:=w2) (hkeep ba (by have:=hba.1;omega) hba.2)];exact h1
   have hbx:wr.heap[w.heap.size]?=some (.cells (qA x) 24 (0,0)):=(hkeep _ (Nat.le_refl _) (by omega)).trans hrd
   have hcx:CellsAt wr w.heap.size 0 (qA x):=CellsAt.whole hbx
   have hin:names[k]∉names.take k:=fun hm=>by
    have h1:=List.nodup_iff_pairwise_ne.1 HND.out;obtain⟨i,hi,e⟩:=List.getElem_of_mem hm;have hik:i<k:=by simp at hi;omega
    rw[List.getElem_take]at e;exact(List.pairwise_iff_getElem.1 h1 i k (by omega) hlt2 hik) e
   have hgs:=getL_fg l x (names.take k) names[k] hin hnd;have hst:=fgL_snoc l x (names.take k) names[k] hnd;have hcn:=fgN_snoc l x (names.take k) names[k] hin hnd
   rw[<-List.take_succ_eq_append_getElem hlt2]at hst hcn;have hcle:=fgN_le l x (names.take k);obtain⟨t,ht⟩:∃t,(qR (names[k],x) l).isSome=t:=⟨_,rfl⟩
   rw[ht]at hgs hcn;have HGS:=O hgs;have HST:=O hst;have HCN:=O hcn;clear hgs hst hcn ht hca hin;have hun:=unlink_at hA (names[k],x) hx
   rw[HGS.out,HST.out]at hun;go_upto_region 3 with(fail);refine qL [3,1,3] ?_;simp only[qB];refine zC 127 1 hlt2 ?_;simp only[qC];refine qG 9 hnm ?_
   simp only[qB];go_upto_region 4 with(fail);refine qL [3,3,1,1] ?_;simp only[qB];refine qY 24 hcx 32 (by rw[qD];exact hx) ?_;try simp only[qC]
   refine kS rfl ?_;go_wp2_with (go_at_call 198;refine hun.mono ?_;rintro _ w4 ⟨rfl,hL⟩);simp only[qB];obtain⟨F2,hA2,hm4,hn4⟩:=hL
   have hrel2:∀(n2:Nat),n2=fgN l x (names.take (k+1))->FgRel w0 w w2 (iO bp) limit l F x names (.int .i64 n2) (.int .i64 ((k:Int)+1)) w4:=fun n2 hn2=>by
    have hsz4:=hMw.size
    refine⟨k+1,F2,by omega,by go_num,by rw[hn2],hA2,hM.trans hm4 (fun j hj hs=>(hFk j hs).elim id fun h=>?_),fun j hj=>?_,fun j h3 h4=>?_,hMw.trans hm4 (fun j hj hs=>(hFk j hs).elim id fun h=>?_)⟩
    ·have:=hM2.size;omega
    ·rcases hn4 j hj with h|h
     ·exact hFk j h
     ·exact .inr (by have:=h.1;omega)
    ·rw[hm4.block j (by omega) (fun hs=>(hFk j hs).elim (fun h=>by have:=hlt j h;omega) fun h=>by omega)]
     exact hkeep j h3 h4
    ·omega
   have HREL:=O hrel2;clear hrel2 hm4 hn4 hA2 hA hun
   cases t
   ·go_wp2
    go_roundw
    case rel=>exact HREL.out _ (by have:=HCN.out;simpa using this.symm)
    case measure=>simp[intOf];omega
   ·go_wp2
    go_roundw
    case rel=>
     refine HREL.out (fgN l x (names.take k)+1) ?_;have:=HCN.out;simpa using this.symm
    case measure=>simp[intOf];omega
  ·have hz:¬(k:Int)<(names.length:Int):=by omega
   have e:names.take k=names:=List.take_of_length_le (by omega);rw[e]at hA |-;have hall:=fg_all l x names HMEM.out;rw[hall.1]at hA;rw[hall.2]
   have HL:Hid (LStep w0 w (iO bp) limit F wr (dS l x)):=⟨Fk,hA,hM,fun j hj=>(hFk j hj).imp id fun h=>⟨by have:=hM2.size;omega,hA.lt j hj⟩⟩
   clear hall hA hM hMw hkeep;go_wp2;go_ret;exact⟨rfl,HL.out⟩
end
def tQ(x:iK):Value:=.agg (qA x)
def bB(x:iK):Prop:=x.length=32
theorem run_eqId(n:Nat)(x y:iK)(hx:x.length=32)(hy:y.length=32)(w:iN):(Op.equalIn (n+2) 24 (.agg (qA x)) (.agg (qA y))).run prog w=.ok (x==y) w:=
 run_equalIn_bytes w n 24 5 32 underlying24 underlying5 (fun w=>sizeU8 w) x y hx hy
theorem sP:KeyT prog 24 tQ bB:=by
 refine⟨fun e x w hx=>eA e 9998 x hx w,fun x y w hx hy=>?_,⟨_,underlying24,.inl fun x y=>rfl⟩,fun x _=>?_⟩
 ·unfold Op.equal Op.maxDepth tQ
  rw[show(10000:Nat)=9998+2 from rfl,run_eqId 9998 x y hx hy]
  congr 1
  rw[Bool.eq_iff_iff];simp
 ·simp only[Instr.sameBits,tQ,Bool.and_eq_true,beq_self_eq_true,true_and,List.all_eq_true]
  intro q hq;obtain⟨a,b⟩:=q
  have hab:∀(l:List Value)(p:Value×Value),p∈l.zip l->p.1=p.2/\p.1∈l:=by
   intro l
   induction l with
   |nil=>intro p hp;simp at hp
   |cons v l ih=>
    intro p hp;rw[List.zip_cons_cons,List.mem_cons]at hp
    rcases hp with rfl|hp
    ·simp
    ·exact⟨(ih p hp).1,List.mem_cons_of_mem _ (ih p hp).2⟩
  obtain⟨h1,h2⟩:=hab _ _ hq;have h1':a=b:=h1;subst h1';simp only[qA]at h2
  simp at h2;obtain⟨c,_,rfl⟩:=h2;simp[Instr.sameBits,qW]
theorem idV_inj{a:iK}(h:tQ a=tQ b):a=b:=by
 have h1:(qA a).toList=(qA b).toList:=by rw[Value.agg.inj h]
 simp only[qA]at h1;exact(List.map_inj_right (fun _ _ e=>byteV_inj e)).1 h1
abbrev yO:=List (iK×iK)
structure iF where
 id:iK
 blk:Nat
 val:Value
 bytes:iK
def xJ(bl:List iF):yO:=bl.map fun b=>(b.id,b.bytes)
def vJ:yO->Nat
 | []=>0
 |p::l=>p.2.length+vJ l
structure StInv(w:iN)(bs ms wd:Nat)(room:Int)(bl:List iF):Prop where
 box:w.heap[bs]?=some (.cells #[.int .i64 wd,.int .i64 room,.int .i64 (vJ (xJ bl):Nat),.map (some ms)] 95 (0,0))
 lm:MapIs tQ bB w ms (bl.map fun b=>(b.id,tD b.blk))
 kb:∀b∈bl,w.heap[b.blk]?=some (.cells #[b.val] 170 (0,0))
 bt:∀b∈bl,Bts 0 w b.val b.bytes
 sz:∀b∈bl,b.bytes.length<=4096
 few:bl.length<=10000
 wok:1<=wd/\wd<=32
def fJ(bs ms:Nat)(bl:List iF)(k:Nat):Prop:=k=bs\/k=ms\/∃b∈bl,k=b.blk\/b.val.ownBlock=some k
section
variable{w:iN}{bs ms wd:Nat}{room:Int}{bl:List iF}
theorem StInv.keep{S:iM}{w':iN}(h:StInv w bs ms wd room bl)(hm:Mod S w w')(hS:∀k,fJ bs ms bl k->¬S k):StInv w' bs ms wd room bl:=
 ⟨hm.obj (hS _ (.inl rfl)) h.box,h.lm.keep hm (hS _ (.inr (.inl rfl))),fun b hb=>hm.obj (hS _ (.inr (.inr ⟨b,hb,.inl rfl⟩))) (h.kb b hb),fun b hb=>jS (h.bt b hb) hm (fun k hk=>hS _ (.inr (.inr ⟨b,hb,.inr hk⟩))),h.sz,h.few,h.wok⟩
theorem StInv.keep0(h:StInv w bs ms wd room bl)(hm:Mod qJ w w'):StInv w' bs ms wd room bl:=h.keep hm (fun _ _=>id)
theorem StInv.cell(h:StInv w bs ms wd room bl):w.cell? ⟨bs,0,none⟩=some (.int .i64 wd)/\w.cell? ⟨bs,1,none⟩=some (.int .i64 room)/\w.cell? ⟨bs,2,none⟩=some (.int .i64 (vJ (xJ bl):Nat))/\w.cell? ⟨bs,3,none⟩=some (.map (some ms)):=by
 simp[World.cell?,h.box]
theorem StInv.lt(h:StInv w bs ms wd room bl):∀k,fJ bs ms bl k->k<w.heap.size:=by
 intro k hk
 rcases hk with rfl|rfl|⟨b,hb,rfl|hk⟩
 ·exact(Array.getElem?_eq_some_iff.1 h.box).1
 ·exact h.lm.lt
 ·exact(Array.getElem?_eq_some_iff.1 (h.kb b hb)).1
 ·exact(World.ownsRow.lt (h.bt b hb) k hk).2
theorem StInv.nd(h:StInv w bs ms wd room bl):((xJ bl).map (·.1)).Nodup:=by
 have:=h.lm.nd
 simpa[xJ,List.map_map,Function.comp_def]using this
theorem StInv.ok(h:StInv w bs ms wd room bl):∀b∈bl,b.id.length=32:=fun b hb=>h.lm.ok (b.id,tD b.blk) (List.mem_map.2 ⟨b,hb,rfl⟩)
def eE(id:iK):List iF->Option iF
 | []=>none
 |b::l=>if id=b.id then some b else eE id l
theorem dT{id:iK}{b:iF}:∀{bl:List iF},eE id bl=some b->b∈bl/\b.id=id
 |c::l,h=>by
  unfold eE at h
  split at h
  ·rename_i hc;cases h;exact⟨by simp,hc.symm⟩
  ·have:=dT h;exact⟨by simp[this.1],this.2⟩
theorem findB_map{γ:Type}(f:iF->γ)(id:iK)(bl:List iF):qR id (bl.map fun b=>(b.id,f b))=(eE id bl).map f:=by
 induction bl with
 |nil=>rfl
 |cons b l ih=>simp only[List.map_cons,qR,eE];split<;>simp_all
theorem getB(id:iK)(bl:List iF):qR id (xJ bl)=(eE id bl).map (·.bytes):=findB_map _ _ _
def blkV:Option iF->Value
 |some b=>tD b.blk
 |none=>.pointer none
theorem keptZ:(prog.info? 166).bind (·.zero)=some (.pointer none):=by kernel_rfl
theorem StInv.look(h:StInv w bs ms wd room bl){o:Oper}{a:Act}(m x:Operand)(id:iK)(hid:id.length=32)(ho:o.op=.lookup 93 m x true)(hm:a.eval m=.map (some ms))(hx:a.eval x=tQ id):
 (execOp a.eval o).run prog w=.ok (.value (.tuple #[blkV (eE id bl),.bool (eE id bl).isSome])) w:=
 vL sP h.lm id hid 93 166 underlying93 (.pointer none) keptZ m x true ho hm hx _ (by
  rw[findB_map]
  cases eE id bl<;>rfl)
def BNewR(wd room:Int)(w:iN)(e:Ending)(w':iN):Prop:=∃bs ms,e=.returned (.tuple #[iO bs,.int .i64 0])/\StInv w' bs ms wd.toNat room []/\Mod qJ w w'/\∀k,fJ bs ms [] k->gD w w' k
theorem bNew_any(wd room:Int)(hw:1<=wd/\wd<=32)(hr:0<=room/\room<=67108864)(w:iN):Calls prog 78 #[.int .i64 wd,.int .i64 room] w (BNewR wd room w):=by
 have hmm:= @run_makeMap prog;obtain⟨h1,h2⟩:=hw;obtain⟨h3,h4⟩:=hr;go_enter func78,ntmps78;go_upto_region 3 with(fail);refine qL [3,3,1,1,1,3,3] ?_;simp only[qB]
 refine qH rfl (fun K hK=>?_);unfold Oper.wp execOp;simp only[Array.map_empty,Option.map_none,Sem.run_bind,hmm,Result.andThen_ok,Sem.run_pure]
 have hB:=heap_alloc_new w (.map #[] 0);have hM:=zI w (.map #[] 0);have hs:w.heap.size<(w.alloc (.map #[] 0)).heap.size:=by simp
 generalize w.alloc (.map #[] 0)=w1 at hB hM hs |-;refine hK _ _ trivial ?_;clear hK K;try simp only[qC]
 refine kS rfl ?_;go_wp2;try simp only[qC]
 refine qK (zT 95 (fun w3 hB2 hm2 hs2=>?_));simp only[qB];go_wp2;go_ret2;have hB':=hm2.obj id hB
 have hwt:((wd.toNat:Nat):Int)=wd:=Int.toNat_of_nonneg (by omega)
 refine⟨_,w.heap.size,rfl,⟨by rw[hwt];exact hB2,MapIs.made hB',by simp,by simp,by simp,by simp,by omega⟩,hM.trans0 hm2,fun k hk=>?_⟩
 rcases hk with rfl|rfl|⟨b,hb,_⟩
 ·exact⟨by omega,by omega⟩
 ·exact⟨by omega,by omega⟩
 ·simp at hb
def NoStore(w:iN)(v:Value):Prop:=v=.pointer none\/∃b x y z,v=iO b/\w.heap[b]?=some (.cells #[x,y,z,.map none] 95 (0,0))
theorem bNone_at(b:Nat)(m:Option Nat)(w:iN)(hc:w.cell? ⟨b,3,none⟩=some (.map m)):Calls prog 92 #[iO b] w (pT (.bool m.isNone) w):=by
 have he:=fun(w:iN)=>run_eql_map_nil (P:=prog) w 93 24 166 m underlying93
 cases m
 all_goals
  go_enter func92,ntmps92;go_wp2;go_ret;exact⟨rfl,rfl⟩
theorem bNone_nil(w:iN):Calls prog 92 #[.pointer none] w (pT (.bool true) w):=by
 go_enter func92,ntmps92;go_wp2;go_ret;exact⟨rfl,rfl⟩
theorem bNone_no(h:NoStore w v):Calls prog 92 #[v] w (pT (.bool true) w):=by
 rcases h with rfl|⟨b,x,y,z,rfl,hb⟩
 ·exact bNone_nil w
 ·exact bNone_at b none w (by simp[World.cell?,hb])
theorem StInv.made(h:StInv w bs ms wd room bl):Calls prog 92 #[iO bs] w (pT (.bool false) w):=bNone_at bs (some ms) w h.cell.2.2.2
theorem bWidth_any(h:StInv w bs ms wd room bl):Calls prog 124 #[iO bs] w (pT (.int .i64 wd) w):=by
 have hc:=h.cell.1;go_enter func124,ntmps124;go_wp2_with (go_at_call 92;refine h.made.mono ?_;rintro _ w1 ⟨rfl,hw⟩;obtain rfl:=hw.symm);go_ret;exact⟨rfl,rfl⟩
theorem bWidth_no(h:NoStore w v):Calls prog 124 #[v] w (pT (.int .i64 0) w):=by
 go_enter func124,ntmps124;go_wp2_with (go_at_call 92;refine(bNone_no h).mono ?_;rintro _ w1 ⟨rfl,hw⟩;obtain rfl:=hw.symm);go_ret;exact⟨rfl,rfl⟩
end
theorem fo_95_3:qS prog 95 3=some 3:=by kernel_rfl
theorem fo_170_0:qS prog 170 0=some 0:=by kernel_rfl
section
variable{w:iN}{bs ms wd:Nat}{room:Int}{bl:List iF}
def GetR(w:iN)(r:Option iK):iJ:=fun e w'=>Mod qJ w w'/\match r with
 |some m=>∃v,e=.returned (.tuple #[v,.bool true])/\Bts w.heap.size w' v m
 |none=>e=.returned (.tuple #[.slice none 0 0,.bool false])
theorem bGet_any(h:StInv w bs ms wd room bl)(di:iK)(hid:di.length=32):Calls prog 33 #[iO bs,.agg (qA di)] w (GetR w (qR di (xJ bl))):=by
 have hrs:(qA di).size=32:=by rw[qD,hid]
 have H:=O h;rw[getB];obtain⟨fb,hfb⟩:∃q,eE di bl=q:=⟨_,rfl⟩;rw[hfb];have HFB:=O hfb
 have hl:=fun(w':iN)(hm:Mod qJ w w')(o:Oper)(a:Act)(m x:Operand)=> @StInv.look w' bs ms wd room bl (H.out.keep0 hm) o a m x di hid;simp only[hfb]at hl
 have HL:=O hl;clear h hfb hl;go_enter func33,ntmps33;go_upto_region 0 with(fail);refine qL [1,3,3] ?_;simp only[zz2];refine qK (zT 24 (fun w1 hB1 hm1 hs1=>?_))
 replace hB1:w1.heap[w.heap.size]?=some (.cells (qA di) 24 (0,0)):=hB1;refine vI _ rfl rfl ?_;simp only[qC];refine vI _ rfl rfl ?_;simp only[qC]
 refine sR ?_;have hc3:=(H.out.keep0 hm1).cell.2.2.2;have hcI:=CellsAt.whole hB1;go_upto_region 1 with(fail);refine qL [3,1] ?_;simp only[zz2]
 refine uR _ rfl rfl ?_;simp only[qC];refine kS rfl ?_;go_wp2_with (go_at_call 92;refine(H.out.keep0 hm1).made.mono ?_;rintro _ w2 ⟨rfl,hw⟩;obtain rfl:=hw.symm)
 try simp only[qC]
 refine sR ?_;go_upto_region 3 with(fail);have hS:Mod qJ w1 w1.drew:=(Mod.refl _ _).drew
 cases fb with
 |none=>
  refine zZ [3,3,3,0,0,0,3,3,3,3,3] [] (fun w'=>Mod qJ w1 w') hS ?_;simp only[zz2];refine uR _ rfl rfl ?_;simp only[qC]
  refine bN _ _ rfl rfl rfl ?_;simp only[qC];refine gS _ _ _ _ _ _ rfl rfl rfl fo_95_3 ?_;simp only[qC];refine qE 93 (fun w' hS=>hS.cell id hc3) ?_
  simp only[qC];refine zJ 24 (fun w' hS=>hcI.keep hS id) 32 hrs ?_;simp only[qC]
  refine qV rfl (fun w' hS=>HL.out w' (hm1.trans0 hS) _ _ _ _ (by rfl) (by rfl) (by rfl)) ?_;simp only[qC];refine uR _ rfl rfl ?_;simp only[qC]
  refine qZ (fun _=>by go_simp;try with_reducible rfl) ?_;simp only[qC];refine qZ (fun _=>by go_simp;try with_reducible rfl) ?_;simp only[qC]
  refine vI _ rfl rfl ?_;simp only[qC];refine vI _ rfl rfl ?_;simp only[qC];refine sR ?_;have hMr:=hm1.trans0 hS;clear hS hm1 hc3 hcI hB1;go_wp2
  go_ret2;exact⟨hMr,rfl⟩
 |some b=>
  obtain⟨hbm,rfl⟩:=dT HFB.out;have hkb:=H.out.kb b hbm;have hbt:=H.out.bt b hbm;have hsz:=H.out.sz b hbm
  have hc0:w.cell? ⟨b.blk,0,none⟩=some b.val:=by simp[World.cell?,hkb]
  clear hkb;refine zZ [3,3,3,0,0,0,3,3,3,3,3] [] (fun w'=>Mod qJ w1 w') hS ?_;simp only[zz2];refine uR _ rfl rfl ?_;simp only[qC]
  refine bN _ _ rfl rfl rfl ?_;simp only[qC];refine gS _ _ _ _ _ _ rfl rfl rfl fo_95_3 ?_;simp only[qC];refine qE 93 (fun w' hS=>hS.cell id hc3) ?_
  simp only[qC];refine zJ 24 (fun w' hS=>hcI.keep hS id) 32 hrs ?_;simp only[qC]
  refine qV rfl (fun w' hS=>HL.out w' (hm1.trans0 hS) _ _ _ _ (by rfl) (by rfl) (by rfl)) ?_;simp only[qC];refine uR _ rfl rfl ?_;simp only[qC]
  refine qZ (fun _=>by go_simp;try with_reducible rfl) ?_;simp only[qC];refine qZ (fun _=>by go_simp;try with_reducible rfl) ?_;simp only[qC]
  refine vI _ rfl rfl ?_;simp only[qC];refine vI _ rfl rfl ?_;simp only[qC];refine sR ?_;have hM1:=hm1.trans0 hS;have hc0:=hM1.cell id hc0
  have hbk:Bts 0 w1.drew b.val b.bytes:=jS hbt hM1 (fun _ _=>id);clear hS hm1 hc3 hcI hB1;go_upto_region 6 with(fail);refine qL [3,3,3,1,1,3,3] ?_
  simp only[zz2];refine uR _ rfl rfl ?_;simp only[qC];refine bN _ _ rfl rfl rfl ?_;simp only[qC];refine gS _ _ _ _ _ _ rfl rfl rfl fo_170_0 ?_
  simp only[qC];refine qG 53 hc0 ?_;try simp only[qC]
  refine qK (xE func93 (bA (Bts.sl hbk) (by omega)) ?_);rintro e w3 ⟨v3,rfl,hb3,hm3⟩;have hb3:Bts w.heap.size w3 v3 b.bytes:=uT hb3 hM1.size
  refine⟨_,rfl,?_⟩;refine vI _ rfl rfl ?_;simp only[qC];refine vI _ rfl rfl ?_;simp only[qC];refine sR ?_;have hMr:=hM1.trans0 hm3;clear hm3 hM1 hc0
  go_wp2;go_ret2;exact⟨hMr,v3,rfl,hb3⟩
def SizeR(w:iN)(r:Option iK):iJ:=fun e w'=>Mod qJ w w'/\e=.returned (.tuple #[.int .i64 ((r.getD []).length:Nat),.bool r.isSome])
theorem bSize_any(h:StInv w bs ms wd room bl)(di:iK)(hid:di.length=32):Calls prog 91 #[iO bs,.agg (qA di)] w (SizeR w (qR di (xJ bl))):=by
 have hrs:(qA di).size=32:=by rw[qD,hid]
 have H:=O h;have hg:=fun(w1:iN)(hm:Mod qJ w w1)=>bGet_any (h.keep0 hm) di hid;obtain⟨r,hr⟩:∃q,qR di (xJ bl)=q:=⟨_,rfl⟩;rw[hr]
 simp only[hr]at hg;clear h hr;go_enter func91,ntmps91;go_upto_region 0 with(fail);refine qL [1,3,3] ?_;simp only[qB];refine qK (zT 24 (fun w1 hB1 hm1 hs1=>?_))
 replace hB1:w1.heap[w.heap.size]?=some (.cells (qA di) 24 (0,0)):=hB1;simp only[qB];have hcI:=CellsAt.whole hB1
 cases r with
 |none=>
  go_upto_region 1 with(fail);refine qL [3,1,1,3,3,3,3,3] ?_;simp only[qB];refine qY 24 hcI 32 hrs ?_;try simp only[qC]
  refine qK (xE func33 (hg _ hm1) ?_);rintro e w2 ⟨hm2,rfl⟩;refine⟨_,rfl,?_⟩;simp only[qB];refine qZ (fun _=>by go_simp;try with_reducible rfl) ?_;simp only[qC]
  refine qZ (fun _=>by go_simp;try with_reducible rfl) ?_;simp only[qB];have hMr:=hm1.trans0 hm2;go_wp2;go_ret2;exact⟨hMr,rfl⟩
 |some m=>
  go_upto_region 1 with(fail);refine qL [3,1,1,3,3,3,3,3] ?_;simp only[qB];refine qY 24 hcI 32 hrs ?_;try simp only[qC]
  refine qK (xE func33 (hg _ hm1) ?_);rintro e w2 ⟨hm2,v2,rfl,hb2⟩;obtain⟨a2,c2,rfl,-,-⟩:=Sl.at hb2.sl;refine⟨_,rfl,?_⟩;simp only[qB]
  refine qZ (fun _=>by go_simp;try with_reducible rfl) ?_;simp only[qC];refine qZ (fun _=>by go_simp;try with_reducible rfl) ?_;simp only[qB]
  have hMr:=hm1.trans0 hm2;go_wp2;go_ret2;exact⟨hMr,rfl⟩
end
def delB(di:iK):List iF->List iF
 | []=>[]
 |b::l=>if di=b.id then l else b::delB di l
theorem delB_map{γ:Type}(f:iF->γ)(di:iK)(bl:List iF):jE di (bl.map fun b=>(b.id,f b))=(delB di bl).map fun b=>(b.id,f b):=by
 induction bl with
 |nil=>rfl
 |cons b l ih=>simp only[List.map_cons,jE,delB];split<;>simp_all
theorem aY{di:iK}{b:iF}:∀{bl:List iF},b∈delB di bl->b∈bl
 |c::l,h=>by
  unfold delB at h
  split at h
  ·exact List.mem_cons_of_mem _ h
  ·rcases List.mem_cons.1 h with rfl|h
   ·exact List.mem_cons_self
   ·exact List.mem_cons_of_mem _ (aY h)
theorem delB_len(di:iK)(bl:List iF):(delB di bl).length<=bl.length:=by
 induction bl with
 |nil=>exact Nat.le_refl _
 |cons b l ih=>unfold delB;split<;>simp<;>omega
theorem usedL_del{di:iK}{m:iK}:∀{c:yO},qR di c=some m->vJ (jE di c)+m.length=vJ c
 |p::l,h=>by
  unfold qR at h;unfold jE
  split at h
  ·rename_i hk;rw[if_pos hk];cases h;simp only[vJ];omega
  ·rename_i hk;rw[if_neg hk];simp only[vJ];have:=usedL_del h;omega
theorem usedL_le{c:yO}(h:∀p∈c,p.2.length<=4096):vJ c<=4096*c.length:=by
 induction c with
 |nil=>simp[vJ]
 |cons p l ih=>simp only[vJ,List.length_cons];have:=h p (by simp);have:=ih (fun q hq=>h q (by simp[hq]));omega
section
variable{w:iN}{bs ms wd:Nat}{room:Int}{bl:List iF}
theorem StInv.nes(h:StInv w bs ms wd room bl):bs≠ms/\∀b∈bl,b.blk≠bs/\b.blk≠ms/\(∀k,b.val.ownBlock=some k->k≠bs/\k≠ms):=by
 obtain⟨es,clk,h1,_⟩:=h.lm.obj;have hb:=h.box;refine⟨fun e=>?_,fun b hbm=>⟨fun e=>?_,fun e=>?_,fun k hk=>?_⟩⟩
 ·rw[e,h1]at hb;cases hb
 ·have h3:=h.kb b hbm;rw[e,hb]at h3
  have h3:=(Obj.cells.inj (Option.some.inj h3)).1;have:=congrArg Array.size h3;simp at this
 ·have h3:=h.kb b hbm;rw[e,h1]at h3;cases h3
 ·rcases(h.bt b hbm).2 with⟨hv,-⟩|⟨g,cap,cur,hv,-,hg,-⟩
  ·rw[hv]at hk;cases hk
  ·rw[hv]at hk
   obtain rfl:g=k:=by simpa[Value.ownBlock]using hk
   refine⟨fun e=>?_,fun e=>?_⟩
   ·rw[e,hb]at hg
    have h3:=(Obj.cells.inj (Option.some.inj hg)).2.1;exact absurd h3 (by decide)
   ·rw[e,h1]at hg;cases hg
theorem StInv.used(h:StInv w bs ms wd room bl):vJ (xJ bl)<=40960000:=by
 have h1:=usedL_le (c:=xJ bl) (fun p hp=>by
  obtain⟨b,hb,rfl⟩:=List.mem_map.1 hp
  exact h.sz b hb)
 have h2:=h.few;have h3:(xJ bl).length=bl.length:=by simp[xJ]
 omega
def StTo(w:iN)(bs ms wd:Nat)(room:Int)(bl:List iF)(w':iN)(c:yO):Prop:=
 ∃bl',StInv w' bs ms wd room bl'/\xJ bl'=c/\Mod (fun k=>k=bs\/k=ms) w w'/\∀k,fJ bs ms bl' k->fJ bs ms bl k\/gD w w' k
theorem StInv.to0(h:StInv w bs ms wd room bl)(hm:Mod qJ w w'):StTo w bs ms wd room bl w' (xJ bl):=⟨bl,h.keep0 hm,rfl,hm.mono (fun _ _ h=>h.elim),fun _ h=>.inl h⟩
theorem bDrop_any(h:StInv w bs ms wd room bl)(di:iK)(hid:di.length=32):Calls prog 30 #[iO bs,.agg (qA di)] w (fun e w'=>e=.returned (.bool (qR di (xJ bl)).isSome)/\StTo w bs ms wd room bl w' (jE di (xJ bl))):=by
 have hrs:(qA di).size=32:=by rw[qD,hid]
 have H:=O h;have hg:=fun(w1:iN)(hm:Mod qJ w w1)=>bSize_any (h.keep0 hm) di hid;have hto0:=fun(w':iN)(hm:Mod qJ w w')=>h.to0 hm
 have hud:= @usedL_del di;have hus:=h.used;have HC:Hid (jE di (xJ bl)=xJ (delB di bl)):=O (delB_map (fun b=>b.bytes) di bl)
 obtain⟨r,hr⟩:∃q,qR di (xJ bl)=q:=⟨_,rfl⟩;rw[hr];simp only[hr]at hg;have HR:=O hr;have HTO:=O hto0;clear h hr hto0;go_enter func30,ntmps30
 go_upto_region 0 with(fail);refine qL [1,3] ?_;simp only[qB];refine qK (zT 24 (fun w1 hB1 hm1 hs1=>?_))
 replace hB1:w1.heap[w.heap.size]?=some (.cells (qA di) 24 (0,0)):=hB1;simp only[qB];have hcI:=CellsAt.whole hB1;go_upto_region 1 with(fail)
 refine qL [3,1,1,3,3,3,3,3] ?_;simp only[qB];refine qY 24 hcI 32 hrs ?_;try simp only[qC]
 refine qK (xE func91 (hg _ hm1) ?_);rintro e w2 ⟨hm2,rfl⟩;refine⟨_,rfl,?_⟩;simp only[qB];refine qZ (fun _=>by go_simp;try with_reducible rfl) ?_;simp only[qC]
 refine qZ (fun _=>by go_simp;try with_reducible rfl) ?_;simp only[qB];have hM2:=hm1.trans0 hm2;have hcI2:=hcI.keep hm2 id
 cases r with
 |none=>
  have hdel:jE di (xJ bl)=xJ bl:=by
   have h1:=HR.out;rw[getL_none]at h1
   have:=(cW (k:=di) (l:=xJ bl) (i:=0) (by
    cases hx:bV di (xJ bl) 0 with
    |none=>rfl
    |some q=>
     have h2:=idxL_get di (xJ bl) 0;rw[hx,HR.out]at h2
     cases h2)).2.2.1
   exact this
  have hto:=HTO.out _ hM2;rw[<-hdel]at hto;have HT:=O hto;clear hm1 hm2 hM2 hto hdel hud;go_wp2;go_ret;exact⟨rfl,HT.out⟩
 |some m=>
  have hud:=hud HR.out;have h2:=H.out.keep0 hM2;have hu2:=h2.cell.2.2.1;have hnes:=h2.nes;have hbox:=h2.box
  have hd1:((vJ (xJ bl):Nat):Int)-(m.length:Nat)=((vJ (jE di (xJ bl)):Nat):Int):=by omega
  have HNES:=O hnes;obtain⟨u0,hu0⟩:∃q,((vJ (xJ bl):Nat):Int)=q:=⟨_,rfl⟩;obtain⟨u1,hu1⟩:∃q,((vJ (jE di (xJ bl)):Nat):Int)=q:=⟨_,rfl⟩
  have HU1:=O hu1;rw[hu0]at hu2 hbox hd1;rw[hu1]at hd1;have hb0:0<=u1/\u1<=40960000:=by omega
  clear hnes hu0 hu1 hud hus;go_upto_region 3 with(fail);simp only[Option.getD_some];refine qL [3,3,3,1,3,3,3,3,1] ?_;simp only[qB];refine qG 3 hu2 ?_
  simp only[qB];refine wpPi_subR _ _ _ _ u0 ((m.length:Nat):Int) u1 rfl rfl rfl rfl hd1 (by omega) (by omega) ?_;simp only[qB]
  refine qK (zR 3 2 (.int .i64 u1) hbox (fun w3 hB3 hm3=>?_) (hoff:=by simp))
  replace hB3:w3.heap[bs]?=some (.cells #[.int .i64 wd,.int .i64 room,.int .i64 u1,.map (some ms)] 95 (0,0)):=hB3;simp only[qB];have hlt0:=h2.lt bs (.inl rfl)
  have hltb:bs<w.heap.size:=H.out.lt bs (.inl rfl);have hltm:ms<w.heap.size:=H.out.lt ms (.inr (.inl rfl));have hcI3:=hcI2.keep hm3 (fun e=>by omega)
  have hlm3:=h2.lm.keep hm3 (fun e=>HNES.out.1 e.symm);have hc3:w3.cell? ⟨bs,3,none⟩=some (.map (some ms)):=by simp[World.cell?,hB3]
  go_upto_region 4 with(fail);have hS:Mod qJ w3 w3.drew:=(Mod.refl _ _).drew;refine zZ [3,3,3,0,0,2] [5] (fun w'=>Mod qJ w3 w') hS ?_;simp only[qB]
  refine qE 93 (fun w' hS=>hS.cell id hc3) ?_;simp only[qC];refine zJ 24 (fun w' hS=>hcI3.keep hS id) 32 hrs ?_;simp only[qC];refine zP rfl (fun K hK=>?_)
  refine wp_delL sP (hlm3.keep0 hS) di hid 93 166 underlying93 _ _ (by rfl) (by rfl) (by rfl) (fun w4 hlm4 hm4=>?_);refine hK _ _ ?_;clear hK K;simp only[qB]
  have hm24:Mod (fun k=>k=bs\/k=ms) w2 w4:=((hm3.mono (fun _ _ h=>.inl h)).trans hS (fun _ _ h=>h.elim)).trans hm4 (fun _ _ h=>.inr h)
  have hM4:Mod (fun k=>k=bs\/k=ms) w w4:=(hM2.mono (fun _ _ h=>h.elim)).trans hm24 (fun _ _ h=>h);have hB4:=hm4.objB (b:=bs) (HNES.out.1) (hS.obj id hB3)
  have hst:StInv w4 bs ms wd room (delB di bl):=by
   refine⟨?_,?_,fun b hb=>?_,fun b hb=>?_,fun b hb=>h2.sz b (aY hb),Nat.le_trans (delB_len _ _) h2.few,h2.wok⟩
   ·rw[<-HC.out,HU1.out];exact hB4
   ·rw[delB_map (fun b=>tD b.blk)]at hlm4;exact hlm4
   ·have hn:=HNES.out.2 b (aY hb)
    exact hm24.obj (fun e=>e.elim hn.1 hn.2.1) (h2.kb b (aY hb))
   ·have hn:=HNES.out.2 b (aY hb)
    exact jS (h2.bt b (aY hb)) hm24 (fun k hk e=>e.elim (hn.2.2 k hk).1 (hn.2.2 k hk).2)
  have HT:Hid (StTo w bs ms wd room bl w4 (jE di (xJ bl))):=O ⟨_,hst,HC.out.symm,hM4,fun k hk=>.inl (by
   rcases hk with rfl|rfl|⟨b,hb,hk⟩
   ·exact .inl rfl
   ·exact .inr (.inl rfl)
   ·exact .inr (.inr ⟨b,aY hb,hk⟩))⟩
  clear hm3 hm4 hm24 hM4 hS hB3 hB4 hst hlm3 hlm4 hm1 hm2 hM2;go_wp2;go_ret;exact⟨rfl,HT.out⟩
end
def fG(n:Nat)(x:iK):iK:=x.take n++List.replicate (32-n) 0
theorem cutI_len(hx:x.length=32)(hn:n<=32):(fG n x).length=32:=by simp[fG,hx];omega
def xI(n:Nat)(m:iK):iK:=fG n (bC m)
theorem tF(hn:n<=32):(xI n m).length=32:=cutI_len (rP _) hn
theorem fQ(m:iK):xI 32 m=bC m:=by
 unfold xI fG;rw[List.take_of_length_le (by rw[rP];omega)]
 simp
theorem cut_row(hx:x.length=32)(hn:n<=32):zE (qA x) n (qA (List.replicate (32-n) 0))=qA (fG n x):=by
 unfold zE qA fG;simp only[List.size_toArray,List.length_map,List.length_replicate,List.map_append,List.map_take]
 rw[List.drop_of_length_le (by simp[hx];omega),List.append_nil]
section
variable{P:Program}{o:Oper}{a:Act}{w:iN}{K:Act->iN->Prop}{Q:Exit->Act->iN->Prop}
theorem eF(t e:TypeId)(x y:Operand)(b l n:Nat)(ho:o.op=.slice t x (some y) none none)(hx:a.eval x=iO b)(hy:a.eval y=.int .i64 l)(ht:P.underlying t=some (.array n e))(he:(P.info? e).map (·.size)=some 1)(hl:l<=n):
 (execOp a.eval o).run P w=.ok (.value (.slice (some (if n=l then⟨b,0,none⟩else⟨b,l,none⟩)) (n-l) (n-l))) w:=by
 have h1:P.arrayLen t=n:=by simp[Program.arrayLen,ht]
 have h2:P.elem t=e:=by simp[Program.elem,ht]
 have h3:(sizeOf e).run P w=.ok 1 w:=by
  cases hq:P.info? e with
  |none=>simp[hq]at he
  |some j=>simp[hq]at he;simp[sizeOf,typeInfo,hq,he]
 have h:=run_sliceAt_array_l (P:=P) w t ⟨b,0,none⟩ (by rw[h1,h2];exact ht) .i64 (l:Int) (by omega) (by rw[h1];omega);rw[h2,h3,h1]at h
 have hm:(match(some y:Option Operand)with|some z=>some (a.eval z)|none=>none)=some (.int .i64 l):=by simp[hy]
 unfold execOp;simp only[ho,hx,Option.map_some,Option.map_none,hy,Sem.run_bind,h,Result.andThen_ok,Sem.run_pure]
 congr 3
 simp[slicedAt,Addr.add]
 by_cases h0:l=0
 ·subst h0;simp
 ·simp[h0]
theorem wp_clearRow(t e:TypeId)(x:Operand)(b off n c:Nat)(ho:o.op=.call { callee:=.builtin .clear,args:=#[x],argTypes:=#[t] })(hx:a.eval x=.slice (some ⟨b,off,none⟩) (n+1) c)(ht:P.underlying t=some (.slice e))(hz:(P.info? e).bind (·.zero)=some (qW 0))
 (cur:iL)(T:TypeId)(hb:w.heap[b]?=some (.cells cur T (0,0)))(hoff:off+(n+1)<=cur.size)
 (h:∀w',w'.heap[b]?=some (.cells (zE cur off (qA (List.replicate (n+1) 0))) T (0,0))->Mod (fun k=>k=b) w w'->K (a.put o.dst (.tuple #[])) w'):o.wp P a w K Q:=by
 have hzv:(zeroValue e).run P w=.ok (qW 0) w:=by
  cases hi:P.info? e with
  |none=>simp[hi]at hz
  |some i=>simp[hi]at hz;simp[zeroValue,typeInfo,hi,hz]
 have hzc:(Builtin.zeroCells (qW 0).cells (n+1)).toList=List.replicate (n+1) (qW 0):=by
  simp[Builtin.zeroCells,qW,Value.cells]
  apply List.ext_getElem
  ·simp
  ·intro i h1 h2
   simp[Nat.mod_one]
 have hst:=run_storeCells_at P b off T (List.replicate (n+1) (qW 0)) 0 cur w hb (by simpa using hoff) (fun v hv=>by rw[List.eq_of_mem_replicate hv];rfl)
 simp only[Nat.add_zero,List.length_replicate]at hst
 have he:(cur.toList.take off++List.replicate (n+1) (qW 0)++cur.toList.drop (off+(n+1))).toArray=zE cur off (qA (List.replicate (n+1) 0)):=by
  unfold zE qA
  simp
 rw[he]at hst;unfold Oper.wp execOp
 have hr:(Builtin.clear_ #[t] o.type #[.slice (some ⟨b,off,none⟩) (n+1) c]).run P w=.ok (.tuple #[]) (w.setRow b (zE cur off (qA (List.replicate (n+1) 0)))):=by
  simp[Builtin.clear_,run_underlying ht,hzv,hzc,hst]
 simp[ho,hx,resolve,invoke,builtin,hr]
 exact h _ (setRow_heap w b cur _ T _ hb) ⟨rfl,rfl,rfl,by simp,fun k _ hk=>setRow_other w b k _ (fun e=>hk e)⟩
end
theorem u8_zero:(prog.info? 5).bind (·.zero)=some (qW 0):=by kernel_rfl
def CutR2(w:iN)(n:Nat)(x:iK):iJ:=fun e w'=>e=.returned (.tuple #[.agg (qA (fG n x)),.int .i64 0])/\Mod qJ w w'
theorem shaCut_any(x:iK)(hx:x.length=32)(n:Nat)(h1:1<=n)(h2:n<=32)(w:iN):Calls prog 95 #[.agg (qA x),.int .i64 n] w (CutR2 w n x):=by
 have hrs:(qA (fG n x)).size=32:=by rw[qD,cutI_len hx h2]
 have hxs:(qA x).size=32:=by rw[qD,hx]
 have HR:=O (cut_row hx h2);go_enter func95,ntmps95;go_upto_region 0 with(fail);refine qL [1,1,3] ?_;simp only[qB];refine qK (zT 24 (fun w1 hB1 hm1 hs1=>?_))
 replace hB1:w1.heap[w.heap.size]?=some (.cells (qA x) 24 (0,0)):=hB1;try simp only[qC]
 refine qK (zB eC (fun w2 hB2 hm2 hs2=>?_));simp only[qB];replace hB1:=hm2.obj id hB1;have hM2:=hm1.trans0 hm2;have hne:w.heap.size≠w1.heap.size:=by omega
 have hs1':w.heap.size<=w1.heap.size:=hm1.size;generalize hb1:w.heap.size=b1 at*;generalize hb2:w1.heap.size=b2 at*;clear hm1 hm2
 rcases Nat.lt_or_ge n 32 with hlt|hge
 ·obtain⟨m,hm⟩:∃m,32-n=m+1:=⟨31-n,by omega⟩
  have hn32:¬32=n:=by omega
  rw[hm]at HR;go_upto_region 3 with(fail);refine qL [3,0,1] ?_;simp only[qB]
  refine qV rfl (fun w' hS=>(eF (P:=prog) 24 5 _ _ b1 n 32 (by rfl) (by rfl) (by rfl) underlying24 (by kernel_rfl) (by omega)).trans (by rw[if_neg hn32,hm])) ?_
  simp only[qC];refine qK (wp_clearRow 53 5 _ b1 n m _ (by rfl) (by rfl) underlying53 u8_zero _ _ hB1 (by rw[hxs];omega) (fun w3 hB3 hm3=>?_));rw[HR.out]at hB3
  simp only[qB];have hM3:Mod qJ w w3:=hM2.transB hm3 (by omega);have hB23:=hm3.objB (by omega) hB2;clear hm3 hM2 hB1 hB2;go_upto_region 4 with(fail)
  refine qL [1,1,3] ?_;simp only[qB];refine qY 24 (CellsAt.whole hB3) 32 hrs ?_;try simp only[qC]
  refine qK (qT 24 (qA (fG n x)) (qQ _) 32 hrs hB23 (fun w4 hB4 hm4=>?_) (hoff:=by rw[hrs,qD];rfl));simp only[qB]
  have hM4:Mod qJ w w4:=hM3.transB hm4 (by omega);clear hm4 hM3;go_wp2
  refine bodyPost_ret (yZ (P:=prog) (ty:=24) rfl _ _ b2 _ _ _ _ (by rfl) hB4 underlying24 rfl (by rw[hrs];kernel_rfl)) rfl ?_;exact⟨rfl,hM4⟩
 ·obtain rfl:n=32:=by omega
  have hcx:fG 32 x=x:=by unfold fG;rw[List.take_of_length_le (by omega)];simp
  have HCX:=O hcx;go_upto_region 3 with(fail);refine qL [3,0,1] ?_;simp only[qB]
  refine qV rfl (fun w' hS=>(eF (P:=prog) 24 5 _ _ b1 32 32 (by rfl) (by rfl) (by rfl) underlying24 (by kernel_rfl) (by omega)).trans (by rw[if_pos rfl])) ?_
  simp only[qC];refine qH rfl (fun K hK=>?_);unfold Oper.wp execOp
  simp[resolve,invoke,builtin,Builtin.clear_,run_underlying underlying53]
  refine hK _ _ trivial ?_;clear hK K;simp only[qB];go_upto_region 4 with(fail);refine qL [1,1,3] ?_;simp only[qB];refine qY 24 (CellsAt.whole hB1) 32 hxs ?_
  try simp only[qC]
  refine qK (qT 24 (qA x) (qQ _) 32 hxs hB2 (fun w4 hB4 hm4=>?_) (hoff:=by rw[hxs,qD];rfl));simp only[qB]
  have hM4:Mod qJ w w4:=hM2.transB hm4 (by omega);clear hm4 hM2;go_wp2
  refine bodyPost_ret (yZ (P:=prog) (ty:=24) rfl _ _ b2 _ _ _ _ (by rfl) hB4 underlying24 rfl (by rw[hxs];kernel_rfl)) rfl ?_;exact⟨by rw[HCX.out];rfl,hM4⟩
def OfR(w:iN)(n:Nat)(m:iK):iJ:=fun e w'=>e=.returned (.tuple #[.agg (qA (xI n m)),.int .i64 0])/\Mod qJ w w'
theorem shaOf_any{own:Bool}(h:Sl own w G 1 yA v m)(hl:m.length<=1000000)(n:Nat)(h1:1<=n)(h2:n<=32):Calls prog 36 #[v,.int .i64 n] w (OfR w n m):=by
 have H:=O h;obtain⟨ad,cap,rfl,-,-⟩:=Sl.at h;have hsl:(bC m).length=32:=rP _;have hrs:(qA (xI n m)).size=32:=by rw[qD,tF h2]
 have HC:=O (show fG n (bC m)=xI n m from rfl);clear h;go_enter func36,ntmps36;go_upto_region 0 with(fail);refine qL [1,3] ?_;simp only[qB]
 refine qK (zB eC (fun w1 hB1 hm1 hs1=>?_));simp only[qB];go_upto_region 1 with(fail);refine qL [3,1,3,1,3,3,1,3] ?_;simp only[qB]
 refine qK (pL func96 (gW (H.out.keep0 hm1) (by omega)) fun w2 hm2=>?_);simp only[qB];refine qK (xE func95 (shaCut_any (bC m) hsl n h1 h2 _) ?_)
 rintro e w3 ⟨rfl,hm3⟩;rw[HC.out];have hB3:=(hm2.trans0 hm3).obj id hB1;refine⟨_,rfl,?_⟩;try simp only[qC]
 refine qZ (fun _=>by go_simp;try with_reducible rfl) ?_;simp only[qC];refine qZ (fun _=>by go_simp;try with_reducible rfl) ?_;simp only[qC]
 refine qK (qT 24 (qA (xI n m)) (qQ _) 32 hrs hB3 (fun w4 hB4 hm4=>?_) (hoff:=by rw[hrs,qD];rfl));simp only[qB]
 have hM4:Mod qJ w w4:=((hm1.trans0 hm2).trans0 hm3).transB hm4 (Nat.le_refl _);clear hm1 hm2 hm3 hm4;go_wp2
 refine bodyPost_ret (yZ (P:=prog) (ty:=24) rfl _ _ w.heap.size _ _ _ _ (by rfl) hB4 underlying24 rfl (by rw[hrs];kernel_rfl)) rfl ?_;exact⟨rfl,hM4⟩
end
section
open Go.RowKit Go.Proofs.Tryz Go.Lib
theorem fill_all{n:Nat}:∀(vals:List Value)(k:Nat)(pre old:List Value),pre.length=k*n->old.length=vals.length*n->(∀v∈vals,v.cells.size=n)->
 Instr.fill (fun i=>some (i*n,n)) (pre++old).toArray ((List.range' k vals.length).zip vals)=some (pre++vals.flatMap fun v=>v.cells.toList).toArray
 | [],k,pre,old,hp,ho,_=>by
  obtain rfl:old=[]:=List.eq_nil_of_length_eq_zero (by simpa using ho)
  simp[yN]
 |v::vals,k,pre,old,hp,ho,hv=>by
  have hv1:=hv v (by simp);rw[List.length_cons,Nat.succ_mul]at ho
  rw[List.length_cons,List.range'_succ,List.zip_cons_cons,zN (off:=k*n) (size:=n) rfl hv1 (by simp;omega)]
  have e:zE (pre++old).toArray (k*n) v.cells=((pre++v.cells.toList)++old.drop n).toArray:=by
   unfold zE;have h1:(pre++old).take (k*n)=pre:=by rw[<-hp,List.take_left]
   have h2:(pre++old).drop (k*n+v.cells.size)=old.drop n:=by rw[hv1,<-hp,List.drop_append];simp
   simp only[h1,h2]
  rw[e,fill_all vals (k+1) (pre++v.cells.toList) (old.drop n) (by simp[hp,hv1,Nat.succ_mul]) (by simp;omega) (fun x hx=>hv x (by simp[hx]))]
  simp
theorem vX(t e:TypeId)(len:Nat)(parts:List (Nat×Operand))(vals:List Value)(z:Value)(n:Nat)(ho:o.op=.buildSlice t len parts.toArray)
 (hx:(parts.map fun x=>(x.1,a.eval x.2))=(List.range' 0 len).zip vals)(hl:vals.length=len)(hu:P.underlying t=some (.slice e))
 (hi:(P.info? e).map (fun i=>(i.zero,i.size))=some (some z,n))(h0:0<len*n)(hn':len*n<=16777216)(hv:∀v∈vals,v.cells.size=n)
 (h:∀w',w'.heap[w.heap.size]?=some (.cells (vals.flatMap fun v=>v.cells.toList).toArray e (0,0))->Mod qJ w w'->w.heap.size<w'.heap.size->K (a.put o.dst (.slice (some ⟨w.heap.size,0,none⟩) len len)) w'):o.wp P a w K Q:=by
 unfold Oper.wp execOp;simp only[ho]
 cases hi':P.info? e with
 |none=>simp[hi']at hi
 |some i=>
  simp only[hi',Option.map_some,Option.some.injEq,Prod.mk.injEq]at hi;obtain⟨hz0,hz1⟩:=hi
  have hf:=fill_all vals 0 [] ((Array.range (len*n)).map (fun x=>z.cells[x%z.cells.size]!)).toList (by simp) (by simp[hl]) hv;rw[hl]at hf
  have hr:(Instr.buildSlice t len (Array.map (fun x=>(x.1,a.eval x.2)) parts.toArray)).run P w=.ok (.slice (some ⟨w.heap.size,0,none⟩) len len) (w.alloc (.cells (vals.flatMap fun v=>v.cells.toList).toArray e)):=by
   have hf':Instr.fill (fun i=>some (i*n,n)) ((Array.range (len*n)).map (fun x=>z.cells[x%z.cells.size]!)) (List.map (fun x=>(x.1,a.eval x.2)) parts)=some (vals.flatMap fun v=>v.cells.toList).toArray:=by
    rw[hx];simpa only[List.nil_append,Array.toArray_toList]using hf
   have h00:¬len*n=0:=by omega
   have h24:¬2^24<len*n:=by omega
   unfold Instr.buildSlice;simp only[Sem.run_bind,run_underlying hu,Result.andThen_ok,sizeOf,typeInfo,hi',hz1,Sem.run_pure,zeroValue,hz0]
   simp[h00,hf',newRow,Nat.not_lt.2 hn',hi',hz0,hz1]
  simp only[Sem.run_bind,hr,Result.andThen_ok,Sem.run_pure];exact h _ (heap_alloc_new _ _) (zI _ _) (by simp)
end
end Go.Proofs.YtjeonjoifjbohaaGreat
