/- What the statement SweepMarks needs, part 4. -/
import Derived.Lib.AppendZeros
import Derived.Shelf.SlSortCmp.NoneTotal
import Derived.Test.YtjeonjoifjbohaaGreatSweepMarksP3
set_option linter.unusedVariables false
set_option linter.unusedSimpArgs false
set_option linter.unnecessarySimpa false
set_option linter.unusedSectionVars false
set_option maxRecDepth 10000
set_option maxHeartbeats 8000000
namespace Go.Proofs.YtjeonjoifjbohaaGreat
variable{a:Act}{K:Act->iN->Prop}{Q:Exit->Act->iN->Prop}{fn:Func}{l:List iK}{b bk k m mb n:Nat}{fz:Nat×Nat}{o:Oper}{P:Program}{s:RS}{T ty tz:TypeId}{lv sv u v:Value}{di p t x:iK}{cs:iL}{G:iM}{w w' w1 w2:iN}
section
open Go.RowKit Go.Shelf Go.Proofs.Tryz Go.Lib
theorem pS(f:FuncId)(xs:List Operand)(ho:o.op=.makeFunc (.func f) #[] xs.toArray)(vals:List Value)(hx:xs.map a.eval=vals):(execOp a.eval o).run P w=.ok (.value (.func (.func f) #[] vals.toArray)) w:=by
 subst hx;unfold execOp
 simp[ho,Instr.makeFunc]
theorem cP{ps:List (Nat×Value)}{G:List Nat}{t0:Nat}(h:∀p∈ps,p.1≠t0/\p.1∈G)(a:Act)(l:List Operand)(hl:(l.all fun o=>match o with| .tmp t=> !G.contains t|_=>true)=true):l.map (uF ps a).eval=l.map a.eval:=by
 refine List.map_congr_left fun o ho=>?_;have h1:=List.all_eq_true.1 hl o ho
 cases o with
 |tmp t=>
  refine puts_eval (fun p hp e=>?_) a;have h2:=(h p hp).2;rw[e]at h2
  simp[h2]at h1
 |const v=>rfl
 |func f=>rfl
 |_=>rfl
theorem pH(x:Operand)(ho:o.op=.move x)(v:Value)(hv:a.eval x=v):(execOp a.eval o).run P w=.ok (.value v) w:=by
 subst hv;unfold execOp;simp only[ho];rfl
theorem xH(x:Operand)(i:Nat)(vs:iL)(ho:o.op=.extract x i)(hx:a.eval x=.tuple vs)(v:Value)(hv:vs[i]?=some v):(execOp a.eval o).run P w=.ok (.value v) w:=by
 unfold execOp
 simp[ho,hx,Instr.extract,hv]
theorem exec_neq_id(t:TypeId)(x y:Operand)(yt:TypeId)(ho:o.op=.binOp .neq t x y yt)(xs ys:iK)
 (hx:a.eval x=.agg (qA xs))(hy:a.eval y=.agg (qA ys))(n:Nat)(e:TypeId)(ht:P.underlying t=some (.array n e))(he:P.underlying e=some (.int .u8))
 (hsz:(P.info? e).map (·.size)=some 1)(hg:P.eqGuardType P.depth t=false)(hxs:xs.length=n)(hys:ys.length=n)(b:Bool)(hb:decide (xs≠ys)=b):
 (execOp a.eval o).run P w=.ok (.value (.bool b)) w:=by
 subst hb
 have hs:∀w,(sizeOf e).run P w=.ok 1 w:=fun w=>by
  cases hq:P.info? e with
  |none=>simp[hq]at hsz
  |some i=>simp[hq]at hsz;simp[sizeOf,typeInfo,hq,hsz]
 have h1:=run_eqGuard_agg (P:=P) w .neq t x y (qA xs) (qA ys) hg
 have h2:(binOp .neq t (.agg (xs.map Extern.Stop.cell).toArray) (.agg (ys.map Extern.Stop.cell).toArray)).run P w=.ok (.bool (!(xs==ys))) w:=by
  rw[run_neq_struct,run_equalIn_bytes w 9998 t e n ht he hs xs ys hxs hys];rfl
 unfold execOp;simp only[ho,hx,hy,Sem.run_bind,h1,Result.andThen_ok]
 rw[show qA xs=(xs.map Extern.Stop.cell).toArray from rfl,show qA ys=(ys.map Extern.Stop.cell).toArray from rfl,h2];simp only[Result.andThen_ok,Sem.run_pure]
 have h3:(!(xs==ys))=decide (xs≠ys):=by rw[Bool.eq_iff_iff];simp
 rw[h3]
theorem jF(elem:TypeId)(z:Value)(ho:o.op=.alloc elem)(hz:(P.info? elem).bind (·.zero)=some z)
 (h:∀b w',b=w.heap.size->w'.heap[b]?=some (.cells z.cells elem (0,0))->Mod qJ w w'->b<w'.heap.size->K (a.put o.dst (iO b)) w'):o.wp P a w K Q:=
 jX elem z ho hz (fun w' h1 h2 h3=>h _ w' rfl h1 h2 h3)
def NewRow(n:Nat)(cs:iL)(T:TypeId)(v:Value)(w:iN):Prop:=∃b,v=iO b/\n<=b/\w.heap[b]?=some (.cells cs T (0,0))
theorem eX(n:Nat)(cs:iL)(T:TypeId):∀(v:Value)(w w':iN),NewRow n cs T v w->Mod qJ w w'->NewRow n cs T v w':=fun _ _ _ ⟨b,h1,h2,h3⟩ hm=>⟨b,h1,h2,hm.obj id h3⟩
theorem bytesEqual_any{o o':Bool}{G':iM}{va vb:Value}{la lb:iK}(ha:Sl o w G 1 yA va la)(hb:Sl o' w G' 1 yA vb lb):
 Calls prog 101 #[va,vb] w (pT (.bool (decide (la=lb))) w):=by
 go_enter func101,ntmps101;go_upto_region 1 with(fail);refine qL [3,1,3,1,0,3] ?_;simp only[qB]
 refine cF rfl (yD 53 5 9 _ (by rfl) va (by rfl) ha underlying53 underlying5 underlying9) trivial ?_;simp only[qB]
 refine cF rfl (yD 53 5 9 _ (by rfl) vb (by rfl) hb underlying53 underlying5 underlying9) trivial ?_;try simp only[qC]
 refine qV rfl (fun w' hS=>jN _ _ _ _ rfl _ _ rfl rfl (decide (la=lb)) (by rw[decide_eq_decide];exact bytes_inj)) ?_;simp only[qB];go_wp2;go_ret
 exact⟨rfl,rfl⟩
theorem tV(b:Bool)(n:Int)(w:iN):Calls prog 98 #[.bool b,.int .i64 n] w (pT (.int .i64 (if b then n else 0)) w):=by
 cases b
 all_goals
  go_enter func98,ntmps98;go_wp2;go_ret;exact⟨rfl,rfl⟩
section
variable{w:iN}{bs ms wd:Nat}{room:Int}{bl:List iF}
structure PutEnv(w:iN)(b3 b4 b5 b8 b9 bs:Nat)(di m:iK)(v pv:Value)(is:Bool):Prop where
 c3:w.cell? ⟨b3,0,none⟩=some (iO bs)
 c4:CellsAt w b4 0 (qA di)
 c5:w.cell? ⟨b5,0,none⟩=some v
 c8:w.cell? ⟨b8,0,none⟩=some pv
 c9:w.cell? ⟨b9,0,none⟩=some (.bool is)
 sl:Sl false w (fun _=>True) 1 yA v m
theorem PutEnv.keep0{w w':iN}{b3 b4 b5 b8 b9 bs:Nat}{di m:iK}{v pv:Value}{is:Bool}(h:PutEnv w b3 b4 b5 b8 b9 bs di m v pv is)(hm:Mod qJ w w'):PutEnv w' b3 b4 b5 b8 b9 bs di m v pv is:=
 ⟨hm.cell id h.c3,h.c4.keep hm id,hm.cell id h.c5,hm.cell id h.c8,hm.cell id h.c9,Sl.keep0 h.sl hm⟩
variable{b3 b4 b5 b8 b9:Nat}{di m:iK}{v pv:Value}{is:Bool}
theorem bPut1_any(h:PutEnv w b3 b4 b5 b8 b9 bs di m v pv is)(hm:m.length<=4096):Calls prog 97 #[iO b5] w (vO (.int .i64 0) w):=by
 obtain⟨ad,cap,rfl,-,-⟩:=Sl.at h.sl;have hc:=h.c5;have hz:¬(m.length:Int)>4096:=by omega
 clear h;go_enter func97,ntmps97;go_upto_region 1 with(fail);refine qL [1,3,3,1,3] ?_;simp only[qB];refine qG 53 hc ?_;try simp only[qC]
 refine xF ?_;simp only[qC];refine xT hz ?_;simp only[qC];refine qK (xE func98 (tV false 4 _) ?_);rintro e w1 ⟨rfl,hw⟩;obtain rfl:=hw.symm
 simp only[Bool.false_eq_true,if_false];refine⟨_,rfl,?_⟩;simp only[qB];go_wp2;go_ret;exact⟨rfl,Mod.refl _ _⟩
theorem bPut2_any(h:PutEnv w b3 b4 b5 b8 b9 bs (xI wd m) m v pv is)(hst:StInv w bs ms wd room bl)(hm:m.length<=4096):Calls prog 99 #[iO b5,iO b3,iO b4] w (vO (.int .i64 0) w):=by
 obtain⟨ad,cap,rfl,-,-⟩:=Sl.at h.sl;have hw1:=hst.wok;have hdl:(xI wd m).length=32:=tF hw1.2
 have hrs:(qA (xI wd m)).size=32:=by rw[qD,hdl]
 have hwc:=hst.cell.1;have hc5:=h.c5;have hc3:=h.c3;have hc4:=h.c4;have hsl:=O h.sl;clear h hst;go_enter func99,ntmps99;go_upto_region 1 with(fail)
 go_cut [4] (fun v wx=>∃b,v=iO b/\wx.heap[b]?=some (.cells (qA (xI wd m)) 24 (0,0))/\w.heap.size<=b/\Mod qJ w wx)
 case first=>
  have hS:Mod qJ w w.drew:=(Mod.refl _ _).drew;have hT:Mod qJ w w.drew:=(Mod.refl _ _).drew
  refine yU [(0,0),(1,0),(2,3),(3,3),(4,0)] 6 [(11,3)] [] (fun w'=>Mod qJ w w') #[true,true,true,true,true,false,false,false,false,false,false,false] (by kernel_rfl) (by kernel_rfl) (by kernel_rfl) (by kernel_rfl) (by kernel_rfl) (fun _ _ _ _ hd h=>⟨hd.trans h.1,h.2⟩) hS ?_
  simp only[qB];refine qE 53 (fun w' hS=>hS.cell id hc5) ?_;simp only[qC];refine qE 29 (fun w' hS=>hS.cell id hc3) ?_;simp only[qB]
  refine qE 3 (fun w' hS=>hS.cell id hwc) ?_;simp only[qB];refine qO [5,9] (by kernel_rfl) ?_;simp only[zz3,false_implies,implies_true];refine⟨?_,?_⟩
  ·intro K hK
   simp only[zz5];refine xE func36 (shaOf_any (hsl.out.keep0 hT) (by omega) wd hw1.1 hw1.2) ?_;rintro e w2 ⟨rfl,hm2⟩
   try replace hB4:=hm2.obj id hB4
   replace hT:=hT.trans0 hm2;clear hm2;refine⟨_,rfl,hK _ _ hT ?_⟩;clear hK K;try simp only[qC]
   refine zL 6 (.tuple #[.agg (qA (xI wd m)),.int .i64 0]) (by kernel_rfl) (fun _ _ _ _ hd h=>⟨hd.trans h.1,h.2⟩) (fun w'=>by simp only[zz5];exact pH _ rfl (.tuple #[.agg (qA (xI wd m)),.int .i64 0]) rfl) hT ?_
   simp only[zz5];try simp only[qC]
   refine zL 7 (.agg (qA (xI wd m))) (by kernel_rfl) (fun _ _ _ _ hd h=>⟨hd.trans h.1,h.2⟩) (fun w'=>by simp only[zz5];exact xH _ 0 #[.agg (qA (xI wd m)),.int .i64 0] rfl rfl (.agg (qA (xI wd m))) rfl) hT ?_
   simp only[zz5];try simp only[qC]
   refine zL 8 (.int .i64 0) (by kernel_rfl) (fun _ _ _ _ hd h=>⟨hd.trans h.1,h.2⟩) (fun w'=>by simp only[zz5];exact xH _ 1 #[.agg (qA (xI wd m)),.int .i64 0] rfl rfl (.int .i64 0) rfl) hT ?_
   simp only[zz5];try simp only[qC]
   refine qO [9] (by kernel_rfl) ?_;simp only[zz3,false_implies,implies_true];intro K hK;simp only[zz5]
   refine jF 24 _ (by rfl) eC (fun b w4 hbe hB4 hm4 hs4=>?_);replace hB4:w4.heap[b]?=some (.cells (qA (List.replicate 32 0)) 24 (0,0)):=hB4
   have hbn:w.heap.size<=b:=by rw[hbe];exact hT.size
   replace hT:=hT.trans0 hm4;clear hm4 hbe hs4;refine hK _ _ hT ?_;clear hK K;try simp only[qC]
   refine qO [10] (by kernel_rfl) ?_;simp only[zz3,false_implies,implies_true];intro K hK;simp only[zz5]
   refine qT 24 (qA (xI wd m)) (qQ _) 32 hrs hB4 (fun w3 hB3 hm3=>?_) (hoff:=by rw[hrs,qD];rfl);replace hT:Mod qJ w w3:=hT.transB hm3 hbn
   clear hB4 hm3;have hB4:=hB3;clear hB3;refine hK _ _ hT ?_;clear hK K;try simp only[qC]
   refine xB ?_;try simp only[zz4]
   simp only[qB];go_wp2
   go_meet
   case rel=>exact⟨b,rfl,hB4,hbn,hT⟩
  ·intro K hK
   simp only[zz5];refine jF 24 _ (by rfl) eC (fun b w4 hbe hB4 hm4 hs4=>?_);replace hB4:w4.heap[b]?=some (.cells (qA (List.replicate 32 0)) 24 (0,0)):=hB4
   have hbn:w.heap.size<=b:=by rw[hbe];exact hT.size
   replace hT:=hT.trans0 hm4;clear hm4 hbe hs4;refine hK _ _ hT ?_;clear hK K;try simp only[qC]
   refine qO [5] (by kernel_rfl) ?_;simp only[zz3,false_implies,implies_true];intro K hK;simp only[zz5]
   refine xE func36 (shaOf_any (hsl.out.keep0 hT) (by omega) wd hw1.1 hw1.2) ?_;rintro e w2 ⟨rfl,hm2⟩
   try replace hB4:=hm2.obj id hB4
   replace hT:=hT.trans0 hm2;clear hm2;refine⟨_,rfl,hK _ _ hT ?_⟩;clear hK K;try simp only[qC]
   refine zL 6 (.tuple #[.agg (qA (xI wd m)),.int .i64 0]) (by kernel_rfl) (fun _ _ _ _ hd h=>⟨hd.trans h.1,h.2⟩) (fun w'=>by simp only[zz5];exact pH _ rfl (.tuple #[.agg (qA (xI wd m)),.int .i64 0]) rfl) hT ?_
   simp only[zz5];try simp only[qC]
   refine zL 7 (.agg (qA (xI wd m))) (by kernel_rfl) (fun _ _ _ _ hd h=>⟨hd.trans h.1,h.2⟩) (fun w'=>by simp only[zz5];exact xH _ 0 #[.agg (qA (xI wd m)),.int .i64 0] rfl rfl (.agg (qA (xI wd m))) rfl) hT ?_
   simp only[zz5];try simp only[qC]
   refine zL 8 (.int .i64 0) (by kernel_rfl) (fun _ _ _ _ hd h=>⟨hd.trans h.1,h.2⟩) (fun w'=>by simp only[zz5];exact xH _ 1 #[.agg (qA (xI wd m)),.int .i64 0] rfl rfl (.int .i64 0) rfl) hT ?_
   simp only[zz5];try simp only[qC]
   refine qO [10] (by kernel_rfl) ?_;simp only[zz3,false_implies,implies_true];intro K hK;simp only[zz5]
   refine qT 24 (qA (xI wd m)) (qQ _) 32 hrs hB4 (fun w3 hB3 hm3=>?_) (hoff:=by rw[hrs,qD];rfl);replace hT:Mod qJ w w3:=hT.transB hm3 hbn
   clear hB4 hm3;have hB4:=hB3;clear hB3;refine hK _ _ hT ?_;clear hK K;try simp only[qC]
   refine xB ?_;try simp only[zz4]
   simp only[qB];go_wp2
   go_meet
   case rel=>exact⟨b,rfl,hB4,hbn,hT⟩
 case rest=>
  rename iN=>wx
  obtain⟨b,rfl,hB4,hbn,hT⟩:=hcut;have hc4':=hc4.keep hT id;go_upto_region 2 with(fail);refine qL [1,1,0,1,3] ?_;simp only[qB]
  refine qY 24 (CellsAt.whole hB4) 32 hrs ?_;try simp only[qC]
  refine qY 24 hc4' 32 hrs ?_;try simp only[qC]
  refine qV rfl (fun w' hS=>exec_neq_id _ _ _ _ rfl (xI wd m) (xI wd m) rfl rfl 32 5 underlying24 underlying5 (by kernel_rfl) (by kernel_rfl) hdl hdl false (decide_eq_false (fun h=>h rfl))) ?_
  simp only[qC];refine qK (xE func98 (tV false 8 _) ?_);rintro e w5 ⟨rfl,hw⟩;obtain rfl:=hw.symm;simp only[Bool.false_eq_true,if_false];refine⟨_,rfl,?_⟩
  simp only[qB];go_wp2;go_ret;exact⟨rfl,hT⟩
theorem bPut3_no(h:PutEnv w b3 b4 b5 b8 b9 bs di m v pv false):Calls prog 100 #[iO b9,iO b8,iO b5] w (vO (.int .i64 0) w):=by
 have hc9:=h.c9;clear h;go_enter func100,ntmps100;go_upto_region 1 with(fail);have hS:Mod qJ w w.drew:=(Mod.refl _ _).drew
 refine zZ [0,3,0,3,3,0,0,1,3,3,1,3] [] (fun w'=>Mod qJ w w') hS ?_;simp only[qB];refine qE 4 (fun w' hS=>hS.cell id hc9) ?_;simp only[qB]
 refine xN rfl hS ?_;simp only[qB];refine qH rfl (fun K hK=>?_);refine xE func98 (tV false 9 _) ?_;rintro e w5 ⟨rfl,hw⟩;subst hw
 simp only[Bool.false_eq_true,if_false];refine⟨_,rfl,hK _ _ hS ?_⟩;clear hK K;simp only[qB];go_wp2;go_ret;exact⟨rfl,hS⟩
theorem bPut3_old{bv:Value}{mo:iK}(h:PutEnv w b3 b4 b5 b8 b9 bs di m v (tD bk) true)(hkc:w.cell? ⟨bk,0,none⟩=some bv)(hbt:Sl false w (fun _=>True) 1 yA bv mo):
 Calls prog 100 #[iO b9,iO b8,iO b5] w (vO (.int .i64 (if mo=m then 0 else 9)) w):=by
 have hc9:=h.c9;have hc8:w.cell? ⟨b8,0,none⟩=some (iO bk):=h.c8;have hc5:=h.c5;have hsl:=O h.sl;have HBT:=O hbt
 obtain⟨r,hr⟩:∃q,(if mo=m then(0:Int)else 9)=q:=⟨_,rfl⟩;rw[hr]
 have HEQ:=O (show(if(!decide (mo=m))=true then(9:Int)else 0)=r by rw[<-hr];by_cases hq:mo=m<;>simp[hq]);clear h hbt hr;go_enter func100,ntmps100
 go_upto_region 1 with(fail);have hS:Mod qJ w w.drew:=(Mod.refl _ _).drew;refine zZ [0,3,0,3,3,0,0,1,3,3,1,3] [] (fun w'=>Mod qJ w w') hS ?_;simp only[qB]
 refine qE 4 (fun w' hS=>hS.cell id hc9) ?_;simp only[qB];refine qE 166 (fun w' hS=>hS.cell id hc8) ?_;simp only[qB];refine qE 53 (fun w' hS=>hS.cell id hkc) ?_
 simp only[qC];refine qE 53 (fun w' hS=>hS.cell id hc5) ?_;simp only[qC];refine qH rfl (fun K hK=>?_)
 refine xE func101 (bytesEqual_any (HBT.out.keep0 hS) (hsl.out.keep0 hS)) ?_;rintro e w5 ⟨rfl,hw⟩;subst hw;generalize decide (mo=m)=eqb at*;refine⟨_,rfl,hK _ _ hS ?_⟩
 clear hK K;try simp only[qC]
 refine xC _ _ eqb rfl rfl rfl ?_;simp only[qB];refine qH rfl (fun K hK=>?_);refine xE func98 (tV (!eqb) 9 _) ?_;rintro e w6 ⟨rfl,hw6⟩;subst hw6;rw[HEQ.out]
 refine⟨_,rfl,hK _ _ hS ?_⟩;clear hK K;simp only[qB];go_wp2;go_ret;exact⟨rfl,hS⟩
theorem bPut4_old(h:PutEnv w b3 b4 b5 b8 b9 bs di m v pv true):Calls prog 102 #[iO b9,iO b3,iO b5] w (vO (.int .i64 0) w):=by
 have hc9:=h.c9;clear h;go_enter func102,ntmps102;go_upto_region 1 with(fail);have hS:Mod qJ w w.drew:=(Mod.refl _ _).drew
 refine zZ [0,3,3,0,3,3,0,0,3,3,0,3,3,0,3,3,1,3] [] (fun w'=>Mod qJ w w') hS ?_;simp only[qB];refine qE 4 (fun w' hS=>hS.cell id hc9) ?_
 try simp only[qB]
 try refine xC _ _ _ rfl rfl rfl ?_
 try simp only[qB]
 refine qH rfl (fun K hK=>?_);refine xE func98 (tV false 10 _) ?_;rintro e w5 ⟨rfl,hw⟩;subst hw;simp only[Bool.false_eq_true,if_false]
 refine⟨_,rfl,hK _ _ hS ?_⟩;clear hK K;simp only[qB];go_wp2;go_ret;exact⟨rfl,hS⟩
theorem bPut4_no(h:PutEnv w b3 b4 b5 b8 b9 bs di m v pv false)(hst:StInv w bs ms wd room bl)(hm:m.length<=4096)(hroom:(vJ (xJ bl):Int)+(m.length:Int)<=room):Calls prog 102 #[iO b9,iO b3,iO b5] w (vO (.int .i64 0) w):=by
 obtain⟨ad,cap,rfl,-,-⟩:=Sl.at h.sl;have hc9:=h.c9;have hc3:=h.c3;have hc5:=h.c5;have hcu:=hst.cell.2.2.1;have hcr:=hst.cell.2.1;have hus:=hst.used
 obtain⟨u,hu⟩:∃q,((vJ (xJ bl):Nat):Int)=q:=⟨_,rfl⟩;rw[hu]at hcu hroom;have hub:0<=u/\u<=40960000:=by omega
 have hz:¬(u+(m.length:Int)>room):=by omega
 clear h hst hu hus;go_enter func102,ntmps102;go_upto_region 1 with(fail);have hS:Mod qJ w w.drew:=(Mod.refl _ _).drew
 refine zZ [0,3,3,0,3,3,0,0,3,3,0,3,3,0,3,3,1,3] [] (fun w'=>Mod qJ w w') hS ?_;simp only[qB];refine qE 4 (fun w' hS=>hS.cell id hc9) ?_
 try simp only[qB]
 try refine xC _ _ _ rfl rfl rfl ?_
 try simp only[qB]
 refine qE 29 (fun w' hS=>hS.cell id hc3) ?_;simp only[qB];refine qE 3 (fun w' hS=>hS.cell id hcu) ?_;simp only[qC];refine qE 53 (fun w' hS=>hS.cell id hc5) ?_
 simp only[qC];refine xF ?_;simp only[qC];refine cI _ _ _ _ u ((m.length:Nat):Int) (u+(m.length:Int)) rfl rfl rfl rfl rfl (by omega) (by omega) ?_
 simp only[qC];refine qE 29 (fun w' hS=>hS.cell id hc3) ?_;simp only[qB];refine qE 3 (fun w' hS=>hS.cell id hcr) ?_;simp only[qC];refine xT hz ?_;simp only[qB]
 refine qH rfl (fun K hK=>?_);refine xE func98 (tV false 10 _) ?_;rintro e w5 ⟨rfl,hw⟩;subst hw;simp only[Bool.false_eq_true,if_false]
 refine⟨_,rfl,hK _ _ hS ?_⟩;clear hK K;simp only[qB];go_wp2;go_ret;exact⟨rfl,hS⟩
def aL(di m:iK)(c:yO):yO:=if(qR di c).isSome then c else c++[(di,m)]
theorem usedL_app(c:yO)(di m:iK):vJ (c++[(di,m)])=vJ c+m.length:=by
 induction c with
 |nil=>simp[vJ]
 |cons p c ih=>simp only[List.cons_append,vJ,ih];omega
theorem aZ(h:w.heap[b]?=some (.cells #[v] T fz)):w.cell? ⟨b,0,none⟩=some v:=by simp[World.cell?,h]
theorem why_i:(prog.info? 175).map (fun i=>(i.zero,i.size))=some (some .nilFunc,1):=by kernel_rfl
theorem pKeptZ:(prog.info? 166).bind (·.zero)=some (.pointer none):=by kernel_rfl
theorem boolZ:(prog.info? 4).bind (·.zero)=some (.bool false):=by kernel_rfl
theorem built_kept(v:Value)(h:v.cells=#[v]):prog.built 170 [(0,v)]=some #[v]:=by
 have z:(prog.info? 170).bind (·.zero)=some (.agg #[.slice none 0 0]):=by kernel_rfl
 have p:yM prog 170=some [(0,1)]:=by kernel_rfl
 rw[zX z p,zN (off:=0) (size:=1) rfl (by rw[h];rfl) (by simp),yN,h]
 rfl
def PutRel(w0:iN)(i:Value)(w:iN):Prop:=∃k:Nat,k<=4/\i=.int .i64 k/\Mod qJ w0 w
end
theorem jQ{ops:Array Oper}{S:iN->Prop}{r:List (Oper×Nat)}{x:Operand}{i:Nat}{vs:iL}(v:Value)(h:zF P ops Q S r (a.put o.dst v) w)(hw:Region.wanted o (yielded ops a.tmps)=true:=by rfl)(ho:o.op=.extract x i:=by rfl)(hx:a.eval x=.tuple vs:=by rfl)(hv:vs[i]?=some v:=by rfl):zF P ops Q S ((o,3)::r) a w:=
 qM hw (fun _=>xH x i vs ho hx v hv) h
section
variable{w:iN}{bs ms wd:Nat}{room:Int}{bl:List iF}
def PutR(w:iN)(bs ms wd:Nat)(room:Int)(bl:List iF)(m:iK):iJ:=fun e w'=>(∃(ok:Bool)(er:Int),e=.returned (.tuple #[.bool ok,.int .i64 er]))/\StTo w bs ms wd room bl w' (aL (xI wd m) m (xJ bl))
theorem StInv.more(h:StInv w bs ms wd room bl){w3 w4:iN}{m:iK}{vk:Value}(hfew:bl.length<10000)(hsz:m.length<=4096)(hf:qR di (xJ bl)=none)(h1:Mod qJ w w1)(hb:Bts w.heap.size w1 vk m)(hkn:w.heap.size<=bk)(hkb:w2.heap[bk]?=some (.cells #[vk] 170 (0,0)))(h2:Mod qJ w1 w2)
 (hm:MapIs tQ bB w3 ms (kD di (tD bk) (bl.map fun b=>(b.id,tD b.blk))))(h3:Mod (fun j=>j=ms) w2 w3)
 (hbox:w4.heap[bs]?=some (.cells #[.int .i64 wd,.int .i64 room,.int .i64 ((vJ (xJ bl):Nat)+(m.length:Nat):Int),.map (some ms)] 95 (0,0)))(h4:Mod (fun j=>j=bs) w3 w4):
 StTo w bs ms wd room bl w4 (aL di m (xJ bl)):=by
 have hn:=h.nes;have h24:Mod (fun k=>k=bs\/k=ms) w2 w4:=(h3.mono (fun _ _ h=>.inr h)).trans h4 (fun _ _ h=>.inl h);have h02:=h1.trans0 h2
 have hM:Mod (fun k=>k=bs\/k=ms) w w4:=(h02.mono (fun _ _ h=>h.elim)).trans h24 (fun _ _ h=>h);have hlb:=h.lt bs (.inl rfl);have hlm:=h.lt ms (.inr (.inl rfl))
 have hs1:=h1.size;have hs2:=h2.size;have hs3:=h3.size;have hs4:=h4.size;have hbkl:bk<w2.heap.size:=(Array.getElem?_eq_some_iff.1 hkb).1
 have hfm:qR di (bl.map fun b=>(b.id,tD b.blk))=none:=by
  rw[getL_none]at hf |-
  simpa[xJ,List.map_map,Function.comp_def]using hf
 have hpu:aL di m (xJ bl)=xJ (bl++[⟨di,bk,vk,m⟩]):=by
  unfold aL;rw[hf]
  simp[xJ]
 have hvk:∀k,vk.ownBlock=some k->w.heap.size<=k/\k<w1.heap.size:=fun k hk=>World.ownsRow.lt hb k hk;rw[hpu]
 refine⟨bl++[⟨di,bk,vk,m⟩],⟨?_,?_,?_,?_,?_,?_,h.wok⟩,rfl,hM,?_⟩
 ·rw[<-hpu]
  have e:vJ (aL di m (xJ bl))=vJ (xJ bl)+m.length:=by unfold aL;rw[hf];exact usedL_app _ _ _
  rw[e,Int.natCast_add];exact hbox
 ·rw[putL_none hfm]at hm
  have:=hm.keep h4 (fun e=>hn.1 e.symm)
  simpa using this
 ·intro b hb'
  rcases List.mem_append.1 hb' with hb'|hb'
  ·have:=hn.2 b hb'
   exact hM.obj (fun e=>e.elim this.1 this.2.1) (h.kb b hb')
  ·rw[List.mem_singleton]at hb';subst hb'
   exact h24.obj (fun e=>by
    have e':bk=bs\/bk=ms:=e
    omega) hkb
 ·intro b hb'
  rcases List.mem_append.1 hb' with hb'|hb'
  ·have:=hn.2 b hb'
   exact jS (h.bt b hb') hM (fun k hk e=>e.elim (this.2.2 k hk).1 (this.2.2 k hk).2)
  ·rw[List.mem_singleton]at hb';subst hb'
   have hb0:Bts 0 w1 vk m:=uT hb (Nat.zero_le _);have hb1:Bts 0 w2 vk m:=jS hb0 h2 (fun _ _=>id)
   exact jS hb1 h24 (fun k hk e=>by
    have:=(hvk k hk).1;have e':k=bs\/k=ms:=e
    omega)
 ·intro b hb'
  rcases List.mem_append.1 hb' with hb'|hb'
  ·exact h.sz b hb'
  ·rw[List.mem_singleton]at hb';subst hb';exact hsz
 ·simp;omega
 ·intro k hk
  rcases hk with rfl|rfl|⟨b,hb',hk⟩
  ·exact .inl (.inl rfl)
  ·exact .inl (.inr (.inl rfl))
  ·rcases List.mem_append.1 hb' with hb'|hb'
   ·exact .inl (.inr (.inr ⟨b,hb',hk⟩))
   ·rw[List.mem_singleton]at hb';subst hb'
    right
    rcases hk with rfl|hk
    ·exact⟨hkn,by show k<_;omega⟩
    ·have:=hvk k hk
     exact⟨this.1,by omega⟩
theorem bPut_any(h:StInv w bs ms wd room bl){own:Bool}{m:iK}(hv:Sl own w G 1 yA v m)(hm:m.length<=4096)(hroom:(vJ (xJ bl):Int)+(m.length:Int)<=room)(hfew:bl.length<10000):
 Calls prog 37 #[iO bs,.agg (qA (xI wd m)),v] w (PutR w bs ms wd room bl m):=by
 have hsl0:Sl false w (fun _=>True) 1 yA v m:=hv.weak.mono (fun _ _=>trivial) (fun _ _ h=>h)
 have hv1:v.oneCell'=true:=by obtain⟨ad,cap,rfl,-,-⟩:=Sl.at hv;rfl
 have hvc:v.cells=#[v]:=by obtain⟨ad,cap,rfl,-,-⟩:=Sl.at hv;rfl
 have hwd:=h.wok;have hdl:(xI wd m).length=32:=tF hwd.2;have hus:=h.used;have H:=O h;have hdi:Hid (xI wd m=xI wd m):=O rfl
 obtain⟨fb,hfb⟩:∃q,eE (xI wd m) bl=q:=⟨_,rfl⟩;obtain⟨pv,hpv⟩:∃q,blkV fb=q:=⟨_,rfl⟩;obtain⟨is,his⟩:∃q,fb.isSome=q:=⟨_,rfl⟩
 have hl:=fun(w':iN)(hm:Mod qJ w w')(o:Oper)(a:Act)(mm x:Operand)=> @StInv.look w' bs ms wd room bl (h.keep0 hm) o a mm x (xI wd m) hdl
 simp only[hfb,hpv,his]at hl;have HL:=O hl;have HFB:=O hfb;have HPV:=O hpv;have HIS:=O his
 have hp1:pv.oneCell'=true:=by rw[<-hpv];cases fb<;>rfl
 have HGB:=O (getB (xI wd m) bl);have hrs:(qA (xI wd m)).size=32:=by rw[qD,hdl]
 have HSL:=O hsl0;obtain⟨di,hdie⟩:∃q,xI wd m=q:=⟨_,rfl⟩;have HDI:=O hdie;rw[hdie]at hrs hdl |-;clear h hv hsl0 hfb hpv his hl hdi hdie
 go_enter func37,ntmps37;go_upto_region 0 with(fail);refine qL [1,1,1,3,3] ?_;simp only[qB];refine qK (zT 29 (fun w1 hB1 hm1 hs1=>?_))
 replace hB1:w1.heap[w.heap.size]?=some (.cells #[iO bs] 29 (0,0)):=hB1;try simp only[qC]
 refine qK (zT 24 (fun w2 hB2 hm2 hs2=>?_));replace hB2:w2.heap[w1.heap.size]?=some (.cells (qA di) 24 (0,0)):=hB2;try simp only[qC]
 refine qK (zT 53 (fun w3 hB3 hm3 hs3=>?_));replace hB3:w3.heap[w2.heap.size]?=some (.cells #[v] 53 (0,0)):=by rw[<-hvc];exact hB3
 simp only[qB];have hM3:=(hm1.trans0 hm2).trans0 hm3;have hb3:=(hm2.trans0 hm3).obj id hB1;have hb4:=hm3.obj id hB2;have hs03:=hM3.size
 have hn3:w.heap.size<=w.heap.size:=Nat.le_refl _;generalize hb3e:w.heap.size=b3 at*;generalize hb4e:w1.heap.size=b4 at*;generalize hb5e:w2.heap.size=b5 at*
 clear hm1 hm2 hm3 hB1 hB2;have hc3:=aZ hb3;have hc4:=CellsAt.whole hb4;have hc5:=aZ hB3;go_upto_region 1 with(fail);refine qL [1,1] ?_;simp only[qB]
 refine qG 29 hc3 ?_;try simp only[qC]
 refine kS rfl ?_;go_wp2_with (go_at_call 92;refine(H.out.keep0 hM3).made.mono ?_;rintro _ wx ⟨rfl,hw⟩;obtain rfl:=hw.symm);simp only[qB]
 have hms3:=(H.out.keep0 hM3).cell.2.2.2;go_upto_region 3 with(fail);have hS:Mod qJ w3 w3.drew:=(Mod.refl _ _).drew
 refine tZ [.inl [(0,0),(1,3),(2,3),(3,0),(4,0),(5,0),(6,3),(7,3),(8,3)],.inr (.inr (2,#[true,true,true,true,true,true,true,true,true,false,false,false,false])),.inr (.inl 11),.inr (.inl 12)] (fun w'=>Mod qJ w3 w') (by kernel_rfl) (by kernel_rfl) (by kernel_rfl) (fun _ _ _ _ hd h=>⟨hd.trans h.1,h.2⟩) hS ?_
 refine pU ?_;simp only[List.map_cons,List.map_nil,Array.getD_eq_getD_getElem?,List.getElem?_toArray,List.getElem?_cons_succ,List.getElem?_cons_zero,Option.getD_some]
 refine qE 29 (fun w' hS=>hS.cell id hc3) ?_;simp only[qB];refine qE 93 (fun w' hS=>hS.cell id hms3) ?_;simp only[qC]
 refine zJ 24 (fun w' hS=>hc4.keep hS id) 32 hrs ?_;simp only[qC]
 refine qV rfl (fun w' hS=>HL.out w' (hM3.trans0 hS) _ _ _ _ (by rfl) (by rfl) (by rw[HDI.out];rfl)) ?_;simp only[qB]
 refine qZ (fun _=>by go_simp;try with_reducible rfl) ?_;simp only[qC];refine qZ (fun _=>by go_simp;try with_reducible rfl) ?_;simp only[qB];refine uM ?_
 refine gR [(8,NewRow w3.heap.size #[.pointer none] 166),(9,NewRow w3.heap.size #[.bool false] 4)] [(9,8,[]),(10,9,[])] ?hF ?hS (by decide) (by kernel_rfl) (by kernel_rfl) (by kernel_rfl) ?hw ?hend ?hop
 case hF=>
  intro x hx;simp only[List.mem_cons,List.not_mem_nil,or_false]at hx
  rcases hx with rfl|rfl
  ·exact eX _ _ _
  ·exact eX _ _ _
 case hS=>exact(fun _ hm=>hS.trans0 hm)
 case hw=>
  intro q hq;simp only[List.mem_cons,List.not_mem_nil,or_false]at hq
  rcases hq with rfl|rfl<;>rfl
 case hop=>
  intro q hq ps w1 hm hps hds hnd hpn K hK;simp only[List.mem_cons,List.not_mem_nil,or_false]at hq
  rcases hq with rfl|rfl
  ·simp only[aX,Nat.reduceEqDiff,if_true,if_false,reduceIte]at hK
   simp only[zz5];clear hps hds;have hsz0:=(hS.trans0 hm).size;refine wpAl9 pKeptZ (fun w2 hB2 hm2 hs2=>?_);exact hK _ _ hm2 ⟨_,rfl,hsz0,hB2⟩
  ·simp only[aX,Nat.reduceEqDiff,if_true,if_false,reduceIte]at hK
   simp only[zz5];clear hps hds;have hsz0:=(hS.trans0 hm).size;refine wpAl9 boolZ (fun w2 hB2 hm2 hs2=>?_);exact hK _ _ hm2 ⟨_,rfl,hsz0,hB2⟩
 case hend=>
  intro vals wz hvl hGM hJ;obtain⟨v8,vals1,rfl,hvl1⟩:=kL hvl;obtain⟨v9,vals2,rfl,hvl2⟩:=kL hvl1;obtain rfl:=List.eq_nil_of_length_eq_zero hvl2
  simp only[List.map_cons,List.map_nil,List.zip_cons_cons,List.zip_nil_left]at hJ |-;have h8:=hJ (8,v8) (by simp)
  simp only[aX,Nat.reduceEqDiff,if_true,if_false,reduceIte]at h8;have h9:=hJ (9,v9) (by simp);simp only[aX,Nat.reduceEqDiff,if_true,if_false,reduceIte]at h9
  clear hJ hvl hvl1 hvl2;have hGM8:=hGM;simp only[uF];try simp only[qC]
  refine pV rfl (fun K hK=>?_);simp only[zz5];have hSg:=hS.trans0 hGM;obtain⟨b8,rfl,hb8n,hB8⟩:=h8;obtain⟨b9,rfl,hb9n,hB9⟩:=h9
  have h89:b8≠b9:=fun e=>by
   subst e;have h:=Option.some.inj (hB8.symm.trans hB9);injection h with _ hT _;exact absurd hT (by decide)
  refine zR 166 0 pv hB8 (fun w4 hB4 hm4=>?_) (hoff:=by simp) (h1:=hp1);replace hB4:w4.heap[b8]?=some (.cells #[pv] 166 (0,0)):=hB4
  replace hB9:=hm4.objB (fun e=>h89 e.symm) hB9;have hS4:Mod qJ w3 w4:=hSg.transB hm4 hb8n;refine hK _ _ hS4 ?_;clear hK K;try simp only[qC]
  refine pV rfl (fun K hK=>?_);simp only[zz5];refine zR 4 0 (.bool is) hB9 (fun w5 hB5 hm5=>?_) (hoff:=by simp)
  replace hB5:w5.heap[b9]?=some (.cells #[.bool is] 4 (0,0)):=hB5;replace hB4:=hm5.objB h89 hB4;have hS5:Mod qJ w3 w5:=hS4.transB hm5 hb9n;refine hK _ _ hS5 ?_
  clear hK K;try simp only[qC]
  refine gQ ?_;have hM5:=hM3.trans0 hS5
  have HENV:Hid (PutEnv w5 b3 b4 b5 b8 b9 bs (xI wd m) m v pv is):=O ⟨aZ (hS5.obj id hb3),by rw[HDI.out];exact CellsAt.whole (hS5.obj id hb4),aZ (hS5.obj id hB3),aZ hB4,aZ hB5,HSL.out.keep0 hM5⟩
  clear hS hSg hS4 hS5 hm4 hm5 hGM hGM8 hB8 hB4 hB9 hB5 hc3 hc4 hc5 hb3 hb4 hB3 hms3 hM3;go_upto_region 4 with(fail);refine qL [1,1,1,1,1,3,3] ?_;simp only[qB]
  refine cF rfl (pS 97 [.tmp 5] (by rfl) [iO b5] (by rfl)) trivial ?_;try simp only[qC]
  refine cF rfl (pS 99 [.tmp 5,.tmp 3,.tmp 4] (by rfl) [iO b5,iO b3,iO b4] (by rfl)) trivial ?_
  try simp only[qC]
  refine cF rfl (pS 100 [.tmp 9,.tmp 8,.tmp 5] (by rfl) [iO b9,iO b8,iO b5] (by rfl)) trivial ?_
  try simp only[qC]
  refine cF rfl (pS 102 [.tmp 9,.tmp 3,.tmp 5] (by rfl) [iO b9,iO b3,iO b5] (by rfl)) trivial ?_
  try simp only[qC]
  refine qK (vX 177 175 4 [(0,_),(1,_),(2,_),(3,_)] [.func (.func 97) #[] #[iO b5],.func (.func 99) #[] #[iO b5,iO b3,iO b4],.func (.func 100) #[] #[iO b9,iO b8,iO b5],.func (.func 102) #[] #[iO b9,iO b3,iO b5]] .nilFunc 1 (by rfl) (by rfl) (by rfl) underlying177 why_i (by omega) (by omega) (by simp[Value.cells]) (fun w6 hB6 hm6 hs6=>?_))
  have hM6:=hM5.trans0 hm6;replace HENV:=O (HENV.out.keep0 hm6);generalize w5.heap.size=b28 at*;try simp only[qC]
  refine xF ?_;simp only[qB]
  have HC0:Hid (w6.cell? ⟨b28,0,none⟩=some (.func (.func 97) #[] #[iO b5])):=O (by simp[World.cell?,hB6,Value.cells])
  have HC1:Hid (w6.cell? ⟨b28,1,none⟩=some (.func (.func 99) #[] #[iO b5,iO b3,iO b4])):=O (by simp[World.cell?,hB6,Value.cells])
  have HC2:Hid (w6.cell? ⟨b28,2,none⟩=some (.func (.func 100) #[] #[iO b9,iO b8,iO b5])):=O (by simp[World.cell?,hB6,Value.cells])
  have HC3:Hid (w6.cell? ⟨b28,3,none⟩=some (.func (.func 102) #[] #[iO b9,iO b3,iO b5])):=O (by simp[World.cell?,hB6,Value.cells])
  clear hB6 hm6 hM5;go_wp2
  go_loopw [30] (PutRel w6) (fun i _=>4-(intOf i).toNat)
  case atStart=>exact⟨0,by omega,rfl,Mod.refl _ _⟩
  case round=>
   rename iN=>wr
   obtain⟨k,hk,rfl,hmr⟩:=hrel;have hMr:=hM6.trans0 hmr
   by_cases hlt:k<4
   ·have hzk:(k:Int)<4:=by omega
    have henv:=HENV.out.keep0 hmr;have hstr:=H.out.keep0 hMr
    rcases(by omega:k=0\/k=1\/k=2\/k=3)with hq|hq|hq|hq
    ·have hcell:wr.cell? ⟨b28,k*1,none⟩=some (.func (.func 97) #[] #[iO b5]):=by rw[hq];exact hmr.cell id HC0.out
     go_upto_region 6 with(fail);refine qL [3,1,3] ?_;simp only[qB];refine zC 177 1 hlt ?_;simp only[qC];refine qG 175 hcell ?_;simp only[qB];clear hcell
     go_upto_region 7 with(fail);refine qL [3,1,3] ?_;simp only[qB]
     refine qK (pP 97 _ [] _ #[] #[iO b5] (by rfl) (by rfl) (enters_of func97 (by kernel_rfl) rfl) ?_)
     show Calls prog 97 #[iO b5] _ _
     refine(bPut1_any henv hm).mono ?_;rintro e w8 ⟨rfl,hm8⟩;have hm68:=hmr.trans0 hm8;refine⟨_,rfl,?_⟩;simp only[qB];clear hmr hMr hm8;go_wp2
     go_roundw
     case rel=>exact⟨k+1,by omega,by go_num,hm68⟩
     case measure=>simp[intOf];omega
    ·have hcell:wr.cell? ⟨b28,k*1,none⟩=some (.func (.func 99) #[] #[iO b5,iO b3,iO b4]):=by rw[hq];exact hmr.cell id HC1.out
     go_upto_region 6 with(fail);refine qL [3,1,3] ?_;simp only[qB];refine zC 177 1 hlt ?_;simp only[qC];refine qG 175 hcell ?_;simp only[qB];clear hcell
     go_upto_region 7 with(fail);refine qL [3,1,3] ?_;simp only[qB]
     refine qK (pP 99 _ [] _ #[] #[iO b5,iO b3,iO b4] (by rfl) (by rfl) (enters_of func99 (by kernel_rfl) rfl) ?_)
     show Calls prog 99 #[iO b5,iO b3,iO b4] _ _
     refine(bPut2_any henv hstr hm).mono ?_;rintro e w8 ⟨rfl,hm8⟩;have hm68:=hmr.trans0 hm8;refine⟨_,rfl,?_⟩;simp only[qB];clear hmr hMr hm8;go_wp2
     go_roundw
     case rel=>exact⟨k+1,by omega,by go_num,hm68⟩
     case measure=>simp[intOf];omega
    ·cases fb with
     |none=>
      obtain rfl:false=is:=HIS.out
      have hcell:wr.cell? ⟨b28,k*1,none⟩=some (.func (.func 100) #[] #[iO b9,iO b8,iO b5]):=by rw[hq];exact hmr.cell id HC2.out
      go_upto_region 6 with(fail);refine qL [3,1,3] ?_;simp only[qB];refine zC 177 1 hlt ?_;simp only[qC];refine qG 175 hcell ?_;simp only[qB];clear hcell
      go_upto_region 7 with(fail);refine qL [3,1,3] ?_;simp only[qB]
      refine qK (pP 100 _ [] _ #[] #[iO b9,iO b8,iO b5] (by rfl) (by rfl) (enters_of func100 (by kernel_rfl) rfl) ?_)
      show Calls prog 100 #[iO b9,iO b8,iO b5] _ _
      refine(bPut3_no henv).mono ?_;rintro e w8 ⟨rfl,hm8⟩;have hm68:=hmr.trans0 hm8;refine⟨_,rfl,?_⟩;simp only[qB];clear hmr hMr hm8;go_wp2
      go_roundw
      case rel=>exact⟨k+1,by omega,by go_num,hm68⟩
      case measure=>simp[intOf];omega
     |some b=>
      obtain rfl:true=is:=HIS.out;obtain rfl:tD b.blk=pv:=HPV.out;obtain⟨hbm,hbid⟩:=dT HFB.out;have hkc:=aZ (hstr.kb b hbm)
      have hbs:Sl false wr (fun _=>True) 1 yA b.val b.bytes:=(Bts.sl (hstr.bt b hbm)).weak.mono (fun _ _=>trivial) (fun _ _ h=>h)
      have hsome:Hid ((qR (xI wd m) (xJ bl)).isSome=true):=O (by rw[HGB.out,HFB.out];rfl)
      have hputb:Hid (aL (xI wd m) m (xJ bl)=xJ bl):=O (by unfold aL;rw[if_pos hsome.out])
      obtain⟨er,her⟩:∃q,(if b.bytes=m then(0:Int)else 9)=q:=⟨_,rfl⟩;have HER:=O her;clear her
      have hcell:wr.cell? ⟨b28,k*1,none⟩=some (.func (.func 100) #[] #[iO b9,iO b8,iO b5]):=by rw[hq];exact hmr.cell id HC2.out
      go_upto_region 6 with(fail);refine qL [3,1,3] ?_;simp only[qB];refine zC 177 1 hlt ?_;simp only[qC];refine qG 175 hcell ?_;simp only[qB];clear hcell
      go_upto_region 7 with(fail);refine qL [3,1,3] ?_;simp only[qB]
      refine qK (pP 100 _ [] _ #[] #[iO b9,iO b8,iO b5] (by rfl) (by rfl) (enters_of func100 (by kernel_rfl) rfl) ?_)
      show Calls prog 100 #[iO b9,iO b8,iO b5] _ _
      refine(bPut3_old henv hkc hbs).mono ?_;rintro e w8 ⟨rfl,hm8⟩;have hm68:=hmr.trans0 hm8;rw[HER.out];refine⟨_,rfl,?_⟩;simp only[qB];have hMe:=hM6.trans0 hm68
      have hE0:er=0\/er=9:=by rw[<-HER.out];split<;>simp
      clear HER
      rcases hE0 with rfl|rfl
      ·clear hmr hMr hm8 hMe
       go_wp2
       go_roundw
       case rel=>exact⟨k+1,by omega,by go_num,hm68⟩
       case measure=>simp[intOf];omega
      ·have HT:=O (H.out.to0 hMe)
       clear hmr hMr hm8 hMe hm68;go_wp2;go_ret2;exact⟨⟨_,_,rfl⟩,by rw[<-HDI.out]at*;rw[hputb.out];exact HT.out⟩
    ·cases fb with
     |none=>
      obtain rfl:false=is:=HIS.out
      have hcell:wr.cell? ⟨b28,k*1,none⟩=some (.func (.func 102) #[] #[iO b9,iO b3,iO b5]):=by rw[hq];exact hmr.cell id HC3.out
      go_upto_region 6 with(fail);refine qL [3,1,3] ?_;simp only[qB];refine zC 177 1 hlt ?_;simp only[qC];refine qG 175 hcell ?_;simp only[qB];clear hcell
      go_upto_region 7 with(fail);refine qL [3,1,3] ?_;simp only[qB]
      refine qK (pP 102 _ [] _ #[] #[iO b9,iO b3,iO b5] (by rfl) (by rfl) (enters_of func102 (by kernel_rfl) rfl) ?_)
      show Calls prog 102 #[iO b9,iO b3,iO b5] _ _
      refine(bPut4_no henv hstr hm hroom).mono ?_;rintro e w8 ⟨rfl,hm8⟩;have hm68:=hmr.trans0 hm8;refine⟨_,rfl,?_⟩;simp only[qB];clear hmr hMr hm8;go_wp2
      go_roundw
      case rel=>exact⟨k+1,by omega,by go_num,hm68⟩
      case measure=>simp[intOf];omega
     |some b=>
      obtain rfl:true=is:=HIS.out
      have hcell:wr.cell? ⟨b28,k*1,none⟩=some (.func (.func 102) #[] #[iO b9,iO b3,iO b5]):=by rw[hq];exact hmr.cell id HC3.out
      go_upto_region 6 with(fail);refine qL [3,1,3] ?_;simp only[qB];refine zC 177 1 hlt ?_;simp only[qC];refine qG 175 hcell ?_;simp only[qB];clear hcell
      go_upto_region 7 with(fail);refine qL [3,1,3] ?_;simp only[qB]
      refine qK (pP 102 _ [] _ #[] #[iO b9,iO b3,iO b5] (by rfl) (by rfl) (enters_of func102 (by kernel_rfl) rfl) ?_)
      show Calls prog 102 #[iO b9,iO b3,iO b5] _ _
      refine(bPut4_old henv).mono ?_;rintro e w8 ⟨rfl,hm8⟩;have hm68:=hmr.trans0 hm8;refine⟨_,rfl,?_⟩;simp only[qB];clear hmr hMr hm8;go_wp2
      go_roundw
      case rel=>exact⟨k+1,by omega,by go_num,hm68⟩
      case measure=>simp[intOf];omega
   ·have hzk:¬(k:Int)<4:=by omega
    have henv:=HENV.out.keep0 hmr;have hstr:=H.out.keep0 hMr;have hc9:=henv.c9
    cases fb with
    |some b=>
     obtain rfl:true=is:=HIS.out;have hsome:Hid ((qR (xI wd m) (xJ bl)).isSome=true):=O (by rw[HGB.out,HFB.out];rfl)
     have hputb:Hid (aL (xI wd m) m (xJ bl)=xJ bl):=O (by unfold aL;rw[if_pos hsome.out]);have HT:=O (H.out.to0 hMr);clear hmr hMr
     go_upto_region 11 with(fail);refine qL [1] ?_;simp only[qB];refine qG 4 hc9 ?_;simp only[qB];go_wp2;go_ret2
     exact⟨⟨_,_,rfl⟩,by rw[<-HDI.out]at*;rw[hputb.out];exact HT.out⟩
    |none=>
     obtain rfl:false=is:=HIS.out;have hnone:Hid (qR (xI wd m) (xJ bl)=none):=O (by rw[HGB.out,HFB.out];rfl);go_upto_region 11 with(fail);refine qL [1] ?_
     simp only[qB];refine qG 4 hc9 ?_;simp only[qB];have hc3:=henv.c3;have hc4:CellsAt wr b4 0 (qA di):=by have:=henv.c4;rw[HDI.out]at this;exact this
     have hc5:=henv.c5;have hmsr:=hstr.cell.2.2.2;have hslr:=O henv.sl;have hlmr:=hstr.lm;have hboxr:=hstr.box;have hltb:bs<wr.heap.size:=hstr.lt bs (.inl rfl)
     have hltm:ms<wr.heap.size:=hstr.lt ms (.inr (.inl rfl));have hbm:=hstr.nes.1;clear henv hc9;go_upto_region 13 with(fail)
     have hS:Mod qJ wr wr.drew:=(Mod.refl _ _).drew;refine zZ [0,3,3,0,0,0,1,0,1,2] [9] (fun w'=>Mod qJ wr w') hS ?_;simp only[qB]
     refine qE 29 (fun w' hS=>hS.cell id hc3) ?_;simp only[qB];refine qE 93 (fun w' hS=>hS.cell id hmsr) ?_;simp only[qC]
     refine zJ 24 (fun w' hS=>hc4.keep hS id) 32 hrs ?_;simp only[qC];refine qE 53 (fun w' hS=>hS.cell id hc5) ?_;simp only[qC];refine qH rfl (fun K hK=>?_)
     refine xE func93 (bA (hslr.out.keep0 hS) (by omega)) ?_;rintro e wa ⟨vk,rfl,hbk,hma⟩;have hSa:=hS.trans0 hma
     have hvk1:vk.oneCell'=true:=by obtain⟨ad,cap,rfl,-,-⟩:=Sl.at hbk.sl;rfl
     have hvkc:vk.cells=#[vk]:=by obtain⟨ad,cap,rfl,-,-⟩:=Sl.at hbk.sl;rfl
     have hbkk:=built_kept vk hvkc;refine⟨_,rfl,hK _ _ hSa ?_⟩;clear hK K;try simp only[qC]
     refine yV hbkk ?_;simp only[qC];refine qH rfl (fun K hK=>?_);refine zT 170 (fun wb hBb hmb hsb=>?_)
     replace hBb:wb.heap[wa.heap.size]?=some (.cells #[vk] 170 (0,0)):=hBb;have hSb:=hSa.trans0 hmb;refine hK _ _ hSb ?_;clear hK K;try simp only[qC]
     refine zP rfl (fun K hK=>?_)
     refine dI sP (hlmr.keep0 hSb) (xI wd m) (by rw[HDI.out];exact hdl) 93 166 underlying93 _ _ _ (iO wa.heap.size) (by rfl) (by rfl) (by rw[HDI.out];rfl) (by rfl) (fun wc hlmc hmc=>?_)
     refine hK _ _ ?_;clear hK K;simp only[qB];have hboxc:=hmc.objB hbm (hSb.obj id hboxr)
     have hu2:wc.cell? ⟨bs,2,none⟩=some (.int .i64 (vJ (xJ bl):Nat)):=by simp[World.cell?,hboxc]
     have hSc:Mod (fun k=>k=ms) wr wc:=(hSb.mono (fun _ _ h=>h.elim)).trans hmc (fun _ _ h=>h)
     have hnb3:b3≠ms:=fun e=>by
      subst e;obtain⟨es,clk,hq,_⟩:=hstr.lm.obj
      simp[World.cell?,hq]at hc3
     have hnb5:b5≠ms:=fun e=>by
      subst e;obtain⟨es,clk,hq,_⟩:=hstr.lm.obj
      simp[World.cell?,hq]at hc5
     have hc3c:=hSc.cell (fun e=>hnb3 e) hc3;have hc5c:=hSc.cell (fun e=>hnb5 e) hc5;obtain⟨adv,capv,rfl,-,-⟩:=Sl.at hslr.out
     obtain⟨u,hu⟩:∃q,((vJ (xJ bl):Nat):Int)=q:=⟨_,rfl⟩;have HU:=O hu;have hub:0<=u/\u<=40960000:=by omega
     rw[hu]at hu2 hboxc;have hsza:=hSa.size;have HCLM:=O hlmc;have hMa:=hMr.trans0 hSa;have hbk0:Bts w.heap.size wa vk m:=uT hbk hMr.size
     have hkna:w.heap.size<=wa.heap.size:=hMa.size;clear hlmc hlmr hmsr hboxr hu;go_upto_region 14 with(fail);have hS2:Mod qJ wc wc.drew:=(Mod.refl _ _).drew
     refine zZ [0,3,3,0,0,3,3,3,3,2] [9] (fun w'=>Mod qJ wc w') hS2 ?_;simp only[qB];refine qE 29 (fun w' hS=>hS.cell id hc3c) ?_;simp only[qB]
     refine qE 3 (fun w' hS=>hS.cell id hu2) ?_;simp only[qC];refine qE 53 (fun w' hS=>hS.cell id hc5c) ?_;simp only[qC];refine xF ?_;simp only[qC]
     refine cI _ _ _ _ u ((m.length:Nat):Int) (u+(m.length:Nat)) rfl rfl rfl rfl rfl (by omega) (by omega) ?_;simp only[qB];refine zP rfl (fun K hK=>?_)
     refine zR 3 2 (.int .i64 (u+(m.length:Nat))) (hS2.obj id hboxc) (fun wd' hBd hmd=>?_) (hoff:=by simp)
     replace hBd:wd'.heap[bs]?=some (.cells #[.int .i64 wd,.int .i64 room,.int .i64 (u+(m.length:Nat)),.map (some ms)] 95 (0,0)):=hBd;refine hK _ _ ?_;clear hK K
     simp only[qB];have hbox4:=hBd;rw[<-HU.out]at hbox4;have hmb':Mod qJ wa wb:=hmb
     have h4:Mod (fun j=>j=bs) wc wd':=(hS2.mono (fun _ _ h=>h.elim)).trans hmd (fun _ _ h=>h)
     have HT:=O (H.out.more hfew hm hnone.out hMa hbk0 hkna hBb hmb' HCLM.out hmc hbox4 h4)
     clear hS hS2 hSa hSb hSc hma hmb hmb' hmc hmd h4 hMa hMr hmr hBb hBd hbox4 hbk hbk0 hboxc hc3c hc5c hu2 HCLM hbkk hstr;go_wp2;go_ret2
     exact⟨⟨_,_,rfl⟩,by rw[<-HDI.out]at*;exact HT.out⟩
end
theorem idInfo:∃i,prog.info? 24=some i/\i.zero=some (.agg (qA (List.replicate 32 0)))/\i.size=32/\i.bytes=32:=by
 have h:=tH
 cases hi:prog.info? 24 with
 |none=>rw[hi]at h;cases h
 |some i=>
  rw[hi]at h;simp only[Option.map_some,Option.some.injEq,Prod.mk.injEq]at h;exact⟨i,rfl,h.1,h.2.1,h.2.2⟩
def GrowIR(w:iN):iJ:=fun e w'=>∃v,e=.returned v/\kI w.heap.size w' v []/\Mod qJ w w'
theorem growI_nil(n:Nat)(hn:n<=1048576)(w:iN):Calls prog 104 #[.slice none 0 0,.int .i64 n] w (GrowIR w):=by
 have h1:¬((n:Int)<0):=by omega
 have h2:wrap64 ((n:Int)-0)=(n:Int):=by unfold wrap64;omega
 by_cases h0:n=0
 ·subst h0
  go_enter func104,ntmps104;go_wp2;go_ret;exact⟨_,rfl,Gat.nil _ _ _ _ _,Mod.refl _ _⟩
 ·have h4:(n:Int)>0:=by omega
  obtain⟨i,hi,hz,hs,hb⟩:=idInfo
  have hrz:∀ty (w:iN),(Builtin.append_ #[25,3] ty #[.slice none 0 0,.int .i64 (n:Int)]).run prog w=
   .ok (.slice (some ⟨w.heap.size,0,none⟩) n (grownCap w n 0 24)) (w.drew.alloc (.cells (Builtin.zeroCells (qA (List.replicate 32 0)) n++Builtin.zeroCells (qA (List.replicate 32 0)) (grownCap w n 0 24-n)) 24)):=fun ty w=>
   Lib.run_append_nil_zeros w 25 3 ty 24 i _ .i64 .i64 underlying25 underlying3 hi hz n (by omega) (by omega) (by omega) (by rw[hb];omega)
  have HRZ:=O hrz;clear hrz hi hz hs hb;go_enter func104,ntmps104;go_upto_region 5 with(fail);refine qL [3,3,3,3,3,1,3,3,3,3] ?_;simp only[qB]
  refine qZ (fun _=>by go_simp;try with_reducible rfl) ?_;simp only[qC];refine qZ (fun _=>by go_simp;try with_reducible rfl) ?_;simp only[qB]
  refine qK (Lib.wp_append_run _ _ _ 25 3 (by rfl) (.slice none 0 0) (.int .i64 (n:Int)) (by rfl) (by rfl) _ _ (HRZ.out _ _) ?_);simp only[qB];refine xF ?_;simp only[qC]
  refine qZ (fun _=>by go_simp;try with_reducible rfl) ?_;simp only[qB];have hC1:=grownCap_ge w n 0 24;have hC2:=grownCap_le_maxLen w n 0 24 (by unfold maxLen;omega)
  generalize grownCap w n 0 24=C at hC1 hC2 |-
  have hB:=heap_alloc_new w.drew (.cells (Builtin.zeroCells (qA (List.replicate 32 0)) n++Builtin.zeroCells (qA (List.replicate 32 0)) (C-n)) 24)
  have hm:Mod qJ w (w.drew.alloc (.cells (Builtin.zeroCells (qA (List.replicate 32 0)) n++Builtin.zeroCells (qA (List.replicate 32 0)) (C-n)) 24)):=((Mod.refl _ _).drew).alloc _
  have hsz:(Builtin.zeroCells (qA (List.replicate 32 0)) n++Builtin.zeroCells (qA (List.replicate 32 0)) (C-n)).size=C*32:=by
   rw[Array.size_append,size_zeroCells,size_zeroCells,qD,List.length_replicate,<-Nat.add_mul]
   congr 1
   omega
  generalize Builtin.zeroCells (qA (List.replicate 32 0)) n++Builtin.zeroCells (qA (List.replicate 32 0)) (C-n)=cur at hB hm hsz |-
  generalize w.drew.alloc (.cells cur 24)=w2 at hB hm |-;clear HRZ;go_wp2;go_ret
  exact⟨_,rfl,⟨rfl,.inr ⟨_,C,cur,rfl,Nat.le_refl _,hB,Nat.zero_le _,hC2,hsz,by simp⟩⟩,hm⟩
theorem wp_nextB(x:Operand)(mb it:Nat)(es:Array MapEntry)(clk:Nat)(xs:List MapEntry)(ho:o.op=.next x false)(hx:a.eval x=iO it)(hI:sA w mb it es clk xs)(hbo:∀x∈es.toList,x.born<clk)(hbn:(es.toList.map (·.born)).Nodup)
 (h:∀(b:Bool)(vs:iL) w',vs[0]?=some (.bool b)->(b=false->xs.Perm es.toList/\w'=w)->(b=true->∃e∈es.toList,sA w' mb it es clk (xs++[e])/\xs.length<es.size/\Mod (fun j=>j=it) w w'/\w'.heap[it]?=some (.mapIter (some mb) clk ((⟨xs.map (·.born)⟩:Array Nat).push e.born) clk))->K (a.put o.dst (.tuple vs)) w'):o.wp P a w K Q:=
 wp_nextM x mb it es clk xs ho hx hI hbo hbn (fun hp=>h false _ _ rfl (fun _=>⟨hp,rfl⟩) (fun e=>by cases e)) (fun e w' he hI2 hlt hm _ hit=>h true _ _ rfl (fun e=>by cases e) (fun _=>⟨e,he,hI2,hlt,hm,hit⟩))
def IDsC(c:yO)(l:List iK):Prop:=l.Pairwise (fun a b=>a<b)/\l.Perm (c.map (·.1))
def IDsR(w:iN)(c:yO):iJ:=fun e w'=>Mod qJ w w'/\∃v ids,e=.returned v/\kI w.heap.size w' v ids/\IDsC c ids
def IdR1(w0:iN)(ms it hb base:Nat)(es:Array MapEntry)(clk:Nat)(_:Value)(w:iN):Prop:=∃(xs:List MapEntry)(l0 l:List iK)(v:Value),sA w ms it es clk xs/\xs.map (·.key)=l0.map tQ/\l.Perm l0/\Heap iH l l.length/\DgI w hb base v l/\Mod qJ w0 w/\∀q,v.ownBlock=some q->q≠it
def IdR2(w0:iN)(hb base:Nat)(ids:List iK)(ov:Value)(w:iN):Prop:=∃(out l:List iK)(v:Value),kI w0.heap.size w ov out/\(out++l).Perm ids/\out.Pairwise (fun a b=>a<b)/\(∀a∈out,∀b∈l,a<b)/\Heap iH l l.length/\DgI w hb base v l/\Mod qJ w0 w/\∀q,ov.ownBlock=some q->q≠hb/\v.ownBlock≠some q
def dgLeft(hb:Nat)(w:iN):Nat:=match w.cell? ⟨hb,0,none⟩with
 |some (.slice _ n _)=>n
 |_=>0
theorem dgLeft_eq{hb base:Nat}(h:DgI w hb base v l):dgLeft hb w=l.length:=by
 obtain⟨ad,cap,rfl⟩:=h.row.slice
 simp[dgLeft,h.cell]
theorem lt_of_le_ne{a b:iK}(h:iH a b)(hne:a≠b):a<b:=by
 rcases rU a b with h1|h1|h1
 ·exact h1
 ·exact absurd h1 hne
 ·exact absurd h1 h
section
variable{w:iN}{bs ms wd:Nat}{room:Int}{bl:List iF}
theorem bIDs_any(h:StInv w bs ms wd room bl):Calls prog 38 #[iO bs] w (IDsR w (xJ bl)):=by
 have hmade:=h.made;have hfew:=h.few;have hnd:=h.nd;obtain⟨⟨es,clk,hmb,hkd,hbo,hbn⟩,-,hok⟩:=h.lm;have hmsl:=h.lt ms (.inr (.inl rfl));have hc3:=h.cell.2.2.2
 have hkeys:es.toList.map (·.key)=(bl.map (·.id)).map tQ:=by
  have:=congrArg (List.map (·.1)) hkd
  simpa[List.map_map,Function.comp_def]using this
 have hsize:es.size=bl.length:=by have:=congrArg List.length hkd;simpa using this
 have hidl:∀x∈bl.map (·.id),x.length=32:=fun x hx=>by
  obtain⟨b,hb,rfl⟩:=List.mem_map.1 hx;exact h.ok b hb
 have hcm:(xJ bl).map (·.1)=bl.map (·.id):=by simp[xJ,List.map_map,Function.comp_def]
 rw[hcm]at hnd;have HKEYS:=O hkeys;have HSIZE:=O hsize;have HIDL:=O hidl;have HCM:=O hcm;have HND:=O hnd;have HBO:=O hbo;have HBN:=O hbn
 clear hkeys hsize hkd hidl hcm hok h hnd hbo hbn;go_enter func38,ntmps38;go_upto_region 3 with(go_at_call 92;refine hmade.mono ?_;rintro _ w1 ⟨rfl,hw⟩;obtain rfl:=hw.symm)
 refine qL [1,1,3] ?_;simp only[qB];refine qK (zU 179 24 (by rfl) underlying179 (by kernel_rfl) (fun w1 hB1 hm1 hs1=>?_));try simp only[qC]
 refine qK (zT 179 (fun w2 hB2 hm2 hs2=>?_));replace hB2:w2.heap[w1.heap.size]?=some (.cells #[.slice (some ⟨w.heap.size,0,none⟩) 0 0] 179 (0,0)):=hB2
 simp only[qB];have hm02:=hm1.trans0 hm2
 have hrow2:kI w.heap.size w2 (.slice (some ⟨w.heap.size,0,none⟩) 0 0) []:=⟨by simp,.inr ⟨w.heap.size,0,#[],rfl,Nat.le_refl _,hm2.obj id hB1,Nat.le_refl _,Nat.zero_le _,rfl,rfl⟩⟩
 have hD2:DgI w2 w1.heap.size w.heap.size (.slice (some ⟨w.heap.size,0,none⟩) 0 0) []:=⟨hB2,hrow2,by simp,fun q hq e=>by
  have:w.heap.size=q:=Option.some.inj hq
  omega,by simp⟩
 have hbw:w.heap.size<=w1.heap.size:=hm1.size;have hw2l:w1.heap.size<w2.heap.size:=hs2;generalize hhb:w1.heap.size=hb at*;have hc32:=hm02.cell id hc3
 have hmb2:=hm02.obj id hmb;clear hm1 hm2 hB1 hB2 hs1 hs2 hrow2 hc3;go_upto_region 4 with(fail);refine qL [3,3,3,1,1] ?_;simp only[qB];refine qG 93 hc32 ?_
 try simp only[qC]
 refine qK (wp_rangeM 93 24 166 _ ms es clk (by rfl) (by rfl) underlying93 hmb2 (fun w3 hit3 hm3 hs3=>?_));simp only[qB]
 have hI3:sA w3 ms w2.heap.size es clk []:=⟨hm3.obj id hmb2,clk,Nat.le_refl _,hit3,by simp,by simp⟩;have hD3:=hD2.keep0 hm3;have hM3:=hm02.trans0 hm3
 have hitl:w2.heap.size<w3.heap.size:=hs3;generalize hite:w2.heap.size=it at*
 have HR0:Hid (IdR1 w ms it hb w.heap.size es clk undef w3):=O ⟨[],[],[],_,hI3,rfl,.refl _,fun i h0 hi=>by simp at hi,hD3,hM3,fun q hq e=>by
  have:w.heap.size=q:=Option.some.inj hq
  omega⟩
 clear hm3 hmb2 hit3 hI3 hD2 hD3 hM3 hm02 hc32 hs3 hmb;go_wp2
 go_loopw [4] (IdR1 w ms it hb w.heap.size es clk) (fun _ wx=>aF it (bl.length+1) wx)
 case atStart=>exact HR0.out
 case round=>
  rename iN=>wr
  obtain⟨xs,l0,l,v,hI,hxk,hpl,hh,hd,hm,hvit⟩:=hrel;have HXK:=O hxk;have HPL:=O hpl;have HH:=O hh;have HD:=O hd
  have hlx:l0.length=xs.length:=by have:=congrArg List.length hxk;simpa using this.symm
  have hll:l.length=l0.length:=hpl.length_eq;obtain⟨_,c0,_,hitr,_⟩:=id hI;have HLEFT:=O (rB (n:=bl.length+1) hitr)
  have hitw:it<wr.heap.size:=(Array.getElem?_eq_some_iff.1 hitr).1;clear hxk hpl hh hd hitr;go_upto_region 5 with(fail);refine qL [1,3] ?_;simp only[qB]
  refine qK (wp_nextB _ ms it es clk xs (by rfl) (by rfl) hI HBO.out HBN.out (fun more vs w4 hvs hno hyes=>?_));have HNO:=O hno;have HYES:=O hyes;clear hno hyes
  try simp only[qC]
  refine qM rfl (fun w'=>xH _ 0 vs rfl rfl (.bool more) hvs) ?_;simp only[qB]
  cases more with
  |true=>
   obtain⟨e,he,hI4,hlt,hm4,hit4⟩:=HYES.out rfl;have hne4:∀k,k=it->k≠hb:=fun k hk e=>by omega
   have HD4:=O (HD.out.keep hm4 (fun e=>by have e':hb=it:=e;omega) (fun q hq e=>hvit q hq e));have hm04:=hm.transB hm4 (by omega)
   obtain⟨k,hkl,hek⟩:∃k∈bl.map (·.id),tQ k=e.key:=List.mem_map.1 (by rw[<-HKEYS.out];exact List.mem_map.2 ⟨e,he,rfl⟩);have hk32:=HIDL.out k hkl
   have HEK:=O hek;have HLT:=O (show xs.length<bl.length by rw[<-HSIZE.out];exact hlt);have hic:(qA k).size=32:=by rw[qD,hk32]
   clear hek hI hlt HNO HYES hvs;go_upto_region 6 with(fail);refine qL [1,3,1,1] ?_;simp only[qB]
   refine cF rfl (v:=.tuple #[tQ k,e.val]) ((fB _ ms it es clk e _ (by rfl) (by rfl) hI4.1 hit4 he HBN.out).trans (by rw[HEK.out])) trivial ?_;try simp only[qC]
   refine qZ (fun _=>by go_simp;try with_reducible rfl) ?_;simp only[qC];refine qK (zB eC (fun w5 hB5 hm5 hs5=>?_));try simp only[qC]
   refine qK (qT 24 (qA k) (qQ k) 32 hic hB5 (fun w6 hB6 hm6=>?_) (hoff:=by rw[hic,qD];simp))
   have hm46:Mod qJ w4 w6:=hm5.transB hm6 (Nat.le_refl _);simp only[qB];have HD6:=O (HD4.out.keep0 hm46)
   have hI6:sA w6 ms it es clk (xs++[e]):=by
    obtain⟨h1,c0,h2,h3,h4⟩:=hI4;exact⟨hm46.obj id h1,c0,h2,hm46.obj id h3,h4⟩
   have HI6:=O hI6;have hm06:=hm04.trans0 hm46;have hpush:=heapPush_any HD6.out (by have:=hm06.size;omega) k hk32 (by have:=HLT.out;omega) HH.out
   clear hm4 hit4 hI4 hI6 hB5 hm5 hm6 hm46 hs5;go_upto_region 7 with(fail);refine qL [3,1,1,1,1] ?_;simp only[qB]
   refine cF rfl (tL _ 178 (iO hb) (by rfl) (by rfl) pdg_noIface) trivial ?_;try simp only[qC]
   refine qY 24 (CellsAt.whole hB6) 32 hic ?_;try simp only[qC]
   refine cF rfl (tL _ 24 (.agg (qA k)) (by rfl) (by rfl) dR) trivial ?_;try simp only[qC]
   refine qK (xE func103 (hpush) ?_);rintro e7 w7 ⟨rfl,l7,hp7,hh7,v7,hd7,hm7,hv7⟩
   have hit7:¬(it=hb\/v.ownBlock=some it):=fun e=>e.elim (fun e=>by omega) (fun e=>hvit it e rfl)
   have hmst7:¬(ms=hb\/v.ownBlock=some ms):=fun e=>e.elim (fun e=>by omega) (fun e=>by have:=(HD.out.row.lt e).1;omega);refine⟨_,rfl,?_⟩;simp only[qB]
   have hrel7:IdR1 w ms it hb w.heap.size es clk (iO w4.heap.size) w7:=by
    refine⟨xs++[e],l0++[k],l7,v7,?_,?_,hp7.trans (HPL.out.append_right _),hh7,hd7,?_,fun q hq=>?_⟩
    ·obtain⟨h1,c0,h2,h3,h4⟩:=HI6.out
     exact⟨hm7.obj hmst7 h1,c0,h2,hm7.obj hit7 h3,h4⟩
    ·rw[List.map_append,List.map_append,HXK.out]
     simp[HEK.out]
    ·exact hm06.trans hm7 (fun j hj ej=>by
      rcases ej with ej|ej
      ·omega
      ·have:=(HD.out.row.lt ej).1;omega)
    ·rcases hv7 q hq with e1|e1
     ·exact hvit q e1
     ·intro e2
      have:=(Array.getElem?_eq_some_iff.1 (HI6.out.2.choose_spec.2.1)).1;omega
   have hleft7:aF it (bl.length+1) w7<aF it (bl.length+1) wr:=by
    obtain⟨xs',l0',l',v',hI',hxk',-⟩:=id hrel7;obtain⟨h1,c0,h2,h3,h4⟩:=HI6.out;have h37:=hm7.obj hit7 h3;rw[rB h37,HLEFT.out];have:=HLT.out
    simp
    omega
   have HR7:=O hrel7;have HL7:=O hleft7;clear hrel7 hleft7 hp7 hh7 hd7 hm7 hv7 hm hm04 hm06 hB6 hpush;go_wp2
   go_roundw
   case rel=>exact HR7.out
   case measure=>exact HL7.out
  |false=>
   obtain⟨hperm,hw4⟩:=HNO.out rfl;obtain rfl:=hw4
   have hpids:l.Perm (bl.map (·.id)):=by
    refine HPL.out.trans ?_;refine eV (fun _ _=>idV_inj) ?_
    show List.Perm (l0.map tQ) _
    rw[<-HXK.out,<-HKEYS.out];exact hperm.map _
   have hlf:l.length<=10000:=by rw[hpids.length_eq];simpa using hfew
   have hnl:l.Nodup:=hpids.nodup_iff.2 HND.out;have HPI:=O hpids;have HNL:=O hnl;clear hperm hpids hnl HNO HYES hI hvs;have hln:=dgLen_of HD.out
   have hgr:=fun(w':iN)=>growI_nil l.length (by omega) w';go_upto_region 8 with(fail);refine qL [3,3,1,1,1,3] ?_;simp only[qB];refine qG 179 HD.out.cell ?_
   try simp only[qC]
   refine qK (xE func105 (hln) ?_);rintro e5 w5 ⟨rfl,hw⟩;obtain rfl:=hw.symm;refine⟨_,rfl,?_⟩;try simp only[qC]
   refine qK (xE func104 (hgr _) ?_);rintro e5 w6 ⟨ov,rfl,hg6,hm6⟩;refine⟨_,rfl,?_⟩;simp only[qB]
   have HR2:Hid (IdR2 w hb w.heap.size l ov w6):=O ⟨[],l,v,hg6.base hm.size,by simp,by simp,by simp,HH.out,HD.out.keep0 hm6,hm.trans0 hm6,fun q hq=>⟨fun e=>by
    have:=(hg6.lt hq).1;have:=(Array.getElem?_eq_some_iff.1 HD.out.box).1;omega,fun e=>by
    have:=(hg6.lt hq).1;have:=(HD.out.row.lt e).2
    omega⟩⟩
   clear hm hm6 hg6 hvit hln hgr;go_wp2
   go_loopw [5] (IdR2 w hb w.heap.size l) (fun _ wx=>dgLeft hb wx)
   case atStart=>exact HR2.out
   case round=>
    rename iN=>wq
    obtain⟨out,l1,v1,hg,hpo,hso,hlo,hh1,hd1,hm1,hdj⟩:=hrel;have HG:=O hg;have HPO:=O hpo;have HSO:=O hso;have HLO:=O hlo;have HH1:=O hh1
    have HD1:=O hd1;have HDJ:=O hdj;have hll1:out.length+l1.length=l.length:=by have:=hpo.length_eq;simpa using this
    have hln1:=dgLen_of hd1;have hbq:w.heap.size<=wq.heap.size:=hm1.size;have HLQ:=O (dgLeft_eq hd1);clear hg hpo hso hlo hh1 hd1 hdj
    by_cases hne:l1.length=0
    ·have hz:¬((l1.length:Nat):Int)>0:=by omega
     have hnil:l1=[]:=List.eq_nil_of_length_eq_zero hne;go_upto_region 9 with(fail);refine qL [3,3,1,1,3] ?_;simp only[qB];refine qG 179 HD1.out.cell ?_
     try simp only[qC]
     refine qK (xE func105 (hln1) ?_);rintro e8 w8 ⟨rfl,hw⟩;obtain rfl:=hw.symm;refine⟨_,rfl,?_⟩;try simp only[qC]
     refine qZ (fun _=>by go_simp;try with_reducible rfl) ?_;simp only[qB]
     have HF:Hid (IDsC (xJ bl) out):=O ⟨HSO.out,by
      have h1:=HPO.out;rw[hnil,List.append_nil]at h1;rw[HCM.out]
      exact h1.trans HPI.out⟩
     have HM1:=O hm1;clear hm1 hln1;go_wp2;go_ret;exact⟨HM1.out,_,out,rfl,HG.out,HF.out⟩
    ·have hz:((l1.length:Nat):Int)>0:=by omega
     go_upto_region 9 with(fail);refine qL [3,3,1,1,3] ?_;simp only[qB];refine qG 179 HD1.out.cell ?_;try simp only[qC]
     refine qK (xE func105 (hln1) ?_);rintro e8 w8 ⟨rfl,hw⟩;obtain rfl:=hw.symm;refine⟨_,rfl,?_⟩;try simp only[qC]
     refine qZ (fun _=>by go_simp;try with_reducible rfl) ?_;simp only[qB];have hpop:=heapPop_any HD1.out hbq (by omega) HH1.out;clear hln1;go_upto_region 10 with(fail)
     refine qL [3,3,1,1,1,1,1,3] ?_;simp only[qB];refine cF rfl (tL _ 178 (iO hb) (by rfl) (by rfl) pdg_noIface) trivial ?_
     try simp only[qC]
     refine qK (xE func106 (hpop) ?_);rintro e9 w9 ⟨x,l9,rfl,hx32,hp9,hh9,hmin,v9,hd9,hm9,hv9⟩;have HE9:=O (pG hx32)
     have hic9:(qA x).size=32:=by rw[qD,hx32]
     have hg9:=HG.out.keep hm9 (fun q hq e=>e.elim (HDJ.out q hq).1 (fun e=>(HDJ.out q hq).2 e))
     have hdj9:∀q,u5.ownBlock=some q->q≠hb/\v9.ownBlock≠some q:=fun q hq=>⟨(HDJ.out q hq).1,fun e=>(hv9 q e).elim (HDJ.out q hq).2 (fun e=>by have:=(HG.out.lt hq).2;omega)⟩
     refine⟨_,rfl,?_⟩;try simp only[qC]
     refine cF rfl (exec_assert _ _ 24 (.agg (qA x)) (by rfl) (by rfl) dR) trivial ?_;try simp only[qC]
     refine qK (kK 25 (.agg (qA x)) (.agg (qA (List.replicate 32 0))) 32 hic9 (fun wa hBa hma hsa=>?_))
     have hsrc:=uK (enc:=iI) (e:=24) (x:=x) jL (by rw[HE9.out];exact hBa);have hga:=hg9.keep0 hma;have hda:=hd9.keep0 hma
     have hsza:w.heap.size<=wa.heap.size:=by have:=hm9.size;have:=hma.size;omega
     try simp only[qC]
     refine qK (wp_gatV iI _ _ 25 24 (.agg (qA (List.replicate 32 0))) 32 32 (by rfl) underlying25 tH (by kernel_rfl) (by omega) jD w.heap.size _ out (by rfl) hga _ [x] (by rfl) hsrc (by unfold maxLen;simp;omega) (by simp;omega) hsza (fun ov2 wb hgb hmb hvvb=>?_))
     have hdb:=hda.keep hmb (fun e=>(hdj9 hb e).1 rfl) (fun q hq e=>(hdj9 q e).2 hq);simp only[qB];have hxin:x∈l1:=hp9.subset (by simp)
     have hnd1:(out++l1).Nodup:=HPO.out.nodup_iff.2 HNL.out;have hnd9:(x::l9).Nodup:=hp9.nodup_iff.2 (List.nodup_append.1 hnd1).2.1
     have HRB:Hid (IdR2 w hb w.heap.size l ov2 wb):=O (by
      refine⟨out++[x],l9,v9,hgb,?_,sorted_snoc HSO.out (fun a ha=>HLO.out a ha x hxin),fun a ha b hb'=>?_,hh9,hdb,?_,fun q hq=>?_⟩
      ·rw[List.append_assoc,List.singleton_append]
       exact(hp9.append_left out).trans HPO.out
      ·have hbl1:b∈l1:=hp9.subset (by simp[hb'])
       rcases List.mem_append.1 ha with ha|ha
       ·exact HLO.out a ha b hbl1
       ·simp at ha
        subst ha;exact lt_of_le_ne (hmin b hbl1) (fun e=>(List.nodup_cons.1 hnd9).1 (by rw[e];exact hb'))
      ·refine((hm1.trans hm9 (fun k hk e=>?_)).trans0 hma).trans hmb (fun k hk e=>?_)
       ·rcases e with e|e
        ·omega
        ·have:=(HD1.out.row.lt e).1;omega
       ·have:=(hga.lt e).1;omega
      ·rcases hvvb with e|e
       ·rw[e]at hq;exact hdj9 q hq
       ·rw[e]at hq
        have hq':wa.heap.size=q:=Option.some.inj hq;have h1:=(Array.getElem?_eq_some_iff.1 hda.box).1;refine⟨by omega,fun e2=>?_⟩;have:=(hda.row.lt e2).2
        omega)
     have HLB:Hid (dgLeft hb wb<dgLeft hb wq):=O (by
      rw[dgLeft_eq hdb,HLQ.out];have:=hp9.length_eq
      simp at this
      omega)
     clear hm1 hp9 hh9 hmin hd9 hm9 hv9 hg9 hdj9 hBa hma hsa hsrc hga hda hgb hmb hvvb hdb hxin hnd1 hnd9 hpop;go_wp2
     go_roundw
     case rel=>exact HRB.out
     case measure=>exact HLB.out
end
end
section
open Go.RowKit Go.Shelf Go.Sort Go.Proofs.Tryz Go.Lib
abbrev IdS:={x:iK//bB x}
instance:Inhabited IdS:=⟨⟨List.replicate 32 0,by simp[bB]⟩⟩
def idES(x:IdS):Value:=tQ x.1
theorem jM(h:bB x):(qA x).size=32:=by rw[qD];exact h
theorem rX:(qA (List.replicate 32 0)).size=32:=by rw[qD];simp
def IdsRelM(mb it:Nat)(es:Array MapEntry)(clk:Nat)(J:List IdS->iN->Prop)(_:Value)(w:iN):Prop:=
 ∃xs ks,sA w mb it es clk xs/\xs.map (·.key)=ks.map idES/\J ks w
theorem keysC_any(w:iN)(mb:Nat):Calls prog 161 #[.map (some mb)] w fun e w'=>e=.returned (.func (.func 216) #[] #[iO w.heap.size])/\w'=w.alloc (.cells #[.map (some mb)] 144):=by
 have hmf:=jK;go_enter func161,ntmps161;go_wp2;go_ret;exact⟨rfl,rfl⟩
theorem keysC_stops(n:Nat)(hn:1<=n)(w:iN)(Bm mb:Nat)(l:List (iK×Value))(hB:w.heap[Bm]?=some (.cells #[.map (some mb)] 144 (0,0)))(hM:MapIs tQ bB w mb l):
 SeqStopsK Fence.wide n prog 216 #[iO Bm] (fun k:IdS=>#[idES k]) KeepsWalks (fun ks=>(ks.map (·.1)).Perm (l.map (·.1))) (fun _=>True) l.length w:=by
 intro y J Jx W hW hJ hJx hY h0;have hMW:=Mod.of_below0 hW;have hBW:=hMW.obj id hB;have hMM:=hM.keep0 hMW;obtain⟨⟨es,clk,hb,hkd,hbo,hbn⟩,_,hok⟩:=hMM
 have hc:W.cell? ⟨Bm,0,none⟩=some (.map (some mb)):=by simp[World.cell?,hBW]
 have hkeys:es.toList.map (·.key)=(l.map (·.1)).map tQ:=by
  have:=congrArg (List.map (·.1)) hkd
  simpa[List.map_map,Function.comp_def]using this
 have hsize:es.size=l.length:=by have:=congrArg List.length hkd;simpa using this
 have HKEYS:=O hkeys;have HSIZE:=O hsize;clear hkeys hsize hkd hB hM hBW;refine callsIn_wide.2 ?_;go_enter func216,ntmps216;go_upto_region 0 with(fail)
 refine qL [1,1] ?_;simp only[qB];refine qG 144 hc ?_;try simp only[qC]
 refine qK (wp_rangeM 144 24 152 _ mb es clk (by rfl) (by rfl) underlying144 hb (fun w1 hit1 hm1 hs1=>?_));simp only[qB]
 have hI1:sA w1 mb W.heap.size es clk []:=⟨hm1.obj id hb,clk,Nat.le_refl _,hit1,by simp,by simp⟩
 have hJ1:J [] w1:=hJ [] W w1 none h0 hm1.grownNone (fun r e=>by cases e);clear hm1 hb hc h0 hit1;go_wp2
 go_loopw [3] (IdsRelM mb W.heap.size es clk J) (fun _ wx=>aF W.heap.size (l.length+1) wx)
 case atStart=>exact⟨[],[],hI1,rfl,hJ1⟩
 case round=>
  rename_i wr
  obtain⟨xs,ks,hI,hxk,hJr⟩:=hrel;have HXK:=O hxk;have hlen:ks.length=xs.length:=by have:=congrArg List.length hxk;simpa using this.symm
  have HLEN:=O hlen;clear hxk hlen;obtain⟨_,c0,_,hitr,_⟩:=id hI;have hleft:=rB (n:=l.length+1) hitr;have HLEFT:=O hleft;clear hleft
  go_upto_region 1 with(fail);refine qL [1,3] ?_;simp only[qB];refine qH rfl (fun K hK=>?_)
  refine wp_nextM _ mb W.heap.size es clk xs (by rfl) (by rfl) hI hbo hbn (fun hp=>?_) (fun e w2 he hI2 hlt hm2 hs2 hit2=>?_)
  ·refine hK _ _ trivial ?_
   refine qM (v:=.bool false) rfl (fun w'=>?_) ?_
   ·go_simp
   simp only[qB];go_wp2
   go_end0
   refine⟨⟨_,rfl⟩,.inl ⟨ks,?_,hJr⟩⟩;refine eV (fun _ _=>idV_inj) ?_;rw[<-HKEYS.out,List.map_map]
   show List.Perm (ks.map idES) _
   rw[<-HXK.out];exact hp.map _
  refine hK _ _ trivial ?_;clear hK K;try simp only[qC]
  refine qZ (fun _=>by go_simp;try with_reducible rfl) ?_;simp only[qB]
  have hJ2:J ks w2:=hJ ks wr w2 (some W.heap.size) hJr hm2.grownAt (fun r e=>by cases e;exact⟨Nat.le_refl _,_,hitr,rfl⟩)
  obtain⟨k,hkl,hek⟩:∃k∈l.map (·.1),tQ k=e.key:=List.mem_map.1 (by rw[<-HKEYS.out];exact List.mem_map.2 ⟨e,he,rfl⟩)
  have hkok:bB k:=by
   obtain⟨p,hp,rfl⟩:=List.mem_map.1 hkl;exact hok p hp
  have HEK:=O hek;have HSZ:=O hs2;clear hek hs2 hitr hJr hI hm2;go_upto_region 2 with(fail);refine qL [1,3,1,1] ?_;simp only[qB]
  refine cF rfl (v:=.tuple #[tQ k,e.val]) ((fB _ mb W.heap.size es clk e _ (by rfl) (by rfl) hI2.1 hit2 he hbn).trans (by rw[HEK.out])) trivial ?_;try simp only[qC]
  refine qZ (fun _=>by go_simp;try with_reducible rfl) ?_;simp only[qC];refine qK (zB eC (fun w3 hB3 hm3 hs3=>?_));try simp only[qC]
  refine qK (xU 24 0 (qA k) (qQ k) 32 (jM hkok) hB3 (fun w4 hB4 hm4=>?_) (hoff:=by rw[jM hkok,rX];omega))
  have hm24:Mod qJ w2 w4:=hm3.transB hm4 (Nat.le_refl _);simp only[qB];rw[yQ (by rw[jM hkok,rX])]at hB4
  have hI4:sA w4 mb W.heap.size es clk (xs++[e]):=by
   obtain⟨h1,c0,h2,h3,h4⟩:=hI2;exact⟨hm24.obj id h1,c0,h2,hm24.obj id h3,h4⟩
  have hJ4:J ks w4:=hJ ks w2 w4 none hJ2 hm24.grownNone (fun r e=>by cases e);have hca:CellsAt w4 w2.heap.size 0 (qA k):=CellsAt.whole hB4
  have hYk:=hY ks ⟨k,hkok⟩ w4 hJ4 (by rw[HLEN.out,<-HSIZE.out];exact hlt);clear hJ2 hB3 hm3 hs3 hm4 hit2 hI2 hJ4;go_upto_region 3 with(fail)
  refine(wpIn_wide (n:=n)).1 (wpIn_region_lit ?_);refine wpListIn_plain rfl fun K hK=>yE (fun c h=>by cases h) ?_;refine xX (dA _ (by rfl)) ?_
  refine hK _ _ ?_;clear hK K;refine wpListIn_plain rfl fun K hK=>yE (fun c h=>by cases h) ?_
  refine xX (pI 24 _ (by rfl) w2.heap.size 0 (by rfl) (qA k) hca _ underlying24 rfl 32 (by kernel_rfl) (jM hkok)) ?_;refine hK _ _ ?_;clear hK K
  refine wpListIn_plain rfl fun K hK=>aC (l:=y) _ _ _ (by rfl) (by rfl) (tQ k) (by rfl) hYk (fun e' w5 he'=>?_)
  rcases he' with⟨rfl,hJ5,hk5⟩|⟨rfl,hJx5⟩
  rotate_left
  ·refine⟨_,rfl,?_⟩
   refine hK _ _ ?_;clear hK K;refine wpListIn_plain rfl fun K hK=>yE (fun c h=>by cases h) ?_;refine xX (sW _ _ false (by rfl) (by rfl)) ?_;refine hK _ _ ?_
   clear hK K;simp only[qC];refine wpListIn_nil ?_;go_wp2;refine bodyPost_ret (results_none (by rfl) _ _ _) rfl ?_;exact⟨⟨_,rfl⟩,.inr ⟨_,trivial,hJx5⟩⟩
  refine⟨_,rfl,?_⟩;refine hK _ _ ?_;clear hK K;refine wpListIn_plain rfl fun K hK=>yE (fun c h=>by cases h) ?_;refine xX (sW _ _ true (by rfl) (by rfl)) ?_
  refine hK _ _ ?_;clear hK K;simp only[qC];refine wpListIn_nil ?_
  have hI5:sA w5 mb W.heap.size es clk (xs++[e]):=by
   obtain⟨h1,c0,h2,h3,h4⟩:=hI4;exact⟨hk5.same _ _ h1 rfl,c0,h2,hk5.same _ _ h3 rfl,h4⟩
  have hrk:(xs++[e]).map (·.key)=(ks++[(⟨k,hkok⟩:IdS)]).map idES:=by
   rw[List.map_append,List.map_append,HXK.out];simp[idES,HEK.out]
  obtain⟨_,c5,_,hit5,_⟩:=id hI5;have hleft5:=rB (n:=l.length+1) hit5;have HL5:=O hleft5;have HRK:=O hrk;clear hleft5 hrk hit5;go_wp2
  go_roundw
  case rel=>exact⟨xs++[e],ks++[⟨k,hkok⟩],hI5,HRK.out,hJ5⟩
  case measure=>rw[HL5.out,HLEFT.out];have:=HSIZE.out;simp;omega
theorem keysW_any(w:iN)(mb:Nat):Calls prog 193 #[.map (some mb)] w fun e w'=>e=.returned (.func (.func 230) #[] #[iO w.heap.size])/\w'=w.alloc (.cells #[.map (some mb)] 200):=by
 have hmf:=jK;go_enter func193,ntmps193;go_wp2;go_ret;exact⟨rfl,rfl⟩
theorem keysW_stops(n:Nat)(hn:1<=n)(w:iN)(Bm mb:Nat)(l:List (iK×Value))(hB:w.heap[Bm]?=some (.cells #[.map (some mb)] 200 (0,0)))(hM:MapIs tQ bB w mb l):
 SeqStopsK Fence.wide n prog 230 #[iO Bm] (fun k:IdS=>#[idES k]) KeepsWalks (fun ks=>(ks.map (·.1)).Perm (l.map (·.1))) (fun _=>True) l.length w:=by
 intro y J Jx W hW hJ hJx hY h0;have hMW:=Mod.of_below0 hW;have hBW:=hMW.obj id hB;have hMM:=hM.keep0 hMW;obtain⟨⟨es,clk,hb,hkd,hbo,hbn⟩,_,hok⟩:=hMM
 have hc:W.cell? ⟨Bm,0,none⟩=some (.map (some mb)):=by simp[World.cell?,hBW]
 have hkeys:es.toList.map (·.key)=(l.map (·.1)).map tQ:=by
  have:=congrArg (List.map (·.1)) hkd
  simpa[List.map_map,Function.comp_def]using this
 have hsize:es.size=l.length:=by have:=congrArg List.length hkd;simpa using this
 have HKEYS:=O hkeys;have HSIZE:=O hsize;clear hkeys hsize hkd hB hM hBW;refine callsIn_wide.2 ?_;go_enter func230,ntmps230;go_upto_region 0 with(fail)
 refine qL [1,1] ?_;simp only[qB];refine qG 200 hc ?_;try simp only[qC]
 refine qK (wp_rangeM 200 24 216 _ mb es clk (by rfl) (by rfl) underlying200 hb (fun w1 hit1 hm1 hs1=>?_));simp only[qB]
 have hI1:sA w1 mb W.heap.size es clk []:=⟨hm1.obj id hb,clk,Nat.le_refl _,hit1,by simp,by simp⟩
 have hJ1:J [] w1:=hJ [] W w1 none h0 hm1.grownNone (fun r e=>by cases e);clear hm1 hb hc h0 hit1;go_wp2
 go_loopw [3] (IdsRelM mb W.heap.size es clk J) (fun _ wx=>aF W.heap.size (l.length+1) wx)
 case atStart=>exact⟨[],[],hI1,rfl,hJ1⟩
 case round=>
  rename_i wr
  obtain⟨xs,ks,hI,hxk,hJr⟩:=hrel;have HXK:=O hxk;have hlen:ks.length=xs.length:=by have:=congrArg List.length hxk;simpa using this.symm
  have HLEN:=O hlen;clear hxk hlen;obtain⟨_,c0,_,hitr,_⟩:=id hI;have hleft:=rB (n:=l.length+1) hitr;have HLEFT:=O hleft;clear hleft
  go_upto_region 1 with(fail);refine qL [1,3] ?_;simp only[qB];refine qH rfl (fun K hK=>?_)
  refine wp_nextM _ mb W.heap.size es clk xs (by rfl) (by rfl) hI hbo hbn (fun hp=>?_) (fun e w2 he hI2 hlt hm2 hs2 hit2=>?_)
  ·refine hK _ _ trivial ?_
   refine qM (v:=.bool false) rfl (fun w'=>?_) ?_
   ·go_simp
   simp only[qB];go_wp2
   go_end0
   refine⟨⟨_,rfl⟩,.inl ⟨ks,?_,hJr⟩⟩;refine eV (fun _ _=>idV_inj) ?_;rw[<-HKEYS.out,List.map_map]
   show List.Perm (ks.map idES) _
   rw[<-HXK.out];exact hp.map _
  refine hK _ _ trivial ?_;clear hK K;try simp only[qC]
  refine qZ (fun _=>by go_simp;try with_reducible rfl) ?_;simp only[qB]
  have hJ2:J ks w2:=hJ ks wr w2 (some W.heap.size) hJr hm2.grownAt (fun r e=>by cases e;exact⟨Nat.le_refl _,_,hitr,rfl⟩)
  obtain⟨k,hkl,hek⟩:∃k∈l.map (·.1),tQ k=e.key:=List.mem_map.1 (by rw[<-HKEYS.out];exact List.mem_map.2 ⟨e,he,rfl⟩)
  have hkok:bB k:=by
   obtain⟨p,hp,rfl⟩:=List.mem_map.1 hkl;exact hok p hp
  have HEK:=O hek;have HSZ:=O hs2;clear hek hs2 hitr hJr hI hm2;go_upto_region 2 with(fail);refine qL [1,3,1,1] ?_;simp only[qB]
  refine cF rfl (v:=.tuple #[tQ k,e.val]) ((fB _ mb W.heap.size es clk e _ (by rfl) (by rfl) hI2.1 hit2 he hbn).trans (by rw[HEK.out])) trivial ?_;try simp only[qC]
  refine qZ (fun _=>by go_simp;try with_reducible rfl) ?_;simp only[qC];refine qK (zB eC (fun w3 hB3 hm3 hs3=>?_));try simp only[qC]
  refine qK (xU 24 0 (qA k) (qQ k) 32 (jM hkok) hB3 (fun w4 hB4 hm4=>?_) (hoff:=by rw[jM hkok,rX];omega))
  have hm24:Mod qJ w2 w4:=hm3.transB hm4 (Nat.le_refl _);simp only[qB];rw[yQ (by rw[jM hkok,rX])]at hB4
  have hI4:sA w4 mb W.heap.size es clk (xs++[e]):=by
   obtain⟨h1,c0,h2,h3,h4⟩:=hI2;exact⟨hm24.obj id h1,c0,h2,hm24.obj id h3,h4⟩
  have hJ4:J ks w4:=hJ ks w2 w4 none hJ2 hm24.grownNone (fun r e=>by cases e);have hca:CellsAt w4 w2.heap.size 0 (qA k):=CellsAt.whole hB4
  have hYk:=hY ks ⟨k,hkok⟩ w4 hJ4 (by rw[HLEN.out,<-HSIZE.out];exact hlt);clear hJ2 hB3 hm3 hs3 hm4 hit2 hI2 hJ4;go_upto_region 3 with(fail)
  refine(wpIn_wide (n:=n)).1 (wpIn_region_lit ?_);refine wpListIn_plain rfl fun K hK=>yE (fun c h=>by cases h) ?_;refine xX (dA _ (by rfl)) ?_
  refine hK _ _ ?_;clear hK K;refine wpListIn_plain rfl fun K hK=>yE (fun c h=>by cases h) ?_
  refine xX (pI 24 _ (by rfl) w2.heap.size 0 (by rfl) (qA k) hca _ underlying24 rfl 32 (by kernel_rfl) (jM hkok)) ?_;refine hK _ _ ?_;clear hK K
  refine wpListIn_plain rfl fun K hK=>aC (l:=y) _ _ _ (by rfl) (by rfl) (tQ k) (by rfl) hYk (fun e' w5 he'=>?_)
  rcases he' with⟨rfl,hJ5,hk5⟩|⟨rfl,hJx5⟩
  rotate_left
  ·refine⟨_,rfl,?_⟩
   refine hK _ _ ?_;clear hK K;refine wpListIn_plain rfl fun K hK=>yE (fun c h=>by cases h) ?_;refine xX (sW _ _ false (by rfl) (by rfl)) ?_;refine hK _ _ ?_
   clear hK K;simp only[qC];refine wpListIn_nil ?_;go_wp2;refine bodyPost_ret (results_none (by rfl) _ _ _) rfl ?_;exact⟨⟨_,rfl⟩,.inr ⟨_,trivial,hJx5⟩⟩
  refine⟨_,rfl,?_⟩;refine hK _ _ ?_;clear hK K;refine wpListIn_plain rfl fun K hK=>yE (fun c h=>by cases h) ?_;refine xX (sW _ _ true (by rfl) (by rfl)) ?_
  refine hK _ _ ?_;clear hK K;simp only[qC];refine wpListIn_nil ?_
  have hI5:sA w5 mb W.heap.size es clk (xs++[e]):=by
   obtain⟨h1,c0,h2,h3,h4⟩:=hI4;exact⟨hk5.same _ _ h1 rfl,c0,h2,hk5.same _ _ h3 rfl,h4⟩
  have hrk:(xs++[e]).map (·.key)=(ks++[(⟨k,hkok⟩:IdS)]).map idES:=by
   rw[List.map_append,List.map_append,HXK.out];simp[idES,HEK.out]
  obtain⟨_,c5,_,hit5,_⟩:=id hI5;have hleft5:=rB (n:=l.length+1) hit5;have HL5:=O hleft5;have HRK:=O hrk;clear hleft5 hrk hit5;go_wp2
  go_roundw
  case rel=>exact⟨xs++[e],ks++[⟨k,hkok⟩],hI5,HRK.out,hJ5⟩
  case measure=>rw[HL5.out,HLEFT.out];have:=HSIZE.out;simp;omega
def pF(k:IdS):List Value:=(qA k.1).toList
theorem idLS_one(k:IdS):∀c∈pF k,c.oneCell'=true:=fun c hc=>qQ k.1 c (by simpa[pF]using hc)
theorem cX(k:IdS):(pF k).length=32:=by
 have:=jM k.2
 simp[pF,this]
def GotI(n0:Nat)(Bs:Nat)(ks:List IdS)(w:iN):Prop:=∃v,Boxed w Bs 25 v/\w.ownsRow n0 24 32 v ks.length (ks.flatMap pF)
theorem gotI_own(n0 Bs:Nat):Own (GotI n0 Bs):=by
 intro s A B row hs hg hr;obtain⟨v,h1,h2⟩:=hs
 obtain⟨v,h1,h2,_⟩:=holdsRow_own n0 Bs 25 24 32 (fun ks:List IdS=>ks.length) (fun ks=>ks.flatMap pF) (fun _ _=>True) s A B row ⟨v,h1,h2,trivial⟩ hg hr
 exact⟨v,h1,h2⟩
def AxI(fv:Value)(Bs:Nat)(x:IdS)(a:Act)(w:iN):Prop:=∃Bx,w.heap[Bx]?=some (.cells (qA x.1) 24 (0,0))/\a={ tmps:=#[.slice none 0 0,fv,iO Bs,undef,.slice none 0 0,iO Bx,fv,idES x,undef,undef,undef,undef,undef],defers:=[] }
theorem appendSeqI_any(n:Nat)(hn:3<=n)(g:Nat)(lb:iL)(eg:∀args w,(callFunc g args).run prog w=.ok (.enter g args) w)(S Sp:List IdS->Prop)(N:Nat)(hN:N<=65536)(w:iN)(hseq:SeqStopsK Fence.wide (n-1) prog g lb (fun k:IdS=>#[idES k]) KeepsWalks S Sp N w):
 Calls prog 246 #[.slice none 0 0,.func (.func g) #[] lb] w fun e w'=>∃v ks,e=.returned v/\S ks/\w'.ownsRow w.heap.size 24 32 v ks.length (ks.flatMap pF)/\Below w.heap.size w w':=by
 refine(callsIn_wide (n:=n)).1 (callsIn_of_wp_marks func246 rfl trivial ?_ rfl)
 simp only[ntmps246,List.size_toArray,List.length_cons,List.length_nil,Nat.reduceAdd,Nat.reduceSub,Array.replicate_succ,Array.replicate_zero,List.push_toArray,List.append_toArray,List.nil_append,List.cons_append]
 gi_wp2
 obtain⟨W0,hW0⟩:∃W0,w.alloc (.cells #[.slice none 0 0] 25)=W0:=⟨_,rfl⟩;have hs0:W0.heap.size=w.heap.size+1:=by rw[<-hW0];simp
 have hv0:Boxed W0 w.heap.size 25 (.slice none 0 0):=by rw[<-hW0];exact World.alloc_heap_new w _
 have hb0:Below w.heap.size w W0:=by rw[<-hW0];exact(Below.refl _ w).alloc (Nat.le_refl _) _
 rw[hW0];clear hW0
 refine wpIn_rangeFunc_ownH rfl (by omega) (gf:=g) (lb:=lb) (by rfl) trivial eg hseq walksK_t walksK_b hb0 (fun _=>rfl)
  (fun ks W=>GotI w.heap.size w.heap.size ks W/\Below w.heap.size w W) (fun _ _ _=>False)
  (OwnFrom.and (Own.from (gotI_own _ _) _) (ownFrom_below (Nat.le_refl _) (by omega)))
  (fun _ _ _ _ _ hs _ _=>hs)
  ⟨⟨_,hv0,World.ownsRow_nil _ _ _ _⟩,hb0⟩
  (AxI (.func (.func g) #[] lb) w.heap.size)
  (fun x a' s A B row hs hg hr=>by
   obtain⟨Bx,h1,rfl⟩:=hs;refine⟨Bx,(hg.block Bx (Array.getElem?_eq_some_iff.1 h1).1 (fun e=>?_)).trans h1,rfl⟩;obtain⟨_,o,ho,hc⟩:=hr Bx e.symm
   rw[h1]at ho;cases ho;cases hc)
  ?assign ?body ?done ?stop
 case assign=>
  rintro l pre x W K ⟨⟨v,hv,hrow⟩,hB⟩ hK0
  simp only[List.zip_toArray,List.zip_cons_cons,List.zip_nil_right,List.foldl_toArray',List.foldl_cons,List.foldl_nil,List.setIfInBounds_toArray,ss,sz]
  refine wpIn_region_lit ?_;refine zW rfl rfl fun K hK=>?_;refine zB eC (fun w3 hB3 hm3 hs3=>?_);refine hK _ _ ?_;clear hK K
  refine zW rfl rfl fun K hK=>?_
  refine xU 24 0 (qA x.1) (qQ x.1) 32 (jM x.2) hB3 (fun w4 hB4 hm4=>?_) (hoff:=by rw[jM x.2,rX];omega)
  have hm24:Mod qJ W w4:=hm3.transB hm4 (Nat.le_refl _);rw[yQ (by rw[jM x.2,rX])]at hB4;refine hK _ _ ?_;clear hK K;refine wpListIn_nil ?_
  refine hK0 _ _ (hm24.keepsOthers0.from _) hm24.keepsOthers0.walks ⟨⟨v,hm24.obj id hv,jS hrow hm24 (fun _ _=>id)⟩,hB.trans (hm24.below0.mono hB.size)⟩ ⟨W.heap.size,hB4,rfl⟩
 case body=>
  rintro l pre x a' W hl ⟨r,hr⟩ ⟨⟨v,hv,hrow⟩,hB⟩ ⟨Bx,hBx,rfl⟩ hlt;have hvc:=hv.cell;have hca:CellsAt W Bx 0 (qA x.1):=CellsAt.whole hBx;refine wpIn_block ?_
  refine wpIn_region_lit ?_;refine zW rfl rfl fun K hK=>?_;refine xX (sI 25 _ (by rfl) w.heap.size 0 (by rfl) v hvc _ underlying25 rfl) ?_;refine hK _ _ ?_
  clear hK K;refine zW rfl rfl fun K hK=>?_
  refine xX (pI 24 _ (by rfl) Bx 0 (by rfl) (qA x.1) hca _ underlying24 rfl 32 (by kernel_rfl) (jM x.2)) ?_;refine hK _ _ ?_;clear hK K;simp only[qC]
  refine zW rfl rfl fun K hK=>?_;refine kK 25 (.agg (qA x.1)) (.agg (qA (List.replicate 32 0))) 32 (jM x.2) (fun w3 hB3 hm3 hs3=>?_)
  refine hK _ _ ?_;clear hK K;simp only[qC];have hv3:Boxed w3 w.heap.size 25 v:=hm3.obj id hv;have hrow3:=jS hrow hm3 (fun _ _=>id)
  have hb3:=hm3.below0.mono hB.size;have hsz:=hB.size;have hplen:=hlt;refine zW rfl rfl fun K hK=>?_
  refine vY _ _ 25 24 (.agg (qA (List.replicate 32 0))) 32 32 (by rfl) underlying25 tH (by kernel_rfl) (by omega) w.heap.size v pre.length (pre.flatMap pF) (by rfl) hrow3 (.slice (some ⟨W.heap.size,0,none⟩) 1 1) 1 (pF x) (by rfl) ⟨by simp[cX],_,_,rfl,fun _=>⟨W.heap.size,0,rfl,fun j y hj=>?_⟩⟩ (idLS_one x) (by unfold maxLen;omega) (by omega) (by omega) (fun v' w4 hrow4 hg4 hv4=>?_)
  ·have:(qA x.1)[j]?=some y:=by simpa[pF]using hj
   exact(CellsAt.whole hB3).cell this
  have hne:some w.heap.size≠v.ownBlock:=hv.not_row (by decide) hrow;have hbx4:Boxed w4 w.heap.size 25 v:=hv3.kept hg4 hne
  have hv1:v'.oneCell'=true:=by
   rcases hrow4.2 with⟨rfl,_⟩|⟨g,cap,cur,rfl,_⟩<;>rfl
  refine hK _ _ ?_;clear hK K;simp only[qC];refine zW rfl rfl fun K hK=>?_;refine zR 25 0 v' hbx4 (fun w5 hB5 hm5=>?_) (hoff:=by simp) (h1:=hv1)
  replace hB5:Boxed w5 w.heap.size 25 v':=hB5;refine hK _ _ ?_;clear hK K;refine wpListIn_nil ?_;have hne':some w.heap.size≠v'.ownBlock:=hbx4.not_row (by decide) hrow4
  have hrow5:=jS hrow4 hm5 (fun k hk e=>hne' (by rw[hk,e]))
  have hk4:KeepsOthers w3 w4:=KeepsOthers.of_grownBy hg4 (fun j o hj ho=>by
   rcases hrow3.2 with⟨rfl,_⟩|⟨g,cap,cur,rfl,_,hg,_⟩
   ·cases hj
   ·have e:g=j:=by simpa[Value.ownBlock]using hj
    subst e;rw[hg]at ho;cases ho;rfl)
  have hk5:KeepsOthers w4 w5:=hm5.keepsOthers (fun k o e ho=>by rw[e,hbx4]at ho;cases ho;rfl);have hko:=(hm3.keepsOthers0.trans hk4).trans hk5
  have hb4:Below w.heap.size w w4:=(hB.trans hb3).grown hg4 (by have:=hm3.size;omega) (fun k e=>(hrow3.lt k e).1)
  have hb5:Below w.heap.size w w5:=hb4.trans ⟨hm5.os,hm5.tape,hm5.output,hm5.size,fun k hk=>hm5.block k (by have:=hb4.size;omega) (fun e=>by have e:k=w.heap.size:=e;omega)⟩
  exact⟨hko.from _,hko.walks,⟨_,hB5,by simpa using hrow5⟩,hb5⟩
 case done=>
  rintro D ks W hD hks ⟨⟨v,hv,hrow⟩,hB⟩ hK;have hvc:=hv.cell
  gi_wp2
  refine⟨by simp,.inl ⟨_,_,rfl,run_takeDeferred hK,?_⟩⟩
  exact⟨_,results_tmp rfl _ _ _,v,ks,rfl,hks,ownsRow_putObj hrow _ hK rfl,hB.trans (belowK_b (w:=w) (Nat.le_refl _) W D _ _ (by omega) hK rfl rfl)⟩
 case stop=>
  rintro D c pre W _ _ h _;exact h.elim
theorem collectI_any(n:Nat)(hn:3<=n)(g:Nat)(lb:iL)(eg:∀args w,(callFunc g args).run prog w=.ok (.enter g args) w)(S Sp:List IdS->Prop)(N:Nat)(hN:N<=65536)(w:iN)(hseq:SeqStopsK Fence.wide (n-1) prog g lb (fun k:IdS=>#[idES k]) KeepsWalks S Sp N w):
 Calls prog 214 #[.func (.func g) #[] lb] w fun e w'=>∃v ks,e=.returned v/\S ks/\w'.ownsRow w.heap.size 24 32 v ks.length (ks.flatMap pF)/\Below w.heap.size w w':=by
 go_enter func214,ntmps214;go_wp2_with (go_at_call 246;refine(appendSeqI_any n hn g lb eg S Sp N hN _ hseq).mono ?_;rintro _ w1 ⟨v,ks,rfl,h1,h2,h3⟩);go_ret
 exact⟨v,ks,rfl,h1,h2,h3⟩
theorem isAggId(w:iN):(isAgg 24).run prog w=.ok true w:=by
 unfold isAgg;rw[Sem.run_bind,run_underlying underlying24 w];rfl
def cfI(a b:IdS):Int:=uW a.1 b.1
theorem cfI_neg(a b:IdS):cfI a b<0↔a.1<b.1:=rZ _ _
theorem swoI:SWO (ltOf cfI):=swo_of cfI_neg (fun a=>List.lt_irrefl a.1) uU (fun a b=>by
 rcases rU a.1 b.1 with h|h|h
 ·exact .inl h
 ·exact .inr (.inl (Subtype.ext h))
 ·exact .inr (.inr h))
theorem sizeId(w:iN):(Go.sizeOf 24).run prog w=.ok 32 w:=sizeOf_of (by kernel_rfl) w
def kC(ks:List IdS):List IdS:=ks.mergeSort fun x y=> !(ltOf cfI) y x
theorem bG(ks:List IdS):(kC ks).Perm ks:=List.mergeSort_perm _ _
theorem sortIS_sorted{ks:List IdS}(hn:ks.Nodup):(kC ks).Pairwise (fun a b=>a.1<b.1):=by
 have hlt:∀a b:IdS,(!(ltOf cfI) b a)=true↔¬b.1<a.1:=fun a b=>by simp[ltOf,cfI_neg]
 have h:=List.pairwise_mergeSort (le:=fun x y=> !(ltOf cfI) y x) (fun a b c h1 h2=>by
  rw[hlt]at*;intro h
  rcases rU a.1 b.1 with h3|h3|h3
  ·exact h2 (uU h h3)
  ·rw[h3]at h;exact h2 h
  ·exact h1 h3) (fun a b=>by
  rw[Bool.or_eq_true,hlt,hlt]
  by_cases h:b.1<a.1
  ·exact .inr fun h'=>List.lt_irrefl _ (uU h h')
  ·exact .inl h) ks
 have hn2:(ks.mergeSort fun x y=> !(ltOf cfI) y x).Nodup:=(List.mergeSort_perm _ _).nodup_iff.2 hn;refine(h.and hn2).imp fun{a b} hab=>?_;have h1:=(hlt a b).1 hab.1
 rcases rU a.1 b.1 with h2|h2|h2
 ·exact h2
 ·exact absurd (Subtype.ext h2) hab.2
 ·exact absurd h2 h1
theorem cmpLaysI(g off size:Nat)(w:iN):CmpLays prog 35 #[] pF 32 cfI g off size w:=by
 intro m os dk _ x y;have h:=eO x.1 y.1 x.2 y.2 (sortWorldK pF 32 w g off m dk os)
 have e:(#[.agg (pF x).toArray,.agg (pF y).toArray]++#[]:iL)=#[.agg (qA x.1),.agg (qA y.1)]:=by simp[pF]
 rw[e];refine h.mono ?_;rintro _ w' ⟨rfl,q,os',rfl⟩;exact⟨rfl,q,os',rfl⟩
theorem sortFuncI_any(v:Value)(ks:List IdS)(w:iN)(base:Nat)(h:w.ownsRow base 24 32 v ks.length (ks.flatMap pF))(hlen:ks.length<=65536):
 Calls prog 215 #[v,.func (.func 35) #[] #[]] w fun e w'=>e=.returned (.tuple #[])/\Mod (fun j=>v.ownBlock=some j) w w'/\w'.ownsRow base 24 32 v ks.length ((kC ks).flatMap pF):=by
 rcases h.2 with⟨rfl,h0⟩|⟨g,cap,cur,rfl,hb,hg,hc,hm,hcs,ht⟩
 ·have:ks=[]:=List.eq_nil_of_length_eq_zero h0
  subst this;refine(AnyF.slices_SortFunc_none sortI none 0 _ w).mono ?_;rintro _ _ ⟨rfl,rfl⟩;have e:kC []=[]:=by simp[kC]
  rw[e];exact⟨rfl,Mod.refl _ _,by simp,.inl ⟨rfl,rfl⟩⟩
 ·have hH:HoldsK pF 32 w g 0 ks.toArray:=holdsK_of_cells cX (by omega) hg ht
  have hlt:g<w.heap.size:=(Array.getElem?_eq_some_iff.1 hg).1
  have hs:=AnyQ.slices_SortFunc_total sortI 32 isAggId sizeId pF cX idLS_one cfI swoI 35 #[] g 0 cap ks.toArray w (enters_of func35 (by kernel_rfl) rfl) (cmpLaysI g 0 _ w) hH hlt (by simp;omega) (fun x y h1 h2=>by
   simp only[ltOf,decide_eq_false_iff_not,cfI_neg]at h1 h2
   rcases rU x.1 y.1 with h|h|h
   ·exact absurd h h1
   ·exact Subtype.ext h
   ·exact absurd h h2)
  have e:ks.toArray.size=ks.length:=by simp
  rw[e]at hs;refine hs.mono ?_;rintro _ w' ⟨rfl,n,os,rfl⟩;have hM:Mod (fun j=>j=g) w (sortWorldK pF 32 w g 0 n (kC ks).toArray os):=mod_sortWorldK
  have hH':=holdsK_sortWorldK_c pF 32 w g 0 ks.toArray (kC ks).toArray n os hH hlt (by simp[(bG ks).length_eq])
  refine⟨rfl,hM.mono (fun j _ e=>by subst e;rfl),?_⟩;have hl:(kC ks).length=ks.length:=(bG ks).length_eq
  have key:(sortWorldK pF 32 w g 0 n (kC ks).toArray os).ownsRow base 24 32 (.slice (some ⟨g,0,none⟩) ks.length cap) ks.length ((kC ks).flatMap pF):=by
   obtain⟨cur',hg',hcs'⟩:∃cur',(sortWorldK pF 32 w g 0 n (kC ks).toArray os).heap[g]?=some (.cells cur' 24 (0,0))/\cur'.size=cur.size:=by
    refine⟨putCells id 0 (flatK pF 32 (kC ks).toArray) cur,?_,by simp[putCells]⟩
    show((mapBlock (Sort.ahead w n) g (putCells id 0 (flatK pF 32 (kC ks).toArray))).heap++os)[g]?=_
    rw[Array.getElem?_append_left (by simpa[mapBlock,Sort.ahead]using hlt)]
    show((Sort.ahead w n).heap.modify g _)[g]?=_
    have hga:(Sort.ahead w n).heap[g]?=some (.cells cur 24 (0,0)):=hg;rw[Array.getElem?_modify,if_pos rfl,hga]
    rfl
   generalize sortWorldK pF 32 w g 0 n (kC ks).toArray os=w9 at hH' hg' |-;have hfl:((kC ks).flatMap pF).length=ks.length*32:=by rw[dQ cX,hl]
   have hle:ks.length*32<=cur'.toList.length:=by
    have h1:cur'.toList.length=cur'.size:=Array.length_toList;rw[h1,hcs',hcs];exact Nat.mul_le_mul_right _ hc
   refine⟨hfl,.inr ⟨g,cap,cur',rfl,hb,hg',hc,hm,by rw[hcs'];exact hcs,?_⟩⟩
   apply List.ext_getElem?
   intro t
   rcases Nat.lt_or_ge t (ks.length*32)with hlt'|hge
   ·rw[List.getElem?_take_of_lt hlt']
    have hi:t/32<(kC ks).length:=by rw[hl];exact Nat.div_lt_of_lt_mul (by rw[Nat.mul_comm];exact hlt')
    have hm32:t%32<32:=Nat.mod_lt _ (by omega);have hfe:=flat_enc cX (kC ks) (t/32) hi (t%32) hm32;rw[Nat.mul_comm,Nat.div_add_mod]at hfe;rw[hfe]
    have hc9:=(hH' t (by simp[hl];exact hlt')).1;rw[Nat.zero_add,cell_of_row w9 g _ cur' 24 (0,0) hg']at hc9
    rw[Array.getElem?_toList,hc9,get_flatK _ _ _ _ (by simp[hl];exact hlt')];have e1:(kC ks).toArray[t/32]! =(kC ks)[t/32]:=by simp[hi]
    rw[e1];have e2:t%32<(pF (kC ks)[t/32]).length:=by rw[cX];exact hm32
    rw[List.getElem?_eq_getElem e2]
    show some ((pF (kC ks)[t/32])[t%32]!)=some _
    rw[getElem!_pos (pF (kC ks)[t/32]) (t%32) e2]
   ·rw[List.getElem?_eq_none (l:=cur'.toList.take (ks.length*32)) (by rw[List.length_take];omega),List.getElem?_eq_none (by rw[hfl];exact hge)]
  exact key
theorem sortedI_of(hn:3<=n)(g:Nat)(lb:iL)(eg:∀args w,(callFunc g args).run prog w=.ok (.enter g args) w)(S Sp:List IdS->Prop)(N:Nat)(hN:N<=65536)(w:iN)(hseq:SeqStopsK Fence.wide (n-1) prog g lb (fun k:IdS=>#[idES k]) KeepsWalks S Sp N w)(hSN:∀ks,S ks->ks.length<=65536):
 Calls prog 160 #[.func (.func g) #[] lb,.func (.func 35) #[] #[]] w (fun e w'=>∃v ks,e=.returned v/\S ks/\Mod qJ w w'/\w'.ownsRow w.heap.size 24 32 v ks.length ((kC ks).flatMap pF)):=by
 have hc:=collectI_any n hn g lb eg S Sp N hN w hseq;go_enter func160,ntmps160;go_upto_region 2 with(go_at_call 214;refine hc.mono ?_;rintro _ w2 ⟨v,ks,rfl,hS,hrow,hb⟩)
 have hf:=sortFuncI_any v ks w2 _ hrow (hSN ks hS);have hvb:=hrow.lt;have hM2:=Mod.of_below0 hb;clear hrow hb hc hseq;refine qL [3,3,1] ?_;simp only[qB]
 refine kS rfl ?_;go_wp2_with (go_at_call 215;refine hf.mono ?_;rintro _ w3 ⟨rfl,hm3,hsl⟩);simp only[qB];go_wp2;go_ret
 exact⟨v,ks,rfl,hS,hM2.trans hm3 (fun k hk e=>by have:=(hvb k e).1;omega),hsl⟩
theorem idLS_flat(ks:List IdS):ks.flatMap pF=(ks.map (·.1)).flatMap iI:=by
 rw[List.flatMap_map]
 congr 1
 funext x
 show idL x.1=if x.1.length=32 then idL x.1 else List.replicate 32 (qW 0)
 rw[if_pos (show x.1.length=32 from x.2)]
end
section
open Go.Proofs.Tryz Go.Lib
abbrev yH:=List (iK×iK)
def jA(c:yH)(id:iK):Option (List yY):=match qR id c with
 |none=>none
 |some b=>(kA b).map yJ
def jV(d:yY):Bool:=d.media==3||d.media==4
def inR(c:yH):Nat->iK->Nat->iK->Prop
 |0,_,_,_=>False
 |f+1,id,depth,x=>x=id\/depth<=4/\∃ds,jA c id=some ds/\∃d∈ds,if jV d then inR c f d.id (depth+1) x else x=d.id
abbrev jT:=List (iK×Nat)
def wasM(all:jT)(id:iK)(depth:Nat):Bool:=match qR id all with
 |none=>false
 |some k=>decide (0<k)&&decide (k<=depth)
def rW(all:jT)(id:iK):jT:=if(qR id all).isSome then all else kD id 0 all
def jU(c:yH):Nat->iK->Nat->jT->jT
 |0,_,_,all=>all
 |f+1,id,depth,all=>
  if wasM all id depth then all
  else if 4<depth then kD id depth all
  else match jA c id with
   |none=>kD id depth all
   |some ds=>ds.foldl (fun all d=>if jV d then jU c f d.id (depth+1) all else rW all d.id) (kD id depth all)
def LeM(a b:jT):Prop:=∀x k,qR x a=some k->∃k',qR x b=some k'/\(0<k->0<k'/\k'<=k)
theorem LeM.refl(a:jT):LeM a a:=fun _ k h=>⟨k,h,fun h=>⟨h,Nat.le_refl _⟩⟩
theorem LeM.trans{a b d:jT}(h:LeM a b)(h':LeM b d):LeM a d:=fun x k hx=>by
 obtain⟨k1,h1,h2⟩:=h x k hx;obtain⟨k3,h3,h4⟩:=h' x k1 h1;exact⟨k3,h3,fun h0=>⟨(h4 (h2 h0).1).1,Nat.le_trans (h4 (h2 h0).1).2 (h2 h0).2⟩⟩
def DoneE(c:yH)(all:jT)(x:iK)(k:Nat):Prop:=k<=4->∀ds,jA c x=some ds->∀d∈ds,
 if jV d then ∃k',qR d.id all=some k'/\0<k'/\k'<=k+1 else(qR d.id all).isSome=true
theorem DoneE.mono{c:yH}{a b:jT}(h:DoneE c a x k)(hl:LeM a b):DoneE c b x k:=fun hk ds hds d hd=>by
 have:=h hk ds hds d hd
 split at this
 ·rename_i ht
  rw[if_pos ht];obtain⟨k',h1,h2,h3⟩:=this;obtain⟨k2,h4,h5⟩:=hl _ _ h1;exact⟨k2,h4,(h5 h2).1,Nat.le_trans (h5 h2).2 h3⟩
 ·rename_i ht
  rw[if_neg ht];obtain⟨k',hk'⟩:=Option.isSome_iff_exists.1 this;obtain⟨k2,h4,_⟩:=hl _ _ hk';rw[h4];rfl
theorem putL_le{all:jT}{id:iK}{depth:Nat}(h0:0<depth)(h:wasM all id depth=false):LeM all (kD id depth all):=fun x k hx=>by
 rw[rY]
 split
 ·rename_i e
  subst e;refine⟨depth,rfl,fun hk=>⟨h0,?_⟩⟩;simp only[wasM,hx,Bool.and_eq_false_iff,decide_eq_false_iff_not]at h;omega
 ·exact⟨k,hx,fun h=>⟨h,Nat.le_refl _⟩⟩
theorem leafM_le(all:jT)(id:iK):LeM all (rW all id):=fun x k hx=>by
 unfold rW
 split
 ·exact⟨k,hx,fun h=>⟨h,Nat.le_refl _⟩⟩
 ·rename_i hn
  rw[rY]
  split
  ·rename_i e;subst e;rw[hx]at hn;exact absurd rfl hn
  ·exact⟨k,hx,fun h=>⟨h,Nat.le_refl _⟩⟩
theorem leafM_has(all:jT)(id:iK):(qR id (rW all id)).isSome=true:=by
 unfold rW
 split
 ·assumption
 ·rw[rY,if_pos rfl];rfl
def NewDone(c:yH)(a b:jT):Prop:=∀x k,qR x b=some k->0<k->DoneE c b x k\/qR x a=some k
theorem NewDone.trans{c:yH}{a b d:jT}(h:NewDone c a b)(h':NewDone c b d)(hl:LeM b d):NewDone c a d:=fun x k hx hk=>by
 rcases h' x k hx hk with h1|h1
 ·exact .inl h1
 ·rcases h x k h1 hk with h2|h2
  ·exact .inl (h2.mono hl)
  ·exact .inr h2
theorem leafM_new(c:yH)(all:jT)(id:iK):NewDone c all (rW all id):=fun x k hx hk=>by
 unfold rW at hx
 split at hx
 ·exact .inr hx
 ·rw[rY]at hx
  split at hx
  ·simp only[Option.some.injEq]at hx;omega
  ·exact .inr hx
theorem leafM_keys(all:jT)(id x:iK):(qR x (rW all id)).isSome=true↔(qR x all).isSome=true\/x=id:=by
 unfold rW
 split
 ·rename_i h
  exact⟨.inl,fun h'=>h'.elim (fun h=>h) (fun e=>by rw[e];exact h)⟩
 ·rw[rY]
  split<;>simp_all
structure ReachOk(c:yH)(f:Nat)(id:iK)(depth:Nat)(a b:jT):Prop where
 le:LeM a b
 own:∃k,qR id b=some k/\0<k/\k<=depth
 new:NewDone c a b
 keys:∀x,(qR x b).isSome=true->(qR x a).isSome=true\/inR c f id depth x
theorem reach_ok(c:yH):∀(f:Nat)(id:iK)(depth:Nat)(all:jT),0<depth->depth+f=6->0<f->ReachOk c f id depth all (jU c f id depth all)
 |0,_,_,_,_,_,h=>by omega
 |f+1,id,depth,all,h0,hf,_=>by
  unfold jU
  by_cases hw:wasM all id depth=true
  ·rw[if_pos hw]
   refine⟨.refl _,?_,fun x k hx _=>.inr hx,fun x hx=>.inl hx⟩;unfold wasM at hw
   split at hw
   ·cases hw
   ·rename_i k hk
    simp only[Bool.and_eq_true,decide_eq_true_eq]at hw;exact⟨k,hk,hw.1,hw.2⟩
  ·rw[if_neg hw]
   simp only[Bool.not_eq_true]at hw;have hle:=putL_le h0 hw;have hown:qR id (kD id depth all)=some depth:=by rw[rY,if_pos rfl]
   have hkeys:∀x,(qR x (kD id depth all)).isSome=true->(qR x all).isSome=true\/x=id:=fun x hx=>by
    rw[rY]at hx
    split at hx
    ·rename_i e;exact .inr e
    ·exact .inl hx
   have hstop:∀(hd:4<depth\/jA c id=none),ReachOk c (f+1) id depth all (kD id depth all):=fun hd=>
    ⟨hle,⟨depth,hown,h0,Nat.le_refl _⟩,fun x k hx hk=>by
     rw[rY]at hx
     split at hx
     ·rename_i e
      subst e;simp only[Option.some.injEq]at hx;subst hx
      left
      intro h4 ds hds
      rcases hd with hd|hd
      ·omega
      ·rw[hd]at hds;cases hds
     ·exact .inr hx,fun x hx=>(hkeys x hx).imp_right fun e=>.inl e⟩
   by_cases hd:4<depth
   ·rw[if_pos hd];exact hstop (.inl hd)
   ·rw[if_neg hd]
    cases hds:jA c id with
    |none=>exact hstop (.inr hds)
    |some ds=>
     dsimp only
     have hfold:∀(ds':List yY)(all1:jT),(∀d∈ds',d∈ds)->
      LeM all1 (ds'.foldl (fun all d=>if jV d then jU c f d.id (depth+1) all else rW all d.id) all1)/\
      NewDone c all1 (ds'.foldl (fun all d=>if jV d then jU c f d.id (depth+1) all else rW all d.id) all1)/\
      (∀d∈ds',if jV d then ∃k',qR d.id (ds'.foldl (fun all d=>if jV d then jU c f d.id (depth+1) all else rW all d.id) all1)=some k'/\0<k'/\k'<=depth+1
       else(qR d.id (ds'.foldl (fun all d=>if jV d then jU c f d.id (depth+1) all else rW all d.id) all1)).isSome=true)/\
      (∀x,(qR x (ds'.foldl (fun all d=>if jV d then jU c f d.id (depth+1) all else rW all d.id) all1)).isSome=true->(qR x all1).isSome=true\/inR c (f+1) id depth x):=by
      intro ds'
      induction ds' with
      |nil=>exact fun all1 _=>⟨.refl _,fun x k hx _=>.inr hx,(fun d hd=>by cases hd),fun x hx=>.inl hx⟩
      |cons d ds' ih=>
       intro all1 hsub;rw[List.foldl_cons];have hdm:d∈ds:=hsub d (by simp)
       have hone:∃all2,(if jV d then jU c f d.id (depth+1) all1 else rW all1 d.id)=all2/\LeM all1 all2/\NewDone c all1 all2/\
        (if jV d then ∃k',qR d.id all2=some k'/\0<k'/\k'<=depth+1 else(qR d.id all2).isSome=true)/\(∀x,(qR x all2).isSome=true->(qR x all1).isSome=true\/inR c (f+1) id depth x):=by
        refine⟨_,rfl,?_⟩
        by_cases ht:jV d=true
        ·simp only[ht,if_true]
         have hr:=reach_ok c f d.id (depth+1) all1 (by omega) (by omega) (by omega)
         exact⟨hr.le,hr.new,hr.own,fun x hx=>(hr.keys x hx).imp_right fun hi=>.inr ⟨by omega,ds,hds,d,hdm,by rw[if_pos ht];exact hi⟩⟩
        ·simp only[ht,Bool.false_eq_true,if_false]
         refine⟨leafM_le _ _,leafM_new _ _ _,leafM_has _ _,fun x hx=>?_⟩
         rcases(leafM_keys _ _ _).1 hx with hx|hx
         ·exact .inl hx
         ·exact .inr (.inr ⟨by omega,ds,hds,d,hdm,by rw[if_neg ht];exact hx⟩)
       obtain⟨all2,h1,h2,h3,h4,h5⟩:=hone;rw[h1];obtain⟨k1,k2,k3,k4⟩:=ih all2 (fun d hd=>hsub d (by simp[hd]))
       refine⟨h2.trans k1,h3.trans k2 k1,fun e he=>?_,fun x hx=>(k4 x hx).elim (h5 x) .inr⟩
       rcases List.mem_cons.1 he with rfl|he
       ·split at h4
        ·rename_i ht
         rw[if_pos ht];obtain⟨k',g1,g2,g3⟩:=h4;obtain⟨k'',g4,g5⟩:=k1 _ _ g1;exact⟨k'',g4,(g5 g2).1,Nat.le_trans (g5 g2).2 g3⟩
        ·rename_i ht
         rw[if_neg ht];obtain⟨k',hk'⟩:=Option.isSome_iff_exists.1 h4;obtain⟨k2',g4,_⟩:=k1 _ _ hk';rw[g4];rfl
       ·exact k3 e he
     obtain⟨k1,k2,k3,k4⟩:=hfold ds (kD id depth all) (fun _ h=>h);refine⟨hle.trans k1,?_,fun x k hx hk=>?_,fun x hx=>?_⟩
     ·obtain⟨k',g1,g2⟩:=k1 _ _ hown
      exact⟨k',g1,(g2 h0).1,(g2 h0).2⟩
     ·rcases k2 x k hx hk with h1|h1
      ·exact .inl h1
      ·rw[rY]at h1
       split at h1
       ·rename_i e
        subst e;simp only[Option.some.injEq]at h1;subst h1
        left
        intro _ ds' hds' d hd;rw[hds]at hds';cases hds';exact k3 d hd
       ·exact .inr h1
     ·rcases k4 x hx with h1|h1
      ·exact(hkeys x h1).imp_right fun e=>.inl e
      ·exact .inr h1
def Closed(c:yH)(all:jT):Prop:=∀x k,qR x all=some k->0<k->DoneE c all x k
theorem closed_in{c:yH}{all:jT}(h:Closed c all):∀(f:Nat)(id:iK)(depth k:Nat)(x:iK),qR id all=some k->0<k->k<=depth->inR c f id depth x->(qR x all).isSome=true
 |0,_,_,_,_,_,_,_,hi=>hi.elim
 |f+1,id,depth,k,x,hg,h0,hk,hi=>by
  rcases hi with rfl|⟨h4,ds,hds,d,hd,hx⟩
  ·rw[hg];rfl
  ·have:=h id k hg h0 (by omega) ds hds d hd
   split at hx
   ·rename_i ht
    rw[if_pos ht]at this;obtain⟨k',h1,h2,h3⟩:=this;exact closed_in h f d.id (depth+1) k' x h1 h2 (by omega) hx
   ·rename_i ht
    rw[if_neg ht]at this;rw[hx];exact this
theorem reach_closed{c:yH}{all:jT}(h:Closed c all)(id:iK):Closed c (jU c 5 id 1 all):=fun x k hx hk=>by
 have hr:=reach_ok c 5 id 1 all (by omega) (by omega) (by omega)
 rcases hr.new x k hx hk with h1|h1
 ·exact h1
 ·exact(h x k h1 hk).mono hr.le
theorem reach_keys{c:yH}{all:jT}(h:Closed c all)(id x:iK):(qR x (jU c 5 id 1 all)).isSome=true↔(qR x all).isSome=true\/inR c 5 id 1 x:=by
 have hr:=reach_ok c 5 id 1 all (by omega) (by omega) (by omega);refine⟨hr.keys x,fun hx=>?_⟩
 rcases hx with hx|hx
 ·obtain⟨k,hk⟩:=Option.isSome_iff_exists.1 hx
  obtain⟨k',h1,_⟩:=hr.le _ _ hk;rw[h1];rfl
 ·obtain⟨k,h1,h2,h3⟩:=hr.own
  exact closed_in (reach_closed h id) 5 id 1 k x h1 h2 h3 hx
def MarkOf(c:yH)(roots l:List iK):Prop:=l.Pairwise (fun a b=>a<b)/\∀x,x∈l↔∃r∈roots,inR c 5 r 1 x
def pE(c:yH)(roots:List iK):jT:=roots.foldl (fun all id=>jU c 5 id 1 all) []
theorem marks_keys(c:yH)(roots:List iK):∀x,(qR x (pE c roots)).isSome=true↔∃r∈roots,inR c 5 r 1 x:=by
 have key:∀(roots:List iK)(all:jT),Closed c all->∀x,(qR x (roots.foldl (fun all id=>jU c 5 id 1 all) all)).isSome=true↔(qR x all).isSome=true\/∃r∈roots,inR c 5 r 1 x:=by
  intro roots
  induction roots with
  |nil=>intro all _ x;simp
  |cons r roots ih=>
   intro all ha x;rw[List.foldl_cons,ih _ (reach_closed ha r) x,reach_keys ha]
   simp[or_assoc]
 intro x;have:=key roots [] (fun x k h=>by cases h) x
 simpa[pE,qR]using this
end
section
open Go.RowKit Go.Shelf Go.Proofs.Tryz Go.Lib
def kF(m:Nat)(x:iK)(n:Nat)(p:iK):iL:=(.int .i64 m::(x.map qW++[.int .i64 n,.string ⟨p.toArray⟩])).toArray
def zG(d:yY):iL:=kF d.media d.id d.size d.plat
theorem zQ(h:x.length=32):(kF m x n p).size=35:=by simp[kF,h]
theorem pJ(m:Nat)(x:iK)(n:Nat)(p:iK):∀c∈kF m x n p,c.oneCell'=true:=by
 intro c hc;simp only[kF,List.mem_toArray,List.mem_cons,List.mem_append,List.mem_map,List.not_mem_nil,or_false]at hc
 rcases hc with rfl|⟨x,_,rfl⟩|rfl|rfl<;>rfl
theorem descRow_put0(m k:Nat)(x:iK)(n:Nat)(p:iK):(kF m x n p).setIfInBounds 0 (.int .i64 k)=kF k x n p:=by
 apply Array.toList_inj.1
 simp[kF]
theorem descRow_put1{y:iK}(hx:x.length=32)(hy:y.length=32):zE (kF m x n p) 1 (qA y)=kF m y n p:=by
 apply Array.toList_inj.1
 simp[kF,zE,qA,hx,hy]
theorem gP(hx:x.length=32):(kF m x n p).setIfInBounds 33 (.int .i64 k)=kF m x k p:=by
 apply Array.toList_inj.1
 simp[kF,hx]
theorem gO{q:iK}(hx:x.length=32):(kF m x n p).setIfInBounds 34 (.string ⟨q.toArray⟩)=kF m x n q:=by
 apply Array.toList_inj.1
 simp[kF,hx]
theorem descZ_i:(prog.info? 46).bind (·.zero)=some (.agg (zG descZ)):=by kernel_rfl
theorem zeros32_len:zeros32.length=32:=by simp[zeros32]
theorem sX(h:w.heap[b]?=some (.cells #[v,u] T fz)):w.cell? ⟨b,0,none⟩=some v:=by simp[World.cell?,h]
section
variable{w:iN}{rb wb:Nat}{bv:Value}{b:iK}{a:Nat}{e p:Int}
theorem RdS.obj{w1 w2:iN}{s:RS}{n:Nat}{o:Obj}(h:RdS w1 w2 rb wb bv b s)(hn:n≠rb/\n≠wb)(hc:w1.heap[n]?=some o):w2.heap[n]?=some o:=h.2.obj (fun e=>e.elim hn.1 hn.2) hc
def DescR(w:iN)(rb wb:Nat)(bv:Value)(b:iK)(d:yY)(s:RS):iJ:=fun x w'=>RdS w w' rb wb bv b s/\x=.returned (.agg (zG d))
theorem mDesc_any(h:RdI w rb wb bv b a e p)(size:Int):Calls prog 242 #[.agg #[iO rb,.int .i64 size]] w (DescR w rb wb bv b (xG b (yW a e)).1 (xG b (yW a e)).2):=by
 have hall:=h.all;have hrl:=h.lts;obtain⟨m,hm⟩:∃m,zM b (yW a e)=m:=⟨_,rfl⟩;obtain⟨i,hi⟩:∃i,dO b m.2=i:=⟨_,rfl⟩
 obtain⟨n,hn⟩:∃n,zM b i.2=n:=⟨_,rfl⟩;obtain⟨t,ht⟩:∃t,yK b 4096 n.2=t:=⟨_,rfl⟩
 have hd:xG b (yW a e)=(⟨m.1,i.1,n.1,t.1⟩,t.2):=by unfold xG;simp only[hm,hi,hn,ht]
 rw[hd];have hnum:=fun(w':iN)(a':Nat)(e' p':Int)(h':RdI w' rb wb bv b a' e' p')=>eT h'
 have HN1:Hid (∀w',RdS w w' rb wb bv b (yW a e)->Calls prog 240 #[iO rb] w' (NumR w' rb wb bv b m.1 m.2)):=O (fun w' hw'=>by
  obtain⟨⟨a',e',p',h',hs⟩,-⟩:=hw';have:=eT h'
  rwa[hs,hm]at this)
 have HN2:Hid (∀w',RdS w w' rb wb bv b m.2->Calls prog 284 #[iO rb] w' (IDR w' rb wb bv b i.1 i.2)):=O (fun w' hw'=>by
  obtain⟨⟨a',e',p',h',hs⟩,-⟩:=hw';have:=rID_any h'
  rwa[hs,hi]at this)
 have HN3:Hid (∀w',RdS w w' rb wb bv b i.2->Calls prog 240 #[iO rb] w' (NumR w' rb wb bv b n.1 n.2)):=O (fun w' hw'=>by
  obtain⟨⟨a',e',p',h',hs⟩,-⟩:=hw';have:=eT h'
  rwa[hs,hn]at this)
 have HN4:Hid (∀w',RdS w w' rb wb bv b n.2->Calls prog 241 #[iO rb,.int .i64 (4096:Nat)] w' (TextR w' rb wb bv b t.1 t.2)):=O (fun w' hw'=>by
  obtain⟨⟨a',e',p',h',hs⟩,-⟩:=hw';have:=rText_any h' 4096 (Nat.le_refl _)
  rwa[hs,ht]at this)
 have hil:i.1.length=32:=by
  have:=(rIDL_ok (b:=b) (s:=m.2) (by rw[<-hm];exact rNumL_ok.1)).2
  rwa[hi]at this
 have HR0:Hid (RdS w w rb wb bv b (yW a e)):=O h.stay;have hzl:=zeros32_len;have his:(qA i.1).size=32:=by rw[qD,hil]
 obtain⟨m,s1⟩:=m;obtain⟨i,s2⟩:=i;obtain⟨n,s3⟩:=n;obtain⟨t,s4⟩:=t
 dsimp only at HN1 HN2 HN3 HN4 hil his |-
 clear h hm hi hn ht hd hnum;go_enter func242,ntmps242;go_upto_region 0 with(fail);refine qL [1,1] ?_;simp only[qB];refine qK (zT 307 (fun wx hBx hmx hsx=>?_))
 replace hBx:wx.heap[w.heap.size]?=some (.cells #[iO rb,.int .i64 size] 307 (0,0)):=hBx;try simp only[qC]
 refine qK (zB descZ_i (fun w1 hB1 hm1 hs1=>?_));simp only[qB];have hA1:=hm1.obj id hBx;have hb12:w.heap.size<wx.heap.size:=hsx
 generalize hb1:w.heap.size=b1 at*;generalize hb2:wx.heap.size=b2 at*
 have HR1:Hid (RdS w w1 rb wb bv b (yW a e)):=O (by
  obtain⟨⟨a',e',p',h',hs⟩,-⟩:=HR0.out
  exact⟨⟨a',e',p',h'.keep0 (hmx.trans0 hm1),hs⟩,(hmx.trans0 hm1).mono (fun _ _ h=>h.elim)⟩)
 have HC1:=O (sX hA1);replace hB1:w1.heap[b2]?=some (.cells (kF 0 zeros32 0 []) 46 (0,0)):=hB1
 replace hall:∀k,k=rb\/k=wb\/bv.ownBlock=some k->k<w.heap.size:=by rw[hb1];exact hall
 clear hmx hm1 HR0 hBx hsx hs1;go_upto_region 1 with(fail);refine qL [3,1,1,3,1] ?_;simp only[qB];refine qG 304 HC1.out ?_;try simp only[qC]
 refine qK (xE func240 ((HN1.out _ HR1.out)) ?_);rintro e w1x ⟨rfl,hr⟩;have HR:=O (HR1.out.trans hr);have HA:=O (RdS.obj hr ⟨by omega,by omega⟩ hA1)
 have hB:=RdS.obj hr ⟨by omega,by omega⟩ hB1;clear hr;refine⟨_,rfl,?_⟩;simp only[qB]
 refine qK (zR 3 0 (.int .i64 m) hB (fun w2 hB2 hmS=>?_) (hoff:=by rw[zQ hzl];omega));rw[descRow_put0]at hB2
 have HR2:Hid (RdS w w2 rb wb bv b _):=O (HR.out.keepN hall (Nat.le_refl _) hmS (by omega));have hA2:=hmS.objB (by omega) HA.out;have HC2:=O (sX hA2)
 clear hmS hB HA HR HR1 hA1 hB1 HC1;simp only[qB];go_upto_region 2 with(fail);refine qL [3,1,1,3,1] ?_;simp only[qB];refine qG 304 HC2.out ?_;try simp only[qC]
 refine qK (xE func284 ((HN2.out _ HR2.out)) ?_);rintro e w2x ⟨hr,rfl⟩;have HR:=O (HR2.out.trans hr);have HA:=O (RdS.obj hr ⟨by omega,by omega⟩ hA2)
 have hB:=RdS.obj hr ⟨by omega,by omega⟩ hB2;clear hr;refine⟨_,rfl,?_⟩;simp only[qB]
 refine qK (xU 24 1 (qA i) (qQ _) 32 his hB (fun w3 hB3 hmS=>?_) (hoff:=by rw[zQ hzl,his];omega));rw[descRow_put1 hzl hil]at hB3
 have HR3:Hid (RdS w w3 rb wb bv b _):=O (HR.out.keepN hall (Nat.le_refl _) hmS (by omega));have hA3:=hmS.objB (by omega) HA.out;have HC3:=O (sX hA3)
 clear hmS hB HA HR HR2 hA2 hB2 HC2;simp only[qB];go_upto_region 3 with(fail);refine qL [3,1,1,3,1] ?_;simp only[qB];refine qG 304 HC3.out ?_;try simp only[qC]
 refine qK (xE func240 ((HN3.out _ HR3.out)) ?_);rintro e w3x ⟨rfl,hr⟩;have HR:=O (HR3.out.trans hr);have HA:=O (RdS.obj hr ⟨by omega,by omega⟩ hA3)
 have hB:=RdS.obj hr ⟨by omega,by omega⟩ hB3;clear hr;refine⟨_,rfl,?_⟩;simp only[qB]
 refine qK (zR 3 33 (.int .i64 n) hB (fun w4 hB4 hmS=>?_) (hoff:=by rw[zQ hil];omega));rw[gP hil]at hB4
 have HR4:Hid (RdS w w4 rb wb bv b _):=O (HR.out.keepN hall (Nat.le_refl _) hmS (by omega));have hA4:=hmS.objB (by omega) HA.out;have HC4:=O (sX hA4)
 clear hmS hB HA HR HR3 hA3 hB3 HC3;simp only[qB];go_upto_region 4 with(fail);refine qL [3,1,1,3,1] ?_;simp only[qB];refine qG 304 HC4.out ?_;try simp only[qC]
 refine qK (xE func241 ((HN4.out _ HR4.out)) ?_);rintro e w4x ⟨hr,rfl⟩;have HR:=O (HR4.out.trans hr);have HA:=O (RdS.obj hr ⟨by omega,by omega⟩ hA4)
 have hB:=RdS.obj hr ⟨by omega,by omega⟩ hB4;clear hr;refine⟨_,rfl,?_⟩;simp only[qB]
 refine qK (zR 9 34 (.string ⟨t.toArray⟩) hB (fun w5 hB5 hmS=>?_) (hoff:=by rw[zQ hil];omega));rw[gO hil]at hB5
 have HR5:Hid (RdS w w5 rb wb bv b _):=O (HR.out.keepN hall (Nat.le_refl _) hmS (by omega));have hA5:=hmS.objB (by omega) HA.out;have HC5:=O (sX hA5)
 clear hmS hB HA HR HR4 hA4 hB4 HC4;simp only[qB];have hrs:=zQ (m:=m) (n:=n) (p:=t) hil;have hone:=pJ m i n t;go_upto_region 5 with(fail)
 refine qL [1,1] ?_;simp only[qB];refine qY 46 (CellsAt.whole hB5) 35 hrs ?_;try simp only[qC]
 refine qK (yL 46 hone 35 hrs hB5 (fun w6 hB6 hm6=>?_) (hoff:=by rfl));have HR6:=O (HR5.out.keepN hall (Nat.le_refl _) hm6 (by omega));clear hB5 hm6;simp only[qB]
 clear HC5 hA5;go_wp2;refine bodyPost_ret (results_cell_row (P:=prog) (ty:=46) rfl _ _ b2 _ _ _ _ (by rfl) hB6 underlying46 rfl (by rw[hrs];kernel_rfl)) rfl ?_
 exact⟨HR6.out,rfl⟩
end
def eG(d:yY):List Value:=if d.id.length=32 then(zG d).toList else List.replicate 35 (.int .i64 0)
theorem sL(d:yY):(eG d).length=35:=by
 unfold eG
 split
 ·rename_i h;rw[Array.length_toList];exact zQ h
 ·simp
theorem kT(d:yY):∀c∈eG d,c.oneCell'=true:=by
 unfold eG
 split
 ·intro c hc;exact pJ _ _ _ _ c (by simpa[zG]using hc)
 ·intro c hc;rw[List.eq_of_mem_replicate hc];rfl
theorem aW{d:yY}(h:d.id.length=32):(eG d).toArray=zG d:=by unfold eG;rw[if_pos h]
theorem sJ:(prog.info? 46).map (fun i=>(i.zero,i.size,i.bytes))=some (some (.agg (zG descZ)),35,64):=by kernel_rfl
theorem pO:(Value.agg (zG descZ)).cells.size=35:=by kernel_rfl
abbrev GatD(base:Nat)(w:iN)(v:Value)(l:List yY):Prop:=Gat eG 46 35 base w v l
section
variable{w:iN}{rb wb:Nat}{bv:Value}{b:iK}{a:Nat}{e p:Int}
theorem RdS.keepS{S:iM}(h:RdS w w1 rb wb bv b s)(h0:∀k,k=rb\/k=wb\/bv.ownBlock=some k->k<w.heap.size)(hm:Mod S w1 w2)(hS:∀k,S k->w.heap.size<=k):RdS w w2 rb wb bv b s:=by
 obtain⟨⟨a,e,p,hi,hst⟩,hM⟩:=h;refine⟨⟨a,e,p,hi.keep hm (fun e=>?_) (fun e=>?_) (fun k hk e=>?_),hst⟩,hM.trans hm (fun k hk e=>?_)⟩
 ·have:=hS _ e;have:=h0 rb (.inl rfl);omega
 ·have:=hS _ e;have:=h0 wb (.inr (.inl rfl));omega
 ·have:=hS _ e;have:=h0 k (.inr (.inr hk));omega
 ·have:=hS _ e;omega
def ManyR(w:iN)(rb wb:Nat)(bv:Value)(b:iK)(l:List yY)(s:RS):iJ:=fun x w'=>RdS w w' rb wb bv b s/\∃v,x=.returned v/\GatD w.heap.size w' v l
def ManyRel(w0:iN)(rb wb:Nat)(bv:Value)(b:iK)(s:RS)(n:Nat)(v i:Value)(w:iN):Prop:=∃k:Nat,k<=n/\i=.int .i64 k/\RdS w0 w rb wb bv b (xA b k s).2/\GatD w0.heap.size w v (xA b k s).1
theorem mMany_any(h:RdI w rb wb bv b a e p)(size:Int)(n:Nat)(hn:n<=4096):Calls prog 244 #[.int .i64 n,.func (.func 242) #[.agg #[iO rb,.int .i64 size]] #[]] w (ManyR w rb wb bv b (xA b n (yW a e)).1 (xA b n (yW a e)).2):=by
 have hall:=h.all;have hst:=h.stay;have hok:=h.notOk;generalize yW a e=s at hst hok |-;have HST:=O hst
 have HD:=O (show ∀(w':iN)(s':RS),RdS w w' rb wb bv b s'->Calls prog 242 #[.agg #[iO rb,.int .i64 size]] w' (DescR w' rb wb bv b (xG b s').1 (xG b s').2)from fun w' s' hw'=>by
  obtain⟨⟨a',e',p',h',hs⟩,-⟩:=hw';have:=mDesc_any h' size
  rwa[hs]at this)
 clear h hst;go_enter func244,ntmps244;go_upto_region 1 with(fail);go_wp2
 go_loopw [4,6] (ManyRel w rb wb bv b s n) (fun _ i _=>n-(intOf i).toNat)
 case atStart=>exact⟨0,Nat.zero_le _,rfl,HST.out,Gat.nil _ _ _ _ _⟩
 case round=>
  rename iN=>wr
  obtain⟨k,hk,rfl,hrd,hg⟩:=hrel;have HRD:=O hrd;have HG:=O hg
  by_cases hlt:k<n
  ·have hz:(k:Int)<(n:Int):=by omega
   have hidl:=(rDescL_ok (b:=b) (s:=(xA b k s).2)).2.1;have hlen:=rD (b:=b) (s:=s) k;obtain⟨d,hd⟩:∃d,(xG b (xA b k s).2).1=d:=⟨_,rfl⟩
   have hcall:=HD.out wr _ hrd;rw[hd]at hidl hcall;have HDD:=O hd;have HE:=O (aW hidl)
   have hds:=zQ (m:=d.media) (n:=d.size) (p:=d.plat) hidl;replace hds:(zG d).size=35:=hds;clear hrd hg hd;go_upto_region 3 with(fail)
   refine qL [3,3,1,1,1,3] ?_;simp only[qB]
   refine qK (pP 242 _ [] _ #[.agg #[iO rb,.int .i64 size]] #[] (by rfl) (by rfl) (enters_of func242 (by kernel_rfl) rfl) ?_)
   show Calls prog 242 #[.agg #[iO rb,.int .i64 size]] _ _
   refine hcall.mono ?_;rintro e w2 ⟨hr2,rfl⟩;have HR2:=O (HRD.out.trans hr2)
   have HG2:Hid (GatD w.heap.size w2 _ (xA b k s).1):=O (HG.out.keep hr2.2 (fun q hq e=>by
    have h1:=(HG.out.lt hq).1
    rcases e with e|e
    ·have:=hall rb (.inl rfl);omega
    ·have:=hall wb (.inr (.inl rfl));omega))
   clear hr2;refine⟨_,rfl,?_⟩;try simp only[qC]
   refine qK (kK 161 (.agg (zG d)) (.agg (zG descZ)) 35 hds (fun w3 hB3 hm3 hs3=>?_))
   have hsrc:=uK (enc:=eG) (e:=46) (x:=d) sL (by rw[HE.out];exact hB3);have HR3:=O (HR2.out.keepS hall hm3 (fun _ h=>h.elim))
   have HG3:=O (HG2.out.keep0 hm3);have hws:w.heap.size<=w3.heap.size:=HR3.out.2.size;clear hm3 hB3 hs3;try simp only[qC]
   refine qK (cJ 161 sJ kT HG3.out _ [d] hsrc (by rw[hlen];unfold maxLen;simp;omega) (by rw[hlen];simp;omega) hws (fun v' w4 hg4 hm4=>?_) (hzs:=pO))
   have HR4:=O (HR3.out.keepS hall hm4 (fun q hq=>(HG3.out.lt hq).1));have HG4:=O hg4;clear hm4 hsrc hg4;simp only[qB]
   have HNX:Hid (xA b (k+1) s=((xA b k s).1++[d],(xG b (xA b k s).2).2)):=O (by rw[<-HDD.out];rfl);clear hcall hidl;go_wp2
   go_roundw
   case rel=>exact⟨k+1,by omega,by go_num,by rw[HNX.out];exact HR4.out,by rw[HNX.out];exact HG4.out⟩
   case measure=>simp[intOf];omega
  ·have hz:¬(k:Int)<(n:Int):=by omega
   obtain rfl:k=n:=by omega
   clear hrd hg;go_wp2;go_ret;exact⟨HRD.out,_,rfl,HG.out⟩
theorem tN(x:Int):prog.built 255 [(0,.int .i64 x)]=some #[.int .i64 x,.int .i64 0]:=by
 have z:(prog.info? 255).bind (·.zero)=some (.agg #[.int .i64 0,.int .i64 0]):=by kernel_rfl
 have p:yM prog 255=some [(0,1),(1,1)]:=by kernel_rfl
 rw[zX z p,zN (off:=0) (size:=1) rfl (by rfl) (by simp),yN]
 rfl
theorem gN{a:Act}(f:FuncId)(xs:List Operand)(ho:o.op=.makeFunc (.func f) xs.toArray #[])(vals:List Value)(hx:xs.map a.eval=vals):(execOp a.eval o).run P w=.ok (.value (.func (.func f) vals.toArray #[])) w:=by
 subst hx;unfold execOp
 simp[ho,Instr.makeFunc]
theorem cell1{b:Nat}(h:w.heap[b]?=some (.cells #[v,u] T fz)):w.cell? ⟨b,1,none⟩=some u:=by simp[World.cell?,h]
def FailedR(w:iN)(b:iK)(a:Nat)(e:Int):iJ:=fun x w'=>Mod qJ w w'/\∃(er at_:Int)(is:Bool),x=.returned (.tuple #[.agg #[.int .i64 er,.int .i64 at_],.bool is])/\(er=0↔e=0/\a=b.length)/\(er=0->at_=0)/\(is=true->er≠0)
end
def qP(k:Nat)(t:iK)(d:yY)(lv sv:Value):iL:=(.int .i64 k::.string ⟨t.toArray⟩::((zG d).toList++[lv,sv])).toArray
section
variable{k k':Nat}{t t':iK}{d d':yY}{lv sv v:Value}
theorem sK(h:d.id.length=32):(zG d).toList.length=35:=by rw[Array.length_toList];exact zQ h
theorem zD(h:d.id.length=32):(qP k t d lv sv).size=39:=by
 have:=sK h
 simp[qP,this]
theorem xY(h1:lv.oneCell'=true)(h2:sv.oneCell'=true):∀c∈qP k t d lv sv,c.oneCell'=true:=by
 intro c hc;simp only[qP,List.mem_toArray,List.mem_cons,List.mem_append,List.not_mem_nil,or_false]at hc
 rcases hc with rfl|rfl|hc|rfl|rfl
 ·rfl
 ·rfl
 ·exact pJ _ _ _ _ c (by simpa[zG]using hc)
 ·exact h1
 ·exact h2
theorem manRow_put0:(qP k t d lv sv).setIfInBounds 0 (.int .i64 k')=qP k' t d lv sv:=by
 apply Array.toList_inj.1
 simp[qP]
theorem bJ:(qP k t d lv sv).setIfInBounds 1 (.string ⟨t'.toArray⟩)=qP k t' d lv sv:=by
 apply Array.toList_inj.1
 simp[qP]
theorem manRow_putD(h:d.id.length=32)(h':d'.id.length=32):zE (qP k t d lv sv) 2 (zG d')=qP k t d' lv sv:=by
 have h1:=sK h;have h2:=zQ (m:=d'.media) (n:=d'.size) (p:=d'.plat) h';replace h2:(zG d').size=35:=h2
 apply Array.toList_inj.1
 simp only[zE,qP,h2];rw[List.drop_succ_cons,List.drop_succ_cons,List.drop_append_of_le_length (by omega),List.drop_of_length_le (by omega)]
 rfl
theorem manRow_put37(h:d.id.length=32):(qP k t d lv sv).setIfInBounds 37 v=qP k t d v sv:=by
 have h1:=sK h
 apply Array.toList_inj.1
 simp only[qP,Array.toList_setIfInBounds,List.set_cons_succ];rw[List.set_append_right _ _ (by omega),h1]
 rfl
theorem tG(h:d.id.length=32):(qP k t d lv sv).setIfInBounds 38 v=qP k t d lv v:=by
 have h1:=sK h
 apply Array.toList_inj.1
 simp only[qP,Array.toList_setIfInBounds,List.set_cons_succ];rw[List.set_append_right _ _ (by omega),h1]
 rfl
end
theorem aO:(prog.info? 163).bind (·.zero)=some (.agg (qP 0 [] descZ (.slice none 0 0) (.slice none 0 0))):=by kernel_rfl
theorem kM{p u:Tmp}(h:fn.results=#[.cell p ty,.cell u tz])(tmps:iL)(w:iN)(g g':Nat)(t t':TypeId)(cs cs':iL)(fr fr':Nat×Nat)(d d':TypeDesc)
 (hp:tmps.getD p undef=iO g)(hg:w.heap[g]?=some (.cells cs t fr))(hq:tmps.getD u undef=iO g')(hg':w.heap[g']?=some (.cells cs' t' fr'))
 (hu:P.underlying ty=some d)(hd:(match d with| .struct _| .array _ _=>true|_=>false)=true)(hi:(P.info? ty).map (·.size)=some cs.size)
 (hu':P.underlying tz=some d')(hd':(match d' with| .struct _| .array _ _=>true|_=>false)=true)(hi':(P.info? tz).map (·.size)=some cs'.size):
 (results fn tmps).run P w=.ok (.tuple #[.agg cs,.agg cs']) w:=by
 have hp':tmps[p]?.getD undef=iO g:=by simpa using hp
 have hq':tmps[u]?.getD undef=iO g':=by simpa using hq
 simp[results,h,hp',hq',asAddr,run_loadVar_row w g t ty cs fr d hg hu hd hi,run_loadVar_row w g' t' tz cs' fr' d' hg' hu' hd' hi']
def ManC(base:Nat)(w:iN)(cs:iL)(m:eH):Prop:=m.config.id.length=32/\∃lv sv,cs=qP m.kind m.title m.config lv sv/\GatD base w lv m.layers/\GatD base w sv m.subs
theorem ManC.keep0{base:Nat}{w w':iN}{cs:iL}{m:eH}(h:ManC base w cs m)(hm:Mod qJ w w'):ManC base w' cs m:=by
 obtain⟨h0,lv,sv,h1,h2,h3⟩:=h;exact⟨h0,lv,sv,h1,h2.keep0 hm,h3.keep0 hm⟩
theorem ManC.size{base:Nat}{w:iN}{cs:iL}{m:eH}(h:ManC base w cs m):cs.size=39:=by
 obtain⟨h0,lv,sv,rfl,-,-⟩:=h;exact zD h0
theorem ManC.one{base:Nat}{m:eH}(h:ManC base w cs m):∀c∈cs,c.oneCell'=true:=by
 obtain⟨h0,lv,sv,rfl,h1,h2⟩:=h;exact xY (jJ h1) (jJ h2)
section
variable{w:iN}{rb wb:Nat}{bv:Value}{b:iK}{a:Nat}{e p:Int}
def ManR(w:iN)(rb wb:Nat)(bv:Value)(b:iK)(r:eH×RS×Bool):iJ:=fun x w'=>RdS w w' rb wb bv b r.2.1/\∃(cs:iL)(er at_:Int),x=.returned (.tuple #[.agg cs,.agg #[.int .i64 er,.int .i64 at_]])/\(er=0↔r.2.2=true)/\(er=0->at_=0)/\ManC w.heap.size w' cs r.1
theorem mManifest_any(h:RdI w rb wb bv b 0 0 p):Calls prog 212 #[.agg #[iO rb,.int .i64 b.length]] w (ManR w rb wb bv b (cS b)):=by
 have hall:=h.all;have hrl:=h.lts;have hbl:=h.len;have hst:=h.stay;rw[sE]at hst;have HST:=O hst
 have HN:=O (show ∀(w':iN)(s':RS),RdS w w' rb wb bv b s'->Calls prog 240 #[iO rb] w' (NumR w' rb wb bv b (zM b s').1 (zM b s').2)from fun w' s' hw'=>by
  obtain⟨⟨a',e',p',h',hs⟩,-⟩:=hw';have:=eT h'
  rwa[hs]at this)
 have HT:=O (show ∀(w':iN)(s':RS),RdS w w' rb wb bv b s'->Calls prog 241 #[iO rb,.int .i64 (4096:Nat)] w' (TextR w' rb wb bv b (yK b 4096 s').1 (yK b 4096 s').2)from fun w' s' hw'=>by
  obtain⟨⟨a',e',p',h',hs⟩,-⟩:=hw';have:=rText_any h' 4096 (Nat.le_refl _)
  rwa[hs]at this)
 have HD:=O (show ∀(w':iN)(s':RS),RdS w w' rb wb bv b s'->Calls prog 242 #[.agg #[iO rb,.int .i64 b.length]] w' (DescR w' rb wb bv b (xG b s').1 (xG b s').2)from fun w' s' hw'=>by
  obtain⟨⟨a',e',p',h',hs⟩,-⟩:=hw';have:=mDesc_any h' b.length
  rwa[hs]at this)
 have HM:=O (show ∀(w':iN)(s':RS)(n:Nat),n<=4096->RdS w w' rb wb bv b s'->Calls prog 244 #[.int .i64 n,.func (.func 242) #[.agg #[iO rb,.int .i64 b.length]] #[]] w' (ManyR w' rb wb bv b (xA b n s').1 (xA b n s').2)from fun w' s' n hn hw'=>by
  obtain⟨⟨a',e',p',h',hs⟩,-⟩:=hw';have:=mMany_any h' b.length n hn
  rwa[hs]at this)
 have HL:=O (show ∀(w':iN)(s':RS),RdS w w' rb wb bv b s'->∃r:Int,0<=r/\r<=4096/\Calls prog 243 #[iO rb] w' (vO (.int .i64 r) w')from fun w' s' hw'=>by
  obtain⟨⟨a',e',p',h',hs⟩,-⟩:=hw'
  refine⟨_,?_,?_,rRest_any h'⟩<;>have:=h'.al<;>have:=h'.len<;>split<;>omega)
 obtain⟨f,hf⟩:∃f,zM b (some 0)=f:=⟨_,rfl⟩;obtain⟨k,hk⟩:∃k,zM b f.2=k:=⟨_,rfl⟩;obtain⟨t,ht⟩:∃t,yK b 4096 k.2=t:=⟨_,rfl⟩
 have HMR:Hid (cS b=if f.1≠77 then(fX,f.2,false)else if k.1≠3/\k.1≠4 then({ fX with kind:=k.1 },k.2,false)
  else if(if k.1=3 then 16 else 8)<(zM b (if k.1=3 then xG b t.2 else(descZ,t.2)).2).1 then(⟨k.1,t.1,(if k.1=3 then xG b t.2 else(descZ,t.2)).1,[],[]⟩,(zM b (if k.1=3 then xG b t.2 else(descZ,t.2)).2).2,false)
  else(⟨k.1,t.1,(if k.1=3 then xG b t.2 else(descZ,t.2)).1,if k.1=3 then(xA b (zM b (if k.1=3 then xG b t.2 else(descZ,t.2)).2).1 (zM b (if k.1=3 then xG b t.2 else(descZ,t.2)).2).2).1 else [],if k.1=3 then []else(xA b (zM b (if k.1=3 then xG b t.2 else(descZ,t.2)).2).1 (zM b (if k.1=3 then xG b t.2 else(descZ,t.2)).2).2).1⟩,(xA b (zM b (if k.1=3 then xG b t.2 else(descZ,t.2)).2).1 (zM b (if k.1=3 then xG b t.2 else(descZ,t.2)).2).2).2,true)):=O (by
  unfold cS
  simp only[hf,hk,ht])
 have hn1:=HN.out w _ hst;rw[hf]at hn1
 have HK2:Hid (∀w',RdS w w' rb wb bv b f.2->Calls prog 240 #[iO rb] w' (NumR w' rb wb bv b k.1 k.2)):=O (fun w' hw'=>by
  have:=HN.out w' _ hw'
  rwa[hk]at this)
 have HT2:Hid (∀w',RdS w w' rb wb bv b k.2->Calls prog 241 #[iO rb,.int .i64 (4096:Nat)] w' (TextR w' rb wb bv b t.1 t.2)):=O (fun w' hw'=>by
  have:=HT.out w' _ hw'
  rwa[ht]at this)
 have HN1:Hid (∀w',RdS w w' rb wb bv b (some 0)->Calls prog 240 #[iO rb] w' (NumR w' rb wb bv b f.1 f.2)):=O (fun w' hw'=>by
  have:=HN.out w' _ hw'
  rwa[hf]at this)
 have hfb:=(rNumL_ok (b:=b) (s:=some 0)).2.1;have hkb:=(rNumL_ok (b:=b) (s:=f.2)).2.1;rw[hf]at hfb;rw[hk]at hkb;obtain⟨f,s1⟩:=f;obtain⟨k,s2⟩:=k
 obtain⟨t,s3⟩:=t
 dsimp only at HMR HK2 HT2 HN1 hfb hkb
 clear h hst hf hk ht hn1 HT;have hzi:=xP;go_enter func212,ntmps212;go_upto_region 0 with(fail);refine qL [1,1,1] ?_;simp only[qB]
 refine qK (zT 307 (fun wx hBx hmx hsx=>?_));replace hBx:wx.heap[w.heap.size]?=some (.cells #[iO rb,.int .i64 b.length] 307 (0,0)):=hBx
 try simp only[qC]
 refine qK (zB aO (fun wy hBy hmy hsy=>?_));try simp only[qC]
 refine qK (zB fZ (fun wz hBz hmz hsz=>?_));simp only[qB];have HA:=O ((hmy.trans0 hmz).obj id hBx);have hB:=hmz.obj id hBy;have hC:=hBz
 have hb12:w.heap.size<wx.heap.size:=hsx;have hb23:wx.heap.size<wy.heap.size:=hsy
 have HR:Hid (RdS w wz rb wb bv b (some 0)):=O (HST.out.keepS hall ((hmx.trans0 hmy).trans0 hmz) (fun _ h=>h.elim));clear hmx hmy hmz hBx hBy hBz hsx hsy hsz HST
 generalize hb1:w.heap.size=b1 at*;generalize hb2:wx.heap.size=b2 at*;generalize hb3:wy.heap.size=b3 at*
 replace hall:∀k,k=rb\/k=wb\/bv.ownBlock=some k->k<w.heap.size:=by rw[hb1];exact hall
 go_upto_region 1 with(fail);refine qL [3,1,1,3] ?_;simp only[qB];refine qG 304 (sX HA.out) ?_;try simp only[qC]
 refine qK (xE func240 (HN1.out _ HR.out) ?_);rintro e w1 ⟨rfl,hr⟩;replace HA:=O (RdS.obj hr ⟨by omega,by omega⟩ HA.out);replace hB:=RdS.obj hr ⟨by omega,by omega⟩ hB
 replace hC:=RdS.obj hr ⟨by omega,by omega⟩ hC;replace HR:=O (HR.out.trans hr);clear hr;refine⟨_,rfl,?_⟩;simp only[qB]
 by_cases h77:f=77
 rotate_left
 · -- it begins with another number
   have hz:¬(f:Int)=77:=by omega
   have hr0:=HMR.out;rw[if_pos h77]at hr0;have HE:=O hr0;clear hr0
   have hsz:(qP 0 [] descZ (.slice none 0 0) (.slice none 0 0)).size=39:=zD (by first|exact xP|assumption)
   have hone:∀c∈qP 0 [] descZ (.slice none 0 0) (.slice none 0 0),c.oneCell'=true:=xY rfl rfl;go_upto_region 3 with(fail);refine qL [1,0,1,1] ?_
   simp only[qB];refine qY 163 (CellsAt.whole hB) 39 hsz ?_;try simp only[qC]
   refine yV (tN 20) ?_;simp only[qC];refine qK (yL 163 hone 39 hsz hB (fun wf hBf hmf=>?_) (hoff:=by rfl));have hCf:=hmf.objB (by omega) hC
   have HRf:=O (HR.out.keepN hall (Nat.le_refl _) hmf (by omega));clear hmf hB hC;try simp only[qC]
   refine qK (qT 255 #[.int .i64 20,.int .i64 0] (by simp[Value.oneCell']) 2 rfl hCf (fun wg hCg hmg=>?_) (hoff:=by rfl));have hBg:=hmg.objB (by omega) hBf
   have HRg:=O (HRf.out.keepN hall (Nat.le_refl _) hmg (by omega));clear hmg hBf hCf;simp only[qB]
   have hsz2:(prog.info? 163).map (·.size)=some (qP 0 [] descZ (.slice none 0 0) (.slice none 0 0)).size:=by rw[hsz];kernel_rfl
   clear HR HA;go_wp2
   refine bodyPost_ret (kM (P:=prog) (ty:=163) (tz:=255) rfl _ _ b2 b3 _ _ _ _ _ _ _ _ (by rfl) hBg (by rfl) hCg underlying163 rfl hsz2 underlying255 rfl (by kernel_rfl)) rfl ?_
   rw[HE.out];exact⟨HRg.out,_,20,0,rfl,by simp,by simp,xP,_,_,rfl,Gat.nil _ _ _ _ _,Gat.nil _ _ _ _ _⟩
 ·subst h77
  have hr0:=HMR.out;rw[if_neg (by simp)]at hr0;replace HMR:=O hr0;clear hr0;go_upto_region 4 with(fail)
  have hsz0:(qP 0 [] descZ (.slice none 0 0) (.slice none 0 0)).size=39:=zD hzi;refine qL [3,1,1,3,1] ?_;simp only[qB];refine qG 304 (sX HA.out) ?_
  try simp only[qC]
  refine qK (xE func240 (HK2.out _ HR.out) ?_);rintro e w2 ⟨rfl,hr⟩;replace HA:=O (RdS.obj hr ⟨by omega,by omega⟩ HA.out);replace hB:=RdS.obj hr ⟨by omega,by omega⟩ hB
  replace hC:=RdS.obj hr ⟨by omega,by omega⟩ hC;replace HR:=O (HR.out.trans hr);clear hr;refine⟨_,rfl,?_⟩;simp only[qB]
  refine qK (zR 3 0 (.int .i64 k) hB (fun w3 hB3 hm3=>?_));rw[manRow_put0]at hB3;replace hB:=hB3;replace HA:=O (hm3.objB (by omega) HA.out)
  replace hC:=hm3.objB (by omega) hC;replace HR:=O (HR.out.keepN hall (Nat.le_refl _) hm3 (by omega));clear hm3 hB3;simp only[qB];clear hsz0
  have hck:w3.cell? ⟨b2,0,none⟩=some (.int .i64 k):=by rw[cell_of_row _ _ _ _ _ _ hB];rfl
  by_cases hbad:k≠3/\k≠4
  ·have hz3:¬(k:Int)=3:=by omega
   have hz4:¬(k:Int)=4:=by omega
   go_upto_region 5 with(fail);refine qL [3,1,3,3,3,1,3,3] ?_;simp only[qB];refine qG 3 hck ?_;try simp only[qC]
   refine qN _ _ _ _ _ _ _ _ rfl rfl rfl rfl rfl true (decide_eq_true (by omega)) ?_;simp only[qB];refine qG 3 hck ?_;try simp only[qC]
   refine qN _ _ _ _ _ _ _ _ rfl rfl rfl rfl rfl true (decide_eq_true (by omega)) ?_;simp only[qB];have hr0:=HMR.out;rw[if_pos hbad]at hr0;have HE:=O hr0
   clear hr0;have hsz:(qP k [] descZ (.slice none 0 0) (.slice none 0 0)).size=39:=zD (by first|exact xP|assumption)
   have hone:∀c∈qP k [] descZ (.slice none 0 0) (.slice none 0 0),c.oneCell'=true:=xY rfl rfl;go_upto_region 6 with(fail);refine qL [1,0,1,1] ?_
   simp only[qB];refine qY 163 (CellsAt.whole hB) 39 hsz ?_;try simp only[qC]
   refine yV (tN 20) ?_;simp only[qC];refine qK (yL 163 hone 39 hsz hB (fun wf hBf hmf=>?_) (hoff:=by rfl));have hCf:=hmf.objB (by omega) hC
   have HRf:=O (HR.out.keepN hall (Nat.le_refl _) hmf (by omega));clear hmf hB hC;try simp only[qC]
   refine qK (qT 255 #[.int .i64 20,.int .i64 0] (by simp[Value.oneCell']) 2 rfl hCf (fun wg hCg hmg=>?_) (hoff:=by rfl));have hBg:=hmg.objB (by omega) hBf
   have HRg:=O (HRf.out.keepN hall (Nat.le_refl _) hmg (by omega));clear hmg hBf hCf;simp only[qB]
   have hsz2:(prog.info? 163).map (·.size)=some (qP k [] descZ (.slice none 0 0) (.slice none 0 0)).size:=by rw[hsz];kernel_rfl
   clear HR HA;go_wp2
   refine bodyPost_ret (kM (P:=prog) (ty:=163) (tz:=255) rfl _ _ b2 b3 _ _ _ _ _ _ _ _ (by rfl) hBg (by rfl) hCg underlying163 rfl hsz2 underlying255 rfl (by kernel_rfl)) rfl ?_
   rw[HE.out];exact⟨HRg.out,_,20,0,rfl,by simp,by simp,xP,_,_,rfl,Gat.nil _ _ _ _ _,Gat.nil _ _ _ _ _⟩
  ·rcases(by omega:k=3\/k=4)with rfl|rfl
   ·skip
    go_upto_region 5 with(fail);refine qL [3,1,3,3,3,0,3,3] ?_;simp only[qB];refine qG 3 hck ?_;try simp only[qC]
    refine qN _ _ _ _ _ _ _ _ rfl rfl rfl rfl rfl false (by decide) ?_;simp only[qB]
    have hsz0:(qP 3 [] descZ (.slice none 0 0) (.slice none 0 0)).size=39:=zD hzi;go_upto_region 7 with(fail);refine qL [3,1,1,3,1] ?_;simp only[qB]
    refine qG 304 (sX HA.out) ?_;try simp only[qC]
    refine qK (xE func241 (HT2.out _ HR.out) ?_);rintro e w4 ⟨hr,rfl⟩;replace HA:=O (RdS.obj hr ⟨by omega,by omega⟩ HA.out)
    replace hB:=RdS.obj hr ⟨by omega,by omega⟩ hB;replace hC:=RdS.obj hr ⟨by omega,by omega⟩ hC;replace HR:=O (HR.out.trans hr);clear hr;refine⟨_,rfl,?_⟩
    simp only[qB];refine qK (zR 9 1 (.string ⟨t.toArray⟩) hB (fun w5 hB5 hm5=>?_));rw[bJ]at hB5;replace hB:=hB5
    replace HA:=O (hm5.objB (by omega) HA.out);replace hC:=hm5.objB (by omega) hC;replace HR:=O (HR.out.keepN hall (Nat.le_refl _) hm5 (by omega));clear hm5 hB5
    simp only[qB];clear hsz0 hck;have hsz0:(qP 3 t descZ (.slice none 0 0) (.slice none 0 0)).size=39:=zD hzi
    have hck:w5.cell? ⟨b2,0,none⟩=some (.int .i64 3):=by rw[cell_of_row _ _ _ _ _ _ hB];rfl
    obtain⟨⟨d,s4⟩,hd⟩:∃d,xG b s3=d:=⟨_,rfl⟩;have hdl:=(rDescL_ok (b:=b) (s:=s3)).2.1;have hdc:=HD.out _ _ HR.out;rw[hd]at hdl hdc
    dsimp only at hdl hdc
    have hdz:=zQ (m:=d.media) (n:=d.size) (p:=d.plat) hdl;replace hdz:(zG d).size=35:=hdz
    have hdo:∀c∈zG d,c.oneCell'=true:=pJ _ _ _ _;have hr0:=HMR.out;rw[if_neg (by omega)]at hr0;simp only[if_true,hd]at hr0
    replace HMR:=O hr0;clear hr0 hd;go_upto_region 9 with(fail);refine qL [3,1,3] ?_;simp only[qB];refine qG 3 hck ?_;try simp only[qC]
    refine qZ (fun _=>by go_simp;try with_reducible rfl) ?_;simp only[qB];clear hck;go_upto_region 10 with(fail);refine qL [1,1,3,1] ?_;simp only[qB]
    refine qY 307 (CellsAt.whole HA.out) 2 rfl ?_;try simp only[qC]
    refine qK (xE func242 (hdc) ?_);rintro e w6 ⟨hr,rfl⟩;replace HA:=O (RdS.obj hr ⟨by omega,by omega⟩ HA.out);replace hB:=RdS.obj hr ⟨by omega,by omega⟩ hB
    replace hC:=RdS.obj hr ⟨by omega,by omega⟩ hC;replace HR:=O (HR.out.trans hr);clear hr;refine⟨_,rfl,?_⟩;simp only[qB]
    refine qK (xU 46 2 (zG d) hdo 35 hdz hB (fun w7 hB7 hm7=>?_));rw[manRow_putD hzi hdl]at hB7;replace hB:=hB7;replace HA:=O (hm7.objB (by omega) HA.out)
    replace hC:=hm7.objB (by omega) hC;replace HR:=O (HR.out.keepN hall (Nat.le_refl _) hm7 (by omega));clear hm7 hB7;simp only[qB];clear hsz0
    have hszr:(qP 3 t d (.slice none 0 0) (.slice none 0 0)).size=39:=zD hdl
    obtain⟨r,hr1,hr2,hrc⟩:=HL.out _ _ (RdS.keepS HR.out hall (S:=qJ) (w2:=w7.drew) ((Mod.refl _ _).drew) (fun _ h=>h.elim))
    obtain⟨⟨n,s5⟩,hn⟩:∃n,zM b s4=n:=⟨_,rfl⟩
    have HNC:Hid (∀w',RdS w w' rb wb bv b s4->Calls prog 240 #[iO rb] w' (NumR w' rb wb bv b n s5)):=O (fun w' hw'=>by
     have:=HN.out w' _ hw'
     rwa[hn]at this)
    have hnb:=(rNumL_ok (b:=b) (s:=s4)).2.1;rw[hn]at hnb
    dsimp only at hnb
    have hr0:=HMR.out;simp only[hn]at hr0;replace HMR:=O hr0;clear hr0 hn;go_upto_region 12 with(fail);have hS:Mod qJ w7 w7.drew:=(Mod.refl _ _).drew
    refine zZ [3,0,3,0,1,3,3] [] (fun w'=>Mod qJ w7 w') hS ?_;simp only[qB];refine qE 3 (fun w' hS=>hS.cell id (cell1 HA.out)) ?_;simp only[qB]
    refine qE 304 (fun w' hS=>hS.cell id (sX HA.out)) ?_;simp only[qC];refine qH rfl (fun K hK=>?_);refine xE func243 (hrc) ?_;rintro e w8 ⟨rfl,hm8⟩
    have hS8:=hS.trans0 hm8;refine⟨_,rfl,hK _ _ hS8 ?_⟩;clear hK K;try simp only[qC]
    refine yC _ _ _ _ ((b.length:Nat):Int) r rfl rfl rfl rfl (by omega) (by omega) ?_;simp only[qB];replace HA:=O (hS8.obj id HA.out)
    replace hB:=hS8.obj id hB;replace hC:=hS8.obj id hC;replace HR:=O (HR.out.keepS hall hS8 (fun _ h=>h.elim));clear hS hS8 hm8 hrc;go_upto_region 13 with(fail)
    refine qL [3,1,1,3] ?_;simp only[qB];refine qG 304 (sX HA.out) ?_;try simp only[qC]
    refine qK (xE func240 (HNC.out _ HR.out) ?_);rintro e w9 ⟨rfl,hr⟩;replace HA:=O (RdS.obj hr ⟨by omega,by omega⟩ HA.out)
    replace hB:=RdS.obj hr ⟨by omega,by omega⟩ hB;replace hC:=RdS.obj hr ⟨by omega,by omega⟩ hC;replace HR:=O (HR.out.trans hr);clear hr;refine⟨_,rfl,?_⟩
    simp only[qB]
    by_cases hmost:16<n
    ·have hmz:(n:Int)>16:=by omega
     have hr0:=HMR.out;rw[if_pos hmost]at hr0;have HE:=O hr0;clear hr0
     have hsz:(qP 3 t d (.slice none 0 0) (.slice none 0 0)).size=39:=zD (by first|exact xP|assumption)
     have hone:∀c∈qP 3 t d (.slice none 0 0) (.slice none 0 0),c.oneCell'=true:=xY rfl rfl;go_upto_region 15 with(fail);refine qL [1,3,0,1,1] ?_
     simp only[qB];refine qY 163 (CellsAt.whole hB) 39 hsz ?_;simp only[qB];refine yV (uI 4 (b.length-r)) ?_;simp only[qC]
     refine qK (yL 163 hone 39 hsz hB (fun wf hBf hmf=>?_) (hoff:=by rfl));have hCf:=hmf.objB (by omega) hC
     have HRf:=O (HR.out.keepN hall (Nat.le_refl _) hmf (by omega));clear hmf hB hC;try simp only[qC]
     refine qK (qT 255 #[.int .i64 4,.int .i64 (b.length-r)] (by simp[Value.oneCell']) 2 rfl hCf (fun wg hCg hmg=>?_) (hoff:=by rfl))
     have hBg:=hmg.objB (by omega) hBf;have HRg:=O (HRf.out.keepN hall (Nat.le_refl _) hmg (by omega));clear hmg hBf hCf;simp only[qB]
     have hsz2:(prog.info? 163).map (·.size)=some (qP 3 t d (.slice none 0 0) (.slice none 0 0)).size:=by rw[hsz];kernel_rfl
     clear HR HA;go_wp2
     refine bodyPost_ret (kM (P:=prog) (ty:=163) (tz:=255) rfl _ _ b2 b3 _ _ _ _ _ _ _ _ (by rfl) hBg (by rfl) hCg underlying163 rfl hsz2 underlying255 rfl (by kernel_rfl)) rfl ?_
     rw[HE.out];exact⟨HRg.out,_,4,_,rfl,by simp,by simp,hdl,_,_,rfl,Gat.nil _ _ _ _ _,Gat.nil _ _ _ _ _⟩
    ·have hmz:¬(n:Int)>16:=by omega
     have hr0:=HMR.out;rw[if_neg hmost]at hr0;have HE0:=O hr0;clear hr0 HMR;have hmn:=HM.out _ _ n (by omega) HR.out;have HC9:=O hC
     obtain⟨l,hl⟩:∃l,xA b n s5=l:=⟨_,rfl⟩;rw[hl]at hmn;have hr0:=HE0.out;rw[hl]at hr0;have HE:=O hr0;clear hl hr0 HE0;go_upto_region 16 with(fail)
     refine qL [3,3,1,1,1,3,1] ?_;simp only[qB];refine qY 307 (CellsAt.whole HA.out) 2 rfl ?_;try simp only[qC]
     refine cF rfl (gN 242 [.tmp 59] (by rfl) [.agg #[iO rb,.int .i64 b.length]] (by rfl)) trivial ?_;try simp only[qC]
     refine qK (xE func244 (hmn) ?_);rintro e wa ⟨hr,v,rfl,hg⟩;have hws:=HR.out.2.size;replace HA:=O (RdS.obj hr ⟨by omega,by omega⟩ HA.out)
     replace hB:=RdS.obj hr ⟨by omega,by omega⟩ hB;replace hC:=RdS.obj hr ⟨by omega,by omega⟩ hC
     have hw9s:b3<w9.heap.size:=(Array.getElem?_eq_some_iff.1 (show w9.heap[b3]?=some _ from HC9.out)).1;replace HR:=O (HR.out.trans hr)
     have hvn:∀q,v.ownBlock=some q->b3<q:=fun q hq=>Nat.lt_of_lt_of_le hw9s (hg.lt hq).1;have hv1:v.oneCell'=true:=jJ hg
     have hg0:GatD w.heap.size wa v l.1:=hg.base hws;clear hr hg;refine⟨_,rfl,?_⟩;simp only[qB];refine qK (zR 161 37 v hB (fun wb' hBb hmb=>?_) (h1:=hv1))
     rw[manRow_put37 hdl]at hBb;replace hB:=hBb;replace hC:=hmb.objB (by omega) hC;replace HR:=O (HR.out.keepN hall (Nat.le_refl _) hmb (by omega))
     replace hg0:=hg0.keep hmb (fun q hq e=>by
      have:=hvn q hq;have e':q=b2:=e
      omega)
     clear hmb hBb;simp only[qB];obtain⟨MR,hMR⟩:∃MR,qP 3 t d v (.slice none 0 0)=MR:=⟨_,rfl⟩;have hsz:MR.size=39:=by rw[<-hMR];exact zD hdl
     have hone:∀c∈MR,c.oneCell'=true:=by rw[<-hMR];exact xY hv1 rfl
     have HMM:=O hMR;rw[hMR]at hB;clear hMR HA;go_upto_region 17 with(fail)
     have hS:Mod (fun q=>q=b2) wb' wb'.drew/\wb'.drew.heap[b2]?=some (.cells MR 163 (0,0)):=⟨(Mod.refl _ _).drew,hB⟩
     refine zZ [0,0,1,2] [3] (fun w'=>Mod (fun q=>q=b2) wb' w'/\w'.heap[b2]?=some (.cells MR 163 (0,0))) hS ?_;simp only[qB]
     refine zJ 163 (fun w' hS=>CellsAt.whole hS.2) 39 hsz ?_;simp only[qC];refine zJ 255 (fun w' hS=>CellsAt.whole (hS.1.objB (by omega) hC)) 2 rfl ?_
     simp only[qC];refine qH rfl (fun K hK=>?_);refine yL 163 hone 39 hsz hS.2 (fun wc hBc hmc=>?_) (hoff:=by rfl)
     have hSc:Mod (fun q=>q=b2) wb' wc:=hS.1.trans hmc (fun _ _ h=>h);refine hK _ _ ⟨hSc,hBc⟩ ?_;clear hK K;try simp only[qC]
     refine zP rfl (fun K hK=>?_)
     refine qT 255 #[.int .i64 0,.int .i64 0] (by simp[Value.oneCell']) 2 rfl (hSc.objB (by omega) hC) (fun wd hCd hmd=>?_) (hoff:=by rfl)
     have hBd:=hmd.objB (by omega) hBc;refine hK _ _ ?_;clear hK K;simp only[qB]
     have HRd:=O ((HR.out.keepN hall (Nat.le_refl _) hSc (by omega)).keepN hall (Nat.le_refl _) hmd (by omega))
     have HGd:=O ((hg0.keep hSc (fun q hq e=>by
      have:=hvn q hq;have e':q=b2:=e
      omega)).keep hmd (fun q hq e=>by
      have:=hvn q hq;have e':q=b3:=e
      omega))
     have hsz2:(prog.info? 163).map (·.size)=some MR.size:=by rw[hsz];kernel_rfl
     clear hS hSc hmc hmd hBc hB hC hg0 HR;go_wp2
     refine bodyPost_ret (kM (P:=prog) (ty:=163) (tz:=255) rfl _ _ b2 b3 _ _ _ _ _ _ _ _ (by rfl) hBd (by rfl) hCd underlying163 rfl hsz2 underlying255 rfl (by kernel_rfl)) rfl ?_
     rw[HE.out];exact⟨HRd.out,_,0,0,rfl,by simp,by simp,hdl,_,_,HMM.out.symm,HGd.out,Gat.nil _ _ _ _ _⟩
   ·skip
    go_upto_region 5 with(fail);refine qL [3,1,3,3,3,1,3,3] ?_;simp only[qB];refine qG 3 hck ?_;try simp only[qC]
    refine qN _ _ _ _ _ _ _ _ rfl rfl rfl rfl rfl true (by decide) ?_;simp only[qB];refine qG 3 hck ?_;try simp only[qC]
    refine qN _ _ _ _ _ _ _ _ rfl rfl rfl rfl rfl false (by decide) ?_;simp only[qB]
    have hsz0:(qP 4 [] descZ (.slice none 0 0) (.slice none 0 0)).size=39:=zD hzi;go_upto_region 7 with(fail);refine qL [3,1,1,3,1] ?_;simp only[qB]
    refine qG 304 (sX HA.out) ?_;try simp only[qC]
    refine qK (xE func241 (HT2.out _ HR.out) ?_);rintro e w4 ⟨hr,rfl⟩;replace HA:=O (RdS.obj hr ⟨by omega,by omega⟩ HA.out)
    replace hB:=RdS.obj hr ⟨by omega,by omega⟩ hB;replace hC:=RdS.obj hr ⟨by omega,by omega⟩ hC;replace HR:=O (HR.out.trans hr);clear hr;refine⟨_,rfl,?_⟩
    simp only[qB];refine qK (zR 9 1 (.string ⟨t.toArray⟩) hB (fun w5 hB5 hm5=>?_));rw[bJ]at hB5;replace hB:=hB5
    replace HA:=O (hm5.objB (by omega) HA.out);replace hC:=hm5.objB (by omega) hC;replace HR:=O (HR.out.keepN hall (Nat.le_refl _) hm5 (by omega));clear hm5 hB5
    simp only[qB];clear hsz0 hck;have hsz0:(qP 4 t descZ (.slice none 0 0) (.slice none 0 0)).size=39:=zD hzi
    have hck:w5.cell? ⟨b2,0,none⟩=some (.int .i64 4):=by rw[cell_of_row _ _ _ _ _ _ hB];rfl
    have hr0:=HMR.out;rw[if_neg (by omega)]at hr0;simp only[show ¬((4:Nat)=3) by omega,if_false]at hr0;replace HMR:=O hr0;clear hr0;have hdl:=hzi
    go_upto_region 9 with(fail);refine qL [3,1,3] ?_;simp only[qB];refine qG 3 hck ?_;try simp only[qC]
    refine qZ (fun _=>by go_simp;try with_reducible rfl) ?_;simp only[qB];clear hck hsz0
    have hszr:(qP 4 t descZ (.slice none 0 0) (.slice none 0 0)).size=39:=zD hdl
    obtain⟨r,hr1,hr2,hrc⟩:=HL.out _ _ (RdS.keepS HR.out hall (S:=qJ) (w2:=w5.drew) ((Mod.refl _ _).drew) (fun _ h=>h.elim))
    obtain⟨⟨n,s5⟩,hn⟩:∃n,zM b s3=n:=⟨_,rfl⟩
    have HNC:Hid (∀w',RdS w w' rb wb bv b s3->Calls prog 240 #[iO rb] w' (NumR w' rb wb bv b n s5)):=O (fun w' hw'=>by
     have:=HN.out w' _ hw'
     rwa[hn]at this)
    have hnb:=(rNumL_ok (b:=b) (s:=s3)).2.1;rw[hn]at hnb
    dsimp only at hnb
    have hr0:=HMR.out;simp only[hn]at hr0;replace HMR:=O hr0;clear hr0 hn;go_upto_region 12 with(fail);have hS:Mod qJ w5 w5.drew:=(Mod.refl _ _).drew
    refine zZ [3,0,3,0,1,3,3] [] (fun w'=>Mod qJ w5 w') hS ?_;simp only[qB];refine qE 3 (fun w' hS=>hS.cell id (cell1 HA.out)) ?_;simp only[qB]
    refine qE 304 (fun w' hS=>hS.cell id (sX HA.out)) ?_;simp only[qC];refine qH rfl (fun K hK=>?_);refine xE func243 (hrc) ?_;rintro e w8 ⟨rfl,hm8⟩
    have hS8:=hS.trans0 hm8;refine⟨_,rfl,hK _ _ hS8 ?_⟩;clear hK K;try simp only[qC]
    refine yC _ _ _ _ ((b.length:Nat):Int) r rfl rfl rfl rfl (by omega) (by omega) ?_;simp only[qB];replace HA:=O (hS8.obj id HA.out)
    replace hB:=hS8.obj id hB;replace hC:=hS8.obj id hC;replace HR:=O (HR.out.keepS hall hS8 (fun _ h=>h.elim));clear hS hS8 hm8 hrc;go_upto_region 13 with(fail)
    refine qL [3,1,1,3] ?_;simp only[qB];refine qG 304 (sX HA.out) ?_;try simp only[qC]
    refine qK (xE func240 (HNC.out _ HR.out) ?_);rintro e w9 ⟨rfl,hr⟩;replace HA:=O (RdS.obj hr ⟨by omega,by omega⟩ HA.out)
    replace hB:=RdS.obj hr ⟨by omega,by omega⟩ hB;replace hC:=RdS.obj hr ⟨by omega,by omega⟩ hC;replace HR:=O (HR.out.trans hr);clear hr;refine⟨_,rfl,?_⟩
    simp only[qB]
    by_cases hmost:8<n
    ·have hmz:(n:Int)>8:=by omega
     have hr0:=HMR.out;rw[if_pos hmost]at hr0;have HE:=O hr0;clear hr0
     have hsz:(qP 4 t descZ (.slice none 0 0) (.slice none 0 0)).size=39:=zD (by first|exact xP|assumption)
     have hone:∀c∈qP 4 t descZ (.slice none 0 0) (.slice none 0 0),c.oneCell'=true:=xY rfl rfl;go_upto_region 15 with(fail);refine qL [1,3,0,1,1] ?_
     simp only[qB];refine qY 163 (CellsAt.whole hB) 39 hsz ?_;simp only[qB];refine yV (uI 4 (b.length-r)) ?_;simp only[qC]
     refine qK (yL 163 hone 39 hsz hB (fun wf hBf hmf=>?_) (hoff:=by rfl));have hCf:=hmf.objB (by omega) hC
     have HRf:=O (HR.out.keepN hall (Nat.le_refl _) hmf (by omega));clear hmf hB hC;try simp only[qC]
     refine qK (qT 255 #[.int .i64 4,.int .i64 (b.length-r)] (by simp[Value.oneCell']) 2 rfl hCf (fun wg hCg hmg=>?_) (hoff:=by rfl))
     have hBg:=hmg.objB (by omega) hBf;have HRg:=O (HRf.out.keepN hall (Nat.le_refl _) hmg (by omega));clear hmg hBf hCf;simp only[qB]
     have hsz2:(prog.info? 163).map (·.size)=some (qP 4 t descZ (.slice none 0 0) (.slice none 0 0)).size:=by rw[hsz];kernel_rfl
     clear HR HA;go_wp2
     refine bodyPost_ret (kM (P:=prog) (ty:=163) (tz:=255) rfl _ _ b2 b3 _ _ _ _ _ _ _ _ (by rfl) hBg (by rfl) hCg underlying163 rfl hsz2 underlying255 rfl (by kernel_rfl)) rfl ?_
     rw[HE.out];exact⟨HRg.out,_,4,_,rfl,by simp,by simp,hdl,_,_,rfl,Gat.nil _ _ _ _ _,Gat.nil _ _ _ _ _⟩
    ·have hmz:¬(n:Int)>8:=by omega
     have hr0:=HMR.out;rw[if_neg hmost]at hr0;have HE0:=O hr0;clear hr0 HMR;have hmn:=HM.out _ _ n (by omega) HR.out;have HC9:=O hC
     obtain⟨l,hl⟩:∃l,xA b n s5=l:=⟨_,rfl⟩;rw[hl]at hmn;have hr0:=HE0.out;rw[hl]at hr0;have HE:=O hr0;clear hl hr0 HE0;go_upto_region 16 with(fail)
     refine qL [3,3,1,1,1,3,1] ?_;simp only[qB];refine qY 307 (CellsAt.whole HA.out) 2 rfl ?_;try simp only[qC]
     refine cF rfl (gN 242 [.tmp 59] (by rfl) [.agg #[iO rb,.int .i64 b.length]] (by rfl)) trivial ?_;try simp only[qC]
     refine qK (xE func244 (hmn) ?_);rintro e wa ⟨hr,v,rfl,hg⟩;have hws:=HR.out.2.size;replace HA:=O (RdS.obj hr ⟨by omega,by omega⟩ HA.out)
     replace hB:=RdS.obj hr ⟨by omega,by omega⟩ hB;replace hC:=RdS.obj hr ⟨by omega,by omega⟩ hC
     have hw9s:b3<w9.heap.size:=(Array.getElem?_eq_some_iff.1 (show w9.heap[b3]?=some _ from HC9.out)).1;replace HR:=O (HR.out.trans hr)
     have hvn:∀q,v.ownBlock=some q->b3<q:=fun q hq=>Nat.lt_of_lt_of_le hw9s (hg.lt hq).1;have hv1:v.oneCell'=true:=jJ hg
     have hg0:GatD w.heap.size wa v l.1:=hg.base hws;clear hr hg;refine⟨_,rfl,?_⟩;simp only[qB];refine qK (zR 161 38 v hB (fun wb' hBb hmb=>?_) (h1:=hv1))
     rw[tG hdl]at hBb;replace hB:=hBb;replace hC:=hmb.objB (by omega) hC;replace HR:=O (HR.out.keepN hall (Nat.le_refl _) hmb (by omega))
     replace hg0:=hg0.keep hmb (fun q hq e=>by
      have:=hvn q hq;have e':q=b2:=e
      omega)
     clear hmb hBb;simp only[qB];obtain⟨MR,hMR⟩:∃MR,qP 4 t descZ (.slice none 0 0) v=MR:=⟨_,rfl⟩;have hsz:MR.size=39:=by rw[<-hMR];exact zD hdl
     have hone:∀c∈MR,c.oneCell'=true:=by rw[<-hMR];exact xY rfl hv1
     have HMM:=O hMR;rw[hMR]at hB;clear hMR HA;go_upto_region 17 with(fail)
     have hS:Mod (fun q=>q=b2) wb' wb'.drew/\wb'.drew.heap[b2]?=some (.cells MR 163 (0,0)):=⟨(Mod.refl _ _).drew,hB⟩
     refine zZ [0,0,1,2] [3] (fun w'=>Mod (fun q=>q=b2) wb' w'/\w'.heap[b2]?=some (.cells MR 163 (0,0))) hS ?_;simp only[qB]
     refine zJ 163 (fun w' hS=>CellsAt.whole hS.2) 39 hsz ?_;simp only[qC];refine zJ 255 (fun w' hS=>CellsAt.whole (hS.1.objB (by omega) hC)) 2 rfl ?_
     simp only[qC];refine qH rfl (fun K hK=>?_);refine yL 163 hone 39 hsz hS.2 (fun wc hBc hmc=>?_) (hoff:=by rfl)
     have hSc:Mod (fun q=>q=b2) wb' wc:=hS.1.trans hmc (fun _ _ h=>h);refine hK _ _ ⟨hSc,hBc⟩ ?_;clear hK K;try simp only[qC]
     refine zP rfl (fun K hK=>?_)
     refine qT 255 #[.int .i64 0,.int .i64 0] (by simp[Value.oneCell']) 2 rfl (hSc.objB (by omega) hC) (fun wd hCd hmd=>?_) (hoff:=by rfl)
     have hBd:=hmd.objB (by omega) hBc;refine hK _ _ ?_;clear hK K;simp only[qB]
     have HRd:=O ((HR.out.keepN hall (Nat.le_refl _) hSc (by omega)).keepN hall (Nat.le_refl _) hmd (by omega))
     have HGd:=O ((hg0.keep hSc (fun q hq e=>by
      have:=hvn q hq;have e':q=b2:=e
      omega)).keep hmd (fun q hq e=>by
      have:=hvn q hq;have e':q=b3:=e
      omega))
     have hsz2:(prog.info? 163).map (·.size)=some MR.size:=by rw[hsz];kernel_rfl
     clear hS hSc hmc hmd hBc hB hC hg0 HR;go_wp2
     refine bodyPost_ret (kM (P:=prog) (ty:=163) (tz:=255) rfl _ _ b2 b3 _ _ _ _ _ _ _ _ (by rfl) hBd (by rfl) hCd underlying163 rfl hsz2 underlying255 rfl (by kernel_rfl)) rfl ?_
     rw[HE.out];exact⟨HRd.out,_,0,0,rfl,by simp,by simp,hdl,_,_,HMM.out.symm,Gat.nil _ _ _ _ _,HGd.out⟩
end
theorem aA{R:iJ}{p u:Tmp}{g g':Nat}{t t':TypeId}{cs':iL}{fr fr':Nat×Nat}{d d':TypeDesc}(hu:P.underlying ty=some d)(hu':P.underlying tz=some d')(hg:w.heap[g]?=some (.cells cs t fr))(hg':w.heap[g']?=some (.cells cs' t' fr'))(hi:(P.info? ty).map (·.size)=some cs.size)(hR:R (.returned (.tuple #[.agg cs,.agg cs'])) w)(h:fn.results=#[.cell p ty,.cell u tz]:=by rfl)
 (hp:a.tmps.getD p undef=iO g:=by rfl)(hq:a.tmps.getD u undef=iO g':=by rfl)(hd:(match d with| .struct _| .array _ _=>true|_=>false)=true:=by rfl)(hd':(match d' with| .struct _| .array _ _=>true|_=>false)=true:=by rfl)(hi':(P.info? tz).map (·.size)=some cs'.size:=by kernel_rfl)(hz:a.defers=[]:=by rfl):bodyPost P fn R .ret a w:=
 bodyPost_ret (kM (P:=P) (ty:=ty) (tz:=tz) h _ _ g g' t t' cs cs' fr fr' d d' hp hg hq hg' hu hd hi hu' hd' hi') hz hR
section
variable{w:iN}{o:Oper}{a:Act}
theorem exec_eql_flt(x y:Operand)(yt:TypeId)(m n:Int)(ho:o.op=.binOp .eql 255 x y yt)(hx:a.eval x=.agg #[.int .i64 m,.int .i64 n])(hy:a.eval y=.agg #[.int .i64 0,.int .i64 0])(r:Bool)(hr:(decide (m=0)&&decide (n=0))=r):(execOp a.eval o).run prog w=.ok (.value (.bool r)) w:=by
 subst hr;have h1:=run_eqGuard_agg (P:=prog) w .eql 255 x y #[.int .i64 m,.int .i64 n] #[.int .i64 0,.int .i64 0] eqGuardType255;unfold execOp
 simp only[ho,hx,hy,Sem.run_bind,h1,Result.andThen_ok]
 go_simp
 by_cases h1:m=0<;>by_cases h2:n=0<;>simp[h1,h2]
theorem tK(x y:Operand)(yt:TypeId)(m n:Int)(ho:o.op=.binOp .neq 255 x y yt)(hx:a.eval x=.agg #[.int .i64 m,.int .i64 n])(hy:a.eval y=.agg #[.int .i64 0,.int .i64 0])(r:Bool)(hr:(!(decide (m=0)&&decide (n=0)))=r):(execOp a.eval o).run prog w=.ok (.value (.bool r)) w:=by
 subst hr;have h1:=run_eqGuard_agg (P:=prog) w .neq 255 x y #[.int .i64 m,.int .i64 n] #[.int .i64 0,.int .i64 0] eqGuardType255;unfold execOp
 simp only[ho,hx,hy,Sem.run_bind,h1,Result.andThen_ok]
 go_simp
 by_cases h1:m=0<;>by_cases h2:n=0<;>simp[h1,h2]
end
section
variable{w:iN}{rb wb:Nat}{bv:Value}{b:iK}{a:Nat}{e p:Int}
theorem mFailed_any(h:RdI w rb wb bv b a e p)(size:Int):Calls prog 213 #[.agg #[iO rb,.int .i64 size]] w (FailedR w b a e):=by
 have H:=O h
 have HE:=O (show ∀(w':iN),RdI w' rb wb bv b a e p->Calls prog 245 #[iO rb] w' (EndR w' b a e p)from fun w' h'=>rEnd_any h')
 have HL:=O (show ∃r:Int,∀(w':iN),RdI w' rb wb bv b a e p->Calls prog 243 #[iO rb] w' (vO (.int .i64 r) w')from⟨_,fun w' h'=>rRest_any h'⟩)
 clear h;go_enter func213,ntmps213;go_upto_region 0 with(fail);refine qL [1,1,3] ?_;simp only[qB];refine qK (zT 307 (fun w1 hB1 hm1 hs1=>?_))
 replace hB1:w1.heap[w.heap.size]?=some (.cells #[iO rb,.int .i64 size] 307 (0,0)):=hB1;try simp only[qC]
 refine qK (zB fZ (fun w2 hB2 hm2 hs2=>?_));simp only[qB];have hA:=hm2.obj id hB1;have HM2:=O (hm1.trans0 hm2);have hb12:w.heap.size<w1.heap.size:=hs1
 generalize hb1:w.heap.size=b1 at*;generalize hb2:w1.heap.size=b2 at*;clear hm1 hm2 hB1;go_upto_region 1 with(fail);refine qL [3,1,1,1,1] ?_;simp only[qB]
 refine qG 304 (sX hA) ?_;try simp only[qC]
 refine qK (xE func245 (HE.out _ (H.out.keep0 HM2.out)) ?_);rintro e w3 ⟨hm3,er,at_,rfl,hz1,hz2⟩;refine⟨_,rfl,?_⟩;try simp only[qC]
 refine qK (zB fZ (fun w4 hB4 hm4 hs4=>?_));try simp only[qC]
 refine qK (qT 255 #[.int .i64 er,.int .i64 at_] (by simp[Value.oneCell']) 2 rfl hB4 (fun w5 hB5 hm5=>?_) (hoff:=by rfl));simp only[qB]
 have h25:b2<w3.heap.size:=by
  have:=hm3.size;have h3:=(Array.getElem?_eq_some_iff.1 hB2).1;omega
 have hm25:Mod qJ w2 w5:=(hm3.trans0 hm4).transB hm5 (by have:=hm3.size;omega);have HM5:=O (HM2.out.trans0 hm25);have hA5:=hm25.obj id hA;have hC5:=hm25.obj id hB2
 have HZ:=O (show(er=0↔e=0/\a=b.length)/\(er=0->at_=0)from⟨hz1,hz2⟩);generalize hb4:w3.heap.size=b4 at*;clear hm3 hm4 hm5 hm25 hA hB2 hB4 hz1 hz2
 obtain⟨r,hr⟩:=HL.out;have HR:=O hr;clear hr HL;go_upto_region 2 with(fail);have hS:Mod (fun k=>k=b2) w5 w5.drew:=(Mod.refl _ _).drew
 have h4l:b4<w5.heap.size:=(Array.getElem?_eq_some_iff.1 hB5).1
 by_cases her:er=0
 ·subst her
  have hC0:=(show w5.drew.heap[b2]?=_ from hC5);refine zZ [0,3,0,3,3,3,0,1,3,3,1,3] [] (fun w'=>Mod (fun k=>k=b2) w5 w') hS ?_;simp only[qB]
  refine zJ 255 (fun w' hS=>CellsAt.whole (hS.objB (by omega) hB5)) 2 rfl ?_;simp only[qB]
  refine qE 33 (fun w' hS=>hS.cell (fun e=>by have e':b4=b2:=e;omega) (sX hB5)) ?_;simp only[qC]
  refine qN _ _ _ _ _ _ _ _ rfl rfl rfl rfl rfl false (by decide) ?_;simp only[qB];refine xN rfl hS ?_;simp only[qB];refine qH rfl (fun K hK=>?_)
  refine qT 255 #[.int .i64 0,.int .i64 at_] (by simp[Value.oneCell']) 2 rfl hC0 (fun w6 hB6 hm6=>?_) (hoff:=by rfl)
  have hS8:Mod (fun k=>k=b2) w5 w6:=hS.trans hm6 (fun _ _ h=>h);refine hK _ _ hS8 ?_;clear hK K;simp only[qB];have HM6:=O (HM5.out.transB hS8 (by omega))
  clear hS hS8 hm6 hB5 hA5 hC5 hC0;go_wp2;refine bodyPost_ret (yZ (P:=prog) (ty:=255) rfl _ _ b2 _ _ _ _ (by rfl) hB6 underlying255 rfl (by kernel_rfl)) rfl ?_
  exact⟨HM6.out,0,at_,false,rfl,by simpa using HZ.out.1,by simpa using HZ.out.2,by simp⟩
 ·have hez:¬er=0:=her
  have hC0:=(show w5.drew.heap[b2]?=_ from hC5);refine zZ [0,3,0,3,3,3,0,1,3,3,1,3] [] (fun w'=>Mod (fun k=>k=b2) w5 w') hS ?_;simp only[qB]
  refine zJ 255 (fun w' hS=>CellsAt.whole (hS.objB (by omega) hB5)) 2 rfl ?_;simp only[qB]
  refine qE 33 (fun w' hS=>hS.cell (fun e=>by have e':b4=b2:=e;omega) (sX hB5)) ?_;simp only[qC];refine xD hez ?_;simp only[qB]
  refine qE 304 (fun w' hS=>hS.cell (fun e=>by have e':b1=b2:=e;omega) (sX hA5)) ?_;simp only[qC];refine qH rfl (fun K hK=>?_)
  refine xE func243 (HR.out _ (H.out.keep0 (HM5.out.transB hS (by omega)))) ?_;rintro e w7 ⟨rfl,hm7⟩;have hS7:Mod (fun k=>k=b2) w5 w7:=hS.trans hm7 (fun _ _ h=>h.elim)
  have hC7:=hm7.obj id hC0;refine⟨_,rfl,hK _ _ hS7 ?_⟩;clear hK K;try simp only[qC]
  refine qN _ _ _ _ _ _ _ _ rfl rfl rfl rfl rfl (decide (r=0)) rfl ?_;simp only[qB];refine qH rfl (fun K hK=>?_)
  refine qT 255 #[.int .i64 er,.int .i64 at_] (by simp[Value.oneCell']) 2 rfl hC7 (fun w6 hB6 hm6=>?_) (hoff:=by rfl)
  have hS8:Mod (fun k=>k=b2) w5 w6:=hS7.trans hm6 (fun _ _ h=>h);refine hK _ _ hS8 ?_;clear hK K;simp only[qB];have HM6:=O (HM5.out.transB hS8 (by omega))
  clear hS hS7 hS8 hm6 hm7 hB5 hA5 hC5 hC0 hC7;go_wp2
  refine bodyPost_ret (yZ (P:=prog) (ty:=255) rfl _ _ b2 _ _ _ _ (by rfl) hB6 underlying255 rfl (by kernel_rfl)) rfl ?_
  exact⟨HM6.out,er,at_,decide (r=0),rfl,HZ.out.1,HZ.out.2,fun _=>her⟩
end
section
variable{w:iN}{b:iK}
def DecR(w:iN)(b:iK):iJ:=fun x w'=>Mod qJ w w'/\∃(cs:iL)(er at_:Int),x=.returned (.tuple #[.agg cs,.agg #[.int .i64 er,.int .i64 at_]])/\(er=0↔(kA b).isSome=true)/\ManC w.heap.size w' cs ((kA b).getD fX)
theorem built_mreader(rb:Nat)(n:Int):prog.built 307 [(0,iO rb),(1,.int .i64 n)]=some #[iO rb,.int .i64 n]:=by
 have z:(prog.info? 307).bind (·.zero)=some (.agg #[.pointer none,.int .i64 0]):=by kernel_rfl
 have p:yM prog 307=some [(0,1),(1,1)]:=by kernel_rfl
 rw[zX z p,zN (off:=0) (size:=1) rfl (by rfl) (by simp),zN (off:=1) (size:=1) rfl (by rfl) (by simp[zE,Value.cells]),yN]
 rfl
theorem mreader_i:(prog.info? 307).bind (·.zero)=some (.agg #[.pointer none,.int .i64 0]):=by kernel_rfl
theorem tY:prog.built 163 []=some (qP 0 [] descZ (.slice none 0 0) (.slice none 0 0)):=by kernel_rfl
theorem cG:prog.built 255 []=some #[.int .i64 0,.int .i64 0]:=by kernel_rfl
theorem mDecode_any{own:Bool}(h:Sl own w G 1 yA v b)(hl:b.length<=4096):Calls prog 158 #[v] w (DecR w b):=by
 obtain⟨ad,cap,rfl,-,-⟩:=Sl.at h;have H:=O h;have hlz:¬((b.length:Nat):Int)>4096:=by omega
 have HDL:Hid (kA b=if(cS b).2.2=true/\(cS b).2.1=some b.length then some (cS b).1 else none):=O (by unfold kA;simp only[hl,true_and])
 obtain⟨⟨m,s,ok⟩,hmr⟩:∃r,cS b=r:=⟨_,rfl⟩;rw[hmr]at HDL;have HMR:=O hmr;clear h hmr;go_enter func158,ntmps158;go_upto_region 0 with(fail)
 refine qL [1,1] ?_;simp only[qB];refine qK (zB aO (fun w1 hB1 hm1 hs1=>?_));try simp only[qC]
 refine qK (zB fZ (fun w2 hB2 hm2 hs2=>?_));simp only[qB];have hB1':=hm2.obj id hB1;have HM2:=O (hm1.trans0 hm2);have hb23:w.heap.size<w1.heap.size:=hs1
 have hbs2:w1.heap.size<w2.heap.size:=hs2;have hwb2:w.heap.size<=w.heap.size:=Nat.le_refl _;generalize hb2:w.heap.size=b2 at*;generalize hb3:w1.heap.size=b3 at*
 have hB2x:=hB2;clear hm1 hm2 hB1 hB2;go_upto_region 3 with(fail);refine qL [3,1,3,3,0,1,1] ?_;simp only[qB]
 refine qK (xE func211 (rNew_any (H.out.keep0 HM2.out) hl) ?_);rintro e w3 ⟨rb,wb,bv,rfl,hrd,hm3,hrn⟩;refine⟨_,rfl,?_⟩;simp only[qB];refine xF ?_;simp only[qC]
 refine yV (built_mreader rb b.length) ?_;simp only[qC];refine qK (zB mreader_i (fun w4 hB4 hm4 hs4=>?_));try simp only[qC]
 refine qK (qT 307 #[iO rb,.int .i64 b.length] (by simp[Value.oneCell']) 2 rfl hB4 (fun w5 hB5 hm5=>?_) (hoff:=by rfl));simp only[qB]
 have hs3:=hm3.size;have hm25:Mod qJ w2 w5:=(hm3.trans0 hm4).transB hm5 hs3;have hB2:=hm25.obj id hB1';have hC2:=hm25.obj id hB2x;have HM5:=O (HM2.out.trans0 hm25)
 have hall:=hrd.all;have hrd5:=(hrd.keep0 hm4).keepN hall hm5 (Nat.le_refl _);have hst5:=hrd5.stay;have hman:=mManifest_any hrd5
 have h34:w3.heap.size<w5.heap.size:=(Array.getElem?_eq_some_iff.1 hB5).1
 replace hrn:∀k,k=rb\/k=wb\/bv.ownBlock=some k->b3<k/\k<w3.heap.size:=fun k hk=>by
  have:=hrn k hk;have:=hall k hk;omega
 have h3l:b3<w3.heap.size:=by omega
 generalize hb4:w3.heap.size=b4 at*;rw[HMR.out]at hman;clear hm3 hm4 hm5 hm25 hB1' hB4 hB2x hrd hst5;go_upto_region 4 with(fail);refine qL [1,1,3,3,3,1,1,1,1] ?_
 simp only[qB];refine qY 307 (CellsAt.whole hB5) 2 rfl ?_;try simp only[qC]
 refine qK (xE func212 (hman) ?_);rintro e w6 ⟨hr6,cs,er,at_,rfl,he1,he2,hmc⟩
 have hB26:=hr6.obj ⟨fun e=>by have:=hrn rb (.inl rfl);omega,fun e=>by have:=hrn wb (.inr (.inl rfl));omega⟩ hB2
 have hC26:=hr6.obj ⟨fun e=>by have:=hrn rb (.inl rfl);omega,fun e=>by have:=hrn wb (.inr (.inl rfl));omega⟩ hC2
 have hB56:=hr6.obj ⟨fun e=>by have:=hrn rb (.inl rfl);omega,fun e=>by have:=hrn wb (.inr (.inl rfl));omega⟩ hB5
 have hm06:Mod qJ w w6:=HM5.out.trans hr6.2 (fun k hk e=>by
  have e':k=rb\/k=wb:=e
  rcases e' with rfl|rfl
  ·have:=hrn k (.inl rfl);omega
  ·have:=hrn k (.inr (.inl rfl));omega)
 have hcs:=hmc.size;have hone:=hmc.one;have h56:=hr6.2.size;obtain⟨⟨a6,e6,p6,hrd6,hst6⟩,-⟩:=hr6
 have hmc0:ManC b2 w6 cs m:=by
  obtain⟨q0,lv,sv,q1,q2,q3⟩:=hmc;exact⟨q0,lv,sv,q1,q2.base (by omega),q3.base (by omega)⟩
 have hmcs:∀(S:iM)(w':iN),Mod S w6 w'->(∀k,S k->w6.heap.size<=k\/k<=b4)->ManC b2 w' cs m:=fun S w' hmm hS=>by
  obtain⟨q0,lv,sv,q1,q2,q3⟩:=hmc;refine⟨q0,lv,sv,q1,(q2.keep hmm (fun k hk e=>?_)).base (by omega),(q3.keep hmm (fun k hk e=>?_)).base (by omega)⟩
  ·have:=q2.lt hk;have:=hS k e;omega
  ·have:=q3.lt hk;have:=hS k e;omega
 have HMC:=O hmcs;clear hmc hmc0 hmcs;refine⟨_,rfl,?_⟩;simp only[qB];refine qZ (fun _=>by go_simp;try with_reducible rfl) ?_;simp only[qC]
 refine qZ (fun _=>by go_simp;try with_reducible rfl) ?_;simp only[qC];refine qK (zB aO (fun w7 hB7 hm7 hs7=>?_));try simp only[qC]
 refine qK (zB fZ (fun w8 hB8 hm8 hs8=>?_));try simp only[qC]
 refine kS rfl ?_;refine yL 163 hone 39 hcs (hm8.obj id hB7) (fun w9 hB9 hm9=>?_) (hoff:=by rw[hcs];exact(zD xP).symm)
 have hB8':=hm9.objB (by omega) hB8;try simp only[qC]
 refine qK (qT 255 #[.int .i64 er,.int .i64 at_] (by simp[Value.oneCell']) 2 rfl hB8' (fun wa hBa hma=>?_) (hoff:=by rfl));have hB9':=hma.objB (by omega) hB9
 simp only[qB];have hm6a:Mod qJ w6 wa:=((hm7.trans0 hm8).transB hm9 (Nat.le_refl _)).transB hma (by omega);have HMa:=O (hm06.trans0 hm6a);have hB2a:=hm6a.obj id hB26
 have hC2a:=hm6a.obj id hC26;have hB5a:=hm6a.obj id hB56;have hrda:=hrd6.keep0 hm6a;have h6a:=hm6a.size;have hfl:=mFailed_any hrda b.length
 have h67:w6.heap.size<w7.heap.size:=hs7;have hb4l:b4<w6.heap.size:=by omega
 have h7a:w7.heap.size<wa.heap.size:=(Array.getElem?_eq_some_iff.1 hBa).1
 replace HMC:Hid (∀(S:iM)(w':iN),Mod S wa w'->(∀k,S k->w6.heap.size<=k\/k<=b4)->ManC b2 w' cs m):=O (fun S w' hmm hS=>HMC.out S w' ((hm6a.mono (fun _ _ h=>h.elim)).trans hmm (fun _ _ h=>h)) hS)
 have HST:=O hst6;generalize hb5:w6.heap.size=b5 at*;generalize hb6:w7.heap.size=b6 at*
 clear hm06 hm6a hm7 hm8 hm9 hma hB26 hC26 hB56 hB7 hB8 hB8' hB9 hrd6 hrd5 hman hst6 HM5 HM2;go_upto_region 5 with(fail);refine qL [1,1,3,3,3,1,1,3] ?_;simp only[qB]
 refine qY 307 (CellsAt.whole hB5a) 2 rfl ?_;try simp only[qC]
 refine qK (xE func213 (hfl) ?_);rintro e wc ⟨hmc,er2,at2,is,rfl,hg1,hg2,hg3⟩;refine⟨_,rfl,?_⟩;simp only[qB]
 refine qZ (fun _=>by go_simp;try with_reducible rfl) ?_;simp only[qC];refine qZ (fun _=>by go_simp;try with_reducible rfl) ?_;simp only[qC]
 refine qK (zB fZ (fun wd hBd hmd hsd=>?_));try simp only[qC]
 refine qK (qT 255 #[.int .i64 er2,.int .i64 at2] (by simp[Value.oneCell']) 2 rfl hBd (fun we hBe hme=>?_) (hoff:=by rfl));simp only[qB];have hac:=hmc.size
 have hmae:Mod qJ wa we:=(hmc.trans0 hmd).transB hme hac;have HMe:=O (HMa.out.trans0 hmae);have hB2e:=hmae.obj id hB2a;have hC2e:=hmae.obj id hC2a
 have hB9e:=hmae.obj id hB9';have hBae:=hmae.obj id hBa
 replace HMC:Hid (∀(S:iM)(w':iN),Mod S we w'->(∀k,S k->b5<=k\/k<=b4)->ManC b2 w' cs m):=O (fun S w' hmm hS=>HMC.out S w' ((hmae.mono (fun _ _ h=>h.elim)).trans hmm (fun _ _ h=>h)) hS)
 have hgst:er2=0↔s=some b.length:=by
  have hst:yW a6 e6=s:=HST.out;rw[hg1,<-hst];unfold yW
  by_cases h6:e6=0
  ·simp[h6]
  ·simp[h6]
 have h67c:b6<wc.heap.size:=by omega
 generalize hb7:wc.heap.size=b7 at*;clear hmc hmd hme hmae hBd hB2a hC2a hB9' hBa hB5a hfl hrda hg1 HMa HST
 cases is with
 |true=>
  have hne:=hg3 rfl;have hno:¬(ok=true/\s=some b.length):=fun hq=>hne (hgst.2 hq.2);go_upto_region 7 with(fail);refine qL [1,1] ?_;simp only[qB]
  refine qY 255 (CellsAt.whole hBe) 2 rfl ?_;try simp only[qC]
  refine qK (qT 255 #[.int .i64 er2,.int .i64 at2] (by simp[Value.oneCell']) 2 rfl hBae (fun wf hBz hmz=>?_) (hoff:=by rfl))
  have HMf:=O (HMe.out.transB hmz (by omega));have hB2f:=hmz.objB (by omega) hB2e;have hC2f:=hmz.objB (by omega) hC2e;have hB9f:=hmz.objB (by omega) hB9e
  have HMCf:Hid (∀(S:iM)(w':iN),Mod S wf w'->(∀k,S k->b5<=k\/k<=b4)->ManC b2 w' cs m):=O (fun S w' hmm hS=>HMC.out (fun k=>k=b6\/S k) w' ((hmz.mono (fun _ _ h=>.inl h)).trans hmm (fun _ _ h=>.inr h)) (fun k hk=>hk.elim (fun e=>.inl (by omega)) (hS k)))
  clear hmz hBae hB2e hC2e hB9e HMe HMC;simp only[qB];go_upto_region 10 with(fail);refine qL [1,0,0] ?_;simp only[qB];refine qY 255 (CellsAt.whole hBz) 2 rfl ?_
  try simp only[qC]
  refine yV cG ?_;simp only[qC];refine qV rfl (fun w' hS=>tK _ _ _ er2 at2 (by rfl) (by rfl) (by rfl) true (by simp[hne])) ?_;simp only[qB]
  go_upto_region 11 with(fail);have hzs:(qP 0 [] descZ (.slice none 0 0) (.slice none 0 0)).size=39:=zD xP
  have hzo:∀c∈qP 0 [] descZ (.slice none 0 0) (.slice none 0 0),c.oneCell'=true:=xY rfl rfl;have hS:Mod (fun k=>k=b2) wf wf.drew:=(Mod.refl _ _).drew
  have hB2d:wf.drew.heap[b2]?=some (.cells (qP 0 [] descZ (.slice none 0 0) (.slice none 0 0)) 163 (0,0)):=hB2f
  refine zZ [0,0,1,2] [3] (fun w'=>Mod (fun k=>k=b2) wf w') hS ?_;simp only[qB];refine yV tY ?_;simp only[qC]
  refine zJ 255 (fun w' hS=>CellsAt.whole (hS.objB (by omega) hBz)) 2 rfl ?_;simp only[qC];refine qH rfl (fun K hK=>?_)
  refine yL 163 hzo 39 hzs hB2d (fun wg hBg hmg=>?_) (hoff:=by rfl);have hSg:Mod (fun k=>k=b2) wf wg:=hS.trans hmg (fun _ _ h=>h);refine hK _ _ hSg ?_;clear hK K
  try simp only[qC]
  refine zP rfl (fun K hK=>?_)
  refine qT 255 #[.int .i64 er2,.int .i64 at2] (by simp[Value.oneCell']) 2 rfl (hSg.objB (by omega) hC2f) (fun wh hCh hmh=>?_) (hoff:=by rfl)
  have hBh:=hmh.objB (by omega) hBg;refine hK _ _ ?_;clear hK K;simp only[qB];have HMh:=O ((HMf.out.transB hSg (by omega)).transB hmh (by omega))
  have hsz2:(prog.info? 163).map (·.size)=some (qP 0 [] descZ (.slice none 0 0) (.slice none 0 0)).size:=by rw[hzs];kernel_rfl
  clear hS hSg hmg hmh hBg hB2d hBz hB2f hC2f hB9f HMf HMCf;go_wp2;refine aA underlying163 underlying255 hBh hCh hsz2 ?_;have hdn:kA b=none:=by rw[HDL.out,if_neg hno]
  rw[show DecR w b=fun x w'=>Mod qJ w w'/\∃(cs:iL)(er at_:Int),x=.returned (.tuple #[.agg cs,.agg #[.int .i64 er,.int .i64 at_]])/\(er=0↔(kA b).isSome=true)/\ManC w.heap.size w' cs ((kA b).getD fX)from rfl,hdn]
  exact⟨HMh.out,_,er2,at2,rfl,by simp[hne],xP,_,_,rfl,Gat.nil _ _ _ _ _,Gat.nil _ _ _ _ _⟩
 |false=>
  by_cases h1:er=0
  ·subst h1
   obtain rfl:=he2 rfl;have hok:ok=true:=he1.1 rfl;go_upto_region 8 with(fail);refine qL [1,0,0] ?_;simp only[qB];refine qY 255 (CellsAt.whole hBae) 2 rfl ?_
   try simp only[qC]
   refine yV cG ?_;simp only[qC];refine qV rfl (fun w' hS=>exec_eql_flt _ _ _ 0 0 (by rfl) (by rfl) (by rfl) true (by simp)) ?_;simp only[qB]
   go_upto_region 9 with(fail);refine qL [1,1] ?_;simp only[qB];refine qY 255 (CellsAt.whole hBe) 2 rfl ?_;try simp only[qC]
   refine qK (qT 255 #[.int .i64 er2,.int .i64 at2] (by simp[Value.oneCell']) 2 rfl hBae (fun wf hBz hmz=>?_) (hoff:=by rfl))
   have HMf:=O (HMe.out.transB hmz (by omega));have hB2f:=hmz.objB (by omega) hB2e;have hC2f:=hmz.objB (by omega) hC2e;have hB9f:=hmz.objB (by omega) hB9e
   have HMCf:Hid (∀(S:iM)(w':iN),Mod S wf w'->(∀k,S k->b5<=k\/k<=b4)->ManC b2 w' cs m):=O (fun S w' hmm hS=>HMC.out (fun k=>k=b6\/S k) w' ((hmz.mono (fun _ _ h=>.inl h)).trans hmm (fun _ _ h=>.inr h)) (fun k hk=>hk.elim (fun e=>.inl (by omega)) (hS k)))
   clear hmz hBae hB2e hC2e hB9e HMe HMC;simp only[qB]
   by_cases h2:er2=0
   ·subst h2
    obtain rfl:=hg2 rfl;have hyes:ok=true/\s=some b.length:=⟨hok,hgst.1 rfl⟩;go_upto_region 10 with(fail);refine qL [1,0,0] ?_;simp only[qB]
    refine qY 255 (CellsAt.whole hBz) 2 rfl ?_;try simp only[qC]
    refine yV cG ?_;simp only[qC];refine qV rfl (fun w' hS=>tK _ _ _ 0 0 (by rfl) (by rfl) (by rfl) false (by simp)) ?_;simp only[qB]
    go_upto_region 12 with(fail);have hzs:(qP 0 [] descZ (.slice none 0 0) (.slice none 0 0)).size=39:=zD xP
    have hS:Mod (fun k=>k=b2) wf wf.drew:=(Mod.refl _ _).drew
    have hB2d:wf.drew.heap[b2]?=some (.cells (qP 0 [] descZ (.slice none 0 0) (.slice none 0 0)) 163 (0,0)):=hB2f
    refine zZ [0,0,1,2] [3] (fun w'=>Mod (fun k=>k=b2) wf w') hS ?_;simp only[qB];refine zJ 163 (fun w' hS=>CellsAt.whole (hS.objB (by omega) hB9f)) 39 hcs ?_
    simp only[qC];refine zJ 255 (fun w' hS=>CellsAt.whole (hS.objB (by omega) hBz)) 2 rfl ?_;simp only[qC];refine qH rfl (fun K hK=>?_)
    refine yL 163 hone 39 hcs hB2d (fun wg hBg hmg=>?_) (hoff:=by rw[hcs,hzs]);have hSg:Mod (fun k=>k=b2) wf wg:=hS.trans hmg (fun _ _ h=>h)
    refine hK _ _ hSg ?_;clear hK K;try simp only[qC]
    refine zP rfl (fun K hK=>?_)
    refine qT 255 #[.int .i64 0,.int .i64 0] (by simp[Value.oneCell']) 2 rfl (hSg.objB (by omega) hC2f) (fun wh hCh hmh=>?_) (hoff:=by rfl)
    have hBh:=hmh.objB (by omega) hBg;refine hK _ _ ?_;clear hK K;simp only[qB];have HMh:=O ((HMf.out.transB hSg (by omega)).transB hmh (by omega))
    have HMCh:=O (HMCf.out (fun k=>k=b2\/k=b3) wh ((hSg.mono (fun _ _ h=>.inl h)).trans hmh (fun _ _ h=>.inr h)) (fun k hk=>.inr (by omega)))
    have hsz2:(prog.info? 163).map (·.size)=some cs.size:=by rw[hcs];kernel_rfl
    clear hS hSg hmg hmh hBg hB2d hBz hB2f hC2f hB9f HMf HMCf;go_wp2;refine aA underlying163 underlying255 hBh hCh hsz2 ?_
    have hdn:kA b=some m:=by rw[HDL.out,if_pos hyes]
    rw[show DecR w b=fun x w'=>Mod qJ w w'/\∃(cs:iL)(er at_:Int),x=.returned (.tuple #[.agg cs,.agg #[.int .i64 er,.int .i64 at_]])/\(er=0↔(kA b).isSome=true)/\ManC w.heap.size w' cs ((kA b).getD fX)from rfl,hdn]
    exact⟨HMh.out,_,0,0,rfl,by simp,by rw[hb2];exact HMCh.out⟩
   ·have hne:=h2
    have hno:¬(ok=true/\s=some b.length):=fun hq=>hne (hgst.2 hq.2);go_upto_region 10 with(fail);refine qL [1,0,0] ?_;simp only[qB]
    refine qY 255 (CellsAt.whole hBz) 2 rfl ?_;try simp only[qC]
    refine yV cG ?_;simp only[qC];refine qV rfl (fun w' hS=>tK _ _ _ er2 at2 (by rfl) (by rfl) (by rfl) true (by simp[hne])) ?_;simp only[qB]
    go_upto_region 11 with(fail);have hzs:(qP 0 [] descZ (.slice none 0 0) (.slice none 0 0)).size=39:=zD xP
    have hzo:∀c∈qP 0 [] descZ (.slice none 0 0) (.slice none 0 0),c.oneCell'=true:=xY rfl rfl
    have hS:Mod (fun k=>k=b2) wf wf.drew:=(Mod.refl _ _).drew
    have hB2d:wf.drew.heap[b2]?=some (.cells (qP 0 [] descZ (.slice none 0 0) (.slice none 0 0)) 163 (0,0)):=hB2f
    refine zZ [0,0,1,2] [3] (fun w'=>Mod (fun k=>k=b2) wf w') hS ?_;simp only[qB];refine yV tY ?_;simp only[qC]
    refine zJ 255 (fun w' hS=>CellsAt.whole (hS.objB (by omega) hBz)) 2 rfl ?_;simp only[qC];refine qH rfl (fun K hK=>?_)
    refine yL 163 hzo 39 hzs hB2d (fun wg hBg hmg=>?_) (hoff:=by rfl);have hSg:Mod (fun k=>k=b2) wf wg:=hS.trans hmg (fun _ _ h=>h);refine hK _ _ hSg ?_
    clear hK K;try simp only[qC]
    refine zP rfl (fun K hK=>?_)
    refine qT 255 #[.int .i64 er2,.int .i64 at2] (by simp[Value.oneCell']) 2 rfl (hSg.objB (by omega) hC2f) (fun wh hCh hmh=>?_) (hoff:=by rfl)
    have hBh:=hmh.objB (by omega) hBg;refine hK _ _ ?_;clear hK K;simp only[qB];have HMh:=O ((HMf.out.transB hSg (by omega)).transB hmh (by omega))
    have hsz2:(prog.info? 163).map (·.size)=some (qP 0 [] descZ (.slice none 0 0) (.slice none 0 0)).size:=by rw[hzs];kernel_rfl
    clear hS hSg hmg hmh hBg hB2d hBz hB2f hC2f hB9f HMf HMCf;go_wp2;refine aA underlying163 underlying255 hBh hCh hsz2 ?_
    have hdn:kA b=none:=by rw[HDL.out,if_neg hno]
    rw[show DecR w b=fun x w'=>Mod qJ w w'/\∃(cs:iL)(er at_:Int),x=.returned (.tuple #[.agg cs,.agg #[.int .i64 er,.int .i64 at_]])/\(er=0↔(kA b).isSome=true)/\ManC w.heap.size w' cs ((kA b).getD fX)from rfl,hdn]
    exact⟨HMh.out,_,er2,at2,rfl,by simp[hne],xP,_,_,rfl,Gat.nil _ _ _ _ _,Gat.nil _ _ _ _ _⟩
  ·have hne:=h1
   have hno:¬(ok=true/\s=some b.length):=fun hq=>hne (he1.2 hq.1);go_upto_region 8 with(fail);refine qL [1,0,0] ?_;simp only[qB]
   refine qY 255 (CellsAt.whole hBae) 2 rfl ?_;try simp only[qC]
   refine yV cG ?_;simp only[qC];refine qV rfl (fun w' hS=>exec_eql_flt _ _ _ er at_ (by rfl) (by rfl) (by rfl) false (by simp[hne])) ?_;simp only[qB]
   have hBz:=hBae;have HMf:=HMe;have hB2f:=hB2e;have hC2f:=hC2e;have hB9f:=hB9e;have HMCf:=HMC;clear hBae hB2e hC2e hB9e;go_upto_region 10 with(fail)
   refine qL [1,0,0] ?_;simp only[qB];refine qY 255 (CellsAt.whole hBz) 2 rfl ?_;try simp only[qC]
   refine yV cG ?_;simp only[qC];refine qV rfl (fun w' hS=>tK _ _ _ er at_ (by rfl) (by rfl) (by rfl) true (by simp[hne])) ?_;simp only[qB]
   go_upto_region 11 with(fail);have hzs:(qP 0 [] descZ (.slice none 0 0) (.slice none 0 0)).size=39:=zD xP
   have hzo:∀c∈qP 0 [] descZ (.slice none 0 0) (.slice none 0 0),c.oneCell'=true:=xY rfl rfl;have hS:Mod (fun k=>k=b2) we we.drew:=(Mod.refl _ _).drew
   have hB2d:we.drew.heap[b2]?=some (.cells (qP 0 [] descZ (.slice none 0 0) (.slice none 0 0)) 163 (0,0)):=hB2f
   refine zZ [0,0,1,2] [3] (fun w'=>Mod (fun k=>k=b2) we w') hS ?_;simp only[qB];refine yV tY ?_;simp only[qC]
   refine zJ 255 (fun w' hS=>CellsAt.whole (hS.objB (by omega) hBz)) 2 rfl ?_;simp only[qC];refine qH rfl (fun K hK=>?_)
   refine yL 163 hzo 39 hzs hB2d (fun wg hBg hmg=>?_) (hoff:=by rfl);have hSg:Mod (fun k=>k=b2) we wg:=hS.trans hmg (fun _ _ h=>h);refine hK _ _ hSg ?_;clear hK K
   try simp only[qC]
   refine zP rfl (fun K hK=>?_)
   refine qT 255 #[.int .i64 er,.int .i64 at_] (by simp[Value.oneCell']) 2 rfl (hSg.objB (by omega) hC2f) (fun wh hCh hmh=>?_) (hoff:=by rfl)
   have hBh:=hmh.objB (by omega) hBg;refine hK _ _ ?_;clear hK K;simp only[qB];have HMh:=O ((HMf.out.transB hSg (by omega)).transB hmh (by omega))
   have hsz2:(prog.info? 163).map (·.size)=some (qP 0 [] descZ (.slice none 0 0) (.slice none 0 0)).size:=by rw[hzs];kernel_rfl
   clear hS hSg hmg hmh hBg hB2d hBz hB2f hC2f hB9f HMf HMCf;go_wp2;refine aA underlying163 underlying255 hBh hCh hsz2 ?_;have hdn:kA b=none:=by rw[HDL.out,if_neg hno]
   rw[show DecR w b=fun x w'=>Mod qJ w w'/\∃(cs:iL)(er at_:Int),x=.returned (.tuple #[.agg cs,.agg #[.int .i64 er,.int .i64 at_]])/\(er=0↔(kA b).isSome=true)/\ManC w.heap.size w' cs ((kA b).getD fX)from rfl,hdn]
   exact⟨HMh.out,_,er,at_,rfl,by simp[hne],xP,_,_,rfl,Gat.nil _ _ _ _ _,Gat.nil _ _ _ _ _⟩
end
theorem decL_len{b:iK}{m:eH}(h:kA b=some m):m.layers.length<=16/\m.subs.length<=16/\(m.kind=3\/m.kind=4):=by
 unfold kA at h
 split at h
 ·rename_i hc
  have hm:=Option.some.inj h;subst hm;obtain⟨-,h2,-⟩:=hc
  revert h2
  unfold cS
  dsimp only
  generalize (zM b (some 0))=f
  split
  ·simp
  ·generalize zM b f.2=k
   split
   ·simp
   ·rename_i hk4
    generalize yK b 4096 k.2=t
    by_cases hk:k.1=3
    ·simp only[hk,if_true]
     split
     ·simp
     ·intro _
      refine⟨by rw[rD];omega,by simp,.inl rfl⟩
    ·simp only[hk,if_false]
     split
     ·simp
     ·intro _
      refine⟨by simp,by rw[rD];omega,.inr (by show k.1=4;omega)⟩
 ·cases h
def DescsR(w:iN)(l:List yY):iJ:=fun x w'=>Mod qJ w w'/\∃v,x=.returned v/\GatD w.heap.size w' v l
theorem man_kind(k:Nat)(t:iK)(d:yY)(lv sv:Value):(qP k t d lv sv)[0]?=some (.int .i64 k):=by simp[qP]
theorem man_37{d:yY}(h:d.id.length=32):(qP k t d lv sv)[37]?=some lv:=by
 have h1:=sK h;rw[<-Array.getElem?_toList];simp only[qP,List.getElem?_cons_succ];rw[List.getElem?_append_right (by omega),h1]
 rfl
theorem man_38{d:yY}(h:d.id.length=32):(qP k t d lv sv)[38]?=some sv:=by
 have h1:=sK h;rw[<-Array.getElem?_toList];simp only[qP,List.getElem?_cons_succ];rw[List.getElem?_append_right (by omega),h1]
 rfl
theorem man_config{d:yY}(h:d.id.length=32):∀j,j<(zG d).size->(qP k t d lv sv)[2+j]?=(zG d)[j]?:=by
 intro j hj;have h1:=sK h;have h2:(zG d).size=35:=zQ h;rw[<-Array.getElem?_toList,<-Array.getElem?_toList,show 2+j=j+1+1 by omega]
 simp only[qP,List.getElem?_cons_succ];rw[List.getElem?_append_left (by omega)]
section
variable{w:iN}{base:Nat}{cs:iL}{m:eH}
theorem mDescs_any(h:ManC base w cs m)(hl:m.layers.length<=16/\m.subs.length<=16):Calls prog 159 #[.agg cs] w (DescsR w (yJ m)):=by
 obtain⟨hid,lv,sv,rfl,hlv,hsv⟩:=h;obtain⟨hl1,hl2⟩:=hl;have HL:=O hlv;have HS:=O hsv
 have hlk:∀q,lv.ownBlock=some q->q<w.heap.size:=fun q hq=>(hlv.lt hq).2;have hsk:∀q,sv.ownBlock=some q->q<w.heap.size:=fun q hq=>(hsv.lt hq).2
 have hl1c:lv.oneCell'=true:=jJ hlv;have hs1c:sv.oneCell'=true:=jJ hsv;obtain⟨adl,cpl,rfl⟩:=hlv.slice;obtain⟨ads,cps,rfl⟩:=hsv.slice
 have hmk:=man_kind m.kind m.title m.config (.slice adl m.layers.length cpl) (.slice ads m.subs.length cps)
 have hm37:=man_37 (k:=m.kind) (t:=m.title) (lv:=.slice adl m.layers.length cpl) (sv:=.slice ads m.subs.length cps) hid
 have hm38:=man_38 (k:=m.kind) (t:=m.title) (lv:=.slice adl m.layers.length cpl) (sv:=.slice ads m.subs.length cps) hid
 have hmcf:=man_config (k:=m.kind) (t:=m.title) (lv:=.slice adl m.layers.length cpl) (sv:=.slice ads m.subs.length cps) hid
 have hds:(zG m.config).size=35:=zQ hid
 obtain⟨cs,hcs⟩:∃cs,qP m.kind m.title m.config (.slice adl m.layers.length cpl) (.slice ads m.subs.length cps)=cs:=⟨_,rfl⟩;rw[hcs]at hmk hm37 hm38 hmcf |-
 have HDE:=O (aW hid);clear hcs hlv hsv;go_enter func159,ntmps159;go_upto_region 0 with(fail);refine qL [1,3] ?_;simp only[qB]
 refine qK (zT 163 (fun w1 hB1 hm1 hs1=>?_));replace hB1:w1.heap[w.heap.size]?=some (.cells cs 163 (0,0)):=hB1;simp only[qB]
 have hck:w1.cell? ⟨w.heap.size,0,none⟩=some (.int .i64 m.kind):=by rw[cell_of_row _ _ _ _ _ _ hB1];exact hmk
 have hc37:w1.cell? ⟨w.heap.size,37,none⟩=some (.slice adl m.layers.length cpl):=by rw[cell_of_row _ _ _ _ _ _ hB1];exact hm37
 have hc38:w1.cell? ⟨w.heap.size,38,none⟩=some (.slice ads m.subs.length cps):=by rw[cell_of_row _ _ _ _ _ _ hB1];exact hm38
 have hcc:CellsAt w1 w.heap.size 2 (zG m.config):=CellsAt.of_obj hB1 hmcf;have HM1:=O hm1;replace HL:=O (HL.out.keep0 hm1)
 replace HS:=O (HS.out.keep0 hm1);have hs1':w.heap.size<w1.heap.size:=hs1;generalize hb1:w.heap.size=b1 at*;clear hm1 hB1 hmk hm37 hm38 hmcf
 by_cases hk3:m.kind=3
 ·have hkz:(m.kind:Int)=3:=by omega
  have hdl:yJ m=[m.config]++m.layers++m.subs:=by unfold yJ;rw[if_pos hk3]
  have HDL:=O hdl;clear hdl;go_upto_region 1 with(fail);refine qL [3,1,3] ?_;simp only[qB];refine qG 3 hck ?_;try simp only[qC]
  refine qZ (fun _=>by go_simp;try with_reducible rfl) ?_;simp only[qB];go_upto_region 2 with(fail);refine qL [3,3,1,1,1,3] ?_;simp only[qB]
  refine qY 46 hcc 35 hds ?_;try simp only[qC]
  refine qK (kK 161 (.agg (zG m.config)) (.agg (zG descZ)) 35 hds (fun w3 hB3 hm3 hs3=>?_))
  have hsrc:=uK (enc:=eG) (e:=46) (x:=m.config) sL (by rw[HDE.out];exact hB3);have h3s:=hm3.size;try simp only[qC]
  refine qK (cJ (base:=w3.heap.size) (l:=[]) 161 sJ kT (Gat.nil _ _ _ _ _) _ [m.config] hsrc (by unfold maxLen;simp) (by simp) (Nat.le_refl _) (fun v4 w4 hg4 hm4=>?_) (hzs:=pO))
  have hm4':Mod qJ w3 w4:=hm4.mono (fun k hk e=>by cases e);rw[List.nil_append]at hg4;simp only[qB];have hm14:=hm3.trans0 hm4';have h34:=hm4'.size
  have HM4:=O (HM1.out.trans0 hm14);replace HL:=O (HL.out.keep0 hm14);replace HS:=O (HS.out.keep0 hm14);replace hc37:=hm14.cell id hc37
  replace hc38:=hm14.cell id hc38;have HG2:=O hg4
  have hv2:∀q,v4.ownBlock=some q->b1<q/\q<w4.heap.size:=fun q hq=>by
   have:=hg4.lt hq;omega
  have hv1c:v4.oneCell'=true:=jJ hg4;have h14s:=hm14.size;clear hm3 hm4 hm4' hm14 hB3 hsrc hg4 hck hcc;go_upto_region 3 with(fail)
  have hS:Mod (fun q=>b1<q) w4 w4.drew:=(Mod.refl _ _).drew;have hg4d:=HG2.out.keep0 (Mod.refl qJ w4).drew
  refine cH [(0,3),(1,3),(2,0),(4,3),(5,0),(3,1),(6,1),(7,3)] [] (fun w'=>Mod (fun q=>b1<q) w4 w') hS ?_;simp only[qB]
  refine qE 161 (fun w' hS=>hS.cell (fun e=>Nat.lt_irrefl _ e) hc37) ?_;simp only[qB];refine qE 161 (fun w' hS=>hS.cell (fun e=>Nat.lt_irrefl _ e) hc38) ?_
  simp only[qC];refine qH rfl (fun K hK=>?_)
  refine cJ 161 sJ kT hg4d _ m.layers (HL.out.keep hS (fun q hq e=>by have:=hlk q hq;have e':b1<q:=e;omega)).src (by unfold maxLen;simp;omega) (by simp;omega) (by have:=hS.size;omega) (fun v5 w5 hg5 hm5=>?_) (hzs:=pO)
  have hS5:Mod (fun q=>v4.ownBlock=some q) w4 w5:=(show Mod (fun q=>v4.ownBlock=some q) w4 w4.drew from(Mod.refl _ _).drew).trans hm5 (fun _ _ h=>h)
  have hS5b:Mod (fun q=>b1<q) w4 w5:=hS5.mono (fun k _ e=>(hv2 k e).1);refine hK _ _ hS5b ?_;clear hK K;try simp only[qC]
  refine qH rfl (fun K hK=>?_)
  refine cJ 161 sJ kT hg5 _ m.subs (HS.out.keep hS5 (fun q hq e=>by have:=hsk q hq;have:=hv2 q e;omega)).src (by unfold maxLen;simp;omega) (by simp;omega) (by have:=hS5.size;omega) (fun v6 w6 hg6 hm6=>?_) (hzs:=pO)
  have hm46:Mod qJ w w6:=(HM4.out.trans hS5 (fun k hk e=>by have:=hv2 k e;omega)).trans hm6 (fun k hk e=>by have:=hg5.lt e;omega)
  have hS6b:Mod (fun q=>b1<q) w4 w6:=hS5b.trans hm6 (fun k _ e=>by have:=hg5.lt e;omega)
  have HR:Hid (DescsR w (yJ m) (.returned v6) w6):=O ⟨hm46,v6,rfl,by rw[HDL.out];exact hg6.base (by omega)⟩;refine hK _ _ hS6b ?_
  clear hm46 hg5 hg6 hm5 hm6 hS5 hS5b hS6b;clear hK K;simp only[qB];clear hS hg4d hc37 hc38;go_wp2;go_ret;exact HR.out
 ·have hkz:¬(m.kind:Int)=3:=by omega
  have hdl:yJ m=m.layers++m.subs:=by unfold yJ;rw[if_neg hk3];rfl
  have HDL:=O hdl;clear hdl;go_upto_region 1 with(fail);refine qL [3,1,3] ?_;simp only[qB];refine qG 3 hck ?_;try simp only[qC]
  refine qZ (fun _=>by go_simp;try with_reducible rfl) ?_;simp only[qB];clear hck hcc;go_upto_region 3 with(fail)
  have hS:Mod (fun q=>b1<q) w1 w1.drew:=(Mod.refl _ _).drew
  refine cH [(0,3),(1,3),(2,0),(4,3),(5,0),(3,1),(6,1),(7,3)] [] (fun w'=>Mod (fun q=>b1<q) w1 w') hS ?_;simp only[qB]
  refine qE 161 (fun w' hS=>hS.cell (fun e=>Nat.lt_irrefl _ e) hc37) ?_;simp only[qB];refine qE 161 (fun w' hS=>hS.cell (fun e=>Nat.lt_irrefl _ e) hc38) ?_
  simp only[qC];refine qH rfl (fun K hK=>?_)
  refine cJ (base:=w1.heap.size) (l:=[]) 161 sJ kT (Gat.nil _ _ _ _ _) _ m.layers (HL.out.keep hS (fun q hq e=>by have:=hlk q hq;have e':b1<q:=e;omega)).src (by unfold maxLen;simp;omega) (by simp;omega) hS.size (fun v5 w5 hg5 hm5=>?_) (hzs:=pO)
  rw[List.nil_append]at hg5;have hS5:Mod qJ w1 w5:=(show Mod qJ w1 w1.drew from(Mod.refl _ _).drew).trans hm5 (fun k hk e=>by cases e)
  have hS5b:Mod (fun q=>b1<q) w1 w5:=hS5.mono (fun k _ e=>e.elim);refine hK _ _ hS5b ?_;clear hK K;try simp only[qC]
  refine qH rfl (fun K hK=>?_)
  refine cJ 161 sJ kT hg5 _ m.subs (HS.out.keep0 hS5).src (by unfold maxLen;omega) (by omega) hS5.size (fun v6 w6 hg6 hm6=>?_) (hzs:=pO)
  have hm46:Mod qJ w w6:=(HM1.out.trans0 hS5).trans hm6 (fun k hk e=>by have:=hg5.lt e;omega)
  have hS6b:Mod (fun q=>b1<q) w1 w6:=hS5b.trans hm6 (fun k _ e=>by have:=hg5.lt e;omega)
  have HR:Hid (DescsR w (yJ m) (.returned v6) w6):=O ⟨hm46,v6,rfl,by rw[HDL.out];exact hg6.base (by omega)⟩;refine hK _ _ hS6b ?_
  clear hm46 hg5 hg6 hm5 hm6 hS5 hS5b hS6b;clear hK K;simp only[qB];clear hS hc37 hc38;go_wp2;go_ret;exact HR.out
end
theorem cmarkZ:(prog.info? 152).bind (·.zero)=some (.agg #[.int .i64 0]):=by kernel_rfl
theorem built_cmark(n:Int):prog.built 152 [(0,.int .i64 n)]=some #[.int .i64 n]:=by
 have p:yM prog 152=some [(0,1)]:=by kernel_rfl
 rw[zX cmarkZ p,zN (off:=0) (size:=1) rfl (by rfl) (by simp),yN]
 rfl
theorem built_cmark0:prog.built 152 []=some #[.int .i64 0]:=by kernel_rfl
def aN(all:jT):List (iK×Value):=all.map fun p=>(p.1,kE ((p.2:Nat):Int))
abbrev MarksAt(w:iN)(mb:Nat)(all:jT):Prop:=MapIs tQ bB w mb (aN all)
theorem marks_get(id:iK)(all:jT):qR id (aN all)=(qR id all).map fun k=>kE ((k:Nat):Int):=getL_map (fun k:Nat=>kE (k:Int)) id all
theorem marks_put(id:iK)(k:Nat)(all:jT):kD id (kE ((k:Nat):Int)) (aN all)=aN (kD id k all):=putL_map (fun k:Nat=>kE (k:Int)) id k all
def RisingR(w:iN)(l:List iK):iJ:=fun e w'=>Mod qJ w w'/\∃v ids,e=.returned v/\kI w.heap.size w' v ids/\ids.Pairwise (fun a b=>a<b)/\ids.Perm l/\∀x∈ids,x.length=32
theorem rising_of{ks:List IdS}(hS:(ks.map (·.1)).Perm l)(hnd:l.Nodup)(hm1:Mod qJ w w1)(hm:Mod qJ w1 w')(hrow:w'.ownsRow w1.heap.size 24 32 v ks.length ((kC ks).flatMap pF)):RisingR w l (.returned v) w':=by
 have hl:(kC ks).length=ks.length:=(bG ks).length_eq
 have hkn:ks.Nodup:=by
  have:(ks.map (·.1)).Nodup:=hS.nodup_iff.2 hnd;exact(List.pairwise_map.1 this).imp fun hne e=>hne (by rw[e])
 refine⟨hm1.trans0 hm,v,(kC ks).map (·.1),rfl,?_,?_,?_,?_⟩
 ·have h1:kI w1.heap.size w' v ((kC ks).map (·.1)):=by
   unfold kI Gat;rw[List.length_map,hl,<-idLS_flat];exact hrow
  exact h1.base hm1.size
 ·exact List.pairwise_map.2 (sortIS_sorted hkn)
 ·exact((bG ks).map _).trans hS
 ·intro x hx
  obtain⟨k,_,rfl⟩:=List.mem_map.1 hx;exact k.2
theorem clRising_any{l:List (iK×Value)}(hM:MapIs tQ bB w mb l)(hlen:l.length<=65536):Calls prog 84 #[.map (some mb)] w (RisingR w (l.map (·.1))):=by
 have hm1:=zI w (.cells #[.map (some mb)] 144);have hB:=heap_alloc_new w (.cells #[.map (some mb)] 144);have hk:=keysC_any w mb;have hnd:=hM.nd
 obtain⟨w1,hw1⟩:∃w1,w.alloc (.cells #[.map (some mb)] 144)=w1:=⟨_,rfl⟩;rw[hw1]at hm1 hB;simp only[hw1]at hk
 have hst:=keysC_stops 2 (by omega) w1 w.heap.size mb l hB (hM.keep0 hm1)
 have hso:=sortedI_of (n:=3) (by omega) 216 #[iO w.heap.size] (enters_of func216 (by kernel_rfl) rfl) _ _ l.length hlen w1 hst (fun ks h=>by have:=h.length_eq;simp at this;omega)
 clear hst hw1 hB;go_enter func84,ntmps84;go_upto_region 1 with(fail);refine qL [3,1,1,3] ?_;simp only[qB];refine qK (xE func161 (hk) ?_);rintro e wa ⟨rfl,hw⟩
 obtain rfl:=hw.symm;refine⟨_,rfl,?_⟩;try simp only[qC]
 refine qK (xE func160 hso ?_);rintro e w3 ⟨v,ks,rfl,hS,hm3,hrow⟩;have HR:=O (rising_of hS hnd hm1 hm3 hrow);clear hS hm3 hrow;refine⟨_,rfl,?_⟩;simp only[qB]
 go_wp2;go_ret;exact HR.out
theorem swRising_any{l:List (iK×Value)}(hM:MapIs tQ bB w mb l)(hlen:l.length<=65536):Calls prog 118 #[.map (some mb)] w (RisingR w (l.map (·.1))):=by
 have hm1:=zI w (.cells #[.map (some mb)] 200);have hB:=heap_alloc_new w (.cells #[.map (some mb)] 200);have hk:=keysW_any w mb;have hnd:=hM.nd
 obtain⟨w1,hw1⟩:∃w1,w.alloc (.cells #[.map (some mb)] 200)=w1:=⟨_,rfl⟩;rw[hw1]at hm1 hB;simp only[hw1]at hk
 have hst:=keysW_stops 2 (by omega) w1 w.heap.size mb l hB (hM.keep0 hm1)
 have hso:=sortedI_of (n:=3) (by omega) 230 #[iO w.heap.size] (enters_of func230 (by kernel_rfl) rfl) _ _ l.length hlen w1 hst (fun ks h=>by have:=h.length_eq;simp at this;omega)
 clear hst hw1 hB;go_enter func118,ntmps118;go_upto_region 1 with(fail);refine qL [3,1,1,3] ?_;simp only[qB];refine qK (xE func193 (hk) ?_);rintro e wa ⟨rfl,hw⟩
 obtain rfl:=hw.symm;refine⟨_,rfl,?_⟩;try simp only[qC]
 refine qK (xE func160 hso ?_);rintro e w3 ⟨v,ks,rfl,hS,hm3,hrow⟩;have HR:=O (rising_of hS hnd hm1 hm3 hrow);clear hS hm3 hrow;refine⟨_,rfl,?_⟩;simp only[qB]
 go_wp2;go_ret;exact HR.out
section
variable{w:iN}{bs ms wd:Nat}{room:Int}{bl:List iF}
theorem clNone_any(h:StInv w bs ms wd room bl):Calls prog 86 #[iO bs] w (pT (.bool false) w):=by
 have hw:=bWidth_any h;have hz:¬(wd:Int)=0:=by have:=h.wok;omega
 clear h;go_enter func86,ntmps86;go_wp2_with (go_at_call 124;refine hw.mono ?_;rintro _ w1 ⟨rfl,hw1⟩;obtain rfl:=hw1.symm);go_ret;have hz2:¬wd=0:=by omega
 exact⟨by simp[hz2],rfl⟩
theorem clNone_no(h:NoStore w v):Calls prog 86 #[v] w (pT (.bool true) w):=by
 have hw:=bWidth_no h;go_enter func86,ntmps86;go_wp2_with (go_at_call 124;refine hw.mono ?_;rintro _ w1 ⟨rfl,hw1⟩;obtain rfl:=hw1.symm);go_ret;exact⟨rfl,rfl⟩
end
end
end Go.Proofs.YtjeonjoifjbohaaGreat
