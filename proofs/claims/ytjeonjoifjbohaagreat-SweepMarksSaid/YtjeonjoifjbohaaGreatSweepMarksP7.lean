/- What the statement SweepMarks needs, part 7. -/
import Derived.Lib.RuneCountTail
import Derived.Laws.Slices
import Derived.Test.YtjeonjoifjbohaaGreatSweepMarksP6
set_option linter.unusedVariables false
set_option linter.unusedSimpArgs false
set_option linter.unnecessarySimpa false
set_option linter.unusedSectionVars false
set_option maxRecDepth 10000
set_option maxHeartbeats 8000000
namespace Go.Proofs.YtjeonjoifjbohaaGreat
variable{a:Act}{asked:Bool}{s:ByteArray}{er:Int}{V:List Int}{b e e' i k n q8 rq wd:Nat}{o:Oper}{P:Program}{T:TypeId}{v va vb:Value}{cs cs' cur:iL}{Sh:iL->Prop}{Ft G R RL S:iM}{w w' w0 w1 w2:iN}
section
open Go.RowKit Go.Proofs.Tryz Go.Lib
theorem head_size(h:n<=s.size):(s.extract 0 n).size=n:=by
 rw[Lib.size_eq,Lib.extract_data,List.length_take,List.length_drop,<-Lib.size_eq];omega
theorem head_get{j:Nat}(h:j<n):(s.extract 0 n).get! j=s.get! j:=by
 rw[<-Lib.getD_get!',<-Lib.getD_get!',Lib.extract_data]
 simp[List.getD,List.getElem?_take,h]
theorem head_back(h:n<=s.size)(hk:1<=k):xZ (s.extract 0 n) (s.extract 0 n).size k=xZ s n k:=by
 unfold xZ;rw[head_size h]
 split
 ·rw[head_get (by omega)]
 ·rfl
theorem backB_byte(s:ByteArray)(n k:Nat):0<=xZ s n k/\xZ s n k<=255:=by
 unfold xZ
 split
 ·have:=(s.get! (n-k)).toNat_lt;omega
 ·omega
theorem get_bang(h:i<s.size):s.get! i=s[i]:=by
 cases s with
 |mk d=>
  show d[i]! =d[i]
  rw[getElem!_pos d i h]
theorem aQ(t:TypeId)(x y:Operand)(s:ByteArray)(i:Nat)(ho:o.op=.index t x y)(hx:a.eval x=.string s)(hy:a.eval y=.int .i64 (i:Int))(ht:P.underlying t=some .string)(h:i<s.size)
 (v:Int)(hv:((s.get! i).toNat:Int)=v):(execOp a.eval o).run P w=.ok (.value (.int .u8 v)) w:=by
 subst hv;unfold execOp;simp only[ho,hx,hy];have h1:=run_index_string (P:=P) w t s .i64 (i:Int) ht;rw[dif_pos (by omega)]at h1;rw[Sem.run_bind,h1,get_bang h]
 rfl
theorem bW(t:TypeId)(x y:Operand)(s:ByteArray)(i:Nat)(ho:o.op=.slice t x none (some y) none)(hx:a.eval x=.string s)(hy:a.eval y=.int .i64 (i:Int))(ht:P.underlying t=some .string)(h:i<=s.size):
 (execOp a.eval o).run P w=.ok (.value (.string (s.extract 0 i))) w:=by
 unfold execOp;simp only[ho,hx,hy,Option.map_none,Option.map_some];have h1:=run_slice_string_h (P:=P) w t s ht .i64 (i:Int) (by omega) (by omega)
 have h2:=run_sliceAt_string (P:=P) w t (.string s) none (some (.int .i64 (i:Int))) none ht
 simp only[Sem.run_bind,h2,h1,Result.andThen_ok,Sem.run_pure,Int.toNat_natCast]
theorem fC(t u:TypeId)(x:Operand)(n:Int)(ho:o.op=.convert t u x)(hx:a.eval x=.int .u8 n)(ht:(P.underlying t).isSome=true)(hu:P.underlying u=some (.int .i32))(h:0<=n/\n<=255):
 (execOp a.eval o).run P w=.ok (.value (.int .i32 n)) w:=by
 unfold execOp;simp only[ho,hx];have hk:P.intKind u=.i32:=by simp[Program.intKind,hu]
 have h1:=run_convert_int (P:=P) w t u .u8 n ht (by rw[hk];exact hu);rw[hk]at h1
 have h2:IntKind.i32.wrap n=n:=by simp[IntKind.wrap,IntKind.bits,IntKind.signed];omega
 rw[h2]at h1;rw[Sem.run_bind,h1]
 rfl
theorem sG(c:Int)(w:iN):Calls prog 261 #[.int .i32 c] w (pT (.bool (jR c)) w):=by
 go_enter func261,ntmps261
 by_cases h1:97<=c<;>by_cases h2:c<=122<;>by_cases h3:48<=c<;>by_cases h4:c<=57
 all_goals
  go_wp2;go_ret;exact⟨kZ (by simp[jR,h1,h2,h3,h4]),rfl⟩
theorem sU(e p:Int)(w:iN):Calls prog 259 #[.int .i64 e,.int .i64 p] w (vO (.agg #[.int .i64 e,.int .i64 p]) w):=by
 go_enter func259,ntmps259;go_upto_region 0 with(fail);refine qL [1] ?_;simp only[qB]
 refine qK (jX 255 (.agg #[.int .i64 0,.int .i64 0]) (by rfl) (by kernel_rfl) (fun w1 hB1 hm1 hs1=>?_))
 replace hB1:w1.heap[w.heap.size]?=some (.cells #[.int .i64 0,.int .i64 0] 255 (0,0)):=hB1;simp only[qB];go_upto_region 1 with(fail);refine qL [3,3,3,1] ?_
 simp only[qB];refine qZ (fun _=>by go_simp;try with_reducible rfl) ?_;simp only[qC]
 refine qK (xU 255 0 #[.int .i64 e,.int .i64 p] (by simp[Value.oneCell']) 2 rfl hB1 (fun w2 hB2 hm2=>?_) (hoff:=by simp));simp only[qB];go_wp2
 refine bodyPost_ret (results_cell_row rfl _ _ w.heap.size _ _ _ _ (by rfl) hB2 underlying255 rfl (by kernel_rfl)) rfl ?_;exact⟨rfl,hm1.transB hm2 (Nat.le_refl _)⟩
theorem refGoes_any(b:ByteArray)(c:Int)(w:iN)(hb:b.size<=1000000):Calls prog 260 #[.string b,.int .i32 c] w (pT (.bool (uH (xZ b b.size 1) (xZ b b.size 2) c)) w):=by
 obtain⟨L,hL⟩:∃L,xZ b b.size 1=L:=⟨_,rfl⟩;obtain⟨A,hA⟩:∃A,xZ b b.size 2=A:=⟨_,rfl⟩;have hLb:=backB_byte b b.size 1;rw[hL]at hLb;rw[hL,hA]
 have hL0:¬(0:Int)<(b.size:Int)->L=47:=fun h=>by rw[<-hL];unfold xZ;rw[if_neg (by omega)]
 have hL1:0<b.size->((b.get! (b.size-1)).toNat:Int)=L:=fun h=>by rw[<-hL];unfold xZ;rw[if_pos (by omega)]
 have hA0:¬(1:Int)<(b.size:Int)->A=47:=fun h=>by rw[<-hA];unfold xZ;rw[if_neg (by omega)]
 have hA1:1<b.size->((b.get! (b.size-2)).toNat:Int)=A:=fun h=>by rw[<-hA];unfold xZ;rw[if_pos (by omega)]
 clear hL hA;go_enter func260,ntmps260
 go_upto_if 11 with(fail)
 go_cut [6] (fun l wx=>l=.int .u8 L/\wx=w)
 case first=>
  by_cases h0:(0:Int)<(b.size:Int)
  ·have h1:b.size-1<b.size:=by omega
   go_upto_region 4 with(fail);refine qL [3,3,3,0,3] ?_;simp only[qB];refine vZ ((b.size-1:Nat):Int) ?_;simp only[qC]
   refine qV rfl (fun w' hS=>aQ 9 _ _ b (b.size-1) rfl rfl rfl underlying9 h1 L (hL1 (by omega))) ?_;simp only[qB];go_wp2
   go_meet
   case rel=>exact⟨rfl,rfl⟩
  ·go_wp2
   go_meet
   case rel=>exact⟨by rw[hL0 h0],rfl⟩
 case rest=>
  obtain⟨rfl,hw⟩:=hcut;obtain rfl:=hw.symm
  go_upto_if 17 with(fail)
  go_cut [7] (fun l wx=>l=.int .u8 A/\wx=w)
  case first=>
   by_cases h0:(1:Int)<(b.size:Int)
   ·have h1:b.size-2<b.size:=by omega
    go_upto_region 6 with(fail);refine qL [3,3,3,0,3] ?_;simp only[qB];refine vZ ((b.size-2:Nat):Int) ?_;simp only[qC]
    refine qV rfl (fun w' hS=>aQ 9 _ _ b (b.size-2) rfl rfl rfl underlying9 h1 A (hA1 (by omega))) ?_;simp only[qB];go_wp2
    go_meet
    case rel=>exact⟨rfl,rfl⟩
   ·go_wp2
    go_meet
    case rel=>exact⟨by rw[hA0 h0],rfl⟩
  case rest=>
   obtain⟨rfl,hw⟩:=hcut;obtain rfl:=hw.symm
   by_cases hc:jR c=true
   ·go_wp2_with (go_at_call 261;refine(sG c _).mono ?_;rintro _ wq ⟨rfl,hw⟩;obtain rfl:=hw.symm;rw[hc])
    go_ret;exact⟨kZ (by simp[uH,hc]),rfl⟩
   have hc':jR c=false:=by simpa using hc
   by_cases h1:L=47
   ·go_wp2_with (go_at_call 261;refine(sG c _).mono ?_;rintro _ wq ⟨rfl,hw⟩;obtain rfl:=hw.symm;rw[hc'])
    go_ret;exact⟨kZ (by simp[uH,hc',h1]),rfl⟩
   by_cases h2:L=46
   ·go_wp2_with (go_at_call 261;refine(sG c _).mono ?_;rintro _ wq ⟨rfl,hw⟩;obtain rfl:=hw.symm;rw[hc'])
    go_ret;exact⟨kZ (by simp[uH,hc',h2]),rfl⟩
   obtain⟨t,ht⟩:∃t,jR L=t:=⟨_,rfl⟩;have HT:=O ht;clear ht
   go_upto_region 9 with(go_at_call 261;refine(sG c _).mono ?_;rintro _ wq ⟨rfl,hw⟩;obtain rfl:=hw.symm;rw[hc']);refine qL [3,3,3,3,3,3,3] ?_
   simp only[qB];refine xT h1 ?_;simp only[qB];refine xT h2 ?_;simp only[qB];go_upto_region 11 with(fail);refine qL [3,0,1,3] ?_;simp only[qB]
   refine qV rfl (fun w' hS=>fC 5 21 _ L rfl rfl (by kernel_rfl) underlying21 hLb) ?_;simp only[qC];refine kS rfl ?_
   go_wp2_with (go_at_call 261;refine(sG L _).mono ?_;rintro _ wq ⟨rfl,hw⟩;obtain rfl:=hw.symm;rw[HT.out]);simp only[qB]
   cases t
   ·have ht:=HT.out
    clear HT;have h95:jR 95=false:=rfl
    by_cases h3:L=95
    ·by_cases h4:c=95
     ·by_cases h5:A=95
      ·go_wp2
       go_ret;exact⟨kZ (by simp[uH,hc',h1,h2,h95,h3,h4,h5]),rfl⟩
      ·go_wp2
       go_ret;exact⟨kZ (by simp[uH,hc',h1,h2,h95,h3,h4,h5]),rfl⟩
     ·go_wp2
      go_ret;exact⟨kZ (by simp[uH,hc',h1,h2,h95,h3,h4]),rfl⟩
    ·by_cases h4:c=45
     ·go_wp2
      go_ret;exact⟨kZ (by simp[uH,hc',h1,h2,ht,h3,h4]),rfl⟩
     ·go_wp2
      go_ret;exact⟨kZ (by simp[uH,hc',h1,h2,ht,h3,h4]),rfl⟩
   ·have ht:=HT.out
    clear HT
    by_cases h3:c=46<;>by_cases h4:c=95<;>by_cases h5:c=45<;>by_cases h6:c=47
    all_goals
     go_wp2;go_ret;exact⟨kZ (by simp[uH,hc',h1,h2,ht,h3,h4,h5,h6]),rfl⟩
def RefRel(s:ByteArray)(r:Bool)(rb it:Nat)(w0:iN)(v:Value)(w:iN):Prop:=
 ∃f pos,∃parts:Int,v=.int .i64 parts/\w.heap[it]?=some (.stringIter s pos)/\r=aI s f pos parts/\s.size<=pos+f/\(0<=parts/\parts<=8)/\Mod qJ w0 w/\w.heap[rb]?=some (.cells #[.int .i64 0,.int .i64 0] 255 (0,0))
theorem refRepo_any(s:ByteArray)(w:iN)(hs:s.size<=maxLen):Calls prog 229 #[.string s] w (FaultR (aJ s) w):=by
 unfold maxLen at hs;obtain⟨t,ht⟩:∃t,aJ s=t:=⟨_,rfl⟩;rw[ht];have HT:=O ht;clear ht;go_enter func229,ntmps229;go_upto_region 0 with(fail);refine qL [1] ?_
 simp only[qB];refine qK (jX 255 (.agg #[.int .i64 0,.int .i64 0]) (by rfl) (by kernel_rfl) (fun w1 hB1 hm1 hs1=>?_))
 replace hB1:w1.heap[w.heap.size]?=some (.cells #[.int .i64 0,.int .i64 0] 255 (0,0)):=hB1;simp only[qB]
 by_cases hlen:s.size<=128
 ·have hz:¬(128:Int)<(s.size:Int):=by omega
  go_upto_region 4 with(fail);refine qL [3,1] ?_;simp only[qB];refine qK (wp_rangeS 9 _ s (by rfl) (by rfl) underlying9 (fun w2 hB2 hm2 hs2=>?_))
  replace hB1:=hm2.obj id hB1;simp only[qB];obtain⟨r,hr⟩:∃r,aI s s.size 0 1=r:=⟨_,rfl⟩
  have hst:RefRel s r w.heap.size w1.heap.size w (.int .i64 1) w2:=
   ⟨s.size,0,1,rfl,hB2,hr.symm,by omega,by omega,hm1.trans0 hm2,hB1⟩
  have hft:t=(r&&(decide (s.size≠0)&&jR (xZ s s.size 1))):=by rw[<-HT.out,<-hr];unfold aJ;rw[decide_eq_true hlen];rfl
  have HFT:=O hft;clear hB1 hB2 hm1 hm2 hs2 hft HT hr hz;go_wp2
  go_loopw [3] (RefRel s r w.heap.size w1.heap.size w) (fun _ wx=>leftOf w1.heap.size wx)
  case atStart=>exact hst
  case round=>
   rename iN=>wr
   clear hst;obtain⟨f,pos,parts,rfl,hit,hr,hf,hpt,hM,hrb⟩:=hrel
   by_cases hp:pos<s.size
   ·obtain⟨f,rfl⟩:∃f',f=f'+1:=⟨f-1,by omega⟩
    go_upto_region 5 with(fail);refine qL [1,3] ?_;simp only[qB];refine qK (wp_nextS _ w1.heap.size s pos (by rfl) (by rfl) hit hp (fun w3 hit3 hm3 hs3=>?_))
    try simp only[qC]
    refine qZ (fun _=>by go_simp;try with_reducible rfl) ?_;simp only[qB];replace hrb:=hm3.obj (b:=w.heap.size) (by omega) hrb
    have hM3:Mod qJ w w3:=hM.transB hm3 (by omega);have hpos:=decode_pos s pos
    have hgo:s.size-(pos+(Utf8.decode s pos).2)<leftOf w1.heap.size wr:=by rw[fR hit];omega
    simp only[aI,if_pos hp]at hr;generalize hcc:(Utf8.decode s pos).1=c at*;generalize hww:(Utf8.decode s pos).2=wd at*;have hg:=refGoes_any (s.extract 0 pos) c
    rw[head_back (by omega) (by omega),head_back (by omega) (by omega),head_size (by omega)]at hg
    obtain⟨g,hgg⟩:∃g,uH (xZ s pos 1) (xZ s pos 2) c=g:=⟨_,rfl⟩;obtain⟨q,hq⟩:∃q:Int,(if(c:Int)=47 then parts+1 else parts)=q:=⟨_,rfl⟩
    rw[hgg]at hg;rw[hgg,hq]at hr;have hqb:0<=q/\q<=9:=by rw[<-hq];split<;>omega
    have HR:=O hr;have HG:=O hgo;have HS:=O hs3;have HGO:=O hg;clear hr hcc hww hgo hs3 hit hgg hg
    go_upto_if 17 with(fail)
    go_cut [3] (fun v wx=>v=.int .i64 q/\wx=w3)
    case first=>
     by_cases h47:(c:Int)=47
     ·rw[if_pos h47]at hq
      go_wp2
      go_meet
      case rel=>exact⟨by rw[<-hq],rfl⟩
     ·rw[if_neg h47]at hq
      go_wp2
      go_meet
      case rel=>exact⟨by rw[<-hq],rfl⟩
    case rest=>
     obtain⟨rfl,hw⟩:=hcut;obtain rfl:=hw.symm;clear hq
     cases g
     ·go_upto_region 9 with(fail)
      refine qL [3,3,0,3,1,3,3,3,3,3] ?_;simp only[qB];refine qV rfl (fun w' hS=>bW 9 _ _ s pos rfl rfl rfl underlying9 (by omega)) ?_
      simp only[qB];refine kS rfl ?_;go_wp2_with (go_at_call 260;refine(HGO.out _ (by omega)).mono ?_;rintro _ wq ⟨rfl,hw⟩;obtain rfl:=hw.symm);try simp only[qB]
      try refine xC _ _ _ rfl rfl rfl ?_
      try simp only[qB]
      go_upto_region 10 with(fail);refine qL [3,1,1] ?_;simp only[qB];refine kS rfl ?_
      go_wp2_with (go_at_call 259;refine(sU 7 pos _).mono ?_;rintro _ w4 ⟨rfl,hm4⟩);replace hrb:=hm4.obj id hrb;try simp only[qC]
      refine qK (xU 255 0 #[.int .i64 7,.int .i64 pos] (by simp[Value.oneCell']) 2 rfl hrb (fun w5 hrb5 hm5=>?_) (hoff:=by simp));simp only[qB];go_wp2
      refine bodyPost_ret (results_cell_row rfl _ _ w.heap.size _ _ _ _ (by rfl) hrb5 underlying255 rfl (by kernel_rfl)) rfl ?_;rw[HFT.out,HR.out]
      exact⟨7,pos,rfl,by simp,(hM3.trans0 hm4).transB hm5 (Nat.le_refl _)⟩
     ·by_cases hq8:8<q
      ·go_upto_region 9 with(fail)
       refine qL [3,3,0,3,1,3,3,3,3,3] ?_;simp only[qB];refine qV rfl (fun w' hS=>bW 9 _ _ s pos rfl rfl rfl underlying9 (by omega)) ?_
       simp only[qB];refine kS rfl ?_;go_wp2_with (go_at_call 260;refine(HGO.out _ (by omega)).mono ?_;rintro _ wq ⟨rfl,hw⟩;obtain rfl:=hw.symm);try simp only[qB]
       try refine xC _ _ _ rfl rfl rfl ?_
       try simp only[qB]
       refine xD hq8 ?_;simp only[qB];go_upto_region 10 with(fail);refine qL [3,1,1] ?_;simp only[qB];refine kS rfl ?_
       go_wp2_with (go_at_call 259;refine(sU 7 pos _).mono ?_;rintro _ w4 ⟨rfl,hm4⟩);replace hrb:=hm4.obj id hrb;try simp only[qC]
       refine qK (xU 255 0 #[.int .i64 7,.int .i64 pos] (by simp[Value.oneCell']) 2 rfl hrb (fun w5 hrb5 hm5=>?_) (hoff:=by simp));simp only[qB];go_wp2
       refine bodyPost_ret (results_cell_row rfl _ _ w.heap.size _ _ _ _ (by rfl) hrb5 underlying255 rfl (by kernel_rfl)) rfl ?_;rw[HFT.out,HR.out]
       have hd:decide (q<=8)=false:=decide_eq_false (by omega);exact⟨7,pos,rfl,by simp[hd],(hM3.trans0 hm4).transB hm5 (Nat.le_refl _)⟩
      ·have hd:decide (q<=8)=true:=decide_eq_true (by omega)
       go_upto_region 9 with(fail);refine qL [3,3,0,3,1,3,3,3,3,3] ?_;simp only[qB]
       refine qV rfl (fun w' hS=>bW 9 _ _ s pos rfl rfl rfl underlying9 (by omega)) ?_;simp only[qB];refine kS rfl ?_
       go_wp2_with (go_at_call 260;refine(HGO.out _ (by omega)).mono ?_;rintro _ wq ⟨rfl,hw⟩;obtain rfl:=hw.symm);try simp only[qB]
       try refine xC _ _ _ rfl rfl rfl ?_
       try simp only[qB]
       refine qN _ _ _ _ _ _ _ _ rfl rfl rfl rfl rfl false (decide_eq_false (by omega)) ?_;simp only[qB]
       have hr2:r=aI s f (pos+wd) q:=by have h:=HR.out;rw[hd]at h;simpa using h
       have HR2:=O hr2;clear hr2 hd;go_wp2
       go_roundw
       case rel=>exact⟨f,pos+wd,q,rfl,hit3,HR2.out,by omega,by omega,hM3,hrb⟩
       case measure=>rw[fR hit3];exact HG.out
   ·have hrt:r=true:=by rw[hr];cases f<;>simp[aI,hp]
    have hft:t=(decide (s.size≠0)&&jR (xZ s s.size 1)):=by rw[HFT.out,hrt];rfl
    have HF:=O hft;clear hr hrt hft HFT hf;go_upto_region 5 with(fail);refine qL [1,3] ?_;simp only[qB]
    refine qK (wp_nextS_end _ w1.heap.size s pos (by rfl) (by rfl) hit hp ?_);try simp only[qC]
    refine qZ (fun _=>by go_simp;try with_reducible rfl) ?_;simp only[qB];go_upto_region 11 with(fail)
    by_cases h0:s.size=0
    ·have hse:s=⟨#[]⟩:=by
      cases s with
      |mk d=>have:d=#[]:=Array.eq_empty_of_size_eq_zero h0;rw[this]
     have hd:decide (s=⟨#[]⟩)=true:=decide_eq_true hse;have hft:t=false:=by rw[HF.out,h0];rfl
     refine qL [3,0,3,3,3,3,3,3,3,1,3,3] ?_;simp only[qB];refine qV rfl (fun w' hS=>jN _ _ _ _ rfl _ _ rfl rfl true hd) ?_;simp only[qB]
     refine xN rfl trivial ?_;simp only[qB];clear hse hd h0;go_upto_region 12 with(fail);refine qL [3,3,1,1] ?_;simp only[qB]
     refine sD _ _ s rfl rfl rfl underlying9 ?_;simp only[qC];refine kS rfl ?_
     go_wp2_with (go_at_call 259;refine(sU 7 s.size _).mono ?_;rintro _ w4 ⟨rfl,hm4⟩);replace hrb:=hm4.obj id hrb;try simp only[qC]
     refine qK (xU 255 0 #[.int .i64 7,.int .i64 s.size] (by simp[Value.oneCell']) 2 rfl hrb (fun w5 hrb5 hm5=>?_) (hoff:=by simp));simp only[qB];go_wp2
     refine bodyPost_ret (results_cell_row rfl _ _ w.heap.size _ _ _ _ (by rfl) hrb5 underlying255 rfl (by kernel_rfl)) rfl ?_;rw[hft]
     exact⟨7,s.size,rfl,by simp,(hM.trans0 hm4).transB hm5 (Nat.le_refl _)⟩
    ·have hse:s≠⟨#[]⟩:=fun e=>h0 (by rw[e];rfl)
     have hd:decide (s=⟨#[]⟩)=false:=decide_eq_false hse;obtain⟨L,hL⟩:∃L,xZ s s.size 1=L:=⟨_,rfl⟩;have hLb:=backB_byte s s.size 1
     have hget:((s.get! (s.size-1)).toNat:Int)=L:=by rw[<-hL];unfold xZ;rw[if_pos (by omega)]
     obtain⟨u,hu⟩:∃u,jR L=u:=⟨_,rfl⟩;have hft:t=u:=by rw[HF.out,hL,hu,decide_eq_true h0];rfl
     rw[hL]at hLb;have HU:=O hu;have HT:=O hft;have h1:s.size-1<s.size:=by omega
     have h63:s.size<=1000000:=by omega
     clear hse hL hu hft HF hs;refine qL [3,0,3,3,3,3,3,0,0,1,3,3] ?_;simp only[qB]
     refine qV rfl (fun w' hS=>jN _ _ _ _ rfl _ _ rfl rfl false hd) ?_;simp only[qB];refine sD _ _ s rfl rfl rfl underlying9 ?_;simp only[qC]
     refine vZ ((s.size-1:Nat):Int) ?_;simp only[qC];refine qV rfl (fun w' hS=>aQ 9 _ _ s (s.size-1) rfl rfl rfl underlying9 h1 L hget) ?_
     simp only[qC];refine qV rfl (fun w' hS=>fC 5 21 _ L rfl rfl (by kernel_rfl) underlying21 hLb) ?_;simp only[qC];refine kS rfl ?_
     go_wp2_with (go_at_call 261;refine(sG L _).mono ?_;rintro _ wq ⟨rfl,hw⟩;obtain rfl:=hw.symm;rw[HU.out]);try simp only[qB]
     try refine xC _ _ _ rfl rfl rfl ?_
     try simp only[qB]
     clear hd hget HU
     cases u
     ·go_upto_region 12 with(fail)
      refine qL [3,3,1,1] ?_;simp only[qB];refine sD _ _ s rfl rfl rfl underlying9 ?_;simp only[qC];refine kS rfl ?_
      go_wp2_with (go_at_call 259;refine(sU 7 s.size _).mono ?_;rintro _ w4 ⟨rfl,hm4⟩);replace hrb:=hm4.obj id hrb;try simp only[qC]
      refine qK (xU 255 0 #[.int .i64 7,.int .i64 s.size] (by simp[Value.oneCell']) 2 rfl hrb (fun w5 hrb5 hm5=>?_) (hoff:=by simp));simp only[qB];go_wp2
      refine bodyPost_ret (results_cell_row rfl _ _ w.heap.size _ _ _ _ (by rfl) hrb5 underlying255 rfl (by kernel_rfl)) rfl ?_;rw[HT.out]
      exact⟨7,s.size,rfl,by simp,(hM.trans0 hm4).transB hm5 (Nat.le_refl _)⟩
     ·go_upto_region 13 with(fail)
      refine qL [3,1] ?_;simp only[qB];refine qZ (fun _=>by go_simp;try with_reducible rfl) ?_;simp only[qC]
      refine qK (xU 255 0 #[.int .i64 0,.int .i64 0] (by simp[Value.oneCell']) 2 rfl hrb (fun w5 hrb5 hm5=>?_) (hoff:=by simp));simp only[qB];go_wp2
      refine bodyPost_ret (results_cell_row rfl _ _ w.heap.size _ _ _ _ (by rfl) hrb5 underlying255 rfl (by kernel_rfl)) rfl ?_;rw[HT.out]
      exact⟨0,0,rfl,by simp,hM.transB hm5 (Nat.le_refl _)⟩
 ·have hz:(128:Int)<(s.size:Int):=by omega
  have hf:t=false:=by rw[<-HT.out];unfold aJ;rw[decide_eq_false hlen];rfl
  have HF:=O hf;clear hf HT;go_upto_region 2 with(fail);refine qL [1,1] ?_;simp only[qB];refine kS rfl ?_
  go_wp2_with (go_at_call 259;refine(sU 4 128 _).mono ?_;rintro _ w4 ⟨rfl,hm4⟩);replace hB1:=hm4.obj id hB1;try simp only[qC]
  refine qK (xU 255 0 #[.int .i64 4,.int .i64 128] (by simp[Value.oneCell']) 2 rfl hB1 (fun w5 hrb5 hm5=>?_) (hoff:=by simp));simp only[qB];go_wp2
  refine bodyPost_ret (results_cell_row rfl _ _ w.heap.size _ _ _ _ (by rfl) hrb5 underlying255 rfl (by kernel_rfl)) rfl ?_;rw[HF.out]
  exact⟨4,128,rfl,by simp,(hm1.trans0 hm4).transB hm5 (Nat.le_refl _)⟩
theorem refNamed_any(s:ByteArray)(w:iN)(hs:s.size<=maxLen):Calls prog 190 #[.string s] w (vO (.bool (uP s)) w):=by
 rw[<-refName_eq];obtain⟨t,ht⟩:∃t,aJ s=t:=⟨_,rfl⟩;rw[ht];have HT:=O ht;clear ht;go_enter func190,ntmps190;go_upto_region 1 with(fail)
 refine qL [3,1,1,1] ?_;simp only[qB];refine kS rfl ?_
 go_wp2_with (go_at_call 229;refine(refRepo_any s _ hs).mono ?_;rintro _ w1 ⟨x,at',rfl,hx,hm⟩;rw[HT.out]at hx);try simp only[qC]
 refine qK (jX 255 (.agg #[.int .i64 0,.int .i64 0]) (by rfl) (by kernel_rfl) (fun w3 hB3 hm3 hs3=>?_))
 replace hB3:w3.heap[w1.heap.size]?=some (.cells #[.int .i64 0,.int .i64 0] 255 (0,0)):=hB3;try simp only[qC]
 refine qK (xU 255 0 #[.int .i64 x,.int .i64 at'] (by simp[Value.oneCell']) 2 rfl hB3 (fun w4 hB4 hm4=>?_) (hoff:=by simp));simp only[qB]
 have hc:w4.cell? ⟨w1.heap.size,0,none⟩=some (.int .i64 x):=by rw[cell_of_row _ _ _ _ _ _ hB4];rfl
 have hM4:Mod qJ w w4:=(hm.trans0 hm3).transB hm4 (by have:=hm.size;omega);go_upto_region 2 with(fail);obtain⟨e,he⟩:∃e,vW .eql x 0=e:=⟨_,rfl⟩
 have HE:=O he;clear he;refine qL [3,1,3,3] ?_;simp only[qB];refine qG 33 hc ?_;try simp only[qC]
 refine qN _ _ _ _ _ _ _ _ rfl rfl rfl rfl rfl e HE.out ?_;simp only[qB];go_wp2;go_ret;refine⟨kZ ?_,hM4⟩;have h:=HE.out
 cases t
 ·simp only[Bool.false_eq_true,if_false]at hx
  rw[<-h];simp[vW,hx]
 ·simp only[if_true]at hx
  rw[<-h];simp[vW,hx.1]
def yR(p:uN×Int):iL:=#[.string p.1.1]++qA p.1.2++#[.int .i64 p.2]
def EntC(cs:iL)(p:uN×Int):Prop:=cs=yR p/\kH p.1
def cD(p:uN×Int):List Value:=(yR p).toList
theorem kR{p:uN×Int}(h:kH p.1):(yR p).size=34:=by unfold yR;have h:p.1.2.length=32:=h;simp[qD,h]
theorem entCells_at(p:uN×Int):(yR p)[0]?=some (.string p.1.1):=by
 unfold yR;rw[Array.getElem?_append_left (by simp;omega),Array.getElem?_append_left (by simp)];rfl
theorem fE{p:uN×Int}(h:kH p.1):(∀j,j<(qA p.1.2).size->(yR p)[1+j]?=(qA p.1.2)[j]?)/\(yR p)[33]?=some (.int .i64 p.2):=by
 have h:p.1.2.length=32:=h
 constructor
 ·intro j hj
  have hj':j<32:=by rw[qD]at hj;omega
  unfold yR;rw[Array.getElem?_append_left (by simp[qD];omega),Array.getElem?_append_right (by simp)]
  simp
 ·unfold yR
  rw[Array.getElem?_append_right (by simp[qD,h])]
  simp[qD,h]
structure RAt(w0 w:iN)(q:Value)(limit:Int)(r:qU)(R:iM):Prop where
 mod:Mod qJ w0 w
 ok:∃b v,q=iO b/\w.heap[b]?=some (.cells #[.int .i64 limit,v] 233 (0,0))/\w.ownsRow w0.heap.size 235 34 v r.length (r.flatMap cD)/\R b/\∀g,v.ownBlock=some g->R g/\g≠b
 keys:∀p∈r,kH p.1
 few:r.length<=65536
 vals:∀p∈r,0<=p.2/\p.2<=4096
 old:∀k,R k->w0.heap.size<=k
 lt:∀k,R k->k<w.heap.size
def RfStep(w0 w:iN)(q:Value)(limit:Int)(R:iM)(w':iN)(r:qU):Prop:=∃R',RAt w0 w' q limit r R'/\Mod R w w'/\∀k,R' k->R k\/gD w w' k
section
variable{w0 w w':iN}{q:Value}{limit:Int}{r r':qU}{R:iM}
theorem sH{base size:Nat}{xs:List Value}(h:w.ownsRow base e size v n xs)(hm:Mod S w w')(hS:∀g,v.ownBlock=some g->¬S g):w'.ownsRow base e size v n xs:=by
 refine⟨h.1,?_⟩
 rcases h.2 with h|⟨g,cap,cur,rfl,hb,hg,h1,h2,h3,h4⟩
 ·exact .inl h
 ·exact .inr ⟨g,cap,cur,rfl,hb,hm.obj (hS g rfl) hg,h1,h2,h3,h4⟩
theorem RAt.keep(h:RAt w0 w q limit r R)(hm:Mod S w w')(hS:∀k,R k->¬S k)(hS0:∀k,k<w0.heap.size->¬S k):RAt w0 w' q limit r R:=by
 obtain⟨hM,⟨b,v,rfl,hb,ho,hR,hg⟩,hk,hf,hv,hold,hlt⟩:=h
 exact⟨hM.trans hm (fun k hk hs=>hS0 k hk hs),⟨b,v,rfl,hm.obj (hS b hR) hb,sH ho hm (fun g h=>hS g (hg g h).1),hR,hg⟩,hk,hf,hv,hold,fun k hk=>Nat.lt_of_lt_of_le (hlt k hk) hm.size⟩
theorem RAt.keep0(h:RAt w0 w q limit r R)(hm:Mod qJ w w'):RAt w0 w' q limit r R:=h.keep hm (fun _ _=>id) (fun _ _=>id)
theorem RAt.step(h:RAt w0 w q limit r R)(hm:Mod qJ w w'):RfStep w0 w q limit R w' r:=⟨R,h.keep0 hm,hm.mono (fun _ _ h=>False.elim h),fun k hk=>.inl hk⟩
theorem flat_ents(r:qU):r.flatMap cD=(r.map yR).flatMap Array.toList:=by rw[List.flatMap_map];rfl
theorem RAt.read(h:RAt w0 w q limit r R):∃b a cap,q=iO b/\w.cell? ⟨b,0,none⟩=some (.int .i64 limit)/\w.cell? ⟨b,1,none⟩=some (.slice a r.length cap)/\r.length<=cap/\
 (∀i,i<r.length->∃g off,a=some ⟨g,off,none⟩/\∀i (h:i<r.length),CellsAt w g (off+i*34) (yR r[i])):=by
 obtain⟨hM,⟨b,v,rfl,hb,ho,hR,hg⟩,hk,hf,hv,hold,hlt⟩:=h
 have hsl:=Sl.of_owns (R:=EntC) (l:=r) ho (flat_ents r) (fun c hc=>by obtain⟨p,hp,rfl⟩:=List.mem_map.1 hc;exact kR (hk p hp)) ⟨by simp,fun i h1 h2=>⟨by simp,hk _ (List.getElem_mem _)⟩⟩ rfl
 obtain⟨a,cap,rfl,hl,hc,hat⟩:=hsl;refine⟨b,a,cap,rfl,by rw[cell_of_row _ _ _ _ _ _ hb];rfl,by rw[cell_of_row _ _ _ _ _ _ hb];rfl,hl,fun i hi=>?_⟩
 obtain⟨g,off,ha,_,_,hc⟩:=hat (by rintro rfl;simp at hi);refine⟨g,off,ha,fun j hj=>?_⟩;obtain⟨cs,_,⟨rfl,_⟩,h⟩:=hc j hj;exact h
end
theorem refZ:(prog.info? 233).bind (·.zero)=some (.agg #[.int .i64 0,.slice none 0 0]):=by kernel_rfl
theorem refP:yM prog 233=some [(0,1),(1,1)]:=by kernel_rfl
theorem built_ref(n:Int):prog.built 233 [(0,.int .i64 n)]=some #[.int .i64 n,.slice none 0 0]:=by
 rw[zX refZ refP,zN (off:=0) (size:=1) rfl rfl (by simp),yN]
 rfl
theorem refNew_at(n:Int)(w0:iN)(hn:0<=n/\n<=1099511627776)(w:iN)(hM:Mod qJ w0 w):Calls prog 111 #[.int .i64 n] w fun e w'=>∃b R,e=.returned (.tuple #[iO b,.int .i64 0])/\RAt w0 w' (iO b) n [] R/\Mod qJ w w'/\∀k,R k->w.heap.size<=k:=by
 have h1:¬n<0:=by omega
 have h2:¬(1099511627776:Int)<n:=by omega
 go_enter func111,ntmps111;go_upto_region 3 with(fail);refine qL [3,1,1,3,3] ?_;simp only[qB]
 refine cF rfl (zH 233 [(0,_)] [(0,.int .i64 n)] _ (by rfl) (by rfl) (built_ref n)) trivial ?_;try simp only[qC]
 refine qK (zT 233 (fun w1 hB1 hm1 hs1=>?_));replace hB1:w1.heap[w.heap.size]?=some (.cells #[.int .i64 n,.slice none 0 0] 233 (0,0)):=hB1;simp only[qB];go_wp2
 go_ret2;have h0:=hM.size
 refine⟨w.heap.size,rfl,fun k=>k=w.heap.size,⟨hM.trans0 hm1,⟨_,_,rfl,hB1,⟨rfl,.inl ⟨rfl,rfl⟩⟩,rfl,fun g h=>(nomatch h)⟩,fun p hp=>(nomatch hp),by simp,fun p hp=>(nomatch hp),fun k hk=>?_,fun k hk=>?_⟩,hm1,fun k hk=>?_⟩
 ·rw[show k=w.heap.size from hk];exact h0
 ·rw[show k=w.heap.size from hk];exact hs1
 ·rw[show k=w.heap.size from hk];exact Nat.le_refl _
section
variable{w0 w:iN}{q:Value}{limit:Int}{r:qU}{R:iM}
def AtRel(r:qU)(k:uN)(w0:iN)(v:Value)(w:iN):Prop:=∃n:Nat,n<=r.length/\v=.int .i64 n/\(∀j (h:j<r.length),j<n->dE r[j].1 k<0)/\Mod qJ w0 w
theorem cmpK_of(a b:uN):decide (dE a b<0)=(Op.bytesLess a.1.toList b.1.toList||(decide (a.1=b.1)&&decide (uW a.2 b.2<0))):=by
 rw[toL,toL,Bool.eq_iff_iff,decide_eq_true_iff];simp only[Bool.or_eq_true,Bool.and_eq_true,decide_eq_true_eq]
 have hb:Op.bytesLess a.1.data.toList b.1.data.toList=true↔uW a.1.data.toList b.1.data.toList<0:=by
  rw[iB]
  cases Op.bytesLess a.1.data.toList b.1.data.toList
  ·simp only[Bool.false_eq_true,if_false,false_iff];split<;>omega
  ·simp
 rw[hb];unfold dE orI
 split
 ·rename_i h
  constructor
  ·exact .inl
  ·rintro(h1|⟨h1,_⟩)
   ·exact h1
   ·rw[h1]at h;exact absurd ((tT _ _).2 rfl) h
 ·rename_i h
  have h:uW a.1.data.toList b.1.data.toList=0:=Decidable.byContradiction fun hn=>h hn;have e:=ba_ext ((tT _ _).1 h)
  constructor
  ·intro h1;exact .inr ⟨e,h1⟩
  ·rintro(h1|⟨_,h1⟩)
   ·omega
   ·exact h1
theorem refAt_any(h:RAt w0 w q limit r R)(k:uN)(hk:kH k):Calls prog 189 #[q,.string k.1,.agg (qA k.2)] w (vO (.tuple #[.int .i64 (vK k r),.bool (isL k r)]) w):=by
 obtain⟨b,ra,rc,rfl,hlim,hLc,hlc,hat⟩:=h.read;have hkeys:=h.keys;have hfew:=h.few;have HA:=O hat;have HK:=O hkeys;have hk32:k.2.length=32:=hk
 clear hat hkeys hlim h;go_enter func189,ntmps189;go_upto_region 0 with(fail);refine qL [1,3,3] ?_;simp only[qB];refine qK (zT 24 (fun w1 hB1 hm1 hs1=>?_))
 replace hB1:w1.heap[w.heap.size]?=some (.cells (qA k.2) 24 (0,0)):=hB1;simp only[qB];have hLc:=hm1.cell id hLc
 have hbx:CellsAt w1 w.heap.size 0 (qA k.2):=CellsAt.whole hB1;have HM1:=O hm1;clear hB1 hm1 hs1;go_wp2
 go_loopw [8] (AtRel r k w1) (fun i _=>r.length-(intOf i).toNat)
 case atStart=>exact⟨0,by omega,rfl,fun j _ hj=>by omega,Mod.refl _ _⟩
 case round=>
  rename iN=>wr
  obtain⟨n,hn,rfl,hpre,hM⟩:=hrel;go_upto_region 2 with(fail);have hS:Mod qJ w1 wr.drew:=hM.drew
  by_cases hlt:n<r.length
  ·have hz:(n:Int)<(r.length:Int):=by omega
   obtain⟨g,off,rfl,hcells⟩:=HA.out n hlt;have hc:=(hcells n hlt).keep HM1.out id;have hkn:=HK.out r[n] (List.getElem_mem hlt)
   have hnext:dE r[n].1 k<0->∀j (h:j<r.length),j<n+1->dE r[j].1 k<0:=fun h1 j hj hj1=>by
    rcases Nat.lt_or_ge j n with h2|h2
    ·exact hpre j hj h2
    ·have:j=n:=by omega
     subst this;exact h1
   have hstop:¬dE r[n].1 k<0->vK k r=n:=fun h1=>posL_eq (by omega) hpre (fun _=>h1)
   have hisl:vK k r=n->isL k r=decide (r[n].1=k):=fun e=>by unfold isL;rw[e,List.getElem?_eq_getElem hlt]
   have hcmp:=cmpK_of r[n].1 k;clear hpre;generalize r[n]=p at*;have hc0:=hc.cell (entCells_at p);have hids:p.1.2.length=32:=hkn
   have hcid:CellsAt w1 g (off+n*34+1) (qA p.1.2):=fun j hj=>by
    have h1:=(fE hkn).1 j hj;have hj2:1+j<(yR p).size:=by rw[kR hkn];rw[qD,hids]at hj;omega
    rw[<-h1,<-hc (1+j) hj2,Nat.add_assoc]
   obtain⟨t1,ht1⟩:∃t,Op.bytesLess p.1.1.toList k.1.toList=t:=⟨_,rfl⟩;obtain⟨t2,ht2⟩:∃t,decide (p.1.1=k.1)=t:=⟨_,rfl⟩
   obtain⟨t3,ht3⟩:∃t,decide (uW p.1.2 k.2<0)=t:=⟨_,rfl⟩;have ht3':vW .lss (uW p.1.2 k.2) 0=t3:=ht3;rw[ht1,ht2,ht3]at hcmp
   have HC:=O hcmp;have HT1:=O ht1;have HT2:=O ht2;have HT3:=O ht3';have HNX:=O hnext;have HST:=O hstop;have HIS:=O hisl
   clear hcmp ht1 ht2 ht3 ht3' hnext hstop hisl hc HA HK hcells
   cases t1
   ·cases t2
    ·have hi1:decide (p.1=k)=false:=decide_eq_false fun e=>of_decide_eq_false HT2.out (by rw[e])
     refine zZ [3,3,3,3,0,3,3,3,3,3,3,0,3,3,3,0,3,0,3,3,3,3,0,3,3,3,0,3,0,3,3,3,3,0,3,3,3,0,0,1,3,3,3,3] [] (fun w'=>Mod qJ w1 w') hS ?_
     simp only[qB];refine qE 231 (fun w' hS=>hS.cell id hLc) ?_;simp only[qC];refine xF ?_;simp only[qC];refine xD hz ?_;simp only[qB]
     refine qE 231 (fun w' hS=>hS.cell id hLc) ?_;simp only[qB];refine zC 231 34 hlt ?_;simp only[qB];refine qE 9 (fun w' hS=>hS.cell id hc0) ?_;simp only[qB]
     refine qV rfl (fun w' hS=>tM _ _ _ _ rfl _ _ rfl rfl false HT1.out) ?_;simp only[qB];refine qE 231 (fun w' hS=>hS.cell id hLc) ?_;simp only[qB]
     refine zC 231 34 hlt ?_;simp only[qB];refine qE 9 (fun w' hS=>hS.cell id hc0) ?_;simp only[qB]
     refine qV rfl (fun w' hS=>jN _ _ _ _ rfl _ _ rfl rfl false HT2.out) ?_;simp only[qB];refine xN rfl hS ?_;simp only[qB]
     have HI:=O ((HIS.out (HST.out (by have h9:=of_decide_eq_false (HC.out.trans (by rfl):decide (dE p.1 k<0)=false);omega))).trans hi1);clear hi1
     have hp0:=HST.out (by have h9:=of_decide_eq_false (HC.out.trans (by rfl):decide (dE p.1 k<0)=false);omega);have HP:=O hp0;clear hp0;have hM2:=hS
     go_upto_region 4 with(fail);have hS:Mod qJ w1 wr.drew.drew:=hM2.drew
     refine zZ [3,3,3,3,3,0,3,3,3,3,3,3,0,3,3,3,0,3,0,3,3,3,3,3,0,3,3,3,0,0,3,3,3,3] [] (fun w'=>Mod qJ w1 w') hS ?_;simp only[qB]
     refine qE 231 (fun w' hS=>hS.cell id hLc) ?_;simp only[qC];refine xF ?_;simp only[qC];refine xD hz ?_;simp only[qB]
     refine qE 231 (fun w' hS=>hS.cell id hLc) ?_;simp only[qB];refine zC 231 34 hlt ?_;simp only[qB];refine qE 9 (fun w' hS=>hS.cell id hc0) ?_;simp only[qB]
     refine qV rfl (fun w' hS=>jN _ _ _ _ rfl _ _ rfl rfl false HT2.out) ?_;simp only[qB];have hM3:=HM1.out.trans0 hS;clear hM hM2 hS hc0 hcid;go_wp2
     go_ret2;rw[HP.out,HI.out];exact⟨rfl,hM3⟩
    ·cases t3
     ·obtain⟨t4,ht4⟩:∃t,decide (p.1.2=k.2)=t:=⟨_,rfl⟩
      have hi1:decide (p.1=k)=t4:=by
       rw[<-ht4,decide_eq_decide];exact⟨fun e=>by rw[e],fun e=>Prod.ext (of_decide_eq_true HT2.out) e⟩
      have HT4:=O ht4;clear ht4
      refine zZ [3,3,3,3,0,3,3,3,3,3,3,0,3,3,3,0,3,0,3,3,3,3,0,3,3,3,0,3,0,3,3,3,3,0,3,3,3,0,0,1,3,3,3,3] [] (fun w'=>Mod qJ w1 w') hS ?_
      simp only[qB];refine qE 231 (fun w' hS=>hS.cell id hLc) ?_;simp only[qC];refine xF ?_;simp only[qC];refine xD hz ?_;simp only[qB]
      refine qE 231 (fun w' hS=>hS.cell id hLc) ?_;simp only[qB];refine zC 231 34 hlt ?_;simp only[qB];refine qE 9 (fun w' hS=>hS.cell id hc0) ?_
      simp only[qB];refine qV rfl (fun w' hS=>tM _ _ _ _ rfl _ _ rfl rfl false HT1.out) ?_;simp only[qB];refine qE 231 (fun w' hS=>hS.cell id hLc) ?_
      simp only[qB];refine zC 231 34 hlt ?_;simp only[qB];refine qE 9 (fun w' hS=>hS.cell id hc0) ?_;simp only[qB]
      refine qV rfl (fun w' hS=>jN _ _ _ _ rfl _ _ rfl rfl true HT2.out) ?_;simp only[qB];refine qE 231 (fun w' hS=>hS.cell id hLc) ?_;simp only[qB]
      refine zC 231 34 hlt ?_;simp only[qB];refine zJ 24 (fun w' hS=>hcid.keep hS id) 32 (by rw[qD];exact hids) ?_;simp only[qC]
      refine zJ 24 (fun w' hS=>hbx.keep hS id) 32 (by rw[qD];exact hk32) ?_;simp only[qC];refine qH rfl (fun K hK=>?_)
      go_wp2_with (go_at_call 195;refine(rS p.1.2 k.2 hids hk32 _).mono ?_;rintro _ w5 ⟨rfl,hm5⟩);have hS5:=hS.trans0 hm5;refine hK _ _ hS5 ?_;clear hK K
      try simp only[qC]
      refine aE HT3.out ?_;simp only[qB]
      have HI:=O ((HIS.out (HST.out (by have h9:=of_decide_eq_false (HC.out.trans (by rfl):decide (dE p.1 k<0)=false);omega))).trans hi1);clear hi1
      have hp0:=HST.out (by have h9:=of_decide_eq_false (HC.out.trans (by rfl):decide (dE p.1 k<0)=false);omega);have HP:=O hp0;clear hp0;have hM2:=hS5
      go_upto_region 4 with(fail);have hS:Mod qJ w1 w5.drew:=hM2.drew
      refine zZ [3,3,3,3,3,0,3,3,3,3,3,3,0,3,3,3,0,3,0,3,3,3,3,3,0,3,3,3,0,0,0,3,3,3] [] (fun w'=>Mod qJ w1 w') hS ?_;simp only[qB]
      refine qE 231 (fun w' hS=>hS.cell id hLc) ?_;simp only[qC];refine xF ?_;simp only[qC];refine xD hz ?_;simp only[qB]
      refine qE 231 (fun w' hS=>hS.cell id hLc) ?_;simp only[qB];refine zC 231 34 hlt ?_;simp only[qB];refine qE 9 (fun w' hS=>hS.cell id hc0) ?_
      simp only[qB];refine qV rfl (fun w' hS=>jN _ _ _ _ rfl _ _ rfl rfl true HT2.out) ?_;simp only[qB];refine qE 231 (fun w' hS=>hS.cell id hLc) ?_
      simp only[qB];refine zC 231 34 hlt ?_;simp only[qB];refine zJ 24 (fun w' hS=>hcid.keep hS id) 32 (by rw[qD];exact hids) ?_;simp only[qC]
      refine zJ 24 (fun w' hS=>hbx.keep hS id) 32 (by rw[qD];exact hk32) ?_;simp only[qC]
      refine qV rfl (fun w' hS=>rG _ _ _ _ rfl _ _ rfl rfl 32 5 underlying24 underlying5 (by kernel_rfl) (by kernel_rfl) hids hk32 t4 HT4.out) ?_
      simp only[qB];have hM3:=HM1.out.trans0 hS;clear hM hM2 hS hc0 hcid;go_wp2;go_ret2;rw[HP.out,HI.out];exact⟨rfl,hM3⟩
     ·clear HIS HST
      refine zZ [3,3,3,3,0,3,3,3,3,3,3,0,3,3,3,0,3,0,3,3,3,3,0,3,3,3,0,3,0,3,3,3,3,0,3,3,3,0,0,1,3,3,3,3] [] (fun w'=>Mod qJ w1 w') hS ?_
      simp only[qB];refine qE 231 (fun w' hS=>hS.cell id hLc) ?_;simp only[qC];refine xF ?_;simp only[qC];refine xD hz ?_;simp only[qB]
      refine qE 231 (fun w' hS=>hS.cell id hLc) ?_;simp only[qB];refine zC 231 34 hlt ?_;simp only[qB];refine qE 9 (fun w' hS=>hS.cell id hc0) ?_
      simp only[qB];refine qV rfl (fun w' hS=>tM _ _ _ _ rfl _ _ rfl rfl false HT1.out) ?_;simp only[qB];refine qE 231 (fun w' hS=>hS.cell id hLc) ?_
      simp only[qB];refine zC 231 34 hlt ?_;simp only[qB];refine qE 9 (fun w' hS=>hS.cell id hc0) ?_;simp only[qB]
      refine qV rfl (fun w' hS=>jN _ _ _ _ rfl _ _ rfl rfl true HT2.out) ?_;simp only[qB];refine qE 231 (fun w' hS=>hS.cell id hLc) ?_;simp only[qB]
      refine zC 231 34 hlt ?_;simp only[qB];refine zJ 24 (fun w' hS=>hcid.keep hS id) 32 (by rw[qD];exact hids) ?_;simp only[qC]
      refine zJ 24 (fun w' hS=>hbx.keep hS id) 32 (by rw[qD];exact hk32) ?_;simp only[qC];refine qH rfl (fun K hK=>?_)
      go_wp2_with (go_at_call 195;refine(rS p.1.2 k.2 hids hk32 _).mono ?_;rintro _ w5 ⟨rfl,hm5⟩);have hS5:=hS.trans0 hm5;refine hK _ _ hS5 ?_;clear hK K
      try simp only[qC]
      refine aE HT3.out ?_;simp only[qB];have hnx:=HNX.out (of_decide_eq_true (HC.out.trans (by rfl):decide (dE p.1 k<0)=true));have HNX2:=O hnx;clear hnx
      have hM2:=hS5;clear hM hS hc0 hcid;go_wp2
      go_roundw
      case rel=>exact⟨n+1,by omega,by go_num,HNX2.out,hM2⟩
      case measure=>simp[intOf];omega
   ·clear HIS HST
    refine zZ [3,3,3,3,0,3,3,3,3,3,3,0,3,3,3,0,3,0,3,3,3,3,0,3,3,3,0,3,3,3,3,3,3,0,3,3,3,0,0,1,3,3,3,3] [] (fun w'=>Mod qJ w1 w') hS ?_
    simp only[qB];refine qE 231 (fun w' hS=>hS.cell id hLc) ?_;simp only[qC];refine xF ?_;simp only[qC];refine xD hz ?_;simp only[qB]
    refine qE 231 (fun w' hS=>hS.cell id hLc) ?_;simp only[qB];refine zC 231 34 hlt ?_;simp only[qB];refine qE 9 (fun w' hS=>hS.cell id hc0) ?_;simp only[qB]
    refine qV rfl (fun w' hS=>tM _ _ _ _ rfl _ _ rfl rfl true HT1.out) ?_;simp only[qC];refine uR _ rfl rfl ?_;simp only[qC]
    refine zA rfl (zA rfl (zA rfl ?_));simp only[qC];refine jG rfl (zA rfl (zA rfl ?_));simp only[qC]
    refine zA rfl (jG rfl (zA rfl ?_));simp only[qC];refine zA rfl (zA rfl (zA rfl ?_));simp only[qC]
    refine zA rfl (zA rfl (jG rfl ?_));simp only[qC];refine zA rfl (zA rfl (zA rfl ?_));simp only[qC]
    refine jG rfl (jG rfl ?_);simp only[qC];refine xN rfl hS ?_;simp only[qC];refine zA rfl (zA rfl ?_);simp only[qC]
    refine fM _ _ _ _ rfl rfl rfl ?_;simp only[qC];refine fM _ _ _ _ rfl rfl rfl ?_;simp only[qC];refine sR ?_
    have hnx:=HNX.out (of_decide_eq_true (HC.out.trans (by rfl):decide (dE p.1 k<0)=true));have HNX2:=O hnx;clear hnx;have hM2:=hS;clear hM hS hc0 hcid;go_wp2
    go_roundw
    case rel=>exact⟨n+1,by omega,by go_num,HNX2.out,hM2⟩
    case measure=>simp[intOf];omega
  ·have hz:¬(n:Int)<(r.length:Int):=by omega
   have hp0:vK k r=n:=posL_eq (by omega) hpre (fun h=>absurd h hlt);have hi0:isL k r=false:=by unfold isL;rw[hp0,List.getElem?_eq_none (by omega)]
   have HP:=O hp0;have HI:=O hi0;clear hp0 hi0 hpre HA HK
   refine zZ [3,3,3,3,0,3,3,3,3,3,3,0,3,3,3,0,3,3,3,3,3,3,0,3,3,3,0,3,3,3,3,3,3,0,3,3,3,0,0,1,3,3,3,3] [] (fun w'=>Mod qJ w1 w') hS ?_
   simp only[qB];refine qE 231 (fun w' hS=>hS.cell id hLc) ?_;simp only[qC];refine xF ?_;simp only[qC];refine xT hz ?_;simp only[qC]
   refine uR _ rfl rfl ?_;simp only[qC];refine zA rfl (zA rfl (zA rfl ?_));simp only[qC];refine jG rfl (zA rfl (zA rfl ?_))
   simp only[qC];refine zA rfl (jG rfl (zA rfl ?_));simp only[qC];refine zA rfl (zA rfl (zA rfl ?_));simp only[qC]
   refine zA rfl (zA rfl (jG rfl ?_));simp only[qC];refine zA rfl (zA rfl (zA rfl ?_));simp only[qC]
   refine jG rfl (zA rfl (zA rfl ?_));simp only[qC];refine zA rfl (zA rfl (zA rfl ?_));simp only[qC]
   refine zA rfl (jG rfl (zA rfl ?_));simp only[qC];refine zA rfl (zA rfl (jG rfl ?_));simp only[qC];refine jG rfl ?_
   simp only[qC];refine xN rfl hS ?_;simp only[qC];refine zA rfl (zA rfl (zA rfl ?_));simp only[qC];refine fM _ _ _ _ rfl rfl rfl ?_
   simp only[qC];refine sR ?_;have hM2:=hS;go_upto_region 4 with(fail);have hS:Mod qJ w1 wr.drew.drew:=hM2.drew
   refine zZ [3,3,3,3,3,0,3,3,3,3,3,3,0,3,3,3,0,3,3,3,3,3,3,3,0,3,3,3,0,0,3,3,3,3] [] (fun w'=>Mod qJ w1 w') hS ?_;simp only[qB]
   refine qE 231 (fun w' hS=>hS.cell id hLc) ?_;simp only[qC];refine xF ?_;simp only[qC];refine xT hz ?_;simp only[qB];have hM3:=HM1.out.trans0 hS
   clear hM hM2 hS;go_wp2;go_ret2;rw[HP.out,HI.out];exact⟨rfl,hM3⟩
theorem RAt.useB(h:RAt w0 w q limit r R)(n:ByteArray)(i:Nat):0<=rO r n i/\rO r n i<=268435456:=by
 have h1:=useOf_le (r.take i) n (fun p hp=>h.vals p (List.mem_of_mem_take hp));have h2:(r.take i).length<=65536:=by have:=h.few;simp;omega
 unfold rO;omega
def UseRel(r:qU)(n:ByteArray)(w0:iN)(v i:Value)(w:iN):Prop:=∃j:Nat,j<=r.length/\i=.int .i64 j/\v=.int .i64 (rO r n j)/\Mod qJ w0 w
theorem refUse_any(h:RAt w0 w q limit r R)(n:ByteArray):Calls prog 70 #[q,.string n] w (vO (.int .i64 (xK r n)) w):=by
 obtain⟨b,ra,rc,rfl,hlim,hLc,hlc,hat⟩:=h.read;have huse:=h.useB n;have hfew:=h.few;have hkeys:=h.keys;have hvals:=h.vals
 have HA:=O hat;have HU:=O huse;have HKY:=O hkeys;have HV:=O hvals;clear hat hlim h huse hkeys hvals;go_enter func70,ntmps70;go_wp2
 go_loopw [5,6] (UseRel r n w) (fun _ i _=>r.length-(intOf i).toNat)
 case atStart=>exact⟨0,by omega,rfl,by simp[rO,xK],Mod.refl _ _⟩
 case round=>
  rename iN=>wr
  obtain⟨i,hi,rfl,rfl,hM⟩:=hrel;go_upto_region 3 with(fail);have hLc':=hM.cell id hLc
  by_cases hlt:i<r.length
  ·have hz:(i:Int)<(r.length:Int):=by omega
   obtain⟨g,off,rfl,hcells⟩:=HA.out i hlt;have hc:=(hcells i hlt).keep hM id;have hkn:=HKY.out r[i] (List.getElem_mem hlt);have hv:=HV.out r[i] (List.getElem_mem hlt)
   have hsucc:=useUpto_succ (n:=n) hlt;have hu:=HU.out i;generalize r[i]=p at*;have hc0:=hc.cell (entCells_at p);have hcs:=hc.cell (fE hkn).2
   obtain⟨t,ht⟩:∃t,decide (p.1.1=n)=t:=⟨_,rfl⟩;have HT:=O ht;have HSU:=O hsucc;clear ht hsucc hc hcells hkn;refine qL [3,3,3,3,1,3,3] ?_
   simp only[qB];refine qG 231 hLc' ?_;try simp only[qC]
   refine xF ?_;simp only[qC];refine xD hz ?_;simp only[qB];go_upto_region 5 with(fail);refine qL [3,3,3,1,3,3,3,1,3,0] ?_;simp only[qB]
   refine qG 231 hLc' ?_;simp only[qB];refine zC 231 34 hlt ?_;simp only[qB];refine qG 9 hc0 ?_;simp only[qB]
   refine qV rfl (fun w' hS=>jN _ _ _ _ rfl _ _ rfl rfl t HT.out) ?_;simp only[qB]
   cases t
   ·have e:¬p.1.1=n:=of_decide_eq_false HT.out
    go_wp2
    go_roundw
    case rel=>exact⟨i+1,by omega,by go_num,by rw[HSU.out,if_neg e,Int.add_zero],hM⟩
    case measure=>simp[intOf];omega
   ·have e:p.1.1=n:=of_decide_eq_true HT.out
    go_upto_region 6 with(fail);refine qL [3,3,3,3,1,3,3,3,1,3,3] ?_;simp only[qB];refine qG 231 hLc' ?_;simp only[qB];refine zC 231 34 hlt ?_
    simp only[qB];refine qG 3 hcs ?_;try simp only[qC]
    refine aB _ _ _ _ (rO r n i) p.2 rfl rfl rfl rfl (by omega) (by omega) ?_;simp only[qB];have HE:=O e;clear e;go_wp2
    go_roundw
    case rel=>exact⟨i+1,by omega,by go_num,by rw[HSU.out,if_pos HE.out],hM⟩
    case measure=>simp[intOf];omega
  ·have hz:¬(i:Int)<(r.length:Int):=by omega
   have e:rO r n i=xK r n:=by unfold rO;rw[List.take_of_length_le (by omega)]
   rw[e];refine qL [3,3,3,3,1,3,3] ?_;simp only[qB];refine qG 231 hLc' ?_;try simp only[qC]
   refine xF ?_;simp only[qC];refine xT hz ?_;simp only[qB];clear e;go_wp2;go_ret;exact⟨rfl,hM⟩
end
theorem entry_i:(prog.info? 235).map (fun i=>(i.zero,i.size,i.bytes))=some (some (.agg (yR ((⟨#[]⟩,List.replicate 32 0),0))),34,56):=by kernel_rfl
section
variable{w0 w:iN}{q:Value}{limit:Int}{r:qU}{R:iM}
end
theorem ent_take:∀{r:qU}{i:Nat},(∀p∈r,kH p.1)->(r.flatMap cD).take (i*34)=(r.take i).flatMap cD
 | [],i,_=>by simp
 |p::r,0,_=>by simp
 |p::r,i+1,h=>by
  have hp:(cD p).length=34:=by have:=kR (h p (by simp));simpa[cD]using this
  rw[List.take_succ_cons,List.flatMap_cons,List.flatMap_cons,Nat.succ_mul,List.take_append,hp]
  rw[List.take_of_length_le (by omega),show i*34+34-34=i*34 by omega,ent_take (fun q hq=>h q (by simp[hq]))]
theorem ent_drop:∀{r:qU}{i:Nat},(∀p∈r,kH p.1)->(r.flatMap cD).drop (i*34)=(r.drop i).flatMap cD
 | [],i,_=>by simp
 |p::r,0,_=>by simp
 |p::r,i+1,h=>by
  have hp:(cD p).length=34:=by have:=kR (h p (by simp));simpa[cD]using this
  rw[List.drop_succ_cons,List.flatMap_cons,Nat.succ_mul,List.drop_append,hp]
  rw[List.drop_of_length_le (by omega),show i*34+34-34=i*34 by omega,ent_drop (fun q hq=>h q (by simp[hq])),List.nil_append]
theorem entL_one(p:uN×Int):∀c∈cD p,c.oneCell'=true:=by
 intro c hc;simp only[cD,yR,Array.toList_append,List.mem_append]at hc
 rcases hc with(hc|hc)|hc
 ·simp at hc;subst hc;rfl
 ·exact qQ p.1.2 c (by simpa using hc)
 ·simp at hc;subst hc;rfl
theorem ents_one(r:qU):∀c∈r.flatMap cD,c.oneCell'=true:=fun c hc=>by
 obtain⟨p,_,hp⟩:=List.mem_flatMap.1 hc;exact entL_one p c hp
section
variable{w0 w w6 w7:iN}{b:Nat}{v:Value}{limit:Int}{r r':qU}{R:iM}
theorem RfStep.mk(h:RAt w0 w (iO b) limit r R)(hb:R b)(ho:w6.ownsRow w0.heap.size 235 34 v r'.length (r'.flatMap cD))(hg:∀g,v.ownBlock=some g->(R g\/gD w w6 g)/\g≠b)
 (hm6:Mod (fun k=>R k/\k≠b) w w6)(hB:w7.heap[b]?=some (.cells #[.int .i64 limit,v] 233 (0,0)))(hm7:Mod (fun k=>k=b) w6 w7)
 (hk:∀p∈r',kH p.1)(hf:r'.length<=65536)(hv:∀p∈r',0<=p.2/\p.2<=4096):RfStep w0 w (iO b) limit R w7 r':=by
 have hs7:=hm7.size;have hM:Mod R w w7:=hm6.mono (S':=R) (fun _ _ h=>h.1) |>.trans hm7 (fun k _ e=>by rw[show k=b from e];exact hb)
 refine⟨fun k=>R k\/gD w w7 k,⟨h.mod.trans hM (fun k hk hs=>by have:=h.old k hs;omega),⟨b,v,rfl,hB,sH ho hm7 (fun g e=>(hg g e).2),.inl hb,fun g e=>⟨(hg g e).1.imp id fun hn=>⟨hn.1,Nat.lt_of_lt_of_le hn.2 hs7⟩,(hg g e).2⟩⟩,hk,hf,hv,fun k hk=>?_,fun k hk=>?_⟩,hM,fun k hk=>hk⟩
 ·rcases hk with hk|hk
  ·exact h.old k hk
  ·have h1:=hk.1;have h2:=h.mod.size;omega
 ·rcases hk with hk|hk
  ·exact Nat.lt_of_lt_of_le (h.lt k hk) hM.size
  ·exact hk.2
end
theorem entZ:(prog.info? 235).bind (·.zero)=some (.agg (yR ((⟨#[]⟩,List.replicate 32 0),0))):=by kernel_rfl
theorem entP:yM prog 235=some [(0,1),(1,32),(33,1)]:=by kernel_rfl
theorem fill_ent(z:iL)(hz:z.size=34)(s:ByteArray)(x:iK)(hx:x.length=32)(n:Int):
 Instr.fill ([(0,1),(1,32),(33,1)].toArray[·]?) z [(0,.string s),(1,.agg (qA x)),(2,.int .i64 n)]=some (#[.string s]++qA x++#[.int .i64 n]):=by
 have c1:(Value.string s).cells=#[.string s]:=rfl;have c2:(Value.agg (qA x)).cells=qA x:=rfl;have c3:(Value.int .i64 n).cells=#[.int .i64 n]:=rfl
 have s2:(qA x).size=32:=by rw[qD,hx]
 have s1:(zE z 0 #[.string s]).size=34:=by rw[kQ (by simp;omega)];exact hz
 have s3:(zE (zE z 0 #[.string s]) 1 (qA x)).size=34:=by rw[kQ (by rw[s1,s2];omega)];exact s1
 rw[zN (off:=0) (size:=1) rfl (by rw[c1];rfl) (by omega),c1,zN (off:=1) (size:=32) rfl (by rw[c2,s2]) (by omega),c2,zN (off:=33) (size:=1) rfl (by rw[c3];rfl) (by omega),c3,yN]
 congr 1
 apply Array.toList_inj.1
 have hZ:z.toList.length=34:=by simpa using hz
 have h2:(qA x).toList.length=32:=by simpa using s2
 have e:∀(a:iL)(o:Nat)(c:iL),(zE a o c).toList=a.toList.take o++c.toList++a.toList.drop (o+c.size):=fun _ _ _=>rfl
 rw[e,e,e,s2,Array.toList_append,Array.toList_append];generalize z.toList=Z at*;generalize (qA x).toList=I at*
 simp[List.take_append,List.drop_append,hZ,h2]
theorem built_ent{p:uN×Int}(h:kH p.1):prog.built 235 [(0,.string p.1.1),(1,.agg (qA p.1.2)),(2,.int .i64 p.2)]=some (yR p):=by
 rw[zX entZ entP];exact fill_ent _ (by kernel_rfl) _ _ h _
section
variable{w0 w:iN}{q:Value}{limit:Int}{r:qU}{R:iM}
theorem RAt.own(h:RAt w0 w q limit r R):∃b a cap,q=iO b/\w.heap[b]?=some (.cells #[.int .i64 limit,.slice a r.length cap] 233 (0,0))/\w.ownsRow w0.heap.size 235 34 (.slice a r.length cap) r.length (r.flatMap cD)/\R b/\(∀g,(Value.slice a r.length cap).ownBlock=some g->R g/\g≠b)/\r.length<=cap/\∀x,a=some x->∃g o,x=⟨g,o,none⟩:=by
 obtain⟨hM,⟨b,v,rfl,hb,ho,hR,hg⟩,hk,hf,hv,hold,hlt⟩:=h
 rcases id ho.2 with⟨rfl,h2⟩|⟨g,cap,cur,rfl,h1,h2,h3,h4⟩
 ·have e:r.length=0:=h2
  refine⟨b,none,0,rfl,by rw[e];exact hb,by rw[e]at ho |-;exact ho,hR,fun g h=>(nomatch h),by omega,fun x h=>(nomatch h)⟩
 ·exact⟨b,some ⟨g,0,none⟩,cap,rfl,hb,ho,hR,hg,h3,fun x h=>⟨g,0,by cases h;rfl⟩⟩
end
section
variable{w0 w:iN}{q:Value}{limit:Int}{r:qU}{R:iM}
end
section
variable{w0 w:iN}{q:Value}{limit:Int}{r:qU}{R:iM}
def RAddR(asked:Bool)(w0 w:iN)(q:Value)(limit:Int)(r:qU)(R:iM)(k:uN)(size:Int):iJ:=fun e w'=>
 e=.returned (.tuple #[.bool (addE asked limit r k size).1,.int .i64 (addE asked limit r k size).2])/\RfStep w0 w q limit R w' (addR asked limit r k size)
theorem addE_bad{l:qU}{k:uN}{size:Int}(h:uP k.1=false):addE asked limit l k size=(false,7):=by unfold addE;rw[h];rfl
theorem addE_range{l:qU}{k:uN}{size:Int}(h:uP k.1=true)(h2:size<0\/4096<size):addE asked limit l k size=(false,3):=by unfold addE;rw[h,if_pos rfl,if_pos h2]
theorem addE_some{l:qU}{k:uN}{size old:Int}(h:uP k.1=true)(h2:¬(size<0\/4096<size))(hg:qR k l=some old):addE asked limit l k size=if old=size then(false,0)else(false,17):=by unfold addE;rw[h,if_pos rfl,if_neg h2,hg]
theorem addE_new{l:qU}{k:uN}{size:Int}(h:uP k.1=true)(h2:¬(size<0\/4096<size))(hg:qR k l=none):addE asked limit l k size=if holdB asked limit (xK l k.1) size then(if 65536<=l.length then(false,10)else(true,0))else(false,11):=by unfold addE;rw[h,if_pos rfl,if_neg h2,hg]
theorem RAddR.same{k:uN}{size:Int}{b:Bool}{n:Int}(h:RAt w0 w q limit r R)(hm:Mod qJ w w')(he:addE asked limit r k size=(false,n))(hb:b=false):RAddR asked w0 w q limit r R k size (.returned (.tuple #[.bool b,.int .i64 n])) w':=by
 subst hb;refine⟨by rw[he],?_⟩;have:addR asked limit r k size=r:=by unfold addR;rw[he];rfl
 rw[this];exact h.step hm
theorem refAdd_at(h:RAt w0 w q limit r R)(hs:SortedL r)(k:uN)(hk:kH k)(hsz:k.1.size<=maxLen)(size:Int)(asked:Bool):Calls prog 112 #[q,.string k.1,.agg (qA k.2),.int .i64 size,.bool asked] w (RAddR asked w0 w q limit r R k size):=by
 have hk32:k.2.length=32:=hk;have h0:=O h;obtain⟨b,ra,rc,rfl,hbb,hown,hRb,hgb,hlc,hra⟩:=h.own;obtain⟨_,_,_,e1,hlim,hLc,-,hrd⟩:=h.read
 cases e1
 have hat:=fun w' (hm:Mod qJ w w')=>refAt_any (h.keep0 hm) k hk;have huse:=fun w' (hm:Mod qJ w w')=>refUse_any (h.keep0 hm) k.1;have hub:=useOf_le r k.1 h.vals
 rw[hs.isSome]at hat;have hgat:=hs.at k;have hR:addR asked limit r k size=if(addE asked limit r k size).1 then insL k size r else r:=rfl
 have hple:=posL_le k r;have hins:insL k size r=r.take (vK k r)++(k,size)::r.drop (vK k r):=rfl;obtain⟨i,hi⟩:∃i,vK k r=i:=⟨_,rfl⟩
 rw[hi]at hat hgat hple hins;have hLb:w.cell? ⟨b,1,none⟩=some (.slice ra r.length rc):=by rw[cell_of_row _ _ _ _ _ _ hbb];rfl
 rw[hLb]at hLc
 cases hLc
 have hfew:=h.few;have hkeys:=h.keys;have hvals:=h.vals;have hrold:w0.heap.size<=w.heap.size:=h.mod.size
 have HR:=O hR;have HG:=O hgb;have HRA:=O hra;have HKY:=O hkeys;have HIN:=O hins;have HGA:=O hgat;have HRD:=O hrd;have HV:=O hvals
 clear hi hR hgb hra hkeys h hs hins hgat hrd hvals;go_enter func112,ntmps112;go_upto_region 0 with(fail);refine qL [1,3,3] ?_;simp only[qB]
 refine qK (zT 24 (fun w1 hB1 hm1 hs1=>?_));replace hB1:w1.heap[w.heap.size]?=some (.cells (qA k.2) 24 (0,0)):=hB1;simp only[qB];go_upto_region 1 with(fail)
 refine qL [3,3,1,1,3,3,3,3,3] ?_;simp only[qB];refine qY 24 (CellsAt.whole hB1) 32 (by rw[qD];exact hk32) ?_;try simp only[qC]
 refine kS rfl ?_;go_wp2_with (go_at_call 189;refine(hat _ hm1).mono ?_;rintro _ w2 ⟨rfl,hm2⟩);simp only[qB];refine qZ (fun _=>by go_simp;try with_reducible rfl) ?_
 simp only[qC];refine qZ (fun _=>by go_simp;try with_reducible rfl) ?_;simp only[qB];have hM:=hm1.trans0 hm2;have hB1:=hm2.obj id hB1;clear hm1 hm2 hs1 hat
 obtain⟨nm,hnm⟩:∃t,uP k.1=t:=⟨_,rfl⟩;have HNM:=O hnm;clear hnm;go_upto_region 2 with(fail);refine qL [3,1,3,3] ?_;simp only[qB];refine kS rfl ?_
 go_wp2_with (go_at_call 190;refine(refNamed_any k.1 _ hsz).mono ?_;rintro _ w3 ⟨rfl,hm3⟩;rw[HNM.out]);try simp only[qB]
 try refine xC _ _ _ rfl rfl rfl ?_
 try simp only[qB]
 have hM:=hM.trans0 hm3;have hB1:=hm3.obj id hB1;clear hm3
 cases nm
 ·have he:addE asked limit r k size=(false,7):=addE_bad HNM.out
  have HR2:Hid (RAddR asked w0 w _ limit r R k size _ w3):=RAddR.same h0.out hM he rfl;clear hM hB1 hown hbb he hLb hlim;go_wp2
  all_goals
   go_ret2;exact HR2.out
 by_cases hbad:size<0\/4096<size
 ·have he:addE asked limit r k size=(false,3):=addE_range HNM.out hbad
  have HR2:Hid (RAddR asked w0 w _ limit r R k size _ w3):=RAddR.same h0.out hM he rfl;clear hM hB1 hown hbb he hLb hlim
  rcases hbad with hb|hb
  ·go_wp2
   go_ret2;exact HR2.out
  ·have hb2:¬size<0:=by omega
   go_wp2;go_ret2;exact HR2.out
 have hb1:¬size<0:=by omega
 have hb2:¬4096<size:=by omega
 have HBAD:=O hbad;clear hbad;go_upto_region 6 with(fail)
 cases hg:qR k r with
 |some old=>
  have hE2:=addE_some (limit:=limit) (asked:=asked) HNM.out HBAD.out hg;have hq:=(HGA.out old).1 hg;obtain⟨hlt,hp⟩:=List.getElem?_eq_some_iff.1 hq
  obtain⟨g,off,rfl,hcells⟩:=HRD.out i hlt;have hc:=hcells i hlt;rw[hp]at hc;have hcs:=(hc.keep hM id).cell (fE (p:=(k,old)) hk).2;have hLc:=hM.cell id hLb
  have hlim2:=hM.cell id hlim;rw[hg]at*;clear hq hp hc hcells hg hown hbb;obtain⟨t,ht⟩:∃t,vW .neq old size=t:=⟨_,rfl⟩;have HT:=O ht;clear ht
  refine qL [3,3,3,3,3,1,3,3,3,1,3,3,3,3] ?_;simp only[qB];refine qG 231 hLc ?_;simp only[qB];refine zC 231 34 hlt ?_;simp only[qB];refine qG 3 hcs ?_
  simp only[qB];refine qN _ _ _ _ _ _ _ _ rfl rfl rfl rfl rfl t HT.out ?_;simp only[qB]
  cases t
  ·have e:old=size:=by have:=HT.out;simpa[vW]using this
   rw[if_pos e]at hE2;have HR2:Hid (RAddR asked w0 w _ limit r R k size _ w3):=RAddR.same h0.out hM hE2 rfl;clear hM hB1 hE2 hLb hlim hLc hlim2 hcs e HT;go_wp2
   all_goals
    go_ret2;exact HR2.out
  ·have e:¬old=size:=by have:=HT.out;simpa[vW]using this
   rw[if_neg e]at hE2;have HR2:Hid (RAddR asked w0 w _ limit r R k size _ w3):=RAddR.same h0.out hM hE2 rfl;clear hM hB1 hE2 hLb hlim hLc hlim2 hcs e HT;go_wp2
   all_goals
    go_ret2;exact HR2.out
 |none=>
  have hE2:=addE_new (limit:=limit) (asked:=asked) HNM.out HBAD.out hg;have hLc:=hM.cell id hLb;have hlim2:=hM.cell id hlim;have hbb2:=hM.obj id hbb
  have hown2:=sH hown hM (fun _ _=>id);have hub2:0<=xK r k.1/\xK r k.1<=268435456:=by omega
  have HGN:=O hg;clear hg hown hbb hub;refine qL [3,3,3,3,3,0,3,3,3,0,3,3,3,3] ?_;simp only[zz2];refine uR _ rfl rfl ?_;simp only[qC]
  refine uR _ rfl rfl ?_;simp only[qC]
  refine zA rfl (zA rfl (zA rfl (jG rfl (zA rfl (zA rfl (zA rfl (jG rfl ?_)))))));simp only[qC]
  refine zA rfl (zA rfl ?_);simp only[qC];refine fM _ _ _ _ rfl rfl rfl ?_;simp only[qC];refine vI _ rfl rfl ?_;simp only[qC];refine sR ?_
  go_upto_region 10 with(fail);obtain⟨hd,hhd⟩:∃t,holdB asked limit (xK r k.1) size=t:=⟨_,rfl⟩;rw[hhd]at hE2
  have hrest:∀wy:iN,Mod qJ w wy->True:=fun _ _=>trivial;clear hrest
  go_cut [48] (fun v wx=>v=.bool (!hd)/\Mod qJ w3 wx)
  case first=>
   have hS:Mod qJ w3 w3.drew:=(Mod.refl _ _).drew
   cases asked
   ·obtain rfl:hd=true:=by rw[<-hhd];rfl
    refine cH [(0,3),(1,3),(2,3),(3,3),(5,3),(7,3),(8,3),(9,3),(10,0),(4,1),(6,3),(11,3),(12,3),(13,3)] [] (fun w'=>Mod qJ w3 w') hS ?_
    simp only[qB];refine xN rfl hS ?_;simp only[qB];clear hhd huse;go_wp2
    go_meet
    case rel=>exact⟨rfl,hS⟩
   ·have hcmp:vW .gtr (xK r k.1+size) limit= !hd:=by
     rw[<-hhd];simp only[vW,holdB,Bool.not_true,Bool.false_or]
     by_cases hle:xK r k.1+size<=limit
     ·rw[decide_eq_true hle,decide_eq_false (by omega)];rfl
     ·rw[decide_eq_false hle,decide_eq_true (by omega)];rfl
    generalize xK r k.1=u at*;have HC:=O hcmp;clear hcmp
    refine cH [(0,3),(1,3),(2,3),(3,3),(5,3),(7,3),(8,3),(9,3),(10,0),(4,1),(6,3),(11,3),(12,3),(13,3)] [] (fun w'=>Mod qJ w3 w') hS ?_
    simp only[qB];refine qE 3 (fun w' hS=>hS.cell id hlim2) ?_;simp only[qC];refine qH rfl (fun K hK=>?_)
    go_wp2_with (go_at_call 70;refine(huse _ (hM.trans0 hS)).mono ?_;rintro _ w4 ⟨rfl,hm4⟩);replace hS:=hS.trans0 hm4;refine hK _ _ hS ?_;clear hK K;try simp only[qC]
    refine cI _ _ _ _ u size (u+size) rfl rfl rfl rfl rfl (by omega) (by omega) ?_;simp only[qC];refine qN _ _ _ _ _ _ _ _ rfl rfl rfl rfl rfl (!hd) HC.out ?_
    simp only[qB];clear hhd huse;go_wp2
    go_meet
    case rel=>exact⟨rfl,hS⟩
  case rest=>
   obtain⟨rfl,hm4⟩:=hcut
   rename iN=>w4
   have hM4:=hM.trans0 hm4;have hLc4:=hm4.cell id hLc;have hB14:=hm4.obj id hB1;have hbb4:=hm4.obj id hbb2;have hown4:=sH hown2 hm4 (fun _ _=>id)
   clear hM hLc hlim2 hB1 hbb2 hown2 hm4 hLb hlim hhd huse
   cases hd
   ·rw[if_neg (by simp)]at hE2
    have HR2:Hid (RAddR asked w0 w _ limit r R k size _ w4):=RAddR.same h0.out hM4 hE2 rfl;clear hM4 hE2 hLc4 hB14 hbb4 hown4;go_wp2
    all_goals
     go_ret2;exact HR2.out
   ·rw[if_pos rfl]at hE2
    go_upto_region 12 with(fail)
    by_cases hfull:65536<=r.length
    ·rw[if_pos hfull]at hE2
     have hz:(65536:Int)<=(r.length:Int):=by omega
     have HR2:Hid (RAddR asked w0 w _ limit r R k size _ w4):=RAddR.same h0.out hM4 hE2 rfl;refine qL [3,3,3,1,3,3,3] ?_;simp only[qB];refine qG 231 hLc4 ?_
     try simp only[qC]
     refine xF ?_;simp only[qC];refine xD hz ?_;simp only[qB];clear hM4 hE2 hLc4 hB14 hbb4 hown4;go_wp2
     all_goals
      go_ret2;exact HR2.out
    ·rw[if_neg hfull]at hE2
     have hz:¬(65536:Int)<=(r.length:Int):=by omega
     refine qL [3,3,3,1,3,3,3] ?_;simp only[qB];refine qG 231 hLc4 ?_;try simp only[qC]
     refine xF ?_;simp only[qC];refine xT hz ?_;simp only[qB];have hcap:i<=rc:=by omega
     have hM5:=hM4.drew;have hsd:w4.drew.heap.size=w4.heap.size:=rfl;have hown5:=sH (w':=w4.drew) hown4 (Mod.refl qJ _).drew (fun _ _=>id)
     have hbb5:w4.drew.heap[b]?=_:=hbb4;have hsz5:=hM5.size;have hblt:b<w.heap.size:=h0.out.lt b hRb;have hkr:kH (k,size).1:=hk;have HE2:=O hE2
     clear hE2 hown4 hbb4 hM4;go_upto_region 14 with(fail)
     have hS:w4.drew.cell? ⟨b,1,none⟩=some (.slice ra r.length rc)/\CellsAt w4.drew w.heap.size 0 (qA k.2):=⟨hLc4,CellsAt.whole hB14⟩
     have hbxlt:=(Array.getElem?_eq_some_iff.1 hB14).1;clear hB14 hLc4
     refine cH [(0,3),(1,3),(2,3),(3,3),(4,0),(5,3),(6,3),(7,3),(8,0),(9,3),(10,0),(12,3),(13,3),(14,3),(15,0),(16,3),(17,3),(11,1),(18,1),(19,1),(20,3),(21,3),(22,2)] [22] (fun w'=>w'.cell? ⟨b,1,none⟩=some (.slice ra r.length rc)/\CellsAt w' w.heap.size 0 (qA k.2)) hS ?_
     simp only[qB];refine qE 231 (fun w' hS=>hS.1) ?_;simp only[qB];refine vH 231 235 _ _ _ _ _ _ 34 rfl rfl rfl rfl underlying231 (by kernel_rfl) hcap ?_
     simp only[qB];refine zJ 24 (fun w' hS=>hS.2) 32 (by rw[qD];exact hk32) ?_;simp only[qB];refine yV (built_ent (p:=(k,size)) hk) ?_;simp only[qB]
     refine qE 231 (fun w' hS=>hS.1) ?_;simp only[qB];refine kY 231 235 _ _ _ _ _ _ 34 rfl rfl rfl rfl underlying231 (by kernel_rfl) hple ?_;simp only[qC]
     refine qH rfl (fun K hK=>?_)
     refine kK 231 (.agg (yR (k,size))) (.agg (yR ((⟨#[]⟩,List.replicate 32 0),0))) 34 (kR hkr) (fun w6 hB6 hm6 hs6=>?_)
     replace hB6:w6.heap[w4.heap.size]?=some (.cells (yR (k,size)) 235 (0,0)):=hB6;replace hS:=And.intro (hm6.cell id hS.1) (hS.2.keep hm6 id)
     have hown6:=sH hown5 hm6 (fun _ _=>id);have hbb6:=hm6.obj id hbb5;have hsz6:=hm6.size;refine hK _ _ hS ?_;clear hK K;try simp only[qC]
     refine qH rfl (fun K hK=>?_)
     have hnew:w6.ownsRow w.heap.size 235 34 (.slice (some ⟨w4.heap.size,0,none⟩) 1 1) 1 (cD (k,size)):=⟨by simp[cD,kR hkr],.inr ⟨w4.heap.size,1,_,rfl,by omega,hB6,Nat.le_refl _,by unfold maxLen;omega,by rw[kR hkr],by rw[List.take_of_length_le (by simp[kR hkr])];rfl⟩⟩
     refine vY _ _ 231 235 (.agg (yR ((⟨#[]⟩,List.replicate 32 0),0))) 34 56 (by rfl) underlying231 entry_i (by kernel_rfl) (by omega) w.heap.size _ _ _ (by rfl) hnew _ (r.length-i) _ (by rfl) ((uO hown6).drop hple hlc) (fun c hc=>ents_one r c (List.mem_of_mem_drop hc)) (by unfold maxLen;omega) (by omega) (by omega) (fun v7 w7 hrow7 hg7 hv7=>?_)
     have hm7:Mod (fun j=>some w4.heap.size=some j) w6 w7:=(Mod.refl _ _).grown hg7 (fun j hj _=>hj)
     have hm7':Mod qJ w4.drew w7:=hm6.trans hm7 (fun j hj e=>by cases e;omega)
     replace hS:=And.intro (hm7.cell (fun e=>by cases e;omega) hS.1) (hS.2.keep hm7 (fun e=>by have e2:=Option.some.inj e;omega))
     have hown7:=sH hown6 hm7 (fun g e e2=>by cases e2;have:=h0.out.lt _ (HG.out _ e).1;omega);have hbb7:=hm7.obj (fun e=>by cases e;omega) hbb6
     have hsz7:=hm7.size;refine hK _ _ hS ?_;clear hK K;try simp only[qC]
     refine qH rfl (fun K hK=>?_);have hto:=owns_to hown7 hple
     refine vY _ _ 231 235 (.agg (yR ((⟨#[]⟩,List.replicate 32 0),0))) 34 56 (by rfl) underlying231 entry_i (by kernel_rfl) (by omega) w0.heap.size _ _ _ (by rfl) hto.1 _ (1+(r.length-i)) _ (by rfl) (uO hrow7) (fun c hc=>by
      rcases List.mem_append.1 hc with hc|hc
      ·exact entL_one _ c hc
      ·exact ents_one r c (List.mem_of_mem_drop hc)) (by unfold maxLen;omega) (by omega) (by omega) (fun v8 w8 hrow8 hg8 hv8=>?_)
     rw[hto.2]at hg8 hv8;have hmo:Mod (fun k=>(Value.slice ra r.length rc).ownBlock=some k) w7 w8:=(Mod.refl _ _).grown hg8 (fun k hk _=>hk)
     have hnb:(Value.slice ra r.length rc).ownBlock≠some b:=fun e=>(HG.out b e).2 rfl
     have hnx:(Value.slice ra r.length rc).ownBlock≠some w.heap.size:=fun e=>by have:=h0.out.lt _ (HG.out _ e).1;omega
     have hb8:=hmo.obj hnb hbb7;replace hS:=And.intro (hmo.cell hnb hS.1) (hS.2.keep hmo hnx);refine hK _ _ hS ?_;clear hK K;simp only[qB]
     refine zP rfl (fun K hK=>?_);refine zR 231 1 v8 hb8 (fun w9 hB9 hm9=>?_) (hoff:=by simp) (h1:=jJ hrow8);refine hK _ _ ?_;clear hK K;simp only[qB]
     have hM7:Mod qJ w w7:=hM5.trans0 hm7'
     have hM8:Mod (fun k=>R k/\k≠b) w w8:=(hM7.mono (S':=fun k=>R k/\k≠b) (fun _ _ h=>h.elim)).trans hmo (fun k hk e=>HG.out k e)
     have hflat:(r.flatMap cD).take (i*34)++(cD (k,size)++(r.flatMap cD).drop (i*34))=(insL k size r).flatMap cD:=by
      rw[ent_take HKY.out,ent_drop HKY.out,HIN.out,List.flatMap_append,List.flatMap_cons]
     have hlen:i+(1+(r.length-i))=(insL k size r).length:=by rw[HIN.out];simp;omega
     rw[hflat,hlen]at hrow8
     have hmem:∀p∈insL k size r,p=(k,size)\/p∈r:=fun p hp=>by
      have:=(ins_perm k size r).mem_iff.1 hp
      rcases List.mem_append.1 this with h1|h1
      ·exact .inr h1
      ·exact .inl (by simpa using h1)
     have HR2:Hid (RAddR asked w0 w (iO b) limit r R k size (.returned (.tuple #[.bool true,.int .i64 0])) w9):=by
      refine⟨by rw[HE2.out],?_⟩;rw[HR.out,HE2.out,if_pos rfl]
      refine RfStep.mk h0.out hRb hrow8 (fun g e=>?_) hM8 (by simpa using hB9) hm9 (fun p hp=>?_) (by omega) (fun p hp=>?_)
      ·have h1:=hrow8.lt g e
       rcases hv8 with hv|hv
       ·exact⟨.inl (HG.out g (hv▸e)).1,(HG.out g (hv▸e)).2⟩
       ·rw[hv]at e;cases e;exact⟨.inr ⟨hM7.size,h1.2⟩,by omega⟩
      ·rcases hmem p hp with rfl|h1
       ·exact hk
       ·exact HKY.out p h1
      ·rcases hmem p hp with rfl|h1
       ·exact⟨by omega,by omega⟩
       ·exact HV.out p h1
     clear hM7 hM8 hflat hlen hrow8 hmem hm7' hm7 hmo hB9 hm9 hS hown5 hown6 hown7 hbb5 hbb6 hbb7 hb8 hg7 hg8 hv7 hv8 hto hnew hrow7 hB6 hm6 hM5 hsd hnb hnx hz hfull hbxlt hblt hcap hsz5 hsz6 hsz7 hs6 hkr hlc hple hrold hsz hub2 hfew
     go_wp2
     all_goals
      go_ret2;exact HR2.out
end
end
section
open Go.RowKit Go.Shelf Go.Proofs.Tryz Go.Lib
abbrev gZ(b:Nat):Value:=iO b
def DsAt(w0 w:iN)(q8 rq wd:Nat)(c:yO)(l:qU)(Ft:iM):Prop:=∃(r:R8L)(R RL:iM),R8At w q8 wd r R/\rH r=c/\RAt w0 w (gZ rq) 1099511627776 l RL/\(∀k,R k->¬RL k)/\(∀k,R k->Ft k)/\(∀k,RL k->Ft k)/\∀k,Ft k->w0.heap.size<=k/\k<w.heap.size
def DStep(w0 w:iN)(q8 rq wd:Nat)(Ft:iM)(w':iN)(c':yO)(l':qU):Prop:=∃F',DsAt w0 w' q8 rq wd c' l' F'/\Mod Ft w w'/\∀k,F' k->Ft k\/gD w w' k
section
variable{w0 w w':iN}{q8 rq wd:Nat}{c c':yO}{l l':qU}{Ft:iM}
theorem DsAt.mod(h:DsAt w0 w q8 rq wd c l Ft):Mod qJ w0 w:=by
 obtain⟨_,_,_,_,_,h,_⟩:=h;exact h.mod
theorem DsAt.lt(h:DsAt w0 w q8 rq wd c l Ft):∀k,Ft k->w0.heap.size<=k/\k<w.heap.size:=by
 obtain⟨_,_,_,_,_,_,_,_,_,h⟩:=h;exact h
theorem DsAt.keep{S:iM}(h:DsAt w0 w q8 rq wd c l Ft)(hm:Mod S w w')(hS:∀k,Ft k->¬S k)(hS0:∀k,k<w0.heap.size->¬S k):DsAt w0 w' q8 rq wd c l Ft:=by
 obtain⟨r,R,RL,h1,h2,h3,h4,h5,h6,h7⟩:=h
 exact⟨r,R,RL,h1.keep hm (fun k hk=>hS k (h5 k hk)),h2,h3.keep hm (fun k hk=>hS k (h6 k hk)) hS0,h4,h5,h6,fun k hk=>⟨(h7 k hk).1,Nat.lt_of_lt_of_le (h7 k hk).2 hm.size⟩⟩
theorem DsAt.keep0(h:DsAt w0 w q8 rq wd c l Ft)(hm:Mod qJ w w'):DsAt w0 w' q8 rq wd c l Ft:=h.keep hm (fun _ _=>id) (fun _ _=>id)
theorem ds_step8{r':R8L}(h3:RAt w0 w (gZ rq) 1099511627776 l RL)(h4:∀k,R k->¬RL k)(h5:∀k,R k->Ft k)(h6:∀k,RL k->Ft k)(h7:∀k,Ft k->w0.heap.size<=k/\k<w.heap.size)(hs:R8Step w q8 wd R w' r'):DStep w0 w q8 rq wd Ft w' (rH r') l:=by
 obtain⟨R',k1,k2,k3⟩:=hs;have hold:=h3.mod.size
 refine⟨fun k=>Ft k\/gD w w' k,⟨r',R',RL,k1,rfl,h3.keep k2 (fun k hk hR=>h4 k hR hk) (fun k hk hR=>by have:=(h7 k (h5 k hR)).1;omega),fun k hk hL=>?_,fun k hk=>(k3 k hk).imp (h5 k) id,fun k hk=>.inl (h6 k hk),fun k hk=>?_⟩,k2.mono (fun k _ h=>h5 k h),fun k hk=>hk⟩
 ·rcases k3 k hk with h|h
  ·exact h4 k h hL
  ·have:=(h7 k (h6 k hL)).2;have:=h.1;omega
 ·rcases hk with hk|hk
  ·exact⟨(h7 k hk).1,Nat.lt_of_lt_of_le (h7 k hk).2 k2.size⟩
  ·exact⟨Nat.le_trans hold hk.1,hk.2⟩
theorem ds_stepL{r:R8L}(h1:R8At w q8 wd r R)(h3:RAt w0 w (gZ rq) 1099511627776 l RL)(h4:∀k,R k->¬RL k)(h5:∀k,R k->Ft k)(h6:∀k,RL k->Ft k)(h7:∀k,Ft k->w0.heap.size<=k/\k<w.heap.size)(hs:RfStep w0 w (gZ rq) 1099511627776 RL w' l'):DStep w0 w q8 rq wd Ft w' (rH r) l':=by
 obtain⟨RL',k1,k2,k3⟩:=hs;have hold:=h3.mod.size
 refine⟨fun k=>Ft k\/gD w w' k,⟨r,R,RL',h1.keep k2 (fun k hk hR=>h4 k hk hR),rfl,k1,fun k hk hL=>?_,fun k hk=>.inl (h5 k hk),fun k hk=>(k3 k hk).imp (h6 k) id,fun k hk=>?_⟩,k2.mono (fun k _ h=>h6 k h),fun k hk=>hk⟩
 ·rcases k3 k hL with h|h
  ·exact h4 k hk h
  ·have:=(h7 k (h5 k hk)).2;have:=h.1;omega
 ·rcases hk with hk|hk
  ·exact⟨(h7 k hk).1,Nat.lt_of_lt_of_le (h7 k hk).2 k2.size⟩
  ·exact⟨Nat.le_trans hold hk.1,hk.2⟩
theorem DsAt.put(h:DsAt w0 w q8 rq wd c l Ft)(hs:SortedB c){own:Bool}{m:iK}(hv:Sl own w G 1 yA v m)(hm:m.length<=4096)(hfew:c.length<=1000):
 Calls prog 81 #[gZ q8,.agg (qA (xI wd m)),v] w (fun e w'=>(∃v,e=.returned v)/\DStep w0 w q8 rq wd Ft w' (putR (xI wd m) m c) l):=by
 obtain⟨r,R,RL,h1,rfl,h3,h4,h5,h6,h7⟩:=h;refine(r8Put_any h1 (contR_sort.1 hs) hv hm (by rw[contR_len]at hfew;exact hfew)).mono ?_;rintro e w' ⟨h8,r',h9,h10⟩
 rw[<-h10];exact⟨h8,ds_step8 h3 h4 h5 h6 h7 h9⟩
theorem DsAt.add(h:DsAt w0 w q8 rq wd c l Ft)(hs:SortedL l)(k:uN)(hk:kH k)(hsz:k.1.size<=maxLen)(size:Int):Calls prog 112 #[gZ rq,.string k.1,.agg (qA k.2),.int .i64 size,.bool false] w (fun e w'=>(∃v,e=.returned v)/\DStep w0 w q8 rq wd Ft w' c (addR false 1099511627776 l k size)):=by
 obtain⟨r,R,RL,h1,rfl,h3,h4,h5,h6,h7⟩:=h;exact(refAdd_at h3 hs k hk hsz size false).mono fun e w' h=>⟨⟨_,h.1⟩,ds_stepL h1 h3 h4 h5 h6 h7 h.2⟩
end
def rlayZ(wd:Nat)(L:List iK)(l:qU)(a b:Int):qU:=
 let m:=L.getD (rE b L.length).toNat []
 addR false 1099511627776 l (eS a,xI wd m) m.length
def rlOf(wd:Nat)(L:List iK)(K:List Int)(j:Nat):qU:=(List.range j).foldl (fun l i=>rlayZ wd L l (K.getD (2*i) 0) (K.getD (2*i+1) 0)) []
theorem rlOf_snoc(wd:Nat)(L:List iK)(K:List Int)(j:Nat):rlOf wd L K (j+1)=rlayZ wd L (rlOf wd L K j) (K.getD (2*j) 0) (K.getD (2*j+1) 0):=by
 unfold rlOf;rw[List.range_succ,List.foldl_append]
 rfl
theorem rlOf_ref(wd:Nat)(L:List iK)(K:List Int):∀j,RefOf (rlOf wd L K j) (lOf wd L K j)
 |0=>⟨.nil,.refl _⟩
 |j+1=>by
  rw[rlOf_snoc,lOf_snoc];exact(rlOf_ref wd L K j).add false 1099511627776 _ _
theorem rOf_len(wd:Nat)(L:List iK):(rOf wd L).length<=L.length:=by
 rw[(rOf_ref wd L).perm.length_eq];have:=cOf_len wd L [];unfold cOf
 simpa using this
theorem RAt.base{q:Value}{limit:Int}{r:qU}(hm:Mod qJ w0 w1)(h:RAt w1 w q limit r R):RAt w0 w q limit r R:=by
 obtain⟨h1,⟨b,v,h2,h3,h4,h5⟩,h6,h7,h8,h9,h10⟩:=h
 exact⟨hm.trans0 h1,⟨b,v,h2,h3,uT h4 hm.size,h5⟩,h6,h7,h8,fun k hk=>Nat.le_trans hm.size (h9 k hk),h10⟩
theorem DsAt.base{w0 w1 w:iN}{q8 rq wd:Nat}{c:yO}{l:qU}{Ft:iM}(hm:Mod qJ w0 w1)(h:DsAt w1 w q8 rq wd c l Ft):DsAt w0 w q8 rq wd c l Ft:=by
 obtain⟨r,R,RL,h1,h2,h3,h4,h5,h6,h7⟩:=h;exact⟨r,R,RL,h1,h2,h3.base hm,h4,h5,h6,fun k hk=>⟨Nat.le_trans hm.size (h7 k hk).1,(h7 k hk).2⟩⟩
theorem DStep.to{c':yO}{l':qU}(h:DStep w0 w q8 rq wd Ft w' c' l'):∃F',DsAt w0 w' q8 rq wd c' l' F':=by
 obtain⟨F',h1,_⟩:=h;exact⟨F',h1⟩
def OursR(w:iN)(wd:Nat)(L:List iK)(K:List Int):iJ:=fun e w'=>
 ∃q8 rq,e=.returned (.tuple #[gZ q8,gZ rq])/\∃Ft,DsAt w w' q8 rq wd (rOf wd L) (rlOf wd L K (sC L K)) Ft
def OurRel1(w1:iN)(q8 rq wd:Nat)(L:List iK)(i:Value)(w:iN):Prop:=∃k:Nat,k<=L.length/\i=.int .i64 k/\∃Ft,DsAt w1 w q8 rq wd (rOf wd (L.take k)) [] Ft
def OurRel2(w1:iN)(q8 rq wd:Nat)(L:List iK)(K:List Int)(i:Value)(w:iN):Prop:=∃j n:Nat,n=2*j/\j<=sC L K/\i=.int .i64 (n:Nat)/\∃Ft,DsAt w1 w q8 rq wd (rOf wd L) (rlOf wd L K j) Ft
theorem ours27_any{wd:Int}(hwd:I64 wd){lv kv:Value}{L:List iK}{KK:List Int}(hlv:LsAt w lv L)(hkv:Sl false w kV 1 dH kv KK)(hL:L.length<=1000)(hL2:∀b∈L,b.length<=4096)(hkl:KK.length<=1000)(hK2:∀x∈KK,I64 x):
 Calls prog 44 #[.agg #[.int .i64 wd,lv,kv]] w (OursR w (bO wd) L KK):=by
 have hwz:=widZ_ok wd;have hwid:=fun w'=>width_any wd hwd lv kv (Sl.one hlv) (Sl.one hkv) w';have hl1:=Sl.one hlv;have hk1:=Sl.one hkv
 obtain⟨lad,lcap,hle,-,-⟩:=Sl.at hlv;obtain⟨kad,kcap,hke,-,-⟩:=Sl.at hkv;have HLV:=O hlv;have HKV:=O hkv;clear hlv hkv;rw[hle]at HLV hwid hl1
 rw[hke]at HKV hwid hk1;subst hle hke;generalize hwn:bO wd=wn at*;clear hwn;go_enter func44,ntmps44;go_upto_region 0 with(fail);refine qL [1,3,3] ?_;simp only[qB]
 refine qK (zT 68 (fun w1 hB1 hm1 hs1=>?_))
 replace hB1:w1.heap[w.heap.size]?=some (.cells #[.int .i64 wd,.slice lad L.length lcap,.slice kad KK.length kcap] 68 (0,0)):=hB1;simp only[qB]
 have HLV1:=O (kN HLV.out hm1);have HKV1:=O (HKV.out.keep0 hm1)
 have hcH:CellsAt w1 w.heap.size 0 #[.int .i64 wd,.slice lad L.length lcap,.slice kad KK.length kcap]:=CellsAt.whole hB1;have hnew:=fun w'=>r8New_any wn hwz w'
 go_upto_region 1 with(fail);refine qL [1,1,1,3,3,3,3,3] ?_;simp only[qB];refine qY 68 hcH 3 rfl ?_;try simp only[qC]
 refine qK (pL func108 (hwid _) fun w2 hm2=>?_);try simp only[qC]
 refine qK (xE func80 (hnew _) ?_);rintro e w3 ⟨q8,R8,rfl,hst3,hm3,hsf3⟩;refine⟨_,rfl,?_⟩;simp only[qB];refine jQ (iO q8) ?_;simp only[qC]
 refine jQ (.int .i64 0) ?_;simp only[qB];have hqn:=refNew_at 1099511627776 w1 (by omega) w3 (hm2.trans0 hm3);go_upto_region 2 with(fail);refine qL [1,3,3,3,3,3] ?_
 simp only[qB];refine qK (xE func111 (hqn) ?_);rintro e w4 ⟨rq,RL,rfl,hlk4,hm4,hF4⟩;refine⟨_,rfl,?_⟩;simp only[qB];refine jQ (iO rq) ?_
 simp only[qC];refine jQ (.int .i64 0) ?_;simp only[qB];have hm14:=hm2.trans0 (hm3.trans0 hm4)
 have hH0:∃Ft,DsAt w1 w4 q8 rq wn (rOf wn (L.take 0)) [] Ft:=by
  refine⟨fun k=>R8 k\/RL k,[],R8,RL,hst3.keep0 hm4,rfl,hlk4,fun k hk hf=>?_,fun k hk=>.inl hk,fun k hk=>.inr hk,fun k hk=>?_⟩
  ·have h1:=hst3.lt k hk
   have h2:=hF4 k hf;omega
  ·rcases hk with hk|hk
   ·have h1:=hsf3 k hk
    have h2:=hst3.lt k hk;have h3:=hm2.size;have h4:=hm4.size;omega
   ·exact⟨hlk4.old k hk,hlk4.lt k hk⟩
 have HR0:Hid (OurRel1 w1 q8 rq wn L (.int .i64 (0:Nat)) w4):=O ⟨0,Nat.zero_le _,rfl,hH0⟩;have hbH:=hB1;clear hH0 hst3 hm3 hsf3 hqn hlk4 hm4 hF4 hm2 hcH hnew hB1 hm14
 have hs1':w.heap.size<w1.heap.size:=hs1;generalize hhb2:w.heap.size=hb at*;go_wp2
 go_loopw [8] (OurRel1 w1 q8 rq wn L) (fun i _=>L.length-(intOf i).toNat)
 case atStart=>exact HR0.out
 case round=>
  rename iN=>wr
  obtain⟨k,hk,rfl,Ft,hat⟩:=hrel;have hmr:=hat.mod;have hFn:=fun q hq=>(hat.lt q hq).1;have hbr:=hmr.obj id hbH
  have hcl:wr.cell? ⟨hb,1,none⟩=some (.slice lad L.length lcap):=by simp[World.cell?,hbr]
  have hcl0:wr.cell? ⟨hb,0+1,none⟩=some (.slice lad L.length lcap):=hcl
  by_cases hlt:k<L.length
  ·have hz:(k:Int)<(L.length:Nat):=by omega
   obtain⟨_,_,hae,-,hatL⟩:=(kN HLV1.out hmr).at;injection hae with hae1 hae2 hae3;subst hae1 hae3;obtain⟨b,off,rfl,-,-,hcc⟩:=hatL k hlt
   obtain⟨cs,-,⟨vk,rfl,hvk⟩,hcA⟩:=hcc k hlt;have hck:=CellsAt.one.1 hcA;have hbw:b<w1.heap.size:=sl_lt HLV1.out hlt;have hmk:=hL2 _ (List.getElem_mem hlt)
   have hsn:=rOf_snoc wn L k hlt;have hcn:(rOf wn (L.take k)).length<=1000:=Nat.le_trans (rOf_len wn (L.take k)) (by simp;omega);have hso:=(rOf_ref wn (L.take k)).sorted
   generalize L[k]=m at*;obtain⟨va,vc,hve,-,-⟩:=Sl.at hvk;have HVK:=O hvk;rw[hve]at HVK hck;have HSN:=O hsn
   have hrc:CellsAt wr hb 0 #[.int .i64 wd,.slice (some ⟨b,off,none⟩) L.length lcap,.slice kad KK.length kcap]:=CellsAt.whole hbr
   have href:=fun w' (hm:Mod qJ wr w')=>cN (HVK.out.keep0 hm) (by omega) wn hwz.1 hwz.2;have hdi:(xI wn m).length=32:=tF hwz.2
   have hic:(qA (xI wn m)).size=32:=by rw[qD,hdi]
   clear hsn hatL hcc hcA hae2 hve hvk;go_upto_region 6 with(fail)
   go_cut [9] (fun s wx=>IdBox wr (xI wn m) s wx)
   case first=>
    have hS:Mod qJ wr wr.drew:=(Mod.refl _ _).drew;have hT:Mod qJ wr wr.drew:=(Mod.refl _ _).drew
    refine yU [(0,3),(1,0),(2,3),(3,3),(4,0),(5,0)] 7 [(13,3)] [] (fun w'=>Mod qJ wr w') #[true,true,true,true,true,true,false,false,false,false,false,false,false,false] (by kernel_rfl) (by kernel_rfl) (by kernel_rfl) (by kernel_rfl) (by kernel_rfl) (fun _ _ _ _ hd h=>⟨hd.trans h.1,h.2⟩) hS ?_
    simp only[qB];refine qE 22 (fun w' hS=>hS.cell id hcl0) ?_;simp only[qB];refine zC 22 1 hlt ?_;simp only[qC];refine qE 53 (fun w' hS=>hS.cell id hck) ?_
    simp only[qC];refine zJ 68 (fun w' hS=>hrc.keep hS id) 3 rfl ?_;simp only[qB];refine qO [6,11] (by kernel_rfl) ?_
    simp only[zz3,false_implies,implies_true];refine⟨?_,?_⟩
    ·intro K hK
     simp only[zz5];refine xE func108 (hwid _) ?_;rintro e w5 ⟨rfl,hm5⟩
     try replace hB4:=hm5.obj id hB4
     replace hT:=hT.trans0 hm5;clear hm5;refine⟨_,rfl,hK _ _ hT ?_⟩;clear hK K;try simp only[qC]
     refine qO [7,11] (by kernel_rfl) ?_;simp only[zz3,false_implies,implies_true];refine⟨?_,?_⟩
     ·intro K hK
      simp only[zz5];refine xE func79 (href _ hT) ?_;rintro e w6 ⟨rfl,hm6⟩
      try replace hB4:=hm6.obj id hB4
      replace hT:=hT.trans0 hm6;clear hm6;refine⟨_,rfl,hK _ _ hT ?_⟩;clear hK K;try simp only[qC]
      refine zL 8 (.tuple #[.agg (qA (xI wn m)),.int .i64 0]) (by kernel_rfl) (fun _ _ _ _ hd h=>⟨hd.trans h.1,h.2⟩) (fun w'=>by simp only[zz5];exact pH _ rfl (.tuple #[.agg (qA (xI wn m)),.int .i64 0]) rfl) hT ?_
      simp only[zz5];try simp only[qC]
      refine zL 9 (.agg (qA (xI wn m))) (by kernel_rfl) (fun _ _ _ _ hd h=>⟨hd.trans h.1,h.2⟩) (fun w'=>by simp only[zz5];exact xH _ 0 #[.agg (qA (xI wn m)),.int .i64 0] rfl rfl (.agg (qA (xI wn m))) rfl) hT ?_
      simp only[zz5];try simp only[qC]
      refine zL 10 (.int .i64 0) (by kernel_rfl) (fun _ _ _ _ hd h=>⟨hd.trans h.1,h.2⟩) (fun w'=>by simp only[zz5];exact xH _ 1 #[.agg (qA (xI wn m)),.int .i64 0] rfl rfl (.int .i64 0) rfl) hT ?_
      simp only[zz5];try simp only[qC]
      refine qO [11] (by kernel_rfl) ?_;simp only[zz3,false_implies,implies_true];intro K hK;simp only[zz5]
      refine jF 24 _ (by rfl) eC (fun b9 w7 hbe hB4 hm7 hs7=>?_);replace hB4:w7.heap[b9]?=some (.cells (qA (List.replicate 32 0)) 24 (0,0)):=hB4
      have hbn:wr.heap.size<=b9:=by rw[hbe];exact hT.size
      replace hT:=hT.trans0 hm7;clear hm7 hbe hs7;refine hK _ _ hT ?_;clear hK K;try simp only[qC]
      refine qO [12] (by kernel_rfl) ?_;simp only[zz3,false_implies,implies_true];intro K hK;simp only[zz5]
      refine qT 24 (qA (xI wn m)) (qQ _) 32 hic hB4 (fun w8 hB8 hm8=>?_) (hoff:=by rw[hic,qD];rfl)
      replace hT:Mod qJ wr w8:=hT.transB hm8 hbn;clear hB4 hm8;have hB4:=hB8;clear hB8;refine hK _ _ hT ?_;clear hK K;try simp only[qC]
      refine xB ?_;try simp only[zz4]
      simp only[qB];go_wp2
      go_meet
      case rel=>exact⟨b9,rfl,hbn,hB4,hT⟩
     ·intro K hK
      simp only[zz5];refine jF 24 _ (by rfl) eC (fun b9 w7 hbe hB4 hm7 hs7=>?_)
      replace hB4:w7.heap[b9]?=some (.cells (qA (List.replicate 32 0)) 24 (0,0)):=hB4;have hbn:wr.heap.size<=b9:=by rw[hbe];exact hT.size
      replace hT:=hT.trans0 hm7;clear hm7 hbe hs7;refine hK _ _ hT ?_;clear hK K;try simp only[qC]
      refine qO [7] (by kernel_rfl) ?_;simp only[zz3,false_implies,implies_true];intro K hK;simp only[zz5];refine xE func79 (href _ hT) ?_;rintro e w6 ⟨rfl,hm6⟩
      try replace hB4:=hm6.obj id hB4
      replace hT:=hT.trans0 hm6;clear hm6;refine⟨_,rfl,hK _ _ hT ?_⟩;clear hK K;try simp only[qC]
      refine zL 8 (.tuple #[.agg (qA (xI wn m)),.int .i64 0]) (by kernel_rfl) (fun _ _ _ _ hd h=>⟨hd.trans h.1,h.2⟩) (fun w'=>by simp only[zz5];exact pH _ rfl (.tuple #[.agg (qA (xI wn m)),.int .i64 0]) rfl) hT ?_
      simp only[zz5];try simp only[qC]
      refine zL 9 (.agg (qA (xI wn m))) (by kernel_rfl) (fun _ _ _ _ hd h=>⟨hd.trans h.1,h.2⟩) (fun w'=>by simp only[zz5];exact xH _ 0 #[.agg (qA (xI wn m)),.int .i64 0] rfl rfl (.agg (qA (xI wn m))) rfl) hT ?_
      simp only[zz5];try simp only[qC]
      refine zL 10 (.int .i64 0) (by kernel_rfl) (fun _ _ _ _ hd h=>⟨hd.trans h.1,h.2⟩) (fun w'=>by simp only[zz5];exact xH _ 1 #[.agg (qA (xI wn m)),.int .i64 0] rfl rfl (.int .i64 0) rfl) hT ?_
      simp only[zz5];try simp only[qC]
      refine qO [12] (by kernel_rfl) ?_;simp only[zz3,false_implies,implies_true];intro K hK;simp only[zz5]
      refine qT 24 (qA (xI wn m)) (qQ _) 32 hic hB4 (fun w8 hB8 hm8=>?_) (hoff:=by rw[hic,qD];rfl)
      replace hT:Mod qJ wr w8:=hT.transB hm8 hbn;clear hB4 hm8;have hB4:=hB8;clear hB8;refine hK _ _ hT ?_;clear hK K;try simp only[qC]
      refine xB ?_;try simp only[zz4]
      simp only[qB];go_wp2
      go_meet
      case rel=>exact⟨b9,rfl,hbn,hB4,hT⟩
    ·intro K hK
     simp only[zz5];refine jF 24 _ (by rfl) eC (fun b9 w7 hbe hB4 hm7 hs7=>?_)
     replace hB4:w7.heap[b9]?=some (.cells (qA (List.replicate 32 0)) 24 (0,0)):=hB4;have hbn:wr.heap.size<=b9:=by rw[hbe];exact hT.size
     replace hT:=hT.trans0 hm7;clear hm7 hbe hs7;refine hK _ _ hT ?_;clear hK K;try simp only[qC]
     refine qO [6] (by kernel_rfl) ?_;simp only[zz3,false_implies,implies_true];intro K hK;simp only[zz5];refine xE func108 (hwid _) ?_;rintro e w5 ⟨rfl,hm5⟩
     try replace hB4:=hm5.obj id hB4
     replace hT:=hT.trans0 hm5;clear hm5;refine⟨_,rfl,hK _ _ hT ?_⟩;clear hK K;try simp only[qC]
     refine qO [7] (by kernel_rfl) ?_;simp only[zz3,false_implies,implies_true];intro K hK;simp only[zz5];refine xE func79 (href _ hT) ?_;rintro e w6 ⟨rfl,hm6⟩
     try replace hB4:=hm6.obj id hB4
     replace hT:=hT.trans0 hm6;clear hm6;refine⟨_,rfl,hK _ _ hT ?_⟩;clear hK K;try simp only[qC]
     refine zL 8 (.tuple #[.agg (qA (xI wn m)),.int .i64 0]) (by kernel_rfl) (fun _ _ _ _ hd h=>⟨hd.trans h.1,h.2⟩) (fun w'=>by simp only[zz5];exact pH _ rfl (.tuple #[.agg (qA (xI wn m)),.int .i64 0]) rfl) hT ?_
     simp only[zz5];try simp only[qC]
     refine zL 9 (.agg (qA (xI wn m))) (by kernel_rfl) (fun _ _ _ _ hd h=>⟨hd.trans h.1,h.2⟩) (fun w'=>by simp only[zz5];exact xH _ 0 #[.agg (qA (xI wn m)),.int .i64 0] rfl rfl (.agg (qA (xI wn m))) rfl) hT ?_
     simp only[zz5];try simp only[qC]
     refine zL 10 (.int .i64 0) (by kernel_rfl) (fun _ _ _ _ hd h=>⟨hd.trans h.1,h.2⟩) (fun w'=>by simp only[zz5];exact xH _ 1 #[.agg (qA (xI wn m)),.int .i64 0] rfl rfl (.int .i64 0) rfl) hT ?_
     simp only[zz5];try simp only[qC]
     refine qO [12] (by kernel_rfl) ?_;simp only[zz3,false_implies,implies_true];intro K hK;simp only[zz5]
     refine qT 24 (qA (xI wn m)) (qQ _) 32 hic hB4 (fun w8 hB8 hm8=>?_) (hoff:=by rw[hic,qD];rfl)
     replace hT:Mod qJ wr w8:=hT.transB hm8 hbn;clear hB4 hm8;have hB4:=hB8;clear hB8;refine hK _ _ hT ?_;clear hK K;try simp only[qC]
     refine xB ?_;try simp only[zz4]
     simp only[qB];go_wp2
     go_meet
     case rel=>exact⟨b9,rfl,hbn,hB4,hT⟩
   case rest=>
    rename iN=>w8
    obtain⟨ib,rfl,hib,hB8,hS8⟩:=hcut;have hib8:ib<w8.heap.size:=(Array.getElem?_eq_some_iff.1 hB8).1;have hat8:=hat.keep0 hS8
    have hlt8:=fun q hq=>(hat.lt q hq).2;have hput:=fun(w':iN)(hm:Mod qJ w8 w')=>(hat8.keep0 hm).put hso (HVK.out.keep0 (hS8.trans0 hm)) hmk hcn
    have hcl8:=hS8.cell id hcl0;have hck8:=hS8.cell id hck;have hci8:CellsAt w8 ib 0 (qA (xI wn m)):=CellsAt.whole hB8;have hm18:=hmr.trans0 hS8
    clear href hrc hbr hcl hcl0 hck hB8;go_upto_region 7 with(fail);have hnF:¬Ft ib:=fun e=>by have:=hlt8 _ e;omega
    have hS:CellsAt w8.drew ib 0 (qA (xI wn m))/\w8.drew.cell? ⟨hb,0+1,none⟩=some (.slice (some ⟨b,off,none⟩) L.length lcap)/\w8.drew.cell? ⟨b,off+k*1,none⟩=some (.slice va m.length vc)/\Mod Ft w8 w8.drew:=⟨hci8,hcl8,hck8,(Mod.refl _ _).drew⟩
    have hfin:=hput w8.drew ((Mod.refl _ _).drew);have hhb1:hb<w1.heap.size:=hs1';have hb1:b<w1.heap.size:=hbw
    have hnH:¬Ft hb:=fun e=>by have:=hFn _ e;omega
    have hnb:¬Ft b:=fun e=>by have:=hFn _ e;omega
    refine zZ [3,0,3,0,3,3,0,1] [] (fun w'=>CellsAt w' ib 0 (qA (xI wn m))/\w'.cell? ⟨hb,0+1,none⟩=some (.slice (some ⟨b,off,none⟩) L.length lcap)/\w'.cell? ⟨b,off+k*1,none⟩=some (.slice va m.length vc)/\Mod Ft w8 w') hS ?_
    simp only[qB];refine zJ 24 (fun w' hS=>hS.1) 32 hic ?_;simp only[qB];refine qE 22 (fun w' hS=>hS.2.1) ?_;simp only[qB];refine zC 22 1 hlt ?_;simp only[qC]
    refine qE 53 (fun w' hS=>hS.2.2.1) ?_;simp only[qC];refine qH rfl (fun K hK=>?_);refine xE func81 (hfin) ?_;rintro e w9 ⟨⟨v9,rfl⟩,hst9⟩
    have hmd:Mod Ft w8.drew w9:=by obtain⟨_,_,h2,_⟩:=hst9;exact h2
    have hS9:CellsAt w9 ib 0 (qA (xI wn m))/\w9.cell? ⟨hb,0+1,none⟩=some (.slice (some ⟨b,off,none⟩) L.length lcap)/\w9.cell? ⟨b,off+k*1,none⟩=some (.slice va m.length vc)/\Mod Ft w8 w9:=⟨hci8.keep hmd hnF,hmd.cell hnH hcl8,hmd.cell hnb hck8,hS.2.2.2.trans hmd (fun _ _ h=>h)⟩
    have hns9:=hst9.to;have HR:Hid (OurRel1 w1 q8 rq wn L (.int .i64 ((k+1:Nat):Int)) w9):=O ⟨k+1,by omega,rfl,by rw[HSN.out];exact hns9⟩
    refine⟨_,rfl,hK _ _ hS9 ?_⟩;clear hK K;simp only[qB];clear hS hS9 hmd hst9 hfin hput hci8 hcl8 hck8 hat8;go_wp2
    go_roundw
    case rel=>exact HR.out
    case measure=>simp[intOf];omega
  ·have hz:¬(k:Int)<(L.length:Nat):=by omega
   obtain rfl:k=L.length:=by omega
   rw[List.take_length]at hat;have HR0:Hid (OurRel2 w1 q8 rq wn L KK (.int .i64 (0:Nat)) wr):=O ⟨0,0,rfl,Nat.zero_le _,rfl,Ft,hat⟩;clear hat hFn hmr hbr hcl0
   go_wp2;clear hcl
   go_loopw [11] (OurRel2 w1 q8 rq wn L KK) (fun i _=>KK.length+1-(intOf i).toNat)
   case atStart=>exact HR0.out
   case round=>
    rename iN=>wr
    obtain⟨j,n,hn,hj,rfl,Ft,hat⟩:=hrel;have hmr:=hat.mod;have hFn:=fun q hq=>(hat.lt q hq).1;have HN:=O hn;have HJ:=O hj;have hbr:=hmr.obj id hbH
    have hcl:wr.cell? ⟨hb,1,none⟩=some (.slice lad L.length lcap):=by simp[World.cell?,hbr]
    have hcl0:wr.cell? ⟨hb,0+1,none⟩=some (.slice lad L.length lcap):=hcl
    have hck:wr.cell? ⟨hb,2,none⟩=some (.slice kad KK.length kcap):=by simp[World.cell?,hbr]
    have hck0:wr.cell? ⟨hb,0+2,none⟩=some (.slice kad KK.length kcap):=hck
    have hHc:CellsAt wr hb 0 #[.int .i64 wd,.slice lad L.length lcap,.slice kad KK.length kcap]:=CellsAt.whole hbr;clear hn hj
    by_cases hlt:n+1<KK.length
    ·have hz:(n:Int)+1<(KK.length:Nat):=by omega
     by_cases hL0:0<L.length
     ·have hz0:(L.length:Int)>0:=by omega
      obtain⟨_,_,hae,-,hatK⟩:=(HKV1.out.keep0 hmr).at;injection hae with hae1 hae2 hae3;subst hae1 hae3;obtain⟨kb,koff,rfl,-,-,hkc⟩:=hatK n (by omega)
      obtain⟨cs,-,rfl,hk0A⟩:=hkc n (by omega);obtain⟨cs,-,rfl,hk1A⟩:=hkc (n+1) hlt;have hk0c:=CellsAt.one.1 hk0A;have hk1c:=CellsAt.one.1 hk1A
      have hi0:=hK2 _ (List.getElem_mem (show n<KK.length by omega));have hi1:=hK2 _ (List.getElem_mem hlt);have hlo:=rlOf_snoc wn L KK j;rw[<-HN.out]at hlo
      have hg0:KK.getD n 0=KK[n]:=by rw[List.getD_eq_getElem?_getD,List.getElem?_eq_getElem (by omega)];rfl
      have hg1:KK.getD (n+1) 0=KK[n+1]:=by rw[List.getD_eq_getElem?_getD,List.getElem?_eq_getElem hlt];rfl
      rw[hg0,hg1]at hlo;generalize KK[n]=x0 at*;generalize KK[n+1]=x1 at*;have hpl:=eU x1 L.length (by omega)
      have hpk:=fun w'=>pick_any x1 L.length hi1 (by omega) w';unfold rlayZ at hlo;obtain⟨p,hp⟩:∃p:Nat,rE x1 L.length=p:=⟨(rE x1 L.length).toNat,by omega⟩
      rw[hp]at hpl hlo;simp only[hp]at hpk;have hpL:p<L.length:=by omega
      have hgm:L.getD (p:Int).toNat []=L[p]:=by rw[Int.toNat_natCast,List.getD_eq_getElem?_getD,List.getElem?_eq_getElem hpL];rfl
      simp only[hgm]at hlo;obtain⟨_,_,hae,-,hatL⟩:=(kN HLV1.out hmr).at;injection hae with hae1 hae2' hae3;subst hae1 hae3
      obtain⟨b,off,rfl,-,-,hcc⟩:=hatL p hpL;obtain⟨cs,-,⟨vk,rfl,hvk⟩,hcA⟩:=hcc p hpL;have hcb:=CellsAt.one.1 hcA;have hmk:=hL2 _ (List.getElem_mem hpL)
      generalize L[p]=m at*;obtain⟨va,vc,hve,-,-⟩:=Sl.at hvk;have HVK:=O hvk;rw[hve]at HVK hcb;have HLO:=O hlo
      have hbw:kb<w1.heap.size:=sl_lt HKV1.out (show n<KK.length by omega);clear hlo hatK hkc hk0A hk1A hae2 hae2' hatL hcc hcA hve hvk hp hpl hg0 hg1 hgm
      go_upto_region 11 with(fail);have hS:Mod qJ wr wr.drew:=(Mod.refl _ _).drew
      refine zZ [3,0,3,0,3,3,3,0,3,0,3,1,3,0,3] [] (fun w'=>Mod qJ wr w') hS ?_;simp only[qB];refine qE 22 (fun w' hS=>hS.cell id hcl0) ?_
      simp only[qB];refine qE 64 (fun w' hS=>hS.cell id hck0) ?_;simp only[qB];refine jH ((n+1:Nat):Int) ?_;simp only[qC];refine zC 64 1 hlt ?_
      simp only[qC];refine qE 3 (fun w' hS=>hS.cell id hk1c) ?_;simp only[qB];refine qE 22 (fun w' hS=>hS.cell id hcl0) ?_;simp only[qC];refine xF ?_
      simp only[qC];refine qH rfl (fun K hK=>?_);refine xE func17 (hpk _) ?_;rintro e w2 ⟨rfl,hw2⟩;obtain rfl:=hw2.symm;refine⟨_,rfl,hK _ _ hS ?_⟩;clear hK K
      try simp only[qC]
      refine zC 22 1 hpL ?_;simp only[qC];refine qE 53 (fun w' hS=>hS.cell id hcb) ?_;simp only[qB];have hm1c:=hmr.trans0 hS;have hat1:=hat.keep0 hS
      have hHc1:=hHc.keep hS id;have hk0c1:=hS.cell id hk0c;have hck1:=hS.cell id hck0;have HVK1:=O (HVK.out.keep0 hS);generalize wr.drew=wq at*
      have href:=fun w' (hm:Mod qJ wq w')=>cN (HVK1.out.keep0 hm) (by omega) wn hwz.1 hwz.2;have hdi:(xI wn m).length=32:=tF hwz.2
      have hic:(qA (xI wn m)).size=32:=by rw[qD,hdi]
      clear hcl hcl0 hck hck0 hbr hHc hk0c hk1c hcb HVK hS hpk hat hmr hw2;go_upto_region 12 with(fail);refine qL [3,1,1,1,3,3,3,1,1,3] ?_;simp only[qB]
      refine qY 68 hHc1 3 rfl ?_;try simp only[qC]
      refine qK (pL func108 (hwid _) fun w5 hm5=>?_);try simp only[qC]
      refine qK (pL func79 (href _ hm5) fun w6 hm6=>?_);simp only[qB];refine jQ (.agg (qA (xI wn m))) ?_;simp only[qC];refine jQ (.int .i64 0) ?_
      simp only[qC];refine qK (zB eC (fun w7 hB7 hm7 hs7=>?_));try simp only[qC]
      refine qK (qT 24 (qA (xI wn m)) (qQ _) 32 hic hB7 (fun w8 hB8 hm8=>?_) (hoff:=by rw[hic,qD];simp));simp only[qB]
      have hS6:Mod qJ wq w6:=hm5.trans0 hm6;have hS8:Mod qJ wq w8:=(hS6.trans0 hm7).transB hm8 hS6.size;have hib6:=hS6.size
      have hib8:w6.heap.size<w8.heap.size:=(Array.getElem?_eq_some_iff.1 hB8).1;generalize hib:w6.heap.size=ib at*;have hat8:=hat1.keep0 hS8
      have hlt1:=fun q hq=>(hat1.lt q hq).2
      have hlay:=fun(w':iN)(hm:Mod qJ w8 w')=>(hat8.keep0 hm).add (rlOf_ref wn L KK j).sorted (eS x0,xI wn m) hdi (repoZ_size x0) (m.length:Nat)
      simp only[<-HLO.out]at hlay;have hci8:CellsAt w8 ib 0 (qA (xI wn m)):=CellsAt.whole hB8;have hk08:=hS8.cell id hk0c1;have hck8:=hS8.cell id hck1
      have hm18:=hm1c.trans0 hS8;have hrep:=fun w'=>repo_any x0 hi0 w';clear hS6 hS8 hm5 hm6 hm7 hm8 hB7 hs7 href hHc1 hB8 hat1 hk0c1 hck1;go_upto_region 13 with(fail)
      have hnF:¬Ft ib:=fun e=>by have:=hlt1 _ e;omega
      have hnH:¬Ft hb:=fun e=>by have:=hFn _ e;omega
      have hnb:¬Ft kb:=fun e=>by have:=hFn _ e;omega
      have hS:CellsAt w8.drew ib 0 (qA (xI wn m))/\w8.drew.cell? ⟨hb,0+2,none⟩=some (.slice (some ⟨kb,koff,none⟩) KK.length kcap)/\w8.drew.cell? ⟨kb,koff+n*1,none⟩=some (.int .i64 x0)/\Mod Ft w8 w8.drew:=⟨hci8,hck8,hk08,(Mod.refl _ _).drew⟩
      have hnlt:n<KK.length:=by omega
      refine cH [(0,3),(1,3),(2,0),(3,3),(4,3),(5,0),(7,0),(8,3),(9,3),(6,1),(10,1)] [] (fun w'=>CellsAt w' ib 0 (qA (xI wn m))/\w'.cell? ⟨hb,0+2,none⟩=some (.slice (some ⟨kb,koff,none⟩) KK.length kcap)/\w'.cell? ⟨kb,koff+n*1,none⟩=some (.int .i64 x0)/\Mod Ft w8 w') hS ?_
      simp only[qB];refine qE 64 (fun w' hS=>hS.2.1) ?_;simp only[qB];refine zC 64 1 hnlt ?_;simp only[qC];refine qE 3 (fun w' hS=>hS.2.2.1) ?_;simp only[qC]
      refine zJ 24 (fun w' hS=>hS.1) 32 hic ?_;simp only[qB];refine xF ?_;simp only[qC];refine qH rfl (fun K hK=>?_);refine xE func69 (hrep _) ?_
      rintro e w9 ⟨rfl,hm9⟩;have hm89:Mod qJ w8 w9:=((Mod.refl qJ w8).drew).trans0 hm9
      have hS9:CellsAt w9 ib 0 (qA (xI wn m))/\w9.cell? ⟨hb,0+2,none⟩=some (.slice (some ⟨kb,koff,none⟩) KK.length kcap)/\w9.cell? ⟨kb,koff+n*1,none⟩=some (.int .i64 x0)/\Mod Ft w8 w9:=⟨hci8.keep hm89 id,hm89.cell id hck8,hm89.cell id hk08,hm89.mono (fun _ _ h=>h.elim)⟩
      have hfin:=hlay w9 hm89;refine⟨_,rfl,hK _ _ hS9 ?_⟩;clear hK K;try simp only[qC]
      refine qH rfl (fun K hK=>?_);refine xE func112 (hfin) ?_;rintro e w10 ⟨⟨v10,rfl⟩,hst10⟩;have hmd:Mod Ft w9 w10:=by obtain⟨_,_,h2,_⟩:=hst10;exact h2
      have hS10:CellsAt w10 ib 0 (qA (xI wn m))/\w10.cell? ⟨hb,0+2,none⟩=some (.slice (some ⟨kb,koff,none⟩) KK.length kcap)/\w10.cell? ⟨kb,koff+n*1,none⟩=some (.int .i64 x0)/\Mod Ft w8 w10:=⟨hS9.1.keep hmd hnF,hmd.cell hnH hS9.2.1,hmd.cell hnb hS9.2.2.1,hS9.2.2.2.trans hmd (fun _ _ h=>h)⟩
      have hns:=hst10.to
      have HR:Hid (OurRel2 w1 q8 rq wn L KK (.int .i64 ((n+2:Nat):Int)) w10):=O ⟨j+1,n+2,by have:=HN.out;omega,laysN_lt HN.out hlt hL0,rfl,hns⟩
      refine⟨_,rfl,hK _ _ hS10 ?_⟩;clear hK K;simp only[qB];clear hS hS9 hS10 hmd hst10 hns hfin hlay hm9 hm89 hat8 hci8 hk08 hck8 hm18 hrep;go_wp2
      go_roundw
      case rel=>exact HR.out
      case measure=>simp[intOf];omega
     ·have hz0:¬(L.length:Int)>0:=by omega
      have hjl:j=sC L KK:=by
       have h1:=HJ.out;have h2:L=[]:=List.eq_nil_of_length_eq_zero (by omega);unfold sC at h1 |-;rw[if_pos h2]at h1 |-;omega
      have HF:Hid (OursR w wn L KK (.returned (.tuple #[gZ q8,gZ rq])) wr):=O ⟨q8,rq,rfl,Ft,by rw[<-hjl];exact hat.base hm1⟩
      clear hat hFn hmr hbr hHc hcl0 hck0;go_wp2;go_ret2;exact HF.out
    ·have hz:¬(n:Int)+1<(KK.length:Nat):=by omega
     have hnb:n<=1000:=by
      have h1:=HJ.out;have h3:=HN.out;unfold sC at h1
      split at h1<;>omega
     have hjl:j=sC L KK:=by
      have h1:=HJ.out;have h3:=HN.out;unfold sC at h1 |-
      split at h1
      ·rename_i h2
       rw[if_pos h2];omega
      ·rename_i h2
       rw[if_neg h2];omega
     have HF:Hid (OursR w wn L KK (.returned (.tuple #[gZ q8,gZ rq])) wr):=O ⟨q8,rq,rfl,Ft,by rw[<-hjl];exact hat.base hm1⟩;clear hat hFn hmr hbr hHc hcl0 hck0
     go_wp2;go_ret2;exact HF.out
end
section
open Go.RowKit Go.Proofs.Tryz Go.Lib
end
section
open Go.RowKit Go.Shelf Go.Proofs.Tryz Go.Lib
theorem DsAt.small{c:yO}{l:qU}(h:DsAt w0 w q8 rq wd c l Ft):(∀p∈c,p.1.length=32/\p.2.length<=4096)/\c.length<=10000/\l.length<=65536:=by
 obtain⟨r,R,RL,h1,rfl,h3,_⟩:=h;refine⟨fun p hp=>?_,by rw[contR_len];exact h1.few,h3.few⟩;obtain⟨x,hx,rfl⟩:=List.mem_map.1 hp;exact⟨h1.ids x hx,h1.sz x hx⟩
end
section
open Go.RowKit Go.Proofs.Tryz Go.Lib
end
section
open Go.RowKit Go.Shelf Go.Proofs.Tryz Go.Lib
theorem ev_zsT:(prog.info? 115).map (fun i=>(i.zero,i.size))=some (some evZero,39):=by kernel_rfl
def CpRel(w0:iN)(l:List tX)(kv i:Value)(w:iN):Prop:=∃k:Nat,k<=l.length/\i=.int .i64 k/\EvGs qJ w0.heap.size w kv (l.take k)/\Mod qJ w0 w
def CopyR(w:iN)(l:List tX):iJ:=fun e w'=>Mod qJ w w'/\∃v,e=.returned v/\EvGs qJ w.heap.size w' v l
theorem copyEvents_any{own own':Bool}{E:iM}{l:List tX}(hl:Sl own w E 39 (EvR own' w G) v l)(hlen:l.length<=10000)(hok:∀e∈l,EvOk e):Calls prog 46 #[v] w (CopyR w l):=by
 obtain⟨ad,cap,rfl,hle,hat⟩:=Sl.at hl;have HAT:=O hat;have HOK:=O hok;clear hl hat hok;go_enter func46,ntmps46;go_wp2
 go_loopw [3,4] (CpRel w l) (fun _ i _=>l.length-(intOf i).toNat)
 case atStart=>exact⟨0,Nat.zero_le _,rfl,EvGs.nil _ _ _,Mod.refl _ _⟩
 case round=>
  rename iN=>wr
  obtain⟨k,hk,rfl,hg,hm⟩:=hrel
  by_cases hlt:k<l.length
  ·have hz:(k:Int)<(l.length:Nat):=by omega
   obtain⟨b,off,rfl,-,-,hcc⟩:=HAT.out k hlt;obtain⟨cs,hcs,hev,hcA⟩:=hcc k hlt;have hoke:=HOK.out _ (List.getElem_mem hlt)
   have htk:=List.take_succ_eq_append_getElem hlt;generalize l[k]=e0 at*;have hcr:=hcA.keep hm id;have hcp:=copyEvent_any _ _ cs e0 wr (hev.keep0 hm) hoke
   have HTK:=O htk;have hkl:(l.take k).length<=10000:=by rw[List.length_take];omega
   generalize l.take k=pre at*;clear hcc hcA hev htk;go_upto_region 5 with(fail);refine qL [3,3,3,3,1,1,1,1,3] ?_;simp only[qB];refine zC 72 39 hlt ?_
   simp only[qC];refine qY 115 hcr 39 hcs ?_;try simp only[qC]
   refine qK (xE func114 (hcp) ?_);rintro e w2 ⟨v2,rfl,hm2,cs',rfl,hev2⟩;refine⟨_,rfl,?_⟩;try simp only[qC]
   refine qK (kK 72 (.agg cs') evZero 39 hev2.size (fun w3 hB3 hm3 hs3=>?_) (hi:=ev_zsT));replace hB3:w3.heap[w2.heap.size]?=some (.cells cs' 115 (0,0)):=hB3
   have hev3:EvR true w3 (Inn qJ w.heap.size _ w3) cs' e0:=(hev2.keep0 hm3).mono fun q hq=>⟨Nat.le_trans hm.size hq.1,Nat.lt_of_lt_of_le hq.2 hm3.size,fun e=>by have:=(hg.lt e).2;have:=hq.1;omega,fun h=>h⟩
   have hg3:=(hg.keep0 hm2).keep0 hm3;have hsz3:w.heap.size<=w3.heap.size:=Nat.le_trans (Nat.le_trans hm.size hm2.size) hm3.size;try simp only[qC]
   refine qK (wp_evs _ _ (by rfl) (by rfl) hg3 w2.heap.size cs' e0 (by rfl) hB3 hev3 (by omega) hsz3 (fun v4 w4 hg4 hv4 hm4=>?_));simp only[qB]
   have HR:Hid (CpRel w l v4 (.int .i64 ((k+1:Nat):Int)) w4):=O ⟨k+1,by omega,rfl,by rw[HTK.out];exact hg4,((hm.trans0 hm2).trans0 hm3).trans hm4 (fun q hq e=>by have:=(hg3.lt e).1;omega)⟩
   clear hcr hcp hg hg3 hg4 hm hm2 hm3 hm4 hB3 hev2 hev3 hs3 hv4;go_wp2
   go_roundw
   case rel=>exact HR.out
   case measure=>simp[intOf];omega
  ·have hz:¬(k:Int)<(l.length:Nat):=by omega
   obtain rfl:k=l.length:=by omega
   rw[List.take_length]at hg;have HF:Hid (CopyR w l (.returned _) wr):=O ⟨hm,_,rfl,hg⟩;clear hg hm;go_wp2;go_ret;exact HF.out
end
section
open Go.RowKit Go.Proofs.Tryz Go.Lib
inductive Kdo where
 |i|b|s|l
 deriving DecidableEq
def Kind(v:Value):Kdo->Prop
 | .i=>∃n,v=.int .i64 n
 | .b=>∃x,v=qW x
 | .s=>∃t,v=.string t
 | .l=>∃a n c,v=.slice a n c
def Like(v v':Value):Prop:=(∀k,Kind v k->Kind v' k)/\∀a n c,v=.slice a n c->v'=v\/v'=.slice none 0 0
theorem Like.refl(v:Value):Like v v:=⟨fun _ h=>h,fun _ _ _ _=>.inl rfl⟩
theorem Like.trans{a b c:Value}(h:Like a b)(k:Like b c):Like a c:=⟨fun x hx=>k.1 x (h.1 x hx),fun p q r e=>by
 rcases h.2 p q r e with e1|e1
 ·rw[<-e1];rcases k.2 p q r (e1.trans e)with e2|e2
  ·exact .inl e2
  ·exact .inr e2
 ·rcases k.2 _ _ _ e1 with e2|e2
  ·exact .inr (e2.trans e1)
  ·exact .inr e2⟩
theorem Like.int(m n:Int):Like (.int .i64 m) (.int .i64 n):=by
 refine⟨fun k hk=>?_,fun _ _ _ e=>?_⟩
 ·cases k with
  |i=>exact⟨n,rfl⟩
  |b=>obtain⟨x,hx⟩:=hk;cases hx
  |s=>obtain⟨x,hx⟩:=hk;cases hx
  |l=>obtain⟨a,b,c,hx⟩:=hk;cases hx
 ·cases e
theorem Like.byte(m n:UInt8):Like (qW m) (qW n):=by
 refine⟨fun k hk=>?_,fun _ _ _ e=>?_⟩
 ·cases k with
  |i=>obtain⟨x,hx⟩:=hk;cases hx
  |b=>exact⟨n,rfl⟩
  |s=>obtain⟨x,hx⟩:=hk;cases hx
  |l=>obtain⟨a,b,c,hx⟩:=hk;cases hx
 ·cases e
theorem Like.str(m n:ByteArray):Like (.string m) (.string n):=by
 refine⟨fun k hk=>?_,fun _ _ _ e=>?_⟩
 ·cases k with
  |i=>obtain⟨x,hx⟩:=hk;cases hx
  |b=>obtain⟨x,hx⟩:=hk;cases hx
  |s=>exact⟨n,rfl⟩
  |l=>obtain⟨a,b,c,hx⟩:=hk;cases hx
 ·cases e
theorem Like.nil(a:Option Addr)(n c:Nat):Like (.slice a n c) (.slice none 0 0):=by
 refine⟨fun k hk=>?_,fun _ _ _ e=>?_⟩
 ·cases k with
  |i=>obtain⟨x,hx⟩:=hk;cases hx
  |b=>obtain⟨x,hx⟩:=hk;cases hx
  |s=>obtain⟨x,hx⟩:=hk;cases hx
  |l=>exact⟨none,0,0,rfl⟩
 ·exact .inr rfl
theorem Like.of{v':Value}{k:Kdo}(h:Kind v k)(h':Kind v' k)(hl:k=.l->v'=.slice none 0 0):Like v v':=by
 cases k with
 |i=>obtain⟨m,rfl⟩:=h;obtain⟨n,rfl⟩:=h';exact Like.int m n
 |b=>obtain⟨m,rfl⟩:=h;obtain⟨n,rfl⟩:=h';exact Like.byte m n
 |s=>obtain⟨m,rfl⟩:=h;obtain⟨n,rfl⟩:=h';exact Like.str m n
 |l=>obtain⟨a,n,c,rfl⟩:=h;rw[hl rfl];exact Like.nil a n c
def LikeA(cs cs':iL):Prop:=cs'.size=cs.size/\∀(j:Nat)(v:Value),cs[j]?=some v->∃v',cs'[j]?=some v'/\Like v v'
theorem LikeA.refl(cs:iL):LikeA cs cs:=⟨rfl,fun _ v h=>⟨v,h,Like.refl v⟩⟩
theorem LikeA.trans{a b c:iL}(h:LikeA a b)(k:LikeA b c):LikeA a c:=⟨k.1.trans h.1,fun j v hj=>by
 obtain⟨v1,h1,h2⟩:=h.2 j v hj;obtain⟨v2,h3,h4⟩:=k.2 j v1 h1
 exact⟨v2,h3,h2.trans h4⟩⟩
structure KMod(S:iM)(w w':iN):Prop where
 mod:Mod S w w'
 like:∀(b:Nat)(cur:iL)(T:TypeId),w.heap[b]?=some (.cells cur T (0,0))->∃cur':iL,w'.heap[b]?=some (.cells cur' T (0,0))/\LikeA cur cur'
theorem KMod.refl(S:iM)(w:iN):KMod S w w:=⟨Mod.refl _ _,fun _ cur _ h=>⟨cur,h,LikeA.refl _⟩⟩
theorem KMod.trans{S:iM}{a b c:iN}(h:KMod S a b)(k:KMod S b c):KMod S a c:=⟨h.mod.trans k.mod (fun _ _ h=>h),fun x cur T hx=>by
 obtain⟨c1,h1,h2⟩:=h.like x cur T hx;obtain⟨c2,h3,h4⟩:=k.like x c1 T h1
 exact⟨c2,h3,h2.trans h4⟩⟩
theorem KMod.row{cur':iL}(hS:S b)(hb:w.heap[b]?=some (.cells cur T (0,0)))(hb':w'.heap[b]?=some (.cells cur' T (0,0)))(hl:LikeA cur cur')(hm:Mod (fun k=>k=b) w w'):KMod S w w':=by
 refine⟨hm.mono (fun k _ e=>by have e':k=b:=e;rw[e'];exact hS),fun x c T' hx=>?_⟩
 by_cases e:x=b
 ·subst e
  rw[hb]at hx
  cases hx
  exact⟨cur',hb',hl⟩
 ·exact⟨c,hm.objB e hx,LikeA.refl _⟩
theorem LikeA.put{off:Nat}(hfit:off+cs'.size<=cur.size)(h:∀j,j<cs.size->cur[off+j]?=cs[j]?)(hl:LikeA cs cs'):LikeA cur (zE cur off cs'):=by
 refine⟨kQ hfit,fun i x hx=>?_⟩;have hsz:=hl.1
 have hg:(zE cur off cs')[i]?=if i<off then cur[i]? else if i<off+cs'.size then cs'[i-off]? else cur[i]?:=by
  unfold zE;rw[List.getElem?_toArray]
  split
  ·rename_i h1
   rw[List.append_assoc,List.getElem?_append_left (by simp;omega),List.getElem?_take_of_lt h1];simp
  ·rename_i h1
   split
   ·rename_i h2
    rw[List.append_assoc,List.getElem?_append_right (by simp;omega),List.getElem?_append_left (by simp;omega)];simp only[List.length_take,Array.length_toList]
    rw[Nat.min_eq_left (by omega)];simp
   ·rename_i h2
    rw[List.getElem?_append_right (by simp;omega)];simp only[List.length_append,List.length_take,Array.length_toList,List.getElem?_drop]
    rw[Nat.min_eq_left (by omega),show off+cs'.size+(i-(off+cs'.size))=i by omega];simp
 rw[hg]
 split
 ·exact⟨x,hx,Like.refl x⟩
 ·rename_i h1
  split
  ·rename_i h2
   have h3:=h (i-off) (by omega);rw[show off+(i-off)=i by omega,hx]at h3;exact hl.2 (i-off) x h3.symm
  ·exact⟨x,hx,Like.refl x⟩
theorem Sl.kmod{sz:Nat}{Sh':iL->Prop}{l:List Unit}(hsz:0<sz)(h:Sl true w S sz (fun cs _=>Sh cs) v l)(hm:KMod S w w')(hR:∀cs cs',Sh cs->LikeA cs cs'->Sh' cs'):
 Sl true w' S sz (fun cs _=>Sh' cs) v l:=by
 obtain⟨a,cap,hv,hl,hc,h⟩:=h;refine⟨a,cap,hv,hl,hc,fun hne=>?_⟩;obtain⟨b,off,ha,hG,ho,h⟩:=h hne;obtain⟨cur,T,hrow⟩:=ho rfl
 obtain⟨cur',hrow',hlk⟩:=hm.like b cur T hrow;refine⟨b,off,ha,hG,fun _=>⟨cur',T,hrow'⟩,fun i hi=>?_⟩;obtain⟨cs,hs,hsh,hcells⟩:=h i hi
 have hcur:∀j,j<sz->cur[off+i*sz+j]?=cs[j]?:=fun j hj=>by
  have:=hcells j (by omega)
  rwa[cell_of_row w b _ _ _ _ hrow]at this
 have hbnd:off+i*sz+sz<=cur'.size:=by
  have h1:=hcur (sz-1) (by omega);rw[Array.getElem?_eq_getElem (by omega:sz-1<cs.size)]at h1;rw[hlk.1]
  rcases Nat.lt_or_ge (off+i*sz+(sz-1)) cur.size with h2|h2
  ·omega
  ·rw[Array.getElem?_eq_none h2]at h1;cases h1
 have hex:∀j,(cur'.extract (off+i*sz) (off+i*sz+sz))[j]?=if j<sz then cur'[off+i*sz+j]? else none:=fun j=>by
  rw[Array.getElem?_extract]
  congr 1
  rw[eq_iff_iff];omega
 refine⟨cur'.extract (off+i*sz) (off+i*sz+sz),by simp;omega,hR cs _ hsh ⟨by simp;omega,fun j u hj=>?_⟩,fun j hj=>?_⟩
 ·have hjs:j<sz:=by
   rcases Nat.lt_or_ge j cs.size with h2|h2
   ·omega
   ·rw[Array.getElem?_eq_none h2]at hj;cases hj
  rw[hex,if_pos hjs];exact hlk.2 _ u ((hcur j hjs).trans hj)
 ·have hjs:j<sz:=by simp at hj;omega
  rw[hex,if_pos hjs,cell_of_row w' b _ _ _ _ hrow']
def KindsS(ks:List Kdo)(cs:iL):Prop:=cs.size=ks.length/\∀(j:Nat)(k:Kdo),ks[j]?=some k->∃v,cs[j]?=some v/\Kind v k
def idK:List Kdo:=List.replicate 32 .b
theorem KindsS.like{ks:List Kdo}(cs cs':iL)(h:KindsS ks cs)(hl:LikeA cs cs'):KindsS ks cs':=⟨hl.1.trans h.1,fun j k hk=>by
 obtain⟨v,h1,h2⟩:=h.2 j k hk;obtain⟨v',h3,h4⟩:=hl.2 j v h1
 exact⟨v',h3,h4.1 k h2⟩⟩
theorem Sl.shape{α:Type}{sz:Nat}{R:iL->α->Prop}{l:List α}(h:Sl true w G sz R v l)(hg:∀k,G k->S k)(hR:∀cs x,R cs x->Sh cs):
 Sl true w S sz (fun cs (_:Unit)=>Sh cs) v (l.map fun _=>()):=by
 obtain⟨a,cap,hv,hl,hc,h⟩:=h;refine⟨a,cap,by simpa using hv,by simpa using hl,hc,fun hne=>?_⟩;obtain⟨b,off,ha,hG,ho,h⟩:=h (by simpa using hne)
 refine⟨b,off,ha,hg b hG,ho,fun i hi=>?_⟩;obtain⟨cs,h1,h2,h3⟩:=h i (by simpa using hi);exact⟨cs,h1,hR _ _ h2,h3⟩
theorem idCells_kind(x:iK)(h:x.length=32)(j:Nat)(hj:j<32):∃v,(qA x)[j]?=some v/\Kind v .b:=by
 refine⟨qW x[j],?_,_,rfl⟩
 simp[qA,List.getElem?_eq_getElem (show j<x.length by omega)]
theorem idS_of(cs:iL)(x:iK)(h:IdC cs x):KindsS idK cs:=by
 obtain⟨rfl,hx⟩:=h;refine⟨by simp[qA,idK,hx],fun j k hk=>?_⟩
 have hj:j<32:=by
  rcases Nat.lt_or_ge j 32 with h|h
  ·exact h
  ·rw[List.getElem?_eq_none (by simpa[idK]using h)]at hk;cases hk
 have e:k=.b:=by
  rw[idK,List.getElem?_replicate,if_pos hj]at hk;cases hk;rfl
 rw[e];exact idCells_kind x hx j hj
theorem likeA_zero{ks:List Kdo}(h:KindsS ks cs)(h':KindsS ks cs')(hn:∀j:Nat,ks[j]?=some .l->cs'[j]?=some (.slice none 0 0)):LikeA cs cs':=by
 refine⟨h'.1.trans h.1.symm,fun j v hv=>?_⟩
 have hj:j<ks.length:=by
  have:=h.1
  rcases Nat.lt_or_ge j cs.size with h2|h2
  ·omega
  ·rw[Array.getElem?_eq_none h2]at hv;cases hv
 obtain⟨u,h1,h2⟩:=h.2 j _ (List.getElem?_eq_getElem hj);obtain⟨u',h3,h4⟩:=h'.2 j _ (List.getElem?_eq_getElem hj);rw[hv]at h1;cases h1
 refine⟨u',h3,Like.of h2 h4 (fun hk=>?_)⟩;have:=hn j (by rw[List.getElem?_eq_getElem hj,hk]);rw[h3]at this
 cases this;rfl
def OverR(S:iM)(w:iN)(e:Ending)(w':iN):Prop:=e=.returned (.tuple #[])/\KMod S w w'
def OverRel(S:iM)(w:iN)(n:Nat)(i:Value)(w':iN):Prop:=∃k:Nat,k<=n/\i=.int .i64 k/\KMod S w w'
theorem Sl.elem{sz c:Nat}{a:Option Addr}{l:List Unit}(h:Sl true w S sz (fun cs _=>Sh cs) (.slice a n c) l)(hi:i<l.length):
 ∃b off cur T cs,a=some ⟨b,off,none⟩/\S b/\w.heap[b]?=some (.cells cur T (0,0))/\cs.size=sz/\Sh cs/\CellsAt w b (off+i*sz) cs/\(∀j,j<cs.size->cur[off+i*sz+j]?=cs[j]?)/\off+i*sz+sz<=cur.size\/sz=0:=by
 by_cases hsz:sz=0
 ·exact⟨0,0,#[],0,#[],.inr hsz⟩
 obtain⟨a',cap,hv,hl,hc,h⟩:=h
 cases hv
 obtain⟨b,off,ha,hG,ho,h⟩:=h (by rintro rfl;simp at hi);obtain⟨cur,T,hrow⟩:=ho rfl;obtain⟨cs,hs,hsh,hcells⟩:=h i hi
 have hcur:∀j,j<cs.size->cur[off+i*sz+j]?=cs[j]?:=fun j hj=>by
  have:=hcells j (by omega)
  rwa[cell_of_row w b _ _ _ _ hrow]at this
 refine⟨b,off,cur,T,cs,.inl ⟨ha,hG,hrow,hs,hsh,hcells,hcur,?_⟩⟩;have h1:=hcur (sz-1) (by omega);rw[Array.getElem?_eq_getElem (by omega:sz-1<cs.size)]at h1
 rcases Nat.lt_or_ge (off+i*sz+(sz-1)) cur.size with h2|h2
 ·omega
 ·rw[Array.getElem?_eq_none h2]at h1;cases h1
def hP:iK:=[1,2,3]++List.replicate 29 0
theorem exec_build_id{act:Act}(ho:o.op=.build 24 #[(0,.const (.int .u8 1)),(1,.const (.int .u8 2)),(2,.const (.int .u8 3))]):(execOp act.eval o).run prog w=.ok (.value (.agg (qA hP))) w:=by
 unfold execOp;simp only[ho];have h:=run_build (P:=prog) w 24 #[(0,.int .u8 1),(1,.int .u8 2),(2,.int .u8 3)] (qA hP) (by kernel_rfl)
 have e:(Array.map (fun(x:Nat×Operand)=>(x.1,act.eval x.2)) #[(0,.const (.int .u8 1)),(1,.const (.int .u8 2)),(2,.const (.int .u8 3))])=#[(0,.int .u8 1),(1,.int .u8 2),(2,.int .u8 3)]:=by
  have hc:∀n,act.eval (.const (.int .u8 n))=.int .u8 n:=fun _=>rfl;simp only[List.map_toArray,List.map_cons,List.map_nil,hc]
 simp only[e,Sem.run_bind,h,Result.andThen_ok,Sem.run_pure]
theorem overId_kinds:KindsS idK (qA hP):=idS_of _ hP ⟨rfl,by decide⟩
theorem kinds_one{ks:List Kdo}(h:KindsS ks cs):∀c∈cs,c.oneCell'=true:=fun c hc=>by
 obtain⟨j,hj,rfl⟩:=Array.getElem_of_mem hc;have hs:=h.1;obtain⟨v,h1,h2⟩:=h.2 j _ (List.getElem?_eq_getElem (show j<ks.length by omega))
 rw[Array.getElem?_eq_getElem hj]at h1
 cases h1
 generalize ks[j]=kk at h2
 cases kk with
 |i=>obtain⟨n,hn⟩:=h2;rw[hn];rfl
 |b=>obtain⟨n,hn⟩:=h2;rw[hn];rfl
 |s=>obtain⟨n,hn⟩:=h2;rw[hn];rfl
 |l=>obtain⟨a,n,c,hn⟩:=h2;rw[hn];rfl
theorem overIDs_any(S:iM)(v:Value)(l:List Unit)(w:iN)(h:Sl true w S 32 (fun cs _=>KindsS idK cs) v l):Calls prog 27 #[v] w (OverR S w):=by
 obtain⟨av,cap,rfl,hlen,-⟩:=h.at
 have hn:∀j:Nat,idK[j]?=some .l->(qA hP)[j]?=some (.slice none 0 0):=fun j hj=>by
  rw[idK,List.getElem?_replicate]at hj
  split at hj<;>cases hj
 go_enter func27,ntmps27;go_wp2
 go_loopw [2] (OverRel S w l.length) (fun i _=>l.length-(intOf i).toNat)
 case atStart=>exact⟨0,by omega,rfl,KMod.refl _ _⟩
 case round=>
  obtain⟨k,hk,rfl,hM⟩:=hrel
  by_cases hlt:k<l.length
  ·obtain⟨b,off,cur,T,cs,⟨rfl,hS,hrow,hcs,hsh,-,hcur,hfit⟩|hz⟩:=(h.kmod (by omega) hM KindsS.like).elem hlt
   ·have hsz:(qA hP).size=32:=overId_kinds.1
    have hla:=likeA_zero hsh overId_kinds hn;obtain⟨ov,hov⟩:∃t,t=qA hP:=⟨_,rfl⟩;have hone:=kinds_one overId_kinds;rw[<-hov]at hsz hla hone
    have HOV:=O hov;clear hov hn;go_upto_region 3 with(fail);refine qL [3,3,1,3,1] ?_;simp only[qB]
    refine cF rfl (v:=.agg ov) (by rw[HOV.out];exact exec_build_id (by rfl)) trivial ?_;try simp only[qC]
    refine zC 25 32 hlt ?_;simp only[qC];refine qK (xU 24 (off+k*32) ov hone 32 hsz hrow (fun w2 hb2 hm2=>?_))
    have hM2:=hM.trans (KMod.row hS hrow hb2 (LikeA.put (by omega) hcur hla) hm2);simp only[qB];go_wp2
    go_roundw
    case rel=>exact⟨k+1,by omega,by go_num,hM2⟩
    case measure=>simp[intOf];omega
   ·exact absurd hz (by omega)
  ·have hkl:k=l.length:=by omega
   have HK:=O hkl;clear hkl hn;go_wp2
   go_end0
   exact⟨rfl,hM⟩
end
section
open Go.RowKit Go.Shelf Go.Proofs.Tryz Go.Lib
theorem yP{K:Act->iN->Prop}{Q:Exit->Act->iN->Prop}(t e:TypeId)(x:Operand)(v:Value)(z:Value)(n:Nat)(ho:o.op=.buildSlice t 1 #[(0,x)])(hx:a.eval x=v)(hu:P.underlying t=some (.slice e))
 (hi:(P.info? e).map (fun i=>(i.zero,i.size))=some (some z,n))(hn:0<n)(hn':n<=16777216)(hv:v.cells.size=n)
 (h:∀b w',w'.heap[b]?=some (.cells v.cells e (0,0))->Mod qJ w w'->K (a.put o.dst (.slice (some ⟨b,0,none⟩) 1 1)) w'):o.wp P a w K Q:=
 eI t e x v z n ho hx hu hi hn hn' hv fun w' h1 h2 _=>h _ w' h1 h2
theorem fH(ad:Option Addr)(k c:Nat)(x y:Int):prog.built 104 [(0,.slice ad k c),(1,.int .i64 x),(2,.int .i64 y)]=some #[.slice ad k c,.int .i64 x,.int .i64 y]:=by
 have p:yM prog 104=some [(0,1),(1,1),(2,1)]:=by kernel_rfl
 rw[zX sweptZ p,zN (off:=0) (size:=1) rfl (by rfl) (by simp),zN (off:=1) (size:=1) rfl (by rfl) (by simp[zE,Value.cells]),zN (off:=2) (size:=1) rfl (by rfl) (by simp[zE,Value.cells]),yN]
 rfl
theorem id_zs:(prog.info? 24).map (fun i=>(i.zero,i.size))=some (some (.agg (qA (List.replicate 32 0))),32):=by kernel_rfl
theorem awake_any(w:iN):Calls prog 42 #[] w (vO (.bool true) w):=by
 have hA:(qA idA).size=32:=by rw[qD,sQ]
 have hB:(qA idB).size=32:=by rw[qD,idB_len]
 have hz32:(qA (List.replicate 32 0)).size=32:=rX;go_enter func42,ntmps42;go_upto_region 1 with(fail);refine qL [1,3,3,3,3,1,1,1,1,1,1] ?_
 simp only[qB];refine qK (xE func55 (two_any _) ?_);rintro e w1 ⟨hm1,lv,kv,he1,hl1,hk1⟩;subst he1;refine⟨_,rfl,?_⟩;simp only[qB];refine jQ (.agg (qA idA)) ?_
 simp only[qC];refine jQ (.agg (qA idB)) ?_;simp only[qC];refine jQ (.agg #[.int .i64 31,lv,kv]) ?_;simp only[qC]
 refine qK (zB eC (fun w2 hB2 hm2 hs2=>?_));try simp only[qC]
 refine qK (zB eC (fun w3 hB3 hm3 hs3=>?_));try simp only[qC]
 refine qK (zB houseZ (fun w4 hB4 hm4 hs4=>?_));have hX1:=(hm3.trans0 hm4).obj id hB2;try simp only[qC]
 refine qK (qT 24 (qA idA) (qQ _) 32 hA hX1 (fun w5 hB5 hm5=>?_) (hoff:=by rw[hA,hz32]))
 have hX2:=hm5.objB (b:=w2.heap.size) (by omega) (hm4.obj id hB3);have hX3:=hm5.objB (b:=w3.heap.size) (by omega) hB4;try simp only[qC]
 refine qK (qT 24 (qA idB) (qQ _) 32 hB hX2 (fun w6 hB6 hm6=>?_) (hoff:=by rw[hB,hz32]));have hY1:=hm6.objB (b:=w1.heap.size) (by omega) hB5
 have hY3:=hm6.objB (b:=w3.heap.size) (by omega) hX3;try simp only[qC]
 refine qK (qT 68 #[.int .i64 31,lv,kv] (by intro c hc;simp at hc;rcases hc with rfl|rfl|rfl<;>first|rfl|exact Sl.one hl1|exact Sl.one hk1) 3 rfl hY3 (fun w7 hB7 hm7=>?_) (hoff:=by simp))
 have hZ1:=hm7.objB (b:=w1.heap.size) (by omega) hY1;have hZ2:=hm7.objB (b:=w2.heap.size) (by omega) hB6;simp only[qB];have s1:=hm2.size;have s2:=hm3.size
 have s3:=hm4.size;have hm17:Mod qJ w1 w7:=((((hm2.trans0 hm3).trans0 hm4).transB hm5 (Nat.le_refl _)).transB hm6 s1).transB hm7 (by omega);have hl7:=kN hl1 hm17
 have hk7:=hk1.keep0 hm17;have hm07:=hm1.trans0 hm17
 have hbl:=built_any (w:=w7) (wd:=31) (by constructor<;>omega) hl7 hk7 (by simp) (by simp) (by simp) (by intro x hx;simp at hx;rcases hx with rfl|rfl<;>constructor<;>omega)
 rw[wid31]at hbl;have b17:w1.heap.size<w7.heap.size:=(Array.getElem?_eq_some_iff.1 hZ1).1;have b27:w2.heap.size<w7.heap.size:=(Array.getElem?_eq_some_iff.1 hZ2).1
 generalize hb1:w1.heap.size=b1 at*;generalize hb2:w2.heap.size=b2 at*;generalize hb3:w3.heap.size=b3 at*
 clear hm1 hm2 hm3 hm4 hm5 hm6 hm7 hB2 hB3 hB4 hB5 hB6 hX1 hX2 hX3 hY1 hY3 hm17 hl1 hk1 hs2 hs3 hs4;have hcH:CellsAt w7 b3 0 #[.int .i64 31,lv,kv]:=CellsAt.whole hB7
 go_upto_region 2 with(fail);refine qL [1,1,3,3,3,3,3] ?_;simp only[qB];refine qY 68 hcH 3 rfl ?_;try simp only[qC]
 refine qK (xE func43 (hbl) ?_);rintro e w8 ⟨h,hhw,hhr,hhl,⟨qb,hhq⟩,he8,Ft,hat,hFn,hm78⟩;subst he8;rw[hhq];refine⟨_,rfl,?_⟩;simp only[qB]
 refine jQ (iO h.bs) ?_;simp only[qC];refine jQ (iO qb) ?_;simp only[qB];rw[cOf_AB,lOf_AB]at hat
 have hI1:CellsAt w8 b1 0 (qA idA):=CellsAt.whole (hm78.obj id hZ1);have hI2:CellsAt w8 b2 0 (qA idB):=CellsAt.whole (hm78.obj id hZ2)
 have hm08:=hm07.trans0 hm78;clear hbl hl7 hk7 hcH hB7 hZ1 hZ2;go_upto_region 5 with(fail);refine qL [3,1,1,1,3] ?_;simp only[qB];refine qY 24 hI1 32 hA ?_
 try simp only[qC]
 refine qK (xE func56 (gT idA sQ _) ?_);rintro e w9 ⟨hm9,vv,rv,reps,he9,hvv,hreps,hroots⟩;subst he9;have hat9:=hat.keep0 hm9
 have hmk:Calls prog 48 #[iO h.bs,.agg #[vv,rv],.slice none 0 0] w9 (MarksR w9 cAB [idA] []):=by
  obtain⟨bl,F,k1,k2,_⟩:=hat9
  have h9:=swMarks_any (l:=[]) k1 (by rw[k2];simp[cAB]) hvv hreps (by rw[hroots];simp) (Sl.nil false w9 kV 39 (EvR false w9 kV)) (by simp[jI]);rw[k2,hroots]at h9
  exact h9
 refine⟨_,rfl,?_⟩;try simp only[qC]
 refine qK (xE func48 (hmk) ?_);rintro e wa ⟨hma,vM,out,hea,hga,hMo,hla⟩;subst hea;obtain rfl:=marks_A hMo;refine⟨_,rfl,?_⟩;simp only[qB];have hlt8:=hat.lt
 have hm8a:=hm9.trans0 hma;have hata:=hat.keep0 hm8a;have hslM:=slI hga hla;have s9:=hm9.size
 have hGM:∀k,(w9.heap.size<=k/\k<wa.heap.size/\vM.ownBlock=some k)->¬Ft k:=fun k hk hf=>by have:=hlt8 _ hf;have:=hk.1;omega
 have hsw:=swSweep_any hata hslM hGM;rw[hhq]at hsw;clear hmk hreps hroots hga hMo;go_upto_region 6 with(fail);refine qL [3,3,3,1,3,3,3,1,1,3] ?_;simp only[qB]
 refine qK (xE func53 (hsw) ?_);rintro e wb ⟨ids,bv,s,Fb,hidc,hrun,heb,hgb,hatb,hmb,hsb,hnb⟩;subst heb;rw[gone_A hidc]at hrun hgb;rw[run_A]at hrun;subst hrun
 refine⟨_,rfl,?_⟩;simp only[qB];refine jQ (.agg (zV bv 2 1)) ?_;simp only[qC];refine jQ (.int .i64 0) ?_;simp only[qC]
 refine qK (zB sweptZ (fun wc hBc hmc hsc=>?_));try simp only[qC]
 refine qK (qT 104 (zV bv 2 1) (by intro c hc;simp[zV]at hc;rcases hc with rfl|rfl|rfl<;>first|rfl|exact jJ hgb) 3 rfl hBc (fun wd hBd hmd=>?_) (hoff:=by simp[zV]))
 simp only[qB];have hmbd:Mod qJ wb wd:=hmc.transB hmd (Nat.le_refl _);have hF1:∀k,k<w7.heap.size->¬Ft k:=fun k hk e=>by have:=hFn _ e;omega
 have hI1a:=hI1.keep hm8a id;have hI1d:=(hI1a.keep hmb (hF1 b1 b17)).keep hmbd id;have hI2d:=((hI2.keep hm8a id).keep hmb (hF1 b2 b27)).keep hmbd id
 have hMd:=(hslM.keep hmb hGM (fun _ _ h=>h)).keep0 hmbd;have hVd:=slI (hgb.keep0 hmbd) (fun x hx=>by simp at hx;rw[hx];exact idB_len)
 have hCd:CellsAt wd wb.heap.size 0 (zV bv 2 1):=CellsAt.whole hBd;have s78:=hm78.size
 have hm0d:Mod qJ w wd:=((hm08.trans0 hm8a).trans hmb (fun k hk hf=>by have h1:=hFn k hf;have h2:=hm07.size;omega)).trans0 hmbd;generalize hbo:wb.heap.size=bo at*
 clear hsw hata hat hlt8 hslM hGM hmb hsb hnb hatb hgb hidc hBc hmc hmd hBd hmbd hI1 hI2 hI1a hla;go_upto_region 7 with(fail);have hS:Mod qJ wd wd.drew:=(Mod.refl _ _).drew
 have hT:Mod qJ wd wd.drew:=(Mod.refl _ _).drew
 refine yU [(0,0),(3,0)] 3 [(5,1),(6,3),(7,3),(8,0),(9,1),(10,1),(11,3),(12,3),(13,3),(14,3),(15,3),(16,3),(17,0),(18,0),(19,1),(20,0),(21,1),(22,3),(23,3)] [] (fun w'=>Mod qJ wd w') #[true,false,false,true,false,false,false,false,false,false,false,false,false,false,false,false,false,false,false,false,false,false,false,false] (by kernel_rfl) (by kernel_rfl) (by kernel_rfl) (by kernel_rfl) (by kernel_rfl) (fun _ _ _ _ hd h=>⟨hd.trans h.1,h.2⟩) hS ?_
 simp only[qB];refine zJ 24 (fun w' hS=>hI1d.keep hS id) 32 hA ?_;simp only[qC];refine zJ 24 (fun w' hS=>hI1d.keep hS id) 32 hA ?_;simp only[qB]
 refine qO [1,4] (by kernel_rfl) ?_;simp only[zz3,false_implies,implies_true];refine⟨?_,?_⟩
 ·intro K hK
  simp only[zz5];refine xE func56 (gT idA sQ _) ?_;rintro e we ⟨hme,tv,tr,treps,rfl,htv,htr,htroots⟩
  try replace hX:=hX.keep0 hme
  replace hT:=hT.trans0 hme;clear hme;refine⟨_,rfl,hK _ _ hT ?_⟩;clear hK K;try simp only[qC]
  refine qO [2,4] (by kernel_rfl) ?_;simp only[zz3,false_implies,implies_true];refine⟨?_,?_⟩
  ·intro K hK
   simp only[zz5];refine xE func47 (sT htv htr (by rw[htroots];simp)) ?_;rintro e wf ⟨hmf,vR,outR,rfl,hgR,hsR,hlR⟩;rw[htroots]at hsR;obtain rfl:=roots_A hsR
   have hR:=slI hgR hlR
   try replace hX:=hX.keep0 hmf
   replace hT:=hT.trans0 hmf;clear hmf hgR hsR hlR htr;refine⟨_,rfl,hK _ _ hT ?_⟩;clear hK K;try simp only[qC]
   refine qO [4] (by kernel_rfl) ?_;simp only[zz3,false_implies,implies_true];intro K hK;simp only[zz5]
   refine yP 25 24 _ (.agg (qA idA)) (.agg (qA (List.replicate 32 0))) 32 (by rfl) (by rfl) underlying25 id_zs (by omega) (by omega) hA (fun bX wg hBg hmg=>?_)
   have hX:Sl false wg kV 32 IdC (.slice (some ⟨bX,0,none⟩) 1 1) [idA]:=tA hBg ⟨rfl,sQ⟩ 32 hA
   try replace htr:=xO htr (KC.of0 hmg)
   try replace hR:=hR.keep0 hmg
   replace hT:=hT.trans0 hmg;clear hmg hBg;refine hK _ _ hT ?_;clear hK K;try simp only[qC]
   refine xB ?_;try simp only[zz4]
   try simp only[qC]
   refine qH rfl (fun K hK=>?_);refine xE func24 (kG _ _ _ _ _ _ _ _ _ hR hX) ?_;rintro e wh ⟨rfl,hmh⟩;replace hT:=hT.trans0 hmh;rw[decide_eq_true rfl]
   clear hmh hR hX;refine⟨_,rfl,hK _ _ hT ?_⟩;clear hK K;simp only[qB];refine zJ 24 (fun w' hS=>hI1d.keep hS id) 32 hA ?_;simp only[qC]
   refine qH rfl (fun K hK=>?_)
   refine yP 25 24 _ (.agg (qA idA)) (.agg (qA (List.replicate 32 0))) 32 (by rfl) (by rfl) underlying25 id_zs (by omega) (by omega) hA (fun bY wi hBi hmi=>?_)
   have hY:Sl false wi kV 32 IdC (.slice (some ⟨bY,0,none⟩) 1 1) [idA]:=tA hBi ⟨rfl,sQ⟩ 32 hA;replace hT:=hT.trans0 hmi;clear hmi hBi;refine hK _ _ hT ?_
   clear hK K;try simp only[qC]
   refine qH rfl (fun K hK=>?_);refine xE func24 (kG _ _ _ _ _ _ _ _ _ (hMd.keep0 hT) hY) ?_;rintro e wj ⟨rfl,hmj⟩;replace hT:=hT.trans0 hmj
   rw[decide_eq_true rfl];clear hmj hY;refine⟨_,rfl,hK _ _ hT ?_⟩;clear hK K;simp only[qB];refine qZ (fun _=>by go_simp;try with_reducible rfl) ?_;simp only[qB]
   refine zJ 104 (fun w' hS=>hCd.keep hS id) 3 rfl ?_;simp only[qC];refine zJ 24 (fun w' hS=>hI2d.keep hS id) 32 hB ?_;simp only[qC]
   refine qH rfl (fun K hK=>?_)
   refine yP 25 24 _ (.agg (qA idB)) (.agg (qA (List.replicate 32 0))) 32 (by rfl) (by rfl) underlying25 id_zs (by omega) (by omega) hB (fun bZ wk hBk hmk=>?_)
   have hZ:Sl false wk kV 32 IdC (.slice (some ⟨bZ,0,none⟩) 1 1) [idB]:=tA hBk ⟨rfl,idB_len⟩ 32 hB;replace hT:=hT.trans0 hmk;clear hmk hBk;refine hK _ _ hT ?_
   clear hK K;try simp only[qC]
   refine qV rfl (fun w' hS=>zH 104 [(0,_),(1,_),(2,_)] [(0,.slice (some ⟨bZ,0,none⟩) 1 1),(1,.int .i64 2),(2,.int .i64 1)] _ (by rfl) (by rfl) (fH _ 1 1 2 1)) ?_
   simp only[qC];refine qH rfl (fun K hK=>?_);refine xE func54 (bQ (hVd.keep0 hT) hZ 2 1 2 1) ?_;rintro e wl ⟨rfl,hml⟩;replace hT:=hT.trans0 hml
   simp only[decide_true,Bool.and_self];clear hml hZ;refine⟨_,rfl,hK _ _ hT ?_⟩;clear hK K;simp only[qB];have HF:=O (hm0d.trans0 hT);go_wp2;go_ret;exact⟨rfl,HF.out⟩
  ·intro K hK
   simp only[zz5]
   refine yP 25 24 _ (.agg (qA idA)) (.agg (qA (List.replicate 32 0))) 32 (by rfl) (by rfl) underlying25 id_zs (by omega) (by omega) hA (fun bX wg hBg hmg=>?_)
   have hX:Sl false wg kV 32 IdC (.slice (some ⟨bX,0,none⟩) 1 1) [idA]:=tA hBg ⟨rfl,sQ⟩ 32 hA
   try replace htr:=xO htr (KC.of0 hmg)
   try replace hR:=hR.keep0 hmg
   replace hT:=hT.trans0 hmg;clear hmg hBg;refine hK _ _ hT ?_;clear hK K;try simp only[qC]
   refine qO [2] (by kernel_rfl) ?_;simp only[zz3,false_implies,implies_true];intro K hK;simp only[zz5]
   refine xE func47 (sT htv htr (by rw[htroots];simp)) ?_;rintro e wf ⟨hmf,vR,outR,rfl,hgR,hsR,hlR⟩;rw[htroots]at hsR;obtain rfl:=roots_A hsR
   have hR:=slI hgR hlR
   try replace hX:=hX.keep0 hmf
   replace hT:=hT.trans0 hmf;clear hmf hgR hsR hlR htr;refine⟨_,rfl,hK _ _ hT ?_⟩;clear hK K;try simp only[qC]
   refine xB ?_;try simp only[zz4]
   try simp only[qC]
   refine qH rfl (fun K hK=>?_);refine xE func24 (kG _ _ _ _ _ _ _ _ _ hR hX) ?_;rintro e wh ⟨rfl,hmh⟩;replace hT:=hT.trans0 hmh;rw[decide_eq_true rfl]
   clear hmh hR hX;refine⟨_,rfl,hK _ _ hT ?_⟩;clear hK K;simp only[qB];refine zJ 24 (fun w' hS=>hI1d.keep hS id) 32 hA ?_;simp only[qC]
   refine qH rfl (fun K hK=>?_)
   refine yP 25 24 _ (.agg (qA idA)) (.agg (qA (List.replicate 32 0))) 32 (by rfl) (by rfl) underlying25 id_zs (by omega) (by omega) hA (fun bY wi hBi hmi=>?_)
   have hY:Sl false wi kV 32 IdC (.slice (some ⟨bY,0,none⟩) 1 1) [idA]:=tA hBi ⟨rfl,sQ⟩ 32 hA;replace hT:=hT.trans0 hmi;clear hmi hBi;refine hK _ _ hT ?_
   clear hK K;try simp only[qC]
   refine qH rfl (fun K hK=>?_);refine xE func24 (kG _ _ _ _ _ _ _ _ _ (hMd.keep0 hT) hY) ?_;rintro e wj ⟨rfl,hmj⟩;replace hT:=hT.trans0 hmj
   rw[decide_eq_true rfl];clear hmj hY;refine⟨_,rfl,hK _ _ hT ?_⟩;clear hK K;simp only[qB];refine qZ (fun _=>by go_simp;try with_reducible rfl) ?_;simp only[qB]
   refine zJ 104 (fun w' hS=>hCd.keep hS id) 3 rfl ?_;simp only[qC];refine zJ 24 (fun w' hS=>hI2d.keep hS id) 32 hB ?_;simp only[qC]
   refine qH rfl (fun K hK=>?_)
   refine yP 25 24 _ (.agg (qA idB)) (.agg (qA (List.replicate 32 0))) 32 (by rfl) (by rfl) underlying25 id_zs (by omega) (by omega) hB (fun bZ wk hBk hmk=>?_)
   have hZ:Sl false wk kV 32 IdC (.slice (some ⟨bZ,0,none⟩) 1 1) [idB]:=tA hBk ⟨rfl,idB_len⟩ 32 hB;replace hT:=hT.trans0 hmk;clear hmk hBk;refine hK _ _ hT ?_
   clear hK K;try simp only[qC]
   refine qV rfl (fun w' hS=>zH 104 [(0,_),(1,_),(2,_)] [(0,.slice (some ⟨bZ,0,none⟩) 1 1),(1,.int .i64 2),(2,.int .i64 1)] _ (by rfl) (by rfl) (fH _ 1 1 2 1)) ?_
   simp only[qC];refine qH rfl (fun K hK=>?_);refine xE func54 (bQ (hVd.keep0 hT) hZ 2 1 2 1) ?_;rintro e wl ⟨rfl,hml⟩;replace hT:=hT.trans0 hml
   simp only[decide_true,Bool.and_self];clear hml hZ;refine⟨_,rfl,hK _ _ hT ?_⟩;clear hK K;simp only[qB];have HF:=O (hm0d.trans0 hT);go_wp2;go_ret;exact⟨rfl,HF.out⟩
 ·intro K hK
  simp only[zz5]
  refine yP 25 24 _ (.agg (qA idA)) (.agg (qA (List.replicate 32 0))) 32 (by rfl) (by rfl) underlying25 id_zs (by omega) (by omega) hA (fun bX wg hBg hmg=>?_)
  have hX:Sl false wg kV 32 IdC (.slice (some ⟨bX,0,none⟩) 1 1) [idA]:=tA hBg ⟨rfl,sQ⟩ 32 hA
  try replace htr:=xO htr (KC.of0 hmg)
  try replace hR:=hR.keep0 hmg
  replace hT:=hT.trans0 hmg;clear hmg hBg;refine hK _ _ hT ?_;clear hK K;try simp only[qC]
  refine qO [1] (by kernel_rfl) ?_;simp only[zz3,false_implies,implies_true];intro K hK;simp only[zz5];refine xE func56 (gT idA sQ _) ?_
  rintro e we ⟨hme,tv,tr,treps,rfl,htv,htr,htroots⟩
  try replace hX:=hX.keep0 hme
  replace hT:=hT.trans0 hme;clear hme;refine⟨_,rfl,hK _ _ hT ?_⟩;clear hK K;try simp only[qC]
  refine qO [2] (by kernel_rfl) ?_;simp only[zz3,false_implies,implies_true];intro K hK;simp only[zz5]
  refine xE func47 (sT htv htr (by rw[htroots];simp)) ?_;rintro e wf ⟨hmf,vR,outR,rfl,hgR,hsR,hlR⟩;rw[htroots]at hsR;obtain rfl:=roots_A hsR
  have hR:=slI hgR hlR
  try replace hX:=hX.keep0 hmf
  replace hT:=hT.trans0 hmf;clear hmf hgR hsR hlR htr;refine⟨_,rfl,hK _ _ hT ?_⟩;clear hK K;try simp only[qC]
  refine xB ?_;try simp only[zz4]
  try simp only[qC]
  refine qH rfl (fun K hK=>?_);refine xE func24 (kG _ _ _ _ _ _ _ _ _ hR hX) ?_;rintro e wh ⟨rfl,hmh⟩;replace hT:=hT.trans0 hmh;rw[decide_eq_true rfl]
  clear hmh hR hX;refine⟨_,rfl,hK _ _ hT ?_⟩;clear hK K;simp only[qB];refine zJ 24 (fun w' hS=>hI1d.keep hS id) 32 hA ?_;simp only[qC]
  refine qH rfl (fun K hK=>?_)
  refine yP 25 24 _ (.agg (qA idA)) (.agg (qA (List.replicate 32 0))) 32 (by rfl) (by rfl) underlying25 id_zs (by omega) (by omega) hA (fun bY wi hBi hmi=>?_)
  have hY:Sl false wi kV 32 IdC (.slice (some ⟨bY,0,none⟩) 1 1) [idA]:=tA hBi ⟨rfl,sQ⟩ 32 hA;replace hT:=hT.trans0 hmi;clear hmi hBi;refine hK _ _ hT ?_
  clear hK K;try simp only[qC]
  refine qH rfl (fun K hK=>?_);refine xE func24 (kG _ _ _ _ _ _ _ _ _ (hMd.keep0 hT) hY) ?_;rintro e wj ⟨rfl,hmj⟩;replace hT:=hT.trans0 hmj
  rw[decide_eq_true rfl];clear hmj hY;refine⟨_,rfl,hK _ _ hT ?_⟩;clear hK K;simp only[qB];refine qZ (fun _=>by go_simp;try with_reducible rfl) ?_;simp only[qB]
  refine zJ 104 (fun w' hS=>hCd.keep hS id) 3 rfl ?_;simp only[qC];refine zJ 24 (fun w' hS=>hI2d.keep hS id) 32 hB ?_;simp only[qC]
  refine qH rfl (fun K hK=>?_)
  refine yP 25 24 _ (.agg (qA idB)) (.agg (qA (List.replicate 32 0))) 32 (by rfl) (by rfl) underlying25 id_zs (by omega) (by omega) hB (fun bZ wk hBk hmk=>?_)
  have hZ:Sl false wk kV 32 IdC (.slice (some ⟨bZ,0,none⟩) 1 1) [idB]:=tA hBk ⟨rfl,idB_len⟩ 32 hB;replace hT:=hT.trans0 hmk;clear hmk hBk;refine hK _ _ hT ?_
  clear hK K;try simp only[qC]
  refine qV rfl (fun w' hS=>zH 104 [(0,_),(1,_),(2,_)] [(0,.slice (some ⟨bZ,0,none⟩) 1 1),(1,.int .i64 2),(2,.int .i64 1)] _ (by rfl) (by rfl) (fH _ 1 1 2 1)) ?_
  simp only[qC];refine qH rfl (fun K hK=>?_);refine xE func54 (bQ (hVd.keep0 hT) hZ 2 1 2 1) ?_;rintro e wl ⟨rfl,hml⟩;replace hT:=hT.trans0 hml
  simp only[decide_true,Bool.and_self];clear hml hZ;refine⟨_,rfl,hK _ _ hT ?_⟩;clear hK K;simp only[qB];have HF:=O (hm0d.trans0 hT);go_wp2;go_ret;exact⟨rfl,HF.out⟩
end
section
open Go.RowKit Go.Proofs.Tryz Go.Lib
section
variable{w:iN}{h:tC}{c:yO}{l:qU}{Ft:iM}(H:HsAt w h c l Ft)
include H
end
end
section
open Go.RowKit Go.Shelf Go.Proofs.Tryz Go.Lib
theorem cell_lt{o:Nat}{v:Option Value}(h:w.cell? ⟨b,o,none⟩=v)(hv:v.isSome=true:=by rfl):b<w.heap.size:=by
 rcases Nat.lt_or_ge b w.heap.size with h1|h1
 ·exact h1
 ·unfold World.cell? at h
  simp only[Array.getElem?_eq_none h1]at h;rw[<-h]at hv
  cases hv
def bL(h:vV):List Value:=[.int .i64 h.1.1,.int .i64 h.1.2]++iI h.2
theorem heldE_len(h:vV):(bL h).length=34:=by simp[bL,jL]
theorem fT(h:vV):∀c∈bL h,c.oneCell'=true:=by
 intro c hc;simp only[bL,List.mem_append,List.mem_cons,List.not_mem_nil,or_false]at hc
 rcases hc with(rfl|rfl)|hc
 ·rfl
 ·rfl
 ·exact jD _ c hc
theorem heldE_eq{h:vV}(hh:h.2.length=32):(bL h).toArray=zY h:=by
 have:=pG hh;unfold bL zY;rw[<-this]
 simp
theorem held_i:(prog.info? 211).map (fun i=>(i.zero,i.size,i.bytes))=some (some (.agg (zY ((0,0),List.replicate 32 0))),34,48):=by kernel_rfl
theorem tagT_i:(prog.info? 188).map (fun i=>(i.zero,i.size,i.bytes))=some (some (.agg #[.string ⟨#[]⟩,.slice none 0 0]),2,40):=by kernel_rfl
theorem repT_i:(prog.info? 186).map (fun i=>(i.zero,i.size,i.bytes))=some (some (.agg #[.string ⟨#[]⟩,.slice none 0 0,.slice none 0 0]),3,64):=by kernel_rfl
theorem Sl.srcH{own:Bool}{l:List vV}(h:Sl own w G 34 sZ v l):Src w 34 v l.length (l.flatMap bL):=by
 obtain⟨css,h1,-,h3⟩:=h.src (by omega)
 have e:css=l.map fun x=>(bL x).toArray:=List.ext_getElem (by rw[h1.1,List.length_map]) fun i h5 h2=>by
  have h9:=h1.2 i h5 (by rw[<-h1.1];exact h5);rw[List.getElem_map,heldE_eq h9.2,h9.1]
 have e2:css.flatMap Array.toList=l.flatMap bL:=by rw[e,List.flatMap_map]
 rw[e2]at h3;exact h3
abbrev TagY:=ByteArray×(Option Addr×Nat)×List vV
def tyV(t:TagY):Value:=.slice t.2.1.1 t.2.2.length t.2.1.2
def tagE(t:TagY):List Value:=[.string t.1,tyV t]
structure RepY where
 name:ByteArray
 tp:Option Addr×Nat
 tags:List TagY
 mp:Option Addr×Nat
 man:List vV
def RepY.tv(r:RepY):Value:=.slice r.tp.1 r.tags.length r.tp.2
def RepY.mv(r:RepY):Value:=.slice r.mp.1 r.man.length r.mp.2
def repE(r:RepY):List Value:=[.string r.name,r.tv,r.mv]
theorem tagE_len(t:TagY):(tagE t).length=2:=rfl
theorem repE_len(r:RepY):(repE r).length=3:=rfl
theorem tagE_one(t:TagY):∀c∈tagE t,c.oneCell'=true:=by
 intro c hc;simp only[tagE,List.mem_cons,List.not_mem_nil,or_false]at hc
 rcases hc with rfl|rfl<;>rfl
theorem repE_one(r:RepY):∀c∈repE r,c.oneCell'=true:=by
 intro c hc;simp only[repE,List.mem_cons,List.not_mem_nil,or_false]at hc
 rcases hc with rfl|rfl|rfl<;>rfl
def toTag(t:TagY):gC:=⟨t.1,(tyV t,t.2.2)⟩
def gG(r:RepY):jW:=⟨r.name,r.tv,r.tags.map toTag,(r.mv,r.man)⟩
abbrev PlainT:=ByteArray×List vV
def yX(r:jW):ByteArray×List PlainT×List vV:=(r.name,r.tags.map fun t=>(t.name,t.row.2),r.man.2)
def Ofs(T:TypeId)(e:Nat)(w:iN)(k:Nat):Prop:=k<e/\∃c,w.heap[k]?=some (.cells c T (0,0))
theorem Ofs.keep(hm:Mod S w w')(h:Ofs T e w k)(hS:¬S k):Ofs T e w' k:=by
 obtain⟨h1,c,h2⟩:=h;exact⟨h1,c,hm.obj hS h2⟩
theorem sl_ofs{α:Type}{R:iL->α->Prop}{l:List α}(h:Sl false w (Ofs T e w) n R v l)(hm:Mod S w w')(hS:∀k,S k->e<=k\/∀c,w.heap[k]?≠some (.cells c T (0,0)))(he:e<=e'):Sl false w' (Ofs T e' w') n R v l:=by
 have hn:∀k,Ofs T e w k->¬S k:=fun k hk hs=>by
  obtain⟨h1,c,h2⟩:=hk
  rcases hS k hs with h3|h3
  ·omega
  ·exact h3 c h2
 refine(h.keep hm hn (fun _ _ h=>h)).mono (fun k hk=>?_) (fun _ _ h=>h);obtain⟨h1,c,h2⟩:=hk.keep hm (hn k hk);exact⟨by omega,c,h2⟩
theorem gat_ofs{α:Type}{enc:α->List Value}{base:Nat}{l:List α}(h:Gat enc T n base w v l)(hk:∀x,(enc x).length=n):Sl false w (Ofs T w.heap.size w) n (fun cs x=>cs=(enc x).toArray) v l:=by
 refine(h.sl hk).weak.mono (fun k hk=>?_) (fun _ _ h=>h);obtain⟨h1,h2,h3⟩:=hk;refine⟨h2,?_⟩
 rcases h.2 with⟨rfl,h0⟩|⟨g,cap,cur,rfl,hb,hg,-⟩
 ·cases h3
 ·cases h3
  exact⟨cur,hg⟩
theorem vB{α:Type}{enc:α->List Value}{T':TypeId}{base:Nat}{l:List α}(h:Gat enc T n base w v l)(hT:T≠T'):∀k,v.ownBlock=some k->∀c,w.heap[k]?≠some (.cells c T' (0,0)):=fun k hk c hc=>by
 rcases h.2 with⟨rfl,h0⟩|⟨g,cap,cur,rfl,hb,hg,-⟩
 ·cases hk
 ·cases hk
  rw[hg]at hc;injection hc with hc;injection hc with _ hc _;exact hT hc
abbrev HelR(e:Nat)(w:iN)(v:Value)(l:List vV):Prop:=Sl false w (Ofs 211 e w) 34 sZ v l
theorem gath_hel{base:Nat}{l:List vV}(h:Gat bL 211 34 base w v l)(hl:∀x∈l,x.2.length=32):HelR w.heap.size w v l:=by
 have h1:=gat_ofs h heldE_len;obtain⟨a,cap,hv,hlm,hc,h2⟩:=h1;refine⟨a,cap,hv,hlm,hc,fun hne=>?_⟩;obtain⟨b,off,ha,hG,-,hi⟩:=h2 hne
 refine⟨b,off,ha,hG,fun e=>(by cases e),fun i hlt=>?_⟩;obtain⟨cs,h3,h4,h5⟩:=hi i hlt;have h6:=hl _ (List.getElem_mem hlt)
 exact⟨cs,h3,⟨by rw[h4,heldE_eq h6],h6⟩,h5⟩
theorem held_ids{own:Bool}{l:List vV}(h:Sl own w G 34 sZ v l):∀x∈l,x.2.length=32:=fun x hx=>by
 obtain⟨_,_,_,-,hat⟩:=Sl.at h;obtain⟨i,hi,rfl⟩:=List.getElem_of_mem hx;obtain⟨b,off,_,_,_,hc⟩:=hat i hi;obtain⟨cs,-,⟨-,h9⟩,-⟩:=hc i hi;exact h9
structure RepK(e:Nat)(w:iN)(r:RepY):Prop where
 tags:Sl false w (Ofs 188 e w) 2 (fun cs t=>cs=(tagE t).toArray) r.tv r.tags
 rows:∀t∈r.tags,HelR e w (tyV t) t.2.2
 man:HelR e w r.mv r.man
theorem RepK.keep{r:RepY}(h:RepK e w r)(hm:Mod S w w')(hS:∀k,S k->e<=k\/(∀c,w.heap[k]?≠some (.cells c 211 (0,0)))/\∀c,w.heap[k]?≠some (.cells c 188 (0,0)))(he:e<=e'):RepK e' w' r:=
 ⟨sl_ofs h.tags hm (fun k hk=>(hS k hk).imp id (·.2)) he,fun t ht=>sl_ofs (h.rows t ht) hm (fun k hk=>(hS k hk).imp id (·.1)) he,sl_ofs h.man hm (fun k hk=>(hS k hk).imp id (·.1)) he⟩
theorem RepK.at{e:Nat}{w:iN}{r:RepY}(h:RepK e w r):RepAt w (gG r):=by
 refine⟨?_,h.man.mono (fun _ _=>trivial) (fun _ _ h=>h)⟩;obtain⟨a,cap,hv,hlm,hc,h2⟩:=h.tags
 refine⟨a,cap,by rw[show(gG r).tags.length=r.tags.length from List.length_map ..];exact hv,by rw[show(gG r).tags.length=r.tags.length from List.length_map ..];exact hlm,hc,fun hne=>?_⟩
 obtain⟨b,off,ha,hG,-,hi⟩:=h2 (fun e=>hne (by show r.tags.map toTag=[];rw[e];rfl));refine⟨b,off,ha,trivial,fun e=>(by cases e),fun i hlt=>?_⟩
 have hlt':i<r.tags.length:=by rw[show(gG r).tags.length=r.tags.length from List.length_map ..]at hlt;exact hlt
 obtain⟨cs,h3,h4,h5⟩:=hi i hlt';refine⟨cs,h3,?_,h5⟩;have e9:(gG r).tags[i]=toTag r.tags[i]:=List.getElem_map (f:=toTag) ..;rw[e9]
 exact⟨h4,(h.rows _ (List.getElem_mem hlt')).mono (fun _ _=>trivial) (fun _ _ h=>h)⟩
theorem reps_of{base:Nat}{Y:List RepY}(h:Gat repE 186 3 base w v Y)(hY:∀r∈Y,RepK w.heap.size w r):vG w v (Y.map gG):=by
 obtain⟨a,cap,hv,hlm,hc,h2⟩:=(h.sl repE_len).weak;refine⟨a,cap,by rw[List.length_map];exact hv,by rw[List.length_map];exact hlm,hc,fun hne=>?_⟩
 obtain⟨b,off,ha,hG,-,hi⟩:=h2 (fun e=>hne (by rw[e];rfl));refine⟨b,off,ha,trivial,fun e=>(by cases e),fun i hlt=>?_⟩
 have hlt':i<Y.length:=by rwa[List.length_map]at hlt
 obtain⟨cs,h3,h4,h5⟩:=hi i hlt';refine⟨cs,h3,?_,h5⟩;rw[List.getElem_map];exact⟨h4,(hY _ (List.getElem_mem hlt')).at⟩
theorem plain_succ(l:List jW)(hk:k<l.length){Y:List jW}(h:Y.map yX=(l.take k).map yX){r:jW}(hr:yX r=yX l[k]):(Y++[r]).map yX=(l.take (k+1)).map yX:=by
 rw[List.take_succ_eq_append_getElem hk,List.map_append,List.map_append,h]
 simp[hr]
theorem plain_roots{A B:List jW}(h:A.map yX=B.map yX):zK A=zK B:=by
 have h1:∀r:jW,zS (dN r)=((yX r).2.1.flatMap fun t=>t.2.map (·.2))++(yX r).2.2.map (·.2):=fun r=>by
  unfold dN;rw[jB]
  simp[zS,yX,List.flatMap_map]
 have h2:∀l:List jW,zK l=(l.map yX).flatMap fun p=>(p.2.1.flatMap fun t=>t.2.map (·.2))++p.2.2.map (·.2):=fun l=>by
  induction l with
  |nil=>rfl
  |cons r l ih=>
   have:zK (r::l)=zS (dN r)++zK l:=by unfold zK;rw[aH,jB];rfl
   rw[this,ih,h1 r]
   rfl
 rw[h2 A,h2 B,h]
def CtRel(s b3:Nat)(w0:iN)(vv:Value)(l:List jW)(i:Value)(w:iN):Prop:=∃(k:Nat)(Y:List RepY)(rv:Value),k<=l.length/\i=.int .i64 k/\w.heap[b3]?=some (.cells #[vv,rv] 71 (0,0))/\Gat repE 186 3 s w rv Y/\(∀r∈Y,RepK w.heap.size w r)/\(Y.map gG).map yX=(l.take k).map yX/\Mod (fun k=>b3<=k) w0 w
def CtRel2(s b5:Nat)(w0:iN)(n:ByteArray)(mv:Value)(man:List vV)(l:List gC)(i:Value)(w:iN):Prop:=∃(k:Nat)(Y:List TagY)(tv:Value),k<=l.length/\i=.int .i64 k/\w.heap[b5]?=some (.cells #[.string n,tv,mv] 186 (0,0))/\Gat tagE 188 2 s w tv Y/\(∀t∈Y,HelR w.heap.size w (tyV t) t.2.2)/\HelR w.heap.size w mv man/\Y.map (fun t=>(t.1,t.2.2))=(l.take k).map (fun t=>(t.name,t.row.2))/\Mod (fun k=>s<=k) w0 w
def CtMid(w:iN)(n:ByteArray)(man:List vV)(s:Value)(wx:iN):Prop:=∃b5 had hcap,s=iO b5/\wx.heap[b5]?=some (.cells #[.string n,.slice none 0 0,.slice had man.length hcap] 186 (0,0))/\Gat bL 211 34 w.heap.size wx (.slice had man.length hcap) man/\w.heap.size<=b5/\Mod qJ w wx
def CopyTbR(w:iN)(V:List Int)(l:List jW):iJ:=fun e w'=>Mod qJ w w'/\∃vv rv B,e=.returned (.agg #[vv,rv])/\Sl false w' kV 1 dH vv V/\vG w' rv B/\B.map yX=l.map yX
theorem built_tb1(v:Value)(h:v.cells=#[v]):prog.built 71 [(0,v)]=some #[v,.slice none 0 0]:=by
 have p:yM prog 71=some [(0,1),(1,1)]:=by kernel_rfl
 rw[zX tableZ p,zN (off:=0) (size:=1) rfl (by rw[h];rfl) (by simp[Value.cells]),yN,h]
 rfl
theorem iC(n:ByteArray)(ad:Option Addr)(k c:Nat):prog.built 186 [(0,.string n),(2,.slice ad k c)]=some #[.string n,.slice none 0 0,.slice ad k c]:=by
 have p:yM prog 186=some [(0,1),(1,1),(2,1)]:=by kernel_rfl
 rw[zX repZ p,zN (off:=0) (size:=1) rfl (by rfl) (by simp),zN (off:=2) (size:=1) rfl (by rfl) (by simp[zE,Value.cells]),yN]
 rfl
theorem copyTable_any{vv rv:Value}{reps:List jW}(hV:Sl false w kV 1 dH vv V)(hv:vG w rv reps)(hs:SmallTb reps)(hVl:V.length<=1000):Calls prog 45 #[.agg #[vv,rv]] w (CopyTbR w V reps):=by
 obtain⟨vad,vcap,rfl,-,-⟩:=Sl.at hV;obtain⟨rad,rcap,rfl,hrl,-⟩:=Sl.at hv;have HVV:=O hV;have HV:=O hv;have HS:=O hs;have hr10:=hs.1;clear hV hv hs
 go_enter func45,ntmps45;go_upto_region 0 with(fail);refine qL [1,1] ?_;simp only[qB];refine qK (zT 71 (fun w1 hB1 hm1 hs1=>?_))
 replace hB1:w1.heap[w.heap.size]?=some (.cells #[.slice vad V.length vcap,.slice rad reps.length rcap] 71 (0,0)):=hB1;try simp only[qC]
 refine qK (zB tableZ (fun w2 hB2 hm2 hs2=>?_));simp only[qB];have hm02:=hm1.trans0 hm2;have hBx:=hm2.obj id hB1
 have hc0:w2.cell? ⟨w.heap.size,0,none⟩=some (.slice vad V.length vcap):=by simp[World.cell?,hBx]
 have hci:=copyInts_any _ _ _ V w2 (HVV.out.keep0 hm02) (by omega);have hb1s:w.heap.size<w1.heap.size:=hs1;have hb2s:w1.heap.size<w2.heap.size:=hs2
 generalize hb1:w.heap.size=b1 at*;generalize hb2:w1.heap.size=b2 at*;go_upto_region 1 with(fail);refine qL [3,1,1,0,1,1] ?_;simp only[qB];refine qG 64 hc0 ?_
 try simp only[qC]
 refine qK (xE func113 (hci) ?_);rintro e w3 ⟨nv,rfl,hm3,hnv⟩;obtain⟨nad,ncap,rfl,-,-⟩:=Sl.at hnv;refine⟨_,rfl,?_⟩;try simp only[qC]
 refine qV rfl (fun w' hS=>zH 71 [(0,_)] [(0,.slice nad V.length ncap)] _ (by rfl) (by rfl) (built_tb1 _ rfl)) ?_;simp only[qC]
 refine qK (zB tableZ (fun w4 hB4 hm4 hs4=>?_));try simp only[qC]
 refine qK (qT 71 #[.slice nad V.length ncap,.slice none 0 0] (by simp[Value.oneCell']) 2 rfl hB4 (fun w5 hB5 hm5=>?_) (hoff:=by rfl));simp only[qB]
 have hnw:Sl false w3 (fun k=>b2<k/\k<w3.heap.size) 1 dH (.slice nad V.length ncap) V:=hnv.weak.mono (fun k h=>⟨by have:=h.1;omega,h.2⟩) (fun _ _ h=>h)
 have hc1:w3.cell? ⟨b1,1,none⟩=some (.slice rad reps.length rcap):=hm3.cell id (by simp[World.cell?,hBx]);have hb23:b2<w3.heap.size:=by have:=hm3.size;omega
 have hR2:=hm3.obj id hB2;have hm03:=hm02.trans0 hm3
 have hm35:Mod (fun k=>w3.heap.size<=k) w3 w5:=(hm4.mono (fun _ _ h=>h.elim)).trans hm5 (fun k _ e=>by have e:k=w3.heap.size:=e;show w3.heap.size<=k;omega)
 generalize hb3:w3.heap.size=b3 at*;have HNW:=O hnw;have hs03:w.heap.size<=b3:=by omega
 have HR0:Hid (CtRel b3 b3 w3 (.slice nad V.length ncap) reps (.int .i64 (0:Nat)) w5):=O ⟨0,[],.slice none 0 0,Nat.zero_le _,rfl,hB5,Gat.nil _ _ _ _ _,fun r h=>(by cases h),by simp,hm35⟩
 clear hnw hnv hm35 hm4 hm5 hB4 hB5 hm1 hm2 hm3 hB1 hB2 hBx hc0 hci hs1 hs2 hs4;go_wp2
 go_loopw [4] (CtRel b3 b3 w3 (.slice nad V.length ncap) reps) (fun i _=>reps.length-(intOf i).toNat)
 case atStart=>exact HR0.out
 case round=>
  rename iN=>wr
  obtain⟨k,Y,rvY,hk,rfl,hb3r,hgY,hKY,hpl,hmr⟩:=hrel;have hmw:Mod qJ w wr:=hm03.trans hmr (fun k hk h=>by have h:b3<=k:=h;omega)
  have hcr:wr.cell? ⟨b1,1,none⟩=some (.slice rad reps.length rcap):=hmr.cell (fun h=>by have h:b3<=b1:=h;omega) hc1
  have hR2r:=hmr.obj (fun h=>by have h:b3<=b2:=h;omega) hR2;have HGY:=O hgY;have HKY:=O hKY;have HPL:=O hpl
  have h3s:b3<wr.heap.size:=(Array.getElem?_eq_some_iff.1 hb3r).1;clear hgY hKY hpl;go_upto_region 3 with(fail)
  by_cases hlt:k<reps.length
  ·have hz:(k:Int)<(reps.length:Nat):=by omega
   obtain⟨_,_,hae,-,hat⟩:=HV.out.at;injection hae with hae1 hae2 hae3;subst hae1 hae3;obtain⟨b,off,rfl,-,-,hcc⟩:=hat k hlt
   obtain⟨cs,-,⟨rfl,hra⟩,hcA⟩:=hcc k hlt;have hbw:b<w.heap.size:=cell_lt (hcA 0 (by simp));have hsx:=HS.out.2 reps[k] (List.getElem_mem hlt)
   have HPS:=O (fun(r:jW)(hr:yX r=yX reps[k])=>plain_succ reps hlt HPL.out hr);generalize reps[k]=x at*;obtain⟨hx10,hx20,hxr⟩:=hsx
   obtain⟨tad,tcap,htv,htl,-⟩:=Sl.at hra.tags;obtain⟨mad,mcap,hmv,hml,-⟩:=Sl.at hra.man
   have hxn:w.cell? ⟨b,off+k*3,none⟩=some (.string x.name):=hcA 0 (by simp)
   have hxt:w.cell? ⟨b,off+k*3+1,none⟩=some (.slice tad x.tags.length tcap):=by rw[hcA 1 (by simp),<-htv];rfl
   have hxm:w.cell? ⟨b,off+k*3+2,none⟩=some (.slice mad x.man.2.length mcap):=by rw[hcA 2 (by simp),<-hmv];rfl
   have HTG:=O hra.tags;rw[htv]at HTG;have HMN:Hid (Sl false w kV 34 sZ (.slice mad x.man.2.length mcap) x.man.2):=O (by rw[<-hmv];exact hra.man)
   have HXR:=O hxr;have hxnr:=hmw.cell id hxn;have hxmr:=hmw.cell id hxm;clear hat hcc hae2 hra hcA htv hmv hxr hxn hxm;refine qL [3,3,1,3,3] ?_;simp only[qB]
   refine qG 69 hcr ?_;try simp only[qC]
   refine xF ?_;simp only[qC];refine xD hz ?_;simp only[qB];go_upto_region 5 with(fail)
   go_cut [5] (fun s wx=>CtMid wr x.name x.man.2 s wx)
   case first=>
    have hS:Mod qJ wr wr.drew:=(Mod.refl _ _).drew;have hT:=hS
    refine yU [(0,3),(1,0),(2,3),(3,3),(4,3),(5,0),(7,3),(8,0),(9,3),(10,3),(11,3),(12,0)] 4 [(16,1)] [] (fun w'=>Mod qJ wr w') #[true,true,true,true,true,true,false,true,true,true,true,true,true,false,false,false,false] (by kernel_rfl) (by kernel_rfl) (by kernel_rfl) (by kernel_rfl) (by kernel_rfl) (fun _ _ _ _ hd h=>⟨hd.trans h.1,h.2⟩) hS ?_
    simp only[qB];refine qE 69 (fun w' hS=>hS.cell id hcr) ?_;simp only[qB];refine zC 69 3 hlt ?_;simp only[qB];refine qE 9 (fun w' hS=>hS.cell id hxnr) ?_
    simp only[qB];refine qE 69 (fun w' hS=>hS.cell id hcr) ?_;simp only[qB];refine zC 69 3 hlt ?_;simp only[qB];refine qE 184 (fun w' hS=>hS.cell id hxmr) ?_
    simp only[qB];refine qO [6,15] (by kernel_rfl) ?_;simp only[zz3,false_implies,implies_true];refine⟨?_,?_⟩
    ·intro K hK
     simp only[zz5];refine zU 184 211 (by rfl) underlying184 (by kernel_rfl) (fun wa hBa hma hsa=>?_)
     have hO:Gat bL 211 34 wr.heap.size wa _ []:=yI _ hBa hT.size
     try replace hBx:=hma.obj id hBx
     replace hT:=hT.trans0 hma;clear hBa hma hsa;refine hK _ _ hT ?_;clear hK K;try simp only[qC]
     refine qO [13,15] (by kernel_rfl) ?_;simp only[zz3,false_implies,implies_true];refine⟨?_,?_⟩
     ·intro K hK
      simp only[zz5]
      refine uG 184 held_i fT hO _ x.man.2 ((HMN.out.keep0 (hmw.trans0 hT)).srcH) (by simp only[List.length_nil];unfold maxLen;omega) (by simp only[List.length_nil];omega) hT.size (fun u31 wb hb hmb hvb=>?_)
      rw[List.nil_append]at hb
      try replace hBx:=hmb.obj (fun e=>vB hO (by decide) _ e _ hBx) hBx
      replace hT:Mod qJ wr wb:=hT.trans hmb (fun k hk e=>by have:=(hO.lt e).1;omega);obtain⟨uad,ucap,rfl⟩:=hb.slice;clear hO hmb hvb;refine hK _ _ hT ?_;clear hK K
      try simp only[qC]
      refine zL 14 (.agg #[.string x.name,.slice none 0 0,.slice uad x.man.2.length ucap]) (by kernel_rfl) (fun _ _ _ _ hd h=>⟨hd.trans h.1,h.2⟩) (fun w'=>by simp only[zz5];exact zH 186 [(0,_),(2,_)] [(0,.string x.name),(2,.slice uad x.man.2.length ucap)] _ (by rfl) (by rfl) (iC _ _ _ _)) hT ?_
      simp only[zz5];try simp only[qC]
      refine qO [15] (by kernel_rfl) ?_;simp only[zz3,false_implies,implies_true];intro K hK;simp only[zz5]
      refine jF 186 _ (by rfl) repZ (fun bx wc hbe hBx hmc hsc=>?_)
      replace hBx:wc.heap[bx]?=some (.cells #[.string ⟨#[]⟩,.slice none 0 0,.slice none 0 0] 186 (0,0)):=hBx;have hbn:wr.heap.size<=bx:=by rw[hbe];exact hT.size
      try replace hO:=Gat.keep0 hO hmc
      try replace hb:=Gat.keep0 hb hmc
      replace hT:=hT.trans0 hmc;clear hmc hbe hsc;refine hK _ _ hT ?_;clear hK K;try simp only[qC]
      refine xB ?_;try simp only[zz4]
      try simp only[qC]
      refine qH rfl (fun K hK=>?_)
      refine qT 186 #[.string x.name,.slice none 0 0,.slice uad x.man.2.length ucap] (by simp[Value.oneCell']) 3 rfl hBx (fun wd2 hBd hmd=>?_) (hoff:=by rfl)
      have hbd:=Gat.keep hb hmd (fun k e h=>by have h:k=bx:=h;subst h;exact vB hb (by decide) _ e _ hBx)
      have HPM:Hid (CtMid wr x.name x.man.2 (iO bx) wd2):=O ⟨bx,uad,ucap,rfl,hBd,hbd,hbn,hT.transB hmd hbn⟩;replace hT:=hT.transB hmd hbn
      clear hmd hBx hb hBd hbd;refine hK _ _ hT ?_;clear hK K;simp only[qB];clear hS hT;go_wp2
      go_meet
      case rel=>exact HPM.out
     ·intro K hK
      simp only[zz5];refine jF 186 _ (by rfl) repZ (fun bx wc hbe hBx hmc hsc=>?_)
      replace hBx:wc.heap[bx]?=some (.cells #[.string ⟨#[]⟩,.slice none 0 0,.slice none 0 0] 186 (0,0)):=hBx;have hbn:wr.heap.size<=bx:=by rw[hbe];exact hT.size
      try replace hO:=Gat.keep0 hO hmc
      try replace hb:=Gat.keep0 hb hmc
      replace hT:=hT.trans0 hmc;clear hmc hbe hsc;refine hK _ _ hT ?_;clear hK K;try simp only[qC]
      refine qO [13] (by kernel_rfl) ?_;simp only[zz3,false_implies,implies_true];intro K hK;simp only[zz5]
      refine uG 184 held_i fT hO _ x.man.2 ((HMN.out.keep0 (hmw.trans0 hT)).srcH) (by simp only[List.length_nil];unfold maxLen;omega) (by simp only[List.length_nil];omega) hT.size (fun u31 wb hb hmb hvb=>?_)
      rw[List.nil_append]at hb
      try replace hBx:=hmb.obj (fun e=>vB hO (by decide) _ e _ hBx) hBx
      replace hT:Mod qJ wr wb:=hT.trans hmb (fun k hk e=>by have:=(hO.lt e).1;omega);obtain⟨uad,ucap,rfl⟩:=hb.slice;clear hO hmb hvb;refine hK _ _ hT ?_;clear hK K
      try simp only[qC]
      refine zL 14 (.agg #[.string x.name,.slice none 0 0,.slice uad x.man.2.length ucap]) (by kernel_rfl) (fun _ _ _ _ hd h=>⟨hd.trans h.1,h.2⟩) (fun w'=>by simp only[zz5];exact zH 186 [(0,_),(2,_)] [(0,.string x.name),(2,.slice uad x.man.2.length ucap)] _ (by rfl) (by rfl) (iC _ _ _ _)) hT ?_
      simp only[zz5];try simp only[qC]
      refine xB ?_;try simp only[zz4]
      try simp only[qC]
      refine qH rfl (fun K hK=>?_)
      refine qT 186 #[.string x.name,.slice none 0 0,.slice uad x.man.2.length ucap] (by simp[Value.oneCell']) 3 rfl hBx (fun wd2 hBd hmd=>?_) (hoff:=by rfl)
      have hbd:=Gat.keep hb hmd (fun k e h=>by have h:k=bx:=h;subst h;exact vB hb (by decide) _ e _ hBx)
      have HPM:Hid (CtMid wr x.name x.man.2 (iO bx) wd2):=O ⟨bx,uad,ucap,rfl,hBd,hbd,hbn,hT.transB hmd hbn⟩;replace hT:=hT.transB hmd hbn
      clear hmd hBx hb hBd hbd;refine hK _ _ hT ?_;clear hK K;simp only[qB];clear hS hT;go_wp2
      go_meet
      case rel=>exact HPM.out
    ·intro K hK
     simp only[zz5];refine jF 186 _ (by rfl) repZ (fun bx wc hbe hBx hmc hsc=>?_)
     replace hBx:wc.heap[bx]?=some (.cells #[.string ⟨#[]⟩,.slice none 0 0,.slice none 0 0] 186 (0,0)):=hBx;have hbn:wr.heap.size<=bx:=by rw[hbe];exact hT.size
     try replace hO:=Gat.keep0 hO hmc
     try replace hb:=Gat.keep0 hb hmc
     replace hT:=hT.trans0 hmc;clear hmc hbe hsc;refine hK _ _ hT ?_;clear hK K;try simp only[qC]
     refine qO [6] (by kernel_rfl) ?_;simp only[zz3,false_implies,implies_true];intro K hK;simp only[zz5]
     refine zU 184 211 (by rfl) underlying184 (by kernel_rfl) (fun wa hBa hma hsa=>?_);have hO:Gat bL 211 34 wr.heap.size wa _ []:=yI _ hBa hT.size
     try replace hBx:=hma.obj id hBx
     replace hT:=hT.trans0 hma;clear hBa hma hsa;refine hK _ _ hT ?_;clear hK K;try simp only[qC]
     refine qO [13] (by kernel_rfl) ?_;simp only[zz3,false_implies,implies_true];intro K hK;simp only[zz5]
     refine uG 184 held_i fT hO _ x.man.2 ((HMN.out.keep0 (hmw.trans0 hT)).srcH) (by simp only[List.length_nil];unfold maxLen;omega) (by simp only[List.length_nil];omega) hT.size (fun u31 wb hb hmb hvb=>?_)
     rw[List.nil_append]at hb
     try replace hBx:=hmb.obj (fun e=>vB hO (by decide) _ e _ hBx) hBx
     replace hT:Mod qJ wr wb:=hT.trans hmb (fun k hk e=>by have:=(hO.lt e).1;omega);obtain⟨uad,ucap,rfl⟩:=hb.slice;clear hO hmb hvb;refine hK _ _ hT ?_;clear hK K
     try simp only[qC]
     refine zL 14 (.agg #[.string x.name,.slice none 0 0,.slice uad x.man.2.length ucap]) (by kernel_rfl) (fun _ _ _ _ hd h=>⟨hd.trans h.1,h.2⟩) (fun w'=>by simp only[zz5];exact zH 186 [(0,_),(2,_)] [(0,.string x.name),(2,.slice uad x.man.2.length ucap)] _ (by rfl) (by rfl) (iC _ _ _ _)) hT ?_
     simp only[zz5];try simp only[qC]
     refine xB ?_;try simp only[zz4]
     try simp only[qC]
     refine qH rfl (fun K hK=>?_)
     refine qT 186 #[.string x.name,.slice none 0 0,.slice uad x.man.2.length ucap] (by simp[Value.oneCell']) 3 rfl hBx (fun wd2 hBd hmd=>?_) (hoff:=by rfl)
     have hbd:=Gat.keep hb hmd (fun k e h=>by have h:k=bx:=h;subst h;exact vB hb (by decide) _ e _ hBx)
     have HPM:Hid (CtMid wr x.name x.man.2 (iO bx) wd2):=O ⟨bx,uad,ucap,rfl,hBd,hbd,hbn,hT.transB hmd hbn⟩;replace hT:=hT.transB hmd hbn
     clear hmd hBx hb hBd hbd;refine hK _ _ hT ?_;clear hK K;simp only[qB];clear hS hT;go_wp2
     go_meet
     case rel=>exact HPM.out
   case rest=>
    rename iN=>w6
    obtain⟨b5,uad,ucap,rfl,hb5,hgm,hb5n,hm6⟩:=hcut;have hws:w.heap.size<=wr.heap.size:=hmw.size;have hmw6:=hmw.trans0 hm6
    have HMH0:Hid (HelR w6.heap.size w6 (.slice uad x.man.2.length ucap) x.man.2):=O (gath_hel hgm (held_ids HMN.out));have hcr6:=hm6.cell id hcr
    have hb36:=hm6.obj id hb3r;have HGY6:=O (HGY.out.keep0 hm6);have h6s:=hm6.size;have hb1l:b1<wr.heap.size:=by omega
    have hyl:Y.length<=10:=by
     have h9:=congrArg List.length HPL.out;simp only[List.length_map,List.length_take]at h9;omega
    have HLT:Hid (∀q,rvY.ownBlock=some q->q<wr.heap.size):=O (fun q hq=>(HGY.out.lt hq).2)
    have HTY:Hid ((∀q,rvY.ownBlock=some q->∀c,wr.heap[q]?≠some (.cells c 211 (0,0)))/\∀q,rvY.ownBlock=some q->∀c,wr.heap[q]?≠some (.cells c 188 (0,0))):=O ⟨vB HGY.out (by decide),vB HGY.out (by decide)⟩
    obtain⟨s,hsr⟩:∃s,wr.heap.size=s:=⟨_,rfl⟩;rw[hsr]at hws h6s hb1l HLT h3s hb5n;clear hgm hcr hxnr hxmr HGY;go_wp2
    go_loopw [6] (CtRel2 s b5 w6 x.name (.slice uad x.man.2.length ucap) x.man.2 x.tags) (fun i _=>x.tags.length-(intOf i).toNat)
    case atStart=>exact⟨0,[],.slice none 0 0,Nat.zero_le _,rfl,hb5,Gat.nil _ _ _ _ _,fun t h=>(by cases h),HMH0.out,by simp,Mod.refl _ _⟩
    case round=>
     rename iN=>wq
     obtain⟨p,Z,tvZ,hp,rfl,hb5q,hgZ,hrZ,hmnq,hplZ,hmq⟩:=hrel;have hmwq:Mod qJ w wq:=hmw6.trans hmq (fun k hk h=>by have h:s<=k:=h;omega)
     have hcrq:wq.cell? ⟨b1,1,none⟩=some (.slice (some ⟨b,off,none⟩) reps.length rcap):=hmq.cell (fun h=>by have h:s<=b1:=h;omega) hcr6
     have hxtq:=hmwq.cell id hxt;have hsq:s<=wq.heap.size:=by have:=hmq.size;omega
     have h5q:b5<wq.heap.size:=(Array.getElem?_eq_some_iff.1 hb5q).1;obtain⟨zad,zcp,rfl⟩:=hgZ.slice;have HGZ:=O hgZ;have HRZ:=O hrZ;have HMNQ:=O hmnq
     have HPLZ:=O hplZ
     have hzl:Z.length<=10:=by
      have h9:=congrArg List.length hplZ;simp only[List.length_map,List.length_take]at h9;omega
     clear hgZ hrZ hmnq hplZ;go_upto_region 7 with(fail)
     by_cases hltp:p<x.tags.length
     ·have hzp:(p:Int)<(x.tags.length:Nat):=by omega
      obtain⟨_,_,hte,-,htat⟩:=HTG.out.at;injection hte with hte1 hte2 hte3;subst hte1 hte3;obtain⟨tb,toff,rfl,-,-,htcc⟩:=htat p hltp
      obtain⟨cs,-,⟨rfl,hta⟩,htA⟩:=htcc p hltp;have hy20:=HXR.out _ (List.getElem_mem hltp)
      have HPT:=O (fun(nt:TagY)(h1:nt.1=x.tags[p].name)(h2:nt.2.2=x.tags[p].row.2)=>show(Z++[nt]).map (fun t=>(t.1,t.2.2))=(x.tags.take (p+1)).map (fun t=>(t.name,t.row.2))from by
       rw[List.take_succ_eq_append_getElem hltp,List.map_append,List.map_append,HPLZ.out]
       simp[h1,h2])
      generalize x.tags[p]=y at*;obtain⟨had,hcap,hhv,hhl,-⟩:=Sl.at hta;have hyn:w.cell? ⟨tb,toff+p*2,none⟩=some (.string y.name):=htA 0 (by simp)
      have hyc:w.cell? ⟨tb,toff+p*2+1,none⟩=some (.slice had y.row.2.length hcap):=by rw[htA 1 (by simp),<-hhv];rfl
      have HRW:Hid (Sl false w kV 34 sZ (.slice had y.row.2.length hcap) y.row.2):=O (by rw[<-hhv];exact hta);have htbw:tb<w.heap.size:=cell_lt hyn
      have hynq:=hmwq.cell id hyn;have hycq:=hmwq.cell id hyc;clear htat htcc hte2 hta htA hhv hyn hyc;refine qL [3,3,1,3,3,3,1,3,3] ?_;simp only[qB]
      refine qG 69 hcrq ?_;simp only[qB];refine zC 69 3 hlt ?_;simp only[qB];refine qG 183 hxtq ?_;try simp only[qC]
      refine xF ?_;simp only[qC];refine xD hzp ?_;simp only[qB];go_upto_region 9 with(fail);have hT:Mod qJ wq wq.drew:=(Mod.refl _ _).drew
      have hS:wq.drew.cell? ⟨b5,1,none⟩=some (.slice zad Z.length zcp)/\Mod (fun k=>s<=k) wq wq.drew:=⟨by rw[cell_of_row _ _ _ _ _ _ (show wq.drew.heap[b5]?=_ from hb5q)];rfl,(Mod.refl _ _).drew⟩
      refine cH [(0,3),(1,0),(2,3),(3,0),(4,3),(5,3),(6,3),(7,0),(8,3),(9,3),(10,3),(11,0),(13,3),(14,0),(15,3),(16,3),(17,3),(18,0),(19,3),(20,3),(21,3),(22,0),(12,1),(23,1),(24,0),(25,1),(26,1),(27,3),(28,2)] [28] (fun w'=>w'.cell? ⟨b5,1,none⟩=some (.slice zad Z.length zcp)/\Mod (fun k=>s<=k) wq w') hS ?_
      simp only[qB];refine qE 183 (fun w' hS=>hS.1) ?_;simp only[qB];refine qE 69 (fun w' hS=>hS.2.cell (fun h=>by have h:s<=b1:=h;omega) hcrq) ?_
      simp only[qB];refine zC 69 3 hlt ?_;simp only[qB];refine qE 183 (fun w' hS=>hS.2.cell (fun h=>by have h:s<=b:=h;omega) hxtq) ?_;simp only[qB]
      refine zC 183 2 hltp ?_;simp only[qB];refine qE 9 (fun w' hS=>hS.2.cell (fun h=>by have h:s<=tb:=h;omega) hynq) ?_;simp only[qB]
      refine qE 69 (fun w' hS=>hS.2.cell (fun h=>by have h:s<=b1:=h;omega) hcrq) ?_;simp only[qB];refine zC 69 3 hlt ?_;simp only[qB]
      refine qE 183 (fun w' hS=>hS.2.cell (fun h=>by have h:s<=b:=h;omega) hxtq) ?_;simp only[qB];refine zC 183 2 hltp ?_;simp only[qB]
      refine qE 184 (fun w' hS=>hS.2.cell (fun h=>by have h:s<=tb:=h;omega) hycq) ?_;simp only[qC];refine qH rfl (fun K hK=>?_)
      refine zU 184 211 (by rfl) underlying184 (by kernel_rfl) (fun wa hBa hma hsa=>?_);have hO:Gat bL 211 34 wq.heap.size wa _ []:=yI _ hBa hT.size
      have hTa:=hT.trans0 hma
      have hSa:wa.cell? ⟨b5,1,none⟩=some (.slice zad Z.length zcp)/\Mod (fun k=>s<=k) wq wa:=⟨hma.cell id hS.1,hS.2.trans hma (fun _ _ h=>h.elim)⟩;clear hBa
      refine hK _ _ hSa ?_;clear hK K;try simp only[qC]
      refine qH rfl (fun K hK=>?_)
      refine uG 184 held_i fT hO _ y.row.2 ((HRW.out.keep0 (hmwq.trans0 hTa)).srcH) (by simp only[List.length_nil];unfold maxLen;omega) (by simp only[List.length_nil];omega) hTa.size (fun u67 wb hb hmb hvb=>?_)
      rw[List.nil_append]at hb;obtain⟨yad,ycp,rfl⟩:=hb.slice;have hTb:Mod qJ wq wb:=hTa.trans hmb (fun k hk e=>by have:=(hO.lt e).1;omega)
      have hSb:wb.cell? ⟨b5,1,none⟩=some (.slice zad Z.length zcp)/\Mod (fun k=>s<=k) wq wb:=⟨hmb.cell (fun e=>by have:=(hO.lt e).1;omega) hSa.1,hSa.2.trans hmb (fun k hk e=>by have:=(hO.lt e).1;show s<=k;omega)⟩
      refine hK _ _ hSb ?_;clear hK K;try simp only[qC]
      refine qV rfl (fun w' hS=>zH 188 [(0,_),(1,_)] [(0,.string y.name),(1,.slice yad y.row.2.length ycp)] _ (by rfl) (by rfl) (built_tag _ _ _ _)) ?_
      simp only[qC];refine qH rfl (fun K hK=>?_)
      refine kK 183 (.agg #[.string y.name,.slice yad y.row.2.length ycp]) (.agg #[.string ⟨#[]⟩,.slice none 0 0]) 2 rfl (fun wc hBc hmc hsc=>?_) (hi:=tag_zs)
      have hX:wc.heap[wb.heap.size]?=some (.cells (tagE (y.name,(yad,ycp),y.row.2)).toArray 188 (0,0)):=hBc;have hTc:=hTb.trans0 hmc
      have hSc:wc.cell? ⟨b5,1,none⟩=some (.slice zad Z.length zcp)/\Mod (fun k=>s<=k) wq wc:=⟨hmc.cell id hSb.1,hSb.2.trans hmc (fun _ _ h=>h.elim)⟩
      refine hK _ _ hSc ?_;clear hK K;try simp only[qC]
      refine qH rfl (fun K hK=>?_);have hgc:=HGZ.out.keep0 hTc;have hb5c:=hTc.obj id hb5q
      refine uG 183 tagT_i tagE_one hgc (.slice (some ⟨wb.heap.size,0,none⟩) 1 1) [(y.name,(yad,ycp),y.row.2)] (uK (enc:=tagE) (e:=188) tagE_len hX) (by simp only[List.length_singleton];unfold maxLen;omega) (by simp only[List.length_singleton];omega) (by have:=hTc.size;omega) (fun v70 wd2 hgd hmd hvd=>?_)
      obtain⟨nad2,ncp2,rfl⟩:=hgd.slice;have hb5d:=hmd.obj (fun e=>vB hgc (by decide) _ e _ hb5c) hb5c
      have hSd:wd2.cell? ⟨b5,1,none⟩=some (.slice zad Z.length zcp)/\Mod (fun k=>s<=k) wq wd2:=⟨by rw[cell_of_row _ _ _ _ _ _ hb5d];rfl,hSc.2.trans hmd (fun k hk e=>(hgc.lt e).1)⟩
      refine hK _ _ hSd ?_;clear hK K;simp only[qB];refine zP rfl (fun K hK=>?_)
      refine zR 183 1 (.slice nad2 (Z++[(y.name,(yad,ycp),y.row.2)]).length ncp2) hb5d (fun we hBe hme=>?_) (hoff:=by simp)
      have hBe':we.heap[b5]?=some (.cells #[.string x.name,.slice nad2 (Z++[(y.name,(yad,ycp),y.row.2)]).length ncp2,.slice uad x.man.2.length ucap] 186 (0,0)):=by simpa using hBe
      have hge:=hgd.keep hme (fun q hq e=>by have e:q=b5:=e;subst e;exact vB hgd (by decide) _ hq _ hb5d)
      have hMq:Mod (fun k=>k=b5\/(Value.slice zad Z.length zcp).ownBlock=some k) wq we:=((hTc.mono (fun _ _ h=>h.elim)).trans hmd (fun _ _ h=>.inr h)).trans hme (fun _ _ h=>.inl h)
      have hMb:Mod (fun k=>k=b5\/(Value.slice zad Z.length zcp).ownBlock=some k) wb we:=((hmc.mono (fun _ _ h=>h.elim)).trans hmd (fun _ _ h=>.inr h)).trans hme (fun _ _ h=>.inl h)
      have hcq:∀q,(q=b5\/(Value.slice zad Z.length zcp).ownBlock=some q)->wq.heap.size<=q\/∀c,wq.heap[q]?≠some (.cells c 211 (0,0)):=fun q hq=>by
       rcases hq with rfl|hq
       ·right
        intro c hc;rw[hb5q]at hc;injection hc with hc;injection hc with _ hc _;exact absurd hc (by decide)
       ·exact .inr (vB HGZ.out (by decide) q hq)
      have hcb:∀q,(q=b5\/(Value.slice zad Z.length zcp).ownBlock=some q)->wb.heap.size<=q\/∀c,wb.heap[q]?≠some (.cells c 211 (0,0)):=fun q hq=>by
       rcases hcq q hq with h9|h9
       ·rcases hq with rfl|hq
        ·omega
        ·have:=(HGZ.out.lt hq).2;omega
       ·right
        have hqs:q<wq.heap.size:=by
         rcases hq with rfl|hq
         ·exact h5q
         ·exact(HGZ.out.lt hq).2
        intro c hc;obtain⟨o,ho⟩:∃o,wq.heap[q]?=some o:=⟨_,Array.getElem?_eq_getElem hqs⟩;have h8:=hTb.obj id ho;rw[h8]at hc;exact h9 c (by rw[ho];exact hc)
      have hsze:=hMq.size;have hszb:=hMb.size
      have HR:Hid (CtRel2 s b5 w6 x.name (.slice uad x.man.2.length ucap) x.man.2 x.tags (.int .i64 ((p+1:Nat):Int)) we):=O ⟨p+1,Z++[(y.name,(yad,ycp),y.row.2)],_,by omega,rfl,hBe',hge,fun t ht=>by
       rcases List.mem_append.1 ht with ht|ht
       ·exact sl_ofs (HRZ.out t ht) hMq hcq hsze
       ·rw[List.mem_singleton.1 ht]
        exact sl_ofs (gath_hel hb (held_ids HRW.out)) hMb hcb hszb,sl_ofs HMNQ.out hMq hcq hsze,HPT.out _ rfl rfl,(hmq.trans hSd.2 (fun _ _ h=>h)).trans hme (fun k hk e=>by have e:k=b5:=e;show s<=k;omega)⟩
      refine hK _ _ ?_;clear hK K hMq hMb hcq hcb hge hBe hBe' hme hb5d hgd hmd hvd hgc hb5c;simp only[qB]
      clear hS hT hTa hTb hTc hSa hSb hSc hSd hO hX hb hma hmb hmc hvb hBc hsa hsc;go_wp2
      go_roundw
      case rel=>exact HR.out
      case measure=>simp[intOf];omega
     ·have hzp:¬(p:Int)<(x.tags.length:Nat):=by omega
      obtain rfl:p=x.tags.length:=by omega
      have hb3q:=hmq.obj (fun h=>by have h:s<=b3:=h;omega) hb36
      have HGYQ:=O (HGY6.out.keep hmq (fun q hq h=>by have h:s<=q:=h;have:=HLT.out q hq;omega));have hrv1:rvY.oneCell'=true:=jJ HGY6.out
      have hc3q:wq.cell? ⟨b3,1,none⟩=some rvY:=by rw[cell_of_row _ _ _ _ _ _ hb3q];rfl
      obtain⟨nr,hnr⟩:∃nr:RepY,nr=⟨x.name,(zad,zcp),Z,(uad,ucap),x.man.2⟩:=⟨_,rfl⟩
      have hnE:(repE nr).toArray=#[.string x.name,.slice zad Z.length zcp,.slice uad x.man.2.length ucap]:=by rw[hnr];rfl
      have HNP:Hid (yX (gG nr)=yX x):=O (by
       have h9:=HPLZ.out;rw[List.take_length]at h9;rw[hnr]
       show(x.name,(Z.map toTag).map (fun t=>(t.name,t.row.2)),x.man.2)=_
       rw[List.map_map]
       show(x.name,Z.map (fun t=>(t.1,t.2.2)),x.man.2)=_
       rw[h9]
       rfl)
      have HNK:Hid (RepK wq.heap.size wq nr):=O (by rw[hnr];exact⟨gat_ofs HGZ.out tagE_len,HRZ.out,HMNQ.out⟩);have hbr3:b3<wq.heap.size:=by omega
      refine qL [3,3,1,3,3,3,1,3,3] ?_;simp only[qB];refine qG 69 hcrq ?_;simp only[qB];refine zC 69 3 hlt ?_;simp only[qB];refine qG 183 hxtq ?_
      try simp only[qC]
      refine xF ?_;simp only[qC];refine xT hzp ?_;simp only[qB];go_upto_region 10 with(fail);refine qL [3,1,1,1,1,3,1] ?_;simp only[qB];refine qG 69 hc3q ?_
      try simp only[qC]
      refine qY 186 (CellsAt.whole hb5q) 3 rfl ?_;try simp only[qC]
      refine qK (kK 69 (.agg #[.string x.name,.slice zad Z.length zcp,.slice uad x.man.2.length ucap]) (.agg #[.string ⟨#[]⟩,.slice none 0 0,.slice none 0 0]) 3 rfl (fun wa hBa hma hsa=>?_) (hi:=rep_zs))
      have hX:wa.heap[wq.heap.size]?=some (.cells (repE nr).toArray 186 (0,0)):=by rw[hnE];exact hBa
      clear hBa;try simp only[qC]
      refine kS rfl ?_;have hga:=HGYQ.out.keep0 hma;have hb3a:=hma.obj id hb3q
      refine uG 69 repT_i repE_one hga (.slice (some ⟨wq.heap.size,0,none⟩) 1 1) [nr] (uK (enc:=repE) (e:=186) repE_len hX) (by simp only[List.length_singleton];unfold maxLen;omega) (by simp only[List.length_singleton];omega) (by have:=hma.size;omega) (fun v76 wb hgb hmb hvb=>?_)
      obtain⟨vad2,vcp2,rfl⟩:=hgb.slice;have hb3b:=hmb.obj (fun e=>vB hga (by decide) _ e _ hb3a) hb3a;simp only[qB]
      refine qK (zR 69 1 (.slice vad2 (Y++[nr]).length vcp2) hb3b (fun wc hBc hmc=>?_) (hoff:=by simp))
      have hBc':wc.heap[b3]?=some (.cells #[.slice nad V.length ncap,.slice vad2 (Y++[nr]).length vcp2] 71 (0,0)):=by simpa using hBc
      simp only[qB];have hgc:=hgb.keep hmc (fun q hq e=>by have e:q=b3:=e;subst e;exact vB hgb (by decide) _ hq _ hb3b)
      have hMq:Mod (fun k=>k=b3\/rvY.ownBlock=some k) wq wc:=((hma.mono (fun _ _ h=>h.elim)).trans hmb (fun _ _ h=>.inr h)).trans hmc (fun _ _ h=>.inl h)
      have h3t:∀T,T≠71->∀c,wr.heap[b3]?≠some (.cells c T (0,0)):=fun T hT c hc=>by
       rw[hb3r]at hc;injection hc with hc;injection hc with _ hc _;exact hT hc.symm
      have h3q:∀T,T≠71->∀c,wq.heap[b3]?≠some (.cells c T (0,0)):=fun T hT c hc=>by
       rw[hb3q]at hc;injection hc with hc;injection hc with _ hc _;exact hT hc.symm
      have hMr:Mod (fun k=>s<=k\/k=b3\/rvY.ownBlock=some k) wr wc:=(((hm6.mono (fun _ _ h=>h.elim)).trans hmq (fun _ _ h=>.inl h))).trans hMq (fun _ _ h=>.inr h)
      have hszq:=hMq.size;have hszr:=hMr.size
      have HR:Hid (CtRel b3 b3 w3 (.slice nad V.length ncap) reps (.int .i64 ((k+1:Nat):Int)) wc):=O ⟨k+1,Y++[nr],_,by omega,rfl,hBc',hgc,fun r hr=>by
       rcases List.mem_append.1 hr with hr|hr
       ·refine(HKY.out r hr).keep hMr (fun q hq=>?_) hszr
        rcases hq with h9|rfl|h9
        ·left;omega
        ·exact .inr ⟨h3t _ (by decide),h3t _ (by decide)⟩
        ·exact .inr ⟨HTY.out.1 q h9,HTY.out.2 q h9⟩
       ·rw[List.mem_singleton.1 hr]
        refine HNK.out.keep hMq (fun q hq=>?_) hszq
        rcases hq with rfl|h9
        ·exact .inr ⟨h3q _ (by decide),h3q _ (by decide)⟩
        ·exact .inr ⟨vB HGYQ.out (by decide) q h9,vB HGYQ.out (by decide) q h9⟩,by
       rw[List.map_append]
       exact HPS.out (gG nr) HNP.out,hmr.trans hMr (fun q _ hq=>by
       rcases hq with h9|rfl|h9
       ·show b3<=q;omega
       ·exact Nat.le_refl _
       ·exact(HGY6.out.lt h9).1)⟩
      clear hma hmb hmc hgc hMq hMr hX hga hgb hvb hb3a hb3b hBc hBc' hb3q hc3q h3t h3q hmwq hmq hb5q;go_wp2
      go_roundw
      case rel=>exact HR.out
      case measure=>simp[intOf];omega
  ·have hz:¬(k:Int)<(reps.length:Nat):=by omega
   obtain rfl:k=reps.length:=by omega
   refine qL [3,3,1,3,3] ?_;simp only[qB];refine qG 69 hcr ?_;try simp only[qC]
   refine xF ?_;simp only[qC];refine xT hz ?_;simp only[qB];obtain⟨yad,ycp,rfl⟩:=HGY.out.slice;go_upto_region 11 with(fail);refine qL [1,1] ?_;simp only[qB]
   refine qY 71 (CellsAt.whole hb3r) 2 rfl ?_;try simp only[qC]
   refine qK (qT 71 #[.slice nad V.length ncap,.slice yad Y.length ycp] (by simp[Value.oneCell']) 2 rfl hR2r (fun wf hBf hmf=>?_) (hoff:=by rfl));simp only[qB]
   have h2t:∀T,T≠71->∀c,wr.heap[b2]?≠some (.cells c T (0,0)):=fun T hT c hc=>by
    rw[hR2r]at hc;injection hc with hc;injection hc with _ hc _;exact hT hc.symm
   have hszf:=hmf.size
   have HF:Hid (CopyTbR w V reps (.returned (.agg #[.slice nad V.length ncap,.slice yad Y.length ycp])) wf):=O ⟨hmw.trans hmf (fun q hq e=>by have e:q=b2:=e;omega),_,_,Y.map gG,rfl,
    ((HNW.out.keep hmr (fun q hq h=>by have h:b3<=q:=h;have:=hq.2;omega) (fun _ _ h=>h)).keep hmf (fun q hq e=>by have e:q=b2:=e;have:=hq.1;omega) (fun _ _ h=>h)).mono (fun _ _=>trivial) (fun _ _ h=>h),
    reps_of (HGY.out.keep hmf (fun q hq e=>by have e:q=b2:=e;have:=(HGY.out.lt hq).1;omega)) (fun r hr=>(HKY.out r hr).keep hmf (fun q hq=>by have e:q=b2:=hq;subst e;exact .inr ⟨h2t _ (by decide),h2t _ (by decide)⟩) hszf),
    by have h9:=HPL.out;rwa[List.take_length]at h9⟩
   clear hmf hR2r h2t hb3r hcr hmw hmr;go_wp2;refine bodyPost_ret (results_row1 (P:=prog) (ty:=71) rfl _ _ b2 _ _ _ _ (by rfl) hBf underlying71 rfl (by kernel_rfl)) rfl ?_
   exact HF.out
theorem run_eql_held(w:iN)(h:vV)(hh:h.2.length=32):(Go.binOp .eql 211 (.agg (zY h)) (.agg (zY h))).run prog w=.ok (.bool true) w:=by
 obtain⟨⟨r,n⟩,id⟩:=h;unfold zY
 simp only
 go_simp
 have hs:∀w,(sizeOf 5).run prog w=.ok 1 w:=fun w=>by
  have hq:(prog.info? 5).map (·.size)=some 1:=by kernel_rfl
  cases hi:prog.info? 5 with
  |none=>rw[hi]at hq;cases hq
  |some i=>rw[hi]at hq;simp at hq;simp[sizeOf,typeInfo,hi,hq]
 have e:(qA id).extract 0 32=(id.map Extern.Stop.cell).toArray:=by
  have h9:(qA id).size=32:=by rw[qD];exact hh
  rw[<-h9,Array.extract_size]
  rfl
 rw[e,run_equalIn_bytes w 9997 24 5 32 underlying24 underlying5 hs id id hh hh]
 simp
theorem exec_eql_held(x y:Operand)(yt:TypeId)(ho:o.op=.binOp .eql 211 x y yt)(h:vV)(hh:h.2.length=32)(hx:a.eval x=.agg (zY h))(hy:a.eval y=.agg (zY h)):(execOp a.eval o).run prog w=.ok (.value (.bool true)) w:=by
 have h1:=run_eqGuard_agg (P:=prog) w .eql 211 x y (zY h) (zY h) (by kernel_rfl);unfold execOp
 simp only[ho,hx,hy,Sem.run_bind,h1,Result.andThen_ok,run_eql_held w h hh,Sem.run_pure]
def ShRel(n:Nat)(w0:iN)(s i:Value)(w:iN):Prop:=∃k:Nat,k<=n/\s=.bool true/\i=.int .i64 k/\Mod qJ w0 w
theorem sameHelds_eq{o o':Bool}{G':iM}{l:List vV}(ha:Sl o w G 34 sZ va l)(hb:Sl o' w G' 34 sZ vb l):Calls prog 122 #[va,vb] w (vO (.bool true) w):=by
 obtain⟨aa,ca,rfl,hla,ha⟩:=ha.at;obtain⟨ab,cb,rfl,hlb,hb⟩:=hb.at;have e1:((l.length:Int)==(l.length:Int))=true:=by simp
 have HA:=O ha;have HB:=O hb;clear ha hb;go_enter func122,ntmps122;go_wp2
 go_loopw [5,6] (ShRel l.length w) (fun _ i _=>l.length-(intOf i).toNat)
 case atStart=>exact⟨0,by omega,rfl,rfl,Mod.refl _ _⟩
 case round=>
  obtain⟨k,hk,rfl,rfl,hm⟩:=hrel
  rename_i wr
  by_cases hlt:k<l.length
  ·obtain⟨ba,oa,rfl,-,-,hca⟩:=HA.out k hlt
   obtain⟨bb,ob,rfl,-,-,hcb⟩:=HB.out k hlt;obtain⟨_,-,⟨rfl,hh⟩,hca⟩:=hca k hlt;obtain⟨_,-,⟨rfl,-⟩,hcb⟩:=hcb k hlt;have hsz:=uD hh;clear HA HB
   generalize l[k]=h at*;go_wp2_with fail;have hS:=hm.drew;refine zZ [3,3,3,0,3,3,3,0,0,3] [] (fun w'=>Mod qJ w w') hS ?_;simp only[qB]
   refine zC 184 34 hlt ?_;simp only[qC];refine zJ 211 (fun w' hS=>hca.keep hS id) 34 hsz ?_;simp only[qB];refine zC 184 34 hlt ?_;simp only[qC]
   refine zJ 211 (fun w' hS=>hcb.keep hS id) 34 hsz ?_;simp only[qC];refine qV rfl (fun w' hS=>exec_eql_held _ _ _ rfl h hh rfl rfl) ?_;simp only[qB];go_wp2
   go_roundw
   case rel=>exact⟨k+1,by omega,rfl,by go_num,hS⟩
   case measure=>simp[intOf];omega
  ·go_wp2
   go_ret;exact⟨rfl,hm⟩
theorem plain_at{x y:jW}(h:yX x=yX y):y.name=x.name/\y.man.2=x.man.2/\y.tags.length=x.tags.length/\∀m (h1:m<x.tags.length)(h2:m<y.tags.length),y.tags[m].name=x.tags[m].name/\y.tags[m].row.2=x.tags[m].row.2:=by
 unfold yX at h;simp only[Prod.mk.injEq]at h;obtain⟨h1,h2,h3⟩:=h;refine⟨h1.symm,h3.symm,by have h9:=congrArg List.length h2;simpa using h9.symm,fun m h4 h5=>?_⟩
 have h6:(x.tags.map fun t=>(t.name,t.row.2))[m]?=(y.tags.map fun t=>(t.name,t.row.2))[m]?:=by rw[h2]
 rw[List.getElem?_map,List.getElem?_map,List.getElem?_eq_getElem h4,List.getElem?_eq_getElem h5]at h6;simp only[Option.map_some,Option.some.injEq,Prod.mk.injEq]at h6
 exact⟨h6.1.symm,h6.2.symm⟩
def StRel(n:Nat)(w0:iN)(i:Value)(w:iN):Prop:=∃k:Nat,k<=n/\i=.int .i64 k/\Mod qJ w0 w
theorem sameTable_eq{oa ob:Bool}{Ga Gb:iM}{ra rb:Value}{A B:List jW}(hVa:Sl oa w Ga 1 dH va V)(hVb:Sl ob w Gb 1 dH vb V)(hA:vG w ra A)(hB:vG w rb B)(hAB:A.map yX=B.map yX)(hs:SmallTb A):
 Calls prog 51 #[.agg #[va,ra],.agg #[vb,rb]] w (vO (.bool true) w):=by
 obtain⟨vad,vcap,rfl,-,-⟩:=Sl.at hVa;obtain⟨uad,ucap,rfl,-,-⟩:=Sl.at hVb;obtain⟨aad,acap,rfl,-,-⟩:=Sl.at hA;obtain⟨bad,bcap,rfl,-,-⟩:=Sl.at hB
 have hlen:B.length=A.length:=by have h9:=congrArg List.length hAB;simpa using h9.symm
 have hA10:=hs.1;have HS:=O hs
 have HPL:=O (fun(k:Nat)(h1:k<A.length)(h2:k<B.length)=>show yX A[k]=yX B[k]from by
  have h6:(A.map yX)[k]?=(B.map yX)[k]?:=by rw[hAB]
  rw[List.getElem?_map,List.getElem?_map,List.getElem?_eq_getElem h1,List.getElem?_eq_getElem h2]at h6
  simpa using h6)
 have HA:=O hA;have HB:=O hB;have HVA:=O hVa;have HVB:=O hVb;rw[hlen];clear hVa hVb hA hB hAB hs;go_enter func51,ntmps51;go_upto_region 0 with(fail)
 refine qL [1,1,3] ?_;simp only[qB];refine qK (zT 71 (fun w1 hB1 hm1 hs1=>?_))
 replace hB1:w1.heap[w.heap.size]?=some (.cells #[.slice vad V.length vcap,.slice aad A.length acap] 71 (0,0)):=hB1;try simp only[qC]
 refine qK (zT 71 (fun w2 hB2 hm2 hs2=>?_));replace hB2:w2.heap[w1.heap.size]?=some (.cells #[.slice uad V.length ucap,.slice bad A.length bcap] 71 (0,0)):=hB2
 simp only[qB];have hm02:=hm1.trans0 hm2;have hBx:=hm2.obj id hB1;have ha0:w2.cell? ⟨w.heap.size,0,none⟩=some (.slice vad V.length vcap):=by simp[World.cell?,hBx]
 have ha1:w2.cell? ⟨w.heap.size,1,none⟩=some (.slice aad A.length acap):=by simp[World.cell?,hBx]
 have hb0:w2.cell? ⟨w1.heap.size,0,none⟩=some (.slice uad V.length ucap):=by simp[World.cell?,hB2]
 have hb1:w2.cell? ⟨w1.heap.size,1,none⟩=some (.slice bad A.length bcap):=by simp[World.cell?,hB2]
 have hsi:=sameInts_any _ _ _ _ _ _ _ _ w2 (HVA.out.keep0 hm02) (HVB.out.keep0 hm02);rw[show decide (V=V)=true from decide_eq_true rfl]at hsi
 generalize w.heap.size=b2 at*;generalize w1.heap.size=b3 at*;clear hm1 hm2 hB1 hB2 hBx hs1 hs2;go_upto_region 1 with(fail)
 refine qL [3,1,3,1,1,3,3,3,1,3,3,1,3,3,3] ?_;simp only[qB];refine qG 64 ha0 ?_;simp only[qB];refine qG 64 hb0 ?_;try simp only[qC]
 refine qK (xE func121 (hsi) ?_);rintro e w3 ⟨rfl,hm3⟩;have ha1c:=hm3.cell id ha1;have hb1c:=hm3.cell id hb1;refine⟨_,rfl,?_⟩;try simp only[qB]
 try refine xC _ _ true (by rfl) (by rfl) (by rfl) ?_
 try simp only[qB]
 refine qG 69 ha1c ?_;try simp only[qC]
 refine xF ?_;simp only[qB];refine qG 69 hb1c ?_;try simp only[qC]
 refine xF ?_;simp only[qC];refine qN _ _ _ _ _ _ _ _ rfl rfl rfl rfl rfl false (decide_eq_false (fun h=>h rfl)) ?_;simp only[qB];have hm03:=hm02.trans0 hm3
 clear hm3 hsi ha0 hb0 ha1 hb1 hm02;go_wp2
 go_loopw [5] (StRel A.length w3) (fun i _=>A.length-(intOf i).toNat)
 case atStart=>exact⟨0,Nat.zero_le _,rfl,Mod.refl _ _⟩
 case round=>
  rename iN=>wr
  obtain⟨k,hk,rfl,hmr⟩:=hrel;have hmw:=hm03.trans0 hmr;have har:=hmr.cell id ha1c;have hbr:=hmr.cell id hb1c;go_upto_region 4 with(fail)
  by_cases hlt:k<A.length
  ·have hz:(k:Int)<(A.length:Nat):=by omega
   have hltB:k<B.length:=by omega
   obtain⟨_,_,hae,-,hat⟩:=(xO HA.out (KC.of0 hmw)).at;injection hae with hae1 hae2 hae3;subst hae1 hae3;obtain⟨p1,o1,rfl,-,-,hcc⟩:=hat k hlt
   obtain⟨cs,-,⟨rfl,hra⟩,hcA⟩:=hcc k hlt;obtain⟨_,_,hbe,-,hbt⟩:=(xO HB.out (KC.of0 hmw)).at;rw[hlen]at hbe;injection hbe with hbe1 hbe2 hbe3;subst hbe1 hbe3
   obtain⟨p2,o2,rfl,-,-,hdd⟩:=hbt k hltB;obtain⟨cs,-,⟨rfl,hrb⟩,hcB⟩:=hdd k hltB;obtain⟨hn,hman,htl,hte⟩:=plain_at (HPL.out k hlt hltB)
   have hs10:=(HS.out.2 A[k] (List.getElem_mem hlt)).1;generalize A[k]=x at*;generalize B[k]=y at*
   have h1x:∀c∈(#[Value.string x.name,x.tv,x.man.1]:iL),c.oneCell'=true:=by
    intro c hc
    simp at hc
    rcases hc with rfl|rfl|rfl
    ·rfl
    ·exact Sl.one hra.tags
    ·exact hra.man.one
   have h1y:∀c∈(#[Value.string x.name,y.tv,y.man.1]:iL),c.oneCell'=true:=by
    intro c hc
    simp at hc
    rcases hc with rfl|rfl|rfl
    ·rfl
    ·exact Sl.one hrb.tags
    ·exact hrb.man.one
   rw[hn]at hcB;obtain⟨t1,c1,htv1,-,-⟩:=Sl.at hra.tags;obtain⟨t2,c2,htv2,-,-⟩:=Sl.at hrb.tags;have hmnA:=hra.man;have hmnB:=hrb.man
   obtain⟨m1,d1,hmv1,-,-⟩:=Sl.at hmnA;obtain⟨m2,d2,hmv2,-,-⟩:=Sl.at hmnB;rw[htl]at htv2;have HTA:=O hra.tags;have HTB:=O hrb.tags;rw[htv1]at HTA
   rw[htv2]at HTB;have HMA:Hid (Sl false wr kV 34 sZ (.slice m1 x.man.2.length d1) x.man.2):=O (by rw[<-hmv1];exact hmnA)
   have HMB:Hid (Sl false wr kV 34 sZ (.slice m2 x.man.2.length d2) x.man.2):=O (by rw[<-hman,<-hmv2];exact hmnB);rw[hman]at hmv2;rw[htv1,hmv1]at hcA h1x
   rw[htv2,hmv2]at hcB h1y;have HTE:=O hte;clear hat hcc hae2 hbt hdd hbe2 hra hrb hmnA hmnB htv1 htv2 hmv1 hmv2 hte hn hman;refine qL [3,3,1,3,3] ?_;simp only[qB]
   refine qG 69 har ?_;try simp only[qC]
   refine xF ?_;simp only[qC];refine xD hz ?_;simp only[qB];go_upto_region 6 with(fail);have hD:Mod qJ wr wr.drew:=(Mod.refl _ _).drew
   refine yU [(0,3),(1,0),(2,3),(3,3),(4,0),(5,3),(6,0),(7,3),(8,3),(9,0)] 2 [(12,1),(13,1)] [] (fun w'=>Mod qJ wr.drew w') #[true,true,true,true,true,true,true,true,true,true,false,false,false,false] (by kernel_rfl) (by kernel_rfl) (by kernel_rfl) (by kernel_rfl) (by kernel_rfl) (fun _ _ _ _ hd h=>⟨hd.trans h.1,h.2⟩) (Mod.refl _ _) ?_
   simp only[qB];refine qE 69 (fun w' hS=>(hD.trans0 hS).cell id har) ?_;simp only[qB];refine zC 69 3 hlt ?_;simp only[qC]
   refine zJ 186 (fun w' hS=>hcA.keep (hD.trans0 hS) id) 3 rfl ?_;simp only[qB];refine qE 69 (fun w' hS=>(hD.trans0 hS).cell id hbr) ?_;simp only[qB]
   refine zC 69 3 hlt ?_;simp only[qC];refine zJ 186 (fun w' hS=>hcB.keep (hD.trans0 hS) id) 3 rfl ?_;simp only[qB]
   refine wpTree_rows (tB [(6,.inr (.cells #[.string ⟨#[]⟩,.slice none 0 0,.slice none 0 0] 186 (0,0))),(7,.inr (.cells #[.string ⟨#[]⟩,.slice none 0 0,.slice none 0 0] 186 (0,0)))]) [(10,6),(11,7)] (fun _ h=>h) (by kernel_rfl) (by decide) ?hend ?hop
   case hop=>
    intro q hq ps w1 hm hps K hK;simp only[List.mem_cons,List.not_mem_nil,or_false]at hq
    rcases hq with rfl|rfl
    ·simp only[tB,Nat.reduceEqDiff,if_true,if_false,reduceIte]at hK
     simp only[zz5];exact jX 186 _ (by rfl) repZ (fun w' hB hm' hs'=>hK w' hB hm' hs')
    ·simp only[tB,Nat.reduceEqDiff,if_true,if_false,reduceIte]at hK
     simp only[zz5];exact jX 186 _ (by rfl) repZ (fun w' hB hm' hs'=>hK w' hB hm' hs')
   intro vals wz hvl hJ;obtain⟨v6,vals1,rfl,hvl1⟩:=kL hvl;obtain⟨v7,vals2,rfl,hvl2⟩:=kL hvl1;obtain rfl:=List.eq_nil_of_length_eq_zero hvl2
   simp only[List.map_cons,List.map_nil,List.zip_cons_cons,List.zip_nil_left]at hJ |-;have h6:=hJ.2.1 (6,v6) (by simp)
   simp only[GrpF,tB,Nat.reduceEqDiff,if_true,if_false,reduceIte]at h6;obtain⟨b6,rfl,hB6,hL6,hH6⟩:=h6;have h7:=hJ.2.1 (7,v7) (by simp)
   simp only[GrpF,tB,Nat.reduceEqDiff,if_true,if_false,reduceIte]at h7;obtain⟨b7,rfl,hB7,hL7,hH7⟩:=h7
   have hN6_7:b6≠b7:=hJ.ne (d:=6) (e:=7) (by simp) (by simp) (by decide) (by simp only[tB,Nat.reduceEqDiff,if_true,if_false,reduceIte];rfl) (by simp only[tB,Nat.reduceEqDiff,if_true,if_false,reduceIte];rfl)
   have hGM:=hJ.1;clear hJ hvl hvl1 hvl2;simp only[uF];try simp only[qC]
   refine qH rfl (fun K hK=>?_);refine yL 186 h1x 3 rfl hB6 (fun w4 hC6 hm4=>?_) (hoff:=by rfl);have hG2:=hGM.transB hm4 hL6
   replace hB7:=hm4.objB (fun e=>hN6_7 e.symm) hB7;clear hB6 hm4;refine hK _ _ hG2 ?_;clear hK K;try simp only[qC]
   refine qH rfl (fun K hK=>?_);refine yL 186 h1y 3 rfl hB7 (fun w5 hC7 hm5=>?_) (hoff:=by rfl);have hG3:=hG2.transB hm5 hL7;replace hC6:=hm5.objB hN6_7 hC6
   clear hB7 hm5;refine hK _ _ hG3 ?_;clear hK K;simp only[qB];have hmr5:=hD.trans0 hG3;have hn6:w5.cell? ⟨b6,0,none⟩=some (.string x.name):=by simp[World.cell?,hC6]
   have hn7:w5.cell? ⟨b7,0,none⟩=some (.string x.name):=by simp[World.cell?,hC7]
   have ht6:w5.cell? ⟨b6,1,none⟩=some (.slice t1 x.tags.length c1):=by simp[World.cell?,hC6]
   have ht7:w5.cell? ⟨b7,1,none⟩=some (.slice t2 x.tags.length c2):=by simp[World.cell?,hC7]
   have hd6:w5.cell? ⟨b6,2,none⟩=some (.slice m1 x.man.2.length d1):=by simp[World.cell?,hC6]
   have hd7:w5.cell? ⟨b7,2,none⟩=some (.slice m2 x.man.2.length d2):=by simp[World.cell?,hC7]
   have hsm:=sameHelds_eq (Sl.kc HMA.out (KC.of0 hmr5) fun _ _ h=>h) (Sl.kc HMB.out (KC.of0 hmr5) fun _ _ h=>h)
   clear hC6 hC7 hG2 hG3 hGM hD hL6 hL7 hH6 hH7 hN6_7 hcA hcB h1x h1y har hbr;go_upto_region 7 with(fail)
   refine qL [3,1,3,1,0,3,3,1,3,3,1,3,3,3,3,3,1,3,1,1,3,3] ?_;simp only[qB];refine qG 9 hn6 ?_;simp only[qB];refine qG 9 hn7 ?_;try simp only[qC]
   refine qV rfl (fun w' hS=>tJ _ _ _ _ rfl _ _ rfl rfl false (by simp)) ?_;simp only[qB];refine qG 183 ht6 ?_;try simp only[qC]
   refine xF ?_;simp only[qB];refine qG 183 ht7 ?_;try simp only[qC]
   refine xF ?_;simp only[qC];refine qN _ _ _ _ _ _ _ _ rfl rfl rfl rfl rfl false (decide_eq_false (fun h=>h rfl)) ?_;simp only[qB];refine qG 184 hd6 ?_
   simp only[qB];refine qG 184 hd7 ?_;try simp only[qC]
   refine qK (pL func122 (hsm) fun w6 hm6=>?_);try simp only[qB]
   try refine xC _ _ true (by rfl) (by rfl) (by rfl) ?_
   try simp only[qB]
   have hmr6:=hmr5.trans0 hm6;have hu6:=hm6.cell id ht6;have hu7:=hm6.cell id ht7;clear hm6 hmr5 hsm hn6 hn7 ht6 ht7 hd6 hd7;go_wp2
   go_loopw [8] (StRel x.tags.length w6) (fun i _=>x.tags.length-(intOf i).toNat)
   case atStart=>exact⟨0,Nat.zero_le _,rfl,Mod.refl _ _⟩
   case round=>
    rename iN=>wq
    obtain⟨p,hp,rfl,hmq⟩:=hrel;have hq6:=hmq.cell id hu6;have hq7:=hmq.cell id hu7;go_upto_region 10 with(fail)
    by_cases hltp:p<x.tags.length
    ·have hzp:(p:Int)<(x.tags.length:Nat):=by omega
     have hltq:p<y.tags.length:=by omega
     have hkc:=KC.of0 (hmr6.trans0 hmq);obtain⟨_,_,hte1,-,hta⟩:=(Sl.kc HTA.out hkc fun _ _ h=>⟨h.1,h.2.kc hkc⟩:Sl false wq kV 2 (TagC wq) _ x.tags).at
     injection hte1 with e1 e2 e3;subst e1 e3;obtain⟨q1,f1,rfl,-,-,hcc⟩:=hta p hltp;obtain⟨cs,-,⟨rfl,hr1⟩,hcA⟩:=hcc p hltp
     obtain⟨_,_,hte2,-,htb⟩:=(Sl.kc HTB.out hkc fun _ _ h=>⟨h.1,h.2.kc hkc⟩:Sl false wq kV 2 (TagC wq) _ y.tags).at;rw[htl]at hte2;injection hte2 with e4 e5 e6
     subst e4 e6;obtain⟨q2,f2,rfl,-,-,hdd⟩:=htb p hltq;obtain⟨cs,-,⟨rfl,hr2⟩,hcB⟩:=hdd p hltq;obtain⟨hn,hrow⟩:=HTE.out p hltp hltq;generalize x.tags[p]=a at*
     generalize y.tags[p]=b at*;obtain⟨g1,z1,hv1,-,-⟩:=Sl.at hr1;obtain⟨g2,z2,hv2,-,-⟩:=Sl.at hr2
     have hcn1:wq.cell? ⟨q1,f1+p*2,none⟩=some (.string a.name):=hcA 0 (by simp)
     have hcn2:wq.cell? ⟨q2,f2+p*2,none⟩=some (.string a.name):=by rw[<-hn];exact hcB 0 (by simp)
     have hcr1:wq.cell? ⟨q1,f1+p*2+1,none⟩=some (.slice g1 a.row.2.length z1):=by rw[hcA 1 (by simp),<-hv1];rfl
     have hcr2:wq.cell? ⟨q2,f2+p*2+1,none⟩=some (.slice g2 a.row.2.length z2):=by rw[<-hrow,hcB 1 (by simp),<-hv2];rfl
     have HR1:Hid (Sl false wq kV 34 sZ (.slice g1 a.row.2.length z1) a.row.2):=O (by rw[<-hv1];exact hr1)
     have HR2:Hid (Sl false wq kV 34 sZ (.slice g2 a.row.2.length z2) a.row.2):=O (by rw[<-hrow,<-hv2];exact hr2)
     clear hta hcc htb hdd hr1 hr2 hcA hcB hv1 hv2 e2 e5 hn hrow;refine qL [3,3,1,3,3] ?_;simp only[qB];refine qG 183 hq6 ?_;try simp only[qC]
     refine xF ?_;simp only[qC];refine xD hzp ?_;simp only[qB];go_upto_region 12 with(fail);have hS:Mod qJ wq wq.drew:=(Mod.refl _ _).drew
     have hsm:=sameHelds_eq (HR1.out.keep0 hS) (HR2.out.keep0 hS)
     refine zZ [3,0,3,3,3,0,3,0,3,3,3,0,0,3,3,0,3,3,3,0,3,0,3,3,3,0,1,3,3] [] (fun w'=>Mod qJ wq w') hS ?_;simp only[qB]
     refine qE 183 (fun w' hS=>hS.cell id hq6) ?_;simp only[qB];refine zC 183 2 hltp ?_;simp only[qB];refine qE 9 (fun w' hS=>hS.cell id hcn1) ?_;simp only[qB]
     refine qE 183 (fun w' hS=>hS.cell id hq7) ?_;simp only[qB];refine zC 183 2 hltp ?_;simp only[qB];refine qE 9 (fun w' hS=>hS.cell id hcn2) ?_;simp only[qC]
     refine qV rfl (fun w' hS=>tJ _ _ _ _ rfl _ _ rfl rfl false (by simp)) ?_;simp only[qB];refine qE 183 (fun w' hS=>hS.cell id hq6) ?_;simp only[qB]
     refine zC 183 2 hltp ?_;simp only[qB];refine qE 184 (fun w' hS=>hS.cell id hcr1) ?_;simp only[qB];refine qE 183 (fun w' hS=>hS.cell id hq7) ?_
     simp only[qB];refine zC 183 2 hltp ?_;simp only[qB];refine qE 184 (fun w' hS=>hS.cell id hcr2) ?_;simp only[qC];refine qH rfl (fun K hK=>?_)
     refine xE func122 (hsm) ?_;rintro e we ⟨rfl,hme⟩;have hS2:=hS.trans0 hme;refine⟨_,rfl,hK _ _ hS2 ?_⟩;clear hK K;try simp only[qB]
     try refine xC _ _ true (by rfl) (by rfl) (by rfl) ?_
     try simp only[qB]
     have HR:Hid (StRel x.tags.length w6 (.int .i64 ((p+1:Nat):Int)) we):=O ⟨p+1,by omega,rfl,hmq.trans0 hS2⟩;clear hS hS2 hme hsm hcn1 hcn2 hcr1 hcr2 hq6 hq7
     go_wp2
     go_roundw
     case rel=>exact HR.out
     case measure=>simp[intOf];omega
    ·have hzp:¬(p:Int)<(x.tags.length:Nat):=by omega
     refine qL [3,3,1,3,3] ?_;simp only[qB];refine qG 183 hq6 ?_;try simp only[qC]
     refine xF ?_;simp only[qC];refine xT hzp ?_;simp only[qB]
     have HR:Hid (StRel A.length w3 (.int .i64 ((k+1:Nat):Int)) wq):=O ⟨k+1,by omega,rfl,hmr.trans0 (hmr6.trans0 hmq)⟩;clear hq6 hq7;go_wp2
     go_roundw
     case rel=>exact HR.out
     case measure=>simp[intOf];omega
  ·have hz:¬(k:Int)<(A.length:Nat):=by omega
   refine qL [3,3,1,3,3] ?_;simp only[qB];refine qG 69 har ?_;try simp only[qC]
   refine xF ?_;simp only[qC];refine xT hz ?_;simp only[qB];clear har hbr;go_wp2;go_ret;exact⟨rfl,hmw⟩
end
section
open Go.RowKit Go.Proofs.Tryz Go.Lib
structure RrI(w:iN)(rb:Nat)(bv:Value)(b:iK)(a:Nat)(e p:Int):Prop where
 box:w.heap[rb]?=some (.cells #[bv,.int .i64 a,.int .i64 e,.int .i64 p] 351 (0,0))
 sl:Sl false w (fun k=>bv.ownBlock=some k) 1 yA bv b
 lt:∀k,bv.ownBlock=some k->k<w.heap.size/\k≠rb
 len:b.length<=4096
 al:a<=b.length
 z:e=0->p=0
def RrS(w w':iN)(rb:Nat)(bv:Value)(b:iK)(s:RS):Prop:=(∃a e p,RrI w' rb bv b a e p/\yW a e=s)/\Mod (fun k=>k=rb) w w'
theorem Sl.own1{α:Type}{own:Bool}{R:iL->α->Prop}{l:List α}(h:Sl own w G n R v l):Sl false w (fun k=>v.ownBlock=some k) n R v l:=by
 obtain⟨a,cap,rfl,h1,h2,h3⟩:=h;refine⟨a,cap,rfl,h1,h2,fun hne=>?_⟩;obtain⟨b,off,rfl,_,_,hc⟩:=h3 hne;exact⟨b,off,rfl,rfl,fun h=>(nomatch h),hc⟩
section
variable{w:iN}{rb:Nat}{bv:Value}{b:iK}{a:Nat}{e p:Int}
theorem RrI.keep{S:iM}{w':iN}(h:RrI w rb bv b a e p)(hm:Mod S w w')(h1:¬S rb)(h3:∀k,bv.ownBlock=some k->¬S k):RrI w' rb bv b a e p:=
 ⟨hm.obj h1 h.box,h.sl.keep hm h3 (fun _ _ h=>h),fun k hk=>⟨Nat.lt_of_lt_of_le (h.lt k hk).1 hm.size,(h.lt k hk).2⟩,h.len,h.al,h.z⟩
theorem RrI.keep0(h:RrI w rb bv b a e p)(hm:Mod qJ w w'):RrI w' rb bv b a e p:=h.keep hm id (fun _ _=>id)
theorem RrI.all(h:RrI w rb bv b a e p):∀k,k=rb\/bv.ownBlock=some k->k<w.heap.size:=fun k hk=>by
 rcases hk with rfl|hk
 ·exact(Array.getElem?_eq_some_iff.1 h.box).1
 ·exact(h.lt k hk).1
theorem RrI.keepN(h:RrI w rb bv b a e p)(h0:∀k,k=rb\/bv.ownBlock=some k->k<w0.heap.size)(hm:Mod (fun k=>k=n) w w')(hn:w0.heap.size<=n):RrI w' rb bv b a e p:=
 h.keep hm (fun e=>by have:=h0 rb (.inl rfl);omega) (fun k hk e=>by have:=h0 k (.inr hk);omega)
theorem RrI.cell(h:RrI w rb bv b a e p):w.cell? ⟨rb,0,none⟩=some bv/\w.cell? ⟨rb,1,none⟩=some (.int .i64 a)/\w.cell? ⟨rb,2,none⟩=some (.int .i64 e)/\w.cell? ⟨rb,3,none⟩=some (.int .i64 p):=by
 simp[World.cell?,h.box]
theorem RrI.row(h:RrI w rb bv b a e p):CellsAt w rb 2 #[.int .i64 e,.int .i64 p]:=by
 intro j hj;have hj:j<2:=hj;rw[cell_of_row _ _ _ _ _ _ h.box]
 match j,hj with
 |0,_=>rfl
 |1,_=>rfl
theorem RrI.stay(h:RrI w rb bv b a e p):RrS w w rb bv b (yW a e):=⟨⟨a,e,p,h,rfl⟩,Mod.refl _ _⟩
theorem RrS.keepN{w0 w1 w2:iN}{n:Nat}{s:RS}(h:RrS w w1 rb bv b s)(h0:∀k,k=rb\/bv.ownBlock=some k->k<w0.heap.size)(hs:w0.heap.size<=w.heap.size)(hm:Mod (fun k=>k=n) w1 w2)(hn:w.heap.size<=n):RrS w w2 rb bv b s:=by
 obtain⟨⟨a,e,p,hi,hst⟩,hM⟩:=h;exact⟨⟨a,e,p,hi.keepN h0 hm (by omega),hst⟩,hM.trans hm (fun k hk e=>by have e':k=n:=e;omega)⟩
theorem RrS.pre{s:RS}(h:Mod qJ w w1)(k:RrS w1 w2 rb bv b s):RrS w w2 rb bv b s:=⟨k.1,(h.mono (fun _ _ h=>h.elim)).trans k.2 (fun _ _ h=>h)⟩
theorem RrS.post{s:RS}(k:RrS w w1 rb bv b s)(h:Mod qJ w1 w2):RrS w w2 rb bv b s:=by
 obtain⟨⟨a,e,p,hi,hst⟩,hM⟩:=k;exact⟨⟨a,e,p,hi.keep0 h,hst⟩,hM.trans h (fun _ _ h=>h.elim)⟩
theorem RrS.trans{w1 w2:iN}{s s':RS}(h:RrS w w1 rb bv b s)(k:RrS w1 w2 rb bv b s'):RrS w w2 rb bv b s':=⟨k.1,h.2.trans k.2 (fun _ _ h=>h)⟩
theorem RrI.fail(h:RrI w rb bv b a 0 p)(hm:Mod (fun k=>k=rb) w w'){at_:Int}(he:er≠0)(hw:w'.heap[rb]?=some (.cells #[bv,.int .i64 a,.int .i64 er,.int .i64 at_] 351 (0,0))):RrS w w' rb bv b none:=
 ⟨⟨a,er,at_,⟨hw,h.sl.keep hm (fun k hk hs=>(h.lt k hk).2 hs) (fun _ _ h=>h),fun k hk=>⟨Nat.lt_of_lt_of_le (h.lt k hk).1 hm.size,(h.lt k hk).2⟩,h.len,h.al,fun h=>absurd h he⟩,uC he⟩,hm⟩
theorem RrI.on(h:RrI w rb bv b a 0 p)(hm:Mod (fun k=>k=rb) w w'){a':Nat}(ha:a'<=b.length)(hw:w'.heap[rb]?=some (.cells #[bv,.int .i64 a',.int .i64 0,.int .i64 p] 351 (0,0))):RrS w w' rb bv b (some a'):=
 ⟨⟨a',0,p,⟨hw,h.sl.keep hm (fun k hk hs=>(h.lt k hk).2 hs) (fun _ _ h=>h),fun k hk=>⟨Nat.lt_of_lt_of_le (h.lt k hk).1 hm.size,(h.lt k hk).2⟩,h.len,ha,h.z⟩,rfl⟩,hm⟩
def RFailR(w:iN)(rb:Nat)(bv:Value)(b:iK):iJ:=fun x w'=>x=.returned (.tuple #[])/\RrS w w' rb bv b none
theorem uL(h:RrI w rb bv b a 0 p)(he:er≠0)(at_:Int):Calls prog 293 #[iO rb,.int .i64 er,.int .i64 at_] w (RFailR w rb bv b):=by
 have hce:=h.cell.2.2.1;have hbx:=h.box;have H:=O h;clear h;go_enter func293,ntmps293;go_upto_region 0 with(fail);refine qL [3,3,3,3,1,3] ?_;simp only[qB]
 refine qG 33 hce ?_;try simp only[qC]
 refine qZ (fun _=>by go_simp;try with_reducible rfl) ?_;simp only[qB];go_upto_region 1 with(fail);refine qL [3,3,3,0,3,3,1] ?_;simp only[qB]
 refine yV (uI er at_) ?_;simp only[qB]
 refine qK (xU 255 2 #[.int .i64 er,.int .i64 at_] (by simp[Value.oneCell']) 2 rfl hbx (fun w3 hB3 hm3=>?_) (hoff:=by simp))
 replace hB3:w3.heap[rb]?=some (.cells #[bv,.int .i64 a,.int .i64 er,.int .i64 at_] 351 (0,0)):=hB3;simp only[qB];go_wp2
 go_end0
 exact⟨rfl,H.out.fail hm3 he hB3⟩
theorem rrRest_any(h:RrI w rb bv b a e p):Calls prog 220 #[iO rb] w (vO (.int .i64 (if e≠0 then 0 else(b.length:Int)-a)) w):=by
 obtain⟨hcb,hca,hce,-⟩:=h.cell;have hle:=h.al;have hln:=h.len;obtain⟨ad,cap,rfl,-,-⟩:=Sl.at h.sl;clear h
 by_cases he:e=0
 ·subst he
  go_enter func220,ntmps220;go_upto_region 1 with(fail);refine qL [3,3,3,3,1,3] ?_;simp only[qB];refine qG 33 hce ?_;try simp only[qC]
  refine aE (b:=false) rfl ?_;simp only[qB];go_upto_region 3 with(fail);have hS:Mod qJ w w.drew:=(Mod.refl _ _).drew
  refine zZ [3,3,3,0,3,3,3,3,0,3,3] [] (fun w'=>Mod qJ w w') hS ?_;simp only[qB];refine qE 53 (fun w' hS=>hS.cell id hcb) ?_;simp only[qC];refine xF ?_
  simp only[qB];refine qE 3 (fun w' hS=>hS.cell id hca) ?_;simp only[qC]
  refine yC _ _ _ _ ((b.length:Nat):Int) (a:Int) rfl rfl rfl rfl (by omega) (by omega) ?_;simp only[qB];go_wp2;go_ret;exact⟨rfl,hS⟩
 ·rw[if_pos he]
  go_enter func220,ntmps220;go_upto_region 1 with(fail);refine qL [3,3,3,3,1,3] ?_;simp only[qB];refine qG 33 hce ?_;try simp only[qC]
  refine xD he ?_;simp only[qB];go_wp2;go_ret;exact⟨rfl,Mod.refl _ _⟩
def REndR(w:iN)(b:iK)(a:Nat)(e:Int):iJ:=fun x w'=>Mod qJ w w'/\∃er at_:Int,x=.returned (.agg #[.int .i64 er,.int .i64 at_])/\(er=0↔e=0/\a=b.length)/\(er=0->at_=0)
theorem rrEnd_any(h:RrI w rb bv b a e p):Calls prog 219 #[iO rb] w (REndR w b a e):=by
 have hal:=h.al;have hln:=h.len;have hzp:=h.z;obtain⟨ad,cap,rfl,-,-⟩:=Sl.at h.sl;have H:=O h;clear h;go_enter func219,ntmps219;go_upto_region 0 with(fail)
 refine qL [1] ?_;simp only[qB];refine qK (zB fZ (fun w1 hB1 hm1 hs1=>?_));simp only[qB];have H1:=H.out.keep0 hm1;obtain⟨hcb,hca,hce,-⟩:=H1.cell
 have hrow:=H1.row;clear H1;go_upto_region 1 with(fail);have hS:Mod qJ w1 w1.drew:=(Mod.refl _ _).drew
 by_cases he:e=0
 ·subst he
  obtain rfl:=hzp rfl
  rcases Nat.lt_or_ge a b.length with hlt|hge
  ·have hlz:(a:Int)<(b.length:Nat):=by omega
   refine zZ [3,3,3,3,0,3,3,3,3,3,0,3,3,3,0,3,3,3] [] (fun w'=>Mod qJ w1 w') hS ?_;simp only[qB];refine qE 33 (fun w' hS=>hS.cell id hce) ?_
   simp only[qC];refine aE (b:=true) rfl ?_;simp only[qB];refine qE 3 (fun w' hS=>hS.cell id hca) ?_;simp only[qB]
   refine qE 53 (fun w' hS=>hS.cell id hcb) ?_;simp only[qC];refine xF ?_;simp only[qC]
   refine qN _ _ _ _ _ _ _ _ rfl rfl rfl rfl rfl true (decide_eq_true (by omega)) ?_;simp only[qB];have HM3:Hid (Mod qJ w w1.drew):=O (hm1.trans0 hS)
   have hB3:=hS.obj id hB1;have hca3:=hS.cell id hca;clear hS hm1 hB1 hcb hca hce hrow H;generalize w1.drew=w3 at*;go_upto_region 2 with(fail)
   refine qL [3,3,3,1,0,1] ?_;simp only[qB];refine qG 3 hca3 ?_;try simp only[qC]
   refine yV (uI 4 a) ?_;simp only[qC]
   refine qK (qT 255 #[.int .i64 4,.int .i64 a] (by simp[Value.oneCell']) 2 rfl hB3 (fun w4 hB4 hm4=>?_) (hoff:=by rfl));simp only[qB]
   have hM4:Hid (Mod qJ w w4):=O (HM3.out.transB hm4 (Nat.le_refl _));clear hm4 hB3;go_wp2
   refine bodyPost_ret (results_cell_row (P:=prog) (ty:=255) rfl _ _ w.heap.size _ _ _ _ (by rfl) hB4 underlying255 rfl (by kernel_rfl)) rfl ?_
   exact⟨hM4.out,4,a,rfl,by omega,by omega⟩
  ·have hlz:¬(a:Int)<(b.length:Nat):=by omega
   refine zZ [3,3,3,3,0,3,3,3,3,3,0,3,3,3,0,3,3,3] [] (fun w'=>Mod qJ w1 w') hS ?_;simp only[qB];refine qE 33 (fun w' hS=>hS.cell id hce) ?_
   simp only[qC];refine aE (b:=true) rfl ?_;simp only[qB];refine qE 3 (fun w' hS=>hS.cell id hca) ?_;simp only[qB]
   refine qE 53 (fun w' hS=>hS.cell id hcb) ?_;simp only[qC];refine xF ?_;simp only[qC]
   refine qN _ _ _ _ _ _ _ _ rfl rfl rfl rfl rfl false (decide_eq_false (by omega)) ?_;simp only[qB];have HM3:Hid (Mod qJ w w1.drew):=O (hm1.trans0 hS)
   have hB3:=hS.obj id hB1;have hrow3:=hrow.keep hS id;clear hS hm1 hB1 hcb hca hce hrow H;generalize w1.drew=w3 at*;go_upto_region 3 with(fail)
   refine qL [3,3,3,1,1] ?_;simp only[qB];refine qY 255 hrow3 2 rfl ?_;try simp only[qC]
   refine qK (qT 255 #[.int .i64 0,.int .i64 0] (by simp[Value.oneCell']) 2 rfl hB3 (fun w4 hB4 hm4=>?_) (hoff:=by rfl));simp only[qB]
   have hM4:Hid (Mod qJ w w4):=O (HM3.out.transB hm4 (Nat.le_refl _));clear hm4 hB3;go_wp2
   refine bodyPost_ret (results_cell_row (P:=prog) (ty:=255) rfl _ _ w.heap.size _ _ _ _ (by rfl) hB4 underlying255 rfl (by kernel_rfl)) rfl ?_
   exact⟨hM4.out,0,0,rfl,by omega,by omega⟩
 ·
  refine zZ [3,3,3,3,0,3,3,3,3,3,0,3,3,3,0,3,3,3] [] (fun w'=>Mod qJ w1 w') hS ?_;simp only[qB];refine qE 33 (fun w' hS=>hS.cell id hce) ?_
  simp only[qC];refine xT he ?_;simp only[qB];have HM3:Hid (Mod qJ w w1.drew):=O (hm1.trans0 hS);have hB3:=hS.obj id hB1;have hrow3:=hrow.keep hS id
  clear hS hm1 hB1 hcb hca hce hrow H;generalize w1.drew=w3 at*;go_upto_region 3 with(fail);refine qL [3,3,3,1,1] ?_;simp only[qB];refine qY 255 hrow3 2 rfl ?_
  try simp only[qC]
  refine qK (qT 255 #[.int .i64 e,.int .i64 p] (by simp[Value.oneCell']) 2 rfl hB3 (fun w4 hB4 hm4=>?_) (hoff:=by rfl));simp only[qB]
  have hM4:Hid (Mod qJ w w4):=O (HM3.out.transB hm4 (Nat.le_refl _));clear hm4 hB3;go_wp2
  refine bodyPost_ret (results_cell_row (P:=prog) (ty:=255) rfl _ _ w.heap.size _ _ _ _ (by rfl) hB4 underlying255 rfl (by kernel_rfl)) rfl ?_
  exact⟨hM4.out,e,p,rfl,by omega,by omega⟩
end
end
end Go.Proofs.YtjeonjoifjbohaaGreat
