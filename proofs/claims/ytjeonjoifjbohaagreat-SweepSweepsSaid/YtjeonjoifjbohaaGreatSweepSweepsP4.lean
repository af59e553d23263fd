/- What the statement SweepSweeps needs, part 4. -/
import Derived.Lib.SliceRun
import Derived.Lib.AppendZeros
import Derived.Shelf.SlSortCmp.NoneTotal
import Derived.RangeFuncNested
import Derived.Test.YtjeonjoifjbohaaGreatSweepSweepsP3
set_option linter.unusedVariables false
set_option linter.unusedSimpArgs false
set_option linter.unnecessarySimpa false
set_option linter.unusedSectionVars false
set_option maxRecDepth 10000
set_option maxHeartbeats 8000000
namespace Go.Proofs.YtjeonjoifjbohaaGreat
section
open Go.RowKit Go.Shelf Go.Proofs.Tryz Go.Lib
section
variable{P:Program}{w:World}{o:Oper}{a:Act}
theorem exec_quo2(t:TypeId)(x y:Operand)(yt:TypeId)(m d:Int)(ho:o.op=.binOp .quo t x y yt)(hx:a.eval x=.int .i64 m)(hy:a.eval y=.int .i64 2)(hd:Int.tdiv m 2=d)(h1:-9223372036854775808<=d)(h2:d<=9223372036854775807):(execOp a.eval o).run P w=.ok (.value (.int .i64 d)) w:=by
 subst hd;have hw:=wrap_in h1 h2;unfold execOp
 simp[ho,hx,hy,eqGuard,binOp,Op.intArith,Op.intDiv,hw]
end
section
variable{w:World}{hb base:Nat}{v:Value}{l:List (List UInt8)}{o:Oper}{a:Act}
theorem inv_Less(h:DgI w hb base v l)(x y z:Operand)(ts:Array TypeId)(i j:Nat)(ho:o.op=.call { callee:=.invoke x "Less",args:=#[y,z],argTypes:=ts })(hx:a.eval x=.iface 178 (.pointer (some ⟨hb,0,none⟩)))(hy:a.eval y=.int .i64 i)(hz:a.eval z=.int .i64 j):
 (execOp a.eval o).run prog w=.ok (.enter 345 #[v,.int .i64 i,.int .i64 j]) w:=
 run_invoke x "Less" [y,z] ts ho _ _ hx 345 v (fun n=>run_methV n 178 179 _ "Less" 345 v _ meth_Less underlying178 underlying179 rfl h.cell) pTypes _ func345 rfl (by kernel_rfl) [.int .i64 i,.int .i64 j] (by simp[hy,hz])
theorem inv_Swap(h:DgI w hb base v l)(x y z:Operand)(ts:Array TypeId)(i j:Nat)(ho:o.op=.call { callee:=.invoke x "Swap",args:=#[y,z],argTypes:=ts })(hx:a.eval x=.iface 178 (.pointer (some ⟨hb,0,none⟩)))(hy:a.eval y=.int .i64 i)(hz:a.eval z=.int .i64 j):
 (execOp a.eval o).run prog w=.ok (.enter 348 #[v,.int .i64 i,.int .i64 j]) w:=
 run_invoke x "Swap" [y,z] ts ho _ _ hx 348 v (fun n=>run_methV n 178 179 _ "Swap" 348 v _ meth_Swap underlying178 underlying179 rfl h.cell) pTypes _ func348 rfl (by kernel_rfl) [.int .i64 i,.int .i64 j] (by simp[hy,hz])
theorem inv_Len(h:DgI w hb base v l)(x:Operand)(ts:Array TypeId)(ho:o.op=.call { callee:=.invoke x "Len",args:=#[],argTypes:=ts })(hx:a.eval x=.iface 178 (.pointer (some ⟨hb,0,none⟩))):
 (execOp a.eval o).run prog w=.ok (.enter 105 #[v]) w:=
 run_invoke x "Len" [] ts ho _ _ hx 105 v (fun n=>run_methV n 178 179 _ "Len" 105 v _ meth_Len underlying178 underlying179 rfl h.cell) pTypes _ func105 rfl (by kernel_rfl) [] rfl
theorem inv_Push(u:Value)(x y:Operand)(ts:Array TypeId)(ho:o.op=.call { callee:=.invoke x "Push",args:=#[y],argTypes:=ts })(hx:a.eval x=.iface 178 (.pointer (some ⟨hb,0,none⟩)))(hy:a.eval y=u):
 (execOp a.eval o).run prog w=.ok (.enter 347 #[.pointer (some ⟨hb,0,none⟩),u]) w:=
 run_invoke x "Push" [y] ts ho _ _ hx 347 _ (fun n=>run_methP n 178 179 _ "Push" 347 meth_Push underlying178) pTypes _ func347 rfl (by kernel_rfl) [u] (by simp[hy])
theorem inv_Pop(x:Operand)(ts:Array TypeId)(ho:o.op=.call { callee:=.invoke x "Pop",args:=#[],argTypes:=ts })(hx:a.eval x=.iface 178 (.pointer (some ⟨hb,0,none⟩))):
 (execOp a.eval o).run prog w=.ok (.enter 346 #[.pointer (some ⟨hb,0,none⟩)]) w:=
 run_invoke x "Pop" [] ts ho _ _ hx 346 _ (fun n=>run_methP n 178 179 _ "Pop" 346 meth_Pop underlying178) pTypes _ func346 rfl (by kernel_rfl) [] rfl
theorem dgLen_of(h:DgI w hb base v l):Calls prog 105 #[v] w (RetE (.int .i64 l.length) w):=by
 obtain⟨ad,cap,rfl⟩:=h.row.slice;exact dgLen_any w
def HeapTo(w:World)(hb base:Nat)(v:Value)(l:List (List UInt8))(w':World):Prop:=∃l',l'.Perm l/\Heap leB l' l'.length/\DgTo w hb base v l' w'
def UpRel(w0:World)(hb base:Nat)(v0:Value)(l:List (List UInt8))(i:Value)(w:World):Prop:=∃(j:Nat)(l':List (List UInt8))(v:Value),i=.int .i64 j/\j<l.length/\l'.Perm l/\UpI leB l' l'.length j/\DgI w hb base v l'/\DgM w0 v0 hb w v
theorem heapUp_any(h:DgI w hb base v l)(j:Nat)(hj:j<l.length)(hu:UpI leB l l.length j):Calls prog 185 #[.iface 178 (.pointer (some ⟨hb,0,none⟩)),.int .i64 j] w (fun e w'=>e=.returned (.tuple #[])/\HeapTo w hb base v l w'):=by
 have hfew:=h.few;have H0:Hid (UpRel w hb base v l (.int .i64 j) w):=hid ⟨j,l,v,rfl,hj,.refl _,hu,h,DgM.refl _ _ _⟩;obtain⟨n,hn⟩:∃n,l.length=n:=⟨_,rfl⟩
 have HN:=hid hn;clear h hu;go_enter func185,ntmps185;go_wp2
 go_loopw [1] (UpRel w hb base v l) (fun i _=>(intOf i).toNat)
 case atStart=>exact H0.out
 case round=>
  rename World=>wr
  obtain⟨j,l',v',rfl,hj,hp,hu,hd,hm⟩:=hrel;have hlen:=hp.length_eq;have HU:=hid hu;have HD:=hid hd;have HP:=hid hp
  by_cases h0:j=0
  ·subst h0
   go_upto_region 0 with(fail);refine wpR [3,3,1,3] ?_;simp only[stz];refine yK _ _ _ _ ((0:Nat):Int) 1 rfl rfl rfl rfl (by omega) (by omega) ?_;simp only[nmz]
   refine wpX rfl (exec_quo2 _ _ _ _ (((0:Nat):Int)-1) 0 (by rfl) (by rfl) (by rfl) (by decide) (by omega) (by omega)) trivial ?_;simp only[stz];go_upto_region 1 with(fail)
   refine wpR [3,3,3,3,3,3,3,1,3,3] ?_;simp only[stz];refine qK _ _ _ _ _ _ _ _ rfl rfl rfl rfl rfl true (by decide) ?_;simp only[stz]
   refine zO rfl trivial ?_;simp only[stz];have HT:Hid (HeapTo w hb base v l wr):=hid ⟨l',HP.out,HU.out.done (.inl rfl),v',HD.out,hm⟩;clear hu hd hp;go_wp2
   go_end0
   exact⟨rfl,HT.out⟩
  ·have hjp:=par_lt (i:=j) (by omega)
   obtain⟨q,hq⟩:∃q,par j=q:=⟨_,rfl⟩;have hqj:q<j:=by omega
   have hz:¬(q:Int)=(j:Int):=by omega
   have htd:Int.tdiv ((j:Int)-1) 2=(q:Int):=by
    rw[show(j:Int)-1=((j-1:Nat):Int) by omega];rw[<-hq];unfold par;rw[Int.tdiv_eq_ediv_of_nonneg (by omega)]
    simp
   have hls:=dgLess_any hd j q (by omega) (by omega);have HQ:=hid hq;clear hu hp hq;go_upto_region 0 with(fail);refine wpR [3,3,1,3] ?_;simp only[stz]
   refine yK _ _ _ _ (j:Int) 1 rfl rfl rfl rfl (by omega) (by omega) ?_;simp only[nmz]
   refine wpX rfl (exec_quo2 _ _ _ _ ((j:Int)-1) q (by rfl) (by rfl) (by rfl) htd (by omega) (by omega)) trivial ?_;simp only[stz];clear htd
   by_cases hless:atD l' j<atD l' q
   ·have hlt:decide (atD l' j<atD l' q)=true:=decide_eq_true hless
    rw[hlt]at hls;go_upto_region 1 with(fail);refine wpR [3,3,3,3,3,3,3,1,3,3] ?_;simp only[stz]
    refine qK _ _ _ _ _ _ _ _ rfl rfl rfl rfl rfl false (decide_eq_false hz) ?_;simp only[stz]
    refine wpD (zV (inv_Less HD.out _ _ _ _ j q (by rfl) (by rfl) (by rfl) (by rfl)) hls ?_);rintro e w2 ⟨rfl,hm2⟩;refine⟨_,rfl,?_⟩;try simp only[stz]
    try refine zM _ _ _ rfl rfl rfl ?_
    try simp only[stz]
    have HD2:=hid (HD.out.keep0 hm2);have hsw:=dgSwap_any HD2.out q j (by omega) (by omega);go_upto_region 2 with(fail);refine wpR [3,3,3,1] ?_;simp only[stz]
    refine wpD (zV (inv_Swap HD2.out _ _ _ _ q j (by rfl) (by rfl) (by rfl) (by rfl)) hsw ?_);rintro e w3 ⟨rfl,v3,hd3,hm3⟩;have HD3:=hid hd3
    have hM3:DgM w v hb w3 v3:=(hm.trans0 hm2).trans hm3;refine⟨_,rfl,?_⟩;simp only[stz]
    have HR:Hid (UpRel w hb base v l (.int .i64 q) w3):=hid ⟨q,swp l' q j,v3,rfl,by omega,(swp_perm (by omega) (by omega)).trans HP.out,by
     rw[swp_len,<-HQ.out]
     exact UpI.step (le:=leB) leB_trans HU.out (Nat.le_refl _) (by omega) (by omega) (by rw[HQ.out];exact leB_of_lt hless),HD3.out,hM3⟩
    clear hd hd3 hm hm2 hm3 hM3 hls hsw hless hlt;go_wp2
    go_roundw
    case rel=>exact HR.out
    case measure=>simp[intOf];omega
   ·have hlt:decide (atD l' j<atD l' q)=false:=decide_eq_false hless
    rw[hlt]at hls;go_upto_region 1 with(fail);refine wpR [3,3,3,3,3,3,3,1,3,3] ?_;simp only[stz]
    refine qK _ _ _ _ _ _ _ _ rfl rfl rfl rfl rfl false (decide_eq_false hz) ?_;simp only[stz]
    refine wpD (zV (inv_Less HD.out _ _ _ _ j q (by rfl) (by rfl) (by rfl) (by rfl)) hls ?_);rintro e w2 ⟨rfl,hm2⟩;refine⟨_,rfl,?_⟩;try simp only[stz]
    try refine zM _ _ _ rfl rfl rfl ?_
    try simp only[stz]
    have HT:Hid (HeapTo w hb base v l w2):=hid ⟨l',HP.out,HU.out.done (.inr (by rw[HQ.out];exact hless)),v',HD.out.keep0 hm2,hm.trans0 hm2⟩
    clear hd hm hm2 hls hless hlt;go_wp2
    go_end0
    exact⟨rfl,HT.out⟩
def IsB(e:Ending):Prop:=∃b:Bool,e=.returned (.bool b)
def DownTo(w:World)(hb base:Nat)(v:Value)(l:List (List UInt8))(n:Nat)(w':World):Prop:=∃l',l'.Perm l/\Heap leB l' n/\(∀k,n<=k->atD l' k=atD l k)/\DgTo w hb base v l' w'
def DownRel(w0:World)(hb base:Nat)(v0:Value)(l:List (List UInt8))(n:Nat)(i:Value)(w:World):Prop:=∃(j:Nat)(l':List (List UInt8))(v:Value),i=.int .i64 j/\j<=n/\(n=0\/j<n)/\l'.Perm l/\DownI leB l' n j/\(∀k,n<=k->atD l' k=atD l k)/\DgI w hb base v l'/\DgM w0 v0 hb w v
theorem heapDown_any(h:DgI w hb base v l)(n:Nat)(hn:n<l.length)(hu:DownI leB l n 0):Calls prog 186 #[.iface 178 (.pointer (some ⟨hb,0,none⟩)),.int .i64 (0:Nat),.int .i64 n] w (fun e w'=>IsB e/\DownTo w hb base v l n w'):=by
 have hfew:=h.few;have H0:Hid (DownRel w hb base v l n (.int .i64 (0:Nat)) w):=hid ⟨0,l,v,rfl,by omega,by omega,.refl _,hu,fun _ _=>rfl,h,DgM.refl _ _ _⟩
 clear h hu;go_enter func186,ntmps186;go_upto_region 1 with(fail);go_wp2
 go_loopw [7] (DownRel w hb base v l n) (fun i _=>n-(intOf i).toNat)
 case atStart=>exact H0.out
 case round=>
  rename World=>wr
  obtain⟨j,l',v',rfl,hjn,hjn2,hp,hu,hfx,hd,hm⟩:=hrel;have hlen:=hp.length_eq;have HU:=hid hu;have HD:=hid hd;have HP:=hid hp;have HF:=hid hfx
  have hj1:(2:Int)*(j:Int)=((2*j:Nat):Int):=by omega
  clear hu hp hfx hd;go_upto_region 2 with(fail);refine wpR [3,3,3,3] ?_;simp only[stz]
  refine xZ _ _ _ _ 2 (j:Int) ((2*j:Nat):Int) rfl rfl rfl rfl hj1 (by omega) (by omega) ?_;simp only[nmz]
  refine zF _ _ _ _ ((2*j:Nat):Int) 1 ((2*j+1:Nat):Int) rfl rfl rfl rfl (by omega) (by omega) (by omega) ?_;simp only[stz];clear hj1
  by_cases hleaf:n<=2*j+1
  ·have hz:((2*j+1:Nat):Int)>=(n:Int):=by omega
   go_upto_region 3 with(fail);refine wpR [3,3,3,3,3,3,3] ?_;simp only[stz];refine qK _ _ _ _ _ _ _ _ rfl rfl rfl rfl rfl true (decide_eq_true (by omega)) ?_
   simp only[stz];have HT:Hid (DownTo w hb base v l n wr):=hid ⟨l',HP.out,HU.out.leaf hleaf,HF.out,v',HD.out,hm⟩;clear hm;go_wp2;go_ret;exact⟨⟨_,rfl⟩,HT.out⟩
  ·have hz:¬((2*j+1:Nat):Int)>=(n:Int):=by omega
   go_upto_region 3 with(fail);refine wpR [3,3,3,3,3,3,3] ?_;simp only[stz];refine qK _ _ _ _ _ _ _ _ rfl rfl rfl rfl rfl false (decide_eq_false (by omega)) ?_
   simp only[stz];refine qK _ _ _ _ _ _ _ _ rfl rfl rfl rfl rfl false (by simp only[cmpB,decide_eq_false_iff_not];omega) ?_;simp only[stz];go_upto_region 5 with(fail)
   refine wpR [3,3,3] ?_;simp only[stz];refine zF _ _ _ _ ((2*j+1:Nat):Int) 1 ((2*j+2:Nat):Int) rfl rfl rfl rfl (by omega) (by omega) (by omega) ?_
   simp only[stz]
   by_cases hj2:2*j+2<n
   ·have hz2:((2*j+2:Nat):Int)<(n:Int):=by omega
    have hls:=dgLess_any HD.out (2*j+2) (2*j+1) (by omega) (by omega)
    by_cases hless:atD l' (2*j+2)<atD l' (2*j+1)
    ·have hlt:decide (atD l' (2*j+2)<atD l' (2*j+1))=true:=decide_eq_true hless
     rw[hlt]at hls;go_upto_region 6 with(fail);refine wpR [3,3,3,3,3,3,3,1,3] ?_;simp only[stz]
     refine qK _ _ _ _ _ _ _ _ rfl rfl rfl rfl rfl true (decide_eq_true hz2) ?_;simp only[stz]
     refine wpD (zV (inv_Less HD.out _ _ _ _ (2*j+2) (2*j+1) (by rfl) (by rfl) (by rfl) (by rfl)) hls ?_);rintro e w2 ⟨rfl,hm2⟩
     have hmm2:DgM w v hb w2 v':=hm.trans0 hm2;refine⟨_,rfl,?_⟩;simp only[stz]
     have HC:Hid (∀k,0<k->k<n->par k=j->leB (atD l' (2*j+2)) (atD l' k)):=hid (fun k h0 hk hpk=>by
      rcases par_of hpk h0 with rfl|rfl
      ·exact leB_of_lt hless
      ·exact leB_refl _)
     have HDw2:=hid (HD.out.keep0 hm2);have hls2:=dgLess_any HDw2.out (2*j+2) j (by omega) (by omega)
     by_cases hless2:atD l' (2*j+2)<atD l' j
     ·have hlt2:decide (atD l' (2*j+2)<atD l' j)=true:=decide_eq_true hless2
      rw[hlt2]at hls2;go_upto_region 8 with(fail);refine wpR [3,3,3,1,3] ?_;simp only[stz]
      refine wpD (zV (inv_Less HDw2.out _ _ _ _ (2*j+2) j (by rfl) (by rfl) (by rfl) (by rfl)) hls2 ?_);rintro e w4 ⟨rfl,hm4⟩;refine⟨_,rfl,?_⟩;try simp only[stz]
      try refine zM _ _ true (by rfl) (by rfl) (by rfl) ?_
      try simp only[stz]
      have HD4:=hid (HDw2.out.keep0 hm4);have hsw:=dgSwap_any HD4.out j (2*j+2) (by omega) (by omega);go_upto_region 9 with(fail);refine wpR [3,3,3,1] ?_
      simp only[stz];refine wpD (zV (inv_Swap HD4.out _ _ _ _ j (2*j+2) (by rfl) (by rfl) (by rfl) (by rfl)) hsw ?_);rintro e w5 ⟨rfl,v5,hd5,hm5⟩
      have HD5:=hid hd5;have hM5:DgM w v hb w5 v5:=(hmm2.trans0 hm4).trans hm5;refine⟨_,rfl,?_⟩;simp only[stz]
      have HR:Hid (DownRel w hb base v l n (.int .i64 ((2*j+2:Nat):Int)) w5):=hid ⟨2*j+2,swp l' j (2*j+2),v5,rfl,by omega,by omega,(swp_perm (by omega) (by omega)).trans HP.out,HU.out.step (by omega) (by omega) (by omega) (by unfold par;omega) (leB_of_lt hless2) HC.out,fun k hk=>by
       rw[swp_at (by omega) (by omega),if_neg (by omega),if_neg (by omega)]
       exact HF.out k hk,HD5.out,hM5⟩
      clear hd5 hm4 hm5 hM5 hls2 hsw hless2 hlt2;go_wp2
      go_roundw
      case rel=>exact HR.out
      case measure=>simp[intOf];omega
     ·have hlt2:decide (atD l' (2*j+2)<atD l' j)=false:=decide_eq_false hless2
      rw[hlt2]at hls2;go_upto_region 8 with(fail);refine wpR [3,3,3,1,3] ?_;simp only[stz]
      refine wpD (zV (inv_Less HDw2.out _ _ _ _ (2*j+2) j (by rfl) (by rfl) (by rfl) (by rfl)) hls2 ?_);rintro e w4 ⟨rfl,hm4⟩;refine⟨_,rfl,?_⟩;try simp only[stz]
      try refine zM _ _ false (by rfl) (by rfl) (by rfl) ?_
      try simp only[stz]
      have HT:Hid (DownTo w hb base v l n w4):=hid ⟨l',HP.out,DownI.stop (le:=leB) leB_trans HU.out (show leB (atD l' j) (atD l' (2*j+2))from hless2) HC.out,HF.out,v',HDw2.out.keep0 hm4,hmm2.trans0 hm4⟩
      clear hm4 hls2 hless2 hlt2;go_wp2;go_ret;exact⟨⟨_,rfl⟩,HT.out⟩
    ·have hlt:decide (atD l' (2*j+2)<atD l' (2*j+1))=false:=decide_eq_false hless
     rw[hlt]at hls;go_upto_region 6 with(fail);refine wpR [3,3,3,3,3,3,3,1,3] ?_;simp only[stz]
     refine qK _ _ _ _ _ _ _ _ rfl rfl rfl rfl rfl true (decide_eq_true hz2) ?_;simp only[stz]
     refine wpD (zV (inv_Less HD.out _ _ _ _ (2*j+2) (2*j+1) (by rfl) (by rfl) (by rfl) (by rfl)) hls ?_);rintro e w2 ⟨rfl,hm2⟩
     have hmm2:DgM w v hb w2 v':=hm.trans0 hm2;refine⟨_,rfl,?_⟩;simp only[stz]
     have HC:Hid (∀k,0<k->k<n->par k=j->leB (atD l' (2*j+1)) (atD l' k)):=hid (fun k h0 hk hpk=>by
      rcases par_of hpk h0 with rfl|rfl
      ·exact leB_refl _
      ·exact hless)
     have HDw2:=hid (HD.out.keep0 hm2);have hls2:=dgLess_any HDw2.out (2*j+1) j (by omega) (by omega)
     by_cases hless2:atD l' (2*j+1)<atD l' j
     ·have hlt2:decide (atD l' (2*j+1)<atD l' j)=true:=decide_eq_true hless2
      rw[hlt2]at hls2;go_upto_region 8 with(fail);refine wpR [3,3,3,1,3] ?_;simp only[stz]
      refine wpD (zV (inv_Less HDw2.out _ _ _ _ (2*j+1) j (by rfl) (by rfl) (by rfl) (by rfl)) hls2 ?_);rintro e w4 ⟨rfl,hm4⟩;refine⟨_,rfl,?_⟩;try simp only[stz]
      try refine zM _ _ true (by rfl) (by rfl) (by rfl) ?_
      try simp only[stz]
      have HD4:=hid (HDw2.out.keep0 hm4);have hsw:=dgSwap_any HD4.out j (2*j+1) (by omega) (by omega);go_upto_region 9 with(fail);refine wpR [3,3,3,1] ?_
      simp only[stz];refine wpD (zV (inv_Swap HD4.out _ _ _ _ j (2*j+1) (by rfl) (by rfl) (by rfl) (by rfl)) hsw ?_);rintro e w5 ⟨rfl,v5,hd5,hm5⟩
      have HD5:=hid hd5;have hM5:DgM w v hb w5 v5:=(hmm2.trans0 hm4).trans hm5;refine⟨_,rfl,?_⟩;simp only[stz]
      have HR:Hid (DownRel w hb base v l n (.int .i64 ((2*j+1:Nat):Int)) w5):=hid ⟨2*j+1,swp l' j (2*j+1),v5,rfl,by omega,by omega,(swp_perm (by omega) (by omega)).trans HP.out,HU.out.step (by omega) (by omega) (by omega) (by unfold par;omega) (leB_of_lt hless2) HC.out,fun k hk=>by
       rw[swp_at (by omega) (by omega),if_neg (by omega),if_neg (by omega)]
       exact HF.out k hk,HD5.out,hM5⟩
      clear hd5 hm4 hm5 hM5 hls2 hsw hless2 hlt2;go_wp2
      go_roundw
      case rel=>exact HR.out
      case measure=>simp[intOf];omega
     ·have hlt2:decide (atD l' (2*j+1)<atD l' j)=false:=decide_eq_false hless2
      rw[hlt2]at hls2;go_upto_region 8 with(fail);refine wpR [3,3,3,1,3] ?_;simp only[stz]
      refine wpD (zV (inv_Less HDw2.out _ _ _ _ (2*j+1) j (by rfl) (by rfl) (by rfl) (by rfl)) hls2 ?_);rintro e w4 ⟨rfl,hm4⟩;refine⟨_,rfl,?_⟩;try simp only[stz]
      try refine zM _ _ false (by rfl) (by rfl) (by rfl) ?_
      try simp only[stz]
      have HT:Hid (DownTo w hb base v l n w4):=hid ⟨l',HP.out,DownI.stop (le:=leB) leB_trans HU.out (show leB (atD l' j) (atD l' (2*j+1))from hless2) HC.out,HF.out,v',HDw2.out.keep0 hm4,hmm2.trans0 hm4⟩
      clear hm4 hls2 hless2 hlt2;go_wp2;go_ret;exact⟨⟨_,rfl⟩,HT.out⟩
   ·have hz2:¬((2*j+2:Nat):Int)<(n:Int):=by omega
    go_upto_region 6 with(fail);refine wpR [3,3,3,3,3,3,3,1,3] ?_;simp only[stz];refine qK _ _ _ _ _ _ _ _ rfl rfl rfl rfl rfl false (decide_eq_false hz2) ?_
    simp only[stz];refine zO rfl trivial ?_;simp only[stz]
    have HC:Hid (∀k,0<k->k<n->par k=j->leB (atD l' (2*j+1)) (atD l' k)):=hid (fun k h0 hk hpk=>by
     rcases par_of hpk h0 with rfl|rfl
     ·exact leB_refl _
     ·omega)
    have HDwr:=hid (HD.out);have hls2:=dgLess_any HDwr.out (2*j+1) j (by omega) (by omega)
    by_cases hless2:atD l' (2*j+1)<atD l' j
    ·have hlt2:decide (atD l' (2*j+1)<atD l' j)=true:=decide_eq_true hless2
     rw[hlt2]at hls2;go_upto_region 8 with(fail);refine wpR [3,3,3,1,3] ?_;simp only[stz]
     refine wpD (zV (inv_Less HDwr.out _ _ _ _ (2*j+1) j (by rfl) (by rfl) (by rfl) (by rfl)) hls2 ?_);rintro e w4 ⟨rfl,hm4⟩;refine⟨_,rfl,?_⟩;try simp only[stz]
     try refine zM _ _ true (by rfl) (by rfl) (by rfl) ?_
     try simp only[stz]
     have HD4:=hid (HDwr.out.keep0 hm4);have hsw:=dgSwap_any HD4.out j (2*j+1) (by omega) (by omega);go_upto_region 9 with(fail);refine wpR [3,3,3,1] ?_
     simp only[stz];refine wpD (zV (inv_Swap HD4.out _ _ _ _ j (2*j+1) (by rfl) (by rfl) (by rfl) (by rfl)) hsw ?_);rintro e w5 ⟨rfl,v5,hd5,hm5⟩
     have HD5:=hid hd5;have hM5:DgM w v hb w5 v5:=(hm.trans0 hm4).trans hm5;refine⟨_,rfl,?_⟩;simp only[stz]
     have HR:Hid (DownRel w hb base v l n (.int .i64 ((2*j+1:Nat):Int)) w5):=hid ⟨2*j+1,swp l' j (2*j+1),v5,rfl,by omega,by omega,(swp_perm (by omega) (by omega)).trans HP.out,HU.out.step (by omega) (by omega) (by omega) (by unfold par;omega) (leB_of_lt hless2) HC.out,fun k hk=>by
      rw[swp_at (by omega) (by omega),if_neg (by omega),if_neg (by omega)]
      exact HF.out k hk,HD5.out,hM5⟩
     clear hd5 hm4 hm5 hM5 hls2 hsw hless2 hlt2;go_wp2
     go_roundw
     case rel=>exact HR.out
     case measure=>simp[intOf];omega
    ·have hlt2:decide (atD l' (2*j+1)<atD l' j)=false:=decide_eq_false hless2
     rw[hlt2]at hls2;go_upto_region 8 with(fail);refine wpR [3,3,3,1,3] ?_;simp only[stz]
     refine wpD (zV (inv_Less HDwr.out _ _ _ _ (2*j+1) j (by rfl) (by rfl) (by rfl) (by rfl)) hls2 ?_);rintro e w4 ⟨rfl,hm4⟩;refine⟨_,rfl,?_⟩;try simp only[stz]
     try refine zM _ _ false (by rfl) (by rfl) (by rfl) ?_
     try simp only[stz]
     have HT:Hid (DownTo w hb base v l n w4):=hid ⟨l',HP.out,DownI.stop (le:=leB) leB_trans HU.out (show leB (atD l' j) (atD l' (2*j+1))from hless2) HC.out,HF.out,v',HDwr.out.keep0 hm4,hm.trans0 hm4⟩
     clear hm4 hls2 hless2 hlt2;go_wp2;go_ret;exact⟨⟨_,rfl⟩,HT.out⟩
theorem heapPush_any(h:DgI w hb base v l)(hbw:base<=w.heap.size)(x:List UInt8)(hx:x.length=32)(hfew:l.length<65536)(hh:Heap leB l l.length):Calls prog 103 #[.iface 178 (.pointer (some ⟨hb,0,none⟩)),.iface 24 (.agg (qA x))] w (fun e w'=>e=.returned (.tuple #[])/\HeapTo w hb base v (l++[x]) w'):=by
 have hp:=dgPush_any h hbw x hx hfew;have HU:=hid (UpI.snoc (x:=x) hh);have hbl:hb<w.heap.size:=(Array.getElem?_eq_some_iff.1 h.box).1;clear h hh
 go_enter func103,ntmps103;go_upto_region 0 with(fail);refine wpR [3,3,1] ?_;simp only[stz];refine wpD (zV (inv_Push _ _ _ _ (by rfl) (by rfl) (by rfl)) hp ?_)
 rintro e w2 ⟨rfl,v2,hd2,hm2⟩;refine⟨_,rfl,?_⟩;simp only[stz];have HD2:=hid hd2
 have hup:=heapUp_any HD2.out l.length (by simp) (by rw[List.length_append,List.length_singleton];exact HU.out);have hln:=dgLen_of hd2
 rw[List.length_append,List.length_singleton]at hln;clear hd2;go_upto_region 1 with(fail);refine wpR [3,3,1,3,1] ?_;simp only[stz]
 refine wpD (zV (inv_Len HD2.out _ _ (by rfl) (by rfl)) hln ?_);rintro e w3 ⟨rfl,hw⟩;obtain rfl:=hw.symm;refine⟨_,rfl,?_⟩;try simp only[nmz]
 refine zJ _ _ _ _ ((l.length+1:Nat):Int) 1 (l.length:Int) rfl rfl rfl rfl (by omega) (by omega) (by omega) ?_;simp only[nmz];refine wpD (wpC func185 (hup) ?_)
 rintro e w4 ⟨rfl,l4,hp4,hh4,v4,hd4,hm4⟩;have HR:Hid (HeapTo w hb base v (l++[x]) w4):=hid ⟨l4,hp4,hh4,v4,hd4,hm2.trans hm4⟩;refine⟨_,rfl,?_⟩;simp only[stz]
 clear hm2 hp4 hh4 hd4 hm4 hup hln;go_wp2
 go_end0
 exact⟨rfl,HR.out⟩
def HpPopR(w:World)(hb base:Nat)(v:Value)(l:List (List UInt8)):Ending->World->Prop:=fun e w'=>∃x l',e=.returned (.iface 24 (.agg (qA x)))/\x.length=32/\(x::l').Perm l/\Heap leB l' l'.length/\(∀y∈l,leB x y)/\DgTo w hb base v l' w'
theorem heapPop_any(h:DgI w hb base v l)(hbw:base<=w.heap.size)(hne:0<l.length)(hh:Heap leB l l.length):Calls prog 106 #[.iface 178 (.pointer (some ⟨hb,0,none⟩))] w (HpPopR w hb base v l):=by
 obtain⟨n,hn⟩:∃n,l.length=n+1:=⟨l.length-1,by omega⟩;rw[hn]at hh;have hln:=dgLen_of h;rw[hn]at hln;have hsw:=dgSwap_any h 0 n (by omega) (by omega)
 have HD:=hid h;have hst:=DownI.start hh (by omega);have hfew:=h.few;have hids:=h.ids;have htop:=Heap.top leB_refl leB_trans hh;have HST:=hid hst;have HTOP:=hid htop
 have HIDS:=hid hids;clear h hh hst htop hids;go_enter func106,ntmps106;go_upto_region 1 with(fail);refine wpR [3,1,3,3] ?_;simp only[stz]
 refine wpD (zV (inv_Len HD.out _ _ (by rfl) (by rfl)) hln ?_);rintro e w3 ⟨rfl,hw⟩;obtain rfl:=hw.symm;refine⟨_,rfl,?_⟩;try simp only[nmz]
 refine zJ _ _ _ _ ((n+1:Nat):Int) 1 (n:Int) rfl rfl rfl rfl (by omega) (by omega) (by omega) ?_;simp only[stz];go_upto_region 2 with(fail);refine wpR [3,3,1] ?_
 simp only[stz];refine wpD (zV (inv_Swap HD.out _ _ _ _ 0 n (by rfl) (by rfl) (by rfl) (by rfl)) hsw ?_);rintro e w4 ⟨rfl,v4,hd4,hm4⟩;have HD4:=hid hd4
 refine⟨_,rfl,?_⟩;simp only[stz];have hdn:=heapDown_any HD4.out n (by rw[swp_len];omega) HST.out;clear hd4 hsw;go_upto_region 3 with(fail);refine wpR [3,3,1] ?_
 simp only[stz];refine wpD (wpC func186 (hdn) ?_);rintro e w5 ⟨⟨b5,rfl⟩,l5,hp5,hh5,hf5,v5,hd5,hm5⟩;have HD5:=hid hd5;refine⟨_,rfl,?_⟩;simp only[stz]
 have hl5:l5.length=n+1:=by rw[hp5.length_eq,swp_len,hn]
 have hpop:=dgPop_any HD5.out (by have:=hm4.1.size;have:=hm5.1.size;omega) (by omega)
 have hx5:atD l5 (l5.length-1)=atD l 0:=by
  rw[hl5,Nat.add_sub_cancel,hf5 n (Nat.le_refl _),swp_at (by omega) (by omega),if_pos rfl]
 have hx32:(atD l 0).length=32:=HIDS.out _ (atD_mem (by omega));have hP5:l5.Perm l:=hp5.trans (swp_perm (by omega) (by omega))
 have hsp:l5=l5.dropLast++[atD l 0]:=by
  have hne5:l5≠[]:=by intro e;rw[e]at hl5;simp at hl5
  have h1:=List.dropLast_concat_getLast hne5
  have h2:l5.getLast hne5=atD l 0:=by
   rw[List.getLast_eq_getElem,<-hx5,at_lt (by omega)]
  rw[h2]at h1;exact h1.symm
 have HFIN:Hid ((atD l 0::l5.dropLast).Perm l/\Heap leB l5.dropLast l5.dropLast.length/\∀y∈l,leB (atD l 0) y):=hid ⟨by
  refine List.Perm.trans ?_ hP5
  conv=>rhs;rw[hsp]
  exact(List.perm_append_comm (l₁:=[atD l 0]) (l₂:=l5.dropLast)),by
  rw[List.dropLast_eq_take,List.length_take,hl5,Nat.add_sub_cancel,Nat.min_eq_left (by omega)];exact Heap.take hh5,fun y hy=>by
  obtain⟨k,hk,rfl⟩:=List.getElem_of_mem hy;have:=HTOP.out k (by omega)
  rwa[at_lt hk]at this⟩
 unfold PopR at hpop;rw[hx5]at hpop;obtain⟨x,hx⟩:∃x,atD l 0=x:=⟨_,rfl⟩;rw[hx]at hpop hx32 HFIN;clear hp5 hh5 hf5 hd5 hsp hx5 hP5 hx hdn;go_upto_region 4 with(fail)
 refine wpR [3,1,3] ?_;simp only[stz];refine wpD (zV (inv_Pop _ _ (by rfl) (by rfl)) hpop ?_);rintro e w6 ⟨rfl,v6,hd6,hm6⟩
 have HR:Hid (HpPopR w hb base v l (.returned (.iface 24 (.agg (qA x)))) w6):=hid ⟨x,l5.dropLast,rfl,hx32,HFIN.out.1,HFIN.out.2.1,HFIN.out.2.2,v6,hd6,(hm4.trans hm5).trans hm6⟩
 refine⟨_,rfl,?_⟩;simp only[stz];clear hm4 hm5 hm6 hd6 hpop;go_wp2;go_ret;exact HR.out
end
end
section
open Go.RowKit Go.Shelf Go.Maps Go.Sort Go.WideShapes Go.WideMaps Go.Proofs.Tryz Go.Lib
def StrC(cs:Array Value)(x:ByteArray):Prop:=cs=#[.string x]
def sortS(ks:List ByteArray):List ByteArray:=((ks.map (·.data.toList)).mergeSort fun x y=>decide (x<=y)).map fun x=>⟨x.toArray⟩
def ReposOf(l:LinkL)(names:List ByteArray):Prop:=names.Pairwise (fun a b=>a.data.toList<b.data.toList)/\∀r,r∈names↔0<cntOf l r
theorem sortS_perm(ks:List ByteArray):(sortS ks).Perm ks:=by
 have h:=(List.mergeSort_perm (ks.map (·.data.toList)) (fun x y=>decide (x<=y))).map (fun x:List UInt8=>(⟨x.toArray⟩:ByteArray))
 simpa[sortS,List.map_map,Function.comp_def]using h
theorem sortS_sorted{ks:List ByteArray}(hn:ks.Nodup):(sortS ks).Pairwise (fun a b=>a.data.toList<b.data.toList):=by
 have tr:∀a b c:List UInt8,decide (a<=b)=true->decide (b<=c)=true->decide (a<=c)=true:=fun a b c h1 h2=>by simp only[decide_eq_true_eq]at*;exact List.le_trans h1 h2
 have tot:∀a b:List UInt8,(decide (a<=b)||decide (b<=a))=true:=fun a b=>by simp only[Bool.or_eq_true,decide_eq_true_eq];exact List.le_total a b
 have h:=List.pairwise_mergeSort tr tot (ks.map (·.data.toList))
 have hnd:(ks.map (·.data.toList)).Nodup:=by
  refine List.pairwise_map.2 (hn.imp fun{a b} hne e=>hne ?_);obtain⟨⟨a⟩⟩:=a;obtain⟨⟨b⟩⟩:=b
  simp at e;rw[e]
 have hnd2:((ks.map (·.data.toList)).mergeSort fun x y=>decide (x<=y)).Nodup:=(List.mergeSort_perm _ _).nodup_iff.2 hnd;unfold sortS;rw[List.pairwise_map]
 refine(h.and hnd2).imp fun{a b} hab=>?_;obtain⟨h1,h2⟩:=hab;simp only[decide_eq_true_eq]at h1
 rcases List.le_iff_lt_or_eq.1 h1 with h3|h3
 ·exact h3
 ·exact absurd h3 h2
theorem flatMap_one{α β:Type}(f:α->β):∀l:List α,l.flatMap (fun a=>[f a])=l.map f
 | []=>rfl
 |x::l=>by simp[List.flatMap_cons,flatMap_one f l]
theorem perm_keys{H:Type}(f:MapEntry->Lit×DataW H)(es:List MapEntry):(((es.map f).foldr DataW.insert []).map (fun p=>strOf p.1)).Perm (es.map fun x=>strOf (f x).1):=by
 have:=(sorted_perm (es.map f)).map (fun p=>strOf p.1);rw[List.map_map]at this;exact this
section
variable{w:World}{mu:Nat}{us:List (ByteArray×Nat)}
theorem keysS_any(w:World)(mu:Nat):Calls prog 143 #[.map (some mu)] w fun e w'=>e=.returned (.func (.func 204) #[] #[.pointer (some ⟨w.heap.size,0,none⟩)])/\w'=w.alloc (.cells #[.map (some mu)] 98):=
 callsIn_wide.1 (AnyZ.keys_in keysA Fence.wide 5 trivial rfl (some mu) w)
theorem sorts_in(m:Nat):AnyZ.SortsIn prog sortedA_ren Fence.wide m:=
 ⟨fun blk off cap ss W hH hblk hsz=>callsIn_wide.2 (AnyM.slices_Sort_string sortA blk off cap ss W hH hblk hsz),
  fun p cap W=>callsIn_wide.2 (AnyM.slices_Sort_string_none sortA p cap W)⟩
theorem owns_uses(hum:MapIs Value.string (fun _=>True) w mu (us.map fun p=>(p.1,useV p.2)))(hsz:∀p∈us,p.1.size<=maxLen)(hlen:us.length<=65536):
 ∃D0:DataW Unit,w.ownsMap prog 9 (fun _=>some (.nil,[])) mu us.length D0/\(strKeys D0).Perm (us.map (·.1.data.toList))/\Maps.size D0=us.length:=by
 obtain⟨⟨es,clk,hb,hkd,hbo,hbn⟩,hnd,_⟩:=hum;have hlen':es.size=us.length:=by have:=congrArg List.length hkd;simpa using this
 have hkeys:es.toList.map (·.key)=us.map fun p=>Value.string p.1:=by
  have:=congrArg (List.map (·.1)) hkd
  simpa[List.map_map,Function.comp_def]using this
 have hkof:∀x∈es.toList,∃s:ByteArray,x.key=.string s/\s.size<=maxLen:=by
  intro x hx;have h1:x.key∈es.toList.map (·.key):=List.mem_map.2 ⟨x,hx,rfl⟩;rw[hkeys]at h1;obtain⟨p,hp,e⟩:=List.mem_map.1 h1;exact⟨p.1,e.symm,hsz p hp⟩
 have hrg:es.toList.map (fun x=>strOf (WideElems.rg (H:=Unit) prog 9 (fun _=>some (.nil,[])) x).1)=us.map (·.1.data.toList):=by
  have h2:es.toList.map (fun x=>strOf (WideElems.rg (H:=Unit) prog 9 (fun _=>some (.nil,[])) x).1)=(es.toList.map (·.key)).map (fun v=>match v with| .string s=>s.data.toList|_=>[]):=by
   rw[List.map_map]
   apply List.map_congr_left
   intro x hx;obtain⟨s,hs,hl⟩:=hkof x hx
   simp[WideElems.rg,WideElems.rd,hs,keyOf_string_mk underlying9 hl,strOf]
  rw[h2,hkeys,List.map_map];rfl
 refine⟨_,⟨es,clk,hb,⟨?_,⟨hbo,hbn,?_⟩,?_⟩,by omega,rfl⟩,?_,?_⟩
 ·unfold maxLen;omega
 ·rw[hkeys]
  have:(us.map fun p=>p.1).Nodup:=by simpa[List.map_map,Function.comp_def]using hnd
  refine List.pairwise_map.2 ((List.pairwise_map.1 this).imp fun hne e=>hne (by simpa using e))
 ·intro x hx
  obtain⟨s,hs,hl⟩:=hkof x hx;exact⟨(.string s.data.toList,.nil),by simp only[WideElems.rd,hs,keyOf_string_mk underlying9 hl,Option.bind_some,Option.map_some]⟩
 ·simp only[strKeys]
  rw[<-hrg];exact perm_keys _ _
 ·simp only[Maps.size]
  rw[(sorted_perm _).length_eq];simp[hlen']
theorem sortedS_any(hum:MapIs Value.string (fun _=>True) w mu (us.map fun p=>(p.1,useV p.2)))(hsz:∀p∈us,p.1.size<=maxLen)(hlen:us.length<=65536):
 Calls prog 142 #[.func (.func 204) #[] #[.pointer (some ⟨w.heap.size,0,none⟩)]] (w.alloc (.cells #[.map (some mu)] 98)) (RetN w fun v w'=>Sl true w' (New w w') 1 StrC v (sortS (us.map (·.1)))):=by
 obtain⟨D0,hown,hperm,hsize⟩:=owns_uses hum hsz hlen;have hbl:=hown.lt
 have hseq:SeqGives Fence.wide 2 prog 204 #[.pointer (some ⟨w.heap.size,0,none⟩)] encStr (fun ss=>ss.Perm (strKeys D0)) (Maps.size D0) (w.alloc (.cells #[.map (some mu)] 98)):=
  AnyZ.keys_gives (ρ:=keysA_ren) { keysA with } Fence.wide _ trivial rfl (by omega) w.heap.size mu us.length D0 _ (by simp) (by simp) (by
   obtain⟨es,clock,hb,Ft,hs,hD⟩:=hown
   exact⟨es,clock,(Below.heap_alloc _ _ mu hbl).trans hb,Ft,hs,hD⟩)
 have h:=AnyZ.sorted_in sortedA Fence.wide 5 trivial trivial trivial trivial rfl (by omega) (sorts_in _) (enters_of func203 (by kernel_rfl) rfl) 204 #[.pointer (some ⟨w.heap.size,0,none⟩)] trivial (enters_of func204 (by kernel_rfl) rfl) _ _ (by rw[hsize];unfold maxLen;omega) (by rw[hsize];omega) _ hseq
 refine(callsIn_wide.1 h).mono ?_;rintro e w' ⟨v,ss,rfl,hp,hrow,hnil,hb⟩
 have hsort:ss.mergeSort (fun x y=>decide (x<=y))=(us.map (·.1.data.toList)).mergeSort (fun x y=>decide (x<=y)):=mergeSort_of_perm (hp.trans hperm)
 have hM:Mod NoB w w':=(qW w _).trans0 ((Mod.of_below hb).mono fun k hk h=>by omega);refine⟨v,rfl,hM,?_⟩
 have hlen2:ss.length=(sortS (us.map (·.1))).length:=by
  rw[(sortS_perm _).length_eq,(hp.trans hperm).length_eq];simp
 have hmap:(ss.mergeSort (fun x y=>decide (x<=y))).map encStr=(sortS (us.map (·.1))).map Value.string:=by
  rw[hsort];unfold sortS;simp[List.map_map,Function.comp_def]
 have hS:=Sl.of_owns (R:=StrC) (css:=(sortS (us.map (·.1))).map fun x=>#[.string x]) (l:=sortS (us.map (·.1))) hrow (by rw[hmap,List.flatMap_map];exact(flatMap_one _ _).symm) (by simp) ⟨by simp,fun i h h'=>by simp[StrC]⟩ hlen2
 exact hS.mono (fun k hk=>⟨by have h1:=hk.1;simp at h1;omega,hk.2.1⟩) (fun _ _ h=>h)
end
section
variable{w:World}{bl ml mu:Nat}{limit:Int}{hold:Value}{l:LinkL}{us:List (ByteArray×Nat)}
theorem LkInv.repos(h:LkInv w bl ml mu limit hold l us):ReposOf l (sortS (us.map (·.1)))/\us.length<=65536/\∀p∈us,p.1.size<=128:=by
 have hmem:∀p∈us,∃q∈l,q.1.1=p.1:=fun p hp=>cntOf_pos ((h.uk p.1).1 (List.mem_map.2 ⟨p,hp,rfl⟩))
 refine⟨⟨sortS_sorted h.und,fun r=>by rw[(sortS_perm _).mem_iff];exact h.uk r⟩,?_,fun p hp=>?_⟩
 ·have hsub:∀r∈us.map (·.1),r∈l.map (·.1.1):=fun r hr=>by
   obtain⟨q,hq,e⟩:=cntOf_pos ((h.uk r).1 hr);exact List.mem_map.2 ⟨q,hq,e⟩
  have:=yF h.und hsub;have h2:=h.few
  simp at this;omega
 ·obtain⟨q,hq,e⟩:=hmem p hp
  have:=h.nm q hq;rw[e]at this;unfold nameB at this;simp only[Bool.and_eq_true,decide_eq_true_eq]at this;exact this.1
theorem repos_any(h:LkInv w bl ml mu limit hold l us):Calls prog 66 #[.pointer (some ⟨bl,0,none⟩)] w (RetN w fun v w'=>∃names,ReposOf l names/\Sl true w' (New w w') 1 StrC v names):=by
 obtain⟨hR,hlen,hsz⟩:=h.repos;have hc:=h.cell.2.2.1;have hsz':∀p∈us,p.1.size<=maxLen:=fun p hp=>by have:=hsz p hp;unfold maxLen;omega
 go_enter func66,ntmps66;go_upto_region 3 with(go_at_call 141;refine h.made.mono ?_;rintro _ w1 ⟨rfl,hw⟩;obtain rfl:=hw.symm);refine wpR [3,3,3,1,1,1,3] ?_
 simp only[stz];refine wpXd 98 bl 2 hc underlying98 trivial ?_;try simp only[nmz]
 refine wpDo rfl ?_;go_wp2_with (go_at_call 143;refine(keysS_any _ mu).mono ?_;rintro _ w2 ⟨rfl,rfl⟩);try simp only[nmz]
 refine wpDo rfl ?_;go_wp2_with (go_at_call 142;refine(sortedS_any h.um hsz' hlen).mono ?_;rintro _ w3 ⟨v,rfl,hm3,hv⟩);simp only[stz];go_wp2;go_ret
 exact⟨v,rfl,hm3,_,hR,hv⟩
end
end
section
open Go.RowKit Go.Shelf Go.Proofs.Tryz Go.Lib
def xX(l:LinkL)(x:List UInt8):LinkL:=l.filter fun p=>decide (p.1.2≠x)
def xQ(l:LinkL)(x:List UInt8):Nat:=(l.filter fun p=>decide (p.1.2=x)).length
theorem delL_filter{α β:Type}[DecidableEq α](k:α):∀(l:List (α×β)),(l.map (·.1)).Nodup->delL k l=l.filter fun p=>decide (p.1≠k)
 | [],_=>rfl
 |p::l,h=>by
  simp only[List.map_cons,List.nodup_cons]at h;unfold delL
  by_cases hp:k=p.1
  ·have hall:l.filter (fun p=>decide (p.1≠k))=l:=List.filter_eq_self.2 fun q hq=>by
    have:q.1≠k:=fun e=>h.1 (by rw[<-hp,<-e];exact List.mem_map.2 ⟨q,hq,rfl⟩)
    simpa using this
   rw[if_pos hp,List.filter_cons_of_neg (by simp[hp]),hall]
  ·rw[if_neg hp,List.filter_cons_of_pos (by simpa using fun e=>hp e.symm),delL_filter k l h.2]
theorem unL_filter(l:LinkL)(k:Key)(h:(l.map (·.1)).Nodup):unL l k=l.filter fun p=>decide (p.1≠k):=by
 unfold unL
 split
 ·exact delL_filter k l h
 ·rename_i hs
  have hn:getL k l=none:=by simpa using hs
  have:=getL_none.1 hn
  exact(List.filter_eq_self.2 fun q hq=>by
   have:q.1≠k:=fun e=>this (e▸List.mem_map.2 ⟨q,hq,rfl⟩)
   simpa using this).symm
theorem nodup_filter{l:LinkL}{f:Key×Int->Bool}(h:(l.map (·.1)).Nodup):((l.filter f).map (·.1)).Nodup:=h.sublist (List.filter_sublist.map _)
def hasR(rs:List ByteArray)(r:ByteArray):Bool:=rs.any fun a=>decide (a=r)
theorem hasR_iff(rs:List ByteArray)(r:ByteArray):hasR rs r=true↔r∈rs:=by
 simp only[hasR,List.any_eq_true,decide_eq_true_eq];exact⟨fun⟨a,h,e⟩=>e▸h,fun h=>⟨r,h,rfl⟩⟩
def fgL(l:LinkL)(x:List UInt8)(rs:List ByteArray):LinkL:=l.filter fun p=>decide (¬(hasR rs p.1.1=true/\p.1.2=x))
def fgN(l:LinkL)(x:List UInt8)(rs:List ByteArray):Nat:=(l.filter fun p=>decide (hasR rs p.1.1=true/\p.1.2=x)).length
theorem fgL_nil(l:LinkL)(x:List UInt8):fgL l x []=l:=by simp[fgL,hasR]
theorem fgN_nil(l:LinkL)(x:List UInt8):fgN l x []=0:=by simp[fgN,hasR]
theorem fgL_snoc(l:LinkL)(x:List UInt8)(rs:List ByteArray)(r:ByteArray)(h:(l.map (·.1)).Nodup):unL (fgL l x rs) (r,x)=fgL l x (rs++[r]):=by
 unfold fgL;rw[unL_filter _ _ (nodup_filter h),List.filter_filter]
 apply List.filter_congr
 intro p _;rw[Bool.eq_iff_iff];simp only[Bool.and_eq_true,decide_eq_true_eq,hasR_iff,List.mem_append,List.mem_singleton,Prod.ext_iff,ne_eq]
 constructor
 ·rintro⟨h1,h2⟩ ⟨h3|h3,h4⟩
  ·exact h2 ⟨h3,h4⟩
  ·exact h1 ⟨h3,h4⟩
 ·intro h1
  exact⟨fun⟨h2,h3⟩=>h1 ⟨.inr h2,h3⟩,fun⟨h2,h3⟩=>h1 ⟨.inl h2,h3⟩⟩
theorem getL_fg(l:LinkL)(x:List UInt8)(rs:List ByteArray)(r:ByteArray)(hr:r∉rs)(h:(l.map (·.1)).Nodup):(getL (r,x) (fgL l x rs)).isSome=(getL (r,x) l).isSome:=by
 have key:∀m:LinkL,(getL (r,x) m).isSome=true↔(r,x)∈m.map (·.1):=fun m=>by
  have:=getL_none (k:=(r,x)) (l:=m)
  cases hg:getL (r,x) m with
  |none=>simp[this.1 hg]
  |some v=>
   simp only[Option.isSome_some,true_iff];exact Classical.byContradiction fun hn=>by rw[this.2 hn]at hg;cases hg
 rw[Bool.eq_iff_iff,key,key];unfold fgL;simp only[List.mem_map,List.mem_filter,decide_eq_true_eq,hasR_iff]
 constructor
 ·rintro⟨p,⟨h1,_⟩,h2⟩;exact⟨p,h1,h2⟩
 ·rintro⟨p,h1,h2⟩;exact⟨p,⟨h1,fun h3=>hr (by have h4:=h3.1;rw[h2]at h4;exact h4)⟩,h2⟩
theorem count_key:∀{l:LinkL}{k:Key},(l.map (·.1)).Nodup->(l.filter fun p=>decide (p.1=k)).length=if(getL k l).isSome then 1 else 0
 | [],k,_=>by simp[getL]
 |p::l,k,h=>by
  simp only[List.map_cons,List.nodup_cons]at h;have ih:=count_key (k:=k) h.2
  by_cases hp:p.1=k
  ·have hn:getL k l=none:=getL_none.2 (hp▸h.1)
   rw[hn]at ih;simp only[List.filter_cons,hp,decide_true,if_true,List.length_cons,ih]
   simp[getL,hp]
  ·simp only[List.filter_cons,hp,decide_false,Bool.false_eq_true,if_false,ih]
   have hp':¬k=p.1:=fun e=>hp e.symm
   simp[getL,hp']
theorem length_filter_or{α:Type}(f g:α->Bool)(h:∀a,¬(f a=true/\g a=true)):∀l:List α,(l.filter fun a=>f a||g a).length=(l.filter f).length+(l.filter g).length
 | []=>rfl
 |a::l=>by
  have ih:=length_filter_or f g h l;have:=h a;simp only[List.filter_cons]
  cases hf:f a<;>cases hg:g a<;>simp_all<;>omega
theorem fgN_snoc(l:LinkL)(x:List UInt8)(rs:List ByteArray)(r:ByteArray)(hr:r∉rs)(h:(l.map (·.1)).Nodup):fgN l x (rs++[r])=fgN l x rs+(if(getL (r,x) l).isSome then 1 else 0):=by
 rw[<-count_key h];unfold fgN;rw[<-length_filter_or]
 ·congr 1
  apply List.filter_congr
  intro p _;rw[Bool.eq_iff_iff];simp only[Bool.or_eq_true,decide_eq_true_eq,hasR_iff,List.mem_append,List.mem_singleton,Prod.ext_iff]
  constructor
  ·rintro⟨h1|h1,h2⟩
   ·exact .inl ⟨h1,h2⟩
   ·exact .inr ⟨h1,h2⟩
  ·rintro(⟨h1,h2⟩|⟨h1,h2⟩)
   ·exact⟨.inl h1,h2⟩
   ·exact⟨.inr h1,h2⟩
 ·intro p
  simp only[decide_eq_true_eq,hasR_iff,Prod.ext_iff];rintro⟨⟨h1,_⟩,h2,_⟩;exact hr (h2▸h1)
theorem fg_all(l:LinkL)(x:List UInt8)(rs:List ByteArray)(h:∀r,r∈rs↔0<cntOf l r):fgL l x rs=xX l x/\fgN l x rs=xQ l x:=by
 constructor
 ·unfold fgL xX
  apply List.filter_congr
  intro p hp;have:=(hasR_iff rs p.1.1).2 ((h p.1.1).2 (cntOf_of_mem hp))
  simp[this]
 ·unfold fgN xQ
  congr 1
  apply List.filter_congr
  intro p hp;have:=(hasR_iff rs p.1.1).2 ((h p.1.1).2 (cntOf_of_mem hp))
  simp[this]
theorem fgN_le(l:LinkL)(x:List UInt8)(rs:List ByteArray):fgN l x rs<=l.length:=List.length_filter_le _ _
section
variable{w0 w:World}{p:Value}{limit:Int}{l:LinkL}{F:Nat->Prop}
theorem repos_at(h:LkAt w0 w p limit l F):Calls prog 66 #[p] w (RetN w fun v w'=>∃names,ReposOf l names/\Sl true w' (New w w') 1 StrC v names):=by
 obtain⟨_,⟨bl,ml,mu,hold,us,rfl,hi,hF⟩,_,_⟩:=id h;exact repos_any hi
def FgRel(w0 w w1:World)(p:Value)(limit:Int)(l:LinkL)(F:Nat->Prop)(x:List UInt8)(names:List ByteArray)(n i:Value)(wr:World):Prop:=
 ∃k Fk,k<=names.length/\i=.int .i64 k/\n=.int .i64 (fgN l x (names.take k))/\LkAt w0 wr p limit (fgL l x (names.take k)) Fk/\Mod F w wr/\(∀j,Fk j->F j\/w1.heap.size<=j)/\(∀j,w.heap.size<=j->j<w1.heap.size->wr.heap[j]?=w1.heap[j]?)/\Mod (fun j=>F j) w1 wr
theorem forget_at(h:LkAt w0 w p limit l F)(x:List UInt8)(hx:x.length=32):
 Calls prog 127 #[p,.agg (qA x)] w (fun e w'=>e=.returned (.int .i64 (xQ l x))/\LStep w0 w p limit F w' (xX l x)):=by
 obtain⟨bp,rfl⟩:=h.facts.1;have hnd:=h.facts.2.1;have hfew:=h.facts.2.2.2.2.2;go_enter func127,ntmps127;go_upto_region 0 with(fail);refine wpR [1,3] ?_;simp only[stz]
 refine wpD (zL 24 _ _ (by rfl) (by rfl) (fun w1 hB1 hm1 hs1=>?_));replace hB1:w1.heap[w.heap.size]?=some (.cells (qA x) 24 (0,0)):=hB1;simp only[stz]
 have h1:=h.keep0 hm1;have hlt:=h.lt;go_upto_region 1 with(fail);refine wpR [3,1,3,3] ?_;simp only[stz];refine wpDo rfl ?_
 go_wp2_with (go_at_call 66;refine(repos_at h1).mono ?_;rintro _ w2 ⟨v,rfl,hm2,names,hnames,hsl⟩;obtain⟨na,nc,rfl,hnl,hna⟩:=id hsl.at);try simp only[nmz]
 refine wpPL ?_;simp only[stz];have hrd:=hm2.obj id hB1;have h2:=h1.keep0 hm2;have hM2:=hm1.trans0 hm2;have hs2:=hm2.size
 have hndn:names.Nodup:=hnames.1.imp fun{a b} hab e=>by rw[e]at hab;exact List.lt_irrefl _ hab
 have hmem:=hnames.2;have HND:=hid hndn;have HMEM:=hid hmem;have HNA:=hid hna;clear hB1 hnames hsl hndn hmem hna h1;go_wp2
 go_loopw [4,6,10] (fun n _ i wx=>FgRel w0 w w2 (.pointer (some ⟨bp,0,none⟩)) limit l F x names n i wx) (fun _ _ i _=>names.length-(intOf i).toNat)
 case atStart=>exact⟨0,F,by omega,rfl,by simp[fgN_nil],by simpa[fgL_nil]using h2,hM2.mono (fun _ _ h=>h.elim),fun j hj=>.inl hj,fun _ _ _=>rfl,Mod.refl _ _⟩
 case round=>
  rename_i wr
  obtain⟨k,Fk,hk,rfl,rfl,hA,hM,hFk,hkeep,hMw⟩:=hrel
  by_cases hlt2:k<names.length
  ·have hz:(k:Int)<(names.length:Int):=by omega
   obtain⟨ba,oa,rfl,hba,-,hca⟩:=HNA.out k hlt2;obtain⟨_,-,rfl,hca⟩:=hca k hlt2
   have hnm:wr.cell? ⟨ba,oa+k*1,none⟩=some (.string names[k]):=by
    have h1:=CellsAt.one.1 hca;rw[World.cell?_of_block (w:=w2) (hkeep ba (by have:=hba.1;omega) hba.2)];exact h1
   have hbx:wr.heap[w.heap.size]?=some (.cells (qA x) 24 (0,0)):=(hkeep _ (Nat.le_refl _) (by omega)).trans hrd
   have hcx:CellsAt wr w.heap.size 0 (qA x):=CellsAt.whole hbx
   have hin:names[k]∉names.take k:=fun hm=>by
    have h1:=List.nodup_iff_pairwise_ne.1 HND.out;obtain⟨i,hi,e⟩:=List.getElem_of_mem hm;have hik:i<k:=by simp at hi;omega
    rw[List.getElem_take]at e;exact(List.pairwise_iff_getElem.1 h1 i k (by omega) hlt2 hik) e
   have hgs:=getL_fg l x (names.take k) names[k] hin hnd;have hst:=fgL_snoc l x (names.take k) names[k] hnd;have hcn:=fgN_snoc l x (names.take k) names[k] hin hnd
   rw[<-List.take_succ_eq_append_getElem hlt2]at hst hcn;have hcle:=fgN_le l x (names.take k);obtain⟨t,ht⟩:∃t,(getL (names[k],x) l).isSome=t:=⟨_,rfl⟩
   rw[ht]at hgs hcn;have HGS:=hid hgs;have HST:=hid hst;have HCN:=hid hcn;clear hgs hst hcn ht hca hin;have hun:=unlink_at hA (names[k],x) hx
   rw[HGS.out,HST.out]at hun;go_upto_region 3 with(fail);refine wpR [3,1,3] ?_;simp only[stz];refine wpPI underlying127 1 hlt2 ?_;simp only[nmz]
   refine wpXd 9 ba (oa+k*1) hnm underlying9 trivial ?_;simp only[stz];go_upto_region 4 with(fail);refine wpR [3,3,1,1] ?_;simp only[stz]
   refine wpXA 24 w.heap.size 0 (qA x) hcx underlying24 32 (by rw[qB];exact hx) trivial ?_;try simp only[nmz]
   refine wpDo rfl ?_;go_wp2_with (go_at_call 198;refine hun.mono ?_;rintro _ w4 ⟨rfl,hL⟩);simp only[stz];obtain⟨F2,hA2,hm4,hn4⟩:=hL
   have hrel2:∀(n2:Nat),n2=fgN l x (names.take (k+1))->FgRel w0 w w2 (.pointer (some ⟨bp,0,none⟩)) limit l F x names (.int .i64 n2) (.int .i64 ((k:Int)+1)) w4:=fun n2 hn2=>by
    have hsz4:=hMw.size
    refine⟨k+1,F2,by omega,by go_num,by rw[hn2],hA2,hM.trans hm4 (fun j hj hs=>(hFk j hs).elim id fun h=>?_),fun j hj=>?_,fun j h3 h4=>?_,hMw.trans hm4 (fun j hj hs=>(hFk j hs).elim id fun h=>?_)⟩
    ·have:=hM2.size;omega
    ·rcases hn4 j hj with h|h
     ·exact hFk j h
     ·exact .inr (by have:=h.1;omega)
    ·rw[hm4.block j (by omega) (fun hs=>(hFk j hs).elim (fun h=>by have:=hlt j h;omega) fun h=>by omega)]
     exact hkeep j h3 h4
    ·omega
   have HREL:=hid hrel2;clear hrel2 hm4 hn4 hA2 hA hun
   cases t
   ·go_wp2
    go_roundw
    case rel=>exact HREL.out _ (by have:=HCN.out;simpa using this.symm)
    case measure=>simp[intOf];omega
   ·go_wp2
    go_roundw
    case rel=>
     refine HREL.out (fgN l x (names.take k)+1) ?_;have:=HCN.out;simpa using this.symm
    case measure=>simp[intOf];omega
  ·have hz:¬(k:Int)<(names.length:Int):=by omega
   have e:names.take k=names:=List.take_of_length_le (by omega);rw[e]at hA |-;have hall:=fg_all l x names HMEM.out;rw[hall.1]at hA;rw[hall.2]
   have HL:Hid (LStep w0 w (.pointer (some ⟨bp,0,none⟩)) limit F wr (xX l x)):=⟨Fk,hA,hM,fun j hj=>(hFk j hj).imp id fun h=>⟨by have:=hM2.size;omega,hA.lt j hj⟩⟩
   clear hall hA hM hMw hkeep;go_wp2;go_ret;exact⟨rfl,HL.out⟩
end
def idV(x:List UInt8):Value:=.agg (qA x)
def IdOk(x:List UInt8):Prop:=x.length=32
theorem run_eqId(n:Nat)(x y:List UInt8)(hx:x.length=32)(hy:y.length=32)(w:World):(Op.equalIn (n+2) 24 (.agg (qA x)) (.agg (qA y))).run prog w=.ok (x==y) w:=
 run_equalIn_bytes w n 24 5 32 underlying24 underlying5 (fun w=>sizeU8 w) x y hx hy
theorem keyT_id:KeyT prog 24 idV IdOk:=by
 refine⟨fun e x w hx=>run_checkKey_id e 9998 x hx w,fun x y w hx hy=>?_,⟨_,underlying24,.inl fun x y=>rfl⟩,fun x _=>?_⟩
 ·unfold Op.equal Op.maxDepth idV
  rw[show(10000:Nat)=9998+2 from rfl,run_eqId 9998 x y hx hy]
  congr 1
  rw[Bool.eq_iff_iff];simp
 ·simp only[Instr.sameBits,idV,Bool.and_eq_true,beq_self_eq_true,true_and,List.all_eq_true]
  intro q hq;obtain⟨a,b⟩:=q
  have hab:∀(l:List Value)(p:Value×Value),p∈l.zip l->p.1=p.2/\p.1∈l:=by
   intro l
   induction l with
   |nil=>intro p hp;simp at hp
   |cons v l ih=>
    intro p hp;rw[List.zip_cons_cons,List.mem_cons]at hp
    rcases hp with rfl|hp
    ·simp
    ·exact⟨(ih p hp).1,List.mem_cons_of_mem _ (ih p hp).2⟩
  obtain⟨h1,h2⟩:=hab _ _ hq;have h1':a=b:=h1;subst h1';simp only[qA]at h2
  simp at h2;obtain⟨c,_,rfl⟩:=h2;simp[Instr.sameBits,byteV]
theorem idV_inj{a b:List UInt8}(h:idV a=idV b):a=b:=by
 have h1:(qA a).toList=(qA b).toList:=by rw[Value.agg.inj h]
 simp only[qA]at h1;exact(List.map_inj_right (fun _ _ e=>byteV_inj e)).1 h1
abbrev BlobL:=List (List UInt8×List UInt8)
structure Blb where
 id:List UInt8
 blk:Nat
 val:Value
 bytes:List UInt8
def cont(bl:List Blb):BlobL:=bl.map fun b=>(b.id,b.bytes)
def usedL:BlobL->Nat
 | []=>0
 |p::l=>p.2.length+usedL l
structure StInv(w:World)(bs ms wd:Nat)(room:Int)(bl:List Blb):Prop where
 box:w.heap[bs]?=some (.cells #[.int .i64 wd,.int .i64 room,.int .i64 (usedL (cont bl):Nat),.map (some ms)] 95 (0,0))
 lm:MapIs idV IdOk w ms (bl.map fun b=>(b.id,useV b.blk))
 kb:∀b∈bl,w.heap[b.blk]?=some (.cells #[b.val] 170 (0,0))
 bt:∀b∈bl,Bts 0 w b.val b.bytes
 sz:∀b∈bl,b.bytes.length<=4096
 few:bl.length<=10000
 wok:1<=wd/\wd<=32
def SFoot(bs ms:Nat)(bl:List Blb)(k:Nat):Prop:=k=bs\/k=ms\/∃b∈bl,k=b.blk\/b.val.ownBlock=some k
section
variable{w:World}{bs ms wd:Nat}{room:Int}{bl:List Blb}
theorem StInv.keep{S:Nat->Prop}{w':World}(h:StInv w bs ms wd room bl)(hm:Mod S w w')(hS:∀k,SFoot bs ms bl k->¬S k):StInv w' bs ms wd room bl:=
 ⟨hm.obj (hS _ (.inl rfl)) h.box,h.lm.keep hm (hS _ (.inr (.inl rfl))),fun b hb=>hm.obj (hS _ (.inr (.inr ⟨b,hb,.inl rfl⟩))) (h.kb b hb),fun b hb=>zE (h.bt b hb) hm (fun k hk=>hS _ (.inr (.inr ⟨b,hb,.inr hk⟩))),h.sz,h.few,h.wok⟩
theorem StInv.keep0{w':World}(h:StInv w bs ms wd room bl)(hm:Mod NoB w w'):StInv w' bs ms wd room bl:=h.keep hm (fun _ _=>id)
theorem StInv.cell(h:StInv w bs ms wd room bl):w.cell? ⟨bs,0,none⟩=some (.int .i64 wd)/\w.cell? ⟨bs,1,none⟩=some (.int .i64 room)/\w.cell? ⟨bs,2,none⟩=some (.int .i64 (usedL (cont bl):Nat))/\w.cell? ⟨bs,3,none⟩=some (.map (some ms)):=by
 simp[World.cell?,h.box]
theorem StInv.lt(h:StInv w bs ms wd room bl):∀k,SFoot bs ms bl k->k<w.heap.size:=by
 intro k hk
 rcases hk with rfl|rfl|⟨b,hb,rfl|hk⟩
 ·exact(Array.getElem?_eq_some_iff.1 h.box).1
 ·exact h.lm.lt
 ·exact(Array.getElem?_eq_some_iff.1 (h.kb b hb)).1
 ·exact(World.ownsRow.lt (h.bt b hb) k hk).2
theorem StInv.nd(h:StInv w bs ms wd room bl):((cont bl).map (·.1)).Nodup:=by
 have:=h.lm.nd
 simpa[cont,List.map_map,Function.comp_def]using this
theorem StInv.ok(h:StInv w bs ms wd room bl):∀b∈bl,b.id.length=32:=fun b hb=>h.lm.ok (b.id,useV b.blk) (List.mem_map.2 ⟨b,hb,rfl⟩)
def findB(id:List UInt8):List Blb->Option Blb
 | []=>none
 |b::l=>if id=b.id then some b else findB id l
theorem findB_some{id:List UInt8}{b:Blb}:∀{bl:List Blb},findB id bl=some b->b∈bl/\b.id=id
 |c::l,h=>by
  unfold findB at h
  split at h
  ·rename_i hc;cases h;exact⟨by simp,hc.symm⟩
  ·have:=findB_some h;exact⟨by simp[this.1],this.2⟩
theorem findB_map{γ:Type}(f:Blb->γ)(id:List UInt8)(bl:List Blb):getL id (bl.map fun b=>(b.id,f b))=(findB id bl).map f:=by
 induction bl with
 |nil=>rfl
 |cons b l ih=>simp only[List.map_cons,getL,findB];split<;>simp_all
theorem getB(id:List UInt8)(bl:List Blb):getL id (cont bl)=(findB id bl).map (·.bytes):=findB_map _ _ _
def blkV:Option Blb->Value
 |some b=>useV b.blk
 |none=>.pointer none
theorem keptZ:(prog.info? 166).bind (·.zero)=some (.pointer none):=by kernel_rfl
theorem StInv.look(h:StInv w bs ms wd room bl){o:Oper}{a:Act}(m x:Operand)(id:List UInt8)(hid:id.length=32)(ho:o.op=.lookup 93 m x true)(hm:a.eval m=.map (some ms))(hx:a.eval x=idV id):
 (execOp a.eval o).run prog w=.ok (.value (.tuple #[blkV (findB id bl),.bool (findB id bl).isSome])) w:=
 yP keyT_id h.lm id hid 93 166 underlying93 (.pointer none) keptZ m x true ho hm hx _ (by
  rw[findB_map]
  cases findB id bl<;>rfl)
def BNewR(wd room:Int)(w:World)(e:Ending)(w':World):Prop:=∃bs ms,e=.returned (.tuple #[.pointer (some ⟨bs,0,none⟩),.int .i64 0])/\StInv w' bs ms wd.toNat room []/\Mod NoB w w'/\∀k,SFoot bs ms [] k->New w w' k
theorem bNew_any(wd room:Int)(hw:1<=wd/\wd<=32)(hr:0<=room/\room<=67108864)(w:World):Calls prog 78 #[.int .i64 wd,.int .i64 room] w (BNewR wd room w):=by
 have hmm:= @run_makeMap prog;obtain⟨h1,h2⟩:=hw;obtain⟨h3,h4⟩:=hr;go_enter func78,ntmps78;go_upto_region 3 with(fail);refine wpR [3,3,1,1,1,3,3] ?_;simp only[stz]
 refine qL rfl (fun K hK=>?_);unfold Oper.wp execOp;simp only[Array.map_empty,Option.map_none,Sem.run_bind,hmm,Result.andThen_ok,Sem.run_pure]
 have hB:=heap_alloc_new w (.map #[] 0);have hM:=qW w (.map #[] 0);have hs:w.heap.size<(w.alloc (.map #[] 0)).heap.size:=by simp
 generalize w.alloc (.map #[] 0)=w1 at hB hM hs |-;refine hK _ _ trivial ?_;clear hK K;try simp only[nmz]
 refine wpDo rfl ?_;go_wp2;try simp only[nmz]
 refine wpD (zL 95 _ _ (by rfl) (by rfl) (fun w3 hB2 hm2 hs2=>?_));simp only[stz];go_wp2;go_ret2;have hB':=hm2.obj id hB
 have hwt:((wd.toNat:Nat):Int)=wd:=Int.toNat_of_nonneg (by omega)
 refine⟨_,w.heap.size,rfl,⟨by rw[hwt];exact hB2,MapIs.made hB',by simp,by simp,by simp,by simp,by omega⟩,hM.trans0 hm2,fun k hk=>?_⟩
 rcases hk with rfl|rfl|⟨b,hb,_⟩
 ·exact⟨by omega,by omega⟩
 ·exact⟨by omega,by omega⟩
 ·simp at hb
theorem bNone_at(b:Nat)(m:Option Nat)(w:World)(hc:w.cell? ⟨b,3,none⟩=some (.map m)):Calls prog 92 #[.pointer (some ⟨b,0,none⟩)] w (RetE (.bool m.isNone) w):=by
 have he:=fun(w:World)=>run_eql_map_nil (P:=prog) w 93 24 166 m underlying93
 cases m
 all_goals
  go_enter func92,ntmps92;go_wp2;go_ret;exact⟨rfl,rfl⟩
theorem StInv.made(h:StInv w bs ms wd room bl):Calls prog 92 #[.pointer (some ⟨bs,0,none⟩)] w (RetE (.bool false) w):=bNone_at bs (some ms) w h.cell.2.2.2
theorem bWidth_any(h:StInv w bs ms wd room bl):Calls prog 124 #[.pointer (some ⟨bs,0,none⟩)] w (RetE (.int .i64 wd) w):=by
 have hc:=h.cell.1;go_enter func124,ntmps124;go_wp2_with (go_at_call 92;refine h.made.mono ?_;rintro _ w1 ⟨rfl,hw⟩;obtain rfl:=hw.symm);go_ret;exact⟨rfl,rfl⟩
end
theorem fo_95_3:qS prog 95 3=some 3:=by kernel_rfl
theorem fo_170_0:qS prog 170 0=some 0:=by kernel_rfl
section
variable{w:World}{bs ms wd:Nat}{room:Int}{bl:List Blb}
def GetR(w:World)(r:Option (List UInt8)):Ending->World->Prop:=fun e w'=>Mod NoB w w'/\match r with
 |some m=>∃v,e=.returned (.tuple #[v,.bool true])/\Bts w.heap.size w' v m
 |none=>e=.returned (.tuple #[.slice none 0 0,.bool false])
theorem bGet_any(h:StInv w bs ms wd room bl)(di:List UInt8)(hid:di.length=32):Calls prog 33 #[.pointer (some ⟨bs,0,none⟩),.agg (qA di)] w (GetR w (getL di (cont bl))):=by
 have hrs:(qA di).size=32:=by rw[qB,hid]
 have H:=Lib.hid h;rw[getB];obtain⟨fb,hfb⟩:∃q,findB di bl=q:=⟨_,rfl⟩;rw[hfb];have HFB:=Lib.hid hfb
 have hl:=fun(w':World)(hm:Mod NoB w w')(o:Oper)(a:Act)(m x:Operand)=> @StInv.look w' bs ms wd room bl (H.out.keep0 hm) o a m x di hid;simp only[hfb]at hl
 have HL:=Lib.hid hl;clear h hfb hl;go_enter func33,ntmps33;go_upto_region 0 with(fail);refine wpR [1,3,3] ?_;simp only[zz2]
 refine wpD (zL 24 _ _ (by rfl) (by rfl) (fun w1 hB1 hm1 hs1=>?_));replace hB1:w1.heap[w.heap.size]?=some (.cells (qA di) 24 (0,0)):=hB1
 refine yR _ rfl rfl ?_;simp only[nmz];refine yR _ rfl rfl ?_;simp only[nmz];refine wpPi_nil ?_;have hc3:=(H.out.keep0 hm1).cell.2.2.2
 have hcI:=CellsAt.whole hB1;go_upto_region 1 with(fail);refine wpR [3,1] ?_;simp only[zz2];refine jN _ rfl rfl ?_;simp only[nmz];refine wpDo rfl ?_
 go_wp2_with (go_at_call 92;refine(H.out.keep0 hm1).made.mono ?_;rintro _ w2 ⟨rfl,hw⟩;obtain rfl:=hw.symm);try simp only[nmz]
 refine wpPi_nil ?_;go_upto_region 3 with(fail);have hS:Mod NoB w1 w1.drew:=(Mod.refl _ _).drew
 cases fb with
 |none=>
  refine wpRZ [3,3,3,0,0,0,3,3,3,3,3] [] (fun w'=>Mod NoB w1 w') hS ?_;simp only[zz2];refine jN _ rfl rfl ?_;simp only[nmz]
  refine wpPi_nilCheck _ _ rfl rfl rfl ?_;simp only[nmz];refine wpPi_field _ _ _ _ _ _ rfl rfl rfl fo_95_3 ?_;simp only[nmz]
  refine wpLd 93 bs 3 (fun w' hS=>hS.cell id hc3) underlying93 ?_;simp only[nmz];refine wpLA 24 w.heap.size 0 (qA di) (fun w' hS=>hcI.keep hS id) underlying24 32 hrs ?_
  simp only[nmz];refine qG rfl (fun w' hS=>HL.out w' (hm1.trans0 hS) _ _ _ _ (by rfl) (by rfl) (by rfl)) ?_;simp only[nmz];refine jN _ rfl rfl ?_;simp only[nmz]
  refine qC (v:=?_) rfl (fun w'=>?_) ?_;rotate_left;·(go_simp;try with_reducible rfl)
  simp only[nmz];refine qC (v:=?_) rfl (fun w'=>?_) ?_;rotate_left;·(go_simp;try with_reducible rfl)
  simp only[nmz];refine yR _ rfl rfl ?_;simp only[nmz];refine yR _ rfl rfl ?_;simp only[nmz];refine wpPi_nil ?_;have hMr:=hm1.trans0 hS
  clear hS hm1 hc3 hcI hB1;go_wp2;go_ret2;exact⟨hMr,rfl⟩
 |some b=>
  obtain⟨hbm,rfl⟩:=findB_some HFB.out;have hkb:=H.out.kb b hbm;have hbt:=H.out.bt b hbm;have hsz:=H.out.sz b hbm
  have hc0:w.cell? ⟨b.blk,0,none⟩=some b.val:=by simp[World.cell?,hkb]
  clear hkb;refine wpRZ [3,3,3,0,0,0,3,3,3,3,3] [] (fun w'=>Mod NoB w1 w') hS ?_;simp only[zz2];refine jN _ rfl rfl ?_;simp only[nmz]
  refine wpPi_nilCheck _ _ rfl rfl rfl ?_;simp only[nmz];refine wpPi_field _ _ _ _ _ _ rfl rfl rfl fo_95_3 ?_;simp only[nmz]
  refine wpLd 93 bs 3 (fun w' hS=>hS.cell id hc3) underlying93 ?_;simp only[nmz];refine wpLA 24 w.heap.size 0 (qA b.id) (fun w' hS=>hcI.keep hS id) underlying24 32 hrs ?_
  simp only[nmz];refine qG rfl (fun w' hS=>HL.out w' (hm1.trans0 hS) _ _ _ _ (by rfl) (by rfl) (by rfl)) ?_;simp only[nmz];refine jN _ rfl rfl ?_;simp only[nmz]
  refine qC (v:=?_) rfl (fun w'=>?_) ?_;rotate_left;·(go_simp;try with_reducible rfl)
  simp only[nmz];refine qC (v:=?_) rfl (fun w'=>?_) ?_;rotate_left;·(go_simp;try with_reducible rfl)
  simp only[nmz];refine yR _ rfl rfl ?_;simp only[nmz];refine yR _ rfl rfl ?_;simp only[nmz];refine wpPi_nil ?_;have hM1:=hm1.trans0 hS
  have hc0:=hM1.cell id hc0;have hbk:Bts 0 w1.drew b.val b.bytes:=zE hbt hM1 (fun _ _=>id);clear hS hm1 hc3 hcI hB1;go_upto_region 6 with(fail)
  refine wpR [3,3,3,1,1,3,3] ?_;simp only[zz2];refine jN _ rfl rfl ?_;simp only[nmz];refine wpPi_nilCheck _ _ rfl rfl rfl ?_;simp only[nmz]
  refine wpPi_field _ _ _ _ _ _ rfl rfl rfl fo_170_0 ?_;simp only[nmz];refine wpXd (v:=b.val) 53 b.blk 0 hc0 underlying53 trivial ?_;try simp only[nmz]
  refine wpD (wpC func93 (bytesClone_any (Bts.sl hbk) (by omega)) ?_);rintro e w3 ⟨v3,rfl,hb3,hm3⟩;have hb3:Bts w.heap.size w3 v3 b.bytes:=jF hb3 hM1.size
  refine⟨_,rfl,?_⟩;refine yR _ rfl rfl ?_;simp only[nmz];refine yR _ rfl rfl ?_;simp only[nmz];refine wpPi_nil ?_;have hMr:=hM1.trans0 hm3;clear hm3 hM1 hc0
  go_wp2;go_ret2;exact⟨hMr,v3,rfl,hb3⟩
def SizeR(w:World)(r:Option (List UInt8)):Ending->World->Prop:=fun e w'=>Mod NoB w w'/\e=.returned (.tuple #[.int .i64 ((r.getD []).length:Nat),.bool r.isSome])
theorem bSize_any(h:StInv w bs ms wd room bl)(di:List UInt8)(hid:di.length=32):Calls prog 91 #[.pointer (some ⟨bs,0,none⟩),.agg (qA di)] w (SizeR w (getL di (cont bl))):=by
 have hrs:(qA di).size=32:=by rw[qB,hid]
 have H:=Lib.hid h;have hg:=fun(w1:World)(hm:Mod NoB w w1)=>bGet_any (h.keep0 hm) di hid;obtain⟨r,hr⟩:∃q,getL di (cont bl)=q:=⟨_,rfl⟩;rw[hr]
 simp only[hr]at hg;clear h hr;go_enter func91,ntmps91;go_upto_region 0 with(fail);refine wpR [1,3,3] ?_;simp only[stz]
 refine wpD (zL 24 _ _ (by rfl) (by rfl) (fun w1 hB1 hm1 hs1=>?_));replace hB1:w1.heap[w.heap.size]?=some (.cells (qA di) 24 (0,0)):=hB1;simp only[stz]
 have hcI:=CellsAt.whole hB1
 cases r with
 |none=>
  go_upto_region 1 with(fail);refine wpR [3,1,1,3,3,3,3,3] ?_;simp only[stz];refine wpXA 24 w.heap.size 0 (qA di) hcI underlying24 32 hrs trivial ?_
  try simp only[nmz]
  refine wpD (wpC func33 (hg _ hm1) ?_);rintro e w2 ⟨hm2,rfl⟩;refine⟨_,rfl,?_⟩;simp only[stz]
  refine qC (v:=?_) rfl (fun w'=>?_) ?_;rotate_left;·(go_simp;try with_reducible rfl)
  simp only[nmz];refine qC (v:=?_) rfl (fun w'=>?_) ?_;rotate_left;·(go_simp;try with_reducible rfl)
  simp only[stz];have hMr:=hm1.trans0 hm2;go_wp2;go_ret2;exact⟨hMr,rfl⟩
 |some m=>
  go_upto_region 1 with(fail);refine wpR [3,1,1,3,3,3,3,3] ?_;simp only[stz];refine wpXA 24 w.heap.size 0 (qA di) hcI underlying24 32 hrs trivial ?_
  try simp only[nmz]
  refine wpD (wpC func33 (hg _ hm1) ?_);rintro e w2 ⟨hm2,v2,rfl,hb2⟩;obtain⟨a2,c2,rfl,-,-⟩:=Sl.at hb2.sl;refine⟨_,rfl,?_⟩;simp only[stz]
  refine qC (v:=?_) rfl (fun w'=>?_) ?_;rotate_left;·(go_simp;try with_reducible rfl)
  simp only[nmz];refine qC (v:=?_) rfl (fun w'=>?_) ?_;rotate_left;·(go_simp;try with_reducible rfl)
  simp only[stz];have hMr:=hm1.trans0 hm2;go_wp2;go_ret2;exact⟨hMr,rfl⟩
end
def delB(di:List UInt8):List Blb->List Blb
 | []=>[]
 |b::l=>if di=b.id then l else b::delB di l
theorem delB_map{γ:Type}(f:Blb->γ)(di:List UInt8)(bl:List Blb):delL di (bl.map fun b=>(b.id,f b))=(delB di bl).map fun b=>(b.id,f b):=by
 induction bl with
 |nil=>rfl
 |cons b l ih=>simp only[List.map_cons,delL,delB];split<;>simp_all
theorem delB_mem{di:List UInt8}{b:Blb}:∀{bl:List Blb},b∈delB di bl->b∈bl
 |c::l,h=>by
  unfold delB at h
  split at h
  ·exact List.mem_cons_of_mem _ h
  ·rcases List.mem_cons.1 h with rfl|h
   ·exact List.mem_cons_self
   ·exact List.mem_cons_of_mem _ (delB_mem h)
theorem delB_len(di:List UInt8)(bl:List Blb):(delB di bl).length<=bl.length:=by
 induction bl with
 |nil=>exact Nat.le_refl _
 |cons b l ih=>unfold delB;split<;>simp<;>omega
theorem usedL_del{di:List UInt8}{m:List UInt8}:∀{c:BlobL},getL di c=some m->usedL (delL di c)+m.length=usedL c
 |p::l,h=>by
  unfold getL at h;unfold delL
  split at h
  ·rename_i hk;rw[if_pos hk];cases h;simp only[usedL];omega
  ·rename_i hk;rw[if_neg hk];simp only[usedL];have:=usedL_del h;omega
theorem usedL_le{c:BlobL}(h:∀p∈c,p.2.length<=4096):usedL c<=4096*c.length:=by
 induction c with
 |nil=>simp[usedL]
 |cons p l ih=>simp only[usedL,List.length_cons];have:=h p (by simp);have:=ih (fun q hq=>h q (by simp[hq]));omega
section
variable{w:World}{bs ms wd:Nat}{room:Int}{bl:List Blb}
theorem StInv.nes(h:StInv w bs ms wd room bl):bs≠ms/\∀b∈bl,b.blk≠bs/\b.blk≠ms/\(∀k,b.val.ownBlock=some k->k≠bs/\k≠ms):=by
 obtain⟨es,clk,h1,_⟩:=h.lm.obj;have hb:=h.box;refine⟨fun e=>?_,fun b hbm=>⟨fun e=>?_,fun e=>?_,fun k hk=>?_⟩⟩
 ·rw[e,h1]at hb;cases hb
 ·have h3:=h.kb b hbm;rw[e,hb]at h3
  have h3:=(Obj.cells.inj (Option.some.inj h3)).1;have:=congrArg Array.size h3;simp at this
 ·have h3:=h.kb b hbm;rw[e,h1]at h3;cases h3
 ·rcases(h.bt b hbm).2 with⟨hv,-⟩|⟨g,cap,cur,hv,-,hg,-⟩
  ·rw[hv]at hk;cases hk
  ·rw[hv]at hk
   obtain rfl:g=k:=by simpa[Value.ownBlock]using hk
   refine⟨fun e=>?_,fun e=>?_⟩
   ·rw[e,hb]at hg
    have h3:=(Obj.cells.inj (Option.some.inj hg)).2.1;exact absurd h3 (by decide)
   ·rw[e,h1]at hg;cases hg
theorem StInv.used(h:StInv w bs ms wd room bl):usedL (cont bl)<=40960000:=by
 have h1:=usedL_le (c:=cont bl) (fun p hp=>by
  obtain⟨b,hb,rfl⟩:=List.mem_map.1 hp
  exact h.sz b hb)
 have h2:=h.few;have h3:(cont bl).length=bl.length:=by simp[cont]
 omega
def StTo(w:World)(bs ms wd:Nat)(room:Int)(bl:List Blb)(w':World)(c:BlobL):Prop:=
 ∃bl',StInv w' bs ms wd room bl'/\cont bl'=c/\Mod (fun k=>k=bs\/k=ms) w w'/\∀k,SFoot bs ms bl' k->SFoot bs ms bl k\/New w w' k
theorem StInv.to0(h:StInv w bs ms wd room bl){w':World}(hm:Mod NoB w w'):StTo w bs ms wd room bl w' (cont bl):=⟨bl,h.keep0 hm,rfl,hm.mono (fun _ _ h=>h.elim),fun _ h=>.inl h⟩
theorem bDrop_any(h:StInv w bs ms wd room bl)(di:List UInt8)(hid:di.length=32):Calls prog 30 #[.pointer (some ⟨bs,0,none⟩),.agg (qA di)] w (fun e w'=>e=.returned (.bool (getL di (cont bl)).isSome)/\StTo w bs ms wd room bl w' (delL di (cont bl))):=by
 have hrs:(qA di).size=32:=by rw[qB,hid]
 have H:=Lib.hid h;have hg:=fun(w1:World)(hm:Mod NoB w w1)=>bSize_any (h.keep0 hm) di hid;have hto0:=fun(w':World)(hm:Mod NoB w w')=>h.to0 hm
 have hud:= @usedL_del di;have hus:=h.used;have HC:Hid (delL di (cont bl)=cont (delB di bl)):=Lib.hid (delB_map (fun b=>b.bytes) di bl)
 obtain⟨r,hr⟩:∃q,getL di (cont bl)=q:=⟨_,rfl⟩;rw[hr];simp only[hr]at hg;have HR:=Lib.hid hr;have HTO:=Lib.hid hto0;clear h hr hto0;go_enter func30,ntmps30
 go_upto_region 0 with(fail);refine wpR [1,3] ?_;simp only[stz];refine wpD (zL 24 _ _ (by rfl) (by rfl) (fun w1 hB1 hm1 hs1=>?_))
 replace hB1:w1.heap[w.heap.size]?=some (.cells (qA di) 24 (0,0)):=hB1;simp only[stz];have hcI:=CellsAt.whole hB1;go_upto_region 1 with(fail)
 refine wpR [3,1,1,3,3,3,3,3] ?_;simp only[stz];refine wpXA 24 w.heap.size 0 (qA di) hcI underlying24 32 hrs trivial ?_;try simp only[nmz]
 refine wpD (wpC func91 (hg _ hm1) ?_);rintro e w2 ⟨hm2,rfl⟩;refine⟨_,rfl,?_⟩;simp only[stz]
 refine qC (v:=?_) rfl (fun w'=>?_) ?_;rotate_left;·(go_simp;try with_reducible rfl)
 simp only[nmz];refine qC (v:=?_) rfl (fun w'=>?_) ?_;rotate_left;·(go_simp;try with_reducible rfl)
 simp only[stz];have hM2:=hm1.trans0 hm2;have hcI2:=hcI.keep hm2 id
 cases r with
 |none=>
  have hdel:delL di (cont bl)=cont bl:=by
   have h1:=HR.out;rw[getL_none]at h1
   have:=(idxL_none (k:=di) (l:=cont bl) (i:=0) (by
    cases hx:idxL di (cont bl) 0 with
    |none=>rfl
    |some q=>
     have h2:=idxL_get di (cont bl) 0;rw[hx,HR.out]at h2
     cases h2)).2.2.1
   exact this
  have hto:=HTO.out _ hM2;rw[<-hdel]at hto;have HT:=Lib.hid hto;clear hm1 hm2 hM2 hto hdel hud;go_wp2;go_ret;exact⟨rfl,HT.out⟩
 |some m=>
  have hud:=hud HR.out;have h2:=H.out.keep0 hM2;have hu2:=h2.cell.2.2.1;have hnes:=h2.nes;have hbox:=h2.box
  have hd1:((usedL (cont bl):Nat):Int)-(m.length:Nat)=((usedL (delL di (cont bl)):Nat):Int):=by omega
  have HNES:=Lib.hid hnes;obtain⟨u0,hu0⟩:∃q,((usedL (cont bl):Nat):Int)=q:=⟨_,rfl⟩;obtain⟨u1,hu1⟩:∃q,((usedL (delL di (cont bl)):Nat):Int)=q:=⟨_,rfl⟩
  have HU1:=Lib.hid hu1;rw[hu0]at hu2 hbox hd1;rw[hu1]at hd1;have hb0:0<=u1/\u1<=40960000:=by omega
  clear hnes hu0 hu1 hud hus;go_upto_region 3 with(fail);simp only[Option.getD_some];refine wpR [3,3,3,1,3,3,3,3,1] ?_;simp only[stz]
  refine wpXd (v:=(.int .i64 u0)) 3 bs 2 hu2 underlying3 trivial ?_;simp only[stz]
  refine zJ _ _ _ _ u0 ((m.length:Nat):Int) u1 rfl rfl rfl rfl hd1 (by omega) (by omega) ?_;simp only[stz]
  refine wpD (qR 3 _ _ bs 2 (.int .i64 u1) (by rfl) (by rfl) (by rfl) rfl (by kernel_rfl) _ _ hbox (by simp) (fun w3 hB3 hm3=>?_))
  replace hB3:w3.heap[bs]?=some (.cells #[.int .i64 wd,.int .i64 room,.int .i64 u1,.map (some ms)] 95 (0,0)):=hB3;simp only[stz];have hlt0:=h2.lt bs (.inl rfl)
  have hltb:bs<w.heap.size:=H.out.lt bs (.inl rfl);have hltm:ms<w.heap.size:=H.out.lt ms (.inr (.inl rfl));have hcI3:=hcI2.keep hm3 (fun e=>by omega)
  have hlm3:=h2.lm.keep hm3 (fun e=>HNES.out.1 e.symm);have hc3:w3.cell? ⟨bs,3,none⟩=some (.map (some ms)):=by simp[World.cell?,hB3]
  go_upto_region 4 with(fail);have hS:Mod NoB w3 w3.drew:=(Mod.refl _ _).drew;refine wpRZ [3,3,3,0,0,2] [5] (fun w'=>Mod NoB w3 w') hS ?_;simp only[stz]
  refine wpLd 93 bs 3 (fun w' hS=>hS.cell id hc3) underlying93 ?_;simp only[nmz];refine wpLA 24 w.heap.size 0 (qA di) (fun w' hS=>hcI3.keep hS id) underlying24 32 hrs ?_
  simp only[nmz];refine zD rfl (fun K hK=>?_);refine wp_delL keyT_id (hlm3.keep0 hS) di hid 93 166 underlying93 _ _ (by rfl) (by rfl) (by rfl) (fun w4 hlm4 hm4=>?_)
  refine hK _ _ ?_;clear hK K;simp only[stz]
  have hm24:Mod (fun k=>k=bs\/k=ms) w2 w4:=((hm3.mono (fun _ _ h=>.inl h)).trans hS (fun _ _ h=>h.elim)).trans hm4 (fun _ _ h=>.inr h)
  have hM4:Mod (fun k=>k=bs\/k=ms) w w4:=(hM2.mono (fun _ _ h=>h.elim)).trans hm24 (fun _ _ h=>h);have hB4:=hm4.objB (b:=bs) (HNES.out.1) (hS.obj id hB3)
  have hst:StInv w4 bs ms wd room (delB di bl):=by
   refine⟨?_,?_,fun b hb=>?_,fun b hb=>?_,fun b hb=>h2.sz b (delB_mem hb),Nat.le_trans (delB_len _ _) h2.few,h2.wok⟩
   ·rw[<-HC.out,HU1.out];exact hB4
   ·rw[delB_map (fun b=>useV b.blk)]at hlm4;exact hlm4
   ·have hn:=HNES.out.2 b (delB_mem hb)
    exact hm24.obj (fun e=>e.elim hn.1 hn.2.1) (h2.kb b (delB_mem hb))
   ·have hn:=HNES.out.2 b (delB_mem hb)
    exact zE (h2.bt b (delB_mem hb)) hm24 (fun k hk e=>e.elim (hn.2.2 k hk).1 (hn.2.2 k hk).2)
  have HT:Hid (StTo w bs ms wd room bl w4 (delL di (cont bl))):=Lib.hid ⟨_,hst,HC.out.symm,hM4,fun k hk=>.inl (by
   rcases hk with rfl|rfl|⟨b,hb,hk⟩
   ·exact .inl rfl
   ·exact .inr (.inl rfl)
   ·exact .inr (.inr ⟨b,delB_mem hb,hk⟩))⟩
  clear hm3 hm4 hm24 hM4 hS hB3 hB4 hst hlm3 hlm4 hm1 hm2 hM2;go_wp2;go_ret;exact⟨rfl,HT.out⟩
end
def cutI(n:Nat)(x:List UInt8):List UInt8:=x.take n++List.replicate (32-n) 0
theorem cutI_len{n:Nat}{x:List UInt8}(hx:x.length=32)(hn:n<=32):(cutI n x).length=32:=by simp[cutI,hx];omega
def ofI(n:Nat)(m:List UInt8):List UInt8:=cutI n (shaL m)
theorem ofI_len{n:Nat}{m:List UInt8}(hn:n<=32):(ofI n m).length=32:=cutI_len (shaL_len _) hn
theorem ofI_whole(m:List UInt8):ofI 32 m=shaL m:=by
 unfold ofI cutI;rw[List.take_of_length_le (by rw[shaL_len];omega)]
 simp
theorem cut_row{n:Nat}{x:List UInt8}(hx:x.length=32)(hn:n<=32):qY (qA x) n (qA (List.replicate (32-n) 0))=qA (cutI n x):=by
 unfold qY qA cutI;simp only[List.size_toArray,List.length_map,List.length_replicate,List.map_append,List.map_take]
 rw[List.drop_of_length_le (by simp[hx];omega),List.append_nil]
section
variable{P:Program}{o:Oper}{a:Act}{w:World}{K:Act->World->Prop}{Q:Exit->Act->World->Prop}
theorem exec_sliceFromA(t e:TypeId)(x y:Operand)(b l n:Nat)(ho:o.op=.slice t x (some y) none none)(hx:a.eval x=.pointer (some ⟨b,0,none⟩))(hy:a.eval y=.int .i64 l)(ht:P.underlying t=some (.array n e))(he:(P.info? e).map (·.size)=some 1)(hl:l<=n):
 (execOp a.eval o).run P w=.ok (.value (.slice (some (if n=l then⟨b,0,none⟩else⟨b,l,none⟩)) (n-l) (n-l))) w:=by
 have h1:P.arrayLen t=n:=by simp[Program.arrayLen,ht]
 have h2:P.elem t=e:=by simp[Program.elem,ht]
 have h3:(sizeOf e).run P w=.ok 1 w:=by
  cases hq:P.info? e with
  |none=>simp[hq]at he
  |some j=>simp[hq]at he;simp[sizeOf,typeInfo,hq,he]
 have h:=run_sliceAt_array_l (P:=P) w t ⟨b,0,none⟩ (by rw[h1,h2];exact ht) .i64 (l:Int) (by omega) (by rw[h1];omega);rw[h2,h3,h1]at h
 have hm:(match(some y:Option Operand)with|some z=>some (a.eval z)|none=>none)=some (.int .i64 l):=by simp[hy]
 unfold execOp;simp only[ho,hx,Option.map_some,Option.map_none,hy,Sem.run_bind,h,Result.andThen_ok,Sem.run_pure]
 congr 3
 simp[slicedAt,Addr.add]
 by_cases h0:l=0
 ·subst h0;simp
 ·simp[h0]
theorem wp_clearRow(t e:TypeId)(x:Operand)(b off n c:Nat)(ho:o.op=.call { callee:=.builtin .clear,args:=#[x],argTypes:=#[t] })(hx:a.eval x=.slice (some ⟨b,off,none⟩) (n+1) c)(ht:P.underlying t=some (.slice e))(hz:(P.info? e).bind (·.zero)=some (byteV 0))
 (cur:Array Value)(T:TypeId)(hb:w.heap[b]?=some (.cells cur T (0,0)))(hoff:off+(n+1)<=cur.size)
 (h:∀w',w'.heap[b]?=some (.cells (qY cur off (qA (List.replicate (n+1) 0))) T (0,0))->Mod (fun k=>k=b) w w'->K (a.put o.dst (.tuple #[])) w'):o.wp P a w K Q:=by
 have hzv:(zeroValue e).run P w=.ok (byteV 0) w:=by
  cases hi:P.info? e with
  |none=>simp[hi]at hz
  |some i=>simp[hi]at hz;simp[zeroValue,typeInfo,hi,hz]
 have hzc:(Builtin.zeroCells (byteV 0).cells (n+1)).toList=List.replicate (n+1) (byteV 0):=by
  simp[Builtin.zeroCells,byteV,Value.cells]
  apply List.ext_getElem
  ·simp
  ·intro i h1 h2
   simp[Nat.mod_one]
 have hst:=run_storeCells_at P b off T (List.replicate (n+1) (byteV 0)) 0 cur w hb (by simpa using hoff) (fun v hv=>by rw[List.eq_of_mem_replicate hv];rfl)
 simp only[Nat.add_zero,List.length_replicate]at hst
 have he:(cur.toList.take off++List.replicate (n+1) (byteV 0)++cur.toList.drop (off+(n+1))).toArray=qY cur off (qA (List.replicate (n+1) 0)):=by
  unfold qY qA
  simp
 rw[he]at hst;unfold Oper.wp execOp
 have hr:(Builtin.clear_ #[t] o.type #[.slice (some ⟨b,off,none⟩) (n+1) c]).run P w=.ok (.tuple #[]) (w.setRow b (qY cur off (qA (List.replicate (n+1) 0)))):=by
  simp[Builtin.clear_,run_underlying ht,hzv,hzc,hst]
 simp[ho,hx,resolve,invoke,builtin,hr]
 exact h _ (setRow_heap w b cur _ T _ hb) ⟨rfl,rfl,rfl,by simp,fun k _ hk=>setRow_other w b k _ (fun e=>hk e)⟩
end
theorem u8_zero:(prog.info? 5).bind (·.zero)=some (byteV 0):=by kernel_rfl
def CutR2(w:World)(n:Nat)(x:List UInt8):Ending->World->Prop:=fun e w'=>e=.returned (.tuple #[.agg (qA (cutI n x)),.int .i64 0])/\Mod NoB w w'
theorem shaCut_any(x:List UInt8)(hx:x.length=32)(n:Nat)(h1:1<=n)(h2:n<=32)(w:World):Calls prog 95 #[.agg (qA x),.int .i64 n] w (CutR2 w n x):=by
 have hrs:(qA (cutI n x)).size=32:=by rw[qB,cutI_len hx h2]
 have hxs:(qA x).size=32:=by rw[qB,hx]
 have HR:=hid (cut_row hx h2);go_enter func95,ntmps95;go_upto_region 0 with(fail);refine wpR [1,1,3] ?_;simp only[stz]
 refine wpD (zL 24 _ _ (by rfl) (by rfl) (fun w1 hB1 hm1 hs1=>?_));replace hB1:w1.heap[w.heap.size]?=some (.cells (qA x) 24 (0,0)):=hB1;try simp only[nmz]
 refine wpD (qN 24 _ (by rfl) idZ (fun w2 hB2 hm2 hs2=>?_));replace hB2:w2.heap[w1.heap.size]?=some (.cells (qA (List.replicate 32 0)) 24 (0,0)):=hB2
 simp only[stz];replace hB1:=hm2.obj id hB1;have hM2:=hm1.trans0 hm2;have hne:w.heap.size≠w1.heap.size:=by omega
 have hs1':w.heap.size<=w1.heap.size:=hm1.size;generalize hb1:w.heap.size=b1 at*;generalize hb2:w1.heap.size=b2 at*;clear hm1 hm2
 rcases Nat.lt_or_ge n 32 with hlt|hge
 ·obtain⟨m,hm⟩:∃m,32-n=m+1:=⟨31-n,by omega⟩
  have hn32:¬32=n:=by omega
  rw[hm]at HR;go_upto_region 3 with(fail);refine wpR [3,0,1] ?_;simp only[stz]
  refine qG rfl (fun w' hS=>(exec_sliceFromA (P:=prog) 24 5 _ _ b1 n 32 (by rfl) (by rfl) (by rfl) underlying24 (by kernel_rfl) (by omega)).trans (by rw[if_neg hn32,hm])) ?_
  simp only[nmz];refine wpD (wp_clearRow 53 5 _ b1 n m _ (by rfl) (by rfl) underlying53 u8_zero _ _ hB1 (by rw[hxs];omega) (fun w3 hB3 hm3=>?_));rw[HR.out]at hB3
  simp only[stz];have hM3:Mod NoB w w3:=hM2.transB hm3 (by omega);have hB23:=hm3.objB (by omega) hB2;clear hm3 hM2 hB1 hB2;go_upto_region 4 with(fail)
  refine wpR [1,1,3] ?_;simp only[stz];refine wpXA 24 b1 0 (qA (cutI n x)) (CellsAt.whole hB3) underlying24 32 hrs trivial ?_;try simp only[nmz]
  refine wpD (qF 24 _ _ b2 0 (qA (cutI n x)) (by rfl) (by rfl) (by rfl) (qP _) 32 (by kernel_rfl) hrs _ _ hB23 (by rw[hrs,qB];simp) (fun w4 hB4 hm4=>?_))
  rw[qD (by rw[hrs,qB];rfl)]at hB4;simp only[stz];have hM4:Mod NoB w w4:=hM3.transB hm4 (by omega);clear hm4 hM3;go_wp2
  refine bodyPost_ret (xM (P:=prog) (ty:=24) rfl _ _ b2 _ _ _ _ (by rfl) hB4 underlying24 rfl (by rw[hrs];kernel_rfl)) rfl ?_;exact⟨rfl,hM4⟩
 ·obtain rfl:n=32:=by omega
  have hcx:cutI 32 x=x:=by unfold cutI;rw[List.take_of_length_le (by omega)];simp
  have HCX:=hid hcx;go_upto_region 3 with(fail);refine wpR [3,0,1] ?_;simp only[stz]
  refine qG rfl (fun w' hS=>(exec_sliceFromA (P:=prog) 24 5 _ _ b1 32 32 (by rfl) (by rfl) (by rfl) underlying24 (by kernel_rfl) (by omega)).trans (by rw[if_pos rfl])) ?_
  simp only[nmz];refine qL rfl (fun K hK=>?_);unfold Oper.wp execOp
  simp[resolve,invoke,builtin,Builtin.clear_,run_underlying underlying53]
  refine hK _ _ trivial ?_;clear hK K;simp only[stz];go_upto_region 4 with(fail);refine wpR [1,1,3] ?_;simp only[stz]
  refine wpXA 24 b1 0 (qA x) (CellsAt.whole hB1) underlying24 32 hxs trivial ?_;try simp only[nmz]
  refine wpD (qF 24 _ _ b2 0 (qA x) (by rfl) (by rfl) (by rfl) (qP _) 32 (by kernel_rfl) hxs _ _ hB2 (by rw[hxs,qB];simp) (fun w4 hB4 hm4=>?_))
  rw[qD (by rw[hxs,qB];rfl)]at hB4;simp only[stz];have hM4:Mod NoB w w4:=hM2.transB hm4 (by omega);clear hm4 hM2;go_wp2
  refine bodyPost_ret (xM (P:=prog) (ty:=24) rfl _ _ b2 _ _ _ _ (by rfl) hB4 underlying24 rfl (by rw[hxs];kernel_rfl)) rfl ?_;exact⟨by rw[HCX.out];rfl,hM4⟩
def OfR(w:World)(n:Nat)(m:List UInt8):Ending->World->Prop:=fun e w'=>e=.returned (.tuple #[.agg (qA (ofI n m)),.int .i64 0])/\Mod NoB w w'
theorem shaOf_any{own:Bool}{G:Nat->Prop}{v:Value}{m:List UInt8}{w:World}(h:Sl own w G 1 ByteC v m)(hl:m.length<=1000000)(n:Nat)(h1:1<=n)(h2:n<=32):Calls prog 36 #[v,.int .i64 n] w (OfR w n m):=by
 have H:=hid h;obtain⟨ad,cap,rfl,-,-⟩:=Sl.at h;have hsl:(shaL m).length=32:=shaL_len _;have hrs:(qA (ofI n m)).size=32:=by rw[qB,ofI_len h2]
 have HC:=hid (show cutI n (shaL m)=ofI n m from rfl);clear h;go_enter func36,ntmps36;go_upto_region 0 with(fail);refine wpR [1,3] ?_;simp only[stz]
 refine wpD (qN 24 _ (by rfl) idZ (fun w1 hB1 hm1 hs1=>?_));replace hB1:w1.heap[w.heap.size]?=some (.cells (qA (List.replicate 32 0)) 24 (0,0)):=hB1
 simp only[stz];go_upto_region 1 with(fail);refine wpR [3,1,3,1,3,3,1,3] ?_;simp only[stz]
 refine wpD (wpCM func96 (shaSum_any (H.out.keep0 hm1) (by omega)) fun w2 hm2=>?_);simp only[stz];refine wpD (wpC func95 (shaCut_any (shaL m) hsl n h1 h2 _) ?_)
 rintro e w3 ⟨rfl,hm3⟩;rw[HC.out];have hB3:=(hm2.trans0 hm3).obj id hB1;refine⟨_,rfl,?_⟩;try simp only[nmz]
 refine qC (v:=?_) rfl (fun w'=>?_) ?_;rotate_left;·(go_simp;try with_reducible rfl)
 simp only[nmz];refine qC (v:=?_) rfl (fun w'=>?_) ?_;rotate_left;·(go_simp;try with_reducible rfl)
 simp only[nmz]
 refine wpD (qF 24 _ _ w.heap.size 0 (qA (ofI n m)) (by rfl) (by rfl) (by rfl) (qP _) 32 (by kernel_rfl) hrs _ _ hB3 (by rw[hrs,qB];simp) (fun w4 hB4 hm4=>?_))
 rw[qD (by rw[hrs,qB];rfl)]at hB4;simp only[stz];have hM4:Mod NoB w w4:=((hm1.trans0 hm2).trans0 hm3).transB hm4 (Nat.le_refl _);clear hm1 hm2 hm3 hm4
 go_wp2;refine bodyPost_ret (xM (P:=prog) (ty:=24) rfl _ _ w.heap.size _ _ _ _ (by rfl) hB4 underlying24 rfl (by rw[hrs];kernel_rfl)) rfl ?_;exact⟨rfl,hM4⟩
end
section
open Go.RowKit Go.Proofs.Tryz Go.Lib
theorem fill_all{n:Nat}:∀(vals:List Value)(k:Nat)(pre old:List Value),pre.length=k*n->old.length=vals.length*n->(∀v∈vals,v.cells.size=n)->
 Instr.fill (fun i=>some (i*n,n)) (pre++old).toArray ((List.range' k vals.length).zip vals)=some (pre++vals.flatMap fun v=>v.cells.toList).toArray
 | [],k,pre,old,hp,ho,_=>by
  obtain rfl:old=[]:=List.eq_nil_of_length_eq_zero (by simpa using ho)
  simp[xY]
 |v::vals,k,pre,old,hp,ho,hv=>by
  have hv1:=hv v (by simp);rw[List.length_cons,Nat.succ_mul]at ho
  rw[List.length_cons,List.range'_succ,List.zip_cons_cons,zC (off:=k*n) (size:=n) rfl hv1 (by simp;omega)]
  have e:qY (pre++old).toArray (k*n) v.cells=((pre++v.cells.toList)++old.drop n).toArray:=by
   unfold qY;have h1:(pre++old).take (k*n)=pre:=by rw[<-hp,List.take_left]
   have h2:(pre++old).drop (k*n+v.cells.size)=old.drop n:=by rw[hv1,<-hp,List.drop_append];simp
   simp only[h1,h2]
  rw[e,fill_all vals (k+1) (pre++v.cells.toList) (old.drop n) (by simp[hp,hv1,Nat.succ_mul]) (by simp;omega) (fun x hx=>hv x (by simp[hx]))]
  simp
theorem yW{P:Program}{o:Oper}{a:Act}{w:World}{K:Act->World->Prop}{Q:Exit->Act->World->Prop}(t e:TypeId)(len:Nat)(parts:List (Nat×Operand))(vals:List Value)(z:Value)(n:Nat)(ho:o.op=.buildSlice t len parts.toArray)
 (hx:(parts.map fun x=>(x.1,a.eval x.2))=(List.range' 0 len).zip vals)(hl:vals.length=len)(hu:P.underlying t=some (.slice e))
 (hi:(P.info? e).map (fun i=>(i.zero,i.size))=some (some z,n))(h0:0<len*n)(hn':len*n<=16777216)(hv:∀v∈vals,v.cells.size=n)
 (h:∀w',w'.heap[w.heap.size]?=some (.cells (vals.flatMap fun v=>v.cells.toList).toArray e (0,0))->Mod NoB w w'->w.heap.size<w'.heap.size->K (a.put o.dst (.slice (some ⟨w.heap.size,0,none⟩) len len)) w'):o.wp P a w K Q:=by
 unfold Oper.wp execOp;simp only[ho]
 cases hi':P.info? e with
 |none=>simp[hi']at hi
 |some i=>
  simp only[hi',Option.map_some,Option.some.injEq,Prod.mk.injEq]at hi;obtain⟨hz0,hz1⟩:=hi
  have hf:=fill_all vals 0 [] ((Array.range (len*n)).map (fun x=>z.cells[x%z.cells.size]!)).toList (by simp) (by simp[hl]) hv;rw[hl]at hf
  have hr:(Instr.buildSlice t len (Array.map (fun x=>(x.1,a.eval x.2)) parts.toArray)).run P w=.ok (.slice (some ⟨w.heap.size,0,none⟩) len len) (w.alloc (.cells (vals.flatMap fun v=>v.cells.toList).toArray e)):=by
   have hf':Instr.fill (fun i=>some (i*n,n)) ((Array.range (len*n)).map (fun x=>z.cells[x%z.cells.size]!)) (List.map (fun x=>(x.1,a.eval x.2)) parts)=some (vals.flatMap fun v=>v.cells.toList).toArray:=by
    rw[hx];simpa only[List.nil_append,Array.toArray_toList]using hf
   have h00:¬len*n=0:=by omega
   have h24:¬2^24<len*n:=by omega
   unfold Instr.buildSlice;simp only[Sem.run_bind,run_underlying hu,Result.andThen_ok,sizeOf,typeInfo,hi',hz1,Sem.run_pure,zeroValue,hz0]
   simp[h00,hf',newRow,Nat.not_lt.2 hn',hi',hz0,hz1]
  simp only[Sem.run_bind,hr,Result.andThen_ok,Sem.run_pure];exact h _ (heap_alloc_new _ _) (qW _ _) (by simp)
end
section
open Go.RowKit Go.Shelf Go.Proofs.Tryz Go.Lib
theorem jI{P:Program}{w:World}{o:Oper}{a:Act}(f:FuncId)(xs:List Operand)(ho:o.op=.makeFunc (.func f) #[] xs.toArray)(vals:List Value)(hx:xs.map a.eval=vals):(execOp a.eval o).run P w=.ok (.value (.func (.func f) #[] vals.toArray)) w:=by
 subst hx;unfold execOp
 simp[ho,Instr.makeFunc]
theorem jX{P:Program}{o:Oper}{a:Act}{w:World}(x:Operand)(ho:o.op=.move x)(v:Value)(hv:a.eval x=v):(execOp a.eval o).run P w=.ok (.value v) w:=by
 subst hv;unfold execOp;simp only[ho];rfl
theorem qJ{P:Program}{o:Oper}{a:Act}{w:World}(x:Operand)(i:Nat)(vs:Array Value)(ho:o.op=.extract x i)(hx:a.eval x=.tuple vs)(v:Value)(hv:vs[i]?=some v):(execOp a.eval o).run P w=.ok (.value v) w:=by
 unfold execOp
 simp[ho,hx,Instr.extract,hv]
theorem exec_neq_id{P:Program}{w:World}{o:Oper}{a:Act}(t:TypeId)(x y:Operand)(yt:TypeId)(ho:o.op=.binOp .neq t x y yt)(xs ys:List UInt8)
 (hx:a.eval x=.agg (qA xs))(hy:a.eval y=.agg (qA ys))(n:Nat)(e:TypeId)(ht:P.underlying t=some (.array n e))(he:P.underlying e=some (.int .u8))
 (hsz:(P.info? e).map (·.size)=some 1)(hg:P.eqGuardType P.depth t=false)(hxs:xs.length=n)(hys:ys.length=n)(b:Bool)(hb:decide (xs≠ys)=b):
 (execOp a.eval o).run P w=.ok (.value (.bool b)) w:=by
 subst hb
 have hs:∀w,(sizeOf e).run P w=.ok 1 w:=fun w=>by
  cases hq:P.info? e with
  |none=>simp[hq]at hsz
  |some i=>simp[hq]at hsz;simp[sizeOf,typeInfo,hq,hsz]
 have h1:=run_eqGuard_agg (P:=P) w .neq t x y (qA xs) (qA ys) hg
 have h2:(binOp .neq t (.agg (xs.map Extern.Stop.cell).toArray) (.agg (ys.map Extern.Stop.cell).toArray)).run P w=.ok (.bool (!(xs==ys))) w:=by
  rw[run_neq_struct,run_equalIn_bytes w 9998 t e n ht he hs xs ys hxs hys];rfl
 unfold execOp;simp only[ho,hx,hy,Sem.run_bind,h1,Result.andThen_ok]
 rw[show qA xs=(xs.map Extern.Stop.cell).toArray from rfl,show qA ys=(ys.map Extern.Stop.cell).toArray from rfl,h2];simp only[Result.andThen_ok,Sem.run_pure]
 have h3:(!(xs==ys))=decide (xs≠ys):=by rw[Bool.eq_iff_iff];simp
 rw[h3]
theorem yL{P:Program}{o:Oper}{a:Act}{w:World}{K:Act->World->Prop}{Q:Exit->Act->World->Prop}(elem:TypeId)(z:Value)(ho:o.op=.alloc elem)(hz:(P.info? elem).bind (·.zero)=some z)
 (h:∀b w',b=w.heap.size->w'.heap[b]?=some (.cells z.cells elem (0,0))->Mod NoB w w'->b<w'.heap.size->K (a.put o.dst (.pointer (some ⟨b,0,none⟩))) w'):o.wp P a w K Q:=
 qN elem z ho hz (fun w' h1 h2 h3=>h _ w' rfl h1 h2 h3)
def NewRow(n:Nat)(cs:Array Value)(T:TypeId)(v:Value)(w:World):Prop:=∃b,v=.pointer (some ⟨b,0,none⟩)/\n<=b/\w.heap[b]?=some (.cells cs T (0,0))
theorem newRow_keep(n:Nat)(cs:Array Value)(T:TypeId):∀(v:Value)(w w':World),NewRow n cs T v w->Mod NoB w w'->NewRow n cs T v w':=fun _ _ _ ⟨b,h1,h2,h3⟩ hm=>⟨b,h1,h2,hm.obj id h3⟩
theorem bytesEqual_any{o o':Bool}{G G':Nat->Prop}{va vb:Value}{la lb:List UInt8}{w:World}(ha:Sl o w G 1 ByteC va la)(hb:Sl o' w G' 1 ByteC vb lb):
 Calls prog 101 #[va,vb] w (RetE (.bool (decide (la=lb))) w):=by
 go_enter func101,ntmps101;go_upto_region 1 with(fail);refine wpR [3,1,3,1,0,3] ?_;simp only[stz]
 refine wpX rfl (xU 53 5 9 _ (by rfl) va (by rfl) ha underlying53 underlying5 underlying9) trivial ?_;simp only[stz]
 refine wpX rfl (xU 53 5 9 _ (by rfl) vb (by rfl) hb underlying53 underlying5 underlying9) trivial ?_;try simp only[nmz]
 refine qG rfl (fun w' hS=>zY _ _ _ _ rfl _ _ rfl rfl (decide (la=lb)) (by rw[decide_eq_decide];exact bytes_inj)) ?_;simp only[stz];go_wp2;go_ret
 exact⟨rfl,rfl⟩
theorem bWhen_any(b:Bool)(n:Int)(w:World):Calls prog 98 #[.bool b,.int .i64 n] w (RetE (.int .i64 (if b then n else 0)) w):=by
 cases b
 all_goals
  go_enter func98,ntmps98;go_wp2;go_ret;exact⟨rfl,rfl⟩
section
variable{w:World}{bs ms wd:Nat}{room:Int}{bl:List Blb}
structure PutEnv(w:World)(b3 b4 b5 b8 b9 bs:Nat)(di m:List UInt8)(v pv:Value)(is:Bool):Prop where
 c3:w.cell? ⟨b3,0,none⟩=some (.pointer (some ⟨bs,0,none⟩))
 c4:CellsAt w b4 0 (qA di)
 c5:w.cell? ⟨b5,0,none⟩=some v
 c8:w.cell? ⟨b8,0,none⟩=some pv
 c9:w.cell? ⟨b9,0,none⟩=some (.bool is)
 sl:Sl false w (fun _=>True) 1 ByteC v m
theorem PutEnv.keep0{w w':World}{b3 b4 b5 b8 b9 bs:Nat}{di m:List UInt8}{v pv:Value}{is:Bool}(h:PutEnv w b3 b4 b5 b8 b9 bs di m v pv is)(hm:Mod NoB w w'):PutEnv w' b3 b4 b5 b8 b9 bs di m v pv is:=
 ⟨hm.cell id h.c3,h.c4.keep hm id,hm.cell id h.c5,hm.cell id h.c8,hm.cell id h.c9,Sl.keep0 h.sl hm⟩
variable{b3 b4 b5 b8 b9:Nat}{di m:List UInt8}{v pv:Value}{is:Bool}
theorem bPut1_any(h:PutEnv w b3 b4 b5 b8 b9 bs di m v pv is)(hm:m.length<=4096):Calls prog 97 #[.pointer (some ⟨b5,0,none⟩)] w (RetM (.int .i64 0) w):=by
 obtain⟨ad,cap,rfl,-,-⟩:=Sl.at h.sl;have hc:=h.c5;have hz:¬(m.length:Int)>4096:=by omega
 clear h;go_enter func97,ntmps97;go_upto_region 1 with(fail);refine wpR [1,3,3,1,3] ?_;simp only[stz]
 refine wpXd (v:=(.slice ad m.length cap)) 53 b5 0 hc underlying53 trivial ?_;try simp only[nmz]
 refine wpPL ?_;simp only[nmz];refine qK _ _ _ _ _ _ _ _ rfl rfl rfl rfl rfl false (decide_eq_false hz) ?_;simp only[nmz];refine wpD (wpC func98 (bWhen_any false 4 _) ?_)
 rintro e w1 ⟨rfl,hw⟩;obtain rfl:=hw.symm;simp only[Bool.false_eq_true,if_false];refine⟨_,rfl,?_⟩;simp only[stz];go_wp2;go_ret;exact⟨rfl,Mod.refl _ _⟩
theorem bPut2_any(h:PutEnv w b3 b4 b5 b8 b9 bs (ofI wd m) m v pv is)(hst:StInv w bs ms wd room bl)(hm:m.length<=4096):Calls prog 99 #[.pointer (some ⟨b5,0,none⟩),.pointer (some ⟨b3,0,none⟩),.pointer (some ⟨b4,0,none⟩)] w (RetM (.int .i64 0) w):=by
 obtain⟨ad,cap,rfl,-,-⟩:=Sl.at h.sl;have hw1:=hst.wok;have hdl:(ofI wd m).length=32:=ofI_len hw1.2
 have hrs:(qA (ofI wd m)).size=32:=by rw[qB,hdl]
 have hwc:=hst.cell.1;have hc5:=h.c5;have hc3:=h.c3;have hc4:=h.c4;have hsl:=hid h.sl;clear h hst;go_enter func99,ntmps99;go_upto_region 1 with(fail)
 go_cut [4] (fun v wx=>∃b,v=.pointer (some ⟨b,0,none⟩)/\wx.heap[b]?=some (.cells (qA (ofI wd m)) 24 (0,0))/\w.heap.size<=b/\Mod NoB w wx)
 case first=>
  have hS:Mod NoB w w.drew:=(Mod.refl _ _).drew;have hT:Mod NoB w w.drew:=(Mod.refl _ _).drew
  refine yV [(0,0),(1,0),(2,3),(3,3),(4,0)] 6 [(11,3)] [] (fun w'=>Mod NoB w w') #[true,true,true,true,true,false,false,false,false,false,false,false] (by kernel_rfl) (by kernel_rfl) (by kernel_rfl) (by kernel_rfl) (by kernel_rfl) (fun _ _ _ _ hd h=>⟨hd.trans h.1,h.2⟩) hS ?_
  simp only[stz];refine wpLd 53 b5 0 (fun w' hS=>hS.cell id hc5) underlying53 ?_;simp only[nmz];refine wpLd 29 b3 0 (fun w' hS=>hS.cell id hc3) underlying29 ?_;simp only[stz]
  refine wpLd 3 bs 0 (fun w' hS=>hS.cell id hwc) underlying3 ?_;simp only[stz];refine qU [5,9] (by kernel_rfl) ?_;simp only[zz3,false_implies,implies_true]
  refine⟨?_,?_⟩
  ·intro K hK
   simp only[zz5];refine wpC func36 (shaOf_any (hsl.out.keep0 hT) (by omega) wd hw1.1 hw1.2) ?_;rintro e w2 ⟨rfl,hm2⟩
   try replace hB4:=hm2.obj id hB4
   replace hT:=hT.trans0 hm2;clear hm2;refine⟨_,rfl,hK _ _ hT ?_⟩;clear hK K;try simp only[nmz]
   refine zB 6 (.tuple #[.agg (qA (ofI wd m)),.int .i64 0]) (by kernel_rfl) (fun _ _ _ _ hd h=>⟨hd.trans h.1,h.2⟩) (fun w'=>by simp only[zz5];exact jX _ rfl (.tuple #[.agg (qA (ofI wd m)),.int .i64 0]) rfl) hT ?_
   simp only[zz5];try simp only[nmz]
   refine zB 7 (.agg (qA (ofI wd m))) (by kernel_rfl) (fun _ _ _ _ hd h=>⟨hd.trans h.1,h.2⟩) (fun w'=>by simp only[zz5];exact qJ _ 0 #[.agg (qA (ofI wd m)),.int .i64 0] rfl rfl (.agg (qA (ofI wd m))) rfl) hT ?_
   simp only[zz5];try simp only[nmz]
   refine zB 8 (.int .i64 0) (by kernel_rfl) (fun _ _ _ _ hd h=>⟨hd.trans h.1,h.2⟩) (fun w'=>by simp only[zz5];exact qJ _ 1 #[.agg (qA (ofI wd m)),.int .i64 0] rfl rfl (.int .i64 0) rfl) hT ?_
   simp only[zz5];try simp only[nmz]
   refine qU [9] (by kernel_rfl) ?_;simp only[zz3,false_implies,implies_true];intro K hK;simp only[zz5]
   refine yL 24 _ (by rfl) idZ (fun b w4 hbe hB4 hm4 hs4=>?_);replace hB4:w4.heap[b]?=some (.cells (qA (List.replicate 32 0)) 24 (0,0)):=hB4
   have hbn:w.heap.size<=b:=by rw[hbe];exact hT.size
   replace hT:=hT.trans0 hm4;clear hm4 hbe hs4;refine hK _ _ hT ?_;clear hK K;try simp only[nmz]
   refine qU [10] (by kernel_rfl) ?_;simp only[zz3,false_implies,implies_true];intro K hK;simp only[zz5]
   refine qF 24 _ _ b 0 (qA (ofI wd m)) (by rfl) (by rfl) (by rfl) (qP _) 32 (by kernel_rfl) hrs _ _ hB4 (by rw[hrs,qB];simp) (fun w3 hB3 hm3=>?_)
   rw[qD (by rw[hrs,qB];rfl)]at hB3;replace hT:Mod NoB w w3:=hT.transB hm3 hbn;clear hB4 hm3;have hB4:=hB3;clear hB3;refine hK _ _ hT ?_;clear hK K
   try simp only[nmz]
   refine xK ?_;try simp only[zz4]
   simp only[stz];go_wp2
   go_meet
   case rel=>exact⟨b,rfl,hB4,hbn,hT⟩
  ·intro K hK
   simp only[zz5];refine yL 24 _ (by rfl) idZ (fun b w4 hbe hB4 hm4 hs4=>?_);replace hB4:w4.heap[b]?=some (.cells (qA (List.replicate 32 0)) 24 (0,0)):=hB4
   have hbn:w.heap.size<=b:=by rw[hbe];exact hT.size
   replace hT:=hT.trans0 hm4;clear hm4 hbe hs4;refine hK _ _ hT ?_;clear hK K;try simp only[nmz]
   refine qU [5] (by kernel_rfl) ?_;simp only[zz3,false_implies,implies_true];intro K hK;simp only[zz5]
   refine wpC func36 (shaOf_any (hsl.out.keep0 hT) (by omega) wd hw1.1 hw1.2) ?_;rintro e w2 ⟨rfl,hm2⟩
   try replace hB4:=hm2.obj id hB4
   replace hT:=hT.trans0 hm2;clear hm2;refine⟨_,rfl,hK _ _ hT ?_⟩;clear hK K;try simp only[nmz]
   refine zB 6 (.tuple #[.agg (qA (ofI wd m)),.int .i64 0]) (by kernel_rfl) (fun _ _ _ _ hd h=>⟨hd.trans h.1,h.2⟩) (fun w'=>by simp only[zz5];exact jX _ rfl (.tuple #[.agg (qA (ofI wd m)),.int .i64 0]) rfl) hT ?_
   simp only[zz5];try simp only[nmz]
   refine zB 7 (.agg (qA (ofI wd m))) (by kernel_rfl) (fun _ _ _ _ hd h=>⟨hd.trans h.1,h.2⟩) (fun w'=>by simp only[zz5];exact qJ _ 0 #[.agg (qA (ofI wd m)),.int .i64 0] rfl rfl (.agg (qA (ofI wd m))) rfl) hT ?_
   simp only[zz5];try simp only[nmz]
   refine zB 8 (.int .i64 0) (by kernel_rfl) (fun _ _ _ _ hd h=>⟨hd.trans h.1,h.2⟩) (fun w'=>by simp only[zz5];exact qJ _ 1 #[.agg (qA (ofI wd m)),.int .i64 0] rfl rfl (.int .i64 0) rfl) hT ?_
   simp only[zz5];try simp only[nmz]
   refine qU [10] (by kernel_rfl) ?_;simp only[zz3,false_implies,implies_true];intro K hK;simp only[zz5]
   refine qF 24 _ _ b 0 (qA (ofI wd m)) (by rfl) (by rfl) (by rfl) (qP _) 32 (by kernel_rfl) hrs _ _ hB4 (by rw[hrs,qB];simp) (fun w3 hB3 hm3=>?_)
   rw[qD (by rw[hrs,qB];rfl)]at hB3;replace hT:Mod NoB w w3:=hT.transB hm3 hbn;clear hB4 hm3;have hB4:=hB3;clear hB3;refine hK _ _ hT ?_;clear hK K
   try simp only[nmz]
   refine xK ?_;try simp only[zz4]
   simp only[stz];go_wp2
   go_meet
   case rel=>exact⟨b,rfl,hB4,hbn,hT⟩
 case rest=>
  rename World=>wx
  obtain⟨b,rfl,hB4,hbn,hT⟩:=hcut;have hc4':=hc4.keep hT id;go_upto_region 2 with(fail);refine wpR [1,1,0,1,3] ?_;simp only[stz]
  refine wpXA 24 b 0 (qA (ofI wd m)) (CellsAt.whole hB4) underlying24 32 hrs trivial ?_;try simp only[nmz]
  refine wpXA 24 b4 0 (qA (ofI wd m)) hc4' underlying24 32 hrs trivial ?_;try simp only[nmz]
  refine qG rfl (fun w' hS=>exec_neq_id _ _ _ _ rfl (ofI wd m) (ofI wd m) rfl rfl 32 5 underlying24 underlying5 (by kernel_rfl) (by kernel_rfl) hdl hdl false (decide_eq_false (fun h=>h rfl))) ?_
  simp only[nmz];refine wpD (wpC func98 (bWhen_any false 8 _) ?_);rintro e w5 ⟨rfl,hw⟩;obtain rfl:=hw.symm;simp only[Bool.false_eq_true,if_false];refine⟨_,rfl,?_⟩
  simp only[stz];go_wp2;go_ret;exact⟨rfl,hT⟩
theorem bPut3_no(h:PutEnv w b3 b4 b5 b8 b9 bs di m v pv false):Calls prog 100 #[.pointer (some ⟨b9,0,none⟩),.pointer (some ⟨b8,0,none⟩),.pointer (some ⟨b5,0,none⟩)] w (RetM (.int .i64 0) w):=by
 have hc9:=h.c9;clear h;go_enter func100,ntmps100;go_upto_region 1 with(fail);have hS:Mod NoB w w.drew:=(Mod.refl _ _).drew
 refine wpRZ [0,3,0,3,3,0,0,1,3,3,1,3] [] (fun w'=>Mod NoB w w') hS ?_;simp only[stz];refine wpLd 4 b9 0 (fun w' hS=>hS.cell id hc9) underlying4 ?_;simp only[stz]
 refine zO rfl hS ?_;simp only[stz];refine qL rfl (fun K hK=>?_);refine wpC func98 (bWhen_any false 9 _) ?_;rintro e w5 ⟨rfl,hw⟩;subst hw
 simp only[Bool.false_eq_true,if_false];refine⟨_,rfl,hK _ _ hS ?_⟩;clear hK K;simp only[stz];go_wp2;go_ret;exact⟨rfl,hS⟩
theorem bPut3_old{bk:Nat}{bv:Value}{mo:List UInt8}(h:PutEnv w b3 b4 b5 b8 b9 bs di m v (useV bk) true)(hkc:w.cell? ⟨bk,0,none⟩=some bv)(hbt:Sl false w (fun _=>True) 1 ByteC bv mo):
 Calls prog 100 #[.pointer (some ⟨b9,0,none⟩),.pointer (some ⟨b8,0,none⟩),.pointer (some ⟨b5,0,none⟩)] w (RetM (.int .i64 (if mo=m then 0 else 9)) w):=by
 have hc9:=h.c9;have hc8:w.cell? ⟨b8,0,none⟩=some (.pointer (some ⟨bk,0,none⟩)):=h.c8;have hc5:=h.c5;have hsl:=hid h.sl;have HBT:=hid hbt
 obtain⟨r,hr⟩:∃q,(if mo=m then(0:Int)else 9)=q:=⟨_,rfl⟩;rw[hr]
 have HEQ:=hid (show(if(!decide (mo=m))=true then(9:Int)else 0)=r by rw[<-hr];by_cases hq:mo=m<;>simp[hq]);clear h hbt hr;go_enter func100,ntmps100
 go_upto_region 1 with(fail);have hS:Mod NoB w w.drew:=(Mod.refl _ _).drew;refine wpRZ [0,3,0,3,3,0,0,1,3,3,1,3] [] (fun w'=>Mod NoB w w') hS ?_;simp only[stz]
 refine wpLd 4 b9 0 (fun w' hS=>hS.cell id hc9) underlying4 ?_;simp only[stz];refine wpLd 166 b8 0 (fun w' hS=>hS.cell id hc8) underlying166 ?_;simp only[stz]
 refine wpLd 53 bk 0 (fun w' hS=>hS.cell id hkc) underlying53 ?_;simp only[nmz];refine wpLd 53 b5 0 (fun w' hS=>hS.cell id hc5) underlying53 ?_;simp only[nmz]
 refine qL rfl (fun K hK=>?_);refine wpC func101 (bytesEqual_any (HBT.out.keep0 hS) (hsl.out.keep0 hS)) ?_;rintro e w5 ⟨rfl,hw⟩;subst hw
 generalize decide (mo=m)=eqb at*;refine⟨_,rfl,hK _ _ hS ?_⟩;clear hK K;try simp only[nmz]
 refine zM _ _ eqb rfl rfl rfl ?_;simp only[stz];refine qL rfl (fun K hK=>?_);refine wpC func98 (bWhen_any (!eqb) 9 _) ?_;rintro e w6 ⟨rfl,hw6⟩;subst hw6;rw[HEQ.out]
 refine⟨_,rfl,hK _ _ hS ?_⟩;clear hK K;simp only[stz];go_wp2;go_ret;exact⟨rfl,hS⟩
theorem bPut4_old(h:PutEnv w b3 b4 b5 b8 b9 bs di m v pv true):Calls prog 102 #[.pointer (some ⟨b9,0,none⟩),.pointer (some ⟨b3,0,none⟩),.pointer (some ⟨b5,0,none⟩)] w (RetM (.int .i64 0) w):=by
 have hc9:=h.c9;clear h;go_enter func102,ntmps102;go_upto_region 1 with(fail);have hS:Mod NoB w w.drew:=(Mod.refl _ _).drew
 refine wpRZ [0,3,3,0,3,3,0,0,3,3,0,3,3,0,3,3,1,3] [] (fun w'=>Mod NoB w w') hS ?_;simp only[stz];refine wpLd 4 b9 0 (fun w' hS=>hS.cell id hc9) underlying4 ?_
 try simp only[stz]
 try refine zM _ _ _ rfl rfl rfl ?_
 try simp only[stz]
 refine qL rfl (fun K hK=>?_);refine wpC func98 (bWhen_any false 10 _) ?_;rintro e w5 ⟨rfl,hw⟩;subst hw;simp only[Bool.false_eq_true,if_false]
 refine⟨_,rfl,hK _ _ hS ?_⟩;clear hK K;simp only[stz];go_wp2;go_ret;exact⟨rfl,hS⟩
theorem bPut4_no(h:PutEnv w b3 b4 b5 b8 b9 bs di m v pv false)(hst:StInv w bs ms wd room bl)(hm:m.length<=4096)(hroom:(usedL (cont bl):Int)+(m.length:Int)<=room):Calls prog 102 #[.pointer (some ⟨b9,0,none⟩),.pointer (some ⟨b3,0,none⟩),.pointer (some ⟨b5,0,none⟩)] w (RetM (.int .i64 0) w):=by
 obtain⟨ad,cap,rfl,-,-⟩:=Sl.at h.sl;have hc9:=h.c9;have hc3:=h.c3;have hc5:=h.c5;have hcu:=hst.cell.2.2.1;have hcr:=hst.cell.2.1;have hus:=hst.used
 obtain⟨u,hu⟩:∃q,((usedL (cont bl):Nat):Int)=q:=⟨_,rfl⟩;rw[hu]at hcu hroom;have hub:0<=u/\u<=40960000:=by omega
 have hz:¬(u+(m.length:Int)>room):=by omega
 clear h hst hu hus;go_enter func102,ntmps102;go_upto_region 1 with(fail);have hS:Mod NoB w w.drew:=(Mod.refl _ _).drew
 refine wpRZ [0,3,3,0,3,3,0,0,3,3,0,3,3,0,3,3,1,3] [] (fun w'=>Mod NoB w w') hS ?_;simp only[stz];refine wpLd 4 b9 0 (fun w' hS=>hS.cell id hc9) underlying4 ?_
 try simp only[stz]
 try refine zM _ _ _ rfl rfl rfl ?_
 try simp only[stz]
 refine wpLd 29 b3 0 (fun w' hS=>hS.cell id hc3) underlying29 ?_;simp only[stz];refine wpLd 3 bs 2 (fun w' hS=>hS.cell id hcu) underlying3 ?_;simp only[nmz]
 refine wpLd 53 b5 0 (fun w' hS=>hS.cell id hc5) underlying53 ?_;simp only[nmz];refine wpPL ?_;simp only[nmz]
 refine zF _ _ _ _ u ((m.length:Nat):Int) (u+(m.length:Int)) rfl rfl rfl rfl rfl (by omega) (by omega) ?_;simp only[nmz]
 refine wpLd 29 b3 0 (fun w' hS=>hS.cell id hc3) underlying29 ?_;simp only[stz];refine wpLd 3 bs 1 (fun w' hS=>hS.cell id hcr) underlying3 ?_;simp only[nmz]
 refine qK _ _ _ _ _ _ _ _ rfl rfl rfl rfl rfl false (decide_eq_false hz) ?_;simp only[stz];refine qL rfl (fun K hK=>?_);refine wpC func98 (bWhen_any false 10 _) ?_
 rintro e w5 ⟨rfl,hw⟩;subst hw;simp only[Bool.false_eq_true,if_false];refine⟨_,rfl,hK _ _ hS ?_⟩;clear hK K;simp only[stz];go_wp2;go_ret;exact⟨rfl,hS⟩
def putB(di m:List UInt8)(c:BlobL):BlobL:=if(getL di c).isSome then c else c++[(di,m)]
theorem usedL_app(c:BlobL)(di m:List UInt8):usedL (c++[(di,m)])=usedL c+m.length:=by
 induction c with
 |nil=>simp[usedL]
 |cons p c ih=>simp only[List.cons_append,usedL,ih];omega
theorem cell_one{w:World}{b:Nat}{v:Value}{T:TypeId}{fz:Nat×Nat}(h:w.heap[b]?=some (.cells #[v] T fz)):w.cell? ⟨b,0,none⟩=some v:=by simp[World.cell?,h]
theorem why_i:(prog.info? 175).map (fun i=>(i.zero,i.size))=some (some .nilFunc,1):=by kernel_rfl
theorem pKeptZ:(prog.info? 166).bind (·.zero)=some (.pointer none):=by kernel_rfl
theorem boolZ:(prog.info? 4).bind (·.zero)=some (.bool false):=by kernel_rfl
theorem built_kept(v:Value)(h:v.cells=#[v]):prog.built 170 [(0,v)]=some #[v]:=by
 have z:(prog.info? 170).bind (·.zero)=some (.agg #[.slice none 0 0]):=by kernel_rfl
 have p:xV prog 170=some [(0,1)]:=by kernel_rfl
 rw[zP z p,zC (off:=0) (size:=1) rfl (by rw[h];rfl) (by simp),xY,h]
 rfl
def PutRel(w0:World)(i:Value)(w:World):Prop:=∃k:Nat,k<=4/\i=.int .i64 k/\Mod NoB w0 w
end
section
variable{w:World}{bs ms wd:Nat}{room:Int}{bl:List Blb}
def PutR(w:World)(bs ms wd:Nat)(room:Int)(bl:List Blb)(m:List UInt8):Ending->World->Prop:=fun e w'=>(∃(ok:Bool)(er:Int),e=.returned (.tuple #[.bool ok,.int .i64 er]))/\StTo w bs ms wd room bl w' (putB (ofI wd m) m (cont bl))
theorem StInv.more(h:StInv w bs ms wd room bl){w1 w2 w3 w4:World}{di m:List UInt8}{vk:Value}{bk:Nat}(hfew:bl.length<10000)(hsz:m.length<=4096)(hf:getL di (cont bl)=none)(h1:Mod NoB w w1)(hb:Bts w.heap.size w1 vk m)(hkn:w.heap.size<=bk)(hkb:w2.heap[bk]?=some (.cells #[vk] 170 (0,0)))(h2:Mod NoB w1 w2)
 (hm:MapIs idV IdOk w3 ms (putL di (useV bk) (bl.map fun b=>(b.id,useV b.blk))))(h3:Mod (fun j=>j=ms) w2 w3)
 (hbox:w4.heap[bs]?=some (.cells #[.int .i64 wd,.int .i64 room,.int .i64 ((usedL (cont bl):Nat)+(m.length:Nat):Int),.map (some ms)] 95 (0,0)))(h4:Mod (fun j=>j=bs) w3 w4):
 StTo w bs ms wd room bl w4 (putB di m (cont bl)):=by
 have hn:=h.nes;have h24:Mod (fun k=>k=bs\/k=ms) w2 w4:=(h3.mono (fun _ _ h=>.inr h)).trans h4 (fun _ _ h=>.inl h);have h02:=h1.trans0 h2
 have hM:Mod (fun k=>k=bs\/k=ms) w w4:=(h02.mono (fun _ _ h=>h.elim)).trans h24 (fun _ _ h=>h);have hlb:=h.lt bs (.inl rfl);have hlm:=h.lt ms (.inr (.inl rfl))
 have hs1:=h1.size;have hs2:=h2.size;have hs3:=h3.size;have hs4:=h4.size;have hbkl:bk<w2.heap.size:=(Array.getElem?_eq_some_iff.1 hkb).1
 have hfm:getL di (bl.map fun b=>(b.id,useV b.blk))=none:=by
  rw[getL_none]at hf |-
  simpa[cont,List.map_map,Function.comp_def]using hf
 have hpu:putB di m (cont bl)=cont (bl++[⟨di,bk,vk,m⟩]):=by
  unfold putB;rw[hf]
  simp[cont]
 have hvk:∀k,vk.ownBlock=some k->w.heap.size<=k/\k<w1.heap.size:=fun k hk=>World.ownsRow.lt hb k hk;rw[hpu]
 refine⟨bl++[⟨di,bk,vk,m⟩],⟨?_,?_,?_,?_,?_,?_,h.wok⟩,rfl,hM,?_⟩
 ·rw[<-hpu]
  have e:usedL (putB di m (cont bl))=usedL (cont bl)+m.length:=by unfold putB;rw[hf];exact usedL_app _ _ _
  rw[e,Int.natCast_add];exact hbox
 ·rw[putL_none hfm]at hm
  have:=hm.keep h4 (fun e=>hn.1 e.symm)
  simpa using this
 ·intro b hb'
  rcases List.mem_append.1 hb' with hb'|hb'
  ·have:=hn.2 b hb'
   exact hM.obj (fun e=>e.elim this.1 this.2.1) (h.kb b hb')
  ·rw[List.mem_singleton]at hb';subst hb'
   exact h24.obj (fun e=>by
    have e':bk=bs\/bk=ms:=e
    omega) hkb
 ·intro b hb'
  rcases List.mem_append.1 hb' with hb'|hb'
  ·have:=hn.2 b hb'
   exact zE (h.bt b hb') hM (fun k hk e=>e.elim (this.2.2 k hk).1 (this.2.2 k hk).2)
  ·rw[List.mem_singleton]at hb';subst hb'
   have hb0:Bts 0 w1 vk m:=jF hb (Nat.zero_le _);have hb1:Bts 0 w2 vk m:=zE hb0 h2 (fun _ _=>id)
   exact zE hb1 h24 (fun k hk e=>by
    have:=(hvk k hk).1;have e':k=bs\/k=ms:=e
    omega)
 ·intro b hb'
  rcases List.mem_append.1 hb' with hb'|hb'
  ·exact h.sz b hb'
  ·rw[List.mem_singleton]at hb';subst hb';exact hsz
 ·simp;omega
 ·intro k hk
  rcases hk with rfl|rfl|⟨b,hb',hk⟩
  ·exact .inl (.inl rfl)
  ·exact .inl (.inr (.inl rfl))
  ·rcases List.mem_append.1 hb' with hb'|hb'
   ·exact .inl (.inr (.inr ⟨b,hb',hk⟩))
   ·rw[List.mem_singleton]at hb';subst hb'
    right
    rcases hk with rfl|hk
    ·exact⟨hkn,by show k<_;omega⟩
    ·have:=hvk k hk
     exact⟨this.1,by omega⟩
theorem bPut_any(h:StInv w bs ms wd room bl){own:Bool}{G:Nat->Prop}{v:Value}{m:List UInt8}(hv:Sl own w G 1 ByteC v m)(hm:m.length<=4096)(hroom:(usedL (cont bl):Int)+(m.length:Int)<=room)(hfew:bl.length<10000):
 Calls prog 37 #[.pointer (some ⟨bs,0,none⟩),.agg (qA (ofI wd m)),v] w (PutR w bs ms wd room bl m):=by
 have hsl0:Sl false w (fun _=>True) 1 ByteC v m:=hv.weak.mono (fun _ _=>trivial) (fun _ _ h=>h)
 have hv1:v.oneCell'=true:=by obtain⟨ad,cap,rfl,-,-⟩:=Sl.at hv;rfl
 have hvc:v.cells=#[v]:=by obtain⟨ad,cap,rfl,-,-⟩:=Sl.at hv;rfl
 have hwd:=h.wok;have hdl:(ofI wd m).length=32:=ofI_len hwd.2;have hus:=h.used;have H:=hid h;have hdi:Hid (ofI wd m=ofI wd m):=hid rfl
 obtain⟨fb,hfb⟩:∃q,findB (ofI wd m) bl=q:=⟨_,rfl⟩;obtain⟨pv,hpv⟩:∃q,blkV fb=q:=⟨_,rfl⟩;obtain⟨is,his⟩:∃q,fb.isSome=q:=⟨_,rfl⟩
 have hl:=fun(w':World)(hm:Mod NoB w w')(o:Oper)(a:Act)(mm x:Operand)=> @StInv.look w' bs ms wd room bl (h.keep0 hm) o a mm x (ofI wd m) hdl
 simp only[hfb,hpv,his]at hl;have HL:=hid hl;have HFB:=hid hfb;have HPV:=hid hpv;have HIS:=hid his;have hp1:pv.oneCell'=true:=by rw[<-hpv];cases fb<;>rfl
 have HGB:=hid (getB (ofI wd m) bl);have hrs:(qA (ofI wd m)).size=32:=by rw[qB,hdl]
 have HSL:=hid hsl0;obtain⟨di,hdie⟩:∃q,ofI wd m=q:=⟨_,rfl⟩;have HDI:=hid hdie;rw[hdie]at hrs hdl |-;clear h hv hsl0 hfb hpv his hl hdi hdie;go_enter func37,ntmps37
 go_upto_region 0 with(fail);refine wpR [1,1,1,3,3] ?_;simp only[stz];refine wpD (zL 29 _ _ (by rfl) (by rfl) (fun w1 hB1 hm1 hs1=>?_))
 replace hB1:w1.heap[w.heap.size]?=some (.cells #[.pointer (some ⟨bs,0,none⟩)] 29 (0,0)):=hB1;try simp only[nmz]
 refine wpD (zL 24 _ _ (by rfl) (by rfl) (fun w2 hB2 hm2 hs2=>?_));replace hB2:w2.heap[w1.heap.size]?=some (.cells (qA di) 24 (0,0)):=hB2;try simp only[nmz]
 refine wpD (zL 53 _ _ (by rfl) (by rfl) (fun w3 hB3 hm3 hs3=>?_));replace hB3:w3.heap[w2.heap.size]?=some (.cells #[v] 53 (0,0)):=by rw[<-hvc];exact hB3
 simp only[stz];have hM3:=(hm1.trans0 hm2).trans0 hm3;have hb3:=(hm2.trans0 hm3).obj id hB1;have hb4:=hm3.obj id hB2;have hs03:=hM3.size
 have hn3:w.heap.size<=w.heap.size:=Nat.le_refl _;generalize hb3e:w.heap.size=b3 at*;generalize hb4e:w1.heap.size=b4 at*;generalize hb5e:w2.heap.size=b5 at*
 clear hm1 hm2 hm3 hB1 hB2;have hc3:=cell_one hb3;have hc4:=CellsAt.whole hb4;have hc5:=cell_one hB3;go_upto_region 1 with(fail);refine wpR [1,1] ?_;simp only[stz]
 refine wpXd (v:=(.pointer (some ⟨bs,0,none⟩))) 29 b3 0 hc3 underlying29 trivial ?_;try simp only[nmz]
 refine wpDo rfl ?_;go_wp2_with (go_at_call 92;refine(H.out.keep0 hM3).made.mono ?_;rintro _ wx ⟨rfl,hw⟩;obtain rfl:=hw.symm);simp only[stz]
 have hms3:=(H.out.keep0 hM3).cell.2.2.2;go_upto_region 3 with(fail);have hS:Mod NoB w3 w3.drew:=(Mod.refl _ _).drew
 refine wp_region_plan [.inl [(0,0),(1,3),(2,3),(3,0),(4,0),(5,0),(6,3),(7,3),(8,3)],.inr (.inr (2,#[true,true,true,true,true,true,true,true,true,false,false,false,false])),.inr (.inl 11),.inr (.inl 12)] (fun w'=>Mod NoB w3 w') (by kernel_rfl) (by kernel_rfl) (by kernel_rfl) (fun _ _ _ _ hd h=>⟨hd.trans h.1,h.2⟩) hS ?_
 refine wpPlan_seg ?_;simp only[List.map_cons,List.map_nil,Array.getD_eq_getD_getElem?,List.getElem?_toArray,List.getElem?_cons_succ,List.getElem?_cons_zero,Option.getD_some]
 refine wpLd 29 b3 0 (fun w' hS=>hS.cell id hc3) underlying29 ?_;simp only[stz];refine wpLd 93 bs 3 (fun w' hS=>hS.cell id hms3) underlying93 ?_;simp only[nmz]
 refine wpLA 24 b4 0 (qA di) (fun w' hS=>hc4.keep hS id) underlying24 32 hrs ?_;simp only[nmz]
 refine qG rfl (fun w' hS=>HL.out w' (hM3.trans0 hS) _ _ _ _ (by rfl) (by rfl) (by rw[HDI.out];rfl)) ?_;simp only[stz]
 refine qC (v:=?_) rfl (fun w'=>?_) ?_;rotate_left;·(go_simp;try with_reducible rfl)
 simp only[nmz];refine qC (v:=?_) rfl (fun w'=>?_) ?_;rotate_left;·(go_simp;try with_reducible rfl)
 simp only[stz];refine planQ_normal ?_
 refine wpPlan_dep [(8,NewRow w3.heap.size #[.pointer none] 166),(9,NewRow w3.heap.size #[.bool false] 4)] [(9,8,[]),(10,9,[])] ?hF ?hS (by decide) (by kernel_rfl) (by kernel_rfl) (by kernel_rfl) ?hw ?hend ?hop
 case hF=>
  intro x hx;simp only[List.mem_cons,List.not_mem_nil,or_false]at hx
  rcases hx with rfl|rfl
  ·exact newRow_keep _ _ _
  ·exact newRow_keep _ _ _
 case hS=>exact(fun _ hm=>hS.trans0 hm)
 case hw=>
  intro q hq;simp only[List.mem_cons,List.not_mem_nil,or_false]at hq
  rcases hq with rfl|rfl<;>rfl
 case hop=>
  intro q hq ps w1 hm hps hds hnd hpn K hK;simp only[List.mem_cons,List.not_mem_nil,or_false]at hq
  rcases hq with rfl|rfl
  ·simp only[depF,Nat.reduceEqDiff,if_true,if_false,reduceIte]at hK
   simp only[Array.getD_eq_getD_getElem?,List.getElem?_toArray,List.getElem?_cons_succ,List.getElem?_cons_zero,Option.getD_some];clear hps hds;have hsz0:=(hS.trans0 hm).size
   refine qN 166 _ (by rfl) pKeptZ (fun w2 hB2 hm2 hs2=>?_);exact hK _ _ hm2 ⟨_,rfl,hsz0,hB2⟩
  ·simp only[depF,Nat.reduceEqDiff,if_true,if_false,reduceIte]at hK
   simp only[Array.getD_eq_getD_getElem?,List.getElem?_toArray,List.getElem?_cons_succ,List.getElem?_cons_zero,Option.getD_some];clear hps hds;have hsz0:=(hS.trans0 hm).size
   refine qN 4 _ (by rfl) boolZ (fun w2 hB2 hm2 hs2=>?_);exact hK _ _ hm2 ⟨_,rfl,hsz0,hB2⟩
 case hend=>
  intro vals wz hvl hGM hJ;obtain⟨v8,vals1,rfl,hvl1⟩:=vals_cons hvl;obtain⟨v9,vals2,rfl,hvl2⟩:=vals_cons hvl1;obtain rfl:=List.eq_nil_of_length_eq_zero hvl2
  simp only[List.map_cons,List.map_nil,List.zip_cons_cons,List.zip_nil_left]at hJ |-;have h8:=hJ (8,v8) (by simp)
  simp only[depF,Nat.reduceEqDiff,if_true,if_false,reduceIte]at h8;have h9:=hJ (9,v9) (by simp);simp only[depF,Nat.reduceEqDiff,if_true,if_false,reduceIte]at h9
  clear hJ hvl hvl1 hvl2;have hGM8:=hGM;simp only[puts];try simp only[nmz]
  refine wpPlan_one rfl (fun K hK=>?_);simp only[Array.getD_eq_getD_getElem?,List.getElem?_toArray,List.getElem?_cons_succ,List.getElem?_cons_zero,Option.getD_some]
  have hSg:=hS.trans0 hGM;obtain⟨b8,rfl,hb8n,hB8⟩:=h8;obtain⟨b9,rfl,hb9n,hB9⟩:=h9
  have h89:b8≠b9:=fun e=>by
   subst e;have h:=Option.some.inj (hB8.symm.trans hB9);injection h with _ hT _;exact absurd hT (by decide)
  refine qR 166 _ _ b8 0 pv (by rfl) (by rfl) (by rfl) hp1 (by kernel_rfl) _ _ hB8 (by simp) (fun w4 hB4 hm4=>?_)
  replace hB4:w4.heap[b8]?=some (.cells #[pv] 166 (0,0)):=hB4;replace hB9:=hm4.objB (fun e=>h89 e.symm) hB9;have hS4:Mod NoB w3 w4:=hSg.transB hm4 hb8n
  refine hK _ _ hS4 ?_;clear hK K;try simp only[nmz]
  refine wpPlan_one rfl (fun K hK=>?_);simp only[Array.getD_eq_getD_getElem?,List.getElem?_toArray,List.getElem?_cons_succ,List.getElem?_cons_zero,Option.getD_some]
  refine qR 4 _ _ b9 0 (.bool is) (by rfl) (by rfl) (by rfl) rfl (by kernel_rfl) _ _ hB9 (by simp) (fun w5 hB5 hm5=>?_)
  replace hB5:w5.heap[b9]?=some (.cells #[.bool is] 4 (0,0)):=hB5;replace hB4:=hm5.objB h89 hB4;have hS5:Mod NoB w3 w5:=hS4.transB hm5 hb9n;refine hK _ _ hS5 ?_
  clear hK K;try simp only[nmz]
  refine wpPlan_fin ?_;have hM5:=hM3.trans0 hS5
  have HENV:Hid (PutEnv w5 b3 b4 b5 b8 b9 bs (ofI wd m) m v pv is):=hid ⟨cell_one (hS5.obj id hb3),by rw[HDI.out];exact CellsAt.whole (hS5.obj id hb4),cell_one (hS5.obj id hB3),cell_one hB4,cell_one hB5,HSL.out.keep0 hM5⟩
  clear hS hSg hS4 hS5 hm4 hm5 hGM hGM8 hB8 hB4 hB9 hB5 hc3 hc4 hc5 hb3 hb4 hB3 hms3 hM3;go_upto_region 4 with(fail);refine wpR [1,1,1,1,1,3,3] ?_;simp only[stz]
  refine wpX rfl (jI 97 [.tmp 5] (by rfl) [.pointer (some ⟨b5,0,none⟩)] (by rfl)) trivial ?_;try simp only[nmz]
  refine wpX rfl (jI 99 [.tmp 5,.tmp 3,.tmp 4] (by rfl) [.pointer (some ⟨b5,0,none⟩),.pointer (some ⟨b3,0,none⟩),.pointer (some ⟨b4,0,none⟩)] (by rfl)) trivial ?_
  try simp only[nmz]
  refine wpX rfl (jI 100 [.tmp 9,.tmp 8,.tmp 5] (by rfl) [.pointer (some ⟨b9,0,none⟩),.pointer (some ⟨b8,0,none⟩),.pointer (some ⟨b5,0,none⟩)] (by rfl)) trivial ?_
  try simp only[nmz]
  refine wpX rfl (jI 102 [.tmp 9,.tmp 3,.tmp 5] (by rfl) [.pointer (some ⟨b9,0,none⟩),.pointer (some ⟨b3,0,none⟩),.pointer (some ⟨b5,0,none⟩)] (by rfl)) trivial ?_
  try simp only[nmz]
  refine wpD (yW 177 175 4 [(0,_),(1,_),(2,_),(3,_)] [.func (.func 97) #[] #[.pointer (some ⟨b5,0,none⟩)],.func (.func 99) #[] #[.pointer (some ⟨b5,0,none⟩),.pointer (some ⟨b3,0,none⟩),.pointer (some ⟨b4,0,none⟩)],.func (.func 100) #[] #[.pointer (some ⟨b9,0,none⟩),.pointer (some ⟨b8,0,none⟩),.pointer (some ⟨b5,0,none⟩)],.func (.func 102) #[] #[.pointer (some ⟨b9,0,none⟩),.pointer (some ⟨b3,0,none⟩),.pointer (some ⟨b5,0,none⟩)]] .nilFunc 1 (by rfl) (by rfl) (by rfl) underlying177 why_i (by omega) (by omega) (by simp[Value.cells]) (fun w6 hB6 hm6 hs6=>?_))
  have hM6:=hM5.trans0 hm6;replace HENV:=hid (HENV.out.keep0 hm6);generalize w5.heap.size=b28 at*;try simp only[nmz]
  refine wpPL ?_;simp only[stz]
  have HC0:Hid (w6.cell? ⟨b28,0,none⟩=some (.func (.func 97) #[] #[.pointer (some ⟨b5,0,none⟩)])):=hid (by simp[World.cell?,hB6,Value.cells])
  have HC1:Hid (w6.cell? ⟨b28,1,none⟩=some (.func (.func 99) #[] #[.pointer (some ⟨b5,0,none⟩),.pointer (some ⟨b3,0,none⟩),.pointer (some ⟨b4,0,none⟩)])):=hid (by simp[World.cell?,hB6,Value.cells])
  have HC2:Hid (w6.cell? ⟨b28,2,none⟩=some (.func (.func 100) #[] #[.pointer (some ⟨b9,0,none⟩),.pointer (some ⟨b8,0,none⟩),.pointer (some ⟨b5,0,none⟩)])):=hid (by simp[World.cell?,hB6,Value.cells])
  have HC3:Hid (w6.cell? ⟨b28,3,none⟩=some (.func (.func 102) #[] #[.pointer (some ⟨b9,0,none⟩),.pointer (some ⟨b3,0,none⟩),.pointer (some ⟨b5,0,none⟩)])):=hid (by simp[World.cell?,hB6,Value.cells])
  clear hB6 hm6 hM5;go_wp2
  go_loopw [30] (PutRel w6) (fun i _=>4-(intOf i).toNat)
  case atStart=>exact⟨0,by omega,rfl,Mod.refl _ _⟩
  case round=>
   rename World=>wr
   obtain⟨k,hk,rfl,hmr⟩:=hrel;have hMr:=hM6.trans0 hmr
   by_cases hlt:k<4
   ·have hzk:(k:Int)<4:=by omega
    have henv:=HENV.out.keep0 hmr;have hstr:=H.out.keep0 hMr
    rcases(by omega:k=0\/k=1\/k=2\/k=3)with hq|hq|hq|hq
    ·have hcell:wr.cell? ⟨b28,k*1,none⟩=some (.func (.func 97) #[] #[.pointer (some ⟨b5,0,none⟩)]):=by rw[hq];exact hmr.cell id HC0.out
     go_upto_region 6 with(fail);refine wpR [3,1,3] ?_;simp only[stz];refine wpPI underlying177 1 hlt ?_;simp only[nmz]
     refine wpXd (v:=(.func (.func 97) #[] #[.pointer (some ⟨b5,0,none⟩)])) 175 b28 (k*1) hcell underlying175 trivial ?_;simp only[stz];clear hcell
     go_upto_region 7 with(fail);refine wpR [3,1,3] ?_;simp only[stz]
     refine wpD (wp_callv 97 _ [] _ #[] #[.pointer (some ⟨b5,0,none⟩)] (by rfl) (by rfl) (enters_of func97 (by kernel_rfl) rfl) ?_)
     show Calls prog 97 #[.pointer (some ⟨b5,0,none⟩)] _ _
     refine(bPut1_any henv hm).mono ?_;rintro e w8 ⟨rfl,hm8⟩;have hm68:=hmr.trans0 hm8;refine⟨_,rfl,?_⟩;simp only[stz];clear hmr hMr hm8;go_wp2
     go_roundw
     case rel=>exact⟨k+1,by omega,by go_num,hm68⟩
     case measure=>simp[intOf];omega
    ·have hcell:wr.cell? ⟨b28,k*1,none⟩=some (.func (.func 99) #[] #[.pointer (some ⟨b5,0,none⟩),.pointer (some ⟨b3,0,none⟩),.pointer (some ⟨b4,0,none⟩)]):=by rw[hq];exact hmr.cell id HC1.out
     go_upto_region 6 with(fail);refine wpR [3,1,3] ?_;simp only[stz];refine wpPI underlying177 1 hlt ?_;simp only[nmz]
     refine wpXd (v:=(.func (.func 99) #[] #[.pointer (some ⟨b5,0,none⟩),.pointer (some ⟨b3,0,none⟩),.pointer (some ⟨b4,0,none⟩)])) 175 b28 (k*1) hcell underlying175 trivial ?_
     simp only[stz];clear hcell;go_upto_region 7 with(fail);refine wpR [3,1,3] ?_;simp only[stz]
     refine wpD (wp_callv 99 _ [] _ #[] #[.pointer (some ⟨b5,0,none⟩),.pointer (some ⟨b3,0,none⟩),.pointer (some ⟨b4,0,none⟩)] (by rfl) (by rfl) (enters_of func99 (by kernel_rfl) rfl) ?_)
     show Calls prog 99 #[.pointer (some ⟨b5,0,none⟩),.pointer (some ⟨b3,0,none⟩),.pointer (some ⟨b4,0,none⟩)] _ _
     refine(bPut2_any henv hstr hm).mono ?_;rintro e w8 ⟨rfl,hm8⟩;have hm68:=hmr.trans0 hm8;refine⟨_,rfl,?_⟩;simp only[stz];clear hmr hMr hm8;go_wp2
     go_roundw
     case rel=>exact⟨k+1,by omega,by go_num,hm68⟩
     case measure=>simp[intOf];omega
    ·cases fb with
     |none=>
      obtain rfl:false=is:=HIS.out
      have hcell:wr.cell? ⟨b28,k*1,none⟩=some (.func (.func 100) #[] #[.pointer (some ⟨b9,0,none⟩),.pointer (some ⟨b8,0,none⟩),.pointer (some ⟨b5,0,none⟩)]):=by rw[hq];exact hmr.cell id HC2.out
      go_upto_region 6 with(fail);refine wpR [3,1,3] ?_;simp only[stz];refine wpPI underlying177 1 hlt ?_;simp only[nmz]
      refine wpXd (v:=(.func (.func 100) #[] #[.pointer (some ⟨b9,0,none⟩),.pointer (some ⟨b8,0,none⟩),.pointer (some ⟨b5,0,none⟩)])) 175 b28 (k*1) hcell underlying175 trivial ?_
      simp only[stz];clear hcell;go_upto_region 7 with(fail);refine wpR [3,1,3] ?_;simp only[stz]
      refine wpD (wp_callv 100 _ [] _ #[] #[.pointer (some ⟨b9,0,none⟩),.pointer (some ⟨b8,0,none⟩),.pointer (some ⟨b5,0,none⟩)] (by rfl) (by rfl) (enters_of func100 (by kernel_rfl) rfl) ?_)
      show Calls prog 100 #[.pointer (some ⟨b9,0,none⟩),.pointer (some ⟨b8,0,none⟩),.pointer (some ⟨b5,0,none⟩)] _ _
      refine(bPut3_no henv).mono ?_;rintro e w8 ⟨rfl,hm8⟩;have hm68:=hmr.trans0 hm8;refine⟨_,rfl,?_⟩;simp only[stz];clear hmr hMr hm8;go_wp2
      go_roundw
      case rel=>exact⟨k+1,by omega,by go_num,hm68⟩
      case measure=>simp[intOf];omega
     |some b=>
      obtain rfl:true=is:=HIS.out;obtain rfl:useV b.blk=pv:=HPV.out;obtain⟨hbm,hbid⟩:=findB_some HFB.out;have hkc:=cell_one (hstr.kb b hbm)
      have hbs:Sl false wr (fun _=>True) 1 ByteC b.val b.bytes:=(Bts.sl (hstr.bt b hbm)).weak.mono (fun _ _=>trivial) (fun _ _ h=>h)
      have hsome:Hid ((getL (ofI wd m) (cont bl)).isSome=true):=hid (by rw[HGB.out,HFB.out];rfl)
      have hputb:Hid (putB (ofI wd m) m (cont bl)=cont bl):=hid (by unfold putB;rw[if_pos hsome.out])
      obtain⟨er,her⟩:∃q,(if b.bytes=m then(0:Int)else 9)=q:=⟨_,rfl⟩;have HER:=hid her;clear her
      have hcell:wr.cell? ⟨b28,k*1,none⟩=some (.func (.func 100) #[] #[.pointer (some ⟨b9,0,none⟩),.pointer (some ⟨b8,0,none⟩),.pointer (some ⟨b5,0,none⟩)]):=by rw[hq];exact hmr.cell id HC2.out
      go_upto_region 6 with(fail);refine wpR [3,1,3] ?_;simp only[stz];refine wpPI underlying177 1 hlt ?_;simp only[nmz]
      refine wpXd (v:=(.func (.func 100) #[] #[.pointer (some ⟨b9,0,none⟩),.pointer (some ⟨b8,0,none⟩),.pointer (some ⟨b5,0,none⟩)])) 175 b28 (k*1) hcell underlying175 trivial ?_
      simp only[stz];clear hcell;go_upto_region 7 with(fail);refine wpR [3,1,3] ?_;simp only[stz]
      refine wpD (wp_callv 100 _ [] _ #[] #[.pointer (some ⟨b9,0,none⟩),.pointer (some ⟨b8,0,none⟩),.pointer (some ⟨b5,0,none⟩)] (by rfl) (by rfl) (enters_of func100 (by kernel_rfl) rfl) ?_)
      show Calls prog 100 #[.pointer (some ⟨b9,0,none⟩),.pointer (some ⟨b8,0,none⟩),.pointer (some ⟨b5,0,none⟩)] _ _
      refine(bPut3_old henv hkc hbs).mono ?_;rintro e w8 ⟨rfl,hm8⟩;have hm68:=hmr.trans0 hm8;rw[HER.out];refine⟨_,rfl,?_⟩;simp only[stz];have hMe:=hM6.trans0 hm68
      have hE0:er=0\/er=9:=by rw[<-HER.out];split<;>simp
      clear HER
      rcases hE0 with rfl|rfl
      ·clear hmr hMr hm8 hMe
       go_wp2
       go_roundw
       case rel=>exact⟨k+1,by omega,by go_num,hm68⟩
       case measure=>simp[intOf];omega
      ·have HT:=hid (H.out.to0 hMe)
       clear hmr hMr hm8 hMe hm68;go_wp2;go_ret2;exact⟨⟨_,_,rfl⟩,by rw[<-HDI.out]at*;rw[hputb.out];exact HT.out⟩
    ·cases fb with
     |none=>
      obtain rfl:false=is:=HIS.out
      have hcell:wr.cell? ⟨b28,k*1,none⟩=some (.func (.func 102) #[] #[.pointer (some ⟨b9,0,none⟩),.pointer (some ⟨b3,0,none⟩),.pointer (some ⟨b5,0,none⟩)]):=by rw[hq];exact hmr.cell id HC3.out
      go_upto_region 6 with(fail);refine wpR [3,1,3] ?_;simp only[stz];refine wpPI underlying177 1 hlt ?_;simp only[nmz]
      refine wpXd (v:=(.func (.func 102) #[] #[.pointer (some ⟨b9,0,none⟩),.pointer (some ⟨b3,0,none⟩),.pointer (some ⟨b5,0,none⟩)])) 175 b28 (k*1) hcell underlying175 trivial ?_
      simp only[stz];clear hcell;go_upto_region 7 with(fail);refine wpR [3,1,3] ?_;simp only[stz]
      refine wpD (wp_callv 102 _ [] _ #[] #[.pointer (some ⟨b9,0,none⟩),.pointer (some ⟨b3,0,none⟩),.pointer (some ⟨b5,0,none⟩)] (by rfl) (by rfl) (enters_of func102 (by kernel_rfl) rfl) ?_)
      show Calls prog 102 #[.pointer (some ⟨b9,0,none⟩),.pointer (some ⟨b3,0,none⟩),.pointer (some ⟨b5,0,none⟩)] _ _
      refine(bPut4_no henv hstr hm hroom).mono ?_;rintro e w8 ⟨rfl,hm8⟩;have hm68:=hmr.trans0 hm8;refine⟨_,rfl,?_⟩;simp only[stz];clear hmr hMr hm8;go_wp2
      go_roundw
      case rel=>exact⟨k+1,by omega,by go_num,hm68⟩
      case measure=>simp[intOf];omega
     |some b=>
      obtain rfl:true=is:=HIS.out
      have hcell:wr.cell? ⟨b28,k*1,none⟩=some (.func (.func 102) #[] #[.pointer (some ⟨b9,0,none⟩),.pointer (some ⟨b3,0,none⟩),.pointer (some ⟨b5,0,none⟩)]):=by rw[hq];exact hmr.cell id HC3.out
      go_upto_region 6 with(fail);refine wpR [3,1,3] ?_;simp only[stz];refine wpPI underlying177 1 hlt ?_;simp only[nmz]
      refine wpXd (v:=(.func (.func 102) #[] #[.pointer (some ⟨b9,0,none⟩),.pointer (some ⟨b3,0,none⟩),.pointer (some ⟨b5,0,none⟩)])) 175 b28 (k*1) hcell underlying175 trivial ?_
      simp only[stz];clear hcell;go_upto_region 7 with(fail);refine wpR [3,1,3] ?_;simp only[stz]
      refine wpD (wp_callv 102 _ [] _ #[] #[.pointer (some ⟨b9,0,none⟩),.pointer (some ⟨b3,0,none⟩),.pointer (some ⟨b5,0,none⟩)] (by rfl) (by rfl) (enters_of func102 (by kernel_rfl) rfl) ?_)
      show Calls prog 102 #[.pointer (some ⟨b9,0,none⟩),.pointer (some ⟨b3,0,none⟩),.pointer (some ⟨b5,0,none⟩)] _ _
      refine(bPut4_old henv).mono ?_;rintro e w8 ⟨rfl,hm8⟩;have hm68:=hmr.trans0 hm8;refine⟨_,rfl,?_⟩;simp only[stz];clear hmr hMr hm8;go_wp2
      go_roundw
      case rel=>exact⟨k+1,by omega,by go_num,hm68⟩
      case measure=>simp[intOf];omega
   ·have hzk:¬(k:Int)<4:=by omega
    have henv:=HENV.out.keep0 hmr;have hstr:=H.out.keep0 hMr;have hc9:=henv.c9
    cases fb with
    |some b=>
     obtain rfl:true=is:=HIS.out;have hsome:Hid ((getL (ofI wd m) (cont bl)).isSome=true):=hid (by rw[HGB.out,HFB.out];rfl)
     have hputb:Hid (putB (ofI wd m) m (cont bl)=cont bl):=hid (by unfold putB;rw[if_pos hsome.out]);have HT:=hid (H.out.to0 hMr);clear hmr hMr
     go_upto_region 11 with(fail);refine wpR [1] ?_;simp only[stz];refine wpXd (v:=(.bool true)) 4 b9 0 hc9 underlying4 trivial ?_;simp only[stz];go_wp2;go_ret2
     exact⟨⟨_,_,rfl⟩,by rw[<-HDI.out]at*;rw[hputb.out];exact HT.out⟩
    |none=>
     obtain rfl:false=is:=HIS.out;have hnone:Hid (getL (ofI wd m) (cont bl)=none):=hid (by rw[HGB.out,HFB.out];rfl);go_upto_region 11 with(fail);refine wpR [1] ?_
     simp only[stz];refine wpXd (v:=(.bool false)) 4 b9 0 hc9 underlying4 trivial ?_;simp only[stz];have hc3:=henv.c3
     have hc4:CellsAt wr b4 0 (qA di):=by have:=henv.c4;rw[HDI.out]at this;exact this
     have hc5:=henv.c5;have hmsr:=hstr.cell.2.2.2;have hslr:=hid henv.sl;have hlmr:=hstr.lm;have hboxr:=hstr.box;have hltb:bs<wr.heap.size:=hstr.lt bs (.inl rfl)
     have hltm:ms<wr.heap.size:=hstr.lt ms (.inr (.inl rfl));have hbm:=hstr.nes.1;clear henv hc9;go_upto_region 13 with(fail)
     have hS:Mod NoB wr wr.drew:=(Mod.refl _ _).drew;refine wpRZ [0,3,3,0,0,0,1,0,1,2] [9] (fun w'=>Mod NoB wr w') hS ?_;simp only[stz]
     refine wpLd 29 b3 0 (fun w' hS=>hS.cell id hc3) underlying29 ?_;simp only[stz];refine wpLd 93 bs 3 (fun w' hS=>hS.cell id hmsr) underlying93 ?_;simp only[nmz]
     refine wpLA 24 b4 0 (qA di) (fun w' hS=>hc4.keep hS id) underlying24 32 hrs ?_;simp only[nmz];refine wpLd 53 b5 0 (fun w' hS=>hS.cell id hc5) underlying53 ?_
     simp only[nmz];refine qL rfl (fun K hK=>?_);refine wpC func93 (bytesClone_any (hslr.out.keep0 hS) (by omega)) ?_;rintro e wa ⟨vk,rfl,hbk,hma⟩
     have hSa:=hS.trans0 hma;have hvk1:vk.oneCell'=true:=by obtain⟨ad,cap,rfl,-,-⟩:=Sl.at hbk.sl;rfl
     have hvkc:vk.cells=#[vk]:=by obtain⟨ad,cap,rfl,-,-⟩:=Sl.at hbk.sl;rfl
     have hbkk:=built_kept vk hvkc;refine⟨_,rfl,hK _ _ hSa ?_⟩;clear hK K;try simp only[nmz]
     refine qG rfl (fun w' hS=>qO 170 [(0,_)] [(0,vk)] _ (by rfl) (by rfl) hbkk) ?_;simp only[nmz];refine qL rfl (fun K hK=>?_)
     refine zL 170 _ _ (by rfl) (by rfl) (fun wb hBb hmb hsb=>?_);replace hBb:wb.heap[wa.heap.size]?=some (.cells #[vk] 170 (0,0)):=hBb;have hSb:=hSa.trans0 hmb
     refine hK _ _ hSb ?_;clear hK K;try simp only[nmz]
     refine zD rfl (fun K hK=>?_)
     refine wp_putL keyT_id (hlmr.keep0 hSb) (ofI wd m) (by rw[HDI.out];exact hdl) 93 166 underlying93 _ _ _ (.pointer (some ⟨wa.heap.size,0,none⟩)) (by rfl) (by rfl) (by rw[HDI.out];rfl) (by rfl) (fun wc hlmc hmc=>?_)
     refine hK _ _ ?_;clear hK K;simp only[stz];have hboxc:=hmc.objB hbm (hSb.obj id hboxr)
     have hu2:wc.cell? ⟨bs,2,none⟩=some (.int .i64 (usedL (cont bl):Nat)):=by simp[World.cell?,hboxc]
     have hSc:Mod (fun k=>k=ms) wr wc:=(hSb.mono (fun _ _ h=>h.elim)).trans hmc (fun _ _ h=>h)
     have hnb3:b3≠ms:=fun e=>by
      subst e;obtain⟨es,clk,hq,_⟩:=hstr.lm.obj
      simp[World.cell?,hq]at hc3
     have hnb5:b5≠ms:=fun e=>by
      subst e;obtain⟨es,clk,hq,_⟩:=hstr.lm.obj
      simp[World.cell?,hq]at hc5
     have hc3c:=hSc.cell (fun e=>hnb3 e) hc3;have hc5c:=hSc.cell (fun e=>hnb5 e) hc5;obtain⟨adv,capv,rfl,-,-⟩:=Sl.at hslr.out
     obtain⟨u,hu⟩:∃q,((usedL (cont bl):Nat):Int)=q:=⟨_,rfl⟩;have HU:=hid hu;have hub:0<=u/\u<=40960000:=by omega
     rw[hu]at hu2 hboxc;have hsza:=hSa.size;have HCLM:=hid hlmc;have hMa:=hMr.trans0 hSa;have hbk0:Bts w.heap.size wa vk m:=jF hbk hMr.size
     have hkna:w.heap.size<=wa.heap.size:=hMa.size;clear hlmc hlmr hmsr hboxr hu;go_upto_region 14 with(fail);have hS2:Mod NoB wc wc.drew:=(Mod.refl _ _).drew
     refine wpRZ [0,3,3,0,0,3,3,3,3,2] [9] (fun w'=>Mod NoB wc w') hS2 ?_;simp only[stz];refine wpLd 29 b3 0 (fun w' hS=>hS.cell id hc3c) underlying29 ?_
     simp only[stz];refine wpLd 3 bs 2 (fun w' hS=>hS.cell id hu2) underlying3 ?_;simp only[nmz];refine wpLd 53 b5 0 (fun w' hS=>hS.cell id hc5c) underlying53 ?_
     simp only[nmz];refine wpPL ?_;simp only[nmz];refine zF _ _ _ _ u ((m.length:Nat):Int) (u+(m.length:Nat)) rfl rfl rfl rfl rfl (by omega) (by omega) ?_
     simp only[stz];refine zD rfl (fun K hK=>?_)
     refine qR 3 _ _ bs 2 (.int .i64 (u+(m.length:Nat))) (by rfl) (by rfl) (by rfl) rfl (by kernel_rfl) _ _ (hS2.obj id hboxc) (by simp) (fun wd' hBd hmd=>?_)
     replace hBd:wd'.heap[bs]?=some (.cells #[.int .i64 wd,.int .i64 room,.int .i64 (u+(m.length:Nat)),.map (some ms)] 95 (0,0)):=hBd;refine hK _ _ ?_;clear hK K
     simp only[stz];have hbox4:=hBd;rw[<-HU.out]at hbox4;have hmb':Mod NoB wa wb:=hmb
     have h4:Mod (fun j=>j=bs) wc wd':=(hS2.mono (fun _ _ h=>h.elim)).trans hmd (fun _ _ h=>h)
     have HT:=hid (H.out.more hfew hm hnone.out hMa hbk0 hkna hBb hmb' HCLM.out hmc hbox4 h4)
     clear hS hS2 hSa hSb hSc hma hmb hmb' hmc hmd h4 hMa hMr hmr hBb hBd hbox4 hbk hbk0 hboxc hc3c hc5c hu2 HCLM hbkk hstr;go_wp2;go_ret2
     exact⟨⟨_,_,rfl⟩,by rw[<-HDI.out]at*;exact HT.out⟩
end
theorem idInfo:∃i,prog.info? 24=some i/\i.zero=some (.agg (qA (List.replicate 32 0)))/\i.size=32/\i.bytes=32:=by
 have h:=id_i
 cases hi:prog.info? 24 with
 |none=>rw[hi]at h;cases h
 |some i=>
  rw[hi]at h;simp only[Option.map_some,Option.some.injEq,Prod.mk.injEq]at h;exact⟨i,rfl,h.1,h.2.1,h.2.2⟩
def GrowIR(w:World):Ending->World->Prop:=fun e w'=>∃v,e=.returned v/\GatI w.heap.size w' v []/\Mod NoB w w'
theorem growI_nil(n:Nat)(hn:n<=1048576)(w:World):Calls prog 104 #[.slice none 0 0,.int .i64 n] w (GrowIR w):=by
 have h1:¬((n:Int)<0):=by omega
 have h2:wrap64 ((n:Int)-0)=(n:Int):=by unfold wrap64;omega
 by_cases h0:n=0
 ·subst h0
  go_enter func104,ntmps104;go_wp2;go_ret;exact⟨_,rfl,Gat.nil _ _ _ _ _,Mod.refl _ _⟩
 ·have h4:(n:Int)>0:=by omega
  obtain⟨i,hi,hz,hs,hb⟩:=idInfo
  have hrz:∀ty (w:World),(Builtin.append_ #[25,3] ty #[.slice none 0 0,.int .i64 (n:Int)]).run prog w=
   .ok (.slice (some ⟨w.heap.size,0,none⟩) n (grownCap w n 0 24)) (w.drew.alloc (.cells (Builtin.zeroCells (qA (List.replicate 32 0)) n++Builtin.zeroCells (qA (List.replicate 32 0)) (grownCap w n 0 24-n)) 24)):=fun ty w=>
   Lib.run_append_nil_zeros w 25 3 ty 24 i _ .i64 .i64 underlying25 underlying3 hi hz n (by omega) (by omega) (by omega) (by rw[hb];omega)
  have HRZ:=hid hrz;clear hrz hi hz hs hb;go_enter func104,ntmps104;go_upto_region 5 with(fail);refine wpR [3,3,3,3,3,1,3,3,3,3] ?_;simp only[stz]
  refine qC (v:=?_) rfl (fun w'=>?_) ?_;rotate_left;·(go_simp;try with_reducible rfl)
  simp only[nmz];refine qC (v:=?_) rfl (fun w'=>?_) ?_;rotate_left;·(go_simp;try with_reducible rfl)
  simp only[stz];refine wpD (Lib.wp_append_run _ _ _ 25 3 (by rfl) (.slice none 0 0) (.int .i64 (n:Int)) (by rfl) (by rfl) _ _ (HRZ.out _ _) ?_);simp only[stz];refine wpPL ?_
  simp only[nmz];refine qC (v:=?_) rfl (fun w'=>?_) ?_;rotate_left;·(go_simp;try with_reducible rfl)
  simp only[stz];have hC1:=grownCap_ge w n 0 24;have hC2:=grownCap_le_maxLen w n 0 24 (by unfold maxLen;omega);generalize grownCap w n 0 24=C at hC1 hC2 |-
  have hB:=heap_alloc_new w.drew (.cells (Builtin.zeroCells (qA (List.replicate 32 0)) n++Builtin.zeroCells (qA (List.replicate 32 0)) (C-n)) 24)
  have hm:Mod NoB w (w.drew.alloc (.cells (Builtin.zeroCells (qA (List.replicate 32 0)) n++Builtin.zeroCells (qA (List.replicate 32 0)) (C-n)) 24)):=((Mod.refl _ _).drew).alloc _
  have hsz:(Builtin.zeroCells (qA (List.replicate 32 0)) n++Builtin.zeroCells (qA (List.replicate 32 0)) (C-n)).size=C*32:=by
   rw[Array.size_append,size_zeroCells,size_zeroCells,qB,List.length_replicate,<-Nat.add_mul]
   congr 1
   omega
  generalize Builtin.zeroCells (qA (List.replicate 32 0)) n++Builtin.zeroCells (qA (List.replicate 32 0)) (C-n)=cur at hB hm hsz |-
  generalize w.drew.alloc (.cells cur 24)=w2 at hB hm |-;clear HRZ;go_wp2;go_ret
  exact⟨_,rfl,⟨rfl,.inr ⟨_,C,cur,rfl,Nat.le_refl _,hB,Nat.zero_le _,hC2,hsz,by simp⟩⟩,hm⟩
theorem wp_nextB{P:Program}{o:Oper}{a:Act}{w:World}{K:Act->World->Prop}{Q:Exit->Act->World->Prop}(x:Operand)(mb it:Nat)(es:Array MapEntry)(clk:Nat)(xs:List MapEntry)(ho:o.op=.next x false)(hx:a.eval x=.pointer (some ⟨it,0,none⟩))(hI:IterAt w mb it es clk xs)(hbo:∀x∈es.toList,x.born<clk)(hbn:(es.toList.map (·.born)).Nodup)
 (h:∀(b:Bool)(vs:Array Value) w',vs[0]?=some (.bool b)->(b=false->xs.Perm es.toList/\w'=w)->(b=true->∃e∈es.toList,IterAt w' mb it es clk (xs++[e])/\xs.length<es.size/\Mod (fun j=>j=it) w w'/\w'.heap[it]?=some (.mapIter (some mb) clk ((⟨xs.map (·.born)⟩:Array Nat).push e.born) clk))->K (a.put o.dst (.tuple vs)) w'):o.wp P a w K Q:=
 wp_nextM x mb it es clk xs ho hx hI hbo hbn (fun hp=>h false _ _ rfl (fun _=>⟨hp,rfl⟩) (fun e=>by cases e)) (fun e w' he hI2 hlt hm _ hit=>h true _ _ rfl (fun e=>by cases e) (fun _=>⟨e,he,hI2,hlt,hm,hit⟩))
def IDsC(c:BlobL)(l:List (List UInt8)):Prop:=l.Pairwise (fun a b=>a<b)/\l.Perm (c.map (·.1))
def IDsR(w:World)(c:BlobL):Ending->World->Prop:=fun e w'=>Mod NoB w w'/\∃v ids,e=.returned v/\GatI w.heap.size w' v ids/\IDsC c ids
def IdR1(w0:World)(ms it hb base:Nat)(es:Array MapEntry)(clk:Nat)(_:Value)(w:World):Prop:=∃(xs:List MapEntry)(l0 l:List (List UInt8))(v:Value),IterAt w ms it es clk xs/\xs.map (·.key)=l0.map idV/\l.Perm l0/\Heap leB l l.length/\DgI w hb base v l/\Mod NoB w0 w/\∀q,v.ownBlock=some q->q≠it
def IdR2(w0:World)(hb base:Nat)(ids:List (List UInt8))(ov:Value)(w:World):Prop:=∃(out l:List (List UInt8))(v:Value),GatI w0.heap.size w ov out/\(out++l).Perm ids/\out.Pairwise (fun a b=>a<b)/\(∀a∈out,∀b∈l,a<b)/\Heap leB l l.length/\DgI w hb base v l/\Mod NoB w0 w/\∀q,ov.ownBlock=some q->q≠hb/\v.ownBlock≠some q
def dgLeft(hb:Nat)(w:World):Nat:=match w.cell? ⟨hb,0,none⟩with
 |some (.slice _ n _)=>n
 |_=>0
theorem dgLeft_eq{w:World}{hb base:Nat}{v:Value}{l:List (List UInt8)}(h:DgI w hb base v l):dgLeft hb w=l.length:=by
 obtain⟨ad,cap,rfl⟩:=h.row.slice
 simp[dgLeft,h.cell]
theorem lt_of_le_ne{a b:List UInt8}(h:leB a b)(hne:a≠b):a<b:=by
 rcases ltB_tri a b with h1|h1|h1
 ·exact h1
 ·exact absurd h1 hne
 ·exact absurd h1 h
section
variable{w:World}{bs ms wd:Nat}{room:Int}{bl:List Blb}
theorem bIDs_any(h:StInv w bs ms wd room bl):Calls prog 38 #[.pointer (some ⟨bs,0,none⟩)] w (IDsR w (cont bl)):=by
 have hmade:=h.made;have hfew:=h.few;have hnd:=h.nd;obtain⟨⟨es,clk,hmb,hkd,hbo,hbn⟩,-,hok⟩:=h.lm;have hmsl:=h.lt ms (.inr (.inl rfl));have hc3:=h.cell.2.2.2
 have hkeys:es.toList.map (·.key)=(bl.map (·.id)).map idV:=by
  have:=congrArg (List.map (·.1)) hkd
  simpa[List.map_map,Function.comp_def]using this
 have hsize:es.size=bl.length:=by have:=congrArg List.length hkd;simpa using this
 have hidl:∀x∈bl.map (·.id),x.length=32:=fun x hx=>by
  obtain⟨b,hb,rfl⟩:=List.mem_map.1 hx;exact h.ok b hb
 have hcm:(cont bl).map (·.1)=bl.map (·.id):=by simp[cont,List.map_map,Function.comp_def]
 rw[hcm]at hnd;have HKEYS:=hid hkeys;have HSIZE:=hid hsize;have HIDL:=hid hidl;have HCM:=hid hcm;have HND:=hid hnd;have HBO:=hid hbo;have HBN:=hid hbn
 clear hkeys hsize hkd hidl hcm hok h hnd hbo hbn;go_enter func38,ntmps38;go_upto_region 3 with(go_at_call 92;refine hmade.mono ?_;rintro _ w1 ⟨rfl,hw⟩;obtain rfl:=hw.symm)
 refine wpR [1,1,3] ?_;simp only[stz];refine wpD (xA 179 24 (by rfl) underlying179 (by kernel_rfl) (fun w1 hB1 hm1 hs1=>?_));try simp only[nmz]
 refine wpD (zL 179 _ _ (by rfl) (by rfl) (fun w2 hB2 hm2 hs2=>?_))
 replace hB2:w2.heap[w1.heap.size]?=some (.cells #[.slice (some ⟨w.heap.size,0,none⟩) 0 0] 179 (0,0)):=hB2;simp only[stz];have hm02:=hm1.trans0 hm2
 have hrow2:GatI w.heap.size w2 (.slice (some ⟨w.heap.size,0,none⟩) 0 0) []:=⟨by simp,.inr ⟨w.heap.size,0,#[],rfl,Nat.le_refl _,hm2.obj id hB1,Nat.le_refl _,Nat.zero_le _,rfl,rfl⟩⟩
 have hD2:DgI w2 w1.heap.size w.heap.size (.slice (some ⟨w.heap.size,0,none⟩) 0 0) []:=⟨hB2,hrow2,by simp,fun q hq e=>by
  have:w.heap.size=q:=Option.some.inj hq
  omega,by simp⟩
 have hbw:w.heap.size<=w1.heap.size:=hm1.size;have hw2l:w1.heap.size<w2.heap.size:=hs2;generalize hhb:w1.heap.size=hb at*;have hc32:=hm02.cell id hc3
 have hmb2:=hm02.obj id hmb;clear hm1 hm2 hB1 hB2 hs1 hs2 hrow2 hc3;go_upto_region 4 with(fail);refine wpR [3,3,3,1,1] ?_;simp only[stz]
 refine wpXd (v:=(.map (some ms))) 93 bs 3 hc32 underlying93 trivial ?_;try simp only[nmz]
 refine wpD (wp_rangeM 93 24 166 _ ms es clk (by rfl) (by rfl) underlying93 hmb2 (fun w3 hit3 hm3 hs3=>?_));simp only[stz]
 have hI3:IterAt w3 ms w2.heap.size es clk []:=⟨hm3.obj id hmb2,clk,Nat.le_refl _,hit3,by simp,by simp⟩;have hD3:=hD2.keep0 hm3;have hM3:=hm02.trans0 hm3
 have hitl:w2.heap.size<w3.heap.size:=hs3;generalize hite:w2.heap.size=it at*
 have HR0:Hid (IdR1 w ms it hb w.heap.size es clk undef w3):=hid ⟨[],[],[],_,hI3,rfl,.refl _,fun i h0 hi=>by simp at hi,hD3,hM3,fun q hq e=>by
  have:w.heap.size=q:=Option.some.inj hq
  omega⟩
 clear hm3 hmb2 hit3 hI3 hD2 hD3 hM3 hm02 hc32 hs3 hmb;go_wp2
 go_loopw [4] (IdR1 w ms it hb w.heap.size es clk) (fun _ wx=>seenLeft it (bl.length+1) wx)
 case atStart=>exact HR0.out
 case round=>
  rename World=>wr
  obtain⟨xs,l0,l,v,hI,hxk,hpl,hh,hd,hm,hvit⟩:=hrel;have HXK:=hid hxk;have HPL:=hid hpl;have HH:=hid hh;have HD:=hid hd
  have hlx:l0.length=xs.length:=by have:=congrArg List.length hxk;simpa using this.symm
  have hll:l.length=l0.length:=hpl.length_eq;obtain⟨_,c0,_,hitr,_⟩:=id hI;have HLEFT:=hid (jE (n:=bl.length+1) hitr)
  have hitw:it<wr.heap.size:=(Array.getElem?_eq_some_iff.1 hitr).1;clear hxk hpl hh hd hitr;go_upto_region 5 with(fail);refine wpR [1,3] ?_;simp only[stz]
  refine wpD (wp_nextB _ ms it es clk xs (by rfl) (by rfl) hI HBO.out HBN.out (fun more vs w4 hvs hno hyes=>?_));have HNO:=hid hno;have HYES:=hid hyes;clear hno hyes
  try simp only[nmz]
  refine qC rfl (fun w'=>qJ _ 0 vs rfl rfl (.bool more) hvs) ?_;simp only[stz]
  cases more with
  |true=>
   obtain⟨e,he,hI4,hlt,hm4,hit4⟩:=HYES.out rfl;have hne4:∀k,k=it->k≠hb:=fun k hk e=>by omega
   have HD4:=hid (HD.out.keep hm4 (fun e=>by have e':hb=it:=e;omega) (fun q hq e=>hvit q hq e));have hm04:=hm.transB hm4 (by omega)
   obtain⟨k,hkl,hek⟩:∃k∈bl.map (·.id),idV k=e.key:=List.mem_map.1 (by rw[<-HKEYS.out];exact List.mem_map.2 ⟨e,he,rfl⟩);have hk32:=HIDL.out k hkl
   have HEK:=hid hek;have HLT:=hid (show xs.length<bl.length by rw[<-HSIZE.out];exact hlt);have hic:(qA k).size=32:=by rw[qB,hk32]
   clear hek hI hlt HNO HYES hvs;go_upto_region 6 with(fail);refine wpR [1,3,1,1] ?_;simp only[stz]
   refine wpX rfl (v:=.tuple #[idV k,e.val]) ((exec_entryM _ ms it es clk e _ (by rfl) (by rfl) hI4.1 hit4 he HBN.out).trans (by rw[HEK.out])) trivial ?_;try simp only[nmz]
   refine qC (v:=?_) rfl (fun w'=>?_) ?_;rotate_left;·(go_simp;try with_reducible rfl)
   simp only[nmz];refine wpD (qN 24 _ (by rfl) idZ (fun w5 hB5 hm5 hs5=>?_))
   replace hB5:w5.heap[w4.heap.size]?=some (.cells (qA (List.replicate 32 0)) 24 (0,0)):=hB5;try simp only[nmz]
   refine wpD (qF 24 _ _ w4.heap.size 0 (qA k) (by rfl) (by rfl) (by rfl) (qP k) 32 (by kernel_rfl) hic _ _ hB5 (by rw[hic,qB];simp) (fun w6 hB6 hm6=>?_))
   rw[qD (by rw[hic,qB];simp)]at hB6;have hm46:Mod NoB w4 w6:=hm5.transB hm6 (Nat.le_refl _);simp only[stz];have HD6:=hid (HD4.out.keep0 hm46)
   have hI6:IterAt w6 ms it es clk (xs++[e]):=by
    obtain⟨h1,c0,h2,h3,h4⟩:=hI4;exact⟨hm46.obj id h1,c0,h2,hm46.obj id h3,h4⟩
   have HI6:=hid hI6;have hm06:=hm04.trans0 hm46;have hpush:=heapPush_any HD6.out (by have:=hm06.size;omega) k hk32 (by have:=HLT.out;omega) HH.out
   clear hm4 hit4 hI4 hI6 hB5 hm5 hm6 hm46 hs5;go_upto_region 7 with(fail);refine wpR [3,1,1,1,1] ?_;simp only[stz]
   refine wpX rfl (exec_mkIface _ 178 (.pointer (some ⟨hb,0,none⟩)) (by rfl) (by rfl) pdg_noIface) trivial ?_;try simp only[nmz]
   refine wpXA 24 w4.heap.size 0 (qA k) (CellsAt.whole hB6) underlying24 32 hic trivial ?_;try simp only[nmz]
   refine wpX rfl (exec_mkIface _ 24 (.agg (qA k)) (by rfl) (by rfl) id_noIface) trivial ?_;try simp only[nmz]
   refine wpD (wpC func103 (hpush) ?_);rintro e7 w7 ⟨rfl,l7,hp7,hh7,v7,hd7,hm7,hv7⟩
   have hit7:¬(it=hb\/v.ownBlock=some it):=fun e=>e.elim (fun e=>by omega) (fun e=>hvit it e rfl)
   have hmst7:¬(ms=hb\/v.ownBlock=some ms):=fun e=>e.elim (fun e=>by omega) (fun e=>by have:=(HD.out.row.lt e).1;omega);refine⟨_,rfl,?_⟩;simp only[stz]
   have hrel7:IdR1 w ms it hb w.heap.size es clk (.pointer (some ⟨w4.heap.size,0,none⟩)) w7:=by
    refine⟨xs++[e],l0++[k],l7,v7,?_,?_,hp7.trans (HPL.out.append_right _),hh7,hd7,?_,fun q hq=>?_⟩
    ·obtain⟨h1,c0,h2,h3,h4⟩:=HI6.out
     exact⟨hm7.obj hmst7 h1,c0,h2,hm7.obj hit7 h3,h4⟩
    ·rw[List.map_append,List.map_append,HXK.out]
     simp[HEK.out]
    ·exact hm06.trans hm7 (fun j hj ej=>by
      rcases ej with ej|ej
      ·omega
      ·have:=(HD.out.row.lt ej).1;omega)
    ·rcases hv7 q hq with e1|e1
     ·exact hvit q e1
     ·intro e2
      have:=(Array.getElem?_eq_some_iff.1 (HI6.out.2.choose_spec.2.1)).1;omega
   have hleft7:seenLeft it (bl.length+1) w7<seenLeft it (bl.length+1) wr:=by
    obtain⟨xs',l0',l',v',hI',hxk',-⟩:=id hrel7;obtain⟨h1,c0,h2,h3,h4⟩:=HI6.out;have h37:=hm7.obj hit7 h3;rw[jE h37,HLEFT.out];have:=HLT.out
    simp
    omega
   have HR7:=hid hrel7;have HL7:=hid hleft7;clear hrel7 hleft7 hp7 hh7 hd7 hm7 hv7 hm hm04 hm06 hB6 hpush;go_wp2
   go_roundw
   case rel=>exact HR7.out
   case measure=>exact HL7.out
  |false=>
   obtain⟨hperm,hw4⟩:=HNO.out rfl;obtain rfl:=hw4
   have hpids:l.Perm (bl.map (·.id)):=by
    refine HPL.out.trans ?_;refine perm_of_map (fun _ _=>idV_inj) ?_
    show List.Perm (l0.map idV) _
    rw[<-HXK.out,<-HKEYS.out];exact hperm.map _
   have hlf:l.length<=10000:=by rw[hpids.length_eq];simpa using hfew
   have hnl:l.Nodup:=hpids.nodup_iff.2 HND.out;have HPI:=hid hpids;have HNL:=hid hnl;clear hperm hpids hnl HNO HYES hI hvs;have hln:=dgLen_of HD.out
   have hgr:=fun(w':World)=>growI_nil l.length (by omega) w';go_upto_region 8 with(fail);refine wpR [3,3,1,1,1,3] ?_;simp only[stz]
   refine wpXd (v:=v) 179 hb 0 HD.out.cell underlying179 trivial ?_;try simp only[nmz]
   refine wpD (wpC func105 (hln) ?_);rintro e5 w5 ⟨rfl,hw⟩;obtain rfl:=hw.symm;refine⟨_,rfl,?_⟩;try simp only[nmz]
   refine wpD (wpC func104 (hgr _) ?_);rintro e5 w6 ⟨ov,rfl,hg6,hm6⟩;refine⟨_,rfl,?_⟩;simp only[stz]
   have HR2:Hid (IdR2 w hb w.heap.size l ov w6):=hid ⟨[],l,v,hg6.base hm.size,by simp,by simp,by simp,HH.out,HD.out.keep0 hm6,hm.trans0 hm6,fun q hq=>⟨fun e=>by
    have:=(hg6.lt hq).1;have:=(Array.getElem?_eq_some_iff.1 HD.out.box).1;omega,fun e=>by
    have:=(hg6.lt hq).1;have:=(HD.out.row.lt e).2
    omega⟩⟩
   clear hm hm6 hg6 hvit hln hgr;go_wp2
   go_loopw [5] (IdR2 w hb w.heap.size l) (fun _ wx=>dgLeft hb wx)
   case atStart=>exact HR2.out
   case round=>
    rename World=>wq
    obtain⟨out,l1,v1,hg,hpo,hso,hlo,hh1,hd1,hm1,hdj⟩:=hrel;have HG:=hid hg;have HPO:=hid hpo;have HSO:=hid hso;have HLO:=hid hlo;have HH1:=hid hh1
    have HD1:=hid hd1;have HDJ:=hid hdj;have hll1:out.length+l1.length=l.length:=by have:=hpo.length_eq;simpa using this
    have hln1:=dgLen_of hd1;have hbq:w.heap.size<=wq.heap.size:=hm1.size;have HLQ:=hid (dgLeft_eq hd1);clear hg hpo hso hlo hh1 hd1 hdj
    by_cases hne:l1.length=0
    ·have hz:¬((l1.length:Nat):Int)>0:=by omega
     have hnil:l1=[]:=List.eq_nil_of_length_eq_zero hne;go_upto_region 9 with(fail);refine wpR [3,3,1,1,3] ?_;simp only[stz]
     refine wpXd (v:=v1) 179 hb 0 HD1.out.cell underlying179 trivial ?_;try simp only[nmz]
     refine wpD (wpC func105 (hln1) ?_);rintro e8 w8 ⟨rfl,hw⟩;obtain rfl:=hw.symm;refine⟨_,rfl,?_⟩;try simp only[nmz]
     refine qC (v:=?_) rfl (fun w'=>?_) ?_;rotate_left;·(go_simp;try with_reducible rfl)
     simp only[stz]
     have HF:Hid (IDsC (cont bl) out):=hid ⟨HSO.out,by
      have h1:=HPO.out;rw[hnil,List.append_nil]at h1;rw[HCM.out]
      exact h1.trans HPI.out⟩
     have HM1:=hid hm1;clear hm1 hln1;go_wp2;go_ret;exact⟨HM1.out,_,out,rfl,HG.out,HF.out⟩
    ·have hz:((l1.length:Nat):Int)>0:=by omega
     go_upto_region 9 with(fail);refine wpR [3,3,1,1,3] ?_;simp only[stz];refine wpXd (v:=v1) 179 hb 0 HD1.out.cell underlying179 trivial ?_;try simp only[nmz]
     refine wpD (wpC func105 (hln1) ?_);rintro e8 w8 ⟨rfl,hw⟩;obtain rfl:=hw.symm;refine⟨_,rfl,?_⟩;try simp only[nmz]
     refine qC (v:=?_) rfl (fun w'=>?_) ?_;rotate_left;·(go_simp;try with_reducible rfl)
     simp only[stz];have hpop:=heapPop_any HD1.out hbq (by omega) HH1.out;clear hln1;go_upto_region 10 with(fail);refine wpR [3,3,1,1,1,1,1,3] ?_;simp only[stz]
     refine wpX rfl (exec_mkIface _ 178 (.pointer (some ⟨hb,0,none⟩)) (by rfl) (by rfl) pdg_noIface) trivial ?_;try simp only[nmz]
     refine wpD (wpC func106 (hpop) ?_);rintro e9 w9 ⟨x,l9,rfl,hx32,hp9,hh9,hmin,v9,hd9,hm9,hv9⟩;have HE9:=hid (idE_eq hx32)
     have hic9:(qA x).size=32:=by rw[qB,hx32]
     have hg9:=HG.out.keep hm9 (fun q hq e=>e.elim (HDJ.out q hq).1 (fun e=>(HDJ.out q hq).2 e))
     have hdj9:∀q,u5.ownBlock=some q->q≠hb/\v9.ownBlock≠some q:=fun q hq=>⟨(HDJ.out q hq).1,fun e=>(hv9 q e).elim (HDJ.out q hq).2 (fun e=>by have:=(HG.out.lt hq).2;omega)⟩
     refine⟨_,rfl,?_⟩;try simp only[nmz]
     refine wpX rfl (exec_assert _ _ 24 (.agg (qA x)) (by rfl) (by rfl) id_noIface) trivial ?_;try simp only[nmz]
     refine wpD (qQ 25 24 _ (.agg (qA x)) (.agg (qA (List.replicate 32 0))) 32 (by rfl) (by rfl) underlying25 (by kernel_rfl) (by omega) (by omega) hic9 (fun wa hBa hma hsa=>?_))
     have hsrc:=src_lit (enc:=idE) (e:=24) (x:=x) jM (by rw[HE9.out];exact hBa);have hga:=hg9.keep0 hma;have hda:=hd9.keep0 hma
     have hsza:w.heap.size<=wa.heap.size:=by have:=hm9.size;have:=hma.size;omega
     try simp only[nmz]
     refine wpD (wp_gatV idE _ _ 25 24 (.agg (qA (List.replicate 32 0))) 32 32 (by rfl) underlying25 id_i (by kernel_rfl) (by omega) idE_one w.heap.size _ out (by rfl) hga _ [x] (by rfl) hsrc (by unfold maxLen;simp;omega) (by simp;omega) hsza (fun ov2 wb hgb hmb hvvb=>?_))
     have hdb:=hda.keep hmb (fun e=>(hdj9 hb e).1 rfl) (fun q hq e=>(hdj9 q e).2 hq);simp only[stz];have hxin:x∈l1:=hp9.subset (by simp)
     have hnd1:(out++l1).Nodup:=HPO.out.nodup_iff.2 HNL.out;have hnd9:(x::l9).Nodup:=hp9.nodup_iff.2 (List.nodup_append.1 hnd1).2.1
     have HRB:Hid (IdR2 w hb w.heap.size l ov2 wb):=hid (by
      refine⟨out++[x],l9,v9,hgb,?_,sorted_snoc HSO.out (fun a ha=>HLO.out a ha x hxin),fun a ha b hb'=>?_,hh9,hdb,?_,fun q hq=>?_⟩
      ·rw[List.append_assoc,List.singleton_append]
       exact(hp9.append_left out).trans HPO.out
      ·have hbl1:b∈l1:=hp9.subset (by simp[hb'])
       rcases List.mem_append.1 ha with ha|ha
       ·exact HLO.out a ha b hbl1
       ·simp at ha
        subst ha;exact lt_of_le_ne (hmin b hbl1) (fun e=>(List.nodup_cons.1 hnd9).1 (by rw[e];exact hb'))
      ·refine((hm1.trans hm9 (fun k hk e=>?_)).trans0 hma).trans hmb (fun k hk e=>?_)
       ·rcases e with e|e
        ·omega
        ·have:=(HD1.out.row.lt e).1;omega
       ·have:=(hga.lt e).1;omega
      ·rcases hvvb with e|e
       ·rw[e]at hq;exact hdj9 q hq
       ·rw[e]at hq
        have hq':wa.heap.size=q:=Option.some.inj hq;have h1:=(Array.getElem?_eq_some_iff.1 hda.box).1;refine⟨by omega,fun e2=>?_⟩;have:=(hda.row.lt e2).2
        omega)
     have HLB:Hid (dgLeft hb wb<dgLeft hb wq):=hid (by
      rw[dgLeft_eq hdb,HLQ.out];have:=hp9.length_eq
      simp at this
      omega)
     clear hm1 hp9 hh9 hmin hd9 hm9 hv9 hg9 hdj9 hBa hma hsa hsrc hga hda hgb hmb hvvb hdb hxin hnd1 hnd9 hpop;go_wp2
     go_roundw
     case rel=>exact HRB.out
     case measure=>exact HLB.out
end
end
section
open Go.RowKit Go.Shelf Go.Sort Go.Proofs.Tryz Go.Lib
abbrev IdS:={x:List UInt8//IdOk x}
instance:Inhabited IdS:=⟨⟨List.replicate 32 0,by simp[IdOk]⟩⟩
def idES(x:IdS):Value:=idV x.1
theorem xS{x:List UInt8}(h:IdOk x):(qA x).size=32:=by rw[qB];exact h
theorem idZ_size:(qA (List.replicate 32 0)).size=32:=by rw[qB];simp
def IdsRelM(mb it:Nat)(es:Array MapEntry)(clk:Nat)(J:List IdS->World->Prop)(_:Value)(w:World):Prop:=
 ∃xs ks,IterAt w mb it es clk xs/\xs.map (·.key)=ks.map idES/\J ks w
theorem keysC_any(w:World)(mb:Nat):Calls prog 161 #[.map (some mb)] w fun e w'=>e=.returned (.func (.func 216) #[] #[.pointer (some ⟨w.heap.size,0,none⟩)])/\w'=w.alloc (.cells #[.map (some mb)] 144):=by
 have hmf:=xG;go_enter func161,ntmps161;go_wp2;go_ret;exact⟨rfl,rfl⟩
theorem keysC_stops(n:Nat)(hn:1<=n)(w:World)(Bm mb:Nat)(l:List (List UInt8×Value))(hB:w.heap[Bm]?=some (.cells #[.map (some mb)] 144 (0,0)))(hM:MapIs idV IdOk w mb l):
 SeqStopsK Fence.wide n prog 216 #[.pointer (some ⟨Bm,0,none⟩)] (fun k:IdS=>#[idES k]) KeepsWalks (fun ks=>(ks.map (·.1)).Perm (l.map (·.1))) (fun _=>True) l.length w:=by
 intro y J Jx W hW hJ hJx hY h0;have hMW:=Mod.of_below0 hW;have hBW:=hMW.obj id hB;have hMM:=hM.keep0 hMW;obtain⟨⟨es,clk,hb,hkd,hbo,hbn⟩,_,hok⟩:=hMM
 have hc:W.cell? ⟨Bm,0,none⟩=some (.map (some mb)):=by simp[World.cell?,hBW]
 have hkeys:es.toList.map (·.key)=(l.map (·.1)).map idV:=by
  have:=congrArg (List.map (·.1)) hkd
  simpa[List.map_map,Function.comp_def]using this
 have hsize:es.size=l.length:=by have:=congrArg List.length hkd;simpa using this
 have HKEYS:=hid hkeys;have HSIZE:=hid hsize;clear hkeys hsize hkd hB hM hBW;refine callsIn_wide.2 ?_;go_enter func216,ntmps216;go_upto_region 0 with(fail)
 refine wpR [1,1] ?_;simp only[stz];refine wpXd 144 Bm 0 hc underlying144 trivial ?_;try simp only[nmz]
 refine wpD (wp_rangeM 144 24 152 _ mb es clk (by rfl) (by rfl) underlying144 hb (fun w1 hit1 hm1 hs1=>?_));simp only[stz]
 have hI1:IterAt w1 mb W.heap.size es clk []:=⟨hm1.obj id hb,clk,Nat.le_refl _,hit1,by simp,by simp⟩
 have hJ1:J [] w1:=hJ [] W w1 none h0 hm1.grownNone (fun r e=>by cases e);clear hm1 hb hc h0 hit1;go_wp2
 go_loopw [3] (IdsRelM mb W.heap.size es clk J) (fun _ wx=>seenLeft W.heap.size (l.length+1) wx)
 case atStart=>exact⟨[],[],hI1,rfl,hJ1⟩
 case round=>
  rename_i wr
  obtain⟨xs,ks,hI,hxk,hJr⟩:=hrel;have HXK:=hid hxk;have hlen:ks.length=xs.length:=by have:=congrArg List.length hxk;simpa using this.symm
  have HLEN:=hid hlen;clear hxk hlen;obtain⟨_,c0,_,hitr,_⟩:=id hI;have hleft:=jE (n:=l.length+1) hitr;have HLEFT:=hid hleft;clear hleft
  go_upto_region 1 with(fail);refine wpR [1,3] ?_;simp only[stz];refine qL rfl (fun K hK=>?_)
  refine wp_nextM _ mb W.heap.size es clk xs (by rfl) (by rfl) hI hbo hbn (fun hp=>?_) (fun e w2 he hI2 hlt hm2 hs2 hit2=>?_)
  ·refine hK _ _ trivial ?_
   refine qC (v:=.bool false) rfl (fun w'=>?_) ?_
   ·go_simp
   simp only[stz];go_wp2
   go_end0
   refine⟨⟨_,rfl⟩,.inl ⟨ks,?_,hJr⟩⟩;refine perm_of_map (fun _ _=>idV_inj) ?_;rw[<-HKEYS.out,List.map_map]
   show List.Perm (ks.map idES) _
   rw[<-HXK.out];exact hp.map _
  refine hK _ _ trivial ?_;clear hK K;try simp only[nmz]
  refine qC (v:=?_) rfl (fun w'=>?_) ?_;rotate_left;·(go_simp;try with_reducible rfl)
  simp only[stz];have hJ2:J ks w2:=hJ ks wr w2 (some W.heap.size) hJr hm2.grownAt (fun r e=>by cases e;exact⟨Nat.le_refl _,_,hitr,rfl⟩)
  obtain⟨k,hkl,hek⟩:∃k∈l.map (·.1),idV k=e.key:=List.mem_map.1 (by rw[<-HKEYS.out];exact List.mem_map.2 ⟨e,he,rfl⟩)
  have hkok:IdOk k:=by
   obtain⟨p,hp,rfl⟩:=List.mem_map.1 hkl;exact hok p hp
  have HEK:=hid hek;have HSZ:=hid hs2;clear hek hs2 hitr hJr hI hm2;go_upto_region 2 with(fail);refine wpR [1,3,1,1] ?_;simp only[stz]
  refine wpX rfl (v:=.tuple #[idV k,e.val]) ((exec_entryM _ mb W.heap.size es clk e _ (by rfl) (by rfl) hI2.1 hit2 he hbn).trans (by rw[HEK.out])) trivial ?_;try simp only[nmz]
  refine qC (v:=?_) rfl (fun w'=>?_) ?_;rotate_left;·(go_simp;try with_reducible rfl)
  simp only[nmz];refine wpD (qN 24 _ (by rfl) idZ (fun w3 hB3 hm3 hs3=>?_))
  replace hB3:w3.heap[w2.heap.size]?=some (.cells (qA (List.replicate 32 0)) 24 (0,0)):=hB3;try simp only[nmz]
  refine wpD (qF 24 _ _ w2.heap.size 0 (qA k) (by rfl) (by rfl) (by rfl) (qP k) 32 (by kernel_rfl) (xS hkok) _ _ hB3 (by rw[xS hkok,idZ_size];omega) (fun w4 hB4 hm4=>?_))
  have hm24:Mod NoB w2 w4:=hm3.transB hm4 (Nat.le_refl _);simp only[stz];rw[qD (by rw[xS hkok,idZ_size])]at hB4
  have hI4:IterAt w4 mb W.heap.size es clk (xs++[e]):=by
   obtain⟨h1,c0,h2,h3,h4⟩:=hI2;exact⟨hm24.obj id h1,c0,h2,hm24.obj id h3,h4⟩
  have hJ4:J ks w4:=hJ ks w2 w4 none hJ2 hm24.grownNone (fun r e=>by cases e);have hca:CellsAt w4 w2.heap.size 0 (qA k):=CellsAt.whole hB4
  have hYk:=hY ks ⟨k,hkok⟩ w4 hJ4 (by rw[HLEN.out,<-HSIZE.out];exact hlt);clear hJ2 hB3 hm3 hs3 hm4 hit2 hI2 hJ4;go_upto_region 3 with(fail)
  refine(wpIn_wide (n:=n)).1 (wpIn_region_lit ?_);refine wpListIn_plain rfl fun K hK=>zN (fun c h=>by cases h) ?_;refine zS (exec_move _ (by rfl)) ?_
  refine hK _ _ ?_;clear hK K;refine wpListIn_plain rfl fun K hK=>zN (fun c h=>by cases h) ?_
  refine zS (zK 24 _ (by rfl) w2.heap.size 0 (by rfl) (qA k) hca _ underlying24 rfl 32 (by kernel_rfl) (xS hkok)) ?_;refine hK _ _ ?_;clear hK K
  refine wpListIn_plain rfl fun K hK=>wpIn_yield (l:=y) _ _ _ (by rfl) (by rfl) (idV k) (by rfl) hYk (fun e' w5 he'=>?_)
  rcases he' with⟨rfl,hJ5,hk5⟩|⟨rfl,hJx5⟩
  rotate_left
  ·refine⟨_,rfl,?_⟩
   refine hK _ _ ?_;clear hK K;refine wpListIn_plain rfl fun K hK=>zN (fun c h=>by cases h) ?_;refine zS (exec_not _ _ false (by rfl) (by rfl)) ?_;refine hK _ _ ?_
   clear hK K;simp only[nmz];refine wpListIn_nil ?_;go_wp2;refine bodyPost_ret (results_none (by rfl) _ _ _) rfl ?_;exact⟨⟨_,rfl⟩,.inr ⟨_,trivial,hJx5⟩⟩
  refine⟨_,rfl,?_⟩;refine hK _ _ ?_;clear hK K;refine wpListIn_plain rfl fun K hK=>zN (fun c h=>by cases h) ?_;refine zS (exec_not _ _ true (by rfl) (by rfl)) ?_
  refine hK _ _ ?_;clear hK K;simp only[nmz];refine wpListIn_nil ?_
  have hI5:IterAt w5 mb W.heap.size es clk (xs++[e]):=by
   obtain⟨h1,c0,h2,h3,h4⟩:=hI4;exact⟨hk5.same _ _ h1 rfl,c0,h2,hk5.same _ _ h3 rfl,h4⟩
  have hrk:(xs++[e]).map (·.key)=(ks++[(⟨k,hkok⟩:IdS)]).map idES:=by
   rw[List.map_append,List.map_append,HXK.out];simp[idES,HEK.out]
  obtain⟨_,c5,_,hit5,_⟩:=id hI5;have hleft5:=jE (n:=l.length+1) hit5;have HL5:=hid hleft5;have HRK:=hid hrk;clear hleft5 hrk hit5;go_wp2
  go_roundw
  case rel=>exact⟨xs++[e],ks++[⟨k,hkok⟩],hI5,HRK.out,hJ5⟩
  case measure=>rw[HL5.out,HLEFT.out];have:=HSIZE.out;simp;omega
theorem keysW_any(w:World)(mb:Nat):Calls prog 193 #[.map (some mb)] w fun e w'=>e=.returned (.func (.func 230) #[] #[.pointer (some ⟨w.heap.size,0,none⟩)])/\w'=w.alloc (.cells #[.map (some mb)] 200):=by
 have hmf:=xG;go_enter func193,ntmps193;go_wp2;go_ret;exact⟨rfl,rfl⟩
theorem keysW_stops(n:Nat)(hn:1<=n)(w:World)(Bm mb:Nat)(l:List (List UInt8×Value))(hB:w.heap[Bm]?=some (.cells #[.map (some mb)] 200 (0,0)))(hM:MapIs idV IdOk w mb l):
 SeqStopsK Fence.wide n prog 230 #[.pointer (some ⟨Bm,0,none⟩)] (fun k:IdS=>#[idES k]) KeepsWalks (fun ks=>(ks.map (·.1)).Perm (l.map (·.1))) (fun _=>True) l.length w:=by
 intro y J Jx W hW hJ hJx hY h0;have hMW:=Mod.of_below0 hW;have hBW:=hMW.obj id hB;have hMM:=hM.keep0 hMW;obtain⟨⟨es,clk,hb,hkd,hbo,hbn⟩,_,hok⟩:=hMM
 have hc:W.cell? ⟨Bm,0,none⟩=some (.map (some mb)):=by simp[World.cell?,hBW]
 have hkeys:es.toList.map (·.key)=(l.map (·.1)).map idV:=by
  have:=congrArg (List.map (·.1)) hkd
  simpa[List.map_map,Function.comp_def]using this
 have hsize:es.size=l.length:=by have:=congrArg List.length hkd;simpa using this
 have HKEYS:=hid hkeys;have HSIZE:=hid hsize;clear hkeys hsize hkd hB hM hBW;refine callsIn_wide.2 ?_;go_enter func230,ntmps230;go_upto_region 0 with(fail)
 refine wpR [1,1] ?_;simp only[stz];refine wpXd 200 Bm 0 hc underlying200 trivial ?_;try simp only[nmz]
 refine wpD (wp_rangeM 200 24 216 _ mb es clk (by rfl) (by rfl) underlying200 hb (fun w1 hit1 hm1 hs1=>?_));simp only[stz]
 have hI1:IterAt w1 mb W.heap.size es clk []:=⟨hm1.obj id hb,clk,Nat.le_refl _,hit1,by simp,by simp⟩
 have hJ1:J [] w1:=hJ [] W w1 none h0 hm1.grownNone (fun r e=>by cases e);clear hm1 hb hc h0 hit1;go_wp2
 go_loopw [3] (IdsRelM mb W.heap.size es clk J) (fun _ wx=>seenLeft W.heap.size (l.length+1) wx)
 case atStart=>exact⟨[],[],hI1,rfl,hJ1⟩
 case round=>
  rename_i wr
  obtain⟨xs,ks,hI,hxk,hJr⟩:=hrel;have HXK:=hid hxk;have hlen:ks.length=xs.length:=by have:=congrArg List.length hxk;simpa using this.symm
  have HLEN:=hid hlen;clear hxk hlen;obtain⟨_,c0,_,hitr,_⟩:=id hI;have hleft:=jE (n:=l.length+1) hitr;have HLEFT:=hid hleft;clear hleft
  go_upto_region 1 with(fail);refine wpR [1,3] ?_;simp only[stz];refine qL rfl (fun K hK=>?_)
  refine wp_nextM _ mb W.heap.size es clk xs (by rfl) (by rfl) hI hbo hbn (fun hp=>?_) (fun e w2 he hI2 hlt hm2 hs2 hit2=>?_)
  ·refine hK _ _ trivial ?_
   refine qC (v:=.bool false) rfl (fun w'=>?_) ?_
   ·go_simp
   simp only[stz];go_wp2
   go_end0
   refine⟨⟨_,rfl⟩,.inl ⟨ks,?_,hJr⟩⟩;refine perm_of_map (fun _ _=>idV_inj) ?_;rw[<-HKEYS.out,List.map_map]
   show List.Perm (ks.map idES) _
   rw[<-HXK.out];exact hp.map _
  refine hK _ _ trivial ?_;clear hK K;try simp only[nmz]
  refine qC (v:=?_) rfl (fun w'=>?_) ?_;rotate_left;·(go_simp;try with_reducible rfl)
  simp only[stz];have hJ2:J ks w2:=hJ ks wr w2 (some W.heap.size) hJr hm2.grownAt (fun r e=>by cases e;exact⟨Nat.le_refl _,_,hitr,rfl⟩)
  obtain⟨k,hkl,hek⟩:∃k∈l.map (·.1),idV k=e.key:=List.mem_map.1 (by rw[<-HKEYS.out];exact List.mem_map.2 ⟨e,he,rfl⟩)
  have hkok:IdOk k:=by
   obtain⟨p,hp,rfl⟩:=List.mem_map.1 hkl;exact hok p hp
  have HEK:=hid hek;have HSZ:=hid hs2;clear hek hs2 hitr hJr hI hm2;go_upto_region 2 with(fail);refine wpR [1,3,1,1] ?_;simp only[stz]
  refine wpX rfl (v:=.tuple #[idV k,e.val]) ((exec_entryM _ mb W.heap.size es clk e _ (by rfl) (by rfl) hI2.1 hit2 he hbn).trans (by rw[HEK.out])) trivial ?_;try simp only[nmz]
  refine qC (v:=?_) rfl (fun w'=>?_) ?_;rotate_left;·(go_simp;try with_reducible rfl)
  simp only[nmz];refine wpD (qN 24 _ (by rfl) idZ (fun w3 hB3 hm3 hs3=>?_))
  replace hB3:w3.heap[w2.heap.size]?=some (.cells (qA (List.replicate 32 0)) 24 (0,0)):=hB3;try simp only[nmz]
  refine wpD (qF 24 _ _ w2.heap.size 0 (qA k) (by rfl) (by rfl) (by rfl) (qP k) 32 (by kernel_rfl) (xS hkok) _ _ hB3 (by rw[xS hkok,idZ_size];omega) (fun w4 hB4 hm4=>?_))
  have hm24:Mod NoB w2 w4:=hm3.transB hm4 (Nat.le_refl _);simp only[stz];rw[qD (by rw[xS hkok,idZ_size])]at hB4
  have hI4:IterAt w4 mb W.heap.size es clk (xs++[e]):=by
   obtain⟨h1,c0,h2,h3,h4⟩:=hI2;exact⟨hm24.obj id h1,c0,h2,hm24.obj id h3,h4⟩
  have hJ4:J ks w4:=hJ ks w2 w4 none hJ2 hm24.grownNone (fun r e=>by cases e);have hca:CellsAt w4 w2.heap.size 0 (qA k):=CellsAt.whole hB4
  have hYk:=hY ks ⟨k,hkok⟩ w4 hJ4 (by rw[HLEN.out,<-HSIZE.out];exact hlt);clear hJ2 hB3 hm3 hs3 hm4 hit2 hI2 hJ4;go_upto_region 3 with(fail)
  refine(wpIn_wide (n:=n)).1 (wpIn_region_lit ?_);refine wpListIn_plain rfl fun K hK=>zN (fun c h=>by cases h) ?_;refine zS (exec_move _ (by rfl)) ?_
  refine hK _ _ ?_;clear hK K;refine wpListIn_plain rfl fun K hK=>zN (fun c h=>by cases h) ?_
  refine zS (zK 24 _ (by rfl) w2.heap.size 0 (by rfl) (qA k) hca _ underlying24 rfl 32 (by kernel_rfl) (xS hkok)) ?_;refine hK _ _ ?_;clear hK K
  refine wpListIn_plain rfl fun K hK=>wpIn_yield (l:=y) _ _ _ (by rfl) (by rfl) (idV k) (by rfl) hYk (fun e' w5 he'=>?_)
  rcases he' with⟨rfl,hJ5,hk5⟩|⟨rfl,hJx5⟩
  rotate_left
  ·refine⟨_,rfl,?_⟩
   refine hK _ _ ?_;clear hK K;refine wpListIn_plain rfl fun K hK=>zN (fun c h=>by cases h) ?_;refine zS (exec_not _ _ false (by rfl) (by rfl)) ?_;refine hK _ _ ?_
   clear hK K;simp only[nmz];refine wpListIn_nil ?_;go_wp2;refine bodyPost_ret (results_none (by rfl) _ _ _) rfl ?_;exact⟨⟨_,rfl⟩,.inr ⟨_,trivial,hJx5⟩⟩
  refine⟨_,rfl,?_⟩;refine hK _ _ ?_;clear hK K;refine wpListIn_plain rfl fun K hK=>zN (fun c h=>by cases h) ?_;refine zS (exec_not _ _ true (by rfl) (by rfl)) ?_
  refine hK _ _ ?_;clear hK K;simp only[nmz];refine wpListIn_nil ?_
  have hI5:IterAt w5 mb W.heap.size es clk (xs++[e]):=by
   obtain⟨h1,c0,h2,h3,h4⟩:=hI4;exact⟨hk5.same _ _ h1 rfl,c0,h2,hk5.same _ _ h3 rfl,h4⟩
  have hrk:(xs++[e]).map (·.key)=(ks++[(⟨k,hkok⟩:IdS)]).map idES:=by
   rw[List.map_append,List.map_append,HXK.out];simp[idES,HEK.out]
  obtain⟨_,c5,_,hit5,_⟩:=id hI5;have hleft5:=jE (n:=l.length+1) hit5;have HL5:=hid hleft5;have HRK:=hid hrk;clear hleft5 hrk hit5;go_wp2
  go_roundw
  case rel=>exact⟨xs++[e],ks++[⟨k,hkok⟩],hI5,HRK.out,hJ5⟩
  case measure=>rw[HL5.out,HLEFT.out];have:=HSIZE.out;simp;omega
def idLS(k:IdS):List Value:=(qA k.1).toList
theorem idLS_one(k:IdS):∀c∈idLS k,c.oneCell'=true:=fun c hc=>qP k.1 c (by simpa[idLS]using hc)
theorem idLS_len(k:IdS):(idLS k).length=32:=by
 have:=xS k.2
 simp[idLS,this]
def GotI(n0:Nat)(Bs:Nat)(ks:List IdS)(w:World):Prop:=∃v,Boxed w Bs 25 v/\w.ownsRow n0 24 32 v ks.length (ks.flatMap idLS)
theorem gotI_own(n0 Bs:Nat):Own (GotI n0 Bs):=by
 intro s A B row hs hg hr;obtain⟨v,h1,h2⟩:=hs
 obtain⟨v,h1,h2,_⟩:=holdsRow_own n0 Bs 25 24 32 (fun ks:List IdS=>ks.length) (fun ks=>ks.flatMap idLS) (fun _ _=>True) s A B row ⟨v,h1,h2,trivial⟩ hg hr
 exact⟨v,h1,h2⟩
def AxI(fv:Value)(Bs:Nat)(x:IdS)(a:Act)(w:World):Prop:=∃Bx,w.heap[Bx]?=some (.cells (qA x.1) 24 (0,0))/\a={ tmps:=#[.slice none 0 0,fv,.pointer (some ⟨Bs,0,none⟩),undef,.slice none 0 0,.pointer (some ⟨Bx,0,none⟩),fv,idES x,undef,undef,undef,undef,undef],defers:=[] }
theorem appendSeqI_any(n:Nat)(hn:3<=n)(g:Nat)(lb:Array Value)(eg:∀args w,(callFunc g args).run prog w=.ok (.enter g args) w)(S Sp:List IdS->Prop)(N:Nat)(hN:N<=65536)(w:World)(hseq:SeqStopsK Fence.wide (n-1) prog g lb (fun k:IdS=>#[idES k]) KeepsWalks S Sp N w):
 Calls prog 246 #[.slice none 0 0,.func (.func g) #[] lb] w fun e w'=>∃v ks,e=.returned v/\S ks/\w'.ownsRow w.heap.size 24 32 v ks.length (ks.flatMap idLS)/\Below w.heap.size w w':=by
 refine(callsIn_wide (n:=n)).1 (callsIn_of_wp_marks func246 rfl trivial ?_ rfl)
 simp only[ntmps246,List.size_toArray,List.length_cons,List.length_nil,Nat.reduceAdd,Nat.reduceSub,Array.replicate_succ,Array.replicate_zero,List.push_toArray,List.append_toArray,List.nil_append,List.cons_append]
 gi_wp2
 obtain⟨W0,hW0⟩:∃W0,w.alloc (.cells #[.slice none 0 0] 25)=W0:=⟨_,rfl⟩;have hs0:W0.heap.size=w.heap.size+1:=by rw[<-hW0];simp
 have hv0:Boxed W0 w.heap.size 25 (.slice none 0 0):=by rw[<-hW0];exact World.alloc_heap_new w _
 have hb0:Below w.heap.size w W0:=by rw[<-hW0];exact(Below.refl _ w).alloc (Nat.le_refl _) _
 rw[hW0];clear hW0
 refine wpIn_rangeFunc_ownH rfl (by omega) (gf:=g) (lb:=lb) (by rfl) trivial eg hseq walksK_t walksK_b hb0 (fun _=>rfl)
  (fun ks W=>GotI w.heap.size w.heap.size ks W/\Below w.heap.size w W) (fun _ _ _=>False)
  (OwnFrom.and (Own.from (gotI_own _ _) _) (ownFrom_below (Nat.le_refl _) (by omega)))
  (fun _ _ _ _ _ hs _ _=>hs)
  ⟨⟨_,hv0,World.ownsRow_nil _ _ _ _⟩,hb0⟩
  (AxI (.func (.func g) #[] lb) w.heap.size)
  (fun x a' s A B row hs hg hr=>by
   obtain⟨Bx,h1,rfl⟩:=hs;refine⟨Bx,(hg.block Bx (Array.getElem?_eq_some_iff.1 h1).1 (fun e=>?_)).trans h1,rfl⟩;obtain⟨_,o,ho,hc⟩:=hr Bx e.symm
   rw[h1]at ho;cases ho;cases hc)
  ?assign ?body ?done ?stop
 case assign=>
  rintro l pre x W K ⟨⟨v,hv,hrow⟩,hB⟩ hK0
  simp only[List.zip_toArray,List.zip_cons_cons,List.zip_nil_right,List.foldl_toArray',List.foldl_cons,List.foldl_nil,List.setIfInBounds_toArray,ss,sz]
  refine wpIn_region_lit ?_;refine qV rfl rfl fun K hK=>?_;refine qN 24 _ (by rfl) idZ (fun w3 hB3 hm3 hs3=>?_)
  replace hB3:w3.heap[W.heap.size]?=some (.cells (qA (List.replicate 32 0)) 24 (0,0)):=hB3;refine hK _ _ ?_;clear hK K;refine qV rfl rfl fun K hK=>?_
  refine qF 24 _ _ W.heap.size 0 (qA x.1) (by rfl) (by rfl) (by rfl) (qP x.1) 32 (by kernel_rfl) (xS x.2) _ _ hB3 (by rw[xS x.2,idZ_size];omega) (fun w4 hB4 hm4=>?_)
  have hm24:Mod NoB W w4:=hm3.transB hm4 (Nat.le_refl _);rw[qD (by rw[xS x.2,idZ_size])]at hB4;refine hK _ _ ?_;clear hK K;refine wpListIn_nil ?_
  refine hK0 _ _ (hm24.keepsOthers0.from _) hm24.keepsOthers0.walks ⟨⟨v,hm24.obj id hv,zE hrow hm24 (fun _ _=>id)⟩,hB.trans (hm24.below0.mono hB.size)⟩ ⟨W.heap.size,hB4,rfl⟩
 case body=>
  rintro l pre x a' W hl ⟨r,hr⟩ ⟨⟨v,hv,hrow⟩,hB⟩ ⟨Bx,hBx,rfl⟩ hlt;have hvc:=hv.cell;have hca:CellsAt W Bx 0 (qA x.1):=CellsAt.whole hBx;refine wpIn_block ?_
  refine wpIn_region_lit ?_;refine qV rfl rfl fun K hK=>?_;refine zS (zA 25 _ (by rfl) w.heap.size 0 (by rfl) v hvc _ underlying25 rfl) ?_;refine hK _ _ ?_
  clear hK K;refine qV rfl rfl fun K hK=>?_
  refine zS (zK 24 _ (by rfl) Bx 0 (by rfl) (qA x.1) hca _ underlying24 rfl 32 (by kernel_rfl) (xS x.2)) ?_;refine hK _ _ ?_;clear hK K;simp only[nmz]
  refine qV rfl rfl fun K hK=>?_
  refine qQ 25 24 _ (.agg (qA x.1)) (.agg (qA (List.replicate 32 0))) 32 (by rfl) (by rfl) underlying25 (by kernel_rfl) (by omega) (by omega) (xS x.2) (fun w3 hB3 hm3 hs3=>?_)
  refine hK _ _ ?_;clear hK K;simp only[nmz];have hv3:Boxed w3 w.heap.size 25 v:=hm3.obj id hv;have hrow3:=zE hrow hm3 (fun _ _=>id)
  have hb3:=hm3.below0.mono hB.size;have hsz:=hB.size;have hplen:=hlt;refine qV rfl rfl fun K hK=>?_
  refine xJ _ _ 25 24 (.agg (qA (List.replicate 32 0))) 32 32 (by rfl) underlying25 id_i (by kernel_rfl) (by omega) w.heap.size v pre.length (pre.flatMap idLS) (by rfl) hrow3 (.slice (some ⟨W.heap.size,0,none⟩) 1 1) 1 (idLS x) (by rfl) ⟨by simp[idLS_len],_,_,rfl,fun _=>⟨W.heap.size,0,rfl,fun j y hj=>?_⟩⟩ (idLS_one x) (by unfold maxLen;omega) (by omega) (by omega) (fun v' w4 hrow4 hg4 hv4=>?_)
  ·have:(qA x.1)[j]?=some y:=by simpa[idLS]using hj
   exact(CellsAt.whole hB3).cell this
  have hne:some w.heap.size≠v.ownBlock:=hv.not_row (by decide) hrow;have hbx4:Boxed w4 w.heap.size 25 v:=hv3.kept hg4 hne
  have hv1:v'.oneCell'=true:=by
   rcases hrow4.2 with⟨rfl,_⟩|⟨g,cap,cur,rfl,_⟩<;>rfl
  refine hK _ _ ?_;clear hK K;simp only[nmz];refine qV rfl rfl fun K hK=>?_
  refine qR 25 _ _ w.heap.size 0 v' (by rfl) (by rfl) (by rfl) hv1 (by kernel_rfl) _ _ hbx4 (by simp) (fun w5 hB5 hm5=>?_);replace hB5:Boxed w5 w.heap.size 25 v':=hB5
  refine hK _ _ ?_;clear hK K;refine wpListIn_nil ?_;have hne':some w.heap.size≠v'.ownBlock:=hbx4.not_row (by decide) hrow4
  have hrow5:=zE hrow4 hm5 (fun k hk e=>hne' (by rw[hk,e]))
  have hk4:KeepsOthers w3 w4:=KeepsOthers.of_grownBy hg4 (fun j o hj ho=>by
   rcases hrow3.2 with⟨rfl,_⟩|⟨g,cap,cur,rfl,_,hg,_⟩
   ·cases hj
   ·have e:g=j:=by simpa[Value.ownBlock]using hj
    subst e;rw[hg]at ho;cases ho;rfl)
  have hk5:KeepsOthers w4 w5:=hm5.keepsOthers (fun k o e ho=>by rw[e,hbx4]at ho;cases ho;rfl);have hko:=(hm3.keepsOthers0.trans hk4).trans hk5
  have hb4:Below w.heap.size w w4:=(hB.trans hb3).grown hg4 (by have:=hm3.size;omega) (fun k e=>(hrow3.lt k e).1)
  have hb5:Below w.heap.size w w5:=hb4.trans ⟨hm5.os,hm5.tape,hm5.output,hm5.size,fun k hk=>hm5.block k (by have:=hb4.size;omega) (fun e=>by have e:k=w.heap.size:=e;omega)⟩
  exact⟨hko.from _,hko.walks,⟨_,hB5,by simpa using hrow5⟩,hb5⟩
 case done=>
  rintro D ks W hD hks ⟨⟨v,hv,hrow⟩,hB⟩ hK;have hvc:=hv.cell
  gi_wp2
  refine⟨by simp,.inl ⟨_,_,rfl,run_takeDeferred hK,?_⟩⟩
  exact⟨_,results_tmp rfl _ _ _,v,ks,rfl,hks,ownsRow_putObj hrow _ hK rfl,hB.trans (belowK_b (w:=w) (Nat.le_refl _) W D _ _ (by omega) hK rfl rfl)⟩
 case stop=>
  rintro D c pre W _ _ h _;exact h.elim
theorem collectI_any(n:Nat)(hn:3<=n)(g:Nat)(lb:Array Value)(eg:∀args w,(callFunc g args).run prog w=.ok (.enter g args) w)(S Sp:List IdS->Prop)(N:Nat)(hN:N<=65536)(w:World)(hseq:SeqStopsK Fence.wide (n-1) prog g lb (fun k:IdS=>#[idES k]) KeepsWalks S Sp N w):
 Calls prog 214 #[.func (.func g) #[] lb] w fun e w'=>∃v ks,e=.returned v/\S ks/\w'.ownsRow w.heap.size 24 32 v ks.length (ks.flatMap idLS)/\Below w.heap.size w w':=by
 go_enter func214,ntmps214;go_wp2_with (go_at_call 246;refine(appendSeqI_any n hn g lb eg S Sp N hN _ hseq).mono ?_;rintro _ w1 ⟨v,ks,rfl,h1,h2,h3⟩);go_ret
 exact⟨v,ks,rfl,h1,h2,h3⟩
theorem isAggId(w:World):(isAgg 24).run prog w=.ok true w:=by
 unfold isAgg;rw[Sem.run_bind,run_underlying underlying24 w];rfl
def cfI(a b:IdS):Int:=cmpI a.1 b.1
theorem cfI_neg(a b:IdS):cfI a b<0↔a.1<b.1:=cmpI_neg _ _
theorem swoI:SWO (ltOf cfI):=swo_of cfI_neg (fun a=>List.lt_irrefl a.1) jG (fun a b=>by
 rcases ltB_tri a.1 b.1 with h|h|h
 ·exact .inl h
 ·exact .inr (.inl (Subtype.ext h))
 ·exact .inr (.inr h))
theorem sizeId(w:World):(Go.sizeOf 24).run prog w=.ok 32 w:=sizeOf_of (by kernel_rfl) w
def yM(ks:List IdS):List IdS:=ks.mergeSort fun x y=> !(ltOf cfI) y x
theorem sortIS_perm(ks:List IdS):(yM ks).Perm ks:=List.mergeSort_perm _ _
theorem sortIS_sorted{ks:List IdS}(hn:ks.Nodup):(yM ks).Pairwise (fun a b=>a.1<b.1):=by
 have hlt:∀a b:IdS,(!(ltOf cfI) b a)=true↔¬b.1<a.1:=fun a b=>by simp[ltOf,cfI_neg]
 have h:=List.pairwise_mergeSort (le:=fun x y=> !(ltOf cfI) y x) (fun a b c h1 h2=>by
  rw[hlt]at*;intro h
  rcases ltB_tri a.1 b.1 with h3|h3|h3
  ·exact h2 (jG h h3)
  ·rw[h3]at h;exact h2 h
  ·exact h1 h3) (fun a b=>by
  rw[Bool.or_eq_true,hlt,hlt]
  by_cases h:b.1<a.1
  ·exact .inr fun h'=>List.lt_irrefl _ (jG h h')
  ·exact .inl h) ks
 have hn2:(ks.mergeSort fun x y=> !(ltOf cfI) y x).Nodup:=(List.mergeSort_perm _ _).nodup_iff.2 hn;refine(h.and hn2).imp fun{a b} hab=>?_;have h1:=(hlt a b).1 hab.1
 rcases ltB_tri a.1 b.1 with h2|h2|h2
 ·exact h2
 ·exact absurd (Subtype.ext h2) hab.2
 ·exact absurd h2 h1
theorem cmpLaysI(g off size:Nat)(w:World):CmpLays prog 35 #[] idLS 32 cfI g off size w:=by
 intro m os dk _ x y;have h:=shaCompare_any x.1 y.1 x.2 y.2 (sortWorldK idLS 32 w g off m dk os)
 have e:(#[.agg (idLS x).toArray,.agg (idLS y).toArray]++#[]:Array Value)=#[.agg (qA x.1),.agg (qA y.1)]:=by simp[idLS]
 rw[e];refine h.mono ?_;rintro _ w' ⟨rfl,q,os',rfl⟩;exact⟨rfl,q,os',rfl⟩
theorem sortFuncI_any(v:Value)(ks:List IdS)(w:World)(base:Nat)(h:w.ownsRow base 24 32 v ks.length (ks.flatMap idLS))(hlen:ks.length<=65536):
 Calls prog 215 #[v,.func (.func 35) #[] #[]] w fun e w'=>e=.returned (.tuple #[])/\Mod (fun j=>v.ownBlock=some j) w w'/\w'.ownsRow base 24 32 v ks.length ((yM ks).flatMap idLS):=by
 rcases h.2 with⟨rfl,h0⟩|⟨g,cap,cur,rfl,hb,hg,hc,hm,hcs,ht⟩
 ·have:ks=[]:=List.eq_nil_of_length_eq_zero h0
  subst this;refine(AnyF.slices_SortFunc_none sortI none 0 _ w).mono ?_;rintro _ _ ⟨rfl,rfl⟩;have e:yM []=[]:=by simp[yM]
  rw[e];exact⟨rfl,Mod.refl _ _,by simp,.inl ⟨rfl,rfl⟩⟩
 ·have hH:HoldsK idLS 32 w g 0 ks.toArray:=holdsK_of_cells idLS_len (by omega) hg ht
  have hlt:g<w.heap.size:=(Array.getElem?_eq_some_iff.1 hg).1
  have hs:=AnyQ.slices_SortFunc_total sortI 32 isAggId sizeId idLS idLS_len idLS_one cfI swoI 35 #[] g 0 cap ks.toArray w (enters_of func35 (by kernel_rfl) rfl) (cmpLaysI g 0 _ w) hH hlt (by simp;omega) (fun x y h1 h2=>by
   simp only[ltOf,decide_eq_false_iff_not,cfI_neg]at h1 h2
   rcases ltB_tri x.1 y.1 with h|h|h
   ·exact absurd h h1
   ·exact Subtype.ext h
   ·exact absurd h h2)
  have e:ks.toArray.size=ks.length:=by simp
  rw[e]at hs;refine hs.mono ?_;rintro _ w' ⟨rfl,n,os,rfl⟩;have hM:Mod (fun j=>j=g) w (sortWorldK idLS 32 w g 0 n (yM ks).toArray os):=mod_sortWorldK
  have hH':=holdsK_sortWorldK_c idLS 32 w g 0 ks.toArray (yM ks).toArray n os hH hlt (by simp[(sortIS_perm ks).length_eq])
  refine⟨rfl,hM.mono (fun j _ e=>by subst e;rfl),?_⟩;have hl:(yM ks).length=ks.length:=(sortIS_perm ks).length_eq
  have key:(sortWorldK idLS 32 w g 0 n (yM ks).toArray os).ownsRow base 24 32 (.slice (some ⟨g,0,none⟩) ks.length cap) ks.length ((yM ks).flatMap idLS):=by
   obtain⟨cur',hg',hcs'⟩:∃cur',(sortWorldK idLS 32 w g 0 n (yM ks).toArray os).heap[g]?=some (.cells cur' 24 (0,0))/\cur'.size=cur.size:=by
    refine⟨putCells id 0 (flatK idLS 32 (yM ks).toArray) cur,?_,by simp[putCells]⟩
    show((mapBlock (Sort.ahead w n) g (putCells id 0 (flatK idLS 32 (yM ks).toArray))).heap++os)[g]?=_
    rw[Array.getElem?_append_left (by simpa[mapBlock,Sort.ahead]using hlt)]
    show((Sort.ahead w n).heap.modify g _)[g]?=_
    have hga:(Sort.ahead w n).heap[g]?=some (.cells cur 24 (0,0)):=hg;rw[Array.getElem?_modify,if_pos rfl,hga]
    rfl
   generalize sortWorldK idLS 32 w g 0 n (yM ks).toArray os=w9 at hH' hg' |-;have hfl:((yM ks).flatMap idLS).length=ks.length*32:=by rw[len_enc idLS_len,hl]
   have hle:ks.length*32<=cur'.toList.length:=by
    have h1:cur'.toList.length=cur'.size:=Array.length_toList;rw[h1,hcs',hcs];exact Nat.mul_le_mul_right _ hc
   refine⟨hfl,.inr ⟨g,cap,cur',rfl,hb,hg',hc,hm,by rw[hcs'];exact hcs,?_⟩⟩
   apply List.ext_getElem?
   intro t
   rcases Nat.lt_or_ge t (ks.length*32)with hlt'|hge
   ·rw[List.getElem?_take_of_lt hlt']
    have hi:t/32<(yM ks).length:=by rw[hl];exact Nat.div_lt_of_lt_mul (by rw[Nat.mul_comm];exact hlt')
    have hm32:t%32<32:=Nat.mod_lt _ (by omega);have hfe:=flat_enc idLS_len (yM ks) (t/32) hi (t%32) hm32;rw[Nat.mul_comm,Nat.div_add_mod]at hfe;rw[hfe]
    have hc9:=(hH' t (by simp[hl];exact hlt')).1;rw[Nat.zero_add,cell_of_row w9 g _ cur' 24 (0,0) hg']at hc9
    rw[Array.getElem?_toList,hc9,get_flatK _ _ _ _ (by simp[hl];exact hlt')];have e1:(yM ks).toArray[t/32]! =(yM ks)[t/32]:=by simp[hi]
    rw[e1];have e2:t%32<(idLS (yM ks)[t/32]).length:=by rw[idLS_len];exact hm32
    rw[List.getElem?_eq_getElem e2]
    show some ((idLS (yM ks)[t/32])[t%32]!)=some _
    rw[getElem!_pos (idLS (yM ks)[t/32]) (t%32) e2]
   ·rw[List.getElem?_eq_none (l:=cur'.toList.take (ks.length*32)) (by rw[List.length_take];omega),List.getElem?_eq_none (by rw[hfl];exact hge)]
  exact key
theorem sortedI_of{n:Nat}(hn:3<=n)(g:Nat)(lb:Array Value)(eg:∀args w,(callFunc g args).run prog w=.ok (.enter g args) w)(S Sp:List IdS->Prop)(N:Nat)(hN:N<=65536)(w:World)(hseq:SeqStopsK Fence.wide (n-1) prog g lb (fun k:IdS=>#[idES k]) KeepsWalks S Sp N w)(hSN:∀ks,S ks->ks.length<=65536):
 Calls prog 160 #[.func (.func g) #[] lb,.func (.func 35) #[] #[]] w (fun e w'=>∃v ks,e=.returned v/\S ks/\Mod NoB w w'/\w'.ownsRow w.heap.size 24 32 v ks.length ((yM ks).flatMap idLS)):=by
 have hc:=collectI_any n hn g lb eg S Sp N hN w hseq;go_enter func160,ntmps160;go_upto_region 2 with(go_at_call 214;refine hc.mono ?_;rintro _ w2 ⟨v,ks,rfl,hS,hrow,hb⟩)
 have hf:=sortFuncI_any v ks w2 _ hrow (hSN ks hS);have hvb:=hrow.lt;have hM2:=Mod.of_below0 hb;clear hrow hb hc hseq;refine wpR [3,3,1] ?_;simp only[stz]
 refine wpDo rfl ?_;go_wp2_with (go_at_call 215;refine hf.mono ?_;rintro _ w3 ⟨rfl,hm3,hsl⟩);simp only[stz];go_wp2;go_ret
 exact⟨v,ks,rfl,hS,hM2.trans hm3 (fun k hk e=>by have:=(hvb k e).1;omega),hsl⟩
theorem idLS_flat(ks:List IdS):ks.flatMap idLS=(ks.map (·.1)).flatMap idE:=by
 rw[List.flatMap_map]
 congr 1
 funext x
 show idL x.1=if x.1.length=32 then idL x.1 else List.replicate 32 (byteV 0)
 rw[if_pos (show x.1.length=32 from x.2)]
end
section
open Go.RowKit Go.Proofs.Tryz Go.Lib
def KC(W W':World):Prop:=Mod (fun k=>∀o,W.heap[k]?=some o->o.isCells=false) W W'
theorem KC.refl(W:World):KC W W:=Mod.refl _ W
theorem KC.obj{W W':World}(h:KC W W'){k:Nat}{o:Obj}(ho:W.heap[k]?=some o)(hc:o.isCells=true):W'.heap[k]?=some o:=
 Mod.obj h (fun hs=>by rw[hs o ho]at hc;cases hc) ho
theorem KC.trans{A B C:World}(h:KC A B)(k:KC B C):KC A C:=
 Mod.trans h k (fun i _ hs o ho=>by
  cases hc:o.isCells with
  |false=>rfl
  |true=>rw[<-hs o (h.obj ho hc),hc])
theorem KC.of_mod{S:Nat->Prop}{W W':World}(h:Mod S W W')(hS:∀k o,S k->W.heap[k]?=some o->o.isCells=false):KC W W':=
 h.mono fun k _ hk o ho=>hS k o hk ho
theorem KC.of0{W W':World}(h:Mod NoB W W'):KC W W':=KC.of_mod h fun _ _ h=>h.elim
theorem KC.putObj{W:World}{l:Nat}{o:Obj}(o':Obj)(h:W.heap[l]?=some o)(hc:o.isCells=false):KC W (W.putObj l o'):=
 KC.of_mod (S:=fun k=>k=l) ((Mod.refl _ W).grown (grownBy_putObj' W l o') (fun k e _=>by cases e;rfl)) (fun k o1 e ho=>by
  have e:k=l:=e
  subst e;rw[h]at ho;cases ho;exact hc)
theorem KC.cell{W W':World}(h:KC W W'){p:Addr}{v:Value}(hc:W.cell? p=some v):W'.cell? p=some v:=by
 obtain⟨o,ho,hk⟩:=cells_of_cell hc;exact(World.cell?_of_block ((h.obj ho hk).trans ho.symm)).trans hc
theorem KC.cells{W W':World}(h:KC W W'){b o:Nat}{cs:Array Value}(hc:CellsAt W b o cs):CellsAt W' b o cs:=fun i hx=>by
 have e:cs[i]?=some cs[i]:=Array.getElem?_eq_getElem hx;rw[e];exact h.cell ((hc i hx).trans e)
def Gives(P:Program){α:Type}(gf:Nat)(lb:Array Value)(encs:α->Array Value)(xs:List α)(w:World):Prop:=
 ∀(l:Nat)(J:List α->World->Prop)(W:World),Mod NoB w W->OwnFrom W.heap.size J->
  (∀pre x rest W1,xs=pre++x::rest->J pre W1->YieldAt Fence.wide 0 P l (encs x) W1 fun e W'=>e=.returned (.bool true)/\J (pre++[x]) W'/\KC W1 W'/\KeepsFrom W.heap.size W1 W')->
  J [] W->Calls P gf (#[.func (.yield l) #[] #[]]++lb) W fun e W'=>(∃v,e=.returned v)/\J xs W'
theorem OwnFrom.mod0{β:Type}{I:β->World->Prop}{B:Nat}(h:OwnFrom B I){s:β}{W W':World}(hs:I s W)(hm:Mod NoB W W'):I s W':=
 h s W W' none hs hm.grownNone (fun r e=>by cases e)
theorem yield0{m m':Nat}{P:Program}{l:Nat}{args:Array Value}{W:World}{R:Ending->World->Prop}(h:YieldAt Fence.wide m P l args W R):YieldAt Fence.wide m' P l args W R:=by
 obtain⟨fn,tmps,assign,body,hy,hR⟩:=h;exact⟨fn,tmps,assign,body,hy,hR.1,fun c cs _=>hR.2 c cs (room_wide _)⟩
theorem yield_round{m l₀:Nat}{P:Program}{l:Nat}{args:Array Value}{W:World}{R:Ending->World->Prop}(h:YieldAt Fence.wide m P l args W R):YieldAt (Fence.wide.inRound l₀) m P l args W R:=h
theorem wpIn_rangeFunc_giv{P:Program}{n:Nat}{α:Type}{g:Operand}{ps:Array Tmp}{assign body:Code}{Q:Exit->Act->World->Prop}{a:Act}{w:World}{gf:Nat}{lb:Array Value}(hg:a.eval g=.func (.func gf) #[] lb)
 (eg:∀args w,(callFunc gf args).run P w=.ok (.enter gf args) w){encs:α->Array Value}{xs:List α}{w0:World}(hseq:Gives P gf lb encs xs w0)(hb0:Mod NoB w0 w)(hps:∀x,(encs x).size=ps.size)
 (I:List α->World->Prop)(hI:OwnFrom w.heap.size I)(h0:I [] w)(Ax:α->Act->World->Prop)(hAx:∀x a',OwnFrom w.heap.size (fun(_:Unit) W=>Ax x a' W))
 (hassign:∀(l:Nat)(pre:List α)(x:α)(rest:List α)(W:World)(K:Act->World->Prop),xs=pre++x::rest->I pre W->(∀a' W',KeepsFrom w.heap.size W W'->KC W W'->I pre W'->Ax x a' W'->K a' W')->
  assign.wpIn (Fence.wide.inRound l) 0 P (Exit.then K (fun _ _ _=>False)) { tmps:=(ps.zip (encs x)).foldl (fun t (p,v)=>t.setIfInBounds p v) a.tmps,defers:=[] } W)
 (hbody:∀(l:Nat)(pre:List α)(x:α)(rest:List α)(a':Act)(W:World),xs=pre++x::rest->I pre W->Ax x a' W->
  body.wpIn (Fence.wide.inRound l) 0 P (Exit.then (fun _ W'=>KeepsFrom w.heap.size W W'/\KC W W'/\I (pre++[x]) W') (fun _ _ _=>False)) a' W)
 (hdone:∀(D:Nat)(W:World),w.heap.size<=D->I xs W->W.heap[D]?=some (.deferred (some []))->Q .normal { a with defers:={ target:=.collected D,args:=#[] }::a.defers } W):
 (Code.rangeFunc g ps assign body).wpIn Fence.wide n P Q a w:=by
 refine wpIn_rangeFunc ?_;intro fn hfn;rw[show Fence.wide.round=none from rfl]
 obtain⟨rec,hrec⟩:∃rec:LoopState->Loop,rec=fun st=>{ state:=st,pending:=none,fn,tmps:=a.tmps,params:=ps,assign,body,defers:=w.heap.size }:=⟨_,rfl⟩
 obtain⟨W1,hW1⟩:∃W1,(w.alloc (.deferred (some []))).alloc (.loop (rec .ready))=W1:=⟨_,rfl⟩;have hs1:W1.heap.size=w.heap.size+2:=by rw[<-hW1];simp
 have hL1:W1.heap[w.heap.size+1]?=some (.loop (rec .ready)):=by
  rw[<-hW1];have:=World.alloc_heap_new (w.alloc (.deferred (some []))) (.loop (rec .ready));rwa[World.size_alloc]at this
 have hK1:W1.heap[w.heap.size]?=some (.deferred (some [])):=by
  rw[<-hW1];exact(Below.heap_alloc _ _ _ (by simp)).trans (World.alloc_heap_new w _)
 have hI1:I [] W1:=by rw[<-hW1];exact hI.alloc _ (hI.alloc _ h0)
 have hb1:Mod NoB w0 W1:=by rw[<-hW1];exact(hb0.alloc _).alloc _
 refine⟨w.heap.size+1,[{ target:=.collected w.heap.size,args:=#[] }],W1,{ target:=.fn (.func gf) lb,args:=#[.func (.yield (w.heap.size+1)) #[] #[]] },W1,gf,
  #[.func (.yield (w.heap.size+1)) #[] #[]]++lb,W1,?_,?_,?_,?_,fun h=>(by simp[Fence.wide]at h),?_⟩
 ·rw[<-hW1,hrec];exact run_enterLoop_outer _ _ _ _ _
 ·simp only[resolve,hg]
  simp[go_sem]
 ·intro f' _;trivial
 ·simp[invoke,go_sem,eg]
 ·have hold:∀{A B:World}{row:Option Nat}{k:Nat}{o:Obj},A.grownBy B row->(∀r,row=some r->W1.heap.size<=r/\∃o:Obj,A.heap[r]?=some o/\o.isCells=false)->k<W1.heap.size->A.heap[k]?=some o->B.heap[k]?=some o:=
   fun hg hr hk ho=>(hg.block _ (Array.getElem?_eq_some_iff.1 ho).1 (fun e=>by have:=(hr _ e.symm).1;omega)).trans ho
  have hcalls:=hseq (w.heap.size+1) (fun pre W=>I pre W/\W.heap[w.heap.size+1]?=some (.loop (rec .ready))/\W.heap[w.heap.size]?=some (.deferred (some []))) W1 hb1
   (fun s A B row hs hg' hr=>⟨hI s A B row hs.1 hg' (fun r e=>⟨by have:=(hr r e).1;omega,(hr r e).2⟩),hold hg' hr (by omega) hs.2.1,hold hg' hr (by omega) hs.2.2⟩)
   ?_ ⟨hI1,hL1,hK1⟩
  ·refine(callsIn_wide.2 hcalls).mono ?_
   rintro e W2 ⟨⟨v,rfl⟩,hi,hl,hk⟩
   exact⟨none,_,by have:=run_endLoop (P:=P) hl (by rw[hrec];simp);rw[hrec]at this;exact this,hdone _ _ (Nat.le_refl _) (hI.putObj _ hi (by omega) hl rfl) ((World.putObj_heap_other (by omega)).trans hk)⟩
  ·rintro pre x rest W hxs ⟨hi,hl,hk⟩
   have hlt:w.heap.size+1<W.heap.size:=(Array.getElem?_eq_some_iff.1 hl).1;have hy:=run_yield (P:=P) (args:=encs x) hl (by rw[hrec];exact hps x);rw[hrec]at hy
   refine⟨fn,_,assign,body,hy,roundIn_of_wpIn hfn (hassign _ pre x rest W _ hxs hi ?_)⟩;clear hy;intro a' Wa hkfa hkca hia hax;have hla:=hkfa.same _ _ (by omega) hl rfl
   have hka:=hkfa.same _ _ (Nat.le_refl _) hk rfl;have hlta:w.heap.size+1<Wa.heap.size:=(Array.getElem?_eq_some_iff.1 hla).1
   refine⟨_,run_beginRound hla (by rw[hrec]),?_⟩;obtain⟨Wb,hWb⟩:∃Wb,Wa.putObj (w.heap.size+1) (.loop { rec .ready with state:=.busy })=Wb:=⟨_,rfl⟩
   have hlb:Wb.heap[w.heap.size+1]?=some (.loop { rec .ready with state:=.busy }):=by rw[<-hWb];exact World.putObj_heap_same hlta
   have hkb:Wb.heap[w.heap.size]?=some (.deferred (some [])):=by rw[<-hWb];exact(World.putObj_heap_other (by omega)).trans hka
   have hcb:KC Wa Wb:=by rw[<-hWb];exact KC.putObj _ hla rfl
   have hfb:KeepsFrom W1.heap.size Wa Wb:=by
    rw[<-hWb];exact KeepsFrom.of_grownBy (grownBy_putObj' Wa _ _) (fun j e=>by cases e;omega)
   have hib:I pre Wb:=by rw[<-hWb];exact hI.putObj _ hia (by omega) hla rfl
   have haxb:Ax x a' Wb:=by rw[<-hWb];exact(hAx x a').putObj (s:=()) _ hax (by omega) hla rfl
   rw[hWb];refine wpIn_mono (hbody _ pre x rest a' _ hxs hib haxb) ?_;rintro e a3 W3 hp
   cases e with
   |normal=>
    obtain⟨hk3,hc3,hi3⟩:=hp;have hl3:=hk3.same _ _ (by omega) hlb rfl;have hq3:=hk3.same _ _ (Nat.le_refl _) hkb rfl;have hr:=run_endRound (P:=P) none hl3
    rw[hrec]at hr hl3
    refine⟨_,_,hr,rfl,⟨hI.putObj _ hi3 (by omega) hl3 rfl,?_,(World.putObj_heap_other (by omega)).trans hq3⟩,((hkca.trans hcb).trans hc3).trans (KC.putObj _ hl3 rfl),?_⟩
    ·rw[hrec];exact World.putObj_heap_same (Array.getElem?_eq_some_iff.1 hl3).1
    ·refine KeepsFrom.trans (KeepsFrom.trans (KeepsFrom.trans ?_ hfb) ?_) (KeepsFrom.of_grownBy (grownBy_putObj' W3 _ _) (fun j e=>by cases e;omega))
     ·exact⟨hkfa.size,fun k o hb ho hc=>hkfa.same k o (by omega) ho hc⟩
     ·exact⟨hk3.size,fun k o hb ho hc=>hk3.same k o (by omega) ho hc⟩
   |_=>exact hp.elim
end
section
open Go.Proofs.Tryz Go.Lib
abbrev BlobM:=List (List UInt8×List UInt8)
def descsOf(c:BlobM)(id:List UInt8):Option (List DescL):=match getL id c with
 |none=>none
 |some b=>(decL b).map jR
def jL(d:DescL):Bool:=d.media==3||d.media==4
def inR(c:BlobM):Nat->List UInt8->Nat->List UInt8->Prop
 |0,_,_,_=>False
 |f+1,id,depth,x=>x=id\/depth<=4/\∃ds,descsOf c id=some ds/\∃d∈ds,if jL d then inR c f d.id (depth+1) x else x=d.id
abbrev Marks:=List (List UInt8×Nat)
def wasM(all:Marks)(id:List UInt8)(depth:Nat):Bool:=match getL id all with
 |none=>false
 |some k=>decide (0<k)&&decide (k<=depth)
def leafM(all:Marks)(id:List UInt8):Marks:=if(getL id all).isSome then all else putL id 0 all
def yI(c:BlobM):Nat->List UInt8->Nat->Marks->Marks
 |0,_,_,all=>all
 |f+1,id,depth,all=>
  if wasM all id depth then all
  else if 4<depth then putL id depth all
  else match descsOf c id with
   |none=>putL id depth all
   |some ds=>ds.foldl (fun all d=>if jL d then yI c f d.id (depth+1) all else leafM all d.id) (putL id depth all)
def LeM(a b:Marks):Prop:=∀x k,getL x a=some k->∃k',getL x b=some k'/\(0<k->0<k'/\k'<=k)
theorem LeM.refl(a:Marks):LeM a a:=fun _ k h=>⟨k,h,fun h=>⟨h,Nat.le_refl _⟩⟩
theorem LeM.trans{a b d:Marks}(h:LeM a b)(h':LeM b d):LeM a d:=fun x k hx=>by
 obtain⟨k1,h1,h2⟩:=h x k hx;obtain⟨k3,h3,h4⟩:=h' x k1 h1;exact⟨k3,h3,fun h0=>⟨(h4 (h2 h0).1).1,Nat.le_trans (h4 (h2 h0).1).2 (h2 h0).2⟩⟩
def DoneE(c:BlobM)(all:Marks)(x:List UInt8)(k:Nat):Prop:=k<=4->∀ds,descsOf c x=some ds->∀d∈ds,
 if jL d then ∃k',getL d.id all=some k'/\0<k'/\k'<=k+1 else(getL d.id all).isSome=true
theorem DoneE.mono{c:BlobM}{a b:Marks}{x:List UInt8}{k:Nat}(h:DoneE c a x k)(hl:LeM a b):DoneE c b x k:=fun hk ds hds d hd=>by
 have:=h hk ds hds d hd
 split at this
 ·rename_i ht
  rw[if_pos ht];obtain⟨k',h1,h2,h3⟩:=this;obtain⟨k2,h4,h5⟩:=hl _ _ h1;exact⟨k2,h4,(h5 h2).1,Nat.le_trans (h5 h2).2 h3⟩
 ·rename_i ht
  rw[if_neg ht];obtain⟨k',hk'⟩:=Option.isSome_iff_exists.1 this;obtain⟨k2,h4,_⟩:=hl _ _ hk';rw[h4];rfl
theorem putL_le{all:Marks}{id:List UInt8}{depth:Nat}(h0:0<depth)(h:wasM all id depth=false):LeM all (putL id depth all):=fun x k hx=>by
 rw[getL_put]
 split
 ·rename_i e
  subst e;refine⟨depth,rfl,fun hk=>⟨h0,?_⟩⟩;simp only[wasM,hx,Bool.and_eq_false_iff,decide_eq_false_iff_not]at h;omega
 ·exact⟨k,hx,fun h=>⟨h,Nat.le_refl _⟩⟩
theorem leafM_le(all:Marks)(id:List UInt8):LeM all (leafM all id):=fun x k hx=>by
 unfold leafM
 split
 ·exact⟨k,hx,fun h=>⟨h,Nat.le_refl _⟩⟩
 ·rename_i hn
  rw[getL_put]
  split
  ·rename_i e;subst e;rw[hx]at hn;exact absurd rfl hn
  ·exact⟨k,hx,fun h=>⟨h,Nat.le_refl _⟩⟩
theorem leafM_has(all:Marks)(id:List UInt8):(getL id (leafM all id)).isSome=true:=by
 unfold leafM
 split
 ·assumption
 ·rw[getL_put,if_pos rfl];rfl
def NewDone(c:BlobM)(a b:Marks):Prop:=∀x k,getL x b=some k->0<k->DoneE c b x k\/getL x a=some k
theorem NewDone.trans{c:BlobM}{a b d:Marks}(h:NewDone c a b)(h':NewDone c b d)(hl:LeM b d):NewDone c a d:=fun x k hx hk=>by
 rcases h' x k hx hk with h1|h1
 ·exact .inl h1
 ·rcases h x k h1 hk with h2|h2
  ·exact .inl (h2.mono hl)
  ·exact .inr h2
theorem leafM_new(c:BlobM)(all:Marks)(id:List UInt8):NewDone c all (leafM all id):=fun x k hx hk=>by
 unfold leafM at hx
 split at hx
 ·exact .inr hx
 ·rw[getL_put]at hx
  split at hx
  ·simp only[Option.some.injEq]at hx;omega
  ·exact .inr hx
theorem leafM_keys(all:Marks)(id x:List UInt8):(getL x (leafM all id)).isSome=true↔(getL x all).isSome=true\/x=id:=by
 unfold leafM
 split
 ·rename_i h
  exact⟨.inl,fun h'=>h'.elim (fun h=>h) (fun e=>by rw[e];exact h)⟩
 ·rw[getL_put]
  split<;>simp_all
structure ReachOk(c:BlobM)(f:Nat)(id:List UInt8)(depth:Nat)(a b:Marks):Prop where
 le:LeM a b
 own:∃k,getL id b=some k/\0<k/\k<=depth
 new:NewDone c a b
 keys:∀x,(getL x b).isSome=true->(getL x a).isSome=true\/inR c f id depth x
theorem reach_ok(c:BlobM):∀(f:Nat)(id:List UInt8)(depth:Nat)(all:Marks),0<depth->depth+f=6->0<f->ReachOk c f id depth all (yI c f id depth all)
 |0,_,_,_,_,_,h=>by omega
 |f+1,id,depth,all,h0,hf,_=>by
  unfold yI
  by_cases hw:wasM all id depth=true
  ·rw[if_pos hw]
   refine⟨.refl _,?_,fun x k hx _=>.inr hx,fun x hx=>.inl hx⟩;unfold wasM at hw
   split at hw
   ·cases hw
   ·rename_i k hk
    simp only[Bool.and_eq_true,decide_eq_true_eq]at hw;exact⟨k,hk,hw.1,hw.2⟩
  ·rw[if_neg hw]
   simp only[Bool.not_eq_true]at hw;have hle:=putL_le h0 hw;have hown:getL id (putL id depth all)=some depth:=by rw[getL_put,if_pos rfl]
   have hkeys:∀x,(getL x (putL id depth all)).isSome=true->(getL x all).isSome=true\/x=id:=fun x hx=>by
    rw[getL_put]at hx
    split at hx
    ·rename_i e;exact .inr e
    ·exact .inl hx
   have hstop:∀(hd:4<depth\/descsOf c id=none),ReachOk c (f+1) id depth all (putL id depth all):=fun hd=>
    ⟨hle,⟨depth,hown,h0,Nat.le_refl _⟩,fun x k hx hk=>by
     rw[getL_put]at hx
     split at hx
     ·rename_i e
      subst e;simp only[Option.some.injEq]at hx;subst hx
      left
      intro h4 ds hds
      rcases hd with hd|hd
      ·omega
      ·rw[hd]at hds;cases hds
     ·exact .inr hx,fun x hx=>(hkeys x hx).imp_right fun e=>.inl e⟩
   by_cases hd:4<depth
   ·rw[if_pos hd];exact hstop (.inl hd)
   ·rw[if_neg hd]
    cases hds:descsOf c id with
    |none=>exact hstop (.inr hds)
    |some ds=>
     dsimp only
     have hfold:∀(ds':List DescL)(all1:Marks),(∀d∈ds',d∈ds)->
      LeM all1 (ds'.foldl (fun all d=>if jL d then yI c f d.id (depth+1) all else leafM all d.id) all1)/\
      NewDone c all1 (ds'.foldl (fun all d=>if jL d then yI c f d.id (depth+1) all else leafM all d.id) all1)/\
      (∀d∈ds',if jL d then ∃k',getL d.id (ds'.foldl (fun all d=>if jL d then yI c f d.id (depth+1) all else leafM all d.id) all1)=some k'/\0<k'/\k'<=depth+1
       else(getL d.id (ds'.foldl (fun all d=>if jL d then yI c f d.id (depth+1) all else leafM all d.id) all1)).isSome=true)/\
      (∀x,(getL x (ds'.foldl (fun all d=>if jL d then yI c f d.id (depth+1) all else leafM all d.id) all1)).isSome=true->(getL x all1).isSome=true\/inR c (f+1) id depth x):=by
      intro ds'
      induction ds' with
      |nil=>exact fun all1 _=>⟨.refl _,fun x k hx _=>.inr hx,(fun d hd=>by cases hd),fun x hx=>.inl hx⟩
      |cons d ds' ih=>
       intro all1 hsub;rw[List.foldl_cons];have hdm:d∈ds:=hsub d (by simp)
       have hone:∃all2,(if jL d then yI c f d.id (depth+1) all1 else leafM all1 d.id)=all2/\LeM all1 all2/\NewDone c all1 all2/\
        (if jL d then ∃k',getL d.id all2=some k'/\0<k'/\k'<=depth+1 else(getL d.id all2).isSome=true)/\(∀x,(getL x all2).isSome=true->(getL x all1).isSome=true\/inR c (f+1) id depth x):=by
        refine⟨_,rfl,?_⟩
        by_cases ht:jL d=true
        ·simp only[ht,if_true]
         have hr:=reach_ok c f d.id (depth+1) all1 (by omega) (by omega) (by omega)
         exact⟨hr.le,hr.new,hr.own,fun x hx=>(hr.keys x hx).imp_right fun hi=>.inr ⟨by omega,ds,hds,d,hdm,by rw[if_pos ht];exact hi⟩⟩
        ·simp only[ht,Bool.false_eq_true,if_false]
         refine⟨leafM_le _ _,leafM_new _ _ _,leafM_has _ _,fun x hx=>?_⟩
         rcases(leafM_keys _ _ _).1 hx with hx|hx
         ·exact .inl hx
         ·exact .inr (.inr ⟨by omega,ds,hds,d,hdm,by rw[if_neg ht];exact hx⟩)
       obtain⟨all2,h1,h2,h3,h4,h5⟩:=hone;rw[h1];obtain⟨k1,k2,k3,k4⟩:=ih all2 (fun d hd=>hsub d (by simp[hd]))
       refine⟨h2.trans k1,h3.trans k2 k1,fun e he=>?_,fun x hx=>(k4 x hx).elim (h5 x) .inr⟩
       rcases List.mem_cons.1 he with rfl|he
       ·split at h4
        ·rename_i ht
         rw[if_pos ht];obtain⟨k',g1,g2,g3⟩:=h4;obtain⟨k'',g4,g5⟩:=k1 _ _ g1;exact⟨k'',g4,(g5 g2).1,Nat.le_trans (g5 g2).2 g3⟩
        ·rename_i ht
         rw[if_neg ht];obtain⟨k',hk'⟩:=Option.isSome_iff_exists.1 h4;obtain⟨k2',g4,_⟩:=k1 _ _ hk';rw[g4];rfl
       ·exact k3 e he
     obtain⟨k1,k2,k3,k4⟩:=hfold ds (putL id depth all) (fun _ h=>h);refine⟨hle.trans k1,?_,fun x k hx hk=>?_,fun x hx=>?_⟩
     ·obtain⟨k',g1,g2⟩:=k1 _ _ hown
      exact⟨k',g1,(g2 h0).1,(g2 h0).2⟩
     ·rcases k2 x k hx hk with h1|h1
      ·exact .inl h1
      ·rw[getL_put]at h1
       split at h1
       ·rename_i e
        subst e;simp only[Option.some.injEq]at h1;subst h1
        left
        intro _ ds' hds' d hd;rw[hds]at hds';cases hds';exact k3 d hd
       ·exact .inr h1
     ·rcases k4 x hx with h1|h1
      ·exact(hkeys x h1).imp_right fun e=>.inl e
      ·exact .inr h1
def Closed(c:BlobM)(all:Marks):Prop:=∀x k,getL x all=some k->0<k->DoneE c all x k
theorem closed_in{c:BlobM}{all:Marks}(h:Closed c all):∀(f:Nat)(id:List UInt8)(depth k:Nat)(x:List UInt8),getL id all=some k->0<k->k<=depth->inR c f id depth x->(getL x all).isSome=true
 |0,_,_,_,_,_,_,_,hi=>hi.elim
 |f+1,id,depth,k,x,hg,h0,hk,hi=>by
  rcases hi with rfl|⟨h4,ds,hds,d,hd,hx⟩
  ·rw[hg];rfl
  ·have:=h id k hg h0 (by omega) ds hds d hd
   split at hx
   ·rename_i ht
    rw[if_pos ht]at this;obtain⟨k',h1,h2,h3⟩:=this;exact closed_in h f d.id (depth+1) k' x h1 h2 (by omega) hx
   ·rename_i ht
    rw[if_neg ht]at this;rw[hx];exact this
theorem reach_closed{c:BlobM}{all:Marks}(h:Closed c all)(id:List UInt8):Closed c (yI c 5 id 1 all):=fun x k hx hk=>by
 have hr:=reach_ok c 5 id 1 all (by omega) (by omega) (by omega)
 rcases hr.new x k hx hk with h1|h1
 ·exact h1
 ·exact(h x k h1 hk).mono hr.le
theorem reach_keys{c:BlobM}{all:Marks}(h:Closed c all)(id x:List UInt8):(getL x (yI c 5 id 1 all)).isSome=true↔(getL x all).isSome=true\/inR c 5 id 1 x:=by
 have hr:=reach_ok c 5 id 1 all (by omega) (by omega) (by omega);refine⟨hr.keys x,fun hx=>?_⟩
 rcases hx with hx|hx
 ·obtain⟨k,hk⟩:=Option.isSome_iff_exists.1 hx
  obtain⟨k',h1,_⟩:=hr.le _ _ hk;rw[h1];rfl
 ·obtain⟨k,h1,h2,h3⟩:=hr.own
  exact closed_in (reach_closed h id) 5 id 1 k x h1 h2 h3 hx
def MarkOf(c:BlobM)(roots l:List (List UInt8)):Prop:=l.Pairwise (fun a b=>a<b)/\∀x,x∈l↔∃r∈roots,inR c 5 r 1 x
def marksL(c:BlobM)(roots:List (List UInt8)):Marks:=roots.foldl (fun all id=>yI c 5 id 1 all) []
theorem marks_keys(c:BlobM)(roots:List (List UInt8)):∀x,(getL x (marksL c roots)).isSome=true↔∃r∈roots,inR c 5 r 1 x:=by
 have key:∀(roots:List (List UInt8))(all:Marks),Closed c all->∀x,(getL x (roots.foldl (fun all id=>yI c 5 id 1 all) all)).isSome=true↔(getL x all).isSome=true\/∃r∈roots,inR c 5 r 1 x:=by
  intro roots
  induction roots with
  |nil=>intro all _ x;simp
  |cons r roots ih=>
   intro all ha x;rw[List.foldl_cons,ih _ (reach_closed ha r) x,reach_keys ha]
   simp[or_assoc]
 intro x;have:=key roots [] (fun x k h=>by cases h) x
 simpa[marksL,getL]using this
end
section
open Go.RowKit Go.Shelf Go.Proofs.Tryz Go.Lib
def yD(m:Nat)(x:List UInt8)(n:Nat)(p:List UInt8):Array Value:=(.int .i64 m::(x.map byteV++[.int .i64 n,.string ⟨p.toArray⟩])).toArray
def qZ(d:DescL):Array Value:=yD d.media d.id d.size d.plat
theorem zZ{m:Nat}{x:List UInt8}{n:Nat}{p:List UInt8}(h:x.length=32):(yD m x n p).size=35:=by simp[yD,h]
theorem descRow_one(m:Nat)(x:List UInt8)(n:Nat)(p:List UInt8):∀c∈yD m x n p,c.oneCell'=true:=by
 intro c hc;simp only[yD,List.mem_toArray,List.mem_cons,List.mem_append,List.mem_map,List.not_mem_nil,or_false]at hc
 rcases hc with rfl|⟨x,_,rfl⟩|rfl|rfl<;>rfl
theorem descRow_put0(m k:Nat)(x:List UInt8)(n:Nat)(p:List UInt8):(yD m x n p).setIfInBounds 0 (.int .i64 k)=yD k x n p:=by
 apply Array.toList_inj.1
 simp[yD]
theorem descRow_put1{m:Nat}{x y:List UInt8}{n:Nat}{p:List UInt8}(hx:x.length=32)(hy:y.length=32):qY (yD m x n p) 1 (qA y)=yD m y n p:=by
 apply Array.toList_inj.1
 simp[yD,qY,qA,hx,hy]
theorem descRow_put33{m k:Nat}{x:List UInt8}{n:Nat}{p:List UInt8}(hx:x.length=32):(yD m x n p).setIfInBounds 33 (.int .i64 k)=yD m x k p:=by
 apply Array.toList_inj.1
 simp[yD,hx]
theorem descRow_put34{m:Nat}{x:List UInt8}{n:Nat}{p q:List UInt8}(hx:x.length=32):(yD m x n p).setIfInBounds 34 (.string ⟨q.toArray⟩)=yD m x n q:=by
 apply Array.toList_inj.1
 simp[yD,hx]
theorem descZ_i:(prog.info? 46).bind (·.zero)=some (.agg (qZ descZ)):=by kernel_rfl
theorem zeros32_len:zeros32.length=32:=by simp[zeros32]
theorem cell0{w:World}{b:Nat}{v u:Value}{T:TypeId}{fz:Nat×Nat}(h:w.heap[b]?=some (.cells #[v,u] T fz)):w.cell? ⟨b,0,none⟩=some v:=by simp[World.cell?,h]
section
variable{w:World}{rb wb:Nat}{bv:Value}{b:List UInt8}{a:Nat}{e p:Int}
theorem RdS.obj{w1 w2:World}{s:RS}{n:Nat}{o:Obj}(h:RdS w1 w2 rb wb bv b s)(hn:n≠rb/\n≠wb)(hc:w1.heap[n]?=some o):w2.heap[n]?=some o:=h.2.obj (fun e=>e.elim hn.1 hn.2) hc
def DescR(w:World)(rb wb:Nat)(bv:Value)(b:List UInt8)(d:DescL)(s:RS):Ending->World->Prop:=fun x w'=>RdS w w' rb wb bv b s/\x=.returned (.agg (qZ d))
theorem mDesc_any(h:RdI w rb wb bv b a e p)(size:Int):Calls prog 242 #[.agg #[.pointer (some ⟨rb,0,none⟩),.int .i64 size]] w (DescR w rb wb bv b (yJ b (stOf a e)).1 (yJ b (stOf a e)).2):=by
 have hall:=h.all;have hrl:=h.lts;obtain⟨m,hm⟩:∃m,rNumL b (stOf a e)=m:=⟨_,rfl⟩;obtain⟨i,hi⟩:∃i,rIDL b m.2=i:=⟨_,rfl⟩
 obtain⟨n,hn⟩:∃n,rNumL b i.2=n:=⟨_,rfl⟩;obtain⟨t,ht⟩:∃t,rBytesL b 4096 n.2=t:=⟨_,rfl⟩
 have hd:yJ b (stOf a e)=(⟨m.1,i.1,n.1,t.1⟩,t.2):=by unfold yJ;simp only[hm,hi,hn,ht]
 rw[hd];have hnum:=fun(w':World)(a':Nat)(e' p':Int)(h':RdI w' rb wb bv b a' e' p')=>rNum_any h'
 have HN1:Hid (∀w',RdS w w' rb wb bv b (stOf a e)->Calls prog 240 #[.pointer (some ⟨rb,0,none⟩)] w' (NumR w' rb wb bv b m.1 m.2)):=hid (fun w' hw'=>by
  obtain⟨⟨a',e',p',h',hs⟩,-⟩:=hw';have:=rNum_any h'
  rwa[hs,hm]at this)
 have HN2:Hid (∀w',RdS w w' rb wb bv b m.2->Calls prog 284 #[.pointer (some ⟨rb,0,none⟩)] w' (IDR w' rb wb bv b i.1 i.2)):=hid (fun w' hw'=>by
  obtain⟨⟨a',e',p',h',hs⟩,-⟩:=hw';have:=rID_any h'
  rwa[hs,hi]at this)
 have HN3:Hid (∀w',RdS w w' rb wb bv b i.2->Calls prog 240 #[.pointer (some ⟨rb,0,none⟩)] w' (NumR w' rb wb bv b n.1 n.2)):=hid (fun w' hw'=>by
  obtain⟨⟨a',e',p',h',hs⟩,-⟩:=hw';have:=rNum_any h'
  rwa[hs,hn]at this)
 have HN4:Hid (∀w',RdS w w' rb wb bv b n.2->Calls prog 241 #[.pointer (some ⟨rb,0,none⟩),.int .i64 (4096:Nat)] w' (TextR w' rb wb bv b t.1 t.2)):=hid (fun w' hw'=>by
  obtain⟨⟨a',e',p',h',hs⟩,-⟩:=hw';have:=rText_any h' 4096 (Nat.le_refl _)
  rwa[hs,ht]at this)
 have hil:i.1.length=32:=by
  have:=(rIDL_ok (b:=b) (s:=m.2) (by rw[<-hm];exact rNumL_ok.1)).2
  rwa[hi]at this
 have HR0:Hid (RdS w w rb wb bv b (stOf a e)):=hid h.stay;have hzl:=zeros32_len;have his:(qA i.1).size=32:=by rw[qB,hil]
 obtain⟨m,s1⟩:=m;obtain⟨i,s2⟩:=i;obtain⟨n,s3⟩:=n;obtain⟨t,s4⟩:=t
 dsimp only at HN1 HN2 HN3 HN4 hil his |-
 clear h hm hi hn ht hd hnum;go_enter func242,ntmps242;go_upto_region 0 with(fail);refine wpR [1,1] ?_;simp only[stz]
 refine wpD (zL 307 _ _ (by rfl) (by rfl) (fun wx hBx hmx hsx=>?_))
 replace hBx:wx.heap[w.heap.size]?=some (.cells #[.pointer (some ⟨rb,0,none⟩),.int .i64 size] 307 (0,0)):=hBx;try simp only[nmz]
 refine wpD (qN 46 _ (by rfl) descZ_i (fun w1 hB1 hm1 hs1=>?_));replace hB1:w1.heap[wx.heap.size]?=some (.cells (qZ descZ) 46 (0,0)):=hB1;simp only[stz]
 have hA1:=hm1.obj id hBx;have hb12:w.heap.size<wx.heap.size:=hsx;generalize hb1:w.heap.size=b1 at*;generalize hb2:wx.heap.size=b2 at*
 have HR1:Hid (RdS w w1 rb wb bv b (stOf a e)):=hid (by
  obtain⟨⟨a',e',p',h',hs⟩,-⟩:=HR0.out
  exact⟨⟨a',e',p',h'.keep0 (hmx.trans0 hm1),hs⟩,(hmx.trans0 hm1).mono (fun _ _ h=>h.elim)⟩)
 have HC1:=hid (cell0 hA1);replace hB1:w1.heap[b2]?=some (.cells (yD 0 zeros32 0 []) 46 (0,0)):=hB1
 replace hall:∀k,k=rb\/k=wb\/bv.ownBlock=some k->k<w.heap.size:=by rw[hb1];exact hall
 clear hmx hm1 HR0 hBx hsx hs1;go_upto_region 1 with(fail);refine wpR [3,1,1,3,1] ?_;simp only[stz]
 refine wpXd (v:=(.pointer (some ⟨rb,0,none⟩))) 304 b1 0 HC1.out underlying304 trivial ?_;try simp only[nmz]
 refine wpD (wpC func240 ((HN1.out _ HR1.out)) ?_);rintro e w1x ⟨rfl,hr⟩;have HR:=hid (HR1.out.trans hr);have HA:=hid (RdS.obj hr ⟨by omega,by omega⟩ hA1)
 have hB:=RdS.obj hr ⟨by omega,by omega⟩ hB1;clear hr;refine⟨_,rfl,?_⟩;simp only[stz]
 refine wpD (qR 3 _ _ b2 0 (.int .i64 m) (by rfl) (by rfl) (by rfl) rfl (by kernel_rfl) _ _ hB (by rw[zZ hzl];omega) (fun w2 hB2 hmS=>?_))
 rw[descRow_put0]at hB2;have HR2:Hid (RdS w w2 rb wb bv b _):=hid (HR.out.keepN hall (Nat.le_refl _) hmS (by omega));have hA2:=hmS.objB (by omega) HA.out
 have HC2:=hid (cell0 hA2);clear hmS hB HA HR HR1 hA1 hB1 HC1;simp only[stz];go_upto_region 2 with(fail);refine wpR [3,1,1,3,1] ?_;simp only[stz]
 refine wpXd (v:=(.pointer (some ⟨rb,0,none⟩))) 304 b1 0 HC2.out underlying304 trivial ?_;try simp only[nmz]
 refine wpD (wpC func284 ((HN2.out _ HR2.out)) ?_);rintro e w2x ⟨hr,rfl⟩;have HR:=hid (HR2.out.trans hr);have HA:=hid (RdS.obj hr ⟨by omega,by omega⟩ hA2)
 have hB:=RdS.obj hr ⟨by omega,by omega⟩ hB2;clear hr;refine⟨_,rfl,?_⟩;simp only[stz]
 refine wpD (qF 24 _ _ b2 1 (qA i) (by rfl) (by rfl) (by rfl) (qP _) 32 (by kernel_rfl) his _ _ hB (by rw[zZ hzl,his];omega) (fun w3 hB3 hmS=>?_))
 rw[descRow_put1 hzl hil]at hB3;have HR3:Hid (RdS w w3 rb wb bv b _):=hid (HR.out.keepN hall (Nat.le_refl _) hmS (by omega));have hA3:=hmS.objB (by omega) HA.out
 have HC3:=hid (cell0 hA3);clear hmS hB HA HR HR2 hA2 hB2 HC2;simp only[stz];go_upto_region 3 with(fail);refine wpR [3,1,1,3,1] ?_;simp only[stz]
 refine wpXd (v:=(.pointer (some ⟨rb,0,none⟩))) 304 b1 0 HC3.out underlying304 trivial ?_;try simp only[nmz]
 refine wpD (wpC func240 ((HN3.out _ HR3.out)) ?_);rintro e w3x ⟨rfl,hr⟩;have HR:=hid (HR3.out.trans hr);have HA:=hid (RdS.obj hr ⟨by omega,by omega⟩ hA3)
 have hB:=RdS.obj hr ⟨by omega,by omega⟩ hB3;clear hr;refine⟨_,rfl,?_⟩;simp only[stz]
 refine wpD (qR 3 _ _ b2 33 (.int .i64 n) (by rfl) (by rfl) (by rfl) rfl (by kernel_rfl) _ _ hB (by rw[zZ hil];omega) (fun w4 hB4 hmS=>?_))
 rw[descRow_put33 hil]at hB4;have HR4:Hid (RdS w w4 rb wb bv b _):=hid (HR.out.keepN hall (Nat.le_refl _) hmS (by omega));have hA4:=hmS.objB (by omega) HA.out
 have HC4:=hid (cell0 hA4);clear hmS hB HA HR HR3 hA3 hB3 HC3;simp only[stz];go_upto_region 4 with(fail);refine wpR [3,1,1,3,1] ?_;simp only[stz]
 refine wpXd (v:=(.pointer (some ⟨rb,0,none⟩))) 304 b1 0 HC4.out underlying304 trivial ?_;try simp only[nmz]
 refine wpD (wpC func241 ((HN4.out _ HR4.out)) ?_);rintro e w4x ⟨hr,rfl⟩;have HR:=hid (HR4.out.trans hr);have HA:=hid (RdS.obj hr ⟨by omega,by omega⟩ hA4)
 have hB:=RdS.obj hr ⟨by omega,by omega⟩ hB4;clear hr;refine⟨_,rfl,?_⟩;simp only[stz]
 refine wpD (qR 9 _ _ b2 34 (.string ⟨t.toArray⟩) (by rfl) (by rfl) (by rfl) rfl (by kernel_rfl) _ _ hB (by rw[zZ hil];omega) (fun w5 hB5 hmS=>?_))
 rw[descRow_put34 hil]at hB5;have HR5:Hid (RdS w w5 rb wb bv b _):=hid (HR.out.keepN hall (Nat.le_refl _) hmS (by omega));have hA5:=hmS.objB (by omega) HA.out
 have HC5:=hid (cell0 hA5);clear hmS hB HA HR HR4 hA4 hB4 HC4;simp only[stz];have hrs:=zZ (m:=m) (n:=n) (p:=t) hil;have hone:=descRow_one m i n t
 go_upto_region 5 with(fail);refine wpR [1,1] ?_;simp only[stz];refine wpXA 46 b2 0 (yD m i n t) (CellsAt.whole hB5) underlying46 35 hrs trivial ?_;try simp only[nmz]
 refine wpD (qF 46 _ _ b2 0 (yD m i n t) (by rfl) (by rfl) (by rfl) hone 35 (by kernel_rfl) hrs _ _ hB5 (by omega) (fun w6 hB6 hm6=>?_))
 rw[qD (by rfl)]at hB6;have HR6:=hid (HR5.out.keepN hall (Nat.le_refl _) hm6 (by omega));clear hB5 hm6;simp only[stz];clear HC5 hA5;go_wp2
 refine bodyPost_ret (results_cell_row (P:=prog) (ty:=46) rfl _ _ b2 _ _ _ _ (by rfl) hB6 underlying46 rfl (by rw[hrs];kernel_rfl)) rfl ?_;exact⟨HR6.out,rfl⟩
end
end
end Go.Proofs.YtjeonjoifjbohaaGreat
