/- What the statement SweepSweeps needs, part 8. -/
import Derived.WalkKit
import Derived.ProofKit
import Derived.OpenShut
import Derived.ChangeStays
import Derived.ChangeBook
import Derived.ChangeSlices
import Derived.Test.YtjeonjoifjbohaaGreatSweepSweepsP7
set_option linter.unusedVariables false
set_option linter.unusedSimpArgs false
set_option linter.unnecessarySimpa false
set_option linter.unusedSectionVars false
set_option maxRecDepth 10000
set_option maxHeartbeats 8000000
namespace Go.Proofs.YtjeonjoifjbohaaGreat
section
open Go.RowKit Go.Proofs.Tryz Go.Lib
section
variable{P:Program}{ops:Array Oper}{Q:Exit->Act->World->Prop}{S:World->Prop}{o:Oper}{r:List (Oper×Nat)}{a:Act}{w:World}
theorem wpPi_subTo(t:TypeId)(x y:Operand)(yt:TypeId)(m n z:Int)(hw:Region.wanted o (yielded ops a.tmps)=true)(ho:o.op=.binOp .sub t x y yt)(hx:a.eval x=.int .i64 m)(hy:a.eval y=.int .i64 n)
 (hz:m-n=z)(h1:-9223372036854775808<=z)(h2:z<=9223372036854775807)(h:wpPi P ops Q S r (a.put o.dst (.int .i64 z)) w):wpPi P ops Q S ((o,3)::r) a w:=by
 subst hz;exact yK t x y yt m n hw ho hx hy h1 h2 h
end
theorem vAt_any{own:Bool}{G:Nat->Prop}{v:Value}{l:List Int}{w:World}(hl:Sl own w G 1 IntC v l)(r:Int):Calls prog 134 #[v,.int .i64 r] w (RetM (.int .i64 (atV l r)) w):=by
 obtain⟨ad,cap,rfl,hlm,hat⟩:=hl.at;have HAT:=hid hat;clear hl hat
 by_cases h1:r<1
 ·have HV:Hid (atV l r=0):=hid (by unfold atV;rw[if_pos (.inl h1)])
  generalize atV l r=z at*;go_enter func134,ntmps134;go_wp2;go_ret;exact⟨by rw[HV.out];rfl,Mod.refl _ _⟩
 by_cases h2:(l.length:Int)<r
 ·have HV:Hid (atV l r=0):=hid (atV_out h2)
  generalize atV l r=z at*;go_enter func134,ntmps134;go_wp2;go_ret;exact⟨by rw[HV.out];rfl,Mod.refl _ _⟩
 obtain⟨k,rfl⟩:∃k:Nat,r=(k:Int)+1:=⟨(r-1).toNat,by omega⟩;have hlt:k<l.length:=by omega
 have HV:Hid (atV l ((k:Int)+1)=max l[k] 0):=hid (by
  unfold atV;rw[if_neg (by omega),show((k:Int)+1-1).toNat=k by omega,List.getD_eq_getElem?_getD,List.getElem?_eq_getElem hlt]
  rfl)
 obtain⟨b,off,rfl,-,-,hcc⟩:=HAT.out k hlt;obtain⟨_,-,rfl,hcA⟩:=hcc k hlt;have hc:w.cell? ⟨b,off+k*1,none⟩=some (.int .i64 l[k]):=CellsAt.one.1 hcA
 generalize atV l ((k:Int)+1)=z at*;generalize l[k]=y at*;clear hcc hcA HAT;go_enter func134,ntmps134;go_upto_region 3 with(fail);refine wpR [3,3,3,3,1,1,3] ?_
 simp only[stz];refine wpPi_subTo _ _ _ _ _ _ (k:Int) rfl rfl rfl rfl (by omega) (by omega) (by omega) ?_;simp only[nmz];refine wpPI underlying64 1 hlt ?_;simp only[nmz]
 refine wpXd (v:=(.int .i64 y)) 3 b (off+k*1) hc underlying3 trivial ?_;try simp only[nmz]
 refine wpX rfl (exec_max _ _ _ y 0 _ (by rfl) (by rfl) (by rfl) rfl) trivial ?_;simp only[stz];go_wp2;go_ret;exact⟨by rw[HV.out];rfl,Mod.refl _ _⟩
theorem vHas_any{own:Bool}{G:Nat->Prop}{v:Value}{l:List Int}{w:World}(hl:Sl own w G 1 IntC v l)(r n:Int):Calls prog 60 #[v,.agg #[.int .i64 r,.int .i64 n]] w (RetM (.bool (hasV l r n)) w):=by
 have hone:=Sl.one hl;obtain⟨x,hx⟩:∃x,hasV l r n=x:=⟨_,rfl⟩;obtain⟨z,hz⟩:∃z,atV l r=z:=⟨_,rfl⟩
 have HX:Hid (x=decide (1<=r/\1<=n/\n<=z)):=hid (by rw[<-hx,<-hz];rfl);have hcall:=fun w' (hm:Mod NoB w w')=>vAt_any (hl.keep0 hm) r;rw[hz]at hcall;rw[hx]
 clear hx hz hl;go_enter func60,ntmps60;go_upto_region 0 with(fail);refine wpR [1,3] ?_;simp only[stz];refine wpD (zL 113 _ _ (by rfl) (by rfl) (fun w1 hB1 hm1 hs1=>?_))
 replace hB1:w1.heap[w.heap.size]?=some (.cells #[.int .i64 r,.int .i64 n] 113 (0,0)):=hB1;simp only[stz]
 have hR:w1.cell? ⟨w.heap.size,0,none⟩=some (.int .i64 r):=by simp[World.cell?,hB1]
 have hN:w1.cell? ⟨w.heap.size,1,none⟩=some (.int .i64 n):=by simp[World.cell?,hB1]
 generalize w.heap.size=b0 at*;go_upto_region 1 with(fail);have hS:Mod NoB w1 w1.drew:=(Mod.refl _ _).drew
 refine wpRZ [3,0,0,3,3,0,0,3,3,3,0,3,3,0,1,0,3,3] [] (fun w'=>Mod NoB w1 w') hS ?_;simp only[stz]
 refine qG rfl (fun w' hS=>zA 3 _ rfl _ _ rfl _ (hS.cell id hR) _ underlying3 rfl) ?_;simp only[nmz]
 by_cases g7:1<=r
 ·have h7:Hid (decide (1<=r)=true):=decide_eq_true g7;clear g7
  refine qG rfl (fun w' hS=>jJ .geq 3 _ _ _ .i64 r 1 rfl rfl rfl rfl true h7.out) ?_;simp only[stz]
  refine qG rfl (fun w' hS=>zA 3 _ rfl _ _ rfl _ (hS.cell id hN) _ underlying3 rfl) ?_;simp only[nmz]
  by_cases g11:1<=n
  ·have h11:Hid (decide (1<=n)=true):=decide_eq_true g11;clear g11
   refine qG rfl (fun w' hS=>jJ .geq 3 _ _ _ .i64 n 1 rfl rfl rfl rfl true h11.out) ?_;simp only[stz]
   refine qG rfl (fun w' hS=>zA 3 _ rfl _ _ rfl _ (hS.cell id hN) _ underlying3 rfl) ?_;simp only[stz]
   refine qG rfl (fun w' hS=>zA 3 _ rfl _ _ rfl _ (hS.cell id hR) _ underlying3 rfl) ?_;simp only[nmz];refine qL rfl (fun K hK=>?_)
   refine wpC func134 (hcall _ (hm1.trans0 hS)) ?_;rintro e w2 ⟨rfl,hm2⟩;replace hS:=hS.trans0 hm2;refine⟨_,rfl,hK _ _ hS ?_⟩;clear hK K hm2;try simp only[nmz]
   by_cases g20:n<=z
   ·have h20:Hid (decide (n<=z)=true):=decide_eq_true g20;clear g20
    refine qG rfl (fun w' hS=>jJ .leq 3 _ _ _ .i64 n z rfl rfl rfl rfl true h20.out) ?_;simp only[stz];go_wp2;go_ret;unfold Hid at*
    exact⟨xL (by rw[HX];symm;first|(refine decide_eq_true ?_;simp_all;done)|(refine decide_eq_false ?_;intro he;simp_all)),hm1.trans0 hS⟩
   ·have h20:Hid (decide (n<=z)=false):=decide_eq_false g20;clear g20
    refine qG rfl (fun w' hS=>jJ .leq 3 _ _ _ .i64 n z rfl rfl rfl rfl false h20.out) ?_;simp only[stz];go_wp2;go_ret;unfold Hid at*
    exact⟨xL (by rw[HX];symm;first|(refine decide_eq_true ?_;simp_all;done)|(refine decide_eq_false ?_;intro he;simp_all)),hm1.trans0 hS⟩
  ·have h11:Hid (decide (1<=n)=false):=decide_eq_false g11;clear g11
   refine qG rfl (fun w' hS=>jJ .geq 3 _ _ _ .i64 n 1 rfl rfl rfl rfl false h11.out) ?_;simp only[stz];refine zO rfl hS ?_;simp only[stz];go_wp2;go_ret
   unfold Hid at*;exact⟨xL (by rw[HX];symm;first|(refine decide_eq_true ?_;simp_all;done)|(refine decide_eq_false ?_;intro he;simp_all)),hm1.trans0 hS⟩
 ·have h7:Hid (decide (1<=r)=false):=decide_eq_false g7;clear g7
  refine qG rfl (fun w' hS=>jJ .geq 3 _ _ _ .i64 r 1 rfl rfl rfl rfl false h7.out) ?_;simp only[stz];refine zO rfl hS ?_;simp only[stz];go_wp2;go_ret
  unfold Hid at*;exact⟨xL (by rw[HX];symm;first|(refine decide_eq_true ?_;simp_all;done)|(refine decide_eq_false ?_;intro he;simp_all)),hm1.trans0 hS⟩
theorem r14At_any{own:Bool}{G:Nat->Prop}{v:Value}{l:List Int}{w:World}(hl:Sl own w G 1 IntC v l)(r:Int):Calls prog 209 #[v,.int .i64 r] w (RetM (.int .i64 (atV l r)) w):=by
 obtain⟨ad,cap,rfl,hlm,hat⟩:=hl.at;have HAT:=hid hat;clear hl hat
 by_cases h1:r<1
 ·have HV:Hid (atV l r=0):=hid (by unfold atV;rw[if_pos (.inl h1)])
  generalize atV l r=z at*;go_enter func209,ntmps209;go_wp2;go_ret;exact⟨by rw[HV.out];rfl,Mod.refl _ _⟩
 by_cases h2:(l.length:Int)<r
 ·have HV:Hid (atV l r=0):=hid (atV_out h2)
  generalize atV l r=z at*;go_enter func209,ntmps209;go_wp2;go_ret;exact⟨by rw[HV.out];rfl,Mod.refl _ _⟩
 obtain⟨k,rfl⟩:∃k:Nat,r=(k:Int)+1:=⟨(r-1).toNat,by omega⟩;have hlt:k<l.length:=by omega
 have HV:Hid (atV l ((k:Int)+1)=max l[k] 0):=hid (by
  unfold atV;rw[if_neg (by omega),show((k:Int)+1-1).toNat=k by omega,List.getD_eq_getElem?_getD,List.getElem?_eq_getElem hlt]
  rfl)
 obtain⟨b,off,rfl,-,-,hcc⟩:=HAT.out k hlt;obtain⟨_,-,rfl,hcA⟩:=hcc k hlt;have hc:w.cell? ⟨b,off+k*1,none⟩=some (.int .i64 l[k]):=CellsAt.one.1 hcA
 generalize atV l ((k:Int)+1)=z at*;generalize l[k]=y at*;clear hcc hcA HAT;go_enter func209,ntmps209;go_upto_region 3 with(fail);refine wpR [3,3,3,3,1,1,3] ?_
 simp only[stz];refine wpPi_subTo _ _ _ _ _ _ (k:Int) rfl rfl rfl rfl (by omega) (by omega) (by omega) ?_;simp only[nmz];refine wpPI underlying64 1 hlt ?_;simp only[nmz]
 refine wpXd (v:=(.int .i64 y)) 3 b (off+k*1) hc underlying3 trivial ?_;try simp only[nmz]
 refine wpX rfl (exec_max _ _ _ y 0 _ (by rfl) (by rfl) (by rfl) rfl) trivial ?_;simp only[stz];go_wp2;go_ret;exact⟨by rw[HV.out];rfl,Mod.refl _ _⟩
theorem r14Has_any{own:Bool}{G:Nat->Prop}{v:Value}{l:List Int}{w:World}(hl:Sl own w G 1 IntC v l)(r n:Int):Calls prog 149 #[v,.agg #[.int .i64 r,.int .i64 n]] w (RetM (.bool (hasV l r n)) w):=by
 have hone:=Sl.one hl;obtain⟨x,hx⟩:∃x,hasV l r n=x:=⟨_,rfl⟩;obtain⟨z,hz⟩:∃z,atV l r=z:=⟨_,rfl⟩
 have HX:Hid (x=decide (1<=r/\1<=n/\n<=z)):=hid (by rw[<-hx,<-hz];rfl);have hcall:=fun w' (hm:Mod NoB w w')=>r14At_any (hl.keep0 hm) r;rw[hz]at hcall;rw[hx]
 clear hx hz hl;go_enter func149,ntmps149;go_upto_region 0 with(fail);refine wpR [1,3] ?_;simp only[stz];refine wpD (zL 113 _ _ (by rfl) (by rfl) (fun w1 hB1 hm1 hs1=>?_))
 replace hB1:w1.heap[w.heap.size]?=some (.cells #[.int .i64 r,.int .i64 n] 113 (0,0)):=hB1;simp only[stz]
 have hR:w1.cell? ⟨w.heap.size,0,none⟩=some (.int .i64 r):=by simp[World.cell?,hB1]
 have hN:w1.cell? ⟨w.heap.size,1,none⟩=some (.int .i64 n):=by simp[World.cell?,hB1]
 generalize w.heap.size=b0 at*;go_upto_region 1 with(fail);have hS:Mod NoB w1 w1.drew:=(Mod.refl _ _).drew
 refine wpRZ [3,0,0,3,3,0,0,3,3,3,0,3,3,0,1,0,3,3] [] (fun w'=>Mod NoB w1 w') hS ?_;simp only[stz]
 refine qG rfl (fun w' hS=>zA 3 _ rfl _ _ rfl _ (hS.cell id hR) _ underlying3 rfl) ?_;simp only[nmz]
 by_cases g7:1<=r
 ·have h7:Hid (decide (1<=r)=true):=decide_eq_true g7;clear g7
  refine qG rfl (fun w' hS=>jJ .geq 3 _ _ _ .i64 r 1 rfl rfl rfl rfl true h7.out) ?_;simp only[stz]
  refine qG rfl (fun w' hS=>zA 3 _ rfl _ _ rfl _ (hS.cell id hN) _ underlying3 rfl) ?_;simp only[nmz]
  by_cases g11:1<=n
  ·have h11:Hid (decide (1<=n)=true):=decide_eq_true g11;clear g11
   refine qG rfl (fun w' hS=>jJ .geq 3 _ _ _ .i64 n 1 rfl rfl rfl rfl true h11.out) ?_;simp only[stz]
   refine qG rfl (fun w' hS=>zA 3 _ rfl _ _ rfl _ (hS.cell id hN) _ underlying3 rfl) ?_;simp only[stz]
   refine qG rfl (fun w' hS=>zA 3 _ rfl _ _ rfl _ (hS.cell id hR) _ underlying3 rfl) ?_;simp only[nmz];refine qL rfl (fun K hK=>?_)
   refine wpC func209 (hcall _ (hm1.trans0 hS)) ?_;rintro e w2 ⟨rfl,hm2⟩;replace hS:=hS.trans0 hm2;refine⟨_,rfl,hK _ _ hS ?_⟩;clear hK K hm2;try simp only[nmz]
   by_cases g20:n<=z
   ·have h20:Hid (decide (n<=z)=true):=decide_eq_true g20;clear g20
    refine qG rfl (fun w' hS=>jJ .leq 3 _ _ _ .i64 n z rfl rfl rfl rfl true h20.out) ?_;simp only[stz];go_wp2;go_ret;unfold Hid at*
    exact⟨xL (by rw[HX];symm;first|(refine decide_eq_true ?_;simp_all;done)|(refine decide_eq_false ?_;intro he;simp_all)),hm1.trans0 hS⟩
   ·have h20:Hid (decide (n<=z)=false):=decide_eq_false g20;clear g20
    refine qG rfl (fun w' hS=>jJ .leq 3 _ _ _ .i64 n z rfl rfl rfl rfl false h20.out) ?_;simp only[stz];go_wp2;go_ret;unfold Hid at*
    exact⟨xL (by rw[HX];symm;first|(refine decide_eq_true ?_;simp_all;done)|(refine decide_eq_false ?_;intro he;simp_all)),hm1.trans0 hS⟩
  ·have h11:Hid (decide (1<=n)=false):=decide_eq_false g11;clear g11
   refine qG rfl (fun w' hS=>jJ .geq 3 _ _ _ .i64 n 1 rfl rfl rfl rfl false h11.out) ?_;simp only[stz];refine zO rfl hS ?_;simp only[stz];go_wp2;go_ret
   unfold Hid at*;exact⟨xL (by rw[HX];symm;first|(refine decide_eq_true ?_;simp_all;done)|(refine decide_eq_false ?_;intro he;simp_all)),hm1.trans0 hS⟩
 ·have h7:Hid (decide (1<=r)=false):=decide_eq_false g7;clear g7
  refine qG rfl (fun w' hS=>jJ .geq 3 _ _ _ .i64 r 1 rfl rfl rfl rfl false h7.out) ?_;simp only[stz];refine zO rfl hS ?_;simp only[stz];go_wp2;go_ret
  unfold Hid at*;exact⟨xL (by rw[HX];symm;first|(refine decide_eq_true ?_;simp_all;done)|(refine decide_eq_false ?_;intro he;simp_all)),hm1.trans0 hS⟩
theorem swTombs3_any{own own':Bool}{G G':Nat->Prop}{w:World}{sb:Nat}{sv:Value}{st:List Int}{cs:Array Value}{e:Evt}(hs:w.heap[sb]?=some (.cells #[sv] 64 (0,0)))(hl:Sl own w G 1 IntC sv st)(he:EvR own' w G' cs e):
 Calls prog 133 (#[.agg cs]++#[.pointer (some ⟨sb,0,none⟩)]) w (RetM (.bool (hasV st e.r e.n)) w):=by
 obtain⟨dv,rv,hca,hi,-⟩:=he;have cA:=zI e dv rv hi;rw[<-hca]at cA;clear hca;have hone:=Sl.one hl;obtain⟨a0,c0,hsv,-,-⟩:=hl.at;have HL:=hid hl
 have HSV:=hid hsv;rw[show #[Value.agg cs]++#[.pointer (some ⟨sb,0,none⟩)]=#[.agg cs,.pointer (some ⟨sb,0,none⟩)]from rfl];clear hl hsv;go_enter func133,ntmps133
 go_upto_region 0 with(fail);refine wpR [1,3] ?_;simp only[stz];refine wpD (zL 115 _ _ (by rfl) (by rfl) (fun w1 hB1 hm1 hs1=>?_))
 replace hB1:w1.heap[w.heap.size]?=some (.cells cs 115 (0,0)):=hB1;simp only[stz];have hcs:w1.cell? ⟨sb,0,none⟩=some sv:=by simp[World.cell?,hm1.obj id hs]
 have hA:=CellsAt.whole hB1;have hAd:=hA.part (i:=0) (j:=2) (by rw[cA.size];omega);rw[cA.dot]at hAd;have hcall:=vHas_any (HL.out.keep0 hm1) e.r e.n
 rw[HSV.out]at hcall hcs;generalize hasV st e.r e.n=x at*;clear hB1 hA hs;go_upto_region 1 with(fail);refine wpR [1,3,1,1,3] ?_;simp only[stz]
 refine wpXd 64 sb 0 hcs underlying64 trivial ?_;simp only[stz];refine wpXA 113 w.heap.size (0+0) #[.int .i64 e.r,.int .i64 e.n] hAd underlying113 2 rfl trivial ?_
 try simp only[nmz]
 refine wpD (wpC func60 (hcall) ?_);rintro e' w2 ⟨rfl,hm2⟩;refine⟨_,rfl,?_⟩;simp only[stz];go_wp2;go_ret;exact⟨rfl,hm1.trans0 hm2⟩
structure TmAt(base kb db:Nat)(kv dv:Value)(lk:List Evt)(ld:List (Int×Int))(w:World):Prop where
 kbox:w.heap[kb]?=some (.cells #[kv] 72 (0,0))
 dbox:w.heap[db]?=some (.cells #[dv] 116 (0,0))
 kept:EvGs (fun k=>dv.ownBlock=some k) base w kv lk
 dots:DotGs base w dv ld
 apart:∀q,kv.ownBlock=some q->dv.ownBlock≠some q
 kblt:kb<base
 dblt:db<base
 ne:kb≠db
 le:base<=w.heap.size
theorem TmAt.keep0{base kb db:Nat}{kv dv:Value}{lk:List Evt}{ld:List (Int×Int)}{w w':World}(h:TmAt base kb db kv dv lk ld w)(hm:Mod NoB w w'):TmAt base kb db kv dv lk ld w':=
 ⟨hm.obj id h.kbox,hm.obj id h.dbox,h.kept.keep0 hm,h.dots.keep0 hm,h.apart,h.kblt,h.dblt,h.ne,Nat.le_trans h.le hm.size⟩
def TmIn(base kb db:Nat)(lk:List Evt)(ld:List (Int×Int))(w:World):Prop:=∃kv dv,TmAt base kb db kv dv lk ld w
def TmR(base kb db:Nat)(lk:List Evt)(ld:List (Int×Int))(w:World):Ending->World->Prop:=fun e w'=>e=.returned (.tuple #[])/\TmIn base kb db lk ld w'/\Mod (fun k=>k=kb\/k=db\/base<=k) w w'
theorem swTombs2_any{base kb db:Nat}{kv dv:Value}{lk:List Evt}{ld:List (Int×Int)}{own:Bool}{G:Nat->Prop}{w:World}{cs:Array Value}{e:Evt}(h:TmAt base kb db kv dv lk ld w)(he:EvR own w G cs e)(hn:ld.length<=10000):
 Calls prog 131 (#[.agg cs]++#[.pointer (some ⟨db,0,none⟩)]) w (TmR base kb db lk (ld++[(e.r,e.n)]) w):=by
 obtain⟨ev,rv,hca,hi,-⟩:=he;have cA:=zI e ev rv hi;rw[<-hca]at cA;clear hca
 rw[show #[Value.agg cs]++#[.pointer (some ⟨db,0,none⟩)]=#[.agg cs,.pointer (some ⟨db,0,none⟩)]from rfl];have HH:=hid h;obtain⟨ad,cap,hdv⟩:=Gat.slice h.dots
 have HDV:=hid hdv;clear h hdv;go_enter func131,ntmps131;go_upto_region 0 with(fail);refine wpR [1] ?_;simp only[stz]
 refine wpD (zL 115 _ _ (by rfl) (by rfl) (fun w1 hB1 hm1 hs1=>?_));replace hB1:w1.heap[w.heap.size]?=some (.cells cs 115 (0,0)):=hB1;simp only[stz]
 have h1:=HH.out.keep0 hm1;have hcd:w1.cell? ⟨db,0,none⟩=some dv:=by simp[World.cell?,h1.dbox]
 have hA:=CellsAt.whole hB1;have hAd:=hA.part (i:=0) (j:=2) (by rw[cA.size];omega);rw[cA.dot]at hAd;rw[HDV.out]at hcd;have H1:=hid h1;clear hB1 hA h1
 go_upto_region 1 with(fail);refine wpR [1,3,1,1,1,1] ?_;simp only[stz];refine wpXd 116 db 0 hcd underlying116 trivial ?_;simp only[stz]
 refine wpXA 113 w.heap.size (0+0) #[.int .i64 e.r,.int .i64 e.n] hAd underlying113 2 rfl trivial ?_;try simp only[nmz]
 refine wpD (qQ 116 113 _ (.agg #[.int .i64 e.r,.int .i64 e.n]) (.agg #[.int .i64 0,.int .i64 0]) 2 (by rfl) (by rfl) underlying116 (by kernel_rfl) (by omega) (by omega) rfl (fun w2 hB2 hm2 hs2=>?_))
 replace hB2:w2.heap[w1.heap.size]?=some (.cells (dotEnc (e.r,e.n)).toArray 113 (0,0)):=hB2;have h2:=H1.out.keep0 hm2;try simp only[nmz]
 refine wpD (wp_dots _ _ (by rfl) (v:=dv) (by rw[HDV.out];rfl) h2.dots w1.heap.size (e.r,e.n) (by rfl) hB2 (by omega) h2.le (fun v3 w3 hg3 hv3 hm3=>?_))
 have hd3:=hm3.obj (fun e=>by have:=(Gat.lt h2.dots e).1;have:=h2.dblt;omega) h2.dbox
 have hk3:=hm3.obj (fun e=>by have:=(Gat.lt h2.dots e).1;have:=h2.kblt;omega) h2.kbox
 have hE3:EvGs (fun k=>v3.ownBlock=some k) base w3 kv lk:=by
  have hE:=h2.kept.keep hm3 (fun k hk hd=>h2.apart k hk hd) (fun k hk hd=>hk.2.2.2 hd);obtain⟨css,q1,q2,q3⟩:=h2.kept
  have hq:=q3.imp fun _ _ h=>(h.keep hm3 (fun k hk hd=>hk.2.2.2 hd))
  refine⟨css,zE q1 hm3 (fun k hk hd=>h2.apart k hk hd),q2,hq.imp fun _ _ h=>h.mono fun k hk=>⟨hk.1,Nat.lt_of_lt_of_le hk.2.1 hm3.size,hk.2.2.1,fun e=>?_⟩⟩
  rcases hv3 with hv|hv
  ·exact hk.2.2.2 (hv▸e)
  ·rw[hv]at e;cases e;exact Nat.lt_irrefl _ hk.2.1
 have hap3:∀q,kv.ownBlock=some q->v3.ownBlock≠some q:=fun q hq e=>by
  rcases hv3 with hv|hv
  ·exact h2.apart q hq (hv▸e)
  ·rw[hv]at e;cases e;have:=(h2.kept.lt hq).2;omega
 have hm03:Mod (fun k=>k=kb\/k=db\/base<=k) w w3:=((hm1.trans0 hm2).mono (fun _ _ h=>h.elim)).trans hm3 (fun k _ e=>.inr (.inr (Gat.lt h2.dots e).1))
 have hle3:=Nat.le_trans h2.le hm3.size;try simp only[nmz]
 refine wpD (qR 116 _ _ db 0 v3 (by rfl) (by rfl) (by rfl) (xW hg3) (by kernel_rfl) _ _ hd3 (by simp) (fun w4 hB4 hm4=>?_))
 replace hB4:w4.heap[db]?=some (.cells #[v3] 116 (0,0)):=hB4
 have HF:Hid (TmR base kb db lk (ld++[(e.r,e.n)]) w (.returned (.tuple #[])) w4):=hid ⟨rfl,⟨kv,v3,hm4.objB h2.ne hk3,hB4,hE3.keep hm4 (fun k hk e=>by have e:k=db:=e;have:=(hE3.lt hk).1;have:=h2.dblt;omega) (fun k hk e=>by have e:k=db:=e;have:=hk.1;have:=h2.dblt;omega),Gat.keep hg3 hm4 (fun k hk e=>by have e:k=db:=e;have:=(Gat.lt hg3 hk).1;have:=h2.dblt;omega),hap3,h2.kblt,h2.dblt,h2.ne,Nat.le_trans hle3 hm4.size⟩,hm03.trans hm4 (fun k _ e=>.inr (.inl e))⟩
 simp only[stz];clear hg3 hE3 hap3 hd3 hk3 hm03 hm4 hB4 h2 hm1 hm2 hm3 hAd hcd hB2 hv3 hle3;go_wp2
 go_end0
 exact HF.out
def longEv(e:Evt):Bool:=decide (20<e.deps.length\/300<e.refs.length\/200<e.repo.size\/200<e.tag.size)
theorem longEvent_any(own:Bool)(G:Nat->Prop)(cs:Array Value)(e:Evt)(w:World)(h:EvR own w G cs e):Calls prog 107 #[.agg cs] w (RetM (.bool (longEv e)) w):=by
 obtain⟨dv,rv,hca,hi,hd,hr,hrepo,htag⟩:=h;have cA:=zI e dv rv hi;rw[<-hca]at cA;clear hca;obtain⟨da,dc,rfl,hdl,-⟩:=hd.at
 obtain⟨ra,rc,rfl,hrl,-⟩:=hr.at;obtain⟨t,ht⟩:∃t,t=longEv e:=⟨_,rfl⟩;rw[<-ht];have HT:=hid ht;clear ht;go_enter func107,ntmps107;go_upto_region 0 with(fail)
 refine wpR [1,3] ?_;simp only[stz];refine wpD (zL 115 _ _ (by rfl) (by rfl) (fun w1 hB0 hM hs1=>?_))
 replace hB0:w1.heap[w.heap.size]?=some (.cells cs 115 (0,0)):=hB0;simp only[stz]
 have hc2:w1.cell? ⟨w.heap.size,2,none⟩=some (.slice da e.deps.length dc):=by rw[cell_of_row _ _ _ _ _ _ hB0,cA.c2]
 have hc38:w1.cell? ⟨w.heap.size,38,none⟩=some (.slice ra e.refs.length rc):=by rw[cell_of_row _ _ _ _ _ _ hB0,cA.c38]
 have hc4:w1.cell? ⟨w.heap.size,4,none⟩=some (.string e.repo):=by rw[cell_of_row _ _ _ _ _ _ hB0,cA.c4]
 have hc5:w1.cell? ⟨w.heap.size,5,none⟩=some (.string e.tag):=by rw[cell_of_row _ _ _ _ _ _ hB0,cA.c5]
 clear cA hB0;go_wp2
 all_goals
  go_ret;refine⟨xL ?_,hM⟩;rw[HT.out];unfold longEv;rw[Bool.eq_iff_iff]
  simp
  all_goals omega
def LngRelE(w:World)(l:List Evt)(n i:Value)(w':World):Prop:=
 ∃(k m:Nat),k<=l.length/\k<=21/\m<=300*k/\i=.int .i64 k/\n=.int .i64 m/\Mod NoB w w'/\∀j (h:j<l.length),j<k->longEv l[j]=false
def LngRE{α:Type}(Small:α->Prop)(l:α)(w:World)(e:Ending)(w':World):Prop:=∃b,e=.returned (.bool b)/\Mod NoB w w'/\(b=false->Small l)
def SmallEvs(l:List Evt):Prop:=l.length<=20/\∀e∈l,longEv e=false
theorem longEvents_any(own:Bool)(E G:Nat->Prop)(v:Value)(l:List Evt)(w:World)(h:Sl own w E 39 (EvR own w G) v l):Calls prog 41 #[v,.int .i64 20] w (LngRE SmallEvs l w):=by
 obtain⟨av,cap,rfl,hlen,hat⟩:=h.at;have HA:=hid hat;clear hat;go_enter func41,ntmps41;go_wp2
 go_loopw [5,6] (LngRelE w l) (fun _ i _=>l.length-(intOf i).toNat)
 case atStart=>exact⟨0,0,by omega,by omega,by omega,rfl,rfl,Mod.refl _ _,fun j h hj=>by omega⟩
 case round=>
  obtain⟨k,m,hk,hk21,hm,rfl,rfl,hM,hall⟩:=hrel
  rename_i wr
  by_cases hlt:k<l.length/\k<=20
  ·obtain⟨hlt,hk20⟩:=hlt
   obtain⟨b,off,rfl,-,-,hat⟩:=HA.out k hlt;obtain⟨cs,hcs,hev,hcells⟩:=hat k hlt;clear hat HA;have hev:=hev.keep0 hM;have hcells:=hcells.keep hM id
   obtain⟨t,ht⟩:∃t,t=longEv l[k]:=⟨_,rfl⟩;have HT:=hid ht;clear ht;go_upto_region 5 with(fail)
   cases t
   ·skip
    refine wpR [3,3,3,1,1] ?_;simp only[stz];refine wpPI underlying72 39 hlt ?_;simp only[nmz];refine wpXA 115 b (off+k*39) _ hcells underlying115 39 hcs trivial ?_
    try simp only[nmz]
    refine wpDo rfl ?_;go_wp2_with (go_at_call 107;refine(longEvent_any own G cs l[k] wr hev).mono ?_;rintro _ w1 ⟨rfl,hm1⟩;rw[<-HT.out]);simp only[stz]
    obtain⟨dv,rv,hca,hi,hd,hr,hrepo,htag⟩:=id hev;have cA:=zI l[k] dv rv hi;rw[<-hca]at cA;clear hca;obtain⟨ra,rc,rfl,hrl,-⟩:=hr.at
    have hsm:l[k].refs.length<=300:=by
     have h1:=HT.out;unfold longEv at h1;have h2:=of_decide_eq_false h1.symm;omega
    obtain⟨rl,hrl0⟩:∃t,t=l[k].refs.length:=⟨_,rfl⟩
    have hc38:w1.cell? ⟨b,off+k*39+38,none⟩=some (.slice ra rl rc):=by rw[hrl0];exact hm1.cell id (hcells.cell cA.c38)
    rw[<-hrl0]at hsm;clear cA hd hr hrl hrl0;have hMn:=hM.trans0 hm1;go_upto_region 7 with(fail);refine wpR [3,3,3,3,3,1,3,3,3] ?_;simp only[stz]
    refine wpPI underlying72 39 hlt ?_;simp only[stz];refine wpXd 25 _ _ hc38 underlying25 trivial ?_;try simp only[nmz]
    refine wpPL ?_;simp only[nmz];refine wpPi_add _ _ _ _ _ _ rfl rfl rfl rfl (by omega) (by omega) ?_;simp only[stz];go_wp2
    go_roundw
    case rel=>exact⟨k+1,m+rl,by omega,by omega,by omega,by go_num,by go_num,hMn,fun j h hj=>by
     rcases Nat.lt_or_ge j k with h'|h'
     ·exact hall j h h'
     ·have e:j=k:=by omega
      subst e;exact HT.out.symm⟩
    case measure=>simp[intOf];omega
   ·skip
    refine wpR [3,3,3,1,1] ?_;simp only[stz];refine wpPI underlying72 39 hlt ?_;simp only[nmz];refine wpXA 115 b (off+k*39) _ hcells underlying115 39 hcs trivial ?_
    try simp only[nmz]
    refine wpDo rfl ?_;go_wp2_with (go_at_call 107;refine(longEvent_any own G cs l[k] wr hev).mono ?_;rintro _ w1 ⟨rfl,hm1⟩;rw[<-HT.out]);simp only[stz];go_wp2;go_ret
    exact⟨true,rfl,hM.trans0 hm1,fun h=>by cases h⟩
  ·clear HA
   have hfin:l.length<=20->SmallEvs l:=fun h20=>⟨h20,fun e he=>by
    obtain⟨j,hj,rfl⟩:=List.getElem_of_mem he
    exact hall j hj (by omega)⟩
   have hkk:(k:Int)<l.length->20<(k:Int):=by omega
   go_wp2
   all_goals
    go_ret;refine⟨_,rfl,hM,fun hb=>hfin ?_⟩
    first
     |omega
     |(simp at hb;done)
     |(simp at hb;omega)
theorem small_ok{e:Evt}(h:longEv e=false):EvOk e:=by
 unfold longEv at h;have h2:=of_decide_eq_false h;exact⟨by omega,by omega⟩
theorem SmallEvs.ok{l:List Evt}(h:SmallEvs l):∀e∈l,EvOk e:=fun e he=>small_ok (h.2 e he)
theorem swTombs1_any{base kb db:Nat}{kv dv:Value}{lk:List Evt}{ld:List (Int×Int)}{own:Bool}{G:Nat->Prop}{w:World}{cs:Array Value}{e:Evt}(h:TmAt base kb db kv dv lk ld w)(he:EvR own w G cs e)(hok:EvOk e)(hn:lk.length<=10000):
 Calls prog 128 (#[.agg cs]++#[.pointer (some ⟨kb,0,none⟩)]) w (TmR base kb db (lk++[e]) ld w):=by
 obtain⟨ev,rv,hca,hi,hd,hr,hsz1,hsz2⟩:=he;have cA:=zI e ev rv hi;rw[<-hca]at cA
 rw[show #[Value.agg cs]++#[.pointer (some ⟨kb,0,none⟩)]=#[.agg cs,.pointer (some ⟨kb,0,none⟩)]from rfl];have HH:=hid h;have HCA:=hid hca
 have HKV:Hid (∃ad cap,kv=.slice ad lk.length cap):=hid (by obtain⟨ad,cap,h1,-⟩:=Sl.at h.kept.sl;exact⟨ad,cap,h1⟩);clear h hca;go_enter func128,ntmps128
 go_upto_region 0 with(fail);refine wpR [1] ?_;simp only[stz];refine wpD (zL 115 _ _ (by rfl) (by rfl) (fun w1 hB1 hm1 hs1=>?_))
 replace hB1:w1.heap[w.heap.size]?=some (.cells cs 115 (0,0)):=hB1;simp only[stz];have hA:=CellsAt.whole hB1;have hd1:=hd.keep0 hm1;have hr1:=hr.keep0 hm1
 obtain⟨b0,hb0⟩:∃b,w.heap.size=b:=⟨_,rfl⟩;rw[hb0]at hB1 hA hs1 |-;have HOK:=hid hok;clear hd hr;go_upto_region 1 with(fail)
 have hS:Mod NoB w1 w1.drew:=(Mod.refl _ _).drew
 refine wpRP [(0,3),(1,0),(3,3),(4,0),(2,1),(6,3),(5,1),(7,2),(8,3),(9,2)] [7,9] (fun w'=>Mod NoB w1 w') hS ?_;simp only[stz]
 refine qG rfl (fun w' hS=>zA 64 _ rfl _ _ rfl _ (hS.cell id (hA.cell cA.c2)) _ underlying64 rfl) ?_;simp only[stz]
 refine qG rfl (fun w' hS=>zA 25 _ rfl _ _ rfl _ (hS.cell id (hA.cell cA.c38)) _ underlying25 rfl) ?_;simp only[nmz];refine qL rfl (fun K hK=>?_)
 refine wpC func129 (cloneInts_any own G _ _ _ (hd1.keep0 hS) HOK.out.1) ?_;rintro e' w3 ⟨dv',rfl,hm3,hd'⟩
 have hlow3:∀k,New w1.drew w3 k->b0<k:=fun k hk=>by have:=hk.1;have h9:w1.drew.heap.size=w1.heap.size:=rfl;omega
 have hd3:Sl true w3 (fun k=>b0<k/\k<w3.heap.size) 1 IntC dv' e.deps:=hd'.mono (fun k hk=>⟨hlow3 k hk,hk.2⟩) (fun _ _ h=>h);replace hS:=hS.trans0 hm3
 refine⟨_,rfl,hK _ _ hS ?_⟩;clear hK K hm3 hd' hlow3;simp only[stz];refine qL rfl (fun K hK=>?_);refine wpC func130 (cloneIDs_any own G _ _ _ (hr1.keep0 hS) HOK.out.2) ?_
 rintro e' w4 ⟨rv',rfl,hm4,hr'⟩;have hlow4:∀k,New w3 w4 k->b0<k:=fun k hk=>by have:=hk.1;have h9:=hS.size;omega
 have hr4:Sl true w4 (fun k=>b0<k/\k<w4.heap.size) 32 IdC rv' e.refs:=hr'.mono (fun k hk=>⟨hlow4 k hk,hk.2⟩) (fun _ _ h=>h)
 have hd4:Sl true w4 (fun k=>b0<k/\k<w4.heap.size) 1 IntC dv' e.deps:=(hd3.keep0 hm4).mono (fun k hk=>⟨hk.1,Nat.lt_of_lt_of_le hk.2 hm4.size⟩) (fun _ _ h=>h)
 replace hS:=hS.trans0 hm4;refine⟨_,rfl,hK _ _ hS ?_⟩;clear hK K hm4 hr' hlow4 hd3;try simp only[nmz]
 refine zD rfl (fun K hK=>?_);have hB4:=hS.obj id hB1
 refine qR 64 _ _ b0 2 dv' (by rfl) (by rfl) (by rfl) hd4.one (by kernel_rfl) _ _ hB4 (by rw[cA.size];omega) (fun w5 hB5 hm5=>?_)
 have hd5:=hd4.keepB hm5 (fun k hk e=>by have:=hk.1;omega);have hr5:=hr4.keepB hm5 (fun k hk e=>by have:=hk.1;omega);rw[HCA.out,evCells_set2]at hB5;refine hK _ _ ?_
 clear hK K hB4;simp only[stz];refine zD rfl (fun K hK=>?_)
 refine qR 25 _ _ b0 38 rv' (by rfl) (by rfl) (by rfl) hr5.one (by kernel_rfl) _ _ hB5 (by rw[(zI e dv' rv hi).size];omega) (fun w6 hB6 hm6=>?_)
 have hd6:=hd5.keepB hm6 (fun k hk e=>by have:=hk.1;omega);have hr6:=hr5.keepB hm6 (fun k hk e=>by have:=hk.1;omega);rw[evCells_set38 _ _ _ _ hi]at hB6
 have hm06:Mod NoB w w6:=((hm1.trans0 hS).transB hm5 (by omega)).transB hm6 (by omega);refine hK _ _ ?_;clear hK K hB5;simp only[stz];have h6:=HH.out.keep0 hm06
 have s5:=hm5.size;have s6:=hm6.size;have hcK:w6.cell? ⟨kb,0,none⟩=some kv:=by simp[World.cell?,h6.kbox]
 have cC:=zI e dv' rv' hi;have hone:=evCells_one (e:=e) hd6.one hr6.one;have hcE:CellsAt w6 b0 0 (xI e dv' rv'):=CellsAt.whole hB6
 have hbase:base<=b0:=by have:=HH.out.le;omega
 have hIn:∀k,b0<k->k<w6.heap.size->Inn (fun k=>dv.ownBlock=some k) base kv w6 k:=fun k h1 h2=>⟨by omega,h2,fun e=>by have:=(HH.out.kept.lt e).2;omega,fun e=>by have:=(Gat.lt HH.out.dots e).2;omega⟩
 have hEv:EvR true w6 (Inn (fun k=>dv.ownBlock=some k) base kv w6) (xI e dv' rv') e:=⟨dv',rv',rfl,hi,hd6.mono (fun k hk=>hIn k hk.1 (by have:=hk.2;omega)) (fun _ _ h=>h),hr6.mono (fun k hk=>hIn k hk.1 (by have:=hk.2;omega)) (fun _ _ h=>h),hsz1,hsz2⟩
 have HEV:=hid hEv;have H6:=hid h6;obtain⟨ad,cap,hkv⟩:=HKV.out;have HK2:=hid hkv;rw[hkv]at hcK
 clear hIn hd6 hr6 hd5 hr5 hd4 hr4 hB6 hm5 hm6 hS hd1 hr1 hA hB1 h6 hEv hkv cA HCA;go_upto_region 2 with(fail);refine wpR [1,1,1,1,1] ?_;simp only[stz]
 refine wpXd 72 kb 0 hcK underlying72 trivial ?_;try simp only[nmz]
 refine wpXA 115 b0 0 (xI e dv' rv') hcE underlying115 39 cC.size trivial ?_;try simp only[nmz]
 refine wpD (qQ 72 115 _ (.agg (xI e dv' rv')) evZero 39 (by rfl) (by rfl) underlying72 (by kernel_rfl) (by omega) (by omega) cC.size (fun w7 hB7 hm7 hs7=>?_))
 replace hB7:w7.heap[w6.heap.size]?=some (.cells (xI e dv' rv') 115 (0,0)):=hB7;have h7:=H6.out.keep0 hm7
 have hE7:EvR true w7 (Inn (fun k=>dv.ownBlock=some k) base kv w7) (xI e dv' rv') e:=(HEV.out.keep0 hm7).mono fun k hk=>⟨hk.1,Nat.lt_of_lt_of_le hk.2.1 hm7.size,hk.2.2⟩
 try simp only[nmz]
 refine wpD (wp_evs _ _ (by rfl) (v:=kv) (by rw[HK2.out];rfl) h7.kept w6.heap.size _ e (by rfl) hB7 hE7 (by omega) h7.le (fun v8 w8 hg8 hv8 hm8=>?_))
 have hd8:=hm8.obj (fun e=>by have:=(h7.kept.lt e).1;have:=h7.dblt;omega) h7.dbox
 have hk8:=hm8.obj (fun e=>by have:=(h7.kept.lt e).1;have:=h7.kblt;omega) h7.kbox;have hD8:DotGs base w8 dv ld:=Gat.keep h7.dots hm8 (fun q hq hk=>h7.apart q hk hq)
 have hap8:∀q,v8.ownBlock=some q->dv.ownBlock≠some q:=fun q hq e=>by
  rcases hv8 with hv|hv
  ·exact h7.apart q (hv▸hq) e
  ·rw[hv]at hq;cases hq;have:=(Gat.lt h7.dots e).2;omega
 have hm08:Mod (fun k=>k=kb\/k=db\/base<=k) w w8:=((hm06.trans0 hm7).mono (fun _ _ h=>h.elim)).trans hm8 (fun k _ e=>.inr (.inr (h7.kept.lt e).1))
 have hle8:=Nat.le_trans h7.le hm8.size;try simp only[nmz]
 refine wpD (qR 72 _ _ kb 0 v8 (by rfl) (by rfl) (by rfl) hg8.one (by kernel_rfl) _ _ hk8 (by simp) (fun w9 hB9 hm9=>?_))
 replace hB9:w9.heap[kb]?=some (.cells #[v8] 72 (0,0)):=hB9
 have HF:Hid (TmR base kb db (lk++[e]) ld w (.returned (.tuple #[])) w9):=hid ⟨rfl,⟨v8,dv,hB9,hm9.objB (Ne.symm h7.ne) hd8,hg8.keep hm9 (fun k hk e=>by have e:k=kb:=e;have:=(hg8.lt hk).1;have:=h7.kblt;omega) (fun k hk e=>by have e:k=kb:=e;have:=hk.1;have:=h7.kblt;omega),Gat.keep hD8 hm9 (fun k hk e=>by have e:k=kb:=e;have:=(Gat.lt hD8 hk).1;have:=h7.kblt;omega),hap8,h7.kblt,h7.dblt,h7.ne,Nat.le_trans hle8 hm9.size⟩,hm08.trans hm9 (fun k _ e=>.inl e)⟩
 simp only[stz];clear hg8 hD8 hap8 hd8 hk8 hm08 hm9 hB9 h7 hE7 hm7 hm8 hB7 hv8 hle8 hcK hcE;go_wp2
 go_end0
 exact HF.out
def TmRel(w0:World)(base kb db:Nat)(st:List Int)(l:List Evt)(i:Value)(w:World):Prop:=
 ∃k:Nat,k<=l.length/\i=.int .i64 k/\TmIn base kb db (keptE st (l.take k)) (goneE st (l.take k)) w/\Mod (fun k=>k=kb\/k=db\/base<=k) w0 w
theorem keptE_len(st:List Int)(l:List Evt):(keptE st l).length<=l.length:=List.length_filter_le _ _
theorem goneE_len(st:List Int)(l:List Evt):(goneE st l).length<=l.length:=by unfold goneE;rw[List.length_map];exact List.length_filter_le _ _
def FnV(f b:Nat):Value:=.func (.func f) #[] #[.pointer (some ⟨b,0,none⟩)]
theorem swParted_any{own own' own2:Bool}{E G G2:Nat->Prop}{w:World}{lo base kb db sb:Nat}{v sv:Value}{st:List Int}{l:List Evt}(hl:Sl own w E 39 (EvR own' w G) v l)(hE:∀k,E k->k<lo)(hG:∀k,G k->k<lo)
 (hs:w.heap[sb]?=some (.cells #[sv] 64 (0,0)))(hst:Sl own2 w G2 1 IntC sv st)(hG2:∀k,G2 k->k<lo)(hlk:lo<=kb)(hld:lo<=db)(hsk:sb≠kb)(hsd:sb≠db)(hsb:sb<base)(h0:TmIn base kb db [] [] w)(hlen:l.length<=10000)(hok:∀e∈l,EvOk e):
 Calls prog 132 #[v,FnV 133 sb,FnV 128 kb,FnV 131 db] w (TmR base kb db (keptE st l) (goneE st l) w):=by
 obtain⟨ad,cap,rfl,hlm,-⟩:=Sl.at hl;have hlb:lo<=base:=by obtain⟨kv,dv,h⟩:=h0;have:=h.kblt;omega
 have HL:=hid hl;have HST:=hid hst;have HOK:=hid hok
 have HR0:Hid (TmRel w base kb db st l (.int .i64 (0:Nat)) w):=hid ⟨0,Nat.zero_le _,rfl,by rw[List.take_zero];exact h0,Mod.refl _ _⟩;clear hl hst hok h0;unfold FnV
 go_enter func132,ntmps132;go_wp2
 go_loopw [13] (TmRel w base kb db st l) (fun i _=>l.length-(intOf i).toNat)
 case atStart=>exact HR0.out
 case round=>
  rename World=>wr
  obtain⟨k,hk,rfl,hTm,hmr⟩:=hrel;have hHm:=hid hmr
  by_cases hlt:k<l.length
  ·have hz:(k:Int)<(l.length:Nat):=by omega
   have hlr:=HL.out.keep hmr (fun k hk e=>by have:=hE k hk;omega) (fun _ _ h=>h.keep hmr (fun k hk e=>by have:=hG k hk;omega));obtain⟨_,_,hae,-,hat⟩:=hlr.at
   injection hae with hae1 hae2 hae3;subst hae1 hae3;obtain⟨b,off,rfl,-,-,hcc⟩:=hat k hlt;obtain⟨cs,hcs,hev,hcA⟩:=hcc k hlt
   have hok:=HOK.out _ (List.getElem_mem hlt);have hks:=keptE_snoc st (l.take k) l[k];have hgs:=goneE_snoc st (l.take k) l[k]
   rw[<-List.take_succ_eq_append_getElem hlt]at hks hgs;have hlk1:=keptE_len st (l.take k);have hlg1:=goneE_len st (l.take k);rw[List.length_take]at hlk1 hlg1
   generalize l[k]=ev at*;have hsr:=hmr.obj (show ¬(sb=kb\/sb=db\/base<=sb) by omega) hs
   have hstr:=HST.out.keep hmr (fun k hk e=>by have:=hG2 k hk;omega) (fun _ _ h=>h);have HTM:=hid hTm;have HEV:=hid hev;have HSL:=hid hstr
   have h1c:∀c∈cs,c.oneCell'=true:=hev.one;have HKS:=hid hks;have HGS:=hid hgs;clear hlr hat hcc hae2 hTm hev hstr hmr hks hgs;go_upto_region 2 with(fail)
   refine wpR [3,1,1,1] ?_;simp only[stz];refine wpPI underlying72 39 hlt ?_;simp only[nmz];refine wpXA 115 b (off+k*39) cs hcA underlying115 39 hcs trivial ?_
   try simp only[nmz]
   refine wpD (qN 115 _ (by rfl) zeroEvV (fun w2 hB2 hm2 hs2=>?_))
   replace hB2:w2.heap[wr.heap.size]?=some (.cells (xI evt0 (.slice none 0 0) (.slice none 0 0)) 115 (0,0)):=hB2;try simp only[nmz]
   refine wpDo rfl ?_
   refine qF 115 _ _ wr.heap.size 0 cs (by rfl) (by rfl) (by rfl) h1c 39 (by kernel_rfl) hcs _ _ hB2 (by rw[hcs,(zI _ _ _ (by simp[evt0])).size];omega) (fun w3 hB3 hm3=>?_)
   rw[qD (by rw[hcs,(zI _ _ _ (by simp[evt0])).size])]at hB3;simp only[stz];have hmr3:Mod NoB wr w3:=hm2.transB hm3 (Nat.le_refl _)
   have hca3:CellsAt w3 wr.heap.size 0 cs:=CellsAt.whole hB3;have htest:=swTombs3_any (hmr3.obj id hsr) (HSL.out.keep0 hmr3) (HEV.out.keep0 hmr3);have hrb:=hmr3.size
   have hb9:base<=wr.heap.size:=by obtain⟨kv,dv,h⟩:=HTM.out;exact h.le
   obtain⟨x,hx⟩:∃x,hasV st ev.r ev.n=x:=⟨_,rfl⟩;rw[hx]at htest;have HX:=hid hx;clear hx hcA hm2 hm3 hB2 hs2;generalize hb7:wr.heap.size=b7 at*
   go_upto_region 4 with(fail);refine wpR [3,1,1] ?_;simp only[stz];refine wpXA 115 b7 0 cs hca3 underlying115 39 hcs trivial ?_;try simp only[nmz]
   refine wpD (zV (run_clos _ _ _ 133 #[.pointer (some ⟨sb,0,none⟩)] (by rfl) (by rfl) (.agg cs) (by rfl) (enters_of func133 (by kernel_rfl) rfl)) htest ?_)
   rintro e w4 ⟨rfl,hm4⟩;refine⟨_,rfl,?_⟩;simp only[stz];have hmr4:=hmr3.trans0 hm4;have hca4:CellsAt w4 b7 0 cs:=CellsAt.whole (hm4.obj id hB3)
   have hev4:=HEV.out.keep0 hmr4;clear htest hm4 hB3 hca3 hmr3;obtain⟨kv,dv,htm⟩:=HTM.out;have htm4:=htm.keep0 hmr4
   cases x with
   |true=>
    have hcall:=swTombs2_any htm4 hev4 (by omega);go_upto_region 6 with(fail);refine wpR [3,1,1] ?_;simp only[stz]
    refine wpXA 115 b7 0 cs hca4 underlying115 39 hcs trivial ?_;try simp only[nmz]
    refine wpD (zV (run_clos _ _ _ 131 #[.pointer (some ⟨db,0,none⟩)] (by rfl) (by rfl) (.agg cs) (by rfl) (enters_of func131 (by kernel_rfl) rfl)) hcall ?_)
    rintro e w5 ⟨rfl,htm5,hm5⟩
    have HR:Hid (TmRel w base kb db st l (.int .i64 ((k+1:Nat):Int)) w5):=hid ⟨k+1,by omega,rfl,by rw[HKS.out,HGS.out,HX.out,if_pos rfl,if_pos rfl,List.append_nil];exact htm5,(hHm.out.trans hmr4 (fun _ _ h=>h.elim)).trans hm5 (fun _ _ h=>h)⟩
    refine⟨_,rfl,?_⟩;simp only[stz];clear hcall htm4 htm5 hm5 hmr4 htm hev4;go_wp2
    go_roundw
    case rel=>exact HR.out
    case measure=>simp[intOf];omega
   |false=>
    have hcall:=swTombs1_any htm4 hev4 hok (by omega);go_upto_region 6 with(fail);refine wpR [3,1,1] ?_;simp only[stz]
    refine wpXA 115 b7 0 cs hca4 underlying115 39 hcs trivial ?_;try simp only[nmz]
    refine wpD (zV (run_clos _ _ _ 128 #[.pointer (some ⟨kb,0,none⟩)] (by rfl) (by rfl) (.agg cs) (by rfl) (enters_of func128 (by kernel_rfl) rfl)) hcall ?_)
    rintro e w5 ⟨rfl,htm5,hm5⟩
    have HR:Hid (TmRel w base kb db st l (.int .i64 ((k+1:Nat):Int)) w5):=hid ⟨k+1,by omega,rfl,by rw[HKS.out,HGS.out,HX.out,if_neg (by simp),if_neg (by simp),List.append_nil];exact htm5,(hHm.out.trans hmr4 (fun _ _ h=>h.elim)).trans hm5 (fun _ _ h=>h)⟩
    refine⟨_,rfl,?_⟩;simp only[stz];clear hcall htm4 htm5 hm5 hmr4 htm hev4;go_wp2
    go_roundw
    case rel=>exact HR.out
    case measure=>simp[intOf];omega
  ·have hz:¬(k:Int)<(l.length:Nat):=by omega
   obtain rfl:k=l.length:=by omega
   rw[List.take_length]at hTm;have HF:Hid (TmR base kb db (keptE st l) (goneE st l) w (.returned (.tuple #[])) wr):=hid ⟨rfl,hTm,hmr⟩;clear hTm hmr hHm;go_wp2
   go_end0
   exact HF.out
theorem run_loadVar1{P:Program}{w:World}{ty:TypeId}{p:Addr}{v:Value}{d:TypeDesc}(hc:w.cell? p=some v)(hu:P.underlying ty=some d)(hd:(match d with| .struct _| .array _ _=>true|_=>false)=false):(loadVar ty p).run P w=.ok v w:=by
 have hagg:(isAgg ty).run P w=.ok false w:=by
  unfold isAgg;rw[Sem.run_bind,run_underlying hu w]
  cases d<;>simp_all
 simp only[loadVar,Sem.run_bind,hagg,Result.andThen_ok,Bool.false_eq_true,if_false]
 simp[load,Sem.run,hc]
theorem results_cell2{P:Program}{fn:Func}{p q:Tmp}{ty tz:TypeId}(h:fn.results=#[.cell p ty,.cell q tz])(tmps:Array Value)(w:World)(b1 b2:Nat)(v1 v2:Value)(d1 d2:TypeDesc)
 (hp1:tmps.getD p undef=.pointer (some ⟨b1,0,none⟩))(hc1:w.cell? ⟨b1,0,none⟩=some v1)(hp2:tmps.getD q undef=.pointer (some ⟨b2,0,none⟩))(hc2:w.cell? ⟨b2,0,none⟩=some v2)
 (hu1:P.underlying ty=some d1)(hd1:(match d1 with| .struct _| .array _ _=>true|_=>false)=false)(hu2:P.underlying tz=some d2)(hd2:(match d2 with| .struct _| .array _ _=>true|_=>false)=false):
 (results fn tmps).run P w=.ok (.tuple #[v1,v2]) w:=by
 have e1:tmps[p]?.getD undef=.pointer (some ⟨b1,0,none⟩):=by simpa using hp1
 have e2:tmps[q]?.getD undef=.pointer (some ⟨b2,0,none⟩):=by simpa using hp2
 have r1:=run_loadVar1 hc1 hu1 hd1;have r2:=run_loadVar1 hc2 hu2 hd2
 simp[results,h,e1,e2,asAddr,r1,r2]
def TombR(w:World)(st:List Int)(l:List Evt):Ending->World->Prop:=fun e w'=>Mod NoB w w'/\∃kv dv,e=.returned (.tuple #[kv,dv])/\EvGs (fun k=>dv.ownBlock=some k) w.heap.size w' kv (keptE st l)/\DotGs w.heap.size w' dv (goneE st l)/\∀q,kv.ownBlock=some q->dv.ownBlock≠some q
theorem swTombs_any{own own' own2:Bool}{E G G2:Nat->Prop}{w:World}{v sv:Value}{st:List Int}{l:List Evt}(hl:Sl own w E 39 (EvR own' w G) v l)(hE:∀k,E k->k<w.heap.size)(hG:∀k,G k->k<w.heap.size)
 (hst:Sl own2 w G2 1 IntC sv st)(hlen:l.length<=10000)(hok:∀e∈l,EvOk e):
 Calls prog 57 #[v,sv] w (TombR w st l):=by
 obtain⟨ad,cap,rfl,hlm,-⟩:=Sl.at hl;have hst':=Sl.inside hst (by omega);obtain⟨sad,scap,hsv,-,-⟩:=Sl.at hst;have hmf:=xG;have HL:=hid hl
 have HST:=hid hst';have HOK:=hid hok;have HSV:=hid hsv;clear hl hst hst' hok;go_enter func57,ntmps57;go_upto_region 0 with(fail);refine wpR [1,1,1] ?_;simp only[stz]
 refine wpD (zL 64 _ _ (by rfl) (by rfl) (fun w1 hB1 hm1 hs1=>?_));replace hB1:w1.heap[w.heap.size]?=some (.cells #[sv] 64 (0,0)):=by rw[HSV.out]at hB1 |-;exact hB1
 try simp only[nmz]
 refine wpD (qN 72 (.slice none 0 0) (by rfl) (by kernel_rfl) (fun w2 hB2 hm2 hs2=>?_))
 replace hB2:w2.heap[w1.heap.size]?=some (.cells #[.slice none 0 0] 72 (0,0)):=hB2;try simp only[nmz]
 refine wpD (qN 116 (.slice none 0 0) (by rfl) (by kernel_rfl) (fun w3 hB3 hm3 hs3=>?_))
 replace hB3:w3.heap[w2.heap.size]?=some (.cells #[.slice none 0 0] 116 (0,0)):=hB3;simp only[stz];have hm03:=(hm1.trans0 hm2).trans0 hm3
 have hsb3:=(hm2.trans0 hm3).obj id hB1;have hkb3:=hm3.obj id hB2
 have h0:TmIn w3.heap.size w1.heap.size w2.heap.size [] [] w3:=⟨.slice none 0 0,.slice none 0 0,hkb3,hB3,EvGs.nil _ _ _,Gat.nil _ _ _ _ _,fun q e=>by simp[Value.ownBlock]at e,by have:=hm3.size;omega,hs3,by omega,Nat.le_refl _⟩
 have s1:=hm1.size;have s2:=hm2.size
 have hpart:=swParted_any (lo:=w.heap.size) (sb:=w.heap.size) (SlEv.keep0 HL.out hm03) hE hG hsb3 (HST.out.keep0 hm03) (fun _ h=>h) s1 (by omega) (by omega) (by omega) (by omega) h0 hlen HOK.out
 unfold FnV at hpart;generalize hbk:w1.heap.size=kb at*;generalize hbd:w2.heap.size=db at*;generalize hbs:w.heap.size=sb at*
 clear hB1 hB2 hB3 hm1 hm2 hm3 hsb3 hkb3 h0;go_upto_region 3 with(fail);refine wpR [3,1,3,3,1] ?_;simp only[stz]
 refine wpX rfl (jI 133 [.tmp 3] (by rfl) [.pointer (some ⟨sb,0,none⟩)] (by rfl)) trivial ?_;simp only[stz];refine wpD (wpC func132 (hpart) ?_)
 rintro e w4 ⟨rfl,⟨kv,dv,htm⟩,hm4⟩;refine⟨_,rfl,?_⟩;simp only[stz];obtain⟨⟨ead,ecap,hkv,-,-⟩,⟨dad,dcap,hdv⟩⟩:=And.intro (Sl.at htm.kept.sl) (Gat.slice htm.dots)
 have HTM:=hid htm;have HKV:=hid hkv;have HDV:=hid hdv;have hm04:Mod NoB w w4:=hm03.trans hm4 (fun k hk e=>by omega);have hkd:=htm.ne
 have hkb4:w4.drew.heap[kb]?=some (.cells #[kv] 72 (0,0)):=htm.kbox;have hdb4:w4.drew.heap[db]?=some (.cells #[dv] 116 (0,0)):=htm.dbox
 have hS:w4.drew.heap[kb]?=some (.cells #[kv] 72 (0,0))/\w4.drew.heap[db]?=some (.cells #[dv] 116 (0,0))/\Mod (fun k=>k=kb\/k=db) w4 w4.drew:=⟨hkb4,hdb4,(Mod.refl _ _).drew⟩
 clear hpart htm hkb4 hdb4;go_upto_region 4 with(fail)
 refine wpRZ [0,0,1,1] [] (fun w'=>w'.heap[kb]?=some (.cells #[kv] 72 (0,0))/\w'.heap[db]?=some (.cells #[dv] 116 (0,0))/\Mod (fun k=>k=kb\/k=db) w4 w') hS ?_
 simp only[stz];refine qG rfl (fun w' hS=>zA 72 _ rfl kb 0 rfl kv (by simp[World.cell?,hS.1]) _ underlying72 rfl) ?_;simp only[nmz]
 refine qG rfl (fun w' hS=>zA 116 _ rfl db 0 rfl dv (by simp[World.cell?,hS.2.1]) _ underlying116 rfl) ?_;simp only[nmz];refine qL rfl (fun K hK=>?_)
 refine qR 72 _ _ kb 0 kv (by rfl) (by rfl) (by rfl) HTM.out.kept.one (by kernel_rfl) _ _ hS.1 (by simp) (fun w5 hB5 hm5=>?_)
 replace hS:w5.heap[kb]?=some (.cells #[kv] 72 (0,0))/\w5.heap[db]?=some (.cells #[dv] 116 (0,0))/\Mod (fun k=>k=kb\/k=db) w4 w5:=⟨hB5,hm5.objB (Ne.symm hkd) hS.2.1,hS.2.2.trans hm5 (fun k _ e=>.inl e)⟩
 refine hK _ _ hS ?_;clear hK K hB5 hm5;try simp only[nmz]
 refine qL rfl (fun K hK=>?_);refine qR 116 _ _ db 0 dv (by rfl) (by rfl) (by rfl) (xW HTM.out.dots) (by kernel_rfl) _ _ hS.2.1 (by simp) (fun w6 hB6 hm6=>?_)
 replace hS:w6.heap[kb]?=some (.cells #[kv] 72 (0,0))/\w6.heap[db]?=some (.cells #[dv] 116 (0,0))/\Mod (fun k=>k=kb\/k=db) w4 w6:=⟨hm6.objB hkd hS.1,hB6,hS.2.2.trans hm6 (fun k _ e=>.inr e)⟩
 refine hK _ _ hS ?_;clear hK K hB6 hm6;simp only[stz];obtain⟨hk6,hd6,hm46⟩:=hS;have hkc:w6.cell? ⟨kb,0,none⟩=some kv:=by simp[World.cell?,hk6]
 have hdc:w6.cell? ⟨db,0,none⟩=some dv:=by simp[World.cell?,hd6]
 have htm:=HTM.out;have hb:=htm.kblt;have hb':=htm.dblt
 have HF:Hid (TombR w st l (.returned (.tuple #[kv,dv])) w6):=hid ⟨hm04.trans hm46 (fun k hk e=>by omega),kv,dv,rfl,(htm.kept.keep hm46 (fun k hk e=>by have:=(htm.kept.lt hk).1;omega) (fun k hk e=>by have:=hk.1;omega)).based (by omega),Gat.base (Gat.keep htm.dots hm46 (fun k hk e=>by have:=(Gat.lt htm.dots hk).1;omega)) (by omega),htm.apart⟩
 rw[HKV.out]at hkc;rw[HDV.out]at hdc;clear htm hk6 hd6 hm46 hm04 hm4;go_wp2
 refine bodyPost_ret (results_cell2 (P:=prog) (ty:=72) (tz:=116) rfl _ _ kb db _ _ _ _ (by rfl) hkc (by rfl) hdc underlying72 rfl underlying116 rfl) rfl ?_;have h9:=HF.out
 rw[HKV.out,HDV.out]at h9;exact h9
end
section
open Go.RowKit Go.Shelf Go.Proofs.Tryz Go.Lib
theorem ev_zsT:(prog.info? 115).map (fun i=>(i.zero,i.size))=some (some evZero,39):=by kernel_rfl
def CpRel(w0:World)(l:List Evt)(kv i:Value)(w:World):Prop:=∃k:Nat,k<=l.length/\i=.int .i64 k/\EvGs NoB w0.heap.size w kv (l.take k)/\Mod NoB w0 w
def CopyR(w:World)(l:List Evt):Ending->World->Prop:=fun e w'=>Mod NoB w w'/\∃v,e=.returned v/\EvGs NoB w.heap.size w' v l
theorem copyEvents_any{own own':Bool}{E G:Nat->Prop}{w:World}{v:Value}{l:List Evt}(hl:Sl own w E 39 (EvR own' w G) v l)(hlen:l.length<=10000)(hok:∀e∈l,EvOk e):Calls prog 46 #[v] w (CopyR w l):=by
 obtain⟨ad,cap,rfl,hle,hat⟩:=Sl.at hl;have HAT:=hid hat;have HOK:=hid hok;clear hl hat hok;go_enter func46,ntmps46;go_wp2
 go_loopw [3,4] (CpRel w l) (fun _ i _=>l.length-(intOf i).toNat)
 case atStart=>exact⟨0,Nat.zero_le _,rfl,EvGs.nil _ _ _,Mod.refl _ _⟩
 case round=>
  rename World=>wr
  obtain⟨k,hk,rfl,hg,hm⟩:=hrel
  by_cases hlt:k<l.length
  ·have hz:(k:Int)<(l.length:Nat):=by omega
   obtain⟨b,off,rfl,-,-,hcc⟩:=HAT.out k hlt;obtain⟨cs,hcs,hev,hcA⟩:=hcc k hlt;have hoke:=HOK.out _ (List.getElem_mem hlt)
   have htk:=List.take_succ_eq_append_getElem hlt;generalize l[k]=e0 at*;have hcr:=hcA.keep hm id;have hcp:=copyEvent_any _ _ cs e0 wr (hev.keep0 hm) hoke
   have HTK:=hid htk;have hkl:(l.take k).length<=10000:=by rw[List.length_take];omega
   generalize l.take k=pre at*;clear hcc hcA hev htk;go_upto_region 5 with(fail);refine wpR [3,3,3,3,1,1,1,1,3] ?_;simp only[stz];refine wpPI underlying72 39 hlt ?_
   simp only[nmz];refine wpXA 115 b (off+k*39) cs hcr underlying115 39 hcs trivial ?_;try simp only[nmz]
   refine wpD (wpC func114 (hcp) ?_);rintro e w2 ⟨v2,rfl,hm2,cs',rfl,hev2⟩;refine⟨_,rfl,?_⟩;try simp only[nmz]
   refine wpD (qQ 72 115 _ (.agg cs') evZero 39 (by rfl) (by rfl) underlying72 ev_zsT (by omega) (by omega) hev2.size (fun w3 hB3 hm3 hs3=>?_))
   replace hB3:w3.heap[w2.heap.size]?=some (.cells cs' 115 (0,0)):=hB3
   have hev3:EvR true w3 (Inn NoB w.heap.size _ w3) cs' e0:=(hev2.keep0 hm3).mono fun q hq=>⟨Nat.le_trans hm.size hq.1,Nat.lt_of_lt_of_le hq.2 hm3.size,fun e=>by have:=(hg.lt e).2;have:=hq.1;omega,fun h=>h⟩
   have hg3:=(hg.keep0 hm2).keep0 hm3;have hsz3:w.heap.size<=w3.heap.size:=Nat.le_trans (Nat.le_trans hm.size hm2.size) hm3.size;try simp only[nmz]
   refine wpD (wp_evs _ _ (by rfl) (by rfl) hg3 w2.heap.size cs' e0 (by rfl) hB3 hev3 (by omega) hsz3 (fun v4 w4 hg4 hv4 hm4=>?_));simp only[stz]
   have HR:Hid (CpRel w l v4 (.int .i64 ((k+1:Nat):Int)) w4):=hid ⟨k+1,by omega,rfl,by rw[HTK.out];exact hg4,((hm.trans0 hm2).trans0 hm3).trans hm4 (fun q hq e=>by have:=(hg3.lt e).1;omega)⟩
   clear hcr hcp hg hg3 hg4 hm hm2 hm3 hm4 hB3 hev2 hev3 hs3 hv4;go_wp2
   go_roundw
   case rel=>exact HR.out
   case measure=>simp[intOf];omega
  ·have hz:¬(k:Int)<(l.length:Nat):=by omega
   obtain rfl:k=l.length:=by omega
   rw[List.take_length]at hg;have HF:Hid (CopyR w l (.returned _) wr):=hid ⟨hm,_,rfl,hg⟩;clear hg hm;go_wp2;go_ret;exact HF.out
def RtRel(w0:World)(st:List Int)(l:List Evt)(kv dv i:Value)(w:World):Prop:=∃k:Nat,k<=l.length/\i=.int .i64 k/\EvGs (fun q=>dv.ownBlock=some q) w0.heap.size w kv (keptE st (l.take k))/\DotGs w0.heap.size w dv (goneE st (l.take k))/\(∀q,kv.ownBlock=some q->dv.ownBlock≠some q)/\Mod NoB w0 w
theorem r27Tombs_any{own own' own2:Bool}{E G G2:Nat->Prop}{w:World}{v sv:Value}{st:List Int}{l:List Evt}(hl:Sl own w E 39 (EvR own' w G) v l)(hst:Sl own2 w G2 1 IntC sv st)(hlen:l.length<=10000)(hok:∀e∈l,EvOk e):Calls prog 73 #[v,sv] w (TombR w st l):=by
 obtain⟨ad,cap,rfl,hle,hat⟩:=Sl.at hl;have HAT:=hid hat;have HOK:=hid hok;have HST:=hid hst;clear hl hat hok hst;go_enter func73,ntmps73;go_wp2
 go_loopw [6,7,8] (RtRel w st l) (fun _ _ i _=>l.length-(intOf i).toNat)
 case atStart=>exact⟨0,Nat.zero_le _,rfl,EvGs.nil _ _ _,Gat.nil _ _ _ _ _,fun q h=>(nomatch h),Mod.refl _ _⟩
 case round=>
  rename World=>wr
  obtain⟨k,hk,rfl,hg,hd,hap,hm⟩:=hrel
  by_cases hlt:k<l.length
  ·have hz:(k:Int)<(l.length:Nat):=by omega
   obtain⟨b,off,rfl,-,-,hcc⟩:=HAT.out k hlt;obtain⟨cs,hcs,hev,hcA⟩:=hcc k hlt;have hoke:=HOK.out _ (List.getElem_mem hlt);have hks:=keptE_snoc st (l.take k) l[k]
   have hgs:=goneE_snoc st (l.take k) l[k];rw[<-List.take_succ_eq_append_getElem hlt]at hks hgs;have hkl:=keptE_len st (l.take k);have hgl:=goneE_len st (l.take k)
   rw[List.length_take]at hkl hgl;generalize l[k]=e0 at*;have hcr:=hcA.keep hm id;have hevr:=hev.keep0 hm;obtain⟨ev,rv,hca,hi,-⟩:=id hev
   have cA:=zI e0 ev rv hi;rw[<-hca]at cA;clear hca;have hAd:=hcr.part (i:=0) (j:=2) (by rw[cA.size];omega);rw[cA.dot]at hAd
   have hhas:=r14Has_any (HST.out.keep0 hm) e0.r e0.n;obtain⟨t,ht⟩:∃t,hasV st e0.r e0.n=t:=⟨_,rfl⟩;rw[ht]at hhas hks hgs;generalize keptE st (l.take k)=pk at*
   generalize goneE st (l.take k)=pg at*;have HKS:=hid hks;have HGS:=hid hgs;clear hcc hcA hev hks hgs ht;go_upto_region 6 with(fail);refine wpR [3,3,3,3,3,1,1] ?_
   simp only[stz];refine wpPI underlying72 39 hlt ?_;simp only[stz];refine wpXA 113 b (off+k*39+0) #[.int .i64 e0.r,.int .i64 e0.n] hAd underlying113 2 rfl trivial ?_
   try simp only[nmz]
   refine wpD (wpCM func149 (hhas) fun w2 hm2=>?_);simp only[stz];have hm02:=hm.trans0 hm2;have hg2:=hg.keep0 hm2;have hd2:=Gat.keep0 hd hm2;have hcr2:=hcr.keep hm2 id
   have hAd2:=hAd.keep hm2 id;have hev2:=hevr.keep0 hm2;have s02:=hm02.size;clear hm hm2 hg hd hcr hAd hevr hhas
   cases t with
   |true=>
    have HK2:Hid (keptE st (l.take (k+1))=pk):=hid (by rw[HKS.out];simp);have HG2:Hid (goneE st (l.take (k+1))=pg++[(e0.r,e0.n)]):=hid (by rw[HGS.out];simp)
    go_upto_region 7 with(fail);refine wpR [3,3,3,3,3,1,1,1,3] ?_;simp only[stz];refine wpPI underlying72 39 hlt ?_;simp only[stz]
    refine wpXA 113 b (off+k*39+0) #[.int .i64 e0.r,.int .i64 e0.n] hAd2 underlying113 2 rfl trivial ?_;try simp only[nmz]
    refine wpD (qQ 116 113 _ (.agg #[.int .i64 e0.r,.int .i64 e0.n]) (.agg #[.int .i64 0,.int .i64 0]) 2 (by rfl) (by rfl) underlying116 (by kernel_rfl) (by omega) (by omega) rfl (fun w3 hB3 hm3 hs3=>?_))
    replace hB3:w3.heap[w2.heap.size]?=some (.cells (dotEnc (e0.r,e0.n)).toArray 113 (0,0)):=hB3;try simp only[nmz]
    refine wpD (wp_dots _ _ (by rfl) (by rfl) (Gat.keep0 hd2 hm3) w2.heap.size (e0.r,e0.n) (by rfl) hB3 (by omega) (Nat.le_trans s02 hm3.size) (fun v4 w4 hg4 hv4 hm4=>?_))
    simp only[stz];have hgk:=hg2.keep0 hm3;have hdk:=Gat.keep0 hd2 hm3
    have hE4:EvGs (fun q=>v4.ownBlock=some q) w.heap.size w4 u6 pk:=by
     have hE:=hgk.keep hm4 (fun q hq hd=>hap q hq hd) (fun q hq hd=>hq.2.2.2 hd);obtain⟨css,q1,q2,q3⟩:=hgk
     have hq:=q3.imp fun _ _ h=>(h.keep hm4 (fun k hk hd=>hk.2.2.2 hd))
     refine⟨css,zE q1 hm4 (fun k hk hd=>hap k hk hd),q2,hq.imp fun _ _ h=>h.mono fun k hk=>⟨hk.1,Nat.lt_of_lt_of_le hk.2.1 hm4.size,hk.2.2.1,fun e=>?_⟩⟩
     rcases hv4 with hv|hv
     ·exact hk.2.2.2 (hv▸e)
     ·rw[hv]at e;cases e;exact Nat.lt_irrefl _ hk.2.1
    have hap4:∀q,u6.ownBlock=some q->v4.ownBlock≠some q:=fun q hq e=>by
     rcases hv4 with hv|hv
     ·exact hap q hq (hv▸e)
     ·rw[hv]at e;cases e;have:=(hgk.lt hq).2;omega
    have HR:Hid (RtRel w st l _ v4 (.int .i64 ((k+1:Nat):Int)) w4):=hid ⟨k+1,by omega,rfl,by rw[HK2.out];exact hE4,by rw[HG2.out];exact hg4,hap4,(hm02.trans0 hm3).trans hm4 (fun q hq e=>by have:=(Gat.lt hdk e).1;omega)⟩
    clear hg2 hd2 hap hcr2 hAd2 hev2 hm02 hm3 hm4 hB3 hg4 hv4 hgk hdk hE4 hap4 hs3;go_wp2
    go_roundw
    case rel=>exact HR.out
    case measure=>simp[intOf];omega
   |false=>
    have HK2:Hid (keptE st (l.take (k+1))=pk++[e0]):=hid (by rw[HKS.out];simp);have HG2:Hid (goneE st (l.take (k+1))=pg):=hid (by rw[HGS.out];simp)
    have hcp:=copyEvent_any _ _ cs e0 w2 hev2 hoke;go_upto_region 8 with(fail);refine wpR [3,3,3,3,1,1,1,1,3] ?_;simp only[stz];refine wpPI underlying72 39 hlt ?_
    simp only[nmz];refine wpXA 115 b (off+k*39) cs hcr2 underlying115 39 hcs trivial ?_;try simp only[nmz]
    refine wpD (wpC func114 (hcp) ?_);rintro e w3 ⟨v3,rfl,hm3,cs',rfl,hev3⟩;refine⟨_,rfl,?_⟩;try simp only[nmz]
    refine wpD (qQ 72 115 _ (.agg cs') evZero 39 (by rfl) (by rfl) underlying72 ev_zsT (by omega) (by omega) hev3.size (fun w4 hB4 hm4 hs4=>?_))
    replace hB4:w4.heap[w3.heap.size]?=some (.cells cs' 115 (0,0)):=hB4;have hgk:=(hg2.keep0 hm3).keep0 hm4;have hdk:=Gat.keep0 (Gat.keep0 hd2 hm3) hm4
    have hev4:=(hev3.keep0 hm4).mono fun q (hq:New w2 w3 q)=>(⟨Nat.le_trans s02 hq.1,Nat.lt_of_lt_of_le hq.2 hm4.size,fun e=>by have:=(hg2.lt e).2;have:=hq.1;omega,fun(e:u7.ownBlock=some q)=>by have:=(Gat.lt hd2 e).2;have:=hq.1;omega⟩:Inn (fun q=>u7.ownBlock=some q) w.heap.size u6 w4 q)
    have hsz4:w.heap.size<=w4.heap.size:=Nat.le_trans (Nat.le_trans s02 hm3.size) hm4.size;try simp only[nmz]
    refine wpD (wp_evs _ _ (by rfl) (by rfl) hgk w3.heap.size cs' e0 (by rfl) hB4 hev4 (by omega) hsz4 (fun v5 w5 hg5 hv5 hm5=>?_));simp only[stz]
    have hd5:=Gat.keep hdk hm5 (fun q hq e=>hap q e hq)
    have hap5:∀q,v5.ownBlock=some q->u7.ownBlock≠some q:=fun q hq e=>by
     rcases hv5 with hv|hv
     ·exact hap q (by rw[<-hv];exact hq) e
     ·rw[hv]at hq;cases hq;have:=(Gat.lt hdk e).2;omega
    have HR:Hid (RtRel w st l v5 _ (.int .i64 ((k+1:Nat):Int)) w5):=hid ⟨k+1,by omega,rfl,by rw[HK2.out];exact hg5,by rw[HG2.out];exact hd5,hap5,((hm02.trans0 hm3).trans0 hm4).trans hm5 (fun q hq e=>by have:=(hgk.lt e).1;omega)⟩
    clear hg2 hd2 hap hcr2 hAd2 hev2 hm02 hm3 hm4 hm5 hB4 hg5 hv5 hgk hdk hd5 hap5 hs4 hev3 hev4 hcp;go_wp2
    go_roundw
    case rel=>exact HR.out
    case measure=>simp[intOf];omega
  ·have hz:¬(k:Int)<(l.length:Nat):=by omega
   obtain rfl:k=l.length:=by omega
   rw[List.take_length]at hg hd;have HF:Hid (TombR w st l (.returned (.tuple #[_,_])) wr):=hid ⟨hm,_,_,rfl,hg,hd,hap⟩;clear hg hm hd hap;go_wp2;go_ret2;exact HF.out
end
section
open Go.RowKit Go.Proofs.Tryz Go.Lib
inductive Kdo where
 |i|b|s|l
 deriving DecidableEq
def Kind(v:Value):Kdo->Prop
 | .i=>∃n,v=.int .i64 n
 | .b=>∃x,v=byteV x
 | .s=>∃t,v=.string t
 | .l=>∃a n c,v=.slice a n c
def Like(v v':Value):Prop:=(∀k,Kind v k->Kind v' k)/\∀a n c,v=.slice a n c->v'=v\/v'=.slice none 0 0
theorem Like.refl(v:Value):Like v v:=⟨fun _ h=>h,fun _ _ _ _=>.inl rfl⟩
theorem Like.trans{a b c:Value}(h:Like a b)(k:Like b c):Like a c:=⟨fun x hx=>k.1 x (h.1 x hx),fun p q r e=>by
 rcases h.2 p q r e with e1|e1
 ·rw[<-e1];rcases k.2 p q r (e1.trans e)with e2|e2
  ·exact .inl e2
  ·exact .inr e2
 ·rcases k.2 _ _ _ e1 with e2|e2
  ·exact .inr (e2.trans e1)
  ·exact .inr e2⟩
theorem Like.int(m n:Int):Like (.int .i64 m) (.int .i64 n):=by
 refine⟨fun k hk=>?_,fun _ _ _ e=>?_⟩
 ·cases k with
  |i=>exact⟨n,rfl⟩
  |b=>obtain⟨x,hx⟩:=hk;cases hx
  |s=>obtain⟨x,hx⟩:=hk;cases hx
  |l=>obtain⟨a,b,c,hx⟩:=hk;cases hx
 ·cases e
theorem Like.byte(m n:UInt8):Like (byteV m) (byteV n):=by
 refine⟨fun k hk=>?_,fun _ _ _ e=>?_⟩
 ·cases k with
  |i=>obtain⟨x,hx⟩:=hk;cases hx
  |b=>exact⟨n,rfl⟩
  |s=>obtain⟨x,hx⟩:=hk;cases hx
  |l=>obtain⟨a,b,c,hx⟩:=hk;cases hx
 ·cases e
theorem Like.str(m n:ByteArray):Like (.string m) (.string n):=by
 refine⟨fun k hk=>?_,fun _ _ _ e=>?_⟩
 ·cases k with
  |i=>obtain⟨x,hx⟩:=hk;cases hx
  |b=>obtain⟨x,hx⟩:=hk;cases hx
  |s=>exact⟨n,rfl⟩
  |l=>obtain⟨a,b,c,hx⟩:=hk;cases hx
 ·cases e
theorem Like.nil(a:Option Addr)(n c:Nat):Like (.slice a n c) (.slice none 0 0):=by
 refine⟨fun k hk=>?_,fun _ _ _ e=>?_⟩
 ·cases k with
  |i=>obtain⟨x,hx⟩:=hk;cases hx
  |b=>obtain⟨x,hx⟩:=hk;cases hx
  |s=>obtain⟨x,hx⟩:=hk;cases hx
  |l=>exact⟨none,0,0,rfl⟩
 ·exact .inr rfl
theorem Like.of{v v':Value}{k:Kdo}(h:Kind v k)(h':Kind v' k)(hl:k=.l->v'=.slice none 0 0):Like v v':=by
 cases k with
 |i=>obtain⟨m,rfl⟩:=h;obtain⟨n,rfl⟩:=h';exact Like.int m n
 |b=>obtain⟨m,rfl⟩:=h;obtain⟨n,rfl⟩:=h';exact Like.byte m n
 |s=>obtain⟨m,rfl⟩:=h;obtain⟨n,rfl⟩:=h';exact Like.str m n
 |l=>obtain⟨a,n,c,rfl⟩:=h;rw[hl rfl];exact Like.nil a n c
def LikeA(cs cs':Array Value):Prop:=cs'.size=cs.size/\∀(j:Nat)(v:Value),cs[j]?=some v->∃v',cs'[j]?=some v'/\Like v v'
theorem LikeA.refl(cs:Array Value):LikeA cs cs:=⟨rfl,fun _ v h=>⟨v,h,Like.refl v⟩⟩
theorem LikeA.trans{a b c:Array Value}(h:LikeA a b)(k:LikeA b c):LikeA a c:=⟨k.1.trans h.1,fun j v hj=>by
 obtain⟨v1,h1,h2⟩:=h.2 j v hj;obtain⟨v2,h3,h4⟩:=k.2 j v1 h1
 exact⟨v2,h3,h2.trans h4⟩⟩
structure KMod(S:Nat->Prop)(w w':World):Prop where
 mod:Mod S w w'
 like:∀(b:Nat)(cur:Array Value)(T:TypeId),w.heap[b]?=some (.cells cur T (0,0))->∃cur':Array Value,w'.heap[b]?=some (.cells cur' T (0,0))/\LikeA cur cur'
theorem KMod.refl(S:Nat->Prop)(w:World):KMod S w w:=⟨Mod.refl _ _,fun _ cur _ h=>⟨cur,h,LikeA.refl _⟩⟩
theorem KMod.trans{S:Nat->Prop}{a b c:World}(h:KMod S a b)(k:KMod S b c):KMod S a c:=⟨h.mod.trans k.mod (fun _ _ h=>h),fun x cur T hx=>by
 obtain⟨c1,h1,h2⟩:=h.like x cur T hx;obtain⟨c2,h3,h4⟩:=k.like x c1 T h1
 exact⟨c2,h3,h2.trans h4⟩⟩
theorem KMod.row{S:Nat->Prop}{w w':World}{b:Nat}{cur cur':Array Value}{T:TypeId}(hS:S b)(hb:w.heap[b]?=some (.cells cur T (0,0)))(hb':w'.heap[b]?=some (.cells cur' T (0,0)))(hl:LikeA cur cur')(hm:Mod (fun k=>k=b) w w'):KMod S w w':=by
 refine⟨hm.mono (fun k _ e=>by have e':k=b:=e;rw[e'];exact hS),fun x c T' hx=>?_⟩
 by_cases e:x=b
 ·subst e
  rw[hb]at hx
  cases hx
  exact⟨cur',hb',hl⟩
 ·exact⟨c,hm.objB e hx,LikeA.refl _⟩
theorem LikeA.set1{cur:Array Value}{j:Nat}{u v:Value}(h:cur[j]?=some u)(hl:Like u v):LikeA cur (cur.setIfInBounds j v):=by
 refine⟨by simp,fun i x hx=>?_⟩;rw[Array.getElem?_setIfInBounds]
 by_cases e:j=i
 ·subst e
  rw[h]at hx;cases hx
  have hj:j<cur.size:=by
   rcases Nat.lt_or_ge j cur.size with h'|h'
   ·exact h'
   ·rw[Array.getElem?_eq_none h']at h;cases h
  rw[if_pos rfl,if_pos hj];exact⟨v,rfl,hl⟩
 ·rw[if_neg e]
  exact⟨x,hx,Like.refl x⟩
theorem LikeA.put{cur cs cs':Array Value}{off:Nat}(hfit:off+cs'.size<=cur.size)(h:∀j,j<cs.size->cur[off+j]?=cs[j]?)(hl:LikeA cs cs'):LikeA cur (qY cur off cs'):=by
 refine⟨yH hfit,fun i x hx=>?_⟩;have hsz:=hl.1
 have hg:(qY cur off cs')[i]?=if i<off then cur[i]? else if i<off+cs'.size then cs'[i-off]? else cur[i]?:=by
  unfold qY;rw[List.getElem?_toArray]
  split
  ·rename_i h1
   rw[List.append_assoc,List.getElem?_append_left (by simp;omega),List.getElem?_take_of_lt h1];simp
  ·rename_i h1
   split
   ·rename_i h2
    rw[List.append_assoc,List.getElem?_append_right (by simp;omega),List.getElem?_append_left (by simp;omega)];simp only[List.length_take,Array.length_toList]
    rw[Nat.min_eq_left (by omega)];simp
   ·rename_i h2
    rw[List.getElem?_append_right (by simp;omega)];simp only[List.length_append,List.length_take,Array.length_toList,List.getElem?_drop]
    rw[Nat.min_eq_left (by omega),show off+cs'.size+(i-(off+cs'.size))=i by omega];simp
 rw[hg]
 split
 ·exact⟨x,hx,Like.refl x⟩
 ·rename_i h1
  split
  ·rename_i h2
   have h3:=h (i-off) (by omega);rw[show off+(i-off)=i by omega,hx]at h3;exact hl.2 (i-off) x h3.symm
  ·exact⟨x,hx,Like.refl x⟩
theorem Sl.kmod{S:Nat->Prop}{w w':World}{sz:Nat}{Sh Sh':Array Value->Prop}{v:Value}{l:List Unit}(hsz:0<sz)(h:Sl true w S sz (fun cs _=>Sh cs) v l)(hm:KMod S w w')(hR:∀cs cs',Sh cs->LikeA cs cs'->Sh' cs'):
 Sl true w' S sz (fun cs _=>Sh' cs) v l:=by
 obtain⟨a,cap,hv,hl,hc,h⟩:=h;refine⟨a,cap,hv,hl,hc,fun hne=>?_⟩;obtain⟨b,off,ha,hG,ho,h⟩:=h hne;obtain⟨cur,T,hrow⟩:=ho rfl
 obtain⟨cur',hrow',hlk⟩:=hm.like b cur T hrow;refine⟨b,off,ha,hG,fun _=>⟨cur',T,hrow'⟩,fun i hi=>?_⟩;obtain⟨cs,hs,hsh,hcells⟩:=h i hi
 have hcur:∀j,j<sz->cur[off+i*sz+j]?=cs[j]?:=fun j hj=>by
  have:=hcells j (by omega)
  rwa[cell_of_row w b _ _ _ _ hrow]at this
 have hbnd:off+i*sz+sz<=cur'.size:=by
  have h1:=hcur (sz-1) (by omega);rw[Array.getElem?_eq_getElem (by omega:sz-1<cs.size)]at h1;rw[hlk.1]
  rcases Nat.lt_or_ge (off+i*sz+(sz-1)) cur.size with h2|h2
  ·omega
  ·rw[Array.getElem?_eq_none h2]at h1;cases h1
 have hex:∀j,(cur'.extract (off+i*sz) (off+i*sz+sz))[j]?=if j<sz then cur'[off+i*sz+j]? else none:=fun j=>by
  rw[Array.getElem?_extract]
  congr 1
  rw[eq_iff_iff];omega
 refine⟨cur'.extract (off+i*sz) (off+i*sz+sz),by simp;omega,hR cs _ hsh ⟨by simp;omega,fun j u hj=>?_⟩,fun j hj=>?_⟩
 ·have hjs:j<sz:=by
   rcases Nat.lt_or_ge j cs.size with h2|h2
   ·omega
   ·rw[Array.getElem?_eq_none h2]at hj;cases hj
  rw[hex,if_pos hjs];exact hlk.2 _ u ((hcur j hjs).trans hj)
 ·have hjs:j<sz:=by simp at hj;omega
  rw[hex,if_pos hjs,cell_of_row w' b _ _ _ _ hrow']
def IntS(cs:Array Value):Prop:=∃n,cs=#[.int .i64 n]
def KindsS(ks:List Kdo)(cs:Array Value):Prop:=cs.size=ks.length/\∀(j:Nat)(k:Kdo),ks[j]?=some k->∃v,cs[j]?=some v/\Kind v k
def idK:List Kdo:=List.replicate 32 .b
theorem idK_len:idK.length=32:=rfl
def evK:List Kdo:=[.i,.i,.l,.i,.s,.s]++idK++[.l]
structure EvS(w:World)(S:Nat->Prop)(cs:Array Value):Prop where
 kinds:KindsS evK cs
 deps:∃(v:Value)(l:List Unit),cs[2]?=some v/\Sl true w S 1 (fun cs _=>IntS cs) v l
 refs:∃(v:Value)(l:List Unit),cs[38]?=some v/\Sl true w S 32 (fun cs _=>KindsS idK cs) v l
theorem IntS.like(cs cs':Array Value)(h:IntS cs)(hl:LikeA cs cs'):IntS cs':=by
 obtain⟨n,rfl⟩:=h;obtain⟨v',h1,h2⟩:=hl.2 0 _ rfl;obtain⟨m,hm⟩:=h2.1 .i ⟨n,rfl⟩;refine⟨m,?_⟩;have hs:cs'.size=1:=hl.1
 apply Array.ext_getElem?
 intro i
 match i with
 |0=>rw[h1,hm];rfl
 |i+1=>rw[Array.getElem?_eq_none (by omega),Array.getElem?_eq_none (by simp)]
theorem KindsS.like{ks:List Kdo}(cs cs':Array Value)(h:KindsS ks cs)(hl:LikeA cs cs'):KindsS ks cs':=⟨hl.1.trans h.1,fun j k hk=>by
 obtain⟨v,h1,h2⟩:=h.2 j k hk;obtain⟨v',h3,h4⟩:=hl.2 j v h1
 exact⟨v',h3,h4.1 k h2⟩⟩
theorem sl_cell{S:Nat->Prop}{w w':World}{sz:Nat}{Sh Sh':Array Value->Prop}{cs cs':Array Value}{j:Nat}(hsz:0<sz)(h:∃v l,cs[j]?=some v/\Sl true w S sz (fun cs (_:Unit)=>Sh cs) v l)(hm:KMod S w w')(hl:LikeA cs cs')
 (hR:∀cs cs',Sh cs->LikeA cs cs'->Sh' cs'):∃v l,cs'[j]?=some v/\Sl true w' S sz (fun cs (_:Unit)=>Sh' cs) v l:=by
 obtain⟨v,l,h1,h2⟩:=h;obtain⟨v',h3,h4⟩:=hl.2 j v h1;obtain⟨a,cap,hv,_⟩:=id h2
 rcases h4.2 _ _ _ hv with e|e
 ·exact⟨v,l,by rw[h3,e],h2.kmod hsz hm hR⟩
 ·exact⟨_,[],h3.trans (congrArg some e),Sl.nil _ _ _ _ _⟩
theorem EvS.kmod{S:Nat->Prop}{w w':World}(hm:KMod S w w')(cs cs':Array Value)(h:EvS w S cs)(hl:LikeA cs cs'):EvS w' S cs':=
 ⟨h.kinds.like _ _ hl,sl_cell (by omega) h.deps hm hl IntS.like,sl_cell (by omega) h.refs hm hl KindsS.like⟩
theorem Sl.shape{α:Type}{w:World}{G S:Nat->Prop}{sz:Nat}{R:Array Value->α->Prop}{Sh:Array Value->Prop}{v:Value}{l:List α}(h:Sl true w G sz R v l)(hg:∀k,G k->S k)(hR:∀cs x,R cs x->Sh cs):
 Sl true w S sz (fun cs (_:Unit)=>Sh cs) v (l.map fun _=>()):=by
 obtain⟨a,cap,hv,hl,hc,h⟩:=h;refine⟨a,cap,by simpa using hv,by simpa using hl,hc,fun hne=>?_⟩;obtain⟨b,off,ha,hG,ho,h⟩:=h (by simpa using hne)
 refine⟨b,off,ha,hg b hG,ho,fun i hi=>?_⟩;obtain⟨cs,h1,h2,h3⟩:=h i (by simpa using hi);exact⟨cs,h1,hR _ _ h2,h3⟩
theorem idCells_kind(x:List UInt8)(h:x.length=32)(j:Nat)(hj:j<32):∃v,(qA x)[j]?=some v/\Kind v .b:=by
 refine⟨byteV x[j],?_,_,rfl⟩
 simp[qA,List.getElem?_eq_getElem (show j<x.length by omega)]
theorem idS_of(cs:Array Value)(x:List UInt8)(h:IdC cs x):KindsS idK cs:=by
 obtain⟨rfl,hx⟩:=h;refine⟨by simp[qA,idK,hx],fun j k hk=>?_⟩
 have hj:j<32:=by
  rcases Nat.lt_or_ge j 32 with h|h
  ·exact h
  ·rw[List.getElem?_eq_none (by simpa[idK]using h)]at hk;cases hk
 have e:k=.b:=by
  rw[idK,List.getElem?_replicate,if_pos hj]at hk;cases hk;rfl
 rw[e];exact idCells_kind x hx j hj
theorem sl_kind{α:Type}{own:Bool}{w:World}{G:Nat->Prop}{sz:Nat}{R:Array Value->α->Prop}{v:Value}{l:List α}(h:Sl own w G sz R v l):Kind v .l:=by
 obtain⟨a,c,rfl,_⟩:=h;exact⟨_,_,_,rfl⟩
theorem kinds_cat{pre post:List Value}{kp kq:List Kdo}{x:List UInt8}(hx:x.length=32)(hl:pre.length=kp.length)(hq:post.length=kq.length)(h1:∀(j:Nat)(v:Value)(k:Kdo),pre[j]?=some v->kp[j]?=some k->Kind v k)(h2:∀(j:Nat)(v:Value)(k:Kdo),post[j]?=some v->kq[j]?=some k->Kind v k)
 {cs:Array Value}(hc:cs.toList=pre++x.map byteV++post):KindsS (kp++idK++kq) cs:=by
 have hsz:cs.size=(pre++x.map byteV++post).length:=by rw[<-hc];simp
 refine⟨by rw[hsz];simp only[List.length_append,List.length_map,hl,hx,idK_len,hq],fun j k hk=>?_⟩
 have hj:j<(kp++idK++kq).length:=by
  rcases Nat.lt_or_ge j (kp++idK++kq).length with h|h
  ·exact h
  ·rw[List.getElem?_eq_none h]at hk;cases hk
 have hlen:(kp++idK++kq).length=kp.length+32+kq.length:=by simp only[List.length_append,idK_len]
 rw[<-Array.getElem?_toList,hc]
 by_cases hj1:j<kp.length
 ·rw[List.append_assoc,List.getElem?_append_left (by omega)]at hk |-
  refine⟨pre[j],by rw[List.getElem?_eq_getElem (by omega)],h1 j _ k (List.getElem?_eq_getElem (by omega)) hk⟩
 ·by_cases hj2:j<kp.length+32
  ·rw[List.getElem?_append_left (by simp only[List.length_append,idK_len];omega),List.getElem?_append_right (by omega)]at hk
   rw[List.getElem?_append_left (by simp[hx];omega),List.getElem?_append_right (by omega),List.getElem?_map,List.getElem?_eq_getElem (show j-pre.length<x.length by omega)]
   have e:k=.b:=by
    rw[idK,List.getElem?_replicate,if_pos (by omega)]at hk;cases hk;rfl
   rw[e];exact⟨_,rfl,_,rfl⟩
  ·rw[List.getElem?_append_right (by simp only[List.length_append,idK_len];omega)]at hk
   rw[List.getElem?_append_right (by simp[hx];omega)]
   have e1:j-(kp++idK).length=j-(pre++x.map byteV).length:=by simp only[List.length_append,List.length_map,idK_len,hx,hl]
   rw[e1]at hk;have hj3:j-(pre++x.map byteV).length<post.length:=by simp[hx];omega
   exact⟨post[j-(pre++x.map byteV).length],List.getElem?_eq_getElem hj3,h2 _ _ k (List.getElem?_eq_getElem hj3) hk⟩
theorem evS_of{w:World}{G S:Nat->Prop}(hg:∀k,G k->S k)(cs:Array Value)(e:Evt)(h:EvR true w G cs e):EvS w S cs:=by
 obtain⟨dv,rv,rfl,hi,hd,hr,_⟩:=h;have c:=zI e dv rv hi;refine⟨?_,⟨dv,_,c.c2,hd.shape hg (fun cs x h=>⟨x,h⟩)⟩,⟨rv,_,c.c38,hr.shape hg idS_of⟩⟩
 refine kinds_cat (pre:=[.int .i64 e.r,.int .i64 e.n,dv,.int .i64 e.kind,.string e.repo,.string e.tag]) (post:=[rv]) (kp:=[.i,.i,.l,.i,.s,.s]) (kq:=[.l]) hi rfl rfl ?_ ?_ (by simp[xI,qA])
 ·intro j v k hv hk
  match j with
  |0=>cases hv;cases hk;exact⟨_,rfl⟩
  |1=>cases hv;cases hk;exact⟨_,rfl⟩
  |2=>cases hv;cases hk;exact sl_kind hd
  |3=>cases hv;cases hk;exact⟨_,rfl⟩
  |4=>cases hv;cases hk;exact⟨_,rfl⟩
  |5=>cases hv;cases hk;exact⟨_,rfl⟩
  |j+6=>simp at hv
 ·intro j v k hv hk
  match j with
  |0=>cases hv;cases hk;exact sl_kind hr
  |j+1=>simp at hv
theorem likeA_zero{ks:List Kdo}{cs cs':Array Value}(h:KindsS ks cs)(h':KindsS ks cs')(hn:∀j:Nat,ks[j]?=some .l->cs'[j]?=some (.slice none 0 0)):LikeA cs cs':=by
 refine⟨h'.1.trans h.1.symm,fun j v hv=>?_⟩
 have hj:j<ks.length:=by
  have:=h.1
  rcases Nat.lt_or_ge j cs.size with h2|h2
  ·omega
  ·rw[Array.getElem?_eq_none h2]at hv;cases hv
 obtain⟨u,h1,h2⟩:=h.2 j _ (List.getElem?_eq_getElem hj);obtain⟨u',h3,h4⟩:=h'.2 j _ (List.getElem?_eq_getElem hj);rw[hv]at h1;cases h1
 refine⟨u',h3,Like.of h2 h4 (fun hk=>?_)⟩;have:=hn j (by rw[List.getElem?_eq_getElem hj,hk]);rw[h3]at this
 cases this;rfl
def OverR(S:Nat->Prop)(w:World)(e:Ending)(w':World):Prop:=e=.returned (.tuple #[])/\KMod S w w'
def OverRel(S:Nat->Prop)(w:World)(n:Nat)(i:Value)(w':World):Prop:=∃k:Nat,k<=n/\i=.int .i64 k/\KMod S w w'
theorem Sl.elem{S:Nat->Prop}{w:World}{sz n c:Nat}{Sh:Array Value->Prop}{a:Option Addr}{l:List Unit}(h:Sl true w S sz (fun cs _=>Sh cs) (.slice a n c) l){i:Nat}(hi:i<l.length):
 ∃b off cur T cs,a=some ⟨b,off,none⟩/\S b/\w.heap[b]?=some (.cells cur T (0,0))/\cs.size=sz/\Sh cs/\CellsAt w b (off+i*sz) cs/\(∀j,j<cs.size->cur[off+i*sz+j]?=cs[j]?)/\off+i*sz+sz<=cur.size\/sz=0:=by
 by_cases hsz:sz=0
 ·exact⟨0,0,#[],0,#[],.inr hsz⟩
 obtain⟨a',cap,hv,hl,hc,h⟩:=h
 cases hv
 obtain⟨b,off,ha,hG,ho,h⟩:=h (by rintro rfl;simp at hi);obtain⟨cur,T,hrow⟩:=ho rfl;obtain⟨cs,hs,hsh,hcells⟩:=h i hi
 have hcur:∀j,j<cs.size->cur[off+i*sz+j]?=cs[j]?:=fun j hj=>by
  have:=hcells j (by omega)
  rwa[cell_of_row w b _ _ _ _ hrow]at this
 refine⟨b,off,cur,T,cs,.inl ⟨ha,hG,hrow,hs,hsh,hcells,hcur,?_⟩⟩;have h1:=hcur (sz-1) (by omega);rw[Array.getElem?_eq_getElem (by omega:sz-1<cs.size)]at h1
 rcases Nat.lt_or_ge (off+i*sz+(sz-1)) cur.size with h2|h2
 ·omega
 ·rw[Array.getElem?_eq_none h2]at h1;cases h1
theorem overInts_any(S:Nat->Prop)(v:Value)(l:List Unit)(w:World)(h:Sl true w S 1 (fun cs _=>IntS cs) v l):Calls prog 150 #[v] w (OverR S w):=by
 obtain⟨av,cap,rfl,hlen,-⟩:=h.at;go_enter func150,ntmps150;go_wp2
 go_loopw [2] (OverRel S w l.length) (fun i _=>l.length-(intOf i).toNat)
 case atStart=>exact⟨0,by omega,rfl,KMod.refl _ _⟩
 case round=>
  obtain⟨k,hk,rfl,hM⟩:=hrel
  by_cases hlt:k<l.length
  ·obtain⟨b,off,cur,T,cs,⟨rfl,hS,hrow,hcs,⟨n,rfl⟩,-,hcur,hfit⟩|hz⟩:=(h.kmod (by omega) hM IntS.like).elem hlt
   ·have h0:=hcur 0 (by simp)
    go_upto_region 3 with(fail);refine wpR [3,3,3,1] ?_;simp only[stz];refine wpPI underlying64 1 hlt ?_;simp only[nmz]
    refine wpD (qR 3 _ _ b (off+k*1) (.int .i64 (-77)) (by rfl) (by rfl) (by rfl) rfl (by kernel_rfl) _ _ hrow (by omega) (fun w2 hb2 hm2=>?_))
    have hM2:=hM.trans (KMod.row hS hrow hb2 (LikeA.set1 h0 (Like.int _ _)) hm2);simp only[stz];go_wp2
    go_roundw
    case rel=>exact⟨k+1,by omega,by go_num,hM2⟩
    case measure=>simp[intOf];omega
   ·exact absurd hz (by omega)
  ·have hkl:k=l.length:=by omega
   have HK:=hid hkl;clear hkl;go_wp2
   go_end0
   exact⟨rfl,hM⟩
def overId:List UInt8:=[1,2,3]++List.replicate 29 0
theorem exec_build_id{w:World}{o:Oper}{act:Act}(ho:o.op=.build 24 #[(0,.const (.int .u8 1)),(1,.const (.int .u8 2)),(2,.const (.int .u8 3))]):(execOp act.eval o).run prog w=.ok (.value (.agg (qA overId))) w:=by
 unfold execOp;simp only[ho];have h:=run_build (P:=prog) w 24 #[(0,.int .u8 1),(1,.int .u8 2),(2,.int .u8 3)] (qA overId) (by kernel_rfl)
 have e:(Array.map (fun(x:Nat×Operand)=>(x.1,act.eval x.2)) #[(0,.const (.int .u8 1)),(1,.const (.int .u8 2)),(2,.const (.int .u8 3))])=#[(0,.int .u8 1),(1,.int .u8 2),(2,.int .u8 3)]:=by
  have hc:∀n,act.eval (.const (.int .u8 n))=.int .u8 n:=fun _=>rfl;simp only[List.map_toArray,List.map_cons,List.map_nil,hc]
 simp only[e,Sem.run_bind,h,Result.andThen_ok,Sem.run_pure]
theorem overId_kinds:KindsS idK (qA overId):=idS_of _ overId ⟨rfl,by decide⟩
theorem kinds_one{ks:List Kdo}{cs:Array Value}(h:KindsS ks cs):∀c∈cs,c.oneCell'=true:=fun c hc=>by
 obtain⟨j,hj,rfl⟩:=Array.getElem_of_mem hc;have hs:=h.1;obtain⟨v,h1,h2⟩:=h.2 j _ (List.getElem?_eq_getElem (show j<ks.length by omega))
 rw[Array.getElem?_eq_getElem hj]at h1
 cases h1
 generalize ks[j]=kk at h2
 cases kk with
 |i=>obtain⟨n,hn⟩:=h2;rw[hn];rfl
 |b=>obtain⟨n,hn⟩:=h2;rw[hn];rfl
 |s=>obtain⟨n,hn⟩:=h2;rw[hn];rfl
 |l=>obtain⟨a,n,c,hn⟩:=h2;rw[hn];rfl
theorem overIDs_any(S:Nat->Prop)(v:Value)(l:List Unit)(w:World)(h:Sl true w S 32 (fun cs _=>KindsS idK cs) v l):Calls prog 27 #[v] w (OverR S w):=by
 obtain⟨av,cap,rfl,hlen,-⟩:=h.at
 have hn:∀j:Nat,idK[j]?=some .l->(qA overId)[j]?=some (.slice none 0 0):=fun j hj=>by
  rw[idK,List.getElem?_replicate]at hj
  split at hj<;>cases hj
 go_enter func27,ntmps27;go_wp2
 go_loopw [2] (OverRel S w l.length) (fun i _=>l.length-(intOf i).toNat)
 case atStart=>exact⟨0,by omega,rfl,KMod.refl _ _⟩
 case round=>
  obtain⟨k,hk,rfl,hM⟩:=hrel
  by_cases hlt:k<l.length
  ·obtain⟨b,off,cur,T,cs,⟨rfl,hS,hrow,hcs,hsh,-,hcur,hfit⟩|hz⟩:=(h.kmod (by omega) hM KindsS.like).elem hlt
   ·have hsz:(qA overId).size=32:=overId_kinds.1
    have hla:=likeA_zero hsh overId_kinds hn;obtain⟨ov,hov⟩:∃t,t=qA overId:=⟨_,rfl⟩;have hone:=kinds_one overId_kinds;rw[<-hov]at hsz hla hone
    have HOV:=hid hov;clear hov hn;go_upto_region 3 with(fail);refine wpR [3,3,1,3,1] ?_;simp only[stz]
    refine wpX rfl (v:=.agg ov) (by rw[HOV.out];exact exec_build_id (by rfl)) trivial ?_;try simp only[nmz]
    refine wpPI underlying25 32 hlt ?_;simp only[nmz]
    refine wpD (qF 24 _ _ b (off+k*32) ov (by rfl) (by rfl) (by rfl) hone 32 (by kernel_rfl) hsz _ _ hrow (by omega) (fun w2 hb2 hm2=>?_))
    have hM2:=hM.trans (KMod.row hS hrow hb2 (LikeA.put (by omega) hcur hla) hm2);simp only[stz];go_wp2
    go_roundw
    case rel=>exact⟨k+1,by omega,by go_num,hM2⟩
    case measure=>simp[intOf];omega
   ·exact absurd hz (by omega)
  ·have hkl:k=l.length:=by omega
   have HK:=hid hkl;clear hkl hn;go_wp2
   go_end0
   exact⟨rfl,hM⟩
def overEv:Evt:=⟨0,0,[],-7,ByteArray.empty,ByteArray.empty,List.replicate 32 0,[]⟩
def overEvC:Array Value:=xI overEv (.slice none 0 0) (.slice none 0 0)
theorem exec_build_ev{w:World}{o:Oper}{act:Act}(ho:o.op=.build 115 #[(2,.const (.int .i64 (-7)))]):(execOp act.eval o).run prog w=.ok (.value (.agg overEvC)) w:=by
 unfold execOp;simp only[ho];have h:=run_build (P:=prog) w 115 #[(2,.int .i64 (-7))] overEvC (by kernel_rfl)
 have e:(Array.map (fun(x:Nat×Operand)=>(x.1,act.eval x.2)) #[(2,.const (.int .i64 (-7)))])=#[(2,.int .i64 (-7))]:=by
  have hc:∀n,act.eval (.const (.int .i64 n))=.int .i64 n:=fun _=>rfl;simp only[List.map_toArray,List.map_cons,List.map_nil,hc]
 simp only[e,Sem.run_bind,h,Result.andThen_ok,Sem.run_pure]
theorem overEv_kinds:KindsS evK overEvC:=(evS_of (w:=default) (G:=NoB) (S:=NoB) (fun _ h=>h) overEvC overEv ⟨_,_,rfl,by simp[overEv],Sl.nil _ _ _ _ _,Sl.nil _ _ _ _ _,by decide,by decide⟩).kinds
theorem overEv_nil:∀j:Nat,evK[j]?=some .l->overEvC[j]?=some (.slice none 0 0):=fun j hj=>by
 have hlt:j<39:=by
  rcases Nat.lt_or_ge j 39 with h|h
  ·exact h
  ·rw[List.getElem?_eq_none (by simpa[evK,idK]using h)]at hj;cases hj
 have key:∀i:Fin 39,evK[i.1]?=some .l->i.1=2\/i.1=38:=by decide
 have c:=zI overEv (.slice none 0 0) (.slice none 0 0) (by simp[overEv])
 rcases key ⟨j,hlt⟩ hj with e|e<;>simp only at e<;>subst e
 ·exact c.c2
 ·exact c.c38
theorem overEvents_any(S:Nat->Prop)(v:Value)(l:List Unit)(w:World)(h:Sl true w S 39 (fun cs _=>EvS w S cs) v l):Calls prog 74 #[v] w (OverR S w):=by
 obtain⟨av,cap,rfl,hlen,-⟩:=h.at;go_enter func74,ntmps74;go_wp2
 go_loopw [2] (OverRel S w l.length) (fun i _=>l.length-(intOf i).toNat)
 case atStart=>exact⟨0,by omega,rfl,KMod.refl _ _⟩
 case round=>
  obtain⟨k,hk,rfl,hM⟩:=hrel
  by_cases hlt:k<l.length
  ·obtain⟨b,off,cur,T,cs,⟨rfl,-,-,-,hsh,hcells,-,-⟩|hz⟩:=(h.kmod (by omega) hM (EvS.kmod hM)).elem hlt
   ·obtain⟨dv,dl,hd0,hd⟩:=hsh.deps
    have hdc:=hcells.cell hd0;clear hsh hcells hd0;go_upto_region 3 with(fail);refine wpR [3,3,3,3,1,1] ?_;simp only[stz];refine wpPI underlying72 39 hlt ?_
    simp only[stz];refine wpXd 64 b (off+k*39+2) hdc underlying64 trivial ?_;try simp only[nmz]
    refine wpDo rfl ?_;go_wp2_with (go_at_call 150;refine(overInts_any S dv dl wr hd).mono ?_;rintro _ w2 ⟨rfl,hm2⟩);replace hM:=hM.trans hm2;simp only[stz];clear hd hdc
    obtain⟨b2,off2,cur2,T2,cs2,⟨e2,-,-,-,hsh,hcells,-,-⟩|hz⟩:=(h.kmod (by omega) hM (EvS.kmod hM)).elem hlt
    ·cases e2
     obtain⟨dv,dl,hd0,hd⟩:=hsh.refs;have hdc:=hcells.cell hd0;clear hsh hcells hd0;go_upto_region 4 with(fail);refine wpR [3,3,3,3,1,1] ?_;simp only[stz]
     refine wpPI underlying72 39 hlt ?_;simp only[stz];refine wpXd 25 b (off+k*39+38) hdc underlying25 trivial ?_;try simp only[nmz]
     refine wpDo rfl ?_;go_wp2_with (go_at_call 27;refine(overIDs_any S dv dl w2 hd).mono ?_;rintro _ w3 ⟨rfl,hm3⟩);replace hM:=hM.trans hm3;simp only[stz];clear hd hdc
     obtain⟨b3,off3,cur3,T3,cs3,⟨e3,hS,hrow,hcs,hsh,-,hcur,hfit⟩|hz⟩:=(h.kmod (by omega) hM (EvS.kmod hM)).elem hlt
     ·cases e3
      have hsz:overEvC.size=39:=overEv_kinds.1;have hla:=likeA_zero hsh.kinds overEv_kinds overEv_nil;have hone:=kinds_one overEv_kinds
      obtain⟨ov,hov⟩:∃t,t=overEvC:=⟨_,rfl⟩;rw[<-hov]at hsz hla hone;have HOV:=hid hov;clear hov;go_upto_region 5 with(fail);refine wpR [3,3,1,3,1] ?_
      simp only[stz];refine wpX rfl (v:=.agg ov) (by rw[HOV.out];exact exec_build_ev (by rfl)) trivial ?_;try simp only[nmz]
      refine wpPI underlying72 39 hlt ?_;simp only[nmz]
      refine wpD (qF 115 _ _ b (off+k*39) ov (by rfl) (by rfl) (by rfl) hone 39 (by kernel_rfl) hsz _ _ hrow (by omega) (fun w4 hb4 hm4=>?_))
      replace hM:=hM.trans (KMod.row hS hrow hb4 (LikeA.put (by omega) hcur hla) hm4);simp only[stz];go_wp2
      go_roundw
      case rel=>exact⟨k+1,by omega,by go_num,hM⟩
      case measure=>simp[intOf];omega
     ·exact absurd hz (by omega)
    ·exact absurd hz (by omega)
   ·exact absurd hz (by omega)
  ·have hkl:k=l.length:=by omega
   have HK:=hid hkl;clear hkl;go_wp2
   go_end0
   exact⟨rfl,hM⟩
end
section
open Go.RowKit Go.Shelf Go.Proofs.Tryz Go.Lib
theorem xF{P:Program}{o:Oper}{a:Act}{w:World}{K:Act->World->Prop}{Q:Exit->Act->World->Prop}(t e:TypeId)(x:Operand)(v:Value)(z:Value)(n:Nat)(ho:o.op=.buildSlice t 1 #[(0,x)])(hx:a.eval x=v)(hu:P.underlying t=some (.slice e))
 (hi:(P.info? e).map (fun i=>(i.zero,i.size))=some (some z,n))(hn:0<n)(hn':n<=16777216)(hv:v.cells.size=n)
 (h:∀b w',w'.heap[b]?=some (.cells v.cells e (0,0))->Mod NoB w w'->K (a.put o.dst (.slice (some ⟨b,0,none⟩) 1 1)) w'):o.wp P a w K Q:=
 qQ t e x v z n ho hx hu hi hn hn' hv fun w' h1 h2 _=>h _ w' h1 h2
theorem built_swept(ad:Option Addr)(k c:Nat)(x y:Int):prog.built 104 [(0,.slice ad k c),(1,.int .i64 x),(2,.int .i64 y)]=some #[.slice ad k c,.int .i64 x,.int .i64 y]:=by
 have p:xV prog 104=some [(0,1),(1,1),(2,1)]:=by kernel_rfl
 rw[zP sweptZ p,zC (off:=0) (size:=1) rfl (by rfl) (by simp),zC (off:=1) (size:=1) rfl (by rfl) (by simp[qY,Value.cells]),zC (off:=2) (size:=1) rfl (by rfl) (by simp[qY,Value.cells]),xY]
 rfl
theorem id_zs:(prog.info? 24).map (fun i=>(i.zero,i.size))=some (some (.agg (qA (List.replicate 32 0))),32):=by kernel_rfl
theorem awake_any(w:World):Calls prog 42 #[] w (RetM (.bool true) w):=by
 have hA:(qA idA).size=32:=by rw[qB,idA_len]
 have hB:(qA idB).size=32:=by rw[qB,idB_len]
 have hz32:(qA (List.replicate 32 0)).size=32:=idZ_size;go_enter func42,ntmps42;go_upto_region 1 with(fail);refine wpR [1,3,3,3,3,1,1,1,1,1,1] ?_
 simp only[stz];refine wpD (wpC func55 (two_any _) ?_);rintro e w1 ⟨hm1,lv,kv,he1,hl1,hk1⟩;subst he1;refine⟨_,rfl,?_⟩;simp only[stz]
 refine qC rfl (fun w'=>qJ _ 0 #[.agg (qA idA),.agg (qA idB),.agg #[.int .i64 31,lv,kv]] rfl rfl (.agg (qA idA)) rfl) ?_;simp only[nmz]
 refine qC rfl (fun w'=>qJ _ 1 #[.agg (qA idA),.agg (qA idB),.agg #[.int .i64 31,lv,kv]] rfl rfl (.agg (qA idB)) rfl) ?_;simp only[nmz]
 refine qC rfl (fun w'=>qJ _ 2 #[.agg (qA idA),.agg (qA idB),.agg #[.int .i64 31,lv,kv]] rfl rfl (.agg #[.int .i64 31,lv,kv]) rfl) ?_
 simp only[nmz];refine wpD (qN 24 _ (by rfl) idZ (fun w2 hB2 hm2 hs2=>?_))
 replace hB2:w2.heap[w1.heap.size]?=some (.cells (qA (List.replicate 32 0)) 24 (0,0)):=hB2;try simp only[nmz]
 refine wpD (qN 24 _ (by rfl) idZ (fun w3 hB3 hm3 hs3=>?_));replace hB3:w3.heap[w2.heap.size]?=some (.cells (qA (List.replicate 32 0)) 24 (0,0)):=hB3
 try simp only[nmz]
 refine wpD (qN 68 _ (by rfl) houseZ (fun w4 hB4 hm4 hs4=>?_))
 replace hB4:w4.heap[w3.heap.size]?=some (.cells #[.int .i64 0,.slice none 0 0,.slice none 0 0] 68 (0,0)):=hB4;have hX1:=(hm3.trans0 hm4).obj id hB2;try simp only[nmz]
 refine wpD (qF 24 _ _ w1.heap.size 0 (qA idA) (by rfl) (by rfl) (by rfl) (qP _) 32 (by kernel_rfl) hA _ _ hX1 (by rw[hA,hz32];omega) (fun w5 hB5 hm5=>?_))
 rw[qD (by rw[hA,hz32])]at hB5;have hX2:=hm5.objB (b:=w2.heap.size) (by omega) (hm4.obj id hB3);have hX3:=hm5.objB (b:=w3.heap.size) (by omega) hB4
 try simp only[nmz]
 refine wpD (qF 24 _ _ w2.heap.size 0 (qA idB) (by rfl) (by rfl) (by rfl) (qP _) 32 (by kernel_rfl) hB _ _ hX2 (by rw[hB,hz32];omega) (fun w6 hB6 hm6=>?_))
 rw[qD (by rw[hB,hz32])]at hB6;have hY1:=hm6.objB (b:=w1.heap.size) (by omega) hB5;have hY3:=hm6.objB (b:=w3.heap.size) (by omega) hX3;try simp only[nmz]
 refine wpD (qF 68 _ _ w3.heap.size 0 #[.int .i64 31,lv,kv] (by rfl) (by rfl) (by rfl) (by intro c hc;simp at hc;rcases hc with rfl|rfl|rfl<;>first|rfl|exact Sl.one hl1|exact Sl.one hk1) 3 (by kernel_rfl) rfl _ _ hY3 (by simp) (fun w7 hB7 hm7=>?_))
 rw[qD (by simp)]at hB7;have hZ1:=hm7.objB (b:=w1.heap.size) (by omega) hY1;have hZ2:=hm7.objB (b:=w2.heap.size) (by omega) hB6;simp only[stz]
 have s1:=hm2.size;have s2:=hm3.size;have s3:=hm4.size
 have hm17:Mod NoB w1 w7:=((((hm2.trans0 hm3).trans0 hm4).transB hm5 (Nat.le_refl _)).transB hm6 s1).transB hm7 (by omega);have hl7:=yE hl1 hm17
 have hk7:=hk1.keep0 hm17;have hm07:=hm1.trans0 hm17
 have hbl:=built_any (w:=w7) (wd:=31) (by constructor<;>omega) hl7 hk7 (by simp) (by simp) (by simp) (by intro x hx;simp at hx;rcases hx with rfl|rfl<;>constructor<;>omega)
 rw[wid31]at hbl;have b17:w1.heap.size<w7.heap.size:=(Array.getElem?_eq_some_iff.1 hZ1).1;have b27:w2.heap.size<w7.heap.size:=(Array.getElem?_eq_some_iff.1 hZ2).1
 generalize hb1:w1.heap.size=b1 at*;generalize hb2:w2.heap.size=b2 at*;generalize hb3:w3.heap.size=b3 at*
 clear hm1 hm2 hm3 hm4 hm5 hm6 hm7 hB2 hB3 hB4 hB5 hB6 hX1 hX2 hX3 hY1 hY3 hm17 hl1 hk1 hs2 hs3 hs4;have hcH:CellsAt w7 b3 0 #[.int .i64 31,lv,kv]:=CellsAt.whole hB7
 go_upto_region 2 with(fail);refine wpR [1,1,3,3,3,3,3] ?_;simp only[stz];refine wpXA 68 b3 0 #[.int .i64 31,lv,kv] hcH underlying68 3 rfl trivial ?_;try simp only[nmz]
 refine wpD (wpC func43 (hbl) ?_);rintro e w8 ⟨h,hhw,hhr,hhl,⟨qb,hhq⟩,he8,Ft,hat,hFn,hm78⟩;subst he8;rw[hhq];refine⟨_,rfl,?_⟩;simp only[stz]
 refine qC rfl (fun w'=>qJ _ 0 #[.pointer (some ⟨h.bs,0,none⟩),.pointer (some ⟨qb,0,none⟩)] rfl rfl (.pointer (some ⟨h.bs,0,none⟩)) rfl) ?_;simp only[nmz]
 refine qC rfl (fun w'=>qJ _ 1 #[.pointer (some ⟨h.bs,0,none⟩),.pointer (some ⟨qb,0,none⟩)] rfl rfl (.pointer (some ⟨qb,0,none⟩)) rfl) ?_;simp only[stz]
 rw[cOf_AB,lOf_AB]at hat;have hI1:CellsAt w8 b1 0 (qA idA):=CellsAt.whole (hm78.obj id hZ1);have hI2:CellsAt w8 b2 0 (qA idB):=CellsAt.whole (hm78.obj id hZ2)
 have hm08:=hm07.trans0 hm78;clear hbl hl7 hk7 hcH hB7 hZ1 hZ2;go_upto_region 5 with(fail);refine wpR [3,1,1,1,3] ?_;simp only[stz]
 refine wpXA 24 b1 0 (qA idA) hI1 underlying24 32 hA trivial ?_;try simp only[nmz]
 refine wpD (wpC func56 (tagged_any idA idA_len _) ?_);rintro e w9 ⟨hm9,vv,rv,reps,he9,hvv,hreps,hroots⟩;subst he9;have hat9:=hat.keep0 hm9
 have hmk:Calls prog 48 #[.pointer (some ⟨h.bs,0,none⟩),.agg #[vv,rv],.slice none 0 0] w9 (MarksR w9 cAB [idA] []):=by
  obtain⟨bl,F,k1,k2,_⟩:=hat9
  have h9:=swMarks_any (l:=[]) k1 (by rw[k2];simp[cAB]) hvv hreps (by rw[hroots];simp) (Sl.nil false w9 AnyB 39 (EvR false w9 AnyB)) (by simp[refsL]);rw[k2,hroots]at h9
  exact h9
 refine⟨_,rfl,?_⟩;try simp only[nmz]
 refine wpD (wpC func48 (hmk) ?_);rintro e wa ⟨hma,vM,out,hea,hga,hMo,hla⟩;subst hea;obtain rfl:=marks_A hMo;refine⟨_,rfl,?_⟩;simp only[stz];have hlt8:=hat.lt
 have hm8a:=hm9.trans0 hma;have hata:=hat.keep0 hm8a;have hslM:=slI hga hla;have s9:=hm9.size
 have hGM:∀k,(w9.heap.size<=k/\k<wa.heap.size/\vM.ownBlock=some k)->¬Ft k:=fun k hk hf=>by have:=hlt8 _ hf;have:=hk.1;omega
 have hsw:=swSweep_any hata hslM hGM;rw[hhq]at hsw;clear hmk hreps hroots hga hMo;go_upto_region 6 with(fail);refine wpR [3,3,3,1,3,3,3,1,1,3] ?_;simp only[stz]
 refine wpD (wpC func53 (hsw) ?_);rintro e wb ⟨ids,bv,s,Fb,hidc,hrun,heb,hgb,hatb,hmb,hsb,hnb⟩;subst heb;rw[gone_A hidc]at hrun hgb;rw[run_A]at hrun;subst hrun
 refine⟨_,rfl,?_⟩;simp only[stz];refine qC rfl (fun w'=>qJ _ 0 #[.agg (qM bv 2 1),.int .i64 0] rfl rfl (.agg (qM bv 2 1)) rfl) ?_
 simp only[nmz];refine qC rfl (fun w'=>qJ _ 1 #[.agg (qM bv 2 1),.int .i64 0] rfl rfl (.int .i64 0) rfl) ?_;simp only[nmz]
 refine wpD (qN 104 _ (by rfl) sweptZ (fun wc hBc hmc hsc=>?_))
 replace hBc:wc.heap[wb.heap.size]?=some (.cells #[.slice none 0 0,.int .i64 0,.int .i64 0] 104 (0,0)):=hBc;try simp only[nmz]
 refine wpD (qF 104 _ _ wb.heap.size 0 (qM bv 2 1) (by rfl) (by rfl) (by rfl) (by intro c hc;simp[qM]at hc;rcases hc with rfl|rfl|rfl<;>first|rfl|exact xW hgb) 3 (by kernel_rfl) rfl _ _ hBc (by simp[qM]) (fun wd hBd hmd=>?_))
 rw[qD (by simp[qM])]at hBd;simp only[stz];have hmbd:Mod NoB wb wd:=hmc.transB hmd (Nat.le_refl _)
 have hF1:∀k,k<w7.heap.size->¬Ft k:=fun k hk e=>by have:=hFn _ e;omega
 have hI1a:=hI1.keep hm8a id;have hI1d:=(hI1a.keep hmb (hF1 b1 b17)).keep hmbd id;have hI2d:=((hI2.keep hm8a id).keep hmb (hF1 b2 b27)).keep hmbd id
 have hMd:=(hslM.keep hmb hGM (fun _ _ h=>h)).keep0 hmbd;have hVd:=slI (hgb.keep0 hmbd) (fun x hx=>by simp at hx;rw[hx];exact idB_len)
 have hCd:CellsAt wd wb.heap.size 0 (qM bv 2 1):=CellsAt.whole hBd;have s78:=hm78.size
 have hm0d:Mod NoB w wd:=((hm08.trans0 hm8a).trans hmb (fun k hk hf=>by have h1:=hFn k hf;have h2:=hm07.size;omega)).trans0 hmbd;generalize hbo:wb.heap.size=bo at*
 clear hsw hata hat hlt8 hslM hGM hmb hsb hnb hatb hgb hidc hBc hmc hmd hBd hmbd hI1 hI2 hI1a hla;go_upto_region 7 with(fail);have hS:Mod NoB wd wd.drew:=(Mod.refl _ _).drew
 have hT:Mod NoB wd wd.drew:=(Mod.refl _ _).drew
 refine yV [(0,0),(3,0)] 3 [(5,1),(6,3),(7,3),(8,0),(9,1),(10,1),(11,3),(12,3),(13,3),(14,3),(15,3),(16,3),(17,0),(18,0),(19,1),(20,0),(21,1),(22,3),(23,3)] [] (fun w'=>Mod NoB wd w') #[true,false,false,true,false,false,false,false,false,false,false,false,false,false,false,false,false,false,false,false,false,false,false,false] (by kernel_rfl) (by kernel_rfl) (by kernel_rfl) (by kernel_rfl) (by kernel_rfl) (fun _ _ _ _ hd h=>⟨hd.trans h.1,h.2⟩) hS ?_
 simp only[stz];refine wpLA 24 b1 0 (qA idA) (fun w' hS=>hI1d.keep hS id) underlying24 32 hA ?_;simp only[nmz]
 refine wpLA 24 b1 0 (qA idA) (fun w' hS=>hI1d.keep hS id) underlying24 32 hA ?_;simp only[stz];refine qU [1,4] (by kernel_rfl) ?_
 simp only[zz3,false_implies,implies_true];refine⟨?_,?_⟩
 ·intro K hK
  simp only[zz5];refine wpC func56 (tagged_any idA idA_len _) ?_;rintro e we ⟨hme,tv,tr,treps,rfl,htv,htr,htroots⟩
  try replace hX:=hX.keep0 hme
  replace hT:=hT.trans0 hme;clear hme;refine⟨_,rfl,hK _ _ hT ?_⟩;clear hK K;try simp only[nmz]
  refine qU [2,4] (by kernel_rfl) ?_;simp only[zz3,false_implies,implies_true];refine⟨?_,?_⟩
  ·intro K hK
   simp only[zz5];refine wpC func47 (swRoots_any htv htr (by rw[htroots];simp)) ?_;rintro e wf ⟨hmf,vR,outR,rfl,hgR,hsR,hlR⟩;rw[htroots]at hsR;obtain rfl:=roots_A hsR
   have hR:=slI hgR hlR
   try replace hX:=hX.keep0 hmf
   replace hT:=hT.trans0 hmf;clear hmf hgR hsR hlR htr;refine⟨_,rfl,hK _ _ hT ?_⟩;clear hK K;try simp only[nmz]
   refine qU [4] (by kernel_rfl) ?_;simp only[zz3,false_implies,implies_true];intro K hK;simp only[zz5]
   refine xF 25 24 _ (.agg (qA idA)) (.agg (qA (List.replicate 32 0))) 32 (by rfl) (by rfl) underlying25 id_zs (by omega) (by omega) hA (fun bX wg hBg hmg=>?_)
   have hX:Sl false wg AnyB 32 IdC (.slice (some ⟨bX,0,none⟩) 1 1) [idA]:=sl_one hBg ⟨rfl,idA_len⟩ 32 hA
   try replace htr:=repsAt_kc htr (KC.of0 hmg)
   try replace hR:=hR.keep0 hmg
   replace hT:=hT.trans0 hmg;clear hmg hBg;refine hK _ _ hT ?_;clear hK K;try simp only[nmz]
   refine xK ?_;try simp only[zz4]
   try simp only[nmz]
   refine qL rfl (fun K hK=>?_);refine wpC func24 (yA _ _ _ _ _ _ _ _ _ hR hX) ?_;rintro e wh ⟨rfl,hmh⟩;replace hT:=hT.trans0 hmh;rw[decide_eq_true rfl]
   clear hmh hR hX;refine⟨_,rfl,hK _ _ hT ?_⟩;clear hK K;simp only[stz];refine wpLA 24 b1 0 (qA idA) (fun w' hS=>hI1d.keep hS id) underlying24 32 hA ?_;simp only[nmz]
   refine qL rfl (fun K hK=>?_)
   refine xF 25 24 _ (.agg (qA idA)) (.agg (qA (List.replicate 32 0))) 32 (by rfl) (by rfl) underlying25 id_zs (by omega) (by omega) hA (fun bY wi hBi hmi=>?_)
   have hY:Sl false wi AnyB 32 IdC (.slice (some ⟨bY,0,none⟩) 1 1) [idA]:=sl_one hBi ⟨rfl,idA_len⟩ 32 hA;replace hT:=hT.trans0 hmi;clear hmi hBi;refine hK _ _ hT ?_
   clear hK K;try simp only[nmz]
   refine qL rfl (fun K hK=>?_);refine wpC func24 (yA _ _ _ _ _ _ _ _ _ (hMd.keep0 hT) hY) ?_;rintro e wj ⟨rfl,hmj⟩;replace hT:=hT.trans0 hmj
   rw[decide_eq_true rfl];clear hmj hY;refine⟨_,rfl,hK _ _ hT ?_⟩;clear hK K;simp only[stz]
   refine qC (v:=?_) rfl (fun w'=>?_) ?_;rotate_left;·(go_simp;try with_reducible rfl)
   simp only[stz];refine wpLA 104 bo 0 (qM bv 2 1) (fun w' hS=>hCd.keep hS id) underlying104 3 rfl ?_;simp only[nmz]
   refine wpLA 24 b2 0 (qA idB) (fun w' hS=>hI2d.keep hS id) underlying24 32 hB ?_;simp only[nmz];refine qL rfl (fun K hK=>?_)
   refine xF 25 24 _ (.agg (qA idB)) (.agg (qA (List.replicate 32 0))) 32 (by rfl) (by rfl) underlying25 id_zs (by omega) (by omega) hB (fun bZ wk hBk hmk=>?_)
   have hZ:Sl false wk AnyB 32 IdC (.slice (some ⟨bZ,0,none⟩) 1 1) [idB]:=sl_one hBk ⟨rfl,idB_len⟩ 32 hB;replace hT:=hT.trans0 hmk;clear hmk hBk;refine hK _ _ hT ?_
   clear hK K;try simp only[nmz]
   refine qG rfl (fun w' hS=>qO 104 [(0,_),(1,_),(2,_)] [(0,.slice (some ⟨bZ,0,none⟩) 1 1),(1,.int .i64 2),(2,.int .i64 1)] _ (by rfl) (by rfl) (built_swept _ 1 1 2 1)) ?_
   simp only[nmz];refine qL rfl (fun K hK=>?_);refine wpC func54 (sameSwept_any (hVd.keep0 hT) hZ 2 1 2 1) ?_;rintro e wl ⟨rfl,hml⟩;replace hT:=hT.trans0 hml
   simp only[decide_true,Bool.and_self];clear hml hZ;refine⟨_,rfl,hK _ _ hT ?_⟩;clear hK K;simp only[stz];have HF:=hid (hm0d.trans0 hT);go_wp2;go_ret;exact⟨rfl,HF.out⟩
  ·intro K hK
   simp only[zz5]
   refine xF 25 24 _ (.agg (qA idA)) (.agg (qA (List.replicate 32 0))) 32 (by rfl) (by rfl) underlying25 id_zs (by omega) (by omega) hA (fun bX wg hBg hmg=>?_)
   have hX:Sl false wg AnyB 32 IdC (.slice (some ⟨bX,0,none⟩) 1 1) [idA]:=sl_one hBg ⟨rfl,idA_len⟩ 32 hA
   try replace htr:=repsAt_kc htr (KC.of0 hmg)
   try replace hR:=hR.keep0 hmg
   replace hT:=hT.trans0 hmg;clear hmg hBg;refine hK _ _ hT ?_;clear hK K;try simp only[nmz]
   refine qU [2] (by kernel_rfl) ?_;simp only[zz3,false_implies,implies_true];intro K hK;simp only[zz5]
   refine wpC func47 (swRoots_any htv htr (by rw[htroots];simp)) ?_;rintro e wf ⟨hmf,vR,outR,rfl,hgR,hsR,hlR⟩;rw[htroots]at hsR;obtain rfl:=roots_A hsR
   have hR:=slI hgR hlR
   try replace hX:=hX.keep0 hmf
   replace hT:=hT.trans0 hmf;clear hmf hgR hsR hlR htr;refine⟨_,rfl,hK _ _ hT ?_⟩;clear hK K;try simp only[nmz]
   refine xK ?_;try simp only[zz4]
   try simp only[nmz]
   refine qL rfl (fun K hK=>?_);refine wpC func24 (yA _ _ _ _ _ _ _ _ _ hR hX) ?_;rintro e wh ⟨rfl,hmh⟩;replace hT:=hT.trans0 hmh;rw[decide_eq_true rfl]
   clear hmh hR hX;refine⟨_,rfl,hK _ _ hT ?_⟩;clear hK K;simp only[stz];refine wpLA 24 b1 0 (qA idA) (fun w' hS=>hI1d.keep hS id) underlying24 32 hA ?_;simp only[nmz]
   refine qL rfl (fun K hK=>?_)
   refine xF 25 24 _ (.agg (qA idA)) (.agg (qA (List.replicate 32 0))) 32 (by rfl) (by rfl) underlying25 id_zs (by omega) (by omega) hA (fun bY wi hBi hmi=>?_)
   have hY:Sl false wi AnyB 32 IdC (.slice (some ⟨bY,0,none⟩) 1 1) [idA]:=sl_one hBi ⟨rfl,idA_len⟩ 32 hA;replace hT:=hT.trans0 hmi;clear hmi hBi;refine hK _ _ hT ?_
   clear hK K;try simp only[nmz]
   refine qL rfl (fun K hK=>?_);refine wpC func24 (yA _ _ _ _ _ _ _ _ _ (hMd.keep0 hT) hY) ?_;rintro e wj ⟨rfl,hmj⟩;replace hT:=hT.trans0 hmj
   rw[decide_eq_true rfl];clear hmj hY;refine⟨_,rfl,hK _ _ hT ?_⟩;clear hK K;simp only[stz]
   refine qC (v:=?_) rfl (fun w'=>?_) ?_;rotate_left;·(go_simp;try with_reducible rfl)
   simp only[stz];refine wpLA 104 bo 0 (qM bv 2 1) (fun w' hS=>hCd.keep hS id) underlying104 3 rfl ?_;simp only[nmz]
   refine wpLA 24 b2 0 (qA idB) (fun w' hS=>hI2d.keep hS id) underlying24 32 hB ?_;simp only[nmz];refine qL rfl (fun K hK=>?_)
   refine xF 25 24 _ (.agg (qA idB)) (.agg (qA (List.replicate 32 0))) 32 (by rfl) (by rfl) underlying25 id_zs (by omega) (by omega) hB (fun bZ wk hBk hmk=>?_)
   have hZ:Sl false wk AnyB 32 IdC (.slice (some ⟨bZ,0,none⟩) 1 1) [idB]:=sl_one hBk ⟨rfl,idB_len⟩ 32 hB;replace hT:=hT.trans0 hmk;clear hmk hBk;refine hK _ _ hT ?_
   clear hK K;try simp only[nmz]
   refine qG rfl (fun w' hS=>qO 104 [(0,_),(1,_),(2,_)] [(0,.slice (some ⟨bZ,0,none⟩) 1 1),(1,.int .i64 2),(2,.int .i64 1)] _ (by rfl) (by rfl) (built_swept _ 1 1 2 1)) ?_
   simp only[nmz];refine qL rfl (fun K hK=>?_);refine wpC func54 (sameSwept_any (hVd.keep0 hT) hZ 2 1 2 1) ?_;rintro e wl ⟨rfl,hml⟩;replace hT:=hT.trans0 hml
   simp only[decide_true,Bool.and_self];clear hml hZ;refine⟨_,rfl,hK _ _ hT ?_⟩;clear hK K;simp only[stz];have HF:=hid (hm0d.trans0 hT);go_wp2;go_ret;exact⟨rfl,HF.out⟩
 ·intro K hK
  simp only[zz5]
  refine xF 25 24 _ (.agg (qA idA)) (.agg (qA (List.replicate 32 0))) 32 (by rfl) (by rfl) underlying25 id_zs (by omega) (by omega) hA (fun bX wg hBg hmg=>?_)
  have hX:Sl false wg AnyB 32 IdC (.slice (some ⟨bX,0,none⟩) 1 1) [idA]:=sl_one hBg ⟨rfl,idA_len⟩ 32 hA
  try replace htr:=repsAt_kc htr (KC.of0 hmg)
  try replace hR:=hR.keep0 hmg
  replace hT:=hT.trans0 hmg;clear hmg hBg;refine hK _ _ hT ?_;clear hK K;try simp only[nmz]
  refine qU [1] (by kernel_rfl) ?_;simp only[zz3,false_implies,implies_true];intro K hK;simp only[zz5];refine wpC func56 (tagged_any idA idA_len _) ?_
  rintro e we ⟨hme,tv,tr,treps,rfl,htv,htr,htroots⟩
  try replace hX:=hX.keep0 hme
  replace hT:=hT.trans0 hme;clear hme;refine⟨_,rfl,hK _ _ hT ?_⟩;clear hK K;try simp only[nmz]
  refine qU [2] (by kernel_rfl) ?_;simp only[zz3,false_implies,implies_true];intro K hK;simp only[zz5]
  refine wpC func47 (swRoots_any htv htr (by rw[htroots];simp)) ?_;rintro e wf ⟨hmf,vR,outR,rfl,hgR,hsR,hlR⟩;rw[htroots]at hsR;obtain rfl:=roots_A hsR
  have hR:=slI hgR hlR
  try replace hX:=hX.keep0 hmf
  replace hT:=hT.trans0 hmf;clear hmf hgR hsR hlR htr;refine⟨_,rfl,hK _ _ hT ?_⟩;clear hK K;try simp only[nmz]
  refine xK ?_;try simp only[zz4]
  try simp only[nmz]
  refine qL rfl (fun K hK=>?_);refine wpC func24 (yA _ _ _ _ _ _ _ _ _ hR hX) ?_;rintro e wh ⟨rfl,hmh⟩;replace hT:=hT.trans0 hmh;rw[decide_eq_true rfl]
  clear hmh hR hX;refine⟨_,rfl,hK _ _ hT ?_⟩;clear hK K;simp only[stz];refine wpLA 24 b1 0 (qA idA) (fun w' hS=>hI1d.keep hS id) underlying24 32 hA ?_;simp only[nmz]
  refine qL rfl (fun K hK=>?_)
  refine xF 25 24 _ (.agg (qA idA)) (.agg (qA (List.replicate 32 0))) 32 (by rfl) (by rfl) underlying25 id_zs (by omega) (by omega) hA (fun bY wi hBi hmi=>?_)
  have hY:Sl false wi AnyB 32 IdC (.slice (some ⟨bY,0,none⟩) 1 1) [idA]:=sl_one hBi ⟨rfl,idA_len⟩ 32 hA;replace hT:=hT.trans0 hmi;clear hmi hBi;refine hK _ _ hT ?_
  clear hK K;try simp only[nmz]
  refine qL rfl (fun K hK=>?_);refine wpC func24 (yA _ _ _ _ _ _ _ _ _ (hMd.keep0 hT) hY) ?_;rintro e wj ⟨rfl,hmj⟩;replace hT:=hT.trans0 hmj
  rw[decide_eq_true rfl];clear hmj hY;refine⟨_,rfl,hK _ _ hT ?_⟩;clear hK K;simp only[stz]
  refine qC (v:=?_) rfl (fun w'=>?_) ?_;rotate_left;·(go_simp;try with_reducible rfl)
  simp only[stz];refine wpLA 104 bo 0 (qM bv 2 1) (fun w' hS=>hCd.keep hS id) underlying104 3 rfl ?_;simp only[nmz]
  refine wpLA 24 b2 0 (qA idB) (fun w' hS=>hI2d.keep hS id) underlying24 32 hB ?_;simp only[nmz];refine qL rfl (fun K hK=>?_)
  refine xF 25 24 _ (.agg (qA idB)) (.agg (qA (List.replicate 32 0))) 32 (by rfl) (by rfl) underlying25 id_zs (by omega) (by omega) hB (fun bZ wk hBk hmk=>?_)
  have hZ:Sl false wk AnyB 32 IdC (.slice (some ⟨bZ,0,none⟩) 1 1) [idB]:=sl_one hBk ⟨rfl,idB_len⟩ 32 hB;replace hT:=hT.trans0 hmk;clear hmk hBk;refine hK _ _ hT ?_
  clear hK K;try simp only[nmz]
  refine qG rfl (fun w' hS=>qO 104 [(0,_),(1,_),(2,_)] [(0,.slice (some ⟨bZ,0,none⟩) 1 1),(1,.int .i64 2),(2,.int .i64 1)] _ (by rfl) (by rfl) (built_swept _ 1 1 2 1)) ?_
  simp only[nmz];refine qL rfl (fun K hK=>?_);refine wpC func54 (sameSwept_any (hVd.keep0 hT) hZ 2 1 2 1) ?_;rintro e wl ⟨rfl,hml⟩;replace hT:=hT.trans0 hml
  simp only[decide_true,Bool.and_self];clear hml hZ;refine⟨_,rfl,hK _ _ hT ?_⟩;clear hK K;simp only[stz];have HF:=hid (hm0d.trans0 hT);go_wp2;go_ret;exact⟨rfl,HF.out⟩
end
section
open Go.RowKit Go.Proofs.Tryz Go.Lib
theorem repos_one{l:LinkL}{a b:List ByteArray}(h:ReposOf l a)(k:ReposOf l b):a=b:=by
 have hm:∀r,r∈a↔r∈b:=fun r=>(h.2 r).trans (k.2 r).symm
 have e:a.map (·.data.toList)=b.map (·.data.toList):=sorted_ext (List.pairwise_map.2 h.1) (List.pairwise_map.2 k.1) fun x=>by
  simp only[List.mem_map];exact⟨fun⟨r,h1,h2⟩=>⟨r,(hm r).1 h1,h2⟩,fun⟨r,h1,h2⟩=>⟨r,(hm r).2 h1,h2⟩⟩
 refine(List.map_inj_right ?_).1 e;intro x y hxy
 cases x;cases y
 congr 1
 exact Array.toList_inj.1 hxy
theorem idsOf_one{l:LinkL}{r:ByteArray}{a b:List (List UInt8)}(h:IDsOf l r a)(k:IDsOf l r b):a=b:=sorted_ext h.1 k.1 fun x=>(h.2 x).trans (k.2 x).symm
theorem all2_idE{css:List (Array Value)}{l:List (List UInt8)}(h:All2 IdC css l):css.flatMap Array.toList=l.flatMap idE:=by
 have e:css=l.map fun x=>(idE x).toArray:=List.ext_getElem (by rw[h.1,List.length_map]) fun i h1 h2=>by
  have h9:=h.2 i h1 (by rw[<-h.1];exact h1);rw[List.getElem_map,idE_eq h9.2,h9.1]
 rw[e,List.flatMap_map]
theorem Sl.srcI{own:Bool}{w:World}{G:Nat->Prop}{v:Value}{l:List (List UInt8)}(h:Sl own w G 32 IdC v l):Src w 32 v l.length (l.flatMap idE):=by
 obtain⟨css,h1,-,h3⟩:=h.src (by omega);rw[all2_idE h1]at h3;exact h3
theorem exec_pickB{P:Program}{w:World}{o:Oper}{a:Act}(c x y:Operand)(cb v b:Bool)(ho:o.op=.pick c x y)(hc:a.eval c=.bool cb)(hv:(if cb then a.eval x else a.eval y)=.bool v)(hb:decide (v=true)=b):(execOp a.eval o).run P w=.ok (.value (.bool b)) w:=by
 unfold execOp;simp only[ho,hc]
 cases cb<;>cases v<;>cases b<;>simp_all [asBool]
section
variable{w:World}{h:House}{c:BlobL}{l:LinkL}{Ft:Nat->Prop}(H:HsAt w h c l Ft)
include H
theorem hsRepos{v:Value}(hq:h.q=v):Calls prog 66 #[v] w (RetN w fun v w'=>∃names,ReposOf l names/\Sl true w' (New w w') 1 StrC v names):=by
 obtain⟨bl,F,h1,rfl,h3,_⟩:=H;rw[<-hq];exact repos_at h3
theorem hsUseQ{v:Value}(hq:h.q=v)(r:ByteArray):Calls prog 68 #[v,.string r] w (RetE (.int .i64 (useOf l r)) w):=by
 obtain⟨bl,F,h1,rfl,h3,_⟩:=H;rw[<-hq];exact use_at h3 r
theorem hsIDsQ{v:Value}(hq:h.q=v)(r:ByteArray):Calls prog 71 #[v,.string r] w (RetN w fun v w'=>∃ids,IDsOf l r ids/\(∀x∈ids,x.length=32)/\Sl true w' (New w w') 32 IdC v ids):=by
 obtain⟨bl,F,h1,rfl,h3,_⟩:=H;obtain⟨_,⟨b,ml,mu,hold,us,e,hi,hF⟩,_,_⟩:=id h3;rw[<-hq,e];exact ids_any hi r
end
end
section
open Go.RowKit Go.Shelf Go.Proofs.Tryz Go.Lib
section
variable{w:World}{h:House}{c:BlobL}{l:LinkL}{Ft:Nat->Prop}
end
def longB(L:List (List UInt8))(n mx:Nat):Bool:=(L.take (n+1)).any (fun m=>decide (mx<m.length))||decide (n<L.length)
theorem longB_false{L:List (List UInt8)}{n mx:Nat}(h:longB L n mx=false):L.length<=n/\∀m∈L,m.length<=mx:=by
 unfold longB at h;rw[Bool.or_eq_false_iff,decide_eq_false_iff_not]at h;have hl:L.length<=n:=by omega
 rw[List.take_of_length_le (by omega)]at h;refine⟨hl,fun m hm=>?_⟩;have h1:=List.any_eq_false.1 h.1 m hm
 simpa using h1
theorem longB_big{L:List (List UInt8)}{n mx k:Nat}(hk:k<L.length)(hn:k<=n)(hb:mx<L[k].length):longB L n mx=true:=by
 unfold longB
 have:(L.take (n+1)).any (fun m=>decide (mx<m.length))=true:=List.any_eq_true.2 ⟨L[k],by rw[List.mem_take_iff_getElem];exact⟨k,by omega,rfl⟩,by simpa using hb⟩
 rw[this,Bool.true_or]
theorem longB_many{L:List (List UInt8)}{n mx:Nat}(h:n<L.length):longB L n mx=true:=by
 unfold longB;rw[decide_eq_true h,Bool.or_true]
theorem longB_not{L:List (List UInt8)}{n mx:Nat}(h:L.length<=n)(h2:∀m∈L,m.length<=mx):longB L n mx=false:=by
 unfold longB;rw[List.take_of_length_le (by omega),Bool.or_eq_false_iff,decide_eq_false_iff_not];refine⟨List.any_eq_false.2 fun m hm=>?_,by omega⟩;have:=h2 m hm
 simpa using this
def LngRel(w0:World)(L:List (List UInt8))(n mx:Nat)(i:Value)(w:World):Prop:=∃k:Nat,k<=L.length/\k<=n+1/\i=.int .i64 k/\Mod NoB w0 w/\∀m∈L.take k,m.length<=mx
theorem longLists_any{w:World}{lv:Value}{L:List (List UInt8)}(hl:LsAt w lv L)(n mx:Nat)(hn:n<=1000000)(hsz:mx<=1000000):Calls prog 77 #[lv,.int .i64 n,.int .i64 mx] w (RetM (.bool (longB L n mx)) w):=by
 obtain⟨lad,lcap,rfl,hle,-⟩:=Sl.at hl;have HL:=hid hl
 have HR0:Hid (LngRel w L n mx (.int .i64 (0:Nat)) w):=hid ⟨0,Nat.zero_le _,Nat.zero_le _,rfl,Mod.refl _ _,by simp⟩;clear hl;go_enter func77,ntmps77;go_wp2
 go_loopw [7] (LngRel w L n mx) (fun i _=>L.length+1-(intOf i).toNat)
 case atStart=>exact HR0.out
 case round=>
  rename World=>wr
  obtain⟨k,hk,hkn,rfl,hmr,hpre⟩:=hrel
  by_cases hlt:k<L.length
  ·have hz:(k:Int)<(L.length:Nat):=by omega
   by_cases hkle:k<=n
   ·have hz2:(k:Int)<=(n:Nat):=by omega
    obtain⟨_,_,hae,-,hat⟩:=(yE HL.out hmr).at;injection hae with hae1 hae2 hae3;subst hae1 hae3;obtain⟨b,off,rfl,-,-,hcc⟩:=hat k hlt
    obtain⟨cs,-,⟨vk,rfl,hvk⟩,hcA⟩:=hcc k hlt;have hc:=CellsAt.one.1 hcA;have hsn:=take_snoc hlt;have hbg:mx<L[k].length->longB L n mx=true:=longB_big hlt hkle
    have HBG:=hid hbg;clear hbg;generalize L[k]=m at*;obtain⟨va,vc,rfl,hml,-⟩:=Sl.at hvk;clear hcc hcA hvk hat hae2;go_upto_region 4 with(fail)
    refine wpR [3,3,3,1,3,3,3] ?_;simp only[stz];refine wpPI underlying22 1 hlt ?_;simp only[nmz];refine wpXd 53 b (off+k*1) hc underlying53 trivial ?_
    try simp only[nmz]
    refine wpPL ?_;simp only[stz];refine qC (v:=?_) rfl (fun w'=>?_) ?_;rotate_left;·(go_simp;try with_reducible rfl)
    simp only[stz]
    by_cases hbig:m.length>mx
    ·have hz3:(m.length:Int)>(mx:Nat):=by omega
     have HV:=hid (HBG.out hbig);clear hc hsn hpre;go_wp2;go_ret;exact⟨by rw[HV.out];rfl,hmr⟩
    ·have hz3:¬(m.length:Int)>(mx:Nat):=by omega
     have HR:Hid (LngRel w L n mx (.int .i64 ((k+1:Nat):Int)) wr):=hid ⟨k+1,by omega,by omega,rfl,hmr,fun x hx=>by
      rw[<-hsn,List.mem_append,List.mem_singleton]at hx
      rcases hx with hx|rfl
      ·exact hpre x hx
      ·omega⟩
     clear hc hsn hpre;go_wp2
     go_roundw
     case rel=>exact HR.out
     case measure=>simp[intOf];omega
   ·have hz2:¬(k:Int)<=(n:Nat):=by omega
    have hz4:(L.length:Int)>(n:Nat):=by omega
    have HV:=hid (longB_many (mx:=mx) (show n<L.length by omega));clear hpre;go_wp2;go_ret;exact⟨by rw[HV.out];rfl,hmr⟩
  ·have hz:¬(k:Int)<(L.length:Nat):=by omega
   obtain rfl:k=L.length:=by omega
   rw[List.take_length]at hpre;have HP:=hid hpre;clear hpre
   by_cases hgt:L.length>n
   ·have hz4:(L.length:Int)>(n:Nat):=by omega
    have HV:=hid (longB_many (mx:=mx) (show n<L.length by omega));go_wp2;go_ret;exact⟨by rw[HV.out];rfl,hmr⟩
   ·have hz4:¬(L.length:Int)>(n:Nat):=by omega
    have HV:=hid (longB_not (mx:=mx) (show L.length<=n by omega) HP.out);go_wp2;go_ret;exact⟨by rw[HV.out];rfl,hmr⟩
def longH(L:List (List UInt8))(KK:List Int):Bool:=longB L 30 700||decide (60<KK.length)
theorem longH_false{L:List (List UInt8)}{KK:List Int}(h:longH L KK=false):L.length<=30/\(∀m∈L,m.length<=700)/\KK.length<=60:=by
 unfold longH at h;rw[Bool.or_eq_false_iff,decide_eq_false_iff_not]at h;have:=longB_false h.1;exact⟨this.1,this.2,by omega⟩
theorem long27_any{w:World}{wd:Int}{lv kv:Value}{L:List (List UInt8)}{KK:List Int}(hl:LsAt w lv L)(hk:Sl false w AnyB 1 IntC kv KK):Calls prog 39 #[.agg #[.int .i64 wd,lv,kv]] w (RetM (.bool (longH L KK)) w):=by
 obtain⟨lad,lcap,rfl,hle,-⟩:=Sl.at hl;obtain⟨kad,kcap,rfl,hke,-⟩:=Sl.at hk;have HL:=hid hl;obtain⟨res,hres⟩:∃r,longH L KK=r:=⟨_,rfl⟩;rw[hres]
 unfold longH at hres;have HRES:=hid hres;clear hl hk hres;go_enter func39,ntmps39;go_upto_region 0 with(fail);refine wpR [1,3] ?_;simp only[stz]
 refine wpD (zL 68 _ _ (by rfl) (by rfl) (fun w1 hB1 hm1 hs1=>?_))
 replace hB1:w1.heap[w.heap.size]?=some (.cells #[.int .i64 wd,.slice lad L.length lcap,.slice kad KK.length kcap] 68 (0,0)):=hB1;simp only[stz]
 have hc1:w1.cell? ⟨w.heap.size,0+1,none⟩=some (.slice lad L.length lcap):=by simp[World.cell?,hB1]
 have hc2:w1.cell? ⟨w.heap.size,0+2,none⟩=some (.slice kad KK.length kcap):=by simp[World.cell?,hB1]
 have hcall:=longLists_any (yE HL.out hm1) 30 700 (by omega) (by omega);obtain⟨lb,hlb⟩:∃b,longB L 30 700=b:=⟨_,rfl⟩;rw[hlb]at HRES hcall;clear hlb
 generalize w.heap.size=hb at*;go_upto_region 1 with(fail)
 cases lb with
 |true=>
  have hr:res=true:=by have h:=HRES.out;simpa using h.symm
  refine wpR [3,1,1,3,3,0,3,3,3,3] ?_;simp only[stz];refine wpXd 22 hb (0+1) hc1 underlying22 trivial ?_;try simp only[nmz]
  refine wpD (wpCM func77 (hcall) fun w2 hm2=>?_);simp only[stz];clear hc1 hc2 hB1;go_wp2;go_ret;exact⟨by rw[hr];rfl,hm1.trans0 hm2⟩
 |false=>
  have hr:decide (60<KK.length)=res:=by have h:=HRES.out;simpa using h
  refine wpR [3,1,1,3,3,1,3,3,3,3] ?_;simp only[stz];refine wpXd 22 hb (0+1) hc1 underlying22 trivial ?_;try simp only[nmz]
  refine wpD (wpC func77 (hcall) ?_);rintro e w2 ⟨rfl,hm2⟩;have hc2':=hm2.cell id hc2;refine⟨_,rfl,?_⟩;simp only[stz];refine wpXd 64 hb (0+2) hc2' underlying64 trivial ?_
  try simp only[nmz]
  refine wpPL ?_;simp only[nmz]
  refine qK _ _ _ _ _ _ _ _ rfl rfl rfl rfl rfl (decide (60<KK.length)) (show decide (((KK.length:Nat):Int)>60)=decide (60<KK.length) by rw[decide_eq_decide];omega) ?_
  simp only[stz];clear hc1 hc2 hc2' hB1;rw[hr];go_wp2;go_ret;exact⟨rfl,hm1.trans0 hm2⟩
end
section
open Go.ChangeShapes Go.WideShapes Go.ChangeAt Go.RowKit Go.Proofs.Tryz Go.Lib
theorem Mod.kept{w w':World}(h:Mod NoB w w')(may:MemPlace->Prop):w.keptBut w' may:=by
 refine⟨h.os,h.output,fun i hi=>?_⟩;have e:=h.block i hi id
 cases hw:w.heap[i]? with
 |none=>rw[hw]at e;simp[e]
 |some o=>
  rw[hw]at e
  cases o<;>simp[e]
theorem post_of_mod{H:Type}{enc:TypeId×Value->H}{P:Program}{f:Func}{s:ChangeSpec}{apart fresh handsOn:Bool}{W W':World}{args:Array Value}{v:Value}{ds gs:List (DataW H)}{before pa pv:List MemPlace}
 (hold:DataW.Whole enc P f.params.toList s.vars apart W args.toList ds gs before)(hm:Mod NoB W W')
 (hr:∀(b:Nat),DataW.TrodAll enc P W' b (fun _=>false) handsOn f.resultTypes.toList (v.resultList f.resultTypes.size) (s.fn H (ds++gs)).results [])
 (ha:DataW.TrodAll enc P W' 0 (fun b=>decide (b<W.heap.size)) true f.params.toList args.toList (s.fn H (ds++gs)).args pa)
 (hv:DataW.TrodVars enc P W' (fun b=>decide (b<W.heap.size)) s.vars (s.fn H (ds++gs)).vars pv):s.post enc P f apart fresh handsOn false W args v W':=by
 unfold ChangeSpec.post;exact⟨ds,gs,before,[],pa,pv,hold,hr _,ha,hv,hm.kept _,fun h=>Bool.noConfusion h⟩
theorem laidOut:laidOutB prog=true:=by kernel_rfl
theorem carry{H:Type}{enc:TypeId×Value->H}{t:TypeId}(hr:prog.readableRec t=true)(hrow:t<prog.types.size){W W':World}(hm:Mod NoB W W'){v:Value}{d:DataW H}{ps:List MemPlace}
 (h:DataW.Trod enc prog W 0 (fun _=>true) true t v d ps):DataW.Trod enc prog W' 0 (fun b=>decide (b<W.heap.size)) true t v d ps:=by
 obtain⟨n,h⟩:=h;have hlt:=DataW.trod_lt n t _ _ h
 refine⟨n,DataW.trod_stays (kids_book laidOut hr) (book_sized hr) (fun h=>by cases h) ⟨hrow,book_self t⟩ h (fun p hp=>?_) (fun p hp=>by simpa using hlt p hp)⟩
 have hb:=hlt p hp
 cases p with
 |cell b off=>exact World.cell?_of_block (w:=W) (hm.block b hb id)
 |map b=>exact hm.block b hb id
theorem fit_i64{n:Int}(h:(Lit.int .i64 n).wf=true):-9223372036854775808<=n/\n<=9223372036854775807:=bounds_i64 h
theorem addr_add{w:World}{a:Addr}{v:Value}(i:Nat)(h0:∃u,w.cell? (a.add 0)=some u)(h:w.cell? (a.add i)=some v):a=⟨a.block,a.off,none⟩/\w.cell? ⟨a.block,a.off+i,none⟩=some v:=by
 obtain⟨u,h0⟩:=h0;obtain⟨b,off,spot⟩:=a
 have hs:spot=none:=by
  simp only[Addr.add,if_true]at h0;unfold World.cell? at h0
  cases spot with
  |none=>rfl
  |some s=>cases hw:w.heap[b]? with
   |none=>simp[hw]at h0
   |some o=>cases o<;>simp[hw]at h0
 subst hs;refine⟨rfl,?_⟩;unfold Addr.add at h
 split at h
 ·rename_i hi;subst hi;exact h
 ·exact h
theorem list_of_all{α:Type}{n:Nat}{Q:Nat->α->Prop}(h:∀i,i<n->∃a,Q i a):∃l:List α,l.length=n/\∀i (hi:i<l.length),Q i l[i]:=by
 refine⟨List.ofFn fun i:Fin n=>Classical.choose (h i.1 i.2),by simp,fun i hi=>?_⟩;rw[List.getElem_ofFn];exact Classical.choose_spec (h i (by simpa using hi))
theorem addr_cells{w:World}{a:Addr}{i j:Nat}{u v:Value}(h0:w.cell? ((a.add 0).add 0)=some u)(h:w.cell? ((a.add i).add j)=some v):a=⟨a.block,a.off,none⟩/\w.cell? ⟨a.block,a.off+i+j,none⟩=some v:=by
 have e0:(a.add 0).add 0=a.add 0:=by simp[Addr.add]
 have h1:=(addr_add 0 ⟨u,e0▸h0⟩ (e0▸h0)).1;refine⟨h1,?_⟩;rw[h1]at h
 have e:∀(b o k:Nat),Addr.add ⟨b,o,none⟩ k=⟨b,o+k,none⟩:=fun b o k=>by
  unfold Addr.add
  split
  ·rename_i hk;subst hk;rfl
  ·rfl
 rwa[e,e]at h
section
variable{H:Type}{enc:TypeId×Value->H}{P:Program}{W:World}{sp:Nat->Bool}{held:Bool}
theorem sl_of_trod{α:Type}{R:Array Value->α->Prop}{t e:TypeId}{sz fuel:Nat}{cs:List Value}{x:DataW H×List MemPlace}(ht:P.underlying t=some (.slice e))(hsz:P.cellsOf e=sz)(hpos:0<sz)
 (hR:∀n cs x,DataW.trod enc P W 0 sp held n e cs=some x->∃a,R cs.toArray a)(h:DataW.trod enc P W 0 sp held fuel t cs=some x):∃v l,cs=[v]/\Sl false W (fun k=>k<W.heap.size) sz R v l:=by
 rcases DataW.trod_slice ht h with⟨rfl,_⟩|⟨a,len,cap,elems,rest,n,_,rfl,_,_,hlc,hcm,hel,helem,_,_⟩
 ·exact⟨_,[],rfl,Sl.nil _ _ _ _ _⟩
 ·subst hsz
  have hall:∀i,i<len->∃y:α,∃cs:List Value,cs.length=P.cellsOf e/\R cs.toArray y/\∀j,j<P.cellsOf e->W.cell? ((a.add (i*P.cellsOf e)).add j)=cs[j]?:=by
   intro i hi;have h1:=helem i hi;rw[List.getElem?_eq_getElem (by omega)]at h1;obtain⟨cs,h2,h3⟩:=Option.bind_eq_some_iff.1 h1;obtain⟨_,hl,hc⟩:=World.cells?_some h2
   obtain⟨y,hy⟩:=hR _ _ _ h3;exact⟨y,cs,hl,hy,hc⟩
  obtain⟨l,hl,hq⟩:=list_of_all hall;refine⟨_,l,rfl,some a,cap,by rw[hl],by omega,hcm,fun hne=>?_⟩;have hp:0<l.length:=List.length_pos_iff.2 hne
  have h0:∃u,W.cell? ((a.add 0).add 0)=some u:=by
   obtain⟨cs,h1,_,h3⟩:=hq 0 hp;have:=h3 0 hpos;rw[List.getElem?_eq_getElem (by omega),Nat.zero_mul]at this;exact⟨_,this⟩
  obtain⟨u,h0⟩:=h0
  refine⟨a.block,a.off,by rw[<-(addr_cells h0 h0).1],(block_lt_of_cell (a:=⟨a.block,a.off+0+0,none⟩) (addr_cells h0 h0).2),fun h=>(by cases h),fun i hi=>?_⟩
  obtain⟨cs,h1,h2,h3⟩:=hq i hi;refine⟨cs.toArray,by simpa using h1,h2,fun j hj=>?_⟩;have hj':j<cs.length:=by simpa using hj
  have:=h3 j (by omega);rw[List.getElem?_eq_getElem hj']at this;rw[(addr_cells h0 this).2]
  simp[List.getElem?_eq_getElem hj']
theorem field_of_trod{t:TypeId}{fs:Array Field}{fuel:Nat}{cs:List Value}{x:DataW H×List MemPlace}(ht:P.underlying t=some (.struct fs))(h:DataW.trod enc P W 0 sp held fuel t cs=some x):
 cs.length=P.cellsOf t/\∀(i:Nat)(f:Field),fs[i]?=some f->∃n y,DataW.trod enc P W 0 sp held n f.type ((cs.drop f.offset).take (P.cellsOf f.type))=some y:=by
 obtain⟨xs,n,_,_,hl,hx,hf⟩:=DataW.trod_struct ht h;refine⟨hl,fun i f hi=>⟨n,?_⟩⟩
 have hi':i<xs.length:=by
  rcases Nat.lt_or_ge i fs.size with h|h
  ·omega
  ·rw[Array.getElem?_eq_none h]at hi;cases hi
 have:=hf i f hi;rw[List.getElem?_eq_getElem hi']at this;exact⟨_,this⟩
theorem yU(cs:List Value)(k n:Nat):cs.drop k=(cs.drop k).take n++cs.drop (k+n):=by
 rw[<-List.drop_drop,List.take_append_drop]
end
section
variable{H:Type}{enc:TypeId×Value->H}{W:World}{sp:Nat->Bool}{held:Bool}{fuel:Nat}{cs:List Value}{x:DataW H×List MemPlace}
theorem read_u8(h:DataW.trod enc prog W 0 sp held fuel 5 cs=some x):∃b,cs=[byteV b]:=by
 obtain⟨n,rfl,_,hw⟩:=DataW.trod_int underlying5 h;have:=bounds_u8 hw;refine⟨UInt8.ofNat n.toNat,?_⟩;unfold byteV
 rw[UInt8.toNat_ofNat_of_lt' (by rw[show UInt8.size=256 from rfl];omega),Int.toNat_of_nonneg this.1]
theorem read_id(h:DataW.trod enc prog W 0 sp held fuel 24 cs=some x):∃i:List UInt8,i.length=32/\cs=i.map byteV:=by
 obtain⟨xs,m,_,_,hl,hx,hf⟩:=DataW.trod_array underlying24 h;have hc:prog.cellsOf 24=32:=by kernel_rfl
 have h5:prog.cellsOf 5=1:=by kernel_rfl
 rw[hc]at hl
 have hall:∀i,i<32->∃b,cs[i]?=some (byteV b):=by
  intro i hi;have h1:=hf i hi;rw[List.getElem?_eq_getElem (by omega)]at h1;obtain⟨b,hb⟩:=read_u8 h1;rw[h5,Nat.mul_one]at hb;refine⟨b,?_⟩
  have:=congrArg (fun l=>l[0]?) hb
  simpa using this
 obtain⟨l,hl',hq⟩:=list_of_all hall;refine⟨l,hl',List.ext_getElem (by simp;omega) fun i h1 h2=>?_⟩;have:=hq i (by simpa using h2)
 rw[List.getElem?_eq_getElem h1]at this
 simpa using this
theorem read_ids(h:DataW.trod enc prog W 0 sp held fuel 25 cs=some x):∃v l,cs=[v]/\Sl false W (fun k=>k<W.heap.size) 32 IdC v l:=
 sl_of_trod underlying25 (by kernel_rfl) (by decide) (fun _ _ _ h=>by
  obtain⟨n,hn,rfl⟩:=read_id h
  exact⟨n,rfl,hn⟩) h
theorem read_bytes(h:DataW.trod enc prog W 0 sp held fuel 53 cs=some x):∃v l,cs=[v]/\Sl false W (fun k=>k<W.heap.size) 1 ByteC v l:=
 sl_of_trod underlying53 (by kernel_rfl) (by decide) (fun _ _ _ h=>by
  obtain⟨b,rfl⟩:=read_u8 h
  exact⟨b,rfl⟩) h
theorem read_lists(h:DataW.trod enc prog W 0 sp held fuel 22 cs=some x):∃v l,cs=[v]/\LsAt W v l:=by
 obtain⟨v,l,e,hs⟩:=sl_of_trod (R:=BtsC W) (sz:=1) underlying22 (by kernel_rfl) (by decide) (fun _ _ _ h=>by
  obtain⟨v,l,rfl,hs⟩:=read_bytes h
  exact⟨l,v,rfl,hs.mono (fun _ _=>trivial) (fun _ _ h=>h)⟩) h
 exact⟨v,l,e,hs.mono (fun _ _=>trivial) (fun _ _ h=>h)⟩
def IntF(cs:Array Value)(n:Int):Prop:=cs=#[.int .i64 n]/\I64 n
theorem read_ints(h:DataW.trod enc prog W 0 sp held fuel 64 cs=some x):∃v l,cs=[v]/\Sl false W AnyB 1 IntF v l:=by
 obtain⟨v,l,e,hs⟩:=sl_of_trod (R:=IntF) (sz:=1) underlying64 (by kernel_rfl) (by decide) (fun _ _ _ h=>by
  obtain⟨n,rfl,_,hw⟩:=DataW.trod_int underlying3 h
  exact⟨n,rfl,fit_i64 hw⟩) h
 exact⟨v,l,e,hs.mono (fun _ _=>trivial) (fun _ _ h=>h)⟩
theorem read_house(h:DataW.trod enc prog W 0 sp held fuel 68 cs=some x):∃wd lv kv L KK,cs=[.int .i64 wd,lv,kv]/\I64 wd/\LsAt W lv L/\Sl false W AnyB 1 IntF kv KK:=by
 obtain⟨hl,hf⟩:=field_of_trod underlying68 h;have c3:prog.cellsOf 3=1:=by kernel_rfl
 have c22:prog.cellsOf 22=1:=by kernel_rfl
 have c64:prog.cellsOf 64=1:=by kernel_rfl
 have hc:prog.cellsOf 68=3:=by kernel_rfl
 obtain⟨_,_,h0⟩:∃n y,DataW.trod enc prog W 0 sp held n 3 ((cs.drop 0).take (prog.cellsOf 3))=some y:=hf 0 _ rfl
 obtain⟨_,_,h1⟩:∃n y,DataW.trod enc prog W 0 sp held n 22 ((cs.drop 1).take (prog.cellsOf 22))=some y:=hf 1 _ rfl
 obtain⟨_,_,h2⟩:∃n y,DataW.trod enc prog W 0 sp held n 64 ((cs.drop 2).take (prog.cellsOf 64))=some y:=hf 2 _ rfl;obtain⟨n,e0,_,hw⟩:=DataW.trod_int underlying3 h0
 obtain⟨lv,L,e1,hs1⟩:=read_lists h1;obtain⟨kv,KK,e2,hs2⟩:=read_ints h2;rw[hc]at hl;rw[c3]at e0;rw[c22]at e1;rw[c64]at e2
 refine⟨n,lv,kv,L,KK,?_,fit_i64 hw,hs1,hs2⟩;have:=yU cs 0 1
 rw[e0,yU cs (0+1) 1,e1,yU cs (0+1+1) 1,e2,show 0+1+1+1=3 from rfl,List.drop_of_length_le (i:=3) (by omega),List.drop_zero]at this;rw[this]
 rfl
end
structure HsX where
 wd:Int
 lv:Value
 kv:Value
 L:List (List UInt8)
 KK:List Int
def HsIn(W:World)(a:HsX):Prop:=I64 a.wd/\LsAt W a.lv a.L/\Sl false W AnyB 1 IntF a.kv a.KK
section
variable{H:Type}{enc:TypeId×Value->H}{W W0:World}{sp:Nat->Bool}{r:Reach}{b0:Nat}{v:Value}{d:DataW H}{ps:List MemPlace}
theorem open_ids(hval:Value.okWide prog W0 r b0 25 v)(h:DataW.Trod enc prog W 0 sp true 25 v d ps):∃l,Sl false W (fun k=>k<W.heap.size) 32 IdC v l:=by
 obtain⟨a0,n0,c0,rfl⟩:=okWide_slice underlying25 hval;obtain⟨fuel,h⟩:=h;obtain⟨v,l,hv,hl⟩:=read_ids h
 have:Value.slice a0 n0 c0=v:=by simpa[Value.cells]using hv
 rw[this];exact⟨l,hl⟩
theorem open_house(hval:Value.okWide prog W0 r b0 68 v)(h:DataW.Trod enc prog W 0 sp true 68 v d ps):∃a:HsX,v=.agg #[.int .i64 a.wd,a.lv,a.kv]/\HsIn W a:=by
 obtain⟨cs,rfl,_⟩:=okWide_struct underlying68 hval;obtain⟨fuel,h⟩:=h;obtain⟨wd,lv,kv,L,KK,e,h1,h2,h3⟩:=read_house h;refine⟨⟨wd,lv,kv,L,KK⟩,?_,h1,h2,h3⟩
 congr 1
 exact Array.toList_inj.1 e
end
end
section
open Go.RowKit Go.Proofs.Tryz Go.Lib
theorem sl_mem{α:Type}{own:Bool}{w:World}{G:Nat->Prop}{n:Nat}{R:Array Value->α->Prop}{v:Value}{l:List α}{Q:α->Prop}(h:Sl own w G n R v l)(hQ:∀cs x,R cs x->Q x):∀x∈l,Q x:=by
 intro x hx;obtain⟨a,cap,_,_,hat⟩:=Sl.at h;obtain⟨i,hi,rfl⟩:=List.getElem_of_mem hx;obtain⟨b,off,_,_,_,hc⟩:=hat i hi;obtain⟨cs,_,h2,_⟩:=hc i hi
 exact hQ _ _ h2
end
section
open Go.ChangeShapes Go.WideShapes Go.ChangeAt Go.RowKit Go.Proofs.Tryz Go.Lib
section
variable{H:Type}{enc:TypeId×Value->H}{W:World}{sp:Nat->Bool}{held:Bool}{fuel:Nat}{cs:List Value}{x:DataW H×List MemPlace}
theorem read_dot(h:DataW.trod enc prog W 0 sp held fuel 113 cs=some x):∃r n:Int,cs=[.int .i64 r,.int .i64 n]:=by
 obtain⟨hl,hf⟩:=field_of_trod underlying113 h;have h3:prog.cellsOf 3=1:=by kernel_rfl
 have hc:prog.cellsOf 113=2:=by kernel_rfl
 obtain⟨_,_,h0⟩:∃n y,DataW.trod enc prog W 0 sp held n 3 ((cs.drop 0).take (prog.cellsOf 3))=some y:=hf 0 _ rfl
 obtain⟨_,_,h1⟩:∃n y,DataW.trod enc prog W 0 sp held n 3 ((cs.drop 1).take (prog.cellsOf 3))=some y:=hf 1 _ rfl;obtain⟨r,e0,_⟩:=DataW.trod_int underlying3 h0
 obtain⟨n,e1,_⟩:=DataW.trod_int underlying3 h1;rw[h3]at e0 e1;rw[hc]at hl;refine⟨r,n,?_⟩;have:=yU cs 0 1
 rw[e0,yU cs (0+1) 1,e1,show 0+1+1=2 from rfl,List.drop_of_length_le (i:=2) (by omega),List.drop_zero]at this
 simpa using this
theorem read_event(h:DataW.trod enc prog W 0 sp held fuel 115 cs=some x):∃e,EvR false W (fun k=>k<W.heap.size) cs.toArray e:=by
 obtain⟨hl,hf⟩:=field_of_trod underlying115 h;have c3:prog.cellsOf 3=1:=by kernel_rfl
 have c9:prog.cellsOf 9=1:=by kernel_rfl
 have c30:prog.cellsOf 64=1:=by kernel_rfl
 have c33:prog.cellsOf 113=2:=by kernel_rfl
 have c35:prog.cellsOf 24=32:=by kernel_rfl
 have c102:prog.cellsOf 25=1:=by kernel_rfl
 have hc:prog.cellsOf 115=39:=by kernel_rfl
 obtain⟨_,_,h0⟩:∃n y,DataW.trod enc prog W 0 sp held n 113 ((cs.drop 0).take (prog.cellsOf 113))=some y:=hf 0 _ rfl
 obtain⟨_,_,h1⟩:∃n y,DataW.trod enc prog W 0 sp held n 64 ((cs.drop 2).take (prog.cellsOf 64))=some y:=hf 1 _ rfl
 obtain⟨_,_,h2⟩:∃n y,DataW.trod enc prog W 0 sp held n 3 ((cs.drop 3).take (prog.cellsOf 3))=some y:=hf 2 _ rfl
 obtain⟨_,_,h3⟩:∃n y,DataW.trod enc prog W 0 sp held n 9 ((cs.drop 4).take (prog.cellsOf 9))=some y:=hf 3 _ rfl
 obtain⟨_,_,h4⟩:∃n y,DataW.trod enc prog W 0 sp held n 9 ((cs.drop 5).take (prog.cellsOf 9))=some y:=hf 4 _ rfl
 obtain⟨_,_,h5⟩:∃n y,DataW.trod enc prog W 0 sp held n 24 ((cs.drop 6).take (prog.cellsOf 24))=some y:=hf 5 _ rfl
 obtain⟨_,_,h6⟩:∃n y,DataW.trod enc prog W 0 sp held n 25 ((cs.drop 38).take (prog.cellsOf 25))=some y:=hf 6 _ rfl;obtain⟨r,n,e0⟩:=read_dot h0
 obtain⟨dv,dl,e1,s1⟩:=read_ints h1;replace s1:Sl false W (fun k=>k<W.heap.size) 1 IntC dv dl:=Sl.inside (s1.mono (fun _ _=>trivial) fun _ _ h=>h.1) (by omega)
 obtain⟨k,e2,_⟩:=DataW.trod_int underlying3 h2;obtain⟨repo,e3,_,b3⟩:=DataW.trod_string underlying9 h3;obtain⟨tag,e4,_,b4⟩:=DataW.trod_string underlying9 h4
 obtain⟨id,hid,e5⟩:=read_id h5;obtain⟨rv,rl,e6,s6⟩:=read_ids h6;rw[hc]at hl;rw[c33]at e0;rw[c30]at e1;rw[c3]at e2;rw[c9]at e3 e4;rw[c35]at e5;rw[c102]at e6
 refine⟨⟨r,n,dl,k,repo,tag,id,rl⟩,dv,rv,?_,hid,s1,s6,b3,b4⟩;have:=yU cs 0 2
 rw[e0,yU cs (0+2) 1,e1,yU cs (0+2+1) 1,e2,yU cs (0+2+1+1) 1,e3,yU cs (0+2+1+1+1) 1,e4,yU cs (0+2+1+1+1+1) 32,e5,
  yU cs (0+2+1+1+1+1+32) 1,e6,show 0+2+1+1+1+1+32+1=39 from rfl,List.drop_of_length_le (i:=39) (by omega),List.drop_zero]at this
 rw[this]
 simp[xI,qA]
theorem read_events(h:DataW.trod enc prog W 0 sp held fuel 72 cs=some x):∃v l,cs=[v]/\Sl false W (fun k=>k<W.heap.size) 39 (EvR false W (fun k=>k<W.heap.size)) v l:=
 sl_of_trod underlying72 (by kernel_rfl) (by decide) (fun _ _ _ h=>read_event h) h
end
def EvsIn(W:World)(v:Value)(l:List Evt):Prop:=Sl false W (fun k=>k<W.heap.size) 39 (EvR false W (fun k=>k<W.heap.size)) v l
section
variable{H:Type}{enc:TypeId×Value->H}{W W0:World}{sp:Nat->Bool}{r:Reach}{b0:Nat}{v:Value}{d:DataW H}{ps:List MemPlace}
theorem open_events(hval:Value.okWide prog W0 r b0 72 v)(h:DataW.Trod enc prog W 0 sp true 72 v d ps):∃l,EvsIn W v l:=by
 obtain⟨a0,n0,c0,rfl⟩:=okWide_slice underlying72 hval;obtain⟨fuel,h⟩:=h;obtain⟨v,l,hv,hl⟩:=read_events h
 have:Value.slice a0 n0 c0=v:=by simpa[Value.cells]using hv
 rw[this];exact⟨l,hl⟩
theorem open_nums(hval:Value.okWide prog W0 r b0 64 v)(h:DataW.Trod enc prog W 0 sp true 64 v d ps):∃l,Sl false W AnyB 1 IntF v l:=by
 obtain⟨a0,n0,c0,rfl⟩:=okWide_slice underlying64 hval;obtain⟨fuel,h⟩:=h;obtain⟨v,l,hv,hl⟩:=read_ints h
 have:Value.slice a0 n0 c0=v:=by simpa[Value.cells]using hv
 rw[this];exact⟨l,hl⟩
end
end
section
open Go.RowKit Go.Shelf Go.Proofs.Tryz Go.Lib
def SwsPass(w:World)(L:List (List UInt8))(KK:List Int)(marks:List (List UInt8))(l:List Evt)(S:List Int)(s:Value)(wx:World):Prop:=
 Mod NoB w wx/\(s=.bool true\/s=.bool false/\longH L KK=false/\marks.length<=60/\SmallEvs l/\S.length<=20)
def SwsRel(w0:World)(i:Value)(w:World):Prop:=∃k:Nat,k<=3/\i=.int .i64 k/\Mod NoB w0 w
theorem sweepSweeps_walk{w:World}{wd:Int}(hwd:I64 wd){lv kv mv ev sv:Value}{L:List (List UInt8)}{KK S:List Int}{marks:List (List UInt8)}{l:List Evt}(hlv:LsAt w lv L)(hkv:Sl false w AnyB 1 IntC kv KK)(hK2:∀x∈KK,I64 x)
 (hmv:Sl false w (fun k=>k<w.heap.size) 32 IdC mv marks)(hev:EvsIn w ev l)(hsv:Sl false w AnyB 1 IntC sv S):
 Calls prog 13 #[.agg #[.int .i64 wd,lv,kv],mv,ev,sv] w (RetM (.bool true) w):=by
 have hl1:=Sl.one hlv;have hk1:=Sl.one hkv;obtain⟨mad,mcap,rfl,hml,-⟩:=Sl.at hmv;obtain⟨ead,ecap,rfl,hel,-⟩:=Sl.at hev;obtain⟨sad,scap,rfl,hsl,-⟩:=Sl.at hsv
 have HL:=hid hlv;have HKV:=hid hkv;have HM:=hid hmv;have HE:=hid hev;have HS:=hid hsv;clear hlv hkv hmv hev hsv;go_enter func13,ntmps13;go_upto_region 0 with(fail)
 refine wpR [1,3] ?_;simp only[stz];refine wpD (zL 68 _ _ (by rfl) (by rfl) (fun w1 hB1 hm1 hs1=>?_))
 replace hB1:w1.heap[w.heap.size]?=some (.cells #[.int .i64 wd,lv,kv] 68 (0,0)):=hB1;simp only[stz]
 have hcH:CellsAt w1 w.heap.size 0 #[.int .i64 wd,lv,kv]:=CellsAt.whole hB1;have hb4lt:w.heap.size<w1.heap.size:=hs1
 have hlong:=long27_any (wd:=wd) (yE HL.out hm1) (HKV.out.keep0 hm1)
 have hlev:=fun w' (hm':Mod NoB w1 w')=>longEvents_any _ _ _ _ _ w' (SlEv.keep0 HE.out (hm1.trans0 hm'));obtain⟨lg,hlg⟩:∃b,longH L KK=b:=⟨_,rfl⟩;rw[hlg]at hlong
 have HLG:=hid hlg;generalize hb4:w.heap.size=b4 at*;clear hlg hB1 hs1;go_upto_region 1 with(fail)
 go_cut [39] (fun s wx=>SwsPass w1 L KK marks l S s wx)
 case first=>
  cases lg with
  |true=>
   refine wpR [1,1,3,3,3,3,3,3,3,1,3,3,3,3,3,3] ?_;simp only[stz];refine wpXA 68 b4 0 #[.int .i64 wd,lv,kv] hcH underlying68 3 rfl trivial ?_;try simp only[nmz]
   refine wpD (wpCM func39 (hlong) fun w4 hm4=>?_);simp only[stz];refine zO rfl trivial ?_;simp only[stz];go_wp2
   go_meet
   case rel=>exact⟨hm4,.inl rfl⟩
  |false=>
   by_cases h60:marks.length<=60
   rotate_left
   ·
    refine wpR [1,1,3,3,3,3,3,3,3,1,3,3,3,3,3,3] ?_;simp only[stz];refine wpXA 68 b4 0 #[.int .i64 wd,lv,kv] hcH underlying68 3 rfl trivial ?_;try simp only[nmz]
    refine wpD (wpCM func39 (hlong) fun w4 hm4=>?_);simp only[stz];refine wpPL ?_;simp only[nmz]
    refine qK _ _ _ _ _ _ _ _ rfl rfl rfl rfl rfl true (decide_eq_true (by omega)) ?_;simp only[stz];refine zO rfl trivial ?_;simp only[stz];go_wp2
    go_meet
    case rel=>exact⟨hm4,.inl rfl⟩
   ·
    refine wpR [1,1,3,3,3,3,3,3,3,1,0,3,3,3,3,3] ?_;simp only[stz];refine wpXA 68 b4 0 #[.int .i64 wd,lv,kv] hcH underlying68 3 rfl trivial ?_;try simp only[nmz]
    refine wpD (wpCM func39 (hlong) fun w4 hm4=>?_);simp only[stz];refine wpPL ?_;simp only[nmz]
    refine qK _ _ _ _ _ _ _ _ rfl rfl rfl rfl rfl false (decide_eq_false (by omega)) ?_;simp only[stz];refine wpD (wpC func41 (hlev _ hm4) ?_);rintro e w6 ⟨t,rfl,hm6,hsm⟩
    refine⟨_,rfl,?_⟩;try simp only[nmz]
    by_cases g34:t=true
    ·have h34:Hid (decide (t=true)=true):=decide_eq_true g34;clear g34
     refine qG rfl (fun w' hS=>exec_pickB _ _ _ false t true (by rfl) (by rfl) (by rfl) h34.out) ?_;simp only[stz];go_wp2
     go_meet
     case rel=>
      refine⟨hm4.trans0 hm6,?_⟩
      first
       |exact .inl rfl
       |exact Decidable.byCases (p:=S.length<=20) (fun h20=>.inr ⟨congrArg Value.bool (decide_eq_false (by omega)),HLG.out,h60,hsm (by cases t<;>first|rfl|exact absurd rfl (of_decide_eq_false h34.out)),h20⟩) (fun h20=>.inl (congrArg Value.bool (decide_eq_true (by omega))))
    ·have h34:Hid (decide (t=true)=false):=decide_eq_false g34;clear g34
     refine qG rfl (fun w' hS=>exec_pickB _ _ _ false t false (by rfl) (by rfl) (by rfl) h34.out) ?_;simp only[stz];refine wpPL ?_;simp only[nmz]
     refine qK _ _ _ _ _ _ _ _ rfl rfl rfl rfl rfl _ rfl ?_;simp only[stz];go_wp2
     go_meet
     case rel=>
      refine⟨hm4.trans0 hm6,?_⟩
      first
       |exact .inl rfl
       |exact Decidable.byCases (p:=S.length<=20) (fun h20=>.inr ⟨congrArg Value.bool (decide_eq_false (by omega)),HLG.out,h60,hsm (by cases t<;>first|rfl|exact absurd rfl (of_decide_eq_false h34.out)),h20⟩) (fun h20=>.inl (congrArg Value.bool (decide_eq_true (by omega))))
 case rest=>
  rename World=>wx
  obtain⟨hmx1,rfl|⟨rfl,hlgf,h60,hsm,h20⟩⟩:=hcut
  ·clear hlong hlev
   have hmw:=hm1.trans0 hmx1;go_upto_region 2 with(fail);refine wpR [1,3] ?_;simp only[stz];refine wpD (wpCM func42 (awake_any _) fun w5 hm5=>?_);simp only[stz]
   have HF:=hid (hmw.trans0 hm5);clear hm1 hmx1 hmw hm5 hcH;go_wp2;go_ret;exact⟨rfl,HF.out⟩
  obtain⟨hL30,hL700,hK60⟩:=longH_false hlgf;have hmw:=hm1.trans0 hmx1;have hcHx:=hcH.keep hmx1 id
  have hbl:=built_any (w:=wx) hwd (yE HL.out hmw) (HKV.out.keep0 hmw) (by omega) (fun b hb=>by have:=hL700 b hb;omega) (by omega) hK2
  have hbl2:=fun w' (hm':Mod NoB wx w')=>ours27_any (w:=w') hwd (yE HL.out (hmw.trans0 hm')) (HKV.out.keep0 (hmw.trans0 hm')) (by omega) (fun b hb=>by have:=hL700 b hb;omega) (by omega) hK2
  have hcl:(rOf (widZ wd) L).length<=1000:=by have:=rOf_len (widZ wd) L;omega
  clear hlong hlev hcH hm1 hmx1;go_upto_region 3 with(fail);refine wpR [1,1,3,3,3,3,3] ?_;simp only[stz]
  refine wpXA 68 b4 0 #[.int .i64 wd,lv,kv] hcHx underlying68 3 rfl trivial ?_;try simp only[nmz]
  refine wpD (wpC func43 (hbl) ?_);rintro e wb ⟨h,hhw,hhr,hhl,⟨qb,hhq⟩,heb,Ft,hat,hFn,hmb⟩;subst heb;rw[hhq];refine⟨_,rfl,?_⟩;simp only[stz]
  refine qC rfl (fun w'=>qJ _ 0 #[.pointer (some ⟨h.bs,0,none⟩),.pointer (some ⟨qb,0,none⟩)] rfl rfl (.pointer (some ⟨h.bs,0,none⟩)) rfl) ?_
  simp only[nmz];refine qC rfl (fun w'=>qJ _ 1 #[.pointer (some ⟨h.bs,0,none⟩),.pointer (some ⟨qb,0,none⟩)] rfl rfl (.pointer (some ⟨qb,0,none⟩)) rfl) ?_
  simp only[stz];have hcHb:=hcHx.keep hmb id;have hbl3:=hbl2 wb hmb;have hFlt:=hat.lt;clear hbl hbl2 hcHx;go_upto_region 4 with(fail);refine wpR [1,1,3,3,3,3,3] ?_
  simp only[stz];refine wpXA 68 b4 0 #[.int .i64 wd,lv,kv] hcHb underlying68 3 rfl trivial ?_;try simp only[nmz]
  refine wpD (wpC func44 (hbl3) ?_);rintro e wc ⟨q8,rq,hec,F2,hds⟩;subst hec;refine⟨_,rfl,?_⟩;simp only[stz]
  refine qC rfl (fun w'=>qJ _ 0 #[ptrB q8,ptrB rq] rfl rfl (ptrB q8) rfl) ?_;simp only[nmz]
  refine qC rfl (fun w'=>qJ _ 1 #[ptrB q8,ptrB rq] rfl rfl (ptrB rq) rfl) ?_;simp only[stz];clear hbl3 hcHb;have hmc:=hds.mod;have hrc:=rOf_ref (widZ wd) L
  have hrl:=rlOf_ref (widZ wd) L KK (laysN L KK);generalize rOf (widZ wd) L=cR at*;generalize cOf (widZ wd) L=c0 at*;generalize rlOf (widZ wd) L KK (laysN L KK)=lR at*
  generalize lOf (widZ wd) L KK (laysN L KK)=l0 at*;have hatc:=hat.keep0 hmc;have hF2lt:=hds.lt;have h32R:∀p∈cR,p.1.length=32:=fun p hp=>(hds.small.1 p hp).1
  have hm0c:=(hmw.trans0 hmb).trans0 hmc;replace hds:=hds.base (hmw.trans0 hmb);have swx:=hmw.size;have sxb:=hmb.size;have sbc:=hmc.size;clear hat hmw hmb
  go_upto_region 7 with(fail);refine wpR [1,3,1,3] ?_;simp only[stz];refine wpD (xA 25 24 (by rfl) underlying25 (by kernel_rfl) (fun w2 hB2 hm2 hs2=>?_))
  simp only[stz]
  refine wpD (wp_gat idE _ _ 25 24 (.agg (qA (List.replicate 32 0))) 32 32 (by rfl) underlying25 id_i (by kernel_rfl) (by omega) idE_one wc.heap.size _ [] (by rfl) (yN _ hB2 (Nat.le_refl _)) _ marks (by rfl) (HM.out.keep0 (hm0c.trans0 hm2)).srcI (by simp only[List.length_nil];unfold maxLen;omega) (by simp only[List.length_nil];omega) hm2.size (fun v3 w3 hg3 hm3=>?_))
  have hm23:Mod NoB wc w3:=hm2.trans hm3 (fun k hk e=>by
   have e':some wc.heap.size=some k:=e
   cases e';omega)
  simp only[stz];rw[List.nil_append]at hg3;obtain⟨cad,ccap,rfl⟩:=hg3.slice;have hm32:∀x∈marks,x.length=32:=sl_mem HM.out fun _ _ h=>h.2;have hC3:=slI hg3 hm32
  have hat3:=hatc.keep0 hm23;have hds3:=hds.keep0 hm23;have hm03:=hm0c.trans0 hm23;have s23:=hm23.size
  have hCF:∀z,(wc.heap.size<=z/\z<w3.heap.size/\(Value.slice cad marks.length ccap).ownBlock=some z)->¬Ft z:=fun z hz hf=>by have:=hFlt z hf;have:=hz.1;omega
  have hsw:=swSweep_any hat3 hC3 hCF;rw[hhq]at hsw;clear hB2 hm2 hs2 hm3 hatc hds hm23 hm0c;go_upto_region 8 with(fail);refine wpR [3,3,3,1,3,3,3,1,1,3] ?_
  simp only[stz];refine wpD (wpC func53 (hsw) ?_);rintro e ws ⟨ids1,bv1,s1,F1',hid1,hrun1,hes1,hgs1,hat4,hms,hsub1,hbF1⟩;subst hes1;refine⟨_,rfl,?_⟩;simp only[stz]
  refine qC rfl (fun w'=>qJ _ 0 #[.agg (qM bv1 s1.2.2.1 s1.2.2.2),.int .i64 0] rfl rfl (.agg (qM bv1 s1.2.2.1 s1.2.2.2)) rfl) ?_;simp only[nmz]
  refine qC rfl (fun w'=>qJ _ 1 #[.agg (qM bv1 s1.2.2.1 s1.2.2.2),.int .i64 0] rfl rfl (.int .i64 0) rfl) ?_;simp only[nmz]
  refine wpD (qN 104 _ (by rfl) sweptZ (fun wt hBt hmt hst=>?_))
  replace hBt:wt.heap[ws.heap.size]?=some (.cells #[.slice none 0 0,.int .i64 0,.int .i64 0] 104 (0,0)):=hBt;try simp only[nmz]
  refine wpD (qF 104 _ _ ws.heap.size 0 (qM bv1 s1.2.2.1 s1.2.2.2) (by rfl) (by rfl) (by rfl) (by intro c hc;simp[qM]at hc;rcases hc with rfl|rfl|rfl<;>first|rfl|exact xW hgs1) 3 (by kernel_rfl) rfl _ _ hBt (by simp[qM]) (fun wu hBu hmu=>?_))
  rw[qD (by simp[qM])]at hBu;simp only[stz];have hmsu:Mod NoB ws wu:=hmt.transB hmu (Nat.le_refl _);have hat5:=hat4.keep0 hmsu
  have hdisj:∀k,F2 k->¬Ft k:=fun k h2 h1=>by have:=(hF2lt k h2).1;have:=hFlt k h1;omega
  have hds5:=(hds3.keep hms hdisj (fun k hk hf=>by have:=hFlt k hf;have:=hFn k hf;omega)).keep0 hmsu
  have hM5:=((HM.out.keep0 hm03).keep hms (fun k hk hf=>by have:=hFn k hf;omega) (fun _ _ h=>h)).keep0 hmsu;obtain rfl:=ids_one hid1 hrc.ids
  have hG9:∀k,k<b4->¬F2 k/\k<wu.heap.size:=fun k hk=>⟨fun e=>by have:=(hF2lt k e).1;omega,by have:=hmsu.size;have:=hms.size;omega⟩
  have hsw2:=r27Sweep_any hds5 hrc hrl hcl hM5 hG9;have hm0u:Mod NoB w wu:=(hm03.trans hms (fun k hk hf=>by have:=hFn k hf;omega)).trans0 hmsu
  have hC5:=(hC3.keep hms hCF (fun _ _ h=>h)).keep0 hmsu;have hg5:=hgs1.keep0 hmsu;have ssu:=hmsu.size;have s3s:=hms.size
  have hF14:¬F2 ws.heap.size:=fun e=>by have:=(hF2lt _ e).2;omega
  have hF1F2:∀k,F1' k->¬F2 k:=fun k h1 h2=>by
   rcases hsub1 k h1 with h|h
   ·exact hdisj k h2 h
   ·have:=(hF2lt k h2).2;have:=h.1;omega
  clear hsw hat3 hat4 hms hsub1 hbF1 hmt hmu hBt hst hmsu hds3 hds5 hM5 hC3 hgs1;go_upto_region 9 with(fail);refine wpR [3,3,3,1,1,1] ?_;simp only[stz]
  refine wpD (wpC func63 (hsw2) ?_);rintro e wv ⟨s2,bv2,cN,lN,F2',hrun2,hes2,hds6,hr8,hrf,hmv,hsub2,hgs2,hbF2⟩;subst hes2;refine⟨_,rfl,?_⟩;try simp only[nmz]
  refine wpD (qN 104 _ (by rfl) sweptZ (fun wy hBy hmy hsy=>?_))
  replace hBy:wy.heap[wv.heap.size]?=some (.cells #[.slice none 0 0,.int .i64 0,.int .i64 0] 104 (0,0)):=hBy;try simp only[nmz]
  refine wpD (qF 104 _ _ wv.heap.size 0 (qM bv2 s2.2.2.1 s2.2.2.2) (by rfl) (by rfl) (by rfl) (by intro c hc;simp[qM]at hc;rcases hc with rfl|rfl|rfl<;>first|rfl|exact xW hgs2) 3 (by kernel_rfl) rfl _ _ hBy (by simp[qM]) (fun wz hBz hmz=>?_))
  rw[qD (by simp[qM])]at hBz;simp only[stz];obtain rfl:s1=s2:=hrun1.symm.trans hrun2;have hmvz:Mod NoB wv wz:=hmy.transB hmz (Nat.le_refl _)
  have hm0z:Mod NoB w wz:=(hm0u.trans hmv (fun k hk hf=>by have:=(hF2lt k hf).1;omega)).trans0 hmvz;have hatz:=(hat5.keep hmv hF1F2).keep0 hmvz
  have hdsz:=hds6.keep0 hmvz;have hBz14:wz.heap[ws.heap.size]?=some (.cells (qM bv1 s1.2.2.1 s1.2.2.2) 104 (0,0)):=hmvz.obj id (hmv.obj hF14 hBu)
  have hCz:=(hC5.keep hmv (fun z hz hf=>by have:=(hF2lt z hf).2;have:=hz.1;omega) (fun _ _ h=>h)).keep0 hmvz
  have h32:∀x∈goneL (cR.map (·.1)) marks,x.length=32:=fun x hx=>by
   obtain⟨p9,hp9,rfl⟩:=List.mem_map.1 (List.mem_filter.1 hx).1;exact h32R p9 hp9
  have hX1:=slI ((hg5.keep hmv (fun z hz hf=>by have:=(hF2lt z hf).2;have:=(hg5.lt hz).1;omega)).keep0 hmvz) h32;have hX2:=slI (hgs2.keep0 hmvz) h32
  have hMz:=HM.out.keep0 hm0z;have hc14:CellsAt wz ws.heap.size 0 (qM bv1 s1.2.2.1 s1.2.2.2):=CellsAt.whole hBz14
  have hc16:CellsAt wz wv.heap.size 0 (qM bv2 s1.2.2.1 s1.2.2.2):=CellsAt.whole hBz;generalize ws.heap.size=b14 at*;generalize wv.heap.size=b16 at*
  generalize s1.2.2.1=x1 at*;generalize s1.2.2.2=x2 at*;have hss:=sameSwept_any hX1 hX2 x1 x2 x1 x2
  rw[show(decide (goneL (cR.map (·.1)) marks=goneL (cR.map (·.1)) marks)&&decide (x1=x1)&&decide (x2=x2))=true by simp]at hss
  have hsi:=fun w' (hm':Mod NoB wz w')=>yA _ _ _ _ _ _ _ _ _ (hCz.keep0 hm') (hMz.keep0 hm');rw[show decide (marks=marks)=true by simp]at hsi
  have hix:=fun w' (hm':Mod NoB wz w')=>(hatz.keep0 hm').ids;have hix2:=fun w' (hm':Mod NoB wz w')=>(hdsz.keep0 hm').ids
  have hrp1:=fun w' (hm':Mod NoB wz w')=>hsRepos (hatz.keep0 hm') hhq;have hrp2:=fun w' (hm':Mod NoB wz w')=>(hdsz.keep0 hm').repos
  clear hsw2 hat5 hds6 hmv hsub2 hgs2 hbF2 hmy hmz hBy hsy hmvz hBu hBz hBz14 hC5 hg5 hX1 hX2 hCz hMz hm0u hdisj hF1F2 hFlt hF2lt hFn;go_upto_region 10 with(fail)
  refine wpR [3,3,3,1,1,1,3,3,3,3,3,1,3,3,3,3,1,3,1,1,3,3,3,3,1,3,1,1,3,3] ?_;simp only[stz]
  refine qK _ _ _ _ _ _ _ _ rfl rfl rfl rfl rfl false rfl ?_;simp only[stz];refine wpXA 104 b14 0 (qM bv1 x1 x2) hc14 underlying104 3 rfl trivial ?_
  try simp only[nmz]
  refine wpXA 104 b16 0 (qM bv2 x1 x2) hc16 underlying104 3 rfl trivial ?_;try simp only[nmz]
  refine wpD (wpCM func54 (hss) fun wA nA=>?_);try simp only[stz]
  try refine zM _ _ _ rfl rfl rfl ?_
  try simp only[stz]
  refine wpD (wpCM func24 (hsi _ nA) fun wB nB=>?_);try simp only[stz]
  try refine zM _ _ _ rfl rfl rfl ?_
  try simp only[stz]
  refine wpD (wpC func38 (hix _ (nA.trans0 nB)) ?_);rintro e wC ⟨nC,vC,idC1,heC,hgC,hidC⟩;subst heC;refine⟨_,rfl,?_⟩;simp only[stz]
  refine wpD (wpC func64 (hix2 _ ((nA.trans0 nB).trans0 nC)) ?_);rintro e wD ⟨nD,vD,heD,hgD⟩;subst heD;obtain rfl:=ids_one hidC hr8.ids
  have h32C:∀x∈cN.map (·.1),x.length=32:=fun x hx=>by
   obtain⟨p9,hp9,rfl⟩:=List.mem_map.1 hx;exact(hdsz.small.1 p9 hp9).1
  have hsD:=yA _ _ _ _ _ _ _ _ _ (slI (hgC.keep0 nD) h32C) (slI hgD h32C);rw[decide_eq_true rfl]at hsD;refine⟨_,rfl,?_⟩;try simp only[nmz]
  refine wpD (wpC func24 (hsD) ?_);rintro e wE ⟨rfl,nE⟩;have nAE:=(((nA.trans0 nB).trans0 nC).trans0 nD).trans0 nE;refine⟨_,rfl,?_⟩;try simp only[stz]
  try refine zM _ _ _ rfl rfl rfl ?_
  try simp only[stz]
  refine wpD (wpC func66 (hrp1 _ nAE) ?_);rintro e wF ⟨vF,rfl,nF,names,hnm,hslF⟩;refine⟨_,rfl,?_⟩;simp only[stz];refine wpD (wpC func67 (hrp2 _ (nAE.trans0 nF)) ?_)
  rintro e wG ⟨vG,rfl,nG,hslG⟩;obtain rfl:=repos_one hnm hrf.repos;have hsG:=sameTexts_any _ _ _ _ _ _ _ _ _ (hslF.keep0 nG) hslG;rw[decide_eq_true rfl]at hsG
  refine⟨_,rfl,?_⟩;try simp only[nmz]
  refine wpD (wpCM func65 (hsG) fun wH nH=>?_);try simp only[stz]
  try refine zM _ _ _ rfl rfl rfl ?_
  try simp only[stz]
  have nzH:=((nAE.trans0 nF).trans0 nG).trans0 nH;have HATZ:=hid (hatz.keep0 nzH);have HDSZ:=hid (hdsz.keep0 nzH);have HM0:=hid (hm0z.trans0 nzH)
  clear hss hsi hix hix2 hrp1 hrp2 nA nB nC nD nE nF nG nH nAE nzH hgC hgD hidC hsD hsG hnm hslF hslG hatz hdsz hm0z hc14 hc16 h32C;have sL:=HM0.out.size
  have HR0:Hid (SwsRel wH (.int .i64 (0:Nat)) wH):=hid ⟨0,by omega,rfl,Mod.refl _ _⟩;go_wp2
  go_loopw [17] (SwsRel wH) (fun i _=>3-(intOf i).toNat)
  case atStart=>exact HR0.out
  case round=>
   rename World=>wr
   obtain⟨k,hk,rfl,hmr⟩:=hrel
   by_cases hlt:k<3
   ·have hz:(k:Int)<3:=by omega
    have hatr:=HATZ.out.keep0 hmr;have hdsr:=HDSZ.out.keep0 hmr;have hrp:=fun w'=>repo_any (k:Nat) ⟨by omega,by omega⟩ w';generalize repoZ (k:Nat)=rn at*
    have huse:=fun w' (hm':Mod NoB wr w')=>hsUseQ (hatr.keep0 hm') hhq rn;have huse2:=fun w' (hm':Mod NoB wr w')=>(hdsr.keep0 hm').use rn
    rw[useOf_perm hrf.perm]at huse2;have hli:=fun w' (hm':Mod NoB wr w')=>hsIDsQ (hatr.keep0 hm') hhq rn
    have hli2:=fun w' (hm':Mod NoB wr w')=>(hdsr.keep0 hm').lids rn;generalize useOf s1.2.1 rn=un at*;clear hatr hdsr;go_upto_region 15 with(fail)
    refine wpR [3,3,1,1,3,3,1,1,3,3,3,3,1,1,3,3,1,1,1,3,3] ?_;simp only[stz];refine wpD (wpCM func69 (hrp _) fun wa na=>?_);try simp only[nmz]
    refine wpD (wpC func68 (huse _ na) ?_);rintro e wb2 ⟨rfl,hw2⟩;obtain rfl:=hw2.symm;refine⟨_,rfl,?_⟩;simp only[stz];refine wpD (wpCM func69 (hrp _) fun wc2 nc=>?_)
    try simp only[nmz]
    refine wpD (wpCM func70 (huse2 _ (na.trans0 nc)) fun wd2 nd=>?_);try simp only[nmz]
    refine qK _ _ _ _ _ _ _ _ rfl rfl rfl rfl rfl false (decide_eq_false (by omega)) ?_;simp only[stz];refine wpD (wpCM func69 (hrp _) fun we2 ne=>?_);try simp only[nmz]
    refine wpD (wpC func71 (hli _ (((na.trans0 nc).trans0 nd).trans0 ne)) ?_);rintro e wf2 ⟨vf,rfl,nf,idsf,hif,hif32,hslf⟩;refine⟨_,rfl,?_⟩;simp only[stz]
    refine wpD (wpCM func69 (hrp _) fun wg2 ng=>?_);try simp only[nmz]
    refine wpD (wpC func72 (hli2 _ (((((na.trans0 nc).trans0 nd).trans0 ne).trans0 nf).trans0 ng)) ?_);rintro e wh2 ⟨vh,rfl,nh,hih32,hslh⟩
    obtain rfl:=idsOf_one hif (hrf.ids rn);have hsh:=yA _ _ _ _ _ _ _ _ _ ((hslf.keep0 ng).keep0 nh) hslh;rw[decide_eq_true rfl]at hsh;refine⟨_,rfl,?_⟩
    try simp only[nmz]
    refine wpD (wpCM func24 (hsh) fun wi2 ni=>?_);try simp only[stz]
    try refine zM _ _ _ rfl rfl rfl ?_
    try simp only[stz]
    have HQ:Hid (SwsRel wH (.int .i64 ((k+1:Nat):Int)) wi2):=hid ⟨k+1,by omega,rfl,(((((((hmr.trans0 na).trans0 nc).trans0 nd).trans0 ne).trans0 nf).trans0 ng).trans0 nh).trans0 ni⟩
    clear hmr na nc nd ne nf ng nh ni hrp huse huse2 hli hli2 hif hif32 hslf hih32 hslh hsh;go_wp2
    go_roundw
    case rel=>exact HQ.out
    case measure=>simp[intOf];omega
   ·have hz:¬(k:Int)<3:=by omega
    obtain rfl:k=3:=by omega
    have hm0r:=HM0.out.trans0 hmr;have hok:=hsm.ok;have hl20:=hsm.1;have hcp:=copyEvents_any (SlEv.keep0 HE.out hm0r) (by omega) hok;have s0r:=hm0r.size;clear hmr
    go_upto_region 17 with(fail);refine wpR [3,1,3] ?_;simp only[stz];refine wpD (wpC func46 (hcp) ?_);rintro e wa ⟨na,vc,hea,hgc⟩;subst hea;refine⟨_,rfl,?_⟩
    simp only[stz];have hcs:=hgc.slb;have hm0a:=hm0r.trans0 na;have htA:=swTombs_any hcs (fun k hk=>hk.2) (fun k hk=>hk.2) (HS.out.keep0 hm0a) (by omega) hok
    have sra:=na.size;clear hcp;go_upto_region 18 with(fail);refine wpR [3,3,1,3,3,3,3,3] ?_;simp only[stz];refine wpD (wpC func57 (htA) ?_)
    rintro e wb2 ⟨nb,kv1,dv1,heb2,hkB,hdB,-⟩;subst heb2;refine⟨_,rfl,?_⟩;simp only[stz];refine qC rfl (fun w'=>qJ _ 0 #[kv1,dv1] rfl rfl kv1 rfl) ?_
    simp only[nmz];refine qC rfl (fun w'=>qJ _ 1 #[kv1,dv1] rfl rfl dv1 rfl) ?_;simp only[stz];have hm0b:=hm0a.trans0 nb;have hkb:=hkB.slb
    have hdb:=DotGs.sl hdB;have hcsb:=SlEv.keep0 hcs nb;have htB:=r27Tombs_any (SlEv.keep0 HE.out hm0b) (HS.out.keep0 hm0b) (by omega) hok;have sab:=nb.size;clear htA hcs
    go_upto_region 19 with(fail);refine wpR [3,3,1,3,3,3,3,3] ?_;simp only[stz];refine wpD (wpC func73 (htB) ?_);rintro e wc2 ⟨nc,kv2,dv2,hec2,hkC,hdC,-⟩;subst hec2
    refine⟨_,rfl,?_⟩;simp only[stz];refine qC rfl (fun w'=>qJ _ 0 #[kv2,dv2] rfl rfl kv2 rfl) ?_;simp only[nmz]
    refine qC rfl (fun w'=>qJ _ 1 #[kv2,dv2] rfl rfl dv2 rfl) ?_;simp only[stz];have hm0d:=hm0b.trans0 nc;have hkb2:=SlEv.keep0 hkb nc
    have hdb2:=hdb.keep0 nc;have hcsd:=SlEv.keep0 hcsb nc;have hs1:=sameEvents_eq _ _ _ _ _ _ _ _ _ _ hkb2 hkC.slb
    have hs2:=fun w' (hm':Mod NoB wc2 w')=>sameDots_any _ _ _ _ _ _ _ _ _ (hdb2.keep0 hm') ((DotGs.sl hdC).keep0 hm')
    rw[show decide (goneE S l=goneE S l)=true by simp]at hs2;clear htB hkb hdb hcsb;go_upto_region 20 with(fail);refine wpR [3,3,1,3,3,3,1,3,3] ?_;simp only[stz]
    refine wpD (wpCM func52 (hs1) fun wd2 nd=>?_);simp only[stz];refine wpD (wpCM func58 (hs2 _ nd) fun we2 ne=>?_);simp only[stz];have hm0e:=(hm0d.trans0 nd).trans0 ne
    have hke:=SlEv.keep0 (SlEv.keep0 hkb2 nd) ne;have hce:=SlEv.keep0 (SlEv.keep0 hcsd nd) ne
    have hov:=overEvents_any _ _ _ _ (hke.shape (S:=fun k=>wa.heap.size<=k/\k<wb2.heap.size) (fun _ h=>h) (fun cs e h=>evS_of (fun _ h=>h) cs e h))
    clear hs1 hs2 hkb2 hdb2 hcsd;go_upto_region 21 with(fail);refine wpR [3,1] ?_;simp only[stz];refine wpD (wpCM func74 (hov) fun wf2 nf=>?_);simp only[stz]
    have hmF:=nf.mod
    have hcf:=hce.keep hmF (fun k hk hS=>by have:=hk.2;have:=hS.1;omega) (fun cs e he=>he.keep hmF (fun k hk hS=>by have:=hk.2;have:=hS.1;omega))
    have hlow:∀k,k<w.heap.size->¬(wa.heap.size<=k/\k<wb2.heap.size):=fun k hk hS=>by have:=hS.1;omega
    have hEf:Sl false wf2 (fun k=>k<w.heap.size) 39 (EvR false wf2 (fun k=>k<w.heap.size)) (.slice ead l.length ecap) l:=(SlEv.keep0 HE.out hm0e).keep hmF hlow (fun cs e he=>he.keep hmF hlow)
    have hm0f:Mod NoB w wf2:=hm0e.trans hmF (fun k hk hS=>by have:=hS.1;omega);have hs3:=sameEvents_eq _ _ _ _ _ _ _ _ _ _ hcf hEf;clear hov hke hce
    go_upto_region 22 with(fail);refine wpR [3,3,3,3,1,3,3,1,3,3] ?_;simp only[stz];refine wpD (wpCM func52 (hs3) fun wg2 ng=>?_);simp only[stz]
    refine wpD (wpCM func42 (awake_any _) fun wh2 nh=>?_);simp only[stz];have HF:=hid ((hm0f.trans0 ng).trans0 nh);clear hs3 hcf hEf ng nh nf hmF;go_wp2;go_ret
    exact⟨rfl,HF.out⟩
theorem sweepSweeps_any(W:World)(a:HsX)(mv:Value)(marks:List (List UInt8))(ev:Value)(l:List Evt)(sv:Value)(S:List Int)(ha:HsIn W a)(hm:Sl false W (fun k=>k<W.heap.size) 32 IdC mv marks)(hl:EvsIn W ev l)(hs:Sl false W AnyB 1 IntF sv S):
 Calls prog 13 #[.agg #[.int .i64 a.wd,a.lv,a.kv],mv,ev,sv] W (RetM (.bool true) W):=
 sweepSweeps_walk ha.1 ha.2.1 (ha.2.2.mono (fun _ h=>h) (fun _ _ h=>h.1)) (sl_mem ha.2.2 fun _ _ h=>h.2) hm hl (hs.mono (fun _ h=>h) (fun _ _ h=>h.1))
end
end Go.Proofs.YtjeonjoifjbohaaGreat
