/- What the statement SweepMarks needs, part 8. -/
import Derived.WalkKit
import Derived.ProofKit
import Derived.OpenShut
import Derived.ChangeStays
import Derived.ChangeBook
import Derived.ChangeSlices
import Derived.Test.YtjeonjoifjbohaaGreatSweepMarksP7
set_option linter.unusedVariables false
set_option linter.unusedSimpArgs false
set_option linter.unnecessarySimpa false
set_option linter.unusedSectionVars false
set_option maxRecDepth 10000
set_option maxHeartbeats 8000000
namespace Go.Proofs.YtjeonjoifjbohaaGreat
variable{own':Bool}{wd:Int}{KK:List Int}{cs:List Value}{L U roots:List iK}{a depth f fuel k most mx n:Nat}{P:Program}{s:RS}{t:TypeId}{ev kv lv rv v vv:Value}{b:iK}{E G:iM}{W W' w w' w1 w2:iN}
section
open Go.RowKit Go.Proofs.Tryz Go.Lib
def beN(n k j:Nat):iK:=(List.range j).map fun t=>UInt8.ofNat (n/256^(k-1-t))
theorem beN_succ(n k j:Nat):beN n k (j+1)=beN n k j++[UInt8.ofNat (n/256^(k-1-j))]:=by
 unfold beN;rw[List.range_succ,List.map_append]
 rfl
theorem beN_len(n k j:Nat):(beN n k j).length=j:=by simp[beN]
def formN(n:Nat):iK:=if n<192 then [UInt8.ofNat n]else UInt8.ofNat (191+szK n 1)::beN n (szK n 1) (szK n 1)
theorem szK_ge(n:Nat):∀(j k:Nat),k<=8->8-k=j->k<=szK n k:=fun j=>by
 induction j with
 |zero=>intro k h1 h2;rw[sS (by omega)];omega
 |succ j ih=>
  intro k h1 h2
  by_cases h:k<8/\0<n/256^k
  ·rw[szK_step h];have:=ih (k+1) (by omega) (by omega);omega
  ·rw[sS h];omega
theorem aT{o:Oper}{a:Act}(t u:TypeId)(x:Operand)(m:Nat)(ho:o.op=.convert t u x)(hx:a.eval x=.int .i64 (m:Int))(ht:(P.underlying t).isSome=true)(hu:P.underlying u=some (.int .u8)):
 (execOp a.eval o).run P w=.ok (.value (qW (UInt8.ofNat m))) w:=by
 have hv:IntKind.u8.wrap (m:Int)=((UInt8.ofNat m).toNat:Int):=by
  rw[IntKind.wrap_u8]
  simp
 unfold execOp;simp only[ho,hx];have hk:P.intKind u=.u8:=by simp[Program.intKind,hu]
 have h1:=run_convert_int (P:=P) w t u .i64 m ht (by rw[hk];exact hu);rw[hk]at h1;rw[Sem.run_bind,h1,hv]
 rfl
def RFormR(w:iN)(xs:iK):iJ:=fun e w'=>Mod qJ w w'/\∃v,e=.returned v/\Bts w.heap.size w' v xs
def FormRel1(n:Nat)(w0:iN)(i:Value)(w:iN):Prop:=∃k:Nat,1<=k/\k<=8/\i=.int .i64 k/\szK n 1=szK n k/\w=w0
def FormRel2(c0:UInt8)(n r:Nat)(w0:iN)(v i:Value)(w:iN):Prop:=∃j:Nat,j<=r/\i=.int .i64 ((r:Int)-1-j)/\Mod qJ w0 w/\Bts w0.heap.size w v (c0::beN n r j)
theorem rrForm_any(n:Nat)(hn:n<9223372036854775808)(w:iN):Calls prog 294 #[.int .i64 n] w (RFormR w (formN n)):=by
 have hsz:=fun(w:iN)(o:Oper)(a:Act)=> @exec_shrI prog w o a
 by_cases h:n<192
 ·have hs:formN n=[UInt8.ofNat n]:=if_pos h
  have hz:(n:Int)<192:=by omega
  rw[hs];go_enter func294,ntmps294;go_upto_region 2 with(fail);refine qL [3,3,1,3] ?_;simp only[qB]
  refine qM (v:=qW (UInt8.ofNat n)) rfl (fun w'=>aT _ _ _ n rfl rfl (by kernel_rfl) underlying5) ?_;simp only[qC]
  refine qK (kK 53 (qW (UInt8.ofNat n)) (.int .u8 0) 1 (by rfl) (fun w1 hB1 hm1 hs1=>?_))
  replace hB1:w1.heap[w.heap.size]?=some (.cells #[qW (UInt8.ofNat n)] 5 (0,0)):=hB1;simp only[qB];go_wp2;go_ret;exact⟨hm1,_,rfl,rT hB1⟩
 ·have hs:formN n=UInt8.ofNat (191+szK n 1)::beN n (szK n 1) (szK n 1):=if_neg h
  have hz:¬(n:Int)<192:=by omega
  have hr1:=szK_ge n 7 1 (by omega) (by omega);have hr8:=szK_le n 7 1 (by omega) (by omega);rw[hs];obtain⟨r,hr⟩:∃r,szK n 1=r:=⟨_,rfl⟩;have HR:=O hr
  rw[hr]at hr1 hr8 |-;obtain⟨c0,hc0⟩:∃c,UInt8.ofNat (191+r)=c:=⟨_,rfl⟩;rw[hc0];have HC:=O hc0;clear hr hs h hc0;go_enter func294,ntmps294
  go_upto_region 3 with(fail);go_wp2
  go_loopw [3] (fun i wr=>FormRel1 n w i wr) (fun i _=>8-(intOf i).toNat)
  case atStart=>exact⟨1,by omega,by omega,rfl,rfl,rfl⟩
  case round=>
   rename iN=>wr
   obtain⟨k,hk1,hk8,rfl,hsk,rfl⟩:=hrel;rw[HR.out]at hsk;have HSK:=O hsk;clear hsk;go_upto_region 4 with(fail)
   go_cut [19] (fun s wx=>wx=wr/\(s=.bool true/\k<8/\0<n/256^k\/s=.bool false/\r=k))
   case first=>
    by_cases hlt:k<8
    ·have hp:2^(8*k)=256^k:=pow8 k
     have hm8:(8:Int)*(k:Int)=((8*k:Nat):Int):=by omega
     by_cases hg:0<n/256^k
     ·
      refine qL [3,3,3,3,3,3,3,3,3] ?_;simp only[qB];refine qN _ _ _ _ _ _ _ _ rfl rfl rfl rfl rfl true (by simp[vW];omega) ?_;simp only[qB]
      refine yT _ _ _ _ 8 (k:Int) ((8*k:Nat):Int) rfl rfl rfl rfl hm8 (by omega) (by omega) ?_;simp only[qC]
      refine qM rfl (fun w'=>hsz w' _ _ _ _ _ _ n (8*k) rfl rfl rfl (by omega) hn) ?_;simp only[qC]
      refine qN _ _ _ _ _ _ _ _ rfl rfl rfl rfl rfl true (by simp only[vW,decide_eq_true_eq];rw[hp];exact Int.natCast_pos.2 hg) ?_;simp only[qB];go_wp2
      go_meet
      case rel=>exact⟨rfl,.inl ⟨rfl,hlt,hg⟩⟩
     ·have hz0:n/256^k=0:=Nat.eq_zero_of_not_pos hg
      refine qL [3,3,3,3,3,3,3,3,3] ?_;simp only[qB];refine qN _ _ _ _ _ _ _ _ rfl rfl rfl rfl rfl true (by simp[vW];omega) ?_;simp only[qB]
      refine yT _ _ _ _ 8 (k:Int) ((8*k:Nat):Int) rfl rfl rfl rfl hm8 (by omega) (by omega) ?_;simp only[qC]
      refine qM rfl (fun w'=>hsz w' _ _ _ _ _ _ n (8*k) rfl rfl rfl (by omega) hn) ?_;simp only[qC]
      refine qN _ _ _ _ _ _ _ _ rfl rfl rfl rfl rfl false (by simp only[vW,decide_eq_false_iff_not];rw[hp,hz0];simp) ?_;simp only[qB];go_wp2
      go_meet
      case rel=>exact⟨rfl,.inr ⟨rfl,HSK.out.trans (sS (by omega))⟩⟩
    ·
     refine qL [3,3,3,3,3,3,3,3,3] ?_;simp only[qB];refine qN _ _ _ _ _ _ _ _ rfl rfl rfl rfl rfl false (by simp[vW];omega) ?_;simp only[qB];go_wp2
     go_meet
     case rel=>exact⟨rfl,.inr ⟨rfl,HSK.out.trans (sS (by omega))⟩⟩
   case rest=>
    rename iN=>wx
    obtain⟨hwx,⟨rfl,hlt,hg⟩|⟨rfl,hrk⟩⟩:=hcut
    ·obtain rfl:=hwx.symm
     go_wp2
     go_roundw
     case rel=>exact⟨k+1,by omega,by omega,by go_num,by rw[HR.out,<-szK_step ⟨hlt,hg⟩];exact HSK.out,rfl⟩
     case measure=>simp[intOf];omega
    ·obtain rfl:=hwx.symm
     obtain rfl:=hrk;clear HSK;go_upto_region 6 with(fail);refine qL [3,3,3,1,3] ?_;simp only[qB];refine jH ((191+r:Nat):Int) ?_;simp only[qC]
     refine qM (v:=qW c0) rfl (fun w'=>by rw[<-HC.out];exact aT _ _ _ (191+r) rfl rfl (by kernel_rfl) underlying5) ?_;simp only[qC]
     refine qK (kK 53 (qW (c0)) (.int .u8 0) 1 (by rfl) (fun w1 hB1 hm1 hs1=>?_));replace hB1:w1.heap[wr.heap.size]?=some (.cells #[qW (c0)] 5 (0,0)):=hB1
     simp only[qB]
     have HR0:Hid (FormRel2 c0 n r wr (.slice (some ⟨wr.heap.size,0,none⟩) 1 1) (.int .i64 ((r:Int)-1)) w1):=O ⟨0,by omega,by simp,hm1,rT hB1⟩
     clear hB1 hm1 hs1;go_wp2
     go_loopw [4,5] (fun v i wz=>FormRel2 c0 n r wr v i wz) (fun _ i _=>(intOf i+1).toNat)
     case atStart=>exact HR0.out
     case round=>
      rename iN=>wr2
      obtain⟨j,hj,rfl,hm,hv⟩:=hrel
      by_cases hlt:j<r
      ·have hz2:(r:Int)-1-(j:Int)>=0:=by omega
       obtain⟨i,hi⟩:∃i:Nat,i=r-1-j:=⟨_,rfl⟩;have hie:(r:Int)-1-(j:Int)=(i:Int):=by omega
       have hp:2^(8*i)=256^i:=pow8 i;have hm8:(8:Int)*(i:Int)=((8*i:Nat):Int):=by omega
       have hz3:(i:Int)>=0:=by omega
       have hi7:i<=7:=by omega
       rw[hie];have HI:=O hi;have HIE:=O hie;clear hi hie hz2;go_upto_region 10 with(fail);refine qL [3,3,3,3,3,3,1,1,3] ?_;simp only[qB]
       refine yT _ _ _ _ 8 (i:Int) ((8*i:Nat):Int) rfl rfl rfl rfl hm8 (by omega) (by omega) ?_;simp only[qC]
       refine qM rfl (fun w'=>hsz w' _ _ _ _ _ _ n (8*i) rfl rfl rfl (by omega) hn) ?_;simp only[qC]
       refine qM (v:=qW (UInt8.ofNat (n/256^i))) rfl (fun w'=>by rw[<-hp];exact aT _ _ _ (n/2^(8*i)) rfl rfl (by kernel_rfl) underlying5) ?_
       simp only[qC];refine qK (kK 53 (qW (UInt8.ofNat (n/256^i))) (.int .u8 0) 1 (by rfl) (fun w3 hB3 hm3 hs3=>?_))
       replace hB3:w3.heap[wr2.heap.size]?=some (.cells #[qW (UInt8.ofNat (n/256^i))] 5 (0,0)):=hB3;have hv3:=Bts.keep hv hm3 (fun _ _=>id);try simp only[qC]
       refine qK (kX _ _ (by rfl) wr.heap.size _ _ (by rfl) hv3 (.slice (some ⟨wr2.heap.size,0,none⟩) 1 1) [UInt8.ofNat (n/256^i)] (by rfl) (uO (rT hB3)) (by simp[beN_len];omega) (by have:=hm.size;omega) (fun v4 w4 ho4 hm4=>?_))
       simp only[qB]
       have HQ:Hid (FormRel2 c0 n r wr v4 (.int .i64 ((i:Int)-1)) w4):=O ⟨j+1,by omega,by have:=HIE.out;congr 1;omega,(hm.trans0 hm3).trans hm4 (fun k hk e=>by have:=(Bts.lt hv3 e).1;omega),by rw[beN_succ,<-HI.out];exact ho4⟩
       clear hm hv hm3 hB3 hs3 hv3 ho4 hm4 hp hm8;go_wp2
       go_roundw
       case rel=>exact HQ.out
       case measure=>simp[intOf]
      ·obtain rfl:j=r:=by omega
       have hz2:¬(j:Int)-1-(j:Int)>=0:=by omega
       have HF:Hid (RFormR wr (c0::beN n j j) (.returned _) wr2):=O ⟨hm,_,rfl,hv⟩;clear hm hv;go_wp2;go_ret;exact HF.out
theorem be_fold(y:iK):∀n:Nat,y.foldl (fun n x=>n*256+x.toNat) n=n*256^y.length+be y:=by
 induction y with
 |nil=>intro n;simp[be]
 |cons z y ih=>
  intro n;have h1:=ih (n*256+z.toNat);have h2:=ih (0*256+z.toNat);have h3:be (z::y)=y.foldl (fun n x=>n*256+x.toNat) (0*256+z.toNat):=rfl
  rw[List.foldl_cons,h1,h3,h2,List.length_cons,Nat.pow_succ];simp only[Nat.add_mul,Nat.zero_mul,Nat.zero_add];rw[Nat.mul_assoc,Nat.mul_comm 256];omega
theorem be_append(x y:iK):be (x++y)=be x*256^y.length+be y:=by
 unfold be;rw[List.foldl_append];exact be_fold y _
theorem beN_be(l:iK):beN (be l) l.length l.length=l:=by
 refine List.ext_getElem (by rw[beN_len]) fun t h1 h2=>?_;have hg:(beN (be l) l.length l.length)[t]=UInt8.ofNat (be l/256^(l.length-1-t)):=by simp[beN]
 rw[hg]
 have e:be l=be (l.take (t+1))*256^(l.length-1-t)+be (l.drop (t+1)):=by
  have:=be_append (l.take (t+1)) (l.drop (t+1));rw[List.take_append_drop,List.length_drop,show l.length-(t+1)=l.length-1-t by omega]at this;exact this
 have hlt:=be_lt (l.drop (t+1));rw[List.length_drop,show l.length-(t+1)=l.length-1-t by omega]at hlt
 have hp:0<256^(l.length-1-t):=Nat.pow_pos (by omega)
 have hd:be l/256^(l.length-1-t)=be (l.take (t+1)):=by
  rw[e,Nat.add_comm,Nat.add_mul_div_right _ _ hp,Nat.div_eq_of_lt hlt,Nat.zero_add]
 rw[hd,dM h2]
 apply UInt8.toNat_inj.1
 have:=(l[t]).toNat_lt;simp only[UInt8.toNat_ofNat'];omega
theorem formN_iff{l:iK}{c:UInt8}(hk:l.length=k)(hk1:1<=k)(hk8:k<=8)(hc:c.toNat=191+k)(h192:¬be l<192):formN (be l)=c::l↔bH (be l)=k:=by
 have h1:formN (be l)=UInt8.ofNat (191+szK (be l) 1)::beN (be l) (szK (be l) 1) (szK (be l) 1):=if_neg h192;have h2:bH (be l)=szK (be l) 1:=if_neg h192
 have h8:=szK_le (be l) 7 1 (by omega) (by omega);rw[h1,h2]
 constructor
 ·intro h
  injection h with h3 _;have h4:=congrArg UInt8.toNat h3;simp only[UInt8.toNat_ofNat']at h4;omega
 ·intro h
  rw[h,show UInt8.ofNat (191+k)=c from UInt8.toNat_inj.1 (by simp only[UInt8.toNat_ofNat'];omega)]
  congr 1
  have:=beN_be l;rw[hk]at this;exact this
def RNumR(w:iN)(rb:Nat)(bv:Value)(b:iK)(n:Nat)(s:RS):iJ:=fun x w'=>x=.returned (.int .i64 n)/\RrS w w' rb bv b s
def RNumRel(w0:iN)(l:iK)(s i:Value)(w:iN):Prop:=∃k:Nat,k<=l.length/\i=.int .i64 ((k+1:Nat):Int)/\s=.int .u64 (be (l.take k):Nat)/\Mod qJ w0 w
section
variable{w:iN}{rb:Nat}{bv:Value}{b:iK}{a:Nat}{e p:Int}
theorem fO(h:RrI w rb bv b a e p):Calls prog 248 #[iO rb] w (RNumR w rb bv b (zM b (yW a e)).1 (zM b (yW a e)).2):=by
 have H:=O h;have hal:=h.al;have hln:=h.len;obtain⟨ad,cap,rfl,hcap,hat⟩:=Sl.at h.sl
 by_cases he:e=0
 rotate_left
 ·rw[uC he]
  have hce:=h.cell.2.2.1;have hca:=h.cell.2.1;clear h hat;go_enter func248,ntmps248;go_upto_region 1 with(fail);refine qL [3,3,3,1,3] ?_;simp only[qB]
  refine qG 3 hca ?_;simp only[qB];go_upto_region 2 with(fail);refine qL [3,3,3,3,1,3] ?_;simp only[qB];refine qG 33 hce ?_;try simp only[qC]
  refine xD he ?_;simp only[qB];have HF:=O H.out.stay;rw[uC he]at HF;go_wp2;go_ret;exact⟨rfl,HF.out⟩
 subst he;obtain⟨n,s,hns⟩:∃n s,zM b (some a)=(n,s):=⟨_,_,rfl⟩;have HE:Hid ((zM b (some a)).1=n):=O (by rw[hns])
 have HE2:Hid ((zM b (some a)).2=s):=O (by rw[hns]);rw[sE,HE.out,HE2.out];have hce:=h.cell.2.2.1;have hca:=h.cell.2.1;have hcb:=h.cell.1;clear hns h
 have HM:Hid (Mod qJ w w):=O (Mod.refl _ _);go_enter func248,ntmps248;go_upto_region 1 with(fail);refine qL [3,3,3,1,3] ?_;simp only[qB];refine qG 3 hca ?_
 simp only[qB];go_upto_region 2 with(fail);refine qL [3,3,3,3,1,3] ?_;simp only[qB];refine qG 33 hce ?_;try simp only[qC]
 refine aE (b:=false) rfl ?_;simp only[qB]
 rcases Nat.lt_or_ge a b.length with hlt|hge
 rotate_left
 · -- nothing is left
   have hz:(a:Int)>=(b.length:Nat):=by omega
   have hbn:b[a]?=none:=List.getElem?_eq_none hge;have hr0:zM b (some a)=(0,none):=by simp[zM,rdNum,hbn]
   replace HE:Hid (n=0):=O (by rw[<-HE.out,hr0]);replace HE2:Hid (s=none):=O (by rw[<-HE2.out,hr0]);clear hr0;clear hbn;go_upto_region 4 with(fail)
   refine qL [3,3,3,3,1,3,3] ?_;simp only[qB];refine qG 53 hcb ?_;try simp only[qC]
   refine xF ?_;simp only[qC];refine qN _ _ _ _ _ _ _ _ rfl rfl rfl rfl rfl true (decide_eq_true (by omega)) ?_;simp only[qB];go_upto_region 5 with(fail)
   refine qL [3,3,1] ?_;simp only[qB];refine qK (pL func293 (uL (er:=6) H.out (by decide) a) fun wf hrf=>?_);simp only[qB];have HF:=O hrf;clear hrf
   go_wp2;go_ret;exact⟨by rw[HE.out];rfl,by rw[HE2.out];exact RrS.pre HM.out HF.out⟩
 obtain⟨c,hc⟩:∃c,b[a]=c:=⟨_,rfl⟩;have hbs:b[a]?=some c:=by rw[List.getElem?_eq_getElem hlt,hc]
 have hz:¬(a:Int)>=(b.length:Nat):=by omega
 obtain⟨k,hk⟩:∃k,c.toNat-191=k:=⟨_,rfl⟩;have hct:=c.toNat_lt
 have hrd:zM b (some a)=(match(if 199<c.toNat then none else if b.length-a-1<k then none else if k=0 then some (c.toNat,a+1)else if be ((b.drop (a+1)).take k)>=9223372036854775808\/bH (be ((b.drop (a+1)).take k))≠k then none else some (be ((b.drop (a+1)).take k),a+1+k):Option (Nat×Nat))with|none=>(0,none)|some q=>(q.1,some q.2)):=by
  simp only[zM,rdNum,hbs,hk]
  generalize (if 199<c.toNat then none else if b.length-a-1<k then none else if k=0 then some (c.toNat,a+1)else if be ((b.drop (a+1)).take k)>=9223372036854775808\/bH (be ((b.drop (a+1)).take k))≠k then none else some (be ((b.drop (a+1)).take k),a+1+k):Option (Nat×Nat))=q
  cases q<;>rfl
 have HAB:=O hat;obtain⟨bk,off,rfl,-,-,hcells⟩:=hat a hlt;obtain⟨cs,hcs,hcR,hcA⟩:=hcells a hlt;rw[hc]at hcR;obtain rfl:cs=#[qW c]:=hcR
 have hcell:=CellsAt.one.1 hcA;have HRD:=O hrd;clear hrd hcells hat hcA hcs hbs;go_upto_region 4 with(fail);refine qL [3,3,3,3,1,3,3] ?_;simp only[qB]
 refine qG 53 hcb ?_;try simp only[qC]
 refine xF ?_;simp only[qC];refine qN _ _ _ _ _ _ _ _ rfl rfl rfl rfl rfl false (decide_eq_false (by omega)) ?_;simp only[qB];go_upto_region 7 with(fail)
 refine qL [3,3,3,1,3,3,1,3,3] ?_;simp only[qB];refine qG 53 hcb ?_;simp only[qB];refine zC 53 1 hlt ?_;simp only[qC];refine qG 5 hcell ?_
 try simp only[qC]
 refine qM rfl (fun w'=>dB _ _ _ c rfl rfl (by kernel_rfl) underlying3) ?_;simp only[qB];clear hcell
 by_cases h192:c.toNat<192
 ·have h192z:((c.toNat:Nat):Int)<192:=by omega
  have hr0:zM b (some a)=(c.toNat,some (a+1)):=by rw[HRD.out,if_neg (by omega),if_neg (by omega),if_pos (by omega)]
  replace HE:Hid (n=c.toNat):=O (by rw[<-HE.out,hr0]);replace HE2:Hid (s=some (a+1)):=O (by rw[<-HE2.out,hr0]);have hbox:=H.out.box;clear hr0
  go_upto_region 10 with(fail);refine qL [3,3,3,1,3,3,3,1] ?_;simp only[qB];refine qG 3 hca ?_;try simp only[qC]
  refine jH ((a+1:Nat):Int) ?_;simp only[qB];refine qK (zR 3 1 (.int .i64 ((a+1:Nat):Int)) hbox (fun w3 hB3 hm3=>?_) (hoff:=by simp))
  have HT:Hid (RrS w w3 rb (.slice (some ⟨bk,off,none⟩) b.length cap) b (some (a+1))):=O (H.out.on hm3 (by omega) hB3);simp only[qB];clear hbox hca hB3 hm3;go_wp2
  go_ret;exact⟨by rw[HE.out];rfl,by rw[HE2.out];exact HT.out⟩
 have h192z:¬((c.toNat:Nat):Int)<192:=by omega
 have hke:((c.toNat:Nat):Int)-191=(k:Int):=by omega
 by_cases h199:199<c.toNat
 ·have h199z:((c.toNat:Nat):Int)>199:=by omega
  have hr0:zM b (some a)=(0,none):=by rw[HRD.out,if_pos h199]
  replace HE:Hid (n=0):=O (by rw[<-HE.out,hr0]);replace HE2:Hid (s=none):=O (by rw[<-HE2.out,hr0]);clear hr0;go_upto_region 13 with(fail)
  refine qL [3,3,1] ?_;simp only[qB];refine qK (pL func293 (uL (er:=5) H.out (by decide) a) fun wf hrf=>?_);simp only[qB];have HF:=O hrf;clear hrf
  go_wp2;go_ret;exact⟨by rw[HE.out];rfl,by rw[HE2.out];exact RrS.pre HM.out HF.out⟩
 have h199z:¬((c.toNat:Nat):Int)>199:=by omega
 have hr1:=HRD.out;rw[if_neg h199]at hr1;replace HRD:=O hr1;clear hr1
 by_cases hsh:b.length-a-1<k
 ·
  have hr0:zM b (some a)=(0,none):=by rw[HRD.out,if_pos hsh]
  replace HE:Hid (n=0):=O (by rw[<-HE.out,hr0]);replace HE2:Hid (s=none):=O (by rw[<-HE2.out,hr0]);clear hr0;go_upto_region 15 with(fail)
  refine qL [3,3,3,1,3,3,3,3,3,3,3] ?_;simp only[qB];refine qG 53 hcb ?_;try simp only[qC]
  refine xF ?_;simp only[qB];refine yC _ _ _ _ ((b.length:Nat):Int) (a:Int) rfl rfl rfl rfl (by omega) (by omega) ?_;simp only[qC]
  refine yC _ _ _ _ ((b.length:Int)-(a:Int)) 1 rfl rfl rfl rfl (by omega) (by omega) ?_;simp only[qB]
  refine qN _ _ _ _ _ _ _ _ rfl rfl rfl rfl rfl true (decide_eq_true (by omega)) ?_;simp only[qB];go_upto_region 16 with(fail);refine qL [3,3,1] ?_;simp only[qB]
  refine qK (pL func293 (uL (er:=6) H.out (by decide) a) fun wf hrf=>?_);simp only[qB];have HF:=O hrf;clear hrf;go_wp2;go_ret
  exact⟨by rw[HE.out];rfl,by rw[HE2.out];exact RrS.pre HM.out HF.out⟩
 have hr1:=HRD.out;rw[if_neg hsh,if_neg (by omega)]at hr1;replace HRD:=O hr1;clear hr1;have hk8:k<=8:=by omega
 have hk1:1<=k:=by omega
 obtain⟨l,hl⟩:∃l,(b.drop (a+1)).take k=l:=⟨_,rfl⟩;have hll:l.length=k:=by rw[<-hl,List.length_take,List.length_drop];omega
 have hcl:(b.drop a).take (k+1)=c::l:=by
  rw[<-hl,List.drop_eq_getElem_cons hlt,hc]
  rfl
 have hget:∀j (hj:j<l.length),l[j]=b[a+(j+1)]'(by omega):=fun j hj=>by
  subst hl;rw[List.getElem_take,List.getElem_drop]
  congr 1
  omega
 have HL:=O hl;have HCL:=O hcl;have HGET:=O hget;clear hl hcl hget;go_upto_region 15 with(fail);refine qL [3,3,3,1,3,3,3,3,3,3,3] ?_;simp only[qB]
 refine qG 53 hcb ?_;try simp only[qC]
 refine xF ?_;simp only[qB];refine yC _ _ _ _ ((b.length:Nat):Int) (a:Int) rfl rfl rfl rfl (by omega) (by omega) ?_;simp only[qC]
 refine yC _ _ _ _ ((b.length:Int)-(a:Int)) 1 rfl rfl rfl rfl (by omega) (by omega) ?_;simp only[qB]
 refine qN _ _ _ _ _ _ _ _ rfl rfl rfl rfl rfl false (decide_eq_false (by omega)) ?_;simp only[qB]
 have HR0:Hid (RNumRel w l (.int .u64 (0:Nat)) (.int .i64 1) w):=O ⟨0,Nat.zero_le _,rfl,by simp[be],Mod.refl _ _⟩;go_wp2
 go_loopw [6,7] (fun sv iv wx=>RNumRel w l sv iv wx) (fun _ i _=>l.length+1-(intOf i).toNat)
 case atStart=>exact HR0.out
 case round=>
  rename iN=>wr
  obtain⟨j,hj,rfl,rfl,hmr⟩:=hrel;have Hr:=O (H.out.keep0 hmr);have hcbr:=Hr.out.cell.1
  by_cases hjl:j<l.length
  ·have hjz:((j+1:Nat):Int)<=(k:Int):=by omega
   have hjz2:((j+1:Nat):Int)<=((c.toNat:Nat):Int)-191:=by omega
   have hil:a+(j+1)<b.length:=by omega
   obtain⟨b2,off2,hb2,-,-,hcc⟩:=HAB.out (a+(j+1)) hil
   cases hb2
   obtain⟨cs,-,hcR,hcA⟩:=hcc _ hil;rw[<-HGET.out j hjl]at hcR;obtain rfl:cs=#[qW l[j]]:=hcR;have hcr:=hmr.cell id (CellsAt.one.1 hcA)
   have hnx:=dM hjl;have hbt:=be_take_lt l j (by omega);generalize l[j]=x at*;have hxt:=x.toNat_lt;obtain⟨q,hq⟩:∃q,be (l.take j)=q:=⟨_,rfl⟩
   rw[hq]at hnx hbt |-;have hor:=be_or q x;have HNX:=O hnx;clear hnx hq hcA hcc;go_upto_region 22 with(fail);refine qL [3,3,3,3,3,1,3,3,3,3,1,3,3,3] ?_
   simp only[qB];refine qM rfl (fun w'=>exec_shl64 _ _ _ _ q _ 8 (q*2^8) rfl rfl rfl (by omega) rfl (by omega)) ?_;simp only[qB];refine qG 53 hcbr ?_
   simp only[qB];refine jH ((a+(j+1):Nat):Int) ?_;simp only[qC];refine zC 53 1 hil ?_;simp only[qC];refine qG 5 hcr ?_;try simp only[qC]
   refine qM rfl (fun w'=>cZ _ _ _ x rfl rfl (by kernel_rfl) underlying300) ?_;simp only[qC]
   refine qM rfl (fun w'=>exec_or64 _ _ _ _ (q*2^8) x.toNat (q*256+x.toNat) rfl rfl rfl (by omega) (by omega) hor) ?_;simp only[qB];clear hcr hor hcbr;go_wp2
   go_roundw
   case rel=>exact⟨j+1,by omega,by go_num,by rw[HNX.out],hmr⟩
   case measure=>simp[intOf];omega
  ·obtain rfl:j=l.length:=by omega
   have hjz:¬((l.length+1:Nat):Int)<=(k:Int):=by omega
   have hjz2:¬((l.length+1:Nat):Int)<=((c.toNat:Nat):Int)-191:=by omega
   have hfull:l.take l.length=l:=List.take_length;rw[hfull];have hbl:=be_lt l;have hb8:256^l.length<=256^8:=Nat.pow_le_pow_right (by omega) (by omega)
   have h256:(256:Nat)^8=18446744073709551616:=by decide
   have hr1:=HRD.out;rw[HL.out]at hr1;have hfi:=fun h=>formN_iff (l:=l) (c:=c) (k:=k) hll hk1 hk8 (by omega) h;obtain⟨q,hq⟩:∃q,be l=q:=⟨_,rfl⟩
   rw[hq]at hr1 hbl hfi |-;have hqb:q<18446744073709551616:=by omega
   have HR1:=O hr1;have HFI:=O hfi;replace HM:Hid (Mod qJ w wr):=O (HM.out.trans0 hmr);clear hr1 hbl hb8 h256 hq hfull hfi;go_upto_region 23 with(fail)
   have hS:Mod qJ wr wr.drew:=(Mod.refl _ _).drew
   by_cases hbig:9223372036854775808<=q
   ·
    have hr0:zM b (some a)=(0,none):=by rw[HR1.out,if_pos (.inl hbig)]
    replace HE:Hid (n=0):=O (by rw[<-HE.out,hr0]);replace HE2:Hid (s=none):=O (by rw[<-HE2.out,hr0]);clear hr0
    refine cH [(0,3),(1,3),(2,3),(3,3),(4,3),(5,3),(6,3),(7,3),(8,3),(11,3),(12,3),(13,3),(14,0),(15,3),(16,3),(17,3),(18,3),(19,3),(20,3),(21,3),(9,1),(10,3),(22,3),(23,3)] [] (fun w'=>Mod qJ wr w') hS ?_
    simp only[qB];refine qN _ _ _ _ _ _ _ _ rfl rfl rfl rfl rfl true (decide_eq_true (by omega)) ?_;simp only[qB];refine xN rfl hS ?_;simp only[qB]
    have H5:=O (Hr.out.keep0 hS);replace HM:Hid (Mod qJ w wr.drew):=O (HM.out.trans0 hS);clear hS;generalize wr.drew=w5 at*;go_upto_region 24 with(fail)
    refine qL [3,3,1] ?_;simp only[qB];refine qK (pL func293 (uL (er:=5) H5.out (by decide) a) fun wf hrf=>?_);simp only[qB];have HF:=O hrf;clear hrf
    go_wp2;go_ret;exact⟨by rw[HE.out];rfl,by rw[HE2.out];exact RrS.pre HM.out HF.out⟩
   by_cases hsmall:q<192
   ·
    have hr0:zM b (some a)=(0,none):=by rw[HR1.out,if_pos (.inr (by unfold bH;rw[if_pos hsmall];omega))]
    replace HE:Hid (n=0):=O (by rw[<-HE.out,hr0]);replace HE2:Hid (s=none):=O (by rw[<-HE2.out,hr0]);clear hr0
    refine cH [(0,3),(1,3),(2,3),(3,3),(4,3),(5,3),(6,3),(7,3),(8,3),(11,3),(12,3),(13,3),(14,0),(15,3),(16,3),(17,3),(18,3),(19,3),(20,3),(21,3),(9,1),(10,3),(22,3),(23,3)] [] (fun w'=>Mod qJ wr w') hS ?_
    simp only[qB];refine qN _ _ _ _ _ _ _ _ rfl rfl rfl rfl rfl false (decide_eq_false (by omega)) ?_;simp only[qB]
    refine qN _ _ _ _ _ _ _ _ rfl rfl rfl rfl rfl true (decide_eq_true (by omega)) ?_;simp only[qB];refine xN rfl hS ?_;simp only[qB]
    have H5:=O (Hr.out.keep0 hS);replace HM:Hid (Mod qJ w wr.drew):=O (HM.out.trans0 hS);clear hS;generalize wr.drew=w5 at*;go_upto_region 24 with(fail)
    refine qL [3,3,1] ?_;simp only[qB];refine qK (pL func293 (uL (er:=5) H5.out (by decide) a) fun wf hrf=>?_);simp only[qB];have HF:=O hrf;clear hrf
    go_wp2;go_ret;exact⟨by rw[HE.out];rfl,by rw[HE2.out];exact RrS.pre HM.out HF.out⟩
   have hfi:=HFI.out hsmall;have hfo:=fun w'=>rrForm_any q (by omega) w';have hsl:=(Hr.out.sl).midLe a (a+1+k) (by omega) (by omega)
   rw[show a+1+k-a=k+1 by omega,HCL.out]at hsl
   have hcap1:a+1+k<=cap:=by
    obtain⟨ad',cap',hq',hle,-⟩:=H.out.sl
    cases hq'
    omega
   obtain⟨fl,hfl⟩:∃fl,formN q=fl:=⟨_,rfl⟩;rw[hfl]at hfi;simp only[hfl]at hfo
   obtain⟨df,hdf⟩:∃df,decide ((⟨fl.toArray⟩:ByteArray)≠⟨(c::l).toArray⟩)=df:=⟨_,rfl⟩
   have hdf2:df= !decide (bH q=k):=by
    rw[<-hdf,<-decide_not];exact decide_eq_decide.2 (not_congr (bytes_inj.trans hfi))
   obtain⟨sv,hsv⟩:∃sv,sliced (some ⟨bk,off,none⟩) a (a+1+k) cap 1=sv:=⟨_,rfl⟩;rw[hsv]at hsl;have HSV:=O hsv;have HDF:=O hdf;clear hsv hdf hfi hfl
   refine cH [(0,3),(1,3),(2,3),(3,3),(4,3),(5,3),(6,3),(7,3),(8,3),(11,3),(12,3),(13,3),(14,0),(15,3),(16,3),(17,3),(18,3),(19,3),(20,3),(21,0),(9,1),(10,1),(22,0),(23,3)] [] (fun w'=>Mod qJ wr w') hS ?_
   simp only[qB];refine qN _ _ _ _ _ _ _ _ rfl rfl rfl rfl rfl false (decide_eq_false (by omega)) ?_;simp only[qB]
   refine qN _ _ _ _ _ _ _ _ rfl rfl rfl rfl rfl false (decide_eq_false (by omega)) ?_;simp only[qB]
   refine qM rfl (fun w'=>uQ _ _ _ q rfl rfl (by kernel_rfl) underlying3 (by omega)) ?_;simp only[qB];refine qE 53 (fun w' hS=>hS.cell id hcbr) ?_
   simp only[qB];refine jH ((a+1:Nat):Int) ?_;simp only[qB];refine jH ((a+1+k:Nat):Int) ?_;simp only[qC]
   refine rL 53 5 _ _ _ _ _ _ a (a+1+k) 1 rfl rfl rfl rfl rfl underlying53 (by kernel_rfl) (by omega) hcap1 ?_;simp only[qC]
   refine qV rfl (fun w' hS=>yD 53 5 9 _ (by rfl) sv (by rw[<-HSV.out];rfl) (hsl.keep0 hS) underlying53 underlying5 underlying9) ?_;simp only[qC]
   refine qH rfl (fun K hK=>?_);refine xE func294 (hfo _) ?_;rintro e w5 ⟨hm5,v5,he5,hv5⟩;subst he5;replace hS:=hS.trans0 hm5;refine⟨_,rfl,hK _ _ hS ?_⟩;clear hK K
   try simp only[qC]
   refine cF rfl (yD 53 5 9 _ (by rfl) v5 (by rfl) (Bts.sl hv5) underlying53 underlying5 underlying9) hS ?_;try simp only[qC]
   refine qV rfl (fun w' hS=>tJ 9 _ _ _ (by rfl) ⟨fl.toArray⟩ ⟨(c::l).toArray⟩ (by rfl) (by rfl) df HDF.out) ?_;simp only[qB]
   have H5:=O (Hr.out.keep0 hS);replace HM:Hid (Mod qJ w w5):=O (HM.out.trans0 hS);clear hS hm5 hv5 hsl
   by_cases hsk:bH q=k
   ·rw[decide_eq_true hsk]at hdf2
    subst hdf2;have hr0:zM b (some a)=(q,some (a+1+k)):=by rw[HR1.out,if_neg (by omega)]
    replace HE:Hid (n=q):=O (by rw[<-HE.out,hr0]);replace HE2:Hid (s=some (a+1+k)):=O (by rw[<-HE2.out,hr0]);have hbox:=H5.out.box;clear hr0 HR1
    go_upto_region 26 with(fail);refine qL [3,3,3,3,3,3,3,1] ?_;simp only[qB];refine jH ((a+1:Nat):Int) ?_;simp only[qB]
    refine jH ((a+1+k:Nat):Int) ?_;simp only[qB];refine qK (zR 3 1 (.int .i64 ((a+1+k:Nat):Int)) hbox (fun w6 hB6 hm6=>?_) (hoff:=by simp))
    have HT:Hid (RrS w5 w6 rb (.slice (some ⟨bk,off,none⟩) b.length cap) b (some (a+1+k))):=O (H5.out.on hm6 (by omega) hB6);simp only[qB]
    go_upto_region 27 with(fail);refine qL [3,3,3] ?_;simp only[qB];refine qM rfl (fun w'=>uQ _ _ _ q rfl rfl (by kernel_rfl) underlying3 (by omega)) ?_
    simp only[qB];clear hbox hB6 hm6;go_wp2;go_ret;exact⟨by rw[HE.out];rfl,by rw[HE2.out];exact RrS.pre HM.out HT.out⟩
   ·rw[decide_eq_false hsk]at hdf2
    subst hdf2;have hr0:zM b (some a)=(0,none):=by rw[HR1.out,if_pos (.inr hsk)]
    replace HE:Hid (n=0):=O (by rw[<-HE.out,hr0]);replace HE2:Hid (s=none):=O (by rw[<-HE2.out,hr0]);clear hr0;go_upto_region 24 with(fail)
    refine qL [3,3,1] ?_;simp only[qB];refine qK (pL func293 (uL (er:=5) H5.out (by decide) a) fun wf hrf=>?_);simp only[qB];have HF:=O hrf;clear hrf
    go_wp2;go_ret;exact⟨by rw[HE.out];rfl,by rw[HE2.out];exact RrS.pre HM.out HF.out⟩
end
def RTakeR(w:iN)(rb:Nat)(bv:Value)(b x:iK)(s:RS):iJ:=fun e w'=>RrS w w' rb bv b s/\∃v,e=.returned v/\Bts w.heap.size w' v x
theorem rBytesL_bad(h:(zM b s).2=none):yK b most s=([],none):=by
 have e:(pC b most s).2=none:=by
  unfold pC
  split
  ·rfl
  ·exact h
 unfold yK;rw[e]
 rfl
theorem rBytesL_long(h:most<(zM b s).1):yK b most s=([],none):=by
 unfold yK pC;rw[if_pos h]
 rfl
theorem rBytesL_on(h:¬most<(zM b s).1):yK b most s=vF b (zM b s).1 (zM b s).2:=by
 unfold yK pC;rw[if_neg h]
section
variable{w:iN}{rb:Nat}{bv:Value}{b:iK}{a:Nat}{e p:Int}
theorem rrBytes_any(h:RrI w rb bv b a e p)(most:Nat):Calls prog 295 #[iO rb,.int .i64 most] w (RTakeR w rb bv b (yK b most (yW a e)).1 (yK b most (yW a e)).2):=by
 have hnum:=fO h;have hca:=h.cell.2.1;have hln:=h.len;have hwb:∀k,k=rb\/bv.ownBlock=some k->k<w.heap.size:=h.all
 have hbad:=rBytesL_bad (b:=b) (most:=most) (s:=yW a e);have hlong:=rBytesL_long (b:=b) (most:=most) (s:=yW a e)
 have hon:=rBytesL_on (b:=b) (most:=most) (s:=yW a e);obtain⟨n,hne⟩:∃n,(zM b (yW a e)).1=n:=⟨_,rfl⟩
 obtain⟨s,hse⟩:∃s,(zM b (yW a e)).2=s:=⟨_,rfl⟩;rw[hne]at hnum hlong hon;rw[hse]at hnum hbad hon;generalize yK b most (yW a e)=R at*
 have HB:=O hbad;have HLG:=O hlong;have HON:=O hon;clear h hne hse hbad hlong hon;go_enter func295,ntmps295;go_upto_region 1 with(fail)
 refine qL [3,3,3,1,3] ?_;simp only[qB];refine qG 3 hca ?_;simp only[qB];go_upto_region 2 with(fail);refine qL [3,1,3] ?_;simp only[qB]
 refine qK (xE func248 (hnum) ?_);rintro e2 w2 ⟨rfl,hr2⟩;refine⟨_,rfl,?_⟩;simp only[qB];obtain⟨⟨a2,e2,p2,hi2,hs2⟩,hm2⟩:=hr2;have hce:=hi2.cell.2.2.1
 have H2:=O hi2;have HM2:Hid (Mod (fun k=>k=rb) w w2):=O hm2
 by_cases he2:e2=0
 rotate_left
 ·rw[uC he2]at hs2
  have HF:Hid (R=([],none)):=O (HB.out hs2.symm);have HR:Hid (RrS w w2 rb bv b none):=O ⟨⟨a2,e2,p2,hi2,uC he2⟩,hm2⟩;clear hi2 hm2 hs2 hnum
  go_upto_region 3 with(fail);refine qL [3,3,3,3,1,3,3] ?_;simp only[qB];refine qG 33 hce ?_;try simp only[qC]
  refine xD he2 ?_;simp only[qB];go_wp2;go_ret;exact⟨by rw[HF.out];exact HR.out,_,rfl,by rw[HF.out];exact bts_nil _ _⟩
 subst he2;rw[sE]at hs2;subst hs2;clear hnum hm2;go_upto_region 3 with(fail);refine qL [3,3,3,3,1,3,3] ?_;simp only[qB];refine qG 33 hce ?_;try simp only[qC]
 refine aE (b:=false) rfl ?_;simp only[qB]
 by_cases hlg:most<n
 ·have hlz:(n:Int)>(most:Int):=by omega
  have HF:Hid (R=([],none)):=O (HLG.out hlg);clear hi2;go_upto_region 6 with(fail);refine qL [3,3,1] ?_;simp only[qB]
  refine qK (xE func293 (uL (er:=4) H2.out (by decide) a) ?_);rintro e3 w3 ⟨rfl,hr3⟩;refine⟨_,rfl,?_⟩;simp only[qB]
  have HR:Hid (RrS w w3 rb bv b none):=O ⟨hr3.1,HM2.out.trans hr3.2 (fun _ _ h=>h)⟩;clear hr3;go_wp2;go_ret
  exact⟨by rw[HF.out];exact HR.out,_,rfl,by rw[HF.out];exact bts_nil _ _⟩
 have hlz:¬(n:Int)>(most:Int):=by omega
 have hR:=HON.out hlg;have hal:=hi2.al;obtain⟨ad,cap,rfl,hcap,-⟩:=Sl.at hi2.sl;have hcb2:=hi2.cell.1;have hca2:=hi2.cell.2.1;have hsl2:=hi2.sl
 have hlc:b.length<=cap:=by
  obtain⟨ad',cap',hq',hle,-⟩:=hi2.sl
  cases hq'
  exact hle
 clear hi2;go_upto_region 8 with(fail);have hS:Mod qJ w2 w2.drew:=(Mod.refl _ _).drew
 by_cases hsh:b.length-a2<n
 ·have HF:Hid (R=([],none)):=O (by rw[hR];unfold vF;simp only;rw[if_pos hsh])
  clear hR;refine zZ [3,3,3,3,0,3,3,3,3,0,3,3,3] [] (fun w'=>Mod qJ w2 w') hS ?_;simp only[qB];refine qE 53 (fun w' hS=>hS.cell id hcb2) ?_;simp only[qC]
  refine xF ?_;simp only[qB];refine qE 3 (fun w' hS=>hS.cell id hca2) ?_;simp only[qC]
  refine yC _ _ _ _ ((b.length:Nat):Int) (a2:Int) rfl rfl rfl rfl (by omega) (by omega) ?_;simp only[qC]
  refine qN _ _ _ _ _ _ _ _ rfl rfl rfl rfl rfl true (decide_eq_true (by omega)) ?_;simp only[qB];have H3:=O (H2.out.keep0 hS)
  have HM3:=O (HM2.out.trans hS (fun _ _ h=>h.elim));clear hS;generalize w2.drew=w3 at*;go_upto_region 9 with(fail);refine qL [3,3,1] ?_;simp only[qB]
  refine qK (xE func293 (uL (er:=6) H3.out (by decide) a) ?_);rintro e3 w4 ⟨rfl,hr4⟩;refine⟨_,rfl,?_⟩;simp only[qB]
  have HR:Hid (RrS w w4 rb (.slice ad b.length cap) b none):=O ⟨hr4.1,HM3.out.trans hr4.2 (fun _ _ h=>h)⟩;clear hr4;go_wp2;go_ret
  exact⟨by rw[HF.out];exact HR.out,_,rfl,by rw[HF.out];exact bts_nil _ _⟩
 have HF:Hid (R=((b.drop a2).take n,some (a2+n))):=O (by rw[hR];unfold vF;simp only;rw[if_neg hsh]);clear hR
 refine zZ [3,3,3,3,0,3,3,3,3,0,3,3,3] [] (fun w'=>Mod qJ w2 w') hS ?_;simp only[qB];refine qE 53 (fun w' hS=>hS.cell id hcb2) ?_;simp only[qC]
 refine xF ?_;simp only[qB];refine qE 3 (fun w' hS=>hS.cell id hca2) ?_;simp only[qC]
 refine yC _ _ _ _ ((b.length:Nat):Int) (a2:Int) rfl rfl rfl rfl (by omega) (by omega) ?_;simp only[qC]
 refine qN _ _ _ _ _ _ _ _ rfl rfl rfl rfl rfl false (decide_eq_false (by omega)) ?_;simp only[qB];have H3:=O (H2.out.keep0 hS)
 have HM3:=O (HM2.out.trans hS (fun _ _ h=>h.elim));have hcb3:=hS.cell id hcb2;have hca3:=hS.cell id hca2
 have hsl3:=(hsl2.keep0 hS).midLe a2 (a2+n) (by omega) (by omega);rw[show a2+n-a2=n by omega]at hsl3
 have hxl:((b.drop a2).take n).length=n:=by rw[List.length_take,List.length_drop];omega
 obtain⟨x,hx⟩:∃x,(b.drop a2).take n=x:=⟨_,rfl⟩;rw[hx]at HF hsl3 hxl;obtain⟨sv,hsv⟩:∃sv,sliced ad a2 (a2+n) cap 1=sv:=⟨_,rfl⟩;rw[hsv]at hsl3
 have HSV:=O hsv;have s32:=HM3.out.size;clear hS hx hsv hcb2 hca2 hsl2;generalize w2.drew=w3 at*;go_upto_region 11 with(fail)
 have hS:Mod qJ w3 w3.drew:=(Mod.refl _ _).drew
 refine cH [(1,3),(2,3),(3,3),(4,0),(5,3),(6,3),(7,3),(8,0),(9,3),(10,3),(11,3),(12,0),(13,3),(14,3),(15,3),(0,1),(16,1),(17,3)] [] (fun w'=>Mod qJ w3 w') hS ?_
 simp only[qB];refine qE 53 (fun w' hS=>hS.cell id hcb3) ?_;simp only[qB];refine qE 3 (fun w' hS=>hS.cell id hca3) ?_;simp only[qB]
 refine qE 3 (fun w' hS=>hS.cell id hca3) ?_;simp only[qB];refine jH ((a2+n:Nat):Int) ?_;simp only[qC]
 refine rL 53 5 _ _ _ _ _ _ a2 (a2+n) 1 rfl rfl rfl rfl rfl underlying53 (by kernel_rfl) (by omega) (by omega) ?_;simp only[qC];refine qH rfl (fun K hK=>?_)
 refine zU 53 5 (by rfl) underlying53 (by kernel_rfl) (fun w4 hB4 hm4 hs4=>?_);replace hS:=hS.trans0 hm4;refine hK _ _ hS ?_;clear hK K;try simp only[qC]
 refine qH rfl (fun K hK=>?_)
 refine kX _ _ (by rfl) w3.heap.size _ [] (by rfl) (yI _ hB4 (Nat.le_refl _)) sv x (by rw[<-HSV.out];rfl) (hsl3.keep0 hS).bsrc (by simp;omega) hS.size (fun v5 w5 ho5 hm5=>?_)
 rw[List.nil_append]at ho5
 have hT5:Mod qJ w3 w5:=hS.trans hm5 (fun k hk e=>by
  have e':some w3.heap.size=some k:=e
  cases e';omega)
 refine hK _ _ hT5 ?_;clear hK K;simp only[qB];rw[HSV.out];have H5:=O (H3.out.keep0 hT5);have hca5:=hT5.cell id hca3;have hbox:=H5.out.box;have s35:=hT5.size
 have HM5:=O (HM3.out.trans hT5 (fun _ _ h=>h.elim));have HV5:=O ho5;have hrbw:rb<w3.heap.size:=by have:=hwb rb (.inl rfl);have:=HM3.out.size;omega
 clear hS hT5 hm5 ho5 hB4 hm4 hs4 hcb3 hca3 hsl3;go_upto_region 12 with(fail);refine qL [3,3,3,3,1,3,3,3,3,1] ?_;simp only[qB];refine qG 3 hca5 ?_;simp only[qB]
 refine jH ((a2+n:Nat):Int) ?_;simp only[qB];refine qK (zR 3 1 (.int .i64 ((a2+n:Nat):Int)) hbox (fun w6 hB6 hm6=>?_) (hoff:=by simp))
 have HT:Hid (RrS w5 w6 rb (.slice ad b.length cap) b (some (a2+n))):=O (H5.out.on hm6 (by omega) hB6)
 have HV6:=O (Bts.keep HV5.out hm6 (fun k hk e=>by have e:k=rb:=e;have:=(Bts.lt HV5.out hk).1;omega));simp only[qB]
 have HR:Hid (RrS w w6 rb (.slice ad b.length cap) b (some (a2+n))):=O ⟨HT.out.1,HM5.out.trans HT.out.2 (fun _ _ h=>h)⟩
 have HVF:Hid (Bts w.heap.size w6 v5 x):=O (uT HV6.out s32);clear hbox hca5 hB6 hm6;go_wp2;go_ret
 exact⟨by rw[HF.out];exact HR.out,_,rfl,by rw[HF.out];exact HVF.out⟩
def RTextR(w:iN)(rb:Nat)(bv:Value)(b x:iK)(s:RS):iJ:=fun e w'=>RrS w w' rb bv b s/\e=.returned (.string ⟨x.toArray⟩)
theorem rrText_any(h:RrI w rb bv b a e p)(most:Nat):Calls prog 249 #[iO rb,.int .i64 most] w (RTextR w rb bv b (yK b most (yW a e)).1 (yK b most (yW a e)).2):=by
 have hb:=rrBytes_any h most;clear h;go_enter func249,ntmps249;go_upto_region 1 with(fail);refine qL [3,3,1,1,3] ?_;simp only[qB];refine qK (xE func295 (hb) ?_)
 rintro e w2 ⟨hr2,v,rfl,hv⟩;have HR2:=O hr2;have HV:=O hv;clear hr2 hv;refine⟨_,rfl,?_⟩;try simp only[qC]
 refine cF rfl (yD 53 5 9 _ (by rfl) v (by rfl) (Bts.sl HV.out) underlying53 underlying5 underlying9) trivial ?_;simp only[qB];go_wp2;go_ret
 exact⟨HR2.out,rfl⟩
end
def RIDR(w:iN)(rb:Nat)(bv:Value)(b x:iK)(s:RS):iJ:=fun e w'=>RrS w w' rb bv b s/\e=.returned (.agg (qA x))
def IdRow(b:iK)(a j:Nat)(cur:iL):Prop:=cur.size=32/\∀t (h:a+t<b.length),t<j->cur[t]?=some (qW b[a+t])
def RIDRel(w0:iN)(ob:Nat)(b:iK)(a:Nat)(i:Value)(w:iN):Prop:=∃j:Nat,j<=32/\i=.int .i64 j/\∃cur,w.heap[ob]?=some (.cells cur 24 (0,0))/\IdRow b a j cur/\Mod (fun k=>k=ob) w0 w
theorem idRow_full{cur:iL}(h:IdRow b a 32 cur)(hl:a+32<=b.length):cur=qA ((b.drop a).take 32):=by
 have h32:((b.drop a).take 32).length=32:=by rw[List.length_take,List.length_drop];omega
 refine Array.ext_getElem? fun t=>?_
 by_cases ht:t<32
 ·rw[h.2 t (by omega) ht]
  unfold qA;rw[List.getElem?_toArray,List.getElem?_map,List.getElem?_eq_getElem (by omega),List.getElem_take,List.getElem_drop]
  rfl
 ·rw[Array.getElem?_eq_none (by rw[h.1];omega),Array.getElem?_eq_none (by rw[qD,h32];omega)]
theorem rIDL_bad:dO b none=(zeros32,none):=rfl
theorem rIDL_short(h:b.length-a<32):dO b (some a)=(zeros32,none):=by
 unfold dO vF;simp only[if_pos h,if_true]
theorem rIDL_on(h:¬b.length-a<32):dO b (some a)=((b.drop a).take 32,some (a+32)):=by
 have h32:((b.drop a).take 32).length=32:=by rw[List.length_take,List.length_drop];omega
 unfold dO vF;simp only[if_neg h];rw[if_neg (by intro e;rw[e]at h32;simp at h32)]
section
variable{w:iN}{rb:Nat}{bv:Value}{b:iK}{a:Nat}{e p:Int}
theorem rrID_any(h:RrI w rb bv b a e p):Calls prog 296 #[iO rb] w (RIDR w rb bv b (dO b (yW a e)).1 (dO b (yW a e)).2):=by
 have H:=O h;have hal:=h.al;have hln:=h.len;have hrb:=h.all rb (.inl rfl);have hbl:∀k,bv.ownBlock=some k->k<w.heap.size:=fun k hk=>h.all k (.inr hk)
 have hz32:(qA (List.replicate 32 0)).size=32:=rX;obtain⟨R,hR⟩:∃R,dO b (yW a e)=R:=⟨_,rfl⟩;have HRR:=O hR;rw[hR];clear h hR
 go_enter func296,ntmps296;go_upto_region 0 with(fail);refine qL [1] ?_;simp only[qB];refine qK (zB eC (fun w1 hB1 hm1 hs1=>?_));simp only[qB]
 go_upto_region 1 with(fail);refine qL [1] ?_;simp only[qB];refine qK (zB eC (fun w2 hB2 hm2 hs2=>?_));simp only[qB];have hm02:=hm1.trans0 hm2
 have hB12:=hm2.obj id hB1;have H2:=O (H.out.keep0 hm02);have hce:=H2.out.cell.2.2.1;have s1:w.heap.size<w1.heap.size:=hs1
 have s2:w1.heap.size<w2.heap.size:=hs2;generalize hb2:w.heap.size=b2 at*;generalize hb3:w1.heap.size=b3 at*;have HM02:=O hm02;clear hm1 hm2 hB1 hm02 hs1 hs2
 by_cases he:e=0
 rotate_left
 ·have HE:Hid (R=(zeros32,none)):=O (by rw[<-HRR.out,uC he,rIDL_bad])
  go_upto_region 2 with(fail);refine qL [3,3,3,3,1,3,3] ?_;simp only[qB];refine qG 33 hce ?_;try simp only[qC]
  refine xD he ?_;simp only[qB];go_upto_region 3 with(fail);refine qL [0,1] ?_;simp only[qB];refine yV built_id0 ?_;simp only[qC]
  refine qK (qT 24 (qA (List.replicate 32 0)) (qQ _) 32 hz32 hB12 (fun w3 hB3 hm3=>?_) (hoff:=rfl));simp only[qB]
  have HT:Hid (RrS w w3 rb bv b none):=O ⟨⟨a,e,p,H2.out.keep hm3 (fun e=>by have e:rb=b2:=e;omega) (fun k hk e=>by have e:k=b2:=e;have:=hbl k hk;omega),uC he⟩,(HM02.out.transB hm3 (by omega)).mono (fun _ _ h=>h.elim)⟩
  clear hm3;go_wp2;refine bodyPost_ret (results_cell_row (P:=prog) (ty:=24) rfl _ _ b2 _ _ _ _ (by rfl) hB3 underlying24 rfl (by rw[hz32];kernel_rfl)) rfl ?_
  exact⟨by rw[HE.out];exact HT.out,by rw[HE.out];rfl⟩
 subst he;have hR0:dO b (some a)=R:=HRR.out;obtain⟨ad,cap,hbv,hcap,hat⟩:=Sl.at H2.out.sl;subst hbv;have hcb:=H2.out.cell.1;have hca:=H2.out.cell.2.1
 go_upto_region 2 with(fail);refine qL [3,3,3,3,1,3,3] ?_;simp only[qB];refine qG 33 hce ?_;try simp only[qC]
 refine aE (b:=false) rfl ?_;simp only[qB];go_upto_region 4 with(fail);have hS:Mod qJ w2 w2.drew:=(Mod.refl _ _).drew
 by_cases hsh:b.length-a<32
 ·have HE:Hid (R=(zeros32,none)):=O (by rw[<-hR0,rIDL_short hsh])
  clear hR0;refine zZ [3,3,3,0,3,3,3,3,0,3,3,3] [] (fun w'=>Mod qJ w2 w') hS ?_;simp only[qB];refine qE 53 (fun w' hS=>hS.cell id hcb) ?_;simp only[qC]
  refine xF ?_;simp only[qB];refine qE 3 (fun w' hS=>hS.cell id hca) ?_;simp only[qC]
  refine yC _ _ _ _ ((b.length:Nat):Int) (a:Int) rfl rfl rfl rfl (by omega) (by omega) ?_;simp only[qC]
  refine qN _ _ _ _ _ _ _ _ rfl rfl rfl rfl rfl true (decide_eq_true (by omega)) ?_;simp only[qB];have H3:=O (H2.out.keep0 hS);have hB3:=hS.obj id hB12
  have hca3:=hS.cell id hca;have HM3:=O (HM02.out.trans0 hS);clear hS hat hcb hca hce;generalize w2.drew=w3 at*;go_upto_region 5 with(fail)
  refine qL [3,3,3,3,1,1] ?_;simp only[qB];refine qG 3 hca3 ?_;try simp only[qC]
  refine qK (xE func293 (uL (er:=6) H3.out (by decide) a) ?_);rintro e4 w4 ⟨rfl,hr4⟩;refine⟨_,rfl,?_⟩;simp only[qB];have HR4:=O hr4
  have hB4:=hr4.2.obj (fun e=>by have e:b2=rb:=e;omega) hB3;clear hr4;go_upto_region 6 with(fail);refine qL [0,1] ?_;simp only[qB];refine yV built_id0 ?_
  simp only[qC];refine qK (qT 24 (qA (List.replicate 32 0)) (qQ _) 32 hz32 hB4 (fun w5 hB5 hm5=>?_) (hoff:=rfl));simp only[qB]
  have HT:Hid (RrS w w5 rb (.slice ad b.length cap) b none):=O (by
   obtain⟨⟨a4,e4,p4,hi4,hs4⟩,hm4⟩:=HR4.out
   exact⟨⟨a4,e4,p4,hi4.keep hm5 (fun e=>by have e:rb=b2:=e;omega) (fun k hk e=>by have e:k=b2:=e;have:=hbl k hk;omega),hs4⟩,((HM3.out.mono (fun _ _ h=>h.elim)).trans hm4 (fun _ _ h=>h)).trans hm5 (fun k hk e=>by have e:k=b2:=e;omega)⟩)
  clear hm5 hB4 hB3;go_wp2;refine bodyPost_ret (results_cell_row (P:=prog) (ty:=24) rfl _ _ b2 _ _ _ _ (by rfl) hB5 underlying24 rfl (by rw[hz32];kernel_rfl)) rfl ?_
  exact⟨by rw[HE.out];exact HT.out,by rw[HE.out];rfl⟩
 have HE:Hid (R=((b.drop a).take 32,some (a+32))):=O (by rw[<-hR0,rIDL_on hsh]);clear hR0
 have hx32:((b.drop a).take 32).length=32:=by rw[List.length_take,List.length_drop];omega
 refine zZ [3,3,3,0,3,3,3,3,0,3,3,3] [] (fun w'=>Mod qJ w2 w') hS ?_;simp only[qB];refine qE 53 (fun w' hS=>hS.cell id hcb) ?_;simp only[qC];refine xF ?_
 simp only[qB];refine qE 3 (fun w' hS=>hS.cell id hca) ?_;simp only[qC];refine yC _ _ _ _ ((b.length:Nat):Int) (a:Int) rfl rfl rfl rfl (by omega) (by omega) ?_
 simp only[qC];refine qN _ _ _ _ _ _ _ _ rfl rfl rfl rfl rfl false (decide_eq_false (by omega)) ?_;simp only[qB];have H3:=O (H2.out.keep0 hS)
 have hB32:=hS.obj id hB12;have hB33:=hS.obj id hB2;have HM3:=O (HM02.out.trans0 hS);have s3:=hS.size;have HAT:=O hat;have HSD:=O hS;clear hS hcb hca hce hat
 generalize w2.drew=w3 at*;have HX:=O hx32;have hb3r:¬rb=b3:=by omega
 have HR0:Hid (RIDRel w3 b3 b a (.int .i64 (0:Nat)) w3):=O ⟨0,by omega,rfl,_,hB33,⟨hz32,fun t _ h=>by omega⟩,Mod.refl _ _⟩;clear hB33 hx32;go_wp2
 go_loopw [4] (RIDRel w3 b3 b a) (fun i _=>32-(intOf i).toNat)
 case atStart=>exact HR0.out
 case round=>
  rename iN=>wr
  obtain⟨j,hj,rfl,cur,hBr,hrow,hmr⟩:=hrel;have Hr:=O (H3.out.keep hmr (fun e=>hb3r e) (fun k hk e=>by have e:k=b3:=e;have:=hbl k hk;omega))
  have hcbr:=Hr.out.cell.1;have hcar:=Hr.out.cell.2.1
  by_cases hlt:j<32
  ·have hz:(j:Int)<32:=by omega
   have hil:a+j<b.length:=by omega
   obtain⟨bk,off,rfl,hown,-,hcc⟩:=HAT.out (a+j) hil;obtain⟨cs,-,hcR,hcA⟩:=hcc _ hil;obtain rfl:cs=#[qW b[a+j]]:=hcR
   have hcr:=hmr.cell (fun e=>by have e:bk=b3:=e;have:=hbl bk hown;omega) (HSD.out.cell id (CellsAt.one.1 hcA));have hcs:=hrow.1;have HROW:=O hrow
   obtain⟨x,hx⟩:∃x,b[a+j]=x:=⟨_,rfl⟩;rw[hx]at hcr;have HXX:=O hx;clear hcc hcA hown hrow hx;go_upto_region 10 with(fail)
   have hS:Mod qJ wr wr.drew:=(Mod.refl _ _).drew;refine zZ [3,3,3,3,0,3,3,3,0,3,3,3,0,3,2] [14] (fun w'=>Mod qJ wr w') hS ?_;simp only[qB]
   refine qE 53 (fun w' hS=>hS.cell id hcbr) ?_;simp only[qB];refine qE 3 (fun w' hS=>hS.cell id hcar) ?_;simp only[qB];refine jH ((a+j:Nat):Int) ?_
   simp only[qC];refine zC 53 1 hil ?_;simp only[qC];refine qE 5 (fun w' hS=>hS.cell id hcr) ?_;simp only[qC];refine zO 24 1 hlt ?_;simp only[qC]
   refine zP rfl (fun K hK=>?_);refine zR 5 (j*1) (qW x) (hS.obj id hBr) (fun w5 hB5 hm5=>?_) (hoff:=by rw[hcs];omega)
   have hmr5:=(hmr.trans hS (fun _ _ h=>h.elim)).trans hm5 (fun _ _ h=>h);refine hK _ _ ?_;clear hK K;simp only[qB]
   have HQ:Hid (RIDRel w3 b3 b a (.int .i64 ((j+1:Nat):Int)) w5):=O ⟨j+1,by omega,rfl,_,hB5,⟨by simpa using hcs,fun t ht h=>by
    rw[Array.getElem?_setIfInBounds]
    by_cases e:j*1=t
    ·rw[if_pos e,if_pos (by rw[hcs];omega)]
     have e:t=j:=by omega
     subst e;rw[HXX.out]
    ·rw[if_neg e]
     exact HROW.out.2 t ht (by omega)⟩,hmr5⟩
   clear hS hmr hmr5 hm5 hB5 hBr hcr hcbr hcar hcs;go_wp2
   go_roundw
   case rel=>exact HQ.out
   case measure=>simp[intOf];omega
  ·have hz:¬(j:Int)<32:=by omega
   obtain rfl:j=32:=by omega
   have hcur:=idRow_full hrow (by omega);rw[hcur]at hBr;have hBr2:=hmr.obj (fun e=>by have e:b2=b3:=e;omega) hB32;have hbox:=Hr.out.box
   obtain⟨x,hx⟩:∃x,(b.drop a).take 32=x:=⟨_,rfl⟩;have hxl:=HX.out;have HE2:=HE.out;rw[hx]at hBr hxl HE2;replace HE:=O HE2;clear HE2
   have hic:(qA x).size=32:=by rw[qD,hxl]
   have HMR:=O hmr;clear hrow hcur hmr hx;go_upto_region 11 with(fail);refine qL [3,3,3,3,1,3,3,3,1] ?_;simp only[qB];refine qG 3 hcar ?_;try simp only[qC]
   refine jH ((a+32:Nat):Int) ?_;simp only[qB];refine qK (zR 3 1 (.int .i64 ((a+32:Nat):Int)) hbox (fun w6 hB6 hm6=>?_) (hoff:=by simp))
   have HT:Hid (RrS wr w6 rb (.slice ad b.length cap) b (some (a+32))):=O (Hr.out.on hm6 (by omega) hB6);simp only[qB]
   have hB6o:CellsAt w6 b3 0 (qA x):=CellsAt.whole (hm6.obj (fun e=>by have e:b3=rb:=e;omega) hBr)
   have hB62:=hm6.obj (fun e=>by have e:b2=rb:=e;omega) hBr2;have HM6:=O hm6;clear hBr hBr2 hm6 hB6 hbox hcbr hcar;go_upto_region 12 with(fail)
   refine qL [1,1] ?_;simp only[qB];refine qY 24 hB6o 32 hic ?_;try simp only[qC]
   refine qK (qT 24 (qA x) (qQ _) 32 hic hB62 (fun w7 hB7 hm7=>?_) (hoff:=by rw[hic,hz32]));simp only[qB]
   have HF:Hid (RrS w w7 rb (.slice ad b.length cap) b (some (a+32))):=O (by
    obtain⟨⟨a4,e4,p4,hi4,hs4⟩,hm4⟩:=HT.out
    exact⟨⟨a4,e4,p4,hi4.keep hm7 (fun e=>by have e:rb=b2:=e;omega) (fun k hk e=>by have e:k=b2:=e;have:=hbl k hk;omega),hs4⟩,(((HM3.out.mono (fun _ _ h=>h.elim)).trans HMR.out (fun k hk e=>by have e:k=b3:=e;omega)).trans hm4 (fun _ _ h=>h)).trans hm7 (fun k hk e=>by have e:k=b2:=e;omega)⟩)
   clear hm7 hB6o hB62;go_wp2;refine bodyPost_ret (results_cell_row (P:=prog) (ty:=24) rfl _ _ b2 _ _ _ _ (by rfl) hB7 underlying24 rfl (by rw[hic];kernel_rfl)) rfl ?_
   exact⟨by rw[HE.out];exact HF.out,by rw[HE.out]⟩
end
section
variable{w:iN}{rb:Nat}{bv:Value}{b:iK}{a:Nat}{e p:Int}
theorem RrS.obj{w1 w2:iN}{s:RS}{n:Nat}{o:Obj}(h:RrS w1 w2 rb bv b s)(hn:n≠rb)(hc:w1.heap[n]?=some o):w2.heap[n]?=some o:=h.2.obj hn hc
def RDescR(w:iN)(rb:Nat)(bv:Value)(b:iK)(d:yY)(s:RS):iJ:=fun x w'=>RrS w w' rb bv b s/\x=.returned (.agg (zG d))
theorem built_rreader(v:Value)(h:v.cells=#[v]):prog.built 351 [(0,v)]=some #[v,.int .i64 0,.int .i64 0,.int .i64 0]:=by
 have z:(prog.info? 351).bind (·.zero)=some (.agg #[.slice none 0 0,.int .i64 0,.int .i64 0,.int .i64 0]):=by kernel_rfl
 have p:yM prog 351=some [(0,1),(1,1),(2,2)]:=by kernel_rfl
 rw[zX z p,zN (off:=0) (size:=1) rfl (by rw[h];rfl) (by simp[Value.cells]),yN,h]
 rfl
def NewRr(w:iN)(bv:Value)(b:iK):iJ:=fun x w'=>∃rb,x=.returned (iO rb)/\RrI w' rb bv b 0 0 0/\Mod qJ w w'/\w.heap.size<=rb
theorem rrNew_any{own:Bool}(h:Sl own w G 1 yA v b)(hv:∀k,v.ownBlock=some k->k<w.heap.size)(hl:b.length<=4096):Calls prog 217 #[v] w (NewRr w v b):=by
 have H:=O h.own1;have hvc:v.cells=#[v]:=by obtain⟨ad,cap,rfl,-,-⟩:=Sl.at h;rfl
 have hbr:=built_rreader v hvc;clear h;go_enter func217,ntmps217;go_upto_region 1 with(fail);refine qL [3,0,1,3] ?_;simp only[qB];refine yV hbr ?_;simp only[qC]
 refine qK (zT 351 (fun w1 hB1 hm1 hs1=>?_));replace hB1:w1.heap[w.heap.size]?=some (.cells #[v,.int .i64 0,.int .i64 0,.int .i64 0] 351 (0,0)):=hB1;simp only[qB]
 have HT:Hid (NewRr w v b (.returned (iO w.heap.size)) w1):=O ⟨_,rfl,⟨hB1,H.out.keep0 hm1,fun k hk=>⟨Nat.lt_of_lt_of_le (hv k hk) hm1.size,by have:=hv k hk;omega⟩,hl,by omega,fun _=>rfl⟩,hm1,Nat.le_refl _⟩
 clear hB1 hm1;go_wp2;go_ret;exact HT.out
theorem r11reads_any(h:RrI w rb bv b a e p):Calls prog 250 #[iO rb] w (RDescR w rb bv b (xG b (yW a e)).1 (xG b (yW a e)).2):=by
 have hall:=h.all;have hrl:=h.all rb (.inl rfl);obtain⟨m,hm⟩:∃m,zM b (yW a e)=m:=⟨_,rfl⟩;obtain⟨i,hi⟩:∃i,dO b m.2=i:=⟨_,rfl⟩
 obtain⟨n,hn⟩:∃n,zM b i.2=n:=⟨_,rfl⟩;obtain⟨t,ht⟩:∃t,yK b 4096 n.2=t:=⟨_,rfl⟩
 have hd:xG b (yW a e)=(⟨m.1,i.1,n.1,t.1⟩,t.2):=by unfold xG;simp only[hm,hi,hn,ht]
 rw[hd]
 have HN1:Hid (∀w',RrS w w' rb bv b (yW a e)->Calls prog 248 #[iO rb] w' (RNumR w' rb bv b m.1 m.2)):=O (fun w' hw'=>by
  obtain⟨⟨a',e',p',h',hs⟩,-⟩:=hw';have:=fO h'
  rwa[hs,hm]at this)
 have HN2:Hid (∀w',RrS w w' rb bv b m.2->Calls prog 296 #[iO rb] w' (RIDR w' rb bv b i.1 i.2)):=O (fun w' hw'=>by
  obtain⟨⟨a',e',p',h',hs⟩,-⟩:=hw';have:=rrID_any h'
  rwa[hs,hi]at this)
 have HN3:Hid (∀w',RrS w w' rb bv b i.2->Calls prog 248 #[iO rb] w' (RNumR w' rb bv b n.1 n.2)):=O (fun w' hw'=>by
  obtain⟨⟨a',e',p',h',hs⟩,-⟩:=hw';have:=fO h'
  rwa[hs,hn]at this)
 have HN4:Hid (∀w',RrS w w' rb bv b n.2->Calls prog 249 #[iO rb,.int .i64 (4096:Nat)] w' (RTextR w' rb bv b t.1 t.2)):=O (fun w' hw'=>by
  obtain⟨⟨a',e',p',h',hs⟩,-⟩:=hw';have:=rrText_any h' 4096
  rwa[hs,ht]at this)
 have hil:i.1.length=32:=by
  have:=(rIDL_ok (b:=b) (s:=m.2) (by rw[<-hm];exact rNumL_ok.1)).2
  rwa[hi]at this
 have HR0:Hid (RrS w w rb bv b (yW a e)):=O h.stay;have hzl:=zeros32_len;have his:(qA i.1).size=32:=by rw[qD,hil]
 obtain⟨m,s1⟩:=m;obtain⟨i,s2⟩:=i;obtain⟨n,s3⟩:=n;obtain⟨t,s4⟩:=t
 dsimp only at HN1 HN2 HN3 HN4 hil his |-
 clear h hm hi hn ht hd;go_enter func250,ntmps250;go_upto_region 0 with(fail);refine qL [1] ?_;simp only[qB];refine qK (zB descZ_i (fun wx hBx hmx hsx=>?_))
 simp only[qB];go_upto_region 1 with(fail);refine qL [1] ?_;simp only[qB];refine qK (zB descZ_i (fun w1 hB1 hm1 hs1=>?_));simp only[qB];have hA1:=hm1.obj id hBx
 have hb12:w.heap.size<wx.heap.size:=hsx;generalize hb1:w.heap.size=b1 at*;generalize hb2:wx.heap.size=b2 at*
 have HR1:Hid (RrS w w1 rb bv b (yW a e)):=O (HR0.out.post (hmx.trans0 hm1));replace hB1:w1.heap[b2]?=some (.cells (kF 0 zeros32 0 []) 46 (0,0)):=hB1
 replace hall:∀k,k=rb\/bv.ownBlock=some k->k<w.heap.size:=by rw[hb1];exact hall
 clear hmx hm1 HR0 hBx hsx hs1;go_upto_region 2 with(fail);refine qL [3,1,3,1] ?_;simp only[qB];refine qK (xE func248 ((HN1.out _ HR1.out)) ?_);rintro e w1x ⟨rfl,hr⟩
 have HR:=O (HR1.out.trans hr);have HA:=O (RrS.obj hr (by omega) hA1);have hB:=RrS.obj hr (by omega) hB1;clear hr;refine⟨_,rfl,?_⟩;simp only[qB]
 refine qK (zR 3 0 (.int .i64 m) hB (fun w2 hB2 hmS=>?_) (hoff:=by rw[zQ hzl];omega));rw[descRow_put0]at hB2
 have HR2:Hid (RrS w w2 rb bv b _):=O (HR.out.keepN hall (Nat.le_refl _) hmS (by omega));have hA2:=hmS.objB (by omega) HA.out;clear hmS hB HA HR HR1 hA1 hB1
 simp only[qB];go_upto_region 3 with(fail);refine qL [3,1,3,1] ?_;simp only[qB];refine qK (xE func296 ((HN2.out _ HR2.out)) ?_);rintro e w2x ⟨hr,rfl⟩
 have HR:=O (HR2.out.trans hr);have HA:=O (RrS.obj hr (by omega) hA2);have hB:=RrS.obj hr (by omega) hB2;clear hr;refine⟨_,rfl,?_⟩;simp only[qB]
 refine qK (xU 24 1 (qA i) (qQ _) 32 his hB (fun w3 hB3 hmS=>?_) (hoff:=by rw[zQ hzl,his];omega));rw[descRow_put1 hzl hil]at hB3
 have HR3:Hid (RrS w w3 rb bv b _):=O (HR.out.keepN hall (Nat.le_refl _) hmS (by omega));have hA3:=hmS.objB (by omega) HA.out;clear hmS hB HA HR HR2 hA2 hB2
 simp only[qB];go_upto_region 4 with(fail);refine qL [3,1,3,1] ?_;simp only[qB];refine qK (xE func248 ((HN3.out _ HR3.out)) ?_);rintro e w3x ⟨rfl,hr⟩
 have HR:=O (HR3.out.trans hr);have HA:=O (RrS.obj hr (by omega) hA3);have hB:=RrS.obj hr (by omega) hB3;clear hr;refine⟨_,rfl,?_⟩;simp only[qB]
 refine qK (zR 3 33 (.int .i64 n) hB (fun w4 hB4 hmS=>?_) (hoff:=by rw[zQ hil];omega));rw[gP hil]at hB4
 have HR4:Hid (RrS w w4 rb bv b _):=O (HR.out.keepN hall (Nat.le_refl _) hmS (by omega));have hA4:=hmS.objB (by omega) HA.out;clear hmS hB HA HR HR3 hA3 hB3
 simp only[qB];go_upto_region 5 with(fail);refine qL [3,1,3,1] ?_;simp only[qB];refine qK (xE func249 ((HN4.out _ HR4.out)) ?_);rintro e w4x ⟨hr,rfl⟩
 have HR:=O (HR4.out.trans hr);have HA:=O (RrS.obj hr (by omega) hA4);have hB:=RrS.obj hr (by omega) hB4;clear hr;refine⟨_,rfl,?_⟩;simp only[qB]
 refine qK (zR 9 34 (.string ⟨t.toArray⟩) hB (fun w5 hB5 hmS=>?_) (hoff:=by rw[zQ hil];omega));rw[gO hil]at hB5
 have HR5:Hid (RrS w w5 rb bv b _):=O (HR.out.keepN hall (Nat.le_refl _) hmS (by omega));have hA5:=hmS.objB (by omega) HA.out;clear hmS hB HA HR HR4 hA4 hB4
 simp only[qB];have hrs:=zQ (m:=m) (n:=n) (p:=t) hil;have hone:=pJ m i n t;have hzs:(zG descZ).size=35:=zQ hzl
 go_upto_region 6 with(fail);refine qL [1,1] ?_;simp only[qB];refine qY 46 (CellsAt.whole hB5) 35 hrs ?_;try simp only[qC]
 refine qK (yL 46 hone 35 hrs hA5 (fun w6 hB6 hm6=>?_) (hoff:=by rw[hrs,hzs]));have HR6:=O (HR5.out.keepN hall (Nat.le_refl _) hm6 (by omega));clear hB5 hA5 hm6
 simp only[qB];go_wp2;refine bodyPost_ret (results_cell_row (P:=prog) (ty:=46) rfl _ _ b1 _ _ _ _ (by rfl) hB6 underlying46 rfl (by rw[hrs];kernel_rfl)) rfl ?_
 exact⟨HR6.out,rfl⟩
end
end
section
open Go.RowKit Go.Shelf Go.Proofs.Tryz Go.Lib
section
variable{w:iN}{base:Nat}{cs:iL}{m:eH}
theorem r11Descs_any(h:ManC base w cs m)(hl:m.layers.length<=16/\m.subs.length<=16):Calls prog 165 #[.agg cs] w (DescsR w (yJ m)):=by
 obtain⟨hid,lv,sv,rfl,hlv,hsv⟩:=h;obtain⟨hl1,hl2⟩:=hl;have HL:=O hlv;have HS:=O hsv
 have hlk:∀q,lv.ownBlock=some q->q<w.heap.size:=fun q hq=>(hlv.lt hq).2;have hsk:∀q,sv.ownBlock=some q->q<w.heap.size:=fun q hq=>(hsv.lt hq).2
 have hl1c:lv.oneCell'=true:=jJ hlv;have hs1c:sv.oneCell'=true:=jJ hsv;obtain⟨adl,cpl,rfl⟩:=hlv.slice;obtain⟨ads,cps,rfl⟩:=hsv.slice
 have hmk:=man_kind m.kind m.title m.config (.slice adl m.layers.length cpl) (.slice ads m.subs.length cps)
 have hm37:=man_37 (k:=m.kind) (t:=m.title) (lv:=.slice adl m.layers.length cpl) (sv:=.slice ads m.subs.length cps) hid
 have hm38:=man_38 (k:=m.kind) (t:=m.title) (lv:=.slice adl m.layers.length cpl) (sv:=.slice ads m.subs.length cps) hid
 have hmcf:=man_config (k:=m.kind) (t:=m.title) (lv:=.slice adl m.layers.length cpl) (sv:=.slice ads m.subs.length cps) hid
 have hds:(zG m.config).size=35:=zQ hid
 obtain⟨cs,hcs⟩:∃cs,qP m.kind m.title m.config (.slice adl m.layers.length cpl) (.slice ads m.subs.length cps)=cs:=⟨_,rfl⟩;rw[hcs]at hmk hm37 hm38 hmcf |-
 have HDE:=O (aW hid);clear hcs hlv hsv;go_enter func165,ntmps165;go_upto_region 0 with(fail);refine qL [1,3] ?_;simp only[qB]
 refine qK (zT 163 (fun w1 hB1 hm1 hs1=>?_));replace hB1:w1.heap[w.heap.size]?=some (.cells cs 163 (0,0)):=hB1;simp only[qB]
 have hck:w1.cell? ⟨w.heap.size,0,none⟩=some (.int .i64 m.kind):=by rw[cell_of_row _ _ _ _ _ _ hB1];exact hmk
 have hc37:w1.cell? ⟨w.heap.size,37,none⟩=some (.slice adl m.layers.length cpl):=by rw[cell_of_row _ _ _ _ _ _ hB1];exact hm37
 have hc38:w1.cell? ⟨w.heap.size,38,none⟩=some (.slice ads m.subs.length cps):=by rw[cell_of_row _ _ _ _ _ _ hB1];exact hm38
 have hcc:CellsAt w1 w.heap.size 2 (zG m.config):=CellsAt.of_obj hB1 hmcf;have HM1:=O hm1;replace HL:=O (HL.out.keep0 hm1)
 replace HS:=O (HS.out.keep0 hm1);have hs1':w.heap.size<w1.heap.size:=hs1;generalize hb1:w.heap.size=b1 at*;clear hm1 hB1 hmk hm37 hm38 hmcf
 by_cases hk3:m.kind=3
 ·have hkz:(m.kind:Int)=3:=by omega
  have hdl:yJ m=[m.config]++m.layers++m.subs:=by unfold yJ;rw[if_pos hk3]
  have HDL:=O hdl;clear hdl;go_upto_region 2 with(fail);refine qL [3,1,3] ?_;simp only[qB];refine qG 3 hck ?_;try simp only[qC]
  refine qZ (fun _=>by go_simp;try with_reducible rfl) ?_;simp only[qB];go_upto_region 3 with(fail);refine qL [3,3,1,1,1,3] ?_;simp only[qB]
  refine qY 46 hcc 35 hds ?_;try simp only[qC]
  refine qK (kK 161 (.agg (zG m.config)) (.agg (zG descZ)) 35 hds (fun w3 hB3 hm3 hs3=>?_))
  have hsrc:=uK (enc:=eG) (e:=46) (x:=m.config) sL (by rw[HDE.out];exact hB3);have h3s:=hm3.size;try simp only[qC]
  refine qK (cJ (base:=w3.heap.size) (l:=[]) 161 sJ kT (Gat.nil _ _ _ _ _) _ [m.config] hsrc (by unfold maxLen;simp) (by simp) (Nat.le_refl _) (fun v4 w4 hg4 hm4=>?_) (hzs:=pO))
  have hm4':Mod qJ w3 w4:=hm4.mono (fun k hk e=>by cases e);rw[List.nil_append]at hg4;simp only[qB];have hm14:=hm3.trans0 hm4';have h34:=hm4'.size
  have HM4:=O (HM1.out.trans0 hm14);replace HL:=O (HL.out.keep0 hm14);replace HS:=O (HS.out.keep0 hm14);replace hc37:=hm14.cell id hc37
  replace hc38:=hm14.cell id hc38;have HG2:=O hg4
  have hv2:∀q,v4.ownBlock=some q->b1<q/\q<w4.heap.size:=fun q hq=>by
   have:=hg4.lt hq;omega
  have hv1c:v4.oneCell'=true:=jJ hg4;have h14s:=hm14.size;clear hm3 hm4 hm4' hm14 hB3 hsrc hg4 hck hcc;go_upto_region 4 with(fail)
  have hS:Mod (fun q=>b1<q) w4 w4.drew:=(Mod.refl _ _).drew;have hg4d:=HG2.out.keep0 (Mod.refl qJ w4).drew
  refine cH [(0,3),(1,3),(2,0),(4,3),(5,0),(3,1),(6,1),(7,3)] [] (fun w'=>Mod (fun q=>b1<q) w4 w') hS ?_;simp only[qB]
  refine qE 161 (fun w' hS=>hS.cell (fun e=>Nat.lt_irrefl _ e) hc37) ?_;simp only[qB];refine qE 161 (fun w' hS=>hS.cell (fun e=>Nat.lt_irrefl _ e) hc38) ?_
  simp only[qC];refine qH rfl (fun K hK=>?_)
  refine cJ 161 sJ kT hg4d _ m.layers (HL.out.keep hS (fun q hq e=>by have:=hlk q hq;have e':b1<q:=e;omega)).src (by unfold maxLen;simp;omega) (by simp;omega) (by have:=hS.size;omega) (fun v5 w5 hg5 hm5=>?_) (hzs:=pO)
  have hS5:Mod (fun q=>v4.ownBlock=some q) w4 w5:=(show Mod (fun q=>v4.ownBlock=some q) w4 w4.drew from(Mod.refl _ _).drew).trans hm5 (fun _ _ h=>h)
  have hS5b:Mod (fun q=>b1<q) w4 w5:=hS5.mono (fun k _ e=>(hv2 k e).1);refine hK _ _ hS5b ?_;clear hK K;try simp only[qC]
  refine qH rfl (fun K hK=>?_)
  refine cJ 161 sJ kT hg5 _ m.subs (HS.out.keep hS5 (fun q hq e=>by have:=hsk q hq;have:=hv2 q e;omega)).src (by unfold maxLen;simp;omega) (by simp;omega) (by have:=hS5.size;omega) (fun v6 w6 hg6 hm6=>?_) (hzs:=pO)
  have hm46:Mod qJ w w6:=(HM4.out.trans hS5 (fun k hk e=>by have:=hv2 k e;omega)).trans hm6 (fun k hk e=>by have:=hg5.lt e;omega)
  have hS6b:Mod (fun q=>b1<q) w4 w6:=hS5b.trans hm6 (fun k _ e=>by have:=hg5.lt e;omega)
  have HR:Hid (DescsR w (yJ m) (.returned v6) w6):=O ⟨hm46,v6,rfl,by rw[HDL.out];exact hg6.base (by omega)⟩;refine hK _ _ hS6b ?_
  clear hm46 hg5 hg6 hm5 hm6 hS5 hS5b hS6b;clear hK K;simp only[qB];clear hS hg4d hc37 hc38;go_wp2;go_ret;exact HR.out
 ·have hkz:¬(m.kind:Int)=3:=by omega
  have hdl:yJ m=m.layers++m.subs:=by unfold yJ;rw[if_neg hk3];rfl
  have HDL:=O hdl;clear hdl;go_upto_region 2 with(fail);refine qL [3,1,3] ?_;simp only[qB];refine qG 3 hck ?_;try simp only[qC]
  refine qZ (fun _=>by go_simp;try with_reducible rfl) ?_;simp only[qB];clear hck hcc;go_upto_region 4 with(fail)
  have hS:Mod (fun q=>b1<q) w1 w1.drew:=(Mod.refl _ _).drew
  refine cH [(0,3),(1,3),(2,0),(4,3),(5,0),(3,1),(6,1),(7,3)] [] (fun w'=>Mod (fun q=>b1<q) w1 w') hS ?_;simp only[qB]
  refine qE 161 (fun w' hS=>hS.cell (fun e=>Nat.lt_irrefl _ e) hc37) ?_;simp only[qB];refine qE 161 (fun w' hS=>hS.cell (fun e=>Nat.lt_irrefl _ e) hc38) ?_
  simp only[qC];refine qH rfl (fun K hK=>?_)
  refine cJ (base:=w1.heap.size) (l:=[]) 161 sJ kT (Gat.nil _ _ _ _ _) _ m.layers (HL.out.keep hS (fun q hq e=>by have:=hlk q hq;have e':b1<q:=e;omega)).src (by unfold maxLen;simp;omega) (by simp;omega) hS.size (fun v5 w5 hg5 hm5=>?_) (hzs:=pO)
  rw[List.nil_append]at hg5;have hS5:Mod qJ w1 w5:=(show Mod qJ w1 w1.drew from(Mod.refl _ _).drew).trans hm5 (fun k hk e=>by cases e)
  have hS5b:Mod (fun q=>b1<q) w1 w5:=hS5.mono (fun k _ e=>e.elim);refine hK _ _ hS5b ?_;clear hK K;try simp only[qC]
  refine qH rfl (fun K hK=>?_)
  refine cJ 161 sJ kT hg5 _ m.subs (HS.out.keep0 hS5).src (by unfold maxLen;omega) (by omega) hS5.size (fun v6 w6 hg6 hm6=>?_) (hzs:=pO)
  have hm46:Mod qJ w w6:=(HM1.out.trans0 hS5).trans hm6 (fun k hk e=>by have:=hg5.lt e;omega)
  have hS6b:Mod (fun q=>b1<q) w1 w6:=hS5b.trans hm6 (fun k _ e=>by have:=hg5.lt e;omega)
  have HR:Hid (DescsR w (yJ m) (.returned v6) w6):=O ⟨hm46,v6,rfl,by rw[HDL.out];exact hg6.base (by omega)⟩;refine hK _ _ hS6b ?_
  clear hm46 hg5 hg6 hm5 hm6 hS5 hS5b hS6b;clear hK K;simp only[qB];clear hS hc37 hc38;go_wp2;go_ret;exact HR.out
end
theorem r13tree_any(n:Nat)(w:iN):Calls prog 163 #[.int .i64 n] w (pT (.bool (decide (n=3\/n=4))) w):=by
 by_cases h3:n=3
 ·subst h3
  go_enter func163,ntmps163;go_wp2;go_ret;exact⟨rfl,rfl⟩
 have hz3:¬(n:Int)=3:=by omega
 by_cases h4:n=4
 ·subst h4
  go_enter func163,ntmps163;go_wp2;go_ret;exact⟨rfl,rfl⟩
 have hz4:¬(n:Int)=4:=by omega
 have hd:decide (n=3\/n=4)=false:=decide_eq_false (by omega);rw[hd];go_enter func163,ntmps163;go_wp2;go_ret;exact⟨by simp_all,rfl⟩
section
variable{w:iN}{rb:Nat}{bv:Value}{b:iK}{a:Nat}{e p:Int}
theorem RrS.keepS{S:iM}(h:RrS w w1 rb bv b s)(h0:∀k,k=rb\/bv.ownBlock=some k->k<w.heap.size)(hm:Mod S w1 w2)(hS:∀k,S k->w.heap.size<=k):RrS w w2 rb bv b s:=by
 obtain⟨⟨a,e,p,hi,hst⟩,hM⟩:=h
 exact⟨⟨a,e,p,hi.keep hm (fun e=>by have:=hS _ e;have:=h0 rb (.inl rfl);omega) (fun k hk e=>by have:=hS _ e;have:=h0 k (.inr hk);omega),hst⟩,hM.trans hm (fun k hk e=>by have:=hS _ e;omega)⟩
def RManR(w:iN)(rb:Nat)(bv:Value)(b:iK)(r:eH×RS×Bool):iJ:=fun x w'=>RrS w w' rb bv b r.2.1/\∃(cs:iL)(er at_:Int),x=.returned (.tuple #[.agg cs,.agg #[.int .i64 er,.int .i64 at_]])/\(er=0↔r.2.2=true)/\(er=0->at_=0)/\ManC w.heap.size w' cs r.1
def dG(w0:iN)(rb:Nat)(bv:Value)(b:iK)(s:RS)(n b1 b2 b3:Nat)(row:iL)(v i:Value)(w:iN):Prop:=∃k:Nat,k<=n/\i=.int .i64 k/\RrS w0 w rb bv b (xA b k s).2/\GatD (b3+1) w v (xA b k s).1/\b3<w.heap.size/\
 w.heap[b1]?=some (.cells (qP 0 [] descZ (.slice none 0 0) (.slice none 0 0)) 163 (0,0))/\w.heap[b2]?=some (.cells #[.int .i64 0,.int .i64 0] 255 (0,0))/\w.heap[b3]?=some (.cells row 163 (0,0))
theorem built_fault0:prog.built 255 []=some #[.int .i64 0,.int .i64 0]:=by
 have z:(prog.info? 255).bind (·.zero)=some (.agg #[.int .i64 0,.int .i64 0]):=by kernel_rfl
 have p:yM prog 255=some [(0,1),(1,1)]:=by kernel_rfl
 rw[zX z p,yN]
theorem r11read_any(h:RrI w rb bv b 0 0 p):Calls prog 218 #[iO rb,.int .i64 b.length] w (RManR w rb bv b (cS b)):=by
 have hall:=h.all;have hrl:=h.all rb (.inl rfl);have hbl:=h.len;have hst:=h.stay;rw[sE]at hst;have HST:=O hst
 have HN:=O (show ∀(w':iN)(s':RS),RrS w w' rb bv b s'->Calls prog 248 #[iO rb] w' (RNumR w' rb bv b (zM b s').1 (zM b s').2)from fun w' s' hw'=>by
  obtain⟨⟨a',e',p',h',hs⟩,-⟩:=hw';have:=fO h'
  rwa[hs]at this)
 have HT:=O (show ∀(w':iN)(s':RS),RrS w w' rb bv b s'->Calls prog 249 #[iO rb,.int .i64 (4096:Nat)] w' (RTextR w' rb bv b (yK b 4096 s').1 (yK b 4096 s').2)from fun w' s' hw'=>by
  obtain⟨⟨a',e',p',h',hs⟩,-⟩:=hw';have:=rrText_any h' 4096
  rwa[hs]at this)
 have HD:=O (show ∀(w':iN)(s':RS),RrS w w' rb bv b s'->Calls prog 250 #[iO rb] w' (RDescR w' rb bv b (xG b s').1 (xG b s').2)from fun w' s' hw'=>by
  obtain⟨⟨a',e',p',h',hs⟩,-⟩:=hw';have:=r11reads_any h'
  rwa[hs]at this)
 have HL:=O (show ∀(w':iN)(s':RS),RrS w w' rb bv b s'->∃r:Int,0<=r/\r<=4096/\Calls prog 220 #[iO rb] w' (vO (.int .i64 r) w')from fun w' s' hw'=>by
  obtain⟨⟨a',e',p',h',hs⟩,-⟩:=hw'
  refine⟨_,?_,?_,rrRest_any h'⟩<;>have:=h'.al<;>have:=h'.len<;>split<;>omega)
 obtain⟨f,hf⟩:∃f,zM b (some 0)=f:=⟨_,rfl⟩;obtain⟨k,hk⟩:∃k,zM b f.2=k:=⟨_,rfl⟩;obtain⟨t,ht⟩:∃t,yK b 4096 k.2=t:=⟨_,rfl⟩
 have HMR:Hid (cS b=if f.1≠77 then(fX,f.2,false)else if k.1≠3/\k.1≠4 then({ fX with kind:=k.1 },k.2,false)
  else if(if k.1=3 then 16 else 8)<(zM b (if k.1=3 then xG b t.2 else(descZ,t.2)).2).1 then(⟨k.1,t.1,(if k.1=3 then xG b t.2 else(descZ,t.2)).1,[],[]⟩,(zM b (if k.1=3 then xG b t.2 else(descZ,t.2)).2).2,false)
  else(⟨k.1,t.1,(if k.1=3 then xG b t.2 else(descZ,t.2)).1,if k.1=3 then(xA b (zM b (if k.1=3 then xG b t.2 else(descZ,t.2)).2).1 (zM b (if k.1=3 then xG b t.2 else(descZ,t.2)).2).2).1 else [],if k.1=3 then []else(xA b (zM b (if k.1=3 then xG b t.2 else(descZ,t.2)).2).1 (zM b (if k.1=3 then xG b t.2 else(descZ,t.2)).2).2).1⟩,(xA b (zM b (if k.1=3 then xG b t.2 else(descZ,t.2)).2).1 (zM b (if k.1=3 then xG b t.2 else(descZ,t.2)).2).2).2,true)):=O (by
  unfold cS
  simp only[hf,hk,ht])
 have HK2:Hid (∀w',RrS w w' rb bv b f.2->Calls prog 248 #[iO rb] w' (RNumR w' rb bv b k.1 k.2)):=O (fun w' hw'=>by
  have:=HN.out w' _ hw'
  rwa[hk]at this)
 have HT2:Hid (∀w',RrS w w' rb bv b k.2->Calls prog 249 #[iO rb,.int .i64 (4096:Nat)] w' (RTextR w' rb bv b t.1 t.2)):=O (fun w' hw'=>by
  have:=HT.out w' _ hw'
  rwa[ht]at this)
 have HN1:Hid (∀w',RrS w w' rb bv b (some 0)->Calls prog 248 #[iO rb] w' (RNumR w' rb bv b f.1 f.2)):=O (fun w' hw'=>by
  have:=HN.out w' _ hw'
  rwa[hf]at this)
 have hfb:=(rNumL_ok (b:=b) (s:=some 0)).2.1;have hkb:=(rNumL_ok (b:=b) (s:=f.2)).2.1;rw[hf]at hfb;rw[hk]at hkb;obtain⟨f,s1⟩:=f;obtain⟨k,s2⟩:=k
 obtain⟨t,s3⟩:=t
 dsimp only at HMR HK2 HT2 HN1 hfb hkb
 generalize cS b=MRR at*;clear h hst hf hk ht HT;have hzi:=xP;have hz39:(qP 0 [] descZ (.slice none 0 0) (.slice none 0 0)).size=39:=zD hzi
 go_enter func218,ntmps218;go_upto_region 0 with(fail);refine qL [1,1] ?_;simp only[qB];refine qK (zB aO (fun wx hBx hmx hsx=>?_));try simp only[qC]
 refine qK (zB fZ (fun wy hBy hmy hsy=>?_));simp only[qB];go_upto_region 1 with(fail);refine qL [1] ?_;simp only[qB]
 refine qK (zB aO (fun wz hBz hmz hsz=>?_));simp only[qB];have hA:=(hmy.trans0 hmz).obj id hBx;have hC:=hmz.obj id hBy;have hB:=hBz
 have hb12:w.heap.size<wx.heap.size:=hsx;have hb23:wx.heap.size<wy.heap.size:=hsy
 have HR:Hid (RrS w wz rb bv b (some 0)):=O (HST.out.post ((hmx.trans0 hmy).trans0 hmz));clear hmx hmy hmz hBx hBy hBz hsx hsy hsz HST;generalize hb1:w.heap.size=b1 at*
 generalize hb2:wx.heap.size=b2 at*;generalize hb3:wy.heap.size=b3 at*;replace hall:∀k,k=rb\/bv.ownBlock=some k->k<w.heap.size:=by rw[hb1];exact hall
 go_upto_region 2 with(fail);refine qL [3,1,3] ?_;simp only[qB];refine qK (xE func248 (HN1.out _ HR.out) ?_);rintro e w1 ⟨rfl,hr⟩;replace hA:=RrS.obj hr (by omega) hA
 replace hB:=RrS.obj hr (by omega) hB;replace hC:=RrS.obj hr (by omega) hC;replace HR:=O (HR.out.trans hr);clear hr;refine⟨_,rfl,?_⟩;try simp only[qC]
 refine qZ (fun _=>by go_simp;try with_reducible rfl) ?_;simp only[qB]
 by_cases h77:f=77
 rotate_left
 ·have hz:¬(f:Int)=77:=by omega
  have hr0:=HMR.out;rw[if_pos h77]at hr0;have HE:=O hr0;clear hr0
  have hszr:(qP 0 [] descZ (.slice none 0 0) (.slice none 0 0)).size=39:=zD (by first|exact xP|assumption)
  have hone:∀c∈qP 0 [] descZ (.slice none 0 0) (.slice none 0 0),c.oneCell'=true:=xY rfl rfl;go_upto_region 3 with(fail);refine qL [1,0,1,1] ?_
  simp only[qB];refine qY 163 (CellsAt.whole hB) 39 hszr ?_;try simp only[qC]
  refine yV (tN 20) ?_;simp only[qC];refine qK (yL 163 hone 39 hszr hA (fun wf hAf hmf=>?_));replace hC:=hmf.objB (by omega) hC
  have HRf:=O (HR.out.keepS hall hmf (fun k e=>by have e:k=b1:=e;omega));try simp only[qC]
  refine qK (qT 255 #[.int .i64 20,.int .i64 0] (by simp[Value.oneCell']) 2 rfl hC (fun wg hCg hmg=>?_) (hoff:=by rfl));have hAg:=hmg.objB (by omega) hAf
  have HRg:=O (HRf.out.keepS hall hmg (fun k e=>by have e:k=b2:=e;omega));simp only[qB]
  have hsz2:(prog.info? 163).map (·.size)=some (qP 0 [] descZ (.slice none 0 0) (.slice none 0 0)).size:=by rw[hszr];kernel_rfl
  clear HR hmf hmg hB hC hAf;go_wp2;refine aA underlying163 underlying255 hAg hCg hsz2 ?_;rw[HE.out]
  exact⟨HRg.out,_,20,0,rfl,by simp,by simp,xP,_,_,rfl,Gat.nil _ _ _ _ _,Gat.nil _ _ _ _ _⟩
 subst h77;have hr0:=HMR.out;rw[if_neg (by simp)]at hr0;replace HMR:=O hr0;clear hr0;go_upto_region 4 with(fail);refine qL [3,1,3,1] ?_;simp only[qB]
 refine qK (xE func248 (HK2.out _ HR.out) ?_);rintro e w2 ⟨rfl,hr⟩;replace hA:=RrS.obj hr (by omega) hA;replace hB:=RrS.obj hr (by omega) hB
 replace hC:=RrS.obj hr (by omega) hC;replace HR:=O (HR.out.trans hr);clear hr;refine⟨_,rfl,?_⟩;simp only[qB]
 refine qK (zR 3 0 (.int .i64 k) hB (fun w3 hB3 hm3=>?_));rw[manRow_put0]at hB3;replace hB:=hB3;replace hA:=hm3.objB (by omega) hA;replace hC:=hm3.objB (by omega) hC
 replace HR:=O (HR.out.keepS hall hm3 (fun k e=>by have e:k=b3:=e;omega));clear hm3 hB3;simp only[qB]
 have hck:w3.cell? ⟨b3,0,none⟩=some (.int .i64 k):=by rw[cell_of_row _ _ _ _ _ _ hB];rfl
 by_cases hbad:k≠3/\k≠4
 ·go_upto_region 5 with(fail)
  refine qL [3,1,3,3,3,1,3,3] ?_;simp only[qB];refine qG 3 hck ?_;try simp only[qC]
  refine qN _ _ _ _ _ _ _ _ rfl rfl rfl rfl rfl true (decide_eq_true (by omega)) ?_;simp only[qB];refine qG 3 hck ?_;try simp only[qC]
  refine qN _ _ _ _ _ _ _ _ rfl rfl rfl rfl rfl true (decide_eq_true (by omega)) ?_;simp only[qB];have hr0:=HMR.out;rw[if_pos hbad]at hr0;have HE:=O hr0;clear hr0
  have hszr:(qP k [] descZ (.slice none 0 0) (.slice none 0 0)).size=39:=zD (by first|exact xP|assumption)
  have hone:∀c∈qP k [] descZ (.slice none 0 0) (.slice none 0 0),c.oneCell'=true:=xY rfl rfl;go_upto_region 6 with(fail);refine qL [1,0,1,1] ?_
  simp only[qB];refine qY 163 (CellsAt.whole hB) 39 hszr ?_;try simp only[qC]
  refine yV (tN 20) ?_;simp only[qC];refine qK (yL 163 hone 39 hszr hA (fun wf hAf hmf=>?_));replace hC:=hmf.objB (by omega) hC
  have HRf:=O (HR.out.keepS hall hmf (fun k e=>by have e:k=b1:=e;omega));try simp only[qC]
  refine qK (qT 255 #[.int .i64 20,.int .i64 0] (by simp[Value.oneCell']) 2 rfl hC (fun wg hCg hmg=>?_) (hoff:=by rfl));have hAg:=hmg.objB (by omega) hAf
  have HRg:=O (HRf.out.keepS hall hmg (fun k e=>by have e:k=b2:=e;omega));simp only[qB]
  have hsz2:(prog.info? 163).map (·.size)=some (qP k [] descZ (.slice none 0 0) (.slice none 0 0)).size:=by rw[hszr];kernel_rfl
  clear HR hmf hmg hB hC hAf;go_wp2;refine aA underlying163 underlying255 hAg hCg hsz2 ?_;rw[HE.out]
  exact⟨HRg.out,_,20,0,rfl,by simp,by simp,xP,_,_,rfl,Gat.nil _ _ _ _ _,Gat.nil _ _ _ _ _⟩
 have hr0:=HMR.out;rw[if_neg hbad]at hr0;replace HMR:=O hr0;clear hr0;have h34:k=3\/k=4:=by omega
 clear hbad
 rcases h34 with rfl|rfl
 ·
  go_upto_region 5 with(fail);refine qL [3,1,3,3,3,0,3,3] ?_;simp only[qB];refine qG 3 hck ?_;try simp only[qC]
  refine qN _ _ _ _ _ _ _ _ rfl rfl rfl rfl rfl false (by decide) ?_;simp only[qB]
  have hsz0:(qP 3 [] descZ (.slice none 0 0) (.slice none 0 0)).size=39:=zD hzi;go_upto_region 7 with(fail);refine qL [3,1,3,1] ?_;simp only[qB]
  refine qK (xE func249 (HT2.out _ HR.out) ?_);rintro e w4 ⟨hr,rfl⟩;replace hA:=RrS.obj hr (by omega) hA;replace hB:=RrS.obj hr (by omega) hB
  replace hC:=RrS.obj hr (by omega) hC;replace HR:=O (HR.out.trans hr);clear hr;refine⟨_,rfl,?_⟩;simp only[qB]
  refine qK (zR 9 1 (.string ⟨t.toArray⟩) hB (fun w5 hB5 hm5=>?_));rw[bJ]at hB5;replace hB:=hB5;replace hA:=hm5.objB (by omega) hA
  replace hC:=hm5.objB (by omega) hC;replace HR:=O (HR.out.keepS hall hm5 (fun k e=>by have e:k=b3:=e;omega));clear hm5 hB5;simp only[qB];clear hsz0 hck
  have hsz0:(qP 3 t descZ (.slice none 0 0) (.slice none 0 0)).size=39:=zD hzi
  have hck:w5.cell? ⟨b3,0,none⟩=some (.int .i64 3):=by rw[cell_of_row _ _ _ _ _ _ hB];rfl
  obtain⟨⟨d,s4⟩,hd⟩:∃d,xG b s3=d:=⟨_,rfl⟩;have hdl:=(rDescL_ok (b:=b) (s:=s3)).2.1;have hdc:=HD.out _ _ HR.out;rw[hd]at hdl hdc
  dsimp only at hdl hdc
  have hdz:=zQ (m:=d.media) (n:=d.size) (p:=d.plat) hdl;replace hdz:(zG d).size=35:=hdz
  have hdo:∀c∈zG d,c.oneCell'=true:=pJ _ _ _ _;have hr0:=HMR.out;simp only[if_true,hd]at hr0;replace HMR:=O hr0;clear hr0 hd
  go_upto_region 9 with(fail);refine qL [3,1,3] ?_;simp only[qB];refine qG 3 hck ?_;try simp only[qC]
  refine qZ (fun _=>by go_simp;try with_reducible rfl) ?_;simp only[qB];clear hck;go_upto_region 10 with(fail);refine qL [3,1,3,1] ?_;simp only[qB]
  refine qK (xE func250 (hdc) ?_);rintro e w6 ⟨hr,rfl⟩;replace hA:=RrS.obj hr (by omega) hA;replace hB:=RrS.obj hr (by omega) hB;replace hC:=RrS.obj hr (by omega) hC
  replace HR:=O (HR.out.trans hr);clear hr;refine⟨_,rfl,?_⟩;simp only[qB];refine qK (xU 46 2 (zG d) hdo 35 hdz hB (fun w7 hB7 hm7=>?_))
  rw[manRow_putD hzi hdl]at hB7;replace hB:=hB7;replace hA:=hm7.objB (by omega) hA;replace hC:=hm7.objB (by omega) hC
  replace HR:=O (HR.out.keepS hall hm7 (fun k e=>by have e:k=b3:=e;omega));clear hm7 hB7;simp only[qB];clear hsz0
  have hszr0:(qP 3 t d (.slice none 0 0) (.slice none 0 0)).size=39:=zD hdl;obtain⟨r,hr1,hr2,hrc⟩:=HL.out _ _ HR.out
  obtain⟨⟨n,s5⟩,hn⟩:∃n,zM b s4=n:=⟨_,rfl⟩
  have HNC:Hid (∀w',RrS w w' rb bv b s4->Calls prog 248 #[iO rb] w' (RNumR w' rb bv b n s5)):=O (fun w' hw'=>by
   have:=HN.out w' _ hw'
   rwa[hn]at this)
  have hnb:=(rNumL_ok (b:=b) (s:=s4)).2.1;rw[hn]at hnb
  dsimp only at hnb
  have hr0:=HMR.out;simp only[hn]at hr0;replace HMR:=O hr0;clear hr0 hn;go_upto_region 12 with(fail);refine qL [3,3,1,3,3] ?_;simp only[qB]
  refine qK (pL func220 (hrc) fun w8 hm8=>?_);try simp only[qC]
  refine yC _ _ _ _ ((b.length:Nat):Int) r rfl rfl rfl rfl (by omega) (by omega) ?_;simp only[qB];replace hA:=hm8.obj id hA;replace hB:=hm8.obj id hB
  replace hC:=hm8.obj id hC;replace HR:=O (HR.out.post hm8);clear hm8 hrc;go_upto_region 13 with(fail);refine qL [3,1,3] ?_;simp only[qB]
  refine qK (xE func248 (HNC.out _ HR.out) ?_);rintro e w9 ⟨rfl,hr⟩;replace hA:=RrS.obj hr (by omega) hA;replace hB:=RrS.obj hr (by omega) hB
  replace hC:=RrS.obj hr (by omega) hC;replace HR:=O (HR.out.trans hr);clear hr;refine⟨_,rfl,?_⟩;simp only[qB]
  by_cases hmost:16<n
  ·have hmz:(n:Int)>16:=by omega
   have hr0:=HMR.out;rw[if_pos hmost]at hr0;have HE:=O hr0;clear hr0;have hszr:(qP 3 t d (.slice none 0 0) (.slice none 0 0)).size=39:=hszr0
   have hone:∀c∈qP 3 t d (.slice none 0 0) (.slice none 0 0),c.oneCell'=true:=xY rfl rfl;go_upto_region 15 with(fail);refine qL [1,3,0,1,1] ?_
   simp only[qB];refine qY 163 (CellsAt.whole hB) 39 hszr ?_;simp only[qB];refine yV (uI 4 (b.length-r)) ?_;simp only[qC]
   refine qK (yL 163 hone 39 hszr hA (fun wf hAf hmf=>?_));replace hC:=hmf.objB (by omega) hC
   have HRf:=O (HR.out.keepS hall hmf (fun k e=>by have e:k=b1:=e;omega));try simp only[qC]
   refine qK (qT 255 #[.int .i64 4,.int .i64 (b.length-r)] (by simp[Value.oneCell']) 2 rfl hC (fun wg hCg hmg=>?_) (hoff:=by rfl));have hAg:=hmg.objB (by omega) hAf
   have HRg:=O (HRf.out.keepS hall hmg (fun k e=>by have e:k=b2:=e;omega));simp only[qB]
   have hsz2:(prog.info? 163).map (·.size)=some (qP 3 t d (.slice none 0 0) (.slice none 0 0)).size:=by rw[hszr];kernel_rfl
   clear HR hmf hmg hB hC hAf;go_wp2;refine aA underlying163 underlying255 hAg hCg hsz2 ?_;rw[HE.out]
   exact⟨HRg.out,_,4,_,rfl,by simp,by simp,hdl,_,_,rfl,Gat.nil _ _ _ _ _,Gat.nil _ _ _ _ _⟩
  have hmz:¬(n:Int)>16:=by omega
  have hr0:=HMR.out;rw[if_neg hmost]at hr0;obtain⟨l,hl⟩:∃l,xA b n s5=l:=⟨_,rfl⟩;simp only[hl]at hr0;have HE:=O hr0;have HLL:=O hl;clear hr0 HMR hl
  have hw9:b3<w9.heap.size:=(Array.getElem?_eq_some_iff.1 hB).1
  have HR0:Hid (dG w rb bv b s5 n b1 b2 b3 (qP 3 t d (.slice none 0 0) (.slice none 0 0)) (.slice none 0 0) (.int .i64 (0:Nat)) w9):=O ⟨0,Nat.zero_le _,rfl,HR.out,Gat.nil _ _ _ _ _,hw9,hA,hC,hB⟩
  clear HR hA hB hC hw9;go_wp2
  go_loopw [10,11] (fun v i wx=>dG w rb bv b s5 n b1 b2 b3 (qP 3 t d (.slice none 0 0) (.slice none 0 0)) v i wx) (fun _ i _=>n-(intOf i).toNat)
  case atStart=>exact HR0.out
  case round=>
   rename iN=>wr
   obtain⟨j,hj,rfl,hrd,hg,hwr,hA,hC,hB⟩:=hrel
   by_cases hlt:j<n
   ·have hz:(j:Int)<(n:Int):=by omega
    have hidl:=(rDescL_ok (b:=b) (s:=(xA b j s5).2)).2.1;have hlen:=rD (b:=b) (s:=s5) j
    obtain⟨dd,hd⟩:∃d,(xG b (xA b j s5).2).1=d:=⟨_,rfl⟩;have hcall:=HD.out wr _ hrd;rw[hd]at hidl hcall;have HDD:=O hd
    have HEE:=O (aW hidl);have hds:=zQ (m:=dd.media) (n:=dd.size) (p:=dd.plat) hidl;replace hds:(zG dd).size=35:=hds
    have HRD:=O hrd;have HG:=O hg;clear hrd hg hd;go_upto_region 20 with(fail);refine qL [3,3,1,1,1,3] ?_;simp only[qB];refine qK (xE func250 (hcall) ?_)
    rintro e wa ⟨hr,rfl⟩;have HR2:=O (HRD.out.trans hr);have HG2:=O (HG.out.keep hr.2 (fun q hq e=>by have e:q=rb:=e;have:=(HG.out.lt hq).1;omega))
    replace hA:=RrS.obj hr (by omega) hA;replace hB:=RrS.obj hr (by omega) hB;replace hC:=RrS.obj hr (by omega) hC;have hwa:=hr.2.size;clear hr;refine⟨_,rfl,?_⟩
    try simp only[qC]
    refine qK (kK 161 (.agg (zG dd)) (.agg (zG descZ)) 35 hds (fun wb2 hBb hmb hsb=>?_))
    have hsrc:=uK (enc:=eG) (e:=46) (x:=dd) sL (by rw[HEE.out];exact hBb);have HR3:=O (HR2.out.post hmb);have HG3:=O (HG2.out.keep0 hmb)
    replace hA:=hmb.obj id hA;replace hB:=hmb.obj id hB;replace hC:=hmb.obj id hC;have hwb:=hmb.size;clear hmb hBb hsb;try simp only[qC]
    refine qK (cJ 161 sJ kT HG3.out _ [dd] hsrc (by rw[hlen];unfold maxLen;simp;omega) (by rw[hlen];simp;omega) (by omega) (fun v' wc hgc hmc=>?_) (hzs:=pO))
    have hne:∀q,q<=b3->¬Value.ownBlock _=some q:=fun q hq e=>by have:=(HG3.out.lt e).1;omega
    have HR4:=O (HR3.out.keepS hall hmc (fun q hq=>by have:=(HG3.out.lt hq).1;omega));have HG4:=O hgc;replace hA:=hmc.obj (hne b1 (by omega)) hA
    replace hB:=hmc.obj (hne b3 (by omega)) hB;replace hC:=hmc.obj (hne b2 (by omega)) hC;have hwc:=hmc.size;clear hmc hsrc hgc hne;simp only[qB]
    have HNX:Hid (xA b (j+1) s5=((xA b j s5).1++[dd],(xG b (xA b j s5).2).2)):=O (by rw[<-HDD.out];rfl)
    have HQ:Hid (dG w rb bv b s5 n b1 b2 b3 (qP 3 t d (.slice none 0 0) (.slice none 0 0)) v' (.int .i64 ((j+1:Nat):Int)) wc):=O ⟨j+1,by omega,rfl,by rw[HNX.out];exact HR4.out,by rw[HNX.out];exact HG4.out,by omega,hA,hC,hB⟩
    clear hcall hidl hA hB hC;go_wp2
    go_roundw
    case rel=>exact HQ.out
    case measure=>simp[intOf];omega
   ·have hz:¬(j:Int)<(n:Int):=by omega
    obtain rfl:j=n:=by omega
    rw[HLL.out]at hrd hg;have HR:=O hrd;have HG:=O hg;have hv1:Value.oneCell' u10=true:=jJ hg;clear hrd hg;go_upto_region 21 with(fail)
    refine qL [3,3,1] ?_;simp only[qB];refine qK (zR 161 38 u10 hB (fun wa hBa hma=>?_) (h1:=hv1));rw[tG hdl]at hBa;replace hB:=hBa
    replace hA:=hma.objB (by omega) hA;replace hC:=hma.objB (by omega) hC;replace HR:=O (HR.out.keepS hall hma (fun k e=>by have e:k=b3:=e;omega))
    replace HG:=O (HG.out.keep hma (fun q hq e=>by have e:q=b3:=e;have:=(HG.out.lt hq).1;omega));clear hma hBa;simp only[qB]
    have hck:wa.cell? ⟨b3,0,none⟩=some (.int .i64 3):=by rw[cell_of_row _ _ _ _ _ _ hB];rfl
    have hsz8:(qP 3 t d (.slice none 0 0) u10).size=39:=zD hdl;go_upto_region 22 with(fail);refine qL [3,1,3] ?_;simp only[qB];refine qG 3 hck ?_
    try simp only[qC]
    refine qZ (fun _=>by go_simp;try with_reducible rfl) ?_;simp only[qB];clear hck;go_upto_region 23 with(fail);refine qL [3,3,1] ?_;simp only[qB]
    refine qK (zR 161 37 u10 hB (fun wb3 hBa hma=>?_) (h1:=hv1));rw[manRow_put37 hdl]at hBa;replace hB:=hBa;replace hA:=hma.objB (by omega) hA
    replace hC:=hma.objB (by omega) hC;replace HR:=O (HR.out.keepS hall hma (fun k e=>by have e:k=b3:=e;omega))
    replace HG:=O (HG.out.keep hma (fun q hq e=>by have e:q=b3:=e;have:=(HG.out.lt hq).1;omega));clear hma hBa;simp only[qB]
    have hsz9:(qP 3 t d u10 u10).size=39:=zD hdl;go_upto_region 24 with(fail);refine qL [3,1] ?_;simp only[qB]
    refine qK (zR 161 38 (.slice none 0 0) hB (fun wd3 hBa hma=>?_));rw[tG hdl]at hBa;replace hB:=hBa;replace hA:=hma.objB (by omega) hA
    replace hC:=hma.objB (by omega) hC;replace HR:=O (HR.out.keepS hall hma (fun k e=>by have e:k=b3:=e;omega))
    replace HG:=O (HG.out.keep hma (fun q hq e=>by have e:q=b3:=e;have:=(HG.out.lt hq).1;omega));clear hma hBa;simp only[qB]
    have hszr:(qP 3 t d u10 (.slice none 0 0)).size=39:=zD hdl;have hone:∀c∈qP 3 t d u10 (.slice none 0 0),c.oneCell'=true:=xY hv1 rfl
    go_upto_region 25 with(fail);refine qL [1,0,1,1] ?_;simp only[qB];refine qY 163 (CellsAt.whole hB) 39 hszr ?_;try simp only[qC]
    refine yV built_fault0 ?_;simp only[qC];refine qK (yL 163 hone 39 hszr hA (fun wf hAf hmf=>?_));replace hC:=hmf.objB (by omega) hC
    have HRf:=O (HR.out.keepS hall hmf (fun k e=>by have e:k=b1:=e;omega));try simp only[qC]
    refine qK (qT 255 #[.int .i64 0,.int .i64 0] (by simp[Value.oneCell']) 2 rfl hC (fun wg hCg hmg=>?_) (hoff:=by rfl));have hAg:=hmg.objB (by omega) hAf
    have HRg:=O (HRf.out.keepS hall hmg (fun k e=>by have e:k=b2:=e;omega));simp only[qB]
    have HGf:=O (HG.out.keep hmf (fun q hq e=>by have e:q=b1:=e;have:=(HG.out.lt hq).1;omega))
    have HGg:=O (HGf.out.keep hmg (fun q hq e=>by have e:q=b2:=e;have:=(HGf.out.lt hq).1;omega))
    have hsz2:(prog.info? 163).map (·.size)=some (qP 3 t d u10 (.slice none 0 0)).size:=by rw[hszr];kernel_rfl
    clear HR hmf hmg hB hC hAf;go_wp2;refine aA underlying163 underlying255 hAg hCg hsz2 ?_;rw[HE.out]
    exact⟨HRg.out,_,0,0,rfl,by simp,by simp,hdl,_,_,rfl,HGg.out.base (by omega),Gat.nil _ _ _ _ _⟩
 ·
  go_upto_region 5 with(fail);refine qL [3,1,3,3,3,1,3,3] ?_;simp only[qB];refine qG 3 hck ?_;try simp only[qC]
  refine qN _ _ _ _ _ _ _ _ rfl rfl rfl rfl rfl true (by decide) ?_;simp only[qB];refine qG 3 hck ?_;try simp only[qC]
  refine qN _ _ _ _ _ _ _ _ rfl rfl rfl rfl rfl false (by decide) ?_;simp only[qB]
  have hsz0:(qP 4 [] descZ (.slice none 0 0) (.slice none 0 0)).size=39:=zD hzi;go_upto_region 7 with(fail);refine qL [3,1,3,1] ?_;simp only[qB]
  refine qK (xE func249 (HT2.out _ HR.out) ?_);rintro e w4 ⟨hr,rfl⟩;replace hA:=RrS.obj hr (by omega) hA;replace hB:=RrS.obj hr (by omega) hB
  replace hC:=RrS.obj hr (by omega) hC;replace HR:=O (HR.out.trans hr);clear hr;refine⟨_,rfl,?_⟩;simp only[qB]
  refine qK (zR 9 1 (.string ⟨t.toArray⟩) hB (fun w5 hB5 hm5=>?_));rw[bJ]at hB5;replace hB:=hB5;replace hA:=hm5.objB (by omega) hA
  replace hC:=hm5.objB (by omega) hC;replace HR:=O (HR.out.keepS hall hm5 (fun k e=>by have e:k=b3:=e;omega));clear hm5 hB5;simp only[qB];clear hsz0 hck
  have hsz0:(qP 4 t descZ (.slice none 0 0) (.slice none 0 0)).size=39:=zD hzi
  have hck:w5.cell? ⟨b3,0,none⟩=some (.int .i64 4):=by rw[cell_of_row _ _ _ _ _ _ hB];rfl
  have hr0:=HMR.out;simp only[show ¬((4:Nat)=3) by omega,if_false]at hr0;replace HMR:=O hr0;clear hr0;have hdl:=hzi;go_upto_region 9 with(fail)
  refine qL [3,1,3] ?_;simp only[qB];refine qG 3 hck ?_;try simp only[qC]
  refine qZ (fun _=>by go_simp;try with_reducible rfl) ?_;simp only[qB];clear hck hsz0
  have hszr0:(qP 4 t descZ (.slice none 0 0) (.slice none 0 0)).size=39:=zD hdl;obtain⟨r,hr1,hr2,hrc⟩:=HL.out _ _ HR.out
  obtain⟨⟨n,s5⟩,hn⟩:∃n,zM b s3=n:=⟨_,rfl⟩
  have HNC:Hid (∀w',RrS w w' rb bv b s3->Calls prog 248 #[iO rb] w' (RNumR w' rb bv b n s5)):=O (fun w' hw'=>by
   have:=HN.out w' _ hw'
   rwa[hn]at this)
  have hnb:=(rNumL_ok (b:=b) (s:=s3)).2.1;rw[hn]at hnb
  dsimp only at hnb
  have hr0:=HMR.out;simp only[hn]at hr0;replace HMR:=O hr0;clear hr0 hn;go_upto_region 12 with(fail);refine qL [3,3,1,3,3] ?_;simp only[qB]
  refine qK (pL func220 (hrc) fun w8 hm8=>?_);try simp only[qC]
  refine yC _ _ _ _ ((b.length:Nat):Int) r rfl rfl rfl rfl (by omega) (by omega) ?_;simp only[qB];replace hA:=hm8.obj id hA;replace hB:=hm8.obj id hB
  replace hC:=hm8.obj id hC;replace HR:=O (HR.out.post hm8);clear hm8 hrc;go_upto_region 13 with(fail);refine qL [3,1,3] ?_;simp only[qB]
  refine qK (xE func248 (HNC.out _ HR.out) ?_);rintro e w9 ⟨rfl,hr⟩;replace hA:=RrS.obj hr (by omega) hA;replace hB:=RrS.obj hr (by omega) hB
  replace hC:=RrS.obj hr (by omega) hC;replace HR:=O (HR.out.trans hr);clear hr;refine⟨_,rfl,?_⟩;simp only[qB]
  by_cases hmost:8<n
  ·have hmz:(n:Int)>8:=by omega
   have hr0:=HMR.out;rw[if_pos hmost]at hr0;have HE:=O hr0;clear hr0;have hszr:(qP 4 t descZ (.slice none 0 0) (.slice none 0 0)).size=39:=hszr0
   have hone:∀c∈qP 4 t descZ (.slice none 0 0) (.slice none 0 0),c.oneCell'=true:=xY rfl rfl;go_upto_region 15 with(fail);refine qL [1,3,0,1,1] ?_
   simp only[qB];refine qY 163 (CellsAt.whole hB) 39 hszr ?_;simp only[qB];refine yV (uI 4 (b.length-r)) ?_;simp only[qC]
   refine qK (yL 163 hone 39 hszr hA (fun wf hAf hmf=>?_));replace hC:=hmf.objB (by omega) hC
   have HRf:=O (HR.out.keepS hall hmf (fun k e=>by have e:k=b1:=e;omega));try simp only[qC]
   refine qK (qT 255 #[.int .i64 4,.int .i64 (b.length-r)] (by simp[Value.oneCell']) 2 rfl hC (fun wg hCg hmg=>?_) (hoff:=by rfl));have hAg:=hmg.objB (by omega) hAf
   have HRg:=O (HRf.out.keepS hall hmg (fun k e=>by have e:k=b2:=e;omega));simp only[qB]
   have hsz2:(prog.info? 163).map (·.size)=some (qP 4 t descZ (.slice none 0 0) (.slice none 0 0)).size:=by rw[hszr];kernel_rfl
   clear HR hmf hmg hB hC hAf;go_wp2;refine aA underlying163 underlying255 hAg hCg hsz2 ?_;rw[HE.out]
   exact⟨HRg.out,_,4,_,rfl,by simp,by simp,hdl,_,_,rfl,Gat.nil _ _ _ _ _,Gat.nil _ _ _ _ _⟩
  have hmz:¬(n:Int)>8:=by omega
  have hr0:=HMR.out;rw[if_neg hmost]at hr0;obtain⟨l,hl⟩:∃l,xA b n s5=l:=⟨_,rfl⟩;simp only[hl]at hr0;have HE:=O hr0;have HLL:=O hl;clear hr0 HMR hl
  have hw9:b3<w9.heap.size:=(Array.getElem?_eq_some_iff.1 hB).1
  have HR0:Hid (dG w rb bv b s5 n b1 b2 b3 (qP 4 t descZ (.slice none 0 0) (.slice none 0 0)) (.slice none 0 0) (.int .i64 (0:Nat)) w9):=O ⟨0,Nat.zero_le _,rfl,HR.out,Gat.nil _ _ _ _ _,hw9,hA,hC,hB⟩
  clear HR hA hB hC hw9;go_wp2
  go_loopw [10,11] (fun v i wx=>dG w rb bv b s5 n b1 b2 b3 (qP 4 t descZ (.slice none 0 0) (.slice none 0 0)) v i wx) (fun _ i _=>n-(intOf i).toNat)
  case atStart=>exact HR0.out
  case round=>
   rename iN=>wr
   obtain⟨j,hj,rfl,hrd,hg,hwr,hA,hC,hB⟩:=hrel
   by_cases hlt:j<n
   ·have hz:(j:Int)<(n:Int):=by omega
    have hidl:=(rDescL_ok (b:=b) (s:=(xA b j s5).2)).2.1;have hlen:=rD (b:=b) (s:=s5) j
    obtain⟨dd,hd⟩:∃d,(xG b (xA b j s5).2).1=d:=⟨_,rfl⟩;have hcall:=HD.out wr _ hrd;rw[hd]at hidl hcall;have HDD:=O hd
    have HEE:=O (aW hidl);have hds:=zQ (m:=dd.media) (n:=dd.size) (p:=dd.plat) hidl;replace hds:(zG dd).size=35:=hds
    have HRD:=O hrd;have HG:=O hg;clear hrd hg hd;go_upto_region 20 with(fail);refine qL [3,3,1,1,1,3] ?_;simp only[qB];refine qK (xE func250 (hcall) ?_)
    rintro e wa ⟨hr,rfl⟩;have HR2:=O (HRD.out.trans hr);have HG2:=O (HG.out.keep hr.2 (fun q hq e=>by have e:q=rb:=e;have:=(HG.out.lt hq).1;omega))
    replace hA:=RrS.obj hr (by omega) hA;replace hB:=RrS.obj hr (by omega) hB;replace hC:=RrS.obj hr (by omega) hC;have hwa:=hr.2.size;clear hr;refine⟨_,rfl,?_⟩
    try simp only[qC]
    refine qK (kK 161 (.agg (zG dd)) (.agg (zG descZ)) 35 hds (fun wb2 hBb hmb hsb=>?_))
    have hsrc:=uK (enc:=eG) (e:=46) (x:=dd) sL (by rw[HEE.out];exact hBb);have HR3:=O (HR2.out.post hmb);have HG3:=O (HG2.out.keep0 hmb)
    replace hA:=hmb.obj id hA;replace hB:=hmb.obj id hB;replace hC:=hmb.obj id hC;have hwb:=hmb.size;clear hmb hBb hsb;try simp only[qC]
    refine qK (cJ 161 sJ kT HG3.out _ [dd] hsrc (by rw[hlen];unfold maxLen;simp;omega) (by rw[hlen];simp;omega) (by omega) (fun v' wc hgc hmc=>?_) (hzs:=pO))
    have hne:∀q,q<=b3->¬Value.ownBlock _=some q:=fun q hq e=>by have:=(HG3.out.lt e).1;omega
    have HR4:=O (HR3.out.keepS hall hmc (fun q hq=>by have:=(HG3.out.lt hq).1;omega));have HG4:=O hgc;replace hA:=hmc.obj (hne b1 (by omega)) hA
    replace hB:=hmc.obj (hne b3 (by omega)) hB;replace hC:=hmc.obj (hne b2 (by omega)) hC;have hwc:=hmc.size;clear hmc hsrc hgc hne;simp only[qB]
    have HNX:Hid (xA b (j+1) s5=((xA b j s5).1++[dd],(xG b (xA b j s5).2).2)):=O (by rw[<-HDD.out];rfl)
    have HQ:Hid (dG w rb bv b s5 n b1 b2 b3 (qP 4 t descZ (.slice none 0 0) (.slice none 0 0)) v' (.int .i64 ((j+1:Nat):Int)) wc):=O ⟨j+1,by omega,rfl,by rw[HNX.out];exact HR4.out,by rw[HNX.out];exact HG4.out,by omega,hA,hC,hB⟩
    clear hcall hidl hA hB hC;go_wp2
    go_roundw
    case rel=>exact HQ.out
    case measure=>simp[intOf];omega
   ·have hz:¬(j:Int)<(n:Int):=by omega
    obtain rfl:j=n:=by omega
    rw[HLL.out]at hrd hg;have HR:=O hrd;have HG:=O hg;have hv1:Value.oneCell' u10=true:=jJ hg;clear hrd hg;go_upto_region 21 with(fail)
    refine qL [3,3,1] ?_;simp only[qB];refine qK (zR 161 38 u10 hB (fun wa hBa hma=>?_) (h1:=hv1));rw[tG hdl]at hBa;replace hB:=hBa
    replace hA:=hma.objB (by omega) hA;replace hC:=hma.objB (by omega) hC;replace HR:=O (HR.out.keepS hall hma (fun k e=>by have e:k=b3:=e;omega))
    replace HG:=O (HG.out.keep hma (fun q hq e=>by have e:q=b3:=e;have:=(HG.out.lt hq).1;omega));clear hma hBa;simp only[qB]
    have hck:wa.cell? ⟨b3,0,none⟩=some (.int .i64 4):=by rw[cell_of_row _ _ _ _ _ _ hB];rfl
    have hsz8:(qP 4 t descZ (.slice none 0 0) u10).size=39:=zD hdl;go_upto_region 22 with(fail);refine qL [3,1,3] ?_;simp only[qB];refine qG 3 hck ?_
    try simp only[qC]
    refine qZ (fun _=>by go_simp;try with_reducible rfl) ?_;simp only[qB];clear hck;have hszr:(qP 4 t descZ (.slice none 0 0) u10).size=39:=zD hdl
    have hone:∀c∈qP 4 t descZ (.slice none 0 0) u10,c.oneCell'=true:=xY rfl hv1;go_upto_region 25 with(fail);refine qL [1,0,1,1] ?_;simp only[qB]
    refine qY 163 (CellsAt.whole hB) 39 hszr ?_;try simp only[qC]
    refine yV built_fault0 ?_;simp only[qC];refine qK (yL 163 hone 39 hszr hA (fun wf hAf hmf=>?_));replace hC:=hmf.objB (by omega) hC
    have HRf:=O (HR.out.keepS hall hmf (fun k e=>by have e:k=b1:=e;omega));try simp only[qC]
    refine qK (qT 255 #[.int .i64 0,.int .i64 0] (by simp[Value.oneCell']) 2 rfl hC (fun wg hCg hmg=>?_) (hoff:=by rfl));have hAg:=hmg.objB (by omega) hAf
    have HRg:=O (HRf.out.keepS hall hmg (fun k e=>by have e:k=b2:=e;omega));simp only[qB]
    have HGf:=O (HG.out.keep hmf (fun q hq e=>by have e:q=b1:=e;have:=(HG.out.lt hq).1;omega))
    have HGg:=O (HGf.out.keep hmg (fun q hq e=>by have e:q=b2:=e;have:=(HGf.out.lt hq).1;omega))
    have hsz2:(prog.info? 163).map (·.size)=some (qP 4 t descZ (.slice none 0 0) u10).size:=by rw[hszr];kernel_rfl
    clear HR hmf hmg hB hC hAf;go_wp2;refine aA underlying163 underlying255 hAg hCg hsz2 ?_;rw[HE.out]
    exact⟨HRg.out,_,0,0,rfl,by simp,by simp,hdl,_,_,rfl,Gat.nil _ _ _ _ _,HGg.out.base (by omega)⟩
end
theorem gI{own:Bool}(h:Sl own w G 1 yA v b)(hv:∀k,v.ownBlock=some k->k<w.heap.size)(hl:b.length<=4096):Calls prog 164 #[v] w (DecR w b):=by
 obtain⟨ad,cap,rfl,-,-⟩:=Sl.at h;have H:=O h;have HV:=O hv;have hlz:¬((b.length:Nat):Int)>4096:=by omega
 have HDL:Hid (kA b=if(cS b).2.2=true/\(cS b).2.1=some b.length then some (cS b).1 else none):=O (by unfold kA;simp only[hl,true_and])
 obtain⟨⟨m,s,ok⟩,hmr⟩:∃r,cS b=r:=⟨_,rfl⟩;rw[hmr]at HDL;have HMR:=O hmr;clear h hv hmr
 have hz39:(qP 0 [] descZ (.slice none 0 0) (.slice none 0 0)).size=39:=zD xP;go_enter func164,ntmps164;go_upto_region 0 with(fail);refine qL [1,1] ?_
 simp only[qB];refine qK (zB aO (fun wx hBx hmx hsx=>?_));try simp only[qC]
 refine qK (zB fZ (fun wy hBy hmy hsy=>?_));simp only[qB];have hA:=hmy.obj id hBx;have hC:=hBy;have hM:=hmx.trans0 hmy;have l1:w.heap.size<wx.heap.size:=hsx
 have l2:wx.heap.size<wy.heap.size:=hsy;generalize hb1:w.heap.size=b1 at*;generalize hb2:wx.heap.size=b2 at*;clear hmx hmy hBx hBy hsx hsy
 go_upto_region 3 with(fail);refine qL [3,1,3] ?_;simp only[qB]
 refine qK (xE func217 (rrNew_any (H.out.keep0 hM) (fun k hk=>by have:=HV.out k hk;have:=hM.size;omega) hl) ?_);rintro e w3 ⟨rb,rfl,hri,hm3,hrb⟩;refine⟨_,rfl,?_⟩
 simp only[qB];have hrd:=r11read_any hri;rw[HMR.out]at hrd;replace hA:=hm3.obj id hA;replace hC:=hm3.obj id hC;replace hM:=hm3.size|>fun _=>hM.trans0 hm3
 have l3:=hm3.size;generalize hs3:w3.heap.size=s3 at*;clear hri hm3;go_upto_region 4 with(fail);refine qL [3,3,3,1,3,3,3,1,1,1,1] ?_;simp only[qB]
 refine xF ?_;simp only[qC];refine qK (xE func218 (hrd) ?_);rintro e w4 ⟨hr4,cs,er,at_,rfl,he1,he2,hmc⟩;obtain⟨⟨a6,e6,p6,hri4,hst4⟩,hm34⟩:=hr4
 have hA4:=hm34.obj (fun e=>by omega) hA;have hC4:=hm34.obj (fun e=>by omega) hC
 have hM4:Mod qJ w w4:=hM.trans hm34 (fun k hk e=>by
  have e':k=rb:=e
  omega)
 have hcs:=hmc.size;have hone:=hmc.one;have l34:=hm34.size;rw[hs3]at l34 hmc
 have hmcs:∀(S:iM)(w':iN),Mod S w4 w'->(∀k,S k->w4.heap.size<=k\/k<=b2)->ManC b1 w' cs m:=fun S w' hmm hS=>by
  obtain⟨q0,lv,sv,q1,q2,q3⟩:=hmc;refine⟨q0,lv,sv,q1,(q2.keep hmm (fun k hk e=>?_)).base (by omega),(q3.keep hmm (fun k hk e=>?_)).base (by omega)⟩
  ·have:=q2.lt hk;have:=hS k e;omega
  ·have:=q3.lt hk;have:=hS k e;omega
 have HMC0:=O hmcs;clear hmc hmcs;refine⟨_,rfl,?_⟩;simp only[qB];refine qZ (fun _=>by go_simp;try with_reducible rfl) ?_;simp only[qC]
 refine qZ (fun _=>by go_simp;try with_reducible rfl) ?_;simp only[qC];refine qK (zB aO (fun w7 hB7 hm7 hs7=>?_));try simp only[qC]
 refine qK (zB fZ (fun w8 hB8 hm8 hs8=>?_));try simp only[qC]
 refine qK (yL 163 hone 39 hcs (hm8.obj id hB7) (fun w9 hB9 hm9=>?_) (hoff:=by rw[hcs];exact hz39.symm));have hB8':=hm9.objB (by omega) hB8;try simp only[qC]
 refine qK (qT 255 #[.int .i64 er,.int .i64 at_] (by simp[Value.oneCell']) 2 rfl hB8' (fun wa hBa hma=>?_) (hoff:=by rfl));have hB9':=hma.objB (by omega) hB9
 simp only[qB];have hm4a:Mod qJ w4 wa:=((hm7.trans0 hm8).transB hm9 (Nat.le_refl _)).transB hma (by omega);have HMa:=O (hM4.trans0 hm4a);have hAa:=hm4a.obj id hA4
 have hCa:=hm4a.obj id hC4;have hria:=hri4.keep0 hm4a;have l4a:=hm4a.size;have hend:=rrEnd_any hria;have l47:w4.heap.size<w7.heap.size:=hs7
 have l7a:w7.heap.size<wa.heap.size:=(Array.getElem?_eq_some_iff.1 hBa).1
 have HMC1:Hid (∀(S:iM)(w':iN),Mod S wa w'->(∀k,S k->w4.heap.size<=k\/k<=b2)->ManC b1 w' cs m):=O (fun S w' hmm hS=>HMC0.out S w' ((hm4a.mono (fun _ _ h=>h.elim)).trans hmm (fun _ _ h=>h)) hS)
 have HST:=O hst4;have l24:b2<w4.heap.size:=by omega
 have HRI:=O hria;generalize hb5:w4.heap.size=b5 at*;generalize hb6:w7.heap.size=b6 at*
 clear hM hM4 hA hC hA4 hC4 hm34 hm4a hm7 hm8 hm9 hma hB7 hB8 hB8' hB9 hri4 hria hst4 hrd HMC0;go_upto_region 5 with(fail);refine qL [3,1,1,1] ?_;simp only[qB]
 refine qK (xE func219 (hend) ?_);rintro e wc ⟨hmc,er2,at2,rfl,hg1,hg2⟩;refine⟨_,rfl,?_⟩;try simp only[qC]
 refine qK (zB fZ (fun wd hBd hmd hsd=>?_));try simp only[qC]
 refine qK (qT 255 #[.int .i64 er2,.int .i64 at2] (by simp[Value.oneCell']) 2 rfl hBd (fun we hBe hme=>?_) (hoff:=by rfl));simp only[qB];have lac:=hmc.size
 have hmae:Mod qJ wa we:=(hmc.trans0 hmd).transB hme lac;have HM:=O (HMa.out.trans0 hmae);have hA:=hmae.obj id hAa;have hC:=hmae.obj id hCa
 have hB5:=hmae.obj id hB9';have hF:=hmae.obj id hBa;have hE:=hBe
 have HMC:Hid (∀(S:iM)(w':iN),Mod S we w'->(∀k,S k->b5<=k\/k<=b2)->ManC b1 w' cs m):=O (fun S w' hmm hS=>HMC1.out S w' ((hmae.mono (fun _ _ h=>h.elim)).trans hmm (fun _ _ h=>h)) hS)
 have hrst:=rrRest_any (HRI.out.keep0 hmae)
 have hgst:er2=0↔s=some b.length:=by
  have hst:yW a6 e6=s:=HST.out;rw[hg1,<-hst];unfold yW
  by_cases h6:e6=0
  ·simp[h6]
  ·simp[h6]
 have l6c:b6<wc.heap.size:=by omega
 have hce:we.cell? ⟨wc.heap.size,0,none⟩=some (.int .i64 er2):=by rw[cell_of_row _ _ _ _ _ _ hE];rfl
 generalize hb7:wc.heap.size=b7 at*;obtain⟨rs,hrs⟩:∃rs,(if e6≠0 then 0 else(b.length:Int)-a6)=rs:=⟨_,rfl⟩;rw[hrs]at hrst
 clear hmc hmd hme hmae hBd hBe hAa hCa hB9' hBa hend hg1 HMa HMC1 HST HRI hrs
 by_cases h2:er2=0
 ·subst h2
  obtain rfl:=hg2 rfl;go_upto_region 6 with(fail);refine qL [3,1,3,3,3,1,3,3,3] ?_;simp only[qB];refine qG 33 hce ?_;try simp only[qC]
  refine qN _ _ _ _ _ _ _ _ rfl rfl rfl rfl rfl false (by decide) ?_;simp only[qB];refine xN rfl trivial ?_;simp only[qB];clear hce hrst
  by_cases h1:er=0
  ·subst h1
   obtain rfl:=he2 rfl;have hyes:ok=true/\s=some b.length:=⟨he1.1 rfl,hgst.1 rfl⟩
   have hcf:we.cell? ⟨b6,0,none⟩=some (.int .i64 0):=by rw[cell_of_row _ _ _ _ _ _ hF];rfl
   go_upto_region 7 with(fail);refine qL [3,3,3,1,3,3] ?_;simp only[qB];refine qG 33 hcf ?_;try simp only[qC]
   refine aE (b:=true) rfl ?_;simp only[qB];clear hcf;go_upto_region 8 with(fail);refine qL [1,1] ?_;simp only[qB];refine qY 255 (CellsAt.whole hE) 2 rfl ?_
   try simp only[qC]
   refine qK (qT 255 #[.int .i64 0,.int .i64 0] (by simp[Value.oneCell']) 2 rfl hF (fun wz hBz hmz=>?_) (hoff:=by rfl))
   replace HM:=O (HM.out.transB hmz (by omega));replace hA:=hmz.objB (by omega) hA;replace hC:=hmz.objB (by omega) hC;replace hB5:=hmz.objB (by omega) hB5
   replace HMC:Hid (∀(S:iM)(w':iN),Mod S wz w'->(∀k,S k->b5<=k\/k<=b2)->ManC b1 w' cs m):=O (fun S w' hmm hS=>HMC.out (fun k=>k=b6\/S k) w' ((hmz.mono (fun _ _ h=>.inl h)).trans hmm (fun _ _ h=>.inr h)) (fun k hk=>hk.elim (fun e=>.inl (by omega)) (hS k)))
   clear hF hmz;simp only[qB];replace hF:=hBz;clear hBz hE;have hcf:wz.cell? ⟨b6,0,none⟩=some (.int .i64 0):=by rw[cell_of_row _ _ _ _ _ _ hF];rfl
   go_upto_region 9 with(fail);refine qL [3,1,3] ?_;simp only[qB];refine qG 33 hcf ?_;try simp only[qC]
   refine qN _ _ _ _ _ _ _ _ rfl rfl rfl rfl rfl false (by decide) ?_;simp only[qB];go_upto_region 11 with(fail)
   have hS:Mod (fun k=>k=b1) wz wz.drew:=(Mod.refl _ _).drew
   have hAd:wz.drew.heap[b1]?=some (.cells (qP 0 [] descZ (.slice none 0 0) (.slice none 0 0)) 163 (0,0)):=hA
   refine zZ [0,0,1,2] [3] (fun w'=>Mod (fun k=>k=b1) wz w') hS ?_;simp only[qB];refine zJ 163 (fun w' hS=>CellsAt.whole (hS.objB (by omega) hB5)) 39 hcs ?_
   simp only[qC];refine zJ 255 (fun w' hS=>CellsAt.whole (hS.objB (by omega) hF)) 2 rfl ?_;simp only[qC];refine qH rfl (fun K hK=>?_)
   refine yL 163 hone 39 hcs hAd (fun wg hBg hmg=>?_) (hoff:=by rw[hcs,hz39]);have hSg:Mod (fun k=>k=b1) wz wg:=hS.trans hmg (fun _ _ h=>h)
   refine hK _ _ hSg ?_;clear hK K;try simp only[qC]
   refine zP rfl (fun K hK=>?_)
   refine qT 255 #[.int .i64 0,.int .i64 0] (by simp[Value.oneCell']) 2 rfl (hSg.objB (by omega) hC) (fun wh hCh hmh=>?_) (hoff:=by rfl)
   have hBh:=hmh.objB (by omega) hBg;refine hK _ _ ?_;clear hK K;simp only[qB];have HMh:=O ((HM.out.transB hSg (by omega)).transB hmh (by omega))
   have HMCh:=O (HMC.out (fun k=>k=b1\/k=b2) wh ((hSg.mono (fun _ _ h=>.inl h)).trans hmh (fun _ _ h=>.inr h)) (fun k hk=>.inr (by omega)))
   have hsz2:(prog.info? 163).map (·.size)=some cs.size:=by rw[hcs];kernel_rfl
   clear hS hSg hmg hmh hBg hAd hA hC hF hB5 HM HMC hcf;go_wp2;refine aA underlying163 underlying255 hBh hCh hsz2 ?_;have hdn:kA b=some m:=by rw[HDL.out,if_pos hyes]
   rw[show DecR w b=fun x w'=>Mod qJ w w'/\∃(cs:iL)(er at_:Int),x=.returned (.tuple #[.agg cs,.agg #[.int .i64 er,.int .i64 at_]])/\(er=0↔(kA b).isSome=true)/\ManC w.heap.size w' cs ((kA b).getD fX)from rfl,hdn]
   exact⟨HMh.out,_,0,0,rfl,by simp,by rw[hb1];exact HMCh.out⟩
  ·have hne1:¬er=0:=h1
   have hno:¬(ok=true/\s=some b.length):=fun hq=>h1 (he1.2 hq.1);have hcf:we.cell? ⟨b6,0,none⟩=some (.int .i64 er):=by rw[cell_of_row _ _ _ _ _ _ hF];rfl
   go_upto_region 7 with(fail);refine qL [3,3,3,1,3,3] ?_;simp only[qB];refine qG 33 hcf ?_;try simp only[qC]
   refine xT hne1 ?_;simp only[qB];clear hcf;clear hE
   rename iN=>wz
   have hcf:wz.cell? ⟨b6,0,none⟩=some (.int .i64 er):=by rw[cell_of_row _ _ _ _ _ _ hF];rfl
   go_upto_region 9 with(fail);refine qL [3,1,3] ?_;simp only[qB];refine qG 33 hcf ?_;try simp only[qC]
   refine xD hne1 ?_;simp only[qB];go_upto_region 10 with(fail)
   have hzo:∀c∈qP 0 [] descZ (.slice none 0 0) (.slice none 0 0),c.oneCell'=true:=xY rfl rfl
   have hS:Mod (fun k=>k=b1) wz wz.drew:=(Mod.refl _ _).drew
   have hAd:wz.drew.heap[b1]?=some (.cells (qP 0 [] descZ (.slice none 0 0) (.slice none 0 0)) 163 (0,0)):=hA
   refine zZ [0,0,1,2] [3] (fun w'=>Mod (fun k=>k=b1) wz w') hS ?_;simp only[qB];refine yV tY ?_;simp only[qC]
   refine zJ 255 (fun w' hS=>CellsAt.whole (hS.objB (by omega) hF)) 2 rfl ?_;simp only[qC];refine qH rfl (fun K hK=>?_)
   refine yL 163 hzo 39 hz39 hAd (fun wg hBg hmg=>?_) (hoff:=by rfl);have hSg:Mod (fun k=>k=b1) wz wg:=hS.trans hmg (fun _ _ h=>h);refine hK _ _ hSg ?_
   clear hK K;try simp only[qC]
   refine zP rfl (fun K hK=>?_)
   refine qT 255 #[.int .i64 er,.int .i64 at_] (by simp[Value.oneCell']) 2 rfl (hSg.objB (by omega) hC) (fun wh hCh hmh=>?_) (hoff:=by rfl)
   have hBh:=hmh.objB (by omega) hBg;refine hK _ _ ?_;clear hK K;simp only[qB];have HMh:=O ((HM.out.transB hSg (by omega)).transB hmh (by omega))
   have hsz2:(prog.info? 163).map (·.size)=some (qP 0 [] descZ (.slice none 0 0) (.slice none 0 0)).size:=by rw[hz39];kernel_rfl
   clear hS hSg hmg hmh hBg hAd hA hC hF hB5 HM HMC hcf;go_wp2;refine aA underlying163 underlying255 hBh hCh hsz2 ?_;have hdn:kA b=none:=by rw[HDL.out,if_neg hno]
   rw[show DecR w b=fun x w'=>Mod qJ w w'/\∃(cs:iL)(er at_:Int),x=.returned (.tuple #[.agg cs,.agg #[.int .i64 er,.int .i64 at_]])/\(er=0↔(kA b).isSome=true)/\ManC w.heap.size w' cs ((kA b).getD fX)from rfl,hdn]
   exact⟨HMh.out,_,er,at_,rfl,by simp[hne1],xP,_,_,rfl,Gat.nil _ _ _ _ _,Gat.nil _ _ _ _ _⟩
 ·have hne2:¬er2=0:=h2
  have hno:¬(ok=true/\s=some b.length):=fun hq=>h2 (hgst.2 hq.2)
  by_cases hr:rs=0
  ·subst hr
   go_upto_region 6 with(fail);refine qL [3,1,3,3,3,1,3,3,3] ?_;simp only[qB];refine qG 33 hce ?_;try simp only[qC]
   refine xD hne2 ?_;simp only[qB];refine qK (pL func220 (hrst) fun wr hmr=>?_);try simp only[qC]
   refine aE (b:=true) rfl ?_;simp only[qB];replace hA:=hmr.obj id hA;replace hC:=hmr.obj id hC;replace hB5:=hmr.obj id hB5;replace hF:=hmr.obj id hF
   replace hE:=hmr.obj id hE;replace HM:=O (HM.out.trans0 hmr)
   replace HMC:Hid (∀(S:iM)(w':iN),Mod S wr w'->(∀k,S k->b5<=k\/k<=b2)->ManC b1 w' cs m):=O (fun S w' hmm hS=>HMC.out S w' ((hmr.mono (fun _ _ h=>h.elim)).trans hmm (fun _ _ h=>h)) hS)
   clear hce hrst hmr;go_upto_region 7 with(fail);refine qL [3,3,3,0,3,3] ?_;simp only[qB];go_upto_region 8 with(fail);refine qL [1,1] ?_;simp only[qB]
   refine qY 255 (CellsAt.whole hE) 2 rfl ?_;try simp only[qC]
   refine qK (qT 255 #[.int .i64 er2,.int .i64 at2] (by simp[Value.oneCell']) 2 rfl hF (fun wz hBz hmz=>?_) (hoff:=by rfl))
   replace HM:=O (HM.out.transB hmz (by omega));replace hA:=hmz.objB (by omega) hA;replace hC:=hmz.objB (by omega) hC;replace hB5:=hmz.objB (by omega) hB5
   replace HMC:Hid (∀(S:iM)(w':iN),Mod S wz w'->(∀k,S k->b5<=k\/k<=b2)->ManC b1 w' cs m):=O (fun S w' hmm hS=>HMC.out (fun k=>k=b6\/S k) w' ((hmz.mono (fun _ _ h=>.inl h)).trans hmm (fun _ _ h=>.inr h)) (fun k hk=>hk.elim (fun e=>.inl (by omega)) (hS k)))
   clear hF hmz;simp only[qB];replace hF:=hBz;clear hBz hE;have hcf:wz.cell? ⟨b6,0,none⟩=some (.int .i64 er2):=by rw[cell_of_row _ _ _ _ _ _ hF];rfl
   go_upto_region 9 with(fail);refine qL [3,1,3] ?_;simp only[qB];refine qG 33 hcf ?_;try simp only[qC]
   refine xD hne2 ?_;simp only[qB];go_upto_region 10 with(fail)
   have hzo:∀c∈qP 0 [] descZ (.slice none 0 0) (.slice none 0 0),c.oneCell'=true:=xY rfl rfl
   have hS:Mod (fun k=>k=b1) wz wz.drew:=(Mod.refl _ _).drew
   have hAd:wz.drew.heap[b1]?=some (.cells (qP 0 [] descZ (.slice none 0 0) (.slice none 0 0)) 163 (0,0)):=hA
   refine zZ [0,0,1,2] [3] (fun w'=>Mod (fun k=>k=b1) wz w') hS ?_;simp only[qB];refine yV tY ?_;simp only[qC]
   refine zJ 255 (fun w' hS=>CellsAt.whole (hS.objB (by omega) hF)) 2 rfl ?_;simp only[qC];refine qH rfl (fun K hK=>?_)
   refine yL 163 hzo 39 hz39 hAd (fun wg hBg hmg=>?_) (hoff:=by rfl);have hSg:Mod (fun k=>k=b1) wz wg:=hS.trans hmg (fun _ _ h=>h);refine hK _ _ hSg ?_
   clear hK K;try simp only[qC]
   refine zP rfl (fun K hK=>?_)
   refine qT 255 #[.int .i64 er2,.int .i64 at2] (by simp[Value.oneCell']) 2 rfl (hSg.objB (by omega) hC) (fun wh hCh hmh=>?_) (hoff:=by rfl)
   have hBh:=hmh.objB (by omega) hBg;refine hK _ _ ?_;clear hK K;simp only[qB];have HMh:=O ((HM.out.transB hSg (by omega)).transB hmh (by omega))
   have hsz2:(prog.info? 163).map (·.size)=some (qP 0 [] descZ (.slice none 0 0) (.slice none 0 0)).size:=by rw[hz39];kernel_rfl
   clear hS hSg hmg hmh hBg hAd hA hC hF hB5 HM HMC hcf;go_wp2;refine aA underlying163 underlying255 hBh hCh hsz2 ?_;have hdn:kA b=none:=by rw[HDL.out,if_neg hno]
   rw[show DecR w b=fun x w'=>Mod qJ w w'/\∃(cs:iL)(er at_:Int),x=.returned (.tuple #[.agg cs,.agg #[.int .i64 er,.int .i64 at_]])/\(er=0↔(kA b).isSome=true)/\ManC w.heap.size w' cs ((kA b).getD fX)from rfl,hdn]
   exact⟨HMh.out,_,er2,at2,rfl,by simp[hne2],xP,_,_,rfl,Gat.nil _ _ _ _ _,Gat.nil _ _ _ _ _⟩
  ·go_upto_region 6 with(fail)
   refine qL [3,1,3,3,3,1,3,3,3] ?_;simp only[qB];refine qG 33 hce ?_;try simp only[qC]
   refine xD hne2 ?_;simp only[qB];refine qK (pL func220 (hrst) fun wr hmr=>?_);try simp only[qC]
   refine xT hr ?_;simp only[qB];replace hA:=hmr.obj id hA;replace hC:=hmr.obj id hC;replace hB5:=hmr.obj id hB5;replace hF:=hmr.obj id hF
   replace hE:=hmr.obj id hE;replace HM:=O (HM.out.trans0 hmr)
   replace HMC:Hid (∀(S:iM)(w':iN),Mod S wr w'->(∀k,S k->b5<=k\/k<=b2)->ManC b1 w' cs m):=O (fun S w' hmm hS=>HMC.out S w' ((hmr.mono (fun _ _ h=>h.elim)).trans hmm (fun _ _ h=>h)) hS)
   clear hce hrst hmr
   by_cases h1:er=0
   ·subst h1
    obtain rfl:=he2 rfl;have hcf:wr.cell? ⟨b6,0,none⟩=some (.int .i64 0):=by rw[cell_of_row _ _ _ _ _ _ hF];rfl
    go_upto_region 7 with(fail);refine qL [3,3,3,1,3,3] ?_;simp only[qB];refine qG 33 hcf ?_;try simp only[qC]
    refine aE (b:=true) rfl ?_;simp only[qB];clear hcf;go_upto_region 8 with(fail);refine qL [1,1] ?_;simp only[qB];refine qY 255 (CellsAt.whole hE) 2 rfl ?_
    try simp only[qC]
    refine qK (qT 255 #[.int .i64 er2,.int .i64 at2] (by simp[Value.oneCell']) 2 rfl hF (fun wz hBz hmz=>?_) (hoff:=by rfl))
    replace HM:=O (HM.out.transB hmz (by omega));replace hA:=hmz.objB (by omega) hA;replace hC:=hmz.objB (by omega) hC;replace hB5:=hmz.objB (by omega) hB5
    replace HMC:Hid (∀(S:iM)(w':iN),Mod S wz w'->(∀k,S k->b5<=k\/k<=b2)->ManC b1 w' cs m):=O (fun S w' hmm hS=>HMC.out (fun k=>k=b6\/S k) w' ((hmz.mono (fun _ _ h=>.inl h)).trans hmm (fun _ _ h=>.inr h)) (fun k hk=>hk.elim (fun e=>.inl (by omega)) (hS k)))
    clear hF hmz;simp only[qB];replace hF:=hBz;clear hBz hE;have hcf:wz.cell? ⟨b6,0,none⟩=some (.int .i64 er2):=by rw[cell_of_row _ _ _ _ _ _ hF];rfl
    go_upto_region 9 with(fail);refine qL [3,1,3] ?_;simp only[qB];refine qG 33 hcf ?_;try simp only[qC]
    refine xD hne2 ?_;simp only[qB];go_upto_region 10 with(fail)
    have hzo:∀c∈qP 0 [] descZ (.slice none 0 0) (.slice none 0 0),c.oneCell'=true:=xY rfl rfl
    have hS:Mod (fun k=>k=b1) wz wz.drew:=(Mod.refl _ _).drew
    have hAd:wz.drew.heap[b1]?=some (.cells (qP 0 [] descZ (.slice none 0 0) (.slice none 0 0)) 163 (0,0)):=hA
    refine zZ [0,0,1,2] [3] (fun w'=>Mod (fun k=>k=b1) wz w') hS ?_;simp only[qB];refine yV tY ?_;simp only[qC]
    refine zJ 255 (fun w' hS=>CellsAt.whole (hS.objB (by omega) hF)) 2 rfl ?_;simp only[qC];refine qH rfl (fun K hK=>?_)
    refine yL 163 hzo 39 hz39 hAd (fun wg hBg hmg=>?_) (hoff:=by rfl);have hSg:Mod (fun k=>k=b1) wz wg:=hS.trans hmg (fun _ _ h=>h);refine hK _ _ hSg ?_
    clear hK K;try simp only[qC]
    refine zP rfl (fun K hK=>?_)
    refine qT 255 #[.int .i64 er2,.int .i64 at2] (by simp[Value.oneCell']) 2 rfl (hSg.objB (by omega) hC) (fun wh hCh hmh=>?_) (hoff:=by rfl)
    have hBh:=hmh.objB (by omega) hBg;refine hK _ _ ?_;clear hK K;simp only[qB];have HMh:=O ((HM.out.transB hSg (by omega)).transB hmh (by omega))
    have hsz2:(prog.info? 163).map (·.size)=some (qP 0 [] descZ (.slice none 0 0) (.slice none 0 0)).size:=by rw[hz39];kernel_rfl
    clear hS hSg hmg hmh hBg hAd hA hC hF hB5 HM HMC hcf;go_wp2;refine aA underlying163 underlying255 hBh hCh hsz2 ?_;have hdn:kA b=none:=by rw[HDL.out,if_neg hno]
    rw[show DecR w b=fun x w'=>Mod qJ w w'/\∃(cs:iL)(er at_:Int),x=.returned (.tuple #[.agg cs,.agg #[.int .i64 er,.int .i64 at_]])/\(er=0↔(kA b).isSome=true)/\ManC w.heap.size w' cs ((kA b).getD fX)from rfl,hdn]
    exact⟨HMh.out,_,er2,at2,rfl,by simp[hne2],xP,_,_,rfl,Gat.nil _ _ _ _ _,Gat.nil _ _ _ _ _⟩
   ·have hne1:¬er=0:=h1
    have hcf:wr.cell? ⟨b6,0,none⟩=some (.int .i64 er):=by rw[cell_of_row _ _ _ _ _ _ hF];rfl
    go_upto_region 7 with(fail);refine qL [3,3,3,1,3,3] ?_;simp only[qB];refine qG 33 hcf ?_;try simp only[qC]
    refine xT hne1 ?_;simp only[qB];clear hcf;clear hE
    rename iN=>wz
    have hcf:wz.cell? ⟨b6,0,none⟩=some (.int .i64 er):=by rw[cell_of_row _ _ _ _ _ _ hF];rfl
    go_upto_region 9 with(fail);refine qL [3,1,3] ?_;simp only[qB];refine qG 33 hcf ?_;try simp only[qC]
    refine xD hne1 ?_;simp only[qB];go_upto_region 10 with(fail)
    have hzo:∀c∈qP 0 [] descZ (.slice none 0 0) (.slice none 0 0),c.oneCell'=true:=xY rfl rfl
    have hS:Mod (fun k=>k=b1) wz wz.drew:=(Mod.refl _ _).drew
    have hAd:wz.drew.heap[b1]?=some (.cells (qP 0 [] descZ (.slice none 0 0) (.slice none 0 0)) 163 (0,0)):=hA
    refine zZ [0,0,1,2] [3] (fun w'=>Mod (fun k=>k=b1) wz w') hS ?_;simp only[qB];refine yV tY ?_;simp only[qC]
    refine zJ 255 (fun w' hS=>CellsAt.whole (hS.objB (by omega) hF)) 2 rfl ?_;simp only[qC];refine qH rfl (fun K hK=>?_)
    refine yL 163 hzo 39 hz39 hAd (fun wg hBg hmg=>?_) (hoff:=by rfl);have hSg:Mod (fun k=>k=b1) wz wg:=hS.trans hmg (fun _ _ h=>h);refine hK _ _ hSg ?_
    clear hK K;try simp only[qC]
    refine zP rfl (fun K hK=>?_)
    refine qT 255 #[.int .i64 er,.int .i64 at_] (by simp[Value.oneCell']) 2 rfl (hSg.objB (by omega) hC) (fun wh hCh hmh=>?_) (hoff:=by rfl)
    have hBh:=hmh.objB (by omega) hBg;refine hK _ _ ?_;clear hK K;simp only[qB];have HMh:=O ((HM.out.transB hSg (by omega)).transB hmh (by omega))
    have hsz2:(prog.info? 163).map (·.size)=some (qP 0 [] descZ (.slice none 0 0) (.slice none 0 0)).size:=by rw[hz39];kernel_rfl
    clear hS hSg hmg hmh hBg hAd hA hC hF hB5 HM HMC hcf;go_wp2;refine aA underlying163 underlying255 hBh hCh hsz2 ?_;have hdn:kA b=none:=by rw[HDL.out,if_neg hno]
    rw[show DecR w b=fun x w'=>Mod qJ w w'/\∃(cs:iL)(er at_:Int),x=.returned (.tuple #[.agg cs,.agg #[.int .i64 er,.int .i64 at_]])/\(er=0↔(kA b).isSome=true)/\ManC w.heap.size w' cs ((kA b).getD fX)from rfl,hdn]
    exact⟨HMh.out,_,er,at_,rfl,by simp[hne1],xP,_,_,rfl,Gat.nil _ _ _ _ _,Gat.nil _ _ _ _ _⟩
def GetsC(w0:iN)(sv:Value)(c:yH):Prop:=∀(w:iN)(k:iK),Mod qJ w0 w->k.length=32->Calls prog 162 #[sv,.agg (qA k)] w (GetR w (qR k c))
def MarkedR(base:Nat)(w:iN)(s t:List iK):iJ:=fun e w'=>Mod qJ w w'/\∃v m,e=.returned v/\kI base w' v m/\vN (s++t) m
def inDs(c:yH)(f depth:Nat)(ds:List yY):List iK:=ds.flatMap fun d=>if jV d then inL c f d.id (depth+1)else [d.id]
theorem inDs_succ(c:yH)(f depth:Nat)(ds:List yY)(k:Nat)(hk:k<ds.length):inDs c f depth (ds.take (k+1))=inDs c f depth (ds.take k)++(if jV ds[k]then inL c f ds[k].id (depth+1)else [ds[k].id]):=by
 unfold inDs;rw[List.take_succ_eq_append_getElem hk,List.flatMap_append]
 simp
theorem inL_in{c:yH}(hU:∀x∈jP c,x∈U){id:iK}(hid:id∈U):∀y∈inL c f id depth,y∈U:=fun y hy=>by
 rcases inR_mem ((inL_mem c f id depth y).1 hy)with rfl|h
 ·exact hid
 ·exact hU y h
theorem inDs_in{c:yH}(hU:∀x∈jP c,x∈U){ds:List yY}(hd:∀d∈ds,d.id∈U):∀y∈inDs c f depth ds,y∈U:=fun y hy=>by
 obtain⟨d,h1,h2⟩:=List.mem_flatMap.1 hy
 split at h2
 ·exact inL_in hU (hd d h1) y h2
 ·rw[List.mem_singleton.1 h2];exact hd d h1
def MkRel(base:Nat)(w0:iN)(c:yH)(f depth:Nat)(ds:List yY)(s:List iK)(v i:Value)(w:iN):Prop:=∃(k:Nat)(m:List iK),k<=ds.length/\i=.int .i64 k/\kI base w v m/\vN (s++inDs c f depth (ds.take k)) m/\Mod qJ w0 w
section
variable{w0:iN}{sv:Value}{c:yH}{U:List iK}
theorem gH(HGet:GetsC w0 sv c)(hsz:∀k b,qR k c=some b->b.length<=4096)(hU:∀x∈jP c,x∈U)(hU32:∀x∈U,x.length=32)(hUl:U.length<=9000)(base:Nat):
 ∀(f:Nat)(di:iK)(depth:Nat)(w:iN)(v0:Value)(s l:List iK),di∈U->depth+f=6->0<f->Mod qJ w0 w->base<=w.heap.size->kI base w v0 l->vN s l->(∀y∈s,y∈U)->
  Calls prog 88 #[sv,.agg (qA di),.int .i64 depth,v0] w (MarkedR base w s (inL c f di depth))
 |0,_,_,_,_,_,_,_,_,h,_,_,_,_,_=>by omega
 |f+1,di,depth,w,v0,s,l,hdu,hdf,_,hm0,hbase,hg,hr,hs=>by
  have IH:=O (gH HGet hsz hU hU32 hUl base f);have hid:=hU32 di hdu;have hic:(qA di).size=32:=by rw[qD,hid]
  have hll:l.length<=9000:=Nat.le_trans (fP hr hs) hUl;have hl32:∀y∈l,y.length=32:=fun y hy=>hU32 y (hs y ((hr.2 y).1 hy));have HS0:=O hs
  have HSZ:=O hsz;have HM0:=O hm0;have HGT:=O HGet;have HU:=O hU;have HU32:=O hU32;have HDU:=O hdu
  have hlay:=fun w' (hm:Mod qJ w w')=>sV (x:=di) (hg.keep0 hm) (by have:=hm.size;omega) hr hl32 hid (by omega);have HLAY:=O hlay
  have hdz:depth<=5:=by omega
  obtain⟨R,hR⟩:∃R,inL c (f+1) di depth=R:=⟨_,rfl⟩
  have HIN:Hid (R=di::(if 4<depth then []else match jA c di with|none=>[]|some ds=>inDs c f depth ds)):=O (by rw[<-hR];rfl);rw[hR]
  clear hg hr hs hl32 hsz hm0 HGet hU hU32 hdu hlay hR;go_enter func88,ntmps88;go_upto_region 0 with(fail);refine qL [1,3] ?_;simp only[qB]
  refine qK (zT 24 (fun w1 hB1 hm1 hs1=>?_));replace hB1:w1.heap[w.heap.size]?=some (.cells (qA di) 24 (0,0)):=hB1;simp only[qB]
  have hcd:CellsAt w1 w.heap.size 0 (qA di):=CellsAt.whole hB1;have hla:=HLAY.out w1 hm1;generalize hb5:w.heap.size=b5 at*;go_upto_region 1 with(fail)
  refine qL [3,1,1,3] ?_;simp only[qB];refine qY 24 hcd 32 hic ?_;try simp only[qC]
  refine qK (xE func120 (hla) ?_);rintro e w2 ⟨hm2,v2,m2,rfl,hg2,hr2,-⟩;have HG2:=O hg2;have HR2:=O hr2;have hv2:v2.oneCell'=true:=jJ hg2
  clear hg2 hr2;refine⟨_,rfl,?_⟩;simp only[qB];have HM2:=O (hm1.trans0 hm2);replace hcd:=hcd.keep hm2 id;have hget:=HGT.out w2 di (HM0.out.trans0 HM2.out) hid
  obtain⟨r,hrg⟩:∃r,qR di c=r:=⟨_,rfl⟩;rw[hrg]at hget;have HRG:=O hrg;clear hm1 hm2 hB1 hs1 hla hrg HLAY
  cases r with
  |none=>
   have HF0:Hid (R=[di]):=O (by
    rw[HIN.out];have:jA c di=none:=by unfold jA;rw[HRG.out]
    rw[this]
    split<;>rfl)
   go_upto_region 2 with(fail);refine qL [3,1,1,3,3,3,3,3] ?_;simp only[qB];refine qY 24 hcd 32 hic ?_;try simp only[qC]
   refine qK (xE func162 (hget) ?_);rintro e w5 ⟨hm5,he5⟩;subst he5;refine⟨_,rfl,?_⟩;simp only[qB];refine jQ (.slice none 0 0) ?_;simp only[qC]
   refine jQ (.bool false) ?_;simp only[qB];go_upto_region 3 with(fail);refine qL [3,1,3,3,3,1,1,1,1] ?_;simp only[qB]
   refine qK (xE func164 (gI (b:=[]) (Sl.nil true w5 (fun _=>True) 1 yA) (fun k hk=>by cases hk) (by simp)) ?_);rintro e w6 ⟨hm6,cs,er,at_,rfl,her,hmc⟩
   have hcs:=hmc.size;have hone:=hmc.one;refine⟨_,rfl,?_⟩;simp only[qB];refine qZ (fun _=>by go_simp;try with_reducible rfl) ?_;simp only[qC]
   refine qZ (fun _=>by go_simp;try with_reducible rfl) ?_;simp only[qC];refine qK (zB aO (fun w7 hB7 hm7 hs7=>?_));try simp only[qC]
   refine qK (zB fZ (fun w8 hB8 hm8 hs8=>?_));try simp only[qC]
   refine kS rfl ?_;refine xU 163 0 cs hone 39 hcs (hm8.obj id hB7) (fun w9 hB9 hm9=>?_) (hoff:=by rw[hcs];exact Nat.le_of_eq (zD xP).symm)
   have hB8':=hm9.objB (by omega) hB8;try simp only[qC]
   refine qK (xU 255 0 #[.int .i64 er,.int .i64 at_] (by simp[Value.oneCell']) 2 rfl hB8' (fun wa hBa hma=>?_) (hoff:=by simp));simp only[qB]
   have hm2a:Mod qJ w2 wa:=((((hm5.trans0 hm6).trans0 hm7).trans0 hm8).transB hm9 (by have:=hm5.size;have:=hm6.size;omega)).transB hma (by have:=hm5.size;have:=hm6.size;have:=hm7.size;omega)
   have HF:Hid (MarkedR base w s R (.returned v2) wa):=O ⟨HM2.out.trans0 hm2a,v2,m2,rfl,HG2.out.keep0 hm2a,by rw[HF0.out];exact HR2.out⟩
   clear hm5 hm6 hm7 hm8 hm9 hma hm2a hB7 hB8 hB8' hB9 hBa hmc hcd hget her hs7 hs8;go_upto_region 4 with(fail);refine qL [3,3,3,3,0,3,3,3,3,3,3] ?_;simp only[qB]
   try refine xC _ _ false (by rfl) (by rfl) (by rfl) ?_
   try simp only[qB]
   go_wp2;go_ret;exact HF.out
  |some b=>
   have hbl:=HSZ.out _ _ HRG.out;have HDO:Hid (jA c di=(kA b).map yJ):=O (by unfold jA;rw[HRG.out]);go_upto_region 2 with(fail)
   refine qL [3,1,1,3,3,3,3,3] ?_;simp only[qB];refine qY 24 hcd 32 hic ?_;try simp only[qC]
   refine qK (xE func162 (hget) ?_);rintro e w5 ⟨hm5,bv,he5,hbv⟩;subst he5;obtain⟨bad,bcp,rfl⟩:=hbv.slice;have HBV:=O hbv;clear hbv;refine⟨_,rfl,?_⟩
   simp only[qB];refine jQ (.slice bad b.length bcp) ?_;simp only[qC];refine jQ (.bool true) ?_;simp only[qB];go_upto_region 3 with(fail)
   refine qL [3,1,3,3,3,1,1,1,1] ?_;simp only[qB];refine qK (xE func164 (gI (Bts.sl HBV.out) (fun k hk=>(HBV.out.lt hk).2) hbl) ?_)
   rintro e w6 ⟨hm6,cs,er,at_,rfl,her,hmc⟩;have hcs:=hmc.size;have hone:=hmc.one;refine⟨_,rfl,?_⟩;simp only[qB]
   refine qZ (fun _=>by go_simp;try with_reducible rfl) ?_;simp only[qC];refine qZ (fun _=>by go_simp;try with_reducible rfl) ?_;simp only[qC]
   refine qK (zB aO (fun w7 hB7 hm7 hs7=>?_));try simp only[qC]
   refine qK (zB fZ (fun w8 hB8 hm8 hs8=>?_));try simp only[qC]
   refine kS rfl ?_;refine yL 163 hone 39 hcs (hm8.obj id hB7) (fun w9 hB9 hm9=>?_) (hoff:=by rw[hcs];exact(zD xP).symm)
   have hB8':=hm9.objB (by omega) hB8;try simp only[qC]
   refine qK (qT 255 #[.int .i64 er,.int .i64 at_] (by simp[Value.oneCell']) 2 rfl hB8' (fun wa hBa hma=>?_) (hoff:=by rfl));have hB9':=hma.objB (by omega) hB9
   simp only[qB];have hm6a:Mod qJ w6 wa:=((hm7.trans0 hm8).transB hm9 (Nat.le_refl _)).transB hma (by have:=hm7.size;omega)
   have hm2a:Mod qJ w2 wa:=(hm5.trans0 hm6).trans0 hm6a;have HMC:=O (hmc.keep0 hm6a)
   have hce:wa.cell? ⟨w7.heap.size,0,none⟩=some (.int .i64 er):=by simp[World.cell?,hBa]
   have HER:=O her;have HMa:=O (HM2.out.trans0 hm2a);have HGa:=O (HG2.out.keep0 hm2a);generalize hb12:w7.heap.size=b12 at*
   generalize hb11:w6.heap.size=b11 at*;clear hm5 hm6 hm7 hm8 hm9 hma hm2a hm6a hB7 hB8 hB8' hB9 hBa hmc hcd hget her HBV HG2 HM2 hs7 hs8
   by_cases hez:er=0
   rotate_left
   ·have HF:Hid (MarkedR base w s R (.returned v2) wa):=O ⟨HMa.out,v2,m2,rfl,HGa.out,by
     have:kA b=none:=by
      cases hd:kA b with
      |none=>rfl
      |some q=>exact absurd (HER.out.2 (by rw[hd];rfl)) hez
     rw[HIN.out,HDO.out,this];have:=HR2.out
     simpa using this⟩
    go_upto_region 4 with(fail);refine qL [3,3,3,3,1,3,3,3,3,3,3] ?_;simp only[qB]
    try refine xC _ _ true (by rfl) (by rfl) (by rfl) ?_
    try simp only[qB]
    refine qG 33 hce ?_;try simp only[qC]
    refine xD hez ?_;simp only[qB];clear hce hB9';go_wp2;go_ret;exact HF.out
   ·subst hez
    obtain⟨M,hM⟩:∃M,kA b=some M:=Option.isSome_iff_exists.1 (HER.out.1 rfl);have hmc:=HMC.out;rw[hM]at hmc;replace hmc:ManC w5.heap.size wa cs M:=hmc
    by_cases hd4:4<depth
    ·have hz4:(depth:Int)>4:=by omega
     have HF:Hid (MarkedR base w s R (.returned v2) wa):=O ⟨HMa.out,v2,m2,rfl,HGa.out,by
      rw[HIN.out,if_pos hd4]
      exact HR2.out⟩
     clear hmc;go_upto_region 4 with(fail);refine qL [3,3,3,3,1,3,3,3,3,3,3] ?_;simp only[qB]
     try refine xC _ _ true (by rfl) (by rfl) (by rfl) ?_
     try simp only[qB]
     refine qG 33 hce ?_;try simp only[qC]
     refine qN _ _ _ _ _ _ _ _ rfl rfl rfl rfl rfl false (by decide) ?_;simp only[qB];refine xD hz4 ?_;simp only[qB];clear hce hB9';go_wp2;go_ret;exact HF.out
    ·have hz4:¬(depth:Int)>4:=by omega
     have hlens:=decL_len hM;have hids:=decL_ids hM;have hdc:=r11Descs_any hmc ⟨hlens.1,hlens.2.1⟩
     have hdl:(yJ M).length<=33:=by
      unfold yJ;simp only[List.length_append]
      split<;>simp<;>omega
     have hdsC:jA c di=some (yJ M):=by rw[HDO.out,hM];rfl
     have hinU:=fun d hd=>HU.out _ (descsOf_mem hdsC d hd);have hR0:R=di::inDs c f depth (yJ M):=by rw[HIN.out,if_neg hd4,hdsC]
     obtain⟨ds,hds⟩:∃ds,yJ M=ds:=⟨_,rfl⟩;rw[hds]at hdc hdl hids hinU hR0;have HR0:=O hR0;have HIDS:=O hids;have HINU:=O hinU
     clear hids hlens hds hmc HMC hM hdsC hinU hR0 HER HDO HIN;go_upto_region 4 with(fail);refine qL [3,3,3,3,1,3,3,3,3,3,3] ?_;simp only[qB]
     try refine xC _ _ true (by rfl) (by rfl) (by rfl) ?_
     try simp only[qB]
     refine qG 33 hce ?_;try simp only[qC]
     refine qN _ _ _ _ _ _ _ _ rfl rfl rfl rfl rfl false (by decide) ?_;simp only[qB];refine xT hz4 ?_;simp only[qB];clear hce;go_upto_region 6 with(fail)
     refine qL [1,1,3] ?_;simp only[qB];refine qY 163 (CellsAt.whole hB9') 39 hcs ?_;try simp only[qC]
     refine qK (xE func165 (hdc) ?_);rintro e wb ⟨hmb,dv,rfl,hgdv⟩;have HDV:=O hgdv;obtain⟨dad,dcap,rfl⟩:=hgdv.slice;clear hgdv;refine⟨_,rfl,?_⟩;simp only[qB]
     have HRL:Hid (MkRel base wb c f depth ds (s++[di]) v2 (.int .i64 (0:Nat)) wb):=O ⟨0,m2,by omega,rfl,HGa.out.keep0 hmb,by simpa[inDs]using HR2.out,Mod.refl _ _⟩
     replace HMa:=O (HMa.out.trans0 hmb);have hm0b:=HM0.out.trans0 HMa.out;have hsb:=HMa.out.size;clear hmb hB9' hdc HR2 HGa;go_wp2
     go_loopw [3,14] (MkRel base wb c f depth ds (s++[di])) (fun _ i _=>ds.length-(intOf i).toNat)
     case atStart=>exact HRL.out
     case round=>
      rename iN=>wr
      obtain⟨k,m,hk,rfl,hgr,hrr,hmr⟩:=hrel;have HGL:=O hgr;have HRR:=O hrr;obtain⟨vad,vcp,rfl⟩:=hgr.slice;have hbr:=hmr.size
      by_cases hlt:k<ds.length
      ·have hzk:(k:Int)<(ds.length:Nat):=by omega
       have hsu:∀y∈s++[di]++inDs c f depth (ds.take k),y∈U:=fun y hy=>by
        rcases List.mem_append.1 hy with hy|hy
        ·rcases List.mem_append.1 hy with hy|hy
         ·exact HS0.out y hy
         ·rw[List.mem_singleton.1 hy];exact HDU.out
        ·exact inDs_in HU.out (fun d hd=>HINU.out d (List.mem_of_mem_take hd)) y hy
       have hml:m.length<=9000:=Nat.le_trans (fP hrr hsu) hUl;have hm32:∀y∈m,y.length=32:=fun y hy=>HU32.out y (hsu y ((hrr.2 y).1 hy))
       have hdid:=HIDS.out ds[k] (List.getElem_mem _);have hdu:=HINU.out ds[k] (List.getElem_mem _);have hgr2:=HDV.out.keep0 hmr
       obtain⟨gb,cap',cur,hq,hgc,hcc,hszd,-,-⟩:=hgr2.at sL k hlt
       cases hq
       have HTK:=O (inDs_succ c f depth ds k hlt);generalize ds[k]=d at*;rw[aW hdid]at hcc;have hdsz:(zG d).size=35:=zQ hdid
       have hdic:(qA d.id).size=32:=by rw[qD,hdid]
       have hcm:wr.cell? ⟨gb,k*35,none⟩=some (.int .i64 d.media):=hcc 0 (by omega)
       have hci:CellsAt wr gb (k*35+1) (qA d.id):=fun j hj=>by
        rw[hdic]at hj;have h1:=hcc (1+j) (by omega);rw[<-Nat.add_assoc]at h1;rw[h1];exact descRow_at1 j (by omega)
       have HSU:=O hsu;have HM32:=O hm32;obtain⟨tr,htr⟩:∃tr,jV d=tr:=⟨_,rfl⟩;have htr0:=r13tree_any d.media wr
       rw[show decide (d.media=3\/d.media=4)=tr by rw[<-htr];unfold jV;by_cases h1:d.media=3<;>by_cases h2:d.media=4<;>simp[h1,h2]]at htr0
       rw[htr]at HTK;clear htr hsu hm32 hgr hgr2 hgc hszd hrr hcc;go_upto_region 10 with(fail);refine qL [3,3,3,3,1,1] ?_;simp only[qB];refine zC 161 35 hlt ?_
       simp only[qB];refine qG 3 hcm ?_;try simp only[qC]
       refine qK (xE func163 (htr0) ?_);rintro e we ⟨rfl,hwe⟩;obtain rfl:=hwe.symm;refine⟨_,rfl,?_⟩;simp only[qB];clear htr0 hcm
       cases tr with
       |true=>
        have hrec:=IH.out d.id (depth+1) wr (.slice vad m.length vcp) _ m hdu (by omega) (by omega) (hm0b.trans0 hmr) (by omega) HGL.out HRR.out HSU.out
        go_upto_region 11 with(fail);refine qL [3,3,3,3,3,1,3,3,3,1,3] ?_;simp only[qB];refine zC 161 35 hlt ?_;simp only[qB];refine qY 24 hci 32 hdic ?_
        simp only[qB];refine jH ((depth+1:Nat):Int) ?_;simp only[qB];refine qK (xE func88 (hrec) ?_);rintro e wf ⟨hmf,vf,mf,rfl,hgf,hrf⟩
        have HR:Hid (MkRel base wb c f depth ds (s++[di]) vf (.int .i64 ((k+1:Nat):Int)) wf):=O ⟨k+1,mf,by omega,rfl,hgf,by rw[HTK.out,<-List.append_assoc];exact hrf,hmr.trans0 hmf⟩
        refine⟨_,rfl,?_⟩;simp only[qB];clear hmf hgf hrf hrec hci hmr;go_wp2
        go_roundw
        case rel=>exact HR.out
        case measure=>simp[intOf];omega
       |false=>
        have hla:=sV HGL.out (by omega) HRR.out HM32.out hdid (by omega);go_upto_region 12 with(fail);refine qL [3,3,3,3,3,1,1,3] ?_;simp only[qB]
        refine zC 161 35 hlt ?_;simp only[qB];refine qY 24 hci 32 hdic ?_;try simp only[qC]
        refine qK (xE func120 (hla) ?_);rintro e wf ⟨hmf,vf,mf,rfl,hgf,hrf,-⟩
        have HR:Hid (MkRel base wb c f depth ds (s++[di]) vf (.int .i64 ((k+1:Nat):Int)) wf):=O ⟨k+1,mf,by omega,rfl,hgf,by rw[HTK.out,<-List.append_assoc];exact hrf,hmr.trans0 hmf⟩
        refine⟨_,rfl,?_⟩;simp only[qB];clear hmf hgf hrf hla hci hmr;go_wp2
        go_roundw
        case rel=>exact HR.out
        case measure=>simp[intOf];omega
      ·have hzk:¬(k:Int)<(ds.length:Nat):=by omega
       obtain rfl:k=ds.length:=by omega
       have HF:Hid (MarkedR base w s R (.returned (.slice vad m.length vcp)) wr):=O ⟨HMa.out.trans0 hmr,_,m,rfl,HGL.out,by
        have h1:=HRR.out;rw[List.take_length,List.append_assoc]at h1;rw[HR0.out]
        exact h1⟩
       clear hgr hrr hmr;go_wp2;go_ret;exact HF.out
def Mk2Rel(base:Nat)(w0:iN)(c:yH)(roots:List iK)(v i:Value)(w:iN):Prop:=∃(k:Nat)(m:List iK),k<=roots.length/\i=.int .i64 k/\kI base w v m/\vN ((roots.take k).flatMap fun r=>inL c 5 r 1) m/\Mod qJ w0 w
def Mark13R(w:iN)(c:yH)(roots:List iK):iJ:=fun e w'=>Mod qJ w w'/\∃v m,e=.returned v/\kI w.heap.size w' v m/\vN (roots.flatMap fun r=>inL c 5 r 1) m
theorem r13Mark_any(HGet:GetsC w0 sv c)(hsz:∀k b,qR k c=some b->b.length<=4096)(hks:∀p∈c,∀M,kA p.2=some M->∀d∈yJ M,d.id.length=32)(hm0:Mod qJ w0 w){own:Bool}(hv:Sl own w G 32 IdC v roots)
 (hr32:∀x∈roots,x.length=32)(hn:roots.length+(jP c).length<=9000):Calls prog 23 #[sv,v] w (Mark13R w c roots):=by
 have hU32:∀x∈roots++jP c,x.length=32:=fun x hx=>by
  rcases List.mem_append.1 hx with hx|hx
  ·exact hr32 x hx
  ·obtain⟨p,hp,hq⟩:=List.mem_flatMap.1 hx
   obtain⟨d,hd,rfl⟩:=List.mem_map.1 hq
   cases hM:kA p.2 with
   |none=>rw[hM]at hd;simp at hd
   |some M=>rw[hM]at hd;exact hks p hp M hM d (by simpa using hd)
 have HMK:=O (gH (U:=roots++jP c) HGet hsz (fun x hx=>List.mem_append_right _ hx) hU32 (by rw[List.length_append];omega) w.heap.size 5)
 have HV:=O hv;obtain⟨ad,cap,rfl,-,hat⟩:=Sl.at hv;have HAT:=O hat;have HM0:=O hm0;clear hv hat hm0 HGet hsz hks hU32 hr32;go_enter func23,ntmps23;go_wp2
 go_loopw [5,6] (Mk2Rel w.heap.size w c roots) (fun _ i _=>roots.length-(intOf i).toNat)
 case atStart=>exact⟨0,[],by omega,rfl,Gat.nil _ _ _ _ _,⟨.nil,fun y=>by simp⟩,Mod.refl _ _⟩
 case round=>
  rename iN=>wr
  obtain⟨k,m,hk,rfl,hgr,hrr,hmr⟩:=hrel;have HGL:=O hgr;have HRR:=O hrr;obtain⟨vad,vcp,rfl⟩:=hgr.slice;clear hgr hrr
  by_cases hlt:k<roots.length
  ·have hz:(k:Int)<(roots.length:Nat):=by omega
   obtain⟨b,off,rfl,-,-,hcc⟩:=HAT.out k hlt;obtain⟨cs,-,⟨rfl,hx32⟩,hcA⟩:=hcc k hlt;have hcr:=hcA.keep hmr id
   have hrec:=HMK.out roots[k] 1 wr (.slice vad m.length vcp) _ m (List.mem_append_left _ (List.getElem_mem _)) (by omega) (by omega) (HM0.out.trans0 hmr) hmr.size HGL.out HRR.out (fun y hy=>by
    obtain⟨r,hr,hy⟩:=List.mem_flatMap.1 hy
    exact inL_in (fun x hx=>List.mem_append_right _ hx) (List.mem_append_left _ (List.mem_of_mem_take hr)) y hy)
   have HTK:Hid ((roots.take (k+1)).flatMap (fun r=>inL c 5 r 1)=(roots.take k).flatMap (fun r=>inL c 5 r 1)++inL c 5 roots[k] 1):=O (by rw[List.take_succ_eq_append_getElem hlt,List.flatMap_append];simp)
   generalize roots[k]=x at*;have hic:(qA x).size=32:=by rw[qD,hx32]
   clear hcc hcA;go_upto_region 5 with(fail);refine qL [3,3,3,3,1,3,1,3] ?_;simp only[qB];refine zC 25 32 hlt ?_;simp only[qC];refine qY 24 hcr 32 hic ?_
   simp only[qB];refine qK (xE func88 (hrec) ?_);rintro e wf ⟨hmf,vf,mf,rfl,hgf,hrf⟩
   have HR:Hid (Mk2Rel w.heap.size w c roots vf (.int .i64 ((k+1:Nat):Int)) wf):=O ⟨k+1,mf,by omega,rfl,hgf,by rw[HTK.out];exact hrf,hmr.trans0 hmf⟩
   refine⟨_,rfl,?_⟩;simp only[qB];clear hmf hgf hrf hrec hcr hmr;go_wp2
   go_roundw
   case rel=>exact HR.out
   case measure=>simp[intOf];omega
  ·have hz:¬(k:Int)<(roots.length:Nat):=by omega
   obtain rfl:k=roots.length:=by omega
   have HF:Hid (Mark13R w c roots (.returned (.slice vad m.length vcp)) wr):=O ⟨hmr,_,m,rfl,HGL.out,by have h1:=HRR.out;rwa[List.take_length]at h1⟩;clear hmr
   go_wp2;go_ret;exact HF.out
end
def MkR1(base:Nat)(w0:iN)(s:List iK)(l:List tX)(v i:Value)(w:iN):Prop:=∃(k:Nat)(m:List iK),k<=l.length/\i=.int .i64 k/\kI base w v m/\vN (s++jI (l.take k)) m/\Mod qJ w0 w
def MkR2(base:Nat)(w0:iN)(s l:List iK)(v i:Value)(w:iN):Prop:=∃(k:Nat)(m:List iK),k<=l.length/\i=.int .i64 k/\kI base w v m/\vN (s++l.take k) m/\Mod qJ w0 w
theorem refs_ids{own:Bool}{l:List tX}(h:Sl own w E 39 (EvR own' w G) v l):∀x∈jI l,x.length=32:=fun x hx=>by
 obtain⟨e,he,hx⟩:=List.mem_flatMap.1 hx;obtain⟨i,hi,rfl⟩:=List.getElem_of_mem he;obtain⟨_,_,_,-,hat⟩:=Sl.at h;obtain⟨b,off,_,_,_,hc⟩:=hat i hi
 obtain⟨cs,-,⟨dv,rv,-,-,-,hr,-⟩,-⟩:=hc i hi;obtain⟨_,_,_,-,hat2⟩:=Sl.at hr;obtain⟨j,hj,rfl⟩:=List.getElem_of_mem hx;obtain⟨_,_,_,_,_,hc2⟩:=hat2 j hj
 obtain⟨_,-,⟨_,h9⟩,-⟩:=hc2 j hj;exact h9
theorem refsL_mid(l:List tX)(hk:k<l.length):∀x∈jI (l.take k)++l[k].refs,x∈jI l:=fun x hx=>by
 have h:=congrArg jI (vS hk);unfold jI at h hx |-;rw[List.flatMap_append,List.flatMap_cons]at h;rw[h,<-List.append_assoc];exact List.mem_append_left _ hx
section
variable{w0:iN}{sv:Value}{c:yH}
theorem r27Marks_any(HGet:GetsC w0 sv c)(hsz:∀k b,qR k c=some b->b.length<=4096)(hcl:(jP c).length<=1000)(hm0:Mod qJ w0 w){reps:List jW}(h1:vv.oneCell'=true)(hv:vG w rv reps)(hn:(zK reps).length<=2200)(h32:∀q∈zK reps,q.length=32)
 {own:Bool}{l:List tX}(hev:Sl own w E 39 (EvR own' w G) ev l)(hr:(jI l).length<=6000):
 Calls prog 50 #[sv,.agg #[vv,rv],ev] w (RootsR w (((zK reps).flatMap fun r=>inL c 5 r 1)++jI l)):=by
 have hU32:∀x∈zK reps++jP c++jI l,x.length=32:=fun x hx=>by
  rcases List.mem_append.1 hx with hx|hx
  ·rcases List.mem_append.1 hx with hx|hx
   ·exact h32 x hx
   ·obtain⟨p,hp,hq⟩:=List.mem_flatMap.1 hx
    obtain⟨d,hd,rfl⟩:=List.mem_map.1 hq
    cases hM:kA p.2 with
    |none=>rw[hM]at hd;simp at hd
    |some M=>rw[hM]at hd;exact decL_ids hM d (by simpa using hd)
  ·exact refs_ids hev x hx
 have hUl:(zK reps++jP c++jI l).length<=9200:=by simp only[List.length_append];omega
 have hSU:∀x∈(zK reps).flatMap fun r=>inL c 5 r 1,x∈zK reps++jP c++jI l:=fun x hx=>by
  obtain⟨r,hr,hx⟩:=List.mem_flatMap.1 hx
  exact inL_in (fun y hy=>List.mem_append_left _ (List.mem_append_right _ hy)) (List.mem_append_left _ (List.mem_append_left _ hr)) x hx
 have h2:=Sl.one hv;obtain⟨S0,hS0e⟩:∃S0,((zK reps).flatMap fun r=>inL c 5 r 1)=S0:=⟨_,rfl⟩;rw[hS0e]at hSU |-;have HS0E:=O hS0e;have HV:=O hv
 have H32:=O h32;have HEV:=O hev;have HU32:=O hU32;have HSU:=O hSU;obtain⟨ead,ecap,rfl,hel,-⟩:=Sl.at hev;have HGT:=O HGet;have HSZ:=O hsz
 have HM0:=O hm0;clear hv hev HGet hsz hm0 h32 hU32 hSU hS0e;go_enter func50,ntmps50;go_upto_region 0 with(fail);refine qL [1,3] ?_;simp only[qB]
 refine qK (zT 71 (fun w1 hB1 hm1 hs1=>?_));replace hB1:w1.heap[w.heap.size]?=some (.cells #[vv,rv] 71 (0,0)):=hB1;simp only[qB]
 have hcT:CellsAt w1 w.heap.size 0 #[vv,rv]:=CellsAt.whole hB1;have hroots:=r27Roots_any h1 (xO HV.out (KC.of0 hm1)) (by omega) H32.out
 generalize hb4:w.heap.size=b4 at*;go_upto_region 1 with(fail);refine qL [3,1,1,1,3] ?_;simp only[qB];refine qY 71 hcT 2 rfl ?_;try simp only[qC]
 refine qK (xE func49 (hroots) ?_);rintro e w2 ⟨hm2,v2,R,he2,hg2,hr2⟩;subst he2;have hR32:∀x∈R,x.length=32:=fun x hx=>H32.out x ((hr2.2 x).1 hx)
 have hRl:R.length<=2200:=rise_len hr2 hn
 have hmk:=r13Mark_any (c:=c) HGT.out HSZ.out (fun p _ M hM d hd=>decL_ids hM d hd) (HM0.out.trans0 (hm1.trans0 hm2)) (slI hg2 hR32) hR32 (by omega);refine⟨_,rfl,?_⟩
 try simp only[qC]
 refine qK (xE func23 (hmk) ?_);rintro e w3 ⟨hm3,v3,m3,he3,hg3,hr3⟩;subst he3;refine⟨_,rfl,?_⟩;simp only[qB];have hm13:=hm2.trans0 hm3;have hM:=hm1.trans0 hm13
 have hS0:vN ((zK reps).flatMap fun r=>inL c 5 r 1) m3:=riseI_ext hr3 fun y=>by
  simp only[List.mem_flatMap];exact exists_congr fun r=>and_congr_left fun _=>hr2.2 r
 rw[HS0E.out]at hS0;obtain⟨U,hUe⟩:∃U,zK reps++jP c++jI l=U:=⟨_,rfl⟩
 have HRU:Hid (∀x∈jI l,x∈U):=O (fun x hx=>by rw[<-hUe];exact List.mem_append_right _ hx);rw[hUe]at HU32 HSU hUl
 have HR0:Hid (MkR1 b4 w S0 l v3 (.int .i64 (0:Nat)) w3):=O ⟨0,m3,Nat.zero_le _,rfl,hg3.base (by have:=hm1.size;have:=hm2.size;omega),by simpa[jI]using hS0,hM⟩
 clear hUe hS0 hr3 hg3 hr2 hg2 hroots hmk hm1 hm2 hm3 hm13 hM hcT hB1 hs1 hRl hR32;go_wp2
 go_loopw [7,8] (MkR1 b4 w S0 l) (fun _ i _=>l.length-(intOf i).toNat)
 case atStart=>exact HR0.out
 case round=>
  rename iN=>wr
  obtain⟨k,m,hk,rfl,hgr,hrr,hmr⟩:=hrel;obtain⟨vad,vcp,rfl⟩:=hgr.slice;have HGR:=O hgr;have HRR:=O hrr;clear hgr hrr
  by_cases hlt:k<l.length
  ·have hz:(k:Int)<(l.length:Nat):=by omega
   obtain⟨_,_,hae,-,hat⟩:=(SlEv.keep0 HEV.out hmr).at;injection hae with hae1 hae2 hae3;subst hae1 hae3;obtain⟨b,off,rfl,-,-,hcc⟩:=hat k hlt
   obtain⟨cs,-,⟨dv,fv,rfl,hid,hdv,hfv,-,-⟩,hcA⟩:=hcc k hlt;have hsn:=refsL_snoc l k hlt;have hmid:=refsL_mid l hlt;generalize l[k]=x at*
   have hes:=jO x dv fv hid;obtain⟨ra,rcap,hfe,hfl,-⟩:=Sl.at hfv
   have hc38:wr.cell? ⟨b,off+k*39+38,none⟩=some (.slice ra x.refs.length rcap):=by
    rw[hcA 38 (by rw[hes.size];omega),hes.c38,hfe]
   have HFV:=O hfv;rw[hfe]at HFV;have HSN:=O hsn;have HMID:=O hmid;clear hat hcc hae2 hes hdv hfv hfe hsn hmid hcA;go_wp2
   go_loopw [7,9] (MkR2 b4 wr (S0++jI (l.take k)) x.refs) (fun _ i _=>x.refs.length-(intOf i).toNat)
   case atStart=>exact⟨0,m,Nat.zero_le _,rfl,HGR.out,by simpa using HRR.out,Mod.refl _ _⟩
   case round=>
    rename iN=>wh
    obtain⟨j,mh,hj,rfl,hgh,hrh,hmh⟩:=hrel;obtain⟨gad,gcp,rfl⟩:=hgh.slice;have hch:=hmh.cell id hc38;have HGH:=O hgh;have HRH:=O hrh;clear hgh hrh
    go_upto_region 6 with(fail)
    by_cases hltj:j<x.refs.length
    ·have hzj:(j:Int)<(x.refs.length:Nat):=by omega
     obtain⟨_,_,hhe,-,hhat⟩:=(Sl.keep0 HFV.out hmh).at;injection hhe with hhe1 hhe2 hhe3;subst hhe1 hhe3;obtain⟨hb,hoff,rfl,-,-,hhcc⟩:=hhat j hltj
     obtain⟨cs,-,⟨rfl,hz32⟩,hhA⟩:=hhcc j hltj;have HTJ:Hid (x.refs.take (j+1)=x.refs.take j++[x.refs[j]]):=O (by rw[List.take_succ_eq_append_getElem hltj])
     have hsu:∀y∈S0++jI (l.take k)++x.refs.take j,y∈U:=fun y hy=>by
      rw[List.append_assoc]at hy
      rcases List.mem_append.1 hy with h9|h9
      ·exact HSU.out y h9
      ·refine HRU.out y (HMID.out y ?_)
       rcases List.mem_append.1 h9 with h9|h9
       ·exact List.mem_append_left _ h9
       ·exact List.mem_append_right _ (List.mem_of_mem_take h9)
     have hmh32:∀q∈mh,q.length=32:=fun q hq=>HU32.out q (hsu q ((HRH.out.2 q).1 hq));have hml:mh.length<=9200:=Nat.le_trans (fP HRH.out hsu) hUl
     generalize x.refs[j]=z at*;have hzc:(qA z).size=32:=by rw[qD,hz32]
     have hla:=sV (base:=b4) HGH.out (by have:=hmr.size;have:=hmh.size;omega) HRH.out hmh32 hz32 (by omega);clear hhat hhcc hhe2 hsu hmh32
     refine qL [3,3,3,3,3,1,3,3] ?_;simp only[qB];refine zC 72 39 hlt ?_;simp only[qB];refine qG 25 hch ?_;try simp only[qC]
     refine xF ?_;simp only[qC];refine xD hzj ?_;simp only[qB];go_upto_region 8 with(fail);refine qL [3,3,3,3,3,1,3,3,1,1,3] ?_;simp only[qB]
     refine zC 72 39 hlt ?_;simp only[qB];refine qG 25 hch ?_;simp only[qB];refine zC 25 32 hltj ?_;simp only[qC];refine qY 24 hhA 32 hzc ?_;try simp only[qC]
     refine qK (xE func120 (hla) ?_);rintro e wz ⟨hmz,vz,mz,rfl,hgz,hrz,-⟩
     have HR:Hid (MkR2 b4 wr (S0++jI (l.take k)) x.refs vz (.int .i64 ((j+1:Nat):Int)) wz):=O ⟨j+1,mz,by omega,rfl,hgz,by rw[HTJ.out,<-List.append_assoc];exact hrz,hmh.trans0 hmz⟩
     refine⟨_,rfl,?_⟩;simp only[qB];clear hmz hgz hrz hla hhA hch hmh;go_wp2
     go_roundw
     case rel=>exact HR.out
     case measure=>simp[intOf];omega
    ·have hzj:¬(j:Int)<(x.refs.length:Nat):=by omega
     obtain rfl:j=x.refs.length:=by omega
     refine qL [3,3,3,3,3,1,3,3] ?_;simp only[qB];refine zC 72 39 hlt ?_;simp only[qB];refine qG 25 hch ?_;try simp only[qC]
     refine xF ?_;simp only[qC];refine xT hzj ?_;simp only[qB]
     have HR:Hid (MkR1 b4 w S0 l (.slice gad mh.length gcp) (.int .i64 ((k+1:Nat):Int)) wh):=O ⟨k+1,mh,by omega,rfl,HGH.out,by
      have h9:=HRH.out;rw[List.take_length,List.append_assoc]at h9;rw[HSN.out]
      exact h9,hmr.trans0 hmh⟩
     clear hmh hch;go_wp2
     go_roundw
     case rel=>exact HR.out
     case measure=>simp[intOf];omega
  ·have hz:¬(k:Int)<(l.length:Nat):=by omega
   obtain rfl:k=l.length:=by omega
   have HF:Hid (RootsR w (S0++jI l) (.returned (.slice vad m.length vcp)) wr):=O ⟨hmr,_,m,rfl,by rw[hb4];exact HGR.out,by have h9:=HRR.out;rwa[List.take_length]at h9⟩
   clear hmr;go_wp2;go_ret;exact HF.out
end
theorem zero8_gets{q:Nat}(hB:w.heap[q]?=some (.cells #[.int .i64 0,.int .i64 0,.slice none 0 0] 89 (0,0))):GetsC w (iO q) []:=fun w' k hm hk=>
 have h:R8Rd w q []:=⟨⟨none,0,by rw[cell_of_row _ _ _ _ _ _ hB];rfl,Nat.le_refl _,fun _ hi=>absurd hi (Nat.not_lt_zero _)⟩,fun _ h=>(nomatch h),by simp,fun _ h=>(nomatch h),fun _ h=>(nomatch h)⟩
 r8Get_any (h.keep0 hm) List.Pairwise.nil hk
theorem built_r8Z:prog.built 89 []=some #[.int .i64 0,.int .i64 0,.slice none 0 0]:=by
 rw[zX r8Z r8P,yN]
section
variable{w w':iN}{bs wd:Nat}{c c':yO}{Ft:iM}
end
def noneM(xs:List iK):List (iK×Value):=walkM (xs.map thgI)
theorem noneM_snoc(xs:List iK)(k:Nat)(hk:k<xs.length):noneM (xs.take (k+1))=kD xs[k] (kE 0) (noneM (xs.take k)):=by
 unfold noneM;rw[List.take_succ_eq_append_getElem hk,List.map_append,List.map_singleton,walkM_snoc]
 rfl
theorem noneM_keys(xs:List iK):((noneM xs).map (·.1)).Nodup/\∀x,x∈(noneM xs).map (·.1)↔x∈xs:=by
 obtain⟨h1,h2⟩:=walkM_keys (xs.map thgI);refine⟨h1,fun x=>(h2 x).trans ⟨?_,fun h=>⟨thgI x,List.mem_map.2 ⟨x,h,rfl⟩,rfl⟩⟩⟩;rintro⟨t,ht,rfl⟩
 obtain⟨y,hy,rfl⟩:=List.mem_map.1 ht;exact hy
theorem marks_none{ids:List iK}(hs:ids.Pairwise (fun a b=>a<b))(hp:ids.Perm ((noneM roots).map (·.1))):MarkOf [] roots ids:=by
 refine⟨hs,fun x=>?_⟩;rw[hp.mem_iff,(noneM_keys roots).2 x]
 constructor
 ·exact fun h=>⟨x,h,.inl rfl⟩
 ·rintro⟨r,hr,h|⟨_,ds,hd,_⟩⟩
  ·rw[h];exact hr
  ·cases hd
theorem NoStore.keepZ(h:NoStore w v)(hm:Mod qJ w w'):NoStore w' v:=h.imp id fun⟨b,x,y,z,e,hb⟩=>⟨b,x,y,z,e,hm.obj id hb⟩
def NoMRel(w0:iN)(mb:Nat)(roots:List iK)(i:Value)(w:iN):Prop:=∃k:Nat,k<=roots.length/\i=.int .i64 k/\MapIs tQ bB w mb (noneM (roots.take k))/\Mod qJ w0 w
theorem clMark_no{sv:Value}(h:NoStore w sv){own:Bool}(hv:Sl own w G 32 IdC v roots)(hn:roots.length<=10000):Calls prog 22 #[sv,v] w (MarkR w [] roots):=by
 have hmm:= @run_makeMap prog;have H:=O h;obtain⟨ad,cap,rfl,-,hat⟩:=Sl.at hv;have HAT:=O hat;clear h hv hat;go_enter func22,ntmps22;go_upto_region 1 with(fail)
 refine qL [1,3] ?_;simp only[qB];refine qH rfl (fun K hK=>?_);unfold Oper.wp execOp
 simp only[Array.map_empty,Option.map_none,Sem.run_bind,hmm,Result.andThen_ok,Sem.run_pure];have hB:=heap_alloc_new w (.map #[] 0);have hM:=zI w (.map #[] 0)
 have hs:w.heap.size<(w.alloc (.map #[] 0)).heap.size:=by simp
 generalize w.alloc (.map #[] 0)=w1 at hB hM hs |-;refine hK _ _ trivial ?_;clear hK K;simp only[qB];have hMA:MapIs tQ bB w1 w.heap.size (noneM []):=MapIs.made hB
 have HR0:Hid (NoMRel w w.heap.size roots (.int .i64 (0:Nat)) w1):=O ⟨0,Nat.zero_le _,rfl,by rw[List.take_zero];exact hMA,hM⟩;generalize hmb:w.heap.size=mb at*
 clear hmm hB hM hMA;go_wp2
 go_loopw [11] (NoMRel w mb roots) (fun i _=>roots.length-(intOf i).toNat)
 case atStart=>exact HR0.out
 case round=>
  rename iN=>wr
  obtain⟨k,hk,rfl,hMr,hm⟩:=hrel;have HMR:=O hMr
  by_cases hlt:k<roots.length
  ·have hz:(k:Int)<(roots.length:Nat):=by omega
   obtain⟨b,off,rfl,-,-,hcc⟩:=HAT.out k hlt;obtain⟨cs,-,⟨rfl,hx32⟩,hcA⟩:=hcc k hlt;have hms:=noneM_snoc roots k hlt;generalize roots[k]=x at*
   have hic:(qA x).size=32:=by rw[qD,hx32]
   have hcr:=hcA.keep hm id;have HMS:=O hms;clear hms hcc hcA hMr;go_upto_region 4 with(fail);refine qL [3,1,1,1] ?_;simp only[qB];refine zC 25 32 hlt ?_
   simp only[qC];refine qY 24 hcr 32 hic ?_;try simp only[qC]
   refine qK (zB eC (fun w2 hB2 hm2 hs2=>?_));try simp only[qC]
   refine qK (qT 24 (qA x) (qQ _) 32 hic hB2 (fun w3 hB3 hm3=>?_) (hoff:=by rw[hic,qD];simp));simp only[qB]
   have hmr3:Mod qJ wr w3:=hm2.transB hm3 (Nat.le_refl _);have hm03:=hm.trans0 hmr3;have hM3:=HMR.out.keep0 hmr3;have hno:=clNone_no (H.out.keepZ hm03)
   generalize hb7:wr.heap.size=b7 at*;clear hm hm2 hm3 hmr3 hB2 hcr hs2;go_upto_region 6 with(go_at_call 86;refine hno.mono ?_;rintro _ w4 ⟨rfl,hw⟩;obtain rfl:=hw.symm)
   refine qL [3,1,0,1] ?_;simp only[qB];refine qY 24 (CellsAt.whole hB3) 32 hic ?_;try simp only[qC]
   refine yV built_cmark0 ?_;simp only[qC]
   refine qK (dI sP hM3 x hx32 144 152 underlying144 _ _ _ (.agg #[.int .i64 0]) (by rfl) (by rfl) (by rfl) (by rfl) (fun w4 hM4 hm4=>?_));simp only[qB]
   have HR:Hid (NoMRel w mb roots (.int .i64 ((k+1:Nat):Int)) w4):=O ⟨k+1,by omega,rfl,by rw[HMS.out];exact hM4,hm03.transB hm4 (by omega)⟩
   clear hB3 hM3 hM4 hm4 hm03 hno;go_wp2
   go_roundw
   case rel=>exact HR.out
   case measure=>simp[intOf];omega
  ·have hz:¬(k:Int)<(roots.length:Nat):=by omega
   obtain rfl:k=roots.length:=by omega
   have hMf:=HMR.out;rw[List.take_length]at hMf;obtain⟨hnd,hks⟩:=noneM_keys roots;have hln:=jC (m:=roots) hnd (fun x hx=>(hks x).1 hx)
   rw[List.length_map]at hln;have hris:=clRising_any hMf (by omega);clear hMr hMf hnd hks hln;go_upto_region 9 with(fail);refine qL [3,1,3] ?_;simp only[qB]
   refine qK (xE func84 (hris) ?_);rintro e w6 ⟨hm6,v6,ids,he6,hg6,hs6,hp6,hl6⟩;subst he6
   have HF:Hid (MarkR w [] roots (.returned v6) w6):=O ⟨hm.trans0 hm6,v6,ids,rfl,hg6.base (by have:=hm.size;omega),marks_none hs6 hp6,hl6⟩;refine⟨_,rfl,?_⟩
   simp only[qB];clear hm hm6 hg6 hs6 hp6 hl6;go_wp2;go_ret;exact HF.out
section
variable{w:iN}{h:tC}{c:yO}{l:qU}{Ft:iM}
end
def eB(L:List iK)(n mx:Nat):Bool:=(L.take (n+1)).any (fun m=>decide (mx<m.length))||decide (n<L.length)
theorem longB_false(h:eB L n mx=false):L.length<=n/\∀m∈L,m.length<=mx:=by
 unfold eB at h;rw[Bool.or_eq_false_iff,decide_eq_false_iff_not]at h;have hl:L.length<=n:=by omega
 rw[List.take_of_length_le (by omega)]at h;refine⟨hl,fun m hm=>?_⟩;have h1:=List.any_eq_false.1 h.1 m hm
 simpa using h1
theorem longB_big(hk:k<L.length)(hn:k<=n)(hb:mx<L[k].length):eB L n mx=true:=by
 unfold eB
 have:(L.take (n+1)).any (fun m=>decide (mx<m.length))=true:=List.any_eq_true.2 ⟨L[k],by rw[List.mem_take_iff_getElem];exact⟨k,by omega,rfl⟩,by simpa using hb⟩
 rw[this,Bool.true_or]
theorem longB_many(h:n<L.length):eB L n mx=true:=by
 unfold eB;rw[decide_eq_true h,Bool.or_true]
theorem longB_not(h:L.length<=n)(h2:∀m∈L,m.length<=mx):eB L n mx=false:=by
 unfold eB;rw[List.take_of_length_le (by omega),Bool.or_eq_false_iff,decide_eq_false_iff_not];refine⟨List.any_eq_false.2 fun m hm=>?_,by omega⟩;have:=h2 m hm
 simpa using this
def LngRel(w0:iN)(L:List iK)(n mx:Nat)(i:Value)(w:iN):Prop:=∃k:Nat,k<=L.length/\k<=n+1/\i=.int .i64 k/\Mod qJ w0 w/\∀m∈L.take k,m.length<=mx
theorem longLists_any(hl:LsAt w lv L)(n mx:Nat)(hn:n<=1000000)(hsz:mx<=1000000):Calls prog 77 #[lv,.int .i64 n,.int .i64 mx] w (vO (.bool (eB L n mx)) w):=by
 obtain⟨lad,lcap,rfl,hle,-⟩:=Sl.at hl;have HL:=O hl
 have HR0:Hid (LngRel w L n mx (.int .i64 (0:Nat)) w):=O ⟨0,Nat.zero_le _,Nat.zero_le _,rfl,Mod.refl _ _,by simp⟩;clear hl;go_enter func77,ntmps77;go_wp2
 go_loopw [7] (LngRel w L n mx) (fun i _=>L.length+1-(intOf i).toNat)
 case atStart=>exact HR0.out
 case round=>
  rename iN=>wr
  obtain⟨k,hk,hkn,rfl,hmr,hpre⟩:=hrel
  by_cases hlt:k<L.length
  ·have hz:(k:Int)<(L.length:Nat):=by omega
   by_cases hkle:k<=n
   ·have hz2:(k:Int)<=(n:Nat):=by omega
    obtain⟨_,_,hae,-,hat⟩:=(kN HL.out hmr).at;injection hae with hae1 hae2 hae3;subst hae1 hae3;obtain⟨b,off,rfl,-,-,hcc⟩:=hat k hlt
    obtain⟨cs,-,⟨vk,rfl,hvk⟩,hcA⟩:=hcc k hlt;have hc:=CellsAt.one.1 hcA;have hsn:=pZ hlt;have hbg:mx<L[k].length->eB L n mx=true:=longB_big hlt hkle
    have HBG:=O hbg;clear hbg;generalize L[k]=m at*;obtain⟨va,vc,rfl,hml,-⟩:=Sl.at hvk;clear hcc hcA hvk hat hae2;go_upto_region 4 with(fail)
    refine qL [3,3,3,1,3,3,3] ?_;simp only[qB];refine zC 22 1 hlt ?_;simp only[qC];refine qG 53 hc ?_;try simp only[qC]
    refine xF ?_;simp only[qB];refine qZ (fun _=>by go_simp;try with_reducible rfl) ?_;simp only[qB]
    by_cases hbig:m.length>mx
    ·have hz3:(m.length:Int)>(mx:Nat):=by omega
     have HV:=O (HBG.out hbig);clear hc hsn hpre;go_wp2;go_ret;exact⟨by rw[HV.out];rfl,hmr⟩
    ·have hz3:¬(m.length:Int)>(mx:Nat):=by omega
     have HR:Hid (LngRel w L n mx (.int .i64 ((k+1:Nat):Int)) wr):=O ⟨k+1,by omega,by omega,rfl,hmr,fun x hx=>by
      rw[<-hsn,List.mem_append,List.mem_singleton]at hx
      rcases hx with hx|rfl
      ·exact hpre x hx
      ·omega⟩
     clear hc hsn hpre;go_wp2
     go_roundw
     case rel=>exact HR.out
     case measure=>simp[intOf];omega
   ·have hz2:¬(k:Int)<=(n:Nat):=by omega
    have hz4:(L.length:Int)>(n:Nat):=by omega
    have HV:=O (longB_many (mx:=mx) (show n<L.length by omega));clear hpre;go_wp2;go_ret;exact⟨by rw[HV.out];rfl,hmr⟩
  ·have hz:¬(k:Int)<(L.length:Nat):=by omega
   obtain rfl:k=L.length:=by omega
   rw[List.take_length]at hpre;have HP:=O hpre;clear hpre
   by_cases hgt:L.length>n
   ·have hz4:(L.length:Int)>(n:Nat):=by omega
    have HV:=O (longB_many (mx:=mx) (show n<L.length by omega));go_wp2;go_ret;exact⟨by rw[HV.out];rfl,hmr⟩
   ·have hz4:¬(L.length:Int)>(n:Nat):=by omega
    have HV:=O (longB_not (mx:=mx) (show L.length<=n by omega) HP.out);go_wp2;go_ret;exact⟨by rw[HV.out];rfl,hmr⟩
def longH(L:List iK)(KK:List Int):Bool:=eB L 30 700||decide (60<KK.length)
theorem longH_false(h:longH L KK=false):L.length<=30/\(∀m∈L,m.length<=700)/\KK.length<=60:=by
 unfold longH at h;rw[Bool.or_eq_false_iff,decide_eq_false_iff_not]at h;have:=longB_false h.1;exact⟨this.1,this.2,by omega⟩
theorem long27_any(hl:LsAt w lv L)(hk:Sl false w kV 1 dH kv KK):Calls prog 39 #[.agg #[.int .i64 wd,lv,kv]] w (vO (.bool (longH L KK)) w):=by
 obtain⟨lad,lcap,rfl,hle,-⟩:=Sl.at hl;obtain⟨kad,kcap,rfl,hke,-⟩:=Sl.at hk;have HL:=O hl;obtain⟨res,hres⟩:∃r,longH L KK=r:=⟨_,rfl⟩;rw[hres]
 unfold longH at hres;have HRES:=O hres;clear hl hk hres;go_enter func39,ntmps39;go_upto_region 0 with(fail);refine qL [1,3] ?_;simp only[qB]
 refine qK (zT 68 (fun w1 hB1 hm1 hs1=>?_))
 replace hB1:w1.heap[w.heap.size]?=some (.cells #[.int .i64 wd,.slice lad L.length lcap,.slice kad KK.length kcap] 68 (0,0)):=hB1;simp only[qB]
 have hc1:w1.cell? ⟨w.heap.size,0+1,none⟩=some (.slice lad L.length lcap):=by simp[World.cell?,hB1]
 have hc2:w1.cell? ⟨w.heap.size,0+2,none⟩=some (.slice kad KK.length kcap):=by simp[World.cell?,hB1]
 have hcall:=longLists_any (kN HL.out hm1) 30 700 (by omega) (by omega);obtain⟨lb,hlb⟩:∃b,eB L 30 700=b:=⟨_,rfl⟩;rw[hlb]at HRES hcall;clear hlb
 generalize w.heap.size=hb at*;go_upto_region 1 with(fail)
 cases lb with
 |true=>
  have hr:res=true:=by have h:=HRES.out;simpa using h.symm
  refine qL [3,1,1,3,3,0,3,3,3,3] ?_;simp only[qB];refine qG 22 hc1 ?_;try simp only[qC]
  refine qK (pL func77 (hcall) fun w2 hm2=>?_);simp only[qB];clear hc1 hc2 hB1;go_wp2;go_ret;exact⟨by rw[hr];rfl,hm1.trans0 hm2⟩
 |false=>
  have hr:decide (60<KK.length)=res:=by have h:=HRES.out;simpa using h
  refine qL [3,1,1,3,3,1,3,3,3,3] ?_;simp only[qB];refine qG 22 hc1 ?_;try simp only[qC]
  refine qK (xE func77 (hcall) ?_);rintro e w2 ⟨rfl,hm2⟩;have hc2':=hm2.cell id hc2;refine⟨_,rfl,?_⟩;simp only[qB];refine qG 64 hc2' ?_;try simp only[qC]
  refine xF ?_;simp only[qC]
  refine qN _ _ _ _ _ _ _ _ rfl rfl rfl rfl rfl (decide (60<KK.length)) (show decide (((KK.length:Nat):Int)>60)=decide (60<KK.length) by rw[decide_eq_decide];omega) ?_
  simp only[qB];clear hc1 hc2 hc2' hB1;rw[hr];go_wp2;go_ret;exact⟨rfl,hm1.trans0 hm2⟩
end
section
open Go.ChangeShapes Go.WideShapes Go.ChangeAt Go.RowKit Go.Proofs.Tryz Go.Lib
theorem Mod.kept(h:Mod qJ w w')(may:MemPlace->Prop):w.keptBut w' may:=by
 refine⟨h.os,h.output,fun i hi=>?_⟩;have e:=h.block i hi id
 cases hw:w.heap[i]? with
 |none=>rw[hw]at e;simp[e]
 |some o=>
  rw[hw]at e
  cases o<;>simp[e]
theorem post_of_mod{H:Type}{enc:TypeId×Value->H}{f:Func}{s:ChangeSpec}{apart fresh handsOn:Bool}{args:iL}{ds gs:List (DataW H)}{before pa pv:List MemPlace}
 (hold:DataW.Whole enc P f.params.toList s.vars apart W args.toList ds gs before)(hm:Mod qJ W W')
 (hr:∀(b:Nat),DataW.TrodAll enc P W' b (fun _=>false) handsOn f.resultTypes.toList (v.resultList f.resultTypes.size) (s.fn H (ds++gs)).results [])
 (ha:DataW.TrodAll enc P W' 0 (fun b=>decide (b<W.heap.size)) true f.params.toList args.toList (s.fn H (ds++gs)).args pa)
 (hv:DataW.TrodVars enc P W' (fun b=>decide (b<W.heap.size)) s.vars (s.fn H (ds++gs)).vars pv):s.post enc P f apart fresh handsOn false W args v W':=by
 unfold ChangeSpec.post;exact⟨ds,gs,before,[],pa,pv,hold,hr _,ha,hv,hm.kept _,fun h=>Bool.noConfusion h⟩
theorem laidOut:laidOutB prog=true:=by kernel_rfl
theorem carry{H:Type}{enc:TypeId×Value->H}(hr:prog.readableRec t=true)(hrow:t<prog.types.size)(hm:Mod qJ W W'){d:DataW H}{ps:List MemPlace}
 (h:DataW.Trod enc prog W 0 (fun _=>true) true t v d ps):DataW.Trod enc prog W' 0 (fun b=>decide (b<W.heap.size)) true t v d ps:=by
 obtain⟨n,h⟩:=h;have hlt:=DataW.trod_lt n t _ _ h
 refine⟨n,DataW.trod_stays (kids_book laidOut hr) (book_sized hr) (fun h=>by cases h) ⟨hrow,book_self t⟩ h (fun p hp=>?_) (fun p hp=>by simpa using hlt p hp)⟩
 have hb:=hlt p hp
 cases p with
 |cell b off=>exact World.cell?_of_block (w:=W) (hm.block b hb id)
 |map b=>exact hm.block b hb id
theorem fit_i64{n:Int}(h:(Lit.int .i64 n).wf=true):-9223372036854775808<=n/\n<=9223372036854775807:=bounds_i64 h
theorem addr_add{a:Addr}(i:Nat)(h0:∃u,w.cell? (a.add 0)=some u)(h:w.cell? (a.add i)=some v):a=⟨a.block,a.off,none⟩/\w.cell? ⟨a.block,a.off+i,none⟩=some v:=by
 obtain⟨u,h0⟩:=h0;obtain⟨b,off,spot⟩:=a
 have hs:spot=none:=by
  simp only[Addr.add,if_true]at h0;unfold World.cell? at h0
  cases spot with
  |none=>rfl
  |some s=>cases hw:w.heap[b]? with
   |none=>simp[hw]at h0
   |some o=>cases o<;>simp[hw]at h0
 subst hs;refine⟨rfl,?_⟩;unfold Addr.add at h
 split at h
 ·rename_i hi;subst hi;exact h
 ·exact h
theorem list_of_all{α:Type}{Q:Nat->α->Prop}(h:∀i,i<n->∃a,Q i a):∃l:List α,l.length=n/\∀i (hi:i<l.length),Q i l[i]:=by
 refine⟨List.ofFn fun i:Fin n=>Classical.choose (h i.1 i.2),by simp,fun i hi=>?_⟩;rw[List.getElem_ofFn];exact Classical.choose_spec (h i (by simpa using hi))
theorem iD{a:Addr}{i j:Nat}{u:Value}(h0:w.cell? ((a.add 0).add 0)=some u)(h:w.cell? ((a.add i).add j)=some v):a=⟨a.block,a.off,none⟩/\w.cell? ⟨a.block,a.off+i+j,none⟩=some v:=by
 have e0:(a.add 0).add 0=a.add 0:=by simp[Addr.add]
 have h1:=(addr_add 0 ⟨u,e0▸h0⟩ (e0▸h0)).1;refine⟨h1,?_⟩;rw[h1]at h
 have e:∀(b o k:Nat),Addr.add ⟨b,o,none⟩ k=⟨b,o+k,none⟩:=fun b o k=>by
  unfold Addr.add
  split
  ·rename_i hk;subst hk;rfl
  ·rfl
 rwa[e,e]at h
section
variable{H:Type}{enc:TypeId×Value->H}{P:Program}{W:iN}{sp:Nat->Bool}{held:Bool}
theorem pB{α:Type}{R:iL->α->Prop}{e:TypeId}{sz:Nat}{x:DataW H×List MemPlace}(ht:P.underlying t=some (.slice e))(hsz:P.cellsOf e=sz)(hpos:0<sz)
 (hR:∀n cs x,DataW.trod enc P W 0 sp held n e cs=some x->∃a,R cs.toArray a)(h:DataW.trod enc P W 0 sp held fuel t cs=some x):∃v l,cs=[v]/\Sl false W (fun k=>k<W.heap.size) sz R v l:=by
 rcases DataW.trod_slice ht h with⟨rfl,_⟩|⟨a,len,cap,elems,rest,n,_,rfl,_,_,hlc,hcm,hel,helem,_,_⟩
 ·exact⟨_,[],rfl,Sl.nil _ _ _ _ _⟩
 ·subst hsz
  have hall:∀i,i<len->∃y:α,∃cs:List Value,cs.length=P.cellsOf e/\R cs.toArray y/\∀j,j<P.cellsOf e->W.cell? ((a.add (i*P.cellsOf e)).add j)=cs[j]?:=by
   intro i hi;have h1:=helem i hi;rw[List.getElem?_eq_getElem (by omega)]at h1;obtain⟨cs,h2,h3⟩:=Option.bind_eq_some_iff.1 h1;obtain⟨_,hl,hc⟩:=World.cells?_some h2
   obtain⟨y,hy⟩:=hR _ _ _ h3;exact⟨y,cs,hl,hy,hc⟩
  obtain⟨l,hl,hq⟩:=list_of_all hall;refine⟨_,l,rfl,some a,cap,by rw[hl],by omega,hcm,fun hne=>?_⟩;have hp:0<l.length:=List.length_pos_iff.2 hne
  have h0:∃u,W.cell? ((a.add 0).add 0)=some u:=by
   obtain⟨cs,h1,_,h3⟩:=hq 0 hp;have:=h3 0 hpos;rw[List.getElem?_eq_getElem (by omega),Nat.zero_mul]at this;exact⟨_,this⟩
  obtain⟨u,h0⟩:=h0
  refine⟨a.block,a.off,by rw[<-(iD h0 h0).1],(block_lt_of_cell (a:=⟨a.block,a.off+0+0,none⟩) (iD h0 h0).2),fun h=>(by cases h),fun i hi=>?_⟩
  obtain⟨cs,h1,h2,h3⟩:=hq i hi;refine⟨cs.toArray,by simpa using h1,h2,fun j hj=>?_⟩;have hj':j<cs.length:=by simpa using hj
  have:=h3 j (by omega);rw[List.getElem?_eq_getElem hj']at this;rw[(iD h0 this).2]
  simp[List.getElem?_eq_getElem hj']
theorem vU{fs:Array Field}{x:DataW H×List MemPlace}(ht:P.underlying t=some (.struct fs))(h:DataW.trod enc P W 0 sp held fuel t cs=some x):
 cs.length=P.cellsOf t/\∀(i:Nat)(f:Field),fs[i]?=some f->∃n y,DataW.trod enc P W 0 sp held n f.type ((cs.drop f.offset).take (P.cellsOf f.type))=some y:=by
 obtain⟨xs,n,_,_,hl,hx,hf⟩:=DataW.trod_struct ht h;refine⟨hl,fun i f hi=>⟨n,?_⟩⟩
 have hi':i<xs.length:=by
  rcases Nat.lt_or_ge i fs.size with h|h
  ·omega
  ·rw[Array.getElem?_eq_none h]at hi;cases hi
 have:=hf i f hi;rw[List.getElem?_eq_getElem hi']at this;exact⟨_,this⟩
theorem yG(cs:List Value)(k n:Nat):cs.drop k=(cs.drop k).take n++cs.drop (k+n):=by
 rw[<-List.drop_drop,List.take_append_drop]
end
section
variable{H:Type}{enc:TypeId×Value->H}{W:iN}{sp:Nat->Bool}{held:Bool}{fuel:Nat}{cs:List Value}{x:DataW H×List MemPlace}
theorem read_u8(h:DataW.trod enc prog W 0 sp held fuel 5 cs=some x):∃b,cs=[qW b]:=by
 obtain⟨n,rfl,_,hw⟩:=DataW.trod_int underlying5 h;have:=bounds_u8 hw;refine⟨UInt8.ofNat n.toNat,?_⟩;unfold qW
 rw[UInt8.toNat_ofNat_of_lt' (by rw[show UInt8.size=256 from rfl];omega),Int.toNat_of_nonneg this.1]
theorem read_id(h:DataW.trod enc prog W 0 sp held fuel 24 cs=some x):∃i:iK,i.length=32/\cs=i.map qW:=by
 obtain⟨xs,m,_,_,hl,hx,hf⟩:=DataW.trod_array underlying24 h;have hc:prog.cellsOf 24=32:=by kernel_rfl
 have h5:prog.cellsOf 5=1:=by kernel_rfl
 rw[hc]at hl
 have hall:∀i,i<32->∃b,cs[i]?=some (qW b):=by
  intro i hi;have h1:=hf i hi;rw[List.getElem?_eq_getElem (by omega)]at h1;obtain⟨b,hb⟩:=read_u8 h1;rw[h5,Nat.mul_one]at hb;refine⟨b,?_⟩
  have:=congrArg (fun l=>l[0]?) hb
  simpa using this
 obtain⟨l,hl',hq⟩:=list_of_all hall;refine⟨l,hl',List.ext_getElem (by simp;omega) fun i h1 h2=>?_⟩;have:=hq i (by simpa using h2)
 rw[List.getElem?_eq_getElem h1]at this
 simpa using this
theorem read_ids(h:DataW.trod enc prog W 0 sp held fuel 25 cs=some x):∃v l,cs=[v]/\Sl false W (fun k=>k<W.heap.size) 32 IdC v l:=
 pB underlying25 (by kernel_rfl) (by decide) (fun _ _ _ h=>by
  obtain⟨n,hn,rfl⟩:=read_id h
  exact⟨n,rfl,hn⟩) h
theorem read_bytes(h:DataW.trod enc prog W 0 sp held fuel 53 cs=some x):∃v l,cs=[v]/\Sl false W (fun k=>k<W.heap.size) 1 yA v l:=
 pB underlying53 (by kernel_rfl) (by decide) (fun _ _ _ h=>by
  obtain⟨b,rfl⟩:=read_u8 h
  exact⟨b,rfl⟩) h
theorem read_lists(h:DataW.trod enc prog W 0 sp held fuel 22 cs=some x):∃v l,cs=[v]/\LsAt W v l:=by
 obtain⟨v,l,e,hs⟩:=pB (R:=BtsC W) (sz:=1) underlying22 (by kernel_rfl) (by decide) (fun _ _ _ h=>by
  obtain⟨v,l,rfl,hs⟩:=read_bytes h
  exact⟨l,v,rfl,hs.mono (fun _ _=>trivial) (fun _ _ h=>h)⟩) h
 exact⟨v,l,e,hs.mono (fun _ _=>trivial) (fun _ _ h=>h)⟩
def IntF(cs:iL)(n:Int):Prop:=cs=#[.int .i64 n]/\I64 n
theorem read_ints(h:DataW.trod enc prog W 0 sp held fuel 64 cs=some x):∃v l,cs=[v]/\Sl false W kV 1 IntF v l:=by
 obtain⟨v,l,e,hs⟩:=pB (R:=IntF) (sz:=1) underlying64 (by kernel_rfl) (by decide) (fun _ _ _ h=>by
  obtain⟨n,rfl,_,hw⟩:=DataW.trod_int underlying3 h
  exact⟨n,rfl,fit_i64 hw⟩) h
 exact⟨v,l,e,hs.mono (fun _ _=>trivial) (fun _ _ h=>h)⟩
theorem read_house(h:DataW.trod enc prog W 0 sp held fuel 68 cs=some x):∃wd lv kv L KK,cs=[.int .i64 wd,lv,kv]/\I64 wd/\LsAt W lv L/\Sl false W kV 1 IntF kv KK:=by
 obtain⟨hl,hf⟩:=vU underlying68 h;have c3:prog.cellsOf 3=1:=by kernel_rfl
 have c22:prog.cellsOf 22=1:=by kernel_rfl
 have c64:prog.cellsOf 64=1:=by kernel_rfl
 have hc:prog.cellsOf 68=3:=by kernel_rfl
 obtain⟨_,_,h0⟩:∃n y,DataW.trod enc prog W 0 sp held n 3 ((cs.drop 0).take (prog.cellsOf 3))=some y:=hf 0 _ rfl
 obtain⟨_,_,h1⟩:∃n y,DataW.trod enc prog W 0 sp held n 22 ((cs.drop 1).take (prog.cellsOf 22))=some y:=hf 1 _ rfl
 obtain⟨_,_,h2⟩:∃n y,DataW.trod enc prog W 0 sp held n 64 ((cs.drop 2).take (prog.cellsOf 64))=some y:=hf 2 _ rfl;obtain⟨n,e0,_,hw⟩:=DataW.trod_int underlying3 h0
 obtain⟨lv,L,e1,hs1⟩:=read_lists h1;obtain⟨kv,KK,e2,hs2⟩:=read_ints h2;rw[hc]at hl;rw[c3]at e0;rw[c22]at e1;rw[c64]at e2
 refine⟨n,lv,kv,L,KK,?_,fit_i64 hw,hs1,hs2⟩;have:=yG cs 0 1
 rw[e0,yG cs (0+1) 1,e1,yG cs (0+1+1) 1,e2,show 0+1+1+1=3 from rfl,List.drop_of_length_le (i:=3) (by omega),List.drop_zero]at this;rw[this]
 rfl
end
structure HsX where
 wd:Int
 lv:Value
 kv:Value
 L:List iK
 KK:List Int
def HsIn(W:iN)(a:HsX):Prop:=I64 a.wd/\LsAt W a.lv a.L/\Sl false W kV 1 IntF a.kv a.KK
section
variable{H:Type}{enc:TypeId×Value->H}{W W0:iN}{sp:Nat->Bool}{r:Reach}{b0:Nat}{v:Value}{d:DataW H}{ps:List MemPlace}
theorem open_house(hval:Value.okWide prog W0 r b0 68 v)(h:DataW.Trod enc prog W 0 sp true 68 v d ps):∃a:HsX,v=.agg #[.int .i64 a.wd,a.lv,a.kv]/\HsIn W a:=by
 obtain⟨cs,rfl,_⟩:=okWide_struct underlying68 hval;obtain⟨fuel,h⟩:=h;obtain⟨wd,lv,kv,L,KK,e,h1,h2,h3⟩:=read_house h;refine⟨⟨wd,lv,kv,L,KK⟩,?_,h1,h2,h3⟩
 congr 1
 exact Array.toList_inj.1 e
end
end
section
open Go.RowKit Go.Proofs.Tryz Go.Lib
theorem sl_mem{α:Type}{own:Bool}{R:iL->α->Prop}{l:List α}{Q:α->Prop}(h:Sl own w G n R v l)(hQ:∀cs x,R cs x->Q x):∀x∈l,Q x:=by
 intro x hx;obtain⟨a,cap,_,_,hat⟩:=Sl.at h;obtain⟨i,hi,rfl⟩:=List.getElem_of_mem hx;obtain⟨b,off,_,_,_,hc⟩:=hat i hi;obtain⟨cs,_,h2,_⟩:=hc i hi
 exact hQ _ _ h2
end
section
open Go.ChangeShapes Go.WideShapes Go.ChangeAt Go.RowKit Go.Proofs.Tryz Go.Lib
section
variable{H:Type}{enc:TypeId×Value->H}{W:iN}{sp:Nat->Bool}{held:Bool}{fuel:Nat}{cs:List Value}{x:DataW H×List MemPlace}
theorem read_dot(h:DataW.trod enc prog W 0 sp held fuel 113 cs=some x):∃r n:Int,cs=[.int .i64 r,.int .i64 n]:=by
 obtain⟨hl,hf⟩:=vU underlying113 h;have h3:prog.cellsOf 3=1:=by kernel_rfl
 have hc:prog.cellsOf 113=2:=by kernel_rfl
 obtain⟨_,_,h0⟩:∃n y,DataW.trod enc prog W 0 sp held n 3 ((cs.drop 0).take (prog.cellsOf 3))=some y:=hf 0 _ rfl
 obtain⟨_,_,h1⟩:∃n y,DataW.trod enc prog W 0 sp held n 3 ((cs.drop 1).take (prog.cellsOf 3))=some y:=hf 1 _ rfl;obtain⟨r,e0,_⟩:=DataW.trod_int underlying3 h0
 obtain⟨n,e1,_⟩:=DataW.trod_int underlying3 h1;rw[h3]at e0 e1;rw[hc]at hl;refine⟨r,n,?_⟩;have:=yG cs 0 1
 rw[e0,yG cs (0+1) 1,e1,show 0+1+1=2 from rfl,List.drop_of_length_le (i:=2) (by omega),List.drop_zero]at this
 simpa using this
theorem read_event(h:DataW.trod enc prog W 0 sp held fuel 115 cs=some x):∃e,EvR false W (fun k=>k<W.heap.size) cs.toArray e:=by
 obtain⟨hl,hf⟩:=vU underlying115 h;have c3:prog.cellsOf 3=1:=by kernel_rfl
 have c9:prog.cellsOf 9=1:=by kernel_rfl
 have c30:prog.cellsOf 64=1:=by kernel_rfl
 have c33:prog.cellsOf 113=2:=by kernel_rfl
 have c35:prog.cellsOf 24=32:=by kernel_rfl
 have c102:prog.cellsOf 25=1:=by kernel_rfl
 have hc:prog.cellsOf 115=39:=by kernel_rfl
 obtain⟨_,_,h0⟩:∃n y,DataW.trod enc prog W 0 sp held n 113 ((cs.drop 0).take (prog.cellsOf 113))=some y:=hf 0 _ rfl
 obtain⟨_,_,h1⟩:∃n y,DataW.trod enc prog W 0 sp held n 64 ((cs.drop 2).take (prog.cellsOf 64))=some y:=hf 1 _ rfl
 obtain⟨_,_,h2⟩:∃n y,DataW.trod enc prog W 0 sp held n 3 ((cs.drop 3).take (prog.cellsOf 3))=some y:=hf 2 _ rfl
 obtain⟨_,_,h3⟩:∃n y,DataW.trod enc prog W 0 sp held n 9 ((cs.drop 4).take (prog.cellsOf 9))=some y:=hf 3 _ rfl
 obtain⟨_,_,h4⟩:∃n y,DataW.trod enc prog W 0 sp held n 9 ((cs.drop 5).take (prog.cellsOf 9))=some y:=hf 4 _ rfl
 obtain⟨_,_,h5⟩:∃n y,DataW.trod enc prog W 0 sp held n 24 ((cs.drop 6).take (prog.cellsOf 24))=some y:=hf 5 _ rfl
 obtain⟨_,_,h6⟩:∃n y,DataW.trod enc prog W 0 sp held n 25 ((cs.drop 38).take (prog.cellsOf 25))=some y:=hf 6 _ rfl;obtain⟨r,n,e0⟩:=read_dot h0
 obtain⟨dv,dl,e1,s1⟩:=read_ints h1;replace s1:Sl false W (fun k=>k<W.heap.size) 1 dH dv dl:=Sl.inside (s1.mono (fun _ _=>trivial) fun _ _ h=>h.1) (by omega)
 obtain⟨k,e2,_⟩:=DataW.trod_int underlying3 h2;obtain⟨repo,e3,_,b3⟩:=DataW.trod_string underlying9 h3;obtain⟨tag,e4,_,b4⟩:=DataW.trod_string underlying9 h4
 obtain⟨id,hid,e5⟩:=read_id h5;obtain⟨rv,rl,e6,s6⟩:=read_ids h6;rw[hc]at hl;rw[c33]at e0;rw[c30]at e1;rw[c3]at e2;rw[c9]at e3 e4;rw[c35]at e5;rw[c102]at e6
 refine⟨⟨r,n,dl,k,repo,tag,id,rl⟩,dv,rv,?_,hid,s1,s6,b3,b4⟩;have:=yG cs 0 2
 rw[e0,yG cs (0+2) 1,e1,yG cs (0+2+1) 1,e2,yG cs (0+2+1+1) 1,e3,yG cs (0+2+1+1+1) 1,e4,yG cs (0+2+1+1+1+1) 32,e5,
  yG cs (0+2+1+1+1+1+32) 1,e6,show 0+2+1+1+1+1+32+1=39 from rfl,List.drop_of_length_le (i:=39) (by omega),List.drop_zero]at this
 rw[this]
 simp[vD,qA]
theorem read_events(h:DataW.trod enc prog W 0 sp held fuel 72 cs=some x):∃v l,cs=[v]/\Sl false W (fun k=>k<W.heap.size) 39 (EvR false W (fun k=>k<W.heap.size)) v l:=
 pB underlying72 (by kernel_rfl) (by decide) (fun _ _ _ h=>read_event h) h
end
def EvsIn(W:iN)(v:Value)(l:List tX):Prop:=Sl false W (fun k=>k<W.heap.size) 39 (EvR false W (fun k=>k<W.heap.size)) v l
section
variable{H:Type}{enc:TypeId×Value->H}{W W0:iN}{sp:Nat->Bool}{r:Reach}{b0:Nat}{v:Value}{d:DataW H}{ps:List MemPlace}
theorem open_events(hval:Value.okWide prog W0 r b0 72 v)(h:DataW.Trod enc prog W 0 sp true 72 v d ps):∃l,EvsIn W v l:=by
 obtain⟨a0,n0,c0,rfl⟩:=okWide_slice underlying72 hval;obtain⟨fuel,h⟩:=h;obtain⟨v,l,hv,hl⟩:=read_events h
 have:Value.slice a0 n0 c0=v:=by simpa[Value.cells]using hv
 rw[this];exact⟨l,hl⟩
end
section
variable{H:Type}{enc:TypeId×Value->H}{W:iN}{sp:Nat->Bool}{held:Bool}{fuel:Nat}{cs:List Value}{x:DataW H×List MemPlace}
theorem read_held(h:DataW.trod enc prog W 0 sp held fuel 211 cs=some x):∃y:vV,sZ cs.toArray y:=by
 obtain⟨hl,hf⟩:=vU underlying211 h;have c2:prog.cellsOf 113=2:=by kernel_rfl
 have c32:prog.cellsOf 24=32:=by kernel_rfl
 have hc:prog.cellsOf 211=34:=by kernel_rfl
 obtain⟨_,_,h0⟩:∃n y,DataW.trod enc prog W 0 sp held n 113 ((cs.drop 0).take (prog.cellsOf 113))=some y:=hf 0 _ rfl
 obtain⟨_,_,h1⟩:∃n y,DataW.trod enc prog W 0 sp held n 24 ((cs.drop 2).take (prog.cellsOf 24))=some y:=hf 1 _ rfl;obtain⟨r,n,e0⟩:=read_dot h0
 obtain⟨id,hid,e1⟩:=read_id h1;rw[hc]at hl;rw[c2]at e0;rw[c32]at e1;refine⟨((r,n),id),?_,hid⟩;have:=yG cs 0 2
 rw[e0,yG cs (0+2) 32,e1,show 0+2+32=34 from rfl,List.drop_of_length_le (i:=34) (by omega),List.drop_zero]at this;rw[this]
 simp[zY,qA]
theorem read_helds(h:DataW.trod enc prog W 0 sp held fuel 184 cs=some x):∃v l,cs=[v]/\RowAt W (v,l):=by
 obtain⟨v,l,e,hs⟩:=pB (R:=sZ) (sz:=34) underlying184 (by kernel_rfl) (by decide) (fun _ _ _ h=>read_held h) h
 exact⟨v,l,e,hs.mono (fun _ _=>trivial) (fun _ _ h=>h)⟩
theorem read_tag(h:DataW.trod enc prog W 0 sp held fuel 188 cs=some x):∃t:gC,TagC W cs.toArray t:=by
 obtain⟨hl,hf⟩:=vU underlying188 h;have c1:prog.cellsOf 9=1:=by kernel_rfl
 have c2:prog.cellsOf 184=1:=by kernel_rfl
 have hc:prog.cellsOf 188=2:=by kernel_rfl
 obtain⟨_,_,h0⟩:∃n y,DataW.trod enc prog W 0 sp held n 9 ((cs.drop 0).take (prog.cellsOf 9))=some y:=hf 0 _ rfl
 obtain⟨_,_,h1⟩:∃n y,DataW.trod enc prog W 0 sp held n 184 ((cs.drop 1).take (prog.cellsOf 184))=some y:=hf 1 _ rfl
 obtain⟨s,e0,_,b0⟩:=DataW.trod_string underlying9 h0;obtain⟨v,l,e1,hr⟩:=read_helds h1;rw[hc]at hl;rw[c1]at e0;rw[c2]at e1;refine⟨⟨s,(v,l)⟩,?_,hr⟩
 have:=yG cs 0 1;rw[e0,yG cs (0+1) 1,e1,show 0+1+1=2 from rfl,List.drop_of_length_le (i:=2) (by omega),List.drop_zero]at this;rw[this]
 rfl
theorem read_tags(h:DataW.trod enc prog W 0 sp held fuel 183 cs=some x):∃v l,cs=[v]/\Sl false W kV 2 (TagC W) v l:=by
 obtain⟨v,l,e,hs⟩:=pB (R:=TagC W) (sz:=2) underlying183 (by kernel_rfl) (by decide) (fun _ _ _ h=>read_tag h) h
 exact⟨v,l,e,hs.mono (fun _ _=>trivial) (fun _ _ h=>h)⟩
theorem read_rep(h:DataW.trod enc prog W 0 sp held fuel 186 cs=some x):∃r:jW,RepC W cs.toArray r:=by
 obtain⟨hl,hf⟩:=vU underlying186 h;have c1:prog.cellsOf 9=1:=by kernel_rfl
 have c2:prog.cellsOf 183=1:=by kernel_rfl
 have c3:prog.cellsOf 184=1:=by kernel_rfl
 have hc:prog.cellsOf 186=3:=by kernel_rfl
 obtain⟨_,_,h0⟩:∃n y,DataW.trod enc prog W 0 sp held n 9 ((cs.drop 0).take (prog.cellsOf 9))=some y:=hf 0 _ rfl
 obtain⟨_,_,h1⟩:∃n y,DataW.trod enc prog W 0 sp held n 183 ((cs.drop 1).take (prog.cellsOf 183))=some y:=hf 1 _ rfl
 obtain⟨_,_,h2⟩:∃n y,DataW.trod enc prog W 0 sp held n 184 ((cs.drop 2).take (prog.cellsOf 184))=some y:=hf 2 _ rfl
 obtain⟨s,e0,_,b0⟩:=DataW.trod_string underlying9 h0;obtain⟨tv,tags,e1,hr1⟩:=read_tags h1;obtain⟨mv,man,e2,hr2⟩:=read_helds h2;rw[hc]at hl;rw[c1]at e0
 rw[c2]at e1;rw[c3]at e2;refine⟨⟨s,tv,tags,(mv,man)⟩,?_,hr1,hr2⟩;have:=yG cs 0 1
 rw[e0,yG cs (0+1) 1,e1,yG cs (0+1+1) 1,e2,show 0+1+1+1=3 from rfl,List.drop_of_length_le (i:=3) (by omega),List.drop_zero]at this;rw[this]
 rfl
theorem read_reps(h:DataW.trod enc prog W 0 sp held fuel 69 cs=some x):∃v l,cs=[v]/\vG W v l:=by
 obtain⟨v,l,e,hs⟩:=pB (R:=RepC W) (sz:=3) underlying69 (by kernel_rfl) (by decide) (fun _ _ _ h=>read_rep h) h
 exact⟨v,l,e,hs.mono (fun _ _=>trivial) (fun _ _ h=>h)⟩
theorem read_table(h:DataW.trod enc prog W 0 sp held fuel 71 cs=some x):∃vv V rv reps,cs=[vv,rv]/\Sl false W kV 1 IntF vv V/\vG W rv reps:=by
 obtain⟨hl,hf⟩:=vU underlying71 h;have c1:prog.cellsOf 64=1:=by kernel_rfl
 have c2:prog.cellsOf 69=1:=by kernel_rfl
 have hc:prog.cellsOf 71=2:=by kernel_rfl
 obtain⟨_,_,h0⟩:∃n y,DataW.trod enc prog W 0 sp held n 64 ((cs.drop 0).take (prog.cellsOf 64))=some y:=hf 0 _ rfl
 obtain⟨_,_,h1⟩:∃n y,DataW.trod enc prog W 0 sp held n 69 ((cs.drop 1).take (prog.cellsOf 69))=some y:=hf 1 _ rfl;obtain⟨vv,V,e0,hr0⟩:=read_ints h0
 obtain⟨rv,reps,e1,hr1⟩:=read_reps h1;rw[hc]at hl;rw[c1]at e0;rw[c2]at e1;refine⟨vv,V,rv,reps,?_,hr0,hr1⟩;have:=yG cs 0 1
 rw[e0,yG cs (0+1) 1,e1,show 0+1+1=2 from rfl,List.drop_of_length_le (i:=2) (by omega),List.drop_zero]at this;rw[this]
 rfl
end
structure TblX where
 vv:Value
 V:List Int
 rv:Value
 reps:List jW
def TblIn(W:iN)(a:TblX):Prop:=Sl false W kV 1 IntF a.vv a.V/\vG W a.rv a.reps
section
variable{H:Type}{enc:TypeId×Value->H}{W W0:iN}{sp:Nat->Bool}{r:Reach}{b0:Nat}{v:Value}{d:DataW H}{ps:List MemPlace}
theorem open_table(hval:Value.okWide prog W0 r b0 71 v)(h:DataW.Trod enc prog W 0 sp true 71 v d ps):∃a:TblX,v=.agg #[a.vv,a.rv]/\TblIn W a:=by
 obtain⟨cs,rfl,_⟩:=okWide_struct underlying71 hval;obtain⟨fuel,h⟩:=h;obtain⟨vv,V,rv,reps,e,h1,h2⟩:=read_table h;refine⟨⟨vv,V,rv,reps⟩,?_,h1,h2⟩
 congr 1
 exact Array.toList_inj.1 e
end
end
section
open Go.RowKit Go.Shelf Go.Proofs.Tryz Go.Lib
theorem DsAt.getsC{w0:iN}{q8 rq wd:Nat}{c:yO}{l:qU}{Ft:iM}(h:DsAt w0 w q8 rq wd c l Ft)(hs:SortedB c):GetsC w (gZ q8) c:=fun _ _ hm hk=>by
 obtain⟨r,R,RL,h1,rfl,_⟩:=h;exact r8Get_any (h1.keep0 hm).rd (contR_sort.1 hs) hk
theorem plain_small{A B:List jW}(h:A.map yX=B.map yX)(hs:SmallTb B):SmallTb A:=by
 have hl:A.length=B.length:=by simpa using congrArg List.length h
 refine⟨by rw[hl];exact hs.1,fun r hr=>?_⟩;have hr':=List.mem_map_of_mem (f:=yX) hr;rw[h]at hr';obtain⟨u,hu,e⟩:=List.mem_map.1 hr'
 obtain⟨h1,h2,h3⟩:=hs.2 u hu;injection e with e1 e2;injection e2 with e3 e4;have e5:=congrArg List.length e3;simp only[List.length_map]at e5
 refine⟨by omega,by rw[<-e4];exact h2,fun t ht=>?_⟩;have ht':=List.mem_map_of_mem (f:=fun t:gC=>(t.name,t.row.2)) ht;rw[<-e3]at ht'
 obtain⟨v,hv,e6⟩:=List.mem_map.1 ht';injection e6 with _ e7;rw[<-e7];exact h3 v hv
theorem marks_one{c c':yH}(h:∀y,qR y c'=qR y c){out m:List iK}{l:List tX}(h1:fL c roots l out)(h2:vN ((roots.flatMap fun r=>inL c' 5 r 1)++jI l) m):out=m:=sF h1.1 h2.1 fun x=>by
 rw[h1.2 x,h2.2 x,List.mem_append,List.mem_flatMap];simp only[inL_same h,inL_mem]
def MarksPass(w:iN)(L:List iK)(KK:List Int)(V:List Int)(reps:List jW)(l:List tX)(s:Value)(wx:iN):Prop:=
 Mod qJ w wx/\(s=.bool true\/s=.bool false/\longH L KK=false/\tbB V.length reps=true/\SmallEvs l)
theorem sweepMarks_walk(hwd:I64 wd){V:List Int}{reps:List jW}{l:List tX}(hlv:LsAt w lv L)(hkv:Sl false w kV 1 dH kv KK)(hK2:∀x∈KK,I64 x)
 (hV:Sl false w kV 1 dH vv V)(hrv:vG w rv reps)(hev:EvsIn w ev l):
 Calls prog 8 #[.agg #[.int .i64 wd,lv,kv],.agg #[vv,rv],ev] w (vO (.bool true) w):=by
 have hl1:=Sl.one hlv;have hk1:=Sl.one hkv;have hv1:=Sl.one hV;have hr1:=Sl.one hrv;obtain⟨ead,ecap,rfl,hel,-⟩:=Sl.at hev;have HL:=O hlv;have HKV:=O hkv
 have HV:=O hV;have HRV:=O hrv;have HE:=O hev;clear hlv hkv hV hrv hev;go_enter func8,ntmps8;go_upto_region 0 with(fail);refine qL [1,1,3] ?_;simp only[qB]
 refine qK (zT 68 (fun w1 hB1 hm1 hs1=>?_));replace hB1:w1.heap[w.heap.size]?=some (.cells #[.int .i64 wd,lv,kv] 68 (0,0)):=hB1;try simp only[qC]
 refine qK (zT 71 (fun w2 hB2 hm2 hs2=>?_));replace hB2:w2.heap[w1.heap.size]?=some (.cells #[vv,rv] 71 (0,0)):=hB2;have hB12:=hm2.obj id hB1;simp only[qB]
 have hm02:=hm1.trans0 hm2;have hcH:CellsAt w2 w.heap.size 0 #[.int .i64 wd,lv,kv]:=CellsAt.whole hB12;have hcT:CellsAt w2 w1.heap.size 0 #[vv,rv]:=CellsAt.whole hB2
 have hb4l:w1.heap.size<w2.heap.size:=hs2;generalize hb3:w.heap.size=b3 at*;generalize hb4:w1.heap.size=b4 at*
 have hlong:=long27_any (wd:=wd) (kN HL.out hm02) (HKV.out.keep0 hm02)
 have hltb:=fun w' (hm':Mod qJ w2 w')=>longTable_any (HV.out.keep0 (hm02.trans0 hm')) (xO HRV.out (KC.of0 (hm02.trans0 hm')))
 have hlev:=fun w' (hm':Mod qJ w2 w')=>longEvents_any _ _ _ _ _ w' (SlEv.keep0 HE.out (hm02.trans0 hm'));obtain⟨lg,hlg⟩:∃b,longH L KK=b:=⟨_,rfl⟩
 obtain⟨tb,htb⟩:∃b,tbB V.length reps=b:=⟨_,rfl⟩;rw[hlg]at hlong;rw[htb]at hltb;have HLG:=O hlg;have HTB:=O htb;clear hlg htb hm1 hm2 hB1 hB2 hB12 hs1 hs2
 go_upto_region 1 with(fail)
 go_cut [25] (fun s wx=>MarksPass w2 L KK V reps l s wx)
 case first=>
  cases lg with
  |true=>
   refine qL [1,1,3,0,1,3,3,3,1,3] ?_;simp only[qB];refine qY 68 hcH 3 rfl ?_;try simp only[qC]
   refine qK (pL func39 (hlong) fun w4 hm4=>?_);simp only[qB];refine xN rfl trivial ?_;simp only[qB];refine xN rfl trivial ?_;simp only[qB];go_wp2
   go_meet
   case rel=>exact⟨hm4,.inl rfl⟩
  |false=>
   cases tb with
   |false=>
    refine qL [1,1,3,1,1,3,3,3,1,3] ?_;simp only[qB];refine qY 68 hcH 3 rfl ?_;try simp only[qC]
    refine qK (pL func39 (hlong) fun w4 hm4=>?_);simp only[qB];refine qY 71 (hcT.keep hm4 id) 2 rfl ?_;try simp only[qC]
    refine qK (pL func40 (hltb _ hm4) fun w5 hm5=>?_);simp only[qB];refine xN rfl trivial ?_;simp only[qB];go_wp2
    go_meet
    case rel=>exact⟨hm4.trans0 hm5,.inl rfl⟩
   |true=>
    refine qL [1,1,3,1,1,3,3,3,1,3] ?_;simp only[qB];refine qY 68 hcH 3 rfl ?_;try simp only[qC]
    refine qK (pL func39 (hlong) fun w4 hm4=>?_);simp only[qB];refine qY 71 (hcT.keep hm4 id) 2 rfl ?_;try simp only[qC]
    refine qK (pL func40 (hltb _ hm4) fun w5 hm5=>?_);simp only[qB];refine qK (xE func41 (hlev _ (hm4.trans0 hm5)) ?_);rintro e w6 ⟨t,rfl,hm6,hsm⟩;refine⟨_,rfl,?_⟩
    simp only[qB];go_wp2
    go_meet
    case rel=>
     refine⟨(hm4.trans0 hm5).trans0 hm6,?_⟩
     cases t
     ·exact .inr ⟨rfl,HLG.out,HTB.out,hsm rfl⟩
     ·exact .inl rfl
 case rest=>
  rename iN=>wx
  obtain⟨hmx1,rfl|⟨rfl,hlgf,htb2,hsm⟩⟩:=hcut
  ·clear hlong hltb hlev
   have hmw:=hm02.trans0 hmx1;go_upto_region 2 with(fail);refine qL [1,3] ?_;simp only[qB];refine qK (pL func42 (awake_any _) fun w5 hm5=>?_);simp only[qB]
   have HF:=O (hmw.trans0 hm5);clear hm02 hmx1 hmw hm5 hcH hcT;go_wp2;go_ret;exact⟨rfl,HF.out⟩
  obtain⟨hL30,hL700,hK60⟩:=longH_false hlgf;have hmw:=hm02.trans0 hmx1;have hcHx:=hcH.keep hmx1 id;have hcTx:=hcT.keep hmx1 id;have htbs:=tbB_small htb2
  have hV20:V.length<=20:=by
   simp only[tbB,Bool.and_eq_true,decide_eq_true_eq]at htb2;exact htb2.1.1
  have hok:=hsm.ok;have hl20:=hsm.1;have hrt:=htbs.len
  have hrf:(jI l).length<=6000:=by
   have h9:=small_refs hsm.2;unfold jI;omega
  have hbl:=built_any (w:=wx) hwd (kN HL.out hmw) (HKV.out.keep0 hmw) (by omega) (fun b hb=>by have:=hL700 b hb;omega) (by omega) hK2
  have hbl2:=fun w' (hm':Mod qJ wx w')=>ours27_any (w:=w') hwd (kN HL.out (hmw.trans0 hm')) (HKV.out.keep0 (hmw.trans0 hm')) (by omega) (fun b hb=>by have:=hL700 b hb;omega) (by omega) hK2
  have hcl:(cOf (bO wd) L).length<=1000:=by have:=cOf_len (bO wd) L [];unfold cOf;simp at this;omega
  have hrl:(rOf (bO wd) L).length<=30:=by have:=rOf_len (bO wd) L;omega
  have HREF:=O (rOf_ref (bO wd) L);have swx:=hmw.size;have s2x:=hmx1.size;clear hlong hltb hlev hcH hcT hm02 hmx1;go_upto_region 3 with(fail)
  refine qL [1,1,3,3,3,3,3] ?_;simp only[qB];refine qY 68 hcHx 3 rfl ?_;try simp only[qC]
  refine qK (xE func43 (hbl) ?_);rintro e wb ⟨h,hhw,hhr,hhl,⟨qb,hhq⟩,heb,Ft,hat,hFn,hmb⟩;subst heb;rw[hhq];refine⟨_,rfl,?_⟩;simp only[qB]
  refine jQ (iO h.bs) ?_;simp only[qC];refine jQ (iO qb) ?_;simp only[qB];have hcHb:=hcHx.keep hmb id
  have hbl3:=hbl2 wb hmb;clear hbl hbl2 hcHx;go_upto_region 4 with(fail);refine qL [1,1,3,3,3,3,3] ?_;simp only[qB];refine qY 68 hcHb 3 rfl ?_;try simp only[qC]
  refine qK (xE func44 (hbl3) ?_);rintro e wc ⟨q8,rq,hec,F2,hds⟩;subst hec;refine⟨_,rfl,?_⟩;simp only[qB];refine jQ (gZ q8) ?_;simp only[qC]
  refine jQ (gZ rq) ?_;simp only[qB];clear hbl3 hcHb;have hmc:=hds.mod;have HGT:=O (hds.getsC HREF.out.sorted)
  have HSZ:=O (fun k b (hk:qR k (rOf (bO wd) L)=some b)=>(hds.small.1 _ (jZ hk)).2)
  have HGL:Hid (∀y,qR y (rOf (bO wd) L)=qR y (cOf (bO wd) L)):=O (fun y=>HREF.out.get y);generalize rOf (bO wd) L=cR at*
  generalize cOf (bO wd) L=c0 at*;have had:(jP cR).length<=1000:=by have:=dX cR;omega
  have HAT:=O (hat.keep0 hmc);have hmbc:=hmb.trans0 hmc;have hm0c:=hmw.trans0 hmbc;have sxc:=hmbc.size;have hcTc:=hcTx.keep hmbc id
  have hcp:=copyTable_any (HV.out.keep0 hm0c) (xO HRV.out (KC.of0 hm0c)) htbs (by omega)
  have hce:=fun w' (hm':Mod qJ wc w')=>copyEvents_any (SlEv.keep0 HE.out (hm0c.trans0 hm')) (by omega) hok;clear hat hds HREF hmb hmc hmbc hcTx hmw hhw hhr hhl
  go_upto_region 7 with(fail);refine qL [1,1,3,1,1,1,3] ?_;simp only[qB];refine qY 71 hcTc 2 rfl ?_;try simp only[qC]
  refine qK (xE func45 (hcp) ?_);rintro e w7 ⟨hm7,cvv,crv,B,he7,hcV,hcR,hBp⟩;subst he7;have hcv1:=Sl.one hcV;have hcr1:=Sl.one hcR;refine⟨_,rfl,?_⟩;simp only[qB]
  refine qK (xE func46 (hce _ hm7) ?_);rintro e w8 ⟨hm8,vc,he8,hgc⟩;subst he8;refine⟨_,rfl,?_⟩;try simp only[qC]
  refine qK (zB tableZ (fun w9 hB9 hm9 hs9=>?_));try simp only[qC]
  refine qK (qT 71 #[cvv,crv] (by intro c hc;simp at hc;rcases hc with rfl|rfl<;>assumption) 2 rfl hB9 (fun wy hBy hmy=>?_) (hoff:=by simp));simp only[qB]
  have hm8y:Mod qJ w8 wy:=hm9.transB hmy (Nat.le_refl _);have hm7y:=hm8.trans0 hm8y;have hmcy:=hm7.trans0 hm7y;have hm0y:=hm0c.trans0 hmcy
  have hcC:CellsAt wy w8.heap.size 0 #[cvv,crv]:=CellsAt.whole hBy;have hcT2:=hcTc.keep hmcy id;have hCE:=O (SlEv.keep0 hgc.slb hm8y);have hCV:=O (hcV.keep0 hm7y)
  have hCR:=O (xO hcR (KC.of0 hm7y));have HM0:=O hm0y;have HMC:=O hmcy;replace HAT:=O (HAT.out.keep0 hmcy);replace HV:=O (HV.out.keep0 hm0y)
  replace HRV:=O (xO HRV.out (KC.of0 hm0y));have HE2:=O (SlEv.keep0 HE.out hm0y);have hBr:=plain_roots hBp;have hBs:=plain_small hBp htbs
  have s8y:=hm8y.size;have s78:=hm8.size;have sc7:=hm7.size;have s0c:=hm0c.size;have hb8:w8.heap.size<wy.heap.size:=(Array.getElem?_eq_some_iff.1 hBy).1
  generalize hb11:w8.heap.size=b11 at*;obtain⟨cad,ccap,rfl,hcel,-⟩:=Sl.at hCE.out
  have hmk1:=fun w' (hm':Mod qJ wy w')=>show Calls prog 48 #[iO h.bs,.agg #[cvv,crv],.slice cad l.length ccap] w' (MarksR w' c0 (zK reps) l)from by
   obtain⟨bl,F,k1,k2,_⟩:=HAT.out.keep0 hm'
   have h9:=swMarks_any k1 (by rw[k2];exact hcl) hcv1 (xO hCR.out (KC.of0 hm')) (by rw[hBr];omega) (SlEv.keep0 hCE.out hm') (by omega);rw[k2,hBr]at h9;exact h9
  have hrt1:=fun w' (hm':Mod qJ wy w')=>sT hcv1 (xO hCR.out (KC.of0 hm')) (by rw[hBr];omega);rw[hBr]at hrt1;have HMK1:=O hmk1
  have HRT1:=O hrt1;clear hmk1 hrt1 hgc hcV hcR hcp hce hBy hB9 hs9 hm9 hmy hm8y hm7y hmcy hm7 hm8 hm0y hm0c hcTc;go_upto_region 8 with(fail)
  have hS:Mod qJ wy wy.drew:=(Mod.refl _ _).drew
  refine tZ [.inl [(0,0),(2,3),(3,0),(4,3)],.inr (.inr (2,#[true,false,true,true,true,false,false,false])),.inl [(6,3),(7,3)]] (fun w'=>Mod qJ wy w') (by kernel_rfl) (by kernel_rfl) (by kernel_rfl) (fun _ _ _ _ hd h=>⟨hd.trans h.1,h.2⟩) hS ?_
  refine pU ?_
  simp only[List.map_cons,List.map_nil,Array.getD_eq_getD_getElem?,List.getElem?_toArray,List.getElem?_cons_succ,List.getElem?_cons_zero,Option.getD_some]
  refine zJ 71 (fun w' hS=>hcC.keep hS id) 2 rfl ?_;simp only[qB];refine zJ 71 (fun w' hS=>hcC.keep hS id) 2 rfl ?_;simp only[qB];refine uM ?_
  refine gR [(44,(fun v w'=>∃out,kI wy.heap.size w' v out/\SetOf (zK reps) out/\∀x∈out,x.length=32)),(48,(fun v w'=>∃out,kI wy.heap.size w' v out/\fL c0 (zK reps) l out/\∀x∈out,x.length=32))] [(1,44,[]),(5,48,[])] ?hF ?hS (by decide) (by kernel_rfl) (by kernel_rfl) (by kernel_rfl) ?hw ?hend ?hop
  case hF=>
   intro x hx;simp only[List.mem_cons,List.not_mem_nil,or_false]at hx
   rcases hx with rfl|rfl
   ·exact(fun _ _ _ ⟨out,h1,h2⟩ hm=>⟨out,h1.keep0 hm,h2⟩)
   ·exact(fun _ _ _ ⟨out,h1,h2⟩ hm=>⟨out,h1.keep0 hm,h2⟩)
  case hS=>exact(fun _ hm=>hS.trans0 hm)
  case hw=>
   intro q hq;simp only[List.mem_cons,List.not_mem_nil,or_false]at hq
   rcases hq with rfl|rfl<;>rfl
  case hop=>
   intro q hq ps w1 hm hps hds hnd hpn K hK;simp only[List.mem_cons,List.not_mem_nil,or_false]at hq
   rcases hq with rfl|rfl
   ·simp only[aX,Nat.reduceEqDiff,if_true,if_false,reduceIte]at hK
    simp only[zz5];clear hps hds;have hsz:=(hS.trans0 hm).size
    refine xS (xM 47 [.tmp 43] _ rfl _ func47 rfl (by kernel_rfl) [.agg #[cvv,crv]] ((cP hpn _ _ (by rfl)).trans rfl) _) (HRT1.out _ (hS.trans0 hm)) ?_
    rintro e wg ⟨hmg,v,out,rfl,hg,hset,h32⟩;exact⟨_,rfl,hK _ _ hmg ⟨out,hg.base hsz,hset,h32⟩⟩
   ·simp only[aX,Nat.reduceEqDiff,if_true,if_false,reduceIte]at hK
    simp only[zz5];clear hps hds;have hsz:=(hS.trans0 hm).size
    refine xS (xM 48 [.tmp 45,.tmp 46,.tmp 47] _ rfl _ func48 rfl (by kernel_rfl) [iO h.bs,.agg #[cvv,crv],.slice cad l.length ccap] ((cP hpn _ _ (by rfl)).trans rfl) _) (HMK1.out _ (hS.trans0 hm)) ?_
    rintro e wg ⟨hmg,v,out,rfl,hg,hset,h32⟩;exact⟨_,rfl,hK _ _ hmg ⟨out,hg.base hsz,hset,h32⟩⟩
  case hend=>
   intro vals wz hvl hGM hJ;obtain⟨v44,vals1,rfl,hvl1⟩:=kL hvl;obtain⟨v48,vals2,rfl,hvl2⟩:=kL hvl1;obtain rfl:=List.eq_nil_of_length_eq_zero hvl2
   simp only[List.map_cons,List.map_nil,List.zip_cons_cons,List.zip_nil_left]at hJ |-;have h44:=hJ (44,v44) (by simp)
   simp only[aX,Nat.reduceEqDiff,if_true,if_false,reduceIte]at h44;have h48:=hJ (48,v48) (by simp);simp only[aX,Nat.reduceEqDiff,if_true,if_false,reduceIte]at h48
   clear hJ hvl hvl1 hvl2;have hGM44:=hGM;simp only[uF];try simp only[qC]
   refine pU ?_
   simp only[List.map_cons,List.map_nil,Array.getD_eq_getD_getElem?,List.getElem?_toArray,List.getElem?_cons_succ,List.getElem?_cons_zero,Option.getD_some];simp only[qB]
   refine uM ?_;refine gQ ?_;obtain⟨R1,hg1,hset1,h32R⟩:=h44;obtain⟨M1,hg2,hset2,h32M⟩:=h48;replace hS:=hS.trans0 hGM44
   have hs9:Mod qJ wz wz.drew:=(Mod.refl _ _).drew;replace hg1:=hg1.keep0 hs9;replace hg2:=hg2.keep0 hs9
   have h32:∀q∈zK reps,q.length=32:=fun q hq=>h32R q ((hset1.2 q).2 hq)
   have HRT2:=O (fun w' (hm:Mod qJ wy w')=>r27Roots_any hv1 (xO HRV.out (KC.of0 hm)) (by omega) h32)
   have HMK2:=O (fun w' (hm:Mod qJ wy w')=>r27Marks_any HGT.out HSZ.out had (HMC.out.trans0 hm) hv1 (xO HRV.out (KC.of0 hm)) hrt h32 (SlEv.keep0 HE2.out hm) hrf)
   have HMK3:=O (fun w' (hm:Mod qJ wy w') b (hB:w'.heap[b]?=some (Obj.cells #[.int .i64 0,.int .i64 0,.slice none 0 0] 89 (0,0)))=>r27Marks_any (zero8_gets hB) (fun _ _ h=>(nomatch h)) (Nat.zero_le _) (Mod.refl _ _) hv1 (xO HRV.out (KC.of0 hm)) hrt h32 (SlEv.keep0 HE2.out hm) hrf)
   have HMK4:=O (fun w' (hm:Mod qJ wy w')=>swMarks_of (w:=w') (sv:=.pointer none) (c:=[]) (fun _ _ _ _ _ hv hn=>clMark_no (.inl rfl) hv hn) (Nat.zero_le _) hcv1 (xO hCR.out (KC.of0 hm)) (by rw[hBr];omega) (SlEv.keep0 hCE.out hm) (by omega))
   rw[hBr]at HMK4;have HSET1:=O hset1;have HSET2:=O hset2;clear hset1 hset2 hGM hGM44 HMK1 HRT1;go_upto_region 9 with(fail);replace hS:=hS.trans0 hs9
   refine tZ [.inl [(0,3),(1,0)],.inr (.inl 2),.inr (.inl 3),.inl [(4,3),(5,3),(6,3),(7,0),(8,3)],.inr (.inl 9),.inr (.inl 10),.inl [(11,3),(12,3),(13,0),(14,3),(16,0),(18,0),(19,3)],.inr (.inr (3,#[true,true,true,true,true,true,true,true,true,true,true,true,true,true,true,false,true,false,true,true,false,false,false,false])),.inr (.inl 21),.inl [(22,3),(23,3)]] (fun w'=>Mod qJ wy w') (by kernel_rfl) (by kernel_rfl) (by kernel_rfl) (fun _ _ _ _ hd h=>⟨hd.trans h.1,h.2⟩) hS ?_
   refine pU ?_
   simp only[List.map_cons,List.map_nil,Array.getD_eq_getD_getElem?,List.getElem?_toArray,List.getElem?_cons_succ,List.getElem?_cons_zero,Option.getD_some];simp only[qB]
   refine zJ 71 (fun w' hS=>hcT2.keep hS id) 2 rfl ?_;simp only[qB];refine uM ?_;refine pV rfl (fun K hK=>?_);simp only[zz5]
   refine xE func49 (HRT2.out _ hS) ?_;rintro e wA ⟨hmA,vA,RA,rfl,hgA,hrA⟩;have hSA:=hS.trans0 hmA
   obtain rfl:R1=RA:=sF HSET1.out.1 hrA.1 fun x=>by rw[HSET1.out.2,hrA.2]
   have hsA:=kG _ _ _ _ _ _ _ _ _ (slI (hg1.keep0 hmA) h32R) (slI hgA h32R);rw[decide_eq_true rfl]at hsA;refine⟨_,rfl,hK _ _ hSA ?_⟩;clear hK K;try simp only[qC]
   refine pV rfl (fun K hK=>?_);simp only[zz5];refine xE func24 (hsA) ?_;rintro e wB ⟨rfl,hmB⟩;have hSB:=hSA.trans0 hmB;refine⟨_,rfl,hK _ _ hSB ?_⟩;clear hK K
   try simp only[qC]
   refine pU ?_
   simp only[List.map_cons,List.map_nil,Array.getD_eq_getD_getElem?,List.getElem?_toArray,List.getElem?_cons_succ,List.getElem?_cons_zero,Option.getD_some];simp only[qB]
   refine zJ 71 (fun w' hS=>hcT2.keep hS id) 2 rfl ?_;simp only[qB];refine uM ?_;refine pV rfl (fun K hK=>?_);simp only[zz5]
   refine xE func50 (HMK2.out _ hSB) ?_;rintro e wC ⟨hmC,vC,MC,rfl,hgC,hrC⟩;have hSC:=hSB.trans0 hmC;obtain rfl:M1=MC:=marks_one HGL.out HSET2.out hrC
   have hsC:=kG _ _ _ _ _ _ _ _ _ (slI (((hg2.keep0 hmA).keep0 hmB).keep0 hmC) h32M) (slI hgC h32M);rw[decide_eq_true rfl]at hsC;refine⟨_,rfl,hK _ _ hSC ?_⟩
   clear hK K;try simp only[qC]
   refine pV rfl (fun K hK=>?_);simp only[zz5];refine xE func24 (hsC) ?_;rintro e wD ⟨rfl,hmD⟩;have hSD:=hSC.trans0 hmD;refine⟨_,rfl,hK _ _ hSD ?_⟩;clear hK K
   try simp only[qC]
   refine pU ?_
   simp only[List.map_cons,List.map_nil,Array.getD_eq_getD_getElem?,List.getElem?_toArray,List.getElem?_cons_succ,List.getElem?_cons_zero,Option.getD_some];simp only[qB]
   refine zJ 71 (fun w' hS=>hcC.keep hS id) 2 rfl ?_;simp only[qB];refine yV built_r8Z ?_;simp only[qC];refine zJ 71 (fun w' hS=>hcT2.keep hS id) 2 rfl ?_
   simp only[qB];refine uM ?_
   refine gR [(64,(fun v w'=>∃out,kI wy.heap.size w' v out/\fL [] (zK reps) l out/\∀x∈out,x.length=32)),(66,NewRow wy.heap.size #[.int .i64 0,.int .i64 0,.slice none 0 0] 89),(69,(fun v w'=>∃m,kI wy.heap.size w' v m/\vN (((zK reps).flatMap fun r=>inL [] 5 r 1)++jI l) m))] [(15,64,[]),(17,66,[]),(20,69,[66])] ?hF ?hS (by decide) (by kernel_rfl) (by kernel_rfl) (by kernel_rfl) ?hw ?hend ?hop
   case hF=>
    intro x hx;simp only[List.mem_cons,List.not_mem_nil,or_false]at hx
    rcases hx with rfl|rfl|rfl
    ·exact(fun _ _ _ ⟨out,h1,h2⟩ hm=>⟨out,h1.keep0 hm,h2⟩)
    ·exact eX _ _ _
    ·exact(fun _ _ _ ⟨m,h1,h2⟩ hm=>⟨m,h1.keep0 hm,h2⟩)
   case hS=>exact(fun _ hm=>hSD.trans0 hm)
   case hw=>
    intro q hq;simp only[List.mem_cons,List.not_mem_nil,or_false]at hq
    rcases hq with rfl|rfl|rfl<;>rfl
   case hop=>
    intro q hq ps w1 hm hps hds hnd hpn K hK;simp only[List.mem_cons,List.not_mem_nil,or_false]at hq
    rcases hq with rfl|rfl|rfl
    ·simp only[aX,Nat.reduceEqDiff,if_true,if_false,reduceIte]at hK
     simp only[zz5];clear hps hds;have hsz:=(hSD.trans0 hm).size
     refine xS (xM 48 [.const (.pointer none),.tmp 62,.tmp 63] _ rfl _ func48 rfl (by kernel_rfl) [.pointer none,.agg #[cvv,crv],.slice cad l.length ccap] ((cP hpn _ _ (by rfl)).trans rfl) _) (HMK4.out _ (hSD.trans0 hm)) ?_
     rintro e wg ⟨hmg,v,out,rfl,hg,hset,h32⟩;exact⟨_,rfl,hK _ _ hmg ⟨out,hg.base hsz,hset,h32⟩⟩
    ·simp only[aX,Nat.reduceEqDiff,if_true,if_false,reduceIte]at hK
     simp only[zz5];clear hps hds;have hsz:=(hSD.trans0 hm).size;refine zT 89 (fun w2 hB2 hm2 hs2=>?_)
     rw[show ∀x:Act,(uF ps x).eval (.tmp 65)=x.eval (.tmp 65)from fun x=>(List.cons_eq_cons.1 (cP hpn x [.tmp 65] (by rfl))).1]at hB2
     exact hK _ _ hm2 ⟨_,rfl,hsz,hB2⟩
    ·simp only[aX,Nat.reduceEqDiff,if_true,if_false,reduceIte]at hK
     simp only[zz5];obtain⟨v66,hv66⟩:=hds 66 (by simp);have hf66:=hps (66,v66) hv66;simp only[aX,Nat.reduceEqDiff,if_true,if_false,reduceIte]at hf66;clear hps hds
     have hsz:=(hSD.trans0 hm).size;obtain⟨b,rfl,-,hB⟩:=hf66
     refine xS (xM 50 [.tmp 66,.tmp 67,.tmp 68] _ rfl _ func50 rfl (by kernel_rfl) [iO b,.agg #[vv,rv],.slice ead l.length ecap] (List.cons_eq_cons.2 ⟨puts_get hv66 hnd (of_decide_eq_true (by rfl)),(cP hpn _ _ (by rfl)).trans rfl⟩) _) (HMK3.out _ (hSD.trans0 hm) b hB) ?_
     rintro e wg ⟨hmg,v,m,rfl,hg,hr⟩;exact⟨_,rfl,hK _ _ hmg ⟨m,hg.base hsz,hr⟩⟩
   case hend=>
    intro vals wz hvl hGM hJ;obtain⟨v64,vals1,rfl,hvl1⟩:=kL hvl;obtain⟨v66,vals2,rfl,hvl2⟩:=kL hvl1;obtain⟨v69,vals3,rfl,hvl3⟩:=kL hvl2
    obtain rfl:=List.eq_nil_of_length_eq_zero hvl3;simp only[List.map_cons,List.map_nil,List.zip_cons_cons,List.zip_nil_left]at hJ |-;have h64:=hJ (64,v64) (by simp)
    simp only[aX,Nat.reduceEqDiff,if_true,if_false,reduceIte]at h64;have h66:=hJ (66,v66) (by simp)
    simp only[aX,Nat.reduceEqDiff,if_true,if_false,reduceIte]at h66;have h69:=hJ (69,v69) (by simp)
    simp only[aX,Nat.reduceEqDiff,if_true,if_false,reduceIte]at h69;clear hJ hvl hvl1 hvl2 hvl3;have hGM64:=hGM;simp only[uF];try simp only[qC]
    refine pV rfl (fun K hK=>?_);simp only[zz5];obtain⟨M2,hg64,hset64,h3264⟩:=h64;obtain⟨M3,hg69,hr69⟩:=h69
    obtain rfl:M2=M3:=marks_one (fun _=>rfl) hset64 hr69;have hsm:=kG _ _ _ _ _ _ _ _ _ (slI hg64 h3264) (slI hg69 h3264);rw[decide_eq_true rfl]at hsm
    refine xE func24 hsm ?_;rintro e wE ⟨rfl,hmE⟩;have hSE:=(hSD.trans0 hGM64).trans0 hmE;have hDE:=((((hmA.trans0 hmB).trans0 hmC).trans0 hmD).trans0 hGM64).trans0 hmE
    refine⟨_,rfl,hK _ _ hSE ?_⟩;clear hK K hsm hg64 hset64 hg69 hr69 hmE;try simp only[qC]
    refine pU ?_
    simp only[List.map_cons,List.map_nil,Array.getD_eq_getD_getElem?,List.getElem?_toArray,List.getElem?_cons_succ,List.getElem?_cons_zero,Option.getD_some];simp only[qB]
    refine uM ?_;refine gQ ?_;have hs1:=(slI (hg1.keep0 hDE) h32R).shape (S:=fun k=>wy.heap.size<=k) (fun k h=>h.1) idS_of
    have HS2:=O ((slI (hg2.keep0 hDE) h32M).shape (S:=fun k=>wy.heap.size<=k) (fun k h=>h.1) idS_of);have hov:=overIDs_any _ _ _ _ hs1
    clear hs1 hsA hsC hmA hmB hmC hmD hGM64 hSA hSB hSC hSD hgA hrA hgC hrC hg1 hg2 hDE HMK2 HMK3 HMK4 HRT2 HSET1 HSET2 hs9;go_upto_region 10 with(fail);refine qL [3,1] ?_
    simp only[qB];refine qK (pL func27 (hov) fun wf nf=>?_);simp only[qB];have hov2:=overIDs_any _ _ _ _ (HS2.out.kmod (by omega) nf KindsS.like)
    go_upto_region 11 with(fail);refine qL [3,1] ?_;simp only[qB];refine qK (pL func27 (hov2) fun wh nh=>?_);simp only[qB]
    have hmy:Mod (fun k=>wy.heap.size<=k) wy wh:=((hSE.mono (fun _ _ h=>False.elim h)).trans nf.mod (fun _ _ h=>h)).trans nh.mod (fun _ _ h=>h)
    have hkc:KC wy wh:=KC.of_mod hmy fun k o hk ho=>absurd (Array.getElem?_eq_some_iff.1 ho).1 (Nat.not_lt.2 hk)
    have hst:=sameTable_eq (Sl.kc hCV.out hkc (fun _ _ h=>h)) (Sl.kc HV.out hkc (fun _ _ h=>h)) (xO hCR.out hkc) (xO HRV.out hkc) hBp hBs
    have hlow:∀k,k<w.heap.size->¬wy.heap.size<=k:=fun k hk hS=>by omega
    have hE1:=hCE.out.keep hmy (fun k hk (hS:wy.heap.size<=k)=>by have:=hk.2;omega) (fun cs e he=>he.keep hmy (fun k hk (hS:wy.heap.size<=k)=>by have:=hk.2;omega))
    have hE2:Sl false wh (fun k=>k<w.heap.size) 39 (EvR false wh (fun k=>k<w.heap.size)) (.slice ead l.length ecap) l:=HE2.out.keep hmy hlow (fun cs e he=>he.keep hmy hlow)
    have hse:=fun w' (hm:Mod qJ wh w')=>sameEvents_eq _ _ _ _ _ _ _ _ _ _ (SlEv.keep0 hE1 hm) (SlEv.keep0 hE2 hm);have hcC9:=hcC.keep hmy (by omega)
    have hcT9:=hcT2.keep hmy (by omega);have HMY:=O (HM0.out.trans hmy (fun k hk (hS:wy.heap.size<=k)=>by omega));clear hov hov2 nf nh hmy hkc hE1 hE2 hcC hcT2 hSE
    go_upto_region 12 with(fail);refine qL [3,3,1,1,1,3,3,3,3,1,3,3,1,3,3] ?_;simp only[qB];refine qY 71 hcC9 2 rfl ?_;try simp only[qC]
    refine qY 71 hcT9 2 rfl ?_;try simp only[qC]
    refine qK (pL func51 (hst) fun wT nT=>?_);simp only[qB];refine qK (pL func52 (hse _ nT) fun wU nU=>?_);simp only[qB]
    refine qK (pL func42 (awake_any _) fun wV nV=>?_);simp only[qB];have HF:=O (((HMY.out.trans0 nT).trans0 nU).trans0 nV);clear hst hse nT nU nV;go_wp2;go_ret
    exact⟨rfl,HF.out⟩
theorem sweepMarks_any(W:iN)(a:HsX)(t:TblX)(ev:Value)(l:List tX)(ha:HsIn W a)(ht:TblIn W t)(hl:EvsIn W ev l):Calls prog 8 #[.agg #[.int .i64 a.wd,a.lv,a.kv],.agg #[t.vv,t.rv],ev] W (vO (.bool true) W):=
 sweepMarks_walk ha.1 ha.2.1 (ha.2.2.mono (fun _ h=>h) (fun _ _ h=>h.1)) (sl_mem ha.2.2 fun _ _ h=>h.2) (ht.1.mono (fun _ h=>h) (fun _ _ h=>h.1)) ht.2 hl
end
end Go.Proofs.YtjeonjoifjbohaaGreat
