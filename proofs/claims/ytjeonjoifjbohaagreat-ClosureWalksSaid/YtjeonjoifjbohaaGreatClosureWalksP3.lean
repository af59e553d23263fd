/- What the statement ClosureWalks needs, part 3. -/
import Derived.Lib.SliceRun
import Derived.Lib.AppendZeros
import Derived.Test.YtjeonjoifjbohaaGreatClosureWalksP2
set_option linter.unusedVariables false
set_option linter.unusedSimpArgs false
set_option linter.unnecessarySimpa false
set_option linter.unusedSectionVars false
set_option maxRecDepth 10000
set_option maxHeartbeats 8000000
namespace Go.Proofs.YtjeonjoifjbohaaGreat
section
open Go.RowKit Go.Proofs.Tryz Go.Lib
theorem Sl.midLe{α:Type}{own:Bool}{w:World}{G:Nat->Prop}{sz cap:Nat}{R:Array Value->α->Prop}{ad:Option Addr}{l:List α}(h:Sl own w G sz R (.slice ad l.length cap) l)(i j:Nat)(hij:i<=j)(hj:j<=l.length):Sl own w G sz R (sliced ad i j cap sz) ((l.drop i).take (j-i)):=by
 obtain⟨a,c,e,h1,h2,h3⟩:=h
 cases e
 refine⟨_,_,by rw[List.length_take,List.length_drop,Nat.min_eq_left (by omega)];rfl,by rw[List.length_take,List.length_drop];omega,by omega,fun hne=>?_⟩
 have hlt:i<j:=by
  rcases Nat.lt_or_ge i j with h|h
  ·exact h
  ·rw[show j-i=0 by omega]at hne;simp at hne
 obtain⟨b,off,rfl,hG,ho,hc⟩:=h3 (by rintro rfl;simp at hj;omega);refine⟨b,off+i*sz,by rw[if_neg (by omega)];simp[addr_add0],hG,ho,fun k hk=>?_⟩
 rw[List.length_take,List.length_drop]at hk;obtain⟨cs,hs,hR,hcs⟩:=hc (i+k) (by omega);refine⟨cs,hs,by rw[List.getElem_take,List.getElem_drop];exact hR,?_⟩
 rw[show off+i*sz+k*sz=off+(i+k)*sz by rw[Nat.add_mul];omega];exact hcs
theorem take_succ_be{l:List UInt8}{i:Nat}(h:i<l.length):be (l.take (i+1))=be (l.take i)*256+l[i].toNat:=by
 rw[List.take_succ_eq_append_getElem h,be_snoc]
theorem be_take_lt(l:List UInt8)(i:Nat)(hi:i<=7):be (l.take i)<72057594037927936:=by
 have h:=be_lt (l.take i);have h2:(l.take i).length<=7:=by rw[List.length_take];omega
 have h3:256^(l.take i).length<=256^7:=Nat.pow_le_pow_right (by omega) h2;omega
def NumRel(w0:World)(l:List UInt8)(s i:Value)(w:World):Prop:=∃k:Nat,k<=l.length/\i=.int .i64 k/\s=.int .u64 (be (l.take k):Nat)/\Mod NoB w0 w
section
variable{w:World}{rb wb:Nat}{bv:Value}{b:List UInt8}{a:Nat}{e p:Int}
def NumR(w:World)(rb wb:Nat)(bv:Value)(b:List UInt8)(n:Nat)(s:RS):Ending->World->Prop:=fun x w'=>x=.returned (.int .i64 n)/\RdS w w' rb wb bv b s
theorem RdI.of_drew{w1 w2:World}(h:RdI w1 rb wb bv b a 0 p)(h1:Mod NoB w w1)(hm:Mod (fun k=>k=wb) w1 w2){er at_:Int}(he:er≠0)(hw:w2.heap[wb]?=some (.cells #[.int .i64 er,.int .i64 at_] 320 (0,0))):RdS w w2 rb wb bv b none:=RdS.pre h1 (h.fail hm he hw)
theorem rNum_any(h:RdI w rb wb bv b a e p):Calls prog 240 #[.pointer (some ⟨rb,0,none⟩)] w (NumR w rb wb bv b (rNumL b (stOf a e)).1 (rNumL b (stOf a e)).2):=by
 have hn:=rNone_any h;have H:=hid h
 by_cases he:e=0
 ·subst he
  have hal:=h.al;have hln:=h.len;obtain⟨ad,cap,rfl,hcap,hat⟩:=Sl.at h.sl;obtain⟨n,s,hns⟩:∃n s,rNumL b (some a)=(n,s):=⟨_,_,rfl⟩
  have HE:Hid ((rNumL b (some a)).1=n):=hid (by rw[hns]);have HE2:Hid ((rNumL b (some a)).2=s):=hid (by rw[hns]);rw[stOf_zero,HE.out,HE2.out];have HNS:=hid hns
  clear hns h;have HM:Hid (Mod NoB w w):=hid (Mod.refl _ _);go_enter func240,ntmps240
  go_upto_region 3 with(go_at_call 281;refine hn.mono ?_;rintro _ w1 ⟨rfl,hw⟩;obtain rfl:=hw.symm);have hS:Mod NoB w w.drew:=(Mod.refl _ _).drew
  rcases Nat.lt_or_ge a b.length with hlt|hge
  rotate_left
  · -- nothing is left
    have hz:(a:Int)>=(b.length:Nat):=by omega
    have hbn:b[a]?=none:=List.getElem?_eq_none hge;have hr0:rNumL b (some a)=(0,none):=by simp[rNumL,rdNum,hbn]
    replace HE:Hid (n=0):=hid (by rw[<-HE.out,hr0]);replace HE2:Hid (s=none):=hid (by rw[<-HE2.out,hr0]);clear hbn hr0
    refine wpRZ [3,3,3,0,3,3,3,0,3,3] [] (fun w'=>Mod NoB w w') hS ?_;simp only[stz];refine wpLd 3 rb 2 (fun w' hS=>hS.cell id H.out.cell.2.2.1) underlying3 ?_
    simp only[stz];refine wpLd 53 rb 1 (fun w' hS=>hS.cell id H.out.cell.2.1) underlying53 ?_;simp only[nmz];refine wpPL ?_;simp only[nmz]
    refine qG _ _ _ _ _ _ _ _ rfl rfl rfl rfl rfl true (decide_eq_true (by omega)) ?_;simp only[stz];have H1:=hid (H.out.keep0 hS)
    replace HM:Hid (Mod NoB w w.drew):=hid hS;clear hS;generalize w.drew=w0 at*;go_upto_region 4 with(fail);have hS:Mod NoB w0 w0.drew:=(Mod.refl _ _).drew
    refine wpRZ [3,3,3,0,3,3,3,0,2] [8] (fun w'=>Mod NoB w0 w') hS ?_;simp only[stz];refine wpLd 318 rb 0 (fun w' hS=>hS.cell id (H1.out.cell.1)) underlying318 ?_
    simp only[stz];refine wpLd 3 rb 2 (fun w' hS=>hS.cell id (H1.out.cell.2.2.1)) underlying3 ?_;simp only[nmz];refine zB rfl (fun K hK=>?_)
    refine wpC func254 (wFails_any p 6 a (hS.obj id H1.out.wr)) ?_;rintro e w2 ⟨rfl,hm2,hB2⟩;refine⟨_,rfl,hK _ _ ?_⟩;clear hK K;simp only[stz]
    have HF:Hid (RdS w0 w2 rb wb _ b none):=hid (RdI.of_drew (H1.out.keep0 hS) hS hm2 (by decide) hB2);clear hS hm2 hB2;go_wp2;go_ret
    exact⟨by rw[HE.out];rfl,by rw[HE2.out];exact RdS.pre HM.out HF.out⟩
  ·obtain⟨c,hc⟩:∃c,b[a]=c:=⟨_,rfl⟩
   have hbs:b[a]?=some c:=by rw[List.getElem?_eq_getElem hlt,hc]
   have hz:¬(a:Int)>=(b.length:Nat):=by omega
   obtain⟨k,hk⟩:∃k,c.toNat-191=k:=⟨_,rfl⟩;have hct:=c.toNat_lt
   have hrd:rNumL b (some a)=(match(if 199<c.toNat then none else if b.length-a-1<k then none else if k=0 then some (c.toNat,a+1)else if be ((b.drop (a+1)).take k)>=9223372036854775808\/sizeN (be ((b.drop (a+1)).take k))≠k then none else some (be ((b.drop (a+1)).take k),a+1+k):Option (Nat×Nat))with|none=>(0,none)|some q=>(q.1,some q.2)):=by
    simp only[rNumL,rdNum,hbs,hk]
    generalize (if 199<c.toNat then none else if b.length-a-1<k then none else if k=0 then some (c.toNat,a+1)else if be ((b.drop (a+1)).take k)>=9223372036854775808\/sizeN (be ((b.drop (a+1)).take k))≠k then none else some (be ((b.drop (a+1)).take k),a+1+k):Option (Nat×Nat))=q
    cases q<;>rfl
   obtain⟨bk,off,rfl,-,-,hcells⟩:=hat a hlt;obtain⟨cs,hcs,hcR,hcA⟩:=hcells a hlt;rw[hc]at hcR;obtain rfl:cs=#[byteV c]:=hcR;have hcell:=CellsAt.one.1 hcA
   rw[Nat.mul_one]at hcell;have HRD:=hid hrd;clear hrd hcells hat hcA hcs hbs;refine wpRZ [3,3,3,0,3,3,3,0,3,3] [] (fun w'=>Mod NoB w w') hS ?_;simp only[stz]
   refine wpLd 3 rb 2 (fun w' hS=>hS.cell id H.out.cell.2.2.1) underlying3 ?_;simp only[stz];refine wpLd 53 rb 1 (fun w' hS=>hS.cell id H.out.cell.2.1) underlying53 ?_
   simp only[nmz];refine wpPL ?_;simp only[nmz];refine qG _ _ _ _ _ _ _ _ rfl rfl rfl rfl rfl false (decide_eq_false (by omega)) ?_;simp only[stz]
   have hcell0:=hS.cell id hcell;have H0:=hid (H.out.keep0 hS);have HM0:Hid (Mod NoB w w.drew):=hid hS;clear hS hcell HM H;generalize w.drew=w0 at*
   go_upto_region 6 with(fail);have hS:Mod NoB w0 w0.drew:=(Mod.refl _ _).drew;refine wpRZ [3,3,3,0,3,3,3,0,3,0,3,3] [] (fun w'=>Mod NoB w0 w') hS ?_
   simp only[stz];refine wpLd 53 rb 1 (fun w' hS=>hS.cell id H0.out.cell.2.1) underlying53 ?_;simp only[stz]
   refine wpLd 3 rb 2 (fun w' hS=>hS.cell id H0.out.cell.2.2.1) underlying3 ?_;simp only[nmz];refine wpPI underlying53 1 hlt ?_;simp only[nmz]
   refine wpLd (v:=(byteV c)) 5 bk (off+a*1) (fun w' hS=>by rw[Nat.mul_one];exact hS.cell id hcell0) underlying5 ?_;simp only[nmz]
   refine qE rfl (fun w'=>exec_int_of_byte _ _ _ c rfl rfl (by kernel_rfl) underlying3) ?_;simp only[stz];have H1:=hid (H0.out.keep0 hS)
   have HM1:Hid (Mod NoB w w0.drew):=hid (HM0.out.trans0 hS);clear hS hcell0 H0 HM0;generalize w0.drew=w1 at*;go_upto_region 7 with(fail)
   have hkk:max ((c.toNat:Int)-191) 0=(k:Int):=by omega
   refine wpR [3,3,1,3] ?_;simp only[stz];refine xB _ _ _ _ ((c.toNat:Nat):Int) 191 rfl rfl rfl rfl (by omega) (by omega) ?_;simp only[nmz]
   refine wpX rfl (exec_max _ _ _ ((c.toNat:Int)-191) 0 (k:Int) (by rfl) (by rfl) (by rfl) hkk) trivial ?_;simp only[stz];have HMM:=HM1
   by_cases h199:199<c.toNat
   · -- no number begins so
     have h199z:((c.toNat:Nat):Int)>199:=by omega
     have hr0:rNumL b (some a)=(0,none):=by rw[HRD.out,if_pos h199]
     replace HE:Hid (n=0):=hid (by rw[<-HE.out,hr0]);replace HE2:Hid (s=none):=hid (by rw[<-HE2.out,hr0]);replace HM:Hid (Mod NoB w w1):=HM1;clear hr0
     go_upto_region 9 with(fail);have hS:Mod NoB w1 w1.drew:=(Mod.refl _ _).drew;refine wpRZ [3,3,3,0,3,3,3,0,2] [8] (fun w'=>Mod NoB w1 w') hS ?_;simp only[stz]
     refine wpLd 318 rb 0 (fun w' hS=>hS.cell id (H1.out.cell.1)) underlying318 ?_;simp only[stz]
     refine wpLd 3 rb 2 (fun w' hS=>hS.cell id (H1.out.cell.2.2.1)) underlying3 ?_;simp only[nmz];refine zB rfl (fun K hK=>?_)
     refine wpC func254 (wFails_any p 5 a (hS.obj id H1.out.wr)) ?_;rintro e w2 ⟨rfl,hm2,hB2⟩;refine⟨_,rfl,hK _ _ ?_⟩;clear hK K;simp only[stz]
     have HF:Hid (RdS w1 w2 rb wb _ b none):=hid (RdI.of_drew (H1.out.keep0 hS) hS hm2 (by decide) hB2);clear hS hm2 hB2;go_wp2;go_ret
     exact⟨by rw[HE.out];rfl,by rw[HE2.out];exact RdS.pre HM.out HF.out⟩
   ·have h199z:¬((c.toNat:Nat):Int)>199:=by omega
    have hr1:=HRD.out;rw[if_neg h199]at hr1;replace HRD:=hid hr1;clear hr1;go_upto_region 11 with(fail);have hS:Mod NoB w1 w1.drew:=(Mod.refl _ _).drew
    by_cases hsh:b.length-a-1<k
    ·have hr0:rNumL b (some a)=(0,none):=by rw[HRD.out,if_pos hsh]
     replace HE:Hid (n=0):=hid (by rw[<-HE.out,hr0]);replace HE2:Hid (s=none):=hid (by rw[<-HE2.out,hr0]);clear hr0
     refine wpRZ [3,3,3,0,3,3,3,3,0,3,3,3,3,3] [] (fun w'=>Mod NoB w1 w') hS ?_;simp only[stz]
     refine wpLd 53 rb 1 (fun w' hS=>hS.cell id H1.out.cell.2.1) underlying53 ?_;simp only[nmz];refine wpPL ?_;simp only[stz]
     refine wpLd 3 rb 2 (fun w' hS=>hS.cell id H1.out.cell.2.2.1) underlying3 ?_;simp only[nmz]
     refine xB _ _ _ _ ((b.length:Nat):Int) (a:Int) rfl rfl rfl rfl (by omega) (by omega) ?_;simp only[nmz]
     refine xB _ _ _ _ ((b.length:Int)-(a:Int)) 1 rfl rfl rfl rfl (by omega) (by omega) ?_;simp only[stz]
     refine qG _ _ _ _ _ _ _ _ rfl rfl rfl rfl rfl true (decide_eq_true (by omega)) ?_;simp only[stz];have H2:=hid (H1.out.keep0 hS)
     replace HM:Hid (Mod NoB w w1.drew):=hid (HM1.out.trans0 hS);clear hS;generalize w1.drew=w2 at*;go_upto_region 12 with(fail)
     have hS:Mod NoB w2 w2.drew:=(Mod.refl _ _).drew;refine wpRZ [3,3,3,0,3,3,3,0,2] [8] (fun w'=>Mod NoB w2 w') hS ?_;simp only[stz]
     refine wpLd 318 rb 0 (fun w' hS=>hS.cell id (H2.out.cell.1)) underlying318 ?_;simp only[stz]
     refine wpLd 3 rb 2 (fun w' hS=>hS.cell id (H2.out.cell.2.2.1)) underlying3 ?_;simp only[nmz];refine zB rfl (fun K hK=>?_)
     refine wpC func254 (wFails_any p 6 a (hS.obj id H2.out.wr)) ?_;rintro e w3 ⟨rfl,hm2,hB2⟩;refine⟨_,rfl,hK _ _ ?_⟩;clear hK K;simp only[stz]
     have HF:Hid (RdS w2 w3 rb wb _ b none):=hid (RdI.of_drew (H2.out.keep0 hS) hS hm2 (by decide) hB2);clear hS hm2 hB2;go_wp2;go_ret
     exact⟨by rw[HE.out];rfl,by rw[HE2.out];exact RdS.pre HM.out HF.out⟩
    ·have hr1:=HRD.out
     rw[if_neg hsh]at hr1;replace HRD:=hid hr1;clear hr1;refine wpRZ [3,3,3,0,3,3,3,3,0,3,3,3,3,3] [] (fun w'=>Mod NoB w1 w') hS ?_;simp only[stz]
     refine wpLd 53 rb 1 (fun w' hS=>hS.cell id H1.out.cell.2.1) underlying53 ?_;simp only[nmz];refine wpPL ?_;simp only[stz]
     refine wpLd 3 rb 2 (fun w' hS=>hS.cell id H1.out.cell.2.2.1) underlying3 ?_;simp only[nmz]
     refine xB _ _ _ _ ((b.length:Nat):Int) (a:Int) rfl rfl rfl rfl (by omega) (by omega) ?_;simp only[nmz]
     refine xB _ _ _ _ ((b.length:Int)-(a:Int)) 1 rfl rfl rfl rfl (by omega) (by omega) ?_;simp only[stz]
     refine qG _ _ _ _ _ _ _ _ rfl rfl rfl rfl rfl false (decide_eq_false (by omega)) ?_;simp only[stz];have H2:=hid (H1.out.keep0 hS)
     have HM2:Hid (Mod NoB w w1.drew):=hid (HM1.out.trans0 hS);clear hS HM1 HMM H1;generalize w1.drew=w2 at*
     by_cases hk0:k=0
     · -- a number of one byte
       have hkz:(k:Int)=0:=by omega
       have hr0:rNumL b (some a)=(c.toNat,some (a+1)):=by rw[HRD.out,if_pos hk0]
       replace HE:Hid (n=c.toNat):=hid (by rw[<-HE.out,hr0]);replace HE2:Hid (s=some (a+1)):=hid (by rw[<-HE2.out,hr0]);clear hr0;have hbox:=H2.out.box
       have hca:=H2.out.cell.2.2.1;go_upto_region 15 with(fail);refine wpR [3,3,3,1,3,3,3,1] ?_;simp only[stz]
       refine wpXd (v:=(.int .i64 a)) 3 rb 2 hca underlying3 trivial ?_;try simp only[nmz]
       refine qY _ _ _ _ (a:Int) 1 ((a+1:Nat):Int) rfl rfl rfl rfl (by omega) (by omega) (by omega) ?_;simp only[stz]
       refine wpD (qT 3 _ _ rb 2 (.int .i64 ((a+1:Nat):Int)) (by rfl) (by rfl) (by rfl) rfl (by kernel_rfl) _ _ hbox (by simp) (fun w3 hB3 hm3=>?_))
       have HT:Hid (RdS w2 w3 rb wb (.slice (some ⟨bk,off,none⟩) b.length cap) b (some (a+1))):=hid (H2.out.on hm3 (by omega) hB3);simp only[stz];clear hbox hca hB3 hm3
       go_wp2;go_ret;exact⟨by rw[HE.out];rfl,by rw[HE2.out];exact RdS.pre HM2.out HT.out⟩
     ·have hkz:¬(k:Int)=0:=by omega
      have hr1:=HRD.out;rw[if_neg hk0]at hr1;replace HRD:=hid hr1;clear hr1;have hk8:k<=8:=by omega
      obtain⟨l,hl⟩:∃l,(b.drop (a+1)).take k=l:=⟨_,rfl⟩;have hll:l.length=k:=by rw[<-hl,List.length_take,List.length_drop];omega
      have hsl:=(H2.out.sl).midLe (a+1) (a+1+k) (by omega) (by omega);rw[show a+1+k-(a+1)=k by omega,hl]at hsl;have HL:=hid hl;clear hl
      go_upto_region 18 with(fail);have hS:Mod NoB w2 w2.drew:=(Mod.refl _ _).drew
      have hcap1:a+1+k<=cap:=by
       obtain⟨ad',cap',hq,hle,-⟩:=H2.out.sl
       cases hq
       omega
      refine wpRZ [3,3,3,0,3,3,3,0,3,3,3,3,0,3,3,3,3,3,3] [] (fun w'=>Mod NoB w2 w') hS ?_;simp only[stz]
      refine wpLd 53 rb 1 (fun w' hS=>hS.cell id H2.out.cell.2.1) underlying53 ?_;simp only[stz]
      refine wpLd 3 rb 2 (fun w' hS=>hS.cell id H2.out.cell.2.2.1) underlying3 ?_;simp only[nmz]
      refine qY _ _ _ _ (a:Int) 1 ((a+1:Nat):Int) rfl rfl rfl rfl (by omega) (by omega) (by omega) ?_;simp only[stz]
      refine wpLd 3 rb 2 (fun w' hS=>hS.cell id H2.out.cell.2.2.1) underlying3 ?_;simp only[nmz]
      refine qY _ _ _ _ (a:Int) 1 ((a+1:Nat):Int) rfl rfl rfl rfl (by omega) (by omega) (by omega) ?_;simp only[stz]
      refine qY _ _ _ _ ((a+1:Nat):Int) (k:Int) ((a+1+k:Nat):Int) rfl rfl rfl rfl (by omega) (by omega) (by omega) ?_;simp only[nmz]
      refine wpPi_sliceLH 53 5 _ _ _ _ _ _ (a+1) (a+1+k) 1 rfl rfl rfl rfl rfl underlying53 (by kernel_rfl) (by omega) hcap1 ?_;simp only[nmz];refine wpPL ?_
      simp only[stz];have H3:=hid (H2.out.keep0 hS);have HM3:Hid (Mod NoB w w2.drew):=hid (HM2.out.trans0 hS);replace hsl:=hsl.keep0 hS;clear hS HM2 H2
      generalize w2.drew=w3 at*;obtain⟨sv,hsv⟩:∃sv,sliced (some ⟨bk,off,none⟩) (a+1) (a+1+k) cap 1=sv:=⟨_,rfl⟩;rw[hsv]at hsl |-;clear hsv
      obtain⟨ad2,cap2,rfl,hlm,hat2⟩:=Sl.at hsl;have HAT:=hid hat2;clear hsl hat2 hcap1;go_wp2
      go_loopw [5,107] (NumRel w3 l) (fun _ i _=>l.length-(intOf i).toNat)
      case atStart=>exact⟨0,Nat.zero_le _,rfl,by simp[be],Mod.refl _ _⟩
      case round=>
       rename World=>wr
       obtain⟨j,hj,rfl,rfl,hmr⟩:=hrel
       by_cases hjl:j<l.length
       ·have hjz:(j:Int)<(l.length:Nat):=by omega
        obtain⟨b2,off2,rfl,-,-,hcc⟩:=HAT.out j hjl;obtain⟨cs,-,hcR,hcA⟩:=hcc j hjl;obtain rfl:cs=#[byteV l[j]]:=hcR;have hcell:=CellsAt.one.1 hcA
        rw[Nat.mul_one]at hcell;have hcr:=hmr.cell id hcell;have hnx:=take_succ_be hjl;have hbt:=be_take_lt l j (by omega);generalize l[j]=x at*
        have hxt:=x.toNat_lt;obtain⟨q,hq⟩:∃q,be (l.take j)=q:=⟨_,rfl⟩;rw[hq]at hnx hbt |-;have hor:=be_or q x;have HNX:=hid hnx;clear hnx hq hcell hcA hcc
        go_upto_region 20 with(fail);refine wpR [3,1,3] ?_;simp only[stz]
        refine wpPi_index _ _ _ _ _ _ _ _ _ rfl rfl rfl rfl underlying53 (n:=1) (by kernel_rfl) (by omega) ?_;simp only[nmz]
        refine wpXd (v:=(byteV x)) 5 b2 (off2+j*1) (by rw[Nat.mul_one];exact hcr) underlying5 trivial ?_;simp only[stz];go_upto_region 21 with(fail)
        refine wpR [3,3,3,3,3,3] ?_;simp only[stz];refine qE rfl (fun w'=>exec_shl64 _ _ _ _ q _ 8 (q*2^8) rfl rfl rfl (by omega) rfl (by omega)) ?_
        simp only[stz];refine qE rfl (fun w'=>exec_u64_of_byte _ _ _ x rfl rfl (by kernel_rfl) underlying300) ?_;simp only[nmz]
        refine qE rfl (fun w'=>exec_or64 _ _ _ _ (q*2^8) x.toNat (q*256+x.toNat) rfl rfl rfl (by omega) (by omega) hor) ?_;simp only[stz];clear hcr hor;go_wp2
        go_roundw
        case rel=>exact⟨j+1,by omega,by go_num,by rw[HNX.out],hmr⟩
        case measure=>simp[intOf];omega
       ·obtain rfl:j=l.length:=by omega
        have hjz:¬((l.length:Nat):Int)<(l.length:Nat):=by omega
        have hfull:l.take l.length=l:=List.take_length;rw[hfull];have hbl:=be_lt l;have hb8:256^l.length<=256^8:=Nat.pow_le_pow_right (by omega) (by omega)
        have h256:(256:Nat)^8=18446744073709551616:=by decide
        have hr1:=HRD.out;rw[HL.out]at hr1;obtain⟨q,hq⟩:∃q,be l=q:=⟨_,rfl⟩;rw[hq]at hr1 hbl |-;have hqb:q<18446744073709551616:=by omega
        have HR1:=hid hr1;have H4:=hid (H3.out.keep0 hmr);have HM4:Hid (Mod NoB w wr):=hid (HM3.out.trans0 hmr);clear hr1 hbl hb8 h256 hq hfull hmr HRD HL HAT H3 HM3
        by_cases hbig:9223372036854775808<=q
        ·have hr0:rNumL b (some a)=(0,none):=by rw[HR1.out,if_pos (.inl hbig)]
         replace HE:Hid (n=0):=hid (by rw[<-HE.out,hr0]);replace HE2:Hid (s=none):=hid (by rw[<-HE2.out,hr0]);replace HM:Hid (Mod NoB w wr):=HM4;clear hr0
         go_upto_region 23 with(fail);refine wpR [3,3,3,3,3,1,3,3,3] ?_;simp only[stz]
         refine qG _ _ _ _ _ _ _ _ rfl rfl rfl rfl rfl true (decide_eq_true (by omega)) ?_;simp only[stz];refine xF rfl trivial ?_;simp only[stz]
         go_upto_region 24 with(fail);have hS:Mod NoB wr wr.drew:=(Mod.refl _ _).drew;refine wpRZ [3,3,3,0,3,3,3,0,2] [8] (fun w'=>Mod NoB wr w') hS ?_
         simp only[stz];refine wpLd 318 rb 0 (fun w' hS=>hS.cell id (H4.out.cell.1)) underlying318 ?_;simp only[stz]
         refine wpLd 3 rb 2 (fun w' hS=>hS.cell id (H4.out.cell.2.2.1)) underlying3 ?_;simp only[nmz];refine zB rfl (fun K hK=>?_)
         refine wpC func254 (wFails_any p 5 a (hS.obj id H4.out.wr)) ?_;rintro e w2 ⟨rfl,hm2,hB2⟩;refine⟨_,rfl,hK _ _ ?_⟩;clear hK K;simp only[stz]
         have HF:Hid (RdS wr w2 rb wb _ b none):=hid (RdI.of_drew (H4.out.keep0 hS) hS hm2 (by decide) hB2);clear hS hm2 hB2;go_wp2;go_ret
         exact⟨by rw[HE.out];rfl,by rw[HE2.out];exact RdS.pre HM.out HF.out⟩
        ·have hsn:=wSize_any q (by omega)
         obtain⟨sn,hsne⟩:∃sn,sizeN q=sn:=⟨_,rfl⟩;rw[hsne]at hsn;have hr1:=HR1.out;rw[hsne]at hr1
         by_cases hsk:sn=k
         ·have hskz:(sn:Int)=(k:Int):=by omega
          have hr0:rNumL b (some a)=(q,some (a+1+k)):=by rw[hr1,if_neg (by omega)]
          replace HE:Hid (n=q):=hid (by rw[<-HE.out,hr0]);replace HE2:Hid (s=some (a+1+k)):=hid (by rw[<-HE2.out,hr0]);clear hr0 hr1 HR1 hsne
          go_upto_region 23 with(fail);refine wpR [3,3,3,3,3,1,3,3,3] ?_;simp only[stz]
          refine qG _ _ _ _ _ _ _ _ rfl rfl rfl rfl rfl false (decide_eq_false (by omega)) ?_;simp only[stz]
          refine qE rfl (fun w'=>yY _ _ _ q rfl rfl (by kernel_rfl) underlying3 (by omega)) ?_;simp only[nmz];refine wpD (wpC func282 (hsn _) ?_)
          rintro e w5 ⟨rfl,hw⟩;obtain rfl:=hw.symm;refine⟨_,rfl,?_⟩;simp only[stz]
          refine qG _ _ _ _ _ _ _ _ rfl rfl rfl rfl rfl false (by simp only[cmpB,decide_eq_false_iff_not];omega) ?_;simp only[stz];have hbox:=H4.out.box
          have hca:=H4.out.cell.2.2.1;go_upto_region 26 with(fail);refine wpR [3,3,3,1,3,3,3,3,3,1] ?_;simp only[stz]
          refine wpXd (v:=(.int .i64 a)) 3 rb 2 hca underlying3 trivial ?_;simp only[stz]
          refine qY _ _ _ _ 1 (k:Int) ((1+k:Nat):Int) rfl rfl rfl rfl (by omega) (by omega) (by omega) ?_;simp only[nmz]
          refine qY _ _ _ _ (a:Int) ((1+k:Nat):Int) ((a+1+k:Nat):Int) rfl rfl rfl rfl (by omega) (by omega) (by omega) ?_;simp only[stz]
          refine wpD (qT 3 _ _ rb 2 (.int .i64 ((a+1+k:Nat):Int)) (by rfl) (by rfl) (by rfl) rfl (by kernel_rfl) _ _ hbox (by simp) (fun w6 hB6 hm6=>?_))
          have HT:Hid (RdS wr w6 rb wb (.slice (some ⟨bk,off,none⟩) b.length cap) b (some (a+1+k))):=hid (H4.out.on hm6 (by omega) hB6);simp only[stz]
          go_upto_region 27 with(fail);refine wpR [3,3,3] ?_;simp only[stz]
          refine qE rfl (fun w'=>yY _ _ _ q rfl rfl (by kernel_rfl) underlying3 (by omega)) ?_;simp only[stz];clear hbox hca hB6 hm6;go_wp2;go_ret
          exact⟨by rw[HE.out];rfl,by rw[HE2.out];exact RdS.pre HM4.out HT.out⟩
         ·have hskz:¬(sn:Int)=(k:Int):=by omega
          have hr0:rNumL b (some a)=(0,none):=by rw[hr1,if_pos (.inr hsk)]
          replace HE:Hid (n=0):=hid (by rw[<-HE.out,hr0]);replace HE2:Hid (s=none):=hid (by rw[<-HE2.out,hr0]);replace HM:Hid (Mod NoB w wr):=HM4
          clear hr0 hr1 HR1 hsne;go_upto_region 23 with(fail);refine wpR [3,3,3,3,3,1,3,3,3] ?_;simp only[stz]
          refine qG _ _ _ _ _ _ _ _ rfl rfl rfl rfl rfl false (decide_eq_false (by omega)) ?_;simp only[stz]
          refine qE rfl (fun w'=>yY _ _ _ q rfl rfl (by kernel_rfl) underlying3 (by omega)) ?_;simp only[nmz];refine wpD (wpC func282 (hsn _) ?_)
          rintro e w5 ⟨rfl,hw⟩;obtain rfl:=hw.symm;refine⟨_,rfl,?_⟩;simp only[stz]
          refine qG _ _ _ _ _ _ _ _ rfl rfl rfl rfl rfl true (by simp only[cmpB,decide_eq_true_eq];omega) ?_;simp only[stz];go_upto_region 24 with(fail)
          have hS:Mod NoB wr wr.drew:=(Mod.refl _ _).drew;refine wpRZ [3,3,3,0,3,3,3,0,2] [8] (fun w'=>Mod NoB wr w') hS ?_;simp only[stz]
          refine wpLd 318 rb 0 (fun w' hS=>hS.cell id (H4.out.cell.1)) underlying318 ?_;simp only[stz]
          refine wpLd 3 rb 2 (fun w' hS=>hS.cell id (H4.out.cell.2.2.1)) underlying3 ?_;simp only[nmz];refine zB rfl (fun K hK=>?_)
          refine wpC func254 (wFails_any p 5 a (hS.obj id H4.out.wr)) ?_;rintro e w2 ⟨rfl,hm2,hB2⟩;refine⟨_,rfl,hK _ _ ?_⟩;clear hK K;simp only[stz]
          have HF:Hid (RdS wr w2 rb wb _ b none):=hid (RdI.of_drew (H4.out.keep0 hS) hS hm2 (by decide) hB2);clear hS hm2 hB2;go_wp2;go_ret
          exact⟨by rw[HE.out];rfl,by rw[HE2.out];exact RdS.pre HM.out HF.out⟩
 ·have hd:decide (e≠0)=true:=by simpa using he
  rw[hd]at hn;rw[jB he];have HT:Hid (RdS w w rb wb bv b (stOf a e)):=hid h.stay;clear h H;go_enter func240,ntmps240
  go_wp2_with (go_at_call 281;refine hn.mono ?_;rintro _ w1 ⟨rfl,hw⟩;obtain rfl:=hw.symm);go_ret;have hT:=HT.out;rw[jB he]at hT;exact⟨rfl,hT⟩
end
theorem cloneB_any{own:Bool}{G:Nat->Prop}{v:Value}{m:List UInt8}{w:World}(hb:Sl own w G 1 ByteC v m)(hl:m.length<=140737488355328):Calls prog 239 #[v] w (CloneR w m):=by
 have hbS:=hid hb;obtain⟨ad,cap,rfl,hle,hmx,hne⟩:=hb
 cases ad with
 |none=>
  have hm:m=[]:=by
   cases m with
   |nil=>rfl
   |cons x m=>obtain⟨b,off,h,_⟩:=hne (by simp);cases h
  subst hm;clear hne;rw[List.length_nil];have heq:=fun w=>Lib.run_eql_slice_nil (P:=prog) w 53 5 none 0 cap 0 0 underlying53;go_enter func239,ntmps239;go_wp2;go_ret
  exact⟨_,rfl,⟨rfl,.inl ⟨rfl,rfl⟩⟩,Mod.refl _ _⟩
 |some q=>
  clear hne;have heq:=fun w=>Lib.run_eql_slice_nil (P:=prog) w 53 5 (some q) m.length cap 0 0 underlying53;go_enter func239,ntmps239;go_upto_region 3 with(fail)
  refine wpR [1,3,1,3] ?_;simp only[stz];refine wpD (zG 53 5 (by rfl) underlying53 (by kernel_rfl) (fun w1 hB1 hm1 hs1=>?_));simp only[stz]
  refine wpD (xV _ _ (by rfl) w.heap.size _ [] (by rfl) (xH _ hB1 (Nat.le_refl _)) _ m (by rfl) (hbS.out.keep0 hm1).bsrc (by simpa using hl) hm1.size (fun v' w2 ho2 hm2=>?_))
  rw[List.nil_append]at ho2;simp only[stz];go_wp2;go_ret
  exact⟨_,rfl,ho2,hm1.trans hm2 (fun k hk e=>by
   have e':some w.heap.size=some k:=e
   cases e';omega)⟩
section
variable{w:World}{rb wb:Nat}{bv:Value}{b:List UInt8}{a:Nat}{e p:Int}
theorem rMany_any(h:RdI w rb wb bv b a e p)(most:Nat)(hm:most<=4096):Calls prog 313 #[.pointer (some ⟨rb,0,none⟩),.int .i64 most] w (NumR w rb wb bv b (rManyL b most (stOf a e)).1 (rManyL b most (stOf a e)).2):=by
 have hn:=rNone_any h;have H:=hid h;have hnum:=rNum_any h;have hc2:=h.cell.2.2.1;have hok:=rNumL_ok (b:=b) (s:=stOf a e)
 by_cases he:e=0
 ·subst he
  rw[stOf_zero]at hnum hok |-;obtain⟨n,hne⟩:∃n,(rNumL b (some a)).1=n:=⟨_,rfl⟩;obtain⟨s,hse⟩:∃s,(rNumL b (some a)).2=s:=⟨_,rfl⟩
  have hml:rManyL b most (some a)=if most<n then(n,none)else(n,s):=by
   unfold rManyL;rw[hne]
   split
   ·rfl
   ·exact Prod.ext hne hse
  rw[hml];rw[hne,hse]at hnum hok;clear hml;have hnb:=hok.2.1;have HOK:=hid hok;clear h hok hne hse
  by_cases hgt:most<n
  ·have hz:(n:Int)>(most:Nat):=by omega
   rw[if_pos hgt];go_enter func313,ntmps313;go_upto_region 3 with(go_at_call 281;refine hn.mono ?_;rintro _ w1 ⟨rfl,hw⟩;obtain rfl:=hw.symm);refine wpR [3,3,3,1,3] ?_
   simp only[stz];refine wpXd (v:=(.int .i64 a)) 3 rb 2 hc2 underlying3 trivial ?_;simp only[stz];go_upto_region 4 with(fail);refine wpR [3,1,3] ?_;simp only[stz]
   refine wpD (wpC func240 (hnum) ?_);rintro e w2 ⟨rfl,hr2⟩;have HR2:=hid hr2;refine⟨_,rfl,?_⟩;simp only[stz];go_upto_region 6 with(fail)
   obtain⟨⟨a2,e2,p2,hi2,hs2⟩,hm2⟩:=HR2.out
   have he2:e2=0:=by
    rcases Int.decEq e2 0 with h|h
    ·rw[jB h]at hs2
     have:=HOK.out.2.2 hs2.symm;omega
    ·exact h
   subst he2;have HI2:=hid hi2;clear hi2 hs2;refine wpR [3,3,3,1,3,1] ?_;simp only[stz]
   refine wpXd (v:=(.pointer (some ⟨wb,0,none⟩))) 318 rb 0 HI2.out.cell.1 underlying318 trivial ?_;simp only[stz];refine wpD (wpC func254 (wFails_any p2 4 a HI2.out.wr) ?_)
   rintro e w3 ⟨rfl,hm3,hB3⟩;refine⟨_,rfl,?_⟩;simp only[stz];have HF:Hid (RdS w2 w3 rb wb _ b none):=hid (HI2.out.fail hm3 (by decide) hB3);clear hm3 hB3;go_wp2;go_ret
   exact⟨rfl,HR2.out.trans HF.out⟩
  ·have hz:¬(n:Int)>(most:Nat):=by omega
   rw[if_neg hgt];go_enter func313,ntmps313;go_upto_region 3 with(go_at_call 281;refine hn.mono ?_;rintro _ w1 ⟨rfl,hw⟩;obtain rfl:=hw.symm);refine wpR [3,3,3,1,3] ?_
   simp only[stz];refine wpXd (v:=(.int .i64 a)) 3 rb 2 hc2 underlying3 trivial ?_;simp only[stz];go_upto_region 4 with(fail);refine wpR [3,1,3] ?_;simp only[stz]
   refine wpD (wpC func240 (hnum) ?_);rintro e w2 ⟨rfl,hr2⟩;have HR2:=hid hr2;refine⟨_,rfl,?_⟩;simp only[stz];clear hr2;go_wp2;go_ret;exact⟨rfl,HR2.out⟩
 ·have hd:decide (e≠0)=true:=by simpa using he
  rw[hd]at hn;have HT:=hid h.stay;rw[jB he]at HT |-;have hr:rManyL b most none=(0,none):=by simp[rManyL,rNumL]
  rw[hr];clear h H hnum hok;go_enter func313,ntmps313;go_wp2_with (go_at_call 281;refine hn.mono ?_;rintro _ w1 ⟨rfl,hw⟩;obtain rfl:=hw.symm);go_ret;exact⟨rfl,HT.out⟩
def TakeR(w:World)(rb wb:Nat)(bv:Value)(b x:List UInt8)(s:RS):Ending->World->Prop:=fun e w'=>RdS w w' rb wb bv b s/\∃v,e=.returned v/\Bts w.heap.size w' v x
theorem rTake_any(h:RdI w rb wb bv b a e p)(n:Nat)(hnb:n<9223372036854775808)(at_:Int):Calls prog 312 #[.pointer (some ⟨rb,0,none⟩),.int .i64 n,.int .i64 at_] w (TakeR w rb wb bv b (jF b n (stOf a e)).1 (jF b n (stOf a e)).2):=by
 have hn:=rNone_any h;have H:=hid h;have hal:=h.al;have hln:=h.len
 by_cases he:e=0
 ·subst he
  rw[stOf_zero];obtain⟨ad,cap,rfl,-,-⟩:=Sl.at h.sl
  have hcap:b.length<=cap:=by
   obtain⟨ad',cap',hq,hle,-⟩:=h.sl
   cases hq;exact hle
  clear h
  by_cases hgt:b.length-a<n
  ·have hr:jF b n (some a)=([],none):=by simp[jF,hgt]
   rw[hr];clear hr;go_enter func312,ntmps312;go_upto_region 3 with(go_at_call 281;refine hn.mono ?_;rintro _ w1 ⟨rfl,hw⟩;obtain rfl:=hw.symm)
   have hS:Mod NoB w w.drew:=(Mod.refl _ _).drew;refine wpRZ [3,3,3,3,0,3,3,3,3,0,3,3] [] (fun w'=>Mod NoB w w') hS ?_;simp only[stz]
   refine wpLd 53 rb 1 (fun w' hS=>hS.cell id H.out.cell.2.1) underlying53 ?_;simp only[nmz];refine wpPL ?_;simp only[stz]
   refine wpLd 3 rb 2 (fun w' hS=>hS.cell id H.out.cell.2.2.1) underlying3 ?_;simp only[nmz]
   refine xB _ _ _ _ ((b.length:Nat):Int) (a:Int) rfl rfl rfl rfl (by omega) (by omega) ?_;simp only[nmz]
   refine qG _ _ _ _ _ _ _ _ rfl rfl rfl rfl rfl true (decide_eq_true (by omega)) ?_;simp only[stz];have H1:=hid (H.out.keep0 hS);have HM:=hid hS;clear hS
   generalize w.drew=w1 at*;go_upto_region 4 with(fail);refine wpR [3,3,3,1,3,1] ?_;simp only[stz]
   refine wpXd (v:=(.pointer (some ⟨wb,0,none⟩))) 318 rb 0 H1.out.cell.1 underlying318 trivial ?_;simp only[stz];refine wpD (wpC func254 (wFails_any p 6 at_ H1.out.wr) ?_)
   rintro e w3 ⟨rfl,hm3,hB3⟩;refine⟨_,rfl,?_⟩;simp only[stz];have HF:Hid (RdS w1 w3 rb wb _ b none):=hid (H1.out.fail hm3 (by decide) hB3);clear hm3 hB3;go_wp2;go_ret
   exact⟨RdS.pre HM.out HF.out,_,rfl,⟨rfl,.inl ⟨rfl,rfl⟩⟩⟩
  ·have hr:jF b n (some a)=((b.drop a).take n,some (a+n)):=by simp[jF,hgt]
   rw[hr];clear hr;go_enter func312,ntmps312;go_upto_region 3 with(go_at_call 281;refine hn.mono ?_;rintro _ w1 ⟨rfl,hw⟩;obtain rfl:=hw.symm)
   have hS:Mod NoB w w.drew:=(Mod.refl _ _).drew;refine wpRZ [3,3,3,3,0,3,3,3,3,0,3,3] [] (fun w'=>Mod NoB w w') hS ?_;simp only[stz]
   refine wpLd 53 rb 1 (fun w' hS=>hS.cell id H.out.cell.2.1) underlying53 ?_;simp only[nmz];refine wpPL ?_;simp only[stz]
   refine wpLd 3 rb 2 (fun w' hS=>hS.cell id H.out.cell.2.2.1) underlying3 ?_;simp only[nmz]
   refine xB _ _ _ _ ((b.length:Nat):Int) (a:Int) rfl rfl rfl rfl (by omega) (by omega) ?_;simp only[nmz]
   refine qG _ _ _ _ _ _ _ _ rfl rfl rfl rfl rfl false (decide_eq_false (by omega)) ?_;simp only[stz];have H1:=hid (H.out.keep0 hS);have HM:=hid hS;clear hS
   generalize hw1:w.drew=w1 at*;have HSZ:Hid (w.heap.size=w1.heap.size):=hid (by rw[<-hw1];rfl);clear hw1
   have hsl:=(H1.out.sl).midLe a (a+n) (by omega) (by omega);rw[show a+n-a=n by omega]at hsl;obtain⟨sv,hsv⟩:∃sv,sliced ad a (a+n) cap 1=sv:=⟨_,rfl⟩
   have HSV:=hid hsv;rw[hsv]at hsl;have HSL:=hid hsl;clear hsl hsv;go_upto_region 6 with(fail);have hS:Mod NoB w1 w1.drew:=(Mod.refl _ _).drew
   refine wpRZ [3,3,3,0,3,3,3,0,3,3,3,0,3,3,3,1,3] [] (fun w'=>Mod NoB w1 w') hS ?_;simp only[stz]
   refine wpLd 53 rb 1 (fun w' hS=>hS.cell id H1.out.cell.2.1) underlying53 ?_;simp only[stz];refine wpLd 3 rb 2 (fun w' hS=>hS.cell id H1.out.cell.2.2.1) underlying3 ?_
   simp only[stz];refine wpLd 3 rb 2 (fun w' hS=>hS.cell id H1.out.cell.2.2.1) underlying3 ?_;simp only[stz]
   refine qY _ _ _ _ (a:Int) (n:Int) ((a+n:Nat):Int) rfl rfl rfl rfl (by omega) (by omega) (by omega) ?_;simp only[nmz]
   refine wpPi_sliceLH 53 5 _ _ _ _ _ _ a (a+n) 1 rfl rfl rfl rfl rfl underlying53 (by kernel_rfl) (by omega) (by omega) ?_;simp only[nmz];refine qM rfl (fun K hK=>?_)
   rw[HSV.out];refine wpC func239 (cloneB_any (HSL.out.keep0 hS) (by rw[List.length_take];omega)) ?_;rintro e w2 ⟨v2,rfl,hv2,hm2⟩;have hS2:=hS.trans0 hm2
   have hv0:Bts w.heap.size w2 v2 ((b.drop a).take n):=by rw[HSZ.out];exact yW hv2 (Nat.le_refl _)
   have hone:v2.oneCell'=true:=yF hv2;refine⟨_,rfl,hK _ _ hS2 ?_⟩;clear hK K;simp only[stz];have H2:=hid (H1.out.keep0 hS2);have HM2:=hid (HM.out.trans0 hS2)
   have hvl:∀k,v2.ownBlock=some k->k≠rb:=fun k hk e=>by
    have h1:=(Bts.lt hv0 hk).1;have h2:=(Array.getElem?_eq_some_iff.1 H.out.box).1;omega
   clear hS hS2 hm2 hv2;go_upto_region 7 with(fail);refine wpR [3,3,3,1,3,3,3,3,1] ?_;simp only[stz]
   refine wpXd (v:=(.int .i64 a)) 3 rb 2 H2.out.cell.2.2.1 underlying3 trivial ?_;simp only[stz]
   refine qY _ _ _ _ (a:Int) (n:Int) ((a+n:Nat):Int) rfl rfl rfl rfl (by omega) (by omega) (by omega) ?_;simp only[stz]
   refine wpD (qT 3 _ _ rb 2 (.int .i64 ((a+n:Nat):Int)) (by rfl) (by rfl) (by rfl) rfl (by kernel_rfl) _ _ H2.out.box (by simp) (fun w3 hB3 hm3=>?_))
   have HT:Hid (RdS w2 w3 rb wb (.slice ad b.length cap) b (some (a+n))):=hid (H2.out.on hm3 (by omega) hB3)
   have HB:Hid (Bts w.heap.size w3 v2 ((b.drop a).take n)):=hid (hv0.keep hm3 (fun k hk e=>hvl k hk e));simp only[stz];clear hB3 hm3 hv0;go_wp2;go_ret
   exact⟨RdS.pre HM2.out HT.out,_,rfl,HB.out⟩
 ·have hd:decide (e≠0)=true:=by simpa using he
  rw[hd]at hn;have HT:=hid h.stay;rw[jB he]at HT |-;clear h H;go_enter func312,ntmps312
  go_wp2_with (go_at_call 281;refine hn.mono ?_;rintro _ w1 ⟨rfl,hw⟩;obtain rfl:=hw.symm);go_ret;exact⟨HT.out,_,rfl,⟨rfl,.inl ⟨rfl,rfl⟩⟩⟩
end
section
variable{w:World}{rb wb:Nat}{bv:Value}{b:List UInt8}{a:Nat}{e p:Int}
theorem RdI.notOk(h:RdI w rb wb bv b a e p):RsOk b (stOf a e):=fun x hx=>by
 unfold stOf at hx
 split at hx
 ·cases hx;exact h.al
 ·cases hx
theorem rBytes_any(h:RdI w rb wb bv b a e p)(most:Nat)(hm:most<=4096):Calls prog 283 #[.pointer (some ⟨rb,0,none⟩),.int .i64 most] w (TakeR w rb wb bv b (xD b most (stOf a e)).1 (xD b most (stOf a e)).2):=by
 have hpl:=rPlace_any h;have hmn:=rMany_any h most hm;have hok:=rManyL_ok (b:=b) (most:=most) (s:=stOf a e);unfold xD
 obtain⟨n,hne⟩:∃n,(rManyL b most (stOf a e)).1=n:=⟨_,rfl⟩;obtain⟨s,hse⟩:∃s,(rManyL b most (stOf a e)).2=s:=⟨_,rfl⟩;rw[hne,hse]at hmn hok |-;have hnb:=hok.2
 obtain⟨plc,hple⟩:∃q,(if e≠0 then 0 else(a:Int))=q:=⟨_,rfl⟩;rw[hple]at hpl;clear h hok hne hse hple;go_enter func283,ntmps283;go_upto_region 1 with(fail)
 refine wpR [3,1,3] ?_;simp only[stz];refine wpD (wpC func311 (hpl) ?_);rintro e w1 ⟨rfl,hw⟩;obtain rfl:=hw.symm;refine⟨_,rfl,?_⟩;simp only[stz]
 go_upto_region 2 with(fail);refine wpR [3,3,3,1,3,1,3] ?_;simp only[stz];refine wpD (wpC func313 (hmn) ?_);rintro e w2 ⟨rfl,hr2⟩;have HR2:=Lib.hid hr2
 obtain⟨⟨a2,e2,p2,hi2,hs2⟩,hm2⟩:=hr2;have ht:=rTake_any hi2 n hnb plc;rw[hs2]at ht;clear hi2 hs2;refine⟨_,rfl,?_⟩;simp only[stz];refine wpD (wpC func312 (ht) ?_)
 rintro e w3 ⟨hr3,v,rfl,hv⟩;have HR3:=Lib.hid (HR2.out.trans hr3);have HV:=Lib.hid (yW hv hm2.size);clear hr3 hv hm2;refine⟨_,rfl,?_⟩;simp only[stz];go_wp2;go_ret
 exact⟨HR3.out,_,rfl,HV.out⟩
def TextR(w:World)(rb wb:Nat)(bv:Value)(b x:List UInt8)(s:RS):Ending->World->Prop:=fun e w'=>RdS w w' rb wb bv b s/\e=.returned (.string ⟨x.toArray⟩)
theorem rText_any(h:RdI w rb wb bv b a e p)(most:Nat)(hm:most<=4096):Calls prog 241 #[.pointer (some ⟨rb,0,none⟩),.int .i64 most] w (TextR w rb wb bv b (xD b most (stOf a e)).1 (xD b most (stOf a e)).2):=by
 have hb:=rBytes_any h most hm;clear h;go_enter func241,ntmps241;go_upto_region 1 with(fail);refine wpR [3,3,1,1,3] ?_;simp only[stz];refine wpD (wpC func283 (hb) ?_)
 rintro e w2 ⟨hr2,v,rfl,hv⟩;have HR2:=Lib.hid hr2;have HV:=Lib.hid hv;clear hr2 hv;refine⟨_,rfl,?_⟩;try simp only[nmz]
 refine wpX rfl (zP 53 5 9 _ (by rfl) v (by rfl) (Bts.sl HV.out) underlying53 underlying5 underlying9) trivial ?_;simp only[stz];go_wp2;go_ret
 exact⟨HR2.out,rfl⟩
def IDR(w:World)(rb wb:Nat)(bv:Value)(b x:List UInt8)(s:RS):Ending->World->Prop:=fun e w'=>RdS w w' rb wb bv b s/\e=.returned (.agg (qA x))
theorem wp_copyRow{P:Program}{o:Oper}{a:Act}{w:World}{K:Act->World->Prop}{Q:Exit->Act->World->Prop}(t e:TypeId)(x y:Operand)(b n c:Nat)(ho:o.op=.call { callee:=.builtin .copy,args:=#[x,y],argTypes:=#[t,t] })(hx:a.eval x=.slice (some ⟨b,0,none⟩) n c)(ht:P.underlying t=some (.slice e))(hs:(P.info? e).map (·.size)=some 1)
 (v:Value)(ys:List UInt8)(hy:a.eval y=v)(hsrc:Src w 1 v ys.length (ys.map byteV))(hl:ys.length<=n)(cur:Array Value)(T:TypeId)(hb:w.heap[b]?=some (.cells cur T (0,0)))(hoff:n<=cur.size)
 (h:∀w',w'.heap[b]?=some (.cells (qZ cur 0 (qA ys)) T (0,0))->Mod (fun k=>k=b) w w'->K (a.put o.dst (.int .i64 ys.length)) w'):o.wp P a w K Q:=by
 obtain⟨hl',ad,cap,rfl,hsrc⟩:=hsrc;have hmin:Nat.min ys.length n=ys.length:=Nat.min_eq_left hl
 by_cases h0:ys=[]
 ·subst h0
  have hr:=run_copy_none (P:=P) w t t o.type e (some ⟨b,0,none⟩) ad n c 0 cap ht hs (by simp)
  have e1:qZ cur 0 (qA [])=cur:=by
   apply Array.toList_inj.1
   simp[qZ,qA]
  have h':=h w (by rw[e1];exact hb) (Mod.refl _ _);unfold Oper.wp execOp
  simp only[ho,hx,hy,resolve,invoke,builtin,List.map_toArray,List.map_cons,List.map_nil,Sem.run_bind,Sem.run_pure,Result.andThen_ok,List.length_nil]at hr h' |-;rw[hr]
  exact h'
 ·obtain⟨b2,off,rfl,hc⟩:=hsrc (by intro h;exact h0 (List.eq_nil_of_length_eq_zero h))
  have hr:=run_copy_row (P:=P) w t t o.type e b 0 n c ⟨b2,off,none⟩ ys.length cap cur T (ys.map byteV) ht hs hb (by rw[List.length_map];exact hmin.symm) (fun j v hj=>by rw[addr_add0];exact hc j v hj) (by rw[List.length_map];omega) (fun v hv=>by obtain⟨x,_,rfl⟩:=List.mem_map.1 hv;rfl)
  have e1:(cur.toList.take 0++ys.map byteV++cur.toList.drop (0+(ys.map byteV).length)).toArray=qZ cur 0 (qA ys):=by
   simp[qZ,qA]
  rw[e1,List.length_map]at hr;have h':=h _ (setRow_heap w b cur _ T _ hb) ⟨rfl,rfl,rfl,by simp,fun k _ hk=>setRow_other w b k _ (fun e=>hk e)⟩;unfold Oper.wp execOp
  simp only[ho,hx,hy,resolve,invoke,builtin,List.map_toArray,List.map_cons,List.map_nil,Sem.run_bind,Sem.run_pure,Result.andThen_ok];rw[hr];exact h'
theorem exec_sliceAllA{P:Program}{o:Oper}{a:Act}{w:World}(t e:TypeId)(x:Operand)(b n:Nat)(ho:o.op=.slice t x none none none)(hx:a.eval x=.pointer (some ⟨b,0,none⟩))(ht:P.underlying t=some (.array n e))(he:(P.info? e).map (·.size)=some 1):
 (execOp a.eval o).run P w=.ok (.value (.slice (some ⟨b,0,none⟩) n n)) w:=by
 have h1:P.arrayLen t=n:=by simp[Program.arrayLen,ht]
 have h2:P.elem t=e:=by simp[Program.elem,ht]
 have h3:(sizeOf e).run P w=.ok 1 w:=by
  cases hq:P.info? e with
  |none=>simp[hq]at he
  |some j=>simp[hq]at he;simp[sizeOf,typeInfo,hq,he]
 have h:=run_sliceAt_array_all (P:=P) w t ⟨b,0,none⟩ (by rw[h1,h2];exact ht);unfold execOp
 simp only[ho,hx,Option.map_none,Sem.run_bind,h,Result.andThen_ok,Sem.run_pure];rw[h1,h2,h3]
 simp[slicedAt,addr_add0]
theorem rID_any(h:RdI w rb wb bv b a e p):Calls prog 284 #[.pointer (some ⟨rb,0,none⟩)] w (IDR w rb wb bv b (rIDL b (stOf a e)).1 (rIDL b (stOf a e)).2):=by
 have H:=Lib.hid h;have htl:=rTakeL_ok (n:=32) h.notOk;obtain⟨x,hx⟩:∃x,(jF b 32 (stOf a e)).1=x:=⟨_,rfl⟩
 obtain⟨s,hs⟩:∃s,(jF b 32 (stOf a e)).2=s:=⟨_,rfl⟩;have hid:rIDL b (stOf a e)=(if x=[]then zeros32 else x,s):=by unfold rIDL;rw[hx,hs]
 rw[hx]at htl;have hx32:=htl.2;rw[hid]
 have hres:qZ (qA (List.replicate 32 0)) 0 (qA x)=qA (if x=[]then zeros32 else x):=by
  rcases hx32 with rfl|h32
  ·apply Array.toList_inj.1
   simp[qZ,qA,zeros32]
  ·rw[if_neg (by rintro rfl;simp at h32),qC (by rw[qD,qD,h32];simp)]
 have hrs:(qA (if x=[]then zeros32 else x)).size=32:=by
  rw[qD]
  rcases hx32 with rfl|h32
  ·simp[zeros32]
  ·rw[if_neg (by rintro rfl;simp at h32)];exact h32
 have hxl:x.length<=32:=by
  rcases hx32 with rfl|h32
  ·simp
  ·omega
 obtain⟨r,hr⟩:∃r,(if x=[]then zeros32 else x)=r:=⟨_,rfl⟩
 have hTK:=Lib.hid (show ∀(w':World),RdI w' rb wb bv b a e p->∀at_,Calls prog 312 #[.pointer (some ⟨rb,0,none⟩),.int .i64 32,.int .i64 at_] w' (TakeR w' rb wb bv b x s)from fun w' hw' at_=>by
  have:=rTake_any hw' 32 (by omega) at_;rw[hx,hs]at this
  exact this)
 rw[hr]at hres hrs |-;have HRES:=Lib.hid hres;have HXL:=Lib.hid hxl;obtain⟨plc,hple⟩:∃q,(if e≠0 then 0 else(a:Int))=q:=⟨_,rfl⟩
 have HPL:=Lib.hid (show ∀(w':World),RdI w' rb wb bv b a e p->Calls prog 311 #[.pointer (some ⟨rb,0,none⟩)] w' (RetE (.int .i64 plc) w')from fun w' hw'=>by
  have:=rPlace_any hw'
  rwa[hple]at this)
 clear h hx hs hid htl hx32 hres hxl hr hple;go_enter func284,ntmps284;go_upto_region 0 with(fail);refine wpR [1] ?_;simp only[stz]
 refine wpD (qP 24 _ (by rfl) idZ (fun w1 hB1 hm1 hs1=>?_));replace hB1:w1.heap[w.heap.size]?=some (.cells (qA (List.replicate 32 0)) 24 (0,0)):=hB1
 simp only[stz];go_upto_region 1 with(fail);have hS:Mod NoB w1 w1.drew:=(Mod.refl _ _).drew;refine wpRZ [3,3,3,1,2,2] [4,5] (fun w'=>Mod NoB w1 w') hS ?_
 simp only[stz];refine qE rfl (fun w'=>exec_sliceAllA 24 5 _ _ 32 (by rfl) (by rfl) underlying24 (by kernel_rfl)) ?_;simp only[stz];refine qM rfl (fun K hK=>?_)
 refine wpC func311 (HPL.out _ (H.out.keep0 (hm1.trans0 hS))) ?_;rintro e w2 ⟨rfl,hw⟩;subst hw;refine⟨_,rfl,hK _ _ hS ?_⟩;clear hK K;try simp only[nmz]
 refine zB rfl (fun K hK=>?_);refine wpC func312 (hTK.out _ (H.out.keep0 (hm1.trans0 hS)) plc) ?_;rintro e w3 ⟨hr3,v,rfl,hv⟩
 have HR3:=Lib.hid (RdS.pre (hm1.trans0 hS) hr3);have hrl:=(Array.getElem?_eq_some_iff.1 H.out.box).1;have hwl:=(Array.getElem?_eq_some_iff.1 H.out.wr).1
 have hB3:=hr3.2.obj (fun e=>by
  have e':w.heap.size=rb\/w.heap.size=wb:=e
  omega) (hS.obj id hB1)
 have hsrc:=(Bts.sl hv).bsrc
 have hvn:∀k,v.ownBlock=some k->k≠w.heap.size:=fun k hk e=>by
  have:=(Bts.lt hv hk).1;have h2:=hS.size;omega
 clear hr3;refine⟨_,rfl,hK _ _ ?_⟩;clear hK K;try simp only[nmz]
 refine zB rfl (fun K hK=>?_)
 refine wp_copyRow 53 5 _ _ w.heap.size 32 32 (by rfl) (by rfl) underlying53 (by kernel_rfl) v x (by rfl) hsrc HXL.out _ _ hB3 (by simp[qA]) (fun w4 hB4 hm4=>?_)
 rw[HRES.out]at hB4;have HR4:Hid (RdS w w4 rb wb bv b s):=Lib.hid (HR3.out.keepN H.out.all (Nat.le_refl _) hm4 (Nat.le_refl _));refine hK _ _ ?_;clear hK K;simp only[stz]
 clear hm1 hm4 hS hB1 hB3 hsrc hvn hv;go_upto_region 2 with(fail);refine wpR [1,1] ?_;simp only[stz]
 refine wpXA 24 w.heap.size 0 (qA r) (CellsAt.whole hB4) underlying24 32 hrs trivial ?_;try simp only[nmz]
 refine wpD (qF 24 _ _ w.heap.size 0 (qA r) (by rfl) (by rfl) (by rfl) (qR _) 32 (by kernel_rfl) hrs _ _ hB4 (by rw[hrs];omega) (fun w5 hB5 hm5=>?_))
 rw[qC (rfl)]at hB5;simp only[stz];have HR5:Hid (RdS w w5 rb wb bv b s):=Lib.hid (HR4.out.keepN H.out.all (Nat.le_refl _) hm5 (Nat.le_refl _));clear hm5 hB4;go_wp2
 refine bodyPost_ret (results_cell_row (P:=prog) (ty:=24) rfl _ _ w.heap.size _ _ _ _ (by rfl) hB5 underlying24 rfl (by rw[hrs];kernel_rfl)) rfl ?_;exact⟨HR5.out,rfl⟩
end
theorem fltZ:(prog.info? 255).bind (·.zero)=some (.agg #[.int .i64 0,.int .i64 0]):=by kernel_rfl
section
variable{w:World}{rb wb:Nat}{bv:Value}{b:List UInt8}{a:Nat}{e p:Int}
theorem rEnd_any(h:RdI w rb wb bv b a e p):Calls prog 245 #[.pointer (some ⟨rb,0,none⟩)] w (EndR w b a e p):=by
 have H:=hid h;have hal:=h.al;have hln:=h.len;have hzp:=h.z;have hc0:=h.cell.1
 have hfl:=hid (fun(w':World)(hw':RdI w' rb wb bv b a e p)=>wFailed_at hw'.cell.2.2.2.1);obtain⟨ad,cap,rfl,-,-⟩:=Sl.at h.sl;clear h;go_enter func245,ntmps245
 go_upto_region 0 with(fail);refine wpR [1] ?_;simp only[stz];refine wpD (qP 255 _ (by rfl) fltZ (fun w1 hB1 hm1 hs1=>?_))
 replace hB1:w1.heap[w.heap.size]?=some (.cells #[.int .i64 0,.int .i64 0] 255 (0,0)):=hB1;simp only[stz];have H1:=hid (H.out.keep0 hm1);replace hc0:=hm1.cell id hc0
 go_upto_region 3 with(fail);have hS:Mod NoB w1 w1.drew:=(Mod.refl _ _).drew
 by_cases he:e=0
 ·subst he
  obtain rfl:=hzp rfl
  rcases Nat.lt_or_ge a b.length with hlt|hge
  ·have hlz:(a:Int)<(b.length:Nat):=by omega
   refine wpRZ [3,3,3,0,1,3,3,3,3,3,0,3,3,3,0,3,3,3,3] [] (fun w'=>Mod NoB w1 w') hS ?_;simp only[stz]
   refine wpLd 318 rb 0 (fun w' hS=>hS.cell id H1.out.cell.1) underlying318 ?_;simp only[nmz];refine qM rfl (fun K hK=>?_)
   refine wpC func252 (hfl.out _ (H1.out.keep0 hS)) ?_;rintro e w2 ⟨rfl,hw⟩;subst hw;refine⟨_,rfl,hK _ _ hS ?_⟩;clear hK K;try simp only[stz]
   try refine zH _ _ false (by rfl) (by rfl) (by rfl) ?_
   try simp only[stz]
   refine wpLd 3 rb 2 (fun w' hS=>hS.cell id H1.out.cell.2.2.1) underlying3 ?_;simp only[stz];refine wpLd 53 rb 1 (fun w' hS=>hS.cell id H1.out.cell.2.1) underlying53 ?_
   simp only[nmz];refine wpPL ?_;simp only[nmz];refine qG _ _ _ _ _ _ _ _ rfl rfl rfl rfl rfl true (decide_eq_true (by omega)) ?_;simp only[stz]
   have H3:=hid (H1.out.keep0 hS);have HM3:Hid (Mod NoB w w1.drew):=hid (hm1.trans0 hS);have hB3:=hS.obj id hB1;clear hS hm1 hB1 hc0 H1 H hfl;generalize w1.drew=w3 at*
   go_upto_region 4 with(fail);refine wpR [3,3,3,1,0,1] ?_;simp only[stz];refine wpXd (v:=(.int .i64 a)) 3 rb 2 H3.out.cell.2.2.1 underlying3 trivial ?_
   try simp only[nmz]
   refine qQ rfl (fun w' hS=>qL 255 [(0,_),(1,_)] [(0,.int .i64 4),(1,.int .i64 a)] _ (by rfl) (by rfl) (jA 4 a)) ?_;simp only[nmz]
   refine wpD (qF 255 _ _ w.heap.size 0 #[.int .i64 4,.int .i64 a] (by rfl) (by rfl) (by rfl) (by simp[Value.oneCell']) 2 (by kernel_rfl) rfl _ _ hB3 (by simp) (fun w4 hB4 hm4=>?_))
   rw[qC (by rfl)]at hB4;simp only[stz];have hM4:Hid (Mod NoB w w4):=hid (HM3.out.transB hm4 (Nat.le_refl _));clear hm4 hB3;go_wp2
   refine bodyPost_ret (results_cell_row (P:=prog) (ty:=255) rfl _ _ w.heap.size _ _ _ _ (by rfl) hB4 underlying255 rfl (by kernel_rfl)) rfl ?_
   exact⟨hM4.out,4,a,rfl,by omega,by omega⟩
  ·have hlz:¬(a:Int)<(b.length:Nat):=by omega
   refine wpRZ [3,3,3,0,1,3,3,3,3,3,0,3,3,3,0,3,3,3,3] [] (fun w'=>Mod NoB w1 w') hS ?_;simp only[stz]
   refine wpLd 318 rb 0 (fun w' hS=>hS.cell id H1.out.cell.1) underlying318 ?_;simp only[nmz];refine qM rfl (fun K hK=>?_)
   refine wpC func252 (hfl.out _ (H1.out.keep0 hS)) ?_;rintro e w2 ⟨rfl,hw⟩;subst hw;refine⟨_,rfl,hK _ _ hS ?_⟩;clear hK K;try simp only[stz]
   try refine zH _ _ false (by rfl) (by rfl) (by rfl) ?_
   try simp only[stz]
   refine wpLd 3 rb 2 (fun w' hS=>hS.cell id H1.out.cell.2.2.1) underlying3 ?_;simp only[stz];refine wpLd 53 rb 1 (fun w' hS=>hS.cell id H1.out.cell.2.1) underlying53 ?_
   simp only[nmz];refine wpPL ?_;simp only[nmz];refine qG _ _ _ _ _ _ _ _ rfl rfl rfl rfl rfl false (decide_eq_false (by omega)) ?_;simp only[stz]
   have H3:=hid (H1.out.keep0 hS);have HM3:Hid (Mod NoB w w1.drew):=hid (hm1.trans0 hS);have hB3:=hS.obj id hB1;clear hS hm1 hB1 hc0 H1 H hfl;generalize w1.drew=w3 at*
   go_upto_region 5 with(fail);refine wpR [3,3,3,1,3,3,1,1] ?_;simp only[stz]
   refine wpXd (v:=(.pointer (some ⟨wb,0,none⟩))) 318 rb 0 H3.out.cell.1 underlying318 trivial ?_;simp only[stz]
   refine wpXA 255 wb 0 #[.int .i64 0,.int .i64 0] H3.out.row underlying255 2 rfl trivial ?_;try simp only[nmz]
   refine wpD (qF 255 _ _ w.heap.size 0 #[.int .i64 0,.int .i64 0] (by rfl) (by rfl) (by rfl) (by simp[Value.oneCell']) 2 (by kernel_rfl) rfl _ _ hB3 (by simp) (fun w4 hB4 hm4=>?_))
   rw[qC (by rfl)]at hB4;simp only[stz];have hM4:Hid (Mod NoB w w4):=hid (HM3.out.transB hm4 (Nat.le_refl _));clear hm4 hB3;go_wp2
   refine bodyPost_ret (results_cell_row (P:=prog) (ty:=255) rfl _ _ w.heap.size _ _ _ _ (by rfl) hB4 underlying255 rfl (by kernel_rfl)) rfl ?_
   exact⟨hM4.out,0,0,rfl,by omega,by omega⟩
 ·have hd:decide (e≠0)=true:=by simpa using he
  have hf2:=hfl.out;simp only[hd]at hf2;replace hfl:=hid hf2;clear hf2
  refine wpRZ [3,3,3,0,1,3,3,3,3,3,0,3,3,3,0,3,3,3,3] [] (fun w'=>Mod NoB w1 w') hS ?_;simp only[stz]
  refine wpLd 318 rb 0 (fun w' hS=>hS.cell id H1.out.cell.1) underlying318 ?_;simp only[nmz];refine qM rfl (fun K hK=>?_)
  refine wpC func252 (hfl.out _ (H1.out.keep0 hS)) ?_;rintro e w2 ⟨rfl,hw⟩;subst hw;refine⟨_,rfl,hK _ _ hS ?_⟩;clear hK K;try simp only[stz]
  try refine zH _ _ true (by rfl) (by rfl) (by rfl) ?_
  try simp only[stz]
  have H3:=hid (H1.out.keep0 hS);have HM3:Hid (Mod NoB w w1.drew):=hid (hm1.trans0 hS);have hB3:=hS.obj id hB1;clear hS hm1 hB1 hc0 H1 H hfl;generalize w1.drew=w3 at*
  go_upto_region 5 with(fail);refine wpR [3,3,3,1,3,3,1,1] ?_;simp only[stz]
  refine wpXd (v:=(.pointer (some ⟨wb,0,none⟩))) 318 rb 0 H3.out.cell.1 underlying318 trivial ?_;simp only[stz]
  refine wpXA 255 wb 0 #[.int .i64 e,.int .i64 p] H3.out.row underlying255 2 rfl trivial ?_;try simp only[nmz]
  refine wpD (qF 255 _ _ w.heap.size 0 #[.int .i64 e,.int .i64 p] (by rfl) (by rfl) (by rfl) (by simp[Value.oneCell']) 2 (by kernel_rfl) rfl _ _ hB3 (by simp) (fun w4 hB4 hm4=>?_))
  rw[qC (by rfl)]at hB4;simp only[stz];have hM4:Hid (Mod NoB w w4):=hid (HM3.out.transB hm4 (Nat.le_refl _));clear hm4 hB3;go_wp2
  refine bodyPost_ret (results_cell_row (P:=prog) (ty:=255) rfl _ _ w.heap.size _ _ _ _ (by rfl) hB4 underlying255 rfl (by kernel_rfl)) rfl ?_
  exact⟨hM4.out,e,p,rfl,by omega,by omega⟩
theorem zero_wrong:prog.built 320 []=some #[.int .i64 0,.int .i64 0]:=by kernel_rfl
theorem built_reader(wb:Nat)(v:Value)(h:v.cells=#[v]):prog.built 344 [(0,.pointer (some ⟨wb,0,none⟩)),(1,v)]=some #[.pointer (some ⟨wb,0,none⟩),v,.int .i64 0]:=by
 have z:(prog.info? 344).bind (·.zero)=some (.agg #[.pointer none,.slice none 0 0,.int .i64 0]):=by kernel_rfl
 have p:xR prog 344=some [(0,1),(1,1),(2,1)]:=by kernel_rfl
 rw[zL z p,zD (off:=0) (size:=1) rfl (by rfl) (by simp),zD (off:=1) (size:=1) rfl (by rw[h];rfl) (by simp[qZ,Value.cells]),xT,h]
 rfl
def NewRd(w:World)(b:List UInt8):Ending->World->Prop:=fun x w'=>∃rb wb bv,x=.returned (.pointer (some ⟨rb,0,none⟩))/\RdI w' rb wb bv b 0 0 0/\Mod NoB w w'/\∀k,k=rb\/k=wb\/bv.ownBlock=some k->w.heap.size<=k
theorem rNew_any{own:Bool}{G:Nat->Prop}{v:Value}{w:World}{b:List UInt8}(h:Sl own w G 1 ByteC v b)(hl:b.length<=4096):Calls prog 211 #[v] w (NewRd w b):=by
 have H:=hid h;clear h;go_enter func211,ntmps211;go_upto_region 1 with(fail);refine wpR [0,1,3,1,0,1,3] ?_;simp only[stz]
 refine qQ rfl (fun w' hS=>qL 320 [] [] _ (by rfl) (by rfl) zero_wrong) ?_;simp only[nmz]
 refine wpD (zT 320 _ _ (by rfl) (by rfl) (fun w1 hB1 hm1 hs1=>?_));replace hB1:w1.heap[w.heap.size]?=some (.cells #[.int .i64 0,.int .i64 0] 320 (0,0)):=hB1
 simp only[stz];refine wpD (wpC func239 (cloneB_any (H.out.keep0 hm1) (by omega)) ?_);rintro e w2 ⟨v2,rfl,hv2,hm2⟩
 have hvc:v2.cells=#[v2]:=by obtain⟨ad,cap,rfl,-,-⟩:=Sl.at hv2.sl;rfl
 have hbr:=built_reader w.heap.size v2 hvc;refine⟨_,rfl,?_⟩;try simp only[nmz]
 refine qQ rfl (fun w' hS=>qL 344 [(0,_),(1,_)] [(0,.pointer (some ⟨w.heap.size,0,none⟩)),(1,v2)] _ (by rfl) (by rfl) hbr) ?_;simp only[nmz]
 refine wpD (zT 344 _ _ (by rfl) (by rfl) (fun w3 hB3 hm3 hs3=>?_))
 replace hB3:w3.heap[w2.heap.size]?=some (.cells #[.pointer (some ⟨w.heap.size,0,none⟩),v2,.int .i64 0] 344 (0,0)):=hB3;simp only[stz]
 have hB1':=(hm2.trans0 hm3).obj id hB1;have hs1:=hs1;have hs2:=hm2.size;have hv3:=Bts.keep hv2 hm3 (fun _ _=>id)
 have hvk:∀k,v2.ownBlock=some k->w1.heap.size<=k/\k<w2.heap.size:=fun k hk=>Bts.lt hv2 hk
 have HT:Hid (NewRd w b (.returned (.pointer (some ⟨w2.heap.size,0,none⟩))) w3):=hid ⟨_,_,v2,rfl,⟨hB3,hB1',(hv3.sl.weak).mono (fun k hk=>hk.2.2) (fun _ _ h=>h),fun k hk=>⟨by have:=hvk k hk;have:=hm3.size;omega,by have:=hvk k hk;omega,by have:=hvk k hk;omega⟩,hl,by omega,fun _=>rfl,by omega⟩,(hm1.trans0 hm2).trans0 hm3,fun k hk=>by
  rcases hk with rfl|rfl|hk
  ·omega
  ·omega
  ·have:=hvk k hk;omega⟩
 clear hB1 hB3 hm1 hm2 hm3 hv2 hv3 hB1' hvk;go_wp2;go_ret;exact HT.out
end
end
section
open Go.RowKit Go.Shelf Go.Proofs.Tryz Go.Lib
section
variable{P:Program}{w:World}{o:Oper}{a:Act}
theorem run_typeInfo{t:TypeId}{i:TypeInfo}(h:P.info? t=some i):(typeInfo t).run P w=.ok i w:=by simp[typeInfo,h]
theorem run_methP(n:Nat)(t e:TypeId)(p:Addr)(name:String)(f:FuncId)
 (hm:((P.info? t).bind fun i=>(i.methods.find? (·.name==name)).map fun m=>(m.path,m.func))=some (#[],some (f,true)))(ht:P.underlying t=some (.pointer e)):
 (_root_.Go.method (n+1) t (.pointer (some p)) name).run P w=.ok (f,.pointer (some p)) w:=by
 cases hi:P.info? t with
 |none=>simp[hi]at hm
 |some i=>
  simp only[hi,Option.bind_some]at hm
  cases hf:i.methods.find? (·.name==name)with
  |none=>simp[hf]at hm
  |some m=>
   simp only[hf,Option.map_some,Option.some.injEq,Prod.mk.injEq]at hm;obtain⟨hp,hfn⟩:=hm
   simp[_root_.Go.method,run_typeInfo hi,hf,hp,hfn,_root_.Go.follow,_root_.Go.receiverAt,run_underlying ht,_root_.Go.Place.get]
theorem run_wrapNil(ts:Array TypeId)(t:TypeId)(p:Addr)(s m:ByteArray):(Builtin.ssaWrapNilChk_ ts t #[.pointer (some p),.string s,.string m]).run P w=.ok (.pointer (some p)) w:=by rfl
theorem run_methV(n:Nat)(t e:TypeId)(p:Addr)(name:String)(f:FuncId)(v:Value)(d:TypeDesc)
 (hm:((P.info? t).bind fun i=>(i.methods.find? (·.name==name)).map fun m=>(m.path,m.func))=some (#[],some (f,false)))(ht:P.underlying t=some (.pointer e))
 (hu:P.underlying e=some d)(hd:(match d with| .struct _| .array _ _=>true|_=>false)=false)(hc:w.cell? p=some v):
 (_root_.Go.method (n+1) t (.pointer (some p)) name).run P w=.ok (f,v) w:=by
 have hagg:(isAgg e).run P w=.ok false w:=by
  unfold isAgg;rw[Sem.run_bind,run_underlying hu w]
  cases d<;>simp_all
 cases hi:P.info? t with
 |none=>simp[hi]at hm
 |some i=>
  simp only[hi,Option.bind_some]at hm
  cases hf:i.methods.find? (·.name==name)with
  |none=>simp[hf]at hm
  |some m=>
   simp only[hf,Option.map_some,Option.some.injEq,Prod.mk.injEq]at hm;obtain⟨hp,hfn⟩:=hm
   have hl:(loadVar e p).run P w=.ok v w:=by
    unfold loadVar;rw[Sem.run_bind,hagg]
    simp[load,Sem.run,hc]
   simp[_root_.Go.method,run_typeInfo hi,hf,hp,hfn,_root_.Go.follow,_root_.Go.receiverAt,run_underlying ht,_root_.Go.Place.get,run_wrapNil,asAddr,hl,strVal]
theorem run_invoke(x:Operand)(name:String)(xs:List Operand)(ts:Array TypeId)(ho:o.op=.call { callee:=.invoke x name,args:=xs.toArray,argTypes:=ts })(t:TypeId)(v:Value)(hx:a.eval x=.iface t v)(f:FuncId)(r:Value)
 (hm:∀n,(_root_.Go.method (n+1) t v name).run P w=.ok (f,r) w)(hpos:0<P.types.size)(fn:Func)(hf:P.funcs[f]?=some fn)(hb:fn.body.isSome=true)(hn:(fn.name== "runtime.NumGoroutine")=false)(args:List Value)(ha:xs.map a.eval=args):
 (execOp a.eval o).run P w=.ok (.enter f (r::args).toArray) w:=by
 subst ha;have hb':¬fn.body=none:=by intro h;simp[h]at hb
 have hn':¬fn.name= "runtime.NumGoroutine" :=by simpa using hn
 obtain⟨n,hn1⟩:∃n,P.types.size+Made.depth=n+1:=⟨P.types.size+Made.depth-1,by omega⟩;unfold execOp
 simp[ho,resolve,invoke,callMethod,hx,hn1,hm,callFunc,hf,hb',hn']
 exact List.take_of_length_le (by simp)
end
theorem pTypes:0<prog.types.size:=of_decide_eq_true (by kernel_rfl)
theorem meth_Less:((prog.info? 178).bind fun i=>(i.methods.find? (·.name== "Less")).map fun m=>(m.path,m.func))=some (#[],some (345,false)):=by kernel_rfl
theorem meth_Len:((prog.info? 178).bind fun i=>(i.methods.find? (·.name== "Len")).map fun m=>(m.path,m.func))=some (#[],some (105,false)):=by kernel_rfl
theorem meth_Swap:((prog.info? 178).bind fun i=>(i.methods.find? (·.name== "Swap")).map fun m=>(m.path,m.func))=some (#[],some (348,false)):=by kernel_rfl
theorem meth_Push:((prog.info? 178).bind fun i=>(i.methods.find? (·.name== "Push")).map fun m=>(m.path,m.func))=some (#[],some (347,true)):=by kernel_rfl
theorem meth_Pop:((prog.info? 178).bind fun i=>(i.methods.find? (·.name== "Pop")).map fun m=>(m.path,m.func))=some (#[],some (346,true)):=by kernel_rfl
section
variable{α:Type}[Inhabited α]{enc:α->List Value}{e k:Nat}{base:Nat}{w:World}{v:Value}{l:List α}
omit [Inhabited α] in
theorem flat_split(enc:α->List Value)(l:List α)(i:Nat)(hi:i<l.length):l.flatMap enc=(l.take i).flatMap enc++(enc l[i]++(l.drop (i+1)).flatMap enc):=by
 conv=>lhs;rw[<-List.take_append_drop i l,List.drop_eq_getElem_cons hi]
 rw[List.flatMap_append,List.flatMap_cons]
omit [Inhabited α] in
theorem flat_set(enc:α->List Value)(l:List α)(i:Nat)(x:α)(hi:i<l.length):(l.set i x).flatMap enc=(l.take i).flatMap enc++(enc x++(l.drop (i+1)).flatMap enc):=by
 rw[List.set_eq_take_append_cons_drop,if_pos hi,List.flatMap_append,List.flatMap_cons]
theorem Gat.at(h:Gat enc e k base w v l)(hk:∀x,(enc x).length=k)(i:Nat)(hi:i<l.length):∃g cap cur,v=.slice (some ⟨g,0,none⟩) l.length cap/\w.heap[g]?=some (.cells cur e (0,0))/\CellsAt w g (i*k) (enc l[i]).toArray/\i*k+k<=cur.size/\base<=g/\
 ∀(x:α)(w':World),w'.heap[g]?=some (.cells (qZ cur (i*k) (enc x).toArray) e (0,0))->Gat enc e k base w' v (l.set i x):=by
 rcases h.2 with⟨rfl,h0⟩|⟨g,cap,cur,rfl,hb,hg,hc,hm,hcs,ht⟩
 ·omega
 ·have hlen:=len_enc hk l
  have hA:((l.take i).flatMap enc).length=i*k:=by rw[len_enc hk,List.length_take,Nat.min_eq_left (by omega)]
  have hC:((l.drop (i+1)).flatMap enc).length=(l.length-(i+1))*k:=by rw[len_enc hk,List.length_drop]
  have hnk:i*k+k<=l.length*k:=by
   have:(i+1)*k<=l.length*k:=Nat.mul_le_mul_right _ hi
   rwa[Nat.succ_mul]at this
  have hck:l.length*k<=cap*k:=Nat.mul_le_mul_right _ hc;have hcur:cur.toList=l.flatMap enc++cur.toList.drop (l.length*k):=by rw[<-ht,List.take_append_drop]
  have hsp:=flat_split enc l i hi;refine⟨g,cap,cur,rfl,hg,CellsAt.of_obj hg (fun j hj=>?_),by omega,hb,fun x w' hw'=>?_⟩
  ·have hj':j<k:=by simpa[hk]using hj
   have h1:=flat_enc hk l i hi j hj';rw[<-ht,List.getElem?_take_of_lt (by omega)]at h1;rw[Array.getElem?_toList]at h1;rw[h1];simp
  ·have hx:=hk x
   have hrow:(qZ cur (i*k) (enc x).toArray).toList=(l.set i x).flatMap enc++cur.toList.drop (l.length*k):=by
    rw[flat_set enc l i x hi];unfold qZ;simp only[List.size_toArray,hx]
    have h1:cur.toList.take (i*k)=(l.take i).flatMap enc:=by
     conv=>lhs;rw[hcur,hsp]
     rw[List.append_assoc,List.take_append_of_le_length (by omega),List.take_of_length_le (by omega)]
    have h2:cur.toList.drop (i*k+k)=(l.drop (i+1)).flatMap enc++cur.toList.drop (l.length*k):=by
     conv=>lhs;rw[hcur,hsp]
     have e1:((l.take i).flatMap enc++(enc l[i]++(l.drop (i+1)).flatMap enc))++cur.toList.drop (l.length*k)=((l.take i).flatMap enc++enc l[i])++((l.drop (i+1)).flatMap enc++cur.toList.drop (l.length*k)):=by simp
     rw[e1,List.drop_append_of_le_length (by rw[List.length_append,hA,hk];omega),List.drop_of_length_le (by rw[List.length_append,hA,hk];omega),List.nil_append]
    rw[h1,h2]
    simp
   have hl2:((l.set i x).flatMap enc).length=l.length*k:=by rw[len_enc hk,List.length_set]
   refine⟨by rw[hl2,List.length_set],.inr ⟨g,cap,_,by rw[List.length_set],hb,hw',by rw[List.length_set];exact hc,hm,by rw[yC (by simp[hk];omega)];exact hcs,?_⟩⟩
   rw[hrow,List.length_set,List.take_append_of_le_length (by omega),List.take_of_length_le (by omega)]
end
def idE(x:List UInt8):List Value:=if x.length=32 then idL x else List.replicate 32 (byteV 0)
theorem yX(x:List UInt8):(idE x).length=32:=by
 unfold idE
 split
 ·rename_i h;exact idL_len h
 ·simp
theorem xE(x:List UInt8):∀c∈idE x,c.oneCell'=true:=by
 unfold idE
 split
 ·exact idL_one x
 ·intro c hc;rw[List.eq_of_mem_replicate hc];rfl
theorem idE_eq{x:List UInt8}(h:x.length=32):(idE x).toArray=qA x:=by unfold idE;rw[if_pos h];simp[idL]
abbrev GatI(base:Nat)(w:World)(v:Value)(l:List (List UInt8)):Prop:=Gat idE 24 32 base w v l
structure DgI(w:World)(hb base:Nat)(v:Value)(l:List (List UInt8)):Prop where
 box:w.heap[hb]?=some (.cells #[v] 179 (0,0))
 row:GatI base w v l
 ids:∀x∈l,x.length=32
 ne:∀q,v.ownBlock=some q->q≠hb
 few:l.length<=65536
theorem DgI.cell{w:World}{hb base:Nat}{v:Value}{l:List (List UInt8)}(h:DgI w hb base v l):w.cell? ⟨hb,0,none⟩=some v:=by simp[World.cell?,h.box]
theorem DgI.keep{S:Nat->Prop}{w w':World}{hb base:Nat}{v:Value}{l:List (List UInt8)}(h:DgI w hb base v l)(hm:Mod S w w')(h1:¬S hb)(h2:∀q,v.ownBlock=some q->¬S q):DgI w' hb base v l:=
 ⟨hm.obj h1 h.box,h.row.keep hm h2,h.ids,h.ne,h.few⟩
theorem DgI.keep0{w w':World}{hb base:Nat}{v:Value}{l:List (List UInt8)}(h:DgI w hb base v l)(hm:Mod NoB w w'):DgI w' hb base v l:=h.keep hm id (fun _ _=>id)
theorem atD_mem{l:List (List UInt8)}{i:Nat}(hi:i<l.length):atD l i∈l:=by rw[at_lt hi];exact List.getElem_mem _
section
variable{w:World}{hb base:Nat}{v:Value}{l:List (List UInt8)}
theorem DgI.at(h:DgI w hb base v l)(i:Nat)(hi:i<l.length):∃g cap cur,v=.slice (some ⟨g,0,none⟩) l.length cap/\w.heap[g]?=some (.cells cur 24 (0,0))/\CellsAt w g (i*32) (qA (atD l i))/\i*32+32<=cur.size/\base<=g/\(atD l i).length=32/\
 ∀(x:List UInt8)(w':World),x.length=32->w'.heap[g]?=some (.cells (qZ cur (i*32) (qA x)) 24 (0,0))->GatI base w' v (l.set i x):=by
 obtain⟨g,cap,cur,h1,h2,h3,h4,h5,h6⟩:=h.row.at yX i hi;have hm:=h.ids _ (atD_mem hi);rw[at_lt hi]at hm |-
 refine⟨g,cap,cur,h1,h2,?_,h4,h5,hm,fun x w' hx hw=>h6 x w' ?_⟩
 ·rw[<-idE_eq hm];exact h3
 ·rw[idE_eq hx];exact hw
theorem dgLen_any{ad:Option Addr}{n cap:Nat}(w:World):Calls prog 105 #[.slice ad n cap] w (RetE (.int .i64 n) w):=by
 go_enter func105,ntmps105;go_upto_region 1 with(fail);refine wpR [3,3,3] ?_;simp only[stz];refine wpPL ?_;simp only[stz];go_wp2;go_ret;exact⟨rfl,rfl⟩
theorem dgLess_any(h:DgI w hb base v l)(i j:Nat)(hi:i<l.length)(hj:j<l.length):Calls prog 345 #[v,.int .i64 i,.int .i64 j] w (RetM (.bool (decide (atD l i<atD l j))) w):=by
 obtain⟨g,cap,cur,rfl,hg,hci,-,-,hli,-⟩:=h.at i hi;obtain⟨g2,cap2,cur2,he,hg2,hcj,-,-,hlj,-⟩:=h.at j hj
 cases he
 have hneg:=cmpI_neg (atD l i) (atD l j);have hic:=qD (atD l i);have hjc:=qD (atD l j);rw[hli]at hic;rw[hlj]at hjc;generalize atD l i=x at*
 generalize atD l j=y at*;obtain⟨c,hc⟩:∃c,cmpI x y=c:=⟨_,rfl⟩;have hsc:=fun w'=>shaCompare_any x y hli hlj w';rw[hc]at hneg;simp only[hc]at hsc
 have hd:decide (c<0)=decide (x<y):=by rw[decide_eq_decide];exact hneg
 rw[<-hd];clear h hc hd hneg;go_enter func345,ntmps345;go_upto_region 1 with(fail);have hS:Mod NoB w w.drew:=(Mod.refl _ _).drew
 refine wpRZ [3,3,3,0,3,3,3,0,1,3,3] [] (fun w'=>Mod NoB w w') hS ?_;simp only[stz];refine wpPI underlying179 32 hi ?_;simp only[nmz]
 refine wpLA 24 g (i*32) (qA x) (fun w' hS=>hci.keep hS id) underlying24 32 hic ?_;simp only[stz];refine wpPI underlying179 32 hj ?_;simp only[nmz]
 refine wpLA 24 g (j*32) (qA y) (fun w' hS=>hcj.keep hS id) underlying24 32 hjc ?_;simp only[nmz];refine qM rfl (fun K hK=>?_);refine wpC func35 (hsc _) ?_
 rintro e w2 ⟨rfl,hg2⟩;have hS2:=hS.trans0 hg2.mod;refine⟨_,rfl,hK _ _ hS2 ?_⟩;clear hK K;try simp only[nmz]
 refine qG _ _ _ _ _ _ _ _ rfl rfl rfl rfl rfl (decide (c<0)) rfl ?_;simp only[stz];go_wp2;go_ret;exact⟨rfl,hS2⟩
def DgM(w:World)(v:Value)(hb:Nat)(w':World)(v':Value):Prop:=Mod (fun k=>k=hb\/v.ownBlock=some k) w w'/\∀q,v'.ownBlock=some q->v.ownBlock=some q\/w.heap.size<=q
theorem DgM.refl(w:World)(v:Value)(hb:Nat):DgM w v hb w v:=⟨Mod.refl _ _,fun _ h=>.inl h⟩
theorem DgM.trans{w w1 w2:World}{v v1 v2:Value}{hb:Nat}(h:DgM w v hb w1 v1)(k:DgM w1 v1 hb w2 v2):DgM w v hb w2 v2:=
 ⟨h.1.trans k.1 (fun q hq e=>e.elim .inl fun e=>(h.2 q e).elim .inr fun e=>by omega),fun q hq=>(k.2 q hq).elim (h.2 q) fun e=>.inr (Nat.le_trans h.1.size e)⟩
theorem DgM.trans0{w w1 w2:World}{v v1:Value}{hb:Nat}(h:DgM w v hb w1 v1)(k:Mod NoB w1 w2):DgM w v hb w2 v1:=⟨h.1.trans k (fun _ _ h=>h.elim),h.2⟩
def DgTo(w:World)(hb base:Nat)(v:Value)(l':List (List UInt8))(w':World):Prop:=∃v',DgI w' hb base v' l'/\DgM w v hb w' v'
theorem dgSwap_any(h:DgI w hb base v l)(i j:Nat)(hi:i<l.length)(hj:j<l.length):Calls prog 348 #[v,.int .i64 i,.int .i64 j] w (fun e w'=>e=.returned (.tuple #[])/\DgTo w hb base v (swp l i j) w'):=by
 obtain⟨g,cap,cur,rfl,hg,hci,hszi,hbg,hli,hpi⟩:=h.at i hi;obtain⟨g2,cap2,cur2,he,hg2,hcj,hszj,-,hlj,-⟩:=h.at j hj
 cases he
 have H:=hid h;have hic:=qD (atD l i);have hjc:=qD (atD l j);rw[hli]at hic;rw[hlj]at hjc;obtain⟨x,hx⟩:∃x,atD l i=x:=⟨_,rfl⟩
 obtain⟨y,hy⟩:∃y,atD l j=y:=⟨_,rfl⟩;rw[hx]at hci hli hic;rw[hy]at hcj hlj hjc;have HXY:Hid (swp l i j=(l.set i y).set j x):=hid (by unfold swp;rw[hx,hy])
 have HPI:=hid hpi;have hgn:g≠hb:=h.ne g rfl;clear h hpi hx hy hg2;go_enter func348,ntmps348;go_upto_region 0 with(fail);have hS:Mod NoB w w.drew:=(Mod.refl _ _).drew
 refine wpRZ [3,3,3,3,3,3,3,0,3,3,3,0,3,2,3,2] [13,15] (fun w'=>Mod NoB w w') hS ?_;simp only[stz];refine wpPI underlying179 32 hj ?_;simp only[nmz]
 refine wpLA 24 g (j*32) (qA y) (fun w' hS=>hcj.keep hS id) underlying24 32 hjc ?_;simp only[stz];refine wpPI underlying179 32 hi ?_;simp only[nmz]
 refine wpLA 24 g (i*32) (qA x) (fun w' hS=>hci.keep hS id) underlying24 32 hic ?_;simp only[nmz];refine wpPI underlying179 32 hi ?_;simp only[nmz]
 refine zB rfl (fun K hK=>?_)
 refine qF 24 _ _ g (i*32) (qA y) (by rfl) (by rfl) (by rfl) (qR _) 32 (by kernel_rfl) hjc _ _ (hS.obj id hg) (by omega) (fun w3 hB3 hm3=>?_)
 have hm03:Mod (fun k=>k=g) w w3:=(hS.mono (fun _ _ h=>h.elim)).trans hm3 (fun _ _ h=>h);have hrow3:=HPI.out y w3 hlj hB3
 have hD3:DgI w3 hb base (.slice (some ⟨g,0,none⟩) l.length cap) (l.set i y):=⟨hm03.objB (fun e=>hgn e.symm) H.out.box,hrow3,fun q hq=>by
  rcases List.mem_or_eq_of_mem_set hq with hq|hq
  ·exact H.out.ids q hq
  ·rw[hq];exact hlj,H.out.ne,by rw[List.length_set];exact H.out.few⟩
 obtain⟨g4,cap4,cur4,he4,hg4,-,hsz4,-,-,hp4⟩:=hD3.at j (by rw[List.length_set];exact hj);rw[List.length_set]at he4
 cases he4
 refine hK _ _ ?_;clear hK K;try simp only[nmz]
 refine wpPI underlying179 32 hj ?_;simp only[nmz];refine zB rfl (fun K hK=>?_)
 refine qF 24 _ _ g (j*32) (qA x) (by rfl) (by rfl) (by rfl) (qR _) 32 (by kernel_rfl) hic _ _ hg4 (by omega) (fun w5 hB5 hm5=>?_)
 have hrow5:=hp4 x w5 hli hB5
 have HR:Hid (DgTo w hb base (.slice (some ⟨g,0,none⟩) l.length cap) (swp l i j) w5):=hid ⟨_,⟨hm5.objB (fun e=>hgn e.symm) hD3.box,by rw[HXY.out];exact hrow5,fun q hq=>by
  rw[HXY.out]at hq
  rcases List.mem_or_eq_of_mem_set hq with hq|hq
  ·exact hD3.ids q hq
  ·rw[hq];exact hli,H.out.ne,by rw[swp_len];exact H.out.few⟩,(hm03.mono (fun k _ e=>.inr (by have e':k=g:=e;rw[e'];rfl))).trans hm5 (fun k _ e=>.inr (by have e':k=g:=e;rw[e'];rfl)),fun q hq=>.inl hq⟩
 refine hK _ _ ?_;clear hm3 hm5 hB3 hB5 hrow3 hrow5 hp4 hg4 hD3 hm03;clear hK K;simp only[stz];clear hS;go_wp2
 go_end0
 exact⟨rfl,HR.out⟩
end
section
variable{P:Program}{w:World}{o:Oper}{a:Act}
theorem exec_assert(x:Operand)(ti t:TypeId)(v:Value)(ho:o.op=.typeAssert x ti t false)(hx:a.eval x=.iface t v)(hn:(∀ms,P.underlying t≠some (.interface ms))/\(P.underlying t).isSome=true):(execOp a.eval o).run P w=.ok (.value v) w:=by
 unfold execOp;simp only[ho,hx];obtain⟨hn,hs⟩:=hn;obtain⟨d,hd⟩:=Option.isSome_iff_exists.1 hs
 cases d<;>simp[Instr.typeAssert,run_underlying hd]
 exact absurd hd (hn _)
theorem xX(x:Operand)(t:TypeId)(v:Value)(ho:o.op=.makeInterface t x)(hx:a.eval x=v)(hn:(∀ms,P.underlying t≠some (.interface ms))/\(P.underlying t).isSome=true):(execOp a.eval o).run P w=.ok (.value (.iface t v)) w:=by
 subst hx;unfold execOp;simp only[ho];obtain⟨hn,hs⟩:=hn;obtain⟨d,hd⟩:=Option.isSome_iff_exists.1 hs
 cases d<;>simp[Instr.makeInterface,run_underlying hd]
 exact absurd hd (hn _)
end
theorem flat_take{α:Type}{enc:α->List Value}{k:Nat}(hk:∀x,(enc x).length=k):∀(l:List α)(i:Nat),i<=l.length->(l.flatMap enc).take (i*k)=(l.take i).flatMap enc:=by
 intro l
 induction l with
 |nil=>intro i hi;simp
 |cons x l ih=>
  intro i hi
  cases i with
  |zero=>simp
  |succ i=>
   have hi':i<=l.length:=by simpa using hi
   rw[List.flatMap_cons,List.take_succ_cons,List.flatMap_cons,<-ih i hi',Nat.succ_mul,List.take_append,hk,List.take_of_length_le (by rw[hk];omega),show i*k+k-k=i*k by omega]
theorem wp_gatV{α:Type}{P:Program}{o:Oper}{a:Act}{w:World}{K:Act->World->Prop}{Q:Exit->Act->World->Prop}(enc:α->List Value)(s x:Operand)(t e:TypeId)(z:Value)(k bytes:Nat)(ho:o.op=.call { callee:=.builtin .append,args:=#[s,x],argTypes:=#[t,t] })
 (ht:P.underlying t=some (.slice e))(hi:(P.info? e).map (fun i=>(i.zero,i.size,i.bytes))=some (some z,k,bytes))(hzs:z.cells.size=k)(hk0:0<k)(h1:∀x,∀c∈enc x,c.oneCell'=true)
 (base:Nat)(v:Value)(l:List α)(hs:a.eval s=v)(hown:Gat enc e k base w v l)(u:Value)(m:List α)(hx:a.eval x=u)(hsrc:Src w k u m.length (m.flatMap enc))(h63:l.length+m.length<=maxLen)(hlen:(l.length+m.length)*bytes<=140737488355328)(hbase:base<=w.heap.size)
 (h:∀v' w',Gat enc e k base w' v' (l++m)->Mod (fun q=>v.ownBlock=some q) w w'->(v'.ownBlock=v.ownBlock\/v'.ownBlock=some w.heap.size)->K (a.put o.dst v') w'):o.wp P a w K Q:=by
 refine wp_append s x t e z k bytes ho ht hi hzs hk0 base v l.length _ hs hown u m.length _ hx hsrc (fun c hc=>?_) h63 hlen hbase (fun v' w' ho' hg hv=>?_)
 ·obtain⟨y,_,hy⟩:=List.mem_flatMap.1 hc
  exact h1 y c hy
 ·refine h v' w' ?_ ((Mod.refl _ _).grown hg (fun k e _=>e)) hv
  unfold Gat;rw[List.length_append,List.flatMap_append];exact ho'
theorem id_noIface:(∀ms,prog.underlying 24≠some (.interface ms))/\(prog.underlying 24).isSome=true:=⟨fun ms h=>(by rw[underlying24]at h;cases h),by rw[underlying24];rfl⟩
theorem pdg_noIface:(∀ms,prog.underlying 178≠some (.interface ms))/\(prog.underlying 178).isSome=true:=⟨fun ms h=>(by rw[underlying178]at h;cases h),by rw[underlying178];rfl⟩
section
variable{w:World}{hb base:Nat}{v:Value}{l:List (List UInt8)}
theorem dgPush_any(h:DgI w hb base v l)(hbw:base<=w.heap.size)(x:List UInt8)(hx:x.length=32)(hfew:l.length<65536):Calls prog 347 #[.pointer (some ⟨hb,0,none⟩),.iface 24 (.agg (qA x))] w (fun e w'=>e=.returned (.tuple #[])/\DgTo w hb base v (l++[x]) w'):=by
 have H:=hid h;have hbn:=h.ne;have hbs:hb<w.heap.size:=(Array.getElem?_eq_some_iff.1 h.box).1;have hic:(qA x).size=32:=by rw[qD,hx]
 have HE:=hid (idE_eq hx);obtain⟨ad,cap,rfl⟩:=h.row.slice;clear h;go_enter func347,ntmps347;go_upto_region 0 with(fail)
 have hS:Mod (fun k=>(Value.slice ad l.length cap).ownBlock=some k) w w.drew:=(Mod.refl _ _).drew;have HD:=hid (H.out.keep0 (Mod.refl NoB w).drew)
 refine wpRZ [3,3,3,0,3,1,1,1,3,2] [9] (fun w'=>Mod (fun k=>(Value.slice ad l.length cap).ownBlock=some k) w w') hS ?_;simp only[stz]
 refine wpLd 179 hb 0 (fun w' hS=>hS.cell (fun e=>hbn hb e rfl) H.out.cell) underlying179 ?_;simp only[stz]
 refine wpX rfl (exec_assert _ _ 24 (.agg (qA x)) (by rfl) (by rfl) id_noIface) hS ?_;try simp only[nmz]
 refine qM rfl (fun K hK=>?_)
 refine qU 179 24 _ (.agg (qA x)) (.agg (qA (List.replicate 32 0))) 32 (by rfl) (by rfl) underlying179 (by kernel_rfl) (by omega) (by omega) hic (fun w3 hB3 hm3 hs3=>?_)
 have hsrc:=jM (enc:=idE) (e:=24) (x:=x) yX (by rw[HE.out];exact hB3);replace HD:=hid (HD.out.keep0 hm3)
 have hS3:Mod (fun k=>(Value.slice ad l.length cap).ownBlock=some k) w w3:=hS.trans hm3 (fun _ _ h=>h.elim);refine hK _ _ hS3 ?_;clear hK K;try simp only[nmz]
 refine qM rfl (fun K hK=>?_)
 refine wp_gatV idE _ _ 179 24 (.agg (qA (List.replicate 32 0))) 32 32 (by rfl) underlying179 id_i (by kernel_rfl) (by omega) xE base _ l (by rfl) HD.out.row _ [x] (by rfl) hsrc (by unfold maxLen;simp;omega) (by simp;omega) (by have:=hS3.size;omega) (fun v4 w4 hg4 hm4 hvv4=>?_)
 have hS4:Mod (fun k=>(Value.slice ad l.length cap).ownBlock=some k) w w4:=hS3.trans hm4 (fun k _ e=>e);have hbx4:=hm4.obj (b:=hb) (fun e=>hbn hb e rfl) HD.out.box
 have hv1:v4.oneCell'=true:=yF hg4
 have hn4:∀q,v4.ownBlock=some q->q≠hb:=fun q hq=>by
  rcases hvv4 with e|e
  ·rw[e]at hq;exact hbn q hq
  ·rw[e]at hq
   have:=Option.some.inj hq;have:=hS3.size;omega
 refine hK _ _ hS4 ?_;clear hK K;simp only[stz];refine zB rfl (fun K hK=>?_)
 refine qT 179 _ _ hb 0 v4 (by rfl) (by rfl) (by rfl) hv1 (by kernel_rfl) _ _ hbx4 (by simp) (fun w5 hB5 hm5=>?_)
 replace hB5:w5.heap[hb]?=some (.cells #[v4] 179 (0,0)):=hB5
 have HR:Hid (DgTo w hb base (.slice ad l.length cap) (l++[x]) w5):=hid ⟨v4,⟨hB5,hg4.keep hm5 (fun q hq e=>hn4 q hq e),fun q hq=>by
  rcases List.mem_append.1 hq with hq|hq
  ·exact H.out.ids q hq
  ·simp at hq;rw[hq];exact hx,hn4,by simp;omega⟩,(hS4.mono (fun _ _ h=>.inr h)).trans hm5 (fun _ _ h=>.inl h),fun q hq=>by
  rcases hvv4 with e|e
  ·rw[e]at hq;exact .inl hq
  ·rw[e]at hq
   have:=Option.some.inj hq;have:=hS3.size
   exact .inr (by omega)⟩
 clear hS hS3 hS4 hm4 hm5 hB3 hm3 hB5 hg4 hbx4 hsrc HD;refine hK _ _ ?_;clear hK K;simp only[stz];go_wp2
 go_end0
 exact⟨rfl,HR.out⟩
def PopR(w:World)(hb base:Nat)(v:Value)(l:List (List UInt8)):Ending->World->Prop:=fun e w'=>e=.returned (.iface 24 (.agg (qA (atD l (l.length-1)))))/\DgTo w hb base v l.dropLast w'
theorem dgPop_any(h:DgI w hb base v l)(hbw:base<=w.heap.size)(hne:0<l.length):Calls prog 346 #[.pointer (some ⟨hb,0,none⟩)] w (PopR w hb base v l):=by
 have H:=hid h;have hbl:=h.ne;have hbhw:hb<w.heap.size:=(Array.getElem?_eq_some_iff.1 h.box).1;have hfew:=h.few
 obtain⟨g,cap,cur,rfl,hg,hci,hszi,hbg,hli,-⟩:=h.at (l.length-1) (by omega);have hrow:=h.row;have hto:=owns_to hrow (i:=l.length-1) (by omega)
 have hcap:l.length<=cap:=by
  rcases hrow.2 with⟨h1,h2⟩|⟨g',cap',cur',h1,h2,h3,h4,h5⟩
  ·omega
  ·cases h1;exact h4
 have hd:l.dropLast=l.take (l.length-1):=List.dropLast_eq_take;have hft:=flat_take yX l (l.length-1) (by omega)
 have hlt:(l.take (l.length-1)).length=l.length-1:=by rw[List.length_take];omega
 unfold PopR;obtain⟨x,hx⟩:∃x,atD l (l.length-1)=x:=⟨_,rfl⟩;have hic:=qD (atD l (l.length-1));rw[hli]at hic;rw[hx]at hic hci hli |-
 obtain⟨n1,hn1⟩:∃n,l.length-1=n:=⟨_,rfl⟩;rw[hn1]at hto hft hlt hci hszi hd;obtain⟨sv,hsv⟩:∃q,sliced (some ⟨g,0,none⟩) 0 n1 cap 32=q:=⟨_,rfl⟩
 have HSV:=hid hsv;rw[hsv]at hto;have HTO:=hid hto;have hs1:sv.oneCell'=true:=by rw[<-hsv];rfl
 have HD:=hid hd;have HFT:=hid hft;have HLT:=hid hlt;clear h hrow hto hsv hd hft hlt hx;go_enter func346,ntmps346;go_upto_region 1 with(fail)
 have hS:Mod NoB w w.drew:=(Mod.refl _ _).drew;refine wpRZ [3,3,0,3,3,0,3,3,3,0,1,2] [11] (fun w'=>Mod NoB w w') hS ?_;simp only[stz]
 refine wpLd 179 hb 0 (fun w' hS=>hS.cell id H.out.cell) underlying179 ?_;simp only[stz];refine wpLd 179 hb 0 (fun w' hS=>hS.cell id H.out.cell) underlying179 ?_
 simp only[nmz];refine wpPL ?_;simp only[nmz];refine zR _ _ _ _ ((l.length:Nat):Int) 1 (n1:Int) rfl rfl rfl rfl (by omega) (by omega) (by omega) ?_;simp only[nmz]
 refine wpPi_index _ _ _ _ _ _ _ _ _ rfl rfl rfl rfl underlying179 (n:=32) (by kernel_rfl) (by omega) ?_;simp only[nmz]
 refine wpLA 24 g (n1*32) (qA x) (fun w' hS=>hci.keep hS id) underlying24 32 hic ?_;simp only[nmz];refine qM rfl (fun K hK=>?_)
 refine qP 24 _ (by rfl) idZ (fun w3 hB3 hm3 hs3=>?_);replace hB3:w3.heap[w.drew.heap.size]?=some (.cells (qA (List.replicate 32 0)) 24 (0,0)):=hB3
 have hS3:=hS.trans0 hm3;refine hK _ _ hS3 ?_;clear hK K;try simp only[nmz]
 refine zB rfl (fun K hK=>?_)
 refine qF 24 _ _ w.drew.heap.size 0 (qA x) (by rfl) (by rfl) (by rfl) (qR _) 32 (by kernel_rfl) hic _ _ hB3 (by rw[hic,qD];simp) (fun w4 hB4 hm4=>?_)
 rw[qC (by rw[hic,qD];simp)]at hB4;have hS4:Mod NoB w w4:=hS3.transB hm4 hS.size;refine hK _ _ ?_;clear hK K;simp only[stz]
 have hwd:w.heap.size<=w.drew.heap.size:=hS.size;generalize hb3:w.drew.heap.size=b3 at*;have H4:=hid (H.out.keep0 hS4);have HM4:=hid hS4
 clear hS hS3 hS4 hm3 hm4 hB3 hci hg;go_upto_region 2 with(fail);have hS:Mod NoB w4 w4.drew:=(Mod.refl _ _).drew
 refine wpRZ [3,3,3,0,3,3,0,3,3,3,3,2] [11] (fun w'=>Mod NoB w4 w') hS ?_;simp only[stz];refine wpLd 179 hb 0 (fun w' hS=>hS.cell id H4.out.cell) underlying179 ?_
 simp only[stz];refine wpLd 179 hb 0 (fun w' hS=>hS.cell id H4.out.cell) underlying179 ?_;simp only[nmz];refine wpPL ?_;simp only[nmz]
 refine zR _ _ _ _ ((l.length:Nat):Int) 1 (n1:Int) rfl rfl rfl rfl (by omega) (by omega) (by omega) ?_;simp only[nmz]
 refine yK 179 24 _ _ _ _ _ n1 32 rfl rfl rfl rfl underlying179 (by kernel_rfl) (by omega) ?_;simp only[stz];refine zB rfl (fun K hK=>?_);rw[HSV.out]
 refine qT 179 _ _ hb 0 sv (by rfl) (by rfl) (by rfl) hs1 (by kernel_rfl) _ _ (hS.obj id H4.out.box) (by simp) (fun w5 hB5 hm5=>?_)
 replace hB5:w5.heap[hb]?=some (.cells #[sv] 179 (0,0)):=hB5
 have hM5:Mod (fun k=>k=hb) w w5:=((HM4.out.trans0 hS).mono (fun _ _ h=>h.elim)).trans hm5 (fun _ _ h=>h)
 have hrow5:GatI base w5 sv (l.take n1):=by
  have h1:=HTO.out.1
  have h2:GatI base w sv (l.take n1):=by
   unfold GatI Gat;rw[HLT.out,<-HFT.out];exact h1
  exact h2.keep hM5 (fun q hq e=>hbl q (by rw[<-HTO.out.2];exact hq) e)
 have HR:Hid (DgTo w hb base (.slice (some ⟨g,0,none⟩) l.length cap) l.dropLast w5):=hid ⟨sv,⟨hB5,by rw[HD.out];exact hrow5,fun q hq=>by
  rw[HD.out]at hq
  exact H.out.ids q (List.mem_of_mem_take hq),fun q hq=>hbl q (by rw[<-HTO.out.2];exact hq),by rw[HD.out,HLT.out];omega⟩,hM5.mono (fun _ _ h=>.inl h),fun q hq=>.inl (by rw[<-HTO.out.2];exact hq)⟩
 have hB45:=hm5.objB (b:=b3) (by omega) (hS.obj id hB4);refine hK _ _ ?_;clear hK K;simp only[stz];clear hS hm5 hB5 hM5 hrow5 hB4;go_upto_region 3 with(fail)
 refine wpR [1,1,3] ?_;simp only[stz];refine wpXA 24 b3 0 (qA x) (CellsAt.whole hB45) underlying24 32 hic trivial ?_;try simp only[nmz]
 refine wpX rfl (xX _ 24 (.agg (qA x)) (by rfl) (by rfl) id_noIface) trivial ?_;simp only[stz];clear hB45;go_wp2;go_ret;exact⟨rfl,HR.out⟩
end
section
variable{P:Program}{w:World}{o:Oper}{a:Act}
theorem exec_quo2(t:TypeId)(x y:Operand)(yt:TypeId)(m d:Int)(ho:o.op=.binOp .quo t x y yt)(hx:a.eval x=.int .i64 m)(hy:a.eval y=.int .i64 2)(hd:Int.tdiv m 2=d)(h1:-9223372036854775808<=d)(h2:d<=9223372036854775807):(execOp a.eval o).run P w=.ok (.value (.int .i64 d)) w:=by
 subst hd;have hw:=wrap_in h1 h2;unfold execOp
 simp[ho,hx,hy,eqGuard,binOp,Op.intArith,Op.intDiv,hw]
end
section
variable{w:World}{hb base:Nat}{v:Value}{l:List (List UInt8)}{o:Oper}{a:Act}
theorem inv_Less(h:DgI w hb base v l)(x y z:Operand)(ts:Array TypeId)(i j:Nat)(ho:o.op=.call { callee:=.invoke x "Less",args:=#[y,z],argTypes:=ts })(hx:a.eval x=.iface 178 (.pointer (some ⟨hb,0,none⟩)))(hy:a.eval y=.int .i64 i)(hz:a.eval z=.int .i64 j):
 (execOp a.eval o).run prog w=.ok (.enter 345 #[v,.int .i64 i,.int .i64 j]) w:=
 run_invoke x "Less" [y,z] ts ho _ _ hx 345 v (fun n=>run_methV n 178 179 _ "Less" 345 v _ meth_Less underlying178 underlying179 rfl h.cell) pTypes _ func345 rfl (by kernel_rfl) [.int .i64 i,.int .i64 j] (by simp[hy,hz])
theorem inv_Swap(h:DgI w hb base v l)(x y z:Operand)(ts:Array TypeId)(i j:Nat)(ho:o.op=.call { callee:=.invoke x "Swap",args:=#[y,z],argTypes:=ts })(hx:a.eval x=.iface 178 (.pointer (some ⟨hb,0,none⟩)))(hy:a.eval y=.int .i64 i)(hz:a.eval z=.int .i64 j):
 (execOp a.eval o).run prog w=.ok (.enter 348 #[v,.int .i64 i,.int .i64 j]) w:=
 run_invoke x "Swap" [y,z] ts ho _ _ hx 348 v (fun n=>run_methV n 178 179 _ "Swap" 348 v _ meth_Swap underlying178 underlying179 rfl h.cell) pTypes _ func348 rfl (by kernel_rfl) [.int .i64 i,.int .i64 j] (by simp[hy,hz])
theorem inv_Len(h:DgI w hb base v l)(x:Operand)(ts:Array TypeId)(ho:o.op=.call { callee:=.invoke x "Len",args:=#[],argTypes:=ts })(hx:a.eval x=.iface 178 (.pointer (some ⟨hb,0,none⟩))):
 (execOp a.eval o).run prog w=.ok (.enter 105 #[v]) w:=
 run_invoke x "Len" [] ts ho _ _ hx 105 v (fun n=>run_methV n 178 179 _ "Len" 105 v _ meth_Len underlying178 underlying179 rfl h.cell) pTypes _ func105 rfl (by kernel_rfl) [] rfl
theorem inv_Push(u:Value)(x y:Operand)(ts:Array TypeId)(ho:o.op=.call { callee:=.invoke x "Push",args:=#[y],argTypes:=ts })(hx:a.eval x=.iface 178 (.pointer (some ⟨hb,0,none⟩)))(hy:a.eval y=u):
 (execOp a.eval o).run prog w=.ok (.enter 347 #[.pointer (some ⟨hb,0,none⟩),u]) w:=
 run_invoke x "Push" [y] ts ho _ _ hx 347 _ (fun n=>run_methP n 178 179 _ "Push" 347 meth_Push underlying178) pTypes _ func347 rfl (by kernel_rfl) [u] (by simp[hy])
theorem inv_Pop(x:Operand)(ts:Array TypeId)(ho:o.op=.call { callee:=.invoke x "Pop",args:=#[],argTypes:=ts })(hx:a.eval x=.iface 178 (.pointer (some ⟨hb,0,none⟩))):
 (execOp a.eval o).run prog w=.ok (.enter 346 #[.pointer (some ⟨hb,0,none⟩)]) w:=
 run_invoke x "Pop" [] ts ho _ _ hx 346 _ (fun n=>run_methP n 178 179 _ "Pop" 346 meth_Pop underlying178) pTypes _ func346 rfl (by kernel_rfl) [] rfl
theorem dgLen_of(h:DgI w hb base v l):Calls prog 105 #[v] w (RetE (.int .i64 l.length) w):=by
 obtain⟨ad,cap,rfl⟩:=h.row.slice;exact dgLen_any w
def HeapTo(w:World)(hb base:Nat)(v:Value)(l:List (List UInt8))(w':World):Prop:=∃l',l'.Perm l/\Heap leB l' l'.length/\DgTo w hb base v l' w'
def UpRel(w0:World)(hb base:Nat)(v0:Value)(l:List (List UInt8))(i:Value)(w:World):Prop:=∃(j:Nat)(l':List (List UInt8))(v:Value),i=.int .i64 j/\j<l.length/\l'.Perm l/\UpI leB l' l'.length j/\DgI w hb base v l'/\DgM w0 v0 hb w v
theorem heapUp_any(h:DgI w hb base v l)(j:Nat)(hj:j<l.length)(hu:UpI leB l l.length j):Calls prog 185 #[.iface 178 (.pointer (some ⟨hb,0,none⟩)),.int .i64 j] w (fun e w'=>e=.returned (.tuple #[])/\HeapTo w hb base v l w'):=by
 have hfew:=h.few;have H0:Hid (UpRel w hb base v l (.int .i64 j) w):=hid ⟨j,l,v,rfl,hj,.refl _,hu,h,DgM.refl _ _ _⟩;obtain⟨n,hn⟩:∃n,l.length=n:=⟨_,rfl⟩
 have HN:=hid hn;clear h hu;go_enter func185,ntmps185;go_wp2
 go_loopw [1] (UpRel w hb base v l) (fun i _=>(intOf i).toNat)
 case atStart=>exact H0.out
 case round=>
  rename World=>wr
  obtain⟨j,l',v',rfl,hj,hp,hu,hd,hm⟩:=hrel;have hlen:=hp.length_eq;have HU:=hid hu;have HD:=hid hd;have HP:=hid hp
  by_cases h0:j=0
  ·subst h0
   go_upto_region 0 with(fail);refine wpR [3,3,1,3] ?_;simp only[stz];refine xB _ _ _ _ ((0:Nat):Int) 1 rfl rfl rfl rfl (by omega) (by omega) ?_;simp only[nmz]
   refine wpX rfl (exec_quo2 _ _ _ _ (((0:Nat):Int)-1) 0 (by rfl) (by rfl) (by rfl) (by decide) (by omega) (by omega)) trivial ?_;simp only[stz];go_upto_region 1 with(fail)
   refine wpR [3,3,3,3,3,3,3,1,3,3] ?_;simp only[stz];refine qG _ _ _ _ _ _ _ _ rfl rfl rfl rfl rfl true (by decide) ?_;simp only[stz]
   refine xF rfl trivial ?_;simp only[stz];have HT:Hid (HeapTo w hb base v l wr):=hid ⟨l',HP.out,HU.out.done (.inl rfl),v',HD.out,hm⟩;clear hu hd hp;go_wp2
   go_end0
   exact⟨rfl,HT.out⟩
  ·have hjp:=par_lt (i:=j) (by omega)
   obtain⟨q,hq⟩:∃q,par j=q:=⟨_,rfl⟩;have hqj:q<j:=by omega
   have hz:¬(q:Int)=(j:Int):=by omega
   have htd:Int.tdiv ((j:Int)-1) 2=(q:Int):=by
    rw[show(j:Int)-1=((j-1:Nat):Int) by omega];rw[<-hq];unfold par;rw[Int.tdiv_eq_ediv_of_nonneg (by omega)]
    simp
   have hls:=dgLess_any hd j q (by omega) (by omega);have HQ:=hid hq;clear hu hp hq;go_upto_region 0 with(fail);refine wpR [3,3,1,3] ?_;simp only[stz]
   refine xB _ _ _ _ (j:Int) 1 rfl rfl rfl rfl (by omega) (by omega) ?_;simp only[nmz]
   refine wpX rfl (exec_quo2 _ _ _ _ ((j:Int)-1) q (by rfl) (by rfl) (by rfl) htd (by omega) (by omega)) trivial ?_;simp only[stz];clear htd
   by_cases hless:atD l' j<atD l' q
   ·have hlt:decide (atD l' j<atD l' q)=true:=decide_eq_true hless
    rw[hlt]at hls;go_upto_region 1 with(fail);refine wpR [3,3,3,3,3,3,3,1,3,3] ?_;simp only[stz]
    refine qG _ _ _ _ _ _ _ _ rfl rfl rfl rfl rfl false (decide_eq_false hz) ?_;simp only[stz]
    refine wpD (zQ (inv_Less HD.out _ _ _ _ j q (by rfl) (by rfl) (by rfl) (by rfl)) hls ?_);rintro e w2 ⟨rfl,hm2⟩;refine⟨_,rfl,?_⟩;try simp only[stz]
    try refine zH _ _ _ rfl rfl rfl ?_
    try simp only[stz]
    have HD2:=hid (HD.out.keep0 hm2);have hsw:=dgSwap_any HD2.out q j (by omega) (by omega);go_upto_region 2 with(fail);refine wpR [3,3,3,1] ?_;simp only[stz]
    refine wpD (zQ (inv_Swap HD2.out _ _ _ _ q j (by rfl) (by rfl) (by rfl) (by rfl)) hsw ?_);rintro e w3 ⟨rfl,v3,hd3,hm3⟩;have HD3:=hid hd3
    have hM3:DgM w v hb w3 v3:=(hm.trans0 hm2).trans hm3;refine⟨_,rfl,?_⟩;simp only[stz]
    have HR:Hid (UpRel w hb base v l (.int .i64 q) w3):=hid ⟨q,swp l' q j,v3,rfl,by omega,(swp_perm (by omega) (by omega)).trans HP.out,by
     rw[swp_len,<-HQ.out]
     exact UpI.step (le:=leB) leB_trans HU.out (Nat.le_refl _) (by omega) (by omega) (by rw[HQ.out];exact leB_of_lt hless),HD3.out,hM3⟩
    clear hd hd3 hm hm2 hm3 hM3 hls hsw hless hlt;go_wp2
    go_roundw
    case rel=>exact HR.out
    case measure=>simp[intOf];omega
   ·have hlt:decide (atD l' j<atD l' q)=false:=decide_eq_false hless
    rw[hlt]at hls;go_upto_region 1 with(fail);refine wpR [3,3,3,3,3,3,3,1,3,3] ?_;simp only[stz]
    refine qG _ _ _ _ _ _ _ _ rfl rfl rfl rfl rfl false (decide_eq_false hz) ?_;simp only[stz]
    refine wpD (zQ (inv_Less HD.out _ _ _ _ j q (by rfl) (by rfl) (by rfl) (by rfl)) hls ?_);rintro e w2 ⟨rfl,hm2⟩;refine⟨_,rfl,?_⟩;try simp only[stz]
    try refine zH _ _ _ rfl rfl rfl ?_
    try simp only[stz]
    have HT:Hid (HeapTo w hb base v l w2):=hid ⟨l',HP.out,HU.out.done (.inr (by rw[HQ.out];exact hless)),v',HD.out.keep0 hm2,hm.trans0 hm2⟩
    clear hd hm hm2 hls hless hlt;go_wp2
    go_end0
    exact⟨rfl,HT.out⟩
def IsB(e:Ending):Prop:=∃b:Bool,e=.returned (.bool b)
def DownTo(w:World)(hb base:Nat)(v:Value)(l:List (List UInt8))(n:Nat)(w':World):Prop:=∃l',l'.Perm l/\Heap leB l' n/\(∀k,n<=k->atD l' k=atD l k)/\DgTo w hb base v l' w'
def DownRel(w0:World)(hb base:Nat)(v0:Value)(l:List (List UInt8))(n:Nat)(i:Value)(w:World):Prop:=∃(j:Nat)(l':List (List UInt8))(v:Value),i=.int .i64 j/\j<=n/\(n=0\/j<n)/\l'.Perm l/\DownI leB l' n j/\(∀k,n<=k->atD l' k=atD l k)/\DgI w hb base v l'/\DgM w0 v0 hb w v
theorem heapDown_any(h:DgI w hb base v l)(n:Nat)(hn:n<l.length)(hu:DownI leB l n 0):Calls prog 186 #[.iface 178 (.pointer (some ⟨hb,0,none⟩)),.int .i64 (0:Nat),.int .i64 n] w (fun e w'=>IsB e/\DownTo w hb base v l n w'):=by
 have hfew:=h.few;have H0:Hid (DownRel w hb base v l n (.int .i64 (0:Nat)) w):=hid ⟨0,l,v,rfl,by omega,by omega,.refl _,hu,fun _ _=>rfl,h,DgM.refl _ _ _⟩
 clear h hu;go_enter func186,ntmps186;go_upto_region 1 with(fail);go_wp2
 go_loopw [7] (DownRel w hb base v l n) (fun i _=>n-(intOf i).toNat)
 case atStart=>exact H0.out
 case round=>
  rename World=>wr
  obtain⟨j,l',v',rfl,hjn,hjn2,hp,hu,hfx,hd,hm⟩:=hrel;have hlen:=hp.length_eq;have HU:=hid hu;have HD:=hid hd;have HP:=hid hp;have HF:=hid hfx
  have hj1:(2:Int)*(j:Int)=((2*j:Nat):Int):=by omega
  clear hu hp hfx hd;go_upto_region 2 with(fail);refine wpR [3,3,3,3] ?_;simp only[stz]
  refine xG _ _ _ _ 2 (j:Int) ((2*j:Nat):Int) rfl rfl rfl rfl hj1 (by omega) (by omega) ?_;simp only[nmz]
  refine qY _ _ _ _ ((2*j:Nat):Int) 1 ((2*j+1:Nat):Int) rfl rfl rfl rfl (by omega) (by omega) (by omega) ?_;simp only[stz];clear hj1
  by_cases hleaf:n<=2*j+1
  ·have hz:((2*j+1:Nat):Int)>=(n:Int):=by omega
   go_upto_region 3 with(fail);refine wpR [3,3,3,3,3,3,3] ?_;simp only[stz];refine qG _ _ _ _ _ _ _ _ rfl rfl rfl rfl rfl true (decide_eq_true (by omega)) ?_
   simp only[stz];have HT:Hid (DownTo w hb base v l n wr):=hid ⟨l',HP.out,HU.out.leaf hleaf,HF.out,v',HD.out,hm⟩;clear hm;go_wp2;go_ret;exact⟨⟨_,rfl⟩,HT.out⟩
  ·have hz:¬((2*j+1:Nat):Int)>=(n:Int):=by omega
   go_upto_region 3 with(fail);refine wpR [3,3,3,3,3,3,3] ?_;simp only[stz];refine qG _ _ _ _ _ _ _ _ rfl rfl rfl rfl rfl false (decide_eq_false (by omega)) ?_
   simp only[stz];refine qG _ _ _ _ _ _ _ _ rfl rfl rfl rfl rfl false (by simp only[cmpB,decide_eq_false_iff_not];omega) ?_;simp only[stz];go_upto_region 5 with(fail)
   refine wpR [3,3,3] ?_;simp only[stz];refine qY _ _ _ _ ((2*j+1:Nat):Int) 1 ((2*j+2:Nat):Int) rfl rfl rfl rfl (by omega) (by omega) (by omega) ?_
   simp only[stz]
   by_cases hj2:2*j+2<n
   ·have hz2:((2*j+2:Nat):Int)<(n:Int):=by omega
    have hls:=dgLess_any HD.out (2*j+2) (2*j+1) (by omega) (by omega)
    by_cases hless:atD l' (2*j+2)<atD l' (2*j+1)
    ·have hlt:decide (atD l' (2*j+2)<atD l' (2*j+1))=true:=decide_eq_true hless
     rw[hlt]at hls;go_upto_region 6 with(fail);refine wpR [3,3,3,3,3,3,3,1,3] ?_;simp only[stz]
     refine qG _ _ _ _ _ _ _ _ rfl rfl rfl rfl rfl true (decide_eq_true hz2) ?_;simp only[stz]
     refine wpD (zQ (inv_Less HD.out _ _ _ _ (2*j+2) (2*j+1) (by rfl) (by rfl) (by rfl) (by rfl)) hls ?_);rintro e w2 ⟨rfl,hm2⟩
     have hmm2:DgM w v hb w2 v':=hm.trans0 hm2;refine⟨_,rfl,?_⟩;simp only[stz]
     have HC:Hid (∀k,0<k->k<n->par k=j->leB (atD l' (2*j+2)) (atD l' k)):=hid (fun k h0 hk hpk=>by
      rcases par_of hpk h0 with rfl|rfl
      ·exact leB_of_lt hless
      ·exact leB_refl _)
     have HDw2:=hid (HD.out.keep0 hm2);have hls2:=dgLess_any HDw2.out (2*j+2) j (by omega) (by omega)
     by_cases hless2:atD l' (2*j+2)<atD l' j
     ·have hlt2:decide (atD l' (2*j+2)<atD l' j)=true:=decide_eq_true hless2
      rw[hlt2]at hls2;go_upto_region 8 with(fail);refine wpR [3,3,3,1,3] ?_;simp only[stz]
      refine wpD (zQ (inv_Less HDw2.out _ _ _ _ (2*j+2) j (by rfl) (by rfl) (by rfl) (by rfl)) hls2 ?_);rintro e w4 ⟨rfl,hm4⟩;refine⟨_,rfl,?_⟩;try simp only[stz]
      try refine zH _ _ true (by rfl) (by rfl) (by rfl) ?_
      try simp only[stz]
      have HD4:=hid (HDw2.out.keep0 hm4);have hsw:=dgSwap_any HD4.out j (2*j+2) (by omega) (by omega);go_upto_region 9 with(fail);refine wpR [3,3,3,1] ?_
      simp only[stz];refine wpD (zQ (inv_Swap HD4.out _ _ _ _ j (2*j+2) (by rfl) (by rfl) (by rfl) (by rfl)) hsw ?_);rintro e w5 ⟨rfl,v5,hd5,hm5⟩
      have HD5:=hid hd5;have hM5:DgM w v hb w5 v5:=(hmm2.trans0 hm4).trans hm5;refine⟨_,rfl,?_⟩;simp only[stz]
      have HR:Hid (DownRel w hb base v l n (.int .i64 ((2*j+2:Nat):Int)) w5):=hid ⟨2*j+2,swp l' j (2*j+2),v5,rfl,by omega,by omega,(swp_perm (by omega) (by omega)).trans HP.out,HU.out.step (by omega) (by omega) (by omega) (by unfold par;omega) (leB_of_lt hless2) HC.out,fun k hk=>by
       rw[swp_at (by omega) (by omega),if_neg (by omega),if_neg (by omega)]
       exact HF.out k hk,HD5.out,hM5⟩
      clear hd5 hm4 hm5 hM5 hls2 hsw hless2 hlt2;go_wp2
      go_roundw
      case rel=>exact HR.out
      case measure=>simp[intOf];omega
     ·have hlt2:decide (atD l' (2*j+2)<atD l' j)=false:=decide_eq_false hless2
      rw[hlt2]at hls2;go_upto_region 8 with(fail);refine wpR [3,3,3,1,3] ?_;simp only[stz]
      refine wpD (zQ (inv_Less HDw2.out _ _ _ _ (2*j+2) j (by rfl) (by rfl) (by rfl) (by rfl)) hls2 ?_);rintro e w4 ⟨rfl,hm4⟩;refine⟨_,rfl,?_⟩;try simp only[stz]
      try refine zH _ _ false (by rfl) (by rfl) (by rfl) ?_
      try simp only[stz]
      have HT:Hid (DownTo w hb base v l n w4):=hid ⟨l',HP.out,DownI.stop (le:=leB) leB_trans HU.out (show leB (atD l' j) (atD l' (2*j+2))from hless2) HC.out,HF.out,v',HDw2.out.keep0 hm4,hmm2.trans0 hm4⟩
      clear hm4 hls2 hless2 hlt2;go_wp2;go_ret;exact⟨⟨_,rfl⟩,HT.out⟩
    ·have hlt:decide (atD l' (2*j+2)<atD l' (2*j+1))=false:=decide_eq_false hless
     rw[hlt]at hls;go_upto_region 6 with(fail);refine wpR [3,3,3,3,3,3,3,1,3] ?_;simp only[stz]
     refine qG _ _ _ _ _ _ _ _ rfl rfl rfl rfl rfl true (decide_eq_true hz2) ?_;simp only[stz]
     refine wpD (zQ (inv_Less HD.out _ _ _ _ (2*j+2) (2*j+1) (by rfl) (by rfl) (by rfl) (by rfl)) hls ?_);rintro e w2 ⟨rfl,hm2⟩
     have hmm2:DgM w v hb w2 v':=hm.trans0 hm2;refine⟨_,rfl,?_⟩;simp only[stz]
     have HC:Hid (∀k,0<k->k<n->par k=j->leB (atD l' (2*j+1)) (atD l' k)):=hid (fun k h0 hk hpk=>by
      rcases par_of hpk h0 with rfl|rfl
      ·exact leB_refl _
      ·exact hless)
     have HDw2:=hid (HD.out.keep0 hm2);have hls2:=dgLess_any HDw2.out (2*j+1) j (by omega) (by omega)
     by_cases hless2:atD l' (2*j+1)<atD l' j
     ·have hlt2:decide (atD l' (2*j+1)<atD l' j)=true:=decide_eq_true hless2
      rw[hlt2]at hls2;go_upto_region 8 with(fail);refine wpR [3,3,3,1,3] ?_;simp only[stz]
      refine wpD (zQ (inv_Less HDw2.out _ _ _ _ (2*j+1) j (by rfl) (by rfl) (by rfl) (by rfl)) hls2 ?_);rintro e w4 ⟨rfl,hm4⟩;refine⟨_,rfl,?_⟩;try simp only[stz]
      try refine zH _ _ true (by rfl) (by rfl) (by rfl) ?_
      try simp only[stz]
      have HD4:=hid (HDw2.out.keep0 hm4);have hsw:=dgSwap_any HD4.out j (2*j+1) (by omega) (by omega);go_upto_region 9 with(fail);refine wpR [3,3,3,1] ?_
      simp only[stz];refine wpD (zQ (inv_Swap HD4.out _ _ _ _ j (2*j+1) (by rfl) (by rfl) (by rfl) (by rfl)) hsw ?_);rintro e w5 ⟨rfl,v5,hd5,hm5⟩
      have HD5:=hid hd5;have hM5:DgM w v hb w5 v5:=(hmm2.trans0 hm4).trans hm5;refine⟨_,rfl,?_⟩;simp only[stz]
      have HR:Hid (DownRel w hb base v l n (.int .i64 ((2*j+1:Nat):Int)) w5):=hid ⟨2*j+1,swp l' j (2*j+1),v5,rfl,by omega,by omega,(swp_perm (by omega) (by omega)).trans HP.out,HU.out.step (by omega) (by omega) (by omega) (by unfold par;omega) (leB_of_lt hless2) HC.out,fun k hk=>by
       rw[swp_at (by omega) (by omega),if_neg (by omega),if_neg (by omega)]
       exact HF.out k hk,HD5.out,hM5⟩
      clear hd5 hm4 hm5 hM5 hls2 hsw hless2 hlt2;go_wp2
      go_roundw
      case rel=>exact HR.out
      case measure=>simp[intOf];omega
     ·have hlt2:decide (atD l' (2*j+1)<atD l' j)=false:=decide_eq_false hless2
      rw[hlt2]at hls2;go_upto_region 8 with(fail);refine wpR [3,3,3,1,3] ?_;simp only[stz]
      refine wpD (zQ (inv_Less HDw2.out _ _ _ _ (2*j+1) j (by rfl) (by rfl) (by rfl) (by rfl)) hls2 ?_);rintro e w4 ⟨rfl,hm4⟩;refine⟨_,rfl,?_⟩;try simp only[stz]
      try refine zH _ _ false (by rfl) (by rfl) (by rfl) ?_
      try simp only[stz]
      have HT:Hid (DownTo w hb base v l n w4):=hid ⟨l',HP.out,DownI.stop (le:=leB) leB_trans HU.out (show leB (atD l' j) (atD l' (2*j+1))from hless2) HC.out,HF.out,v',HDw2.out.keep0 hm4,hmm2.trans0 hm4⟩
      clear hm4 hls2 hless2 hlt2;go_wp2;go_ret;exact⟨⟨_,rfl⟩,HT.out⟩
   ·have hz2:¬((2*j+2:Nat):Int)<(n:Int):=by omega
    go_upto_region 6 with(fail);refine wpR [3,3,3,3,3,3,3,1,3] ?_;simp only[stz];refine qG _ _ _ _ _ _ _ _ rfl rfl rfl rfl rfl false (decide_eq_false hz2) ?_
    simp only[stz];refine xF rfl trivial ?_;simp only[stz]
    have HC:Hid (∀k,0<k->k<n->par k=j->leB (atD l' (2*j+1)) (atD l' k)):=hid (fun k h0 hk hpk=>by
     rcases par_of hpk h0 with rfl|rfl
     ·exact leB_refl _
     ·omega)
    have HDwr:=hid (HD.out);have hls2:=dgLess_any HDwr.out (2*j+1) j (by omega) (by omega)
    by_cases hless2:atD l' (2*j+1)<atD l' j
    ·have hlt2:decide (atD l' (2*j+1)<atD l' j)=true:=decide_eq_true hless2
     rw[hlt2]at hls2;go_upto_region 8 with(fail);refine wpR [3,3,3,1,3] ?_;simp only[stz]
     refine wpD (zQ (inv_Less HDwr.out _ _ _ _ (2*j+1) j (by rfl) (by rfl) (by rfl) (by rfl)) hls2 ?_);rintro e w4 ⟨rfl,hm4⟩;refine⟨_,rfl,?_⟩;try simp only[stz]
     try refine zH _ _ true (by rfl) (by rfl) (by rfl) ?_
     try simp only[stz]
     have HD4:=hid (HDwr.out.keep0 hm4);have hsw:=dgSwap_any HD4.out j (2*j+1) (by omega) (by omega);go_upto_region 9 with(fail);refine wpR [3,3,3,1] ?_
     simp only[stz];refine wpD (zQ (inv_Swap HD4.out _ _ _ _ j (2*j+1) (by rfl) (by rfl) (by rfl) (by rfl)) hsw ?_);rintro e w5 ⟨rfl,v5,hd5,hm5⟩
     have HD5:=hid hd5;have hM5:DgM w v hb w5 v5:=(hm.trans0 hm4).trans hm5;refine⟨_,rfl,?_⟩;simp only[stz]
     have HR:Hid (DownRel w hb base v l n (.int .i64 ((2*j+1:Nat):Int)) w5):=hid ⟨2*j+1,swp l' j (2*j+1),v5,rfl,by omega,by omega,(swp_perm (by omega) (by omega)).trans HP.out,HU.out.step (by omega) (by omega) (by omega) (by unfold par;omega) (leB_of_lt hless2) HC.out,fun k hk=>by
      rw[swp_at (by omega) (by omega),if_neg (by omega),if_neg (by omega)]
      exact HF.out k hk,HD5.out,hM5⟩
     clear hd5 hm4 hm5 hM5 hls2 hsw hless2 hlt2;go_wp2
     go_roundw
     case rel=>exact HR.out
     case measure=>simp[intOf];omega
    ·have hlt2:decide (atD l' (2*j+1)<atD l' j)=false:=decide_eq_false hless2
     rw[hlt2]at hls2;go_upto_region 8 with(fail);refine wpR [3,3,3,1,3] ?_;simp only[stz]
     refine wpD (zQ (inv_Less HDwr.out _ _ _ _ (2*j+1) j (by rfl) (by rfl) (by rfl) (by rfl)) hls2 ?_);rintro e w4 ⟨rfl,hm4⟩;refine⟨_,rfl,?_⟩;try simp only[stz]
     try refine zH _ _ false (by rfl) (by rfl) (by rfl) ?_
     try simp only[stz]
     have HT:Hid (DownTo w hb base v l n w4):=hid ⟨l',HP.out,DownI.stop (le:=leB) leB_trans HU.out (show leB (atD l' j) (atD l' (2*j+1))from hless2) HC.out,HF.out,v',HDwr.out.keep0 hm4,hm.trans0 hm4⟩
     clear hm4 hls2 hless2 hlt2;go_wp2;go_ret;exact⟨⟨_,rfl⟩,HT.out⟩
theorem heapPush_any(h:DgI w hb base v l)(hbw:base<=w.heap.size)(x:List UInt8)(hx:x.length=32)(hfew:l.length<65536)(hh:Heap leB l l.length):Calls prog 103 #[.iface 178 (.pointer (some ⟨hb,0,none⟩)),.iface 24 (.agg (qA x))] w (fun e w'=>e=.returned (.tuple #[])/\HeapTo w hb base v (l++[x]) w'):=by
 have hp:=dgPush_any h hbw x hx hfew;have HU:=hid (UpI.snoc (x:=x) hh);have hbl:hb<w.heap.size:=(Array.getElem?_eq_some_iff.1 h.box).1;clear h hh
 go_enter func103,ntmps103;go_upto_region 0 with(fail);refine wpR [3,3,1] ?_;simp only[stz];refine wpD (zQ (inv_Push _ _ _ _ (by rfl) (by rfl) (by rfl)) hp ?_)
 rintro e w2 ⟨rfl,v2,hd2,hm2⟩;refine⟨_,rfl,?_⟩;simp only[stz];have HD2:=hid hd2
 have hup:=heapUp_any HD2.out l.length (by simp) (by rw[List.length_append,List.length_singleton];exact HU.out);have hln:=dgLen_of hd2
 rw[List.length_append,List.length_singleton]at hln;clear hd2;go_upto_region 1 with(fail);refine wpR [3,3,1,3,1] ?_;simp only[stz]
 refine wpD (zQ (inv_Len HD2.out _ _ (by rfl) (by rfl)) hln ?_);rintro e w3 ⟨rfl,hw⟩;obtain rfl:=hw.symm;refine⟨_,rfl,?_⟩;try simp only[nmz]
 refine zR _ _ _ _ ((l.length+1:Nat):Int) 1 (l.length:Int) rfl rfl rfl rfl (by omega) (by omega) (by omega) ?_;simp only[nmz];refine wpD (wpC func185 (hup) ?_)
 rintro e w4 ⟨rfl,l4,hp4,hh4,v4,hd4,hm4⟩;have HR:Hid (HeapTo w hb base v (l++[x]) w4):=hid ⟨l4,hp4,hh4,v4,hd4,hm2.trans hm4⟩;refine⟨_,rfl,?_⟩;simp only[stz]
 clear hm2 hp4 hh4 hd4 hm4 hup hln;go_wp2
 go_end0
 exact⟨rfl,HR.out⟩
def HpPopR(w:World)(hb base:Nat)(v:Value)(l:List (List UInt8)):Ending->World->Prop:=fun e w'=>∃x l',e=.returned (.iface 24 (.agg (qA x)))/\x.length=32/\(x::l').Perm l/\Heap leB l' l'.length/\(∀y∈l,leB x y)/\DgTo w hb base v l' w'
theorem heapPop_any(h:DgI w hb base v l)(hbw:base<=w.heap.size)(hne:0<l.length)(hh:Heap leB l l.length):Calls prog 106 #[.iface 178 (.pointer (some ⟨hb,0,none⟩))] w (HpPopR w hb base v l):=by
 obtain⟨n,hn⟩:∃n,l.length=n+1:=⟨l.length-1,by omega⟩;rw[hn]at hh;have hln:=dgLen_of h;rw[hn]at hln;have hsw:=dgSwap_any h 0 n (by omega) (by omega)
 have HD:=hid h;have hst:=DownI.start hh (by omega);have hfew:=h.few;have hids:=h.ids;have htop:=Heap.top leB_refl leB_trans hh;have HST:=hid hst;have HTOP:=hid htop
 have HIDS:=hid hids;clear h hh hst htop hids;go_enter func106,ntmps106;go_upto_region 1 with(fail);refine wpR [3,1,3,3] ?_;simp only[stz]
 refine wpD (zQ (inv_Len HD.out _ _ (by rfl) (by rfl)) hln ?_);rintro e w3 ⟨rfl,hw⟩;obtain rfl:=hw.symm;refine⟨_,rfl,?_⟩;try simp only[nmz]
 refine zR _ _ _ _ ((n+1:Nat):Int) 1 (n:Int) rfl rfl rfl rfl (by omega) (by omega) (by omega) ?_;simp only[stz];go_upto_region 2 with(fail);refine wpR [3,3,1] ?_
 simp only[stz];refine wpD (zQ (inv_Swap HD.out _ _ _ _ 0 n (by rfl) (by rfl) (by rfl) (by rfl)) hsw ?_);rintro e w4 ⟨rfl,v4,hd4,hm4⟩;have HD4:=hid hd4
 refine⟨_,rfl,?_⟩;simp only[stz];have hdn:=heapDown_any HD4.out n (by rw[swp_len];omega) HST.out;clear hd4 hsw;go_upto_region 3 with(fail);refine wpR [3,3,1] ?_
 simp only[stz];refine wpD (wpC func186 (hdn) ?_);rintro e w5 ⟨⟨b5,rfl⟩,l5,hp5,hh5,hf5,v5,hd5,hm5⟩;have HD5:=hid hd5;refine⟨_,rfl,?_⟩;simp only[stz]
 have hl5:l5.length=n+1:=by rw[hp5.length_eq,swp_len,hn]
 have hpop:=dgPop_any HD5.out (by have:=hm4.1.size;have:=hm5.1.size;omega) (by omega)
 have hx5:atD l5 (l5.length-1)=atD l 0:=by
  rw[hl5,Nat.add_sub_cancel,hf5 n (Nat.le_refl _),swp_at (by omega) (by omega),if_pos rfl]
 have hx32:(atD l 0).length=32:=HIDS.out _ (atD_mem (by omega));have hP5:l5.Perm l:=hp5.trans (swp_perm (by omega) (by omega))
 have hsp:l5=l5.dropLast++[atD l 0]:=by
  have hne5:l5≠[]:=by intro e;rw[e]at hl5;simp at hl5
  have h1:=List.dropLast_concat_getLast hne5
  have h2:l5.getLast hne5=atD l 0:=by
   rw[List.getLast_eq_getElem,<-hx5,at_lt (by omega)]
  rw[h2]at h1;exact h1.symm
 have HFIN:Hid ((atD l 0::l5.dropLast).Perm l/\Heap leB l5.dropLast l5.dropLast.length/\∀y∈l,leB (atD l 0) y):=hid ⟨by
  refine List.Perm.trans ?_ hP5
  conv=>rhs;rw[hsp]
  exact(List.perm_append_comm (l₁:=[atD l 0]) (l₂:=l5.dropLast)),by
  rw[List.dropLast_eq_take,List.length_take,hl5,Nat.add_sub_cancel,Nat.min_eq_left (by omega)];exact Heap.take hh5,fun y hy=>by
  obtain⟨k,hk,rfl⟩:=List.getElem_of_mem hy;have:=HTOP.out k (by omega)
  rwa[at_lt hk]at this⟩
 unfold PopR at hpop;rw[hx5]at hpop;obtain⟨x,hx⟩:∃x,atD l 0=x:=⟨_,rfl⟩;rw[hx]at hpop hx32 HFIN;clear hp5 hh5 hf5 hd5 hsp hx5 hP5 hx hdn;go_upto_region 4 with(fail)
 refine wpR [3,1,3] ?_;simp only[stz];refine wpD (zQ (inv_Pop _ _ (by rfl) (by rfl)) hpop ?_);rintro e w6 ⟨rfl,v6,hd6,hm6⟩
 have HR:Hid (HpPopR w hb base v l (.returned (.iface 24 (.agg (qA x)))) w6):=hid ⟨x,l5.dropLast,rfl,hx32,HFIN.out.1,HFIN.out.2.1,HFIN.out.2.2,v6,hd6,(hm4.trans hm5).trans hm6⟩
 refine⟨_,rfl,?_⟩;simp only[stz];clear hm4 hm5 hm6 hd6 hpop;go_wp2;go_ret;exact HR.out
end
end
section
open Go.RowKit Go.Shelf Go.Maps Go.Sort Go.WideShapes Go.WideMaps Go.Proofs.Tryz Go.Lib
section
variable{w:World}{mu:Nat}{us:List (ByteArray×Nat)}
end
section
variable{w:World}{bl ml mu:Nat}{limit:Int}{hold:Value}{l:LinkL}{us:List (ByteArray×Nat)}
end
end
section
open Go.RowKit Go.Shelf Go.Proofs.Tryz Go.Lib
def forgetN(l:LinkL)(x:List UInt8):Nat:=(l.filter fun p=>decide (p.1.2=x)).length
section
variable{w0 w:World}{p:Value}{limit:Int}{l:LinkL}{F:Nat->Prop}
end
def idV(x:List UInt8):Value:=.agg (qA x)
def IdOk(x:List UInt8):Prop:=x.length=32
theorem run_eqId(n:Nat)(x y:List UInt8)(hx:x.length=32)(hy:y.length=32)(w:World):(Op.equalIn (n+2) 24 (.agg (qA x)) (.agg (qA y))).run prog w=.ok (x==y) w:=
 run_equalIn_bytes w n 24 5 32 underlying24 underlying5 (fun w=>sizeU8 w) x y hx hy
theorem keyT_id:KeyT prog 24 idV IdOk:=by
 refine⟨fun e x w hx=>run_checkKey_id e 9998 x hx w,fun x y w hx hy=>?_,⟨_,underlying24,.inl fun x y=>rfl⟩,fun x _=>?_⟩
 ·unfold Op.equal Op.maxDepth idV
  rw[show(10000:Nat)=9998+2 from rfl,run_eqId 9998 x y hx hy]
  congr 1
  rw[Bool.eq_iff_iff];simp
 ·simp only[Instr.sameBits,idV,Bool.and_eq_true,beq_self_eq_true,true_and,List.all_eq_true]
  intro q hq;obtain⟨a,b⟩:=q
  have hab:∀(l:List Value)(p:Value×Value),p∈l.zip l->p.1=p.2/\p.1∈l:=by
   intro l
   induction l with
   |nil=>intro p hp;simp at hp
   |cons v l ih=>
    intro p hp;rw[List.zip_cons_cons,List.mem_cons]at hp
    rcases hp with rfl|hp
    ·simp
    ·exact⟨(ih p hp).1,List.mem_cons_of_mem _ (ih p hp).2⟩
  obtain⟨h1,h2⟩:=hab _ _ hq;have h1':a=b:=h1;subst h1';simp only[qA]at h2
  simp at h2;obtain⟨c,_,rfl⟩:=h2;simp[Instr.sameBits,byteV]
theorem idV_inj{a b:List UInt8}(h:idV a=idV b):a=b:=by
 have h1:(qA a).toList=(qA b).toList:=by rw[Value.agg.inj h]
 simp only[qA]at h1;exact(List.map_inj_right (fun _ _ e=>byteV_inj e)).1 h1
abbrev BlobL:=List (List UInt8×List UInt8)
structure Blb where
 id:List UInt8
 blk:Nat
 val:Value
 bytes:List UInt8
def cont(bl:List Blb):BlobL:=bl.map fun b=>(b.id,b.bytes)
def usedL:BlobL->Nat
 | []=>0
 |p::l=>p.2.length+usedL l
structure StInv(w:World)(bs ms wd:Nat)(room:Int)(bl:List Blb):Prop where
 box:w.heap[bs]?=some (.cells #[.int .i64 wd,.int .i64 room,.int .i64 (usedL (cont bl):Nat),.map (some ms)] 95 (0,0))
 lm:MapIs idV IdOk w ms (bl.map fun b=>(b.id,useV b.blk))
 kb:∀b∈bl,w.heap[b.blk]?=some (.cells #[b.val] 170 (0,0))
 bt:∀b∈bl,Bts 0 w b.val b.bytes
 sz:∀b∈bl,b.bytes.length<=4096
 few:bl.length<=10000
 wok:1<=wd/\wd<=32
def SFoot(bs ms:Nat)(bl:List Blb)(k:Nat):Prop:=k=bs\/k=ms\/∃b∈bl,k=b.blk\/b.val.ownBlock=some k
section
variable{w:World}{bs ms wd:Nat}{room:Int}{bl:List Blb}
theorem StInv.keep{S:Nat->Prop}{w':World}(h:StInv w bs ms wd room bl)(hm:Mod S w w')(hS:∀k,SFoot bs ms bl k->¬S k):StInv w' bs ms wd room bl:=
 ⟨hm.obj (hS _ (.inl rfl)) h.box,h.lm.keep hm (hS _ (.inr (.inl rfl))),fun b hb=>hm.obj (hS _ (.inr (.inr ⟨b,hb,.inl rfl⟩))) (h.kb b hb),fun b hb=>zV (h.bt b hb) hm (fun k hk=>hS _ (.inr (.inr ⟨b,hb,.inr hk⟩))),h.sz,h.few,h.wok⟩
theorem StInv.keep0{w':World}(h:StInv w bs ms wd room bl)(hm:Mod NoB w w'):StInv w' bs ms wd room bl:=h.keep hm (fun _ _=>id)
theorem StInv.cell(h:StInv w bs ms wd room bl):w.cell? ⟨bs,0,none⟩=some (.int .i64 wd)/\w.cell? ⟨bs,1,none⟩=some (.int .i64 room)/\w.cell? ⟨bs,2,none⟩=some (.int .i64 (usedL (cont bl):Nat))/\w.cell? ⟨bs,3,none⟩=some (.map (some ms)):=by
 simp[World.cell?,h.box]
theorem StInv.lt(h:StInv w bs ms wd room bl):∀k,SFoot bs ms bl k->k<w.heap.size:=by
 intro k hk
 rcases hk with rfl|rfl|⟨b,hb,rfl|hk⟩
 ·exact(Array.getElem?_eq_some_iff.1 h.box).1
 ·exact h.lm.lt
 ·exact(Array.getElem?_eq_some_iff.1 (h.kb b hb)).1
 ·exact(World.ownsRow.lt (h.bt b hb) k hk).2
theorem StInv.nd(h:StInv w bs ms wd room bl):((cont bl).map (·.1)).Nodup:=by
 have:=h.lm.nd
 simpa[cont,List.map_map,Function.comp_def]using this
theorem StInv.ok(h:StInv w bs ms wd room bl):∀b∈bl,b.id.length=32:=fun b hb=>h.lm.ok (b.id,useV b.blk) (List.mem_map.2 ⟨b,hb,rfl⟩)
def findB(id:List UInt8):List Blb->Option Blb
 | []=>none
 |b::l=>if id=b.id then some b else findB id l
theorem findB_some{id:List UInt8}{b:Blb}:∀{bl:List Blb},findB id bl=some b->b∈bl/\b.id=id
 |c::l,h=>by
  unfold findB at h
  split at h
  ·rename_i hc;cases h;exact⟨by simp,hc.symm⟩
  ·have:=findB_some h;exact⟨by simp[this.1],this.2⟩
theorem findB_map{γ:Type}(f:Blb->γ)(id:List UInt8)(bl:List Blb):getL id (bl.map fun b=>(b.id,f b))=(findB id bl).map f:=by
 induction bl with
 |nil=>rfl
 |cons b l ih=>simp only[List.map_cons,getL,findB];split<;>simp_all
theorem getB(id:List UInt8)(bl:List Blb):getL id (cont bl)=(findB id bl).map (·.bytes):=findB_map _ _ _
def blkV:Option Blb->Value
 |some b=>useV b.blk
 |none=>.pointer none
theorem keptZ:(prog.info? 166).bind (·.zero)=some (.pointer none):=by kernel_rfl
theorem StInv.look(h:StInv w bs ms wd room bl){o:Oper}{a:Act}(m x:Operand)(id:List UInt8)(hid:id.length=32)(ho:o.op=.lookup 93 m x true)(hm:a.eval m=.map (some ms))(hx:a.eval x=idV id):
 (execOp a.eval o).run prog w=.ok (.value (.tuple #[blkV (findB id bl),.bool (findB id bl).isSome])) w:=
 exec_lookupL keyT_id h.lm id hid 93 166 underlying93 (.pointer none) keptZ m x true ho hm hx _ (by
  rw[findB_map]
  cases findB id bl<;>rfl)
def BNewR(wd room:Int)(w:World)(e:Ending)(w':World):Prop:=∃bs ms,e=.returned (.tuple #[.pointer (some ⟨bs,0,none⟩),.int .i64 0])/\StInv w' bs ms wd.toNat room []/\Mod NoB w w'/\∀k,SFoot bs ms [] k->New w w' k
theorem bNew_any(wd room:Int)(hw:1<=wd/\wd<=32)(hr:0<=room/\room<=67108864)(w:World):Calls prog 78 #[.int .i64 wd,.int .i64 room] w (BNewR wd room w):=by
 have hmm:= @run_makeMap prog;obtain⟨h1,h2⟩:=hw;obtain⟨h3,h4⟩:=hr;go_enter func78,ntmps78;go_upto_region 3 with(fail);refine wpR [3,3,1,1,1,3,3] ?_;simp only[stz]
 refine qM rfl (fun K hK=>?_);unfold Oper.wp execOp;simp only[Array.map_empty,Option.map_none,Sem.run_bind,hmm,Result.andThen_ok,Sem.run_pure]
 have hB:=heap_alloc_new w (.map #[] 0);have hM:=jJ w (.map #[] 0);have hs:w.heap.size<(w.alloc (.map #[] 0)).heap.size:=by simp
 generalize w.alloc (.map #[] 0)=w1 at hB hM hs |-;refine hK _ _ trivial ?_;clear hK K;try simp only[nmz]
 refine wpDo rfl ?_;go_wp2;try simp only[nmz]
 refine wpD (zT 95 _ _ (by rfl) (by rfl) (fun w3 hB2 hm2 hs2=>?_));simp only[stz];go_wp2;go_ret2;have hB':=hm2.obj id hB
 have hwt:((wd.toNat:Nat):Int)=wd:=Int.toNat_of_nonneg (by omega)
 refine⟨_,w.heap.size,rfl,⟨by rw[hwt];exact hB2,MapIs.made hB',by simp,by simp,by simp,by simp,by omega⟩,hM.trans0 hm2,fun k hk=>?_⟩
 rcases hk with rfl|rfl|⟨b,hb,_⟩
 ·exact⟨by omega,by omega⟩
 ·exact⟨by omega,by omega⟩
 ·simp at hb
theorem bNone_at(b:Nat)(m:Option Nat)(w:World)(hc:w.cell? ⟨b,3,none⟩=some (.map m)):Calls prog 92 #[.pointer (some ⟨b,0,none⟩)] w (RetE (.bool m.isNone) w):=by
 have he:=fun(w:World)=>run_eql_map_nil (P:=prog) w 93 24 166 m underlying93
 cases m
 all_goals
  go_enter func92,ntmps92;go_wp2;go_ret;exact⟨rfl,rfl⟩
theorem StInv.made(h:StInv w bs ms wd room bl):Calls prog 92 #[.pointer (some ⟨bs,0,none⟩)] w (RetE (.bool false) w):=bNone_at bs (some ms) w h.cell.2.2.2
theorem bWidth_any(h:StInv w bs ms wd room bl):Calls prog 124 #[.pointer (some ⟨bs,0,none⟩)] w (RetE (.int .i64 wd) w):=by
 have hc:=h.cell.1;go_enter func124,ntmps124;go_wp2_with (go_at_call 92;refine h.made.mono ?_;rintro _ w1 ⟨rfl,hw⟩;obtain rfl:=hw.symm);go_ret;exact⟨rfl,rfl⟩
end
theorem fo_95_3:qW prog 95 3=some 3:=by kernel_rfl
theorem fo_170_0:qW prog 170 0=some 0:=by kernel_rfl
section
variable{w:World}{bs ms wd:Nat}{room:Int}{bl:List Blb}
def GetR(w:World)(r:Option (List UInt8)):Ending->World->Prop:=fun e w'=>Mod NoB w w'/\match r with
 |some m=>∃v,e=.returned (.tuple #[v,.bool true])/\Bts w.heap.size w' v m
 |none=>e=.returned (.tuple #[.slice none 0 0,.bool false])
theorem bGet_any(h:StInv w bs ms wd room bl)(di:List UInt8)(hid:di.length=32):Calls prog 33 #[.pointer (some ⟨bs,0,none⟩),.agg (qA di)] w (GetR w (getL di (cont bl))):=by
 have hrs:(qA di).size=32:=by rw[qD,hid]
 have H:=Lib.hid h;rw[getB];obtain⟨fb,hfb⟩:∃q,findB di bl=q:=⟨_,rfl⟩;rw[hfb];have HFB:=Lib.hid hfb
 have hl:=fun(w':World)(hm:Mod NoB w w')(o:Oper)(a:Act)(m x:Operand)=> @StInv.look w' bs ms wd room bl (H.out.keep0 hm) o a m x di hid;simp only[hfb]at hl
 have HL:=Lib.hid hl;clear h hfb hl;go_enter func33,ntmps33;go_upto_region 0 with(fail);refine wpR [1,3,3] ?_;simp only[zz2]
 refine wpD (zT 24 _ _ (by rfl) (by rfl) (fun w1 hB1 hm1 hs1=>?_));replace hB1:w1.heap[w.heap.size]?=some (.cells (qA di) 24 (0,0)):=hB1
 refine yT _ rfl rfl ?_;simp only[nmz];refine yT _ rfl rfl ?_;simp only[nmz];refine wpPi_nil ?_;have hc3:=(H.out.keep0 hm1).cell.2.2.2
 have hcI:=CellsAt.whole hB1;go_upto_region 1 with(fail);refine wpR [3,1] ?_;simp only[zz2];refine wpPi_move _ rfl rfl ?_;simp only[nmz];refine wpDo rfl ?_
 go_wp2_with (go_at_call 92;refine(H.out.keep0 hm1).made.mono ?_;rintro _ w2 ⟨rfl,hw⟩;obtain rfl:=hw.symm);try simp only[nmz]
 refine wpPi_nil ?_;go_upto_region 3 with(fail);have hS:Mod NoB w1 w1.drew:=(Mod.refl _ _).drew
 cases fb with
 |none=>
  refine wpRZ [3,3,3,0,0,0,3,3,3,3,3] [] (fun w'=>Mod NoB w1 w') hS ?_;simp only[zz2];refine wpPi_move _ rfl rfl ?_;simp only[nmz]
  refine wpPi_nilCheck _ _ rfl rfl rfl ?_;simp only[nmz];refine wpPi_field _ _ _ _ _ _ rfl rfl rfl fo_95_3 ?_;simp only[nmz]
  refine wpLd 93 bs 3 (fun w' hS=>hS.cell id hc3) underlying93 ?_;simp only[nmz];refine wpLA 24 w.heap.size 0 (qA di) (fun w' hS=>hcI.keep hS id) underlying24 32 hrs ?_
  simp only[nmz];refine qQ rfl (fun w' hS=>HL.out w' (hm1.trans0 hS) _ _ _ _ (by rfl) (by rfl) (by rfl)) ?_;simp only[nmz];refine wpPi_move _ rfl rfl ?_;simp only[nmz]
  refine qE (v:=?_) rfl (fun w'=>?_) ?_;rotate_left;·(go_simp;try with_reducible rfl)
  simp only[nmz];refine qE (v:=?_) rfl (fun w'=>?_) ?_;rotate_left;·(go_simp;try with_reducible rfl)
  simp only[nmz];refine yT _ rfl rfl ?_;simp only[nmz];refine yT _ rfl rfl ?_;simp only[nmz];refine wpPi_nil ?_;have hMr:=hm1.trans0 hS
  clear hS hm1 hc3 hcI hB1;go_wp2;go_ret2;exact⟨hMr,rfl⟩
 |some b=>
  obtain⟨hbm,rfl⟩:=findB_some HFB.out;have hkb:=H.out.kb b hbm;have hbt:=H.out.bt b hbm;have hsz:=H.out.sz b hbm
  have hc0:w.cell? ⟨b.blk,0,none⟩=some b.val:=by simp[World.cell?,hkb]
  clear hkb;refine wpRZ [3,3,3,0,0,0,3,3,3,3,3] [] (fun w'=>Mod NoB w1 w') hS ?_;simp only[zz2];refine wpPi_move _ rfl rfl ?_;simp only[nmz]
  refine wpPi_nilCheck _ _ rfl rfl rfl ?_;simp only[nmz];refine wpPi_field _ _ _ _ _ _ rfl rfl rfl fo_95_3 ?_;simp only[nmz]
  refine wpLd 93 bs 3 (fun w' hS=>hS.cell id hc3) underlying93 ?_;simp only[nmz];refine wpLA 24 w.heap.size 0 (qA b.id) (fun w' hS=>hcI.keep hS id) underlying24 32 hrs ?_
  simp only[nmz];refine qQ rfl (fun w' hS=>HL.out w' (hm1.trans0 hS) _ _ _ _ (by rfl) (by rfl) (by rfl)) ?_;simp only[nmz];refine wpPi_move _ rfl rfl ?_;simp only[nmz]
  refine qE (v:=?_) rfl (fun w'=>?_) ?_;rotate_left;·(go_simp;try with_reducible rfl)
  simp only[nmz];refine qE (v:=?_) rfl (fun w'=>?_) ?_;rotate_left;·(go_simp;try with_reducible rfl)
  simp only[nmz];refine yT _ rfl rfl ?_;simp only[nmz];refine yT _ rfl rfl ?_;simp only[nmz];refine wpPi_nil ?_;have hM1:=hm1.trans0 hS
  have hc0:=hM1.cell id hc0;have hbk:Bts 0 w1.drew b.val b.bytes:=zV hbt hM1 (fun _ _=>id);clear hS hm1 hc3 hcI hB1;go_upto_region 6 with(fail)
  refine wpR [3,3,3,1,1,3,3] ?_;simp only[zz2];refine wpPi_move _ rfl rfl ?_;simp only[nmz];refine wpPi_nilCheck _ _ rfl rfl rfl ?_;simp only[nmz]
  refine wpPi_field _ _ _ _ _ _ rfl rfl rfl fo_170_0 ?_;simp only[nmz];refine wpXd (v:=b.val) 53 b.blk 0 hc0 underlying53 trivial ?_;try simp only[nmz]
  refine wpD (wpC func93 (bytesClone_any (Bts.sl hbk) (by omega)) ?_);rintro e w3 ⟨v3,rfl,hb3,hm3⟩;have hb3:Bts w.heap.size w3 v3 b.bytes:=yW hb3 hM1.size
  refine⟨_,rfl,?_⟩;refine yT _ rfl rfl ?_;simp only[nmz];refine yT _ rfl rfl ?_;simp only[nmz];refine wpPi_nil ?_;have hMr:=hM1.trans0 hm3;clear hm3 hM1 hc0
  go_wp2;go_ret2;exact⟨hMr,v3,rfl,hb3⟩
end
theorem usedL_le{c:BlobL}(h:∀p∈c,p.2.length<=4096):usedL c<=4096*c.length:=by
 induction c with
 |nil=>simp[usedL]
 |cons p l ih=>simp only[usedL,List.length_cons];have:=h p (by simp);have:=ih (fun q hq=>h q (by simp[hq]));omega
section
variable{w:World}{bs ms wd:Nat}{room:Int}{bl:List Blb}
theorem StInv.nes(h:StInv w bs ms wd room bl):bs≠ms/\∀b∈bl,b.blk≠bs/\b.blk≠ms/\(∀k,b.val.ownBlock=some k->k≠bs/\k≠ms):=by
 obtain⟨es,clk,h1,_⟩:=h.lm.obj;have hb:=h.box;refine⟨fun e=>?_,fun b hbm=>⟨fun e=>?_,fun e=>?_,fun k hk=>?_⟩⟩
 ·rw[e,h1]at hb;cases hb
 ·have h3:=h.kb b hbm;rw[e,hb]at h3
  have h3:=(Obj.cells.inj (Option.some.inj h3)).1;have:=congrArg Array.size h3;simp at this
 ·have h3:=h.kb b hbm;rw[e,h1]at h3;cases h3
 ·rcases(h.bt b hbm).2 with⟨hv,-⟩|⟨g,cap,cur,hv,-,hg,-⟩
  ·rw[hv]at hk;cases hk
  ·rw[hv]at hk
   obtain rfl:g=k:=by simpa[Value.ownBlock]using hk
   refine⟨fun e=>?_,fun e=>?_⟩
   ·rw[e,hb]at hg
    have h3:=(Obj.cells.inj (Option.some.inj hg)).2.1;exact absurd h3 (by decide)
   ·rw[e,h1]at hg;cases hg
theorem StInv.used(h:StInv w bs ms wd room bl):usedL (cont bl)<=40960000:=by
 have h1:=usedL_le (c:=cont bl) (fun p hp=>by
  obtain⟨b,hb,rfl⟩:=List.mem_map.1 hp
  exact h.sz b hb)
 have h2:=h.few;have h3:(cont bl).length=bl.length:=by simp[cont]
 omega
def StTo(w:World)(bs ms wd:Nat)(room:Int)(bl:List Blb)(w':World)(c:BlobL):Prop:=
 ∃bl',StInv w' bs ms wd room bl'/\cont bl'=c/\Mod (fun k=>k=bs\/k=ms) w w'/\∀k,SFoot bs ms bl' k->SFoot bs ms bl k\/New w w' k
theorem StInv.to0(h:StInv w bs ms wd room bl){w':World}(hm:Mod NoB w w'):StTo w bs ms wd room bl w' (cont bl):=⟨bl,h.keep0 hm,rfl,hm.mono (fun _ _ h=>h.elim),fun _ h=>.inl h⟩
end
def cutI(n:Nat)(x:List UInt8):List UInt8:=x.take n++List.replicate (32-n) 0
theorem cutI_len{n:Nat}{x:List UInt8}(hx:x.length=32)(hn:n<=32):(cutI n x).length=32:=by simp[cutI,hx];omega
def ofI(n:Nat)(m:List UInt8):List UInt8:=cutI n (shaL m)
theorem ofI_len{n:Nat}{m:List UInt8}(hn:n<=32):(ofI n m).length=32:=cutI_len (shaL_len _) hn
theorem cut_row{n:Nat}{x:List UInt8}(hx:x.length=32)(hn:n<=32):qZ (qA x) n (qA (List.replicate (32-n) 0))=qA (cutI n x):=by
 unfold qZ qA cutI;simp only[List.size_toArray,List.length_map,List.length_replicate,List.map_append,List.map_take]
 rw[List.drop_of_length_le (by simp[hx];omega),List.append_nil]
section
variable{P:Program}{o:Oper}{a:Act}{w:World}{K:Act->World->Prop}{Q:Exit->Act->World->Prop}
theorem exec_sliceFromA(t e:TypeId)(x y:Operand)(b l n:Nat)(ho:o.op=.slice t x (some y) none none)(hx:a.eval x=.pointer (some ⟨b,0,none⟩))(hy:a.eval y=.int .i64 l)(ht:P.underlying t=some (.array n e))(he:(P.info? e).map (·.size)=some 1)(hl:l<=n):
 (execOp a.eval o).run P w=.ok (.value (.slice (some (if n=l then⟨b,0,none⟩else⟨b,l,none⟩)) (n-l) (n-l))) w:=by
 have h1:P.arrayLen t=n:=by simp[Program.arrayLen,ht]
 have h2:P.elem t=e:=by simp[Program.elem,ht]
 have h3:(sizeOf e).run P w=.ok 1 w:=by
  cases hq:P.info? e with
  |none=>simp[hq]at he
  |some j=>simp[hq]at he;simp[sizeOf,typeInfo,hq,he]
 have h:=run_sliceAt_array_l (P:=P) w t ⟨b,0,none⟩ (by rw[h1,h2];exact ht) .i64 (l:Int) (by omega) (by rw[h1];omega);rw[h2,h3,h1]at h
 have hm:(match(some y:Option Operand)with|some z=>some (a.eval z)|none=>none)=some (.int .i64 l):=by simp[hy]
 unfold execOp;simp only[ho,hx,Option.map_some,Option.map_none,hy,Sem.run_bind,h,Result.andThen_ok,Sem.run_pure]
 congr 3
 simp[slicedAt,Addr.add]
 by_cases h0:l=0
 ·subst h0;simp
 ·simp[h0]
theorem wp_clearRow(t e:TypeId)(x:Operand)(b off n c:Nat)(ho:o.op=.call { callee:=.builtin .clear,args:=#[x],argTypes:=#[t] })(hx:a.eval x=.slice (some ⟨b,off,none⟩) (n+1) c)(ht:P.underlying t=some (.slice e))(hz:(P.info? e).bind (·.zero)=some (byteV 0))
 (cur:Array Value)(T:TypeId)(hb:w.heap[b]?=some (.cells cur T (0,0)))(hoff:off+(n+1)<=cur.size)
 (h:∀w',w'.heap[b]?=some (.cells (qZ cur off (qA (List.replicate (n+1) 0))) T (0,0))->Mod (fun k=>k=b) w w'->K (a.put o.dst (.tuple #[])) w'):o.wp P a w K Q:=by
 have hzv:(zeroValue e).run P w=.ok (byteV 0) w:=by
  cases hi:P.info? e with
  |none=>simp[hi]at hz
  |some i=>simp[hi]at hz;simp[zeroValue,typeInfo,hi,hz]
 have hzc:(Builtin.zeroCells (byteV 0).cells (n+1)).toList=List.replicate (n+1) (byteV 0):=by
  simp[Builtin.zeroCells,byteV,Value.cells]
  apply List.ext_getElem
  ·simp
  ·intro i h1 h2
   simp[Nat.mod_one]
 have hst:=run_storeCells_at P b off T (List.replicate (n+1) (byteV 0)) 0 cur w hb (by simpa using hoff) (fun v hv=>by rw[List.eq_of_mem_replicate hv];rfl)
 simp only[Nat.add_zero,List.length_replicate]at hst
 have he:(cur.toList.take off++List.replicate (n+1) (byteV 0)++cur.toList.drop (off+(n+1))).toArray=qZ cur off (qA (List.replicate (n+1) 0)):=by
  unfold qZ qA
  simp
 rw[he]at hst;unfold Oper.wp execOp
 have hr:(Builtin.clear_ #[t] o.type #[.slice (some ⟨b,off,none⟩) (n+1) c]).run P w=.ok (.tuple #[]) (w.setRow b (qZ cur off (qA (List.replicate (n+1) 0)))):=by
  simp[Builtin.clear_,run_underlying ht,hzv,hzc,hst]
 simp[ho,hx,resolve,invoke,builtin,hr]
 exact h _ (setRow_heap w b cur _ T _ hb) ⟨rfl,rfl,rfl,by simp,fun k _ hk=>setRow_other w b k _ (fun e=>hk e)⟩
end
theorem u8_zero:(prog.info? 5).bind (·.zero)=some (byteV 0):=by kernel_rfl
def CutR2(w:World)(n:Nat)(x:List UInt8):Ending->World->Prop:=fun e w'=>e=.returned (.tuple #[.agg (qA (cutI n x)),.int .i64 0])/\Mod NoB w w'
theorem shaCut_any(x:List UInt8)(hx:x.length=32)(n:Nat)(h1:1<=n)(h2:n<=32)(w:World):Calls prog 95 #[.agg (qA x),.int .i64 n] w (CutR2 w n x):=by
 have hrs:(qA (cutI n x)).size=32:=by rw[qD,cutI_len hx h2]
 have hxs:(qA x).size=32:=by rw[qD,hx]
 have HR:=hid (cut_row hx h2);go_enter func95,ntmps95;go_upto_region 0 with(fail);refine wpR [1,1,3] ?_;simp only[stz]
 refine wpD (zT 24 _ _ (by rfl) (by rfl) (fun w1 hB1 hm1 hs1=>?_));replace hB1:w1.heap[w.heap.size]?=some (.cells (qA x) 24 (0,0)):=hB1;try simp only[nmz]
 refine wpD (qP 24 _ (by rfl) idZ (fun w2 hB2 hm2 hs2=>?_));replace hB2:w2.heap[w1.heap.size]?=some (.cells (qA (List.replicate 32 0)) 24 (0,0)):=hB2
 simp only[stz];replace hB1:=hm2.obj id hB1;have hM2:=hm1.trans0 hm2;have hne:w.heap.size≠w1.heap.size:=by omega
 have hs1':w.heap.size<=w1.heap.size:=hm1.size;generalize hb1:w.heap.size=b1 at*;generalize hb2:w1.heap.size=b2 at*;clear hm1 hm2
 rcases Nat.lt_or_ge n 32 with hlt|hge
 ·obtain⟨m,hm⟩:∃m,32-n=m+1:=⟨31-n,by omega⟩
  have hn32:¬32=n:=by omega
  rw[hm]at HR;go_upto_region 3 with(fail);refine wpR [3,0,1] ?_;simp only[stz]
  refine qQ rfl (fun w' hS=>(exec_sliceFromA (P:=prog) 24 5 _ _ b1 n 32 (by rfl) (by rfl) (by rfl) underlying24 (by kernel_rfl) (by omega)).trans (by rw[if_neg hn32,hm])) ?_
  simp only[nmz];refine wpD (wp_clearRow 53 5 _ b1 n m _ (by rfl) (by rfl) underlying53 u8_zero _ _ hB1 (by rw[hxs];omega) (fun w3 hB3 hm3=>?_));rw[HR.out]at hB3
  simp only[stz];have hM3:Mod NoB w w3:=hM2.transB hm3 (by omega);have hB23:=hm3.objB (by omega) hB2;clear hm3 hM2 hB1 hB2;go_upto_region 4 with(fail)
  refine wpR [1,1,3] ?_;simp only[stz];refine wpXA 24 b1 0 (qA (cutI n x)) (CellsAt.whole hB3) underlying24 32 hrs trivial ?_;try simp only[nmz]
  refine wpD (qF 24 _ _ b2 0 (qA (cutI n x)) (by rfl) (by rfl) (by rfl) (qR _) 32 (by kernel_rfl) hrs _ _ hB23 (by rw[hrs,qD];simp) (fun w4 hB4 hm4=>?_))
  rw[qC (by rw[hrs,qD];rfl)]at hB4;simp only[stz];have hM4:Mod NoB w w4:=hM3.transB hm4 (by omega);clear hm4 hM3;go_wp2
  refine bodyPost_ret (xC (P:=prog) (ty:=24) rfl _ _ b2 _ _ _ _ (by rfl) hB4 underlying24 rfl (by rw[hrs];kernel_rfl)) rfl ?_;exact⟨rfl,hM4⟩
 ·obtain rfl:n=32:=by omega
  have hcx:cutI 32 x=x:=by unfold cutI;rw[List.take_of_length_le (by omega)];simp
  have HCX:=hid hcx;go_upto_region 3 with(fail);refine wpR [3,0,1] ?_;simp only[stz]
  refine qQ rfl (fun w' hS=>(exec_sliceFromA (P:=prog) 24 5 _ _ b1 32 32 (by rfl) (by rfl) (by rfl) underlying24 (by kernel_rfl) (by omega)).trans (by rw[if_pos rfl])) ?_
  simp only[nmz];refine qM rfl (fun K hK=>?_);unfold Oper.wp execOp
  simp[resolve,invoke,builtin,Builtin.clear_,run_underlying underlying53]
  refine hK _ _ trivial ?_;clear hK K;simp only[stz];go_upto_region 4 with(fail);refine wpR [1,1,3] ?_;simp only[stz]
  refine wpXA 24 b1 0 (qA x) (CellsAt.whole hB1) underlying24 32 hxs trivial ?_;try simp only[nmz]
  refine wpD (qF 24 _ _ b2 0 (qA x) (by rfl) (by rfl) (by rfl) (qR _) 32 (by kernel_rfl) hxs _ _ hB2 (by rw[hxs,qD];simp) (fun w4 hB4 hm4=>?_))
  rw[qC (by rw[hxs,qD];rfl)]at hB4;simp only[stz];have hM4:Mod NoB w w4:=hM2.transB hm4 (by omega);clear hm4 hM2;go_wp2
  refine bodyPost_ret (xC (P:=prog) (ty:=24) rfl _ _ b2 _ _ _ _ (by rfl) hB4 underlying24 rfl (by rw[hxs];kernel_rfl)) rfl ?_;exact⟨by rw[HCX.out];rfl,hM4⟩
def OfR(w:World)(n:Nat)(m:List UInt8):Ending->World->Prop:=fun e w'=>e=.returned (.tuple #[.agg (qA (ofI n m)),.int .i64 0])/\Mod NoB w w'
theorem shaOf_any{own:Bool}{G:Nat->Prop}{v:Value}{m:List UInt8}{w:World}(h:Sl own w G 1 ByteC v m)(hl:m.length<=1000000)(n:Nat)(h1:1<=n)(h2:n<=32):Calls prog 36 #[v,.int .i64 n] w (OfR w n m):=by
 have H:=hid h;obtain⟨ad,cap,rfl,-,-⟩:=Sl.at h;have hsl:(shaL m).length=32:=shaL_len _;have hrs:(qA (ofI n m)).size=32:=by rw[qD,ofI_len h2]
 have HC:=hid (show cutI n (shaL m)=ofI n m from rfl);clear h;go_enter func36,ntmps36;go_upto_region 0 with(fail);refine wpR [1,3] ?_;simp only[stz]
 refine wpD (qP 24 _ (by rfl) idZ (fun w1 hB1 hm1 hs1=>?_));replace hB1:w1.heap[w.heap.size]?=some (.cells (qA (List.replicate 32 0)) 24 (0,0)):=hB1
 simp only[stz];go_upto_region 1 with(fail);refine wpR [3,1,3,1,3,3,1,3] ?_;simp only[stz]
 refine wpD (wpCM func96 (shaSum_any (H.out.keep0 hm1) (by omega)) fun w2 hm2=>?_);simp only[stz];refine wpD (wpC func95 (shaCut_any (shaL m) hsl n h1 h2 _) ?_)
 rintro e w3 ⟨rfl,hm3⟩;rw[HC.out];have hB3:=(hm2.trans0 hm3).obj id hB1;refine⟨_,rfl,?_⟩;try simp only[nmz]
 refine qE (v:=?_) rfl (fun w'=>?_) ?_;rotate_left;·(go_simp;try with_reducible rfl)
 simp only[nmz];refine qE (v:=?_) rfl (fun w'=>?_) ?_;rotate_left;·(go_simp;try with_reducible rfl)
 simp only[nmz]
 refine wpD (qF 24 _ _ w.heap.size 0 (qA (ofI n m)) (by rfl) (by rfl) (by rfl) (qR _) 32 (by kernel_rfl) hrs _ _ hB3 (by rw[hrs,qD];simp) (fun w4 hB4 hm4=>?_))
 rw[qC (by rw[hrs,qD];rfl)]at hB4;simp only[stz];have hM4:Mod NoB w w4:=((hm1.trans0 hm2).trans0 hm3).transB hm4 (Nat.le_refl _);clear hm1 hm2 hm3 hm4
 go_wp2;refine bodyPost_ret (xC (P:=prog) (ty:=24) rfl _ _ w.heap.size _ _ _ _ (by rfl) hB4 underlying24 rfl (by rw[hrs];kernel_rfl)) rfl ?_;exact⟨rfl,hM4⟩
end
section
open Go.RowKit Go.Proofs.Tryz Go.Lib
theorem fill_all{n:Nat}:∀(vals:List Value)(k:Nat)(pre old:List Value),pre.length=k*n->old.length=vals.length*n->(∀v∈vals,v.cells.size=n)->
 Instr.fill (fun i=>some (i*n,n)) (pre++old).toArray ((List.range' k vals.length).zip vals)=some (pre++vals.flatMap fun v=>v.cells.toList).toArray
 | [],k,pre,old,hp,ho,_=>by
  obtain rfl:old=[]:=List.eq_nil_of_length_eq_zero (by simpa using ho)
  simp[xT]
 |v::vals,k,pre,old,hp,ho,hv=>by
  have hv1:=hv v (by simp);rw[List.length_cons,Nat.succ_mul]at ho
  rw[List.length_cons,List.range'_succ,List.zip_cons_cons,zD (off:=k*n) (size:=n) rfl hv1 (by simp;omega)]
  have e:qZ (pre++old).toArray (k*n) v.cells=((pre++v.cells.toList)++old.drop n).toArray:=by
   unfold qZ;have h1:(pre++old).take (k*n)=pre:=by rw[<-hp,List.take_left]
   have h2:(pre++old).drop (k*n+v.cells.size)=old.drop n:=by rw[hv1,<-hp,List.drop_append];simp
   simp only[h1,h2]
  rw[e,fill_all vals (k+1) (pre++v.cells.toList) (old.drop n) (by simp[hp,hv1,Nat.succ_mul]) (by simp;omega) (fun x hx=>hv x (by simp[hx]))]
  simp
theorem xM{P:Program}{o:Oper}{a:Act}{w:World}{K:Act->World->Prop}{Q:Exit->Act->World->Prop}(t e:TypeId)(len:Nat)(parts:List (Nat×Operand))(vals:List Value)(z:Value)(n:Nat)(ho:o.op=.buildSlice t len parts.toArray)
 (hx:(parts.map fun x=>(x.1,a.eval x.2))=(List.range' 0 len).zip vals)(hl:vals.length=len)(hu:P.underlying t=some (.slice e))
 (hi:(P.info? e).map (fun i=>(i.zero,i.size))=some (some z,n))(h0:0<len*n)(hn':len*n<=16777216)(hv:∀v∈vals,v.cells.size=n)
 (h:∀w',w'.heap[w.heap.size]?=some (.cells (vals.flatMap fun v=>v.cells.toList).toArray e (0,0))->Mod NoB w w'->w.heap.size<w'.heap.size->K (a.put o.dst (.slice (some ⟨w.heap.size,0,none⟩) len len)) w'):o.wp P a w K Q:=by
 unfold Oper.wp execOp;simp only[ho]
 cases hi':P.info? e with
 |none=>simp[hi']at hi
 |some i=>
  simp only[hi',Option.map_some,Option.some.injEq,Prod.mk.injEq]at hi;obtain⟨hz0,hz1⟩:=hi
  have hf:=fill_all vals 0 [] ((Array.range (len*n)).map (fun x=>z.cells[x%z.cells.size]!)).toList (by simp) (by simp[hl]) hv;rw[hl]at hf
  have hr:(Instr.buildSlice t len (Array.map (fun x=>(x.1,a.eval x.2)) parts.toArray)).run P w=.ok (.slice (some ⟨w.heap.size,0,none⟩) len len) (w.alloc (.cells (vals.flatMap fun v=>v.cells.toList).toArray e)):=by
   have hf':Instr.fill (fun i=>some (i*n,n)) ((Array.range (len*n)).map (fun x=>z.cells[x%z.cells.size]!)) (List.map (fun x=>(x.1,a.eval x.2)) parts)=some (vals.flatMap fun v=>v.cells.toList).toArray:=by
    rw[hx];simpa only[List.nil_append,Array.toArray_toList]using hf
   have h00:¬len*n=0:=by omega
   have h24:¬2^24<len*n:=by omega
   unfold Instr.buildSlice;simp only[Sem.run_bind,run_underlying hu,Result.andThen_ok,sizeOf,typeInfo,hi',hz1,Sem.run_pure,zeroValue,hz0]
   simp[h00,hf',newRow,Nat.not_lt.2 hn',hi',hz0,hz1]
  simp only[Sem.run_bind,hr,Result.andThen_ok,Sem.run_pure];exact h _ (heap_alloc_new _ _) (jJ _ _) (by simp)
end
section
open Go.RowKit Go.Shelf Go.Proofs.Tryz Go.Lib
theorem exec_makeFunc{P:Program}{w:World}{o:Oper}{a:Act}(f:FuncId)(xs:List Operand)(ho:o.op=.makeFunc (.func f) #[] xs.toArray)(vals:List Value)(hx:xs.map a.eval=vals):(execOp a.eval o).run P w=.ok (.value (.func (.func f) #[] vals.toArray)) w:=by
 subst hx;unfold execOp
 simp[ho,Instr.makeFunc]
theorem puts_args{ps:List (Nat×Value)}{G:List Nat}{t0:Nat}(h:∀p∈ps,p.1≠t0/\p.1∈G)(a:Act)(l:List Operand)(hl:(l.all fun o=>match o with| .tmp t=> !G.contains t|_=>true)=true):l.map (puts ps a).eval=l.map a.eval:=by
 refine List.map_congr_left fun o ho=>?_;have h1:=List.all_eq_true.1 hl o ho
 cases o with
 |tmp t=>
  refine puts_eval (fun p hp e=>?_) a;have h2:=(h p hp).2;rw[e]at h2
  simp[h2]at h1
 |const v=>rfl
 |func f=>rfl
 |_=>rfl
theorem exec_moveV{P:Program}{o:Oper}{a:Act}{w:World}(x:Operand)(ho:o.op=.move x)(v:Value)(hv:a.eval x=v):(execOp a.eval o).run P w=.ok (.value v) w:=by
 subst hv;unfold execOp;simp only[ho];rfl
theorem qI{P:Program}{o:Oper}{a:Act}{w:World}(x:Operand)(i:Nat)(vs:Array Value)(ho:o.op=.extract x i)(hx:a.eval x=.tuple vs)(v:Value)(hv:vs[i]?=some v):(execOp a.eval o).run P w=.ok (.value v) w:=by
 unfold execOp
 simp[ho,hx,Instr.extract,hv]
theorem exec_neq_id{P:Program}{w:World}{o:Oper}{a:Act}(t:TypeId)(x y:Operand)(yt:TypeId)(ho:o.op=.binOp .neq t x y yt)(xs ys:List UInt8)
 (hx:a.eval x=.agg (qA xs))(hy:a.eval y=.agg (qA ys))(n:Nat)(e:TypeId)(ht:P.underlying t=some (.array n e))(he:P.underlying e=some (.int .u8))
 (hsz:(P.info? e).map (·.size)=some 1)(hg:P.eqGuardType P.depth t=false)(hxs:xs.length=n)(hys:ys.length=n)(b:Bool)(hb:decide (xs≠ys)=b):
 (execOp a.eval o).run P w=.ok (.value (.bool b)) w:=by
 subst hb
 have hs:∀w,(sizeOf e).run P w=.ok 1 w:=fun w=>by
  cases hq:P.info? e with
  |none=>simp[hq]at hsz
  |some i=>simp[hq]at hsz;simp[sizeOf,typeInfo,hq,hsz]
 have h1:=run_eqGuard_agg (P:=P) w .neq t x y (qA xs) (qA ys) hg
 have h2:(binOp .neq t (.agg (xs.map Extern.Stop.cell).toArray) (.agg (ys.map Extern.Stop.cell).toArray)).run P w=.ok (.bool (!(xs==ys))) w:=by
  rw[run_neq_struct,run_equalIn_bytes w 9998 t e n ht he hs xs ys hxs hys];rfl
 unfold execOp;simp only[ho,hx,hy,Sem.run_bind,h1,Result.andThen_ok]
 rw[show qA xs=(xs.map Extern.Stop.cell).toArray from rfl,show qA ys=(ys.map Extern.Stop.cell).toArray from rfl,h2];simp only[Result.andThen_ok,Sem.run_pure]
 have h3:(!(xs==ys))=decide (xs≠ys):=by rw[Bool.eq_iff_iff];simp
 rw[h3]
theorem wp_allocAt{P:Program}{o:Oper}{a:Act}{w:World}{K:Act->World->Prop}{Q:Exit->Act->World->Prop}(elem:TypeId)(z:Value)(ho:o.op=.alloc elem)(hz:(P.info? elem).bind (·.zero)=some z)
 (h:∀b w',b=w.heap.size->w'.heap[b]?=some (.cells z.cells elem (0,0))->Mod NoB w w'->b<w'.heap.size->K (a.put o.dst (.pointer (some ⟨b,0,none⟩))) w'):o.wp P a w K Q:=
 qP elem z ho hz (fun w' h1 h2 h3=>h _ w' rfl h1 h2 h3)
def NewRow(n:Nat)(cs:Array Value)(T:TypeId)(v:Value)(w:World):Prop:=∃b,v=.pointer (some ⟨b,0,none⟩)/\n<=b/\w.heap[b]?=some (.cells cs T (0,0))
theorem newRow_keep(n:Nat)(cs:Array Value)(T:TypeId):∀(v:Value)(w w':World),NewRow n cs T v w->Mod NoB w w'->NewRow n cs T v w':=fun _ _ _ ⟨b,h1,h2,h3⟩ hm=>⟨b,h1,h2,hm.obj id h3⟩
theorem bytesEqual_any{o o':Bool}{G G':Nat->Prop}{va vb:Value}{la lb:List UInt8}{w:World}(ha:Sl o w G 1 ByteC va la)(hb:Sl o' w G' 1 ByteC vb lb):
 Calls prog 101 #[va,vb] w (RetE (.bool (decide (la=lb))) w):=by
 go_enter func101,ntmps101;go_upto_region 1 with(fail);refine wpR [3,1,3,1,0,3] ?_;simp only[stz]
 refine wpX rfl (zP 53 5 9 _ (by rfl) va (by rfl) ha underlying53 underlying5 underlying9) trivial ?_;simp only[stz]
 refine wpX rfl (zP 53 5 9 _ (by rfl) vb (by rfl) hb underlying53 underlying5 underlying9) trivial ?_;try simp only[nmz]
 refine qQ rfl (fun w' hS=>exec_eql_str _ _ _ _ rfl _ _ rfl rfl (decide (la=lb)) (by rw[decide_eq_decide];exact bytes_inj)) ?_;simp only[stz];go_wp2;go_ret
 exact⟨rfl,rfl⟩
theorem bWhen_any(b:Bool)(n:Int)(w:World):Calls prog 98 #[.bool b,.int .i64 n] w (RetE (.int .i64 (if b then n else 0)) w):=by
 cases b
 all_goals
  go_enter func98,ntmps98;go_wp2;go_ret;exact⟨rfl,rfl⟩
section
variable{w:World}{bs ms wd:Nat}{room:Int}{bl:List Blb}
structure PutEnv(w:World)(b3 b4 b5 b8 b9 bs:Nat)(di m:List UInt8)(v pv:Value)(is:Bool):Prop where
 c3:w.cell? ⟨b3,0,none⟩=some (.pointer (some ⟨bs,0,none⟩))
 c4:CellsAt w b4 0 (qA di)
 c5:w.cell? ⟨b5,0,none⟩=some v
 c8:w.cell? ⟨b8,0,none⟩=some pv
 c9:w.cell? ⟨b9,0,none⟩=some (.bool is)
 sl:Sl false w (fun _=>True) 1 ByteC v m
theorem PutEnv.keep0{w w':World}{b3 b4 b5 b8 b9 bs:Nat}{di m:List UInt8}{v pv:Value}{is:Bool}(h:PutEnv w b3 b4 b5 b8 b9 bs di m v pv is)(hm:Mod NoB w w'):PutEnv w' b3 b4 b5 b8 b9 bs di m v pv is:=
 ⟨hm.cell id h.c3,h.c4.keep hm id,hm.cell id h.c5,hm.cell id h.c8,hm.cell id h.c9,Sl.keep0 h.sl hm⟩
variable{b3 b4 b5 b8 b9:Nat}{di m:List UInt8}{v pv:Value}{is:Bool}
theorem bPut1_any(h:PutEnv w b3 b4 b5 b8 b9 bs di m v pv is)(hm:m.length<=4096):Calls prog 97 #[.pointer (some ⟨b5,0,none⟩)] w (RetM (.int .i64 0) w):=by
 obtain⟨ad,cap,rfl,-,-⟩:=Sl.at h.sl;have hc:=h.c5;have hz:¬(m.length:Int)>4096:=by omega
 clear h;go_enter func97,ntmps97;go_upto_region 1 with(fail);refine wpR [1,3,3,1,3] ?_;simp only[stz]
 refine wpXd (v:=(.slice ad m.length cap)) 53 b5 0 hc underlying53 trivial ?_;try simp only[nmz]
 refine wpPL ?_;simp only[nmz];refine qG _ _ _ _ _ _ _ _ rfl rfl rfl rfl rfl false (decide_eq_false hz) ?_;simp only[nmz];refine wpD (wpC func98 (bWhen_any false 4 _) ?_)
 rintro e w1 ⟨rfl,hw⟩;obtain rfl:=hw.symm;simp only[Bool.false_eq_true,if_false];refine⟨_,rfl,?_⟩;simp only[stz];go_wp2;go_ret;exact⟨rfl,Mod.refl _ _⟩
theorem bPut2_any(h:PutEnv w b3 b4 b5 b8 b9 bs (ofI wd m) m v pv is)(hst:StInv w bs ms wd room bl)(hm:m.length<=4096):Calls prog 99 #[.pointer (some ⟨b5,0,none⟩),.pointer (some ⟨b3,0,none⟩),.pointer (some ⟨b4,0,none⟩)] w (RetM (.int .i64 0) w):=by
 obtain⟨ad,cap,rfl,-,-⟩:=Sl.at h.sl;have hw1:=hst.wok;have hdl:(ofI wd m).length=32:=ofI_len hw1.2
 have hrs:(qA (ofI wd m)).size=32:=by rw[qD,hdl]
 have hwc:=hst.cell.1;have hc5:=h.c5;have hc3:=h.c3;have hc4:=h.c4;have hsl:=hid h.sl;clear h hst;go_enter func99,ntmps99;go_upto_region 1 with(fail)
 go_cut [4] (fun v wx=>∃b,v=.pointer (some ⟨b,0,none⟩)/\wx.heap[b]?=some (.cells (qA (ofI wd m)) 24 (0,0))/\w.heap.size<=b/\Mod NoB w wx)
 case first=>
  have hS:Mod NoB w w.drew:=(Mod.refl _ _).drew;have hT:Mod NoB w w.drew:=(Mod.refl _ _).drew
  refine jG [(0,0),(1,0),(2,3),(3,3),(4,0)] 6 [(11,3)] [] (fun w'=>Mod NoB w w') #[true,true,true,true,true,false,false,false,false,false,false,false] (by kernel_rfl) (by kernel_rfl) (by kernel_rfl) (by kernel_rfl) (by kernel_rfl) (fun _ _ _ _ hd h=>⟨hd.trans h.1,h.2⟩) hS ?_
  simp only[stz];refine wpLd 53 b5 0 (fun w' hS=>hS.cell id hc5) underlying53 ?_;simp only[nmz];refine wpLd 29 b3 0 (fun w' hS=>hS.cell id hc3) underlying29 ?_;simp only[stz]
  refine wpLd 3 bs 0 (fun w' hS=>hS.cell id hwc) underlying3 ?_;simp only[stz];refine zC [5,9] (by kernel_rfl) ?_;simp only[zz3,false_implies,implies_true]
  refine⟨?_,?_⟩
  ·intro K hK
   simp only[zz5];refine wpC func36 (shaOf_any (hsl.out.keep0 hT) (by omega) wd hw1.1 hw1.2) ?_;rintro e w2 ⟨rfl,hm2⟩
   try replace hB4:=hm2.obj id hB4
   replace hT:=hT.trans0 hm2;clear hm2;refine⟨_,rfl,hK _ _ hT ?_⟩;clear hK K;try simp only[nmz]
   refine yM 6 (.tuple #[.agg (qA (ofI wd m)),.int .i64 0]) (by kernel_rfl) (fun _ _ _ _ hd h=>⟨hd.trans h.1,h.2⟩) (fun w'=>by simp only[zz5];exact exec_moveV _ rfl (.tuple #[.agg (qA (ofI wd m)),.int .i64 0]) rfl) hT ?_
   simp only[zz5];try simp only[nmz]
   refine yM 7 (.agg (qA (ofI wd m))) (by kernel_rfl) (fun _ _ _ _ hd h=>⟨hd.trans h.1,h.2⟩) (fun w'=>by simp only[zz5];exact qI _ 0 #[.agg (qA (ofI wd m)),.int .i64 0] rfl rfl (.agg (qA (ofI wd m))) rfl) hT ?_
   simp only[zz5];try simp only[nmz]
   refine yM 8 (.int .i64 0) (by kernel_rfl) (fun _ _ _ _ hd h=>⟨hd.trans h.1,h.2⟩) (fun w'=>by simp only[zz5];exact qI _ 1 #[.agg (qA (ofI wd m)),.int .i64 0] rfl rfl (.int .i64 0) rfl) hT ?_
   simp only[zz5];try simp only[nmz]
   refine zC [9] (by kernel_rfl) ?_;simp only[zz3,false_implies,implies_true];intro K hK;simp only[zz5]
   refine wp_allocAt 24 _ (by rfl) idZ (fun b w4 hbe hB4 hm4 hs4=>?_);replace hB4:w4.heap[b]?=some (.cells (qA (List.replicate 32 0)) 24 (0,0)):=hB4
   have hbn:w.heap.size<=b:=by rw[hbe];exact hT.size
   replace hT:=hT.trans0 hm4;clear hm4 hbe hs4;refine hK _ _ hT ?_;clear hK K;try simp only[nmz]
   refine zC [10] (by kernel_rfl) ?_;simp only[zz3,false_implies,implies_true];intro K hK;simp only[zz5]
   refine qF 24 _ _ b 0 (qA (ofI wd m)) (by rfl) (by rfl) (by rfl) (qR _) 32 (by kernel_rfl) hrs _ _ hB4 (by rw[hrs,qD];simp) (fun w3 hB3 hm3=>?_)
   rw[qC (by rw[hrs,qD];rfl)]at hB3;replace hT:Mod NoB w w3:=hT.transB hm3 hbn;clear hB4 hm3;have hB4:=hB3;clear hB3;refine hK _ _ hT ?_;clear hK K
   try simp only[nmz]
   refine xP ?_;try simp only[zz4]
   simp only[stz];go_wp2
   go_meet
   case rel=>exact⟨b,rfl,hB4,hbn,hT⟩
  ·intro K hK
   simp only[zz5];refine wp_allocAt 24 _ (by rfl) idZ (fun b w4 hbe hB4 hm4 hs4=>?_);replace hB4:w4.heap[b]?=some (.cells (qA (List.replicate 32 0)) 24 (0,0)):=hB4
   have hbn:w.heap.size<=b:=by rw[hbe];exact hT.size
   replace hT:=hT.trans0 hm4;clear hm4 hbe hs4;refine hK _ _ hT ?_;clear hK K;try simp only[nmz]
   refine zC [5] (by kernel_rfl) ?_;simp only[zz3,false_implies,implies_true];intro K hK;simp only[zz5]
   refine wpC func36 (shaOf_any (hsl.out.keep0 hT) (by omega) wd hw1.1 hw1.2) ?_;rintro e w2 ⟨rfl,hm2⟩
   try replace hB4:=hm2.obj id hB4
   replace hT:=hT.trans0 hm2;clear hm2;refine⟨_,rfl,hK _ _ hT ?_⟩;clear hK K;try simp only[nmz]
   refine yM 6 (.tuple #[.agg (qA (ofI wd m)),.int .i64 0]) (by kernel_rfl) (fun _ _ _ _ hd h=>⟨hd.trans h.1,h.2⟩) (fun w'=>by simp only[zz5];exact exec_moveV _ rfl (.tuple #[.agg (qA (ofI wd m)),.int .i64 0]) rfl) hT ?_
   simp only[zz5];try simp only[nmz]
   refine yM 7 (.agg (qA (ofI wd m))) (by kernel_rfl) (fun _ _ _ _ hd h=>⟨hd.trans h.1,h.2⟩) (fun w'=>by simp only[zz5];exact qI _ 0 #[.agg (qA (ofI wd m)),.int .i64 0] rfl rfl (.agg (qA (ofI wd m))) rfl) hT ?_
   simp only[zz5];try simp only[nmz]
   refine yM 8 (.int .i64 0) (by kernel_rfl) (fun _ _ _ _ hd h=>⟨hd.trans h.1,h.2⟩) (fun w'=>by simp only[zz5];exact qI _ 1 #[.agg (qA (ofI wd m)),.int .i64 0] rfl rfl (.int .i64 0) rfl) hT ?_
   simp only[zz5];try simp only[nmz]
   refine zC [10] (by kernel_rfl) ?_;simp only[zz3,false_implies,implies_true];intro K hK;simp only[zz5]
   refine qF 24 _ _ b 0 (qA (ofI wd m)) (by rfl) (by rfl) (by rfl) (qR _) 32 (by kernel_rfl) hrs _ _ hB4 (by rw[hrs,qD];simp) (fun w3 hB3 hm3=>?_)
   rw[qC (by rw[hrs,qD];rfl)]at hB3;replace hT:Mod NoB w w3:=hT.transB hm3 hbn;clear hB4 hm3;have hB4:=hB3;clear hB3;refine hK _ _ hT ?_;clear hK K
   try simp only[nmz]
   refine xP ?_;try simp only[zz4]
   simp only[stz];go_wp2
   go_meet
   case rel=>exact⟨b,rfl,hB4,hbn,hT⟩
 case rest=>
  rename World=>wx
  obtain⟨b,rfl,hB4,hbn,hT⟩:=hcut;have hc4':=hc4.keep hT id;go_upto_region 2 with(fail);refine wpR [1,1,0,1,3] ?_;simp only[stz]
  refine wpXA 24 b 0 (qA (ofI wd m)) (CellsAt.whole hB4) underlying24 32 hrs trivial ?_;try simp only[nmz]
  refine wpXA 24 b4 0 (qA (ofI wd m)) hc4' underlying24 32 hrs trivial ?_;try simp only[nmz]
  refine qQ rfl (fun w' hS=>exec_neq_id _ _ _ _ rfl (ofI wd m) (ofI wd m) rfl rfl 32 5 underlying24 underlying5 (by kernel_rfl) (by kernel_rfl) hdl hdl false (decide_eq_false (fun h=>h rfl))) ?_
  simp only[nmz];refine wpD (wpC func98 (bWhen_any false 8 _) ?_);rintro e w5 ⟨rfl,hw⟩;obtain rfl:=hw.symm;simp only[Bool.false_eq_true,if_false];refine⟨_,rfl,?_⟩
  simp only[stz];go_wp2;go_ret;exact⟨rfl,hT⟩
theorem bPut3_no(h:PutEnv w b3 b4 b5 b8 b9 bs di m v pv false):Calls prog 100 #[.pointer (some ⟨b9,0,none⟩),.pointer (some ⟨b8,0,none⟩),.pointer (some ⟨b5,0,none⟩)] w (RetM (.int .i64 0) w):=by
 have hc9:=h.c9;clear h;go_enter func100,ntmps100;go_upto_region 1 with(fail);have hS:Mod NoB w w.drew:=(Mod.refl _ _).drew
 refine wpRZ [0,3,0,3,3,0,0,1,3,3,1,3] [] (fun w'=>Mod NoB w w') hS ?_;simp only[stz];refine wpLd 4 b9 0 (fun w' hS=>hS.cell id hc9) underlying4 ?_;simp only[stz]
 refine xF rfl hS ?_;simp only[stz];refine qM rfl (fun K hK=>?_);refine wpC func98 (bWhen_any false 9 _) ?_;rintro e w5 ⟨rfl,hw⟩;subst hw
 simp only[Bool.false_eq_true,if_false];refine⟨_,rfl,hK _ _ hS ?_⟩;clear hK K;simp only[stz];go_wp2;go_ret;exact⟨rfl,hS⟩
theorem bPut3_old{bk:Nat}{bv:Value}{mo:List UInt8}(h:PutEnv w b3 b4 b5 b8 b9 bs di m v (useV bk) true)(hkc:w.cell? ⟨bk,0,none⟩=some bv)(hbt:Sl false w (fun _=>True) 1 ByteC bv mo):
 Calls prog 100 #[.pointer (some ⟨b9,0,none⟩),.pointer (some ⟨b8,0,none⟩),.pointer (some ⟨b5,0,none⟩)] w (RetM (.int .i64 (if mo=m then 0 else 9)) w):=by
 have hc9:=h.c9;have hc8:w.cell? ⟨b8,0,none⟩=some (.pointer (some ⟨bk,0,none⟩)):=h.c8;have hc5:=h.c5;have hsl:=hid h.sl;have HBT:=hid hbt
 obtain⟨r,hr⟩:∃q,(if mo=m then(0:Int)else 9)=q:=⟨_,rfl⟩;rw[hr]
 have HEQ:=hid (show(if(!decide (mo=m))=true then(9:Int)else 0)=r by rw[<-hr];by_cases hq:mo=m<;>simp[hq]);clear h hbt hr;go_enter func100,ntmps100
 go_upto_region 1 with(fail);have hS:Mod NoB w w.drew:=(Mod.refl _ _).drew;refine wpRZ [0,3,0,3,3,0,0,1,3,3,1,3] [] (fun w'=>Mod NoB w w') hS ?_;simp only[stz]
 refine wpLd 4 b9 0 (fun w' hS=>hS.cell id hc9) underlying4 ?_;simp only[stz];refine wpLd 166 b8 0 (fun w' hS=>hS.cell id hc8) underlying166 ?_;simp only[stz]
 refine wpLd 53 bk 0 (fun w' hS=>hS.cell id hkc) underlying53 ?_;simp only[nmz];refine wpLd 53 b5 0 (fun w' hS=>hS.cell id hc5) underlying53 ?_;simp only[nmz]
 refine qM rfl (fun K hK=>?_);refine wpC func101 (bytesEqual_any (HBT.out.keep0 hS) (hsl.out.keep0 hS)) ?_;rintro e w5 ⟨rfl,hw⟩;subst hw
 generalize decide (mo=m)=eqb at*;refine⟨_,rfl,hK _ _ hS ?_⟩;clear hK K;try simp only[nmz]
 refine zH _ _ eqb rfl rfl rfl ?_;simp only[stz];refine qM rfl (fun K hK=>?_);refine wpC func98 (bWhen_any (!eqb) 9 _) ?_;rintro e w6 ⟨rfl,hw6⟩;subst hw6;rw[HEQ.out]
 refine⟨_,rfl,hK _ _ hS ?_⟩;clear hK K;simp only[stz];go_wp2;go_ret;exact⟨rfl,hS⟩
theorem bPut4_old(h:PutEnv w b3 b4 b5 b8 b9 bs di m v pv true):Calls prog 102 #[.pointer (some ⟨b9,0,none⟩),.pointer (some ⟨b3,0,none⟩),.pointer (some ⟨b5,0,none⟩)] w (RetM (.int .i64 0) w):=by
 have hc9:=h.c9;clear h;go_enter func102,ntmps102;go_upto_region 1 with(fail);have hS:Mod NoB w w.drew:=(Mod.refl _ _).drew
 refine wpRZ [0,3,3,0,3,3,0,0,3,3,0,3,3,0,3,3,1,3] [] (fun w'=>Mod NoB w w') hS ?_;simp only[stz];refine wpLd 4 b9 0 (fun w' hS=>hS.cell id hc9) underlying4 ?_
 try simp only[stz]
 try refine zH _ _ _ rfl rfl rfl ?_
 try simp only[stz]
 refine qM rfl (fun K hK=>?_);refine wpC func98 (bWhen_any false 10 _) ?_;rintro e w5 ⟨rfl,hw⟩;subst hw;simp only[Bool.false_eq_true,if_false]
 refine⟨_,rfl,hK _ _ hS ?_⟩;clear hK K;simp only[stz];go_wp2;go_ret;exact⟨rfl,hS⟩
theorem bPut4_no(h:PutEnv w b3 b4 b5 b8 b9 bs di m v pv false)(hst:StInv w bs ms wd room bl)(hm:m.length<=4096)(hroom:(usedL (cont bl):Int)+(m.length:Int)<=room):Calls prog 102 #[.pointer (some ⟨b9,0,none⟩),.pointer (some ⟨b3,0,none⟩),.pointer (some ⟨b5,0,none⟩)] w (RetM (.int .i64 0) w):=by
 obtain⟨ad,cap,rfl,-,-⟩:=Sl.at h.sl;have hc9:=h.c9;have hc3:=h.c3;have hc5:=h.c5;have hcu:=hst.cell.2.2.1;have hcr:=hst.cell.2.1;have hus:=hst.used
 obtain⟨u,hu⟩:∃q,((usedL (cont bl):Nat):Int)=q:=⟨_,rfl⟩;rw[hu]at hcu hroom;have hub:0<=u/\u<=40960000:=by omega
 have hz:¬(u+(m.length:Int)>room):=by omega
 clear h hst hu hus;go_enter func102,ntmps102;go_upto_region 1 with(fail);have hS:Mod NoB w w.drew:=(Mod.refl _ _).drew
 refine wpRZ [0,3,3,0,3,3,0,0,3,3,0,3,3,0,3,3,1,3] [] (fun w'=>Mod NoB w w') hS ?_;simp only[stz];refine wpLd 4 b9 0 (fun w' hS=>hS.cell id hc9) underlying4 ?_
 try simp only[stz]
 try refine zH _ _ _ rfl rfl rfl ?_
 try simp only[stz]
 refine wpLd 29 b3 0 (fun w' hS=>hS.cell id hc3) underlying29 ?_;simp only[stz];refine wpLd 3 bs 2 (fun w' hS=>hS.cell id hcu) underlying3 ?_;simp only[nmz]
 refine wpLd 53 b5 0 (fun w' hS=>hS.cell id hc5) underlying53 ?_;simp only[nmz];refine wpPL ?_;simp only[nmz]
 refine qY _ _ _ _ u ((m.length:Nat):Int) (u+(m.length:Int)) rfl rfl rfl rfl rfl (by omega) (by omega) ?_;simp only[nmz]
 refine wpLd 29 b3 0 (fun w' hS=>hS.cell id hc3) underlying29 ?_;simp only[stz];refine wpLd 3 bs 1 (fun w' hS=>hS.cell id hcr) underlying3 ?_;simp only[nmz]
 refine qG _ _ _ _ _ _ _ _ rfl rfl rfl rfl rfl false (decide_eq_false hz) ?_;simp only[stz];refine qM rfl (fun K hK=>?_);refine wpC func98 (bWhen_any false 10 _) ?_
 rintro e w5 ⟨rfl,hw⟩;subst hw;simp only[Bool.false_eq_true,if_false];refine⟨_,rfl,hK _ _ hS ?_⟩;clear hK K;simp only[stz];go_wp2;go_ret;exact⟨rfl,hS⟩
def putB(di m:List UInt8)(c:BlobL):BlobL:=if(getL di c).isSome then c else c++[(di,m)]
theorem usedL_app(c:BlobL)(di m:List UInt8):usedL (c++[(di,m)])=usedL c+m.length:=by
 induction c with
 |nil=>simp[usedL]
 |cons p c ih=>simp only[List.cons_append,usedL,ih];omega
theorem cell_one{w:World}{b:Nat}{v:Value}{T:TypeId}{fz:Nat×Nat}(h:w.heap[b]?=some (.cells #[v] T fz)):w.cell? ⟨b,0,none⟩=some v:=by simp[World.cell?,h]
theorem why_i:(prog.info? 175).map (fun i=>(i.zero,i.size))=some (some .nilFunc,1):=by kernel_rfl
theorem pKeptZ:(prog.info? 166).bind (·.zero)=some (.pointer none):=by kernel_rfl
theorem boolZ:(prog.info? 4).bind (·.zero)=some (.bool false):=by kernel_rfl
theorem built_kept(v:Value)(h:v.cells=#[v]):prog.built 170 [(0,v)]=some #[v]:=by
 have z:(prog.info? 170).bind (·.zero)=some (.agg #[.slice none 0 0]):=by kernel_rfl
 have p:xR prog 170=some [(0,1)]:=by kernel_rfl
 rw[zL z p,zD (off:=0) (size:=1) rfl (by rw[h];rfl) (by simp),xT,h]
 rfl
def PutRel(w0:World)(i:Value)(w:World):Prop:=∃k:Nat,k<=4/\i=.int .i64 k/\Mod NoB w0 w
end
section
variable{w:World}{bs ms wd:Nat}{room:Int}{bl:List Blb}
def PutR(w:World)(bs ms wd:Nat)(room:Int)(bl:List Blb)(m:List UInt8):Ending->World->Prop:=fun e w'=>(∃(ok:Bool)(er:Int),e=.returned (.tuple #[.bool ok,.int .i64 er]))/\StTo w bs ms wd room bl w' (putB (ofI wd m) m (cont bl))
theorem StInv.more(h:StInv w bs ms wd room bl){w1 w2 w3 w4:World}{di m:List UInt8}{vk:Value}{bk:Nat}(hfew:bl.length<10000)(hsz:m.length<=4096)(hf:getL di (cont bl)=none)(h1:Mod NoB w w1)(hb:Bts w.heap.size w1 vk m)(hkn:w.heap.size<=bk)(hkb:w2.heap[bk]?=some (.cells #[vk] 170 (0,0)))(h2:Mod NoB w1 w2)
 (hm:MapIs idV IdOk w3 ms (putL di (useV bk) (bl.map fun b=>(b.id,useV b.blk))))(h3:Mod (fun j=>j=ms) w2 w3)
 (hbox:w4.heap[bs]?=some (.cells #[.int .i64 wd,.int .i64 room,.int .i64 ((usedL (cont bl):Nat)+(m.length:Nat):Int),.map (some ms)] 95 (0,0)))(h4:Mod (fun j=>j=bs) w3 w4):
 StTo w bs ms wd room bl w4 (putB di m (cont bl)):=by
 have hn:=h.nes;have h24:Mod (fun k=>k=bs\/k=ms) w2 w4:=(h3.mono (fun _ _ h=>.inr h)).trans h4 (fun _ _ h=>.inl h);have h02:=h1.trans0 h2
 have hM:Mod (fun k=>k=bs\/k=ms) w w4:=(h02.mono (fun _ _ h=>h.elim)).trans h24 (fun _ _ h=>h);have hlb:=h.lt bs (.inl rfl);have hlm:=h.lt ms (.inr (.inl rfl))
 have hs1:=h1.size;have hs2:=h2.size;have hs3:=h3.size;have hs4:=h4.size;have hbkl:bk<w2.heap.size:=(Array.getElem?_eq_some_iff.1 hkb).1
 have hfm:getL di (bl.map fun b=>(b.id,useV b.blk))=none:=by
  rw[getL_none]at hf |-
  simpa[cont,List.map_map,Function.comp_def]using hf
 have hpu:putB di m (cont bl)=cont (bl++[⟨di,bk,vk,m⟩]):=by
  unfold putB;rw[hf]
  simp[cont]
 have hvk:∀k,vk.ownBlock=some k->w.heap.size<=k/\k<w1.heap.size:=fun k hk=>World.ownsRow.lt hb k hk;rw[hpu]
 refine⟨bl++[⟨di,bk,vk,m⟩],⟨?_,?_,?_,?_,?_,?_,h.wok⟩,rfl,hM,?_⟩
 ·rw[<-hpu]
  have e:usedL (putB di m (cont bl))=usedL (cont bl)+m.length:=by unfold putB;rw[hf];exact usedL_app _ _ _
  rw[e,Int.natCast_add];exact hbox
 ·rw[putL_none hfm]at hm
  have:=hm.keep h4 (fun e=>hn.1 e.symm)
  simpa using this
 ·intro b hb'
  rcases List.mem_append.1 hb' with hb'|hb'
  ·have:=hn.2 b hb'
   exact hM.obj (fun e=>e.elim this.1 this.2.1) (h.kb b hb')
  ·rw[List.mem_singleton]at hb';subst hb'
   exact h24.obj (fun e=>by
    have e':bk=bs\/bk=ms:=e
    omega) hkb
 ·intro b hb'
  rcases List.mem_append.1 hb' with hb'|hb'
  ·have:=hn.2 b hb'
   exact zV (h.bt b hb') hM (fun k hk e=>e.elim (this.2.2 k hk).1 (this.2.2 k hk).2)
  ·rw[List.mem_singleton]at hb';subst hb'
   have hb0:Bts 0 w1 vk m:=yW hb (Nat.zero_le _);have hb1:Bts 0 w2 vk m:=zV hb0 h2 (fun _ _=>id)
   exact zV hb1 h24 (fun k hk e=>by
    have:=(hvk k hk).1;have e':k=bs\/k=ms:=e
    omega)
 ·intro b hb'
  rcases List.mem_append.1 hb' with hb'|hb'
  ·exact h.sz b hb'
  ·rw[List.mem_singleton]at hb';subst hb';exact hsz
 ·simp;omega
 ·intro k hk
  rcases hk with rfl|rfl|⟨b,hb',hk⟩
  ·exact .inl (.inl rfl)
  ·exact .inl (.inr (.inl rfl))
  ·rcases List.mem_append.1 hb' with hb'|hb'
   ·exact .inl (.inr (.inr ⟨b,hb',hk⟩))
   ·rw[List.mem_singleton]at hb';subst hb'
    right
    rcases hk with rfl|hk
    ·exact⟨hkn,by show k<_;omega⟩
    ·have:=hvk k hk
     exact⟨this.1,by omega⟩
theorem bPut_any(h:StInv w bs ms wd room bl){own:Bool}{G:Nat->Prop}{v:Value}{m:List UInt8}(hv:Sl own w G 1 ByteC v m)(hm:m.length<=4096)(hroom:(usedL (cont bl):Int)+(m.length:Int)<=room)(hfew:bl.length<10000):
 Calls prog 37 #[.pointer (some ⟨bs,0,none⟩),.agg (qA (ofI wd m)),v] w (PutR w bs ms wd room bl m):=by
 have hsl0:Sl false w (fun _=>True) 1 ByteC v m:=hv.weak.mono (fun _ _=>trivial) (fun _ _ h=>h)
 have hv1:v.oneCell'=true:=by obtain⟨ad,cap,rfl,-,-⟩:=Sl.at hv;rfl
 have hvc:v.cells=#[v]:=by obtain⟨ad,cap,rfl,-,-⟩:=Sl.at hv;rfl
 have hwd:=h.wok;have hdl:(ofI wd m).length=32:=ofI_len hwd.2;have hus:=h.used;have H:=hid h;have hdi:Hid (ofI wd m=ofI wd m):=hid rfl
 obtain⟨fb,hfb⟩:∃q,findB (ofI wd m) bl=q:=⟨_,rfl⟩;obtain⟨pv,hpv⟩:∃q,blkV fb=q:=⟨_,rfl⟩;obtain⟨is,his⟩:∃q,fb.isSome=q:=⟨_,rfl⟩
 have hl:=fun(w':World)(hm:Mod NoB w w')(o:Oper)(a:Act)(mm x:Operand)=> @StInv.look w' bs ms wd room bl (h.keep0 hm) o a mm x (ofI wd m) hdl
 simp only[hfb,hpv,his]at hl;have HL:=hid hl;have HFB:=hid hfb;have HPV:=hid hpv;have HIS:=hid his;have hp1:pv.oneCell'=true:=by rw[<-hpv];cases fb<;>rfl
 have HGB:=hid (getB (ofI wd m) bl);have hrs:(qA (ofI wd m)).size=32:=by rw[qD,hdl]
 have HSL:=hid hsl0;obtain⟨di,hdie⟩:∃q,ofI wd m=q:=⟨_,rfl⟩;have HDI:=hid hdie;rw[hdie]at hrs hdl |-;clear h hv hsl0 hfb hpv his hl hdi hdie;go_enter func37,ntmps37
 go_upto_region 0 with(fail);refine wpR [1,1,1,3,3] ?_;simp only[stz];refine wpD (zT 29 _ _ (by rfl) (by rfl) (fun w1 hB1 hm1 hs1=>?_))
 replace hB1:w1.heap[w.heap.size]?=some (.cells #[.pointer (some ⟨bs,0,none⟩)] 29 (0,0)):=hB1;try simp only[nmz]
 refine wpD (zT 24 _ _ (by rfl) (by rfl) (fun w2 hB2 hm2 hs2=>?_));replace hB2:w2.heap[w1.heap.size]?=some (.cells (qA di) 24 (0,0)):=hB2;try simp only[nmz]
 refine wpD (zT 53 _ _ (by rfl) (by rfl) (fun w3 hB3 hm3 hs3=>?_));replace hB3:w3.heap[w2.heap.size]?=some (.cells #[v] 53 (0,0)):=by rw[<-hvc];exact hB3
 simp only[stz];have hM3:=(hm1.trans0 hm2).trans0 hm3;have hb3:=(hm2.trans0 hm3).obj id hB1;have hb4:=hm3.obj id hB2;have hs03:=hM3.size
 have hn3:w.heap.size<=w.heap.size:=Nat.le_refl _;generalize hb3e:w.heap.size=b3 at*;generalize hb4e:w1.heap.size=b4 at*;generalize hb5e:w2.heap.size=b5 at*
 clear hm1 hm2 hm3 hB1 hB2;have hc3:=cell_one hb3;have hc4:=CellsAt.whole hb4;have hc5:=cell_one hB3;go_upto_region 1 with(fail);refine wpR [1,1] ?_;simp only[stz]
 refine wpXd (v:=(.pointer (some ⟨bs,0,none⟩))) 29 b3 0 hc3 underlying29 trivial ?_;try simp only[nmz]
 refine wpDo rfl ?_;go_wp2_with (go_at_call 92;refine(H.out.keep0 hM3).made.mono ?_;rintro _ wx ⟨rfl,hw⟩;obtain rfl:=hw.symm);simp only[stz]
 have hms3:=(H.out.keep0 hM3).cell.2.2.2;go_upto_region 3 with(fail);have hS:Mod NoB w3 w3.drew:=(Mod.refl _ _).drew
 refine wp_region_plan [.inl [(0,0),(1,3),(2,3),(3,0),(4,0),(5,0),(6,3),(7,3),(8,3)],.inr (.inr (2,#[true,true,true,true,true,true,true,true,true,false,false,false,false])),.inr (.inl 11),.inr (.inl 12)] (fun w'=>Mod NoB w3 w') (by kernel_rfl) (by kernel_rfl) (by kernel_rfl) (fun _ _ _ _ hd h=>⟨hd.trans h.1,h.2⟩) hS ?_
 refine wpPlan_seg ?_;simp only[List.map_cons,List.map_nil,Array.getD_eq_getD_getElem?,List.getElem?_toArray,List.getElem?_cons_succ,List.getElem?_cons_zero,Option.getD_some]
 refine wpLd 29 b3 0 (fun w' hS=>hS.cell id hc3) underlying29 ?_;simp only[stz];refine wpLd 93 bs 3 (fun w' hS=>hS.cell id hms3) underlying93 ?_;simp only[nmz]
 refine wpLA 24 b4 0 (qA di) (fun w' hS=>hc4.keep hS id) underlying24 32 hrs ?_;simp only[nmz]
 refine qQ rfl (fun w' hS=>HL.out w' (hM3.trans0 hS) _ _ _ _ (by rfl) (by rfl) (by rw[HDI.out];rfl)) ?_;simp only[stz]
 refine qE (v:=?_) rfl (fun w'=>?_) ?_;rotate_left;·(go_simp;try with_reducible rfl)
 simp only[nmz];refine qE (v:=?_) rfl (fun w'=>?_) ?_;rotate_left;·(go_simp;try with_reducible rfl)
 simp only[stz];refine planQ_normal ?_
 refine wpPlan_dep [(8,NewRow w3.heap.size #[.pointer none] 166),(9,NewRow w3.heap.size #[.bool false] 4)] [(9,8,[]),(10,9,[])] ?hF ?hS (by decide) (by kernel_rfl) (by kernel_rfl) (by kernel_rfl) ?hw ?hend ?hop
 case hF=>
  intro x hx;simp only[List.mem_cons,List.not_mem_nil,or_false]at hx
  rcases hx with rfl|rfl
  ·exact newRow_keep _ _ _
  ·exact newRow_keep _ _ _
 case hS=>exact(fun _ hm=>hS.trans0 hm)
 case hw=>
  intro q hq;simp only[List.mem_cons,List.not_mem_nil,or_false]at hq
  rcases hq with rfl|rfl<;>rfl
 case hop=>
  intro q hq ps w1 hm hps hds hnd hpn K hK;simp only[List.mem_cons,List.not_mem_nil,or_false]at hq
  rcases hq with rfl|rfl
  ·simp only[depF,Nat.reduceEqDiff,if_true,if_false,reduceIte]at hK
   simp only[Array.getD_eq_getD_getElem?,List.getElem?_toArray,List.getElem?_cons_succ,List.getElem?_cons_zero,Option.getD_some];clear hps hds;have hsz0:=(hS.trans0 hm).size
   refine qP 166 _ (by rfl) pKeptZ (fun w2 hB2 hm2 hs2=>?_);exact hK _ _ hm2 ⟨_,rfl,hsz0,hB2⟩
  ·simp only[depF,Nat.reduceEqDiff,if_true,if_false,reduceIte]at hK
   simp only[Array.getD_eq_getD_getElem?,List.getElem?_toArray,List.getElem?_cons_succ,List.getElem?_cons_zero,Option.getD_some];clear hps hds;have hsz0:=(hS.trans0 hm).size
   refine qP 4 _ (by rfl) boolZ (fun w2 hB2 hm2 hs2=>?_);exact hK _ _ hm2 ⟨_,rfl,hsz0,hB2⟩
 case hend=>
  intro vals wz hvl hGM hJ;obtain⟨v8,vals1,rfl,hvl1⟩:=vals_cons hvl;obtain⟨v9,vals2,rfl,hvl2⟩:=vals_cons hvl1;obtain rfl:=List.eq_nil_of_length_eq_zero hvl2
  simp only[List.map_cons,List.map_nil,List.zip_cons_cons,List.zip_nil_left]at hJ |-;have h8:=hJ (8,v8) (by simp)
  simp only[depF,Nat.reduceEqDiff,if_true,if_false,reduceIte]at h8;have h9:=hJ (9,v9) (by simp);simp only[depF,Nat.reduceEqDiff,if_true,if_false,reduceIte]at h9
  clear hJ hvl hvl1 hvl2;have hGM8:=hGM;simp only[puts];try simp only[nmz]
  refine wpPlan_one rfl (fun K hK=>?_);simp only[Array.getD_eq_getD_getElem?,List.getElem?_toArray,List.getElem?_cons_succ,List.getElem?_cons_zero,Option.getD_some]
  have hSg:=hS.trans0 hGM;obtain⟨b8,rfl,hb8n,hB8⟩:=h8;obtain⟨b9,rfl,hb9n,hB9⟩:=h9
  have h89:b8≠b9:=fun e=>by
   subst e;have h:=Option.some.inj (hB8.symm.trans hB9);injection h with _ hT _;exact absurd hT (by decide)
  refine qT 166 _ _ b8 0 pv (by rfl) (by rfl) (by rfl) hp1 (by kernel_rfl) _ _ hB8 (by simp) (fun w4 hB4 hm4=>?_)
  replace hB4:w4.heap[b8]?=some (.cells #[pv] 166 (0,0)):=hB4;replace hB9:=hm4.objB (fun e=>h89 e.symm) hB9;have hS4:Mod NoB w3 w4:=hSg.transB hm4 hb8n
  refine hK _ _ hS4 ?_;clear hK K;try simp only[nmz]
  refine wpPlan_one rfl (fun K hK=>?_);simp only[Array.getD_eq_getD_getElem?,List.getElem?_toArray,List.getElem?_cons_succ,List.getElem?_cons_zero,Option.getD_some]
  refine qT 4 _ _ b9 0 (.bool is) (by rfl) (by rfl) (by rfl) rfl (by kernel_rfl) _ _ hB9 (by simp) (fun w5 hB5 hm5=>?_)
  replace hB5:w5.heap[b9]?=some (.cells #[.bool is] 4 (0,0)):=hB5;replace hB4:=hm5.objB h89 hB4;have hS5:Mod NoB w3 w5:=hS4.transB hm5 hb9n;refine hK _ _ hS5 ?_
  clear hK K;try simp only[nmz]
  refine wpPlan_fin ?_;have hM5:=hM3.trans0 hS5
  have HENV:Hid (PutEnv w5 b3 b4 b5 b8 b9 bs (ofI wd m) m v pv is):=hid ⟨cell_one (hS5.obj id hb3),by rw[HDI.out];exact CellsAt.whole (hS5.obj id hb4),cell_one (hS5.obj id hB3),cell_one hB4,cell_one hB5,HSL.out.keep0 hM5⟩
  clear hS hSg hS4 hS5 hm4 hm5 hGM hGM8 hB8 hB4 hB9 hB5 hc3 hc4 hc5 hb3 hb4 hB3 hms3 hM3;go_upto_region 4 with(fail);refine wpR [1,1,1,1,1,3,3] ?_;simp only[stz]
  refine wpX rfl (exec_makeFunc 97 [.tmp 5] (by rfl) [.pointer (some ⟨b5,0,none⟩)] (by rfl)) trivial ?_;try simp only[nmz]
  refine wpX rfl (exec_makeFunc 99 [.tmp 5,.tmp 3,.tmp 4] (by rfl) [.pointer (some ⟨b5,0,none⟩),.pointer (some ⟨b3,0,none⟩),.pointer (some ⟨b4,0,none⟩)] (by rfl)) trivial ?_
  try simp only[nmz]
  refine wpX rfl (exec_makeFunc 100 [.tmp 9,.tmp 8,.tmp 5] (by rfl) [.pointer (some ⟨b9,0,none⟩),.pointer (some ⟨b8,0,none⟩),.pointer (some ⟨b5,0,none⟩)] (by rfl)) trivial ?_
  try simp only[nmz]
  refine wpX rfl (exec_makeFunc 102 [.tmp 9,.tmp 3,.tmp 5] (by rfl) [.pointer (some ⟨b9,0,none⟩),.pointer (some ⟨b3,0,none⟩),.pointer (some ⟨b5,0,none⟩)] (by rfl)) trivial ?_
  try simp only[nmz]
  refine wpD (xM 177 175 4 [(0,_),(1,_),(2,_),(3,_)] [.func (.func 97) #[] #[.pointer (some ⟨b5,0,none⟩)],.func (.func 99) #[] #[.pointer (some ⟨b5,0,none⟩),.pointer (some ⟨b3,0,none⟩),.pointer (some ⟨b4,0,none⟩)],.func (.func 100) #[] #[.pointer (some ⟨b9,0,none⟩),.pointer (some ⟨b8,0,none⟩),.pointer (some ⟨b5,0,none⟩)],.func (.func 102) #[] #[.pointer (some ⟨b9,0,none⟩),.pointer (some ⟨b3,0,none⟩),.pointer (some ⟨b5,0,none⟩)]] .nilFunc 1 (by rfl) (by rfl) (by rfl) underlying177 why_i (by omega) (by omega) (by simp[Value.cells]) (fun w6 hB6 hm6 hs6=>?_))
  have hM6:=hM5.trans0 hm6;replace HENV:=hid (HENV.out.keep0 hm6);generalize w5.heap.size=b28 at*;try simp only[nmz]
  refine wpPL ?_;simp only[stz]
  have HC0:Hid (w6.cell? ⟨b28,0,none⟩=some (.func (.func 97) #[] #[.pointer (some ⟨b5,0,none⟩)])):=hid (by simp[World.cell?,hB6,Value.cells])
  have HC1:Hid (w6.cell? ⟨b28,1,none⟩=some (.func (.func 99) #[] #[.pointer (some ⟨b5,0,none⟩),.pointer (some ⟨b3,0,none⟩),.pointer (some ⟨b4,0,none⟩)])):=hid (by simp[World.cell?,hB6,Value.cells])
  have HC2:Hid (w6.cell? ⟨b28,2,none⟩=some (.func (.func 100) #[] #[.pointer (some ⟨b9,0,none⟩),.pointer (some ⟨b8,0,none⟩),.pointer (some ⟨b5,0,none⟩)])):=hid (by simp[World.cell?,hB6,Value.cells])
  have HC3:Hid (w6.cell? ⟨b28,3,none⟩=some (.func (.func 102) #[] #[.pointer (some ⟨b9,0,none⟩),.pointer (some ⟨b3,0,none⟩),.pointer (some ⟨b5,0,none⟩)])):=hid (by simp[World.cell?,hB6,Value.cells])
  clear hB6 hm6 hM5;go_wp2
  go_loopw [30] (PutRel w6) (fun i _=>4-(intOf i).toNat)
  case atStart=>exact⟨0,by omega,rfl,Mod.refl _ _⟩
  case round=>
   rename World=>wr
   obtain⟨k,hk,rfl,hmr⟩:=hrel;have hMr:=hM6.trans0 hmr
   by_cases hlt:k<4
   ·have hzk:(k:Int)<4:=by omega
    have henv:=HENV.out.keep0 hmr;have hstr:=H.out.keep0 hMr
    rcases(by omega:k=0\/k=1\/k=2\/k=3)with hq|hq|hq|hq
    ·have hcell:wr.cell? ⟨b28,k*1,none⟩=some (.func (.func 97) #[] #[.pointer (some ⟨b5,0,none⟩)]):=by rw[hq];exact hmr.cell id HC0.out
     go_upto_region 6 with(fail);refine wpR [3,1,3] ?_;simp only[stz];refine wpPI underlying177 1 hlt ?_;simp only[nmz]
     refine wpXd (v:=(.func (.func 97) #[] #[.pointer (some ⟨b5,0,none⟩)])) 175 b28 (k*1) hcell underlying175 trivial ?_;simp only[stz];clear hcell
     go_upto_region 7 with(fail);refine wpR [3,1,3] ?_;simp only[stz]
     refine wpD (wp_callv 97 _ [] _ #[] #[.pointer (some ⟨b5,0,none⟩)] (by rfl) (by rfl) (enters_of func97 (by kernel_rfl) rfl) ?_)
     show Calls prog 97 #[.pointer (some ⟨b5,0,none⟩)] _ _
     refine(bPut1_any henv hm).mono ?_;rintro e w8 ⟨rfl,hm8⟩;have hm68:=hmr.trans0 hm8;refine⟨_,rfl,?_⟩;simp only[stz];clear hmr hMr hm8;go_wp2
     go_roundw
     case rel=>exact⟨k+1,by omega,by go_num,hm68⟩
     case measure=>simp[intOf];omega
    ·have hcell:wr.cell? ⟨b28,k*1,none⟩=some (.func (.func 99) #[] #[.pointer (some ⟨b5,0,none⟩),.pointer (some ⟨b3,0,none⟩),.pointer (some ⟨b4,0,none⟩)]):=by rw[hq];exact hmr.cell id HC1.out
     go_upto_region 6 with(fail);refine wpR [3,1,3] ?_;simp only[stz];refine wpPI underlying177 1 hlt ?_;simp only[nmz]
     refine wpXd (v:=(.func (.func 99) #[] #[.pointer (some ⟨b5,0,none⟩),.pointer (some ⟨b3,0,none⟩),.pointer (some ⟨b4,0,none⟩)])) 175 b28 (k*1) hcell underlying175 trivial ?_
     simp only[stz];clear hcell;go_upto_region 7 with(fail);refine wpR [3,1,3] ?_;simp only[stz]
     refine wpD (wp_callv 99 _ [] _ #[] #[.pointer (some ⟨b5,0,none⟩),.pointer (some ⟨b3,0,none⟩),.pointer (some ⟨b4,0,none⟩)] (by rfl) (by rfl) (enters_of func99 (by kernel_rfl) rfl) ?_)
     show Calls prog 99 #[.pointer (some ⟨b5,0,none⟩),.pointer (some ⟨b3,0,none⟩),.pointer (some ⟨b4,0,none⟩)] _ _
     refine(bPut2_any henv hstr hm).mono ?_;rintro e w8 ⟨rfl,hm8⟩;have hm68:=hmr.trans0 hm8;refine⟨_,rfl,?_⟩;simp only[stz];clear hmr hMr hm8;go_wp2
     go_roundw
     case rel=>exact⟨k+1,by omega,by go_num,hm68⟩
     case measure=>simp[intOf];omega
    ·cases fb with
     |none=>
      obtain rfl:false=is:=HIS.out
      have hcell:wr.cell? ⟨b28,k*1,none⟩=some (.func (.func 100) #[] #[.pointer (some ⟨b9,0,none⟩),.pointer (some ⟨b8,0,none⟩),.pointer (some ⟨b5,0,none⟩)]):=by rw[hq];exact hmr.cell id HC2.out
      go_upto_region 6 with(fail);refine wpR [3,1,3] ?_;simp only[stz];refine wpPI underlying177 1 hlt ?_;simp only[nmz]
      refine wpXd (v:=(.func (.func 100) #[] #[.pointer (some ⟨b9,0,none⟩),.pointer (some ⟨b8,0,none⟩),.pointer (some ⟨b5,0,none⟩)])) 175 b28 (k*1) hcell underlying175 trivial ?_
      simp only[stz];clear hcell;go_upto_region 7 with(fail);refine wpR [3,1,3] ?_;simp only[stz]
      refine wpD (wp_callv 100 _ [] _ #[] #[.pointer (some ⟨b9,0,none⟩),.pointer (some ⟨b8,0,none⟩),.pointer (some ⟨b5,0,none⟩)] (by rfl) (by rfl) (enters_of func100 (by kernel_rfl) rfl) ?_)
      show Calls prog 100 #[.pointer (some ⟨b9,0,none⟩),.pointer (some ⟨b8,0,none⟩),.pointer (some ⟨b5,0,none⟩)] _ _
      refine(bPut3_no henv).mono ?_;rintro e w8 ⟨rfl,hm8⟩;have hm68:=hmr.trans0 hm8;refine⟨_,rfl,?_⟩;simp only[stz];clear hmr hMr hm8;go_wp2
      go_roundw
      case rel=>exact⟨k+1,by omega,by go_num,hm68⟩
      case measure=>simp[intOf];omega
     |some b=>
      obtain rfl:true=is:=HIS.out;obtain rfl:useV b.blk=pv:=HPV.out;obtain⟨hbm,hbid⟩:=findB_some HFB.out;have hkc:=cell_one (hstr.kb b hbm)
      have hbs:Sl false wr (fun _=>True) 1 ByteC b.val b.bytes:=(Bts.sl (hstr.bt b hbm)).weak.mono (fun _ _=>trivial) (fun _ _ h=>h)
      have hsome:Hid ((getL (ofI wd m) (cont bl)).isSome=true):=hid (by rw[HGB.out,HFB.out];rfl)
      have hputb:Hid (putB (ofI wd m) m (cont bl)=cont bl):=hid (by unfold putB;rw[if_pos hsome.out])
      obtain⟨er,her⟩:∃q,(if b.bytes=m then(0:Int)else 9)=q:=⟨_,rfl⟩;have HER:=hid her;clear her
      have hcell:wr.cell? ⟨b28,k*1,none⟩=some (.func (.func 100) #[] #[.pointer (some ⟨b9,0,none⟩),.pointer (some ⟨b8,0,none⟩),.pointer (some ⟨b5,0,none⟩)]):=by rw[hq];exact hmr.cell id HC2.out
      go_upto_region 6 with(fail);refine wpR [3,1,3] ?_;simp only[stz];refine wpPI underlying177 1 hlt ?_;simp only[nmz]
      refine wpXd (v:=(.func (.func 100) #[] #[.pointer (some ⟨b9,0,none⟩),.pointer (some ⟨b8,0,none⟩),.pointer (some ⟨b5,0,none⟩)])) 175 b28 (k*1) hcell underlying175 trivial ?_
      simp only[stz];clear hcell;go_upto_region 7 with(fail);refine wpR [3,1,3] ?_;simp only[stz]
      refine wpD (wp_callv 100 _ [] _ #[] #[.pointer (some ⟨b9,0,none⟩),.pointer (some ⟨b8,0,none⟩),.pointer (some ⟨b5,0,none⟩)] (by rfl) (by rfl) (enters_of func100 (by kernel_rfl) rfl) ?_)
      show Calls prog 100 #[.pointer (some ⟨b9,0,none⟩),.pointer (some ⟨b8,0,none⟩),.pointer (some ⟨b5,0,none⟩)] _ _
      refine(bPut3_old henv hkc hbs).mono ?_;rintro e w8 ⟨rfl,hm8⟩;have hm68:=hmr.trans0 hm8;rw[HER.out];refine⟨_,rfl,?_⟩;simp only[stz];have hMe:=hM6.trans0 hm68
      have hE0:er=0\/er=9:=by rw[<-HER.out];split<;>simp
      clear HER
      rcases hE0 with rfl|rfl
      ·clear hmr hMr hm8 hMe
       go_wp2
       go_roundw
       case rel=>exact⟨k+1,by omega,by go_num,hm68⟩
       case measure=>simp[intOf];omega
      ·have HT:=hid (H.out.to0 hMe)
       clear hmr hMr hm8 hMe hm68;go_wp2;go_ret2;exact⟨⟨_,_,rfl⟩,by rw[<-HDI.out]at*;rw[hputb.out];exact HT.out⟩
    ·cases fb with
     |none=>
      obtain rfl:false=is:=HIS.out
      have hcell:wr.cell? ⟨b28,k*1,none⟩=some (.func (.func 102) #[] #[.pointer (some ⟨b9,0,none⟩),.pointer (some ⟨b3,0,none⟩),.pointer (some ⟨b5,0,none⟩)]):=by rw[hq];exact hmr.cell id HC3.out
      go_upto_region 6 with(fail);refine wpR [3,1,3] ?_;simp only[stz];refine wpPI underlying177 1 hlt ?_;simp only[nmz]
      refine wpXd (v:=(.func (.func 102) #[] #[.pointer (some ⟨b9,0,none⟩),.pointer (some ⟨b3,0,none⟩),.pointer (some ⟨b5,0,none⟩)])) 175 b28 (k*1) hcell underlying175 trivial ?_
      simp only[stz];clear hcell;go_upto_region 7 with(fail);refine wpR [3,1,3] ?_;simp only[stz]
      refine wpD (wp_callv 102 _ [] _ #[] #[.pointer (some ⟨b9,0,none⟩),.pointer (some ⟨b3,0,none⟩),.pointer (some ⟨b5,0,none⟩)] (by rfl) (by rfl) (enters_of func102 (by kernel_rfl) rfl) ?_)
      show Calls prog 102 #[.pointer (some ⟨b9,0,none⟩),.pointer (some ⟨b3,0,none⟩),.pointer (some ⟨b5,0,none⟩)] _ _
      refine(bPut4_no henv hstr hm hroom).mono ?_;rintro e w8 ⟨rfl,hm8⟩;have hm68:=hmr.trans0 hm8;refine⟨_,rfl,?_⟩;simp only[stz];clear hmr hMr hm8;go_wp2
      go_roundw
      case rel=>exact⟨k+1,by omega,by go_num,hm68⟩
      case measure=>simp[intOf];omega
     |some b=>
      obtain rfl:true=is:=HIS.out
      have hcell:wr.cell? ⟨b28,k*1,none⟩=some (.func (.func 102) #[] #[.pointer (some ⟨b9,0,none⟩),.pointer (some ⟨b3,0,none⟩),.pointer (some ⟨b5,0,none⟩)]):=by rw[hq];exact hmr.cell id HC3.out
      go_upto_region 6 with(fail);refine wpR [3,1,3] ?_;simp only[stz];refine wpPI underlying177 1 hlt ?_;simp only[nmz]
      refine wpXd (v:=(.func (.func 102) #[] #[.pointer (some ⟨b9,0,none⟩),.pointer (some ⟨b3,0,none⟩),.pointer (some ⟨b5,0,none⟩)])) 175 b28 (k*1) hcell underlying175 trivial ?_
      simp only[stz];clear hcell;go_upto_region 7 with(fail);refine wpR [3,1,3] ?_;simp only[stz]
      refine wpD (wp_callv 102 _ [] _ #[] #[.pointer (some ⟨b9,0,none⟩),.pointer (some ⟨b3,0,none⟩),.pointer (some ⟨b5,0,none⟩)] (by rfl) (by rfl) (enters_of func102 (by kernel_rfl) rfl) ?_)
      show Calls prog 102 #[.pointer (some ⟨b9,0,none⟩),.pointer (some ⟨b3,0,none⟩),.pointer (some ⟨b5,0,none⟩)] _ _
      refine(bPut4_old henv).mono ?_;rintro e w8 ⟨rfl,hm8⟩;have hm68:=hmr.trans0 hm8;refine⟨_,rfl,?_⟩;simp only[stz];clear hmr hMr hm8;go_wp2
      go_roundw
      case rel=>exact⟨k+1,by omega,by go_num,hm68⟩
      case measure=>simp[intOf];omega
   ·have hzk:¬(k:Int)<4:=by omega
    have henv:=HENV.out.keep0 hmr;have hstr:=H.out.keep0 hMr;have hc9:=henv.c9
    cases fb with
    |some b=>
     obtain rfl:true=is:=HIS.out;have hsome:Hid ((getL (ofI wd m) (cont bl)).isSome=true):=hid (by rw[HGB.out,HFB.out];rfl)
     have hputb:Hid (putB (ofI wd m) m (cont bl)=cont bl):=hid (by unfold putB;rw[if_pos hsome.out]);have HT:=hid (H.out.to0 hMr);clear hmr hMr
     go_upto_region 11 with(fail);refine wpR [1] ?_;simp only[stz];refine wpXd (v:=(.bool true)) 4 b9 0 hc9 underlying4 trivial ?_;simp only[stz];go_wp2;go_ret2
     exact⟨⟨_,_,rfl⟩,by rw[<-HDI.out]at*;rw[hputb.out];exact HT.out⟩
    |none=>
     obtain rfl:false=is:=HIS.out;have hnone:Hid (getL (ofI wd m) (cont bl)=none):=hid (by rw[HGB.out,HFB.out];rfl);go_upto_region 11 with(fail);refine wpR [1] ?_
     simp only[stz];refine wpXd (v:=(.bool false)) 4 b9 0 hc9 underlying4 trivial ?_;simp only[stz];have hc3:=henv.c3
     have hc4:CellsAt wr b4 0 (qA di):=by have:=henv.c4;rw[HDI.out]at this;exact this
     have hc5:=henv.c5;have hmsr:=hstr.cell.2.2.2;have hslr:=hid henv.sl;have hlmr:=hstr.lm;have hboxr:=hstr.box;have hltb:bs<wr.heap.size:=hstr.lt bs (.inl rfl)
     have hltm:ms<wr.heap.size:=hstr.lt ms (.inr (.inl rfl));have hbm:=hstr.nes.1;clear henv hc9;go_upto_region 13 with(fail)
     have hS:Mod NoB wr wr.drew:=(Mod.refl _ _).drew;refine wpRZ [0,3,3,0,0,0,1,0,1,2] [9] (fun w'=>Mod NoB wr w') hS ?_;simp only[stz]
     refine wpLd 29 b3 0 (fun w' hS=>hS.cell id hc3) underlying29 ?_;simp only[stz];refine wpLd 93 bs 3 (fun w' hS=>hS.cell id hmsr) underlying93 ?_;simp only[nmz]
     refine wpLA 24 b4 0 (qA di) (fun w' hS=>hc4.keep hS id) underlying24 32 hrs ?_;simp only[nmz];refine wpLd 53 b5 0 (fun w' hS=>hS.cell id hc5) underlying53 ?_
     simp only[nmz];refine qM rfl (fun K hK=>?_);refine wpC func93 (bytesClone_any (hslr.out.keep0 hS) (by omega)) ?_;rintro e wa ⟨vk,rfl,hbk,hma⟩
     have hSa:=hS.trans0 hma;have hvk1:vk.oneCell'=true:=by obtain⟨ad,cap,rfl,-,-⟩:=Sl.at hbk.sl;rfl
     have hvkc:vk.cells=#[vk]:=by obtain⟨ad,cap,rfl,-,-⟩:=Sl.at hbk.sl;rfl
     have hbkk:=built_kept vk hvkc;refine⟨_,rfl,hK _ _ hSa ?_⟩;clear hK K;try simp only[nmz]
     refine qQ rfl (fun w' hS=>qL 170 [(0,_)] [(0,vk)] _ (by rfl) (by rfl) hbkk) ?_;simp only[nmz];refine qM rfl (fun K hK=>?_)
     refine zT 170 _ _ (by rfl) (by rfl) (fun wb hBb hmb hsb=>?_);replace hBb:wb.heap[wa.heap.size]?=some (.cells #[vk] 170 (0,0)):=hBb;have hSb:=hSa.trans0 hmb
     refine hK _ _ hSb ?_;clear hK K;try simp only[nmz]
     refine zB rfl (fun K hK=>?_)
     refine wp_putL keyT_id (hlmr.keep0 hSb) (ofI wd m) (by rw[HDI.out];exact hdl) 93 166 underlying93 _ _ _ (.pointer (some ⟨wa.heap.size,0,none⟩)) (by rfl) (by rfl) (by rw[HDI.out];rfl) (by rfl) (fun wc hlmc hmc=>?_)
     refine hK _ _ ?_;clear hK K;simp only[stz];have hboxc:=hmc.objB hbm (hSb.obj id hboxr)
     have hu2:wc.cell? ⟨bs,2,none⟩=some (.int .i64 (usedL (cont bl):Nat)):=by simp[World.cell?,hboxc]
     have hSc:Mod (fun k=>k=ms) wr wc:=(hSb.mono (fun _ _ h=>h.elim)).trans hmc (fun _ _ h=>h)
     have hnb3:b3≠ms:=fun e=>by
      subst e;obtain⟨es,clk,hq,_⟩:=hstr.lm.obj
      simp[World.cell?,hq]at hc3
     have hnb5:b5≠ms:=fun e=>by
      subst e;obtain⟨es,clk,hq,_⟩:=hstr.lm.obj
      simp[World.cell?,hq]at hc5
     have hc3c:=hSc.cell (fun e=>hnb3 e) hc3;have hc5c:=hSc.cell (fun e=>hnb5 e) hc5;obtain⟨adv,capv,rfl,-,-⟩:=Sl.at hslr.out
     obtain⟨u,hu⟩:∃q,((usedL (cont bl):Nat):Int)=q:=⟨_,rfl⟩;have HU:=hid hu;have hub:0<=u/\u<=40960000:=by omega
     rw[hu]at hu2 hboxc;have hsza:=hSa.size;have HCLM:=hid hlmc;have hMa:=hMr.trans0 hSa;have hbk0:Bts w.heap.size wa vk m:=yW hbk hMr.size
     have hkna:w.heap.size<=wa.heap.size:=hMa.size;clear hlmc hlmr hmsr hboxr hu;go_upto_region 14 with(fail);have hS2:Mod NoB wc wc.drew:=(Mod.refl _ _).drew
     refine wpRZ [0,3,3,0,0,3,3,3,3,2] [9] (fun w'=>Mod NoB wc w') hS2 ?_;simp only[stz];refine wpLd 29 b3 0 (fun w' hS=>hS.cell id hc3c) underlying29 ?_
     simp only[stz];refine wpLd 3 bs 2 (fun w' hS=>hS.cell id hu2) underlying3 ?_;simp only[nmz];refine wpLd 53 b5 0 (fun w' hS=>hS.cell id hc5c) underlying53 ?_
     simp only[nmz];refine wpPL ?_;simp only[nmz];refine qY _ _ _ _ u ((m.length:Nat):Int) (u+(m.length:Nat)) rfl rfl rfl rfl rfl (by omega) (by omega) ?_
     simp only[stz];refine zB rfl (fun K hK=>?_)
     refine qT 3 _ _ bs 2 (.int .i64 (u+(m.length:Nat))) (by rfl) (by rfl) (by rfl) rfl (by kernel_rfl) _ _ (hS2.obj id hboxc) (by simp) (fun wd' hBd hmd=>?_)
     replace hBd:wd'.heap[bs]?=some (.cells #[.int .i64 wd,.int .i64 room,.int .i64 (u+(m.length:Nat)),.map (some ms)] 95 (0,0)):=hBd;refine hK _ _ ?_;clear hK K
     simp only[stz];have hbox4:=hBd;rw[<-HU.out]at hbox4;have hmb':Mod NoB wa wb:=hmb
     have h4:Mod (fun j=>j=bs) wc wd':=(hS2.mono (fun _ _ h=>h.elim)).trans hmd (fun _ _ h=>h)
     have HT:=hid (H.out.more hfew hm hnone.out hMa hbk0 hkna hBb hmb' HCLM.out hmc hbox4 h4)
     clear hS hS2 hSa hSb hSc hma hmb hmb' hmc hmd h4 hMa hMr hmr hBb hBd hbox4 hbk hbk0 hboxc hc3c hc5c hu2 HCLM hbkk hstr;go_wp2;go_ret2
     exact⟨⟨_,_,rfl⟩,by rw[<-HDI.out]at*;exact HT.out⟩
end
theorem idInfo:∃i,prog.info? 24=some i/\i.zero=some (.agg (qA (List.replicate 32 0)))/\i.size=32/\i.bytes=32:=by
 have h:=id_i
 cases hi:prog.info? 24 with
 |none=>rw[hi]at h;cases h
 |some i=>
  rw[hi]at h;simp only[Option.map_some,Option.some.injEq,Prod.mk.injEq]at h;exact⟨i,rfl,h.1,h.2.1,h.2.2⟩
def GrowIR(w:World):Ending->World->Prop:=fun e w'=>∃v,e=.returned v/\GatI w.heap.size w' v []/\Mod NoB w w'
theorem growI_nil(n:Nat)(hn:n<=1048576)(w:World):Calls prog 104 #[.slice none 0 0,.int .i64 n] w (GrowIR w):=by
 have h1:¬((n:Int)<0):=by omega
 have h2:wrap64 ((n:Int)-0)=(n:Int):=by unfold wrap64;omega
 by_cases h0:n=0
 ·subst h0
  go_enter func104,ntmps104;go_wp2;go_ret;exact⟨_,rfl,Gat.nil _ _ _ _ _,Mod.refl _ _⟩
 ·have h4:(n:Int)>0:=by omega
  obtain⟨i,hi,hz,hs,hb⟩:=idInfo
  have hrz:∀ty (w:World),(Builtin.append_ #[25,3] ty #[.slice none 0 0,.int .i64 (n:Int)]).run prog w=
   .ok (.slice (some ⟨w.heap.size,0,none⟩) n (grownCap w n 0 24)) (w.drew.alloc (.cells (Builtin.zeroCells (qA (List.replicate 32 0)) n++Builtin.zeroCells (qA (List.replicate 32 0)) (grownCap w n 0 24-n)) 24)):=fun ty w=>
   Lib.run_append_nil_zeros w 25 3 ty 24 i _ .i64 .i64 underlying25 underlying3 hi hz n (by omega) (by omega) (by omega) (by rw[hb];omega)
  have HRZ:=hid hrz;clear hrz hi hz hs hb;go_enter func104,ntmps104;go_upto_region 5 with(fail);refine wpR [3,3,3,3,3,1,3,3,3,3] ?_;simp only[stz]
  refine qE (v:=?_) rfl (fun w'=>?_) ?_;rotate_left;·(go_simp;try with_reducible rfl)
  simp only[nmz];refine qE (v:=?_) rfl (fun w'=>?_) ?_;rotate_left;·(go_simp;try with_reducible rfl)
  simp only[stz];refine wpD (Lib.wp_append_run _ _ _ 25 3 (by rfl) (.slice none 0 0) (.int .i64 (n:Int)) (by rfl) (by rfl) _ _ (HRZ.out _ _) ?_);simp only[stz];refine wpPL ?_
  simp only[nmz];refine qE (v:=?_) rfl (fun w'=>?_) ?_;rotate_left;·(go_simp;try with_reducible rfl)
  simp only[stz];have hC1:=grownCap_ge w n 0 24;have hC2:=grownCap_le_maxLen w n 0 24 (by unfold maxLen;omega);generalize grownCap w n 0 24=C at hC1 hC2 |-
  have hB:=heap_alloc_new w.drew (.cells (Builtin.zeroCells (qA (List.replicate 32 0)) n++Builtin.zeroCells (qA (List.replicate 32 0)) (C-n)) 24)
  have hm:Mod NoB w (w.drew.alloc (.cells (Builtin.zeroCells (qA (List.replicate 32 0)) n++Builtin.zeroCells (qA (List.replicate 32 0)) (C-n)) 24)):=((Mod.refl _ _).drew).alloc _
  have hsz:(Builtin.zeroCells (qA (List.replicate 32 0)) n++Builtin.zeroCells (qA (List.replicate 32 0)) (C-n)).size=C*32:=by
   rw[Array.size_append,size_zeroCells,size_zeroCells,qD,List.length_replicate,<-Nat.add_mul]
   congr 1
   omega
  generalize Builtin.zeroCells (qA (List.replicate 32 0)) n++Builtin.zeroCells (qA (List.replicate 32 0)) (C-n)=cur at hB hm hsz |-
  generalize w.drew.alloc (.cells cur 24)=w2 at hB hm |-;clear HRZ;go_wp2;go_ret
  exact⟨_,rfl,⟨rfl,.inr ⟨_,C,cur,rfl,Nat.le_refl _,hB,Nat.zero_le _,hC2,hsz,by simp⟩⟩,hm⟩
theorem wp_nextB{P:Program}{o:Oper}{a:Act}{w:World}{K:Act->World->Prop}{Q:Exit->Act->World->Prop}(x:Operand)(mb it:Nat)(es:Array MapEntry)(clk:Nat)(xs:List MapEntry)(ho:o.op=.next x false)(hx:a.eval x=.pointer (some ⟨it,0,none⟩))(hI:IterAt w mb it es clk xs)(hbo:∀x∈es.toList,x.born<clk)(hbn:(es.toList.map (·.born)).Nodup)
 (h:∀(b:Bool)(vs:Array Value) w',vs[0]?=some (.bool b)->(b=false->xs.Perm es.toList/\w'=w)->(b=true->∃e∈es.toList,IterAt w' mb it es clk (xs++[e])/\xs.length<es.size/\Mod (fun j=>j=it) w w'/\w'.heap[it]?=some (.mapIter (some mb) clk ((⟨xs.map (·.born)⟩:Array Nat).push e.born) clk))->K (a.put o.dst (.tuple vs)) w'):o.wp P a w K Q:=
 wp_nextM x mb it es clk xs ho hx hI hbo hbn (fun hp=>h false _ _ rfl (fun _=>⟨hp,rfl⟩) (fun e=>by cases e)) (fun e w' he hI2 hlt hm _ hit=>h true _ _ rfl (fun e=>by cases e) (fun _=>⟨e,he,hI2,hlt,hm,hit⟩))
def IDsC(c:BlobL)(l:List (List UInt8)):Prop:=l.Pairwise (fun a b=>a<b)/\l.Perm (c.map (·.1))
def IDsR(w:World)(c:BlobL):Ending->World->Prop:=fun e w'=>Mod NoB w w'/\∃v ids,e=.returned v/\GatI w.heap.size w' v ids/\IDsC c ids
def IdR1(w0:World)(ms it hb base:Nat)(es:Array MapEntry)(clk:Nat)(_:Value)(w:World):Prop:=∃(xs:List MapEntry)(l0 l:List (List UInt8))(v:Value),IterAt w ms it es clk xs/\xs.map (·.key)=l0.map idV/\l.Perm l0/\Heap leB l l.length/\DgI w hb base v l/\Mod NoB w0 w/\∀q,v.ownBlock=some q->q≠it
def IdR2(w0:World)(hb base:Nat)(ids:List (List UInt8))(ov:Value)(w:World):Prop:=∃(out l:List (List UInt8))(v:Value),GatI w0.heap.size w ov out/\(out++l).Perm ids/\out.Pairwise (fun a b=>a<b)/\(∀a∈out,∀b∈l,a<b)/\Heap leB l l.length/\DgI w hb base v l/\Mod NoB w0 w/\∀q,ov.ownBlock=some q->q≠hb/\v.ownBlock≠some q
def dgLeft(hb:Nat)(w:World):Nat:=match w.cell? ⟨hb,0,none⟩with
 |some (.slice _ n _)=>n
 |_=>0
theorem dgLeft_eq{w:World}{hb base:Nat}{v:Value}{l:List (List UInt8)}(h:DgI w hb base v l):dgLeft hb w=l.length:=by
 obtain⟨ad,cap,rfl⟩:=h.row.slice
 simp[dgLeft,h.cell]
theorem lt_of_le_ne{a b:List UInt8}(h:leB a b)(hne:a≠b):a<b:=by
 rcases ltB_tri a b with h1|h1|h1
 ·exact h1
 ·exact absurd h1 hne
 ·exact absurd h1 h
section
variable{w:World}{bs ms wd:Nat}{room:Int}{bl:List Blb}
theorem bIDs_any(h:StInv w bs ms wd room bl):Calls prog 38 #[.pointer (some ⟨bs,0,none⟩)] w (IDsR w (cont bl)):=by
 have hmade:=h.made;have hfew:=h.few;have hnd:=h.nd;obtain⟨⟨es,clk,hmb,hkd,hbo,hbn⟩,-,hok⟩:=h.lm;have hmsl:=h.lt ms (.inr (.inl rfl));have hc3:=h.cell.2.2.2
 have hkeys:es.toList.map (·.key)=(bl.map (·.id)).map idV:=by
  have:=congrArg (List.map (·.1)) hkd
  simpa[List.map_map,Function.comp_def]using this
 have hsize:es.size=bl.length:=by have:=congrArg List.length hkd;simpa using this
 have hidl:∀x∈bl.map (·.id),x.length=32:=fun x hx=>by
  obtain⟨b,hb,rfl⟩:=List.mem_map.1 hx;exact h.ok b hb
 have hcm:(cont bl).map (·.1)=bl.map (·.id):=by simp[cont,List.map_map,Function.comp_def]
 rw[hcm]at hnd;have HKEYS:=hid hkeys;have HSIZE:=hid hsize;have HIDL:=hid hidl;have HCM:=hid hcm;have HND:=hid hnd;have HBO:=hid hbo;have HBN:=hid hbn
 clear hkeys hsize hkd hidl hcm hok h hnd hbo hbn;go_enter func38,ntmps38;go_upto_region 3 with(go_at_call 92;refine hmade.mono ?_;rintro _ w1 ⟨rfl,hw⟩;obtain rfl:=hw.symm)
 refine wpR [1,1,3] ?_;simp only[stz];refine wpD (zG 179 24 (by rfl) underlying179 (by kernel_rfl) (fun w1 hB1 hm1 hs1=>?_));try simp only[nmz]
 refine wpD (zT 179 _ _ (by rfl) (by rfl) (fun w2 hB2 hm2 hs2=>?_))
 replace hB2:w2.heap[w1.heap.size]?=some (.cells #[.slice (some ⟨w.heap.size,0,none⟩) 0 0] 179 (0,0)):=hB2;simp only[stz];have hm02:=hm1.trans0 hm2
 have hrow2:GatI w.heap.size w2 (.slice (some ⟨w.heap.size,0,none⟩) 0 0) []:=⟨by simp,.inr ⟨w.heap.size,0,#[],rfl,Nat.le_refl _,hm2.obj id hB1,Nat.le_refl _,Nat.zero_le _,rfl,rfl⟩⟩
 have hD2:DgI w2 w1.heap.size w.heap.size (.slice (some ⟨w.heap.size,0,none⟩) 0 0) []:=⟨hB2,hrow2,by simp,fun q hq e=>by
  have:w.heap.size=q:=Option.some.inj hq
  omega,by simp⟩
 have hbw:w.heap.size<=w1.heap.size:=hm1.size;have hw2l:w1.heap.size<w2.heap.size:=hs2;generalize hhb:w1.heap.size=hb at*;have hc32:=hm02.cell id hc3
 have hmb2:=hm02.obj id hmb;clear hm1 hm2 hB1 hB2 hs1 hs2 hrow2 hc3;go_upto_region 4 with(fail);refine wpR [3,3,3,1,1] ?_;simp only[stz]
 refine wpXd (v:=(.map (some ms))) 93 bs 3 hc32 underlying93 trivial ?_;try simp only[nmz]
 refine wpD (wp_rangeM 93 24 166 _ ms es clk (by rfl) (by rfl) underlying93 hmb2 (fun w3 hit3 hm3 hs3=>?_));simp only[stz]
 have hI3:IterAt w3 ms w2.heap.size es clk []:=⟨hm3.obj id hmb2,clk,Nat.le_refl _,hit3,by simp,by simp⟩;have hD3:=hD2.keep0 hm3;have hM3:=hm02.trans0 hm3
 have hitl:w2.heap.size<w3.heap.size:=hs3;generalize hite:w2.heap.size=it at*
 have HR0:Hid (IdR1 w ms it hb w.heap.size es clk undef w3):=hid ⟨[],[],[],_,hI3,rfl,.refl _,fun i h0 hi=>by simp at hi,hD3,hM3,fun q hq e=>by
  have:w.heap.size=q:=Option.some.inj hq
  omega⟩
 clear hm3 hmb2 hit3 hI3 hD2 hD3 hM3 hm02 hc32 hs3 hmb;go_wp2
 go_loopw [4] (IdR1 w ms it hb w.heap.size es clk) (fun _ wx=>seenLeft it (bl.length+1) wx)
 case atStart=>exact HR0.out
 case round=>
  rename World=>wr
  obtain⟨xs,l0,l,v,hI,hxk,hpl,hh,hd,hm,hvit⟩:=hrel;have HXK:=hid hxk;have HPL:=hid hpl;have HH:=hid hh;have HD:=hid hd
  have hlx:l0.length=xs.length:=by have:=congrArg List.length hxk;simpa using this.symm
  have hll:l.length=l0.length:=hpl.length_eq;obtain⟨_,c0,_,hitr,_⟩:=id hI;have HLEFT:=hid (seenLeft_eq (n:=bl.length+1) hitr)
  have hitw:it<wr.heap.size:=(Array.getElem?_eq_some_iff.1 hitr).1;clear hxk hpl hh hd hitr;go_upto_region 5 with(fail);refine wpR [1,3] ?_;simp only[stz]
  refine wpD (wp_nextB _ ms it es clk xs (by rfl) (by rfl) hI HBO.out HBN.out (fun more vs w4 hvs hno hyes=>?_));have HNO:=hid hno;have HYES:=hid hyes;clear hno hyes
  try simp only[nmz]
  refine qE rfl (fun w'=>qI _ 0 vs rfl rfl (.bool more) hvs) ?_;simp only[stz]
  cases more with
  |true=>
   obtain⟨e,he,hI4,hlt,hm4,hit4⟩:=HYES.out rfl;have hne4:∀k,k=it->k≠hb:=fun k hk e=>by omega
   have HD4:=hid (HD.out.keep hm4 (fun e=>by have e':hb=it:=e;omega) (fun q hq e=>hvit q hq e));have hm04:=hm.transB hm4 (by omega)
   obtain⟨k,hkl,hek⟩:∃k∈bl.map (·.id),idV k=e.key:=List.mem_map.1 (by rw[<-HKEYS.out];exact List.mem_map.2 ⟨e,he,rfl⟩);have hk32:=HIDL.out k hkl
   have HEK:=hid hek;have HLT:=hid (show xs.length<bl.length by rw[<-HSIZE.out];exact hlt);have hic:(qA k).size=32:=by rw[qD,hk32]
   clear hek hI hlt HNO HYES hvs;go_upto_region 6 with(fail);refine wpR [1,3,1,1] ?_;simp only[stz]
   refine wpX rfl (v:=.tuple #[idV k,e.val]) ((exec_entryM _ ms it es clk e _ (by rfl) (by rfl) hI4.1 hit4 he HBN.out).trans (by rw[HEK.out])) trivial ?_;try simp only[nmz]
   refine qE (v:=?_) rfl (fun w'=>?_) ?_;rotate_left;·(go_simp;try with_reducible rfl)
   simp only[nmz];refine wpD (qP 24 _ (by rfl) idZ (fun w5 hB5 hm5 hs5=>?_))
   replace hB5:w5.heap[w4.heap.size]?=some (.cells (qA (List.replicate 32 0)) 24 (0,0)):=hB5;try simp only[nmz]
   refine wpD (qF 24 _ _ w4.heap.size 0 (qA k) (by rfl) (by rfl) (by rfl) (qR k) 32 (by kernel_rfl) hic _ _ hB5 (by rw[hic,qD];simp) (fun w6 hB6 hm6=>?_))
   rw[qC (by rw[hic,qD];simp)]at hB6;have hm46:Mod NoB w4 w6:=hm5.transB hm6 (Nat.le_refl _);simp only[stz];have HD6:=hid (HD4.out.keep0 hm46)
   have hI6:IterAt w6 ms it es clk (xs++[e]):=by
    obtain⟨h1,c0,h2,h3,h4⟩:=hI4;exact⟨hm46.obj id h1,c0,h2,hm46.obj id h3,h4⟩
   have HI6:=hid hI6;have hm06:=hm04.trans0 hm46;have hpush:=heapPush_any HD6.out (by have:=hm06.size;omega) k hk32 (by have:=HLT.out;omega) HH.out
   clear hm4 hit4 hI4 hI6 hB5 hm5 hm6 hm46 hs5;go_upto_region 7 with(fail);refine wpR [3,1,1,1,1] ?_;simp only[stz]
   refine wpX rfl (xX _ 178 (.pointer (some ⟨hb,0,none⟩)) (by rfl) (by rfl) pdg_noIface) trivial ?_;try simp only[nmz]
   refine wpXA 24 w4.heap.size 0 (qA k) (CellsAt.whole hB6) underlying24 32 hic trivial ?_;try simp only[nmz]
   refine wpX rfl (xX _ 24 (.agg (qA k)) (by rfl) (by rfl) id_noIface) trivial ?_;try simp only[nmz]
   refine wpD (wpC func103 (hpush) ?_);rintro e7 w7 ⟨rfl,l7,hp7,hh7,v7,hd7,hm7,hv7⟩
   have hit7:¬(it=hb\/v.ownBlock=some it):=fun e=>e.elim (fun e=>by omega) (fun e=>hvit it e rfl)
   have hmst7:¬(ms=hb\/v.ownBlock=some ms):=fun e=>e.elim (fun e=>by omega) (fun e=>by have:=(HD.out.row.lt e).1;omega);refine⟨_,rfl,?_⟩;simp only[stz]
   have hrel7:IdR1 w ms it hb w.heap.size es clk (.pointer (some ⟨w4.heap.size,0,none⟩)) w7:=by
    refine⟨xs++[e],l0++[k],l7,v7,?_,?_,hp7.trans (HPL.out.append_right _),hh7,hd7,?_,fun q hq=>?_⟩
    ·obtain⟨h1,c0,h2,h3,h4⟩:=HI6.out
     exact⟨hm7.obj hmst7 h1,c0,h2,hm7.obj hit7 h3,h4⟩
    ·rw[List.map_append,List.map_append,HXK.out]
     simp[HEK.out]
    ·exact hm06.trans hm7 (fun j hj ej=>by
      rcases ej with ej|ej
      ·omega
      ·have:=(HD.out.row.lt ej).1;omega)
    ·rcases hv7 q hq with e1|e1
     ·exact hvit q e1
     ·intro e2
      have:=(Array.getElem?_eq_some_iff.1 (HI6.out.2.choose_spec.2.1)).1;omega
   have hleft7:seenLeft it (bl.length+1) w7<seenLeft it (bl.length+1) wr:=by
    obtain⟨xs',l0',l',v',hI',hxk',-⟩:=id hrel7;obtain⟨h1,c0,h2,h3,h4⟩:=HI6.out;have h37:=hm7.obj hit7 h3;rw[seenLeft_eq h37,HLEFT.out];have:=HLT.out
    simp
    omega
   have HR7:=hid hrel7;have HL7:=hid hleft7;clear hrel7 hleft7 hp7 hh7 hd7 hm7 hv7 hm hm04 hm06 hB6 hpush;go_wp2
   go_roundw
   case rel=>exact HR7.out
   case measure=>exact HL7.out
  |false=>
   obtain⟨hperm,hw4⟩:=HNO.out rfl;obtain rfl:=hw4
   have hpids:l.Perm (bl.map (·.id)):=by
    refine HPL.out.trans ?_;refine perm_of_map (fun _ _=>idV_inj) ?_
    show List.Perm (l0.map idV) _
    rw[<-HXK.out,<-HKEYS.out];exact hperm.map _
   have hlf:l.length<=10000:=by rw[hpids.length_eq];simpa using hfew
   have hnl:l.Nodup:=hpids.nodup_iff.2 HND.out;have HPI:=hid hpids;have HNL:=hid hnl;clear hperm hpids hnl HNO HYES hI hvs;have hln:=dgLen_of HD.out
   have hgr:=fun(w':World)=>growI_nil l.length (by omega) w';go_upto_region 8 with(fail);refine wpR [3,3,1,1,1,3] ?_;simp only[stz]
   refine wpXd (v:=v) 179 hb 0 HD.out.cell underlying179 trivial ?_;try simp only[nmz]
   refine wpD (wpC func105 (hln) ?_);rintro e5 w5 ⟨rfl,hw⟩;obtain rfl:=hw.symm;refine⟨_,rfl,?_⟩;try simp only[nmz]
   refine wpD (wpC func104 (hgr _) ?_);rintro e5 w6 ⟨ov,rfl,hg6,hm6⟩;refine⟨_,rfl,?_⟩;simp only[stz]
   have HR2:Hid (IdR2 w hb w.heap.size l ov w6):=hid ⟨[],l,v,hg6.base hm.size,by simp,by simp,by simp,HH.out,HD.out.keep0 hm6,hm.trans0 hm6,fun q hq=>⟨fun e=>by
    have:=(hg6.lt hq).1;have:=(Array.getElem?_eq_some_iff.1 HD.out.box).1;omega,fun e=>by
    have:=(hg6.lt hq).1;have:=(HD.out.row.lt e).2
    omega⟩⟩
   clear hm hm6 hg6 hvit hln hgr;go_wp2
   go_loopw [5] (IdR2 w hb w.heap.size l) (fun _ wx=>dgLeft hb wx)
   case atStart=>exact HR2.out
   case round=>
    rename World=>wq
    obtain⟨out,l1,v1,hg,hpo,hso,hlo,hh1,hd1,hm1,hdj⟩:=hrel;have HG:=hid hg;have HPO:=hid hpo;have HSO:=hid hso;have HLO:=hid hlo;have HH1:=hid hh1
    have HD1:=hid hd1;have HDJ:=hid hdj;have hll1:out.length+l1.length=l.length:=by have:=hpo.length_eq;simpa using this
    have hln1:=dgLen_of hd1;have hbq:w.heap.size<=wq.heap.size:=hm1.size;have HLQ:=hid (dgLeft_eq hd1);clear hg hpo hso hlo hh1 hd1 hdj
    by_cases hne:l1.length=0
    ·have hz:¬((l1.length:Nat):Int)>0:=by omega
     have hnil:l1=[]:=List.eq_nil_of_length_eq_zero hne;go_upto_region 9 with(fail);refine wpR [3,3,1,1,3] ?_;simp only[stz]
     refine wpXd (v:=v1) 179 hb 0 HD1.out.cell underlying179 trivial ?_;try simp only[nmz]
     refine wpD (wpC func105 (hln1) ?_);rintro e8 w8 ⟨rfl,hw⟩;obtain rfl:=hw.symm;refine⟨_,rfl,?_⟩;try simp only[nmz]
     refine qE (v:=?_) rfl (fun w'=>?_) ?_;rotate_left;·(go_simp;try with_reducible rfl)
     simp only[stz]
     have HF:Hid (IDsC (cont bl) out):=hid ⟨HSO.out,by
      have h1:=HPO.out;rw[hnil,List.append_nil]at h1;rw[HCM.out]
      exact h1.trans HPI.out⟩
     have HM1:=hid hm1;clear hm1 hln1;go_wp2;go_ret;exact⟨HM1.out,_,out,rfl,HG.out,HF.out⟩
    ·have hz:((l1.length:Nat):Int)>0:=by omega
     go_upto_region 9 with(fail);refine wpR [3,3,1,1,3] ?_;simp only[stz];refine wpXd (v:=v1) 179 hb 0 HD1.out.cell underlying179 trivial ?_;try simp only[nmz]
     refine wpD (wpC func105 (hln1) ?_);rintro e8 w8 ⟨rfl,hw⟩;obtain rfl:=hw.symm;refine⟨_,rfl,?_⟩;try simp only[nmz]
     refine qE (v:=?_) rfl (fun w'=>?_) ?_;rotate_left;·(go_simp;try with_reducible rfl)
     simp only[stz];have hpop:=heapPop_any HD1.out hbq (by omega) HH1.out;clear hln1;go_upto_region 10 with(fail);refine wpR [3,3,1,1,1,1,1,3] ?_;simp only[stz]
     refine wpX rfl (xX _ 178 (.pointer (some ⟨hb,0,none⟩)) (by rfl) (by rfl) pdg_noIface) trivial ?_;try simp only[nmz]
     refine wpD (wpC func106 (hpop) ?_);rintro e9 w9 ⟨x,l9,rfl,hx32,hp9,hh9,hmin,v9,hd9,hm9,hv9⟩;have HE9:=hid (idE_eq hx32)
     have hic9:(qA x).size=32:=by rw[qD,hx32]
     have hg9:=HG.out.keep hm9 (fun q hq e=>e.elim (HDJ.out q hq).1 (fun e=>(HDJ.out q hq).2 e))
     have hdj9:∀q,u5.ownBlock=some q->q≠hb/\v9.ownBlock≠some q:=fun q hq=>⟨(HDJ.out q hq).1,fun e=>(hv9 q e).elim (HDJ.out q hq).2 (fun e=>by have:=(HG.out.lt hq).2;omega)⟩
     refine⟨_,rfl,?_⟩;try simp only[nmz]
     refine wpX rfl (exec_assert _ _ 24 (.agg (qA x)) (by rfl) (by rfl) id_noIface) trivial ?_;try simp only[nmz]
     refine wpD (qU 25 24 _ (.agg (qA x)) (.agg (qA (List.replicate 32 0))) 32 (by rfl) (by rfl) underlying25 (by kernel_rfl) (by omega) (by omega) hic9 (fun wa hBa hma hsa=>?_))
     have hsrc:=jM (enc:=idE) (e:=24) (x:=x) yX (by rw[HE9.out];exact hBa);have hga:=hg9.keep0 hma;have hda:=hd9.keep0 hma
     have hsza:w.heap.size<=wa.heap.size:=by have:=hm9.size;have:=hma.size;omega
     try simp only[nmz]
     refine wpD (wp_gatV idE _ _ 25 24 (.agg (qA (List.replicate 32 0))) 32 32 (by rfl) underlying25 id_i (by kernel_rfl) (by omega) xE w.heap.size _ out (by rfl) hga _ [x] (by rfl) hsrc (by unfold maxLen;simp;omega) (by simp;omega) hsza (fun ov2 wb hgb hmb hvvb=>?_))
     have hdb:=hda.keep hmb (fun e=>(hdj9 hb e).1 rfl) (fun q hq e=>(hdj9 q e).2 hq);simp only[stz];have hxin:x∈l1:=hp9.subset (by simp)
     have hnd1:(out++l1).Nodup:=HPO.out.nodup_iff.2 HNL.out;have hnd9:(x::l9).Nodup:=hp9.nodup_iff.2 (List.nodup_append.1 hnd1).2.1
     have HRB:Hid (IdR2 w hb w.heap.size l ov2 wb):=hid (by
      refine⟨out++[x],l9,v9,hgb,?_,sorted_snoc HSO.out (fun a ha=>HLO.out a ha x hxin),fun a ha b hb'=>?_,hh9,hdb,?_,fun q hq=>?_⟩
      ·rw[List.append_assoc,List.singleton_append]
       exact(hp9.append_left out).trans HPO.out
      ·have hbl1:b∈l1:=hp9.subset (by simp[hb'])
       rcases List.mem_append.1 ha with ha|ha
       ·exact HLO.out a ha b hbl1
       ·simp at ha
        subst ha;exact lt_of_le_ne (hmin b hbl1) (fun e=>(List.nodup_cons.1 hnd9).1 (by rw[e];exact hb'))
      ·refine((hm1.trans hm9 (fun k hk e=>?_)).trans0 hma).trans hmb (fun k hk e=>?_)
       ·rcases e with e|e
        ·omega
        ·have:=(HD1.out.row.lt e).1;omega
       ·have:=(hga.lt e).1;omega
      ·rcases hvvb with e|e
       ·rw[e]at hq;exact hdj9 q hq
       ·rw[e]at hq
        have hq':wa.heap.size=q:=Option.some.inj hq;have h1:=(Array.getElem?_eq_some_iff.1 hda.box).1;refine⟨by omega,fun e2=>?_⟩;have:=(hda.row.lt e2).2
        omega)
     have HLB:Hid (dgLeft hb wb<dgLeft hb wq):=hid (by
      rw[dgLeft_eq hdb,HLQ.out];have:=hp9.length_eq
      simp at this
      omega)
     clear hm1 hp9 hh9 hmin hd9 hm9 hv9 hg9 hdj9 hBa hma hsa hsrc hga hda hgb hmb hvvb hdb hxin hnd1 hnd9 hpop;go_wp2
     go_roundw
     case rel=>exact HRB.out
     case measure=>exact HLB.out
end
end
end Go.Proofs.YtjeonjoifjbohaaGreat
