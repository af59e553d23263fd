/- What the statement SweepMarks needs, part 5. -/
import Derived.RangeFuncNested
import Derived.Sort.CutIn
import Derived.Test.YtjeonjoifjbohaaGreatSweepMarksP4
set_option linter.unusedVariables false
set_option linter.unusedSimpArgs false
set_option linter.unnecessarySimpa false
set_option linter.unusedSectionVars false
set_option maxRecDepth 10000
set_option maxHeartbeats 8000000
namespace Go.Proofs.YtjeonjoifjbohaaGreat
variable{a:Act}{own':Bool}{Q:Exit->Act->iN->Prop}{L roots:List iK}{B b cap gf i k l l₀ m mb n ni nj:Nat}{o:Oper}{P:Program}{ev rv v vv:Value}{R:iJ}{x:iK}{del:iK->Bool}{args cs lb:iL}{E G S:iM}{W W' w w' w0:iN}
section
open Go.RowKit Go.Shelf Go.Proofs.Tryz Go.Lib
instance:Inhabited yY:=⟨descZ⟩
def ReachR(w:iN)(mb:Nat)(all:jT):iJ:=fun e w'=>e=.returned (.tuple #[])/\MarksAt w' mb all/\Mod (fun k=>k=mb) w w'
def gM(c:yH)(f depth:Nat)(ds:List yY)(all:jT):jT:=ds.foldl (fun all d=>if jV d then jU c f d.id (depth+1) all else rW all d.id) all
theorem foldM_succ(c:yH)(f depth:Nat)(ds:List yY)(all:jT)(k:Nat)(hk:k<ds.length):gM c f depth (ds.take (k+1)) all=if jV ds[k]then jU c f ds[k].id (depth+1) (gM c f depth (ds.take k) all)else rW (gM c f depth (ds.take k) all) ds[k].id:=by
 unfold gM;rw[List.take_succ_eq_append_getElem hk,List.foldl_append]
 rfl
def fK(w0:iN)(mb:Nat)(c:yH)(f depth:Nat)(ds:List yY)(all:jT)(i:Value)(w:iN):Prop:=∃k:Nat,k<=ds.length/\i=.int .i64 k/\MarksAt w mb (gM c f depth (ds.take k) all)/\Mod (fun q=>q=mb) w0 w
theorem descRow_at1{p:iK}:∀j,j<(qA x).size->(kF m x n p)[1+j]?=(qA x)[j]?:=by
 intro j hj;rw[qD]at hj;rw[<-Array.getElem?_toList,<-Array.getElem?_toList,Nat.add_comm];simp only[kF,List.getElem?_cons_succ,qA]
 rw[List.getElem?_append_left (by simpa using hj)]
theorem wasM_eq(all:jT)(id:iK)(depth:Nat):wasM all id depth=((qR id all).isSome&&(decide (0<(qR id all).getD 0)&&decide ((qR id all).getD 0<=depth))):=by
 unfold wasM
 cases qR id all<;>simp
theorem mark_look(id:iK)(all:jT):(if true=true then Value.tuple #[(qR id (aN all)).getD (kE 0),.bool (qR id (aN all)).isSome]else(qR id (aN all)).getD (kE 0))=.tuple #[kE ((((qR id all).getD 0:Nat)):Int),.bool (qR id all).isSome]:=by
 rw[if_pos rfl,marks_get]
 cases qR id all<;>rfl
theorem linkV_one(n:Int):∀c∈(#[.int .i64 n]:iL),c.oneCell'=true:=by simp[Value.oneCell']
section
variable{bs ms wd:Nat}{room:Int}{bl:List iF}{mb:Nat}
theorem StInv.keepM(h:StInv w bs ms wd room bl)(hmb:¬fJ bs ms bl mb)(hm:Mod (fun k=>k=mb) w w'):StInv w' bs ms wd room bl:=h.keep hm (fun k hk e=>hmb (by have e':k=mb:=e;rw[<-e'];exact hk))
theorem clReach_any(hmb:¬fJ bs ms bl mb):∀(f:Nat)(id:iK)(depth:Nat)(all:jT)(w:iN),id.length=32->0<depth->depth+f=6->0<f->StInv w bs ms wd room bl->MarksAt w mb all->
 Calls prog 87 #[iO bs,.agg (qA id),.int .i64 depth,.map (some mb)] w (ReachR w mb (jU (xJ bl) f id depth all))
 |0,_,_,_,_,_,_,_,h,_,_=>by omega
 |f+1,di,depth,all,w,hid,hd0,hdf,_,hst,hM=>by
  have ih:=clReach_any hmb f;have IH:=O ih;have hic:(qA di).size=32:=by rw[qD,hid]
  have H:=O hst;have HM:=O hM;have hmbl:mb<w.heap.size:=hM.lt;have HW:=O (wasM_eq all di depth);have HLK:=O (mark_look di all)
  obtain⟨kk,hkk⟩:∃q,(qR di all).getD 0=q:=⟨_,rfl⟩;obtain⟨is,his⟩:∃q,(qR di all).isSome=q:=⟨_,rfl⟩;rw[hkk,his]at HW HLK
  have hwas:∃q,wasM all di depth=q:=⟨_,rfl⟩;obtain⟨was,hwas⟩:=hwas;rw[hwas]at HW;have HWAS:=O hwas;have hdz:depth<=5:=by omega
  clear hst hM hkk his hwas ih;go_enter func87,ntmps87;go_upto_region 0 with(fail);refine qL [1] ?_;simp only[qB];refine qK (zT 24 (fun w1 hB1 hm1 hs1=>?_))
  replace hB1:w1.heap[w.heap.size]?=some (.cells (qA di) 24 (0,0)):=hB1;simp only[qB];have HM1:=O (HM.out.keep0 hm1)
  have hm1s:w.heap.size<w1.heap.size:=hs1;generalize hb5:w.heap.size=b5 at*;go_upto_region 1 with(fail);refine qL [3,1,1,3,3,3,1,1,3] ?_;simp only[qB]
  refine qY 24 (CellsAt.whole hB1) 32 hic ?_;try simp only[qC]
  refine cF rfl (vL sP HM1.out di hid 144 152 underlying144 (kE 0) cmarkZ _ _ true (by rfl) (by rfl) (by rfl) _ HLK.out) trivial ?_;simp only[qB]
  refine qZ (fun _=>by go_simp;try with_reducible rfl) ?_;simp only[qC];refine qZ (fun _=>by go_simp;try with_reducible rfl) ?_;simp only[qC]
  refine qK (zB cmarkZ (fun w2 hB2 hm2 hs2=>?_));try simp only[qC]
  refine qK (qT 152 #[.int .i64 kk] (linkV_one _) 1 rfl hB2 (fun w3 hB3 hm3=>?_) (hoff:=by rfl));simp only[qB];have hm13:Mod qJ w1 w3:=hm2.transB hm3 (Nat.le_refl _)
  have HB1:=O (hm13.obj id hB1);have hck:w3.cell? ⟨w1.heap.size,0,none⟩=some (.int .i64 kk):=by simp[World.cell?,hB3]
  have HM03:=O (hm1.trans0 hm13);replace HM1:=O (HM1.out.keep0 hm13);generalize hb8:w1.heap.size=b8 at*;clear hm1 hm13 hm2 hm3 hB1 hB2 hB3 hs1 hs2
  go_upto_region 2 with(fail)
  go_cut [35] (fun s wx=>s=.bool was/\wx=w3)
  case first=>
   have hw:=HW.out
   cases is with
   |false=>
    obtain rfl:was=false:=by simpa using hw
    clear hw;refine qL [3,3,3,0,3,3,3,3,0,3,3,3] ?_;simp only[qB];go_wp2
    go_meet
    case rel=>exact⟨rfl,rfl⟩
   |true=>
    by_cases hk0:0<kk
    ·have hz:(kk:Int)>0:=by omega
     by_cases hkd:kk<=depth
     ·have hz2:(kk:Int)<=(depth:Int):=by omega
      obtain rfl:was=true:=by simpa[hk0,hkd]using hw
      clear hw;refine qL [3,3,3,1,3,3,3,3,1,3,3,3] ?_;simp only[qB];refine qG 3 hck ?_;try simp only[qC]
      refine xD hz ?_;simp only[qB];refine qG 3 hck ?_;simp only[qB];refine xD hz2 ?_;simp only[qB];go_wp2
      go_meet
      case rel=>exact⟨rfl,rfl⟩
     ·have hz2:¬(kk:Int)<=(depth:Int):=by omega
      obtain rfl:was=false:=by simpa[hk0,hkd]using hw
      clear hw;refine qL [3,3,3,1,3,3,3,3,1,3,3,3] ?_;simp only[qB];refine qG 3 hck ?_;try simp only[qC]
      refine xD hz ?_;simp only[qB];refine qG 3 hck ?_;simp only[qB];refine xT hz2 ?_;simp only[qB];go_wp2
      go_meet
      case rel=>exact⟨rfl,rfl⟩
    ·have hz:¬(kk:Int)>0:=by omega
     obtain rfl:was=false:=by simpa[hk0]using hw
     clear hw;refine qL [3,3,3,1,3,3,3,3,0,3,3,3] ?_;simp only[qB];refine qG 3 hck ?_;try simp only[qC]
     refine xT hz ?_;simp only[qB];go_wp2
     go_meet
     case rel=>exact⟨rfl,rfl⟩
  case rest=>
   obtain⟨rfl,hw⟩:=hcut;obtain rfl:=hw.symm;clear HW hck HLK
   cases was with
   |true=>
    have HF:Hid (ReachR w mb (jU (xJ bl) (f+1) di depth all) (.returned (.tuple #[])) w3):=O ⟨rfl,by unfold jU;rw[if_pos HWAS.out];exact HM1.out,HM03.out.mono (fun _ _ h=>h.elim)⟩
    go_wp2
    go_end0
    exact HF.out
   |false=>
    have HRE:Hid (jU (xJ bl) (f+1) di depth all=if 4<depth then kD di depth all else match jA (xJ bl) di with|none=>kD di depth all|some ds=>gM (xJ bl) f depth ds (kD di depth all)):=O (by
     unfold jU;rw[if_neg (by rw[HWAS.out];simp)]
     rfl)
    have hb1c:=HB1.out;go_upto_region 3 with(fail);refine qL [3,1,3,0,1] ?_;simp only[qB];refine qY 24 (CellsAt.whole hb1c) 32 hic ?_;simp only[qB]
    refine yV (built_cmark depth) ?_;simp only[qC]
    refine qK (dI sP HM1.out di hid 144 152 underlying144 _ _ _ (kE depth) (by rfl) (by rfl) (by rfl) (by rfl) (fun w4 hM4 hm4=>?_));rw[marks_put]at hM4
    have HM4:=O hM4;simp only[qB];have hm04:Mod (fun k=>k=mb) w w4:=(HM03.out.mono (fun _ _ h=>h.elim)).trans hm4 (fun _ _ h=>h)
    have H4:=O (H.out.keepM hmb hm04);have hb14:=hm4.objB (b:=b5) (by omega) hb1c;have HM04:=O hm04;obtain⟨all1,hall1⟩:∃q,kD di depth all=q:=⟨_,rfl⟩
    rw[hall1]at HM4 HRE;have hget:=bGet_any H4.out di hid;clear hM4 hm4 hm04 hb1c hall1;obtain⟨r,hr⟩:∃q,qR di (xJ bl)=q:=⟨_,rfl⟩;rw[hr]at hget
    have HGR:=O hr;clear hr
    cases r with
    |none=>
     have HF0:Hid (jU (xJ bl) (f+1) di depth all=all1):=O (by
      rw[HRE.out];have:jA (xJ bl) di=none:=by unfold jA;rw[HGR.out]
      rw[this]
      split<;>rfl)
     go_upto_region 4 with(fail);refine qL [3,1,1,3,3,3,3,3] ?_;simp only[qB];refine qY 24 (CellsAt.whole hb14) 32 hic ?_;try simp only[qC]
     refine qK (xE func33 (hget) ?_);rintro e w5 ⟨hm5,rfl⟩;refine⟨_,rfl,?_⟩;simp only[qB];refine qZ (fun _=>by go_simp;try with_reducible rfl) ?_;simp only[qC]
     refine qZ (fun _=>by go_simp;try with_reducible rfl) ?_;simp only[qB];go_upto_region 5 with(fail);refine qL [3,1,3,3,3,1,1,1,1] ?_;simp only[qB]
     refine qK (xE func158 (mDecode_any (b:=[]) (Sl.nil true w5 (fun _=>True) 1 yA) (by simp)) ?_);rintro e w6 ⟨hm6,cs,er,at_,rfl,her,hmc⟩;have hcs:=hmc.size
     have hone:=hmc.one;refine⟨_,rfl,?_⟩;simp only[qB];refine qZ (fun _=>by go_simp;try with_reducible rfl) ?_;simp only[qC]
     refine qZ (fun _=>by go_simp;try with_reducible rfl) ?_;simp only[qC];refine qK (zB aO (fun w7 hB7 hm7 hs7=>?_));try simp only[qC]
     refine qK (zB fZ (fun w8 hB8 hm8 hs8=>?_));try simp only[qC]
     refine kS rfl ?_;refine xU 163 0 cs hone 39 hcs (hm8.obj id hB7) (fun w9 hB9 hm9=>?_) (hoff:=by rw[hcs];exact Nat.le_of_eq (zD xP).symm)
     have hB8':=hm9.objB (by omega) hB8;try simp only[qC]
     refine qK (xU 255 0 #[.int .i64 er,.int .i64 at_] (by simp[Value.oneCell']) 2 rfl hB8' (fun wa hBa hma=>?_) (hoff:=by simp));simp only[qB]
     have hm4a:Mod qJ w4 wa:=((((hm5.trans0 hm6).trans0 hm7).trans0 hm8).transB hm9 (by have:=hm5.size;have:=hm6.size;omega)).transB hma (by have:=hm5.size;have:=hm6.size;have:=hm7.size;omega)
     have HF:Hid (ReachR w mb (jU (xJ bl) (f+1) di depth all) (.returned (.tuple #[])) wa):=O ⟨rfl,by rw[HF0.out];exact HM4.out.keep0 hm4a,HM04.out.trans hm4a (fun _ _ h=>h.elim)⟩
     clear hm5 hm6 hm7 hm8 hm9 hma hm4a hB7 hB8 hB8' hB9 hBa hmc hb14;go_upto_region 6 with(fail);refine qL [3,3,3,3,0,3,3,3,3,3,3] ?_;simp only[qB]
     try refine xC _ _ false (by rfl) (by rfl) (by rfl) ?_
     try simp only[qB]
     go_wp2
     go_end0
     exact HF.out
    |some m=>
     have hml:m.length<=4096:=by
      have h1:=HGR.out;rw[getB]at h1
      cases hf:eE di bl with
      |none=>rw[hf]at h1;cases h1
      |some b=>
       rw[hf]at h1;simp only[Option.map_some,Option.some.injEq]at h1;rw[<-h1];exact H.out.sz b (dT hf).1
     have HDO:Hid (jA (xJ bl) di=(kA m).map yJ):=O (by unfold jA;rw[HGR.out]);go_upto_region 4 with(fail);refine qL [3,1,1,3,3,3,3,3] ?_
     simp only[qB];refine qY 24 (CellsAt.whole hb14) 32 hic ?_;try simp only[qC]
     refine qK (xE func33 (hget) ?_);rintro e w5 ⟨hm5,bv,rfl,hbv⟩;refine⟨_,rfl,?_⟩;simp only[qB];refine qZ (fun _=>by go_simp;try with_reducible rfl) ?_
     simp only[qC];refine qZ (fun _=>by go_simp;try with_reducible rfl) ?_;simp only[qB];go_upto_region 5 with(fail);refine qL [3,1,3,3,3,1,1,1,1] ?_
     simp only[qB];refine qK (xE func158 (mDecode_any (Bts.sl hbv) hml) ?_);rintro e w6 ⟨hm6,cs,er,at_,rfl,her,hmc⟩;have hcs:=hmc.size;have hone:=hmc.one
     refine⟨_,rfl,?_⟩;simp only[qB];refine qZ (fun _=>by go_simp;try with_reducible rfl) ?_;simp only[qC]
     refine qZ (fun _=>by go_simp;try with_reducible rfl) ?_;simp only[qC];refine qK (zB aO (fun w7 hB7 hm7 hs7=>?_));try simp only[qC]
     refine qK (zB fZ (fun w8 hB8 hm8 hs8=>?_));try simp only[qC]
     refine kS rfl ?_;refine yL 163 hone 39 hcs (hm8.obj id hB7) (fun w9 hB9 hm9=>?_) (hoff:=by rw[hcs];exact(zD xP).symm)
     have hB8':=hm9.objB (by omega) hB8;try simp only[qC]
     refine qK (qT 255 #[.int .i64 er,.int .i64 at_] (by simp[Value.oneCell']) 2 rfl hB8' (fun wa hBa hma=>?_) (hoff:=by rfl));have hB9':=hma.objB (by omega) hB9
     simp only[qB];have h56:=hm5.size;have h66:=hm6.size;have h67:=hm7.size;have hm6a:Mod qJ w6 wa:=((hm7.trans0 hm8).transB hm9 (Nat.le_refl _)).transB hma (by omega)
     have hm4a:Mod qJ w4 wa:=(hm5.trans0 hm6).trans0 hm6a;have HMC:=O (hmc.keep0 hm6a)
     have hce:wa.cell? ⟨w7.heap.size,0,none⟩=some (.int .i64 er):=by simp[World.cell?,hBa]
     have HER:=O her;have HMa:=O (HM4.out.keep0 hm4a);have H4a:=O (H4.out.keep0 hm4a)
     have HM0a:Hid (Mod (fun k=>k=mb) w wa):=O (HM04.out.trans hm4a (fun _ _ h=>h.elim));generalize hb13:w7.heap.size=b13 at*
     generalize hb12:w6.heap.size=b12 at*;clear hm5 hm6 hm7 hm8 hm9 hma hm4a hm6a hB7 hB8 hB8' hB9 hBa hmc hb14 her hbv
     by_cases hez:er=0
     rotate_left
     ·have hF0:jU (xJ bl) (f+1) di depth all=all1:=by
       rw[HRE.out,HDO.out]
       have:kA m=none:=by
        cases hd:kA m with
        |none=>rfl
        |some q=>exact absurd (HER.out.2 (by rw[hd];rfl)) hez
       rw[this]
       simp
      have HF:Hid (ReachR w mb (jU (xJ bl) (f+1) di depth all) (.returned (.tuple #[])) wa):=O ⟨rfl,by rw[hF0];exact HMa.out,HM0a.out⟩;clear hF0
      go_upto_region 6 with(fail);refine qL [3,3,3,3,1,3,3,3,3,3,3] ?_;simp only[qB]
      try refine xC _ _ true (by rfl) (by rfl) (by rfl) ?_
      try simp only[qB]
      refine qG 33 hce ?_;try simp only[qC]
      refine xD hez ?_;simp only[qB];go_wp2
      go_end0
      exact HF.out
     ·subst hez
      obtain⟨M,hM⟩:∃M,kA m=some M:=Option.isSome_iff_exists.1 (HER.out.1 rfl);have hmc:=HMC.out;rw[hM]at hmc;replace hmc:ManC w5.heap.size wa cs M:=hmc
      by_cases hd4:4<depth
      ·have hz4:(depth:Int)>4:=by omega
       have HF:Hid (ReachR w mb (jU (xJ bl) (f+1) di depth all) (.returned (.tuple #[])) wa):=O ⟨rfl,by rw[HRE.out,if_pos hd4];exact HMa.out,HM0a.out⟩
       clear hmc;go_upto_region 6 with(fail);refine qL [3,3,3,3,1,3,3,3,3,3,3] ?_;simp only[qB]
       try refine xC _ _ true (by rfl) (by rfl) (by rfl) ?_
       try simp only[qB]
       refine qG 33 hce ?_;try simp only[qC]
       refine qN _ _ _ _ _ _ _ _ rfl rfl rfl rfl rfl false (by decide) ?_;simp only[qB];refine xD hz4 ?_;simp only[qB];go_wp2
       go_end0
       exact HF.out
      ·have hz4:¬(depth:Int)>4:=by omega
       have hlens:=decL_len hM;have hids:=decL_ids hM
       have hR0:jU (xJ bl) (f+1) di depth all=gM (xJ bl) f depth (yJ M) all1:=by
        rw[HRE.out,if_neg hd4,HDO.out,hM]
        rfl
       have HR0:=O hR0;have hdc:=mDescs_any hmc ⟨hlens.1,hlens.2.1⟩
       have hdl:(yJ M).length<=33:=by
        unfold yJ;simp only[List.length_append]
        split<;>simp<;>omega
       have HIDS:=O hids;obtain⟨ds,hds⟩:∃ds,yJ M=ds:=⟨_,rfl⟩;rw[hds]at hdc HR0 HIDS hdl;clear hR0 hlens hids hmc HMC hM hds HRE HDO HER
       go_upto_region 6 with(fail);refine qL [3,3,3,3,1,3,3,3,3,3,3] ?_;simp only[qB]
       try refine xC _ _ true (by rfl) (by rfl) (by rfl) ?_
       try simp only[qB]
       refine qG 33 hce ?_;try simp only[qC]
       refine qN _ _ _ _ _ _ _ _ rfl rfl rfl rfl rfl false (by decide) ?_;simp only[qB];refine xT hz4 ?_;simp only[qB];clear hce;go_upto_region 7 with(fail)
       refine qL [1,1,3,3] ?_;simp only[qB];refine qY 163 (CellsAt.whole hB9') 39 hcs ?_;try simp only[qC]
       refine qK (xE func159 hdc ?_);rintro e wb ⟨hmb',dv,rfl,hgd⟩;have HGD:=O hgd;obtain⟨dad,dcap,rfl⟩:=hgd.slice;clear hgd;refine⟨_,rfl,?_⟩
       try simp only[qC]
       refine xF ?_;simp only[qB]
       have HRL:Hid (fK wb mb (xJ bl) f depth ds all1 (.int .i64 (0:Nat)) wb):=O ⟨0,Nat.zero_le _,rfl,HMa.out.keep0 hmb',Mod.refl _ _⟩
       have H4b:=O (H4a.out.keep0 hmb');have HM0b:Hid (Mod (fun k=>k=mb) w wb):=O (HM0a.out.trans hmb' (fun _ _ h=>h.elim))
       have hmbb:mb<wa.heap.size:=HMa.out.lt;have hwab:wa.heap.size<=wb.heap.size:=hmb'.size
       have hgl:∀q,(Value.slice dad ds.length dcap).ownBlock=some q->q≠mb:=fun q hq=>by
        have:=(HGD.out.lt hq).1;omega
       clear hmb' hB9' hdc;go_wp2
       go_loopw [65] (fK wb mb (xJ bl) f depth ds all1) (fun i _=>ds.length-(intOf i).toNat)
       case atStart=>exact HRL.out
       case round=>
        rename iN=>wr
        obtain⟨k,hk,rfl,hMr,hmr⟩:=hrel;have HMR:=O hMr;have HmR:=O hmr;have hmbr:mb<wr.heap.size:=hMr.lt
        by_cases hlt:k<ds.length
        ·have hzk:(k:Int)<(ds.length:Nat):=by omega
         have hgr:GatD wa.heap.size wr (.slice dad ds.length dcap) ds:=HGD.out.keep hmr (fun q hq e=>hgl q hq e)
         obtain⟨g,cap',cur,hq,hgc,hcc,hsz,-,-⟩:=hgr.at sL k hlt
         cases hq
         have hfs:=foldM_succ (xJ bl) f depth ds all1 k hlt;have hdid:=HIDS.out ds[k] (List.getElem_mem _);generalize ds[k]=d at*;rw[aW hdid]at hcc
         have hdsz:(zG d).size=35:=zQ hdid;have hdic:(qA d.id).size=32:=by rw[qD,hdid]
         have hdone:∀c∈zG d,c.oneCell'=true:=pJ _ _ _ _;have HFS:=O hfs;clear hfs hMr hmr hgr;go_upto_region 9 with(fail)
         refine qL [3,1,1,1] ?_;simp only[qB];refine zC 161 35 hlt ?_;simp only[qC];refine qY 46 hcc 35 hdsz ?_;try simp only[qC]
         refine qK (zB descZ_i (fun wc hBc hmc hsc=>?_));try simp only[qC]
         refine kS rfl ?_;refine yL 46 hdone 35 hdsz hBc (fun wd' hBd hmd=>?_) (hoff:=by rw[hdsz];exact(zQ xP).symm);simp only[qB]
         have hmrd:Mod qJ wr wd':=hmc.transB hmd (Nat.le_refl _)
         have hcm:wd'.cell? ⟨wr.heap.size,0,none⟩=some (.int .i64 d.media):=by rw[cell_of_row _ _ _ _ _ _ hBd];rfl
         have hci:CellsAt wd' wr.heap.size 1 (qA d.id):=CellsAt.of_obj hBd descRow_at1;replace HMR:=O (HMR.out.keep0 hmrd)
         replace HmR:Hid (Mod (fun q=>q=mb) wb wd'):=O (HmR.out.trans hmrd (fun _ _ h=>h.elim));have Hd:=O (H4b.out.keepM hmb HmR.out)
         have hmbd:mb<wd'.heap.size:=HMR.out.lt;generalize hb15:wr.heap.size=b15 at*;clear hmc hmd hmrd hBc hBd hcc hgc hsz;go_upto_region 10 with(fail)
         go_cut [76] (fun s wx=>s=.bool (jV d)/\wx=wd')
         case first=>
          by_cases h3:d.media=3
          ·have hz3:(d.media:Int)=3:=by omega
           have ht:jV d=true:=by simp[jV,h3]
           refine qL [3,1,3,3,3,0,3,3] ?_;simp only[qB];refine qG 3 hcm ?_;try simp only[qC]
           refine xD hz3 ?_;simp only[qB];go_wp2
           go_meet
           case rel=>exact⟨by rw[ht],rfl⟩
          ·have hz3:¬(d.media:Int)=3:=by omega
           by_cases h4:d.media=4
           ·have hz4':(d.media:Int)=4:=by omega
            have ht:jV d=true:=by simp[jV,h4]
            refine qL [3,1,3,3,3,1,3,3] ?_;simp only[qB];refine qG 3 hcm ?_;try simp only[qC]
            refine xT hz3 ?_;simp only[qB];refine qG 3 hcm ?_;try simp only[qC]
            refine xD hz4' ?_;simp only[qB];go_wp2
            go_meet
            case rel=>exact⟨by rw[ht],rfl⟩
           ·have hz4':¬(d.media:Int)=4:=by omega
            have ht:jV d=false:=by simp[jV,h3,h4]
            refine qL [3,1,3,3,3,1,3,3] ?_;simp only[qB];refine qG 3 hcm ?_;try simp only[qC]
            refine xT hz3 ?_;simp only[qB];refine qG 3 hcm ?_;try simp only[qC]
            refine xT hz4' ?_;simp only[qB];go_wp2
            go_meet
            case rel=>exact⟨by rw[ht],rfl⟩
         case rest=>
          obtain⟨rfl,hw⟩:=hcut;obtain rfl:=hw.symm;clear hcm;obtain⟨tr,htr⟩:∃q,jV d=q:=⟨_,rfl⟩;rw[htr]at HFS |-;clear htr
          cases tr with
          |true=>
           have hrec:=IH.out d.id (depth+1) _ _ hdid (by omega) (by omega) (by omega) Hd.out HMR.out;go_upto_region 11 with(fail);refine qL [3,3,1,3,3,3,1] ?_
           simp only[qB];refine qY 24 hci 32 hdic ?_;simp only[qB];refine jH ((depth+1:Nat):Int) ?_;simp only[qB];refine qK (xE func87 (hrec) ?_)
           rintro e we ⟨rfl,hMe,hme⟩
           have HR:Hid (fK wb mb (xJ bl) f depth ds all1 (.int .i64 ((k+1:Nat):Int)) we):=O ⟨k+1,by omega,rfl,by rw[HFS.out];exact hMe,HmR.out.trans hme (fun _ _ h=>h)⟩
           refine⟨_,rfl,?_⟩;simp only[qB];clear hMe hme hci hrec;go_wp2
           go_roundw
           case rel=>exact HR.out
           case measure=>simp[intOf];omega
          |false=>
           have HLK:=O (mark_look d.id (gM (xJ bl) f depth (ds.take k) all1))
           obtain⟨kk2,hkk2⟩:∃q,(qR d.id (gM (xJ bl) f depth (ds.take k) all1)).getD 0=q:=⟨_,rfl⟩
           obtain⟨is2,his2⟩:∃q,(qR d.id (gM (xJ bl) f depth (ds.take k) all1)).isSome=q:=⟨_,rfl⟩;rw[hkk2,his2]at HLK;have HIS2:=O his2;clear hkk2 his2
           go_upto_region 12 with(fail);refine qL [3,3,1,1,3,3,3,1,1,3] ?_;simp only[qB];refine qY 24 hci 32 hdic ?_;try simp only[qC]
           refine cF rfl (vL sP HMR.out d.id hdid 144 152 underlying144 (kE 0) cmarkZ _ _ true (by rfl) (by rfl) (by rfl) _ HLK.out) trivial ?_;simp only[qB]
           refine qZ (fun _=>by go_simp;try with_reducible rfl) ?_;simp only[qC];refine qZ (fun _=>by go_simp;try with_reducible rfl) ?_;simp only[qC]
           refine qK (zB cmarkZ (fun we hBe hme hse=>?_));try simp only[qC]
           refine qK (xU 152 0 #[.int .i64 kk2] (linkV_one _) 1 rfl hBe (fun wf hBf hmf=>?_) (hoff:=by simp));simp only[qB]
           have hmdf:Mod qJ wd' wf:=hme.transB hmf (Nat.le_refl _);have hcf:=hci.keep hmdf id;have HMf:=O (HMR.out.keep0 hmdf)
           have HmF:Hid (Mod (fun q=>q=mb) wb wf):=O (HmR.out.trans hmdf (fun _ _ h=>h.elim));clear hme hmf hmdf hBe hBf hse hci
           cases is2 with
           |true=>
            have HR:Hid (fK wb mb (xJ bl) f depth ds all1 (.int .i64 ((k+1:Nat):Int)) wf):=O ⟨k+1,by omega,rfl,by rw[HFS.out];simp only[Bool.false_eq_true,if_false];unfold rW;rw[if_pos HIS2.out];exact HMf.out,HmF.out⟩
            clear hcf;go_wp2
            go_roundw
            case rel=>exact HR.out
            case measure=>simp[intOf];omega
           |false=>
            go_upto_region 14 with(fail);refine qL [3,3,1,0,1] ?_;simp only[qB];refine qY 24 hcf 32 hdic ?_;try simp only[qC]
            refine yV built_cmark0 ?_;simp only[qC];refine qH rfl (fun K hK=>?_)
            refine dI sP HMf.out d.id hdid 144 152 underlying144 _ _ _ (kE ((0:Nat):Int)) (by rfl) (by rfl) (by rfl) (by rfl) (fun wg hMg hmg=>?_)
            rw[marks_put]at hMg
            have HR:Hid (fK wb mb (xJ bl) f depth ds all1 (.int .i64 ((k+1:Nat):Int)) wg):=O ⟨k+1,by omega,rfl,by rw[HFS.out];simp only[Bool.false_eq_true,if_false];unfold rW;rw[if_neg (by rw[HIS2.out];simp)];exact hMg,HmF.out.trans hmg (fun _ _ h=>h)⟩
            refine hK _ _ trivial ?_;clear hMg hmg;clear hK K;simp only[qB];clear hcf;go_wp2
            go_roundw
            case rel=>exact HR.out
            case measure=>simp[intOf];omega
        ·have hzk:¬(k:Int)<(ds.length:Nat):=by omega
         obtain rfl:k=ds.length:=by omega
         have HF:Hid (ReachR w mb (jU (xJ bl) (f+1) di depth all) (.returned (.tuple #[])) wr):=O ⟨rfl,by
          rw[HR0.out];have h1:=HMR.out;rw[List.take_length]at h1
          exact h1,HM0b.out.trans HmR.out (fun _ _ h=>h)⟩
         clear hMr hmr;go_wp2
         go_end0
         exact HF.out
end
end
section
open Go.RowKit Go.Proofs.Tryz Go.Lib
def KC(W W':iN):Prop:=Mod (fun k=>∀o,W.heap[k]?=some o->o.isCells=false) W W'
theorem KC.refl(W:iN):KC W W:=Mod.refl _ W
theorem KC.obj{W W':iN}(h:KC W W'){k:Nat}{o:Obj}(ho:W.heap[k]?=some o)(hc:o.isCells=true):W'.heap[k]?=some o:=
 Mod.obj h (fun hs=>by rw[hs o ho]at hc;cases hc) ho
theorem KC.trans{A B C:iN}(h:KC A B)(k:KC B C):KC A C:=
 Mod.trans h k (fun i _ hs o ho=>by
  cases hc:o.isCells with
  |false=>rfl
  |true=>rw[<-hs o (h.obj ho hc),hc])
theorem KC.of_mod(h:Mod S W W')(hS:∀k o,S k->W.heap[k]?=some o->o.isCells=false):KC W W':=
 h.mono fun k _ hk o ho=>hS k o hk ho
theorem KC.of0(h:Mod qJ W W'):KC W W':=KC.of_mod h fun _ _ h=>h.elim
theorem KC.putObj{W:iN}{l:Nat}{o:Obj}(o':Obj)(h:W.heap[l]?=some o)(hc:o.isCells=false):KC W (W.putObj l o'):=
 KC.of_mod (S:=fun k=>k=l) ((Mod.refl _ W).grown (grownBy_putObj' W l o') (fun k e _=>by cases e;rfl)) (fun k o1 e ho=>by
  have e:k=l:=e
  subst e;rw[h]at ho;cases ho;exact hc)
theorem KC.cell{W W':iN}(h:KC W W'){p:Addr}{v:Value}(hc:W.cell? p=some v):W'.cell? p=some v:=by
 obtain⟨o,ho,hk⟩:=cells_of_cell hc;exact(World.cell?_of_block ((h.obj ho hk).trans ho.symm)).trans hc
theorem KC.cells(h:KC W W'){o:Nat}(hc:CellsAt W b o cs):CellsAt W' b o cs:=fun i hx=>by
 have e:cs[i]?=some cs[i]:=Array.getElem?_eq_getElem hx;rw[e];exact h.cell ((hc i hx).trans e)
def Gives(P:Program){α:Type}(gf:Nat)(lb:iL)(encs:α->iL)(xs:List α)(w:iN):Prop:=
 ∀(l:Nat)(J:List α->iN->Prop)(W:iN),Mod qJ w W->OwnFrom W.heap.size J->
  (∀pre x rest W1,xs=pre++x::rest->J pre W1->YieldAt Fence.wide 0 P l (encs x) W1 fun e W'=>e=.returned (.bool true)/\J (pre++[x]) W'/\KC W1 W'/\KeepsFrom W.heap.size W1 W')->
  J [] W->Calls P gf (#[.func (.yield l) #[] #[]]++lb) W fun e W'=>(∃v,e=.returned v)/\J xs W'
theorem OwnFrom.mod0{β:Type}{I:β->iN->Prop}(h:OwnFrom B I){s:β}(hs:I s W)(hm:Mod qJ W W'):I s W':=
 h s W W' none hs hm.grownNone (fun r e=>by cases e)
theorem yield0{m':Nat}(h:YieldAt Fence.wide m P l args W R):YieldAt Fence.wide m' P l args W R:=by
 obtain⟨fn,tmps,assign,body,hy,hR⟩:=h;exact⟨fn,tmps,assign,body,hy,hR.1,fun c cs _=>hR.2 c cs (room_wide _)⟩
theorem yield_round(h:YieldAt Fence.wide m P l args W R):YieldAt (Fence.wide.inRound l₀) m P l args W R:=h
theorem aD{α:Type}{g:Operand}{ps:Array Tmp}{assign body:Code}(hg:a.eval g=.func (.func gf) #[] lb)
 (eg:∀args w,(callFunc gf args).run P w=.ok (.enter gf args) w){encs:α->iL}{xs:List α}(hseq:Gives P gf lb encs xs w0)(hb0:Mod qJ w0 w)(hps:∀x,(encs x).size=ps.size)
 (I:List α->iN->Prop)(hI:OwnFrom w.heap.size I)(h0:I [] w)(Ax:α->Act->iN->Prop)(hAx:∀x a',OwnFrom w.heap.size (fun(_:Unit) W=>Ax x a' W))
 (hassign:∀(l:Nat)(pre:List α)(x:α)(rest:List α)(W:iN)(K:Act->iN->Prop),xs=pre++x::rest->I pre W->(∀a' W',KeepsFrom w.heap.size W W'->KC W W'->I pre W'->Ax x a' W'->K a' W')->
  assign.wpIn (Fence.wide.inRound l) 0 P (Exit.then K (fun _ _ _=>False)) { tmps:=(ps.zip (encs x)).foldl (fun t (p,v)=>t.setIfInBounds p v) a.tmps,defers:=[] } W)
 (hbody:∀(l:Nat)(pre:List α)(x:α)(rest:List α)(a':Act)(W:iN),xs=pre++x::rest->I pre W->Ax x a' W->
  body.wpIn (Fence.wide.inRound l) 0 P (Exit.then (fun _ W'=>KeepsFrom w.heap.size W W'/\KC W W'/\I (pre++[x]) W') (fun _ _ _=>False)) a' W)
 (hdone:∀(D:Nat)(W:iN),w.heap.size<=D->I xs W->W.heap[D]?=some (.deferred (some []))->Q .normal { a with defers:={ target:=.collected D,args:=#[] }::a.defers } W):
 (Code.rangeFunc g ps assign body).wpIn Fence.wide n P Q a w:=by
 refine wpIn_rangeFunc ?_;intro fn hfn;rw[show Fence.wide.round=none from rfl]
 obtain⟨rec,hrec⟩:∃rec:LoopState->Loop,rec=fun st=>{ state:=st,pending:=none,fn,tmps:=a.tmps,params:=ps,assign,body,defers:=w.heap.size }:=⟨_,rfl⟩
 obtain⟨W1,hW1⟩:∃W1,(w.alloc (.deferred (some []))).alloc (.loop (rec .ready))=W1:=⟨_,rfl⟩;have hs1:W1.heap.size=w.heap.size+2:=by rw[<-hW1];simp
 have hL1:W1.heap[w.heap.size+1]?=some (.loop (rec .ready)):=by
  rw[<-hW1];have:=World.alloc_heap_new (w.alloc (.deferred (some []))) (.loop (rec .ready));rwa[World.size_alloc]at this
 have hK1:W1.heap[w.heap.size]?=some (.deferred (some [])):=by
  rw[<-hW1];exact(Below.heap_alloc _ _ _ (by simp)).trans (World.alloc_heap_new w _)
 have hI1:I [] W1:=by rw[<-hW1];exact hI.alloc _ (hI.alloc _ h0)
 have hb1:Mod qJ w0 W1:=by rw[<-hW1];exact(hb0.alloc _).alloc _
 refine⟨w.heap.size+1,[{ target:=.collected w.heap.size,args:=#[] }],W1,{ target:=.fn (.func gf) lb,args:=#[.func (.yield (w.heap.size+1)) #[] #[]] },W1,gf,
  #[.func (.yield (w.heap.size+1)) #[] #[]]++lb,W1,?_,?_,?_,?_,fun h=>(by simp[Fence.wide]at h),?_⟩
 ·rw[<-hW1,hrec];exact run_enterLoop_outer _ _ _ _ _
 ·simp only[resolve,hg]
  simp[go_sem]
 ·intro f' _;trivial
 ·simp[invoke,go_sem,eg]
 ·have hold:∀{A B:iN}{row:Option Nat}{k:Nat}{o:Obj},A.grownBy B row->(∀r,row=some r->W1.heap.size<=r/\∃o:Obj,A.heap[r]?=some o/\o.isCells=false)->k<W1.heap.size->A.heap[k]?=some o->B.heap[k]?=some o:=
   fun hg hr hk ho=>(hg.block _ (Array.getElem?_eq_some_iff.1 ho).1 (fun e=>by have:=(hr _ e.symm).1;omega)).trans ho
  have hcalls:=hseq (w.heap.size+1) (fun pre W=>I pre W/\W.heap[w.heap.size+1]?=some (.loop (rec .ready))/\W.heap[w.heap.size]?=some (.deferred (some []))) W1 hb1
   (fun s A B row hs hg' hr=>⟨hI s A B row hs.1 hg' (fun r e=>⟨by have:=(hr r e).1;omega,(hr r e).2⟩),hold hg' hr (by omega) hs.2.1,hold hg' hr (by omega) hs.2.2⟩)
   ?_ ⟨hI1,hL1,hK1⟩
  ·refine(callsIn_wide.2 hcalls).mono ?_
   rintro e W2 ⟨⟨v,rfl⟩,hi,hl,hk⟩
   exact⟨none,_,by have:=run_endLoop (P:=P) hl (by rw[hrec];simp);rw[hrec]at this;exact this,hdone _ _ (Nat.le_refl _) (hI.putObj _ hi (by omega) hl rfl) ((World.putObj_heap_other (by omega)).trans hk)⟩
  ·rintro pre x rest W hxs ⟨hi,hl,hk⟩
   have hlt:w.heap.size+1<W.heap.size:=(Array.getElem?_eq_some_iff.1 hl).1;have hy:=run_yield (P:=P) (args:=encs x) hl (by rw[hrec];exact hps x);rw[hrec]at hy
   refine⟨fn,_,assign,body,hy,roundIn_of_wpIn hfn (hassign _ pre x rest W _ hxs hi ?_)⟩;clear hy;intro a' Wa hkfa hkca hia hax;have hla:=hkfa.same _ _ (by omega) hl rfl
   have hka:=hkfa.same _ _ (Nat.le_refl _) hk rfl;have hlta:w.heap.size+1<Wa.heap.size:=(Array.getElem?_eq_some_iff.1 hla).1
   refine⟨_,run_beginRound hla (by rw[hrec]),?_⟩;obtain⟨Wb,hWb⟩:∃Wb,Wa.putObj (w.heap.size+1) (.loop { rec .ready with state:=.busy })=Wb:=⟨_,rfl⟩
   have hlb:Wb.heap[w.heap.size+1]?=some (.loop { rec .ready with state:=.busy }):=by rw[<-hWb];exact World.putObj_heap_same hlta
   have hkb:Wb.heap[w.heap.size]?=some (.deferred (some [])):=by rw[<-hWb];exact(World.putObj_heap_other (by omega)).trans hka
   have hcb:KC Wa Wb:=by rw[<-hWb];exact KC.putObj _ hla rfl
   have hfb:KeepsFrom W1.heap.size Wa Wb:=by
    rw[<-hWb];exact KeepsFrom.of_grownBy (grownBy_putObj' Wa _ _) (fun j e=>by cases e;omega)
   have hib:I pre Wb:=by rw[<-hWb];exact hI.putObj _ hia (by omega) hla rfl
   have haxb:Ax x a' Wb:=by rw[<-hWb];exact(hAx x a').putObj (s:=()) _ hax (by omega) hla rfl
   rw[hWb];refine wpIn_mono (hbody _ pre x rest a' _ hxs hib haxb) ?_;rintro e a3 W3 hp
   cases e with
   |normal=>
    obtain⟨hk3,hc3,hi3⟩:=hp;have hl3:=hk3.same _ _ (by omega) hlb rfl;have hq3:=hk3.same _ _ (Nat.le_refl _) hkb rfl;have hr:=run_endRound (P:=P) none hl3
    rw[hrec]at hr hl3
    refine⟨_,_,hr,rfl,⟨hI.putObj _ hi3 (by omega) hl3 rfl,?_,(World.putObj_heap_other (by omega)).trans hq3⟩,((hkca.trans hcb).trans hc3).trans (KC.putObj _ hl3 rfl),?_⟩
    ·rw[hrec];exact World.putObj_heap_same (Array.getElem?_eq_some_iff.1 hl3).1
    ·refine KeepsFrom.trans (KeepsFrom.trans (KeepsFrom.trans ?_ hfb) ?_) (KeepsFrom.of_grownBy (grownBy_putObj' W3 _ _) (fun j e=>by cases e;omega))
     ·exact⟨hkfa.size,fun k o hb ho hc=>hkfa.same k o (by omega) ho hc⟩
     ·exact⟨hk3.size,fun k o hb ho hc=>hk3.same k o (by omega) ho hc⟩
   |_=>exact hp.elim
end
section
open Go.RowKit Go.Shelf Go.Proofs.Tryz Go.Lib
theorem eK(w:iN)(ad:Option Addr)(n cap:Nat):Calls prog 119 #[.slice ad n cap] w fun e w'=>e=.returned (.func (.func 194) #[] #[iO w.heap.size])/\w'=w.alloc (.cells #[.slice ad n cap] 25):=by
 have hmf:=jK;go_enter func119,ntmps119;go_wp2;go_ret;exact⟨rfl,rfl⟩
def ValRel(ids:List iK)(J:List iK->iN->Prop)(W0:iN)(i:Value)(w:iN):Prop:=
 ∃k:Nat,k<=ids.length/\i=.int .i64 k/\J (ids.take k) w/\KC W0 w
theorem vS{α:Type}{l:List α}(hk:k<l.length):l=l.take k++l[k]::l.drop (k+1):=by
 rw[List.getElem_cons_drop hk,List.take_append_drop]
theorem pZ{α:Type}{l:List α}(hk:k<l.length):l.take k++[l[k]]=l.take (k+1):=(List.take_succ_eq_append_getElem hk).symm
theorem bP{own:Bool}{ids:List iK}(hB:w.heap[B]?=some (.cells #[v] 25 (0,0)))(hv:Sl own w G 32 IdC v ids):
 Gives prog 194 #[iO B] (fun x=>#[tQ x]) ids w:=by
 intro y J W hW hJ hY h0;have hBW:=hW.obj id hB;obtain⟨ad,cap,rfl,hle,hat⟩:=Sl.at (hv.keep0 hW);have HAT:=O hat
 have hcB:W.cell? ⟨B,0,none⟩=some (.slice ad ids.length cap):=by simp[World.cell?,hBW]
 have HR0:Hid (ValRel ids J W (.int .i64 (0:Nat)) W):=O ⟨0,Nat.zero_le _,rfl,by rw[List.take_zero];exact h0,KC.refl _⟩;clear hB hv hat h0 hW
 go_enter func194,ntmps194;go_upto_region 0 with(fail);refine qL [1,3,3] ?_;simp only[qB];refine qG 25 hcB ?_;try simp only[qC]
 refine xF ?_;simp only[qB];clear hcB hBW;go_wp2
 go_loopw [7] (ValRel ids J W) (fun i _=>ids.length-(intOf i).toNat)
 case atStart=>exact HR0.out
 case round=>
  rename iN=>wr
  obtain⟨k,hk,rfl,hJr,hkc⟩:=hrel
  by_cases hlt:k<ids.length
  ·have hz:(k:Int)<(ids.length:Nat):=by omega
   obtain⟨b,off,rfl,-,-,hcc⟩:=HAT.out k hlt;obtain⟨cs,-,⟨rfl,hx32⟩,hcA⟩:=hcc k hlt;have hsp:=vS hlt;have hsn:=pZ hlt;generalize ids[k]=x at*
   have hic:(qA x).size=32:=by rw[qD,hx32]
   have hcr:=hkc.cells hcA;have HSP:=O hsp;have HSN:=O hsn;clear hsp hsn hcc hcA;go_upto_region 2 with(fail);refine qL [3,1,1,1] ?_;simp only[qB]
   refine zC 25 32 hlt ?_;simp only[qC];refine qY 24 hcr 32 hic ?_;try simp only[qC]
   refine qK (zB eC (fun w2 hB2 hm2 hs2=>?_));try simp only[qC]
   refine qK (qT 24 (qA x) (qQ _) 32 hic hB2 (fun w3 hB3 hm3=>?_) (hoff:=by rw[hic,qD];simp));simp only[qB]
   have hmr3:Mod qJ wr w3:=hm2.transB hm3 (Nat.le_refl _);have hJ3:=OwnFrom.mod0 hJ hJr hmr3;have hk3:=hkc.trans (KC.of0 hmr3);have hYk:=hY _ x _ w3 HSP.out hJ3
   have hca:CellsAt w3 wr.heap.size 0 (qA x):=CellsAt.whole hB3;generalize hb7:wr.heap.size=b7 at*;clear hkc hm2 hm3 hmr3 hB2 hcr hs2 hJr hJ3 hB3
   go_upto_region 3 with(fail);refine(wpIn_wide (n:=1)).1 (wpIn_region_lit ?_);refine wpListIn_plain rfl fun K hK=>yE (fun c h=>by cases h) ?_
   refine xX (dA _ (by rfl)) ?_;refine hK _ _ ?_;clear hK K;refine wpListIn_plain rfl fun K hK=>yE (fun c h=>by cases h) ?_
   refine xX (pI 24 _ (by rfl) b7 0 (by rfl) (qA x) hca _ underlying24 rfl 32 (by kernel_rfl) hic) ?_;refine hK _ _ ?_;clear hK K
   refine wpListIn_plain rfl fun K hK=>aC (l:=y) _ _ _ (by rfl) (by rfl) (tQ x) (by rfl) hYk (fun e' w5 he'=>?_);obtain⟨rfl,hJ5,hk5,-⟩:=he';refine⟨_,rfl,?_⟩
   refine hK _ _ ?_;clear hK K;refine wpListIn_plain rfl fun K hK=>yE (fun c h=>by cases h) ?_;refine xX (sW _ _ true (by rfl) (by rfl)) ?_;refine hK _ _ ?_
   clear hK K;simp only[qC];refine wpListIn_nil ?_
   have HR:Hid (ValRel ids J W (.int .i64 ((k+1:Nat):Int)) w5):=O ⟨k+1,by omega,rfl,by rw[<-HSN.out];exact hJ5,hk3.trans hk5⟩;clear hk3 hk5 hJ5 hYk hca;go_wp2
   go_roundw
   case rel=>exact HR.out
   case measure=>simp[intOf];omega
  ·have hz:¬(k:Int)<(ids.length:Nat):=by omega
   obtain rfl:k=ids.length:=by omega
   rw[List.take_length]at hJr;have HJ:=O hJr;clear hJr;go_wp2
   go_end0
   exact⟨⟨_,rfl⟩,HJ.out⟩
def pK(ids:List iK)(all:List (iK×Value)):List (iK×Value):=ids.foldl (fun a x=>kD x (.agg #[]) a) all
theorem addsL_snoc(ids:List iK)(x:iK)(all:List (iK×Value)):pK (ids++[x]) all=kD x (.agg #[]) (pK ids all):=by simp[pK]
theorem built_wmark:prog.built 216 []=some #[]:=by kernel_rfl
def AddI(w:iN)(mb:Nat)(all:List (iK×Value))(pre:List iK)(W:iN):Prop:=
 MapIs tQ bB W mb (pK pre all)/\Mod (fun k=>k=mb) w W/\W.heap[w.heap.size]?=some (.cells #[.map (some mb)] 200 (0,0))
theorem addI_own{all:List (iK×Value)}(hmb:mb<w.heap.size):OwnFrom (w.heap.size+1) (AddI w mb all):=by
 intro s A B row hs hg hr;obtain⟨h1,h2,h3⟩:=hs;have hm:Mod (fun k=>some k=row) A B:=Mod.of_grown hg fun r e=>e.symm
 refine⟨h1.keep hm (fun e=>by have:=(hr _ e.symm).1;omega),h2.trans hm (fun k hk e=>by have:=(hr k e.symm).1;omega),hm.obj (fun e=>by have:=(hr _ e.symm).1;omega) h3⟩
def AddAx(mb:Nat)(fv:Value)(Bs:Nat)(x:iK)(a:Act)(w:iN):Prop:=
 ∃Bx,Bs<Bx/\w.heap[Bx]?=some (.cells (qA x) 24 (0,0))/\a={ tmps:=#[.map (some mb),fv,iO Bs,undef,.map none,iO Bx,fv,tQ x,undef,undef,undef,undef],defers:=[] }
theorem fN{ids:List iK}{all:List (iK×Value)}(eg:∀args w,(callFunc gf args).run prog w=.ok (.enter gf args) w)(hG:Gives prog gf lb (fun x=>#[tQ x]) ids w)
 (hok:∀x∈ids,x.length=32)(hM:MapIs tQ bB w mb all):
 Calls prog 115 #[.map (some mb),.func (.func gf) #[] lb] w fun e w'=>e=.returned (.map (some mb))/\MapIs tQ bB w' mb (pK ids all)/\Mod (fun k=>k=mb) w w':=by
 have hmb:=hM.lt;refine(callsIn_wide (n:=3)).1 (callsIn_of_wp_marks func115 rfl trivial ?_ rfl)
 simp only[ntmps115,List.size_toArray,List.length_cons,List.length_nil,Nat.reduceAdd,Nat.reduceSub,Array.replicate_succ,Array.replicate_zero,List.push_toArray,List.append_toArray,List.nil_append,List.cons_append]
 gi_wp2
 have hm0:=zI w (.cells #[.map (some mb)] 200);have hv0:=heap_alloc_new w (.cells #[.map (some mb)] 200)
 have hs0:(w.alloc (.cells #[.map (some mb)] 200)).heap.size=w.heap.size+1:=by simp
 have hh0:AddI w mb all [] (w.alloc (.cells #[.map (some mb)] 200)):=⟨hM.keep0 hm0,hm0.mono (fun _ _ h=>h.elim),hv0⟩
 generalize w.alloc (.cells #[.map (some mb)] 200)=W0 at*
 refine aD (gf:=gf) (lb:=lb) (by rfl) eg hG hm0 (fun _=>rfl)
  (AddI w mb all) (by rw[hs0];exact addI_own hmb) hh0
  (AddAx mb (.func (.func gf) #[] lb) w.heap.size)
  (fun x a' s A B row hs hg hr=>by
   obtain⟨Bx,hlt,h1,rfl⟩:=hs;refine⟨Bx,hlt,(hg.block Bx (Array.getElem?_eq_some_iff.1 h1).1 (fun e=>?_)).trans h1,rfl⟩;obtain⟨_,o,ho,hc⟩:=hr Bx e.symm
   rw[h1]at ho;cases ho;cases hc)
  ?assign ?body ?done
 case assign=>
  rintro l pre x rest W K hxs ⟨hMW,hmW,hbW⟩ hK0;have hx32:x.length=32:=hok x (by rw[hxs];simp);have hic:(qA x).size=32:=by rw[qD,hx32]
  simp only[List.zip_toArray,List.zip_cons_cons,List.zip_nil_right,List.foldl_toArray',List.foldl_cons,List.foldl_nil,List.setIfInBounds_toArray,ss,sz]
  refine wpIn_region_lit ?_;refine zW rfl rfl fun K hK=>?_;refine zB eC (fun w3 hB3 hm3 hs3=>?_);refine hK _ _ ?_;clear hK K
  refine zW rfl rfl fun K hK=>?_;refine xU 24 0 (qA x) (qQ x) 32 hic hB3 (fun w4 hB4 hm4=>?_) (hoff:=by rw[hic,qD];simp)
  have hm24:Mod qJ W w4:=hm3.transB hm4 (Nat.le_refl _);rw[yQ (by rw[hic,qD];simp)]at hB4;refine hK _ _ ?_;clear hK K;refine wpListIn_nil ?_
  have hlt:=(Array.getElem?_eq_some_iff.1 hbW).1
  refine hK0 _ _ (hm24.keepsOthers0.from _) (KC.of0 hm24) ⟨hMW.keep0 hm24,hmW.trans hm24 (fun _ _ h=>h.elim),hm24.obj id hbW⟩ ⟨W.heap.size,hlt,hB4,rfl⟩
 case body=>
  rintro l pre x rest a' W hxs ⟨hMW,hmW,hbW⟩ ⟨Bx,hBs,hBx,rfl⟩;have hx32:x.length=32:=hok x (by rw[hxs];simp)
  have hic:(qA x).size=32:=by rw[qD,hx32]
  have hca:CellsAt W Bx 0 (qA x):=CellsAt.whole hBx;have hcb:W.cell? ⟨w.heap.size,0,none⟩=some (.map (some mb)):=by simp[World.cell?,hbW]
  refine wpIn_block ?_;refine wpIn_region_lit ?_;refine zW rfl rfl fun K hK=>?_
  refine xX (sI 200 _ (by rfl) w.heap.size 0 (by rfl) _ hcb _ underlying200 rfl) ?_;refine hK _ _ ?_;clear hK K;refine zW rfl rfl fun K hK=>?_
  refine xX (pI 24 _ (by rfl) Bx 0 (by rfl) (qA x) hca _ underlying24 rfl 32 (by kernel_rfl) hic) ?_;refine hK _ _ ?_;clear hK K;simp only[qC]
  refine zW rfl rfl fun K hK=>?_;refine xX (zH 216 [] [] _ (by rfl) (by rfl) built_wmark) ?_;refine hK _ _ ?_;clear hK K;simp only[qC]
  refine zW rfl rfl fun K hK=>?_;refine dI sP hMW x hx32 200 216 underlying200 _ _ _ (.agg #[]) (by rfl) (by rfl) (by rfl) (by rfl) (fun w4 hM4 hm4=>?_)
  refine hK _ _ ?_;clear hK K;refine wpListIn_nil ?_
  have hmapb:∃es clk,W.heap[mb]?=some (.map es clk):=by
   obtain⟨⟨es,clk,h1,_⟩,_⟩:=hMW;exact⟨es,clk,h1⟩
  obtain⟨es,clk,hmo⟩:=hmapb;refine⟨?_,KC.of_mod hm4 (fun k o e ho=>?_),?_,?_,?_⟩
  ·exact KeepsFrom.of_grownBy hm4.grownAt (fun j e=>by cases e;omega)
  ·have e:k=mb:=e
   subst e;rw[hmo]at ho;cases ho;rfl
  ·rw[addsL_snoc];exact hM4
  ·exact hmW.trans hm4 (fun _ _ h=>h)
  ·exact hm4.obj (fun e=>by have e:w.heap.size=mb:=e;omega) hbW
 case done=>
  rintro D W hD ⟨hMW,hmW,hbW⟩ hK;have hcb:W.cell? ⟨w.heap.size,0,none⟩=some (.map (some mb)):=by simp[World.cell?,hbW]
  gi_wp2
  refine⟨by simp,.inl ⟨_,_,rfl,run_takeDeferred hK,?_⟩⟩;refine⟨_,results_tmp rfl _ _ _,rfl,?_,?_⟩
  ·refine hMW.keep ((Mod.refl (fun k=>k=D) W).grown (grownBy_putObj' W D _) (fun k e _=>by cases e;rfl)) (fun e=>by have e:mb=D:=e;omega)
  ·refine hmW.trans ((Mod.refl (fun k=>k=D) W).grown (grownBy_putObj' W D _) (fun k e _=>by cases e;rfl)) (fun k hk e=>by have e:k=D:=e;omega)
theorem Sl.kc{α:Type}{sz:Nat}{R R':iL->α->Prop}{l:List α}(h:Sl false w G sz R v l)(hm:KC w w')(hR:∀cs x,R cs x->R' cs x):Sl false w' G sz R' v l:=by
 obtain⟨a,cap,hv,hl,hc,h⟩:=h;refine⟨a,cap,hv,hl,hc,fun hne=>?_⟩;obtain⟨b,off,ha,hG,-,hi⟩:=h hne
 refine⟨b,off,ha,hG,fun e=>(by cases e),fun i hlt=>?_⟩;obtain⟨cs,h1,h2,h3⟩:=hi i hlt;exact⟨cs,h1,hR _ _ h2,hm.cells h3⟩
abbrev kV:Nat->Prop:=fun _=>True
abbrev vV:=(Int×Int)×iK
def zY(h:vV):iL:=#[.int .i64 h.1.1,.int .i64 h.1.2]++qA h.2
def sZ(cs:iL)(h:vV):Prop:=cs=zY h/\h.2.length=32
theorem heldCells_one(h:vV):∀c∈zY h,c.oneCell'=true:=by
 intro c hc;simp only[zY,Array.mem_append]at hc
 rcases hc with hc|hc
 ·simp at hc;rcases hc with rfl|rfl<;>rfl
 ·exact qQ _ c hc
theorem uD{h:vV}(hh:h.2.length=32):(zY h).size=34:=by simp[zY,qD,hh]
abbrev bD:=Value×List vV
def RowAt(w:iN)(x:bD):Prop:=Sl false w kV 34 sZ x.1 x.2
theorem RowAt.kc{w w':iN}{x:bD}(h:RowAt w x)(hm:KC w w'):RowAt w' x:=Sl.kc h hm fun _ _ h=>h
theorem RowAt.one{w:iN}{x:bD}(h:RowAt w x):x.1.oneCell'=true:=Sl.one h
structure gC where
 name:ByteArray
 row:bD
structure jW where
 name:ByteArray
 tv:Value
 tags:List gC
 man:bD
def TagC(w:iN)(cs:iL)(t:gC):Prop:=cs=#[.string t.name,t.row.1]/\RowAt w t.row
structure RepAt(w:iN)(r:jW):Prop where
 tags:Sl false w kV 2 (TagC w) r.tv r.tags
 man:RowAt w r.man
def RepC(w:iN)(cs:iL)(r:jW):Prop:=cs=#[.string r.name,r.tv,r.man.1]/\RepAt w r
theorem RepAt.kc{w w':iN}{r:jW}(h:RepAt w r)(hm:KC w w'):RepAt w' r:=⟨Sl.kc h.tags hm fun _ _ h=>⟨h.1,h.2.kc hm⟩,h.man.kc hm⟩
abbrev vG(w:iN)(v:Value)(l:List jW):Prop:=Sl false w kV 3 (RepC w) v l
theorem xO{l:List jW}(h:vG w v l)(hm:KC w w'):vG w' v l:=Sl.kc h hm fun _ _ h=>⟨h.1,h.2.kc hm⟩
def dN(r:jW):List bD:=r.tags.map (·.row)++[r.man]
def vE(l:List jW):List bD:=l.flatMap dN
theorem rowsX_app(a b:List jW):vE (a++b)=vE a++vE b:=List.flatMap_append
theorem aH(r:jW)(b:List jW):vE (r::b)=(r.tags.map (·.row)++[r.man])++vE b:=List.flatMap_cons
theorem rowsX_tag(l:List jW)(k:Nat)(hk:k<l.length)(m:Nat)(hm:m<l[k].tags.length):∃rest,vE l=(vE (l.take k)++(l[k].tags.take m).map (·.row))++l[k].tags[m].row::rest:=by
 have h1:=congrArg vE (vS hk);have h2:=congrArg (List.map (·.row)) (vS hm);rw[rowsX_app,aH]at h1;rw[List.map_append,List.map_cons]at h2
 refine⟨(l[k].tags.drop (m+1)).map (·.row)++[l[k].man]++vE (l.drop (k+1)),?_⟩;rw[h1,h2];simp only[List.append_assoc,List.cons_append]
theorem rowsX_man(l:List jW)(k:Nat)(hk:k<l.length):∃rest,vE l=(vE (l.take k)++l[k].tags.map (·.row))++l[k].man::rest:=by
 have h1:=congrArg vE (vS hk);rw[rowsX_app,aH]at h1;refine⟨vE (l.drop (k+1)),?_⟩;rw[h1]
 simp only[List.append_assoc,List.cons_append,List.nil_append]
theorem rowsX_succ(l:List jW)(k:Nat)(hk:k<l.length):vE (l.take (k+1))=(vE (l.take k)++l[k].tags.map (·.row))++[l[k].man]:=by
 have h1:=congrArg vE (List.take_succ_eq_append_getElem hk);rw[rowsX_app,aH]at h1;rw[h1];simp only[List.append_assoc,vE,List.flatMap_nil,List.append_nil]
theorem tableZ:(prog.info? 71).bind (·.zero)=some (.agg #[.slice none 0 0,.slice none 0 0]):=by kernel_rfl
theorem swRts_any(w:iN)(vv rv:Value)(h1:vv.oneCell'=true)(h2:rv.oneCell'=true):Calls prog 117 #[.agg #[vv,rv]] w fun e w'=>e=.returned (.func (.func 192) #[] #[iO w.heap.size])/\w'=w.alloc (.cells #[vv,rv] 71):=by
 have hmf:=jK;go_enter func117,ntmps117;go_wp2;go_ret;exact⟨rfl,rfl⟩
theorem swIds_any(w:iN)(f:Fn)(lb:iL):Calls prog 116 #[.func f #[] lb] w fun e w'=>e=.returned (.func (.func 191) #[] #[iO w.heap.size])/\w'=w.alloc (.cells #[.func f #[] lb] 206):=by
 have hmf:=jK;go_enter func116,ntmps116;go_wp2;go_ret;exact⟨rfl,rfl⟩
theorem aR(s:TypeId)(x:Operand)(f k b off:Nat)(ho:o.op=.fieldAddr s x f)(hx:a.eval x=.pointer (some ⟨b,off,none⟩))(hk:qS P s f=some k):(execOp a.eval o).run P w=.ok (.value (.pointer (some ⟨b,off+k,none⟩))) w:=by
 unfold execOp;simp only[ho,hx,Sem.run_bind,eQ hk,Result.andThen_ok,Sem.run_pure]
theorem repZ:(prog.info? 186).bind (·.zero)=some (.agg #[.string ⟨#[]⟩,.slice none 0 0,.slice none 0 0]):=by kernel_rfl
theorem tagZ:(prog.info? 188).bind (·.zero)=some (.agg #[.string ⟨#[]⟩,.slice none 0 0]):=by kernel_rfl
def RtsRel(reps:List jW)(J:List bD->iN->Prop)(W0:iN)(i:Value)(w:iN):Prop:=
 ∃k:Nat,k<=reps.length/\i=.int .i64 k/\J (vE (reps.take k)) w/\KC W0 w
def TgsRel(pre:List bD)(tags:List gC)(J:List bD->iN->Prop)(W0:iN)(i:Value)(w:iN):Prop:=
 ∃m:Nat,m<=tags.length/\i=.int .i64 m/\J (pre++(tags.take m).map (·.row)) w/\KC W0 w
theorem swRts_gives{reps:List jW}(hB:w.heap[B]?=some (.cells #[vv,rv] 71 (0,0)))(hv:vG w rv reps):
 Gives prog 192 #[iO B] (fun x:bD=>#[x.1]) (vE reps) w:=by
 intro y J W hW hJ hY h0;have hBW:=hW.obj id hB;have hvW:vG W rv reps:=xO hv (KC.of0 hW);have hone:=Sl.one hv;obtain⟨ad,cap,rfl,hle,hat⟩:=Sl.at hvW
 have HAT:=O hat;have hcB:W.cell? ⟨B,0+1,none⟩=some (.slice ad reps.length cap):=by simp[World.cell?,hBW]
 have HR0:Hid (RtsRel reps J W (.int .i64 (0:Nat)) W):=O ⟨0,Nat.zero_le _,rfl,by rw[List.take_zero];exact h0,KC.refl _⟩;clear hB hv hat h0 hW hvW hone
 go_enter func192,ntmps192;go_upto_region 0 with(fail);refine qL [3,1,3,3] ?_;simp only[qB];refine qG 69 hcB ?_;try simp only[qC]
 refine xF ?_;simp only[qB];clear hcB hBW;go_wp2
 go_loopw [10] (RtsRel reps J W) (fun i _=>reps.length-(intOf i).toNat)
 case atStart=>exact HR0.out
 case round=>
  rename iN=>wr
  obtain⟨k,hk,rfl,hJr,hkc⟩:=hrel
  by_cases hlt:k<reps.length
  ·have hz:(k:Int)<(reps.length:Nat):=by omega
   obtain⟨b,off,rfl,-,-,hcc⟩:=HAT.out k hlt;obtain⟨cs,-,⟨rfl,hra⟩,hcA⟩:=hcc k hlt;have hsm:=rowsX_man reps k hlt;have hst:=rowsX_tag reps k hlt
   have hsn:=rowsX_succ reps k hlt;generalize reps[k]=x at*;have hic:(#[Value.string x.name,x.tv,x.man.1]:iL).size=3:=rfl
   have h1x:∀c∈(#[Value.string x.name,x.tv,x.man.1]:iL),c.oneCell'=true:=by
    intro c hc
    simp at hc
    rcases hc with rfl|rfl|rfl
    ·rfl
    ·exact Sl.one hra.tags
    ·exact hra.man.one
   have hcr:=hkc.cells hcA;have HRA:=O hra;have HSM:=O hsm;have HST:=O hst;have HSN:=O hsn;clear hsm hst hsn hcc hcA hra;go_upto_region 2 with(fail)
   refine qL [3,1,1,1] ?_;simp only[qB];refine zC 69 3 hlt ?_;simp only[qC];refine qY 186 hcr 3 hic ?_;try simp only[qC]
   refine qK (zB repZ (fun w2 hB2 hm2 hs2=>?_));try simp only[qC]
   refine qK (yL 186 h1x 3 hic hB2 (fun w3 hB3 hm3=>?_) (hoff:=by simp));simp only[qB];have hmr3:Mod qJ wr w3:=hm2.transB hm3 (Nat.le_refl _)
   have hJ3:=OwnFrom.mod0 hJ hJr hmr3;have hk3:=hkc.trans (KC.of0 hmr3);have hra3:=HRA.out.kc hk3;generalize hb7:wr.heap.size=b7 at*
   obtain⟨ta,tcap,htv,htle,htat⟩:=Sl.at hra3.tags;have HTAT:=O htat;have HMAN:=O hra3.man
   have hcT:w3.cell? ⟨b7,0+1,none⟩=some (.slice ta x.tags.length tcap):=by rw[<-htv];simp[World.cell?,hB3]
   have hcM:w3.cell? ⟨b7,0+2,none⟩=some x.man.1:=by simp[World.cell?,hB3]
   have hmn1:=hra3.man.one;have HT0:Hid (TgsRel (vE (reps.take k)) x.tags J w3 (.int .i64 (0:Nat)) w3):=O ⟨0,Nat.zero_le _,rfl,by simpa using hJ3,KC.refl _⟩
   have HK3:=O hk3;clear hkc hm2 hm3 hmr3 hB2 hcr hs2 hJr hJ3 hB3 htat hra3 h1x htv hk3;go_upto_region 3 with(fail);refine qL [3,1,3,3] ?_;simp only[qB]
   refine qG 183 hcT ?_;try simp only[qC]
   refine xF ?_;simp only[qB];clear hcT;go_wp2
   go_loopw [17] (TgsRel (vE (reps.take k)) x.tags J w3) (fun i _=>x.tags.length-(intOf i).toNat)
   case atStart=>exact HT0.out
   case round=>
    rename iN=>wq
    obtain⟨m,hmle,rfl,hJq,hkq⟩:=hrel
    by_cases hltm:m<x.tags.length
    ·have hzm:(m:Int)<(x.tags.length:Nat):=by omega
     obtain⟨tb,toff,rfl,-,-,htcc⟩:=HTAT.out m hltm;obtain⟨cs,-,⟨rfl,hta⟩,htA⟩:=htcc m hltm;obtain⟨rest,hsp⟩:=HST.out m hltm
     have hsn:(x.tags.take m).map (·.row)++[x.tags[m].row]=(x.tags.take (m+1)).map (·.row):=by have h9:=congrArg (List.map (·.row)) (pZ hltm);rw[List.map_append]at h9;exact h9
     generalize x.tags[m]=t at*;have hict:(#[Value.string t.name,t.row.1]:iL).size=2:=rfl
     have h1t:∀c∈(#[Value.string t.name,t.row.1]:iL),c.oneCell'=true:=by
      intro c hc
      simp at hc
      rcases hc with rfl|rfl
      ·rfl
      ·exact hta.one
     have h1r:=hta.one;have hctr:=hkq.cells htA;have HSP:=O hsp;have HSQ:=O hsn;clear hsp hsn htcc htA hta;go_upto_region 5 with(fail);refine qL [3,1,1,1] ?_
     simp only[qB];refine zC 183 2 hltm ?_;simp only[qC];refine qY 188 hctr 2 hict ?_;try simp only[qC]
     refine qK (zB tagZ (fun w2 hB2 hm2 hs2=>?_));try simp only[qC]
     refine qK (yL 188 h1t 2 hict hB2 (fun w4 hB4 hm4=>?_) (hoff:=by simp));simp only[qB];have hmr4:Mod qJ wq w4:=hm2.transB hm4 (Nat.le_refl _)
     have hJ4:=OwnFrom.mod0 hJ hJq hmr4;have hk4:=hkq.trans (KC.of0 hmr4);have hYk:=hY _ t.row _ w4 HSP.out hJ4
     have hcR:w4.cell? ⟨wq.heap.size,0+1,none⟩=some t.row.1:=by simp[World.cell?,hB4]
     generalize hb9:wq.heap.size=b9 at*;clear hkq hm2 hm4 hmr4 hB2 hctr hs2 hJq hJ4 hB4 h1t;go_upto_region 6 with(fail);refine(wpIn_wide (n:=1)).1 (wpIn_region_lit ?_)
     refine wpListIn_plain rfl fun K hK=>yE (fun c h=>by cases h) ?_;refine xX (dA _ (by rfl)) ?_;refine hK _ _ ?_;clear hK K
     refine wpListIn_plain rfl fun K hK=>yE (fun c h=>by cases h) ?_;refine xX (aR 188 _ 1 1 b9 0 (by rfl) (by rfl) (by kernel_rfl)) ?_
     refine hK _ _ ?_;clear hK K;simp only[qC];refine wpListIn_plain rfl fun K hK=>yE (fun c h=>by cases h) ?_
     refine xX (sI 184 _ (by rfl) b9 (0+1) (by rfl) _ hcR _ underlying184 rfl) ?_;refine hK _ _ ?_;clear hK K
     refine wpListIn_plain rfl fun K hK=>aC (l:=y) _ _ _ (by rfl) (by rfl) t.row.1 (by rfl) hYk (fun e' w5 he'=>?_);obtain⟨rfl,hJ5,hk5,-⟩:=he'
     refine⟨_,rfl,?_⟩;refine hK _ _ ?_;clear hK K;refine wpListIn_plain rfl fun K hK=>yE (fun c h=>by cases h) ?_
     refine xX (sW _ _ true (by rfl) (by rfl)) ?_;refine hK _ _ ?_;clear hK K;simp only[qC];refine wpListIn_nil ?_
     have HQ:Hid (TgsRel (vE (reps.take k)) x.tags J w3 (.int .i64 ((m+1:Nat):Int)) w5):=O ⟨m+1,by omega,rfl,by rw[<-HSQ.out,<-List.append_assoc];exact hJ5,hk4.trans hk5⟩
     clear hk4 hk5 hJ5 hYk hcR;go_wp2
     go_roundw
     case rel=>exact HQ.out
     case measure=>simp[intOf];omega
    ·have hzm:¬(m:Int)<(x.tags.length:Nat):=by omega
     obtain rfl:m=x.tags.length:=by omega
     rw[List.take_length]at hJq;obtain⟨rest,hsp⟩:=HSM.out;have hYk:=hY _ x.man _ wq hsp hJq;have hcQ:=hkq.cell hcM;have hkk:=HK3.out.trans hkq;clear hsp hJq hkq
     go_upto_region 8 with(fail);refine(wpIn_wide (n:=1)).1 (wpIn_region_lit ?_);refine wpListIn_plain rfl fun K hK=>yE (fun c h=>by cases h) ?_
     refine xX (dA _ (by rfl)) ?_;refine hK _ _ ?_;clear hK K;refine wpListIn_plain rfl fun K hK=>yE (fun c h=>by cases h) ?_
     refine xX (aR 186 _ 2 2 b7 0 (by rfl) (by rfl) (by kernel_rfl)) ?_;refine hK _ _ ?_;clear hK K;simp only[qC]
     refine wpListIn_plain rfl fun K hK=>yE (fun c h=>by cases h) ?_;refine xX (sI 184 _ (by rfl) b7 (0+2) (by rfl) _ hcQ _ underlying184 rfl) ?_
     refine hK _ _ ?_;clear hK K;refine wpListIn_plain rfl fun K hK=>aC (l:=y) _ _ _ (by rfl) (by rfl) x.man.1 (by rfl) hYk (fun e' w5 he'=>?_)
     obtain⟨rfl,hJ5,hk5,-⟩:=he';refine⟨_,rfl,?_⟩;refine hK _ _ ?_;clear hK K;refine wpListIn_plain rfl fun K hK=>yE (fun c h=>by cases h) ?_
     refine xX (sW _ _ true (by rfl) (by rfl)) ?_;refine hK _ _ ?_;clear hK K;simp only[qC];refine wpListIn_nil ?_
     have HR:Hid (RtsRel reps J W (.int .i64 ((k+1:Nat):Int)) w5):=O ⟨k+1,by omega,rfl,by rw[HSN.out];exact hJ5,hkk.trans hk5⟩;clear hkk hk5 hJ5 hYk hcQ
     go_wp2
     go_roundw
     case rel=>exact HR.out
     case measure=>simp[intOf];omega
  ·have hz:¬(k:Int)<(reps.length:Nat):=by omega
   obtain rfl:k=reps.length:=by omega
   rw[List.take_length]at hJr;have HJ:=O hJr;clear hJr;go_wp2
   go_end0
   exact⟨⟨_,rfl⟩,HJ.out⟩
attribute [local go_sem] Oper.semAt_some
theorem exec_assign(x:Operand)(ho:o.op=.assign x):(execOp a.eval o).run P w=.ok (.value (a.eval x)) w:=by
 unfold execOp;simp only[ho];rfl
theorem exec_indexAddr(t:TypeId)(x y:Operand)(e:TypeId)(b off len cap n i:Nat)(ho:o.op=.indexAddr t x y)(hx:a.eval x=.slice (some ⟨b,off,none⟩) len cap)(hy:a.eval y=.int .i64 i)(hu:P.underlying t=some (.slice e))
 (hi:(P.info? e).map (·.size)=some n)(hlt:i<len):(execOp a.eval o).run P w=.ok (.value (.pointer (some ⟨b,off+i*n,none⟩))) w:=by
 unfold execOp;simp only[ho,hx,hy,Sem.run_bind,bI hu hi hlt,Result.andThen_ok,Sem.run_pure]
theorem heldZ:(prog.info? 211).bind (·.zero)=some (.agg (zY ((0,0),List.replicate 32 0))):=by kernel_rfl
def zS(rows:List bD):List iK:=rows.flatMap fun r=>r.2.map (·.2)
def IdsI(J:List iK->iN->Prop)(W0:iN)(pre:List bD)(W:iN):Prop:=J (zS pre) W/\KC W0 W
theorem KC.own{β:Type}(W0:iN)(B:Nat):OwnFrom B (fun(_:β) W=>KC W0 W):=fun s A C row hs hg hr=>
 hs.trans (KC.of_mod (Mod.of_grown hg fun r e=>e.symm) (S:=fun k=>some k=row) (fun k o e ho=>by
  obtain⟨_,o',ho',hc⟩:=hr k e.symm
  rw[ho]at ho';cases ho';exact hc))
def IdsAx(y B Bs:Nat)(fv:Value)(x:bD)(a:Act)(_:iN):Prop:=
 a={ tmps:=#[.func (.yield y) #[] #[],iO B,iO Bs,x.1,undef,undef,fv,x.1,undef,undef,undef,undef,undef,undef,undef,undef,undef,undef,undef,undef],defers:=[] }
theorem wpIn_yieldR{K:Act->iN->Prop}(x y:Operand)(ts:Array TypeId)(ho:o.op=.call { callee:=.value x,args:=#[y],argTypes:=ts })(hx:a.eval x=.func (.yield l) #[] #[])(v:Value)(hv:a.eval y=v)
 (hy:YieldAt Fence.wide 0 P l #[v] w R)(hR:∀e w',R e w'->∃v,e=.returned v/\K (a.put o.dst v) w'):o.wpIn (Fence.wide.inRound l₀) n P a w K Q:=by
 subst hv;obtain⟨fn,tmps,assign,body,hrun,hround⟩:=yield_round (l₀:=l₀) (yield0 (m':=n-1) hy);unfold Oper.wpIn;refine⟨fun _ _=>trivial,?_⟩
 rw[Oper.semAt_eq _ _ _ (fun c h=>by rw[ho]at h;cases h)]
 have e:(execOp a.eval o).run P w=.ok (.round l fn tmps assign body) w:=by
  unfold execOp
  simp[ho,resolve,hx,Deferred.ofValue,invoke,hrun]
 rw[e];refine⟨fun h=>by simp[Fence.wide]at h,hround.mono fun e w' he=>?_⟩;obtain⟨v,rfl,hk⟩:=hR e w' he;exact hk
def HlsRel(pre:List iK)(hs:List vV)(J:List iK->iN->Prop)(B:Nat)(W0:iN)(i:Value)(w:iN):Prop:=
 ∃k:Nat,k<=hs.length/\i=.int .i64 k/\J (pre++(hs.take k).map (·.2)) w/\KC W0 w/\KeepsFrom B W0 w
theorem jB(a b:List bD):zS (a++b)=zS a++zS b:=List.flatMap_append
theorem rC(r:bD)(b:List bD):zS (r::b)=r.2.map (·.2)++zS b:=List.flatMap_cons
theorem rowIds_split{rows pre rest:List bD}{hs:List vV}(h:rows=pre++(v,hs)::rest)(k:Nat)(hk:k<hs.length):∃r,zS rows=(zS pre++(hs.take k).map (·.2))++hs[k].2::r:=by
 have h2:=congrArg (List.map (·.2)) (vS hk);rw[List.map_append,List.map_cons]at h2;refine⟨(hs.drop (k+1)).map (·.2)++zS rest,?_⟩
 rw[h,jB,rC]
 show zS pre++(hs.map (·.2)++zS rest)=_
 rw[h2];simp only[List.append_assoc,List.cons_append]
theorem swIds_gives{rows:List bD}(eg:∀args w,(callFunc gf args).run prog w=.ok (.enter gf args) w)(hB:w.heap[B]?=some (.cells #[.func (.func gf) #[] lb] 206 (0,0)))
 (hG:Gives prog gf lb (fun x:bD=>#[x.1]) rows w)(hrows:∀r∈rows,RowAt w r):
 Gives prog 191 #[iO B] (fun x=>#[tQ x]) (zS rows) w:=by
 intro y J W hW hJ hY h0;have hBW:=hW.obj id hB;have hcB:W.cell? ⟨B,0,none⟩=some (.func (.func gf) #[] lb):=by simp[World.cell?,hBW]
 refine(callsIn_wide (n:=3)).1 (callsIn_of_wp_marks func191 rfl trivial ?_ rfl)
 simp only[ntmps191,List.size_toArray,List.length_cons,List.length_nil,Nat.reduceAdd,Nat.reduceSub,Array.replicate_succ,Array.replicate_zero,List.push_toArray,List.append_toArray,List.nil_append,List.cons_append]
 have hm0:=zI W (.cells #[.func (.yield y) #[] #[]] 44);have hv0:=heap_alloc_new W (.cells #[.func (.yield y) #[] #[]] 44)
 have hs0:(W.alloc (.cells #[.func (.yield y) #[] #[]] 44)).heap.size=W.heap.size+1:=by simp
 have hcB0:(W.alloc (.cells #[.func (.yield y) #[] #[]] 44)).cell? ⟨B,0,none⟩=some (.func (.func gf) #[] lb):=(KC.of0 hm0).cell hcB
 gi_wp2
 generalize W.alloc (.cells #[.func (.yield y) #[] #[]] 44)=W0 at*
 refine aD (gf:=gf) (lb:=lb) (by rfl) eg hG (hW.trans0 hm0) (fun _=>rfl)
  (IdsI J W0) ?own ⟨OwnFrom.mod0 hJ h0 hm0,KC.refl _⟩
  (IdsAx y B W.heap.size (.func (.func gf) #[] lb))
  (fun x a' s A C row hs hg hr=>hs)
  ?assign ?body ?done
 case own=>
  intro s A C row hs hg hr;exact⟨hJ _ A C row hs.1 hg (fun r e=>⟨by have:=(hr r e).1;omega,(hr r e).2⟩),KC.own (β:=Unit) W0 _ () A C row hs.2 hg hr⟩
 case assign=>
  rintro l pre x rest Wc K hxs hI hK0
  simp only[List.zip_toArray,List.zip_cons_cons,List.zip_nil_right,List.foldl_toArray',List.foldl_cons,List.foldl_nil,List.setIfInBounds_toArray,ss,sz]
  refine wpIn_region_lit ?_;refine zW rfl rfl fun K hK=>?_;refine xX (exec_assign _ (by rfl)) ?_;refine hK _ _ ?_;clear hK K;refine wpListIn_nil ?_
  exact hK0 _ _ (KeepsFrom.refl _ _) (KC.refl _) hI rfl
 case body=>
  rintro l pre x rest a' Wc hxs ⟨hJc,hkc⟩ rfl;have hrc:RowAt Wc x:=(hrows x (by rw[hxs];simp)).kc (((KC.of0 hW).trans (KC.of0 hm0)).trans hkc);obtain⟨v,hs⟩:=x
  replace hrc:Sl false Wc kV 34 sZ v hs:=hrc;obtain⟨ad,cap,rfl,hle,hat⟩:=Sl.at hrc;have HAT:=O hat;have hcY:=hkc.obj hv0 rfl
  have HR0:Hid (HlsRel (zS pre) hs J W0.heap.size Wc (.int .i64 (0:Nat)) Wc):=O ⟨0,Nat.zero_le _,rfl,by simpa using hJc,KC.refl _,KeepsFrom.refl _ _⟩
  have HSP:=O (rowIds_split hxs);clear hat hrc hW hBW hcB hG hrows hcB0 hB
  gi_wp2
  gi_loopw [10] (HlsRel (zS pre) hs J W0.heap.size Wc) (fun i _=>hs.length-(intOf i).toNat)
  case atStart=>exact HR0.out
  case round=>
   rename iN=>wr
   obtain⟨k,hk,rfl,hJr,hkr,hfr⟩:=hrel
   by_cases hlt:k<hs.length
   ·have hz:(k:Int)<(hs.length:Nat):=by omega
    obtain⟨b,off,rfl,-,-,hcc⟩:=HAT.out k hlt;obtain⟨cs,-,⟨rfl,hx32⟩,hcA⟩:=hcc k hlt;obtain⟨rest',hsp⟩:=HSP.out k hlt
    have hsn:(hs.take k).map (·.2)++[hs[k].2]=(hs.take (k+1)).map (·.2):=by have h9:=congrArg (List.map (·.2)) (pZ hlt);rw[List.map_append]at h9;exact h9
    generalize hs[k]=h at*;have hic:(zY h).size=34:=uD hx32;have hidc:(qA h.2).size=32:=by rw[qD,hx32]
    have hcr:=hkr.cells hcA;have HSN:=O hsn;have HSQ:=O hsp;clear hsp hsn hcc hcA
    gi_upto_region 5 with(fail)
    refine wpIn_region_lit ?_;refine zW rfl rfl fun K hK=>?_
    refine xX (exec_indexAddr 184 _ _ 211 b off hs.length cap 34 k (by rfl) (by rfl) (by rfl) underlying184 (by kernel_rfl) hlt) ?_;refine hK _ _ ?_;clear hK K;simp only[qC]
    refine zW rfl rfl fun K hK=>?_;refine xX (pI 211 _ (by rfl) b (off+k*34) (by rfl) (zY h) hcr _ underlying211 rfl 34 (by kernel_rfl) hic) ?_
    refine hK _ _ ?_;clear hK K;simp only[qC];refine zW rfl rfl fun K hK=>?_;refine zB heldZ (fun w2 hB2 hm2 hs2=>?_);refine hK _ _ ?_;clear hK K
    simp only[qC];refine zW rfl rfl fun K hK=>?_
    refine qT 211 (zY h) (heldCells_one _) 34 hic hB2 (fun w3 hB3 hm3=>?_) (hoff:=by rw[hic,uD (by simp)]);refine hK _ _ ?_;clear hK K
    refine wpListIn_nil ?_;have hmr3:Mod qJ wr w3:=hm2.transB hm3 (Nat.le_refl _);have hJ3:=OwnFrom.mod0 hJ hJr hmr3;have hk3:=hkr.trans (KC.of0 hmr3)
    have hf3:KeepsFrom W0.heap.size Wc w3:=hfr.trans (hmr3.keepsOthers0.from _);have hYk:=hY _ h.2 _ w3 HSQ.out hJ3
    have hcY3:w3.cell? ⟨W.heap.size,0,none⟩=some (.func (.yield y) #[] #[]):=by simp[World.cell?,hk3.obj hcY rfl]
    have hcI:CellsAt w3 wr.heap.size (0+2) (qA h.2):=CellsAt.of_obj hB3 fun j hj=>by
     show(#[Value.int .i64 h.1.1,Value.int .i64 h.1.2]++qA h.2)[0+2+j]?=_
     rw[Array.getElem?_append_right (by simp)]
     simp
    generalize hb7:wr.heap.size=b7 at*;clear hkr hm2 hm3 hmr3 hB2 hcr hs2 hJr hJ3 hB3 hfr
    gi_upto_region 6 with(fail)
    refine wpIn_region_lit ?_;refine zW rfl rfl fun K hK=>?_;refine xX (sI 44 _ (by rfl) W.heap.size 0 (by rfl) _ hcY3 _ underlying44 rfl) ?_
    refine hK _ _ ?_;clear hK K;refine zW rfl rfl fun K hK=>?_;refine xX (aR 211 _ 1 2 b7 0 (by rfl) (by rfl) (by kernel_rfl)) ?_;refine hK _ _ ?_
    clear hK K;simp only[qC];refine zW rfl rfl fun K hK=>?_
    refine xX (pI 24 _ (by rfl) b7 (0+2) (by rfl) (qA h.2) hcI _ underlying24 rfl 32 (by kernel_rfl) hidc) ?_;refine hK _ _ ?_;clear hK K;simp only[qC]
    refine wpListIn_plain rfl fun K hK=>wpIn_yieldR (l:=y) _ _ _ (by rfl) (by rfl) (tQ h.2) (by rfl) hYk (fun e' w5 he'=>?_);obtain⟨rfl,hJ5,hk5,hf5⟩:=he'
    refine⟨_,rfl,?_⟩;refine hK _ _ ?_;clear hK K;refine zW rfl rfl fun K hK=>?_;refine xX (sW _ _ true (by rfl) (by rfl)) ?_;refine hK _ _ ?_;clear hK K
    simp only[qC];refine wpListIn_nil ?_
    have HR:Hid (HlsRel (zS pre) hs J W0.heap.size Wc (.int .i64 ((k+1:Nat):Int)) w5):=O ⟨k+1,by omega,rfl,by rw[<-HSN.out,<-List.append_assoc];exact hJ5,hk3.trans hk5,hf3.trans ⟨hf5.size,fun j o hb ho hc=>hf5.same j o (by omega) ho hc⟩⟩
    clear hk3 hk5 hJ5 hYk hcY3 hcI hf3 hf5
    gi_wp2
    go_roundw
    case rel=>exact HR.out
    case measure=>simp[intOf];omega
   ·have hz:¬(k:Int)<(hs.length:Nat):=by omega
    obtain rfl:k=hs.length:=by omega
    rw[List.take_length]at hJr
    have HF:Hid (KeepsFrom W0.heap.size Wc wr/\KC Wc wr/\IdsI J W0 (pre++[(Value.slice ad hs.length cap,hs)]) wr):=O ⟨hfr,hkr,by rw[jB,rC];simpa[zS]using hJr,hkc.trans hkr⟩
    clear hJr hkr hfr
    gi_wp2
    have h9:=HF.out;rw[hs0]at h9;exact h9
 case done=>
  rintro D Wc hD ⟨hJc,hkc⟩ hK
  have hJd:J (zS rows) (Wc.putObj D (.deferred none)):=hJ _ Wc _ (some D) hJc (grownBy_putObj' Wc D _) (fun r e=>by cases e;exact⟨by omega,_,hK,rfl⟩)
  have HJ:=O hJd;clear hJd hJc
  gi_wp2
  refine⟨by simp,.inl ⟨_,_,rfl,run_takeDeferred hK,?_⟩⟩;exact⟨_,results_none rfl _ _ _,⟨_,rfl⟩,HJ.out⟩
end
section
open Go.RowKit Go.Shelf Go.Proofs.Tryz Go.Lib
theorem fU(ids:List iK):∀(all:List (iK×Value))(x:iK),x∈(pK ids all).map (·.1)↔x∈ids\/x∈all.map (·.1):=by
 induction ids with
 |nil=>intro all x;simp[pK]
 |cons y ids ih=>
  intro all x
  show x∈(pK ids (kD y (.agg #[]) all)).map (·.1)↔_
  rw[ih,keys_put]
  by_cases hy:y∈all.map (·.1)
  ·rw[if_pos hy,List.mem_cons]
   constructor
   ·rintro(h|h)
    ·exact .inl (.inr h)
    ·exact .inr h
   ·rintro((rfl|h)|h)
    ·exact .inr hy
    ·exact .inl h
    ·exact .inr h
  ·rw[if_neg hy,List.mem_cons,List.mem_append,List.mem_singleton]
   constructor
   ·rintro(h|h|h)
    ·exact .inl (.inr h)
    ·exact .inr h
    ·exact .inl (.inl h)
   ·rintro((h|h)|h)
    ·exact .inr (.inr h)
    ·exact .inl h
    ·exact .inr (.inl h)
theorem addsL_len(ids:List iK):∀(all:List (iK×Value)),(pK ids all).length<=ids.length+all.length:=by
 induction ids with
 |nil=>intro all;simp[pK]
 |cons y ids ih=>
  intro all;have h1:=ih (kD y (.agg #[]) all);have h2:(kD y (.agg #[]) all).length<=all.length+1:=by rw[length_put];split<;>omega
  show(pK ids (kD y (.agg #[]) all)).length<=_
  simp only[List.length_cons];omega
def SetOf(l out:List iK):Prop:=out.Pairwise (fun a b=>a<b)/\∀x,x∈out↔x∈l
def SetR(w:iN)(l:List iK):iJ:=fun e w'=>Mod qJ w w'/\∃v out,e=.returned v/\kI w.heap.size w' v out/\SetOf l out/\∀x∈out,x.length=32
theorem rowIds_ok{rows:List bD}(h:∀r∈rows,RowAt w r):∀x∈zS rows,x.length=32:=by
 intro x hx;obtain⟨r,hr,hx⟩:=List.mem_flatMap.1 hx;obtain⟨y,hy,rfl⟩:=List.mem_map.1 hx;obtain⟨a,cap,_,_,hat⟩:=Sl.at (h r hr)
 obtain⟨i,hi,rfl⟩:=List.getElem_of_mem hy;obtain⟨b,off,_,_,_,hc⟩:=hat i hi;obtain⟨cs,_,⟨_,h2⟩,_⟩:=hc i hi;exact h2
theorem rows_at{reps:List jW}(h:vG w v reps):∀r∈vE reps,RowAt w r:=by
 intro r hr;obtain⟨p,hp,hr⟩:=List.mem_flatMap.1 hr;obtain⟨a,cap,_,_,hat⟩:=Sl.at h;obtain⟨i,hi,rfl⟩:=List.getElem_of_mem hp;obtain⟨b,off,_,_,_,hc⟩:=hat i hi
 obtain⟨cs,_,⟨_,h2⟩,_⟩:=hc i hi
 rcases List.mem_append.1 hr with hr|hr
 ·obtain⟨t,ht,rfl⟩:=List.mem_map.1 hr
  obtain⟨ta,tcap,_,_,htat⟩:=Sl.at h2.tags;obtain⟨j,hj,rfl⟩:=List.getElem_of_mem ht;obtain⟨tb,toff,_,_,_,htc⟩:=htat j hj;obtain⟨tcs,_,⟨_,h3⟩,_⟩:=htc j hj
  exact h3
 ·rw[List.mem_singleton]at hr
  subst hr;exact h2.man
abbrev zK(reps:List jW):List iK:=zS (vE reps)
theorem sT{reps:List jW}(h1:vv.oneCell'=true)(hv:vG w rv reps)(hn:(zK reps).length<=65536):Calls prog 47 #[.agg #[vv,rv]] w (SetR w (zK reps)):=by
 have hmm:= @run_makeMap prog;have h2:=Sl.one hv;have hm1:=zI w (.cells #[vv,rv] 71);have hB1:=heap_alloc_new w (.cells #[vv,rv] 71)
 obtain⟨w1,hw1⟩:∃w1,w.alloc (.cells #[vv,rv] 71)=w1:=⟨_,rfl⟩;rw[hw1]at hm1 hB1;have hs1:w1.heap.size=w.heap.size+1:=by rw[<-hw1];simp
 have hm2:=hm1.trans0 (zI w1 (.map #[] 0));have hM2:=heap_alloc_new w1 (.map #[] 0);have hk2:KC w1 (w1.alloc (.map #[] 0)):=KC.of0 (zI w1 _)
 obtain⟨w2,hw2⟩:∃w2,w1.alloc (.map #[] 0)=w2:=⟨_,rfl⟩;rw[hw2]at hm2 hM2 hk2;have hs2:w2.heap.size=w1.heap.size+1:=by rw[<-hw2];simp
 have hB2:=hk2.obj hB1 rfl;have hc3:=swRts_any w2 vv rv h1 h2;have hm3:=zI w2 (.cells #[vv,rv] 71);have hB3:=heap_alloc_new w2 (.cells #[vv,rv] 71)
 obtain⟨w3,hw3⟩:∃w3,w2.alloc (.cells #[vv,rv] 71)=w3:=⟨_,rfl⟩;rw[hw3]at hm3 hB3;simp only[hw3]at hc3;have hv3:=xO hv (KC.of0 (hm2.trans0 hm3))
 have hg3:=swRts_gives hB3 hv3;have hc4:=swIds_any w3 (.func 192) #[iO w2.heap.size]
 have hm4:=zI w3 (.cells #[.func (.func 192) #[] #[iO w2.heap.size]] 206)
 have hB4:=heap_alloc_new w3 (.cells #[.func (.func 192) #[] #[iO w2.heap.size]] 206)
 obtain⟨w4,hw4⟩:∃w4,w3.alloc (.cells #[.func (.func 192) #[] #[iO w2.heap.size]] 206)=w4:=⟨_,rfl⟩;rw[hw4]at hm4 hB4;simp only[hw4]at hc4
 have hv4:=xO hv3 (KC.of0 hm4)
 have hg4:Gives prog 192 #[iO w2.heap.size] (fun x:bD=>#[x.1]) (vE reps) w4:=swRts_gives (hm4.obj id hB3) hv4;have hrows:=rows_at hv4
 have hg5:=swIds_gives (enters_of func192 (by kernel_rfl) rfl) hB4 hg4 hrows;have hmap4:MapIs tQ bB w4 w1.heap.size []:=(MapIs.made hM2).keep0 (hm3.trans0 hm4)
 have hc5:=fN (enters_of func191 (by kernel_rfl) rfl) hg5 (rowIds_ok hrows) hmap4;have hm04:=hm2.trans0 (hm3.trans0 hm4)
 have hnl:(pK (zS (vE reps)) []).length<=65536:=by have h9:=addsL_len (zS (vE reps)) [];have h8:(zS (vE reps)).length<=65536:=hn;simp only[List.length_nil]at h9;omega
 have hcT:CellsAt w2 w.heap.size 0 #[vv,rv]:=CellsAt.whole hB2;clear hg5 hrows hg4 hv4 hB4 hg3 hv3 hB3 hmap4 hk2 hM2 hB1 hv hB2 hw3 hw4;go_enter func47,ntmps47
 go_upto_region 1 with(fail)
 try rw[hw1]
 clear hw1;refine qL [1,1,1,1,1,1,3] ?_;simp only[qB];refine qH rfl (fun K hK=>?_);unfold Oper.wp execOp
 simp only[Array.map_empty,Option.map_none,Sem.run_bind,hmm,Result.andThen_ok,Sem.run_pure]
 try rw[hw2]
 refine hK _ _ trivial ?_;clear hK K;try simp only[qC]
 refine qY 71 hcT 2 rfl ?_;try simp only[qC]
 refine qK (xE func117 (hc3) ?_);rintro e wa ⟨rfl,hw⟩;obtain rfl:=hw.symm;refine⟨_,rfl,?_⟩;try simp only[qC]
 refine qK (xE func116 (hc4) ?_);rintro e wb ⟨rfl,hw⟩;obtain rfl:=hw.symm;refine⟨_,rfl,?_⟩;try simp only[qC]
 refine qK (xE func115 (hc5) ?_);rintro e w5 ⟨rfl,hM5,hm5⟩;have hc6:=swRising_any hM5 hnl;refine⟨_,rfl,?_⟩;try simp only[qC]
 refine qK (xE func118 (hc6) ?_);rintro e w6 ⟨hm6,v6,out,he6,hg6,hs6,hp6,hl6⟩;subst he6
 have HF:Hid (SetR w (zK reps) (.returned v6) w6):=O ⟨(hm04.trans hm5 (fun k hk e=>by have e:k=w1.heap.size:=e;omega)).trans0 hm6,v6,out,rfl,hg6.base (by have:=hm04.size;have:=hm5.size;omega),⟨hs6,fun x=>by rw[hp6.mem_iff,fU];simp⟩,hl6⟩
 refine⟨_,rfl,?_⟩;simp only[qB];clear hm5 hm6 hg6 hs6 hp6 hl6 hM5 hc6 hm04 hc5 hc4 hc3 hm4 hm3 hm2 hm1;go_wp2;go_ret;exact HF.out
theorem run_clos(x y:Operand)(ts:Array TypeId)(gf:Nat)(lb:iL)(ho:o.op=.call { callee:=.value x,args:=#[y],argTypes:=ts })(hx:a.eval x=.func (.func gf) #[] lb)(v:Value)(hv:a.eval y=v)
 (eg:∀args w,(callFunc gf args).run P w=.ok (.enter gf args) w):(execOp a.eval o).run P w=.ok (.enter gf (#[v]++lb)) w:=by
 subst hv;unfold execOp
 simp[ho,resolve,hx,Deferred.ofValue,invoke,eg]
theorem wmarkZ:(prog.info? 216).bind (·.zero)=some (.agg #[]):=by kernel_rfl
def DelR(w:iN)(b:Bool):iJ:=fun e w'=>e=.returned (.bool b)/\Mod qJ w w'
def Marked(l:List (iK×Value)):Prop:=∀p∈l,p.2=.agg #[]
theorem addsL_marked(ids:List iK):∀(all:List (iK×Value)),Marked all->Marked (pK ids all):=by
 induction ids with
 |nil=>intro all h;exact h
 |cons y ids ih=>
  intro all h;refine ih _ fun p hp=>?_;replace hp:p∈kD y (.agg #[]) all:=hp
  cases hg:bV y all 0 with
  |none=>
   obtain⟨_,h2,_⟩:=cW hg;rw[h2,List.mem_append,List.mem_singleton]at hp
   rcases hp with hp|rfl
   ·exact h p hp
   ·rfl
  |some q=>
   obtain⟨_,_,_,h2,_⟩:=fS hg;rw[h2]at hp
   rcases List.mem_or_eq_of_mem_set hp with hp|rfl
   ·exact h p hp
   ·rfl
theorem swKept_any{kb:Nat}{l:List (iK×Value)}(hK:w.heap[kb]?=some (.cells #[.map (some mb)] 200 (0,0)))(hM:MapIs tQ bB w mb l)(hl:Marked l)(x:iK)(hx:x.length=32):
 Calls prog 126 (#[tQ x]++#[iO kb]) w (DelR w (decide (x∈l.map (·.1)))):=by
 have hic:(qA x).size=32:=by rw[qD,hx]
 have hcb:w.cell? ⟨kb,0,none⟩=some (.map (some mb)):=by simp[World.cell?,hK]
 have hb:(qR x l).isSome=decide (x∈l.map (·.1)):=by
  cases hg:qR x l with
  |none=>simp[getL_none.1 hg]
  |some v=>simp only[Option.isSome_some];rw[eq_comm,decide_eq_true_iff];exact List.mem_map.2 ⟨_,jZ hg,rfl⟩
 have hv:(qR x l).getD (.agg #[])=.agg #[]:=by
  cases hg:qR x l with
  |none=>rfl
  |some v=>exact hl _ (jZ hg)
 have hlk:(if true then Value.tuple #[(qR x l).getD (.agg #[]),.bool (qR x l).isSome]else(qR x l).getD (.agg #[]))=.tuple #[.agg #[],.bool (decide (x∈l.map (·.1)))]:=by rw[if_pos rfl,hv,hb]
 generalize decide (x∈l.map (·.1))=b at*;have HLK:=O hlk;clear hb hv hlk hl
 rw[show #[tQ x]++#[iO kb]=#[.agg (qA x),iO kb]from rfl];go_enter func126,ntmps126
 have hm1:=zI w (.cells (qA x) 24);have hB1:=heap_alloc_new w (.cells (qA x) 24);go_upto_region 1 with(fail)
 generalize w.alloc (.cells (qA x) 24)=w1 at*;have hcb1:=(KC.of0 hm1).cell hcb;have hM1:=hM.keep0 hm1
 have hca:CellsAt w1 w.heap.size 0 (qA x):=CellsAt.whole hB1;refine qL [1,1,1,3,3,3,1,1,3] ?_;simp only[qB];refine qG 200 hcb1 ?_;try simp only[qC]
 refine qY 24 hca 32 hic ?_;try simp only[qC]
 refine cF rfl (vL sP hM1 x hx 200 216 underlying200 (.agg #[]) wmarkZ _ _ true (by rfl) (by rfl) (by rfl) _ HLK.out) trivial ?_;simp only[qB]
 refine jQ (.agg #[]) ?_;simp only[qC];refine jQ (.bool b) ?_;simp only[qC];refine qK (zB wmarkZ (fun w3 hB3 hm3 hs3=>?_));try simp only[qC]
 refine qK (xU 216 0 #[] (by simp) 0 rfl hB3 (fun w4 hB4 hm4=>?_) (hoff:=by simp));have hS4:Mod qJ w1 w4:=hm3.transB hm4 (Nat.le_refl _);simp only[qB]
 have HF:=O (hm1.trans0 hS4);clear hS4 hm1 hm3 hm4 hB1 hB3 hB4 hca;go_wp2;go_ret;exact⟨rfl,HF.out⟩
def FindR(w:iN)(ids:List iK)(del:iK->Bool):iJ:=fun e w'=>Mod qJ w w'/\
 ((e=.returned (.int .i64 (-1))/\∀x∈ids,del x=false)\/(∃pre x rest,ids=pre++x::rest/\e=.returned (.int .i64 (pre.length:Nat))/\del x=true/\∀y∈pre,del y=false))
def DelsOn(gf:Nat)(lb:iL)(del:iK->Bool)(S:iM)(w:iN):Prop:=∀(x:iK)(W:iN),x.length=32->Mod S w W->Calls prog gf (#[tQ x]++lb) W (DelR W (del x))
def FindRel(w0:iN)(ids:List iK)(del:iK->Bool)(i:Value)(w:iN):Prop:=∃k:Nat,k<=ids.length/\i=.int .i64 k/\Mod qJ w0 w/\∀y∈ids.take k,del y=false
section
variable{w:iN}{base gf:Nat}{lb:iL}{v:Value}{ids:List iK}{del:iK->Bool}
theorem indexI_any(eg:∀args w,(callFunc gf args).run prog w=.ok (.enter gf args) w)(hv:kI base w v ids)(h32:∀x∈ids,x.length=32)(hdel:DelsOn gf lb del qJ w):
 Calls prog 197 #[v,.func (.func gf) #[] lb] w (FindR w ids del):=by
 obtain⟨ad,cap,hve⟩:=hv.slice
 have hmx:ids.length<=9223372036854775807:=by
  rcases hv.2 with⟨_,h0⟩|⟨g,c,cur,_,_,_,hc,hm,_⟩
  ·omega
  ·unfold maxLen at hm;omega
 have HV:=O hv;have HR0:Hid (FindRel w ids del (.int .i64 (0:Nat)) w):=O ⟨0,Nat.zero_le _,rfl,Mod.refl _ _,by simp⟩;have HD:=O hdel;clear hv hdel;rw[hve]
 rw[hve]at HV;clear hve;go_enter func197,ntmps197;go_wp2
 go_loopw [8] (FindRel w ids del) (fun i _=>ids.length-(intOf i).toNat)
 case atStart=>exact HR0.out
 case round=>
  rename iN=>wr
  obtain⟨k,hk,rfl,hmr,hpre⟩:=hrel
  by_cases hlt:k<ids.length
  ·have hz:(k:Int)<(ids.length:Nat):=by omega
   obtain⟨g,cap',cur,hce,hg,hcA,-,-,-⟩:=Gat.at (HV.out.keep0 hmr) jL k hlt;have hx32:=h32 _ (List.getElem_mem hlt);have hsp:=vS hlt
   have hsn:=pZ hlt;rw[pG hx32]at hcA;generalize ids[k]=x at*
   cases hce
   have hic:(qA x).size=32:=by rw[qD,hx32]
   have hcall:=HD.out x wr hx32 hmr;generalize hb:del x=b at*;have HSP:=O hsp;have HSN:=O hsn;have HP:=O hpre;have HB:=O hb;clear hsp hsn hpre hb
   go_upto_region 4 with(fail);refine qL [3,3,3,3,1,1] ?_;simp only[qB];refine zC 25 32 hlt ?_;simp only[qC];refine qY 24 hcA 32 hic ?_;try simp only[qC]
   refine qK (xS (run_clos _ _ _ gf lb (by rfl) (by rfl) (tQ x) (by rfl) eg) hcall ?_);rintro e w5 ⟨rfl,hm5⟩;refine⟨_,rfl,?_⟩;simp only[qB]
   have HM:=O (hmr.trans0 hm5);clear hmr hm5 hcA hg hcall
   cases b with
   |true=>
    go_wp2;go_ret;refine⟨HM.out,.inr ⟨ids.take k,x,ids.drop (k+1),HSP.out,?_,HB.out,HP.out⟩⟩
    have h9:(ids.take k).length=k:=by rw[List.length_take,Nat.min_eq_left hk]
    rw[h9]
    rfl
   |false=>
    have HR:Hid (FindRel w ids del (.int .i64 ((k+1:Nat):Int)) w5):=O ⟨k+1,by omega,rfl,HM.out,fun y hy=>by
     rw[<-HSN.out,List.mem_append,List.mem_singleton]at hy
     rcases hy with hy|rfl
     ·exact HP.out y hy
     ·exact HB.out⟩
    clear HM HP;go_wp2
    go_roundw
    case rel=>exact HR.out
    case measure=>simp[intOf];omega
  ·have hz:¬(k:Int)<(ids.length:Nat):=by omega
   obtain rfl:k=ids.length:=by omega
   have HF:Hid (FindR w ids del (.returned (.int .i64 (-1))) wr):=O ⟨hmr,.inl ⟨rfl,by rw[List.take_length]at hpre;exact hpre⟩⟩;clear hmr hpre;go_wp2;go_ret
   exact HF.out
end
theorem id_zero:(prog.info? 24).bind (·.zero)=some (.agg (Array.replicate 32 (qW 0))):=by kernel_rfl
section
variable{P:Program}{o:Oper}{a:Act}{w:iN}{K:Act->iN->Prop}{Q:Exit->Act->iN->Prop}
theorem wp_clearIds(t e:TypeId)(x:Operand)(b off n c:Nat)(ho:o.op=.call { callee:=.builtin .clear,args:=#[x],argTypes:=#[t] })(hx:a.eval x=.slice (some ⟨b,off,none⟩) (n+1) c)(ht:P.underlying t=some (.slice e))(hz:(P.info? e).bind (·.zero)=some (.agg (Array.replicate 32 (qW 0))))
 (cur:iL)(T:TypeId)(hb:w.heap[b]?=some (.cells cur T (0,0)))(hoff:off+(n+1)*32<=cur.size)
 (h:∀w',w'.heap[b]?=some (.cells (zE cur off (Array.replicate ((n+1)*32) (qW 0))) T (0,0))->Mod (fun k=>k=b) w w'->K (a.put o.dst (.tuple #[])) w'):o.wp P a w K Q:=by
 have hzv:(zeroValue e).run P w=.ok (.agg (Array.replicate 32 (qW 0))) w:=by
  cases hi:P.info? e with
  |none=>simp[hi]at hz
  |some i=>simp[hi]at hz;simp[zeroValue,typeInfo,hi,hz]
 have hzc:(Builtin.zeroCells (Value.agg (Array.replicate 32 (qW 0))).cells (n+1)).toList=List.replicate ((n+1)*32) (qW 0):=by
  have h32:(Value.agg (Array.replicate 32 (qW 0))).cells=Array.replicate 32 (qW 0):=rfl;rw[h32];unfold Builtin.zeroCells
  apply List.ext_getElem
  ·simp
  ·intro i h1 h2
   have h3:i%32<32:=Nat.mod_lt _ (by omega)
   simp[getElem!_pos,h3]
 have hst:=run_storeCells_at P b off T (List.replicate ((n+1)*32) (qW 0)) 0 cur w hb (by simpa using hoff) (fun v hv=>by rw[List.eq_of_mem_replicate hv];rfl)
 simp only[Nat.add_zero,List.length_replicate]at hst
 have he:(cur.toList.take off++List.replicate ((n+1)*32) (qW 0)++cur.toList.drop (off+(n+1)*32)).toArray=zE cur off (Array.replicate ((n+1)*32) (qW 0)):=by
  unfold zE
  simp
 rw[he]at hst;unfold Oper.wp execOp
 have hr:(Builtin.clear_ #[t] o.type #[.slice (some ⟨b,off,none⟩) (n+1) c]).run P w=.ok (.tuple #[]) (w.setRow b (zE cur off (Array.replicate ((n+1)*32) (qW 0)))):=by
  simp[Builtin.clear_,run_underlying ht,hzv,hzc,hst]
 simp[ho,hx,resolve,invoke,builtin,hr]
 exact h _ (setRow_heap w b cur _ T _ hb) ⟨rfl,rfl,rfl,by simp,fun k _ hk=>setRow_other w b k _ (fun e=>hk e)⟩
end
theorem gat_cut{base:Nat}{g:Nat}{cur:iL}{l:List iK}(h:kI base w (.slice (some ⟨g,0,none⟩) n cap) l)(hg:w.heap[g]?=some (.cells cur 24 (0,0)))(hi:i<=l.length)(hsz:i*32+cs.size<=cur.size)
 (hg':w'.heap[g]?=some (.cells (zE cur (i*32) cs) 24 (0,0))):kI base w' (.slice (some ⟨g,0,none⟩) i cap) (l.take i):=by
 rcases h.2 with⟨h1,_⟩|⟨g2,c,cur2,h1,hb,hg2,hc,hm,hcs,ht⟩
 ·cases h1
 ·have hlt:(l.take i).length=i:=by rw[List.length_take,Nat.min_eq_left hi]
  cases h1
  rw[hg]at hg2
  cases hg2
  have hft:(l.take i).flatMap iI=(l.flatMap iI).take (i*32):=(tS jL l i hi).symm;have hmul:i*32<=l.length*32:=Nat.mul_le_mul_right _ hi
  have hlen:=dQ jL (l.take i);unfold kI Gat
  refine⟨hlen,.inr ⟨g,cap,zE cur (i*32) cs,by rw[hlt],hb,hg',by omega,hm,by rw[kQ hsz];exact hcs,?_⟩⟩
  have h2:(zE cur (i*32) cs).toList.take (i*32)=cur.toList.take (i*32):=by
   unfold zE;have h4:cur.toList.length=cur.size:=Array.length_toList;have h3:(cur.toList.take (i*32)).length=i*32:=by rw[List.length_take];omega
   simp only[List.append_assoc];rw[List.take_append_of_le_length (by omega),List.take_of_length_le (by omega)]
  rw[hlt,h2,hft,<-ht,List.take_take,Nat.min_eq_left hmul]
def DelsR(w:iN)(base:Nat)(v:Value)(l:List iK):iJ:=fun e w'=>Mod (fun q=>v.ownBlock=some q) w w'/\∃v',e=.returned v'/\kI base w' v' l/\v'.ownBlock=v.ownBlock
structure DelAt(w0:iN)(base:Nat)(v:Value)(ids:List iK)(del:iK->Bool)(ni nj:Nat)(l:List iK)(w:iN):Prop where
 row:kI base w v l
 len:l.length=ids.length
 lt:ni<nj
 le:nj<=ids.length
 took:l.take ni=(ids.take nj).filter fun x=> !del x
 left:l.drop nj=ids.drop nj
 mod:Mod (fun q=>v.ownBlock=some q) w0 w
def DelRel(w0:iN)(base:Nat)(v:Value)(ids:List iK)(del:iK->Bool)(i j:Value)(w:iN):Prop:=∃ni nj l,i=.int .i64 (ni:Nat)/\j=.int .i64 (nj:Nat)/\DelAt w0 base v ids del ni nj l w
theorem DelAt.skip{base:Nat}{ids l:List iK}(h:DelAt w0 base v ids del ni nj l w)(hlt:nj<ids.length)(hd:del ids[nj]=true)(hm:Mod qJ w w'):DelAt w0 base v ids del ni (nj+1) l w':=
 ⟨h.row.keep0 hm,h.len,by have:=h.lt;omega,hlt,by rw[h.took,<-pZ hlt,List.filter_append];simp[hd],by rw[<-List.drop_drop,h.left,List.drop_drop],h.mod.trans hm (fun _ _ h=>h.elim)⟩
theorem DelAt.keep{base:Nat}{ids l:List iK}(h:DelAt w0 base v ids del ni nj l w)(hlt:nj<ids.length)(hd:del ids[nj]=false)(hr:kI base w' v (l.set ni ids[nj]))(hm:Mod (fun q=>v.ownBlock=some q) w0 w'):DelAt w0 base v ids del (ni+1) (nj+1) (l.set ni ids[nj]) w':=by
 have h1:=h.lt;have h2:=h.len;refine⟨hr,by rw[List.length_set,h2],by omega,hlt,?_,?_,hm⟩
 ·rw[List.take_succ_eq_append_getElem (by rw[List.length_set];omega),List.take_set_of_le (Nat.le_refl _),h.took,<-pZ hlt,List.filter_append]
  simp[hd]
 ·rw[List.drop_set_of_lt (by omega),<-List.drop_drop,h.left,List.drop_drop]
def FindP(ids:List iK)(del:iK->Bool)(r:Int):Prop:=(r=-1/\∀x∈ids,del x=false)\/(∃pre x rest,ids=pre++x::rest/\r=(pre.length:Nat)/\del x=true/\∀y∈pre,del y=false)
theorem filter_none{α:Type}{l:List α}{del:α->Bool}(h:∀y∈l,del y=false):(l.filter fun x=> !del x)=l:=List.filter_eq_self.2 fun y hy=>by simp[h y hy]
section
variable{w:iN}{base gf:Nat}{lb:iL}{v:Value}{ids:List iK}{del:iK->Bool}
theorem deleteI_any(eg:∀args w,(callFunc gf args).run prog w=.ok (.enter gf args) w)(hv:kI base w v ids)(h32:∀x∈ids,x.length=32)(hdel:DelsOn gf lb del (fun q=>v.ownBlock=some q) w):
 Calls prog 125 #[v,.func (.func gf) #[] lb] w (DelsR w base v (ids.filter fun x=> !del x)):=by
 have hfind:=indexI_any eg hv h32 (fun x W hx hm=>hdel x W hx (hm.mono (fun _ _ h=>h.elim)));obtain⟨ad,cap,hve⟩:=hv.slice
 have hmx:ids.length<=9223372036854775807:=by
  rcases hv.2 with⟨_,h0⟩|⟨g,c,cur,_,_,_,hc,hm,_⟩
  ·omega
  ·unfold maxLen at hm;omega
 have HV:=O hv;have HD:=O hdel;have HVE:=O hve;clear hv hdel
 replace hfind:=hfind.mono (R':=fun e w'=>∃r:Int,e=.returned (.int .i64 r)/\FindP ids del r/\Mod qJ w w') (by
  rintro e w' ⟨hm,⟨rfl,h⟩|⟨pre,x,rest,h1,rfl,h2⟩⟩
  ·exact⟨-1,rfl,.inl ⟨rfl,h⟩,hm⟩
  ·exact⟨_,rfl,.inr ⟨pre,x,rest,h1,rfl,h2⟩,hm⟩)
 rw[hve]at HV hfind
 suffices hsuf:Calls prog 125 #[.slice ad ids.length cap,.func (.func gf) #[] lb] w (DelsR w base v (ids.filter fun x=> !del x)) by rw[hve];rw[hve]at hsuf;exact hsuf
 clear hve;go_enter func125,ntmps125;go_upto_region 1 with(fail);refine qL [3,3,1,3] ?_;simp only[qB];refine qK (xE func197 (hfind) ?_);rintro e w2 ⟨r,rfl,hfp,hm2⟩
 refine⟨_,rfl,?_⟩;simp only[qB];clear hfind
 rcases hfp with⟨rfl,hall⟩|⟨pre,x,rest,hids,rfl,hx,hpre⟩
 ·have HF:Hid (DelsR w base v (ids.filter fun x=> !del x) (.returned (.slice ad ids.length cap)) w2):=O ⟨hm2.mono (fun _ _ h=>h.elim),_,rfl,by rw[filter_none hall];exact HV.out.keep0 hm2,by rw[HVE.out]⟩
  clear hall hm2;go_wp2;go_ret;exact HF.out
 have hpl:pre.length<ids.length:=by rw[hids];simp
 have h0:DelAt w base v ids del pre.length (pre.length+1) ids w2:=by
  refine⟨by rw[HVE.out];exact HV.out.keep0 hm2,rfl,by omega,hpl,?_,rfl,hm2.mono (fun _ _ h=>h.elim)⟩;have e1:ids.take pre.length=pre:=by rw[hids,List.take_left]
  have e2:ids.take (pre.length+1)=pre++[x]:=by rw[hids,List.take_append,List.take_of_length_le (by omega)];simp
  rw[e1,e2,List.filter_append,filter_none hpre]
  simp[hx]
 have HR0:Hid (DelRel w base v ids del (.int .i64 (pre.length:Nat)) (.int .i64 ((pre.length+1:Nat):Int)) w2):=O ⟨_,_,ids,rfl,rfl,h0⟩
 generalize pre.length=k0 at*;have hk1:((k0:Nat):Int)≠-1:=by omega
 clear h0 hids hx hpre hm2;go_wp2
 go_loopw [5,6] (DelRel w base v ids del) (fun _ j _=>ids.length-(intOf j).toNat)
 case atStart=>exact HR0.out
 case round=>
  rename iN=>wr
  obtain⟨ni,nj,l,rfl,rfl,hda⟩:=hrel;have HDA:=O hda;have hij:=hda.lt;have hjn:=hda.le;have hln:=hda.len
  by_cases hlt:nj<ids.length
  ·have hz:(nj:Int)<(ids.length:Nat):=by omega
   have hrow:=hda.row;rw[HVE.out]at hrow;obtain⟨g,cap',cur,hce,hg,hcA,-,-,-⟩:=Gat.at hrow jL nj (by omega)
   obtain⟨rfl,rfl⟩:ad=some ⟨g,0,none⟩/\cap=cap':=by injection hce with e1 e2 e3;exact⟨e1,e3⟩
   have hx32:=h32 _ (List.getElem_mem hlt)
   have hlx:l[nj]'(by omega)=ids[nj]:=by
    have h1:=List.getElem_drop (xs:=l) (i:=nj) (j:=0) (h:=by simp;omega);have h2:=List.getElem_drop (xs:=ids) (i:=nj) (j:=0) (h:=by simp;omega)
    simp only[Nat.add_zero]at h1 h2;rw[<-h1,<-h2]
    congr 1
    exact hda.left
   rw[hlx,pG hx32]at hcA;have hskip:=fun(w':iN) hd hm=>hda.skip (w':=w') hlt hd hm;have hkeep:=fun(w':iN) hd hr hm=>hda.keep (w':=w') hlt hd hr hm
   generalize ids[nj]=x at*;have hic:(qA x).size=32:=by rw[qD,hx32]
   have HSK:=O hskip;have HKP:=O hkeep;have hmr:=hda.mod;clear hskip hkeep hlx hce hda hrow;go_upto_region 7 with(fail);refine qL [3,3,3,1,1,1] ?_
   simp only[qB];refine zC 25 32 hlt ?_;simp only[qC];refine qY 24 hcA 32 hic ?_;try simp only[qC]
   refine qK (zB eC (fun w3 hB3 hm3 hs3=>?_));try simp only[qC]
   refine qK (qT 24 (qA x) (qQ _) 32 hic hB3 (fun w4 hB4 hm4=>?_) (hoff:=by rw[hic,qD];simp));simp only[qB]
   have hmr4:Mod qJ wr w4:=hm3.transB hm4 (Nat.le_refl _);generalize hb7:wr.heap.size=b7 at*;have hgb:g<b7:=by rw[<-hb7];exact(Array.getElem?_eq_some_iff.1 hg).1
   have hcall:=HD.out x w4 hx32 (by rw[HVE.out]at hmr |-;exact hmr.trans hmr4 (fun _ _ h=>h.elim));generalize hbb:del x=bb at*;have HBB:=O hbb
   have hg4:=hmr4.obj id hg;clear hm3 hm4 hB3 hs3 hbb hcA;go_upto_region 8 with(fail);refine qL [3,1,1,3] ?_;simp only[qB];refine qY 24 (CellsAt.whole hB4) 32 hic ?_
   try simp only[qC]
   refine qK (xS (run_clos _ _ _ gf lb (by rfl) (by rfl) (tQ x) (by rfl) eg) hcall ?_);rintro e w5 ⟨rfl,hm5⟩;refine⟨_,rfl,?_⟩;try simp only[qB]
   try refine xC _ _ _ rfl rfl rfl ?_
   try simp only[qB]
   have hmr5:=hmr4.trans0 hm5;have hB5:=hm5.obj id hB4;have hg5:=hm5.obj id hg4;clear hcall hB4 hg4
   cases bb with
   |true=>
    have HR:Hid (DelRel w base v ids del (.int .i64 (ni:Nat)) (.int .i64 ((nj+1:Nat):Int)) w5):=O ⟨_,_,l,rfl,rfl,HSK.out w5 rfl hmr5⟩
    clear hmr4 hmr5 hm5 hB5 hg5 hg hmr;go_wp2
    go_roundw
    case rel=>exact HR.out
    case measure=>simp[intOf];omega
   |false=>
    have hrow5:=HDA.out.row;rw[HVE.out]at hrow5;obtain⟨g2,cap2,cur2,hce2,hg2,-,hsz2,-,hput⟩:=Gat.at (hrow5.keep0 hmr5) jL ni (by omega)
    obtain rfl:g=g2:=by injection hce2 with e1 e2 e3;injection e1 with e1;injection e1
    have hput':=fun(w6:iN)(h:w6.heap[g]?=some (.cells (zE cur2 (ni*32) (qA x)) 24 (0,0)))=>hput x w6 (by rw[pG hx32];exact h)
    have HPUT:=O hput';clear hput hput' hrow5;go_upto_region 9 with(fail);refine qL [3,3,1,3,1] ?_;simp only[qB];refine qY 24 (CellsAt.whole hB5) 32 hic ?_
    try simp only[qC]
    refine dJ _ _ _ _ _ _ _ _ _ rfl rfl rfl rfl underlying25 (n:=32) (by kernel_rfl) (by omega) ?_;simp only[qC]
    refine qK (xU 24 (ni*32) (qA x) (qQ _) 32 hic hg2 (fun w6 hB6 hm6=>?_) (hoff:=by rw[hic];exact hsz2));simp only[qB]
    have HR:Hid (DelRel w base v ids del (.int .i64 ((ni+1:Nat):Int)) (.int .i64 ((nj+1:Nat):Int)) w6):=O ⟨_,_,l.set ni x,rfl,rfl,HKP.out w6 rfl (by rw[HVE.out];exact HPUT.out w6 hB6) ((hmr.trans hmr5 (fun _ _ h=>h.elim)).trans hm6 (fun k _ e=>by rw[HVE.out,show k=g from e];rfl))⟩
    clear hmr4 hmr5 hm5 hB5 hg5 hg hmr hB6 hm6 hg2;go_wp2
    go_roundw
    case rel=>exact HR.out
    case measure=>simp[intOf];omega
  ·have hz:¬(nj:Int)<(ids.length:Nat):=by omega
   obtain rfl:nj=ids.length:=by omega
   have hrow:=hda.row;rw[HVE.out]at hrow;obtain⟨g,cap',cur,hce,hg,-,-,-,-⟩:=Gat.at hrow jL ni (by omega)
   obtain⟨rfl,rfl⟩:ad=some ⟨g,0,none⟩/\cap=cap':=by injection hce with e1 e2 e3;exact⟨e1,e3⟩
   obtain⟨hcs,hncap⟩:cur.size=cap*32/\ids.length<=cap:=by
    rcases hrow.2 with⟨h1,_⟩|⟨g2,c,cur2,h1,_,hg2,hc,_,hcs,_⟩
    ·cases h1
    ·injection h1 with e1 e2 e3
     injection e1 with e1;injection e1 with e1;subst e1 e3;rw[hg]at hg2
     cases hg2
     exact⟨hcs,by omega⟩
   obtain⟨m,hm⟩:∃m,ids.length-ni=m+1:=⟨ids.length-ni-1,by omega⟩
   have hsl:sliced (some ⟨g,0,none⟩) ni ids.length cap 32=.slice (some ⟨g,ni*32,none⟩) (m+1) (cap-ni):=by
    unfold sliced;rw[if_neg (by omega),hm]
    simp[uV]
   have hst:sliced (some ⟨g,0,none⟩) 0 ni cap 32=.slice (some ⟨g,0,none⟩) ni cap:=by
    simp only[sliced,Option.map_some,uV,Nat.zero_mul,Nat.add_zero,Nat.sub_zero,ite_self]
   have htk:=hda.took;rw[List.take_length]at htk;have hmr:=hda.mod;have HSL:=O hsl;have HST:=O hst;clear hsl hst hce hda;go_upto_region 11 with(fail)
   refine qL [3,3,3,1] ?_;simp only[qB];refine kY 25 24 _ _ _ _ _ ni 32 rfl rfl rfl rfl underlying25 (by kernel_rfl) (by omega) ?_;simp only[qC]
   refine kS rfl ?_;rw[HSL.out];refine wp_clearIds 25 24 _ g (ni*32) m (cap-ni) (by rfl) (by rfl) underlying25 id_zero _ _ hg (by omega) (fun w3 hB3 hm3=>?_)
   simp only[qB];have hcut:=gat_cut (i:=ni) hrow hg (by omega) (by rw[Array.size_replicate];omega) hB3;rw[htk]at hcut
   have HF:Hid (DelsR w base v (ids.filter fun x=> !del x) (.returned (sliced (some ⟨g,0,none⟩) 0 ni cap 32)) w3):=O ⟨hmr.trans hm3 (fun k _ e=>by rw[HVE.out,show k=g from e];rfl),_,rfl,by rw[HST.out];exact hcut,by rw[HST.out,HVE.out];rfl⟩
   clear hcut hB3 hm3 hg hmr hrow htk;go_upto_region 12 with(fail);refine qL [3,3,3,3] ?_;simp only[qB]
   refine vH 25 24 _ _ _ _ _ ni 32 rfl rfl rfl rfl underlying25 (by kernel_rfl) (by omega) ?_;simp only[qB];go_wp2;go_ret;have h9:=HF.out;rw[HST.out]at h9;exact h9
end
def dU(w:iN):iN:={ w with heap:=#[] }
theorem emptyW_mod(w:iN):Mod qJ (dU w) w:=⟨rfl,rfl,rfl,by simp[dU],fun k hk _=>by simp[dU]at hk⟩
theorem LkAt.bare{p:Value}{limit:Int}{l:qU}{F:iM}(h:LkAt w0 w p limit l F):LkAt (dU w) w p limit l F:=⟨emptyW_mod w,h.ok,fun k _=>by simp[dU],h.lt⟩
structure tC where
 bs:Nat
 ms:Nat
 wd:Nat
 room:Int
 q:Value
 limit:Int
def HsAt(w:iN)(h:tC)(c:yO)(l:qU)(Ft:iM):Prop:=
 ∃bl F,StInv w h.bs h.ms h.wd h.room bl/\xJ bl=c/\LkAt (dU w) w h.q h.limit l F/\(∀k,fJ h.bs h.ms bl k->¬F k)/\(∀k,fJ h.bs h.ms bl k->Ft k)/\(∀k,F k->Ft k)/\∀k,Ft k->k<w.heap.size
def HStep(w:iN)(h:tC)(Ft:iM)(w':iN)(c':yO)(l':qU):Prop:=∃Ft',HsAt w' h c' l' Ft'/\Mod Ft w w'/\∀k,Ft' k->Ft k\/gD w w' k
section
variable{w w':iN}{h:tC}{c c':yO}{l l':qU}{Ft:iM}
theorem HsAt.lt(H:HsAt w h c l Ft):∀k,Ft k->k<w.heap.size:=by
 obtain⟨_,_,_,_,_,_,_,_,h⟩:=H;exact h
theorem HsAt.keep{S:iM}(H:HsAt w h c l Ft)(hm:Mod S w w')(hS:∀k,Ft k->¬S k):HsAt w' h c l Ft:=by
 obtain⟨bl,F,h1,h2,h3,h4,h5,h6,h7⟩:=H
 exact⟨bl,F,h1.keep hm (fun k hk=>hS k (h5 k hk)),h2,(h3.keep hm (fun k hk=>hS k (h6 k hk)) (fun k hk=>by simp[dU]at hk)).bare,h4,h5,h6,fun k hk=>Nat.lt_of_lt_of_le (h7 k hk) hm.size⟩
theorem HsAt.keep0(H:HsAt w h c l Ft)(hm:Mod qJ w w'):HsAt w' h c l Ft:=H.keep hm fun _ _=>id
theorem HsAt.small(H:HsAt w h c l Ft):(∀p∈c,p.1.length=32/\p.2.length<=4096)/\c.length<=10000/\l.length<=65536:=by
 obtain⟨bl,F,h1,rfl,h3,_⟩:=H;refine⟨fun p hp=>?_,by simpa[xJ]using h1.few,h3.facts.2.2.2.2.2⟩;obtain⟨b,hb,rfl⟩:=List.mem_map.1 hp
 exact⟨h1.ok b hb,h1.sz b hb⟩
theorem HsAt.drop(H:HsAt w h c l Ft)(di:iK)(hd:di.length=32):Calls prog 30 #[iO h.bs,.agg (qA di)] w (fun e w'=>∃v,e=.returned v/\HStep w h Ft w' (jE di c) l):=by
 obtain⟨bl,F,h1,rfl,h3,h4,h5,h6,h7⟩:=H;refine(bDrop_any h1 di hd).mono ?_;rintro e w' ⟨rfl,bl',k1,k2,k3,k4⟩
 have hF:∀k,F k->¬(k=h.bs\/k=h.ms):=fun k hk e=>h4 k (e.elim (fun e=>.inl e) (fun e=>.inr (.inl e))) hk
 refine⟨_,rfl,fun k=>Ft k\/gD w w' k,⟨bl',F,k1,k2,(h3.keep k3 hF (fun k hk=>by simp[dU]at hk)).bare,fun k hk hf=>?_,fun k hk=>(k4 k hk).imp (h5 k) id,fun k hk=>.inl (h6 k hk),fun k hk=>hk.elim (fun hk=>Nat.lt_of_lt_of_le (h7 k hk) k3.size) (fun hk=>hk.2)⟩,k3.mono (fun k _ e=>h5 k (e.elim (fun e=>.inl e) (fun e=>.inr (.inl e)))),fun k hk=>hk⟩
 rcases k4 k hk with hk|hk
 ·exact h4 k hk hf
 ·have:=h3.lt k hf
  have:=hk.1;omega
theorem HsAt.forget(H:HsAt w h c l Ft)(x:iK)(hx:x.length=32):Calls prog 127 #[h.q,.agg (qA x)] w (fun e w'=>e=.returned (.int .i64 (tI l x))/\HStep w h Ft w' c (dS l x)):=by
 obtain⟨bl,F,h1,rfl,h3,h4,h5,h6,h7⟩:=H;refine(forget_at h3 x hx).mono ?_;rintro e w' ⟨rfl,F',k1,k2,k3⟩
 refine⟨rfl,fun k=>Ft k\/gD w w' k,⟨bl,F',h1.keep k2 (fun k hk hf=>h4 k hk hf),rfl,k1.bare,fun k hk hf=>?_,fun k hk=>.inl (h5 k hk),fun k hk=>(k3 k hk).imp (h6 k) id,fun k hk=>hk.elim (fun hk=>Nat.lt_of_lt_of_le (h7 k hk) k2.size) (fun hk=>hk.2)⟩,k2.mono (fun k _ e=>h6 k e),fun k hk=>hk⟩
 rcases k3 k hf with hf|hf
 ·exact h4 k hk hf
 ·have:=h1.lt k hk
  have:=hf.1;omega
theorem HsAt.size(H:HsAt w h c l Ft)(di:iK)(hd:di.length=32):Calls prog 91 #[iO h.bs,.agg (qA di)] w (SizeR w (qR di c)):=by
 obtain⟨bl,F,h1,rfl,_⟩:=H;exact bSize_any h1 di hd
theorem HsAt.ids(H:HsAt w h c l Ft):Calls prog 38 #[iO h.bs] w (IDsR w c):=by
 obtain⟨bl,F,h1,rfl,_⟩:=H;exact bIDs_any h1
theorem HsAt.width(H:HsAt w h c l Ft):Calls prog 124 #[iO h.bs] w (pT (.int .i64 h.wd) w):=by
 obtain⟨bl,F,h1,rfl,_⟩:=H;exact bWidth_any h1
theorem nameB_none:uP ⟨#[]⟩=false:=by decide+kernel
theorem HsAt.none(H:HsAt w h c l Ft):Calls prog 123 #[h.q,.string ⟨#[]⟩,.agg (qA (List.replicate 32 0)),.int .i64 0] w (fun e w'=>(∃er:Int,er≠1/\e=.returned (.tuple #[.bool false,.int .i64 er]))/\HStep w h Ft w' c l):=by
 obtain⟨bl,F,h1,rfl,h3,h4,h5,h6,h7⟩:=H;refine(link_at h3 (⟨#[]⟩,List.replicate 32 0) (by simp[kH]) (Nat.zero_le _) 0).mono ?_
 have ha:(addE true h.limit l (⟨#[]⟩,List.replicate 32 0) 0).1=false/\(addE true h.limit l (⟨#[]⟩,List.replicate 32 0) 0).2≠1:=by
  unfold addE;rw[nameB_none]
  simp
 rintro e w' ⟨rfl,F',k1,k2,k3⟩;rw[iE,ha.1]at k1
 refine⟨⟨_,ha.2,by rw[ha.1]⟩,fun k=>Ft k\/gD w w' k,⟨bl,F',h1.keep k2 (fun k hk hf=>h4 k hk hf),rfl,k1.bare,fun k hk hf=>?_,fun k hk=>.inl (h5 k hk),fun k hk=>(k3 k hk).imp (h6 k) id,fun k hk=>hk.elim (fun hk=>Nat.lt_of_lt_of_le (h7 k hk) k2.size) (fun hk=>hk.2)⟩,k2.mono (fun k _ e=>h6 k e),fun k hk=>hk⟩
 rcases k3 k hf with hf|hf
 ·exact h4 k hk hf
 ·have:=h1.lt k hk
  have:=hf.1;omega
end
abbrev SwS:=yO×qU×Nat×Nat
def eM(s:SwS)(x:iK):SwS:=(jE x s.1,dS s.2.1 x,s.2.2.1+((qR x s.1).getD []).length,s.2.2.2+tI s.2.1 x)
def swRun(xs:List iK)(c:yO)(l:qU):SwS:=xs.foldl eM (c,l,0,0)
theorem swRun_snoc(xs:List iK)(x:iK)(c:yO)(l:qU):swRun (xs++[x]) c l=eM (swRun xs c l) x:=by simp[swRun]
def eD(ids marks:List iK):List iK:=ids.filter fun x=> !decide (x∈marks)
theorem sweptZ:(prog.info? 104).bind (·.zero)=some (.agg #[.slice none 0 0,.int .i64 0,.int .i64 0]):=by kernel_rfl
theorem setZ:(prog.info? 200).bind (·.zero)=some (.map none):=by kernel_rfl
theorem built_id0:prog.built 24 []=some (qA (List.replicate 32 0)):=by kernel_rfl
def zV(bv:Value)(b n:Nat):iL:=#[bv,.int .i64 b,.int .i64 n]
structure SwpAt(w0:iN)(h:tC)(Ft:iM)(c:yO)(l:qU)(gone:List iK)(ob:Nat)(bv:Value)(k:Nat)(s:SwS)(w:iN)(Fk:iM):Prop where
 run:swRun (gone.take k) c l=s
 at':HsAt w h s.1 s.2.1 Fk
 mod:Mod Ft w0 w
 sub:∀j,Fk j->Ft j\/gD w0 w j
 nob:¬Fk ob
 nrow:∀q,bv.ownBlock=some q->¬Fk q
 box:w.heap[ob]?=some (.cells (zV bv s.2.2.1 s.2.2.2) 104 (0,0))
 row:kI w0.heap.size w bv gone
 b1:s.2.2.1<=k*4096
 n1:s.2.2.2<=k*65536
def SwpRel(w0:iN)(h:tC)(Ft:iM)(c:yO)(l:qU)(gone:List iK)(ob:Nat)(bv:Value)(i:Value)(w:iN):Prop:=
 ∃k s Fk,k<=gone.length/\i=.int .i64 (k:Nat)/\SwpAt w0 h Ft c l gone ob bv k s w Fk
def SwpR(w:iN)(h:tC)(Ft:iM)(c:yO)(l:qU)(marks:List iK):iJ:=fun e w'=>
 ∃ids bv s Ft',IDsC c ids/\swRun (eD ids marks) c l=s/\e=.returned (.tuple #[.agg (zV bv s.2.2.1 s.2.2.2),.int .i64 0])/\kI w.heap.size w' bv (eD ids marks)/\
  HsAt w' h s.1 s.2.1 Ft'/\Mod Ft w w'/\(∀k,Ft' k->Ft k\/gD w w' k)/\∀q,bv.ownBlock=some q->¬Ft' q
section
variable{w:iN}{h:tC}{c:yO}{l:qU}{Ft:iM}
theorem swSweep_any(H:HsAt w h c l Ft){own:Bool}{marks:List iK}(hv:Sl own w G 32 IdC v marks)(hG:∀k,G k->¬Ft k):Calls prog 53 #[iO h.bs,h.q,v] w (SwpR w h Ft c l marks):=by
 have hmm:= @run_makeMap prog;have HH:=O H;have HV:=O hv;obtain⟨vad,vcap,hve,-,-⟩:=Sl.at hv
 have hmk32:∀x∈marks,x.length=32:=by
  intro x hx;obtain⟨a,cap,_,_,hat⟩:=Sl.at hv;obtain⟨i,hi,rfl⟩:=List.getElem_of_mem hx;obtain⟨b,off,_,_,_,hc⟩:=hat i hi;obtain⟨cs,_,⟨_,h2⟩,_⟩:=hc i hi
  exact h2
 rw[hve]at HV;subst hve;clear H hv
 have hz:¬(h.wd:Int)=0:=by
  obtain⟨bl,F,h1,_⟩:=HH.out;have:=h1.wok;omega
 generalize hq:h.q=qv;go_enter func53,ntmps53;go_upto_region 0 with(fail);refine qL [1,3] ?_;simp only[qB];refine qK (zB sweptZ (fun w1 hB1 hm1 hs1=>?_))
 simp only[qB];have hlk:=(HH.out.keep0 hm1).none;rw[hq]at hlk;go_upto_region 1 with(fail);refine qL [3,0,1,3,3,3,3,3] ?_;simp only[qB];refine yV built_id0 ?_
 simp only[qC];refine qK (xE func123 (hlk) ?_);rintro e w2 ⟨⟨er,her,rfl⟩,hst2⟩;refine⟨_,rfl,?_⟩;simp only[qB];refine jQ (.bool false) ?_;simp only[qC]
 refine jQ (.int .i64 er) ?_;simp only[qB];obtain⟨F2,H2,hm2,hs2⟩:=hst2;have hwid:=H2.width;clear hlk;have HWID:=O hwid;clear hwid
 have hz1:((h.wd:Int)==0)=false:=by simpa using hz
 have her1:(er==1)=false:=by simpa using her
 clear hz her;go_upto_region 4 with(go_at_call 124;refine HWID.out.mono ?_;rintro _ w3 ⟨rfl,hw3⟩;obtain rfl:=hw3.symm)
 have hobF:¬Ft w.heap.size:=fun e=>by have:=HH.out.lt _ e;omega
 have hob2:¬F2 w.heap.size:=fun e=>(hs2 _ e).elim hobF (fun h=>by have:=h.1;omega);have hBo2:=hm2.obj hobF hB1
 have hm02:Mod Ft w w2:=(hm1.mono (fun _ _ h=>h.elim)).trans hm2 (fun _ _ h=>h)
 have hs02:∀k,F2 k->Ft k\/gD w w2 k:=fun k hk=>(hs2 k hk).imp id (fun h=>⟨by have:=h.1;have:=hm1.size;omega,h.2⟩);have hlt2:=H2.lt;have hw02:=hm02.size
 clear hz1 her1 HWID hm2 hs2 hB1;refine qL [1,3,1,1,1,1] ?_;simp only[qB];refine qH rfl (fun K hK=>?_);unfold Oper.wp execOp
 simp only[Array.map_empty,Option.map_none,Sem.run_bind,hmm,Result.andThen_ok,Sem.run_pure];have hB3:=heap_alloc_new w2 (.map #[] 0);have hm3:=zI w2 (.map #[] 0)
 have hs3:(w2.alloc (.map #[] 0)).heap.size=w2.heap.size+1:=by simp
 generalize w2.alloc (.map #[] 0)=w3 at hB3 hm3 hs3 |-;have hM3:MapIs tQ bB w3 w2.heap.size []:=MapIs.made hB3;have hval:=eK w3 vad marks.length vcap
 refine hK _ _ trivial ?_;clear hK K;simp only[qB];refine qK (xE func119 (hval) ?_);rintro e w4 ⟨rfl,hw4⟩;have hm4:Mod qJ w3 w4:=by rw[hw4];exact zI w3 _
 have hB4:w4.heap[w3.heap.size]?=some (.cells #[.slice vad marks.length vcap] 25 (0,0)):=by rw[hw4];exact heap_alloc_new w3 _
 clear hw4;have hadd:=fN (enters_of func194 (by kernel_rfl) rfl) (bP hB4 (((HV.out.keep hm02 hG (fun _ _ h=>h)).keep0 hm3).keep0 hm4)) hmk32 (hM3.keep0 hm4)
 refine⟨_,rfl,?_⟩;try simp only[qC]
 refine qK (xE func115 (hadd) ?_);rintro e w5 ⟨rfl,hM5,hm5⟩;refine⟨_,rfl,?_⟩;try simp only[qC]
 refine qK (wpAl9 setZ (fun w6 hB6 hm6 hs6=>?_));replace hB6:w6.heap[w5.heap.size]?=some (.cells #[.map none] 200 (0,0)):=hB6;try simp only[qC]
 refine qK (zR 200 0 (.map (some w2.heap.size)) hB6 (fun w7 hB7 hm7=>?_) (hoff:=by simp))
 replace hB7:w7.heap[w5.heap.size]?=some (.cells #[.map (some w2.heap.size)] 200 (0,0)):=hB7;simp only[qB]
 have hm25:Mod qJ w2 w5:=(hm3.trans0 hm4).transB hm5 (Nat.le_refl _);have hm27:Mod qJ w2 w7:=(hm25.trans0 hm6).transB hm7 hm25.size;have hmbk:=hM5.lt
 have hM7:=(hM5.keep0 hm6).keep hm7 (fun e=>by have e:w2.heap.size=w5.heap.size:=e;omega);have hkb7:w5.heap.size<w7.heap.size:=(Array.getElem?_eq_some_iff.1 hB7).1
 have hob2':w.heap.size<w2.heap.size:=(Array.getElem?_eq_some_iff.1 hBo2).1;generalize hmb:w2.heap.size=mb at*;generalize hkb:w5.heap.size=kb at*
 have hmk:=addsL_marked marks [] (by simp[Marked])
 have hmem:∀x,decide (x∈(pK marks []).map (·.1))=decide (x∈marks):=fun x=>by rw[decide_eq_decide,fU];simp
 have H7:=H2.keep0 hm27;have hBo7:=hm27.obj id hBo2;have hids:=H7.ids;have hc32:=H7.small.1;have hs27:=hm27.size
 clear hB6 hm3 hm4 hm5 hm6 hm7 hM3 hB3 hB4 hval hadd hM5 hs3 hs6 hm25;go_upto_region 5 with(fail);refine qL [3,1,1,1,3,1] ?_;simp only[qB];refine qK (xE func38 (hids) ?_)
 rintro e w8 ⟨hm8,v8,ids,he8,hg8,hidc⟩;subst he8
 have hi32:∀x∈ids,x.length=32:=fun x hx=>by
  obtain⟨p,hp,rfl⟩:=List.mem_map.1 ((hidc.2.mem_iff).1 hx);exact(hc32 p hp).1
 have hdels:DelsOn 126 #[iO kb] (fun x=>decide (x∈marks)) (fun q=>v8.ownBlock=some q) w8:=fun x W hx hm=>by
  have hno:∀k,k<w7.heap.size->¬(v8.ownBlock=some k):=fun k hk e=>by have:=(hg8.lt e).1;omega
  have h1:=swKept_any (hm.obj (hno kb hkb7) (hm8.obj id hB7)) ((hM7.keep0 hm8).keep hm (hno mb (by omega))) hmk x hx;rw[hmem]at h1;exact h1
 have hdelc:=deleteI_any (enters_of func126 (by kernel_rfl) rfl) hg8 hi32 hdels;refine⟨_,rfl,?_⟩;try simp only[qC]
 refine cF rfl (pS 126 [.tmp 10] (by rfl) [iO kb] (by rfl)) trivial ?_;try simp only[qC]
 refine qK (xE func125 (hdelc) ?_);rintro e w9 ⟨hm9,bv,he9,hg9,ho9⟩;subst he9
 have hbv:∀q,bv.ownBlock=some q->w7.heap.size<=q:=fun q hq=>by rw[ho9]at hq;exact(hg8.lt hq).1
 have hm79:Mod qJ w7 w9:=hm8.trans hm9 (fun k hk e=>by have:=(hg8.lt e).1;omega);have hBo9:=hm79.obj id hBo7;refine⟨_,rfl,?_⟩;simp only[qB]
 refine qK (zR 25 0 bv hBo9 (fun w10 hB10 hm10=>?_) (hoff:=by simp) (h1:=jJ hg9))
 replace hB10:w10.heap[w.heap.size]?=some (.cells #[bv,.int .i64 0,.int .i64 0] 104 (0,0)):=hB10;simp only[qB];have hm29:=hm27.trans0 hm79
 have hg10:kI w.heap.size w10 bv (eD ids marks):=(hg9.keep hm10 (fun q hq e=>by have:=hbv q hq;have e:q=w.heap.size:=e;omega)).base (by omega)
 have hAt:SwpAt w h Ft c l (eD ids marks) w.heap.size bv 0 (c,l,0,0) w10 F2:=by
  refine⟨rfl,(H2.keep0 hm29).keep hm10 (fun k hk e=>hob2 (by rw[<-show k=w.heap.size from e];exact hk)),?_,?_,hob2,fun q hq hf=>?_,hB10,hg10,Nat.le_refl _,Nat.le_refl _⟩
  ·exact(hm02.trans hm29 (fun _ _ h=>h.elim)).trans hm10 (fun k hk e=>by have e:k=w.heap.size:=e;omega)
  ·intro k hk
   exact(hs02 k hk).imp id (fun h=>⟨h.1,by have:=h.2;have:=hm29.size;have:=hm10.size;omega⟩)
  ·have:=hbv q hq
   have:=hlt2 q hf;omega
 obtain⟨gad,gcap,hgv⟩:=hg10.slice
 have hgl:(eD ids marks).length<=9223372036854775807:=by
  rcases hg10.2 with⟨_,h0⟩|⟨g,cc,cur,_,_,_,hc,hm,_⟩
  ·omega
  ·unfold maxLen at hm;omega
 have hgl2:(eD ids marks).length<=10000:=by
  have h1:(eD ids marks).length<=ids.length:=List.length_filter_le _ _;have h2:=hidc.2.length_eq;have h3:=H7.small.2.1
  simp at h2
  omega
 have hg32:∀x∈eD ids marks,x.length=32:=fun x hx=>hi32 x (List.mem_filter.1 hx).1;have HIDC:=O hidc;generalize hgone:eD ids marks=gone at*
 have HGO:=O hgone;have HR0:Hid (SwpRel w h Ft c l gone w.heap.size bv (.int .i64 (0:Nat)) w10):=O ⟨0,_,F2,Nat.zero_le _,rfl,hAt⟩
 have hcB:w10.cell? ⟨w.heap.size,0,none⟩=some bv:=by simp[World.cell?,hB10]
 rw[hgv]at hcB HR0;generalize hob:w.heap.size=ob at*
 clear hgone hAt hg10 hB10 hm10 hBo9 hm79 hbv hg9 ho9 hm9 hdelc hdels hm29 hi32 hg8 hidc hm8 H7 hids hBo7 hmem hmk hM7 hm27 H2 hB7 hlt2 hs02 hm02 hBo2 hm1
 go_upto_region 6 with(fail);refine qL [3,1,3,3] ?_;simp only[qB];refine qG 25 hcB ?_;try simp only[qC]
 refine xF ?_;simp only[qB];clear hcB;go_wp2
 go_loopw [41] (SwpRel w h Ft c l gone ob (.slice gad gone.length gcap)) (fun i _=>gone.length-(intOf i).toNat)
 case atStart=>exact HR0.out
 case round=>
  rename iN=>wr
  obtain⟨k,s,Fk,hk,rfl,hat⟩:=hrel;have hrow:=hat.row
  by_cases hlt:k<gone.length
  ·have hz:(k:Int)<(gone.length:Nat):=by omega
   obtain⟨g,cap',cur,hce,hg,hcA,-,-,-⟩:=Gat.at hrow jL k hlt
   obtain⟨rfl,rfl⟩:gad=some ⟨g,0,none⟩/\gcap=cap':=by injection hce with e1 e2 e3;exact⟨e1,e3⟩
   have hx32:=hg32 _ (List.getElem_mem hlt);rw[pG hx32]at hcA;have hrun:swRun (gone.take (k+1)) c l=eM s gone[k]:=by rw[<-pZ hlt,swRun_snoc,hat.run]
   generalize gone[k]=x at*;have hic:(qA x).size=32:=by rw[qD,hx32]
   have HRUN:=O hrun;have HAT:=O hat;have hboxr:=hat.box;have hobk:=hat.nob;have hnrk:=hat.nrow g rfl
   have hobr:ob<wr.heap.size:=(Array.getElem?_eq_some_iff.1 hboxr).1;have hgr:g<wr.heap.size:=(Array.getElem?_eq_some_iff.1 hg).1;have hltk:=hat.at'.lt
   have hsm:=hat.at'.small;have hb1:=hat.b1;have hn1:=hat.n1
   have hgne:g≠ob:=fun e=>by
    subst e;rw[hg]at hboxr;injection hboxr with h1;injection h1 with _ h2 _;exact absurd h2 (by decide)
   clear hrun hat hce;go_upto_region 8 with(fail);refine qL [3,1,1,1] ?_;simp only[qB];refine zC 25 32 hlt ?_;simp only[qC];refine qY 24 hcA 32 hic ?_
   try simp only[qC]
   refine qK (zB eC (fun w2 hB2 hm2 hs2=>?_));try simp only[qC]
   refine qK (qT 24 (qA x) (qQ _) 32 hic hB2 (fun w3 hB3 hm3=>?_) (hoff:=by rw[hic,qD];simp));simp only[qB]
   have hmr3:Mod qJ wr w3:=hm2.transB hm3 (Nat.le_refl _);have H3:=HAT.out.at'.keep0 hmr3;have hbox3:=hmr3.obj id hboxr;have hrow3:=hrow.keep0 hmr3
   have hib3:wr.heap.size<w3.heap.size:=(Array.getElem?_eq_some_iff.1 hB3).1;have hsz:=H3.size x hx32;clear hm2 hm3 hB2 hs2 hcA hg hboxr hrow
   generalize hib:wr.heap.size=ib at*;obtain⟨m,hmm2⟩:∃m,((qR x s.1).getD []).length=m:=⟨_,rfl⟩
   have hm4096:m<=4096:=by
    rw[<-hmm2]
    cases hgx:qR x s.1 with
    |none=>simp
    |some b=>exact(hsm.1 _ (jZ hgx)).2
   obtain⟨mo,hmo⟩:∃mo,(qR x s.1).isSome=mo:=⟨_,rfl⟩;unfold SizeR at hsz;rw[hmm2,hmo]at hsz;have HMM:=O hmm2;clear hmm2 hmo;go_upto_region 9 with(fail)
   refine qL [3,1,1,3,3,3,3,3] ?_;simp only[qB];refine qY 24 (CellsAt.whole hB3) 32 hic ?_;try simp only[qC]
   refine qK (xE func91 (hsz) ?_);rintro e w4 ⟨hm4,he4⟩;subst he4;refine⟨_,rfl,?_⟩;simp only[qB];refine jQ (.int .i64 (m:Nat)) ?_;simp only[qC]
   refine jQ (.bool mo) ?_;simp only[qB];have H4:=H3.keep0 hm4;have hbox4:=hm4.obj id hbox3;have hB4:=hm4.obj id hB3;have hrow4:=hrow3.keep0 hm4
   have hmr4:=hmr3.trans0 hm4;have hs34:=hm4.size;have hdrop:=H4.drop x hx32;clear hsz H3 hB3 hbox3 hrow3 hm4 hmr3;go_upto_region 10 with(fail);refine qL [3,1,1] ?_
   simp only[qB];refine qY 24 (CellsAt.whole hB4) 32 hic ?_;try simp only[qC]
   refine qK (xE func30 (hdrop) ?_);rintro e w5 ⟨v5,rfl,F5,H5,hm5,hs5⟩;refine⟨_,rfl,?_⟩;simp only[qB];have hibk:¬Fk ib:=fun e=>by have:=hltk _ e;omega
   have hbox5:=hm5.obj hobk hbox4;have hB5:=hm5.obj hibk hB4;have hrow5:=hrow4.keep hm5 (fun q hq=>by have hq:some g=some q:=hq;cases hq;exact hnrk)
   have hs4:=hmr4.size;have hno5:∀j,j<w4.heap.size->¬Fk j->¬F5 j:=fun j hj hf hf5=>(hs5 j hf5).elim hf (fun h=>by have:=h.1;omega)
   have hob5:=hno5 ob (by omega) hobk;have hib5:=hno5 ib (by omega) hibk;have hg5:=hno5 g (by omega) hnrk
   have hcb5:w5.cell? ⟨ob,0+1,none⟩=some (.int .i64 (s.2.2.1:Nat)):=by simp[World.cell?,hbox5,zV]
   clear hdrop hbox4 hB4 hrow4 H4;go_upto_region 11 with(fail);refine qL [3,1,3,3,3,1] ?_;simp only[qB];refine qG 3 hcb5 ?_;simp only[qB]
   refine jH ((s.2.2.1+m:Nat):Int) ?_;simp only[qB]
   refine qK (zR 3 (0+1) (.int .i64 ((s.2.2.1+m:Nat):Int)) hbox5 (fun w6 hB6 hm6=>?_) (hoff:=by simp[zV]))
   replace hB6:w6.heap[ob]?=some (.cells (zV (.slice (some ⟨g,0,none⟩) gone.length gcap) (s.2.2.1+m) s.2.2.2) 104 (0,0)):=hB6;simp only[qB]
   have H6:=H5.keep hm6 (fun j hj e=>hob5 (by rw[<-show j=ob from e];exact hj));have hid6:=hm6.objB (b:=ib) (by omega) hB5
   have hrow6:=hrow5.keep hm6 (fun q hq e=>by have hq:some g=some q:=hq;cases hq;exact hgne e)
   have hcn6:w6.drew.cell? ⟨ob,0+2,none⟩=some (.int .i64 (s.2.2.2:Nat)):=by
    have h1:w6.drew.heap[ob]?=_:=hB6
    simp[World.cell?,h1,zV]
   have hcx6:CellsAt w6.drew ib 0 (qA x):=CellsAt.whole (w:=w6.drew) hid6;have hdr:Mod qJ w6 w6.drew:=(Mod.refl _ _).drew;have hfor:=(H6.keep0 hdr).forget x hx32
   rw[hq]at hfor;have hle5:=hm5.size;have hle6:=hm6.size;have hfl:tI s.2.1 x<=65536:=Nat.le_trans (List.length_filter_le _ _) hsm.2.2
   obtain⟨fn,hfn⟩:∃n,tI s.2.1 x=n:=⟨_,rfl⟩;rw[hfn]at hfl;simp only[hfn]at hfor;have HFN:=O hfn
   obtain⟨SC,hSC⟩:∃SC:iN->Prop,SC=fun w'=>w'.cell? ⟨ob,0+2,none⟩=some (.int .i64 (s.2.2.2:Nat))/\CellsAt w' ib 0 (qA x):=⟨_,rfl⟩
   have hSi:∀w',SC w'->w'.cell? ⟨ob,0+2,none⟩=some (.int .i64 (s.2.2.2:Nat))/\CellsAt w' ib 0 (qA x):=fun w' h=>by rw[hSC]at h;exact h
   have hSm:∀w',w'.cell? ⟨ob,0+2,none⟩=some (.int .i64 (s.2.2.2:Nat))/\CellsAt w' ib 0 (qA x)->SC w':=fun w' h=>by rw[hSC];exact h
   have hS:SC w6.drew:=hSm _ ⟨hcn6,hcx6⟩;clear hfn hSC hcn6 hbox5 hB5 hrow5 H5;go_upto_region 12 with(fail);refine zZ [3,0,3,0,1,3,3,2] [7] SC hS ?_;simp only[qB]
   refine qE 3 (fun w' hS=>(hSi _ hS).1) ?_;simp only[qB];refine zJ 24 (fun w' hS=>(hSi _ hS).2) 32 hic ?_;simp only[qC];refine qH rfl (fun K hK=>?_)
   refine xE func127 (hfor) ?_;rintro e w7 ⟨rfl,F7,H7,hm7,hs7⟩;have hB7:=hm7.obj hob5 (hdr.obj id hB6)
   have hS2:SC w7:=hSm _ ⟨by simp[World.cell?,hB7,zV],hcx6.keep hm7 hib5⟩;refine⟨_,rfl,hK _ _ hS2 ?_⟩;clear hK K;try simp only[qC]
   refine jH ((s.2.2.2+fn:Nat):Int) ?_;simp only[qB];refine zP rfl (fun K hK=>?_)
   refine zR 3 (0+2) (.int .i64 ((s.2.2.2+fn:Nat):Int)) hB7 (fun w8 hB8 hm8=>?_) (hoff:=by simp[zV])
   replace hB8:w8.heap[ob]?=some (.cells (zV (.slice (some ⟨g,0,none⟩) gone.length gcap) (s.2.2.1+m) (s.2.2.2+fn)) 104 (0,0)):=hB8;refine hK _ _ ?_;clear hK K
   simp only[qB];have hno7:∀j,j<w6.heap.size->¬F5 j->¬F7 j:=fun j hj hf hf7=>(hs7 j hf7).elim hf (fun h=>by have h:=h.1;have:w6.heap.size<=j:=h;omega)
   have hob7:=hno7 ob (by omega) hob5;have hg7:=hno7 g (by omega) hg5;have hle7:w6.heap.size<=w7.heap.size:=hm7.size;have hle8:=hm8.size;have hA:=HAT.out
   have hlt0:w.heap.size=ob:=hob
   have hF5:∀j,j<ob->F5 j->Ft j:=fun j hj hf=>by
    rcases hs5 j hf with h|h
    ·rcases hA.sub j h with h|h
     ·exact h
     ·have:=h.1;omega
    ·have:=h.1;omega
   have hmodA:Mod Ft w w8:=by
    refine Mod.trans (Mod.trans (Mod.trans (Mod.trans (Mod.trans (Mod.trans hA.mod hmr4 (fun _ _ h=>h.elim)) hm5 (fun j hj hf=>?_)) hm6 (fun j hj e=>?_)) hdr (fun _ _ h=>h.elim)) hm7 (fun j hj hf=>hF5 j (by omega) hf)) hm8 (fun j hj e=>?_)
    ·rcases hA.sub j hf with h|h
     ·exact h
     ·have:=h.1;omega
    ·have e:j=ob:=e;omega
    ·have e:j=ob:=e;omega
   have hAt:SwpAt w h Ft c l gone ob (.slice (some ⟨g,0,none⟩) gone.length gcap) (k+1) (eM s x) w8 F7:=by
    refine⟨HRUN.out,H7.keep hm8 (fun j hj e=>hob7 (by rw[<-show j=ob from e];exact hj)),hmodA,fun j hf=>?_,hob7,fun q hq=>?_,?_,?_,?_,?_⟩
    ·rcases hs7 j hf with h7|h7
     ·rcases hs5 j h7 with h5|h5
      ·exact(hA.sub j h5).imp id (fun h=>⟨h.1,by have:=h.2;omega⟩)
      ·exact .inr ⟨by have:=h5.1;omega,by have:=h5.2;omega⟩
     ·exact .inr ⟨by have h:=h7.1;have:w6.heap.size<=j:=h;omega,by have:=h7.2;omega⟩
    ·have hq:some g=some q:=hq
     cases hq
     exact hg7
    ·unfold eM
     rw[HMM.out,HFN.out];exact hB8
    ·exact((hrow6.keep0 hdr).keep hm7 (fun q hq=>by have hq:some g=some q:=hq;cases hq;exact hg5)).keep hm8 (fun q hq e=>by have hq:some g=some q:=hq;cases hq;exact hgne e)
    ·unfold eM
     rw[HMM.out]
     show s.2.2.1+m<=_
     omega
    ·unfold eM
     rw[HFN.out]
     show s.2.2.2+fn<=_
     omega
   have HR:Hid (SwpRel w h Ft c l gone ob (.slice (some ⟨g,0,none⟩) gone.length gcap) (.int .i64 ((k+1:Nat):Int)) w8):=O ⟨k+1,_,F7,by omega,rfl,hAt⟩
   clear hAt hmodA hA hB8 hm8 hm7 hm6 hm5 hs7 hs5 hB7 hS hS2 hSi hSm H6 hrow6 hfor hB6 hid6 hcx6 hdr hmr4 H7;go_wp2
   go_roundw
   case rel=>exact HR.out
   case measure=>simp[intOf];omega
  ·have hz:¬(k:Int)<(gone.length:Nat):=by omega
   obtain rfl:k=gone.length:=by omega
   have hbox:=hat.box;have hrun:=hat.run;rw[List.take_length]at hrun;have hone:(Value.slice gad gone.length gcap).oneCell'=true:=rfl
   have hall:∀cc∈zV (.slice gad gone.length gcap) s.2.2.1 s.2.2.2,cc.oneCell'=true:=by
    intro cc hc
    simp[zV]at hc
    rcases hc with rfl|rfl|rfl<;>rfl
   have hca:CellsAt wr ob 0 (zV (.slice gad gone.length gcap) s.2.2.1 s.2.2.2):=CellsAt.whole hbox;go_upto_region 14 with(fail);refine qL [1,1,3] ?_;simp only[qB]
   refine qY 104 hca 3 rfl ?_;try simp only[qC]
   refine qK (yL 104 hall 3 rfl hbox (fun w9 hB9 hm9=>?_) (hoff:=rfl));simp only[qB];have hlt0:w.heap.size=ob:=hob;have hnob:=hat.nob
   have HF:Hid (SwpR w h Ft c l marks (.returned (.tuple #[.agg (zV (.slice gad gone.length gcap) s.2.2.1 s.2.2.2),.int .i64 0])) w9):=O (by
    refine⟨ids,.slice gad gone.length gcap,s,Fk,HIDC.out,by rw[HGO.out];exact hrun,rfl,?_,hat.at'.keep hm9 (fun j hj e=>hnob (by rw[<-show j=ob from e];exact hj)),hat.mod.trans hm9 (fun j hj e=>by have e:j=ob:=e;omega),fun j hj=>(hat.sub j hj).imp id (fun h=>⟨h.1,by have:=h.2;have:=hm9.size;omega⟩),hat.nrow⟩
    rw[HGO.out];refine hrow.keep hm9 (fun q hq e=>?_);have e:q=ob:=e;rw[e]at hq
    rcases hrow.2 with⟨h1,_⟩|⟨g,cc,cur,h1,_,hg,_⟩
    ·injection h1 with h1
     rw[h1]at hq
     cases hq
    ·injection h1 with h1
     rw[h1]at hq;have hq:some g=some ob:=hq
     cases hq
     rw[hg]at hbox;injection hbox with h1;injection h1 with _ h2 _
     exact absurd h2 (by decide))
   clear hm9 hrow hat hbox hca hrun;go_wp2;refine bodyPost_ret (yZ (P:=prog) (ty:=104) rfl _ _ ob _ _ _ _ (by rfl) hB9 underlying104 rfl (by kernel_rfl)) rfl ?_
   exact HF.out
end
end
section
open Go.RowKit Go.Proofs.Tryz Go.Lib
structure tX where
 r:Int
 n:Int
 deps:List Int
 kind:Int
 repo:ByteArray
 tag:ByteArray
 id:iK
 refs:List iK
 deriving DecidableEq
def vD(e:tX)(dv rv:Value):iL:=
 #[.int .i64 e.r,.int .i64 e.n,dv,.int .i64 e.kind,.string e.repo,.string e.tag]++qA e.id++#[rv]
def EvR(own:Bool)(w:iN)(G:iM)(cs:iL)(e:tX):Prop:=
 ∃dv rv,cs=vD e dv rv/\e.id.length=32/\Sl own w G 1 dH dv e.deps/\Sl own w G 32 IdC rv e.refs/\e.repo.size<=maxLen/\e.tag.size<=maxLen
structure EvCells(cs:iL)(e:tX)(dv rv:Value):Prop where
 size:cs.size=39
 c0:cs[0]?=some (.int .i64 e.r)
 c1:cs[1]?=some (.int .i64 e.n)
 c2:cs[2]?=some dv
 c3:cs[3]?=some (.int .i64 e.kind)
 c4:cs[4]?=some (.string e.repo)
 c5:cs[5]?=some (.string e.tag)
 c38:cs[38]?=some rv
 dot:cs.extract 0 2=#[.int .i64 e.r,.int .i64 e.n]
 id:cs.extract 6 38=qA e.id
theorem jO(e:tX)(dv rv:Value)(h:e.id.length=32):EvCells (vD e dv rv) e dv rv:=by
 have hi:(qA e.id).size=32:=by rw[qD,h]
 have hl:(e.id.map qW).length=32:=by simpa using h
 refine⟨by simp[vD,hi],?_,?_,?_,?_,?_,?_,?_,?_,?_⟩
 all_goals try (simp[vD,qA,h];done)
 ·apply Array.toList_inj.1
  simp only[vD,qA,Array.toList_extract,Array.toList_append,List.extract_eq_take_drop]
  simp[hl]
theorem fD{e:tX}{dv:Value}(h1:dv.oneCell'=true)(h2:rv.oneCell'=true):∀c∈vD e dv rv,c.oneCell'=true:=by
 intro c hc;simp only[vD,Array.mem_append]at hc
 rcases hc with(hc|hc)|hc
 ·simp at hc
  rcases hc with rfl|rfl|rfl|rfl|rfl|rfl<;>first|rfl|exact h1
 ·exact qQ _ c hc
 ·simp at hc;subst hc;exact h2
theorem EvR.keep{own:Bool}{w w':iN}{G S:iM}{cs:iL}{e:tX}(h:EvR own w G cs e)(hm:Mod S w w')(hd:∀k,G k->¬S k):EvR own w' G cs e:=by
 obtain⟨dv,rv,hc,hi,h1,h2,h3⟩:=h;exact⟨dv,rv,hc,hi,h1.keep hm hd fun _ _ h=>h,h2.keep hm hd fun _ _ h=>h,h3⟩
theorem EvR.mono{own:Bool}{w:iN}{G G':iM}{cs:iL}{e:tX}(h:EvR own w G cs e)(hg:∀k,G k->G' k):EvR own w G' cs e:=by
 obtain⟨dv,rv,hc,hi,h1,h2,h3⟩:=h;exact⟨dv,rv,hc,hi,h1.mono hg fun _ _ h=>h,h2.mono hg fun _ _ h=>h,h3⟩
theorem EvR.keep0{own:Bool}{e:tX}(h:EvR own w G cs e)(hm:Mod qJ w w'):EvR own w' G cs e:=h.keep hm (fun _ _=>id)
theorem SlEv.keep0{own own':Bool}{w w':iN}{E G:iM}{v:Value}{l:List tX}(h:Sl own w E 39 (EvR own' w G) v l)(hm:Mod qJ w w'):Sl own w' E 39 (EvR own' w' G) v l:=h.keep hm (fun _ _=>id) (fun _ _ h=>h.keep0 hm)
end
section
open Go.RowKit Go.Shelf Go.Proofs.Tryz Go.Lib
def jP(c:yH):List iK:=c.flatMap fun p=>((kA p.2).map yJ).getD [] |>.map (·.id)
theorem dX(c:yH):(jP c).length<=33*c.length:=by
 induction c with
 |nil=>simp[jP]
 |cons p c ih=>
  have h:(((kA p.2).map yJ).getD []).length<=33:=by
   cases hd:kA p.2 with
   |none=>simp
   |some m=>
    have:=decL_len hd;simp only[Option.map_some,Option.getD_some,yJ,List.length_append]
    split<;>simp<;>omega
  simp only[jP,List.flatMap_cons,List.length_append,List.length_map,List.length_cons]at ih |-;omega
theorem descsOf_mem{c:yH}{id:iK}{ds:List yY}(h:jA c id=some ds):∀d∈ds,d.id∈jP c:=by
 intro d hd;unfold jA at h
 cases hg:qR id c with
 |none=>rw[hg]at h;cases h
 |some b=>
  rw[hg]at h;refine List.mem_flatMap.2 ⟨(id,b),jZ hg,List.mem_map.2 ⟨d,?_,rfl⟩⟩;have h':(kA b).map yJ=some ds:=h
  show d∈((kA b).map yJ).getD []
  rw[h'];exact hd
theorem inR_mem{c:yH}:∀{f:Nat}{id:iK}{depth:Nat}{x:iK},inR c f id depth x->x=id\/x∈jP c
 |0,_,_,_,h=>h.elim
 |f+1,id,depth,x,h=>by
  rcases h with rfl|⟨_,ds,hds,d,hd,hx⟩
  ·exact .inl rfl
  ·right
   have hm:=descsOf_mem hds d hd
   split at hx
   ·rcases inR_mem hx with rfl|hx
    ·exact hm
    ·exact hx
   ·rw[hx];exact hm
theorem marks_len(c:yH)(roots:List iK)(h:((pE c roots).map (·.1)).Nodup):(pE c roots).length<=roots.length+33*c.length:=by
 have h1:=jC (l:=(pE c roots).map (·.1)) (m:=roots++jP c) h (fun x hx=>by
  have hs:(qR x (pE c roots)).isSome=true:=by
   cases hg:qR x (pE c roots)with
   |none=>exact absurd hx (getL_none.1 hg)
   |some k=>rfl
  obtain⟨r,hr,hi⟩:=(marks_keys c roots x).1 hs
  rcases inR_mem hi with rfl|hm
  ·exact List.mem_append_left _ hr
  ·exact List.mem_append_right _ hm)
 have h2:=dX c;simp only[List.length_map,List.length_append]at h1;omega
theorem marks_of{c:yH}{ids:List iK}(hs:ids.Pairwise (fun a b=>a<b))(hp:ids.Perm ((pE c roots).map (·.1))):MarkOf c roots ids:=by
 refine⟨hs,fun x=>?_⟩;rw[hp.mem_iff,<-marks_keys c roots x]
 cases hg:qR x (pE c roots)with
 |none=>simp[getL_none.1 hg]
 |some k=>
  simp only[Option.isSome_some,iff_true];exact List.mem_map.2 ⟨_,jZ hg,rfl⟩
def MarkR(w:iN)(c:yH)(roots:List iK):iJ:=fun e w'=>Mod qJ w w'/\∃v ids,e=.returned v/\kI w.heap.size w' v ids/\MarkOf c roots ids/\∀x∈ids,x.length=32
def MarkRel(w0:iN)(mb:Nat)(c:yH)(roots:List iK)(i:Value)(w:iN):Prop:=∃k:Nat,k<=roots.length/\i=.int .i64 k/\MarksAt w mb (pE c (roots.take k))/\Mod qJ w0 w
theorem marksL_succ(c:yH)(roots:List iK)(k:Nat)(hk:k<roots.length):pE c (roots.take (k+1))=jU c 5 roots[k] 1 (pE c (roots.take k)):=by
 unfold pE;rw[List.take_succ_eq_append_getElem hk,List.foldl_append]
 rfl
section
variable{w:iN}{bs ms wd:Nat}{room:Int}{bl:List iF}
theorem clMark_any(h:StInv w bs ms wd room bl){own:Bool}(hv:Sl own w G 32 IdC v roots)(hn:roots.length<=10000)(hc:(xJ bl).length<=1000):Calls prog 22 #[iO bs,v] w (MarkR w (xJ bl) roots):=by
 have hmm:= @run_makeMap prog;have H:=O h;have HV:=O hv;obtain⟨ad,cap,rfl,-,hat⟩:=Sl.at hv;have HAT:=O hat;clear h hv hat;go_enter func22,ntmps22
 go_upto_region 1 with(fail);refine qL [1,3] ?_;simp only[qB];refine qH rfl (fun K hK=>?_);unfold Oper.wp execOp
 simp only[Array.map_empty,Option.map_none,Sem.run_bind,hmm,Result.andThen_ok,Sem.run_pure];have hB:=heap_alloc_new w (.map #[] 0);have hM:=zI w (.map #[] 0)
 have hs:w.heap.size<(w.alloc (.map #[] 0)).heap.size:=by simp
 generalize w.alloc (.map #[] 0)=w1 at hB hM hs |-;refine hK _ _ trivial ?_;clear hK K;simp only[qB];have hMA:MarksAt w1 w.heap.size (pE (xJ bl) []):=MapIs.made hB
 have HR0:Hid (MarkRel w w.heap.size (xJ bl) roots (.int .i64 (0:Nat)) w1):=O ⟨0,Nat.zero_le _,rfl,by rw[List.take_zero];exact hMA,hM⟩
 generalize hmb:w.heap.size=mb at*;have hns:¬fJ bs ms bl mb:=fun e=>by have:=H.out.lt mb e;omega
 clear hmm hB hM hMA;go_wp2
 go_loopw [11] (MarkRel w mb (xJ bl) roots) (fun i _=>roots.length-(intOf i).toNat)
 case atStart=>exact HR0.out
 case round=>
  rename iN=>wr
  obtain⟨k,hk,rfl,hMr,hm⟩:=hrel;have HMR:=O hMr
  by_cases hlt:k<roots.length
  ·have hz:(k:Int)<(roots.length:Nat):=by omega
   obtain⟨b,off,rfl,-,-,hcc⟩:=HAT.out k hlt;obtain⟨cs,-,⟨rfl,hx32⟩,hcA⟩:=hcc k hlt;have hms:=marksL_succ (xJ bl) roots k hlt;generalize roots[k]=x at*
   have hic:(qA x).size=32:=by rw[qD,hx32]
   have hcr:=hcA.keep hm id;have Hr:=O (H.out.keep0 hm);have HMS:=O hms;clear hms hcc hcA hMr;go_upto_region 4 with(fail);refine qL [3,1,1,1] ?_;simp only[qB]
   refine zC 25 32 hlt ?_;simp only[qC];refine qY 24 hcr 32 hic ?_;try simp only[qC]
   refine qK (zB eC (fun w2 hB2 hm2 hs2=>?_));try simp only[qC]
   refine qK (qT 24 (qA x) (qQ _) 32 hic hB2 (fun w3 hB3 hm3=>?_) (hoff:=by rw[hic,qD];simp));simp only[qB]
   have hmr3:Mod qJ wr w3:=hm2.transB hm3 (Nat.le_refl _);have hm03:=hm.trans0 hmr3;have H3:=O (Hr.out.keep0 hmr3);have HM3:=O (HMR.out.keep0 hmr3)
   have hrec:=clReach_any hns 5 x 1 _ _ hx32 (by omega) (by omega) (by omega) H3.out HM3.out;have hno:=clNone_any H3.out;generalize hb7:wr.heap.size=b7 at*
   clear hm hm2 hm3 hmr3 hB2 hcr hs2;go_upto_region 7 with(go_at_call 86;refine hno.mono ?_;rintro _ w4 ⟨rfl,hw⟩;obtain rfl:=hw.symm);refine qL [3,1,3,1] ?_
   simp only[qB];refine qY 24 (CellsAt.whole hB3) 32 hic ?_;simp only[qB];refine qK (xE func87 (hrec) ?_);rintro e w5 ⟨rfl,hM5,hm5⟩
   have HR:Hid (MarkRel w mb (xJ bl) roots (.int .i64 ((k+1:Nat):Int)) w5):=O ⟨k+1,by omega,rfl,by rw[HMS.out];exact hM5,hm03.transB hm5 (by omega)⟩
   refine⟨_,rfl,?_⟩;simp only[qB];clear hB3 hM5 hm5 hm03 hrec hno;go_wp2
   go_roundw
   case rel=>exact HR.out
   case measure=>simp[intOf];omega
  ·have hz:¬(k:Int)<(roots.length:Nat):=by omega
   obtain rfl:k=roots.length:=by omega
   have hMf:=HMR.out;rw[List.take_length]at hMf
   have hnd:((pE (xJ bl) roots).map (·.1)).Nodup:=by
    have:=hMf.nd
    simpa[aN,List.map_map,Function.comp_def]using this
   have hln:=marks_len (xJ bl) roots hnd;have hris:=clRising_any hMf (by unfold aN;rw[List.length_map];omega)
   have hkm:(aN (pE (xJ bl) roots)).map (·.1)=(pE (xJ bl) roots).map (·.1):=by simp[aN,List.map_map,Function.comp_def]
   rw[hkm]at hris;clear hMr hMf hkm hnd hln;go_upto_region 9 with(fail);refine qL [3,1,3] ?_;simp only[qB];refine qK (xE func84 (hris) ?_)
   rintro e w6 ⟨hm6,v6,ids,he6,hg6,hs6,hp6,hl6⟩;subst he6
   have HF:Hid (MarkR w (xJ bl) roots (.returned v6) w6):=O ⟨hm.trans0 hm6,v6,ids,rfl,hg6.base (by have:=hm.size;omega),marks_of hs6 hp6,hl6⟩;refine⟨_,rfl,?_⟩
   simp only[qB];clear hm hm6 hg6 hs6 hp6 hl6;go_wp2;go_ret;exact HF.out
end
theorem eventZ:(prog.info? 115).bind (·.zero)=some (.agg (vD ⟨0,0,[],0,⟨#[]⟩,⟨#[]⟩,List.replicate 32 0,[]⟩ (.slice none 0 0) (.slice none 0 0))):=by kernel_rfl
def jI(l:List tX):List iK:=l.flatMap (·.refs)
theorem addsL_app(a b:List iK)(all:List (iK×Value)):pK (a++b) all=pK b (pK a all):=by simp[pK]
theorem refsL_snoc(l:List tX)(k:Nat)(hk:k<l.length):jI (l.take (k+1))=jI (l.take k)++l[k].refs:=by
 have h:=congrArg jI (List.take_succ_eq_append_getElem hk);rw[h];unfold jI;rw[List.flatMap_append,List.flatMap_cons,List.flatMap_nil,List.append_nil]
theorem Sl.memR{α:Type}{own:Bool}{sz:Nat}{R R':iL->α->Prop}{l:List α}(h:Sl own w G sz R v l)(hR:∀cs x,x∈l->R cs x->R' cs x):Sl own w G sz R' v l:=by
 obtain⟨a,cap,hv,hl,hc,h⟩:=h;refine⟨a,cap,hv,hl,hc,fun hne=>?_⟩;obtain⟨b,off,ha,hG,ho,hi⟩:=h hne;refine⟨b,off,ha,hG,ho,fun i hlt=>?_⟩
 obtain⟨cs,h1,h2,h3⟩:=hi i hlt;exact⟨cs,h1,hR _ _ (List.getElem_mem hlt) h2,h3⟩
theorem slI{base:Nat}{ids:List iK}(h:kI base w v ids)(h32:∀x∈ids,x.length=32):Sl true w (fun q=>base<=q/\q<w.heap.size/\v.ownBlock=some q) 32 IdC v ids:=
 Sl.memR (h.sl jL) fun cs x hx hcs=>⟨by rw[hcs,pG (h32 x hx)],h32 x hx⟩
def fL(c:yH)(roots:List iK)(l:List tX)(out:List iK):Prop:=out.Pairwise (fun a b=>a<b)/\∀x,x∈out↔(∃r∈roots,inR c 5 r 1 x)\/x∈jI l
def MarksR(w:iN)(c:yH)(roots:List iK)(l:List tX):iJ:=fun e w'=>Mod qJ w w'/\∃v out,e=.returned v/\kI w.heap.size w' v out/\fL c roots l out/\∀x∈out,x.length=32
def MksRel(w0:iN)(mb:Nat)(ids:List iK)(l:List tX)(i:Value)(w:iN):Prop:=∃k:Nat,k<=l.length/\i=.int .i64 k/\MapIs tQ bB w mb (pK (jI (l.take k)) (pK ids []))/\Mod qJ w0 w
theorem lt_nodup{l:List iK}(h:l.Pairwise (fun a b=>a<b)):l.Nodup:=h.imp fun{a b} hab e=>by rw[e]at hab;exact List.lt_irrefl _ hab
theorem swMarks_of{sv:Value}{c:yH}(H:∀(w':iN)(G:iM)(v:Value)(R:List iK),Mod qJ w w'->Sl true w' G 32 IdC v R->R.length<=10000->Calls prog 22 #[sv,v] w' (MarkR w' c R))(hc:c.length<=1000){reps:List jW}(h1:vv.oneCell'=true)(hv:vG w rv reps)(hn:(zK reps).length<=10000)
 {own:Bool}{l:List tX}(hev:Sl own w E 39 (EvR own' w G) ev l)(hr:(jI l).length<=20000):
 Calls prog 48 #[sv,.agg #[vv,rv],ev] w (MarksR w c (zK reps) l):=by
 have hmm:= @run_makeMap prog;have h2:=Sl.one hv;have HH:=O H;have HV:=O hv;have HEV:=O hev;obtain⟨ead,ecap,rfl,hel,-⟩:=Sl.at hev;clear H hv hev
 go_enter func48,ntmps48;go_upto_region 0 with(fail);refine qL [1,3] ?_;simp only[qB];refine qK (zT 71 (fun w1 hB1 hm1 hs1=>?_))
 replace hB1:w1.heap[w.heap.size]?=some (.cells #[vv,rv] 71 (0,0)):=hB1;simp only[qB];go_upto_region 1 with(fail);refine qL [1,3,1,1,1,1,1,3] ?_;simp only[qB]
 refine qH rfl (fun K hK=>?_);unfold Oper.wp execOp;simp only[Array.map_empty,Option.map_none,Sem.run_bind,hmm,Result.andThen_ok,Sem.run_pure]
 have hB3:=heap_alloc_new w1 (.map #[] 0);have hm3:=zI w1 (.map #[] 0);have hs3:(w1.alloc (.map #[] 0)).heap.size=w1.heap.size+1:=by simp
 generalize w1.alloc (.map #[] 0)=w3 at hB3 hm3 hs3 |-;have hM3:MapIs tQ bB w3 w1.heap.size []:=MapIs.made hB3;have hm03:=hm1.trans0 hm3
 have hcT:CellsAt w3 w.heap.size 0 #[vv,rv]:=CellsAt.whole (hm3.obj id hB1);have hroots:=sT h1 (xO HV.out (KC.of0 hm03)) (by omega);refine hK _ _ trivial ?_
 clear hK K;simp only[qB];refine qY 71 hcT 2 rfl ?_;try simp only[qC]
 refine qK (xE func47 (hroots) ?_);rintro e w4 ⟨hm4,v4,R,he4,hg4,hset4,hl4⟩;subst he4
 have hRn:R.length<=(zK reps).length:=jC (lt_nodup hset4.1) (fun x hx=>(hset4.2 x).1 hx);have hm04:=hm03.trans0 hm4
 have hmark:=HH.out _ _ _ _ hm04 (slI hg4 hl4) (by omega);refine⟨_,rfl,?_⟩;try simp only[qC]
 refine qK (xE func22 (hmark) ?_);rintro e w5 ⟨hm5,v5,ids,he5,hg5,hset5,hl5⟩;subst he5;have hm05:=hm04.trans0 hm5;obtain⟨ad5,cap5,hv5⟩:=hg5.slice;have hg5':=hg5
 rw[hv5]at hg5';have hval:=eK w5 ad5 ids.length cap5;rw[<-hv5]at hval;refine⟨_,rfl,?_⟩;try simp only[qC]
 refine qK (xE func119 (hval) ?_);rintro e w6 ⟨rfl,hw6⟩;have hm6:Mod qJ w5 w6:=by rw[hw6];exact zI w5 _
 have hB6:w6.heap[w5.heap.size]?=some (.cells #[v5] 25 (0,0)):=by rw[hw6];exact heap_alloc_new w5 _
 clear hw6;have hadd:=fN (enters_of func194 (by kernel_rfl) rfl) (bP hB6 (slI (hg5.keep0 hm6) hl5)) hl5 (hM3.keep0 (hm4.trans0 (hm5.trans0 hm6)))
 refine⟨_,rfl,?_⟩;try simp only[qC]
 refine qK (xE func115 (hadd) ?_);rintro e w7 ⟨rfl,hM7,hm7⟩;refine⟨_,rfl,?_⟩;simp only[qB]
 have hm25:Mod qJ w w7:=(hm05.trans0 hm6).trans hm7 (fun k hk e=>by have e:k=w1.heap.size:=e;have:=hm1.size;omega)
 have hidn:ids.length<=43000:=by
  have h9:=jC (l:=ids) (m:=R++jP c) (lt_nodup hset5.1) (fun x hx=>by
   obtain⟨r,hr,hi⟩:=(hset5.2 x).1 hx
   rcases inR_mem hi with rfl|hm
   ·exact List.mem_append_left _ hr
   ·exact List.mem_append_right _ hm)
  have h8:=dX c;simp only[List.length_append]at h9;omega
 have hmarks:∀x,x∈ids↔∃r∈zK reps,inR c 5 r 1 x:=fun x=>by
  rw[hset5.2 x];exact⟨fun⟨r,h1,h2⟩=>⟨r,(hset4.2 r).1 h1,h2⟩,fun⟨r,h1,h2⟩=>⟨r,(hset4.2 r).2 h1,h2⟩⟩
 have HMK:=O hmarks;have hw1:w.heap.size<w1.heap.size:=hs1;generalize hmb:w1.heap.size=mb at*
 have HR0:Hid (MksRel w mb ids l (.int .i64 (0:Nat)) w7):=O ⟨0,Nat.zero_le _,rfl,by rw[List.take_zero];exact hM7,hm25⟩
 clear hm25 hM7 hm7 hadd hB6 hm6 hval hg5' hv5 hm05 hset5 hg5 hm5 hmark hm04 hRn hset4 hg4 hm4 hroots hcT hm03 hM3 hs3 hm3 hB3 hB1 hm1 hmarks;go_wp2
 go_loopw [19] (MksRel w mb ids l) (fun i _=>l.length-(intOf i).toNat)
 case atStart=>exact HR0.out
 case round=>
  rename iN=>wr
  obtain⟨k,hk,rfl,hMr,hmr⟩:=hrel
  by_cases hlt:k<l.length
  ·have hz:(k:Int)<(l.length:Nat):=by omega
   obtain⟨_,_,hae,-,hat⟩:=(SlEv.keep0 HEV.out hmr).at;injection hae with hae1 hae2 hae3;subst hae1 hae3;obtain⟨b,off,rfl,-,-,hcc⟩:=hat k hlt
   obtain⟨cs,-,⟨dv,fv,rfl,hid,hdv,hfv,-,-⟩,hcA⟩:=hcc k hlt;have hsn:=refsL_snoc l k hlt
   have hsp:jI l=jI (l.take k)++(l[k].refs++jI (l.drop (k+1))):=by
    have h:=congrArg jI (vS hlt);rw[h];unfold jI;rw[List.flatMap_append,List.flatMap_cons]
   have hr32:∀x∈l[k].refs,x.length=32:=by
    intro x hx;obtain⟨a,cap,_,_,hat⟩:=Sl.at hfv;obtain⟨i,hi,rfl⟩:=List.getElem_of_mem hx;obtain⟨b,off,_,_,_,hc⟩:=hat i hi;obtain⟨cs,_,⟨_,h2⟩,_⟩:=hc i hi
    exact h2
   generalize l[k]=ev at*;have hes:=jO ev dv fv hid;have hic:=hes.size;have hc38:=hes.c38;have h1v:=fD (e:=ev) (Sl.one hdv) (Sl.one hfv)
   obtain⟨ra,rcap,hfe,-,-⟩:=Sl.at hfv
   have hzs:(vD ⟨0,0,[],0,⟨#[]⟩,⟨#[]⟩,List.replicate 32 0,[]⟩ (.slice none 0 0) (.slice none 0 0)).size=39:=(jO _ _ _ (by simp)).size
   have HSN:=O hsn;clear hsn hsp hat hcc hae2 hes hdv;go_upto_region 4 with(fail);refine qL [3,1,1,1] ?_;simp only[qB];refine zC 72 39 hlt ?_;simp only[qC]
   refine qY 115 hcA 39 hic ?_;try simp only[qC]
   refine qK (zB eventZ (fun w2 hB2 hm2 hs2=>?_));try simp only[qC]
   refine qK (yL 115 h1v 39 hic hB2 (fun w3 hB3 hm3=>?_) (hoff:=by rw[hic,hzs]));simp only[qB];have hmr3:Mod qJ wr w3:=hm2.transB hm3 (Nat.le_refl _)
   have hm03:=hmr.trans0 hmr3;have hMk3:=hMr.keep0 hmr3;have hcR:w3.cell? ⟨wr.heap.size,0+38,none⟩=some fv:=(CellsAt.whole hB3).cell hc38;have hfv3:=hfv.keep0 hmr3
   rw[hfe]at hcR hfv3;clear hcA hm2 hm3 hB2 hs2 hMr hmr hB3 hc38 hfv hmr3;generalize hb9:wr.heap.size=b9 at*;have hval:=eK w3 ra ev.refs.length rcap
   go_upto_region 5 with(fail);refine qL [3,3,1,1,1] ?_;simp only[qB];refine qG 25 hcR ?_;try simp only[qC]
   refine qK (xE func119 (hval) ?_);rintro e w4 ⟨rfl,hw4⟩;have hm4:Mod qJ w3 w4:=by rw[hw4];exact zI w3 _
   have hB4:w4.heap[w3.heap.size]?=some (.cells #[.slice ra ev.refs.length rcap] 25 (0,0)):=by rw[hw4];exact heap_alloc_new w3 _
   clear hw4;have hadd:=fN (enters_of func194 (by kernel_rfl) rfl) (bP hB4 (hfv3.keep0 hm4)) hr32 (hMk3.keep0 hm4);refine⟨_,rfl,?_⟩;try simp only[qC]
   refine qK (xE func115 (hadd) ?_);rintro e w5 ⟨rfl,hM5,hm5⟩;rw[<-addsL_app,<-HSN.out]at hM5
   have HR:Hid (MksRel w mb ids l (.int .i64 ((k+1:Nat):Int)) w5):=O ⟨k+1,by omega,rfl,hM5,(hm03.trans0 hm4).trans hm5 (fun j hj e=>by have e:j=mb:=e;omega)⟩
   refine⟨_,rfl,?_⟩;simp only[qB];clear hm03 hMk3 hcR hfv3 hval hm4 hB4 hadd hM5 hm5;go_wp2
   go_roundw
   case rel=>exact HR.out
   case measure=>simp[intOf];omega
  ·have hz:¬(k:Int)<(l.length:Nat):=by omega
   obtain rfl:k=l.length:=by omega
   rw[List.take_length]at hMr
   have hln:(pK (jI l) (pK ids [])).length<=65536:=by
    have h1:=addsL_len (jI l) (pK ids []);have h2:=addsL_len ids [];simp only[List.length_nil]at h2;omega
   have hris:=swRising_any hMr hln;clear hMr;go_upto_region 7 with(fail);refine qL [3,1,3] ?_;simp only[qB];refine qK (xE func118 (hris) ?_)
   rintro e w6 ⟨hm6,v6,out,he6,hg6,hs6,hp6,hl6⟩;subst he6
   have HF:Hid (MarksR w c (zK reps) l (.returned v6) w6):=O ⟨hmr.trans0 hm6,v6,out,rfl,hg6.base (by have:=hmr.size;omega),⟨hs6,fun x=>by rw[hp6.mem_iff,fU,fU,HMK.out];simp[or_comm]⟩,hl6⟩
   refine⟨_,rfl,?_⟩;simp only[qB];clear hmr hm6 hg6 hs6 hp6 hl6 hris;go_wp2;go_ret;exact HF.out
theorem swMarks_any{bs ms wd:Nat}{room:Int}{bl:List iF}(H:StInv w bs ms wd room bl)(hc:(xJ bl).length<=1000){reps:List jW}(h1:vv.oneCell'=true)(hv:vG w rv reps)(hn:(zK reps).length<=10000)
 {own:Bool}{l:List tX}(hev:Sl own w E 39 (EvR own' w G) ev l)(hr:(jI l).length<=20000):
 Calls prog 48 #[iO bs,.agg #[vv,rv],ev] w (MarksR w (xJ bl) (zK reps) l):=
 swMarks_of (fun w' G v R hm hv hl=>clMark_any (H.keep0 hm) hv hl hc) hc h1 hv hn hev hr
def fF(n k:Nat)(x:iK):iK:=x.take n++List.replicate (k-n) 0++x.drop k
theorem cutTo_len(hx:x.length=32)(hn:n<=k)(hk:k<=32):(fF n k x).length=32:=by simp[fF,hx];omega
theorem cutTo_start:fF n n x=x:=by simp[fF]
theorem cutTo_end(hx:x.length=32):fF n 32 x=fG n x:=by
 unfold fF fG;rw[List.drop_of_length_le (by omega),List.append_nil]
theorem cutTo_step(hx:x.length=32)(hn:n<=k)(hk:k<32):(qA (fF n k x)).setIfInBounds k (qW 0)=qA (fF n (k+1) x):=by
 apply Array.toList_inj.1
 have h1:(x.take n).length=n:=by simp[hx];omega
 have e:List.replicate (k+1-n) (0:UInt8)=List.replicate (k-n) 0++[0]:=by rw[show k+1-n=(k-n)+1 by omega,List.replicate_succ']
 have d:x.drop k=x[k]'(by omega)::x.drop (k+1):=List.drop_eq_getElem_cons (by omega);simp only[qA,fF,Array.toList_setIfInBounds];rw[e,d]
 have hl:((x.take n++List.replicate (k-n) 0).map qW).length=k:=by simp[hx];omega
 rw[List.map_append,List.set_append_right _ _ (by rw[hl];exact Nat.le_refl _),hl,Nat.sub_self]
 simp
 rw[<-List.map_drop,d,<-List.map_drop]
 rfl
def CutRel(n:Nat)(x:iK)(b:Nat)(w0:iN)(i:Value)(w:iN):Prop:=∃k:Nat,n<=k/\k<=32/\i=.int .i64 k/\w.heap[b]?=some (.cells (qA (fF n k x)) 24 (0,0))/\Mod (fun q=>q=b) w0 w
theorem refCut_any(x:iK)(hx:x.length=32)(n:Nat)(h1:1<=n)(h2:n<=32)(w:iN):Calls prog 151 #[.agg (qA x),.int .i64 n] w (CutR2 w n x):=by
 have hrs:(qA (fG n x)).size=32:=by rw[qD,cutI_len hx h2]
 have HE:=O (cutTo_end (n:=n) hx);go_enter func151,ntmps151;go_upto_region 0 with(fail);refine qL [1,1,3] ?_;simp only[qB]
 refine qK (zT 24 (fun w1 hB1 hm1 hs1=>?_));replace hB1:w1.heap[w.heap.size]?=some (.cells (qA x) 24 (0,0)):=hB1;try simp only[qC]
 refine qK (zB eC (fun w2 hB2 hm2 hs2=>?_));simp only[qB];replace hB1:=hm2.obj id hB1;have hM2:=hm1.trans0 hm2;have hne:w.heap.size≠w1.heap.size:=by omega
 have hs1':w.heap.size<=w1.heap.size:=hm1.size;generalize hb1:w.heap.size=b1 at*;generalize hb2:w1.heap.size=b2 at*;clear hm1 hm2;go_wp2
 go_loopw [6] (CutRel n x b1 w2) (fun i _=>32-(intOf i).toNat)
 case atStart=>exact⟨n,Nat.le_refl _,h2,rfl,by rw[cutTo_start];exact hB1,Mod.refl _ _⟩
 case round=>
  rename iN=>wr
  obtain⟨k,hnk,hk,rfl,hrow,hm⟩:=hrel
  by_cases hlt:k<32
  ·have hz:(k:Int)<32:=by omega
   have hst:=cutTo_step hx hnk hlt;have hsz:(qA (fF n k x)).size=32:=by rw[qD,cutTo_len hx hnk hk]
   go_upto_region 6 with(fail);refine qL [3,3,1] ?_;simp only[qB];refine zO 24 1 hlt ?_;simp only[qC]
   refine qK (zR 5 (k*1) (qW 0) hrow (fun w3 hB3 hm3=>?_) (hoff:=by rw[hsz];omega));rw[Nat.mul_one,hst]at hB3
   have hM3:Mod (fun q=>q=b1) w2 w3:=hm.trans hm3 (fun _ _ h=>h);simp only[qB];clear hm hm3 hrow hst hsz;go_wp2
   go_roundw
   case rel=>exact⟨k+1,by omega,by omega,by go_num,hB3,hM3⟩
   case measure=>simp[intOf];omega
  ·have hz:¬(k:Int)<32:=by omega
   obtain rfl:k=32:=by omega
   rw[HE.out]at hrow;have hB23:=hm.objB (fun e=>hne e.symm) hB2;have hM3:Mod qJ w wr:=hM2.transB hm (by omega);clear hm hM2 hB2;go_upto_region 7 with(fail)
   refine qL [1,1,3] ?_;simp only[qB];refine qY 24 (CellsAt.whole hrow) 32 hrs ?_;try simp only[qC]
   refine qK (qT 24 (qA (fG n x)) (qQ _) 32 hrs hB23 (fun w4 hB4 hm4=>?_) (hoff:=by rw[hrs,qD];rfl));simp only[qB]
   have hM4:Mod qJ w w4:=hM3.transB hm4 (by omega);clear hm4 hM3;go_wp2
   refine bodyPost_ret (yZ (P:=prog) (ty:=24) rfl _ _ b2 _ _ _ _ (by rfl) hB4 underlying24 rfl (by rw[hrs];kernel_rfl)) rfl ?_;exact⟨rfl,hM4⟩
theorem cN{own:Bool}{m:iK}(h:Sl own w G 1 yA v m)(hl:m.length<=1000000)(n:Nat)(h1:1<=n)(h2:n<=32):Calls prog 79 #[v,.int .i64 n] w (OfR w n m):=by
 have H:=O h;obtain⟨ad,cap,rfl,-,-⟩:=Sl.at h;have hsl:(bC m).length=32:=rP _;have hrs:(qA (xI n m)).size=32:=by rw[qD,tF h2]
 have HC:=O (show fG n (bC m)=xI n m from rfl);clear h;go_enter func79,ntmps79;go_upto_region 0 with(fail);refine qL [1,3] ?_;simp only[qB]
 refine qK (zB eC (fun w1 hB1 hm1 hs1=>?_));simp only[qB];go_upto_region 1 with(fail);refine qL [3,1,3,1,3,3,1,3] ?_;simp only[qB]
 refine qK (pL func152 (refSum_any (H.out.keep0 hm1) (by omega)) fun w2 hm2=>?_);simp only[qB];refine qK (xE func151 (refCut_any (bC m) hsl n h1 h2 _) ?_)
 rintro e w3 ⟨rfl,hm3⟩;rw[HC.out];have hB3:=(hm2.trans0 hm3).obj id hB1;refine⟨_,rfl,?_⟩;try simp only[qC]
 refine qZ (fun _=>by go_simp;try with_reducible rfl) ?_;simp only[qC];refine qZ (fun _=>by go_simp;try with_reducible rfl) ?_;simp only[qC]
 refine qK (qT 24 (qA (xI n m)) (qQ _) 32 hrs hB3 (fun w4 hB4 hm4=>?_) (hoff:=by rw[hrs,qD];rfl));simp only[qB]
 have hM4:Mod qJ w w4:=((hm1.trans0 hm2).trans0 hm3).transB hm4 (Nat.le_refl _);clear hm1 hm2 hm3 hm4;go_wp2
 refine bodyPost_ret (yZ (P:=prog) (ty:=24) rfl _ _ w.heap.size _ _ _ _ (by rfl) hB4 underlying24 rfl (by rw[hrs];kernel_rfl)) rfl ?_;exact⟨rfl,hM4⟩
def rE(x n:Int):Int:=if n<=0 then 0 else x%n
theorem eU(x n:Int)(h:0<n):0<=rE x n/\rE x n<n:=by
 unfold rE;rw[if_neg (by omega)];exact⟨Int.emod_nonneg _ (by omega),Int.emod_lt_of_pos _ h⟩
theorem tmod_up(x n:Int)(h:0<n):(if x.tmod n<0 then x.tmod n+n else x.tmod n)=x%n:=by
 have h1:=Int.tmod_lt_of_pos x h;have h2:=Int.lt_tmod_of_pos x h;have h3:x.tmod n=x-n*x.tdiv n:=by have:=Int.mul_tdiv_add_tmod x n;omega
 split
 ·rw[h3,<-Int.emod_eq_of_lt (a:=x-n*x.tdiv n+n) (b:=n) (by omega) (by omega)]
  rw[show x-n*x.tdiv n+n=x+n*(1-x.tdiv n) by rw[Int.mul_sub];omega];rw[Int.add_mul_emod_self_left]
 ·rw[<-Int.emod_eq_of_lt (a:=x.tmod n) (b:=n) (by omega) (by omega),h3]
  rw[show x-n*x.tdiv n=x+n*(-x.tdiv n) by rw[Int.mul_neg];omega];rw[Int.add_mul_emod_self_left]
abbrev I64(x:Int):Prop:=-9223372036854775808<=x/\x<=9223372036854775807
theorem pick_any(x n:Int)(hx:I64 x)(hn:n<=1000000)(w:iN):Calls prog 17 #[.int .i64 x,.int .i64 n] w (pT (.int .i64 (rE x n)) w):=by
 obtain⟨hx1,hx2⟩:=hx
 by_cases h0:n<=0
 ·rw[show rE x n=0 by simp[rE,h0]]
  go_enter func17,ntmps17;go_wp2;go_ret;exact⟨rfl,rfl⟩
 ·have hp:=tmod_up x n (by omega)
  have h1:=Int.tmod_lt_of_pos x (show 0<n by omega);have h2:=Int.lt_tmod_of_pos x (show 0<n by omega);rw[show rE x n=x%n by simp[rE,h0]];rw[<-hp];clear hp
  go_enter func17,ntmps17;go_wp2
  all_goals
   go_ret;exact⟨rfl,rfl⟩
def RetK(v:Value)(w:iN):iJ:=fun e w'=>e=.returned v/\Mod qJ w w'
def bO(wd:Int):Nat:=(1+rE wd 32).toNat
theorem widZ_ok(wd:Int):1<=bO wd/\bO wd<=32:=by
 have:=eU wd 32 (by omega);unfold bO;omega
theorem width_any(wd:Int)(hw:I64 wd)(lv kv:Value)(h1:lv.oneCell'=true)(h2:kv.oneCell'=true)(w:iN):Calls prog 108 #[.agg #[.int .i64 wd,lv,kv]] w (RetK (.int .i64 (bO wd:Nat)) w):=by
 have hp:=eU wd 32 (by omega);have hz:((bO wd:Nat):Int)=1+rE wd 32:=by unfold bO;omega
 have HZ:=O hz;have hpk:=fun w'=>pick_any wd 32 hw (by omega) w';obtain⟨pz,hpz⟩:∃p,rE wd 32=p:=⟨_,rfl⟩;rw[hpz]at hp HZ;simp only[hpz]at hpk;clear hz hpz
 go_enter func108,ntmps108;go_upto_region 0 with(fail);refine qL [1,3] ?_;simp only[qB];refine qK (zT 68 (fun w1 hB1 hm1 hs1=>?_))
 replace hB1:w1.heap[w.heap.size]?=some (.cells #[.int .i64 wd,lv,kv] 68 (0,0)):=hB1;simp only[qB]
 have hc:w1.cell? ⟨w.heap.size,0+0,none⟩=some (.int .i64 wd):=by simp[World.cell?,hB1]
 go_upto_region 1 with(fail);refine qL [3,1,1,3,3] ?_;simp only[qB];refine qG 3 hc ?_;try simp only[qC]
 refine qK (xE func17 (hpk _) ?_);rintro e w2 ⟨rfl,hw2⟩;obtain rfl:=hw2.symm;refine⟨_,rfl,?_⟩;try simp only[qC]
 refine cI _ _ _ _ 1 pz (1+pz) rfl rfl rfl rfl rfl (by omega) (by omega) ?_;simp only[qB];clear hB1 hc;go_wp2;go_ret;exact⟨by rw[HZ.out];rfl,hm1⟩
def eS(n:Int):ByteArray:=[(⟨#[97]⟩:ByteArray),⟨#[98,47,99]⟩,⟨#[100]⟩].getD (rE n 3).toNat ⟨#[]⟩
theorem str_zs:(prog.info? 9).map (fun i=>(i.zero,i.size))=some (some (.string ⟨#[]⟩),1):=by kernel_rfl
theorem repo_any(n:Int)(hn:I64 n)(w:iN):Calls prog 69 #[.int .i64 n] w (RetK (.string (eS n)) w):=by
 have hp:=eU n 3 (by omega);have hpk:=fun w'=>pick_any n 3 hn (by omega) w';obtain⟨k,hk⟩:∃k:Nat,rE n 3=k:=⟨(rE n 3).toNat,by omega⟩
 have hr:eS n=[(⟨#[97]⟩:ByteArray),⟨#[98,47,99]⟩,⟨#[100]⟩].getD k ⟨#[]⟩:=by unfold eS;rw[hk];rfl
 rw[hk]at hp;simp only[hk]at hpk;rw[hr];have hk3:k<3:=by omega
 clear hr hk hp;go_enter func69,ntmps69;go_upto_region 1 with(fail);refine qL [1,3,1,3,1,3] ?_;simp only[qB]
 refine qK (vX 127 9 3 [(0,_),(1,_),(2,_)] [.string ⟨#[97]⟩,.string ⟨#[98,47,99]⟩,.string ⟨#[100]⟩] (.string ⟨#[]⟩) 1 (by rfl) (by rfl) (by rfl) underlying127 str_zs (by omega) (by omega) (by simp[Value.cells]) (fun w1 hB1 hm1 hs1=>?_))
 have hc:w1.cell? ⟨w.heap.size,k*1,none⟩=some (.string ([(⟨#[97]⟩:ByteArray),⟨#[98,47,99]⟩,⟨#[100]⟩].getD k ⟨#[]⟩)):=by
  rcases(show k=0\/k=1\/k=2 by omega)with rfl|rfl|rfl<;>simp[World.cell?,hB1,Value.cells]
 generalize w.heap.size=b1 at*;simp only[qB];refine qK (xE func17 (hpk _) ?_);rintro e w2 ⟨rfl,hw2⟩;obtain rfl:=hw2.symm;refine⟨_,rfl,?_⟩;try simp only[qC]
 refine zC 127 1 hk3 ?_;simp only[qC];refine qG 9 hc ?_;simp only[qB];clear hB1 hc;go_wp2;go_ret;exact⟨rfl,hm1⟩
section
variable{w w':iN}{h:tC}{c c':yO}{l l':qU}{Ft:iM}
theorem HsAt.put(H:HsAt w h c l Ft){own:Bool}{m:iK}(hv:Sl own w G 1 yA v m)(hm:m.length<=4096)(hroom:h.room=67108864)(hfew:c.length<10000):
 Calls prog 37 #[.pointer (some ⟨h.bs,0,Option.none⟩),.agg (qA (xI h.wd m)),v] w (fun e w'=>(∃v,e=.returned v)/\HStep w h Ft w' (aL (xI h.wd m) m c) l):=by
 obtain⟨bl,F,h1,rfl,h3,h4,h5,h6,h7⟩:=H;have hu:=h1.used;refine(bPut_any h1 hv hm (by omega) (by simpa[xJ]using hfew)).mono ?_
 rintro e w' ⟨⟨ok,er,rfl⟩,bl',k1,k2,k3,k4⟩;have hF:∀k,F k->¬(k=h.bs\/k=h.ms):=fun k hk e=>h4 k (e.elim (fun e=>.inl e) (fun e=>.inr (.inl e))) hk
 refine⟨⟨_,rfl⟩,fun k=>Ft k\/gD w w' k,⟨bl',F,k1,k2,(h3.keep k3 hF (fun k hk=>by simp[dU]at hk)).bare,fun k hk hf=>?_,fun k hk=>(k4 k hk).imp (h5 k) id,fun k hk=>.inl (h6 k hk),fun k hk=>hk.elim (fun hk=>Nat.lt_of_lt_of_le (h7 k hk) k3.size) (fun hk=>hk.2)⟩,k3.mono (fun k _ e=>h5 k (e.elim (fun e=>.inl e) (fun e=>.inr (.inl e)))),fun k hk=>hk⟩
 rcases k4 k hk with hk|hk
 ·exact h4 k hk hf
 ·have:=h3.lt k hf
  have:=hk.1;omega
theorem HsAt.lay(H:HsAt w h c l Ft)(k:uN)(hk:kH k)(hsz:k.1.size<=maxLen)(size:Int):
 Calls prog 110 #[h.q,.string k.1,.agg (qA k.2),.int .i64 size] w (fun e w'=>(∃v,e=.returned v)/\HStep w h Ft w' c (iE false h.limit l k size)):=by
 obtain⟨bl,F,h1,rfl,h3,h4,h5,h6,h7⟩:=H;refine(lay_at h3 k hk hsz size).mono ?_;rintro e w' ⟨rfl,F',k1,k2,k3⟩
 refine⟨⟨_,rfl⟩,fun k=>Ft k\/gD w w' k,⟨bl,F',h1.keep k2 (fun k hk hf=>h4 k hk hf),rfl,k1.bare,fun k hk hf=>?_,fun k hk=>.inl (h5 k hk),fun k hk=>(k3 k hk).imp (h6 k) id,fun k hk=>hk.elim (fun hk=>Nat.lt_of_lt_of_le (h7 k hk) k2.size) (fun hk=>hk.2)⟩,k2.mono (fun k _ e=>h6 k e),fun k hk=>hk⟩
 rcases k3 k hf with hf|hf
 ·exact h4 k hk hf
 ·have:=h1.lt k hk
  have:=hf.1;omega
theorem putB_len(di m:iK)(c:yO):(aL di m c).length<=c.length+1:=by
 unfold aL
 split<;>simp
end
def BtsC(w:iN)(cs:iL)(b:iK):Prop:=∃v,cs=#[v]/\Sl false w kV 1 yA v b
theorem BtsC.keep0{w w':iN}{cs:iL}{b:iK}(h:BtsC w cs b)(hm:Mod qJ w w'):BtsC w' cs b:=by
 obtain⟨v,h1,h2⟩:=h;exact⟨v,h1,h2.keep0 hm⟩
abbrev LsAt(w:iN)(v:Value)(L:List iK):Prop:=Sl false w kV 1 (BtsC w) v L
theorem kN(h:LsAt w v L)(hm:Mod qJ w w'):LsAt w' v L:=h.keep hm (fun _ _=>id) (fun _ _ h=>h.keep0 hm)
def cOf(wd:Nat)(L:List iK):yO:=L.foldl (fun c b=>aL (xI wd b) b c) []
theorem cOf_snoc(wd:Nat)(L:List iK)(k:Nat)(hk:k<L.length):cOf wd (L.take (k+1))=aL (xI wd L[k]) L[k] (cOf wd (L.take k)):=by
 unfold cOf;rw[List.take_succ_eq_append_getElem hk,List.foldl_append]
 rfl
theorem cOf_len(wd:Nat):∀(L:List iK)(c:yO),(L.foldl (fun c b=>aL (xI wd b) b c) c).length<=c.length+L.length
 | [],c=>by simp
 |b::L,c=>by
  have h1:=cOf_len wd L (aL (xI wd b) b c);have h2:=putB_len (xI wd b) b c;simp only[List.foldl_cons,List.length_cons];omega
def layZ(wd:Nat)(L:List iK)(l:qU)(a b:Int):qU:=
 let m:=L.getD (rE b L.length).toNat []
 iE false 1099511627776 l (eS a,xI wd m) m.length
def lOf(wd:Nat)(L:List iK)(K:List Int)(j:Nat):qU:=(List.range j).foldl (fun l i=>layZ wd L l (K.getD (2*i) 0) (K.getD (2*i+1) 0)) []
theorem lOf_snoc(wd:Nat)(L:List iK)(K:List Int)(j:Nat):lOf wd L K (j+1)=layZ wd L (lOf wd L K j) (K.getD (2*j) 0) (K.getD (2*j+1) 0):=by
 unfold lOf;rw[List.range_succ,List.foldl_append]
 rfl
def sC(L:List iK)(K:List Int):Nat:=if L=[]then 0 else K.length/2
def HsNew(w0 w:iN)(h:tC)(c:yO)(l:qU):Prop:=∃Ft,HsAt w h c l Ft/\(∀k,Ft k->w0.heap.size<=k)/\Mod qJ w0 w
theorem HsNew.step{h:tC}{c':yO}{l':qU}{Ft:iM}(hn:∀k,Ft k->w0.heap.size<=k)(hm:Mod qJ w0 w)(hs:HStep w h Ft w' c' l'):HsNew w0 w' h c' l':=by
 obtain⟨F',h1,h2,h3⟩:=hs;exact⟨F',h1,fun k hk=>(h3 k hk).elim (hn k) (fun h=>Nat.le_trans hm.size h.1),hm.trans h2 (fun k hk hf=>by have:=hn k hf;omega)⟩
def BuildR(w:iN)(wd:Nat)(L:List iK)(K:List Int):iJ:=fun e w'=>
 ∃h:tC,h.wd=wd/\h.room=67108864/\h.limit=1099511627776/\(∃b,h.q=iO b)/\e=.returned (.tuple #[iO h.bs,h.q])/\HsNew w w' h (cOf wd L) (lOf wd L K (sC L K))
def BldRel1(w0 w1:iN)(h:tC)(wd:Nat)(L:List iK)(i:Value)(w:iN):Prop:=∃k:Nat,k<=L.length/\i=.int .i64 k/\HsNew w1 w h (cOf wd (L.take k)) []
def BldRel2(w0 w1:iN)(h:tC)(wd:Nat)(L:List iK)(K:List Int)(i:Value)(w:iN):Prop:=∃j n:Nat,n=2*j/\j<=sC L K/\i=.int .i64 (n:Nat)/\HsNew w1 w h (cOf wd L) (lOf wd L K j)
theorem repoZ_size(n:Int):(eS n).size<=maxLen:=by
 have h:∀k:Nat,([(⟨#[97]⟩:ByteArray),⟨#[98,47,99]⟩,⟨#[100]⟩].getD k ⟨#[]⟩).size<=3:=by
  intro k
  rcases k with _|_|_|k<;>simp[ByteArray.size]
 exact Nat.le_trans (h _) (by unfold maxLen;omega)
theorem laysN_lt{K:List Int}{j:Nat}(hn:n=2*j)(hlt:n+1<K.length)(hL:0<L.length):j+1<=sC L K:=by
 unfold sC;rw[if_neg (fun e=>by rw[e]at hL;simp at hL)];omega
theorem sl_lt{α:Type}{own:Bool}{R:iL->α->Prop}{off:Nat}{l:List α}(h:Sl own w G 1 R (.slice (some ⟨b,off,none⟩) n cap) l)(hi:i<l.length):b<w.heap.size:=by
 obtain⟨a,c,e,_,_,h2⟩:=h;injection e with e1 e2 e3;obtain⟨b',off',e4,_,_,hc⟩:=h2 (fun e=>by rw[e]at hi;simp at hi);rw[<-e1]at e4;injection e4 with e4
 injection e4 with e5 e6 e7;obtain⟨cs,hs,_,hcs⟩:=hc i hi;have h0:=hcs 0 (by omega);rw[Array.getElem?_eq_getElem (by omega)]at h0;have:=block_lt_of_cell h0;rw[e5]
 exact this
def IdBox(w0:iN)(x:iK)(s:Value)(w:iN):Prop:=∃b,s=iO b/\w0.heap.size<=b/\w.heap[b]?=some (.cells (qA x) 24 (0,0))/\Mod qJ w0 w
theorem built_any{wd:Int}(hwd:I64 wd){lv kv:Value}{KK:List Int}(hlv:LsAt w lv L)(hkv:Sl false w kV 1 dH kv KK)(hL:L.length<=1000)(hL2:∀b∈L,b.length<=4096)(hkl:KK.length<=1000)(hK2:∀x∈KK,I64 x):
 Calls prog 43 #[.agg #[.int .i64 wd,lv,kv]] w (BuildR w (bO wd) L KK):=by
 have hwz:=widZ_ok wd;have hwid:=fun w'=>width_any wd hwd lv kv (Sl.one hlv) (Sl.one hkv) w';have hl1:=Sl.one hlv;have hk1:=Sl.one hkv
 obtain⟨lad,lcap,hle,-,-⟩:=Sl.at hlv;obtain⟨kad,kcap,hke,-,-⟩:=Sl.at hkv;have HLV:=O hlv;have HKV:=O hkv;clear hlv hkv;rw[hle]at HLV hwid hl1
 rw[hke]at HKV hwid hk1;subst hle hke;generalize hwn:bO wd=wn at*;clear hwn;go_enter func43,ntmps43;go_upto_region 0 with(fail);refine qL [1,3,3] ?_;simp only[qB]
 refine qK (zT 68 (fun w1 hB1 hm1 hs1=>?_))
 replace hB1:w1.heap[w.heap.size]?=some (.cells #[.int .i64 wd,.slice lad L.length lcap,.slice kad KK.length kcap] 68 (0,0)):=hB1;simp only[qB]
 have HLV1:=O (kN HLV.out hm1);have HKV1:=O (HKV.out.keep0 hm1)
 have hcH:CellsAt w1 w.heap.size 0 #[.int .i64 wd,.slice lad L.length lcap,.slice kad KK.length kcap]:=CellsAt.whole hB1
 have hnew:=fun w'=>bNew_any (wn:Int) 67108864 (by omega) (by omega) w';go_upto_region 1 with(fail);refine qL [1,1,1,3,3,3,3,3] ?_;simp only[qB]
 refine qY 68 hcH 3 rfl ?_;try simp only[qC]
 refine qK (pL func108 (hwid _) fun w2 hm2=>?_);try simp only[qC]
 refine qK (xE func78 (hnew _) ?_);rintro e w3 ⟨bs,ms,rfl,hst3,hm3,hsf3⟩;refine⟨_,rfl,?_⟩;simp only[qB];refine jQ (iO bs) ?_;simp only[qC]
 refine jQ (.int .i64 0) ?_;simp only[qB];rw[show((wn:Nat):Int).toNat=wn from by simp]at hst3;have hqn:=new_at 1099511627776 w3 (by omega) w3 (Mod.refl _ _)
 go_upto_region 2 with(fail);refine qL [1,3,3,3,3,3] ?_;simp only[qB];refine qK (xE func109 (hqn) ?_);rintro e w4 ⟨qb,F,rfl,hlk4,hm4,hF4⟩;refine⟨_,rfl,?_⟩
 simp only[qB];refine jQ (iO qb) ?_;simp only[qC];refine jQ (.int .i64 0) ?_;simp only[qB];have hm14:=hm2.trans0 (hm3.trans0 hm4)
 obtain⟨h,hh⟩:∃h:tC,h=⟨bs,ms,wn,67108864,iO qb,1099511627776⟩:=⟨_,rfl⟩;have hhb:h.bs=bs:=by rw[hh]
 have hhw:h.wd=wn:=by rw[hh]
 have hhr:h.room=67108864:=by rw[hh]
 have hhq:h.q=iO qb:=by rw[hh]
 have hhl:h.limit=1099511627776:=by rw[hh]
 have hH0:HsNew w1 w4 h (cOf wn (L.take 0)) []:=by
  refine⟨fun k=>fJ bs ms [] k\/F k,?_,fun k hk=>?_,hm14⟩
  ·rw[hh]
   refine⟨[],F,hst3.keep0 hm4,rfl,hlk4.bare,fun k hk hf=>?_,fun k hk=>.inl hk,fun k hk=>.inr hk,fun k hk=>hk.elim (fun hk=>Nat.lt_of_lt_of_le (hsf3 k hk).2 hm4.size) (fun hk=>hlk4.lt k hk)⟩
   have h1:=(hsf3 k hk).2;have h2:=hF4 k hf;omega
  ·have h3:=hm2.size
   have h4:=hm3.size
   rcases hk with hk|hk
   ·have:=(hsf3 k hk).1
    omega
   ·have:=hF4 k hk
    omega
 have HR0:Hid (BldRel1 w w1 h wn L (.int .i64 (0:Nat)) w4):=O ⟨0,Nat.zero_le _,rfl,hH0⟩;have hbH:=hB1
 clear hH0 hh hst3 hm3 hsf3 hqn hlk4 hm4 hF4 hm2 hcH hnew hB1 hm14;have hs1':w.heap.size<w1.heap.size:=hs1;generalize hhb2:w.heap.size=hb at*;go_wp2
 go_loopw [8] (BldRel1 w w1 h wn L) (fun i _=>L.length-(intOf i).toNat)
 case atStart=>exact HR0.out
 case round=>
  rename iN=>wr
  obtain⟨k,hk,rfl,hns⟩:=hrel;obtain⟨Ft,hat,hFn,hmr⟩:=hns;have hbr:=hmr.obj id hbH
  have hcl:wr.cell? ⟨hb,1,none⟩=some (.slice lad L.length lcap):=by simp[World.cell?,hbr]
  have hcl0:wr.cell? ⟨hb,0+1,none⟩=some (.slice lad L.length lcap):=hcl
  by_cases hlt:k<L.length
  ·have hz:(k:Int)<(L.length:Nat):=by omega
   obtain⟨_,_,hae,-,hatL⟩:=(kN HLV1.out hmr).at;injection hae with hae1 hae2 hae3;subst hae1 hae3;obtain⟨b,off,rfl,-,-,hcc⟩:=hatL k hlt
   obtain⟨cs,-,⟨vk,rfl,hvk⟩,hcA⟩:=hcc k hlt;have hck:=CellsAt.one.1 hcA;have hbw:b<w1.heap.size:=sl_lt HLV1.out hlt;have hmk:=hL2 _ (List.getElem_mem hlt)
   have hsn:=cOf_snoc wn L k hlt;have hcn:(cOf wn (L.take k)).length<=1000:=Nat.le_trans (cOf_len wn (L.take k) []) (by simp;omega);generalize L[k]=m at*
   obtain⟨va,vc,hve,-,-⟩:=Sl.at hvk;have HVK:=O hvk;rw[hve]at HVK hck;have HSN:=O hsn
   have hrc:CellsAt wr hb 0 #[.int .i64 wd,.slice (some ⟨b,off,none⟩) L.length lcap,.slice kad KK.length kcap]:=CellsAt.whole hbr
   have href:=fun w' (hm:Mod qJ wr w')=>cN (HVK.out.keep0 hm) (by omega) wn hwz.1 hwz.2;have hdi:(xI wn m).length=32:=tF hwz.2
   have hic:(qA (xI wn m)).size=32:=by rw[qD,hdi]
   clear hsn hatL hcc hcA hae2 hve hvk;go_upto_region 8 with(fail)
   go_cut [9] (fun s wx=>IdBox wr (xI wn m) s wx)
   case first=>
    have hS:Mod qJ wr wr.drew:=(Mod.refl _ _).drew;have hT:Mod qJ wr wr.drew:=(Mod.refl _ _).drew
    refine yU [(0,3),(1,0),(2,3),(3,3),(4,0),(5,0)] 7 [(13,3)] [] (fun w'=>Mod qJ wr w') #[true,true,true,true,true,true,false,false,false,false,false,false,false,false] (by kernel_rfl) (by kernel_rfl) (by kernel_rfl) (by kernel_rfl) (by kernel_rfl) (fun _ _ _ _ hd h=>⟨hd.trans h.1,h.2⟩) hS ?_
    simp only[qB];refine qE 22 (fun w' hS=>hS.cell id hcl0) ?_;simp only[qB];refine zC 22 1 hlt ?_;simp only[qC];refine qE 53 (fun w' hS=>hS.cell id hck) ?_
    simp only[qC];refine zJ 68 (fun w' hS=>hrc.keep hS id) 3 rfl ?_;simp only[qB];refine qO [6,11] (by kernel_rfl) ?_
    simp only[zz3,false_implies,implies_true];refine⟨?_,?_⟩
    ·intro K hK
     simp only[zz5];refine xE func108 (hwid _) ?_;rintro e w5 ⟨rfl,hm5⟩
     try replace hB4:=hm5.obj id hB4
     replace hT:=hT.trans0 hm5;clear hm5;refine⟨_,rfl,hK _ _ hT ?_⟩;clear hK K;try simp only[qC]
     refine qO [7,11] (by kernel_rfl) ?_;simp only[zz3,false_implies,implies_true];refine⟨?_,?_⟩
     ·intro K hK
      simp only[zz5];refine xE func79 (href _ hT) ?_;rintro e w6 ⟨rfl,hm6⟩
      try replace hB4:=hm6.obj id hB4
      replace hT:=hT.trans0 hm6;clear hm6;refine⟨_,rfl,hK _ _ hT ?_⟩;clear hK K;try simp only[qC]
      refine zL 8 (.tuple #[.agg (qA (xI wn m)),.int .i64 0]) (by kernel_rfl) (fun _ _ _ _ hd h=>⟨hd.trans h.1,h.2⟩) (fun w'=>by simp only[zz5];exact pH _ rfl (.tuple #[.agg (qA (xI wn m)),.int .i64 0]) rfl) hT ?_
      simp only[zz5];try simp only[qC]
      refine zL 9 (.agg (qA (xI wn m))) (by kernel_rfl) (fun _ _ _ _ hd h=>⟨hd.trans h.1,h.2⟩) (fun w'=>by simp only[zz5];exact xH _ 0 #[.agg (qA (xI wn m)),.int .i64 0] rfl rfl (.agg (qA (xI wn m))) rfl) hT ?_
      simp only[zz5];try simp only[qC]
      refine zL 10 (.int .i64 0) (by kernel_rfl) (fun _ _ _ _ hd h=>⟨hd.trans h.1,h.2⟩) (fun w'=>by simp only[zz5];exact xH _ 1 #[.agg (qA (xI wn m)),.int .i64 0] rfl rfl (.int .i64 0) rfl) hT ?_
      simp only[zz5];try simp only[qC]
      refine qO [11] (by kernel_rfl) ?_;simp only[zz3,false_implies,implies_true];intro K hK;simp only[zz5]
      refine jF 24 _ (by rfl) eC (fun b9 w7 hbe hB4 hm7 hs7=>?_);replace hB4:w7.heap[b9]?=some (.cells (qA (List.replicate 32 0)) 24 (0,0)):=hB4
      have hbn:wr.heap.size<=b9:=by rw[hbe];exact hT.size
      replace hT:=hT.trans0 hm7;clear hm7 hbe hs7;refine hK _ _ hT ?_;clear hK K;try simp only[qC]
      refine qO [12] (by kernel_rfl) ?_;simp only[zz3,false_implies,implies_true];intro K hK;simp only[zz5]
      refine qT 24 (qA (xI wn m)) (qQ _) 32 hic hB4 (fun w8 hB8 hm8=>?_) (hoff:=by rw[hic,qD];rfl)
      replace hT:Mod qJ wr w8:=hT.transB hm8 hbn;clear hB4 hm8;have hB4:=hB8;clear hB8;refine hK _ _ hT ?_;clear hK K;try simp only[qC]
      refine xB ?_;try simp only[zz4]
      simp only[qB];go_wp2
      go_meet
      case rel=>exact⟨b9,rfl,hbn,hB4,hT⟩
     ·intro K hK
      simp only[zz5];refine jF 24 _ (by rfl) eC (fun b9 w7 hbe hB4 hm7 hs7=>?_)
      replace hB4:w7.heap[b9]?=some (.cells (qA (List.replicate 32 0)) 24 (0,0)):=hB4;have hbn:wr.heap.size<=b9:=by rw[hbe];exact hT.size
      replace hT:=hT.trans0 hm7;clear hm7 hbe hs7;refine hK _ _ hT ?_;clear hK K;try simp only[qC]
      refine qO [7] (by kernel_rfl) ?_;simp only[zz3,false_implies,implies_true];intro K hK;simp only[zz5];refine xE func79 (href _ hT) ?_;rintro e w6 ⟨rfl,hm6⟩
      try replace hB4:=hm6.obj id hB4
      replace hT:=hT.trans0 hm6;clear hm6;refine⟨_,rfl,hK _ _ hT ?_⟩;clear hK K;try simp only[qC]
      refine zL 8 (.tuple #[.agg (qA (xI wn m)),.int .i64 0]) (by kernel_rfl) (fun _ _ _ _ hd h=>⟨hd.trans h.1,h.2⟩) (fun w'=>by simp only[zz5];exact pH _ rfl (.tuple #[.agg (qA (xI wn m)),.int .i64 0]) rfl) hT ?_
      simp only[zz5];try simp only[qC]
      refine zL 9 (.agg (qA (xI wn m))) (by kernel_rfl) (fun _ _ _ _ hd h=>⟨hd.trans h.1,h.2⟩) (fun w'=>by simp only[zz5];exact xH _ 0 #[.agg (qA (xI wn m)),.int .i64 0] rfl rfl (.agg (qA (xI wn m))) rfl) hT ?_
      simp only[zz5];try simp only[qC]
      refine zL 10 (.int .i64 0) (by kernel_rfl) (fun _ _ _ _ hd h=>⟨hd.trans h.1,h.2⟩) (fun w'=>by simp only[zz5];exact xH _ 1 #[.agg (qA (xI wn m)),.int .i64 0] rfl rfl (.int .i64 0) rfl) hT ?_
      simp only[zz5];try simp only[qC]
      refine qO [12] (by kernel_rfl) ?_;simp only[zz3,false_implies,implies_true];intro K hK;simp only[zz5]
      refine qT 24 (qA (xI wn m)) (qQ _) 32 hic hB4 (fun w8 hB8 hm8=>?_) (hoff:=by rw[hic,qD];rfl)
      replace hT:Mod qJ wr w8:=hT.transB hm8 hbn;clear hB4 hm8;have hB4:=hB8;clear hB8;refine hK _ _ hT ?_;clear hK K;try simp only[qC]
      refine xB ?_;try simp only[zz4]
      simp only[qB];go_wp2
      go_meet
      case rel=>exact⟨b9,rfl,hbn,hB4,hT⟩
    ·intro K hK
     simp only[zz5];refine jF 24 _ (by rfl) eC (fun b9 w7 hbe hB4 hm7 hs7=>?_)
     replace hB4:w7.heap[b9]?=some (.cells (qA (List.replicate 32 0)) 24 (0,0)):=hB4;have hbn:wr.heap.size<=b9:=by rw[hbe];exact hT.size
     replace hT:=hT.trans0 hm7;clear hm7 hbe hs7;refine hK _ _ hT ?_;clear hK K;try simp only[qC]
     refine qO [6] (by kernel_rfl) ?_;simp only[zz3,false_implies,implies_true];intro K hK;simp only[zz5];refine xE func108 (hwid _) ?_;rintro e w5 ⟨rfl,hm5⟩
     try replace hB4:=hm5.obj id hB4
     replace hT:=hT.trans0 hm5;clear hm5;refine⟨_,rfl,hK _ _ hT ?_⟩;clear hK K;try simp only[qC]
     refine qO [7] (by kernel_rfl) ?_;simp only[zz3,false_implies,implies_true];intro K hK;simp only[zz5];refine xE func79 (href _ hT) ?_;rintro e w6 ⟨rfl,hm6⟩
     try replace hB4:=hm6.obj id hB4
     replace hT:=hT.trans0 hm6;clear hm6;refine⟨_,rfl,hK _ _ hT ?_⟩;clear hK K;try simp only[qC]
     refine zL 8 (.tuple #[.agg (qA (xI wn m)),.int .i64 0]) (by kernel_rfl) (fun _ _ _ _ hd h=>⟨hd.trans h.1,h.2⟩) (fun w'=>by simp only[zz5];exact pH _ rfl (.tuple #[.agg (qA (xI wn m)),.int .i64 0]) rfl) hT ?_
     simp only[zz5];try simp only[qC]
     refine zL 9 (.agg (qA (xI wn m))) (by kernel_rfl) (fun _ _ _ _ hd h=>⟨hd.trans h.1,h.2⟩) (fun w'=>by simp only[zz5];exact xH _ 0 #[.agg (qA (xI wn m)),.int .i64 0] rfl rfl (.agg (qA (xI wn m))) rfl) hT ?_
     simp only[zz5];try simp only[qC]
     refine zL 10 (.int .i64 0) (by kernel_rfl) (fun _ _ _ _ hd h=>⟨hd.trans h.1,h.2⟩) (fun w'=>by simp only[zz5];exact xH _ 1 #[.agg (qA (xI wn m)),.int .i64 0] rfl rfl (.int .i64 0) rfl) hT ?_
     simp only[zz5];try simp only[qC]
     refine qO [12] (by kernel_rfl) ?_;simp only[zz3,false_implies,implies_true];intro K hK;simp only[zz5]
     refine qT 24 (qA (xI wn m)) (qQ _) 32 hic hB4 (fun w8 hB8 hm8=>?_) (hoff:=by rw[hic,qD];rfl)
     replace hT:Mod qJ wr w8:=hT.transB hm8 hbn;clear hB4 hm8;have hB4:=hB8;clear hB8;refine hK _ _ hT ?_;clear hK K;try simp only[qC]
     refine xB ?_;try simp only[zz4]
     simp only[qB];go_wp2
     go_meet
     case rel=>exact⟨b9,rfl,hbn,hB4,hT⟩
   case rest=>
    rename iN=>w8
    obtain⟨ib,rfl,hib,hB8,hS8⟩:=hcut;have hib8:ib<w8.heap.size:=(Array.getElem?_eq_some_iff.1 hB8).1;have hat8:=hat.keep0 hS8;have hlt8:=hat.lt
    have hput:=fun(w':iN)(hm:Mod qJ w8 w')=>(hat8.keep0 hm).put (HVK.out.keep0 (hS8.trans0 hm)) hmk hhr (by omega);rw[hhb]at hput;rw[hhw]at hput
    have hcl8:=hS8.cell id hcl0;have hck8:=hS8.cell id hck;have hci8:CellsAt w8 ib 0 (qA (xI wn m)):=CellsAt.whole hB8;have hm18:=hmr.trans0 hS8
    clear href hrc hbr hcl hcl0 hck hB8;go_upto_region 9 with(fail);have hnF:¬Ft ib:=fun e=>by have:=hlt8 _ e;omega
    have hS:CellsAt w8.drew ib 0 (qA (xI wn m))/\w8.drew.cell? ⟨hb,0+1,none⟩=some (.slice (some ⟨b,off,none⟩) L.length lcap)/\w8.drew.cell? ⟨b,off+k*1,none⟩=some (.slice va m.length vc)/\Mod Ft w8 w8.drew:=⟨hci8,hcl8,hck8,(Mod.refl _ _).drew⟩
    have hfin:=hput w8.drew ((Mod.refl _ _).drew);have hhb1:hb<w1.heap.size:=hs1';have hb1:b<w1.heap.size:=hbw
    have hnH:¬Ft hb:=fun e=>by have:=hFn _ e;omega
    have hnb:¬Ft b:=fun e=>by have:=hFn _ e;omega
    refine zZ [3,0,3,0,3,3,0,1] [] (fun w'=>CellsAt w' ib 0 (qA (xI wn m))/\w'.cell? ⟨hb,0+1,none⟩=some (.slice (some ⟨b,off,none⟩) L.length lcap)/\w'.cell? ⟨b,off+k*1,none⟩=some (.slice va m.length vc)/\Mod Ft w8 w') hS ?_
    simp only[qB];refine zJ 24 (fun w' hS=>hS.1) 32 hic ?_;simp only[qB];refine qE 22 (fun w' hS=>hS.2.1) ?_;simp only[qB];refine zC 22 1 hlt ?_;simp only[qC]
    refine qE 53 (fun w' hS=>hS.2.2.1) ?_;simp only[qC];refine qH rfl (fun K hK=>?_);refine xE func37 (hfin) ?_;rintro e w9 ⟨⟨v9,rfl⟩,hst9⟩
    have hmd:Mod Ft w8.drew w9:=by obtain⟨_,_,h2,_⟩:=hst9;exact h2
    have hS9:CellsAt w9 ib 0 (qA (xI wn m))/\w9.cell? ⟨hb,0+1,none⟩=some (.slice (some ⟨b,off,none⟩) L.length lcap)/\w9.cell? ⟨b,off+k*1,none⟩=some (.slice va m.length vc)/\Mod Ft w8 w9:=⟨hci8.keep hmd hnF,hmd.cell hnH hcl8,hmd.cell hnb hck8,hS.2.2.2.trans hmd (fun _ _ h=>h)⟩
    have hns9:=HsNew.step hFn (hm18.trans0 ((Mod.refl _ _).drew)) hst9
    have HR:Hid (BldRel1 w w1 h wn L (.int .i64 ((k+1:Nat):Int)) w9):=O ⟨k+1,by omega,rfl,by rw[HSN.out];exact hns9⟩;refine⟨_,rfl,hK _ _ hS9 ?_⟩;clear hK K
    simp only[qB];clear hS hS9 hmd hst9 hfin hput hci8 hcl8 hck8 hat8;go_wp2
    go_roundw
    case rel=>exact HR.out
    case measure=>simp[intOf];omega
  ·have hz:¬(k:Int)<(L.length:Nat):=by omega
   obtain rfl:k=L.length:=by omega
   rw[List.take_length]at hat;have HR0:Hid (BldRel2 w w1 h wn L KK (.int .i64 (0:Nat)) wr):=O ⟨0,0,rfl,Nat.zero_le _,rfl,Ft,hat,hFn,hmr⟩
   clear hat hFn hmr hbr hcl0;go_wp2;clear hcl
   go_loopw [11] (BldRel2 w w1 h wn L KK) (fun i _=>KK.length+1-(intOf i).toNat)
   case atStart=>exact HR0.out
   case round=>
    rename iN=>wr
    obtain⟨j,n,hn,hj,rfl,Ft,hat,hFn,hmr⟩:=hrel;have HN:=O hn;have HJ:=O hj;have hbr:=hmr.obj id hbH
    have hcl:wr.cell? ⟨hb,1,none⟩=some (.slice lad L.length lcap):=by simp[World.cell?,hbr]
    have hcl0:wr.cell? ⟨hb,0+1,none⟩=some (.slice lad L.length lcap):=hcl
    have hck:wr.cell? ⟨hb,2,none⟩=some (.slice kad KK.length kcap):=by simp[World.cell?,hbr]
    have hck0:wr.cell? ⟨hb,0+2,none⟩=some (.slice kad KK.length kcap):=hck
    have hHc:CellsAt wr hb 0 #[.int .i64 wd,.slice lad L.length lcap,.slice kad KK.length kcap]:=CellsAt.whole hbr;clear hn hj
    by_cases hlt:n+1<KK.length
    ·have hz:(n:Int)+1<(KK.length:Nat):=by omega
     by_cases hL0:0<L.length
     ·have hz0:(L.length:Int)>0:=by omega
      obtain⟨_,_,hae,-,hatK⟩:=(HKV1.out.keep0 hmr).at;injection hae with hae1 hae2 hae3;subst hae1 hae3;obtain⟨kb,koff,rfl,-,-,hkc⟩:=hatK n (by omega)
      obtain⟨cs,-,rfl,hk0A⟩:=hkc n (by omega);obtain⟨cs,-,rfl,hk1A⟩:=hkc (n+1) hlt;have hk0c:=CellsAt.one.1 hk0A;have hk1c:=CellsAt.one.1 hk1A
      have hi0:=hK2 _ (List.getElem_mem (show n<KK.length by omega));have hi1:=hK2 _ (List.getElem_mem hlt);have hlo:=lOf_snoc wn L KK j;rw[<-HN.out]at hlo
      have hg0:KK.getD n 0=KK[n]:=by rw[List.getD_eq_getElem?_getD,List.getElem?_eq_getElem (by omega)];rfl
      have hg1:KK.getD (n+1) 0=KK[n+1]:=by rw[List.getD_eq_getElem?_getD,List.getElem?_eq_getElem hlt];rfl
      rw[hg0,hg1]at hlo;generalize KK[n]=x0 at*;generalize KK[n+1]=x1 at*;have hpl:=eU x1 L.length (by omega)
      have hpk:=fun w'=>pick_any x1 L.length hi1 (by omega) w';unfold layZ at hlo;obtain⟨p,hp⟩:∃p:Nat,rE x1 L.length=p:=⟨(rE x1 L.length).toNat,by omega⟩
      rw[hp]at hpl hlo;simp only[hp]at hpk;have hpL:p<L.length:=by omega
      have hgm:L.getD (p:Int).toNat []=L[p]:=by rw[Int.toNat_natCast,List.getD_eq_getElem?_getD,List.getElem?_eq_getElem hpL];rfl
      simp only[hgm]at hlo;obtain⟨_,_,hae,-,hatL⟩:=(kN HLV1.out hmr).at;injection hae with hae1 hae2' hae3;subst hae1 hae3
      obtain⟨b,off,rfl,-,-,hcc⟩:=hatL p hpL;obtain⟨cs,-,⟨vk,rfl,hvk⟩,hcA⟩:=hcc p hpL;have hcb:=CellsAt.one.1 hcA;have hmk:=hL2 _ (List.getElem_mem hpL)
      generalize L[p]=m at*;obtain⟨va,vc,hve,-,-⟩:=Sl.at hvk;have HVK:=O hvk;rw[hve]at HVK hcb;have HLO:=O hlo
      have hbw:kb<w1.heap.size:=sl_lt HKV1.out (show n<KK.length by omega);clear hlo hatK hkc hk0A hk1A hae2 hae2' hatL hcc hcA hve hvk hp hpl hg0 hg1 hgm
      go_upto_region 13 with(fail);have hS:Mod qJ wr wr.drew:=(Mod.refl _ _).drew
      refine zZ [3,0,3,0,3,3,3,0,3,0,3,1,3,0,3] [] (fun w'=>Mod qJ wr w') hS ?_;simp only[qB];refine qE 22 (fun w' hS=>hS.cell id hcl0) ?_
      simp only[qB];refine qE 64 (fun w' hS=>hS.cell id hck0) ?_;simp only[qB];refine jH ((n+1:Nat):Int) ?_;simp only[qC];refine zC 64 1 hlt ?_
      simp only[qC];refine qE 3 (fun w' hS=>hS.cell id hk1c) ?_;simp only[qB];refine qE 22 (fun w' hS=>hS.cell id hcl0) ?_;simp only[qC];refine xF ?_
      simp only[qC];refine qH rfl (fun K hK=>?_);refine xE func17 (hpk _) ?_;rintro e w2 ⟨rfl,hw2⟩;obtain rfl:=hw2.symm;refine⟨_,rfl,hK _ _ hS ?_⟩;clear hK K
      try simp only[qC]
      refine zC 22 1 hpL ?_;simp only[qC];refine qE 53 (fun w' hS=>hS.cell id hcb) ?_;simp only[qB];have hm1c:=hmr.trans0 hS;have hat1:=hat.keep0 hS
      have hHc1:=hHc.keep hS id;have hk0c1:=hS.cell id hk0c;have hck1:=hS.cell id hck0;have HVK1:=O (HVK.out.keep0 hS);generalize wr.drew=wq at*
      have href:=fun w' (hm:Mod qJ wq w')=>cN (HVK1.out.keep0 hm) (by omega) wn hwz.1 hwz.2;have hdi:(xI wn m).length=32:=tF hwz.2
      have hic:(qA (xI wn m)).size=32:=by rw[qD,hdi]
      clear hcl hcl0 hck hck0 hbr hHc hk0c hk1c hcb HVK hS hpk hat hmr hw2;go_upto_region 14 with(fail);refine qL [3,1,1,1,3,3,3,1,1,3] ?_;simp only[qB]
      refine qY 68 hHc1 3 rfl ?_;try simp only[qC]
      refine qK (pL func108 (hwid _) fun w5 hm5=>?_);try simp only[qC]
      refine qK (pL func79 (href _ hm5) fun w6 hm6=>?_);simp only[qB];refine jQ (.agg (qA (xI wn m))) ?_;simp only[qC];refine jQ (.int .i64 0) ?_
      simp only[qC];refine qK (zB eC (fun w7 hB7 hm7 hs7=>?_));try simp only[qC]
      refine qK (qT 24 (qA (xI wn m)) (qQ _) 32 hic hB7 (fun w8 hB8 hm8=>?_) (hoff:=by rw[hic,qD];simp));simp only[qB]
      have hS6:Mod qJ wq w6:=hm5.trans0 hm6;have hS8:Mod qJ wq w8:=(hS6.trans0 hm7).transB hm8 hS6.size;have hib6:=hS6.size
      have hib8:w6.heap.size<w8.heap.size:=(Array.getElem?_eq_some_iff.1 hB8).1;generalize hib:w6.heap.size=ib at*;have hat8:=hat1.keep0 hS8;have hlt1:=hat1.lt
      have hlay:=fun(w':iN)(hm:Mod qJ w8 w')=>(hat8.keep0 hm).lay (eS x0,xI wn m) hdi (repoZ_size x0) (m.length:Nat);rw[hhq]at hlay;rw[hhl]at hlay
      simp only[<-HLO.out]at hlay;have hci8:CellsAt w8 ib 0 (qA (xI wn m)):=CellsAt.whole hB8;have hk08:=hS8.cell id hk0c1;have hck8:=hS8.cell id hck1
      have hm18:=hm1c.trans0 hS8;have hrep:=fun w'=>repo_any x0 hi0 w';clear hS6 hS8 hm5 hm6 hm7 hm8 hB7 hs7 href hHc1 hB8 hat1 hk0c1 hck1;go_upto_region 15 with(fail)
      have hnF:¬Ft ib:=fun e=>by have:=hlt1 _ e;omega
      have hnH:¬Ft hb:=fun e=>by have:=hFn _ e;omega
      have hnb:¬Ft kb:=fun e=>by have:=hFn _ e;omega
      have hS:CellsAt w8.drew ib 0 (qA (xI wn m))/\w8.drew.cell? ⟨hb,0+2,none⟩=some (.slice (some ⟨kb,koff,none⟩) KK.length kcap)/\w8.drew.cell? ⟨kb,koff+n*1,none⟩=some (.int .i64 x0)/\Mod Ft w8 w8.drew:=⟨hci8,hck8,hk08,(Mod.refl _ _).drew⟩
      have hnlt:n<KK.length:=by omega
      refine cH [(0,3),(1,3),(2,0),(3,3),(4,3),(5,0),(7,0),(8,3),(9,3),(6,1),(10,1)] [] (fun w'=>CellsAt w' ib 0 (qA (xI wn m))/\w'.cell? ⟨hb,0+2,none⟩=some (.slice (some ⟨kb,koff,none⟩) KK.length kcap)/\w'.cell? ⟨kb,koff+n*1,none⟩=some (.int .i64 x0)/\Mod Ft w8 w') hS ?_
      simp only[qB];refine qE 64 (fun w' hS=>hS.2.1) ?_;simp only[qB];refine zC 64 1 hnlt ?_;simp only[qC];refine qE 3 (fun w' hS=>hS.2.2.1) ?_;simp only[qC]
      refine zJ 24 (fun w' hS=>hS.1) 32 hic ?_;simp only[qB];refine xF ?_;simp only[qC];refine qH rfl (fun K hK=>?_);refine xE func69 (hrep _) ?_
      rintro e w9 ⟨rfl,hm9⟩;have hm89:Mod qJ w8 w9:=((Mod.refl qJ w8).drew).trans0 hm9
      have hS9:CellsAt w9 ib 0 (qA (xI wn m))/\w9.cell? ⟨hb,0+2,none⟩=some (.slice (some ⟨kb,koff,none⟩) KK.length kcap)/\w9.cell? ⟨kb,koff+n*1,none⟩=some (.int .i64 x0)/\Mod Ft w8 w9:=⟨hci8.keep hm89 id,hm89.cell id hck8,hm89.cell id hk08,hm89.mono (fun _ _ h=>h.elim)⟩
      have hfin:=hlay w9 hm89;refine⟨_,rfl,hK _ _ hS9 ?_⟩;clear hK K;try simp only[qC]
      refine qH rfl (fun K hK=>?_);refine xE func110 (hfin) ?_;rintro e w10 ⟨⟨v10,rfl⟩,hst10⟩;have hmd:Mod Ft w9 w10:=by obtain⟨_,_,h2,_⟩:=hst10;exact h2
      have hS10:CellsAt w10 ib 0 (qA (xI wn m))/\w10.cell? ⟨hb,0+2,none⟩=some (.slice (some ⟨kb,koff,none⟩) KK.length kcap)/\w10.cell? ⟨kb,koff+n*1,none⟩=some (.int .i64 x0)/\Mod Ft w8 w10:=⟨hS9.1.keep hmd hnF,hmd.cell hnH hS9.2.1,hmd.cell hnb hS9.2.2.1,hS9.2.2.2.trans hmd (fun _ _ h=>h)⟩
      have hns:=HsNew.step hFn (hm18.trans0 hm89) hst10
      have HR:Hid (BldRel2 w w1 h wn L KK (.int .i64 ((n+2:Nat):Int)) w10):=O ⟨j+1,n+2,by have:=HN.out;omega,laysN_lt HN.out hlt hL0,rfl,hns⟩
      refine⟨_,rfl,hK _ _ hS10 ?_⟩;clear hK K;simp only[qB];clear hS hS9 hS10 hmd hst10 hns hfin hlay hm9 hm89 hat8 hci8 hk08 hck8 hm18 hrep;go_wp2
      go_roundw
      case rel=>exact HR.out
      case measure=>simp[intOf];omega
     ·have hz0:¬(L.length:Int)>0:=by omega
      have hjl:j=sC L KK:=by
       have h1:=HJ.out;have h2:L=[]:=List.eq_nil_of_length_eq_zero (by omega);unfold sC at h1 |-;rw[if_pos h2]at h1 |-;omega
      have HF:Hid (BuildR w wn L KK (.returned (.tuple #[iO bs,iO qb])) wr):=O ⟨h,hhw,hhr,hhl,⟨qb,hhq⟩,by rw[hhb,hhq],Ft,by rw[<-hjl];exact hat,fun k hk=>by have:=hFn k hk;have:=hm1.size;omega,hm1.trans0 hmr⟩
      clear hat hFn hmr hbr hHc hcl0 hck0;go_wp2;go_ret2;exact HF.out
    ·have hz:¬(n:Int)+1<(KK.length:Nat):=by omega
     have hnb:n<=1000:=by
      have h1:=HJ.out;have h3:=HN.out;unfold sC at h1
      split at h1<;>omega
     have hjl:j=sC L KK:=by
      have h1:=HJ.out;have h3:=HN.out;unfold sC at h1 |-
      split at h1
      ·rename_i h2
       rw[if_pos h2];omega
      ·rename_i h2
       rw[if_neg h2];omega
     have HF:Hid (BuildR w wn L KK (.returned (.tuple #[iO bs,iO qb])) wr):=O ⟨h,hhw,hhr,hhl,⟨qb,hhq⟩,by rw[hhb,hhq],Ft,by rw[<-hjl];exact hat,fun k hk=>by have:=hFn k hk;have:=hm1.size;omega,hm1.trans0 hmr⟩
     clear hat hFn hmr hbr hHc hcl0 hck0;go_wp2;go_ret2;exact HF.out
end
section
open Go.RowKit Go.Proofs.Tryz Go.Lib
theorem kG(o o':Bool)(G G':iM)(va vb:Value)(la lb:List iK)(w:iN)(ha:Sl o w G 32 IdC va la)(hb:Sl o' w G' 32 IdC vb lb):
 Calls prog 24 #[va,vb] w (vO (.bool (decide (la=lb))) w):=by
 obtain⟨aa,ca,rfl,hla,ha⟩:=ha.at;obtain⟨ab,cb,rfl,hlb,hb⟩:=hb.at
 by_cases hlen:la.length=lb.length
 ·have e1:((la.length:Int)==(lb.length:Int))=true:=by simp[hlen]
  have H:=O hlen;have HA:=O ha;have HB:=O hb;clear hlen ha hb;go_enter func24,ntmps24;go_wp2
  go_loopw [5,6] (SameRel la lb w) (fun _ i _=>la.length-(intOf i).toNat)
  case atStart=>exact⟨0,by omega,rfl,by rw[pre_zero],Mod.refl _ _⟩
  case round=>
   obtain⟨k,hk,rfl,rfl,hm⟩:=hrel
   rename_i wr
   by_cases hs:pre k la lb=true
   ·by_cases hlt:k<la.length
    ·have hlt':k<lb.length:=by rw[<-H.out];exact hlt
     obtain⟨ba,oa,rfl,-,-,hca⟩:=HA.out k hlt;obtain⟨bb,ob,rfl,-,-,hcb⟩:=HB.out k hlt';obtain⟨_,-,⟨rfl,hc32⟩,hca⟩:=hca k hlt
     obtain⟨_,-,⟨rfl,hd32⟩,hcb⟩:=hcb k hlt';have hps:=O (pre_succ hlt hlt' hs);clear HA HB;go_wp2_with fail;have hS:=hm.drew
     refine zZ [3,3,3,0,3,3,3,0,0,3] [] (fun w'=>Mod qJ w w') hS ?_;simp only[qB];refine zC 25 32 hlt ?_;simp only[qC]
     refine zJ 24 (fun w' hS=>hca.keep hS id) 32 (by rw[qD,hc32]) ?_;simp only[qB];refine zC 25 32 hlt' ?_;simp only[qC]
     refine zJ 24 (fun w' hS=>hcb.keep hS id) 32 (by rw[qD,hd32]) ?_;simp only[qC]
     refine qV rfl (fun w' hS=>rG _ _ _ _ rfl _ _ rfl rfl 32 5 underlying24 underlying5 (by kernel_rfl) (by kernel_rfl) hc32 hd32 _ rfl) ?_;simp only[qB]
     go_wp2
     go_roundw
     case rel=>exact⟨k+1,by omega,by go_num,by rw[hps.out],hS⟩
     case measure=>simp[intOf];omega
    ·go_wp2
     go_ret;exact⟨by rw[<-pre_full H.out (Nat.le_of_not_lt hlt),hs];rfl,hm⟩
   ·have hs':pre k la lb=false:=by simpa using hs
    have hps:=O (pre_false hs');clear hs;go_wp2;go_ret;exact⟨by rw[hps.out];rfl,hm⟩
 ·have e1:((la.length:Int)==(lb.length:Int))=false:=by simp;omega
  have hps:=O (decide_eq_false (show ¬la=lb by rintro rfl;exact hlen rfl));clear hlen;go_enter func24,ntmps24;go_wp2;refine wp_loop_once ?_;go_wp2;go_ret
  exact⟨by rw[hps.out];rfl,Mod.refl _ _⟩
end
section
open Go.RowKit Go.Shelf Go.Proofs.Tryz Go.Lib
theorem built_dot12:prog.built 113 [(0,.int .i64 1),(1,.int .i64 2)]=some #[.int .i64 1,.int .i64 2]:=by kernel_rfl
theorem built_held(a b:Int)(di:iK)(h:di.length=32):prog.built 211 [(0,.agg #[.int .i64 a,.int .i64 b]),(1,.agg (qA di))]=some (zY ((a,b),di)):=by
 have p:yM prog 211=some [(0,2),(2,32)]:=by kernel_rfl
 have hz:(zY ((0,0),List.replicate 32 0)).size=34:=uD (by simp);have hi:(qA di).size=32:=by rw[qD,h]
 rw[zX heldZ p];generalize zY ((0,0),List.replicate 32 0)=z at hz
 rw[zN (off:=0) (size:=2) rfl (by rfl) (by rw[hz];omega),zN (off:=2) (size:=32) rfl (by simpa[Value.cells]using hi) (by rw[kQ (by rw[hz];simp[Value.cells])];rw[hz];omega),yN]
 congr 1
 apply Array.toList_inj.1
 have hl:z.toList.length=34:=by simpa using hz
 simp only[zE,Value.cells,zY,Array.toList_append,hi]
 simp[hl]
theorem built_tag(n:ByteArray)(ad:Option Addr)(k c:Nat):prog.built 188 [(0,.string n),(1,.slice ad k c)]=some #[.string n,.slice ad k c]:=by
 have p:yM prog 188=some [(0,1),(1,1)]:=by kernel_rfl
 rw[zX tagZ p,zN (off:=0) (size:=1) rfl (by rfl) (by simp),zN (off:=1) (size:=1) rfl (by rfl) (by simp[zE,Value.cells]),yN]
 rfl
theorem built_rep(n:ByteArray)(ad:Option Addr)(k c:Nat):prog.built 186 [(0,.string n),(1,.slice ad k c)]=some #[.string n,.slice ad k c,.slice none 0 0]:=by
 have p:yM prog 186=some [(0,1),(1,1),(2,1)]:=by kernel_rfl
 rw[zX repZ p,zN (off:=0) (size:=1) rfl (by rfl) (by simp),zN (off:=1) (size:=1) rfl (by rfl) (by simp[zE,Value.cells]),yN]
 rfl
theorem built_tab(ad bd:Option Addr)(k c k' c':Nat):prog.built 71 [(0,.slice ad k c),(1,.slice bd k' c')]=some #[.slice ad k c,.slice bd k' c']:=by
 have p:yM prog 71=some [(0,1),(1,1)]:=by kernel_rfl
 rw[zX tableZ p,zN (off:=0) (size:=1) rfl (by rfl) (by simp),zN (off:=1) (size:=1) rfl (by rfl) (by simp[zE,Value.cells]),yN]
 rfl
theorem tA{α:Type}{T:TypeId}{R:iL->α->Prop}{x:α}(h:w.heap[b]?=some (.cells cs T (0,0)))(hR:R cs x)(n:Nat)(hn:cs.size=n):Sl false w kV n R (.slice (some ⟨b,0,none⟩) 1 1) [x]:=by
 refine⟨some ⟨b,0,none⟩,1,rfl,Nat.le_refl _,by unfold maxLen;omega,fun _=>⟨b,0,rfl,trivial,fun e=>(by cases e),fun i hi=>?_⟩⟩
 have h0:i=0:=by simpa using hi
 subst h0;refine⟨cs,hn,hR,?_⟩;rw[Nat.zero_mul];exact CellsAt.whole h
theorem results_row1{fn:Func}{p:Tmp}{ty:TypeId}(h:fn.results=#[.cell p ty])(tmps:iL)(w:iN)(g:Nat)(t:TypeId)(cs:iL)(fr:Nat×Nat)(d:TypeDesc)
 (hp:tmps.getD p undef=iO g)(hg:w.heap[g]?=some (.cells cs t fr))
 (hu:P.underlying ty=some d)(hd:(match d with| .struct _| .array _ _=>true|_=>false)=true)(hi:(P.info? ty).map (·.size)=some cs.size):
 (results fn tmps).run P w=.ok (.agg cs) w:=by
 have hp':tmps[p]?.getD undef=iO g:=by simpa using hp
 simp[results,h,hp',asAddr,run_loadVar_row w g t ty cs fr d hg hu hd hi]
def TagdR(w:iN)(id:iK):iJ:=fun e w'=>Mod qJ w w'/\∃vv rv reps,e=.returned (.agg #[vv,rv])/\vv.oneCell'=true/\vG w' rv reps/\zK reps=[id]
theorem int_zs:(prog.info? 3).map (fun i=>(i.zero,i.size))=some (some (.int .i64 0),1):=by kernel_rfl
theorem held_zs:(prog.info? 211).map (fun i=>(i.zero,i.size))=some (some (.agg (zY ((0,0),List.replicate 32 0))),34):=by kernel_rfl
theorem tag_zs:(prog.info? 188).map (fun i=>(i.zero,i.size))=some (some (.agg #[.string ⟨#[]⟩,.slice none 0 0]),2):=by kernel_rfl
theorem rep_zs:(prog.info? 186).map (fun i=>(i.zero,i.size))=some (some (.agg #[.string ⟨#[]⟩,.slice none 0 0,.slice none 0 0]),3):=by kernel_rfl
theorem gT(di:iK)(hid:di.length=32)(w:iN):Calls prog 56 #[.agg (qA di)] w (TagdR w di):=by
 have hic:(qA di).size=32:=by rw[qD,hid]
 have hhs:=uD (h:=((1,2),di)) hid;have hbh:=built_held 1 2 di hid;go_enter func56,ntmps56;go_upto_region 0 with(fail);refine qL [1,1] ?_;simp only[qB]
 refine qK (zT 24 (fun w1 hB1 hm1 hs1=>?_));replace hB1:w1.heap[w.heap.size]?=some (.cells (qA di) 24 (0,0)):=hB1;try simp only[qC]
 refine qK (zB tableZ (fun w2 hB2 hm2 hs2=>?_));simp only[qB];have hci:CellsAt w2 w.heap.size 0 (qA di):=CellsAt.whole (hm2.obj id hB1)
 go_upto_region 1 with(fail);refine qL [1,0,1,0,1,0,1,0,1,0,1] ?_;simp only[qB]
 refine qK (kK 64 (.int .i64 2) (.int .i64 0) 1 rfl (fun w3 hB3 hm3 hs3=>?_) (hi:=int_zs));have hci3:=hci.keep hm3 id;try simp only[qC]
 refine yV built_dot12 ?_;simp only[qC];refine qY 24 hci3 32 hic ?_;try simp only[qC]
 refine yV hbh ?_;simp only[qC]
 refine qK (kK 184 (.agg (zY ((1,2),di))) (.agg (zY ((0,0),List.replicate 32 0))) 34 hhs (fun w4 hB4 hm4 hs4=>?_) (hi:=held_zs))
 replace hB4:w4.heap[w3.heap.size]?=some (.cells (zY ((1,2),di)) 211 (0,0)):=hB4;try simp only[qC]
 refine qV rfl (fun w' hS=>zH 188 [(0,_),(1,_)] [(0,.string ⟨#[118]⟩),(1,.slice (some ⟨w3.heap.size,0,none⟩) 1 1)] _ (by rfl) (by rfl) (built_tag ⟨#[118]⟩ _ 1 1)) ?_
 simp only[qC]
 refine qK (kK 183 (.agg #[.string ⟨#[118]⟩,.slice (some ⟨w3.heap.size,0,none⟩) 1 1]) (.agg #[.string ⟨#[]⟩,.slice none 0 0]) 2 rfl (fun w5 hB5 hm5 hs5=>?_) (hi:=tag_zs))
 replace hB5:w5.heap[w4.heap.size]?=some (.cells #[.string ⟨#[118]⟩,.slice (some ⟨w3.heap.size,0,none⟩) 1 1] 188 (0,0)):=hB5;try simp only[qC]
 refine qV rfl (fun w' hS=>zH 186 [(0,_),(1,_)] [(0,.string ⟨#[114]⟩),(1,.slice (some ⟨w4.heap.size,0,none⟩) 1 1)] _ (by rfl) (by rfl) (built_rep ⟨#[114]⟩ _ 1 1)) ?_
 simp only[qC]
 refine qK (kK 69 (.agg #[.string ⟨#[114]⟩,.slice (some ⟨w4.heap.size,0,none⟩) 1 1,.slice none 0 0]) (.agg #[.string ⟨#[]⟩,.slice none 0 0,.slice none 0 0]) 3 rfl (fun w6 hB6 hm6 hs6=>?_) (hi:=rep_zs))
 replace hB6:w6.heap[w5.heap.size]?=some (.cells #[.string ⟨#[114]⟩,.slice (some ⟨w4.heap.size,0,none⟩) 1 1,.slice none 0 0] 186 (0,0)):=hB6
 have hT6:=hm5.trans0 hm6|>fun h=>(hm3.trans0 hm4).trans0 h |>.obj id hB2;try simp only[qC]
 refine qV rfl (fun w' hS=>zH 71 [(0,_),(1,_)] [(0,.slice (some ⟨w2.heap.size,0,none⟩) 1 1),(1,.slice (some ⟨w5.heap.size,0,none⟩) 1 1)] _ (by rfl) (by rfl) (built_tab _ _ 1 1 1 1)) ?_
 simp only[qC]
 refine qK (qT 71 #[.slice (some ⟨w2.heap.size,0,none⟩) 1 1,.slice (some ⟨w5.heap.size,0,none⟩) 1 1] (by intro c hc;simp at hc;rcases hc with rfl|rfl<;>rfl) 2 rfl hT6 (fun w7 hB7 hm7=>?_) (hoff:=by simp))
 simp only[qB];have hs2':=hm2.size;have hs3':=hm3.size;have hs4':=hm4.size;have hs5':=hm5.size;have hs6':=hm6.size;have h1lt:w1.heap.size<w2.heap.size:=hs2
 have hM:Mod qJ w w7:=(((hm1.trans0 hm2).trans0 (hm3.trans0 hm4)).trans0 (hm5.trans0 hm6)).transB hm7 hm1.size
 have hT4:=hm7.objB (b:=w3.heap.size) (by omega) ((hm5.trans0 hm6).obj id hB4);have hT5:=hm7.objB (b:=w4.heap.size) (by omega) (hm6.obj id hB5)
 have hT7:=hm7.objB (b:=w5.heap.size) (by omega) hB6;have hrow:RowAt w7 (.slice (some ⟨w3.heap.size,0,none⟩) 1 1,[((1,2),di)]):=tA hT4 ⟨rfl,hid⟩ 34 hhs
 have htags:Sl false w7 kV 2 (TagC w7) (.slice (some ⟨w4.heap.size,0,none⟩) 1 1) [⟨⟨#[118]⟩,(.slice (some ⟨w3.heap.size,0,none⟩) 1 1,[((1,2),di)])⟩]:=tA hT5 ⟨rfl,hrow⟩ 2 rfl
 have hreps:vG w7 (.slice (some ⟨w5.heap.size,0,none⟩) 1 1) [⟨⟨#[114]⟩,.slice (some ⟨w4.heap.size,0,none⟩) 1 1,[⟨⟨#[118]⟩,(.slice (some ⟨w3.heap.size,0,none⟩) 1 1,[((1,2),di)])⟩],(.slice none 0 0,[])⟩]:=tA hT7 ⟨rfl,htags,Sl.nil _ _ _ _ _⟩ 3 rfl
 have HF:Hid (TagdR w di (.returned (.agg #[.slice (some ⟨w2.heap.size,0,none⟩) 1 1,.slice (some ⟨w5.heap.size,0,none⟩) 1 1])) w7):=O ⟨hM,_,_,_,rfl,rfl,hreps,rfl⟩
 clear hM hT4 hT5 hT7 hrow htags hreps hT6 hm1 hm2 hm3 hm4 hm5 hm6 hm7 hB1 hB2 hB3 hB4 hB5 hB6 hci hci3;go_wp2
 refine bodyPost_ret (results_row1 (P:=prog) (ty:=71) rfl _ _ w1.heap.size _ _ _ _ (by rfl) hB7 underlying71 rfl (by kernel_rfl)) rfl ?_;exact HF.out
structure Thg where
 d:yY
 depth:Nat
 first:Bool
deriving DecidableEq
abbrev WErr:=iK×Int
def treeT(t:Thg):Bool:=t.first||jV t.d
def walkDs(g:yY->List Thg×Option WErr):List yY->List Thg×Option WErr
 | []=>([],none)
 |d::ds=>match(g d).2 with
  |some e=>((g d).1,some e)
  |none=>((g d).1++(walkDs g ds).1,(walkDs g ds).2)
def walkL(c:yH):Nat->Thg->List Thg×Option WErr
 |0,_=>([],none)
 |f+1,t=>match qR t.d.id c with
  |none=>([],some (t.d.id,14))
  |some b=>
   if(t.first||decide (b.length=t.d.size))=false then([],some (t.d.id,17))
   else if treeT t=false then(if(decide (t.d.media=1)||decide (t.d.media=2))=false then([],some (t.d.id,20))else([t],none))
   else if 4<t.depth then([],some (t.d.id,18))
   else match kA b with
    |none=>([],some (t.d.id,5))
    |some m=>
     if(t.first||decide (m.kind=t.d.media))=false then([],some (t.d.id,20))
     else(t::(walkDs (fun d=>walkL c f ⟨d,t.depth+1,false⟩) (yJ m)).1,(walkDs (fun d=>walkL c f ⟨d,t.depth+1,false⟩) (yJ m)).2)
end
section
open Go.RowKit Go.Proofs.Tryz Go.Lib
theorem exec_eql_dot(x y:Operand)(yt:TypeId)(ho:o.op=.binOp .eql 113 x y yt)(m n p q:Int)
 (hx:a.eval x=.agg #[.int .i64 m,.int .i64 n])(hy:a.eval y=.agg #[.int .i64 p,.int .i64 q])(b:Bool)(hb:decide (m=p/\n=q)=b):(execOp a.eval o).run prog w=.ok (.value (.bool b)) w:=by
 subst hb
 have h:(binOp .eql 113 (.agg #[.int .i64 m,.int .i64 n]) (.agg #[.int .i64 p,.int .i64 q])).run prog w=.ok (.bool (decide (m=p/\n=q))) w:=by
  go_simp
  by_cases h1:m=p<;>by_cases h2:n=q<;>simp[h1,h2]
 have h1:=run_eqGuard_agg (P:=prog) w .eql 113 x y #[.int .i64 m,.int .i64 n] #[.int .i64 p,.int .i64 q] (by kernel_rfl);unfold execOp
 simp only[ho,hx,hy,Sem.run_bind,h1,Result.andThen_ok,h,Sem.run_pure]
theorem evCells_set2(e:tX)(dv rv v:Value):(vD e dv rv).setIfInBounds 2 v=vD e v rv:=by
 apply Array.toList_inj.1;simp[vD]
theorem evCells_set38(e:tX)(dv rv v:Value)(h:e.id.length=32):(vD e dv rv).setIfInBounds 38 v=vD e dv v:=by
 apply Array.toList_inj.1;simp[vD,qA,h,List.set_append]
theorem EvR.one{own:Bool}{w:iN}{G:iM}{cs:iL}{e:tX}(h:EvR own w G cs e):∀c∈cs,c.oneCell'=true:=by
 obtain⟨dv,rv,rfl,hi,h1,h2,_⟩:=h;exact fD h1.one h2.one
theorem EvR.size{own:Bool}{w:iN}{G:iM}{cs:iL}{e:tX}(h:EvR own w G cs e):cs.size=39:=by
 obtain⟨dv,rv,rfl,hi,_⟩:=h;exact(jO e dv rv hi).size
theorem sameInts_any(o o':Bool)(G G':iM)(va vb:Value)(la lb:List Int)(w:iN)(ha:Sl o w G 1 dH va la)(hb:Sl o' w G' 1 dH vb lb):
 Calls prog 121 #[va,vb] w (vO (.bool (decide (la=lb))) w):=by
 obtain⟨aa,ca,rfl,hla,ha⟩:=ha.at;obtain⟨ab,cb,rfl,hlb,hb⟩:=hb.at
 by_cases hlen:la.length=lb.length
 ·have e1:((la.length:Int)==(lb.length:Int))=true:=by simp[hlen]
  have H:=O hlen;have HA:=O ha;have HB:=O hb;clear hlen ha hb;go_enter func121,ntmps121;go_wp2
  go_loopw [5,6] (SameRel la lb w) (fun _ i _=>la.length-(intOf i).toNat)
  case atStart=>exact⟨0,by omega,rfl,by rw[pre_zero],Mod.refl _ _⟩
  case round=>
   obtain⟨k,hk,rfl,rfl,hm⟩:=hrel
   rename_i wr
   by_cases hs:pre k la lb=true
   ·by_cases hlt:k<la.length
    ·have hlt':k<lb.length:=by rw[<-H.out];exact hlt
     obtain⟨ba,oa,rfl,-,-,hca⟩:=HA.out k hlt;obtain⟨bb,ob,rfl,-,-,hcb⟩:=HB.out k hlt';obtain⟨_,-,rfl,hca⟩:=hca k hlt;obtain⟨_,-,rfl,hcb⟩:=hcb k hlt'
     have h1:wr.cell? ⟨ba,oa+k,none⟩=some (.int .i64 la[k]):=by have:=CellsAt.one.1 (hca.keep hm id);simpa using this
     have h2:wr.cell? ⟨bb,ob+k,none⟩=some (.int .i64 lb[k]):=by have:=CellsAt.one.1 (hcb.keep hm id);simpa using this
     clear hca hcb;have hps:=O (pre_succ hlt hlt' hs);go_wp2_with fail
     go_quiet (fail)
     go_wp2
     go_roundw
     case rel=>exact⟨k+1,by omega,by go_num,by rw[hps.out];rfl,hm.drewN _⟩
     case measure=>simp[intOf];omega
    ·go_wp2
     go_ret;exact⟨by rw[<-pre_full H.out (Nat.le_of_not_lt hlt),hs];rfl,hm⟩
   ·have hs':pre k la lb=false:=by simpa using hs
    have hps:=O (pre_false hs');clear hs;go_wp2;go_ret;exact⟨by rw[hps.out];rfl,hm⟩
 ·have e1:((la.length:Int)==(lb.length:Int))=false:=by simp;omega
  have hps:=O (decide_eq_false (show ¬la=lb by rintro rfl;exact hlen rfl));clear hlen;go_enter func121,ntmps121;go_wp2;refine wp_loop_once ?_;go_wp2;go_ret
  exact⟨by rw[hps.out];rfl,Mod.refl _ _⟩
theorem sameEvent_eq(o o':Bool)(G G':iM)(ca cb:iL)(e:tX)(w:iN)(ha:EvR o w G ca e)(hb:EvR o' w G' cb e):
 Calls prog 61 #[.agg ca,.agg cb] w (vO (.bool true) w):=by
 obtain⟨dv1,rv1,hca,hi1,hd1,hr1,-,-⟩:=ha;obtain⟨dv2,rv2,hcb,hi2,hd2,hr2,-,-⟩:=hb;have cA:=jO e dv1 rv1 hi1;rw[<-hca]at cA;clear hca
 have cB:=jO e dv2 rv2 hi2;rw[<-hcb]at cB;clear hcb;go_enter func61,ntmps61;go_upto_region 1 with(fail)
 have hM:Mod qJ w ((w.alloc (.cells ca 115)).alloc (.cells cb 115)):=((Mod.refl _ _).alloc _).alloc _
 have hA:=CellsAt.whole (heap_alloc2_old w (.cells ca 115) (.cells cb 115));have hB:=CellsAt.whole (heap_alloc2_new w (.cells ca 115) (.cells cb 115))
 generalize ((w.alloc (.cells ca 115)).alloc (.cells cb 115))=W at hM hA hB |-;replace hd1:=hd1.keep hM (fun _ _=>id) (fun _ _ h=>h)
 replace hd2:=hd2.keep hM (fun _ _=>id) (fun _ _ h=>h);replace hr1:=hr1.keep hM (fun _ _=>id) (fun _ _ h=>h);replace hr2:=hr2.keep hM (fun _ _=>id) (fun _ _ h=>h)
 have hAd:=hA.part (i:=0) (j:=2) (by rw[cA.size];omega);have hBd:=hB.part (i:=0) (j:=2) (by rw[cB.size];omega)
 have hAi:=hA.part (i:=6) (j:=38) (by rw[cA.size];omega);have hBi:=hB.part (i:=6) (j:=38) (by rw[cB.size];omega)
 rw[cA.dot]at hAd;rw[cB.dot]at hBd;rw[cA.id]at hAi;rw[cB.id]at hBi;have hS:Mod qJ W W:=Mod.refl _ _
 refine gE [3,0,3,0,0,3,3,0,3,0,1,3,3,3,0,3,0,0,3,3,3,0,3,0,0,3,3,3,0,3,0,0,3,3,3,0,3,0,0,3,3,3,0,3,0,1,3,3] (fun w'=>Mod qJ W w') (by rfl) (by rfl) hS ?_
 simp only[qB];refine zJ 113 (fun w' hS=>hAd.keep hS id) 2 rfl ?_;simp only[qB];refine zJ 113 (fun w' hS=>hBd.keep hS id) 2 rfl ?_;simp only[qC]
 refine qV rfl (fun w' hS=>exec_eql_dot _ _ _ rfl _ _ _ _ rfl rfl true (decide_eq_true ⟨rfl,rfl⟩)) ?_;simp only[qB]
 refine qE 64 (fun w' hS=>hS.cell id (hA.cell cA.c2)) ?_;simp only[qB];refine qE 64 (fun w' hS=>hS.cell id (hB.cell cB.c2)) ?_;simp only[qC]
 refine qH rfl (fun K hK=>?_);refine xE func121 (sameInts_any _ _ _ _ _ _ _ _ _ (hd1.keep0 hS) (hd2.keep0 hS)) ?_;rintro e' w1 ⟨rfl,hm1⟩;replace hS:=hS.trans0 hm1
 rw[decide_eq_true rfl];refine⟨_,rfl,hK _ _ hS ?_⟩;clear hK K hm1;simp only[qB];refine qE 3 (fun w' hS=>hS.cell id (hA.cell cA.c3)) ?_;simp only[qB]
 refine qE 3 (fun w' hS=>hS.cell id (hB.cell cB.c3)) ?_;simp only[qC]
 refine qV rfl (fun w' hS=>exec_eql_int 3 _ _ _ rfl .i64 _ _ rfl rfl true (decide_eq_true rfl)) ?_;simp only[qB]
 refine qE 9 (fun w' hS=>hS.cell id (hA.cell cA.c4)) ?_;simp only[qB];refine qE 9 (fun w' hS=>hS.cell id (hB.cell cB.c4)) ?_;simp only[qC]
 refine qV rfl (fun w' hS=>jN _ _ _ _ rfl _ _ rfl rfl true (decide_eq_true rfl)) ?_;simp only[qB];refine qE 9 (fun w' hS=>hS.cell id (hA.cell cA.c5)) ?_
 simp only[qB];refine qE 9 (fun w' hS=>hS.cell id (hB.cell cB.c5)) ?_;simp only[qC]
 refine qV rfl (fun w' hS=>jN _ _ _ _ rfl _ _ rfl rfl true (decide_eq_true rfl)) ?_;simp only[qB]
 refine zJ 24 (fun w' hS=>hAi.keep hS id) 32 (by rw[qD,hi1]) ?_;simp only[qB];refine zJ 24 (fun w' hS=>hBi.keep hS id) 32 (by rw[qD,hi2]) ?_
 simp only[qC]
 refine qV rfl (fun w' hS=>rG _ _ _ _ rfl _ _ rfl rfl 32 5 underlying24 underlying5 (by kernel_rfl) (by kernel_rfl) hi1 hi2 true (decide_eq_true rfl)) ?_
 simp only[qB];refine qE 25 (fun w' hS=>hS.cell id (hA.cell cA.c38)) ?_;simp only[qB];refine qE 25 (fun w' hS=>hS.cell id (hB.cell cB.c38)) ?_;simp only[qC]
 refine qH rfl (fun K hK=>?_);refine xE func24 (kG _ _ _ _ _ _ _ _ _ (hr1.keep0 hS) (hr2.keep0 hS)) ?_;rintro e' w1 ⟨rfl,hm1⟩;replace hS:=hS.trans0 hm1
 rw[decide_eq_true rfl];refine⟨_,rfl,hK _ _ hS ?_⟩;clear hK K hm1;simp only[qB];go_wp2;go_ret;exact⟨rfl,Mod.trans hM hS (fun _ _ h=>h)⟩
def SameRelE(n:Nat)(w0:iN)(s i:Value)(w:iN):Prop:=∃k:Nat,k<=n/\i=.int .i64 k/\s=.bool true/\Mod qJ w0 w
theorem sameEvents_eq(o o':Bool)(E G E' G':iM)(va vb:Value)(l:List tX)(w:iN)(ha:Sl o w E 39 (EvR o w G) va l)(hb:Sl o' w E' 39 (EvR o' w G') vb l):
 Calls prog 52 #[va,vb] w (vO (.bool true) w):=by
 obtain⟨aa,ca,rfl,hla,ha⟩:=ha.at;obtain⟨ab,cb,rfl,hlb,hb⟩:=hb.at;have e1:((l.length:Int)==(l.length:Int))=true:=by simp
 have HA:=O ha;have HB:=O hb;clear ha hb;go_enter func52,ntmps52;go_wp2
 go_loopw [5,6] (SameRelE l.length w) (fun _ i _=>l.length-(intOf i).toNat)
 case atStart=>exact⟨0,by omega,rfl,rfl,Mod.refl _ _⟩
 case round=>
  obtain⟨k,hk,rfl,rfl,hm⟩:=hrel
  rename_i wr
  by_cases hlt:k<l.length
  ·obtain⟨ba,oa,rfl,-,-,hca⟩:=HA.out k hlt
   obtain⟨bb,ob,rfl,-,-,hcb⟩:=HB.out k hlt;obtain⟨c1,hcs1,hca0,hca⟩:=hca k hlt;obtain⟨c2,hcs2,hcb0,hcb⟩:=hcb k hlt
   have HS1:=O hcs1;have HS2:=O hcs2;clear hcs1 hcs2;clear HA HB;go_wp2_with fail;have hS:=hm.drew
   refine zZ [3,3,3,0,3,3,3,0,1,3] [] (fun w'=>Mod qJ w w') hS ?_;simp only[qB];refine zC 72 39 hlt ?_;simp only[qC]
   refine zJ 115 (fun w' hS=>hca.keep hS id) 39 HS1.out ?_;simp only[qB];refine zC 72 39 hlt ?_;simp only[qC]
   refine zJ 115 (fun w' hS=>hcb.keep hS id) 39 HS2.out ?_;simp only[qC];refine qH rfl (fun K hK=>?_)
   refine xE func61 (sameEvent_eq _ _ _ _ _ _ _ _ (hca0.keep0 hS) (hcb0.keep0 hS)) ?_;rintro e' w1 ⟨rfl,hm1⟩;replace hS:=hS.trans0 hm1;refine⟨_,rfl,hK _ _ hS ?_⟩
   clear hK K hm1 hm;simp only[qB];go_wp2
   go_roundw
   case rel=>exact⟨k+1,by omega,by go_num,rfl,hS⟩
   case measure=>simp[intOf];omega
  ·go_wp2
   go_ret;exact⟨rfl,hm⟩
end
end Go.Proofs.YtjeonjoifjbohaaGreat
