/- What the statement SweepSweeps needs, part 6. -/
import Derived.Test.YtjeonjoifjbohaaGreatSweepSweepsP5
set_option linter.unusedVariables false
set_option linter.unusedSimpArgs false
set_option linter.unnecessarySimpa false
set_option linter.unusedSectionVars false
set_option maxRecDepth 10000
set_option maxHeartbeats 8000000
namespace Go.Proofs.YtjeonjoifjbohaaGreat
section
open Go.RowKit Go.Shelf Go.Proofs.Tryz Go.Lib
instance:Inhabited DescL:=⟨descZ⟩
def ReachR(w:World)(mb:Nat)(all:Marks):Ending->World->Prop:=fun e w'=>e=.returned (.tuple #[])/\MarksAt w' mb all/\Mod (fun k=>k=mb) w w'
def foldM(c:BlobM)(f depth:Nat)(ds:List DescL)(all:Marks):Marks:=ds.foldl (fun all d=>if jL d then yI c f d.id (depth+1) all else leafM all d.id) all
theorem foldM_succ(c:BlobM)(f depth:Nat)(ds:List DescL)(all:Marks)(k:Nat)(hk:k<ds.length):foldM c f depth (ds.take (k+1)) all=if jL ds[k]then yI c f ds[k].id (depth+1) (foldM c f depth (ds.take k) all)else leafM (foldM c f depth (ds.take k) all) ds[k].id:=by
 unfold foldM;rw[List.take_succ_eq_append_getElem hk,List.foldl_append]
 rfl
def ReachRel(w0:World)(mb:Nat)(c:BlobM)(f depth:Nat)(ds:List DescL)(all:Marks)(i:Value)(w:World):Prop:=∃k:Nat,k<=ds.length/\i=.int .i64 k/\MarksAt w mb (foldM c f depth (ds.take k) all)/\Mod (fun q=>q=mb) w0 w
theorem descRow_at1{m:Nat}{x:List UInt8}{n:Nat}{p:List UInt8}:∀j,j<(qA x).size->(yD m x n p)[1+j]?=(qA x)[j]?:=by
 intro j hj;rw[qB]at hj;rw[<-Array.getElem?_toList,<-Array.getElem?_toList,Nat.add_comm];simp only[yD,List.getElem?_cons_succ,qA]
 rw[List.getElem?_append_left (by simpa using hj)]
theorem wasM_eq(all:Marks)(id:List UInt8)(depth:Nat):wasM all id depth=((getL id all).isSome&&(decide (0<(getL id all).getD 0)&&decide ((getL id all).getD 0<=depth))):=by
 unfold wasM
 cases getL id all<;>simp
theorem mark_look(id:List UInt8)(all:Marks):(if true=true then Value.tuple #[(getL id (marksV all)).getD (linkV 0),.bool (getL id (marksV all)).isSome]else(getL id (marksV all)).getD (linkV 0))=.tuple #[linkV ((((getL id all).getD 0:Nat)):Int),.bool (getL id all).isSome]:=by
 rw[if_pos rfl,marks_get]
 cases getL id all<;>rfl
theorem linkV_one(n:Int):∀c∈(#[.int .i64 n]:Array Value),c.oneCell'=true:=by simp[Value.oneCell']
section
variable{bs ms wd:Nat}{room:Int}{bl:List Blb}{mb:Nat}
theorem StInv.keepM{w w':World}(h:StInv w bs ms wd room bl)(hmb:¬SFoot bs ms bl mb)(hm:Mod (fun k=>k=mb) w w'):StInv w' bs ms wd room bl:=h.keep hm (fun k hk e=>hmb (by have e':k=mb:=e;rw[<-e'];exact hk))
theorem clReach_any(hmb:¬SFoot bs ms bl mb):∀(f:Nat)(id:List UInt8)(depth:Nat)(all:Marks)(w:World),id.length=32->0<depth->depth+f=6->0<f->StInv w bs ms wd room bl->MarksAt w mb all->
 Calls prog 87 #[.pointer (some ⟨bs,0,none⟩),.agg (qA id),.int .i64 depth,.map (some mb)] w (ReachR w mb (yI (cont bl) f id depth all))
 |0,_,_,_,_,_,_,_,h,_,_=>by omega
 |f+1,di,depth,all,w,hid,hd0,hdf,_,hst,hM=>by
  have ih:=clReach_any hmb f;have IH:=Lib.hid ih;have hic:(qA di).size=32:=by rw[qB,hid]
  have H:=Lib.hid hst;have HM:=Lib.hid hM;have hmbl:mb<w.heap.size:=hM.lt;have HW:=Lib.hid (wasM_eq all di depth);have HLK:=Lib.hid (mark_look di all)
  obtain⟨kk,hkk⟩:∃q,(getL di all).getD 0=q:=⟨_,rfl⟩;obtain⟨is,his⟩:∃q,(getL di all).isSome=q:=⟨_,rfl⟩;rw[hkk,his]at HW HLK
  have hwas:∃q,wasM all di depth=q:=⟨_,rfl⟩;obtain⟨was,hwas⟩:=hwas;rw[hwas]at HW;have HWAS:=Lib.hid hwas;have hdz:depth<=5:=by omega
  clear hst hM hkk his hwas ih;go_enter func87,ntmps87;go_upto_region 0 with(fail);refine wpR [1] ?_;simp only[stz]
  refine wpD (zL 24 _ _ (by rfl) (by rfl) (fun w1 hB1 hm1 hs1=>?_));replace hB1:w1.heap[w.heap.size]?=some (.cells (qA di) 24 (0,0)):=hB1;simp only[stz]
  have HM1:=Lib.hid (HM.out.keep0 hm1);have hm1s:w.heap.size<w1.heap.size:=hs1;generalize hb5:w.heap.size=b5 at*;go_upto_region 1 with(fail)
  refine wpR [3,1,1,3,3,3,1,1,3] ?_;simp only[stz];refine wpXA 24 b5 0 (qA di) (CellsAt.whole hB1) underlying24 32 hic trivial ?_;try simp only[nmz]
  refine wpX rfl (yP keyT_id HM1.out di hid 144 152 underlying144 (linkV 0) cmarkZ _ _ true (by rfl) (by rfl) (by rfl) _ HLK.out) trivial ?_;simp only[stz]
  refine qC (v:=?_) rfl (fun w'=>?_) ?_;rotate_left;·(go_simp;try with_reducible rfl)
  simp only[nmz];refine qC (v:=?_) rfl (fun w'=>?_) ?_;rotate_left;·(go_simp;try with_reducible rfl)
  simp only[nmz];refine wpD (qN 152 _ (by rfl) cmarkZ (fun w2 hB2 hm2 hs2=>?_));replace hB2:w2.heap[w1.heap.size]?=some (.cells #[.int .i64 0] 152 (0,0)):=hB2
  try simp only[nmz]
  refine wpD (qF 152 _ _ w1.heap.size 0 #[.int .i64 kk] (by rfl) (by rfl) (by rfl) (linkV_one _) 1 (by kernel_rfl) rfl _ _ hB2 (by simp) (fun w3 hB3 hm3=>?_))
  rw[qD (by rfl)]at hB3;simp only[stz];have hm13:Mod NoB w1 w3:=hm2.transB hm3 (Nat.le_refl _);have HB1:=Lib.hid (hm13.obj id hB1)
  have hck:w3.cell? ⟨w1.heap.size,0,none⟩=some (.int .i64 kk):=by simp[World.cell?,hB3]
  have HM03:=Lib.hid (hm1.trans0 hm13);replace HM1:=Lib.hid (HM1.out.keep0 hm13);generalize hb8:w1.heap.size=b8 at*;clear hm1 hm13 hm2 hm3 hB1 hB2 hB3 hs1 hs2
  go_upto_region 2 with(fail)
  go_cut [35] (fun s wx=>s=.bool was/\wx=w3)
  case first=>
   have hw:=HW.out
   cases is with
   |false=>
    obtain rfl:was=false:=by simpa using hw
    clear hw;refine wpR [3,3,3,0,3,3,3,3,0,3,3,3] ?_;simp only[stz];go_wp2
    go_meet
    case rel=>exact⟨rfl,rfl⟩
   |true=>
    by_cases hk0:0<kk
    ·have hz:(kk:Int)>0:=by omega
     by_cases hkd:kk<=depth
     ·have hz2:(kk:Int)<=(depth:Int):=by omega
      obtain rfl:was=true:=by simpa[hk0,hkd]using hw
      clear hw;refine wpR [3,3,3,1,3,3,3,3,1,3,3,3] ?_;simp only[stz];refine wpXd (v:=(.int .i64 kk)) 3 b8 0 hck underlying3 trivial ?_;try simp only[nmz]
      refine qK _ _ _ _ _ _ _ _ rfl rfl rfl rfl rfl true (decide_eq_true hz) ?_;simp only[stz];refine wpXd (v:=(.int .i64 kk)) 3 b8 0 hck underlying3 trivial ?_
      simp only[stz];refine qK _ _ _ _ _ _ _ _ rfl rfl rfl rfl rfl true (decide_eq_true hz2) ?_;simp only[stz];go_wp2
      go_meet
      case rel=>exact⟨rfl,rfl⟩
     ·have hz2:¬(kk:Int)<=(depth:Int):=by omega
      obtain rfl:was=false:=by simpa[hk0,hkd]using hw
      clear hw;refine wpR [3,3,3,1,3,3,3,3,1,3,3,3] ?_;simp only[stz];refine wpXd (v:=(.int .i64 kk)) 3 b8 0 hck underlying3 trivial ?_;try simp only[nmz]
      refine qK _ _ _ _ _ _ _ _ rfl rfl rfl rfl rfl true (decide_eq_true hz) ?_;simp only[stz];refine wpXd (v:=(.int .i64 kk)) 3 b8 0 hck underlying3 trivial ?_
      simp only[stz];refine qK _ _ _ _ _ _ _ _ rfl rfl rfl rfl rfl false (decide_eq_false hz2) ?_;simp only[stz];go_wp2
      go_meet
      case rel=>exact⟨rfl,rfl⟩
    ·have hz:¬(kk:Int)>0:=by omega
     obtain rfl:was=false:=by simpa[hk0]using hw
     clear hw;refine wpR [3,3,3,1,3,3,3,3,0,3,3,3] ?_;simp only[stz];refine wpXd (v:=(.int .i64 kk)) 3 b8 0 hck underlying3 trivial ?_;try simp only[nmz]
     refine qK _ _ _ _ _ _ _ _ rfl rfl rfl rfl rfl false (decide_eq_false hz) ?_;simp only[stz];go_wp2
     go_meet
     case rel=>exact⟨rfl,rfl⟩
  case rest=>
   obtain⟨rfl,hw⟩:=hcut;obtain rfl:=hw.symm;clear HW hck HLK
   cases was with
   |true=>
    have HF:Hid (ReachR w mb (yI (cont bl) (f+1) di depth all) (.returned (.tuple #[])) w3):=Lib.hid ⟨rfl,by unfold yI;rw[if_pos HWAS.out];exact HM1.out,HM03.out.mono (fun _ _ h=>h.elim)⟩
    go_wp2
    go_end0
    exact HF.out
   |false=>
    have HRE:Hid (yI (cont bl) (f+1) di depth all=if 4<depth then putL di depth all else match descsOf (cont bl) di with|none=>putL di depth all|some ds=>foldM (cont bl) f depth ds (putL di depth all)):=Lib.hid (by
     unfold yI;rw[if_neg (by rw[HWAS.out];simp)]
     rfl)
    have hb1c:=HB1.out;go_upto_region 3 with(fail);refine wpR [3,1,3,0,1] ?_;simp only[stz]
    refine wpXA 24 b5 0 (qA di) (CellsAt.whole hb1c) underlying24 32 hic trivial ?_;simp only[stz]
    refine qG rfl (fun w' hS=>qO 152 [(0,_)] [(0,.int .i64 depth)] _ (by rfl) (by rfl) (built_cmark depth)) ?_;simp only[nmz]
    refine wpD (wp_putL keyT_id HM1.out di hid 144 152 underlying144 _ _ _ (linkV depth) (by rfl) (by rfl) (by rfl) (by rfl) (fun w4 hM4 hm4=>?_));rw[marks_put]at hM4
    have HM4:=Lib.hid hM4;simp only[stz];have hm04:Mod (fun k=>k=mb) w w4:=(HM03.out.mono (fun _ _ h=>h.elim)).trans hm4 (fun _ _ h=>h)
    have H4:=Lib.hid (H.out.keepM hmb hm04);have hb14:=hm4.objB (b:=b5) (by omega) hb1c;have HM04:=Lib.hid hm04;obtain⟨all1,hall1⟩:∃q,putL di depth all=q:=⟨_,rfl⟩
    rw[hall1]at HM4 HRE;have hget:=bGet_any H4.out di hid;clear hM4 hm4 hm04 hb1c hall1;obtain⟨r,hr⟩:∃q,getL di (cont bl)=q:=⟨_,rfl⟩;rw[hr]at hget
    have HGR:=Lib.hid hr;clear hr
    cases r with
    |none=>
     have HF0:Hid (yI (cont bl) (f+1) di depth all=all1):=Lib.hid (by
      rw[HRE.out];have:descsOf (cont bl) di=none:=by unfold descsOf;rw[HGR.out]
      rw[this]
      split<;>rfl)
     go_upto_region 4 with(fail);refine wpR [3,1,1,3,3,3,3,3] ?_;simp only[stz];refine wpXA 24 b5 0 (qA di) (CellsAt.whole hb14) underlying24 32 hic trivial ?_
     try simp only[nmz]
     refine wpD (wpC func33 (hget) ?_);rintro e w5 ⟨hm5,rfl⟩;refine⟨_,rfl,?_⟩;simp only[stz]
     refine qC (v:=?_) rfl (fun w'=>?_) ?_;rotate_left;·(go_simp;try with_reducible rfl)
     simp only[nmz];refine qC (v:=?_) rfl (fun w'=>?_) ?_;rotate_left;·(go_simp;try with_reducible rfl)
     simp only[stz];go_upto_region 5 with(fail);refine wpR [3,1,3,3,3,1,1,1,1] ?_;simp only[stz]
     refine wpD (wpC func158 (mDecode_any (b:=[]) (Sl.nil true w5 (fun _=>True) 1 ByteC) (by simp)) ?_);rintro e w6 ⟨hm6,cs,er,at_,rfl,her,hmc⟩;have hcs:=hmc.size
     have hone:=hmc.one;refine⟨_,rfl,?_⟩;simp only[stz];refine qC (v:=?_) rfl (fun w'=>?_) ?_;rotate_left;·(go_simp;try with_reducible rfl)
     simp only[nmz];refine qC (v:=?_) rfl (fun w'=>?_) ?_;rotate_left;·(go_simp;try with_reducible rfl)
     simp only[nmz];refine wpD (qN 163 _ (by rfl) manZ_i (fun w7 hB7 hm7 hs7=>?_))
     replace hB7:w7.heap[w6.heap.size]?=some (.cells (qX 0 [] descZ (.slice none 0 0) (.slice none 0 0)) 163 (0,0)):=hB7;try simp only[nmz]
     refine wpD (qN 255 _ (by rfl) fltZ (fun w8 hB8 hm8 hs8=>?_));replace hB8:w8.heap[w7.heap.size]?=some (.cells #[.int .i64 0,.int .i64 0] 255 (0,0)):=hB8
     try simp only[nmz]
     refine wpDo rfl ?_
     refine qF 163 _ _ w6.heap.size 0 cs (by rfl) (by rfl) (by rfl) hone 39 (by kernel_rfl) hcs _ _ (hm8.obj id hB7) (by rw[hcs];exact Nat.le_of_eq (zH xP).symm) (fun w9 hB9 hm9=>?_)
     have hB8':=hm9.objB (by omega) hB8;try simp only[nmz]
     refine wpD (qF 255 _ _ w7.heap.size 0 #[.int .i64 er,.int .i64 at_] (by rfl) (by rfl) (by rfl) (by simp[Value.oneCell']) 2 (by kernel_rfl) rfl _ _ hB8' (by simp) (fun wa hBa hma=>?_))
     simp only[stz]
     have hm4a:Mod NoB w4 wa:=((((hm5.trans0 hm6).trans0 hm7).trans0 hm8).transB hm9 (by have:=hm5.size;have:=hm6.size;omega)).transB hma (by have:=hm5.size;have:=hm6.size;have:=hm7.size;omega)
     have HF:Hid (ReachR w mb (yI (cont bl) (f+1) di depth all) (.returned (.tuple #[])) wa):=Lib.hid ⟨rfl,by rw[HF0.out];exact HM4.out.keep0 hm4a,HM04.out.trans hm4a (fun _ _ h=>h.elim)⟩
     clear hm5 hm6 hm7 hm8 hm9 hma hm4a hB7 hB8 hB8' hB9 hBa hmc hb14;go_upto_region 6 with(fail);refine wpR [3,3,3,3,0,3,3,3,3,3,3] ?_;simp only[stz]
     try refine zM _ _ false (by rfl) (by rfl) (by rfl) ?_
     try simp only[stz]
     go_wp2
     go_end0
     exact HF.out
    |some m=>
     have hml:m.length<=4096:=by
      have h1:=HGR.out;rw[getB]at h1
      cases hf:findB di bl with
      |none=>rw[hf]at h1;cases h1
      |some b=>
       rw[hf]at h1;simp only[Option.map_some,Option.some.injEq]at h1;rw[<-h1];exact H.out.sz b (findB_some hf).1
     have HDO:Hid (descsOf (cont bl) di=(decL m).map jR):=Lib.hid (by unfold descsOf;rw[HGR.out]);go_upto_region 4 with(fail);refine wpR [3,1,1,3,3,3,3,3] ?_
     simp only[stz];refine wpXA 24 b5 0 (qA di) (CellsAt.whole hb14) underlying24 32 hic trivial ?_;try simp only[nmz]
     refine wpD (wpC func33 (hget) ?_);rintro e w5 ⟨hm5,bv,rfl,hbv⟩;refine⟨_,rfl,?_⟩;simp only[stz]
     refine qC (v:=?_) rfl (fun w'=>?_) ?_;rotate_left;·(go_simp;try with_reducible rfl)
     simp only[nmz];refine qC (v:=?_) rfl (fun w'=>?_) ?_;rotate_left;·(go_simp;try with_reducible rfl)
     simp only[stz];go_upto_region 5 with(fail);refine wpR [3,1,3,3,3,1,1,1,1] ?_;simp only[stz];refine wpD (wpC func158 (mDecode_any (Bts.sl hbv) hml) ?_)
     rintro e w6 ⟨hm6,cs,er,at_,rfl,her,hmc⟩;have hcs:=hmc.size;have hone:=hmc.one;refine⟨_,rfl,?_⟩;simp only[stz]
     refine qC (v:=?_) rfl (fun w'=>?_) ?_;rotate_left;·(go_simp;try with_reducible rfl)
     simp only[nmz];refine qC (v:=?_) rfl (fun w'=>?_) ?_;rotate_left;·(go_simp;try with_reducible rfl)
     simp only[nmz];refine wpD (qN 163 _ (by rfl) manZ_i (fun w7 hB7 hm7 hs7=>?_))
     replace hB7:w7.heap[w6.heap.size]?=some (.cells (qX 0 [] descZ (.slice none 0 0) (.slice none 0 0)) 163 (0,0)):=hB7;try simp only[nmz]
     refine wpD (qN 255 _ (by rfl) fltZ (fun w8 hB8 hm8 hs8=>?_));replace hB8:w8.heap[w7.heap.size]?=some (.cells #[.int .i64 0,.int .i64 0] 255 (0,0)):=hB8
     try simp only[nmz]
     refine wpDo rfl ?_
     refine qF 163 _ _ w6.heap.size 0 cs (by rfl) (by rfl) (by rfl) hone 39 (by kernel_rfl) hcs _ _ (hm8.obj id hB7) (by rw[hcs];exact Nat.le_of_eq (zH xP).symm) (fun w9 hB9 hm9=>?_)
     rw[qD (by rw[hcs];exact(zH xP).symm)]at hB9;have hB8':=hm9.objB (by omega) hB8;try simp only[nmz]
     refine wpD (qF 255 _ _ w7.heap.size 0 #[.int .i64 er,.int .i64 at_] (by rfl) (by rfl) (by rfl) (by simp[Value.oneCell']) 2 (by kernel_rfl) rfl _ _ hB8' (by simp) (fun wa hBa hma=>?_))
     rw[qD (by rfl)]at hBa;have hB9':=hma.objB (by omega) hB9;simp only[stz];have h56:=hm5.size;have h66:=hm6.size;have h67:=hm7.size
     have hm6a:Mod NoB w6 wa:=((hm7.trans0 hm8).transB hm9 (Nat.le_refl _)).transB hma (by omega);have hm4a:Mod NoB w4 wa:=(hm5.trans0 hm6).trans0 hm6a
     have HMC:=Lib.hid (hmc.keep0 hm6a);have hce:wa.cell? ⟨w7.heap.size,0,none⟩=some (.int .i64 er):=by simp[World.cell?,hBa]
     have HER:=Lib.hid her;have HMa:=Lib.hid (HM4.out.keep0 hm4a);have H4a:=Lib.hid (H4.out.keep0 hm4a)
     have HM0a:Hid (Mod (fun k=>k=mb) w wa):=Lib.hid (HM04.out.trans hm4a (fun _ _ h=>h.elim));generalize hb13:w7.heap.size=b13 at*
     generalize hb12:w6.heap.size=b12 at*;clear hm5 hm6 hm7 hm8 hm9 hma hm4a hm6a hB7 hB8 hB8' hB9 hBa hmc hb14 her hbv
     by_cases hez:er=0
     rotate_left
     ·have hF0:yI (cont bl) (f+1) di depth all=all1:=by
       rw[HRE.out,HDO.out]
       have:decL m=none:=by
        cases hd:decL m with
        |none=>rfl
        |some q=>exact absurd (HER.out.2 (by rw[hd];rfl)) hez
       rw[this]
       simp
      have HF:Hid (ReachR w mb (yI (cont bl) (f+1) di depth all) (.returned (.tuple #[])) wa):=Lib.hid ⟨rfl,by rw[hF0];exact HMa.out,HM0a.out⟩;clear hF0
      go_upto_region 6 with(fail);refine wpR [3,3,3,3,1,3,3,3,3,3,3] ?_;simp only[stz]
      try refine zM _ _ true (by rfl) (by rfl) (by rfl) ?_
      try simp only[stz]
      refine wpXd (v:=(.int .i64 er)) 33 b13 0 hce underlying33 trivial ?_;try simp only[nmz]
      refine qK _ _ _ _ _ _ _ _ rfl rfl rfl rfl rfl true (decide_eq_true hez) ?_;simp only[stz];go_wp2
      go_end0
      exact HF.out
     ·subst hez
      obtain⟨M,hM⟩:∃M,decL m=some M:=Option.isSome_iff_exists.1 (HER.out.1 rfl);have hmc:=HMC.out;rw[hM]at hmc;replace hmc:ManC w5.heap.size wa cs M:=hmc
      by_cases hd4:4<depth
      ·have hz4:(depth:Int)>4:=by omega
       have HF:Hid (ReachR w mb (yI (cont bl) (f+1) di depth all) (.returned (.tuple #[])) wa):=Lib.hid ⟨rfl,by rw[HRE.out,if_pos hd4];exact HMa.out,HM0a.out⟩
       clear hmc;go_upto_region 6 with(fail);refine wpR [3,3,3,3,1,3,3,3,3,3,3] ?_;simp only[stz]
       try refine zM _ _ true (by rfl) (by rfl) (by rfl) ?_
       try simp only[stz]
       refine wpXd (v:=(.int .i64 0)) 33 b13 0 hce underlying33 trivial ?_;try simp only[nmz]
       refine qK _ _ _ _ _ _ _ _ rfl rfl rfl rfl rfl false (by decide) ?_;simp only[stz];refine qK _ _ _ _ _ _ _ _ rfl rfl rfl rfl rfl true (decide_eq_true hz4) ?_
       simp only[stz];go_wp2
       go_end0
       exact HF.out
      ·have hz4:¬(depth:Int)>4:=by omega
       have hlens:=decL_len hM;have hids:=decL_ids hM
       have hR0:yI (cont bl) (f+1) di depth all=foldM (cont bl) f depth (jR M) all1:=by
        rw[HRE.out,if_neg hd4,HDO.out,hM]
        rfl
       have HR0:=Lib.hid hR0;have hdc:=mDescs_any hmc ⟨hlens.1,hlens.2.1⟩
       have hdl:(jR M).length<=33:=by
        unfold jR;simp only[List.length_append]
        split<;>simp<;>omega
       have HIDS:=Lib.hid hids;obtain⟨ds,hds⟩:∃ds,jR M=ds:=⟨_,rfl⟩;rw[hds]at hdc HR0 HIDS hdl;clear hR0 hlens hids hmc HMC hM hds HRE HDO HER
       go_upto_region 6 with(fail);refine wpR [3,3,3,3,1,3,3,3,3,3,3] ?_;simp only[stz]
       try refine zM _ _ true (by rfl) (by rfl) (by rfl) ?_
       try simp only[stz]
       refine wpXd (v:=(.int .i64 0)) 33 b13 0 hce underlying33 trivial ?_;try simp only[nmz]
       refine qK _ _ _ _ _ _ _ _ rfl rfl rfl rfl rfl false (by decide) ?_;simp only[stz];refine qK _ _ _ _ _ _ _ _ rfl rfl rfl rfl rfl false (decide_eq_false hz4) ?_
       simp only[stz];clear hce;go_upto_region 7 with(fail);refine wpR [1,1,3,3] ?_;simp only[stz]
       refine wpXA 163 b12 0 cs (CellsAt.whole hB9') underlying163 39 hcs trivial ?_;try simp only[nmz]
       refine wpD (wpC func159 hdc ?_);rintro e wb ⟨hmb',dv,rfl,hgd⟩;have HGD:=Lib.hid hgd;obtain⟨dad,dcap,rfl⟩:=hgd.slice;clear hgd;refine⟨_,rfl,?_⟩
       try simp only[nmz]
       refine wpPL ?_;simp only[stz]
       have HRL:Hid (ReachRel wb mb (cont bl) f depth ds all1 (.int .i64 (0:Nat)) wb):=Lib.hid ⟨0,Nat.zero_le _,rfl,HMa.out.keep0 hmb',Mod.refl _ _⟩
       have H4b:=Lib.hid (H4a.out.keep0 hmb');have HM0b:Hid (Mod (fun k=>k=mb) w wb):=Lib.hid (HM0a.out.trans hmb' (fun _ _ h=>h.elim))
       have hmbb:mb<wa.heap.size:=HMa.out.lt;have hwab:wa.heap.size<=wb.heap.size:=hmb'.size
       have hgl:∀q,(Value.slice dad ds.length dcap).ownBlock=some q->q≠mb:=fun q hq=>by
        have:=(HGD.out.lt hq).1;omega
       clear hmb' hB9' hdc;go_wp2
       go_loopw [65] (ReachRel wb mb (cont bl) f depth ds all1) (fun i _=>ds.length-(intOf i).toNat)
       case atStart=>exact HRL.out
       case round=>
        rename World=>wr
        obtain⟨k,hk,rfl,hMr,hmr⟩:=hrel;have HMR:=Lib.hid hMr;have HmR:=Lib.hid hmr;have hmbr:mb<wr.heap.size:=hMr.lt
        by_cases hlt:k<ds.length
        ·have hzk:(k:Int)<(ds.length:Nat):=by omega
         have hgr:GatD wa.heap.size wr (.slice dad ds.length dcap) ds:=HGD.out.keep hmr (fun q hq e=>hgl q hq e)
         obtain⟨g,cap',cur,hq,hgc,hcc,hsz,-,-⟩:=hgr.at descE_len k hlt
         cases hq
         have hfs:=foldM_succ (cont bl) f depth ds all1 k hlt;have hdid:=HIDS.out ds[k] (List.getElem_mem _);generalize ds[k]=d at*;rw[descE_eq hdid]at hcc
         have hdsz:(qZ d).size=35:=zZ hdid;have hdic:(qA d.id).size=32:=by rw[qB,hdid]
         have hdone:∀c∈qZ d,c.oneCell'=true:=descRow_one _ _ _ _;have HFS:=Lib.hid hfs;clear hfs hMr hmr hgr;go_upto_region 9 with(fail)
         refine wpR [3,1,1,1] ?_;simp only[stz];refine wpPI underlying161 35 hlt ?_;simp only[nmz]
         refine wpXA 46 g (k*35) (qZ d) hcc underlying46 35 hdsz trivial ?_;try simp only[nmz]
         refine wpD (qN 46 _ (by rfl) descZ_i (fun wc hBc hmc hsc=>?_));replace hBc:wc.heap[wr.heap.size]?=some (.cells (qZ descZ) 46 (0,0)):=hBc
         try simp only[nmz]
         refine wpDo rfl ?_
         refine qF 46 _ _ wr.heap.size 0 (qZ d) (by rfl) (by rfl) (by rfl) hdone 35 (by kernel_rfl) hdsz _ _ hBc (by rw[hdsz];exact Nat.le_of_eq (zZ xP).symm) (fun wd' hBd hmd=>?_)
         rw[qD (by rw[hdsz];exact(zZ xP).symm)]at hBd;simp only[stz];have hmrd:Mod NoB wr wd':=hmc.transB hmd (Nat.le_refl _)
         have hcm:wd'.cell? ⟨wr.heap.size,0,none⟩=some (.int .i64 d.media):=by rw[cell_of_row _ _ _ _ _ _ hBd];rfl
         have hci:CellsAt wd' wr.heap.size 1 (qA d.id):=CellsAt.of_obj hBd descRow_at1;replace HMR:=Lib.hid (HMR.out.keep0 hmrd)
         replace HmR:Hid (Mod (fun q=>q=mb) wb wd'):=Lib.hid (HmR.out.trans hmrd (fun _ _ h=>h.elim));have Hd:=Lib.hid (H4b.out.keepM hmb HmR.out)
         have hmbd:mb<wd'.heap.size:=HMR.out.lt;generalize hb15:wr.heap.size=b15 at*;clear hmc hmd hmrd hBc hBd hcc hgc hsz;go_upto_region 10 with(fail)
         go_cut [76] (fun s wx=>s=.bool (jL d)/\wx=wd')
         case first=>
          by_cases h3:d.media=3
          ·have hz3:(d.media:Int)=3:=by omega
           have ht:jL d=true:=by simp[jL,h3]
           refine wpR [3,1,3,3,3,0,3,3] ?_;simp only[stz];refine wpXd (v:=(.int .i64 d.media)) 3 b15 0 hcm underlying3 trivial ?_;try simp only[nmz]
           refine qK _ _ _ _ _ _ _ _ rfl rfl rfl rfl rfl true (decide_eq_true hz3) ?_;simp only[stz];go_wp2
           go_meet
           case rel=>exact⟨by rw[ht],rfl⟩
          ·have hz3:¬(d.media:Int)=3:=by omega
           by_cases h4:d.media=4
           ·have hz4':(d.media:Int)=4:=by omega
            have ht:jL d=true:=by simp[jL,h4]
            refine wpR [3,1,3,3,3,1,3,3] ?_;simp only[stz];refine wpXd (v:=(.int .i64 d.media)) 3 b15 0 hcm underlying3 trivial ?_;try simp only[nmz]
            refine qK _ _ _ _ _ _ _ _ rfl rfl rfl rfl rfl false (decide_eq_false hz3) ?_;simp only[stz]
            refine wpXd (v:=(.int .i64 d.media)) 3 b15 0 hcm underlying3 trivial ?_;try simp only[nmz]
            refine qK _ _ _ _ _ _ _ _ rfl rfl rfl rfl rfl true (decide_eq_true hz4') ?_;simp only[stz];go_wp2
            go_meet
            case rel=>exact⟨by rw[ht],rfl⟩
           ·have hz4':¬(d.media:Int)=4:=by omega
            have ht:jL d=false:=by simp[jL,h3,h4]
            refine wpR [3,1,3,3,3,1,3,3] ?_;simp only[stz];refine wpXd (v:=(.int .i64 d.media)) 3 b15 0 hcm underlying3 trivial ?_;try simp only[nmz]
            refine qK _ _ _ _ _ _ _ _ rfl rfl rfl rfl rfl false (decide_eq_false hz3) ?_;simp only[stz]
            refine wpXd (v:=(.int .i64 d.media)) 3 b15 0 hcm underlying3 trivial ?_;try simp only[nmz]
            refine qK _ _ _ _ _ _ _ _ rfl rfl rfl rfl rfl false (decide_eq_false hz4') ?_;simp only[stz];go_wp2
            go_meet
            case rel=>exact⟨by rw[ht],rfl⟩
         case rest=>
          obtain⟨rfl,hw⟩:=hcut;obtain rfl:=hw.symm;clear hcm;obtain⟨tr,htr⟩:∃q,jL d=q:=⟨_,rfl⟩;rw[htr]at HFS |-;clear htr
          cases tr with
          |true=>
           have hrec:=IH.out d.id (depth+1) _ _ hdid (by omega) (by omega) (by omega) Hd.out HMR.out;go_upto_region 11 with(fail);refine wpR [3,3,1,3,3,3,1] ?_
           simp only[stz];refine wpXA 24 b15 1 (qA d.id) hci underlying24 32 hdic trivial ?_;simp only[stz]
           refine zF _ _ _ _ (depth:Int) 1 ((depth+1:Nat):Int) rfl rfl rfl rfl (by omega) (by omega) (by omega) ?_;simp only[stz]
           refine wpD (wpC func87 (hrec) ?_);rintro e we ⟨rfl,hMe,hme⟩
           have HR:Hid (ReachRel wb mb (cont bl) f depth ds all1 (.int .i64 ((k+1:Nat):Int)) we):=Lib.hid ⟨k+1,by omega,rfl,by rw[HFS.out];exact hMe,HmR.out.trans hme (fun _ _ h=>h)⟩
           refine⟨_,rfl,?_⟩;simp only[stz];clear hMe hme hci hrec;go_wp2
           go_roundw
           case rel=>exact HR.out
           case measure=>simp[intOf];omega
          |false=>
           have HLK:=Lib.hid (mark_look d.id (foldM (cont bl) f depth (ds.take k) all1))
           obtain⟨kk2,hkk2⟩:∃q,(getL d.id (foldM (cont bl) f depth (ds.take k) all1)).getD 0=q:=⟨_,rfl⟩
           obtain⟨is2,his2⟩:∃q,(getL d.id (foldM (cont bl) f depth (ds.take k) all1)).isSome=q:=⟨_,rfl⟩;rw[hkk2,his2]at HLK;have HIS2:=Lib.hid his2
           clear hkk2 his2;go_upto_region 12 with(fail);refine wpR [3,3,1,1,3,3,3,1,1,3] ?_;simp only[stz]
           refine wpXA 24 b15 1 (qA d.id) hci underlying24 32 hdic trivial ?_;try simp only[nmz]
           refine wpX rfl (yP keyT_id HMR.out d.id hdid 144 152 underlying144 (linkV 0) cmarkZ _ _ true (by rfl) (by rfl) (by rfl) _ HLK.out) trivial ?_;simp only[stz]
           refine qC (v:=?_) rfl (fun w'=>?_) ?_;rotate_left;·(go_simp;try with_reducible rfl)
           simp only[nmz];refine qC (v:=?_) rfl (fun w'=>?_) ?_;rotate_left;·(go_simp;try with_reducible rfl)
           simp only[nmz];refine wpD (qN 152 _ (by rfl) cmarkZ (fun we hBe hme hse=>?_))
           replace hBe:we.heap[wd'.heap.size]?=some (.cells #[.int .i64 0] 152 (0,0)):=hBe;try simp only[nmz]
           refine wpD (qF 152 _ _ wd'.heap.size 0 #[.int .i64 kk2] (by rfl) (by rfl) (by rfl) (linkV_one _) 1 (by kernel_rfl) rfl _ _ hBe (by simp) (fun wf hBf hmf=>?_))
           simp only[stz];have hmdf:Mod NoB wd' wf:=hme.transB hmf (Nat.le_refl _);have hcf:=hci.keep hmdf id;have HMf:=Lib.hid (HMR.out.keep0 hmdf)
           have HmF:Hid (Mod (fun q=>q=mb) wb wf):=Lib.hid (HmR.out.trans hmdf (fun _ _ h=>h.elim));clear hme hmf hmdf hBe hBf hse hci
           cases is2 with
           |true=>
            have HR:Hid (ReachRel wb mb (cont bl) f depth ds all1 (.int .i64 ((k+1:Nat):Int)) wf):=Lib.hid ⟨k+1,by omega,rfl,by rw[HFS.out];simp only[Bool.false_eq_true,if_false];unfold leafM;rw[if_pos HIS2.out];exact HMf.out,HmF.out⟩
            clear hcf;go_wp2
            go_roundw
            case rel=>exact HR.out
            case measure=>simp[intOf];omega
           |false=>
            go_upto_region 14 with(fail);refine wpR [3,3,1,0,1] ?_;simp only[stz];refine wpXA 24 b15 1 (qA d.id) hcf underlying24 32 hdic trivial ?_
            try simp only[nmz]
            refine qG rfl (fun w' hS=>qO 152 [] [] _ (by rfl) (by rfl) built_cmark0) ?_;simp only[nmz];refine qL rfl (fun K hK=>?_)
            refine wp_putL keyT_id HMf.out d.id hdid 144 152 underlying144 _ _ _ (linkV ((0:Nat):Int)) (by rfl) (by rfl) (by rfl) (by rfl) (fun wg hMg hmg=>?_)
            rw[marks_put]at hMg
            have HR:Hid (ReachRel wb mb (cont bl) f depth ds all1 (.int .i64 ((k+1:Nat):Int)) wg):=Lib.hid ⟨k+1,by omega,rfl,by rw[HFS.out];simp only[Bool.false_eq_true,if_false];unfold leafM;rw[if_neg (by rw[HIS2.out];simp)];exact hMg,HmF.out.trans hmg (fun _ _ h=>h)⟩
            refine hK _ _ trivial ?_;clear hMg hmg;clear hK K;simp only[stz];clear hcf;go_wp2
            go_roundw
            case rel=>exact HR.out
            case measure=>simp[intOf];omega
        ·have hzk:¬(k:Int)<(ds.length:Nat):=by omega
         obtain rfl:k=ds.length:=by omega
         have HF:Hid (ReachR w mb (yI (cont bl) (f+1) di depth all) (.returned (.tuple #[])) wr):=Lib.hid ⟨rfl,by
          rw[HR0.out];have h1:=HMR.out;rw[List.take_length]at h1
          exact h1,HM0b.out.trans HmR.out (fun _ _ h=>h)⟩
         clear hMr hmr;go_wp2
         go_end0
         exact HF.out
end
def allDescs(c:BlobM):List (List UInt8):=c.flatMap fun p=>((decL p.2).map jR).getD [] |>.map (·.id)
theorem allDescs_len(c:BlobM):(allDescs c).length<=33*c.length:=by
 induction c with
 |nil=>simp[allDescs]
 |cons p c ih=>
  have h:(((decL p.2).map jR).getD []).length<=33:=by
   cases hd:decL p.2 with
   |none=>simp
   |some m=>
    have:=decL_len hd;simp only[Option.map_some,Option.getD_some,jR,List.length_append]
    split<;>simp<;>omega
  simp only[allDescs,List.flatMap_cons,List.length_append,List.length_map,List.length_cons]at ih |-;omega
theorem descsOf_mem{c:BlobM}{id:List UInt8}{ds:List DescL}(h:descsOf c id=some ds):∀d∈ds,d.id∈allDescs c:=by
 intro d hd;unfold descsOf at h
 cases hg:getL id c with
 |none=>rw[hg]at h;cases h
 |some b=>
  rw[hg]at h;refine List.mem_flatMap.2 ⟨(id,b),yC hg,List.mem_map.2 ⟨d,?_,rfl⟩⟩;have h':(decL b).map jR=some ds:=h
  show d∈((decL b).map jR).getD []
  rw[h'];exact hd
theorem inR_mem{c:BlobM}:∀{f:Nat}{id:List UInt8}{depth:Nat}{x:List UInt8},inR c f id depth x->x=id\/x∈allDescs c
 |0,_,_,_,h=>h.elim
 |f+1,id,depth,x,h=>by
  rcases h with rfl|⟨_,ds,hds,d,hd,hx⟩
  ·exact .inl rfl
  ·right
   have hm:=descsOf_mem hds d hd
   split at hx
   ·rcases inR_mem hx with rfl|hx
    ·exact hm
    ·exact hx
   ·rw[hx];exact hm
theorem marks_len(c:BlobM)(roots:List (List UInt8))(h:((marksL c roots).map (·.1)).Nodup):(marksL c roots).length<=roots.length+33*c.length:=by
 have h1:=yF (l:=(marksL c roots).map (·.1)) (m:=roots++allDescs c) h (fun x hx=>by
  have hs:(getL x (marksL c roots)).isSome=true:=by
   cases hg:getL x (marksL c roots)with
   |none=>exact absurd hx (getL_none.1 hg)
   |some k=>rfl
  obtain⟨r,hr,hi⟩:=(marks_keys c roots x).1 hs
  rcases inR_mem hi with rfl|hm
  ·exact List.mem_append_left _ hr
  ·exact List.mem_append_right _ hm)
 have h2:=allDescs_len c;simp only[List.length_map,List.length_append]at h1;omega
theorem marks_of{c:BlobM}{roots ids:List (List UInt8)}(hs:ids.Pairwise (fun a b=>a<b))(hp:ids.Perm ((marksL c roots).map (·.1))):MarkOf c roots ids:=by
 refine⟨hs,fun x=>?_⟩;rw[hp.mem_iff,<-marks_keys c roots x]
 cases hg:getL x (marksL c roots)with
 |none=>simp[getL_none.1 hg]
 |some k=>
  simp only[Option.isSome_some,iff_true];exact List.mem_map.2 ⟨_,yC hg,rfl⟩
def MarkR(w:World)(c:BlobM)(roots:List (List UInt8)):Ending->World->Prop:=fun e w'=>Mod NoB w w'/\∃v ids,e=.returned v/\GatI w.heap.size w' v ids/\MarkOf c roots ids/\∀x∈ids,x.length=32
def MarkRel(w0:World)(mb:Nat)(c:BlobM)(roots:List (List UInt8))(i:Value)(w:World):Prop:=∃k:Nat,k<=roots.length/\i=.int .i64 k/\MarksAt w mb (marksL c (roots.take k))/\Mod NoB w0 w
theorem marksL_succ(c:BlobM)(roots:List (List UInt8))(k:Nat)(hk:k<roots.length):marksL c (roots.take (k+1))=yI c 5 roots[k] 1 (marksL c (roots.take k)):=by
 unfold marksL;rw[List.take_succ_eq_append_getElem hk,List.foldl_append]
 rfl
section
variable{w:World}{bs ms wd:Nat}{room:Int}{bl:List Blb}
theorem clMark_any(h:StInv w bs ms wd room bl){own:Bool}{G:Nat->Prop}{v:Value}{roots:List (List UInt8)}(hv:Sl own w G 32 IdC v roots)(hn:roots.length<=10000)(hc:(cont bl).length<=1000):Calls prog 22 #[.pointer (some ⟨bs,0,none⟩),v] w (MarkR w (cont bl) roots):=by
 have hmm:= @run_makeMap prog;have H:=hid h;have HV:=hid hv;obtain⟨ad,cap,rfl,-,hat⟩:=Sl.at hv;have HAT:=hid hat;clear h hv hat;go_enter func22,ntmps22
 go_upto_region 1 with(fail);refine wpR [1,3] ?_;simp only[stz];refine qL rfl (fun K hK=>?_);unfold Oper.wp execOp
 simp only[Array.map_empty,Option.map_none,Sem.run_bind,hmm,Result.andThen_ok,Sem.run_pure];have hB:=heap_alloc_new w (.map #[] 0);have hM:=qW w (.map #[] 0)
 have hs:w.heap.size<(w.alloc (.map #[] 0)).heap.size:=by simp
 generalize w.alloc (.map #[] 0)=w1 at hB hM hs |-;refine hK _ _ trivial ?_;clear hK K;simp only[stz];have hMA:MarksAt w1 w.heap.size (marksL (cont bl) []):=MapIs.made hB
 have HR0:Hid (MarkRel w w.heap.size (cont bl) roots (.int .i64 (0:Nat)) w1):=hid ⟨0,Nat.zero_le _,rfl,by rw[List.take_zero];exact hMA,hM⟩
 generalize hmb:w.heap.size=mb at*;have hns:¬SFoot bs ms bl mb:=fun e=>by have:=H.out.lt mb e;omega
 clear hmm hB hM hMA;go_wp2
 go_loopw [11] (MarkRel w mb (cont bl) roots) (fun i _=>roots.length-(intOf i).toNat)
 case atStart=>exact HR0.out
 case round=>
  rename World=>wr
  obtain⟨k,hk,rfl,hMr,hm⟩:=hrel;have HMR:=hid hMr
  by_cases hlt:k<roots.length
  ·have hz:(k:Int)<(roots.length:Nat):=by omega
   obtain⟨b,off,rfl,-,-,hcc⟩:=HAT.out k hlt;obtain⟨cs,-,⟨rfl,hx32⟩,hcA⟩:=hcc k hlt;have hms:=marksL_succ (cont bl) roots k hlt;generalize roots[k]=x at*
   have hic:(qA x).size=32:=by rw[qB,hx32]
   have hcr:=hcA.keep hm id;have Hr:=hid (H.out.keep0 hm);have HMS:=hid hms;clear hms hcc hcA hMr;go_upto_region 4 with(fail);refine wpR [3,1,1,1] ?_;simp only[stz]
   refine wpPI underlying25 32 hlt ?_;simp only[nmz];refine wpXA 24 b (off+k*32) (qA x) hcr underlying24 32 hic trivial ?_;try simp only[nmz]
   refine wpD (qN 24 _ (by rfl) idZ (fun w2 hB2 hm2 hs2=>?_));replace hB2:w2.heap[wr.heap.size]?=some (.cells (qA (List.replicate 32 0)) 24 (0,0)):=hB2
   try simp only[nmz]
   refine wpD (qF 24 _ _ wr.heap.size 0 (qA x) (by rfl) (by rfl) (by rfl) (qP _) 32 (by kernel_rfl) hic _ _ hB2 (by rw[hic,qB];simp) (fun w3 hB3 hm3=>?_))
   rw[qD (by rw[hic,qB];simp)]at hB3;simp only[stz];have hmr3:Mod NoB wr w3:=hm2.transB hm3 (Nat.le_refl _);have hm03:=hm.trans0 hmr3
   have H3:=hid (Hr.out.keep0 hmr3);have HM3:=hid (HMR.out.keep0 hmr3);have hrec:=clReach_any hns 5 x 1 _ _ hx32 (by omega) (by omega) (by omega) H3.out HM3.out
   have hno:=clNone_any H3.out;generalize hb7:wr.heap.size=b7 at*;clear hm hm2 hm3 hmr3 hB2 hcr hs2
   go_upto_region 7 with(go_at_call 86;refine hno.mono ?_;rintro _ w4 ⟨rfl,hw⟩;obtain rfl:=hw.symm);refine wpR [3,1,3,1] ?_;simp only[stz]
   refine wpXA 24 b7 0 (qA x) (CellsAt.whole hB3) underlying24 32 hic trivial ?_;simp only[stz];refine wpD (wpC func87 (hrec) ?_);rintro e w5 ⟨rfl,hM5,hm5⟩
   have HR:Hid (MarkRel w mb (cont bl) roots (.int .i64 ((k+1:Nat):Int)) w5):=hid ⟨k+1,by omega,rfl,by rw[HMS.out];exact hM5,hm03.transB hm5 (by omega)⟩
   refine⟨_,rfl,?_⟩;simp only[stz];clear hB3 hM5 hm5 hm03 hrec hno;go_wp2
   go_roundw
   case rel=>exact HR.out
   case measure=>simp[intOf];omega
  ·have hz:¬(k:Int)<(roots.length:Nat):=by omega
   obtain rfl:k=roots.length:=by omega
   have hMf:=HMR.out;rw[List.take_length]at hMf
   have hnd:((marksL (cont bl) roots).map (·.1)).Nodup:=by
    have:=hMf.nd
    simpa[marksV,List.map_map,Function.comp_def]using this
   have hln:=marks_len (cont bl) roots hnd;have hris:=clRising_any hMf (by unfold marksV;rw[List.length_map];omega)
   have hkm:(marksV (marksL (cont bl) roots)).map (·.1)=(marksL (cont bl) roots).map (·.1):=by simp[marksV,List.map_map,Function.comp_def]
   rw[hkm]at hris;clear hMr hMf hkm hnd hln;go_upto_region 9 with(fail);refine wpR [3,1,3] ?_;simp only[stz];refine wpD (wpC func84 (hris) ?_)
   rintro e w6 ⟨hm6,v6,ids,he6,hg6,hs6,hp6,hl6⟩;subst he6
   have HF:Hid (MarkR w (cont bl) roots (.returned v6) w6):=hid ⟨hm.trans0 hm6,v6,ids,rfl,hg6.base (by have:=hm.size;omega),marks_of hs6 hp6,hl6⟩;refine⟨_,rfl,?_⟩
   simp only[stz];clear hm hm6 hg6 hs6 hp6 hl6;go_wp2;go_ret;exact HF.out
end
theorem eventZ:(prog.info? 115).bind (·.zero)=some (.agg (xI ⟨0,0,[],0,⟨#[]⟩,⟨#[]⟩,List.replicate 32 0,[]⟩ (.slice none 0 0) (.slice none 0 0))):=by kernel_rfl
def refsL(l:List Evt):List (List UInt8):=l.flatMap (·.refs)
theorem addsL_app(a b:List (List UInt8))(all:List (List UInt8×Value)):addsL (a++b) all=addsL b (addsL a all):=by simp[addsL]
theorem refsL_snoc(l:List Evt)(k:Nat)(hk:k<l.length):refsL (l.take (k+1))=refsL (l.take k)++l[k].refs:=by
 have h:=congrArg refsL (List.take_succ_eq_append_getElem hk);rw[h];unfold refsL;rw[List.flatMap_append,List.flatMap_cons,List.flatMap_nil,List.append_nil]
theorem Sl.memR{α:Type}{own:Bool}{w:World}{G:Nat->Prop}{sz:Nat}{R R':Array Value->α->Prop}{v:Value}{l:List α}(h:Sl own w G sz R v l)(hR:∀cs x,x∈l->R cs x->R' cs x):Sl own w G sz R' v l:=by
 obtain⟨a,cap,hv,hl,hc,h⟩:=h;refine⟨a,cap,hv,hl,hc,fun hne=>?_⟩;obtain⟨b,off,ha,hG,ho,hi⟩:=h hne;refine⟨b,off,ha,hG,ho,fun i hlt=>?_⟩
 obtain⟨cs,h1,h2,h3⟩:=hi i hlt;exact⟨cs,h1,hR _ _ (List.getElem_mem hlt) h2,h3⟩
theorem slI{base:Nat}{w:World}{v:Value}{ids:List (List UInt8)}(h:GatI base w v ids)(h32:∀x∈ids,x.length=32):Sl true w (fun q=>base<=q/\q<w.heap.size/\v.ownBlock=some q) 32 IdC v ids:=
 Sl.memR (h.sl jM) fun cs x hx hcs=>⟨by rw[hcs,idE_eq (h32 x hx)],h32 x hx⟩
def MarkedOf(c:BlobM)(roots:List (List UInt8))(l:List Evt)(out:List (List UInt8)):Prop:=out.Pairwise (fun a b=>a<b)/\∀x,x∈out↔(∃r∈roots,inR c 5 r 1 x)\/x∈refsL l
def MarksR(w:World)(c:BlobM)(roots:List (List UInt8))(l:List Evt):Ending->World->Prop:=fun e w'=>Mod NoB w w'/\∃v out,e=.returned v/\GatI w.heap.size w' v out/\MarkedOf c roots l out/\∀x∈out,x.length=32
def MksRel(w0:World)(mb:Nat)(ids:List (List UInt8))(l:List Evt)(i:Value)(w:World):Prop:=∃k:Nat,k<=l.length/\i=.int .i64 k/\MapIs idV IdOk w mb (addsL (refsL (l.take k)) (addsL ids []))/\Mod NoB w0 w
theorem lt_nodup{l:List (List UInt8)}(h:l.Pairwise (fun a b=>a<b)):l.Nodup:=h.imp fun{a b} hab e=>by rw[e]at hab;exact List.lt_irrefl _ hab
theorem swMarks_any{w:World}{bs ms wd:Nat}{room:Int}{bl:List Blb}(H:StInv w bs ms wd room bl)(hc:(cont bl).length<=1000){vv rv ev:Value}{reps:List RepX}(h1:vv.oneCell'=true)(hv:RepsAt w rv reps)(hn:(rootsX reps).length<=10000)
 {own own':Bool}{E G:Nat->Prop}{l:List Evt}(hev:Sl own w E 39 (EvR own' w G) ev l)(hr:(refsL l).length<=20000):
 Calls prog 48 #[.pointer (some ⟨bs,0,none⟩),.agg #[vv,rv],ev] w (MarksR w (cont bl) (rootsX reps) l):=by
 have hmm:= @run_makeMap prog;have h2:=Sl.one hv;have HH:=Lib.hid H;have HV:=Lib.hid hv;have HEV:=Lib.hid hev;obtain⟨ead,ecap,rfl,hel,-⟩:=Sl.at hev;clear H hv hev
 go_enter func48,ntmps48;go_upto_region 0 with(fail);refine wpR [1,3] ?_;simp only[stz];refine wpD (zL 71 _ _ (by rfl) (by rfl) (fun w1 hB1 hm1 hs1=>?_))
 replace hB1:w1.heap[w.heap.size]?=some (.cells #[vv,rv] 71 (0,0)):=hB1;simp only[stz];go_upto_region 1 with(fail);refine wpR [1,3,1,1,1,1,1,3] ?_;simp only[stz]
 refine qL rfl (fun K hK=>?_);unfold Oper.wp execOp;simp only[Array.map_empty,Option.map_none,Sem.run_bind,hmm,Result.andThen_ok,Sem.run_pure]
 have hB3:=heap_alloc_new w1 (.map #[] 0);have hm3:=qW w1 (.map #[] 0);have hs3:(w1.alloc (.map #[] 0)).heap.size=w1.heap.size+1:=by simp
 generalize w1.alloc (.map #[] 0)=w3 at hB3 hm3 hs3 |-;have hM3:MapIs idV IdOk w3 w1.heap.size []:=MapIs.made hB3;have hm03:=hm1.trans0 hm3
 have hcT:CellsAt w3 w.heap.size 0 #[vv,rv]:=CellsAt.whole (hm3.obj id hB1);have hroots:=swRoots_any h1 (repsAt_kc HV.out (KC.of0 hm03)) (by omega);refine hK _ _ trivial ?_
 clear hK K;simp only[stz];refine wpXA 71 w.heap.size 0 #[vv,rv] hcT underlying71 2 rfl trivial ?_;try simp only[nmz]
 refine wpD (wpC func47 (hroots) ?_);rintro e w4 ⟨hm4,v4,R,he4,hg4,hset4,hl4⟩;subst he4
 have hRn:R.length<=(rootsX reps).length:=yF (lt_nodup hset4.1) (fun x hx=>(hset4.2 x).1 hx);have hm04:=hm03.trans0 hm4
 have hmark:=clMark_any (HH.out.keep0 hm04) (slI hg4 hl4) (by omega) hc;refine⟨_,rfl,?_⟩;try simp only[nmz]
 refine wpD (wpC func22 (hmark) ?_);rintro e w5 ⟨hm5,v5,ids,he5,hg5,hset5,hl5⟩;subst he5;have hm05:=hm04.trans0 hm5;obtain⟨ad5,cap5,hv5⟩:=hg5.slice;have hg5':=hg5
 rw[hv5]at hg5';have hval:=valuesI_any w5 ad5 ids.length cap5;rw[<-hv5]at hval;refine⟨_,rfl,?_⟩;try simp only[nmz]
 refine wpD (wpC func119 (hval) ?_);rintro e w6 ⟨rfl,hw6⟩;have hm6:Mod NoB w5 w6:=by rw[hw6];exact qW w5 _
 have hB6:w6.heap[w5.heap.size]?=some (.cells #[v5] 25 (0,0)):=by rw[hw6];exact heap_alloc_new w5 _
 clear hw6;have hadd:=swAdd_any (enters_of func194 (by kernel_rfl) rfl) (valuesI_gives hB6 (slI (hg5.keep0 hm6) hl5)) hl5 (hM3.keep0 (hm4.trans0 (hm5.trans0 hm6)))
 refine⟨_,rfl,?_⟩;try simp only[nmz]
 refine wpD (wpC func115 (hadd) ?_);rintro e w7 ⟨rfl,hM7,hm7⟩;refine⟨_,rfl,?_⟩;simp only[stz]
 have hm25:Mod NoB w w7:=(hm05.trans0 hm6).trans hm7 (fun k hk e=>by have e:k=w1.heap.size:=e;have:=hm1.size;omega)
 have hidn:ids.length<=43000:=by
  have h9:=yF (l:=ids) (m:=R++allDescs (cont bl)) (lt_nodup hset5.1) (fun x hx=>by
   obtain⟨r,hr,hi⟩:=(hset5.2 x).1 hx
   rcases inR_mem hi with rfl|hm
   ·exact List.mem_append_left _ hr
   ·exact List.mem_append_right _ hm)
  have h8:=allDescs_len (cont bl);simp only[List.length_append]at h9;omega
 have hmarks:∀x,x∈ids↔∃r∈rootsX reps,inR (cont bl) 5 r 1 x:=fun x=>by
  rw[hset5.2 x];exact⟨fun⟨r,h1,h2⟩=>⟨r,(hset4.2 r).1 h1,h2⟩,fun⟨r,h1,h2⟩=>⟨r,(hset4.2 r).2 h1,h2⟩⟩
 have HMK:=Lib.hid hmarks;have hw1:w.heap.size<w1.heap.size:=hs1;generalize hmb:w1.heap.size=mb at*
 have HR0:Hid (MksRel w mb ids l (.int .i64 (0:Nat)) w7):=Lib.hid ⟨0,Nat.zero_le _,rfl,by rw[List.take_zero];exact hM7,hm25⟩
 clear hm25 hM7 hm7 hadd hB6 hm6 hval hg5' hv5 hm05 hset5 hg5 hm5 hmark hm04 hRn hset4 hg4 hm4 hroots hcT hm03 hM3 hs3 hm3 hB3 hB1 hm1 hmarks;go_wp2
 go_loopw [19] (MksRel w mb ids l) (fun i _=>l.length-(intOf i).toNat)
 case atStart=>exact HR0.out
 case round=>
  rename World=>wr
  obtain⟨k,hk,rfl,hMr,hmr⟩:=hrel
  by_cases hlt:k<l.length
  ·have hz:(k:Int)<(l.length:Nat):=by omega
   obtain⟨_,_,hae,-,hat⟩:=(SlEv.keep0 HEV.out hmr).at;injection hae with hae1 hae2 hae3;subst hae1 hae3;obtain⟨b,off,rfl,-,-,hcc⟩:=hat k hlt
   obtain⟨cs,-,⟨dv,fv,rfl,hid,hdv,hfv,-,-⟩,hcA⟩:=hcc k hlt;have hsn:=refsL_snoc l k hlt
   have hsp:refsL l=refsL (l.take k)++(l[k].refs++refsL (l.drop (k+1))):=by
    have h:=congrArg refsL (take_split hlt);rw[h];unfold refsL;rw[List.flatMap_append,List.flatMap_cons]
   have hr32:∀x∈l[k].refs,x.length=32:=by
    intro x hx;obtain⟨a,cap,_,_,hat⟩:=Sl.at hfv;obtain⟨i,hi,rfl⟩:=List.getElem_of_mem hx;obtain⟨b,off,_,_,_,hc⟩:=hat i hi;obtain⟨cs,_,⟨_,h2⟩,_⟩:=hc i hi
    exact h2
   generalize l[k]=ev at*;have hes:=zI ev dv fv hid;have hic:=hes.size;have hc38:=hes.c38;have h1v:=evCells_one (e:=ev) (Sl.one hdv) (Sl.one hfv)
   obtain⟨ra,rcap,hfe,-,-⟩:=Sl.at hfv
   have hzs:(xI ⟨0,0,[],0,⟨#[]⟩,⟨#[]⟩,List.replicate 32 0,[]⟩ (.slice none 0 0) (.slice none 0 0)).size=39:=(zI _ _ _ (by simp)).size
   have HSN:=Lib.hid hsn;clear hsn hsp hat hcc hae2 hes hdv;go_upto_region 4 with(fail);refine wpR [3,1,1,1] ?_;simp only[stz];refine wpPI underlying72 39 hlt ?_
   simp only[nmz];refine wpXA 115 b (off+k*39) (xI ev dv fv) hcA underlying115 39 hic trivial ?_;try simp only[nmz]
   refine wpD (qN 115 _ (by rfl) eventZ (fun w2 hB2 hm2 hs2=>?_))
   replace hB2:w2.heap[wr.heap.size]?=some (.cells (xI ⟨0,0,[],0,⟨#[]⟩,⟨#[]⟩,List.replicate 32 0,[]⟩ (.slice none 0 0) (.slice none 0 0)) 115 (0,0)):=hB2
   try simp only[nmz]
   refine wpD (qF 115 _ _ wr.heap.size 0 (xI ev dv fv) (by rfl) (by rfl) (by rfl) h1v 39 (by kernel_rfl) hic _ _ hB2 (by rw[hic,hzs];omega) (fun w3 hB3 hm3=>?_))
   rw[qD (by rw[hic,hzs])]at hB3;simp only[stz];have hmr3:Mod NoB wr w3:=hm2.transB hm3 (Nat.le_refl _);have hm03:=hmr.trans0 hmr3;have hMk3:=hMr.keep0 hmr3
   have hcR:w3.cell? ⟨wr.heap.size,0+38,none⟩=some fv:=(CellsAt.whole hB3).cell hc38;have hfv3:=hfv.keep0 hmr3;rw[hfe]at hcR hfv3
   clear hcA hm2 hm3 hB2 hs2 hMr hmr hB3 hc38 hfv hmr3;generalize hb9:wr.heap.size=b9 at*;have hval:=valuesI_any w3 ra ev.refs.length rcap;go_upto_region 5 with(fail)
   refine wpR [3,3,1,1,1] ?_;simp only[stz];refine wpXd 25 b9 (0+38) hcR underlying25 trivial ?_;try simp only[nmz]
   refine wpD (wpC func119 (hval) ?_);rintro e w4 ⟨rfl,hw4⟩;have hm4:Mod NoB w3 w4:=by rw[hw4];exact qW w3 _
   have hB4:w4.heap[w3.heap.size]?=some (.cells #[.slice ra ev.refs.length rcap] 25 (0,0)):=by rw[hw4];exact heap_alloc_new w3 _
   clear hw4;have hadd:=swAdd_any (enters_of func194 (by kernel_rfl) rfl) (valuesI_gives hB4 (hfv3.keep0 hm4)) hr32 (hMk3.keep0 hm4);refine⟨_,rfl,?_⟩;try simp only[nmz]
   refine wpD (wpC func115 (hadd) ?_);rintro e w5 ⟨rfl,hM5,hm5⟩;rw[<-addsL_app,<-HSN.out]at hM5
   have HR:Hid (MksRel w mb ids l (.int .i64 ((k+1:Nat):Int)) w5):=Lib.hid ⟨k+1,by omega,rfl,hM5,(hm03.trans0 hm4).trans hm5 (fun j hj e=>by have e:j=mb:=e;omega)⟩
   refine⟨_,rfl,?_⟩;simp only[stz];clear hm03 hMk3 hcR hfv3 hval hm4 hB4 hadd hM5 hm5;go_wp2
   go_roundw
   case rel=>exact HR.out
   case measure=>simp[intOf];omega
  ·have hz:¬(k:Int)<(l.length:Nat):=by omega
   obtain rfl:k=l.length:=by omega
   rw[List.take_length]at hMr
   have hln:(addsL (refsL l) (addsL ids [])).length<=65536:=by
    have h1:=addsL_len (refsL l) (addsL ids []);have h2:=addsL_len ids [];simp only[List.length_nil]at h2;omega
   have hris:=swRising_any hMr hln;clear hMr;go_upto_region 7 with(fail);refine wpR [3,1,3] ?_;simp only[stz];refine wpD (wpC func118 (hris) ?_)
   rintro e w6 ⟨hm6,v6,out,he6,hg6,hs6,hp6,hl6⟩;subst he6
   have HF:Hid (MarksR w (cont bl) (rootsX reps) l (.returned v6) w6):=Lib.hid ⟨hmr.trans0 hm6,v6,out,rfl,hg6.base (by have:=hmr.size;omega),⟨hs6,fun x=>by rw[hp6.mem_iff,addsL_mem,addsL_mem,HMK.out];simp[or_comm]⟩,hl6⟩
   refine⟨_,rfl,?_⟩;simp only[stz];clear hmr hm6 hg6 hs6 hp6 hl6 hris;go_wp2;go_ret;exact HF.out
def cutTo(n k:Nat)(x:List UInt8):List UInt8:=x.take n++List.replicate (k-n) 0++x.drop k
theorem cutTo_len{n k:Nat}{x:List UInt8}(hx:x.length=32)(hn:n<=k)(hk:k<=32):(cutTo n k x).length=32:=by simp[cutTo,hx];omega
theorem cutTo_start{n:Nat}{x:List UInt8}:cutTo n n x=x:=by simp[cutTo]
theorem cutTo_end{n:Nat}{x:List UInt8}(hx:x.length=32):cutTo n 32 x=cutI n x:=by
 unfold cutTo cutI;rw[List.drop_of_length_le (by omega),List.append_nil]
theorem cutTo_step{n k:Nat}{x:List UInt8}(hx:x.length=32)(hn:n<=k)(hk:k<32):(qA (cutTo n k x)).setIfInBounds k (byteV 0)=qA (cutTo n (k+1) x):=by
 apply Array.toList_inj.1
 have h1:(x.take n).length=n:=by simp[hx];omega
 have e:List.replicate (k+1-n) (0:UInt8)=List.replicate (k-n) 0++[0]:=by rw[show k+1-n=(k-n)+1 by omega,List.replicate_succ']
 have d:x.drop k=x[k]'(by omega)::x.drop (k+1):=List.drop_eq_getElem_cons (by omega);simp only[qA,cutTo,Array.toList_setIfInBounds];rw[e,d]
 have hl:((x.take n++List.replicate (k-n) 0).map byteV).length=k:=by simp[hx];omega
 rw[List.map_append,List.set_append_right _ _ (by rw[hl];exact Nat.le_refl _),hl,Nat.sub_self]
 simp
 rw[<-List.map_drop,d,<-List.map_drop]
 rfl
def CutRel(n:Nat)(x:List UInt8)(b:Nat)(w0:World)(i:Value)(w:World):Prop:=∃k:Nat,n<=k/\k<=32/\i=.int .i64 k/\w.heap[b]?=some (.cells (qA (cutTo n k x)) 24 (0,0))/\Mod (fun q=>q=b) w0 w
theorem refCut_any(x:List UInt8)(hx:x.length=32)(n:Nat)(h1:1<=n)(h2:n<=32)(w:World):Calls prog 151 #[.agg (qA x),.int .i64 n] w (CutR2 w n x):=by
 have hrs:(qA (cutI n x)).size=32:=by rw[qB,cutI_len hx h2]
 have HE:=hid (cutTo_end (n:=n) hx);go_enter func151,ntmps151;go_upto_region 0 with(fail);refine wpR [1,1,3] ?_;simp only[stz]
 refine wpD (zL 24 _ _ (by rfl) (by rfl) (fun w1 hB1 hm1 hs1=>?_));replace hB1:w1.heap[w.heap.size]?=some (.cells (qA x) 24 (0,0)):=hB1;try simp only[nmz]
 refine wpD (qN 24 _ (by rfl) idZ (fun w2 hB2 hm2 hs2=>?_));replace hB2:w2.heap[w1.heap.size]?=some (.cells (qA (List.replicate 32 0)) 24 (0,0)):=hB2
 simp only[stz];replace hB1:=hm2.obj id hB1;have hM2:=hm1.trans0 hm2;have hne:w.heap.size≠w1.heap.size:=by omega
 have hs1':w.heap.size<=w1.heap.size:=hm1.size;generalize hb1:w.heap.size=b1 at*;generalize hb2:w1.heap.size=b2 at*;clear hm1 hm2;go_wp2
 go_loopw [6] (CutRel n x b1 w2) (fun i _=>32-(intOf i).toNat)
 case atStart=>exact⟨n,Nat.le_refl _,h2,rfl,by rw[cutTo_start];exact hB1,Mod.refl _ _⟩
 case round=>
  rename World=>wr
  obtain⟨k,hnk,hk,rfl,hrow,hm⟩:=hrel
  by_cases hlt:k<32
  ·have hz:(k:Int)<32:=by omega
   have hst:=cutTo_step hx hnk hlt;have hsz:(qA (cutTo n k x)).size=32:=by rw[qB,cutTo_len hx hnk hk]
   go_upto_region 6 with(fail);refine wpR [3,3,1] ?_;simp only[stz];refine qH _ _ _ _ _ _ _ _ rfl rfl rfl rfl underlying24 (n:=1) (by kernel_rfl) hlt ?_
   simp only[nmz];refine wpD (qR 5 _ _ b1 (k*1) (byteV 0) (by rfl) (by rfl) (by rfl) rfl (by kernel_rfl) _ _ hrow (by rw[hsz];omega) (fun w3 hB3 hm3=>?_))
   rw[Nat.mul_one,hst]at hB3;have hM3:Mod (fun q=>q=b1) w2 w3:=hm.trans hm3 (fun _ _ h=>h);simp only[stz];clear hm hm3 hrow hst hsz;go_wp2
   go_roundw
   case rel=>exact⟨k+1,by omega,by omega,by go_num,hB3,hM3⟩
   case measure=>simp[intOf];omega
  ·have hz:¬(k:Int)<32:=by omega
   obtain rfl:k=32:=by omega
   rw[HE.out]at hrow;have hB23:=hm.objB (fun e=>hne e.symm) hB2;have hM3:Mod NoB w wr:=hM2.transB hm (by omega);clear hm hM2 hB2;go_upto_region 7 with(fail)
   refine wpR [1,1,3] ?_;simp only[stz];refine wpXA 24 b1 0 (qA (cutI n x)) (CellsAt.whole hrow) underlying24 32 hrs trivial ?_;try simp only[nmz]
   refine wpD (qF 24 _ _ b2 0 (qA (cutI n x)) (by rfl) (by rfl) (by rfl) (qP _) 32 (by kernel_rfl) hrs _ _ hB23 (by rw[hrs,qB];simp) (fun w4 hB4 hm4=>?_))
   rw[qD (by rw[hrs,qB];rfl)]at hB4;simp only[stz];have hM4:Mod NoB w w4:=hM3.transB hm4 (by omega);clear hm4 hM3;go_wp2
   refine bodyPost_ret (xM (P:=prog) (ty:=24) rfl _ _ b2 _ _ _ _ (by rfl) hB4 underlying24 rfl (by rw[hrs];kernel_rfl)) rfl ?_;exact⟨rfl,hM4⟩
theorem refOf_any{own:Bool}{G:Nat->Prop}{v:Value}{m:List UInt8}{w:World}(h:Sl own w G 1 ByteC v m)(hl:m.length<=1000000)(n:Nat)(h1:1<=n)(h2:n<=32):Calls prog 79 #[v,.int .i64 n] w (OfR w n m):=by
 have H:=hid h;obtain⟨ad,cap,rfl,-,-⟩:=Sl.at h;have hsl:(shaL m).length=32:=shaL_len _;have hrs:(qA (ofI n m)).size=32:=by rw[qB,ofI_len h2]
 have HC:=hid (show cutI n (shaL m)=ofI n m from rfl);clear h;go_enter func79,ntmps79;go_upto_region 0 with(fail);refine wpR [1,3] ?_;simp only[stz]
 refine wpD (qN 24 _ (by rfl) idZ (fun w1 hB1 hm1 hs1=>?_));replace hB1:w1.heap[w.heap.size]?=some (.cells (qA (List.replicate 32 0)) 24 (0,0)):=hB1
 simp only[stz];go_upto_region 1 with(fail);refine wpR [3,1,3,1,3,3,1,3] ?_;simp only[stz]
 refine wpD (wpCM func152 (refSum_any (H.out.keep0 hm1) (by omega)) fun w2 hm2=>?_);simp only[stz];refine wpD (wpC func151 (refCut_any (shaL m) hsl n h1 h2 _) ?_)
 rintro e w3 ⟨rfl,hm3⟩;rw[HC.out];have hB3:=(hm2.trans0 hm3).obj id hB1;refine⟨_,rfl,?_⟩;try simp only[nmz]
 refine qC (v:=?_) rfl (fun w'=>?_) ?_;rotate_left;·(go_simp;try with_reducible rfl)
 simp only[nmz];refine qC (v:=?_) rfl (fun w'=>?_) ?_;rotate_left;·(go_simp;try with_reducible rfl)
 simp only[nmz]
 refine wpD (qF 24 _ _ w.heap.size 0 (qA (ofI n m)) (by rfl) (by rfl) (by rfl) (qP _) 32 (by kernel_rfl) hrs _ _ hB3 (by rw[hrs,qB];simp) (fun w4 hB4 hm4=>?_))
 rw[qD (by rw[hrs,qB];rfl)]at hB4;simp only[stz];have hM4:Mod NoB w w4:=((hm1.trans0 hm2).trans0 hm3).transB hm4 (Nat.le_refl _);clear hm1 hm2 hm3 hm4
 go_wp2;refine bodyPost_ret (xM (P:=prog) (ty:=24) rfl _ _ w.heap.size _ _ _ _ (by rfl) hB4 underlying24 rfl (by rw[hrs];kernel_rfl)) rfl ?_;exact⟨rfl,hM4⟩
def pickZ(x n:Int):Int:=if n<=0 then 0 else x%n
theorem pickZ_lt(x n:Int)(h:0<n):0<=pickZ x n/\pickZ x n<n:=by
 unfold pickZ;rw[if_neg (by omega)];exact⟨Int.emod_nonneg _ (by omega),Int.emod_lt_of_pos _ h⟩
theorem tmod_up(x n:Int)(h:0<n):(if x.tmod n<0 then x.tmod n+n else x.tmod n)=x%n:=by
 have h1:=Int.tmod_lt_of_pos x h;have h2:=Int.lt_tmod_of_pos x h;have h3:x.tmod n=x-n*x.tdiv n:=by have:=Int.mul_tdiv_add_tmod x n;omega
 split
 ·rw[h3,<-Int.emod_eq_of_lt (a:=x-n*x.tdiv n+n) (b:=n) (by omega) (by omega)]
  rw[show x-n*x.tdiv n+n=x+n*(1-x.tdiv n) by rw[Int.mul_sub];omega];rw[Int.add_mul_emod_self_left]
 ·rw[<-Int.emod_eq_of_lt (a:=x.tmod n) (b:=n) (by omega) (by omega),h3]
  rw[show x-n*x.tdiv n=x+n*(-x.tdiv n) by rw[Int.mul_neg];omega];rw[Int.add_mul_emod_self_left]
abbrev I64(x:Int):Prop:=-9223372036854775808<=x/\x<=9223372036854775807
theorem pick_any(x n:Int)(hx:I64 x)(hn:n<=1000000)(w:World):Calls prog 17 #[.int .i64 x,.int .i64 n] w (RetE (.int .i64 (pickZ x n)) w):=by
 obtain⟨hx1,hx2⟩:=hx
 by_cases h0:n<=0
 ·rw[show pickZ x n=0 by simp[pickZ,h0]]
  go_enter func17,ntmps17;go_wp2;go_ret;exact⟨rfl,rfl⟩
 ·have hp:=tmod_up x n (by omega)
  have h1:=Int.tmod_lt_of_pos x (show 0<n by omega);have h2:=Int.lt_tmod_of_pos x (show 0<n by omega);rw[show pickZ x n=x%n by simp[pickZ,h0]];rw[<-hp];clear hp
  go_enter func17,ntmps17;go_wp2
  all_goals
   go_ret;exact⟨rfl,rfl⟩
def RetK(v:Value)(w:World):Ending->World->Prop:=fun e w'=>e=.returned v/\Mod NoB w w'
def widZ(wd:Int):Nat:=(1+pickZ wd 32).toNat
theorem widZ_ok(wd:Int):1<=widZ wd/\widZ wd<=32:=by
 have:=pickZ_lt wd 32 (by omega);unfold widZ;omega
theorem width_any(wd:Int)(hw:I64 wd)(lv kv:Value)(h1:lv.oneCell'=true)(h2:kv.oneCell'=true)(w:World):Calls prog 108 #[.agg #[.int .i64 wd,lv,kv]] w (RetK (.int .i64 (widZ wd:Nat)) w):=by
 have hp:=pickZ_lt wd 32 (by omega);have hz:((widZ wd:Nat):Int)=1+pickZ wd 32:=by unfold widZ;omega
 have HZ:=hid hz;have hpk:=fun w'=>pick_any wd 32 hw (by omega) w';obtain⟨pz,hpz⟩:∃p,pickZ wd 32=p:=⟨_,rfl⟩;rw[hpz]at hp HZ;simp only[hpz]at hpk;clear hz hpz
 go_enter func108,ntmps108;go_upto_region 0 with(fail);refine wpR [1,3] ?_;simp only[stz];refine wpD (zL 68 _ _ (by rfl) (by rfl) (fun w1 hB1 hm1 hs1=>?_))
 replace hB1:w1.heap[w.heap.size]?=some (.cells #[.int .i64 wd,lv,kv] 68 (0,0)):=hB1;simp only[stz]
 have hc:w1.cell? ⟨w.heap.size,0+0,none⟩=some (.int .i64 wd):=by simp[World.cell?,hB1]
 go_upto_region 1 with(fail);refine wpR [3,1,1,3,3] ?_;simp only[stz];refine wpXd 3 w.heap.size (0+0) hc underlying3 trivial ?_;try simp only[nmz]
 refine wpD (wpC func17 (hpk _) ?_);rintro e w2 ⟨rfl,hw2⟩;obtain rfl:=hw2.symm;refine⟨_,rfl,?_⟩;try simp only[nmz]
 refine zF _ _ _ _ 1 pz (1+pz) rfl rfl rfl rfl rfl (by omega) (by omega) ?_;simp only[stz];clear hB1 hc;go_wp2;go_ret;exact⟨by rw[HZ.out];rfl,hm1⟩
def repoZ(n:Int):ByteArray:=[(⟨#[97]⟩:ByteArray),⟨#[98,47,99]⟩,⟨#[100]⟩].getD (pickZ n 3).toNat ⟨#[]⟩
theorem str_zs:(prog.info? 9).map (fun i=>(i.zero,i.size))=some (some (.string ⟨#[]⟩),1):=by kernel_rfl
theorem repo_any(n:Int)(hn:I64 n)(w:World):Calls prog 69 #[.int .i64 n] w (RetK (.string (repoZ n)) w):=by
 have hp:=pickZ_lt n 3 (by omega);have hpk:=fun w'=>pick_any n 3 hn (by omega) w';obtain⟨k,hk⟩:∃k:Nat,pickZ n 3=k:=⟨(pickZ n 3).toNat,by omega⟩
 have hr:repoZ n=[(⟨#[97]⟩:ByteArray),⟨#[98,47,99]⟩,⟨#[100]⟩].getD k ⟨#[]⟩:=by unfold repoZ;rw[hk];rfl
 rw[hk]at hp;simp only[hk]at hpk;rw[hr];have hk3:k<3:=by omega
 clear hr hk hp;go_enter func69,ntmps69;go_upto_region 1 with(fail);refine wpR [1,3,1,3,1,3] ?_;simp only[stz]
 refine wpD (yW 127 9 3 [(0,_),(1,_),(2,_)] [.string ⟨#[97]⟩,.string ⟨#[98,47,99]⟩,.string ⟨#[100]⟩] (.string ⟨#[]⟩) 1 (by rfl) (by rfl) (by rfl) underlying127 str_zs (by omega) (by omega) (by simp[Value.cells]) (fun w1 hB1 hm1 hs1=>?_))
 have hc:w1.cell? ⟨w.heap.size,k*1,none⟩=some (.string ([(⟨#[97]⟩:ByteArray),⟨#[98,47,99]⟩,⟨#[100]⟩].getD k ⟨#[]⟩)):=by
  rcases(show k=0\/k=1\/k=2 by omega)with rfl|rfl|rfl<;>simp[World.cell?,hB1,Value.cells]
 generalize w.heap.size=b1 at*;simp only[stz];refine wpD (wpC func17 (hpk _) ?_);rintro e w2 ⟨rfl,hw2⟩;obtain rfl:=hw2.symm;refine⟨_,rfl,?_⟩;try simp only[nmz]
 refine wpPI underlying127 1 hk3 ?_;simp only[nmz];refine wpXd 9 b1 (k*1) hc underlying9 trivial ?_;simp only[stz];clear hB1 hc;go_wp2;go_ret;exact⟨rfl,hm1⟩
section
variable{w w':World}{h:House}{c c':BlobL}{l l':LinkL}{Ft:Nat->Prop}
theorem HsAt.put(H:HsAt w h c l Ft){own:Bool}{G:Nat->Prop}{v:Value}{m:List UInt8}(hv:Sl own w G 1 ByteC v m)(hm:m.length<=4096)(hroom:h.room=67108864)(hfew:c.length<10000):
 Calls prog 37 #[.pointer (some ⟨h.bs,0,Option.none⟩),.agg (qA (ofI h.wd m)),v] w (fun e w'=>(∃v,e=.returned v)/\HStep w h Ft w' (putB (ofI h.wd m) m c) l):=by
 obtain⟨bl,F,h1,rfl,h3,h4,h5,h6,h7⟩:=H;have hu:=h1.used;refine(bPut_any h1 hv hm (by omega) (by simpa[cont]using hfew)).mono ?_
 rintro e w' ⟨⟨ok,er,rfl⟩,bl',k1,k2,k3,k4⟩;have hF:∀k,F k->¬(k=h.bs\/k=h.ms):=fun k hk e=>h4 k (e.elim (fun e=>.inl e) (fun e=>.inr (.inl e))) hk
 refine⟨⟨_,rfl⟩,fun k=>Ft k\/New w w' k,⟨bl',F,k1,k2,(h3.keep k3 hF (fun k hk=>by simp[emptyW]at hk)).bare,fun k hk hf=>?_,fun k hk=>(k4 k hk).imp (h5 k) id,fun k hk=>.inl (h6 k hk),fun k hk=>hk.elim (fun hk=>Nat.lt_of_lt_of_le (h7 k hk) k3.size) (fun hk=>hk.2)⟩,k3.mono (fun k _ e=>h5 k (e.elim (fun e=>.inl e) (fun e=>.inr (.inl e)))),fun k hk=>hk⟩
 rcases k4 k hk with hk|hk
 ·exact h4 k hk hf
 ·have:=h3.lt k hf
  have:=hk.1;omega
theorem HsAt.lay(H:HsAt w h c l Ft)(k:Key)(hk:KeyOk k)(hsz:k.1.size<=maxLen)(size:Int):
 Calls prog 110 #[h.q,.string k.1,.agg (qA k.2),.int .i64 size] w (fun e w'=>(∃v,e=.returned v)/\HStep w h Ft w' c (addL false h.limit l k size)):=by
 obtain⟨bl,F,h1,rfl,h3,h4,h5,h6,h7⟩:=H;refine(lay_at h3 k hk hsz size).mono ?_;rintro e w' ⟨rfl,F',k1,k2,k3⟩
 refine⟨⟨_,rfl⟩,fun k=>Ft k\/New w w' k,⟨bl,F',h1.keep k2 (fun k hk hf=>h4 k hk hf),rfl,k1.bare,fun k hk hf=>?_,fun k hk=>.inl (h5 k hk),fun k hk=>(k3 k hk).imp (h6 k) id,fun k hk=>hk.elim (fun hk=>Nat.lt_of_lt_of_le (h7 k hk) k2.size) (fun hk=>hk.2)⟩,k2.mono (fun k _ e=>h6 k e),fun k hk=>hk⟩
 rcases k3 k hf with hf|hf
 ·exact h4 k hk hf
 ·have:=h1.lt k hk
  have:=hf.1;omega
theorem putB_len(di m:List UInt8)(c:BlobL):(putB di m c).length<=c.length+1:=by
 unfold putB
 split<;>simp
end
def BtsC(w:World)(cs:Array Value)(b:List UInt8):Prop:=∃v,cs=#[v]/\Sl false w AnyB 1 ByteC v b
theorem BtsC.keep0{w w':World}{cs:Array Value}{b:List UInt8}(h:BtsC w cs b)(hm:Mod NoB w w'):BtsC w' cs b:=by
 obtain⟨v,h1,h2⟩:=h;exact⟨v,h1,h2.keep0 hm⟩
abbrev LsAt(w:World)(v:Value)(L:List (List UInt8)):Prop:=Sl false w AnyB 1 (BtsC w) v L
theorem yE{w w':World}{v:Value}{L:List (List UInt8)}(h:LsAt w v L)(hm:Mod NoB w w'):LsAt w' v L:=h.keep hm (fun _ _=>id) (fun _ _ h=>h.keep0 hm)
def cOf(wd:Nat)(L:List (List UInt8)):BlobL:=L.foldl (fun c b=>putB (ofI wd b) b c) []
theorem cOf_snoc(wd:Nat)(L:List (List UInt8))(k:Nat)(hk:k<L.length):cOf wd (L.take (k+1))=putB (ofI wd L[k]) L[k] (cOf wd (L.take k)):=by
 unfold cOf;rw[List.take_succ_eq_append_getElem hk,List.foldl_append]
 rfl
theorem cOf_len(wd:Nat):∀(L:List (List UInt8))(c:BlobL),(L.foldl (fun c b=>putB (ofI wd b) b c) c).length<=c.length+L.length
 | [],c=>by simp
 |b::L,c=>by
  have h1:=cOf_len wd L (putB (ofI wd b) b c);have h2:=putB_len (ofI wd b) b c;simp only[List.foldl_cons,List.length_cons];omega
def layZ(wd:Nat)(L:List (List UInt8))(l:LinkL)(a b:Int):LinkL:=
 let m:=L.getD (pickZ b L.length).toNat []
 addL false 1099511627776 l (repoZ a,ofI wd m) m.length
def lOf(wd:Nat)(L:List (List UInt8))(K:List Int)(j:Nat):LinkL:=(List.range j).foldl (fun l i=>layZ wd L l (K.getD (2*i) 0) (K.getD (2*i+1) 0)) []
theorem lOf_snoc(wd:Nat)(L:List (List UInt8))(K:List Int)(j:Nat):lOf wd L K (j+1)=layZ wd L (lOf wd L K j) (K.getD (2*j) 0) (K.getD (2*j+1) 0):=by
 unfold lOf;rw[List.range_succ,List.foldl_append]
 rfl
def laysN(L:List (List UInt8))(K:List Int):Nat:=if L=[]then 0 else K.length/2
def HsNew(w0 w:World)(h:House)(c:BlobL)(l:LinkL):Prop:=∃Ft,HsAt w h c l Ft/\(∀k,Ft k->w0.heap.size<=k)/\Mod NoB w0 w
theorem HsNew.step{w0 w w':World}{h:House}{c':BlobL}{l':LinkL}{Ft:Nat->Prop}(hn:∀k,Ft k->w0.heap.size<=k)(hm:Mod NoB w0 w)(hs:HStep w h Ft w' c' l'):HsNew w0 w' h c' l':=by
 obtain⟨F',h1,h2,h3⟩:=hs;exact⟨F',h1,fun k hk=>(h3 k hk).elim (hn k) (fun h=>Nat.le_trans hm.size h.1),hm.trans h2 (fun k hk hf=>by have:=hn k hf;omega)⟩
def BuildR(w:World)(wd:Nat)(L:List (List UInt8))(K:List Int):Ending->World->Prop:=fun e w'=>
 ∃h:House,h.wd=wd/\h.room=67108864/\h.limit=1099511627776/\(∃b,h.q=.pointer (some ⟨b,0,none⟩))/\e=.returned (.tuple #[.pointer (some ⟨h.bs,0,none⟩),h.q])/\HsNew w w' h (cOf wd L) (lOf wd L K (laysN L K))
def BldRel1(w0 w1:World)(h:House)(wd:Nat)(L:List (List UInt8))(i:Value)(w:World):Prop:=∃k:Nat,k<=L.length/\i=.int .i64 k/\HsNew w1 w h (cOf wd (L.take k)) []
def BldRel2(w0 w1:World)(h:House)(wd:Nat)(L:List (List UInt8))(K:List Int)(i:Value)(w:World):Prop:=∃j n:Nat,n=2*j/\j<=laysN L K/\i=.int .i64 (n:Nat)/\HsNew w1 w h (cOf wd L) (lOf wd L K j)
theorem repoZ_size(n:Int):(repoZ n).size<=maxLen:=by
 have h:∀k:Nat,([(⟨#[97]⟩:ByteArray),⟨#[98,47,99]⟩,⟨#[100]⟩].getD k ⟨#[]⟩).size<=3:=by
  intro k
  rcases k with _|_|_|k<;>simp[ByteArray.size]
 exact Nat.le_trans (h _) (by unfold maxLen;omega)
theorem laysN_lt{L:List (List UInt8)}{K:List Int}{j n:Nat}(hn:n=2*j)(hlt:n+1<K.length)(hL:0<L.length):j+1<=laysN L K:=by
 unfold laysN;rw[if_neg (fun e=>by rw[e]at hL;simp at hL)];omega
theorem sl_lt{α:Type}{own:Bool}{w:World}{G:Nat->Prop}{R:Array Value->α->Prop}{b off n cap:Nat}{l:List α}(h:Sl own w G 1 R (.slice (some ⟨b,off,none⟩) n cap) l){i:Nat}(hi:i<l.length):b<w.heap.size:=by
 obtain⟨a,c,e,_,_,h2⟩:=h;injection e with e1 e2 e3;obtain⟨b',off',e4,_,_,hc⟩:=h2 (fun e=>by rw[e]at hi;simp at hi);rw[<-e1]at e4;injection e4 with e4
 injection e4 with e5 e6 e7;obtain⟨cs,hs,_,hcs⟩:=hc i hi;have h0:=hcs 0 (by omega);rw[Array.getElem?_eq_getElem (by omega)]at h0;have:=block_lt_of_cell h0;rw[e5]
 exact this
def IdBox(w0:World)(x:List UInt8)(s:Value)(w:World):Prop:=∃b,s=.pointer (some ⟨b,0,none⟩)/\w0.heap.size<=b/\w.heap[b]?=some (.cells (qA x) 24 (0,0))/\Mod NoB w0 w
theorem built_any{w:World}{wd:Int}(hwd:I64 wd){lv kv:Value}{L:List (List UInt8)}{KK:List Int}(hlv:LsAt w lv L)(hkv:Sl false w AnyB 1 IntC kv KK)(hL:L.length<=1000)(hL2:∀b∈L,b.length<=4096)(hkl:KK.length<=1000)(hK2:∀x∈KK,I64 x):
 Calls prog 43 #[.agg #[.int .i64 wd,lv,kv]] w (BuildR w (widZ wd) L KK):=by
 have hwz:=widZ_ok wd;have hwid:=fun w'=>width_any wd hwd lv kv (Sl.one hlv) (Sl.one hkv) w';have hl1:=Sl.one hlv;have hk1:=Sl.one hkv
 obtain⟨lad,lcap,hle,-,-⟩:=Sl.at hlv;obtain⟨kad,kcap,hke,-,-⟩:=Sl.at hkv;have HLV:=hid hlv;have HKV:=hid hkv;clear hlv hkv;rw[hle]at HLV hwid hl1
 rw[hke]at HKV hwid hk1;subst hle hke;generalize hwn:widZ wd=wn at*;clear hwn;go_enter func43,ntmps43;go_upto_region 0 with(fail);refine wpR [1,3,3] ?_;simp only[stz]
 refine wpD (zL 68 _ _ (by rfl) (by rfl) (fun w1 hB1 hm1 hs1=>?_))
 replace hB1:w1.heap[w.heap.size]?=some (.cells #[.int .i64 wd,.slice lad L.length lcap,.slice kad KK.length kcap] 68 (0,0)):=hB1;simp only[stz]
 have HLV1:=hid (yE HLV.out hm1);have HKV1:=hid (HKV.out.keep0 hm1)
 have hcH:CellsAt w1 w.heap.size 0 #[.int .i64 wd,.slice lad L.length lcap,.slice kad KK.length kcap]:=CellsAt.whole hB1
 have hnew:=fun w'=>bNew_any (wn:Int) 67108864 (by omega) (by omega) w';go_upto_region 1 with(fail);refine wpR [1,1,1,3,3,3,3,3] ?_;simp only[stz]
 refine wpXA 68 w.heap.size 0 #[.int .i64 wd,.slice lad L.length lcap,.slice kad KK.length kcap] hcH underlying68 3 rfl trivial ?_;try simp only[nmz]
 refine wpD (wpCM func108 (hwid _) fun w2 hm2=>?_);try simp only[nmz]
 refine wpD (wpC func78 (hnew _) ?_);rintro e w3 ⟨bs,ms,rfl,hst3,hm3,hsf3⟩;refine⟨_,rfl,?_⟩;simp only[stz]
 refine qC rfl (fun w'=>qJ _ 0 #[.pointer (some ⟨bs,0,none⟩),.int .i64 0] rfl rfl (.pointer (some ⟨bs,0,none⟩)) rfl) ?_;simp only[nmz]
 refine qC rfl (fun w'=>qJ _ 1 #[.pointer (some ⟨bs,0,none⟩),.int .i64 0] rfl rfl (.int .i64 0) rfl) ?_;simp only[stz]
 rw[show((wn:Nat):Int).toNat=wn from by simp]at hst3;have hqn:=new_at 1099511627776 w3 (by omega) w3 (Mod.refl _ _);go_upto_region 2 with(fail)
 refine wpR [1,3,3,3,3,3] ?_;simp only[stz];refine wpD (wpC func109 (hqn) ?_);rintro e w4 ⟨qb,F,rfl,hlk4,hm4,hF4⟩;refine⟨_,rfl,?_⟩;simp only[stz]
 refine qC rfl (fun w'=>qJ _ 0 #[.pointer (some ⟨qb,0,none⟩),.int .i64 0] rfl rfl (.pointer (some ⟨qb,0,none⟩)) rfl) ?_;simp only[nmz]
 refine qC rfl (fun w'=>qJ _ 1 #[.pointer (some ⟨qb,0,none⟩),.int .i64 0] rfl rfl (.int .i64 0) rfl) ?_;simp only[stz]
 have hm14:=hm2.trans0 (hm3.trans0 hm4);obtain⟨h,hh⟩:∃h:House,h=⟨bs,ms,wn,67108864,.pointer (some ⟨qb,0,none⟩),1099511627776⟩:=⟨_,rfl⟩
 have hhb:h.bs=bs:=by rw[hh]
 have hhw:h.wd=wn:=by rw[hh]
 have hhr:h.room=67108864:=by rw[hh]
 have hhq:h.q=.pointer (some ⟨qb,0,none⟩):=by rw[hh]
 have hhl:h.limit=1099511627776:=by rw[hh]
 have hH0:HsNew w1 w4 h (cOf wn (L.take 0)) []:=by
  refine⟨fun k=>SFoot bs ms [] k\/F k,?_,fun k hk=>?_,hm14⟩
  ·rw[hh]
   refine⟨[],F,hst3.keep0 hm4,rfl,hlk4.bare,fun k hk hf=>?_,fun k hk=>.inl hk,fun k hk=>.inr hk,fun k hk=>hk.elim (fun hk=>Nat.lt_of_lt_of_le (hsf3 k hk).2 hm4.size) (fun hk=>hlk4.lt k hk)⟩
   have h1:=(hsf3 k hk).2;have h2:=hF4 k hf;omega
  ·have h3:=hm2.size
   have h4:=hm3.size
   rcases hk with hk|hk
   ·have:=(hsf3 k hk).1
    omega
   ·have:=hF4 k hk
    omega
 have HR0:Hid (BldRel1 w w1 h wn L (.int .i64 (0:Nat)) w4):=hid ⟨0,Nat.zero_le _,rfl,hH0⟩;have hbH:=hB1;clear hH0 hh hst3 hm3 hsf3 hqn hlk4 hm4 hF4 hm2 hcH hnew hB1 hm14
 have hs1':w.heap.size<w1.heap.size:=hs1;generalize hhb2:w.heap.size=hb at*;go_wp2
 go_loopw [8] (BldRel1 w w1 h wn L) (fun i _=>L.length-(intOf i).toNat)
 case atStart=>exact HR0.out
 case round=>
  rename World=>wr
  obtain⟨k,hk,rfl,hns⟩:=hrel;obtain⟨Ft,hat,hFn,hmr⟩:=hns;have hbr:=hmr.obj id hbH
  have hcl:wr.cell? ⟨hb,1,none⟩=some (.slice lad L.length lcap):=by simp[World.cell?,hbr]
  have hcl0:wr.cell? ⟨hb,0+1,none⟩=some (.slice lad L.length lcap):=hcl
  by_cases hlt:k<L.length
  ·have hz:(k:Int)<(L.length:Nat):=by omega
   obtain⟨_,_,hae,-,hatL⟩:=(yE HLV1.out hmr).at;injection hae with hae1 hae2 hae3;subst hae1 hae3;obtain⟨b,off,rfl,-,-,hcc⟩:=hatL k hlt
   obtain⟨cs,-,⟨vk,rfl,hvk⟩,hcA⟩:=hcc k hlt;have hck:=CellsAt.one.1 hcA;have hbw:b<w1.heap.size:=sl_lt HLV1.out hlt;have hmk:=hL2 _ (List.getElem_mem hlt)
   have hsn:=cOf_snoc wn L k hlt;have hcn:(cOf wn (L.take k)).length<=1000:=Nat.le_trans (cOf_len wn (L.take k) []) (by simp;omega);generalize L[k]=m at*
   obtain⟨va,vc,hve,-,-⟩:=Sl.at hvk;have HVK:=hid hvk;rw[hve]at HVK hck;have HSN:=hid hsn
   have hrc:CellsAt wr hb 0 #[.int .i64 wd,.slice (some ⟨b,off,none⟩) L.length lcap,.slice kad KK.length kcap]:=CellsAt.whole hbr
   have href:=fun w' (hm:Mod NoB wr w')=>refOf_any (HVK.out.keep0 hm) (by omega) wn hwz.1 hwz.2;have hdi:(ofI wn m).length=32:=ofI_len hwz.2
   have hic:(qA (ofI wn m)).size=32:=by rw[qB,hdi]
   clear hsn hatL hcc hcA hae2 hve hvk;go_upto_region 8 with(fail)
   go_cut [9] (fun s wx=>IdBox wr (ofI wn m) s wx)
   case first=>
    have hS:Mod NoB wr wr.drew:=(Mod.refl _ _).drew;have hT:Mod NoB wr wr.drew:=(Mod.refl _ _).drew
    refine yV [(0,3),(1,0),(2,3),(3,3),(4,0),(5,0)] 7 [(13,3)] [] (fun w'=>Mod NoB wr w') #[true,true,true,true,true,true,false,false,false,false,false,false,false,false] (by kernel_rfl) (by kernel_rfl) (by kernel_rfl) (by kernel_rfl) (by kernel_rfl) (fun _ _ _ _ hd h=>⟨hd.trans h.1,h.2⟩) hS ?_
    simp only[stz];refine wpLd 22 hb (0+1) (fun w' hS=>hS.cell id hcl0) underlying22 ?_;simp only[stz];refine wpPI underlying22 1 hlt ?_;simp only[nmz]
    refine wpLd 53 b (off+k*1) (fun w' hS=>hS.cell id hck) underlying53 ?_;simp only[nmz]
    refine wpLA 68 hb 0 #[.int .i64 wd,.slice (some ⟨b,off,none⟩) L.length lcap,.slice kad KK.length kcap] (fun w' hS=>hrc.keep hS id) underlying68 3 rfl ?_;simp only[stz]
    refine qU [6,11] (by kernel_rfl) ?_;simp only[zz3,false_implies,implies_true];refine⟨?_,?_⟩
    ·intro K hK
     simp only[zz5];refine wpC func108 (hwid _) ?_;rintro e w5 ⟨rfl,hm5⟩
     try replace hB4:=hm5.obj id hB4
     replace hT:=hT.trans0 hm5;clear hm5;refine⟨_,rfl,hK _ _ hT ?_⟩;clear hK K;try simp only[nmz]
     refine qU [7,11] (by kernel_rfl) ?_;simp only[zz3,false_implies,implies_true];refine⟨?_,?_⟩
     ·intro K hK
      simp only[zz5];refine wpC func79 (href _ hT) ?_;rintro e w6 ⟨rfl,hm6⟩
      try replace hB4:=hm6.obj id hB4
      replace hT:=hT.trans0 hm6;clear hm6;refine⟨_,rfl,hK _ _ hT ?_⟩;clear hK K;try simp only[nmz]
      refine zB 8 (.tuple #[.agg (qA (ofI wn m)),.int .i64 0]) (by kernel_rfl) (fun _ _ _ _ hd h=>⟨hd.trans h.1,h.2⟩) (fun w'=>by simp only[zz5];exact jX _ rfl (.tuple #[.agg (qA (ofI wn m)),.int .i64 0]) rfl) hT ?_
      simp only[zz5];try simp only[nmz]
      refine zB 9 (.agg (qA (ofI wn m))) (by kernel_rfl) (fun _ _ _ _ hd h=>⟨hd.trans h.1,h.2⟩) (fun w'=>by simp only[zz5];exact qJ _ 0 #[.agg (qA (ofI wn m)),.int .i64 0] rfl rfl (.agg (qA (ofI wn m))) rfl) hT ?_
      simp only[zz5];try simp only[nmz]
      refine zB 10 (.int .i64 0) (by kernel_rfl) (fun _ _ _ _ hd h=>⟨hd.trans h.1,h.2⟩) (fun w'=>by simp only[zz5];exact qJ _ 1 #[.agg (qA (ofI wn m)),.int .i64 0] rfl rfl (.int .i64 0) rfl) hT ?_
      simp only[zz5];try simp only[nmz]
      refine qU [11] (by kernel_rfl) ?_;simp only[zz3,false_implies,implies_true];intro K hK;simp only[zz5]
      refine yL 24 _ (by rfl) idZ (fun b9 w7 hbe hB4 hm7 hs7=>?_);replace hB4:w7.heap[b9]?=some (.cells (qA (List.replicate 32 0)) 24 (0,0)):=hB4
      have hbn:wr.heap.size<=b9:=by rw[hbe];exact hT.size
      replace hT:=hT.trans0 hm7;clear hm7 hbe hs7;refine hK _ _ hT ?_;clear hK K;try simp only[nmz]
      refine qU [12] (by kernel_rfl) ?_;simp only[zz3,false_implies,implies_true];intro K hK;simp only[zz5]
      refine qF 24 _ _ b9 0 (qA (ofI wn m)) (by rfl) (by rfl) (by rfl) (qP _) 32 (by kernel_rfl) hic _ _ hB4 (by rw[hic,qB];simp) (fun w8 hB8 hm8=>?_)
      rw[qD (by rw[hic,qB];rfl)]at hB8;replace hT:Mod NoB wr w8:=hT.transB hm8 hbn;clear hB4 hm8;have hB4:=hB8;clear hB8;refine hK _ _ hT ?_
      clear hK K;try simp only[nmz]
      refine xK ?_;try simp only[zz4]
      simp only[stz];go_wp2
      go_meet
      case rel=>exact⟨b9,rfl,hbn,hB4,hT⟩
     ·intro K hK
      simp only[zz5];refine yL 24 _ (by rfl) idZ (fun b9 w7 hbe hB4 hm7 hs7=>?_)
      replace hB4:w7.heap[b9]?=some (.cells (qA (List.replicate 32 0)) 24 (0,0)):=hB4;have hbn:wr.heap.size<=b9:=by rw[hbe];exact hT.size
      replace hT:=hT.trans0 hm7;clear hm7 hbe hs7;refine hK _ _ hT ?_;clear hK K;try simp only[nmz]
      refine qU [7] (by kernel_rfl) ?_;simp only[zz3,false_implies,implies_true];intro K hK;simp only[zz5];refine wpC func79 (href _ hT) ?_;rintro e w6 ⟨rfl,hm6⟩
      try replace hB4:=hm6.obj id hB4
      replace hT:=hT.trans0 hm6;clear hm6;refine⟨_,rfl,hK _ _ hT ?_⟩;clear hK K;try simp only[nmz]
      refine zB 8 (.tuple #[.agg (qA (ofI wn m)),.int .i64 0]) (by kernel_rfl) (fun _ _ _ _ hd h=>⟨hd.trans h.1,h.2⟩) (fun w'=>by simp only[zz5];exact jX _ rfl (.tuple #[.agg (qA (ofI wn m)),.int .i64 0]) rfl) hT ?_
      simp only[zz5];try simp only[nmz]
      refine zB 9 (.agg (qA (ofI wn m))) (by kernel_rfl) (fun _ _ _ _ hd h=>⟨hd.trans h.1,h.2⟩) (fun w'=>by simp only[zz5];exact qJ _ 0 #[.agg (qA (ofI wn m)),.int .i64 0] rfl rfl (.agg (qA (ofI wn m))) rfl) hT ?_
      simp only[zz5];try simp only[nmz]
      refine zB 10 (.int .i64 0) (by kernel_rfl) (fun _ _ _ _ hd h=>⟨hd.trans h.1,h.2⟩) (fun w'=>by simp only[zz5];exact qJ _ 1 #[.agg (qA (ofI wn m)),.int .i64 0] rfl rfl (.int .i64 0) rfl) hT ?_
      simp only[zz5];try simp only[nmz]
      refine qU [12] (by kernel_rfl) ?_;simp only[zz3,false_implies,implies_true];intro K hK;simp only[zz5]
      refine qF 24 _ _ b9 0 (qA (ofI wn m)) (by rfl) (by rfl) (by rfl) (qP _) 32 (by kernel_rfl) hic _ _ hB4 (by rw[hic,qB];simp) (fun w8 hB8 hm8=>?_)
      rw[qD (by rw[hic,qB];rfl)]at hB8;replace hT:Mod NoB wr w8:=hT.transB hm8 hbn;clear hB4 hm8;have hB4:=hB8;clear hB8;refine hK _ _ hT ?_
      clear hK K;try simp only[nmz]
      refine xK ?_;try simp only[zz4]
      simp only[stz];go_wp2
      go_meet
      case rel=>exact⟨b9,rfl,hbn,hB4,hT⟩
    ·intro K hK
     simp only[zz5];refine yL 24 _ (by rfl) idZ (fun b9 w7 hbe hB4 hm7 hs7=>?_)
     replace hB4:w7.heap[b9]?=some (.cells (qA (List.replicate 32 0)) 24 (0,0)):=hB4;have hbn:wr.heap.size<=b9:=by rw[hbe];exact hT.size
     replace hT:=hT.trans0 hm7;clear hm7 hbe hs7;refine hK _ _ hT ?_;clear hK K;try simp only[nmz]
     refine qU [6] (by kernel_rfl) ?_;simp only[zz3,false_implies,implies_true];intro K hK;simp only[zz5];refine wpC func108 (hwid _) ?_;rintro e w5 ⟨rfl,hm5⟩
     try replace hB4:=hm5.obj id hB4
     replace hT:=hT.trans0 hm5;clear hm5;refine⟨_,rfl,hK _ _ hT ?_⟩;clear hK K;try simp only[nmz]
     refine qU [7] (by kernel_rfl) ?_;simp only[zz3,false_implies,implies_true];intro K hK;simp only[zz5];refine wpC func79 (href _ hT) ?_;rintro e w6 ⟨rfl,hm6⟩
     try replace hB4:=hm6.obj id hB4
     replace hT:=hT.trans0 hm6;clear hm6;refine⟨_,rfl,hK _ _ hT ?_⟩;clear hK K;try simp only[nmz]
     refine zB 8 (.tuple #[.agg (qA (ofI wn m)),.int .i64 0]) (by kernel_rfl) (fun _ _ _ _ hd h=>⟨hd.trans h.1,h.2⟩) (fun w'=>by simp only[zz5];exact jX _ rfl (.tuple #[.agg (qA (ofI wn m)),.int .i64 0]) rfl) hT ?_
     simp only[zz5];try simp only[nmz]
     refine zB 9 (.agg (qA (ofI wn m))) (by kernel_rfl) (fun _ _ _ _ hd h=>⟨hd.trans h.1,h.2⟩) (fun w'=>by simp only[zz5];exact qJ _ 0 #[.agg (qA (ofI wn m)),.int .i64 0] rfl rfl (.agg (qA (ofI wn m))) rfl) hT ?_
     simp only[zz5];try simp only[nmz]
     refine zB 10 (.int .i64 0) (by kernel_rfl) (fun _ _ _ _ hd h=>⟨hd.trans h.1,h.2⟩) (fun w'=>by simp only[zz5];exact qJ _ 1 #[.agg (qA (ofI wn m)),.int .i64 0] rfl rfl (.int .i64 0) rfl) hT ?_
     simp only[zz5];try simp only[nmz]
     refine qU [12] (by kernel_rfl) ?_;simp only[zz3,false_implies,implies_true];intro K hK;simp only[zz5]
     refine qF 24 _ _ b9 0 (qA (ofI wn m)) (by rfl) (by rfl) (by rfl) (qP _) 32 (by kernel_rfl) hic _ _ hB4 (by rw[hic,qB];simp) (fun w8 hB8 hm8=>?_)
     rw[qD (by rw[hic,qB];rfl)]at hB8;replace hT:Mod NoB wr w8:=hT.transB hm8 hbn;clear hB4 hm8;have hB4:=hB8;clear hB8;refine hK _ _ hT ?_
     clear hK K;try simp only[nmz]
     refine xK ?_;try simp only[zz4]
     simp only[stz];go_wp2
     go_meet
     case rel=>exact⟨b9,rfl,hbn,hB4,hT⟩
   case rest=>
    rename World=>w8
    obtain⟨ib,rfl,hib,hB8,hS8⟩:=hcut;have hib8:ib<w8.heap.size:=(Array.getElem?_eq_some_iff.1 hB8).1;have hat8:=hat.keep0 hS8;have hlt8:=hat.lt
    have hput:=fun(w':World)(hm:Mod NoB w8 w')=>(hat8.keep0 hm).put (HVK.out.keep0 (hS8.trans0 hm)) hmk hhr (by omega);rw[hhb]at hput;rw[hhw]at hput
    have hcl8:=hS8.cell id hcl0;have hck8:=hS8.cell id hck;have hci8:CellsAt w8 ib 0 (qA (ofI wn m)):=CellsAt.whole hB8;have hm18:=hmr.trans0 hS8
    clear href hrc hbr hcl hcl0 hck hB8;go_upto_region 9 with(fail);have hnF:¬Ft ib:=fun e=>by have:=hlt8 _ e;omega
    have hS:CellsAt w8.drew ib 0 (qA (ofI wn m))/\w8.drew.cell? ⟨hb,0+1,none⟩=some (.slice (some ⟨b,off,none⟩) L.length lcap)/\w8.drew.cell? ⟨b,off+k*1,none⟩=some (.slice va m.length vc)/\Mod Ft w8 w8.drew:=⟨hci8,hcl8,hck8,(Mod.refl _ _).drew⟩
    have hfin:=hput w8.drew ((Mod.refl _ _).drew);have hhb1:hb<w1.heap.size:=hs1';have hb1:b<w1.heap.size:=hbw
    have hnH:¬Ft hb:=fun e=>by have:=hFn _ e;omega
    have hnb:¬Ft b:=fun e=>by have:=hFn _ e;omega
    refine wpRZ [3,0,3,0,3,3,0,1] [] (fun w'=>CellsAt w' ib 0 (qA (ofI wn m))/\w'.cell? ⟨hb,0+1,none⟩=some (.slice (some ⟨b,off,none⟩) L.length lcap)/\w'.cell? ⟨b,off+k*1,none⟩=some (.slice va m.length vc)/\Mod Ft w8 w') hS ?_
    simp only[stz];refine wpLA 24 ib 0 (qA (ofI wn m)) (fun w' hS=>hS.1) underlying24 32 hic ?_;simp only[stz]
    refine wpLd 22 hb (0+1) (fun w' hS=>hS.2.1) underlying22 ?_;simp only[stz];refine wpPI underlying22 1 hlt ?_;simp only[nmz]
    refine wpLd 53 b (off+k*1) (fun w' hS=>hS.2.2.1) underlying53 ?_;simp only[nmz];refine qL rfl (fun K hK=>?_);refine wpC func37 (hfin) ?_
    rintro e w9 ⟨⟨v9,rfl⟩,hst9⟩;have hmd:Mod Ft w8.drew w9:=by obtain⟨_,_,h2,_⟩:=hst9;exact h2
    have hS9:CellsAt w9 ib 0 (qA (ofI wn m))/\w9.cell? ⟨hb,0+1,none⟩=some (.slice (some ⟨b,off,none⟩) L.length lcap)/\w9.cell? ⟨b,off+k*1,none⟩=some (.slice va m.length vc)/\Mod Ft w8 w9:=⟨hci8.keep hmd hnF,hmd.cell hnH hcl8,hmd.cell hnb hck8,hS.2.2.2.trans hmd (fun _ _ h=>h)⟩
    have hns9:=HsNew.step hFn (hm18.trans0 ((Mod.refl _ _).drew)) hst9
    have HR:Hid (BldRel1 w w1 h wn L (.int .i64 ((k+1:Nat):Int)) w9):=hid ⟨k+1,by omega,rfl,by rw[HSN.out];exact hns9⟩;refine⟨_,rfl,hK _ _ hS9 ?_⟩;clear hK K
    simp only[stz];clear hS hS9 hmd hst9 hfin hput hci8 hcl8 hck8 hat8;go_wp2
    go_roundw
    case rel=>exact HR.out
    case measure=>simp[intOf];omega
  ·have hz:¬(k:Int)<(L.length:Nat):=by omega
   obtain rfl:k=L.length:=by omega
   rw[List.take_length]at hat;have HR0:Hid (BldRel2 w w1 h wn L KK (.int .i64 (0:Nat)) wr):=hid ⟨0,0,rfl,Nat.zero_le _,rfl,Ft,hat,hFn,hmr⟩
   clear hat hFn hmr hbr hcl0;go_wp2;clear hcl
   go_loopw [11] (BldRel2 w w1 h wn L KK) (fun i _=>KK.length+1-(intOf i).toNat)
   case atStart=>exact HR0.out
   case round=>
    rename World=>wr
    obtain⟨j,n,hn,hj,rfl,Ft,hat,hFn,hmr⟩:=hrel;have HN:=hid hn;have HJ:=hid hj;have hbr:=hmr.obj id hbH
    have hcl:wr.cell? ⟨hb,1,none⟩=some (.slice lad L.length lcap):=by simp[World.cell?,hbr]
    have hcl0:wr.cell? ⟨hb,0+1,none⟩=some (.slice lad L.length lcap):=hcl
    have hck:wr.cell? ⟨hb,2,none⟩=some (.slice kad KK.length kcap):=by simp[World.cell?,hbr]
    have hck0:wr.cell? ⟨hb,0+2,none⟩=some (.slice kad KK.length kcap):=hck
    have hHc:CellsAt wr hb 0 #[.int .i64 wd,.slice lad L.length lcap,.slice kad KK.length kcap]:=CellsAt.whole hbr;clear hn hj
    by_cases hlt:n+1<KK.length
    ·have hz:(n:Int)+1<(KK.length:Nat):=by omega
     by_cases hL0:0<L.length
     ·have hz0:(L.length:Int)>0:=by omega
      obtain⟨_,_,hae,-,hatK⟩:=(HKV1.out.keep0 hmr).at;injection hae with hae1 hae2 hae3;subst hae1 hae3;obtain⟨kb,koff,rfl,-,-,hkc⟩:=hatK n (by omega)
      obtain⟨cs,-,rfl,hk0A⟩:=hkc n (by omega);obtain⟨cs,-,rfl,hk1A⟩:=hkc (n+1) hlt;have hk0c:=CellsAt.one.1 hk0A;have hk1c:=CellsAt.one.1 hk1A
      have hi0:=hK2 _ (List.getElem_mem (show n<KK.length by omega));have hi1:=hK2 _ (List.getElem_mem hlt);have hlo:=lOf_snoc wn L KK j;rw[<-HN.out]at hlo
      have hg0:KK.getD n 0=KK[n]:=by rw[List.getD_eq_getElem?_getD,List.getElem?_eq_getElem (by omega)];rfl
      have hg1:KK.getD (n+1) 0=KK[n+1]:=by rw[List.getD_eq_getElem?_getD,List.getElem?_eq_getElem hlt];rfl
      rw[hg0,hg1]at hlo;generalize KK[n]=x0 at*;generalize KK[n+1]=x1 at*;have hpl:=pickZ_lt x1 L.length (by omega)
      have hpk:=fun w'=>pick_any x1 L.length hi1 (by omega) w';unfold layZ at hlo;obtain⟨p,hp⟩:∃p:Nat,pickZ x1 L.length=p:=⟨(pickZ x1 L.length).toNat,by omega⟩
      rw[hp]at hpl hlo;simp only[hp]at hpk;have hpL:p<L.length:=by omega
      have hgm:L.getD (p:Int).toNat []=L[p]:=by rw[Int.toNat_natCast,List.getD_eq_getElem?_getD,List.getElem?_eq_getElem hpL];rfl
      simp only[hgm]at hlo;obtain⟨_,_,hae,-,hatL⟩:=(yE HLV1.out hmr).at;injection hae with hae1 hae2' hae3;subst hae1 hae3
      obtain⟨b,off,rfl,-,-,hcc⟩:=hatL p hpL;obtain⟨cs,-,⟨vk,rfl,hvk⟩,hcA⟩:=hcc p hpL;have hcb:=CellsAt.one.1 hcA;have hmk:=hL2 _ (List.getElem_mem hpL)
      generalize L[p]=m at*;obtain⟨va,vc,hve,-,-⟩:=Sl.at hvk;have HVK:=hid hvk;rw[hve]at HVK hcb;have HLO:=hid hlo
      have hbw:kb<w1.heap.size:=sl_lt HKV1.out (show n<KK.length by omega);clear hlo hatK hkc hk0A hk1A hae2 hae2' hatL hcc hcA hve hvk hp hpl hg0 hg1 hgm
      go_upto_region 13 with(fail);have hS:Mod NoB wr wr.drew:=(Mod.refl _ _).drew
      refine wpRZ [3,0,3,0,3,3,3,0,3,0,3,1,3,0,3] [] (fun w'=>Mod NoB wr w') hS ?_;simp only[stz]
      refine wpLd 22 hb (0+1) (fun w' hS=>hS.cell id hcl0) underlying22 ?_;simp only[stz];refine wpLd 64 hb (0+2) (fun w' hS=>hS.cell id hck0) underlying64 ?_
      simp only[stz];refine zF _ _ _ _ (n:Int) 1 ((n+1:Nat):Int) rfl rfl rfl rfl (by omega) (by omega) (by omega) ?_;simp only[nmz]
      refine wpPI underlying64 1 hlt ?_;simp only[nmz];refine wpLd 3 kb (koff+(n+1)*1) (fun w' hS=>hS.cell id hk1c) underlying3 ?_;simp only[stz]
      refine wpLd 22 hb (0+1) (fun w' hS=>hS.cell id hcl0) underlying22 ?_;simp only[nmz];refine wpPL ?_;simp only[nmz];refine qL rfl (fun K hK=>?_)
      refine wpC func17 (hpk _) ?_;rintro e w2 ⟨rfl,hw2⟩;obtain rfl:=hw2.symm;refine⟨_,rfl,hK _ _ hS ?_⟩;clear hK K;try simp only[nmz]
      refine wpPI underlying22 1 hpL ?_;simp only[nmz];refine wpLd 53 b (off+p*1) (fun w' hS=>hS.cell id hcb) underlying53 ?_;simp only[stz];have hm1c:=hmr.trans0 hS
      have hat1:=hat.keep0 hS;have hHc1:=hHc.keep hS id;have hk0c1:=hS.cell id hk0c;have hck1:=hS.cell id hck0;have HVK1:=hid (HVK.out.keep0 hS)
      generalize wr.drew=wq at*;have href:=fun w' (hm:Mod NoB wq w')=>refOf_any (HVK1.out.keep0 hm) (by omega) wn hwz.1 hwz.2
      have hdi:(ofI wn m).length=32:=ofI_len hwz.2;have hic:(qA (ofI wn m)).size=32:=by rw[qB,hdi]
      clear hcl hcl0 hck hck0 hbr hHc hk0c hk1c hcb HVK hS hpk hat hmr hw2;go_upto_region 14 with(fail);refine wpR [3,1,1,1,3,3,3,1,1,3] ?_;simp only[stz]
      refine wpXA 68 hb 0 #[.int .i64 wd,.slice (some ⟨b,off,none⟩) L.length lcap,.slice (some ⟨kb,koff,none⟩) KK.length kcap] hHc1 underlying68 3 rfl trivial ?_
      try simp only[nmz]
      refine wpD (wpCM func108 (hwid _) fun w5 hm5=>?_);try simp only[nmz]
      refine wpD (wpCM func79 (href _ hm5) fun w6 hm6=>?_);simp only[stz]
      refine qC rfl (fun w'=>qJ _ 0 #[.agg (qA (ofI wn m)),.int .i64 0] rfl rfl (.agg (qA (ofI wn m))) rfl) ?_;simp only[nmz]
      refine qC rfl (fun w'=>qJ _ 1 #[.agg (qA (ofI wn m)),.int .i64 0] rfl rfl (.int .i64 0) rfl) ?_;simp only[nmz]
      refine wpD (qN 24 _ (by rfl) idZ (fun w7 hB7 hm7 hs7=>?_));replace hB7:w7.heap[w6.heap.size]?=some (.cells (qA (List.replicate 32 0)) 24 (0,0)):=hB7
      try simp only[nmz]
      refine wpD (qF 24 _ _ w6.heap.size 0 (qA (ofI wn m)) (by rfl) (by rfl) (by rfl) (qP _) 32 (by kernel_rfl) hic _ _ hB7 (by rw[hic,qB];simp) (fun w8 hB8 hm8=>?_))
      rw[qD (by rw[hic,qB];simp)]at hB8;simp only[stz];have hS6:Mod NoB wq w6:=hm5.trans0 hm6
      have hS8:Mod NoB wq w8:=(hS6.trans0 hm7).transB hm8 hS6.size;have hib6:=hS6.size;have hib8:w6.heap.size<w8.heap.size:=(Array.getElem?_eq_some_iff.1 hB8).1
      generalize hib:w6.heap.size=ib at*;have hat8:=hat1.keep0 hS8;have hlt1:=hat1.lt
      have hlay:=fun(w':World)(hm:Mod NoB w8 w')=>(hat8.keep0 hm).lay (repoZ x0,ofI wn m) hdi (repoZ_size x0) (m.length:Nat);rw[hhq]at hlay;rw[hhl]at hlay
      simp only[<-HLO.out]at hlay;have hci8:CellsAt w8 ib 0 (qA (ofI wn m)):=CellsAt.whole hB8;have hk08:=hS8.cell id hk0c1;have hck8:=hS8.cell id hck1
      have hm18:=hm1c.trans0 hS8;have hrep:=fun w'=>repo_any x0 hi0 w';clear hS6 hS8 hm5 hm6 hm7 hm8 hB7 hs7 href hHc1 hB8 hat1 hk0c1 hck1;go_upto_region 15 with(fail)
      have hnF:¬Ft ib:=fun e=>by have:=hlt1 _ e;omega
      have hnH:¬Ft hb:=fun e=>by have:=hFn _ e;omega
      have hnb:¬Ft kb:=fun e=>by have:=hFn _ e;omega
      have hS:CellsAt w8.drew ib 0 (qA (ofI wn m))/\w8.drew.cell? ⟨hb,0+2,none⟩=some (.slice (some ⟨kb,koff,none⟩) KK.length kcap)/\w8.drew.cell? ⟨kb,koff+n*1,none⟩=some (.int .i64 x0)/\Mod Ft w8 w8.drew:=⟨hci8,hck8,hk08,(Mod.refl _ _).drew⟩
      have hnlt:n<KK.length:=by omega
      refine wpRP [(0,3),(1,3),(2,0),(3,3),(4,3),(5,0),(7,0),(8,3),(9,3),(6,1),(10,1)] [] (fun w'=>CellsAt w' ib 0 (qA (ofI wn m))/\w'.cell? ⟨hb,0+2,none⟩=some (.slice (some ⟨kb,koff,none⟩) KK.length kcap)/\w'.cell? ⟨kb,koff+n*1,none⟩=some (.int .i64 x0)/\Mod Ft w8 w') hS ?_
      simp only[stz];refine wpLd 64 hb (0+2) (fun w' hS=>hS.2.1) underlying64 ?_;simp only[stz];refine wpPI underlying64 1 hnlt ?_;simp only[nmz]
      refine wpLd 3 kb (koff+n*1) (fun w' hS=>hS.2.2.1) underlying3 ?_;simp only[nmz];refine wpLA 24 ib 0 (qA (ofI wn m)) (fun w' hS=>hS.1) underlying24 32 hic ?_
      simp only[stz];refine wpPL ?_;simp only[nmz];refine qL rfl (fun K hK=>?_);refine wpC func69 (hrep _) ?_;rintro e w9 ⟨rfl,hm9⟩
      have hm89:Mod NoB w8 w9:=((Mod.refl NoB w8).drew).trans0 hm9
      have hS9:CellsAt w9 ib 0 (qA (ofI wn m))/\w9.cell? ⟨hb,0+2,none⟩=some (.slice (some ⟨kb,koff,none⟩) KK.length kcap)/\w9.cell? ⟨kb,koff+n*1,none⟩=some (.int .i64 x0)/\Mod Ft w8 w9:=⟨hci8.keep hm89 id,hm89.cell id hck8,hm89.cell id hk08,hm89.mono (fun _ _ h=>h.elim)⟩
      have hfin:=hlay w9 hm89;refine⟨_,rfl,hK _ _ hS9 ?_⟩;clear hK K;try simp only[nmz]
      refine qL rfl (fun K hK=>?_);refine wpC func110 (hfin) ?_;rintro e w10 ⟨⟨v10,rfl⟩,hst10⟩;have hmd:Mod Ft w9 w10:=by obtain⟨_,_,h2,_⟩:=hst10;exact h2
      have hS10:CellsAt w10 ib 0 (qA (ofI wn m))/\w10.cell? ⟨hb,0+2,none⟩=some (.slice (some ⟨kb,koff,none⟩) KK.length kcap)/\w10.cell? ⟨kb,koff+n*1,none⟩=some (.int .i64 x0)/\Mod Ft w8 w10:=⟨hS9.1.keep hmd hnF,hmd.cell hnH hS9.2.1,hmd.cell hnb hS9.2.2.1,hS9.2.2.2.trans hmd (fun _ _ h=>h)⟩
      have hns:=HsNew.step hFn (hm18.trans0 hm89) hst10
      have HR:Hid (BldRel2 w w1 h wn L KK (.int .i64 ((n+2:Nat):Int)) w10):=hid ⟨j+1,n+2,by have:=HN.out;omega,laysN_lt HN.out hlt hL0,rfl,hns⟩
      refine⟨_,rfl,hK _ _ hS10 ?_⟩;clear hK K;simp only[stz];clear hS hS9 hS10 hmd hst10 hns hfin hlay hm9 hm89 hat8 hci8 hk08 hck8 hm18 hrep;go_wp2
      go_roundw
      case rel=>exact HR.out
      case measure=>simp[intOf];omega
     ·have hz0:¬(L.length:Int)>0:=by omega
      have hjl:j=laysN L KK:=by
       have h1:=HJ.out;have h2:L=[]:=List.eq_nil_of_length_eq_zero (by omega);unfold laysN at h1 |-;rw[if_pos h2]at h1 |-;omega
      have HF:Hid (BuildR w wn L KK (.returned (.tuple #[.pointer (some ⟨bs,0,none⟩),.pointer (some ⟨qb,0,none⟩)])) wr):=hid ⟨h,hhw,hhr,hhl,⟨qb,hhq⟩,by rw[hhb,hhq],Ft,by rw[<-hjl];exact hat,fun k hk=>by have:=hFn k hk;have:=hm1.size;omega,hm1.trans0 hmr⟩
      clear hat hFn hmr hbr hHc hcl0 hck0;go_wp2;go_ret2;exact HF.out
    ·have hz:¬(n:Int)+1<(KK.length:Nat):=by omega
     have hnb:n<=1000:=by
      have h1:=HJ.out;have h3:=HN.out;unfold laysN at h1
      split at h1<;>omega
     have hjl:j=laysN L KK:=by
      have h1:=HJ.out;have h3:=HN.out;unfold laysN at h1 |-
      split at h1
      ·rename_i h2
       rw[if_pos h2];omega
      ·rename_i h2
       rw[if_neg h2];omega
     have HF:Hid (BuildR w wn L KK (.returned (.tuple #[.pointer (some ⟨bs,0,none⟩),.pointer (some ⟨qb,0,none⟩)])) wr):=hid ⟨h,hhw,hhr,hhl,⟨qb,hhq⟩,by rw[hhb,hhq],Ft,by rw[<-hjl];exact hat,fun k hk=>by have:=hFn k hk;have:=hm1.size;omega,hm1.trans0 hmr⟩
     clear hat hFn hmr hbr hHc hcl0 hck0;go_wp2;go_ret2;exact HF.out
end
section
open Go.RowKit Go.Proofs.Tryz Go.Lib
theorem sameTexts_any(o o':Bool)(G G':Nat->Prop)(va vb:Value)(la lb:List ByteArray)(w:World)(ha:Sl o w G 1 StrC va la)(hb:Sl o' w G' 1 StrC vb lb):
 Calls prog 65 #[va,vb] w (RetM (.bool (decide (la=lb))) w):=by
 obtain⟨aa,ca,rfl,hla,ha⟩:=ha.at;obtain⟨ab,cb,rfl,hlb,hb⟩:=hb.at
 by_cases hlen:la.length=lb.length
 ·have e1:((la.length:Int)==(lb.length:Int))=true:=by simp[hlen]
  have H:=hid hlen;have HA:=hid ha;have HB:=hid hb;clear hlen ha hb;go_enter func65,ntmps65;go_wp2
  go_loopw [5,6] (SameRel la lb w) (fun _ i _=>la.length-(intOf i).toNat)
  case atStart=>exact⟨0,by omega,rfl,by rw[pre_zero],Mod.refl _ _⟩
  case round=>
   obtain⟨k,hk,rfl,rfl,hm⟩:=hrel
   rename_i wr
   by_cases hs:pre k la lb=true
   ·by_cases hlt:k<la.length
    ·have hlt':k<lb.length:=by rw[<-H.out];exact hlt
     obtain⟨ba,oa,rfl,-,-,hca⟩:=HA.out k hlt;obtain⟨bb,ob,rfl,-,-,hcb⟩:=HB.out k hlt';obtain⟨_,-,rfl,hca⟩:=hca k hlt;obtain⟨_,-,rfl,hcb⟩:=hcb k hlt'
     have hps:=hid (pre_succ hlt hlt' hs);clear HA HB;go_wp2_with fail;have hS:=hm.drew;refine wpRZ [3,3,3,0,3,3,3,0,0,3] [] (fun w'=>Mod NoB w w') hS ?_
     simp only[stz];refine wpPI underlying127 1 hlt ?_;simp only[nmz]
     refine qG rfl (fun w' hS=>zA _ _ rfl _ _ rfl _ (CellsAt.one.1 (hca.keep hS id)) _ underlying9 rfl) ?_;simp only[stz];refine wpPI underlying127 1 hlt' ?_
     simp only[nmz];refine qG rfl (fun w' hS=>zA _ _ rfl _ _ rfl _ (CellsAt.one.1 (hcb.keep hS id)) _ underlying9 rfl) ?_;simp only[nmz]
     refine qG rfl (fun w' hS=>zY _ _ _ _ rfl _ _ rfl rfl _ rfl) ?_;simp only[stz];go_wp2
     go_roundw
     case rel=>exact⟨k+1,by omega,by go_num,by rw[hps.out],hS⟩
     case measure=>simp[intOf];omega
    ·go_wp2
     go_ret;exact⟨by rw[<-pre_full H.out (Nat.le_of_not_lt hlt),hs];rfl,hm⟩
   ·have hs':pre k la lb=false:=by simpa using hs
    have hps:=hid (pre_false hs');clear hs;go_wp2;go_ret;exact⟨by rw[hps.out];rfl,hm⟩
 ·have e1:((la.length:Int)==(lb.length:Int))=false:=by simp;omega
  have hps:=hid (decide_eq_false (show ¬la=lb by rintro rfl;exact hlen rfl));clear hlen;go_enter func65,ntmps65;go_wp2;refine wp_loop_once ?_;go_wp2;go_ret
  exact⟨by rw[hps.out];rfl,Mod.refl _ _⟩
theorem yA(o o':Bool)(G G':Nat->Prop)(va vb:Value)(la lb:List (List UInt8))(w:World)(ha:Sl o w G 32 IdC va la)(hb:Sl o' w G' 32 IdC vb lb):
 Calls prog 24 #[va,vb] w (RetM (.bool (decide (la=lb))) w):=by
 obtain⟨aa,ca,rfl,hla,ha⟩:=ha.at;obtain⟨ab,cb,rfl,hlb,hb⟩:=hb.at
 by_cases hlen:la.length=lb.length
 ·have e1:((la.length:Int)==(lb.length:Int))=true:=by simp[hlen]
  have H:=hid hlen;have HA:=hid ha;have HB:=hid hb;clear hlen ha hb;go_enter func24,ntmps24;go_wp2
  go_loopw [5,6] (SameRel la lb w) (fun _ i _=>la.length-(intOf i).toNat)
  case atStart=>exact⟨0,by omega,rfl,by rw[pre_zero],Mod.refl _ _⟩
  case round=>
   obtain⟨k,hk,rfl,rfl,hm⟩:=hrel
   rename_i wr
   by_cases hs:pre k la lb=true
   ·by_cases hlt:k<la.length
    ·have hlt':k<lb.length:=by rw[<-H.out];exact hlt
     obtain⟨ba,oa,rfl,-,-,hca⟩:=HA.out k hlt;obtain⟨bb,ob,rfl,-,-,hcb⟩:=HB.out k hlt';obtain⟨_,-,⟨rfl,hc32⟩,hca⟩:=hca k hlt
     obtain⟨_,-,⟨rfl,hd32⟩,hcb⟩:=hcb k hlt';have hps:=hid (pre_succ hlt hlt' hs);clear HA HB;go_wp2_with fail;have hS:=hm.drew
     refine wpRZ [3,3,3,0,3,3,3,0,0,3] [] (fun w'=>Mod NoB w w') hS ?_;simp only[stz];refine wpPI underlying25 32 hlt ?_;simp only[nmz]
     refine qG rfl (fun w' hS=>zK _ _ rfl _ _ rfl _ (hca.keep hS id) _ underlying24 rfl 32 (by kernel_rfl) (by rw[qB,hc32])) ?_;simp only[stz]
     refine wpPI underlying25 32 hlt' ?_;simp only[nmz]
     refine qG rfl (fun w' hS=>zK _ _ rfl _ _ rfl _ (hcb.keep hS id) _ underlying24 rfl 32 (by kernel_rfl) (by rw[qB,hd32])) ?_;simp only[nmz]
     refine qG rfl (fun w' hS=>exec_eql_id _ _ _ _ rfl _ _ rfl rfl 32 5 underlying24 underlying5 (by kernel_rfl) (by kernel_rfl) hc32 hd32 _ rfl) ?_;simp only[stz]
     go_wp2
     go_roundw
     case rel=>exact⟨k+1,by omega,by go_num,by rw[hps.out],hS⟩
     case measure=>simp[intOf];omega
    ·go_wp2
     go_ret;exact⟨by rw[<-pre_full H.out (Nat.le_of_not_lt hlt),hs];rfl,hm⟩
   ·have hs':pre k la lb=false:=by simpa using hs
    have hps:=hid (pre_false hs');clear hs;go_wp2;go_ret;exact⟨by rw[hps.out];rfl,hm⟩
 ·have e1:((la.length:Int)==(lb.length:Int))=false:=by simp;omega
  have hps:=hid (decide_eq_false (show ¬la=lb by rintro rfl;exact hlen rfl));clear hlen;go_enter func24,ntmps24;go_wp2;refine wp_loop_once ?_;go_wp2;go_ret
  exact⟨by rw[hps.out];rfl,Mod.refl _ _⟩
end
section
open Go.RowKit Go.Shelf Go.Proofs.Tryz Go.Lib
theorem built_dot12:prog.built 113 [(0,.int .i64 1),(1,.int .i64 2)]=some #[.int .i64 1,.int .i64 2]:=by kernel_rfl
theorem built_held(a b:Int)(di:List UInt8)(h:di.length=32):prog.built 211 [(0,.agg #[.int .i64 a,.int .i64 b]),(1,.agg (qA di))]=some (xN ((a,b),di)):=by
 have p:xV prog 211=some [(0,2),(2,32)]:=by kernel_rfl
 have hz:(xN ((0,0),List.replicate 32 0)).size=34:=jQ (by simp);have hi:(qA di).size=32:=by rw[qB,h]
 rw[zP heldZ p];generalize xN ((0,0),List.replicate 32 0)=z at hz
 rw[zC (off:=0) (size:=2) rfl (by rfl) (by rw[hz];omega),zC (off:=2) (size:=32) rfl (by simpa[Value.cells]using hi) (by rw[yH (by rw[hz];simp[Value.cells])];rw[hz];omega),xY]
 congr 1
 apply Array.toList_inj.1
 have hl:z.toList.length=34:=by simpa using hz
 simp only[qY,Value.cells,xN,Array.toList_append,hi]
 simp[hl]
theorem built_tag(n:ByteArray)(ad:Option Addr)(k c:Nat):prog.built 188 [(0,.string n),(1,.slice ad k c)]=some #[.string n,.slice ad k c]:=by
 have p:xV prog 188=some [(0,1),(1,1)]:=by kernel_rfl
 rw[zP tagZ p,zC (off:=0) (size:=1) rfl (by rfl) (by simp),zC (off:=1) (size:=1) rfl (by rfl) (by simp[qY,Value.cells]),xY]
 rfl
theorem built_rep(n:ByteArray)(ad:Option Addr)(k c:Nat):prog.built 186 [(0,.string n),(1,.slice ad k c)]=some #[.string n,.slice ad k c,.slice none 0 0]:=by
 have p:xV prog 186=some [(0,1),(1,1),(2,1)]:=by kernel_rfl
 rw[zP repZ p,zC (off:=0) (size:=1) rfl (by rfl) (by simp),zC (off:=1) (size:=1) rfl (by rfl) (by simp[qY,Value.cells]),xY]
 rfl
theorem built_tab(ad bd:Option Addr)(k c k' c':Nat):prog.built 71 [(0,.slice ad k c),(1,.slice bd k' c')]=some #[.slice ad k c,.slice bd k' c']:=by
 have p:xV prog 71=some [(0,1),(1,1)]:=by kernel_rfl
 rw[zP tableZ p,zC (off:=0) (size:=1) rfl (by rfl) (by simp),zC (off:=1) (size:=1) rfl (by rfl) (by simp[qY,Value.cells]),xY]
 rfl
theorem sl_one{α:Type}{w:World}{b:Nat}{cs:Array Value}{T:TypeId}{R:Array Value->α->Prop}{x:α}(h:w.heap[b]?=some (.cells cs T (0,0)))(hR:R cs x)(n:Nat)(hn:cs.size=n):Sl false w AnyB n R (.slice (some ⟨b,0,none⟩) 1 1) [x]:=by
 refine⟨some ⟨b,0,none⟩,1,rfl,Nat.le_refl _,by unfold maxLen;omega,fun _=>⟨b,0,rfl,trivial,fun e=>(by cases e),fun i hi=>?_⟩⟩
 have h0:i=0:=by simpa using hi
 subst h0;refine⟨cs,hn,hR,?_⟩;rw[Nat.zero_mul];exact CellsAt.whole h
theorem results_row1{P:Program}{fn:Func}{p:Tmp}{ty:TypeId}(h:fn.results=#[.cell p ty])(tmps:Array Value)(w:World)(g:Nat)(t:TypeId)(cs:Array Value)(fr:Nat×Nat)(d:TypeDesc)
 (hp:tmps.getD p undef=.pointer (some ⟨g,0,none⟩))(hg:w.heap[g]?=some (.cells cs t fr))
 (hu:P.underlying ty=some d)(hd:(match d with| .struct _| .array _ _=>true|_=>false)=true)(hi:(P.info? ty).map (·.size)=some cs.size):
 (results fn tmps).run P w=.ok (.agg cs) w:=by
 have hp':tmps[p]?.getD undef=.pointer (some ⟨g,0,none⟩):=by simpa using hp
 simp[results,h,hp',asAddr,run_loadVar_row w g t ty cs fr d hg hu hd hi]
def TagdR(w:World)(id:List UInt8):Ending->World->Prop:=fun e w'=>Mod NoB w w'/\∃vv rv reps,e=.returned (.agg #[vv,rv])/\vv.oneCell'=true/\RepsAt w' rv reps/\rootsX reps=[id]
theorem int_zs:(prog.info? 3).map (fun i=>(i.zero,i.size))=some (some (.int .i64 0),1):=by kernel_rfl
theorem held_zs:(prog.info? 211).map (fun i=>(i.zero,i.size))=some (some (.agg (xN ((0,0),List.replicate 32 0))),34):=by kernel_rfl
theorem tag_zs:(prog.info? 188).map (fun i=>(i.zero,i.size))=some (some (.agg #[.string ⟨#[]⟩,.slice none 0 0]),2):=by kernel_rfl
theorem rep_zs:(prog.info? 186).map (fun i=>(i.zero,i.size))=some (some (.agg #[.string ⟨#[]⟩,.slice none 0 0,.slice none 0 0]),3):=by kernel_rfl
theorem tagged_any(di:List UInt8)(hid:di.length=32)(w:World):Calls prog 56 #[.agg (qA di)] w (TagdR w di):=by
 have hic:(qA di).size=32:=by rw[qB,hid]
 have hhs:=jQ (h:=((1,2),di)) hid;have hbh:=built_held 1 2 di hid;go_enter func56,ntmps56;go_upto_region 0 with(fail);refine wpR [1,1] ?_;simp only[stz]
 refine wpD (zL 24 _ _ (by rfl) (by rfl) (fun w1 hB1 hm1 hs1=>?_));replace hB1:w1.heap[w.heap.size]?=some (.cells (qA di) 24 (0,0)):=hB1;try simp only[nmz]
 refine wpD (qN 71 _ (by rfl) tableZ (fun w2 hB2 hm2 hs2=>?_));replace hB2:w2.heap[w1.heap.size]?=some (.cells #[.slice none 0 0,.slice none 0 0] 71 (0,0)):=hB2
 simp only[stz];have hci:CellsAt w2 w.heap.size 0 (qA di):=CellsAt.whole (hm2.obj id hB1);go_upto_region 1 with(fail);refine wpR [1,0,1,0,1,0,1,0,1,0,1] ?_
 simp only[stz];refine wpD (qQ 64 3 _ (.int .i64 2) (.int .i64 0) 1 (by rfl) (by rfl) underlying64 int_zs (by omega) (by omega) rfl (fun w3 hB3 hm3 hs3=>?_))
 have hci3:=hci.keep hm3 id;try simp only[nmz]
 refine qG rfl (fun w' hS=>qO 113 [(0,_),(1,_)] [(0,.int .i64 1),(1,.int .i64 2)] _ (by rfl) (by rfl) built_dot12) ?_;simp only[nmz]
 refine wpXA 24 w.heap.size 0 (qA di) hci3 underlying24 32 hic trivial ?_;try simp only[nmz]
 refine qG rfl (fun w' hS=>qO 211 [(0,_),(1,_)] [(0,.agg #[.int .i64 1,.int .i64 2]),(1,.agg (qA di))] _ (by rfl) (by rfl) hbh) ?_;simp only[nmz]
 refine wpD (qQ 184 211 _ (.agg (xN ((1,2),di))) (.agg (xN ((0,0),List.replicate 32 0))) 34 (by rfl) (by rfl) underlying184 held_zs (by omega) (by omega) hhs (fun w4 hB4 hm4 hs4=>?_))
 replace hB4:w4.heap[w3.heap.size]?=some (.cells (xN ((1,2),di)) 211 (0,0)):=hB4;try simp only[nmz]
 refine qG rfl (fun w' hS=>qO 188 [(0,_),(1,_)] [(0,.string ⟨#[118]⟩),(1,.slice (some ⟨w3.heap.size,0,none⟩) 1 1)] _ (by rfl) (by rfl) (built_tag ⟨#[118]⟩ _ 1 1)) ?_
 simp only[nmz]
 refine wpD (qQ 183 188 _ (.agg #[.string ⟨#[118]⟩,.slice (some ⟨w3.heap.size,0,none⟩) 1 1]) (.agg #[.string ⟨#[]⟩,.slice none 0 0]) 2 (by rfl) (by rfl) underlying183 tag_zs (by omega) (by omega) rfl (fun w5 hB5 hm5 hs5=>?_))
 replace hB5:w5.heap[w4.heap.size]?=some (.cells #[.string ⟨#[118]⟩,.slice (some ⟨w3.heap.size,0,none⟩) 1 1] 188 (0,0)):=hB5;try simp only[nmz]
 refine qG rfl (fun w' hS=>qO 186 [(0,_),(1,_)] [(0,.string ⟨#[114]⟩),(1,.slice (some ⟨w4.heap.size,0,none⟩) 1 1)] _ (by rfl) (by rfl) (built_rep ⟨#[114]⟩ _ 1 1)) ?_
 simp only[nmz]
 refine wpD (qQ 69 186 _ (.agg #[.string ⟨#[114]⟩,.slice (some ⟨w4.heap.size,0,none⟩) 1 1,.slice none 0 0]) (.agg #[.string ⟨#[]⟩,.slice none 0 0,.slice none 0 0]) 3 (by rfl) (by rfl) underlying69 rep_zs (by omega) (by omega) rfl (fun w6 hB6 hm6 hs6=>?_))
 replace hB6:w6.heap[w5.heap.size]?=some (.cells #[.string ⟨#[114]⟩,.slice (some ⟨w4.heap.size,0,none⟩) 1 1,.slice none 0 0] 186 (0,0)):=hB6
 have hT6:=hm5.trans0 hm6|>fun h=>(hm3.trans0 hm4).trans0 h |>.obj id hB2;try simp only[nmz]
 refine qG rfl (fun w' hS=>qO 71 [(0,_),(1,_)] [(0,.slice (some ⟨w2.heap.size,0,none⟩) 1 1),(1,.slice (some ⟨w5.heap.size,0,none⟩) 1 1)] _ (by rfl) (by rfl) (built_tab _ _ 1 1 1 1)) ?_
 simp only[nmz]
 refine wpD (qF 71 _ _ w1.heap.size 0 #[.slice (some ⟨w2.heap.size,0,none⟩) 1 1,.slice (some ⟨w5.heap.size,0,none⟩) 1 1] (by rfl) (by rfl) (by rfl) (by intro c hc;simp at hc;rcases hc with rfl|rfl<;>rfl) 2 (by kernel_rfl) rfl _ _ hT6 (by simp) (fun w7 hB7 hm7=>?_))
 rw[qD (by simp)]at hB7;simp only[stz];have hs2':=hm2.size;have hs3':=hm3.size;have hs4':=hm4.size;have hs5':=hm5.size;have hs6':=hm6.size
 have h1lt:w1.heap.size<w2.heap.size:=hs2;have hM:Mod NoB w w7:=(((hm1.trans0 hm2).trans0 (hm3.trans0 hm4)).trans0 (hm5.trans0 hm6)).transB hm7 hm1.size
 have hT4:=hm7.objB (b:=w3.heap.size) (by omega) ((hm5.trans0 hm6).obj id hB4);have hT5:=hm7.objB (b:=w4.heap.size) (by omega) (hm6.obj id hB5)
 have hT7:=hm7.objB (b:=w5.heap.size) (by omega) hB6;have hrow:RowAt w7 (.slice (some ⟨w3.heap.size,0,none⟩) 1 1,[((1,2),di)]):=sl_one hT4 ⟨rfl,hid⟩ 34 hhs
 have htags:Sl false w7 AnyB 2 (TagC w7) (.slice (some ⟨w4.heap.size,0,none⟩) 1 1) [⟨⟨#[118]⟩,(.slice (some ⟨w3.heap.size,0,none⟩) 1 1,[((1,2),di)])⟩]:=sl_one hT5 ⟨rfl,hrow⟩ 2 rfl
 have hreps:RepsAt w7 (.slice (some ⟨w5.heap.size,0,none⟩) 1 1) [⟨⟨#[114]⟩,.slice (some ⟨w4.heap.size,0,none⟩) 1 1,[⟨⟨#[118]⟩,(.slice (some ⟨w3.heap.size,0,none⟩) 1 1,[((1,2),di)])⟩],(.slice none 0 0,[])⟩]:=sl_one hT7 ⟨rfl,htags,Sl.nil _ _ _ _ _⟩ 3 rfl
 have HF:Hid (TagdR w di (.returned (.agg #[.slice (some ⟨w2.heap.size,0,none⟩) 1 1,.slice (some ⟨w5.heap.size,0,none⟩) 1 1])) w7):=Lib.hid ⟨hM,_,_,_,rfl,rfl,hreps,rfl⟩
 clear hM hT4 hT5 hT7 hrow htags hreps hT6 hm1 hm2 hm3 hm4 hm5 hm6 hm7 hB1 hB2 hB3 hB4 hB5 hB6 hci hci3;go_wp2
 refine bodyPost_ret (results_row1 (P:=prog) (ty:=71) rfl _ _ w1.heap.size _ _ _ _ (by rfl) hB7 underlying71 rfl (by kernel_rfl)) rfl ?_;exact HF.out
theorem sameSwept_any{w:World}{o o':Bool}{G G':Nat->Prop}{va vb:Value}{la lb:List (List UInt8)}(ha:Sl o w G 32 IdC va la)(hb:Sl o' w G' 32 IdC vb lb)(b1 n1 b2 n2:Nat):
 Calls prog 54 #[.agg (qM va b1 n1),.agg (qM vb b2 n2)] w (RetK (.bool (decide (la=lb)&&decide (b1=b2)&&decide (n1=n2))) w):=by
 have h1a:=Sl.one ha;have h1b:=Sl.one hb;obtain⟨r,hr⟩:∃r,decide (la=lb)=r:=⟨_,rfl⟩;rw[hr]
 obtain⟨res,hres⟩:∃x,(r&&decide (b1=b2)&&decide (n1=n2))=x:=⟨_,rfl⟩;rw[hres];have HRES:=hid hres;clear hres;go_enter func54,ntmps54
 go_upto_region 0 with(fail);refine wpR [1,1,3] ?_;simp only[stz];refine wpD (zL 104 _ _ (by rfl) (by rfl) (fun w1 hB1 hm1 hs1=>?_))
 replace hB1:w1.heap[w.heap.size]?=some (.cells (qM va b1 n1) 104 (0,0)):=hB1;try simp only[nmz]
 refine wpD (zL 104 _ _ (by rfl) (by rfl) (fun w2 hB2 hm2 hs2=>?_));replace hB2:w2.heap[w1.heap.size]?=some (.cells (qM vb b2 n2) 104 (0,0)):=hB2
 simp only[stz];have hm02:=hm1.trans0 hm2;have hB12:=hm2.obj id hB1;have hca0:w2.cell? ⟨w.heap.size,0+0,none⟩=some va:=by simp[World.cell?,hB12,qM]
 have hcb0:w2.cell? ⟨w1.heap.size,0+0,none⟩=some vb:=by simp[World.cell?,hB2,qM]
 have hca1:w2.cell? ⟨w.heap.size,0+1,none⟩=some (.int .i64 (b1:Nat)):=by simp[World.cell?,hB12,qM]
 have hcb1:w2.cell? ⟨w1.heap.size,0+1,none⟩=some (.int .i64 (b2:Nat)):=by simp[World.cell?,hB2,qM]
 have hca2:w2.cell? ⟨w.heap.size,0+2,none⟩=some (.int .i64 (n1:Nat)):=by simp[World.cell?,hB12,qM]
 have hcb2:w2.cell? ⟨w1.heap.size,0+2,none⟩=some (.int .i64 (n2:Nat)):=by simp[World.cell?,hB2,qM]
 have hsame:=yA _ _ _ _ va vb la lb w2 (ha.keep0 hm02) (hb.keep0 hm02);rw[hr]at hsame;clear hr;generalize w.heap.size=ba at*;generalize w1.heap.size=bb at*
 go_upto_region 1 with(fail)
 cases r with
 |false=>
  refine wpR [3,1,3,1,1,3,3,0,3,0,3,3,3,3,0,3,0,3,3,3] ?_;simp only[stz];refine wpXd 25 ba (0+0) hca0 underlying25 trivial ?_;simp only[stz]
  refine wpXd 25 bb (0+0) hcb0 underlying25 trivial ?_;try simp only[nmz]
  refine wpD (wpC func24 (hsame) ?_);rintro e w3 ⟨rfl,hg3⟩;have hm3:=hm02.trans0 hg3;refine⟨_,rfl,?_⟩;simp only[stz];clear hca0 hcb0 hca1 hcb1 hca2 hcb2 hB12 hB1 hB2
  have h9:=HRES.out;have hres:res=false:=by simpa using h9.symm
  clear h9;go_wp2;go_ret;exact⟨by rw[hres];rfl,hm3⟩
 |true=>
  have H9:=hid (show(decide (b1=b2)&&decide (n1=n2))=res by have h:=HRES.out;simpa using h)
  by_cases hb12:b1=b2
  ·have hz:(b1:Int)=(b2:Nat):=by omega
   have hzb:((b1:Int)==((b2:Nat):Int))=true:=by simpa using hz
   refine wpR [3,1,3,1,1,3,3,1,3,1,3,3,3,3,1,3,1,3,3,3] ?_;simp only[stz];refine wpXd 25 ba (0+0) hca0 underlying25 trivial ?_;simp only[stz]
   refine wpXd 25 bb (0+0) hcb0 underlying25 trivial ?_;try simp only[nmz]
   refine wpD (wpC func24 (hsame) ?_);rintro e w3 ⟨rfl,hg3⟩;have hm3:=hm02.trans0 hg3;have hca1':=hg3.cell id hca1;have hcb1':=hg3.cell id hcb1
   have hca2':=hg3.cell id hca2;have hcb2':=hg3.cell id hcb2;refine⟨_,rfl,?_⟩;simp only[stz];refine wpXd 3 ba (0+1) hca1' underlying3 trivial ?_;simp only[stz]
   refine wpXd 3 bb (0+1) hcb1' underlying3 trivial ?_;try simp only[nmz]
   refine qK _ _ _ _ _ _ _ _ rfl rfl rfl rfl rfl true (decide_eq_true hz) ?_;simp only[stz];refine wpXd 3 ba (0+2) hca2' underlying3 trivial ?_;simp only[stz]
   refine wpXd 3 bb (0+2) hcb2' underlying3 trivial ?_;try simp only[nmz]
   refine qK _ _ _ _ _ _ _ _ rfl rfl rfl rfl rfl (decide (n1=n2)) (show decide (((n1:Nat):Int)=((n2:Nat):Int))=decide (n1=n2) by rw[decide_eq_decide];omega) ?_
   simp only[stz];clear hca0 hcb0 hca1 hcb1 hca2 hcb2 hB12 hB1 hB2;have h9:=H9.out;rw[decide_eq_true hb12,Bool.true_and]at h9;have HR:=hid h9;clear h9;go_wp2;go_ret
   exact⟨by rw[<-HR.out];rfl,hm3⟩
  ·have hz:¬(b1:Int)=(b2:Nat):=by omega
   refine wpR [3,1,3,1,1,3,3,1,3,1,3,3,3,3,0,3,0,3,3,3] ?_;simp only[stz];refine wpXd 25 ba (0+0) hca0 underlying25 trivial ?_;simp only[stz]
   refine wpXd 25 bb (0+0) hcb0 underlying25 trivial ?_;try simp only[nmz]
   refine wpD (wpC func24 (hsame) ?_);rintro e w3 ⟨rfl,hg3⟩;have hm3:=hm02.trans0 hg3;have hca1':=hg3.cell id hca1;have hcb1':=hg3.cell id hcb1;refine⟨_,rfl,?_⟩
   simp only[stz];refine wpXd 3 ba (0+1) hca1' underlying3 trivial ?_;simp only[stz];refine wpXd 3 bb (0+1) hcb1' underlying3 trivial ?_;try simp only[nmz]
   refine qK _ _ _ _ _ _ _ _ rfl rfl rfl rfl rfl false (decide_eq_false hz) ?_;simp only[stz];clear hca0 hcb0 hca1 hcb1 hca2 hcb2 hB12 hB1 hB2;have h9:=H9.out
   rw[decide_eq_false hb12,Bool.false_and]at h9;go_wp2;go_ret;exact⟨by rw[<-h9];rfl,hm3⟩
theorem wp_bytesConst{P:Program}{o:Oper}{a:Act}{w:World}{K:Act->World->Prop}{Q:Exit->Act->World->Prop}(t e:TypeId)(x:Operand)(b n c:Nat)(C:Array Value)(ho:o.op=.convert t t x)(hx:a.eval x=.slice (some ⟨b,0,none⟩) n c)
 (ht:P.underlying t=some (.slice e))(he:P.underlying e=some (.int .u8))(hb:w.heap[b]?=some (.cells C e (0,0)))
 (h:∀w',w'.heap[b]?=some (.cells C e (C.size,C.size+1))->Mod (fun k=>k=b) w w'->K (a.put o.dst (.slice (some ⟨b,0,none⟩) n c)) w'):o.wp P a w K Q:=by
 have hsh:w.shape? b=some (e,C.size):=by unfold World.shape?;rw[hb]
 have hr:(convert t t (.slice (some ⟨b,0,none⟩) n c)).run P w=.ok (.slice (some ⟨b,0,none⟩) n c) (w.freeze ⟨b,C.size,none⟩ 1):=by
  simp[convert,run_underlying ht,run_underlying he,markStringish,hsh]
 unfold Oper.wp execOp;simp only[ho,hx,Sem.run_bind,hr,Result.andThen_ok,Sem.run_pure];refine h _ ?_ ⟨rfl,rfl,rfl,?_,fun k hk hne=>?_⟩
 ·unfold World.freeze
  rw[if_neg (by decide)]
  show(w.heap.modify b _)[b]?=_
  rw[Array.getElem?_modify,if_pos rfl,hb]
  rfl
 ·unfold World.freeze
  rw[if_neg (by decide)]
  simp
 ·unfold World.freeze
  rw[if_neg (by decide)]
  show(w.heap.modify b _)[k]?=_
  rw[Array.getElem?_modify,if_neg (fun e=>hne e.symm)]
theorem sl_bytes{w:World}{b n:Nat}{l:List UInt8}{T:TypeId}{fr:Nat×Nat}(h:w.heap[b]?=some (.cells (qA l) T fr))(hn:n=l.length)(hm:l.length<=1000):Sl false w AnyB 1 ByteC (.slice (some ⟨b,0,none⟩) n n) l:=by
 subst hn
 refine⟨some ⟨b,0,none⟩,l.length,rfl,Nat.le_refl _,by unfold maxLen;omega,fun _=>⟨b,0,rfl,trivial,fun e=>(by cases e),fun i hi=>⟨#[byteV l[i]],rfl,rfl,?_⟩⟩⟩
 refine CellsAt.of_obj h fun j hj=>?_;have h0:j=0:=by simpa using hj
 subst h0
 simp[qA,hi]
theorem cells_nth{w:World}{b:Nat}{C:Array Value}{T:TypeId}{fr:Nat×Nat}(h:w.heap[b]?=some (.cells C T fr))(i:Nat)(c:Value)(hc:C[i]?=some c):CellsAt w b (0+i*1) #[c]:=CellsAt.of_obj h fun j hj=>by
 have h0:j=0:=by simpa using hj
 subst h0
 simpa using hc
theorem results_row3{P:Program}{fn:Func}{p q r:Tmp}{ty tz tx:TypeId}(h:fn.results=#[.cell p ty,.cell q tz,.cell r tx])(tmps:Array Value)(w:World)(g1 g2 g3:Nat)(t1 t2 t3:TypeId)(c1 c2 c3:Array Value)(f1 f2 f3:Nat×Nat)(d1 d2 d3:TypeDesc)
 (hp1:tmps.getD p undef=.pointer (some ⟨g1,0,none⟩))(hg1:w.heap[g1]?=some (.cells c1 t1 f1))(hp2:tmps.getD q undef=.pointer (some ⟨g2,0,none⟩))(hg2:w.heap[g2]?=some (.cells c2 t2 f2))(hp3:tmps.getD r undef=.pointer (some ⟨g3,0,none⟩))(hg3:w.heap[g3]?=some (.cells c3 t3 f3))
 (hu1:P.underlying ty=some d1)(hd1:(match d1 with| .struct _| .array _ _=>true|_=>false)=true)(hi1:(P.info? ty).map (·.size)=some c1.size)
 (hu2:P.underlying tz=some d2)(hd2:(match d2 with| .struct _| .array _ _=>true|_=>false)=true)(hi2:(P.info? tz).map (·.size)=some c2.size)
 (hu3:P.underlying tx=some d3)(hd3:(match d3 with| .struct _| .array _ _=>true|_=>false)=true)(hi3:(P.info? tx).map (·.size)=some c3.size):
 (results fn tmps).run P w=.ok (.tuple #[.agg c1,.agg c2,.agg c3]) w:=by
 have e1:tmps[p]?.getD undef=.pointer (some ⟨g1,0,none⟩):=by simpa using hp1
 have e2:tmps[q]?.getD undef=.pointer (some ⟨g2,0,none⟩):=by simpa using hp2
 have e3:tmps[r]?.getD undef=.pointer (some ⟨g3,0,none⟩):=by simpa using hp3
 simp[results,h,e1,e2,e3,asAddr,run_loadVar_row w g1 t1 ty c1 f1 d1 hg1 hu1 hd1 hi1,run_loadVar_row w g2 t2 tz c2 f2 d2 hg2 hu2 hd2 hi2,run_loadVar_row w g3 t3 tx c3 f3 d3 hg3 hu3 hd3 hi3]
def idA:List UInt8:=shaL [65]
def idB:List UInt8:=shaL [66,33]
def TwoR(w:World):Ending->World->Prop:=fun e w'=>Mod NoB w w'/\∃lv kv,e=.returned (.tuple #[.agg (qA idA),.agg (qA idB),.agg #[.int .i64 31,lv,kv]])/\LsAt w' lv [[65],[66,33]]/\Sl false w' AnyB 1 IntC kv [0,0,0,1]
theorem houseZ:(prog.info? 68).bind (·.zero)=some (.agg #[.int .i64 0,.slice none 0 0,.slice none 0 0]):=by kernel_rfl
theorem byte_zs:(prog.info? 5).map (fun i=>(i.zero,i.size))=some (some (byteV 0),1):=by kernel_rfl
theorem bytes_zs:(prog.info? 53).map (fun i=>(i.zero,i.size))=some (some (.slice none 0 0),1):=by kernel_rfl
theorem built_house(n:Int)(ad bd:Option Addr)(k c k' c':Nat):prog.built 68 [(0,.int .i64 n),(1,.slice ad k c),(2,.slice bd k' c')]=some #[.int .i64 n,.slice ad k c,.slice bd k' c']:=by
 have p:xV prog 68=some [(0,1),(1,1),(2,1)]:=by kernel_rfl
 rw[zP houseZ p,zC (off:=0) (size:=1) rfl (by rfl) (by simp),zC (off:=1) (size:=1) rfl (by rfl) (by simp[qY,Value.cells]),zC (off:=2) (size:=1) rfl (by rfl) (by simp[qY,Value.cells]),xY]
 rfl
theorem two_any(w:World):Calls prog 55 #[] w (TwoR w):=by
 have hA:(qA idA).size=32:=by rw[qB];exact shaL_len _
 have hB:(qA idB).size=32:=by rw[qB];exact shaL_len _
 have hz32:(qA (List.replicate 32 0)).size=32:=idZ_size;go_enter func55,ntmps55;go_upto_region 0 with(fail);refine wpR [1,1,1] ?_;simp only[stz]
 refine wpD (qN 24 _ (by rfl) idZ (fun w1 hB1 hm1 hs1=>?_));replace hB1:w1.heap[w.heap.size]?=some (.cells (qA (List.replicate 32 0)) 24 (0,0)):=hB1
 try simp only[nmz]
 refine wpD (qN 24 _ (by rfl) idZ (fun w2 hB2 hm2 hs2=>?_));replace hB2:w2.heap[w1.heap.size]?=some (.cells (qA (List.replicate 32 0)) 24 (0,0)):=hB2
 try simp only[nmz]
 refine wpD (qN 68 _ (by rfl) houseZ (fun w3 hB3 hm3 hs3=>?_))
 replace hB3:w3.heap[w2.heap.size]?=some (.cells #[.int .i64 0,.slice none 0 0,.slice none 0 0] 68 (0,0)):=hB3;simp only[stz];have hB13:=(hm2.trans0 hm3).obj id hB1
 have hB23:=hm3.obj id hB2;have hm03:=(hm1.trans0 hm2).trans0 hm3;have hs12:w1.heap.size<w2.heap.size:=hs2;have hs01:w.heap.size<w1.heap.size:=hs1
 generalize hb0:w.heap.size=b0 at*;generalize hb1:w1.heap.size=b1 at*;generalize hb2:w2.heap.size=b2 at*;clear hm1 hm2 hm3 hB1 hB2 hs1 hs2
 go_upto_region 1 with(fail);refine wpR [1,1,1,1,1,1,1,1,1,1,1,1,0,1,1,1] ?_;simp only[stz]
 refine wpD (qQ 53 5 _ (byteV 65) (byteV 0) 1 (by rfl) (by rfl) underlying53 byte_zs (by omega) (by omega) rfl (fun w4 hB4 hm4 hs4=>?_))
 replace hB4:w4.heap[w3.heap.size]?=some (.cells (qA [65]) 5 (0,0)):=hB4;try simp only[nmz]
 refine wpD (wp_bytesConst 53 5 _ w3.heap.size 1 1 _ (by rfl) (by rfl) underlying53 underlying5 hB4 (fun w5 hB5 hm5=>?_))
 have hm35:Mod NoB w3 w5:=hm4.transB hm5 (Nat.le_refl _);have hsA:=shaSum_any (sl_bytes (n:=1) hB5 rfl (by simp)) (by simp);try simp only[nmz]
 refine wpD (wpC func96 (hsA) ?_);rintro e w6 ⟨rfl,hm6⟩;have hm36:=hm35.trans0 hm6;refine⟨_,rfl,?_⟩;try simp only[nmz]
 refine wpD (yW 53 5 2 [(0,_),(1,_)] [byteV 66,byteV 33] (byteV 0) 1 (by rfl) (by rfl) (by rfl) underlying53 byte_zs (by omega) (by omega) (by simp[Value.cells,byteV]) (fun w7 hB7 hm7 hs7=>?_))
 replace hB7:w7.heap[w6.heap.size]?=some (.cells (qA [66,33]) 5 (0,0)):=hB7;try simp only[nmz]
 refine wpD (wp_bytesConst 53 5 _ w6.heap.size 2 2 _ (by rfl) (by rfl) underlying53 underlying5 hB7 (fun w8 hB8 hm8=>?_))
 have hm68:Mod NoB w6 w8:=hm7.transB hm8 (Nat.le_refl _);have hsB:=shaSum_any (sl_bytes (n:=2) hB8 rfl (by simp)) (by simp);try simp only[nmz]
 refine wpD (wpC func96 (hsB) ?_);rintro e w9 ⟨rfl,hm9⟩;have hm39:=hm36.trans0 (hm68.trans0 hm9);clear hm36 hm68 hm9 hm7 hm8 hB7 hB8 hsA hsB hm35 hm6 hB4 hB5 hm4 hm5
 refine⟨_,rfl,?_⟩;try simp only[nmz]
 refine wpD (qQ 53 5 _ (byteV 65) (byteV 0) 1 (by rfl) (by rfl) underlying53 byte_zs (by omega) (by omega) rfl (fun wa hBa hma hsa=>?_))
 replace hBa:wa.heap[w9.heap.size]?=some (.cells (qA [65]) 5 (0,0)):=hBa;try simp only[nmz]
 refine wpD (wp_bytesConst 53 5 _ w9.heap.size 1 1 _ (by rfl) (by rfl) underlying53 underlying5 hBa (fun wb hBb hmb=>?_))
 have hm9b:Mod NoB w9 wb:=hma.transB hmb (Nat.le_refl _);try simp only[nmz]
 refine wpD (yW 53 5 2 [(0,_),(1,_)] [byteV 66,byteV 33] (byteV 0) 1 (by rfl) (by rfl) (by rfl) underlying53 byte_zs (by omega) (by omega) (by simp[Value.cells,byteV]) (fun wc hBc hmc hsc=>?_))
 replace hBc:wc.heap[wb.heap.size]?=some (.cells (qA [66,33]) 5 (0,0)):=hBc;try simp only[nmz]
 refine wpD (wp_bytesConst 53 5 _ wb.heap.size 2 2 _ (by rfl) (by rfl) underlying53 underlying5 hBc (fun wd hBd hmd=>?_))
 have hmbd:Mod NoB wb wd:=hmc.transB hmd (Nat.le_refl _);try simp only[nmz]
 refine wpD (yW 22 53 2 [(0,_),(1,_)] [.slice (some ⟨w9.heap.size,0,none⟩) 1 1,.slice (some ⟨wb.heap.size,0,none⟩) 2 2] (.slice none 0 0) 1 (by rfl) (by rfl) (by rfl) underlying22 bytes_zs (by omega) (by omega) (by simp[Value.cells]) (fun we hBe hme hse=>?_))
 replace hBe:we.heap[wd.heap.size]?=some (.cells #[.slice (some ⟨w9.heap.size,0,none⟩) 1 1,.slice (some ⟨wb.heap.size,0,none⟩) 2 2] 53 (0,0)):=hBe;try simp only[nmz]
 refine wpD (yW 64 3 4 [(0,_),(1,_),(2,_),(3,_)] [.int .i64 0,.int .i64 0,.int .i64 0,.int .i64 1] (.int .i64 0) 1 (by rfl) (by rfl) (by rfl) underlying64 int_zs (by omega) (by omega) (by simp[Value.cells]) (fun wf hBf hmf hsf=>?_))
 replace hBf:wf.heap[we.heap.size]?=some (.cells #[.int .i64 0,.int .i64 0,.int .i64 0,.int .i64 1] 3 (0,0)):=hBf
 have hm3f:Mod NoB w3 wf:=hm39.trans0 ((hm9b.trans0 hmbd).trans0 (hme.trans0 hmf));have hX1:=hm3f.obj id hB13;try simp only[nmz]
 refine qG rfl (fun w' hS=>qO 68 [(0,_),(1,_),(2,_)] [(0,.int .i64 31),(1,.slice (some ⟨wd.heap.size,0,none⟩) 2 2),(2,.slice (some ⟨we.heap.size,0,none⟩) 4 4)] _ (by rfl) (by rfl) (built_house 31 _ _ 2 2 4 4)) ?_
 simp only[nmz]
 refine wpD (qF 24 _ _ b0 0 (qA idA) (by rfl) (by rfl) (by rfl) (qP _) 32 (by kernel_rfl) hA _ _ hX1 (by rw[hA,hz32];omega) (fun wg hBg hmg=>?_))
 rw[qD (by rw[hA,hz32])]at hBg;have hX2:=hmg.objB (b:=b1) (by omega) (hm3f.obj id hB23);have hX3:=hmg.objB (b:=b2) (by omega) (hm3f.obj id hB3)
 try simp only[nmz]
 refine wpD (qF 24 _ _ b1 0 (qA idB) (by rfl) (by rfl) (by rfl) (qP _) 32 (by kernel_rfl) hB _ _ hX2 (by rw[hB,hz32];omega) (fun wh hBh hmh=>?_))
 rw[qD (by rw[hB,hz32])]at hBh;have hY1:=hmh.objB (b:=b0) (by omega) hBg;have hY3:=hmh.objB (b:=b2) (by omega) hX3;try simp only[nmz]
 refine wpD (qF 68 _ _ b2 0 #[.int .i64 31,.slice (some ⟨wd.heap.size,0,none⟩) 2 2,.slice (some ⟨we.heap.size,0,none⟩) 4 4] (by rfl) (by rfl) (by rfl) (by intro c hc;simp at hc;rcases hc with rfl|rfl|rfl<;>rfl) 3 (by kernel_rfl) rfl _ _ hY3 (by simp) (fun wi hBi hmi=>?_))
 rw[qD (by simp)]at hBi;have hZ1:=hmi.objB (b:=b0) (by omega) hY1;have hZ2:=hmi.objB (b:=b1) (by omega) hBh;simp only[stz]
 have hb23:b2<w3.heap.size:=(Array.getElem?_eq_some_iff.1 hB3).1
 have keep:∀k o,w3.heap.size<=k->wf.heap[k]?=some o->wi.heap[k]?=some o:=fun k o hk ho=>
  hmi.obj (fun e=>by have e:k=b2:=e;omega) (hmh.obj (fun e=>by have e:k=b1:=e;omega) (hmg.obj (fun e=>by have e:k=b0:=e;omega) ho))
 have hM:Mod NoB w wi:=(((hm03.trans0 hm3f).transB hmg (by omega)).transB hmh (by omega)).transB hmi (by omega);have s9:=hm39.size;have sb:=hm9b.size;have sd:=hmbd.size
 have se:=hme.size;have kb:=keep _ _ (by omega) ((hmbd.trans0 (hme.trans0 hmf)).obj id hBb);have kd:=keep _ _ (by omega) ((hme.trans0 hmf).obj id hBd)
 have ke:=keep _ _ (by omega) (hmf.obj id hBe);have kf:=keep _ _ (by omega) hBf
 have hl:LsAt wi (.slice (some ⟨wd.heap.size,0,none⟩) 2 2) [[65],[66,33]]:=by
  refine⟨_,_,rfl,Nat.le_refl _,by unfold maxLen;omega,fun _=>⟨wd.heap.size,0,rfl,trivial,fun e=>(by cases e),fun i hi=>?_⟩⟩
  match i,hi with
  |0,_=>exact⟨#[.slice (some ⟨w9.heap.size,0,none⟩) 1 1],rfl,⟨_,rfl,sl_bytes kb rfl (by simp)⟩,cells_nth ke _ _ rfl⟩
  |1,_=>exact⟨#[.slice (some ⟨wb.heap.size,0,none⟩) 2 2],rfl,⟨_,rfl,sl_bytes kd rfl (by simp)⟩,cells_nth ke _ _ rfl⟩
 have hk4:Sl false wi AnyB 1 IntC (.slice (some ⟨we.heap.size,0,none⟩) 4 4) [0,0,0,1]:=by
  refine⟨_,_,rfl,Nat.le_refl _,by unfold maxLen;omega,fun _=>⟨we.heap.size,0,rfl,trivial,fun e=>(by cases e),fun i hi=>?_⟩⟩
  match i,hi with
  |0,_=>exact⟨_,rfl,rfl,cells_nth kf _ _ rfl⟩
  |1,_=>exact⟨_,rfl,rfl,cells_nth kf _ _ rfl⟩
  |2,_=>exact⟨_,rfl,rfl,cells_nth kf _ _ rfl⟩
  |3,_=>exact⟨_,rfl,rfl,cells_nth kf _ _ rfl⟩
 have HF:Hid (TwoR w (.returned (.tuple #[.agg (qA idA),.agg (qA idB),.agg #[.int .i64 31,.slice (some ⟨wd.heap.size,0,none⟩) 2 2,.slice (some ⟨we.heap.size,0,none⟩) 4 4]])) wi):=hid ⟨hM,_,_,rfl,hl,hk4⟩
 clear hM hl hk4 kb kd ke kf keep hm3f hm39 hm9b hmbd hme hmf hma hmb hmc hmd hmg hmh hmi hBa hBb hBc hBd hBe hBf hBg hBh hX1 hX2 hX3 hY1 hY3 hm03;go_wp2
 refine bodyPost_ret (results_row3 (P:=prog) (ty:=24) (tz:=24) (tx:=68) rfl _ _ b0 b1 b2 _ _ _ _ _ _ _ _ _ _ _ _ (by rfl) hZ1 (by rfl) hZ2 (by rfl) hBi underlying24 rfl (by rw[hA];kernel_rfl) underlying24 rfl (by rw[hB];kernel_rfl) underlying68 rfl (by kernel_rfl)) rfl ?_
 exact HF.out
end
section
open Go.RowKit Go.Proofs.Tryz Go.Lib
theorem idA_len:idA.length=32:=shaL_len _
theorem idB_len:idB.length=32:=shaL_len _
theorem idA_ne_idB:idA≠idB:=by decide+kernel
theorem idB_ne_idA:idB≠idA:=fun e=>idA_ne_idB e.symm
theorem wid31:widZ 31=32:=by decide
theorem decA:decL [65]=none:=by decide+kernel
attribute [local irreducible] shaL ofI
def cAB:BlobL:=[(idA,[65]),(idB,[66,33])]
def rA:ByteArray:=⟨#[97]⟩
def lAB:LinkL:=[((rA,idA),1),((rA,idB),2)]
theorem cOf_AB:cOf 32 [[65],[66,33]]=cAB:=by
 have h1:putB idA [65] []=[(idA,[65])]:=rfl
 have h2:putB idB [66,33] [(idA,[65])]=cAB:=by
  unfold putB;rw[if_neg (by simp[getL,idB_ne_idA,idA_ne_idB])]
  rfl
 have h3:ofI 32 [65]=idA:=ofI_whole _;have h4:ofI 32 [66,33]=idB:=ofI_whole _;unfold cOf;rw[List.foldl_cons,List.foldl_cons,List.foldl_nil,h3,h4,h1,h2]
theorem nameB_a:nameB rA=true:=by decide+kernel
theorem addL_ok(l:LinkL)(k:Key)(size:Int)(hn:nameB k.1=true)(h0:0<=size)(h1:size<=4096)(hg:getL k l=none)(hl:l.length<65536):addL false 1099511627776 l k size=l++[(k,size)]:=by
 have h:(addE false 1099511627776 l k size).1=true:=by
  unfold addE;rw[if_pos hn,if_neg (by omega),hg]
  simp[holdB,Nat.not_le.2 hl]
 unfold addL;rw[if_pos h]
theorem lOf_AB:lOf 32 [[65],[66,33]] [0,0,0,1] (laysN [[65],[66,33]] [0,0,0,1])=lAB:=by
 have h0:laysN [[65],[66,33]] [0,0,0,1]=2:=rfl;have hr:repoZ 0=rA:=rfl
 have e1:layZ 32 [[65],[66,33]] [] 0 0=[((rA,idA),1)]:=by
  have h:=addL_ok [] (rA,idA) 1 nameB_a (by omega) (by omega) rfl (by simp);have h3:ofI 32 [65]=idA:=ofI_whole _
  show addL false 1099511627776 [] (repoZ 0,ofI 32 [65]) (([65]:List UInt8).length:Nat)=_
  rw[h3,hr];exact h
 have e2:layZ 32 [[65],[66,33]] [((rA,idA),1)] 0 1=lAB:=by
  have h:=addL_ok [((rA,idA),1)] (rA,idB) 2 nameB_a (by omega) (by omega) (by simp[getL,idB_ne_idA,idA_ne_idB]) (by simp);have h3:ofI 32 [66,33]=idB:=ofI_whole _
  show addL false 1099511627776 [((rA,idA),1)] (repoZ 0,ofI 32 [66,33]) (([66,33]:List UInt8).length:Nat)=_
  rw[h3,hr];exact h
 rw[h0]
 show layZ 32 [[65],[66,33]] (layZ 32 [[65],[66,33]] [] 0 0) 0 1=lAB
 rw[e1,e2]
theorem getAB1:getL idA cAB=some [65]:=by simp[cAB,getL]
theorem inR_A(x:List UInt8):inR cAB 5 idA 1 x↔x=idA:=by
 have hd:descsOf cAB idA=none:=by unfold descsOf;rw[getAB1];simp[decA]
 constructor
 ·rintro(h|⟨_,ds,hds,_⟩)
  ·exact h
  ·rw[hd]at hds;cases hds
 ·intro h;exact .inl h
theorem sorted_ext{l m:List (List UInt8)}(hl:l.Pairwise (fun a b=>a<b))(hm:m.Pairwise (fun a b=>a<b))(h:∀x,x∈l↔x∈m):l=m:=by
 have hp:l.Perm m:=(List.perm_ext_iff_of_nodup (lt_nodup hl) (lt_nodup hm)).2 h;exact hp.eq_of_pairwise (fun a b _ _ h1 h2=>absurd (jG h1 h2) (List.lt_irrefl _)) hl hm
theorem marks_A{out:List (List UInt8)}(h:MarkedOf cAB [idA] [] out):out=[idA]:=by
 refine sorted_ext h.1 (List.pairwise_singleton _ _) fun x=>?_;rw[h.2 x]
 simp[refsL,inR_A]
theorem roots_A{out:List (List UInt8)}(h:SetOf [idA] out):out=[idA]:=sorted_ext h.1 (List.pairwise_singleton _ _) h.2
theorem gone_A{ids:List (List UInt8)}(h:IDsC cAB ids):goneL ids [idA]=[idB]:=by
 have hp:(goneL ids [idA]).Pairwise (fun a b=>a<b):=h.1.sublist List.filter_sublist;refine sorted_ext hp (List.pairwise_singleton _ _) fun x=>?_;unfold goneL
 rw[List.mem_filter,h.2.mem_iff];simp only[cAB,List.map_cons,List.map_nil,List.mem_cons,List.not_mem_nil,or_false,Bool.not_eq_true',decide_eq_false_iff_not]
 constructor
 ·rintro⟨rfl|rfl,h2⟩
  ·exact absurd rfl h2
  ·rfl
 ·rintro rfl
  exact⟨.inr rfl,fun e=>idA_ne_idB e.symm⟩
theorem run_A:swRun [idB] cAB lAB=([(idA,[65])],[((rA,idA),1)],2,1):=by
 have hne:=idA_ne_idB;have hn2:idB≠idA:=fun e=>hne e.symm
 simp[swRun,swStep,cAB,lAB,delL,getL,xX,xQ,hne,hn2]
end
section
open Go.RowKit Go.Proofs.Tryz Go.Lib
theorem ids_one{c:BlobL}{a b:List (List UInt8)}(h:IDsC c a)(k:IDsC c b):a=b:=
 sorted_ext h.1 k.1 fun x=>by rw[h.2.mem_iff,k.2.mem_iff]
section
variable{β:Type}
def posB(k:List UInt8):List (List UInt8×β)->Nat
 | []=>0
 |p::l=>if p.1<k then posB k l+1 else 0
abbrev SortedB(r:List (List UInt8×β)):Prop:=r.Pairwise fun p q=>p.1<q.1
theorem posB_le(k:List UInt8):∀r:List (List UInt8×β),posB k r<=r.length
 | []=>by simp[posB]
 |p::r=>by
  have:=posB_le k r;simp only[posB,List.length_cons]
  split<;>omega
theorem posB_lt(k:List UInt8):∀(r:List (List UInt8×β))(i:Nat)(h:i<r.length),i<posB k r->r[i].1<k
 |p::r,i,h,hi=>by
  simp only[posB]at hi
  split at hi
  ·rename_i hp
   cases i with
   |zero=>exact hp
   |succ i=>exact posB_lt k r i (by simpa using h) (by omega)
  ·omega
theorem posB_ge(k:List UInt8):∀(r:List (List UInt8×β))(h:posB k r<r.length),¬r[posB k r].1<k
 |p::r,h=>by
  by_cases hp:p.1<k
  ·have e:posB k (p::r)=posB k r+1:=by simp[posB,hp]
   have h':posB k r<r.length:=by rw[e]at h;simpa using h
   have:=posB_ge k r h'
   simpa only[e,List.getElem_cons_succ]using this
  ·have e:posB k (p::r)=0:=by simp[posB,hp]
   simpa only[e,List.getElem_cons_zero]using hp
theorem posB_eq{k:List UInt8}{r:List (List UInt8×β)}{i:Nat}(hi:i<=r.length)(h1:∀j (h:j<r.length),j<i->r[j].1<k)(h2:∀h:i<r.length,¬r[i].1<k):posB k r=i:=by
 rcases Nat.lt_trichotomy (posB k r) i with h|h|h
 ·exact absurd (h1 _ (by omega) h) (posB_ge k r (by omega))
 ·exact h
 ·have:=posB_le k r
  exact absurd (posB_lt k r i (by omega) h) (h2 (by omega))
theorem SortedB.nodup{r:List (List UInt8×β)}(h:SortedB r):(r.map (·.1)).Nodup:=by
 rw[List.nodup_iff_pairwise_ne,List.pairwise_map];exact h.imp fun{a b} hab (e:a.1=b.1)=>List.lt_irrefl b.1 (by rw[e]at hab;exact hab)
def isB(k:List UInt8)(r:List (List UInt8×β)):Bool:=match r[posB k r]? with|some p=>decide (p.1=k)|none=>false
theorem SortedB.at{r:List (List UInt8×β)}(h:SortedB r)(k:List UInt8):∀x,getL k r=some x↔r[posB k r]?=some (k,x):=by
 intro x
 constructor
 ·intro hg
  obtain⟨i,hi,e⟩:=List.getElem_of_mem (yC hg)
  have hp:posB k r=i:=by
   refine posB_eq (by omega) (fun j hj hji=>?_) (fun _=>?_)
   ·have:=List.pairwise_iff_getElem.1 h j i hj hi hji
    rw[e]at this;exact this
   ·rw[e];exact List.lt_irrefl _
  rw[hp,List.getElem?_eq_getElem hi,e]
 ·intro hg
  exact getL_of_mem h.nodup (List.mem_of_getElem? hg)
theorem SortedB.isSome{r:List (List UInt8×β)}(h:SortedB r)(k:List UInt8):isB k r=(getL k r).isSome:=by
 unfold isB
 cases hq:r[posB k r]? with
 |none=>
  cases hg:getL k r with
  |none=>rfl
  |some x=>rw[(h.at k x).1 hg]at hq;cases hq
 |some p=>
  by_cases hp:p.1=k
  ·have:r[posB k r]?=some (k,p.2):=by rw[hq,<-hp]
   rw[(h.at k p.2).2 this];simp[hp]
  ·cases hg:getL k r with
   |none=>simp[hp]
   |some x=>rw[(h.at k x).1 hg]at hq;cases hq;exact absurd rfl hp
def insB(k:List UInt8)(x:β)(r:List (List UInt8×β)):List (List UInt8×β):=r.take (posB k r)++(k,x)::r.drop (posB k r)
theorem SortedB.ins{r:List (List UInt8×β)}(h:SortedB r){k:List UInt8}(x:β)(hg:getL k r=none):SortedB (insB k x r):=by
 have hk:=getL_none.1 hg;have h1:SortedB (r.take (posB k r)):=h.sublist (List.take_sublist _ _);have h2:SortedB (r.drop (posB k r)):=h.sublist (List.drop_sublist _ _)
 have ha:∀p∈r.take (posB k r),p.1<k:=fun p hp=>by
  obtain⟨i,hi,e⟩:=List.getElem_of_mem hp;have hi':i<posB k r/\i<r.length:=by simp at hi;omega
  rw[List.getElem_take]at e;rw[<-e];exact posB_lt k r i hi'.2 hi'.1
 have hb:∀p∈r.drop (posB k r),k<p.1:=fun p hp=>by
  obtain⟨i,hi,e⟩:=List.getElem_of_mem hp;have hi':posB k r+i<r.length:=by simp at hi;omega
  rw[List.getElem_drop]at e;have hp0:posB k r<r.length:=by omega
  have h0:=posB_ge k r hp0;have hne:r[posB k r].1≠k:=fun e=>hk (e▸List.mem_map.2 ⟨_,List.getElem_mem hp0,rfl⟩)
  have h3:k<r[posB k r].1:=by
   rcases ltB_tri r[posB k r].1 k with h|h|h
   ·exact absurd h h0
   ·exact absurd h hne
   ·exact h
  rw[<-e]
  rcases Nat.eq_zero_or_pos i with rfl|hi0
  ·exact h3
  ·exact jG h3 (List.pairwise_iff_getElem.1 h (posB k r) (posB k r+i) hp0 hi' (by omega))
 show List.Pairwise _ (r.take (posB k r)++(k,x)::r.drop (posB k r))
 rw[List.pairwise_append,List.pairwise_cons];refine⟨h1,⟨hb,h2⟩,fun p hp q hq=>?_⟩
 rcases List.mem_cons.1 hq with rfl|hq
 ·exact ha p hp
 ·exact jG (ha p hp) (hb q hq)
theorem ins_permB(k:List UInt8)(x:β)(r:List (List UInt8×β)):(insB k x r).Perm (r++[(k,x)]):=by
 unfold insB;refine List.perm_middle.trans ?_;rw[List.take_append_drop];exact(List.perm_append_singleton _ _).symm
theorem SortedB.erase{r:List (List UInt8×β)}(h:SortedB r){k:List UInt8}(hg:(getL k r).isSome=true):r.eraseIdx (posB k r)=r.filter fun p=>decide (p.1≠k):=by
 cases hx:getL k r with
 |none=>rw[hx]at hg;cases hg
 |some x=>
  have hq:=(h.at k x).1 hx;obtain⟨hp,e⟩:=List.getElem?_eq_some_iff.1 hq
  have h1:∀p∈r.take (posB k r),p.1≠k:=fun p hp' e'=>by
   obtain⟨i,hi,e2⟩:=List.getElem_of_mem hp';have hi':i<posB k r/\i<r.length:=by simp at hi;omega
   rw[List.getElem_take]at e2;have:=posB_lt k r i hi'.2 hi'.1;rw[e2,e']at this;exact List.lt_irrefl _ this
  have h2:∀p∈r.drop (posB k r+1),p.1≠k:=fun p hp' e'=>by
   obtain⟨i,hi,e2⟩:=List.getElem_of_mem hp';have hi':posB k r+1+i<r.length:=by simp at hi;omega
   rw[List.getElem_drop]at e2;have:=List.pairwise_iff_getElem.1 h (posB k r) (posB k r+1+i) hp hi' (by omega);rw[e2,e,e']at this;exact List.lt_irrefl _ this
  rw[List.eraseIdx_eq_take_drop_succ]
  conv=>rhs;rw[<-List.take_append_drop (posB k r) r,<-List.getElem_cons_drop hp,e]
  rw[List.filter_append,List.filter_cons]
  rw[if_neg (by simp),List.filter_eq_self.2 (fun p hp=>by simpa using h1 p hp),List.filter_eq_self.2 (fun p hp=>by simpa using h2 p hp)]
structure Ref8(r l:List (List UInt8×β)):Prop where
 sorted:SortedB r
 perm:r.Perm l
theorem Ref8.nodup{r l:List (List UInt8×β)}(h:Ref8 r l):(l.map (·.1)).Nodup:=(h.perm.map _).nodup_iff.1 h.sorted.nodup
theorem Ref8.get{r l:List (List UInt8×β)}(h:Ref8 r l)(k:List UInt8):getL k r=getL k l:=by
 have hm:∀x,getL k r=some x↔getL k l=some x:=fun x=>
  ⟨fun hg=>getL_of_mem h.nodup (h.perm.mem_iff.1 (yC hg)),fun hg=>getL_of_mem h.sorted.nodup (h.perm.mem_iff.2 (yC hg))⟩
 cases hr:getL k r with
 |some x=>exact((hm x).1 hr).symm
 |none=>
  cases hl:getL k l with
  |none=>rfl
  |some x=>rw[(hm x).2 hl]at hr;cases hr
end
def putR(k m:List UInt8)(r:BlobL):BlobL:=if(getL k r).isSome then r else insB k m r
theorem Ref8.put{r c:BlobL}(h:Ref8 r c)(k m:List UInt8):Ref8 (putR k m r) (putB k m c):=by
 unfold putR putB;rw[h.get]
 cases hg:getL k c with
 |some x=>exact h
 |none=>
  have hr:getL k r=none:=by rw[h.get];exact hg
  exact⟨h.sorted.ins m hr,(ins_permB k m r).trans (h.perm.append_right _)⟩
def rOf(wd:Nat)(L:List (List UInt8)):BlobL:=L.foldl (fun c b=>putR (ofI wd b) b c) []
theorem rOf_snoc(wd:Nat)(L:List (List UInt8))(k:Nat)(hk:k<L.length):rOf wd (L.take (k+1))=putR (ofI wd L[k]) L[k] (rOf wd (L.take k)):=by
 unfold rOf;rw[List.take_succ_eq_append_getElem hk,List.foldl_append]
 rfl
theorem rOf_ref(wd:Nat)(L:List (List UInt8)):Ref8 (rOf wd L) (cOf wd L):=by
 suffices h:∀(L:List (List UInt8))(r c:BlobL),Ref8 r c->Ref8 (L.foldl (fun c b=>putR (ofI wd b) b c) r) (L.foldl (fun c b=>putB (ofI wd b) b c) c)from h L [] [] ⟨.nil,.refl _⟩
 intro L
 induction L with
 |nil=>intro r c h;exact h
 |cons b L ih=>intro r c h;exact ih _ _ (h.put _ _)
theorem Ref8.ids{r c:BlobL}(h:Ref8 r c):IDsC c (r.map (·.1)):=⟨List.pairwise_map.2 h.sorted,h.perm.map _⟩
theorem Ref8.del{r c:BlobL}(h:Ref8 r c)(k:List UInt8):Ref8 (r.filter fun p=>decide (p.1≠k)) (delL k c):=by
 rw[delL_filter k c h.nodup];exact⟨h.sorted.filter _,h.perm.filter _⟩
theorem lex_lt:∀{x y:List UInt8}{n:Nat}(hx:n<x.length)(hy:n<y.length),x.take n=y.take n->x[n]<y[n]->x<y
 |a::x,b::y,0,_,_,_,h=>by
  exact List.cons_lt_cons_iff.2 (.inl h)
 |a::x,b::y,n+1,hx,hy,ht,h=>by
  simp only[List.take_succ_cons,List.cons.injEq]at ht;exact List.cons_lt_cons_iff.2 (.inr ⟨ht.1,lex_lt (by simpa using hx) (by simpa using hy) ht.2 (by simpa using h)⟩)
theorem cmpI_less{x y:List UInt8}(h:x<y):cmpI x y=-1:=by
 have h1:=(cmpI_neg x y).2 h
 rcases cmpI_lt x y with h2|h2|h2<;>omega
theorem cmpI_more{x y:List UInt8}(h:y<x):cmpI x y=1:=by
 rcases cmpI_lt x y with h2|h2|h2
 ·exact absurd ((cmpI_neg x y).1 (by omega)) (fun h3=>List.lt_irrefl _ (jG h h3))
 ·rw[cmpI_zero]at h2;subst h2;exact absurd h (List.lt_irrefl _)
 ·exact h2
def CmpRel(x y:List UInt8)(w0:World)(v:Value)(w:World):Prop:=∃n:Nat,n<=32/\v=.int .i64 n/\x.take n=y.take n/\Mod NoB w0 w
theorem id_cell{w:World}{b:Nat}{x:List UInt8}{T:TypeId}(hB:w.heap[b]?=some (.cells (qA x) T (0,0))){n:Nat}(h:n<x.length):w.cell? ⟨b,n,none⟩=some (.int .u8 (x[n].toNat:Int)):=by
 rw[cell_of_row _ _ _ _ _ _ hB]
 simp[qA,h,byteV]
theorem refCompare_any(x y:List UInt8)(hx:x.length=32)(hy:y.length=32)(w:World):Calls prog 195 #[.agg (qA x),.agg (qA y)] w (RetM (.int .i64 (cmpI x y)) w):=by
 go_enter func195,ntmps195;go_upto_region 0 with(fail);refine wpR [1,1,3] ?_;simp only[stz];refine wpD (zL 24 _ _ (by rfl) (by rfl) (fun w1 hB1 hm1 hs1=>?_))
 replace hB1:w1.heap[w.heap.size]?=some (.cells (qA x) 24 (0,0)):=hB1;try simp only[nmz]
 refine wpD (zL 24 _ _ (by rfl) (by rfl) (fun w2 hB2 hm2 hs2=>?_));replace hB2:w2.heap[w1.heap.size]?=some (.cells (qA y) 24 (0,0)):=hB2;simp only[stz]
 have hM2:=hm1.trans0 hm2;have hB1:=hm2.obj id hB1;clear hm1 hm2 hs1 hs2;go_wp2
 go_loopw [5] (CmpRel x y w2) (fun i _=>32-(intOf i).toNat)
 case atStart=>exact⟨0,by omega,rfl,rfl,Mod.refl _ _⟩
 case round=>
  rename World=>wr
  obtain⟨n,hn,rfl,hpre,hM⟩:=hrel
  by_cases hlt:n<32
  ·have hz:(n:Int)<32:=by omega
   have hxn:n<x.length:=by omega
   have hyn:n<y.length:=by omega
   have h1:=id_cell (hM.obj id hB1) hxn;have h2:=id_cell (hM.obj id hB2) hyn;have e1:x.take (n+1)=x.take n++[x[n]]:=List.take_succ_eq_append_getElem hxn
   have e2:y.take (n+1)=y.take n++[y[n]]:=List.take_succ_eq_append_getElem hyn;have hlx:= @lex_lt x y n hxn hyn hpre;have hly:= @lex_lt y x n hyn hxn hpre.symm
   have heq:x[n]=y[n]->x.take (n+1)=y.take (n+1):=fun e=>by rw[e1,e2,hpre,e]
   generalize x[n]=p at*;generalize y[n]=q at*;have HLX:=hid hlx;have HLY:=hid hly;have HEQ:=hid heq;clear hlx hly heq e1 e2 hpre;go_upto_region 4 with(fail)
   have hS:Mod NoB wr wr.drew:=(Mod.refl _ _).drew;obtain⟨t,ht⟩:∃t,cmpB .lss (p.toNat:Int) (q.toNat:Int)=t:=⟨_,rfl⟩;have HT:=hid ht;clear ht
   refine wpRZ [3,3,0,3,3,0,3] [] (fun w'=>Mod NoB wr w') hS ?_;simp only[stz]
   refine qH _ _ _ _ _ _ _ _ rfl rfl rfl rfl underlying24 (n:=1) (by kernel_rfl) hlt ?_;simp only[nmz]
   refine wpLd 5 w.heap.size (n*1) (fun w' hS=>by rw[Nat.mul_one];exact hS.cell id h1) underlying5 ?_;simp only[stz]
   refine qH _ _ _ _ _ _ _ _ rfl rfl rfl rfl underlying24 (n:=1) (by kernel_rfl) hlt ?_;simp only[nmz]
   refine wpLd 5 w1.heap.size (n*1) (fun w' hS=>by rw[Nat.mul_one];exact hS.cell id h2) underlying5 ?_;simp only[nmz]
   refine qK _ _ _ _ _ _ _ _ rfl rfl rfl rfl rfl t HT.out ?_;simp only[stz]
   cases t
   ·have hnl:¬p.toNat<q.toNat:=by have:=HT.out;simpa[cmpB]using this
    go_upto_region 6 with(fail);have hS2:Mod NoB wr wr.drew.drew:=hS.drew;obtain⟨t,ht⟩:∃t,cmpB .gtr (p.toNat:Int) (q.toNat:Int)=t:=⟨_,rfl⟩
    have HT2:=hid ht;clear ht;refine wpRZ [3,3,0,3,3,0,3] [] (fun w'=>Mod NoB wr w') hS2 ?_;simp only[stz]
    refine qH _ _ _ _ _ _ _ _ rfl rfl rfl rfl underlying24 (n:=1) (by kernel_rfl) hlt ?_;simp only[nmz]
    refine wpLd 5 w.heap.size (n*1) (fun w' hS=>by rw[Nat.mul_one];exact hS.cell id h1) underlying5 ?_;simp only[stz]
    refine qH _ _ _ _ _ _ _ _ rfl rfl rfl rfl underlying24 (n:=1) (by kernel_rfl) hlt ?_;simp only[nmz]
    refine wpLd 5 w1.heap.size (n*1) (fun w' hS=>by rw[Nat.mul_one];exact hS.cell id h2) underlying5 ?_;simp only[nmz]
    refine qK _ _ _ _ _ _ _ _ rfl rfl rfl rfl rfl t HT2.out ?_;simp only[stz]
    cases t
    ·have hng:¬q.toNat<p.toNat:=by have:=HT2.out;simpa[cmpB]using this
     have e:p=q:=UInt8.toNat_inj.1 (by omega);have hM':=hM.trans0 hS2;clear hM hS hS2 h1 h2;go_wp2
     go_roundw
     case rel=>exact⟨n+1,by omega,by go_num,HEQ.out e,hM'⟩
     case measure=>simp[intOf];omega
    ·have hg:q.toNat<p.toNat:=by have:=HT2.out;simpa[cmpB]using this
     have hc:=cmpI_more (HLY.out hg);have hM':=(hM2.trans0 hM).trans0 hS2;clear hM hS hS2 h1 h2;go_wp2;go_ret;refine⟨?_,hM'⟩
     first|rfl|(rw[hc];rfl)
   ·have hl:p.toNat<q.toNat:=by have:=HT.out;simpa[cmpB]using this
    have hc:=cmpI_less (HLX.out hl);have hM':=(hM2.trans0 hM).trans0 hS;clear hM hS h1 h2;go_wp2;go_ret;refine⟨?_,hM'⟩
    first|rfl|(rw[hc];rfl)
  ·have hz:¬(n:Int)<32:=by omega
   obtain rfl:n=32:=by omega
   have e:x=y:=by rw[List.take_of_length_le (by omega),List.take_of_length_le (by omega)]at hpre;exact hpre
   have hc:cmpI x y=0:=(cmpI_zero x y).2 e;have hM':=hM2.trans0 hM;clear hM hpre e;go_wp2;go_ret;refine⟨?_,hM'⟩
   first|rfl|(rw[hc];rfl)
end
section
open Go.RowKit Go.Shelf Go.Proofs.Tryz Go.Lib
abbrev Rb8:=List UInt8×(List UInt8×(Option Addr×Nat))
abbrev R8L:=List Rb8
def rbV(p:Rb8):Value:=.slice p.2.2.1 p.2.1.length p.2.2.2
def rbL(p:Rb8):List Value:=idE p.1++[rbV p]
theorem rbL_len(p:Rb8):(rbL p).length=33:=by simp[rbL,jM]
theorem rbL_one(p:Rb8):∀c∈rbL p,c.oneCell'=true:=by
 intro c hc
 rcases List.mem_append.1 hc with h|h
 ·exact idE_one p.1 c h
 ·rw[List.mem_singleton.1 h];rfl
theorem rbL_arr{p:Rb8}(h:p.1.length=32):(rbL p).toArray=qA p.1++#[rbV p]:=by
 unfold rbL;rw[<-idE_eq h]
 simp
def contR(r:R8L):BlobL:=r.map fun p=>(p.1,p.2.1)
theorem contR_get(k:List UInt8):∀(r:R8L),getL k (contR r)=(getL k r).map (·.1)
 | []=>rfl
 |p::r=>by
  show getL k ((p.1,p.2.1)::contR r)=_
  unfold getL
  by_cases e:k=p.1
  ·rw[if_pos e,if_pos e];rfl
  ·rw[if_neg e,if_neg e,contR_get k r]
theorem contR_pos(k:List UInt8):∀(r:R8L),posB k (contR r)=posB k r
 | []=>rfl
 |p::r=>by
  show posB k ((p.1,p.2.1)::contR r)=_
  simp only[posB,contR_pos k r]
theorem contR_sort{r:R8L}:SortedB (contR r)↔SortedB r:=by
 unfold SortedB contR;rw[List.pairwise_map]
theorem contR_len(r:R8L):(contR r).length=r.length:=List.length_map ..
theorem contR_ins(k m:List UInt8)(v:Option Addr×Nat)(r:R8L):contR (insB k (m,v) r)=insB k m (contR r):=by
 unfold insB;rw[contR_pos]
 simp[contR,List.map_take,List.map_drop]
theorem contR_filter(k:List UInt8)(r:R8L):contR (r.filter fun p=>decide (p.1≠k))=(contR r).filter fun p=>decide (p.1≠k):=by
 unfold contR;rw[List.filter_map]
 rfl
structure R8At(w:World)(q wd:Nat)(r:R8L)(R:Nat->Prop):Prop where
 ok:∃v,w.heap[q]?=some (.cells #[.int .i64 wd,.int .i64 67108864,v] 89 (0,0))/\Gat rbL 225 33 0 w v r/\R q/\∀g,v.ownBlock=some g->R g/\g≠q/\∀p∈r,(rbV p).ownBlock≠some g
 bts:∀p∈r,Bts 0 w (rbV p) p.2.1/\∀g,(rbV p).ownBlock=some g->R g/\g≠q
 ids:∀p∈r,p.1.length=32
 sz:∀p∈r,p.2.1.length<=4096
 few:r.length<=10000
 wok:1<=wd/\wd<=32
 lt:∀k,R k->k<w.heap.size
def R8Step(w:World)(q wd:Nat)(R:Nat->Prop)(w':World)(r':R8L):Prop:=∃R',R8At w' q wd r' R'/\Mod R w w'/\∀k,R' k->R k\/New w w' k
section
variable{w w':World}{q wd:Nat}{r r':R8L}{R:Nat->Prop}
theorem R8At.keep{S:Nat->Prop}(h:R8At w q wd r R)(hm:Mod S w w')(hS:∀k,R k->¬S k):R8At w' q wd r R:=by
 obtain⟨⟨v,h1,h2,h3,h4⟩,hb,hi,hz,hf,hw,hl⟩:=h
 exact⟨⟨v,hm.obj (hS q h3) h1,h2.keep hm (fun g hg=>hS g (h4 g hg).1),h3,h4⟩,fun p hp=>⟨Bts.keep (hb p hp).1 hm (fun g hg=>hS g ((hb p hp).2 g hg).1),(hb p hp).2⟩,hi,hz,hf,hw,fun k hk=>Nat.lt_of_lt_of_le (hl k hk) hm.size⟩
theorem R8At.keep0(h:R8At w q wd r R)(hm:Mod NoB w w'):R8At w' q wd r R:=h.keep hm (fun _ _=>id)
theorem R8At.step(h:R8At w q wd r R)(hm:Mod NoB w w'):R8Step w q wd R w' r:=⟨R,h.keep0 hm,hm.mono (fun _ _ h=>False.elim h),fun k hk=>.inl hk⟩
theorem R8At.at(h:R8At w q wd r R):∃ad cap,w.cell? ⟨q,0,none⟩=some (.int .i64 wd)/\w.cell? ⟨q,1,none⟩=some (.int .i64 67108864)/\w.cell? ⟨q,2,none⟩=some (.slice ad r.length cap)/\r.length<=cap/\
 ∀i (hi:i<r.length),∃g,ad=some ⟨g,0,none⟩/\CellsAt w g (i*33) (qA r[i].1)/\w.cell? ⟨g,i*33+32,none⟩=some (rbV r[i]):=by
 obtain⟨⟨v,h1,h2,h3,h4⟩,hb,hi,hz,hf,hw,hl⟩:=h;obtain⟨ad,cap,rfl⟩:=h2.slice
 refine⟨ad,cap,by rw[cell_of_row _ _ _ _ _ _ h1];rfl,by rw[cell_of_row _ _ _ _ _ _ h1];rfl,by rw[cell_of_row _ _ _ _ _ _ h1];rfl,?_,fun i hi'=>?_⟩
 ·rcases h2.2 with⟨e,h0⟩|⟨g,c,cur,e,_,_,hc,_⟩
  ·omega
  ·injection e with e1 e2 e3
   rw[e3];exact hc
 ·obtain⟨g,c,cur,e,hg,hc,-⟩:=Gat.at h2 rbL_len i hi'
  injection e with e1 e2 e3;subst e1;have hid:=hi _ (List.getElem_mem hi');have hcells:=rbL_arr hid;have hs:(qA r[i].1).size=32:=by rw[qB,hid]
  refine⟨g,rfl,fun j hj=>?_,?_⟩
  ·have h9:=hc.cell (j:=j) (v:=(qA r[i].1)[j]) (by rw[hcells,Array.getElem?_append_left hj];simp)
   rw[h9];simp
  ·exact hc.cell (j:=32) (by rw[hcells,Array.getElem?_append_right (by omega),hs];rfl)
end
theorem R8At.own{w:World}{q wd:Nat}{r:R8L}{R:Nat->Prop}(h:R8At w q wd r R):∃ad cap,w.heap[q]?=some (.cells #[.int .i64 wd,.int .i64 67108864,.slice ad r.length cap] 89 (0,0))/\Gat rbL 225 33 0 w (.slice ad r.length cap) r/\R q/\∀g,(Value.slice ad r.length cap).ownBlock=some g->R g/\g≠q/\∀p∈r,(rbV p).ownBlock≠some g:=by
 obtain⟨⟨v,h1,h2,h3,h4⟩,-⟩:=h;obtain⟨ad,cap,rfl⟩:=h2.slice;exact⟨ad,cap,h1,h2,h3,h4⟩
theorem R8Step.mk{w:World}{q wd:Nat}{r:R8L}{R:Nat->Prop}(h:R8At w q wd r R){w8 w9:World}{v:Value}{r':R8L}(hG:Gat rbL 225 33 0 w8 v r')(hm8:Mod (fun k=>R k/\k≠q) w w8)(hB9:w9.heap[q]?=some (.cells #[.int .i64 wd,.int .i64 67108864,v] 89 (0,0)))(hm9:Mod (fun k=>k=q) w8 w9)
 (hv:∀g,v.ownBlock=some g->(R g\/New w w8 g)/\g≠q/\∀p∈r',(rbV p).ownBlock≠some g)(hb:∀p∈r',Bts 0 w8 (rbV p) p.2.1/\∀g,(rbV p).ownBlock=some g->(R g\/New w w8 g)/\g≠q)(hi:∀p∈r',p.1.length=32)(hz:∀p∈r',p.2.1.length<=4096)(hf:r'.length<=10000):R8Step w q wd R w9 r':=by
 have hRq:R q:=by obtain⟨_,_,_,h3,_⟩:=h.ok;exact h3
 have hM:Mod R w w9:=(hm8.mono (S':=R) fun _ _ h=>h.1).trans hm9 (fun k _ e=>by rw[show k=q from e];exact hRq)
 have up:∀g,R g\/New w w8 g->R g\/New w w9 g:=fun g hg=>hg.imp id fun h=>⟨h.1,Nat.lt_of_lt_of_le h.2 hm9.size⟩
 refine⟨fun k=>R k\/New w w9 k,⟨⟨v,hB9,hG.keep hm9 (fun g e=>(hv g e).2.1),.inl hRq,fun g e=>⟨up g (hv g e).1,(hv g e).2⟩⟩,fun p hp=>⟨Bts.keep (hb p hp).1 hm9 (fun g e=>((hb p hp).2 g e).2),fun g e=>⟨up g ((hb p hp).2 g e).1,((hb p hp).2 g e).2⟩⟩,hi,hz,hf,h.wok,fun k hk=>?_⟩,hM,fun k hk=>hk⟩
 rcases hk with hk|hk
 ·exact Nat.lt_of_lt_of_le (h.lt k hk) hM.size
 ·exact hk.2
theorem r8Z:(prog.info? 89).bind (·.zero)=some (.agg #[.int .i64 0,.int .i64 0,.slice none 0 0]):=by kernel_rfl
theorem r8P:xV prog 89=some [(0,1),(1,1),(2,1)]:=by kernel_rfl
theorem built_r8(n:Int):prog.built 89 [(0,.int .i64 n),(1,.int .i64 67108864)]=some #[.int .i64 n,.int .i64 67108864,.slice none 0 0]:=by
 rw[zP r8Z r8P,zC (off:=0) (size:=1) rfl rfl (by simp),zC (off:=1) (size:=1) rfl rfl (by simp[qY,Value.cells]),xY]
 rfl
def R8New(w:World)(wd:Nat):Ending->World->Prop:=fun e w'=>∃q R,e=.returned (.tuple #[.pointer (some ⟨q,0,none⟩),.int .i64 0])/\R8At w' q wd [] R/\Mod NoB w w'/\∀k,R k->w.heap.size<=k
theorem r8New_any(wd:Nat)(hw:1<=wd/\wd<=32)(w:World):Calls prog 80 #[.int .i64 wd,.int .i64 67108864] w (R8New w wd):=by
 have h1:¬(wd:Int)<1:=by omega
 have h2:¬(32:Int)<wd:=by omega
 go_enter func80,ntmps80;go_upto_region 3 with(fail);refine wpR [3,3,0,1,3,3] ?_;simp only[stz]
 refine qG rfl (fun w' hS=>qO 89 [(0,_),(1,_)] [(0,.int .i64 wd),(1,.int .i64 67108864)] _ (by rfl) (by rfl) (built_r8 wd)) ?_;simp only[nmz]
 refine wpD (zL 89 _ _ (by rfl) (by rfl) (fun w1 hB1 hm1 hs1=>?_))
 replace hB1:w1.heap[w.heap.size]?=some (.cells #[.int .i64 wd,.int .i64 67108864,.slice none 0 0] 89 (0,0)):=hB1;simp only[stz];go_wp2;go_ret2
 refine⟨w.heap.size,fun k=>k=w.heap.size,rfl,⟨⟨_,hB1,Gat.nil _ _ _ _ _,rfl,fun g h=>(nomatch h)⟩,fun p hp=>(nomatch hp),fun p hp=>(nomatch hp),fun p hp=>(nomatch hp),by simp,hw,fun k hk=>?_⟩,hm1,fun k hk=>?_⟩
 ·rw[show k=w.heap.size from hk];exact hs1
 ·rw[show k=w.heap.size from hk];exact Nat.le_refl _
section
variable{w:World}{q wd:Nat}{r:R8L}{R:Nat->Prop}
def At8Rel(r:R8L)(k:List UInt8)(w0:World)(v:Value)(w:World):Prop:=∃n:Nat,n<=r.length/\v=.int .i64 n/\(∀j (h:j<r.length),j<n->r[j].1<k)/\Mod NoB w0 w
theorem r8At_any(h:R8At w q wd r R){k:List UInt8}(hk:k.length=32):Calls prog 153 #[.pointer (some ⟨q,0,none⟩),.agg (qA k)] w (RetM (.tuple #[.int .i64 (posB k r),.bool (isB k r)]) w):=by
 have hkc:(qA k).size=32:=by rw[qB,hk]
 obtain⟨ra,rc,-,-,hLc,hlc,hat⟩:=h.at;have hids:=h.ids;have hfew:=h.few;have HA:=Lib.hid hat;have HI:=Lib.hid hids;clear hat hids h;go_enter func153,ntmps153
 go_upto_region 0 with(fail);refine wpR [1,3,3] ?_;simp only[stz];refine wpD (zL 24 _ _ (by rfl) (by rfl) (fun w1 hB1 hm1 hs1=>?_))
 replace hB1:w1.heap[w.heap.size]?=some (.cells (qA k) 24 (0,0)):=hB1;simp only[stz];have hLc:=hm1.cell id hLc
 have hbx:CellsAt w1 w.heap.size 0 (qA k):=CellsAt.whole hB1;have HM1:=Lib.hid hm1;generalize w.heap.size=b3 at*;clear hB1 hm1 hs1;go_wp2
 go_loopw [6] (At8Rel r k w1) (fun i _=>r.length-(intOf i).toNat)
 case atStart=>exact⟨0,by omega,rfl,fun j _ hj=>by omega,Mod.refl _ _⟩
 case round=>
  rename World=>wr
  obtain⟨n,hn,rfl,hpre,hM⟩:=hrel;go_upto_region 2 with(fail);have hS:Mod NoB w1 wr.drew:=hM.drew
  by_cases hlt:n<r.length
  ·have hz:(n:Int)<(r.length:Int):=by omega
   obtain⟨g,rfl,hcid,-⟩:=HA.out n hlt;have hcid:=hcid.keep HM1.out id;have hp32:=HI.out r[n] (List.getElem_mem hlt)
   have hpc:(qA r[n].1).size=32:=by rw[qB,hp32]
   have hnext:r[n].1<k->∀j (h:j<r.length),j<n+1->r[j].1<k:=fun h1 j hj hj1=>by
    rcases Nat.lt_or_ge j n with h2|h2
    ·exact hpre j hj h2
    ·have:j=n:=by omega
     subst this;exact h1
   have hstop:¬r[n].1<k->posB k r=n:=fun h1=>posB_eq (by omega) hpre (fun _=>h1)
   have hisl:posB k r=n->isB k r=decide (r[n].1=k):=fun e=>by unfold isB;rw[e,List.getElem?_eq_getElem hlt]
   have hneg:=cmpI_neg r[n].1 k;clear hpre;generalize r[n].1=x at*;have hcmp:=fun w'=>refCompare_any x k hp32 hk w'
   have HNX:=Lib.hid hnext;have HST:=Lib.hid hstop;have HIS:=Lib.hid hisl;have HNG:=Lib.hid hneg;generalize cmpI x k=cv at*;clear hnext hstop hisl hneg HA HI
   by_cases hcv:cv<0
   ·skip
    refine wpRZ [3,3,3,3,0,3,3,3,3,3,3,0,3,3,3,0,0,1,3,3] [] (fun w'=>Mod NoB w1 w') hS ?_;simp only[stz]
    refine wpLd 87 q 2 (fun w' hS=>hS.cell id hLc) underlying87 ?_;simp only[nmz];refine wpPL ?_;simp only[nmz]
    refine qK _ _ _ _ _ _ _ _ rfl rfl rfl rfl rfl true (decide_eq_true hz) ?_;simp only[stz];refine wpLd 87 q 2 (fun w' hS=>hS.cell id hLc) underlying87 ?_
    simp only[stz];refine wpPI underlying87 33 hlt ?_;simp only[stz];refine wpLA 24 g (n*33) (qA x) (fun w' hS=>hcid.keep hS id) underlying24 32 hpc ?_;simp only[nmz]
    refine wpLA 24 b3 0 (qA k) (fun w' hS=>hbx.keep hS id) underlying24 32 hkc ?_;simp only[nmz];refine qL rfl (fun K hK=>?_);refine wpC func195 (hcmp _) ?_
    rintro e w5 ⟨rfl,hm5⟩;have hS5:=hS.trans0 hm5;refine⟨_,rfl,hK _ _ hS5 ?_⟩;clear hK K;try simp only[nmz]
    refine qK _ _ _ _ _ _ _ _ rfl rfl rfl rfl rfl true (decide_eq_true hcv) ?_;simp only[stz];have HNX2:=Lib.hid (HNX.out (HNG.out.1 hcv));clear hM hS hcid hcmp;go_wp2
    go_roundw
    case rel=>exact⟨n+1,by omega,by go_num,HNX2.out,hS5⟩
    case measure=>simp[intOf];omega
   ·have hp0:=HST.out (fun h=>hcv (HNG.out.2 h))
    obtain⟨t4,ht4⟩:∃t,decide (x=k)=t:=⟨_,rfl⟩;have hi0:=(HIS.out hp0).trans ht4;have HP:=Lib.hid hp0;have HII:=Lib.hid hi0;have HT4:=Lib.hid ht4
    clear hp0 hi0 ht4;refine wpRZ [3,3,3,3,0,3,3,3,3,3,3,0,3,3,3,0,0,1,3,3] [] (fun w'=>Mod NoB w1 w') hS ?_;simp only[stz]
    refine wpLd 87 q 2 (fun w' hS=>hS.cell id hLc) underlying87 ?_;simp only[nmz];refine wpPL ?_;simp only[nmz]
    refine qK _ _ _ _ _ _ _ _ rfl rfl rfl rfl rfl true (decide_eq_true hz) ?_;simp only[stz];refine wpLd 87 q 2 (fun w' hS=>hS.cell id hLc) underlying87 ?_
    simp only[stz];refine wpPI underlying87 33 hlt ?_;simp only[stz];refine wpLA 24 g (n*33) (qA x) (fun w' hS=>hcid.keep hS id) underlying24 32 hpc ?_;simp only[nmz]
    refine wpLA 24 b3 0 (qA k) (fun w' hS=>hbx.keep hS id) underlying24 32 hkc ?_;simp only[nmz];refine qL rfl (fun K hK=>?_);refine wpC func195 (hcmp _) ?_
    rintro e w5 ⟨rfl,hm5⟩;have hS5:=hS.trans0 hm5;refine⟨_,rfl,hK _ _ hS5 ?_⟩;clear hK K;try simp only[nmz]
    refine qK _ _ _ _ _ _ _ _ rfl rfl rfl rfl rfl false (decide_eq_false hcv) ?_;simp only[stz];clear hM hS hcmp;go_upto_region 4 with(fail)
    have hS:Mod NoB w1 w5.drew:=hS5.drew;refine wpRZ [3,3,3,3,3,0,3,3,3,3,3,3,0,3,3,3,0,0,0,3,3,3] [] (fun w'=>Mod NoB w1 w') hS ?_;simp only[stz]
    refine wpLd 87 q 2 (fun w' hS=>hS.cell id hLc) underlying87 ?_;simp only[nmz];refine wpPL ?_;simp only[nmz]
    refine qK _ _ _ _ _ _ _ _ rfl rfl rfl rfl rfl true (decide_eq_true hz) ?_;simp only[stz];refine wpLd 87 q 2 (fun w' hS=>hS.cell id hLc) underlying87 ?_
    simp only[stz];refine wpPI underlying87 33 hlt ?_;simp only[stz];refine wpLA 24 g (n*33) (qA x) (fun w' hS=>hcid.keep hS id) underlying24 32 hpc ?_;simp only[nmz]
    refine wpLA 24 b3 0 (qA k) (fun w' hS=>hbx.keep hS id) underlying24 32 hkc ?_;simp only[nmz]
    refine qG rfl (fun w' hS=>exec_eql_id _ _ _ _ rfl _ _ rfl rfl 32 5 underlying24 underlying5 (by kernel_rfl) (by kernel_rfl) hp32 hk t4 HT4.out) ?_;simp only[stz]
    have hM3:=HM1.out.trans0 hS;clear hS hS5 hcid;go_wp2;go_ret2;rw[HP.out,HII.out];exact⟨rfl,hM3⟩
  ·have hz:¬(n:Int)<(r.length:Int):=by omega
   have hp0:posB k r=n:=posB_eq (by omega) hpre (fun h=>absurd h hlt);have hi0:isB k r=false:=by unfold isB;rw[hp0,List.getElem?_eq_none (by omega)]
   have HP:=Lib.hid hp0;have HII:=Lib.hid hi0;clear hp0 hi0 hpre HA HI
   refine wpRZ [3,3,3,3,0,3,3,3,3,3,3,0,3,3,3,0,0,1,3,3] [] (fun w'=>Mod NoB w1 w') hS ?_;simp only[stz]
   refine wpLd 87 q 2 (fun w' hS=>hS.cell id hLc) underlying87 ?_;simp only[nmz];refine wpPL ?_;simp only[nmz]
   refine qK _ _ _ _ _ _ _ _ rfl rfl rfl rfl rfl false (decide_eq_false hz) ?_;simp only[stz];refine zO rfl hS ?_;simp only[stz];have hM2:=hS
   go_upto_region 4 with(fail);have hS:Mod NoB w1 wr.drew.drew:=hM2.drew
   refine wpRZ [3,3,3,3,3,0,3,3,3,3,3,3,0,3,3,3,0,0,3,3,3,3] [] (fun w'=>Mod NoB w1 w') hS ?_;simp only[stz]
   refine wpLd 87 q 2 (fun w' hS=>hS.cell id hLc) underlying87 ?_;simp only[nmz];refine wpPL ?_;simp only[nmz]
   refine qK _ _ _ _ _ _ _ _ rfl rfl rfl rfl rfl false (decide_eq_false hz) ?_;simp only[stz];have hM3:=HM1.out.trans0 hS;clear hM hM2 hS;go_wp2;go_ret2
   rw[HP.out,HII.out];exact⟨rfl,hM3⟩
end
section
variable{w:World}{q wd:Nat}{r:R8L}{R:Nat->Prop}
theorem R8At.val(h:R8At w q wd r R)(i:Nat)(hi:i<r.length):Sl true w (fun g=>0<=g/\g<w.heap.size/\(rbV r[i]).ownBlock=some g) 1 ByteC (rbV r[i]) r[i].2.1:=(h.bts _ (List.getElem_mem hi)).1.sl
def used8(r:R8L):Nat:=(r.map (·.2.1.length)).sum
theorem used8_take(r:R8L)(n:Nat)(hn:n<r.length):used8 (r.take (n+1))=used8 (r.take n)+r[n].2.1.length:=by
 unfold used8;rw[List.take_succ_eq_append_getElem hn,List.map_append,List.sum_append]
 simp
theorem used8_le:∀(r:R8L),(∀p∈r,p.2.1.length<=4096)->used8 r<=4096*r.length
 | [],_=>by simp[used8]
 |p::r,h=>by
  have h1:=used8_le r (fun x hx=>h x (List.mem_cons_of_mem _ hx));have h2:=h p List.mem_cons_self;simp only[used8,List.map_cons,List.sum_cons,List.length_cons]at h1 |-
  omega
def Us8Rel(r:R8L)(w0:World)(u i:Value)(w:World):Prop:=∃n:Nat,n<=r.length/\i=.int .i64 n/\u=.int .i64 (used8 (r.take n):Nat)/\Mod NoB w0 w
theorem r8Used_any(h:R8At w q wd r R):Calls prog 154 #[.pointer (some ⟨q,0,none⟩)] w (RetM (.int .i64 (used8 r:Nat)) w):=by
 obtain⟨ra,rc,-,-,hLc,hlc,hat⟩:=h.at;have hfew:=h.few;have hsz:=h.sz;have hu:=used8_le r hsz;have HA:=hid hat;have HZ:=hid hsz;clear hat hsz h
 go_enter func154,ntmps154;go_wp2
 go_loopw [3,4] (Us8Rel r w) (fun _ i _=>r.length-(intOf i).toNat)
 case atStart=>exact⟨0,by omega,rfl,rfl,Mod.refl _ _⟩
 case round=>
  rename World=>wr
  obtain⟨n,hn,rfl,rfl,hM⟩:=hrel;have hLr:=hM.cell id hLc
  by_cases hlt:n<r.length
  ·have hz:(n:Int)<(r.length:Int):=by omega
   obtain⟨g,rfl,-,hcv⟩:=HA.out n hlt;have hcr:=hM.cell id hcv;have hs:=used8_take r n hlt;have hle:=HZ.out r[n] (List.getElem_mem hlt)
   have hul:=used8_le (r.take n) (fun p hp=>HZ.out p (List.mem_of_mem_take hp));rw[List.length_take]at hul
   have hcr:wr.cell? ⟨g,n*33+32,none⟩=some (.slice r[n].2.2.1 r[n].2.1.length r[n].2.2.2):=hcr;generalize r[n].2.2.1=va at*;generalize r[n].2.2.2=vc at*
   generalize r[n].2.1.length=ln at*;generalize used8 (r.take n)=un at*;have HS:=hid hs;clear hcv hs;go_upto_region 3 with(fail);refine wpR [3,3,3,3,1,3,3] ?_
   simp only[stz];refine wpXd (v:=(.slice (some ⟨g,0,none⟩) r.length rc)) 87 q 2 hLr underlying87 trivial ?_;try simp only[nmz]
   refine wpPL ?_;simp only[nmz];refine qK _ _ _ _ _ _ _ _ rfl rfl rfl rfl rfl true (decide_eq_true hz) ?_;simp only[stz];go_upto_region 5 with(fail)
   refine wpR [3,3,3,3,1,3,3,3,1,3,3,3] ?_;simp only[stz];refine wpXd (v:=(.slice (some ⟨g,0,none⟩) r.length rc)) 87 q 2 hLr underlying87 trivial ?_;simp only[stz]
   refine wpPI underlying87 33 hlt ?_;simp only[stz];refine wpXd (v:=(.slice va ln vc)) 53 g (n*33+32) hcr underlying53 trivial ?_;try simp only[nmz]
   refine wpPL ?_;simp only[nmz];refine zF _ _ _ _ (un:Int) (ln:Int) ((un+ln:Nat):Int) rfl rfl rfl rfl (by omega) (by omega) (by omega) ?_;simp only[stz]
   clear hcr hLr;go_wp2
   go_roundw
   case rel=>exact⟨n+1,by omega,by go_num,by rw[HS.out],hM⟩
   case measure=>simp[intOf];omega
  ·have hz:¬(n:Int)<(r.length:Int):=by omega
   obtain rfl:n=r.length:=by omega
   go_upto_region 3 with(fail);refine wpR [3,3,3,3,1,3,3] ?_;simp only[stz];refine wpXd (v:=(.slice ra r.length rc)) 87 q 2 hLr underlying87 trivial ?_
   try simp only[nmz]
   refine wpPL ?_;simp only[nmz];refine qK _ _ _ _ _ _ _ _ rfl rfl rfl rfl rfl false (decide_eq_false hz) ?_;simp only[stz];clear hLr;rw[List.take_length];go_wp2;go_ret
   exact⟨rfl,hM⟩
end
theorem flat_dropE{α:Type}{enc:α->List Value}{k:Nat}(hk:∀x,(enc x).length=k)(l:List α)(i:Nat)(hi:i<=l.length):(l.flatMap enc).drop (i*k)=(l.drop i).flatMap enc:=by
 have h1:=flat_take hk l i hi;have h2:l.flatMap enc=(l.take i).flatMap enc++(l.drop i).flatMap enc:=by rw[<-List.flatMap_append,List.take_append_drop]
 have h3:((l.take i).flatMap enc).length=i*k:=by
  rw[<-h1,List.length_take]
  have:(l.flatMap enc).length=l.length*k:=by
   clear h1 h2 hi
   induction l with
   |nil=>simp
   |cons x l ih=>rw[List.flatMap_cons,List.length_append,hk,ih,List.length_cons,Nat.succ_mul,Nat.add_comm]
  rw[this,Nat.min_eq_left (Nat.mul_le_mul_right _ hi)]
 rw[h2,List.drop_append_of_le_length (by omega),List.drop_eq_nil_of_le (by omega),List.nil_append]
theorem gat_lit{α:Type}{enc:α->List Value}{e:TypeId}{k:Nat}(hk:∀x,(enc x).length=k){w:World}{b:Nat}{x:α}(h:w.heap[b]?=some (.cells (enc x).toArray e (0,0))):Gat enc e k b w (.slice (some ⟨b,0,none⟩) 1 1) [x]:=by
 refine⟨by simp[hk],.inr ⟨b,1,(enc x).toArray,rfl,Nat.le_refl _,h,Nat.le_refl _,by unfold maxLen;omega,by simp[hk],?_⟩⟩;rw[List.take_of_length_le (by simp[hk])]
 simp
theorem gat_cap{α:Type}{enc:α->List Value}{e k base:Nat}{w:World}{ad:Option Addr}{n cap:Nat}{l:List α}(h:Gat enc e k base w (.slice ad n cap) l):l.length<=cap:=by
 rcases h.2 with⟨h1,h2⟩|⟨g,c,cur,h1,-,-,hc,-⟩
 ·omega
 ·cases h1;exact hc
theorem gat_to{α:Type}{enc:α->List Value}{e k base:Nat}(hk:∀x,(enc x).length=k){w:World}{ad:Option Addr}{cap i:Nat}{l:List α}(h:Gat enc e k base w (.slice ad l.length cap) l)(hi:i<=l.length):Gat enc e k base w (sliced ad 0 i cap k) (l.take i)/\(sliced ad 0 i cap k).ownBlock=(Value.slice ad l.length cap).ownBlock:=by
 have hto:=owns_to (i:=i) h hi;refine⟨?_,hto.2⟩;have h1:=hto.1;rw[flat_take hk _ _ hi]at h1
 show w.ownsRow base e k _ (l.take i).length _
 rw[List.length_take,Nat.min_eq_left hi];exact h1
theorem src_dropE{α:Type}{enc:α->List Value}{e k base:Nat}(hk:∀x,(enc x).length=k){w:World}{ad:Option Addr}{cap i:Nat}{l:List α}(h:Gat enc e k base w (.slice ad l.length cap) l)(hi:i<=l.length):Src w k (sliced ad i l.length cap k) (l.drop i).length ((l.drop i).flatMap enc):=by
 have:=(owns_src h).drop (i:=i) hi (gat_cap h);rw[flat_dropE hk _ _ hi]at this;rw[List.length_drop];exact this
theorem blob8_i:(prog.info? 225).map (fun i=>(i.zero,i.size,i.bytes))=some (some (.agg (qA (List.replicate 32 0)++#[Value.slice none 0 0])),33,56):=by kernel_rfl
theorem blob8_Z:(prog.info? 225).bind (·.zero)=some (.agg (qA (List.replicate 32 0)++#[Value.slice none 0 0])):=by kernel_rfl
theorem blob8_zs:(prog.info? 225).map (fun i=>(i.zero,i.size))=some (some (.agg (qA (List.replicate 32 0)++#[Value.slice none 0 0])),33):=by kernel_rfl
theorem built_blob8(x:List UInt8)(h:x.length=32)(v:Value)(hv:v.oneCell'=true):prog.built 225 [(0,.agg (qA x)),(1,v)]=some (qA x++#[v]):=by
 have p:xV prog 225=some [(0,32),(32,1)]:=by kernel_rfl
 have hc:v.cells=#[v]:=by cases v<;>first|rfl|cases hv
 have hi:(qA x).size=32:=by rw[qB,h]
 rw[zP blob8_Z p,zC (off:=0) (size:=32) rfl (by simp[Value.cells,hi]) (by simp[qB]),zC (off:=32) (size:=1) rfl (by rw[hc];rfl) (by simp[qY,qB,Value.cells,h]),xY]
 congr 1
 apply Array.toList_inj.1
 rw[hc]
 simp[qY,qA,Value.cells,h]
theorem isB_get{r:R8L}(hs:SortedB r)(k:List UInt8):isB k r=(getL k (contR r)).isSome:=by
 rw[hs.isSome k,contR_get]
 cases getL k r<;>rfl
theorem bts_ne{base:Nat}{w:World}{v:Value}{xs:List UInt8}{b:Nat}{cs:Array Value}{T:TypeId}{p:Nat×Nat}(hT:T≠5)(h:Bts base w v xs)(hb:w.heap[b]?=some (.cells cs T p)):∀k,v.ownBlock=some k->k≠b:=by
 intro k hk e;subst e
 rcases h.2 with⟨rfl,_⟩|⟨g,cap,cur,rfl,_,hg,_⟩
 ·cases hk
 ·cases hk
  rw[hg]at hb
  cases hb
  exact hT rfl
theorem xT{x:List UInt8}(h:x.length=32)(v:Value):(qA x++#[v]).size=33:=by simp[qB,h]
theorem row8_one(x:List UInt8)(v:Value)(hv:v.oneCell'=true):∀c∈qA x++#[v],c.oneCell'=true:=by
 intro c hc
 rcases Array.mem_append.1 hc with h|h
 ·exact qP x c h
 ·rw[Array.mem_singleton.1 h];exact hv
def PutMid(w:World)(x m:List UInt8)(s:Value)(wx:World):Prop:=∃bx ad cap,s=.pointer (some ⟨bx,0,none⟩)/\wx.heap[bx]?=some (.cells (qA x++#[Value.slice ad m.length cap]) 225 (0,0))/\Bts w.heap.size wx (.slice ad m.length cap) m/\w.heap.size<=bx/\(Value.slice ad m.length cap).ownBlock≠some bx/\Mod NoB w wx
section
variable{w:World}{q wd:Nat}{r:R8L}{R:Nat->Prop}
def R8PutR(w:World)(q wd:Nat)(r:R8L)(R:Nat->Prop)(m:List UInt8):Ending->World->Prop:=fun e w'=>(∃v,e=.returned v)/\∃r',R8Step w q wd R w' r'/\contR r'=putR (ofI wd m) m (contR r)
theorem r8Put_any(h:R8At w q wd r R)(hs:SortedB r){own:Bool}{G:Nat->Prop}{v:Value}{m:List UInt8}(hv:Sl own w G 1 ByteC v m)(hm:m.length<=4096)(hfew:r.length<=1000):
 Calls prog 81 #[.pointer (some ⟨q,0,none⟩),.agg (qA (ofI wd m)),v] w (R8PutR w q wd r R m):=by
 have hwok:=h.wok;have hdi:(ofI wd m).length=32:=ofI_len hwok.2;have hic:(qA (ofI wd m)).size=32:=by rw[qB,hdi]
 obtain⟨mad,mcap,rfl,-,-⟩:=Sl.at hv;obtain⟨ra,rc,hw0,hw1,hLc,hlc,hat⟩:=h.at;have hisg:=isB_get hs (ofI wd m);have hpos:=posB_le (ofI wd m) r
 have hidn:(getL (ofI wd m) r).isSome=isB (ofI wd m) r:=(hs.isSome (ofI wd m)).symm;have hsm:=used8_le r h.sz;have H:=hid h;have HS:=hid hs;have HV:=hid hv
 have HA:=hid hat;have href:=fun w' (hm':Mod NoB w w')=>refOf_any (HV.out.keep0 hm') (by omega) wd hwok.1 hwok.2
 have hat8:=fun w' (hm':Mod NoB w w')=>r8At_any (H.out.keep0 hm') hdi;obtain⟨i,hi⟩:∃i,posB (ofI wd m) r=i:=⟨_,rfl⟩
 obtain⟨t,ht⟩:∃t,isB (ofI wd m) r=t:=⟨_,rfl⟩;rw[hi]at hpos;simp only[hi,ht]at hat8;rw[ht]at hisg hidn;have HI:=hid hi;have HT:=hid ht;have HISG:=hid hisg
 have HIDN:=hid hidn;have HNE:Hid (decide (ofI wd m≠ofI wd m)=false):=hid (by simp)
 have hblt:q<w.heap.size:=by
  obtain⟨v0,h1,_⟩:=h.ok;exact(Array.getElem?_eq_some_iff.1 h1).1
 clear h hs hv hat hi ht hisg hidn;go_enter func81,ntmps81;go_upto_region 0 with(fail);refine wpR [1,3,3] ?_;simp only[stz]
 refine wpD (zL 24 _ _ (by rfl) (by rfl) (fun w1 hB1 hm1 hs1=>?_));replace hB1:w1.heap[w.heap.size]?=some (.cells (qA (ofI wd m)) 24 (0,0)):=hB1;simp only[stz]
 have hc4:CellsAt w1 w.heap.size 0 (qA (ofI wd m)):=CellsAt.whole hB1;generalize hb4:w.heap.size=b4 at*;clear hB1 hs1;go_upto_region 1 with(fail)
 refine wpR [3,3,3,3,1,1,3,3,3,1,1,3] ?_;simp only[stz];refine wpXd (v:=(.int .i64 (wd:Nat))) 3 q 0 (hm1.cell id hw0) underlying3 trivial ?_;try simp only[nmz]
 refine wpD (wpCM func79 (href _ hm1) fun w2 hm2=>?_);simp only[stz]
 refine qC rfl (fun w'=>qJ _ 0 #[.agg (qA (ofI wd m)),.int .i64 0] rfl rfl (.agg (qA (ofI wd m))) rfl) ?_;simp only[nmz]
 refine qC rfl (fun w'=>qJ _ 1 #[.agg (qA (ofI wd m)),.int .i64 0] rfl rfl (.int .i64 0) rfl) ?_;simp only[nmz]
 refine wpD (qN 24 _ (by rfl) idZ (fun w3 hB3 hm3 hs3=>?_));replace hB3:w3.heap[w2.heap.size]?=some (.cells (qA (List.replicate 32 0)) 24 (0,0)):=hB3
 try simp only[nmz]
 refine wpD (qF 24 _ _ w2.heap.size 0 (qA (ofI wd m)) (by rfl) (by rfl) (by rfl) (qP _) 32 (by kernel_rfl) hic _ _ hB3 (by rw[hic,qB];simp) (fun w4 hB4 hm4=>?_))
 rw[qD (by rw[hic,qB];simp)]at hB4;simp only[stz];have hm24:Mod NoB w2 w4:=hm3.transB hm4 (Nat.le_refl _);have hm14:=hm2.trans0 hm24
 have hm04:=hm1.trans0 hm14;have hc44:=hc4.keep hm14 id;have hc84:CellsAt w4 w2.heap.size 0 (qA (ofI wd m)):=CellsAt.whole hB4;have hat4:=hat8 _ hm04
 generalize hb8:w2.heap.size=b8 at*;clear href hat8 hm1 hm2 hm3 hm4 hm24 hm14 hB3 hB4 hs3 hc4;go_upto_region 2 with(fail);refine wpR [3,1,1,3,3,3,3,3] ?_
 simp only[stz];refine wpXA 24 b4 0 (qA (ofI wd m)) hc44 underlying24 32 hic trivial ?_;try simp only[nmz]
 refine wpD (wpCM func153 (hat4) fun w5 hm5=>?_);simp only[stz]
 refine qC rfl (fun w'=>qJ _ 0 #[.int .i64 (i:Nat),.bool t] rfl rfl (.int .i64 (i:Nat)) rfl) ?_;simp only[nmz]
 refine qC rfl (fun w'=>qJ _ 1 #[.int .i64 (i:Nat),.bool t] rfl rfl (.bool t) rfl) ?_;simp only[stz];have hm05:=hm04.trans0 hm5
 have hc45:=hc44.keep hm5 id;have hc85:=hc84.keep hm5 id;have hL5:=hm05.cell id hLc;have hR5:=hm05.cell id hw1;have hz4:¬((m.length:Nat):Int)>4096:=by omega
 clear hat4 hm5 hm04 hc44 hc84 hw0;go_upto_region 3 with(fail);refine wpR [3,3,3,3] ?_;simp only[stz];refine wpPL ?_;simp only[nmz]
 refine qK _ _ _ _ _ _ _ _ rfl rfl rfl rfl rfl false (decide_eq_false hz4) ?_;simp only[stz];go_upto_region 5 with(fail);refine wpR [1,1,0,3] ?_;simp only[stz]
 refine wpXA 24 b8 0 (qA (ofI wd m)) hc85 underlying24 32 hic trivial ?_;try simp only[nmz]
 refine wpXA 24 b4 0 (qA (ofI wd m)) hc45 underlying24 32 hic trivial ?_;try simp only[nmz]
 refine qG rfl (fun w' hS=>exec_neq_id _ _ _ _ rfl _ _ rfl rfl 32 5 underlying24 underlying5 (by kernel_rfl) (by kernel_rfl) hdi hdi false HNE.out) ?_;simp only[stz]
 go_upto_region 7 with(fail)
 cases t with
 |true=>
  have hlt:i<r.length:=by
   have h1:=HT.out;unfold isB at h1;rw[HI.out]at h1
   rcases Nat.lt_or_ge i r.length with h|h
   ·exact h
   ·rw[List.getElem?_eq_none h]at h1;cases h1
  obtain⟨g,rfl,-,hcv⟩:=HA.out i hlt;have hval:=H.out.val i hlt
  have hsame:R8PutR w q wd r R m (.returned (.tuple #[.bool false,.int .i64 0])) w5->True:=fun _=>trivial
  have HSAME:Hid (∀v w',Mod NoB w w'->R8PutR w q wd r R m (.returned v) w'):=hid fun v w' hm'=>⟨⟨v,rfl⟩,r,H.out.step hm',by
   unfold putR
   rw[<-HISG.out];rfl⟩
  obtain⟨b,hb⟩:∃b,decide ((⟨(r[i].2.1).toArray⟩:ByteArray)≠⟨m.toArray⟩)=b:=⟨_,rfl⟩;have HB:=hid hb;have hcv5:=hm05.cell id hcv;have hval5:=hval.keep0 hm05
  clear hsame hb hcv hval;generalize rbV r[i]=bv at*;generalize r[i].2.1=bm at*;have hS:Mod NoB w5 w5.drew:=(Mod.refl _ _).drew
  refine wpRZ [3,3,3,3,3,0,3,3,3,0,0,3,0,0,3,3] [] (fun w'=>Mod NoB w5 w') hS ?_;simp only[stz];refine wpLd 87 q 2 (fun w' hS=>hS.cell id hL5) underlying87 ?_
  simp only[stz];refine wpPI underlying87 33 hlt ?_;simp only[stz];refine wpLd 53 g (i*33+32) (fun w' hS=>hS.cell id hcv5) underlying53 ?_;simp only[nmz]
  refine qG rfl (fun w' hS=>xU 53 5 9 _ (by rfl) _ (by rfl) (hval5.keep0 hS) underlying53 underlying5 underlying9) ?_;simp only[stz]
  refine qG rfl (fun w' hS=>xU 53 5 9 _ (by rfl) _ (by rfl) (HV.out.keep0 (hm05.trans0 hS)) underlying53 underlying5 underlying9) ?_;simp only[nmz]
  refine qG rfl (fun w' hS=>exec_neq_str _ _ _ _ (by rfl) _ _ (by rfl) (by rfl) b HB.out) ?_;simp only[stz];have HM:Hid (Mod NoB w w5.drew):=hid (hm05.trans0 hS)
  clear hS hL5 hR5 hc45 hc85 hcv5 hval5 hm05 hLc hw1
  cases b with
  |true=>
   go_wp2
   all_goals
    go_ret2;exact HSAME.out _ _ HM.out
  |false=>
   go_wp2
   all_goals
    go_ret2;exact HSAME.out _ _ HM.out
 |false=>
  have hS:Mod NoB w5 w5.drew:=(Mod.refl _ _).drew;refine wpRZ [3,3,3,3,3,0,3,3,3,0,3,3,3,3,3,3] [] (fun w'=>Mod NoB w5 w') hS ?_;simp only[stz]
  have hM7:=hm05.trans0 hS;have hus:=fun w' (hm':Mod NoB w5.drew w')=>r8Used_any (H.out.keep0 (hM7.trans0 hm'));have hR7:=hS.cell id hR5;have hc47:=hc45.keep hS id
  have hz64:¬((used8 r+m.length:Nat):Int)>67108864:=by omega
  generalize hw7:w5.drew=w7 at*;clear hS hL5 hR5 hc45 hc85 hw7 hm05 hw1;go_upto_region 11 with(fail);have hS:Mod NoB w7 w7.drew:=(Mod.refl _ _).drew
  refine wpRP [(0,3),(2,3),(3,3),(5,3),(6,3),(7,3),(8,0),(1,1),(4,3),(9,3),(10,3)] [] (fun w'=>Mod NoB w7 w') hS ?_;simp only[stz];refine wpPL ?_
  simp only[stz];refine wpLd 3 q 1 (fun w' hS=>hS.cell id hR7) underlying3 ?_;simp only[nmz];refine qL rfl (fun K hK=>?_);refine wpC func154 (hus _ hS) ?_
  rintro e w8 ⟨rfl,hm8⟩;have hT:=hS.trans0 hm8;refine⟨_,rfl,hK _ _ hT ?_⟩;clear hK K;try simp only[nmz]
  refine zF _ _ _ _ ((used8 r:Nat):Int) ((m.length:Nat):Int) ((used8 r+m.length:Nat):Int) rfl rfl rfl rfl (by omega) (by omega) (by omega) ?_;simp only[nmz]
  refine qK _ _ _ _ _ _ _ _ rfl rfl rfl rfl rfl false (decide_eq_false hz64) ?_;simp only[stz];have hM8:=hM7.trans0 hT;have hc48:=hc47.keep hT id
  clear hS hT hm8 hus hR7 hc47 hM7 hz64;generalize used8 r=us at*;go_upto_region 13 with(fail)
  go_cut [12] (fun s wx=>PutMid w8 (ofI wd m) m s wx)
  case first=>
   have hS:Mod NoB w8 w8.drew:=(Mod.refl _ _).drew;have hT:Mod NoB w8 w8.drew:=(Mod.refl _ _).drew
   refine yV [(0,0),(2,3)] 4 [(6,1)] [] (fun w'=>Mod NoB w8 w') #[true,false,true,false,false,false,false] (by kernel_rfl) (by kernel_rfl) (by kernel_rfl) (by kernel_rfl) (by kernel_rfl) (fun _ _ _ _ hd h=>⟨hd.trans h.1,h.2⟩) hS ?_
   simp only[stz];refine wpLA 24 b4 0 (qA (ofI wd m)) (fun w' hS=>hc48.keep hS id) underlying24 32 hic ?_;simp only[stz];refine qU [1,5] (by kernel_rfl) ?_
   simp only[zz3,false_implies,implies_true];refine⟨?_,?_⟩
   ·intro K hK
    simp only[zz5];refine xA 53 5 (by rfl) underlying53 (by kernel_rfl) (fun wa hBa hma hsa=>?_);have hO:Bts w8.heap.size wa _ []:=yN _ hBa hT.size
    try replace hBx:=hma.obj id hBx
    replace hT:=hT.trans0 hma;clear hBa hma hsa;refine hK _ _ hT ?_;clear hK K;try simp only[nmz]
    refine qU [3,5] (by kernel_rfl) ?_;simp only[zz3,false_implies,implies_true];refine⟨?_,?_⟩
    ·intro K hK
     simp only[zz5];refine jH _ _ (by rfl) w8.heap.size _ [] (by rfl) hO _ m (by rfl) (HV.out.keep0 (hM8.trans0 hT)).bsrc (by simp;omega) hT.size (fun ub wb hb hmb=>?_)
     rw[List.nil_append]at hb
     try replace hBx:=hmb.obj (fun e=>bts_ne (by decide) hO hBx _ e rfl) hBx
     replace hT:Mod NoB w8 wb:=hT.trans hmb (fun k hk e=>by have:=(hO.lt e).1;omega);obtain⟨uad,ucap,rfl⟩:=hb.slice;clear hO hmb;refine hK _ _ hT ?_;clear hK K
     try simp only[nmz]
     refine zB 4 (.agg (qA (ofI wd m)++#[Value.slice uad m.length ucap])) (by kernel_rfl) (fun _ _ _ _ hd h=>⟨hd.trans h.1,h.2⟩) (fun w'=>by simp only[zz5];exact qO 225 [(0,_),(1,_)] [(0,.agg (qA (ofI wd m))),(1,.slice uad m.length ucap)] _ (by rfl) (by rfl) (built_blob8 _ hdi _ rfl)) hT ?_
     simp only[zz5];try simp only[nmz]
     refine qU [5] (by kernel_rfl) ?_;simp only[zz3,false_implies,implies_true];intro K hK;simp only[zz5]
     refine yL 225 _ (by rfl) blob8_Z (fun bx wc hbe hBx hmc hsc=>?_)
     replace hBx:wc.heap[bx]?=some (.cells (qA (List.replicate 32 0)++#[Value.slice none 0 0]) 225 (0,0)):=hBx
     have hbn:w8.heap.size<=bx:=by rw[hbe];exact hT.size
     try replace hO:=Bts.keep hO hmc (fun _ _=>id)
     try replace hb:=Bts.keep hb hmc (fun _ _=>id)
     replace hT:=hT.trans0 hmc;clear hmc hbe hsc;refine hK _ _ hT ?_;clear hK K;try simp only[nmz]
     refine xK ?_;try simp only[zz4]
     try simp only[nmz]
     refine qL rfl (fun K hK=>?_)
     refine qF 225 _ _ bx 0 (qA (ofI wd m)++#[Value.slice uad m.length ucap]) (by rfl) (by rfl) (by rfl) (row8_one _ _ rfl) 33 (by kernel_rfl) (xT hdi _) _ _ hBx (by rw[xT hdi,xT (by simp)];exact Nat.le_refl _) (fun wd2 hBd hmd=>?_)
     rw[qD (by rw[xT hdi,xT (by simp)])]at hBd;have hbd:=Bts.keep hb hmd (fun k e=>bts_ne (by decide) hb hBx k e)
     have HPM:Hid (PutMid w8 (ofI wd m) m (.pointer (some ⟨bx,0,none⟩)) wd2):=hid ⟨bx,uad,ucap,rfl,hBd,hbd,hbn,fun e=>bts_ne (by decide) hb hBx _ e rfl,hT.transB hmd hbn⟩
     replace hT:=hT.transB hmd hbn;clear hmd hBx hb hBd hbd;refine hK _ _ hT ?_;clear hK K;simp only[stz];clear hS hT;go_wp2
     go_meet
     case rel=>exact HPM.out
    ·intro K hK
     simp only[zz5];refine yL 225 _ (by rfl) blob8_Z (fun bx wc hbe hBx hmc hsc=>?_)
     replace hBx:wc.heap[bx]?=some (.cells (qA (List.replicate 32 0)++#[Value.slice none 0 0]) 225 (0,0)):=hBx
     have hbn:w8.heap.size<=bx:=by rw[hbe];exact hT.size
     try replace hO:=Bts.keep hO hmc (fun _ _=>id)
     try replace hb:=Bts.keep hb hmc (fun _ _=>id)
     replace hT:=hT.trans0 hmc;clear hmc hbe hsc;refine hK _ _ hT ?_;clear hK K;try simp only[nmz]
     refine qU [3] (by kernel_rfl) ?_;simp only[zz3,false_implies,implies_true];intro K hK;simp only[zz5]
     refine jH _ _ (by rfl) w8.heap.size _ [] (by rfl) hO _ m (by rfl) (HV.out.keep0 (hM8.trans0 hT)).bsrc (by simp;omega) hT.size (fun ub wb hb hmb=>?_)
     rw[List.nil_append]at hb
     try replace hBx:=hmb.obj (fun e=>bts_ne (by decide) hO hBx _ e rfl) hBx
     replace hT:Mod NoB w8 wb:=hT.trans hmb (fun k hk e=>by have:=(hO.lt e).1;omega);obtain⟨uad,ucap,rfl⟩:=hb.slice;clear hO hmb;refine hK _ _ hT ?_;clear hK K
     try simp only[nmz]
     refine zB 4 (.agg (qA (ofI wd m)++#[Value.slice uad m.length ucap])) (by kernel_rfl) (fun _ _ _ _ hd h=>⟨hd.trans h.1,h.2⟩) (fun w'=>by simp only[zz5];exact qO 225 [(0,_),(1,_)] [(0,.agg (qA (ofI wd m))),(1,.slice uad m.length ucap)] _ (by rfl) (by rfl) (built_blob8 _ hdi _ rfl)) hT ?_
     simp only[zz5];try simp only[nmz]
     refine xK ?_;try simp only[zz4]
     try simp only[nmz]
     refine qL rfl (fun K hK=>?_)
     refine qF 225 _ _ bx 0 (qA (ofI wd m)++#[Value.slice uad m.length ucap]) (by rfl) (by rfl) (by rfl) (row8_one _ _ rfl) 33 (by kernel_rfl) (xT hdi _) _ _ hBx (by rw[xT hdi,xT (by simp)];exact Nat.le_refl _) (fun wd2 hBd hmd=>?_)
     rw[qD (by rw[xT hdi,xT (by simp)])]at hBd;have hbd:=Bts.keep hb hmd (fun k e=>bts_ne (by decide) hb hBx k e)
     have HPM:Hid (PutMid w8 (ofI wd m) m (.pointer (some ⟨bx,0,none⟩)) wd2):=hid ⟨bx,uad,ucap,rfl,hBd,hbd,hbn,fun e=>bts_ne (by decide) hb hBx _ e rfl,hT.transB hmd hbn⟩
     replace hT:=hT.transB hmd hbn;clear hmd hBx hb hBd hbd;refine hK _ _ hT ?_;clear hK K;simp only[stz];clear hS hT;go_wp2
     go_meet
     case rel=>exact HPM.out
   ·intro K hK
    simp only[zz5];refine yL 225 _ (by rfl) blob8_Z (fun bx wc hbe hBx hmc hsc=>?_)
    replace hBx:wc.heap[bx]?=some (.cells (qA (List.replicate 32 0)++#[Value.slice none 0 0]) 225 (0,0)):=hBx
    have hbn:w8.heap.size<=bx:=by rw[hbe];exact hT.size
    try replace hO:=Bts.keep hO hmc (fun _ _=>id)
    try replace hb:=Bts.keep hb hmc (fun _ _=>id)
    replace hT:=hT.trans0 hmc;clear hmc hbe hsc;refine hK _ _ hT ?_;clear hK K;try simp only[nmz]
    refine qU [1] (by kernel_rfl) ?_;simp only[zz3,false_implies,implies_true];intro K hK;simp only[zz5]
    refine xA 53 5 (by rfl) underlying53 (by kernel_rfl) (fun wa hBa hma hsa=>?_);have hO:Bts w8.heap.size wa _ []:=yN _ hBa hT.size
    try replace hBx:=hma.obj id hBx
    replace hT:=hT.trans0 hma;clear hBa hma hsa;refine hK _ _ hT ?_;clear hK K;try simp only[nmz]
    refine qU [3] (by kernel_rfl) ?_;simp only[zz3,false_implies,implies_true];intro K hK;simp only[zz5]
    refine jH _ _ (by rfl) w8.heap.size _ [] (by rfl) hO _ m (by rfl) (HV.out.keep0 (hM8.trans0 hT)).bsrc (by simp;omega) hT.size (fun ub wb hb hmb=>?_)
    rw[List.nil_append]at hb
    try replace hBx:=hmb.obj (fun e=>bts_ne (by decide) hO hBx _ e rfl) hBx
    replace hT:Mod NoB w8 wb:=hT.trans hmb (fun k hk e=>by have:=(hO.lt e).1;omega);obtain⟨uad,ucap,rfl⟩:=hb.slice;clear hO hmb;refine hK _ _ hT ?_;clear hK K
    try simp only[nmz]
    refine zB 4 (.agg (qA (ofI wd m)++#[Value.slice uad m.length ucap])) (by kernel_rfl) (fun _ _ _ _ hd h=>⟨hd.trans h.1,h.2⟩) (fun w'=>by simp only[zz5];exact qO 225 [(0,_),(1,_)] [(0,.agg (qA (ofI wd m))),(1,.slice uad m.length ucap)] _ (by rfl) (by rfl) (built_blob8 _ hdi _ rfl)) hT ?_
    simp only[zz5];try simp only[nmz]
    refine xK ?_;try simp only[zz4]
    try simp only[nmz]
    refine qL rfl (fun K hK=>?_)
    refine qF 225 _ _ bx 0 (qA (ofI wd m)++#[Value.slice uad m.length ucap]) (by rfl) (by rfl) (by rfl) (row8_one _ _ rfl) 33 (by kernel_rfl) (xT hdi _) _ _ hBx (by rw[xT hdi,xT (by simp)];exact Nat.le_refl _) (fun wd2 hBd hmd=>?_)
    rw[qD (by rw[xT hdi,xT (by simp)])]at hBd;have hbd:=Bts.keep hb hmd (fun k e=>bts_ne (by decide) hb hBx k e)
    have HPM:Hid (PutMid w8 (ofI wd m) m (.pointer (some ⟨bx,0,none⟩)) wd2):=hid ⟨bx,uad,ucap,rfl,hBd,hbd,hbn,fun e=>bts_ne (by decide) hb hBx _ e rfl,hT.transB hmd hbn⟩
    replace hT:=hT.transB hmd hbn;clear hmd hBx hb hBd hbd;refine hK _ _ hT ?_;clear hK K;simp only[stz];clear hS hT;go_wp2
    go_meet
    case rel=>exact HPM.out
  case rest=>
   rename World=>wx
   obtain⟨bx,uad,ucap,rfl,hBx,hb,hbn,hne,hmx⟩:=hcut;obtain⟨oad,ocap,hq,hgat,hRq,hown⟩:=H.out.own
   have hcell:w.cell? ⟨q,2,none⟩=some (.slice oad r.length ocap):=by rw[cell_of_row _ _ _ _ _ _ hq];rfl
   rw[hLc]at hcell;obtain⟨rfl,rfl⟩:ra=oad/\rc=ocap:=by injection hcell with h;injection h with h1 h2 h3;exact⟨h1,h3⟩
   have hMx:=hM8.trans0 hmx;have hLx:=hMx.cell id hLc;have hqx:=hMx.obj id hq;have hgx:=hgat.keep0 hMx;have hltB:=H.out.lt;have s8:=hM8.size;have sx:=hMx.size
   have hcap:i<=rc:=by omega
   have hxr:(qA (ofI wd m)++#[Value.slice uad m.length ucap])=(rbL (ofI wd m,(m,(uad,ucap)))).toArray:=(rbL_arr (p:=(ofI wd m,(m,(uad,ucap)))) hdi).symm
   have hsz33:=xT hdi (Value.slice uad m.length ucap);have HOWN:=hid hown;have HHA:=hid hgx;have hbxn:¬R bx:=fun e=>by have:=hltB bx e;omega
   have hbb:∀g,(Value.slice uad m.length ucap).ownBlock=some g->w8.heap.size<=g/\g<wx.heap.size:=fun g e=>Bts.lt hb e;have HBB:=hid hbb
   have hnone:(getL (ofI wd m) r)=none:=by
    have h9:=HIDN.out
    cases hg:getL (ofI wd m) r with
    |none=>rfl
    |some _=>rw[hg]at h9;cases h9
   clear hcell hgat hown hgx hbb hM8 hmx hLc hq;go_upto_region 14 with(fail)
   have hS:wx.drew.cell? ⟨q,2,none⟩=some (.slice ra r.length rc)/\CellsAt wx.drew bx 0 (qA (ofI wd m)++#[Value.slice uad m.length ucap]):=⟨hLx,CellsAt.whole hBx⟩
   have hT:Mod NoB wx wx.drew:=(Mod.refl _ _).drew
   refine wpRP [(0,3),(1,3),(2,3),(3,3),(4,0),(5,3),(6,3),(7,0),(9,3),(10,3),(11,3),(12,0),(13,3),(14,3),(8,1),(15,1),(16,1),(17,3),(18,3),(19,2)] [19] (fun w'=>w'.cell? ⟨q,2,none⟩=some (.slice ra r.length rc)/\CellsAt w' bx 0 (qA (ofI wd m)++#[Value.slice uad m.length ucap])) hS ?_
   simp only[stz];refine wpLd 87 q 2 (fun w' hS=>hS.1) underlying87 ?_;simp only[stz]
   refine jC 87 225 _ _ _ _ _ i 33 rfl rfl rfl rfl underlying87 (by kernel_rfl) hcap ?_;simp only[nmz]
   refine wpLA 225 bx 0 (qA (ofI wd m)++#[Value.slice uad m.length ucap]) (fun w' hS=>hS.2) underlying225 33 hsz33 ?_;simp only[stz]
   refine wpLd 87 q 2 (fun w' hS=>hS.1) underlying87 ?_;simp only[stz];refine yX 87 225 _ _ _ _ _ i 33 rfl rfl rfl rfl underlying87 (by kernel_rfl) hpos ?_
   simp only[nmz];refine qL rfl (fun K hK=>?_)
   refine qQ 87 225 _ (.agg (qA (ofI wd m)++#[Value.slice uad m.length ucap])) (.agg (qA (List.replicate 32 0)++#[Value.slice none 0 0])) 33 (by rfl) (by rfl) underlying87 blob8_zs (by omega) (by omega) hsz33 (fun w9 hB9 hm9 hs9=>?_)
   replace hB9:w9.heap[wx.heap.size]?=some (.cells (rbL (ofI wd m,(m,(uad,ucap)))).toArray 225 (0,0)):=by rw[<-hxr];exact hB9
   replace hS:=And.intro (hm9.cell id hS.1) (hS.2.keep hm9 id);have hT9:=hT.trans0 hm9;have hq9:=hT9.obj id hqx;have s9:=hT9.size;refine hK _ _ hS ?_;clear hK K
   try simp only[nmz]
   refine qL rfl (fun K hK=>?_)
   refine wp_gatV rbL _ _ 87 225 (.agg (qA (List.replicate 32 0)++#[Value.slice none 0 0])) 33 56 (by rfl) underlying87 blob8_i (by kernel_rfl) (by omega) rbL_one wx.heap.size _ [(ofI wd m,(m,(uad,ucap)))] (by rfl) (gat_lit rbL_len hB9) _ (r.drop i) (by rfl) (src_dropE rbL_len (HHA.out.keep0 hT9) hpos) (by unfold maxLen;simp;omega) (by simp;omega) hT9.size (fun va wa hga hma hvva=>?_)
   have hTa:Mod NoB wx wa:=hT9.trans hma (fun k hk e=>by have e:=Option.some.inj (show some wx.heap.size=some k from e);omega)
   have hnb:¬(Value.slice (some ⟨wx.heap.size,0,none⟩) 1 1).ownBlock=some q:=fun e=>by have e:=Option.some.inj (show some wx.heap.size=some q from e);omega
   have hnx:¬(Value.slice (some ⟨wx.heap.size,0,none⟩) 1 1).ownBlock=some bx:=fun e=>by
    have e:=Option.some.inj (show some wx.heap.size=some bx from e);have:=(Array.getElem?_eq_some_iff.1 hBx).1;omega
   replace hS:=And.intro (hma.cell hnb hS.1) (hS.2.keep hma hnx);have hqa:=hTa.obj id hqx;refine hK _ _ hS ?_;clear hK K;try simp only[nmz]
   refine qL rfl (fun K hK=>?_);have hto:=gat_to rbL_len (HHA.out.keep0 hTa) hpos
   refine wp_gatV rbL _ _ 87 225 (.agg (qA (List.replicate 32 0)++#[Value.slice none 0 0])) 33 56 (by rfl) underlying87 blob8_i (by kernel_rfl) (by omega) rbL_one 0 _ (r.take i) (by rfl) hto.1 _ ([(ofI wd m,(m,(uad,ucap)))]++r.drop i) (by rfl) (hga.src) (by unfold maxLen;simp;omega) (by simp;omega) (Nat.zero_le _) (fun vb wb hgb hmb hvvb=>?_)
   rw[hto.2]at hmb hvvb;have hnb2:¬(Value.slice ra r.length rc).ownBlock=some q:=fun e=>(HOWN.out q e).2.1 rfl
   have hnx2:¬(Value.slice ra r.length rc).ownBlock=some bx:=fun e=>hbxn (HOWN.out bx e).1;have hqb:=hmb.obj hnb2 hqa
   replace hS:=And.intro (hmb.cell hnb2 hS.1) (hS.2.keep hmb hnx2);refine hK _ _ hS ?_;clear hK K;simp only[stz];refine zD rfl (fun K hK=>?_)
   refine qR 87 _ _ q 2 vb (by rfl) (by rfl) (by rfl) (by obtain⟨_,_,rfl⟩:=hgb.slice;rfl) (by kernel_rfl) _ _ hqb (by simp) (fun wc hBc hmc=>?_);refine hK _ _ ?_
   clear hK K;simp only[stz];have hMa:=hMx.trans0 hTa
   have hMb:Mod (fun k=>R k/\k≠q) w wb:=(hMa.mono (S':=fun k=>R k/\k≠q) (fun _ _ h=>h.elim)).trans hmb (fun k hk e=>⟨(HOWN.out k e).1,(HOWN.out k e).2.1⟩)
   have hins:insB (ofI wd m) (m,(uad,ucap)) r=r.take i++([(ofI wd m,(m,(uad,ucap)))]++r.drop i):=by unfold insB;rw[HI.out];rfl
   rw[<-hins]at hgb
   have hmem:∀p∈insB (ofI wd m) (m,(uad,ucap)) r,p=(ofI wd m,(m,(uad,ucap)))\/p∈r:=fun p hp=>by
    have:=(ins_permB (ofI wd m) (m,(uad,ucap)) r).mem_iff.1 hp
    rcases List.mem_append.1 this with h1|h1
    ·exact .inr h1
    ·exact .inl (by simpa using h1)
   have sab:=hmb.size;have sxa:=hTa.size;have hnewb:∀g,(Value.slice ra r.length rc).ownBlock=some g->g<w.heap.size:=fun g e=>hltB g (HOWN.out g e).1
   have hbk:∀g,(Value.slice uad m.length ucap).ownBlock=some g->¬(Value.slice ra r.length rc).ownBlock=some g:=fun g e e2=>by have:=(HBB.out g e).1;have:=hnewb g e2;omega
   have hbb':Bts 0 wb (.slice uad m.length ucap) m:=Bts.keep (Bts.keep (jF hb (Nat.zero_le _)) hTa (fun _ _=>id)) hmb (fun g e=>hbk g e)
   have HR:Hid (R8PutR w q wd r R m (.returned (.tuple #[.bool true,.int .i64 0])) wc):=hid ⟨⟨_,rfl⟩,insB (ofI wd m) (m,(uad,ucap)) r,R8Step.mk H.out hgb hMb (by simpa using hBc) hmc (fun g e=>?g1) (fun p hp=>?g2) (fun p hp=>?g3) (fun p hp=>?g4) (by rw[(ins_permB _ _ _).length_eq];simp;omega),by
    unfold putR
    rw[contR_ins,<-HISG.out];rfl⟩
   case g1=>
    rcases hvvb with h1|h1
    ·rw[h1]at e
     refine⟨.inl (HOWN.out g e).1,(HOWN.out g e).2.1,fun p hp=>?_⟩
     rcases hmem p hp with rfl|hp
     ·exact fun e2=>hbk g e2 e
     ·exact(HOWN.out g e).2.2 p hp
    ·rw[h1]at e
     cases e
     refine⟨.inr ⟨by omega,(hgb.lt h1).2⟩,by omega,fun p hp e2=>?_⟩
     rcases hmem p hp with rfl|hp
     ·have:=(HBB.out _ e2).2;omega
     ·have:=hltB _ ((H.out.bts p hp).2 _ e2).1;omega
   case g2=>
    rcases hmem p hp with rfl|hp
    ·exact⟨hbb',fun g e=>⟨.inr ⟨by have:=(HBB.out g e).1;omega,by have:=(HBB.out g e).2;omega⟩,by have:=(HBB.out g e).1;omega⟩⟩
    ·refine⟨Bts.keep (Bts.keep (H.out.bts p hp).1 hMa (fun _ _=>id)) hmb (fun g e e2=>(HOWN.out g e2).2.2 p hp e),fun g e=>⟨.inl ((H.out.bts p hp).2 g e).1,((H.out.bts p hp).2 g e).2⟩⟩
   case g3=>
    rcases hmem p hp with rfl|hp
    ·exact hdi
    ·exact H.out.ids p hp
   case g4=>
    rcases hmem p hp with rfl|hp
    ·exact hm
    ·exact H.out.sz p hp
   clear hMa hMb hS hT hT9 hTa hm9 hma hmb hmc hB9 hBc hq9 hqa hqb hga hgb hbb' hLx hqx hBx hto;go_wp2
   all_goals
    go_ret2;exact HR.out
end
theorem isB_at{r:R8L}(hs:SortedB r){k:List UInt8}{i:Nat}(hp:posB k r=i)(h:isB k r=true):∃hi:i<r.length,r[i].1=k/\getL k (contR r)=some r[i].2.1:=by
 subst hp;have h1:=h;unfold isB at h1
 rcases Nat.lt_or_ge (posB k r) r.length with hi|hi
 ·rw[List.getElem?_eq_getElem hi]at h1
  have e:=of_decide_eq_true h1
  have h2:r[posB k r]?=some (k,r[posB k r].2):=by
   rw[List.getElem?_eq_getElem hi];exact congrArg some (Prod.ext e rfl)
  refine⟨hi,e,?_⟩;rw[contR_get,(hs.at k _).2 h2]
  rfl
 ·rw[List.getElem?_eq_none hi]at h1;cases h1
section
variable{w:World}{q wd:Nat}{r:R8L}{R:Nat->Prop}
theorem r8Get_any(h:R8At w q wd r R)(hs:SortedB r){k:List UInt8}(hk:k.length=32):Calls prog 162 #[.pointer (some ⟨q,0,none⟩),.agg (qA k)] w (GetR w (getL k (contR r))):=by
 have hic:(qA k).size=32:=by rw[qB,hk]
 obtain⟨ra,rc,-,-,hLc,hlc,hat⟩:=h.at;have hisg:=isB_get hs k;have hisa:=fun i (hp:posB k r=i)=>isB_at hs (k:=k) hp;have H:=hid h;have HA:=hid hat
 have hat8:=fun w' (hm':Mod NoB w w')=>r8At_any (H.out.keep0 hm') hk;have hval:=h.val;have hsz:=h.sz;obtain⟨i,hi⟩:∃i,posB k r=i:=⟨_,rfl⟩
 obtain⟨t,ht⟩:∃t,isB k r=t:=⟨_,rfl⟩;rw[ht]at hisg;replace hisa:=hisa i hi;rw[ht]at hisa;simp only[hi,ht]at hat8;have HV:=hid hval;have HZ:=hid hsz
 clear h hat hi ht hval hsz;go_enter func162,ntmps162;go_upto_region 0 with(fail);refine wpR [1,3,3] ?_;simp only[stz]
 refine wpD (zL 24 _ _ (by rfl) (by rfl) (fun w1 hB1 hm1 hs1=>?_));replace hB1:w1.heap[w.heap.size]?=some (.cells (qA k) 24 (0,0)):=hB1;simp only[stz]
 have hc3:CellsAt w1 w.heap.size 0 (qA k):=CellsAt.whole hB1;have hat1:=hat8 _ hm1;generalize hb3:w.heap.size=b3 at*;clear hB1 hs1 hat8;go_upto_region 1 with(fail)
 refine wpR [3,1,1,3,3,3,3,3] ?_;simp only[stz];refine wpXA 24 b3 0 (qA k) hc3 underlying24 32 hic trivial ?_;try simp only[nmz]
 refine wpD (wpCM func153 (hat1) fun w2 hm2=>?_);simp only[stz]
 refine qC rfl (fun w'=>qJ _ 0 #[.int .i64 (i:Nat),.bool t] rfl rfl (.int .i64 (i:Nat)) rfl) ?_;simp only[nmz]
 refine qC rfl (fun w'=>qJ _ 1 #[.int .i64 (i:Nat),.bool t] rfl rfl (.bool t) rfl) ?_;simp only[stz];have hm02:=hm1.trans0 hm2;have hL2:=hm02.cell id hLc
 clear hat1 hm1 hm2 hc3 hLc
 cases t with
 |false=>
  have hg:getL k (contR r)=none:=by
   cases hx:getL k (contR r)with
   |none=>rfl
   |some b=>rw[hx]at hisg;cases hisg
  clear hisg hisa;go_wp2;go_ret2;rw[hg];exact⟨hm02,rfl⟩
 |true=>
  obtain⟨hlt,-,hg⟩:=hisa rfl;obtain⟨g,rfl,-,hcv⟩:=HA.out i hlt;have hcv2:=hm02.cell id hcv;have hv2:=(HV.out i hlt).keep0 hm02
  have hz:=HZ.out _ (List.getElem_mem hlt);have HGT:=hid hg;clear hg hisg hisa hcv;generalize rbV r[i]=bv at*;generalize r[i].2.1=m at*;go_upto_region 4 with(fail)
  refine wpR [1,3,3,3,1,3,3,3,1,1,3,3] ?_;simp only[stz];refine wpD (xA 53 5 (by rfl) underlying53 (by kernel_rfl) (fun w3 hB3 hm3 hs3=>?_))
  simp only[stz];refine wpXd (v:=(.slice (some ⟨g,0,none⟩) r.length rc)) 87 q 2 (hm3.cell id hL2) underlying87 trivial ?_;simp only[stz];refine wpPI underlying87 33 hlt ?_
  simp only[stz];refine wpXd (v:=bv) 53 g (i*33+32) (hm3.cell id hcv2) underlying53 trivial ?_;try simp only[nmz]
  refine wpD (jH _ _ (by rfl) w2.heap.size _ [] (by rfl) (yN _ hB3 (Nat.le_refl _)) _ m (by rfl) (hv2.keep0 hm3).bsrc (by simp;omega) hm3.size (fun v' w4 ho4 hm4=>?_))
  rw[List.nil_append]at ho4;simp only[stz]
  have hm24:Mod NoB w2 w4:=hm3.trans hm4 (fun k hk e=>by
   have e':some w2.heap.size=some k:=e
   cases e';omega)
  have s2:=hm02.size;clear hL2 hcv2 hv2 hB3 hm3 hm4;go_wp2;go_ret2;rw[HGT.out];exact⟨hm02.trans0 hm24,_,rfl,jF ho4 s2⟩
def R8SizeR(w:World)(c:BlobL)(k:List UInt8):Ending->World->Prop:=fun e w'=>e=.returned (.tuple #[.int .i64 (((getL k c).getD []).length:Nat),.bool (getL k c).isSome])/\Mod NoB w w'
theorem r8Size_any(h:R8At w q wd r R)(hs:SortedB r){k:List UInt8}(hk:k.length=32):Calls prog 138 #[.pointer (some ⟨q,0,none⟩),.agg (qA k)] w (R8SizeR w (contR r) k):=by
 have hic:(qA k).size=32:=by rw[qB,hk]
 have hget:=fun w' (hm':Mod NoB w w')=>r8Get_any (h.keep0 hm') hs hk;generalize contR r=c at*;clear h hs;go_enter func138,ntmps138;go_upto_region 0 with(fail)
 refine wpR [1,3,3] ?_;simp only[stz];refine wpD (zL 24 _ _ (by rfl) (by rfl) (fun w1 hB1 hm1 hs1=>?_))
 replace hB1:w1.heap[w.heap.size]?=some (.cells (qA k) 24 (0,0)):=hB1;simp only[stz];have hc3:CellsAt w1 w.heap.size 0 (qA k):=CellsAt.whole hB1
 have hg1:=hget _ hm1;generalize hb3:w.heap.size=b3 at*;obtain⟨x,hx⟩:∃x,getL k c=x:=⟨_,rfl⟩;have HX:=hid hx;rw[hx]at hg1;clear hB1 hs1 hget hx
 cases x with
 |none=>
  go_upto_region 1 with(fail);refine wpR [3,1,1,3,3,3,3,3] ?_;simp only[stz];refine wpXA 24 b3 0 (qA k) hc3 underlying24 32 hic trivial ?_;try simp only[nmz]
  refine wpD (wpC func162 (hg1) ?_);rintro e w2 ⟨hm2,he2⟩;subst he2;refine⟨_,rfl,?_⟩;simp only[stz]
  refine qC rfl (fun w'=>qJ _ 0 #[.slice none 0 0,.bool false] rfl rfl (.slice none 0 0) rfl) ?_;simp only[nmz]
  refine qC rfl (fun w'=>qJ _ 1 #[.slice none 0 0,.bool false] rfl rfl (.bool false) rfl) ?_;simp only[stz];have hm02:=hm1.trans0 hm2;clear hg1 hm1 hm2 hc3
  go_wp2;go_ret2;unfold R8SizeR;rw[HX.out];exact⟨rfl,hm02⟩
 |some m=>
  go_upto_region 1 with(fail);refine wpR [3,1,1,3,3,3,3,3] ?_;simp only[stz];refine wpXA 24 b3 0 (qA k) hc3 underlying24 32 hic trivial ?_;try simp only[nmz]
  refine wpD (wpC func162 (hg1) ?_);rintro e w2 ⟨hm2,v2,he2,hb2⟩;subst he2;obtain⟨vad,vcp,rfl⟩:=hb2.slice;refine⟨_,rfl,?_⟩;simp only[stz]
  refine qC rfl (fun w'=>qJ _ 0 #[.slice vad m.length vcp,.bool true] rfl rfl (.slice vad m.length vcp) rfl) ?_;simp only[nmz]
  refine qC rfl (fun w'=>qJ _ 1 #[.slice vad m.length vcp,.bool true] rfl rfl (.bool true) rfl) ?_;simp only[stz];have hm02:=hm1.trans0 hm2
  clear hg1 hm1 hm2 hc3 hb2;go_wp2;go_ret2;unfold R8SizeR;rw[HX.out];exact⟨rfl,hm02⟩
theorem r8Drop_any(h:R8At w q wd r R)(hs:SortedB r){k:List UInt8}(hk:k.length=32):Calls prog 139 #[.pointer (some ⟨q,0,none⟩),.agg (qA k)] w (fun e w'=>e=.returned (.bool (getL k (contR r)).isSome)/\R8Step w q wd R w' (r.filter fun p=>decide (p.1≠k))):=by
 have hic:(qA k).size=32:=by rw[qB,hk]
 have hisg:=isB_get hs k;have hisa:=fun i (hp:posB k r=i)=>isB_at hs (k:=k) hp;have hids:(getL k r).isSome=isB k r:=(hs.isSome k).symm
 have herase:(getL k r).isSome=true->r.eraseIdx (posB k r)=r.filter fun p=>decide (p.1≠k):=hs.erase
 have hnone:(getL k r).isSome=false->(r.filter fun p=>decide (p.1≠k))=r:=fun e=>by
  refine List.filter_eq_self.2 fun p hp=>?_;have hn:k∉r.map (·.1):=getL_none.1 (by cases hg:getL k r with|none=>rfl|some x=>rw[hg]at e;cases e)
  have:p.1≠k:=fun e=>hn (e▸List.mem_map.2 ⟨p,hp,rfl⟩)
  simpa using this
 have H:=hid h;have hat8:=fun w' (hm':Mod NoB w w')=>r8At_any (H.out.keep0 hm') hk
 have hfl:(r.filter fun p=>decide (p.1≠k)).length<=r.length:=List.length_filter_le _ _
 have hfm:∀p∈(r.filter fun p=>decide (p.1≠k)),p∈r:=fun p hp=>(List.mem_filter.1 hp).1;obtain⟨i,hi⟩:∃i,posB k r=i:=⟨_,rfl⟩
 obtain⟨t,ht⟩:∃t,isB k r=t:=⟨_,rfl⟩;rw[hids,ht]at herase hnone;rw[ht]at hisg;rw[hi]at herase;rw[<-hisg];replace hisa:=hisa i hi;rw[ht]at hisa
 simp only[hi,ht]at hat8;obtain⟨rf,hrf⟩:∃rf,(r.filter fun p=>decide (p.1≠k))=rf:=⟨_,rfl⟩;rw[hrf]at herase hnone hfl hfm |-;have HE:=hid herase
 have HN:=hid hnone;have HFM:=hid hfm;clear h hi ht hids herase hnone hrf hisg hfm;go_enter func139,ntmps139;go_upto_region 0 with(fail);refine wpR [1,3] ?_;simp only[stz]
 refine wpD (zL 24 _ _ (by rfl) (by rfl) (fun w1 hB1 hm1 hs1=>?_));replace hB1:w1.heap[w.heap.size]?=some (.cells (qA k) 24 (0,0)):=hB1;simp only[stz]
 have hc3:CellsAt w1 w.heap.size 0 (qA k):=CellsAt.whole hB1;have hat1:=hat8 _ hm1;generalize hb3:w.heap.size=b3 at*;clear hB1 hs1 hat8;go_upto_region 1 with(fail)
 refine wpR [3,1,1,3,3,3,3,3] ?_;simp only[stz];refine wpXA 24 b3 0 (qA k) hc3 underlying24 32 hic trivial ?_;try simp only[nmz]
 refine wpD (wpCM func153 (hat1) fun w2 hm2=>?_);simp only[stz]
 refine qC rfl (fun w'=>qJ _ 0 #[.int .i64 (i:Nat),.bool t] rfl rfl (.int .i64 (i:Nat)) rfl) ?_;simp only[nmz]
 refine qC rfl (fun w'=>qJ _ 1 #[.int .i64 (i:Nat),.bool t] rfl rfl (.bool t) rfl) ?_;simp only[stz];have hm02:=hm1.trans0 hm2;clear hat1 hm1 hm2 hc3
 cases t with
 |false=>
  have HR:Hid (R8Step w q wd R w2 rf):=hid (by rw[HN.out rfl];exact H.out.step hm02);clear hm02 hisa;go_wp2;go_ret;exact⟨rfl,HR.out⟩
 |true=>
  obtain⟨hlt,-,-⟩:=hisa rfl;have her:=HE.out rfl;obtain⟨ra,rc,hq,hgat,hRq,hown⟩:=H.out.own
  have hLc:w.cell? ⟨q,2,none⟩=some (.slice ra r.length rc):=by rw[cell_of_row _ _ _ _ _ _ hq];rfl
  have hL2:=hm02.cell id hLc;have hq2:=hm02.obj id hq;have hg2:=hgat.keep0 hm02;have hlc:=gat_cap hg2;have hfew:=H.out.few;have hcap:i<=rc:=by omega
  have hi1:i+1<=r.length:=by omega
  have hltB:=H.out.lt;have HOWN:=hid hown;have HHA:=hid hg2;have s02:=hm02.size;have HER:=hid her;clear hisa her hq hgat hLc hown hg2;go_upto_region 3 with(fail)
  have hS:w2.drew.cell? ⟨q,2,none⟩=some (.slice ra r.length rc):=hL2;have hT:Mod NoB w2 w2.drew:=(Mod.refl _ _).drew
  refine wpRZ [3,3,3,3,0,3,3,3,3,3,0,3,3,3,1,3,3,2] [17] (fun w'=>w'.cell? ⟨q,2,none⟩=some (.slice ra r.length rc)) hS ?_;simp only[stz]
  refine wpLd 87 q 2 (fun w' hS=>hS) underlying87 ?_;simp only[stz];refine jC 87 225 _ _ _ _ _ i 33 rfl rfl rfl rfl underlying87 (by kernel_rfl) hcap ?_;simp only[stz]
  refine wpLd 87 q 2 (fun w' hS=>hS) underlying87 ?_;simp only[stz];refine zF _ _ _ _ (i:Int) 1 ((i+1:Nat):Int) rfl rfl rfl rfl (by omega) (by omega) (by omega) ?_
  simp only[nmz];refine yX 87 225 _ _ _ _ _ (i+1) 33 rfl rfl rfl rfl underlying87 (by kernel_rfl) hi1 ?_;simp only[nmz];refine qL rfl (fun K hK=>?_)
  have hto:=gat_to rbL_len (HHA.out.keep0 hT) (show i<=r.length by omega)
  refine wp_gatV rbL _ _ 87 225 (.agg (qA (List.replicate 32 0)++#[Value.slice none 0 0])) 33 56 (by rfl) underlying87 blob8_i (by kernel_rfl) (by omega) rbL_one 0 _ (r.take i) (by rfl) hto.1 _ (r.drop (i+1)) (by rfl) (src_dropE rbL_len (HHA.out.keep0 hT) hi1) (by unfold maxLen;simp;omega) (by simp;omega) (Nat.zero_le _) (fun vb wb hgb hmb hvvb=>?_)
  rw[hto.2]at hmb hvvb;have hnb2:¬(Value.slice ra r.length rc).ownBlock=some q:=fun e=>(HOWN.out q e).2.1 rfl;have hqb:=hmb.obj hnb2 (hT.obj id hq2)
  replace hS:=hmb.cell hnb2 hS;refine hK _ _ hS ?_;clear hK K;simp only[stz];refine zD rfl (fun K hK=>?_)
  refine qR 87 _ _ q 2 vb (by rfl) (by rfl) (by rfl) (by obtain⟨_,_,rfl⟩:=hgb.slice;rfl) (by kernel_rfl) _ _ hqb (by simp) (fun wc hBc hmc=>?_);refine hK _ _ ?_
  clear hK K;simp only[stz];have hM2:=hm02.trans0 hT
  have hMb:Mod (fun k=>R k/\k≠q) w wb:=(hM2.mono (S':=fun k=>R k/\k≠q) (fun _ _ h=>h.elim)).trans hmb (fun k hk e=>⟨(HOWN.out k e).1,(HOWN.out k e).2.1⟩)
  rw[<-List.eraseIdx_eq_take_drop_succ,HER.out]at hgb;have sz2:=hT.size
  have HR:Hid (R8Step w q wd R wc rf):=hid (R8Step.mk H.out hgb hMb (by simpa using hBc) hmc (fun g e=>?g1) (fun p hp=>?g2) (fun p hp=>H.out.ids p (HFM.out p hp)) (fun p hp=>H.out.sz p (HFM.out p hp)) (by omega))
  case g1=>
   rcases hvvb with h1|h1
   ·rw[h1]at e
    exact⟨.inl (HOWN.out g e).1,(HOWN.out g e).2.1,fun p hp=>(HOWN.out g e).2.2 p (HFM.out p hp)⟩
   ·rw[h1]at e
    cases e
    refine⟨.inr ⟨by omega,(hgb.lt h1).2⟩,by have:=hltB q hRq;omega,fun p hp e2=>?_⟩;have:=hltB _ ((H.out.bts p (HFM.out p hp)).2 _ e2).1;omega
  case g2=>
   have hp:=HFM.out p hp
   exact⟨Bts.keep (Bts.keep (H.out.bts p hp).1 hM2 (fun _ _=>id)) hmb (fun g e e2=>(HOWN.out g e2).2.2 p hp e),fun g e=>⟨.inl ((H.out.bts p hp).2 g e).1,((H.out.bts p hp).2 g e).2⟩⟩
  clear hM2 hMb hS hT hmb hmc hBc hqb hgb hL2 hq2 hm02;go_wp2
  all_goals
   go_ret;exact⟨rfl,HR.out⟩
def Id8Rel(w0:World)(r:R8L)(ov i:Value)(w:World):Prop:=∃n:Nat,n<=r.length/\i=.int .i64 n/\GatI w0.heap.size w ov ((r.take n).map (·.1))/\Mod NoB w0 w
def R8IDsR(w:World)(c:BlobL):Ending->World->Prop:=fun e w'=>Mod NoB w w'/\∃v,e=.returned v/\GatI w.heap.size w' v (c.map (·.1))
theorem r8IDs_any(h:R8At w q wd r R):Calls prog 64 #[.pointer (some ⟨q,0,none⟩)] w (R8IDsR w (contR r)):=by
 obtain⟨ra,rc,-,-,hLc,hlc,hat⟩:=h.at;have hids:=h.ids;have hfew:=h.few;have hcr:(contR r).map (·.1)=r.map (·.1):=by simp[contR]
 have HA:=hid hat;have HI:=hid hids;clear hat hids h;go_enter func64,ntmps64;go_wp2
 go_loopw [3,4] (Id8Rel w r) (fun _ i _=>r.length-(intOf i).toNat)
 case atStart=>exact⟨0,by omega,rfl,Gat.nil _ _ _ _ _,Mod.refl _ _⟩
 case round=>
  rename World=>wr
  obtain⟨n,hn,rfl,hg,hM⟩:=hrel;have hLr:=hM.cell id hLc
  by_cases hlt:n<r.length
  ·have hz:(n:Int)<(r.length:Int):=by omega
   obtain⟨g,rfl,hci,-⟩:=HA.out n hlt;have hcr':=hci.keep hM id;have h32:=HI.out _ (List.getElem_mem hlt)
   have htk:((r.take (n+1)).map (·.1))=(r.take n).map (·.1)++[r[n].1]:=by rw[List.take_succ_eq_append_getElem hlt,List.map_append];rfl
   have hlen:((r.take n).map (·.1)).length<=10000:=by simp;omega
   generalize r[n].1=x at*;generalize (r.take n).map (·.1)=out at*;have hic:(qA x).size=32:=by rw[qB,h32]
   have HTK:=hid htk;clear hci htk;go_upto_region 3 with(fail);refine wpR [3,3,3,3,1,3,3] ?_;simp only[stz]
   refine wpXd (v:=(.slice (some ⟨g,0,none⟩) r.length rc)) 87 q 2 hLr underlying87 trivial ?_;try simp only[nmz]
   refine wpPL ?_;simp only[nmz];refine qK _ _ _ _ _ _ _ _ rfl rfl rfl rfl rfl true (decide_eq_true hz) ?_;simp only[stz];go_upto_region 5 with(fail)
   refine wpR [3,3,3,3,1,3,3,3,1,1,1,3] ?_;simp only[stz];refine wpXd (v:=(.slice (some ⟨g,0,none⟩) r.length rc)) 87 q 2 hLr underlying87 trivial ?_;simp only[stz]
   refine wpPI underlying87 33 hlt ?_;simp only[stz];refine wpXA 24 g (n*33) (qA x) hcr' underlying24 32 hic trivial ?_;try simp only[nmz]
   refine wpD (qQ 25 24 _ (.agg (qA x)) (.agg (qA (List.replicate 32 0))) 32 (by rfl) (by rfl) underlying25 (by kernel_rfl) (by omega) (by omega) hic (fun w2 hB2 hm2 hs2=>?_))
   have hsrc:=src_lit (enc:=idE) (e:=24) (x:=x) jM (by rw[idE_eq h32];exact hB2);have hga:=hg.keep0 hm2;try simp only[nmz]
   refine wpD (wp_gat idE _ _ 25 24 (.agg (qA (List.replicate 32 0))) 32 32 (by rfl) underlying25 id_i (by kernel_rfl) (by omega) idE_one w.heap.size _ out (by rfl) hga _ [x] (by rfl) hsrc (by unfold maxLen;simp;omega) (by simp;omega) (by have:=hM.size;have:=hm2.size;omega) (fun v3 w3 hg3 hm3=>?_))
   simp only[stz]
   have HR:Hid (Id8Rel w r v3 (.int .i64 ((n+1:Nat):Int)) w3):=hid ⟨n+1,by omega,rfl,by rw[HTK.out];exact hg3,(hM.trans0 hm2).trans hm3 (fun k hk e=>by have:=(hga.lt e).1;omega)⟩
   clear hLr hcr' hB2 hm2 hm3 hsrc hga hg3 hg hM hs2;go_wp2
   go_roundw
   case rel=>exact HR.out
   case measure=>simp[intOf];omega
  ·have hz:¬(n:Int)<(r.length:Int):=by omega
   obtain rfl:n=r.length:=by omega
   rw[List.take_length]at hg;have HF:Hid (R8IDsR w (contR r) (.returned _) wr):=hid ⟨hM,_,rfl,by rw[hcr];exact hg⟩;go_upto_region 3 with(fail)
   refine wpR [3,3,3,3,1,3,3] ?_;simp only[stz];refine wpXd (v:=(.slice ra r.length rc)) 87 q 2 hLr underlying87 trivial ?_;try simp only[nmz]
   refine wpPL ?_;simp only[nmz];refine qK _ _ _ _ _ _ _ _ rfl rfl rfl rfl rfl false (decide_eq_false hz) ?_;simp only[stz];clear hLr hg hM;go_wp2;go_ret;exact HF.out
end
end
end Go.Proofs.YtjeonjoifjbohaaGreat
