/- What the statement ClosureWhole needs, part 5. -/
import Derived.RangeFuncNested
import Derived.Sort.CutIn
import Derived.OrdersIn
import Derived.Test.YtjeonjoifjbohaaGreatClosureWholeP4
set_option linter.unusedVariables false
set_option linter.unusedSimpArgs false
set_option linter.unnecessarySimpa false
set_option linter.unusedSectionVars false
set_option maxRecDepth 10000
set_option maxHeartbeats 8000000
namespace Go.Proofs.YtjeonjoifjbohaaGreat
section
open Go.RowKit Go.Shelf Go.Proofs.Tryz Go.Lib
theorem fo_163_3:qX prog 163 3=some 37:=by kernel_rfl
theorem fo_163_4:qX prog 163 4=some 38:=by kernel_rfl
theorem decL_len{b:List UInt8}{m:ManL}(h:decL b=some m):m.layers.length<=16/\m.subs.length<=16/\(m.kind=3\/m.kind=4):=by
 unfold decL at h
 split at h
 ·rename_i hc
  have hm:=Option.some.inj h;subst hm;obtain⟨-,h2,-⟩:=hc
  revert h2
  unfold manR
  dsimp only
  generalize (rNumL b (some 0))=f
  split
  ·simp
  ·generalize rNumL b f.2=k
   split
   ·simp
   ·rename_i hk4
    generalize rBytesL b 4096 k.2=t
    by_cases hk:k.1=3
    ·simp only[hk,if_true]
     split
     ·simp
     ·intro _
      refine⟨by rw[rDescsL_len];omega,by simp,.inl rfl⟩
    ·simp only[hk,if_false]
     split
     ·simp
     ·intro _
      refine⟨by simp,by rw[rDescsL_len];omega,.inr (by show k.1=4;omega)⟩
 ·cases h
def DescsR(w:World)(l:List DescL):Ending->World->Prop:=fun x w'=>Mod NoB w w'/\∃v,x=.returned v/\GatD w.heap.size w' v l
theorem man_kind(k:Nat)(t:List UInt8)(d:DescL)(lv sv:Value):(qY k t d lv sv)[0]?=some (.int .i64 k):=by simp[qY]
theorem man_37{k:Nat}{t:List UInt8}{d:DescL}{lv sv:Value}(h:d.id.length=32):(qY k t d lv sv)[37]?=some lv:=by
 have h1:=descL_len h;rw[<-Array.getElem?_toList];simp only[qY,List.getElem?_cons_succ];rw[List.getElem?_append_right (by omega),h1]
 rfl
theorem man_38{k:Nat}{t:List UInt8}{d:DescL}{lv sv:Value}(h:d.id.length=32):(qY k t d lv sv)[38]?=some sv:=by
 have h1:=descL_len h;rw[<-Array.getElem?_toList];simp only[qY,List.getElem?_cons_succ];rw[List.getElem?_append_right (by omega),h1]
 rfl
theorem man_config{k:Nat}{t:List UInt8}{d:DescL}{lv sv:Value}(h:d.id.length=32):∀j,j<(qB d).size->(qY k t d lv sv)[2+j]?=(qB d)[j]?:=by
 intro j hj;have h1:=descL_len h;have h2:(qB d).size=35:=qR h;rw[<-Array.getElem?_toList,<-Array.getElem?_toList,show 2+j=j+1+1 by omega]
 simp only[qY,List.getElem?_cons_succ];rw[List.getElem?_append_left (by omega)]
section
variable{w:World}{base:Nat}{cs:Array Value}{m:ManL}
theorem mDescs_any(h:ManC base w cs m)(hl:m.layers.length<=16/\m.subs.length<=16):Calls prog 159 #[.agg cs] w (DescsR w (xC m)):=by
 obtain⟨hid,lv,sv,rfl,hlv,hsv⟩:=h;obtain⟨hl1,hl2⟩:=hl;have HL:=Lib.hid hlv;have HS:=Lib.hid hsv
 have hlk:∀q,lv.ownBlock=some q->q<w.heap.size:=fun q hq=>(hlv.lt hq).2;have hsk:∀q,sv.ownBlock=some q->q<w.heap.size:=fun q hq=>(hsv.lt hq).2
 have hl1c:lv.oneCell'=true:=owns_one hlv;have hs1c:sv.oneCell'=true:=owns_one hsv;obtain⟨adl,cpl,rfl⟩:=hlv.slice;obtain⟨ads,cps,rfl⟩:=hsv.slice
 have hmk:=man_kind m.kind m.title m.config (.slice adl m.layers.length cpl) (.slice ads m.subs.length cps)
 have hm37:=man_37 (k:=m.kind) (t:=m.title) (lv:=.slice adl m.layers.length cpl) (sv:=.slice ads m.subs.length cps) hid
 have hm38:=man_38 (k:=m.kind) (t:=m.title) (lv:=.slice adl m.layers.length cpl) (sv:=.slice ads m.subs.length cps) hid
 have hmcf:=man_config (k:=m.kind) (t:=m.title) (lv:=.slice adl m.layers.length cpl) (sv:=.slice ads m.subs.length cps) hid
 have hds:(qB m.config).size=35:=qR hid
 obtain⟨cs,hcs⟩:∃cs,qY m.kind m.title m.config (.slice adl m.layers.length cpl) (.slice ads m.subs.length cps)=cs:=⟨_,rfl⟩;rw[hcs]at hmk hm37 hm38 hmcf |-
 have HDE:=Lib.hid (descE_eq hid);clear hcs hlv hsv;go_enter func159,ntmps159;go_upto_region 0 with(fail);refine wpR [1,3] (by rfl) (by rfl) ?_;simp only[stz]
 refine wpDo rfl ?_;refine xA 163 _ _ (by rfl) (by rfl) (fun w1 hB1 hm1 hs1=>?_);replace hB1:w1.heap[w.heap.size]?=some (.cells cs 163 (0,0)):=hB1;simp only[stz]
 have hck:w1.cell? ⟨w.heap.size,0,none⟩=some (.int .i64 m.kind):=by rw[cell_of_row _ _ _ _ _ _ hB1];exact hmk
 have hc37:w1.cell? ⟨w.heap.size,37,none⟩=some (.slice adl m.layers.length cpl):=by rw[cell_of_row _ _ _ _ _ _ hB1];exact hm37
 have hc38:w1.cell? ⟨w.heap.size,38,none⟩=some (.slice ads m.subs.length cps):=by rw[cell_of_row _ _ _ _ _ _ hB1];exact hm38
 have hcc:CellsAt w1 w.heap.size 2 (qB m.config):=CellsAt.of_obj hB1 hmcf;have HM1:=Lib.hid hm1;replace HL:=Lib.hid (HL.out.keep0 hm1)
 replace HS:=Lib.hid (HS.out.keep0 hm1);have hs1':w.heap.size<w1.heap.size:=hs1;generalize hb1:w.heap.size=b1 at*;clear hm1 hB1 hmk hm37 hm38 hmcf
 by_cases hk3:m.kind=3
 ·have hkz:(m.kind:Int)=3:=by omega
  have hdl:xC m=[m.config]++m.layers++m.subs:=by unfold xC;rw[if_pos hk3]
  have HDL:=Lib.hid hdl;clear hdl;go_upto_region 1 with(fail);refine wpR [3,1,3] (by rfl) (by rfl) ?_;simp only[stz]
  refine wpXd (v:=(.int .i64 m.kind)) 3 b1 0 hck underlying3 trivial ?_;try simp only[nmz]
  refine qG (v:=?_) rfl (fun w'=>?_) ?_;rotate_left;·(go_simp;try with_reducible rfl)
  simp only[stz];go_upto_region 2 with(fail);refine wpR [3,3,1,1,1,3] (by rfl) (by rfl) ?_;simp only[stz]
  refine wpXA 46 b1 2 (qB m.config) hcc underlying46 35 hds trivial ?_;try simp only[nmz]
  refine wpDo rfl ?_
  refine zF 161 46 _ (.agg (qB m.config)) (.agg (qB descZ)) 35 (by rfl) (by rfl) underlying161 (by kernel_rfl) (by omega) (by omega) hds (fun w3 hB3 hm3 hs3=>?_)
  have hsrc:=src_lit (enc:=descE) (e:=46) (x:=m.config) descE_len (by rw[HDE.out];exact hB3);have h3s:=hm3.size;try simp only[nmz]
  refine wpDo rfl ?_
  refine wp_gat descE _ _ 161 46 (.agg (qB descZ)) 35 64 (by rfl) underlying161 desc_i desc_zs (by omega) descE_one w3.heap.size _ [] (by rfl) (Gat.nil _ _ _ _ _) _ [m.config] (by rfl) hsrc (by unfold maxLen;simp) (by simp) (Nat.le_refl _) (fun v4 w4 hg4 hm4=>?_)
  have hm4':Mod NoB w3 w4:=hm4.mono (fun k hk e=>by cases e);rw[List.nil_append]at hg4;simp only[stz];have hm14:=hm3.trans0 hm4';have h34:=hm4'.size
  have HM4:=Lib.hid (HM1.out.trans0 hm14);replace HL:=Lib.hid (HL.out.keep0 hm14);replace HS:=Lib.hid (HS.out.keep0 hm14);replace hc37:=hm14.cell id hc37
  replace hc38:=hm14.cell id hc38;have HG2:=Lib.hid hg4
  have hv2:∀q,v4.ownBlock=some q->b1<q/\q<w4.heap.size:=fun q hq=>by
   have:=hg4.lt hq;omega
  have hv1c:v4.oneCell'=true:=owns_one hg4;have h14s:=hm14.size;clear hm3 hm4 hm4' hm14 hB3 hsrc hg4 hck hcc;go_upto_region 3 with(fail)
  have hS:Mod (fun q=>b1<q) w4 w4.drew:=(Mod.refl _ _).drew;have hg4d:=HG2.out.keep0 (Mod.refl NoB w4).drew
  refine wpRP [(0,3),(1,3),(2,0),(4,3),(5,0),(3,1),(6,1),(7,3)] [] (fun w'=>Mod (fun q=>b1<q) w4 w') hS ?_;simp only[stz]
  refine wpLd 161 b1 37 (fun w' hS=>hS.cell (fun e=>Nat.lt_irrefl _ e) hc37) underlying161 ?_;simp only[stz]
  refine wpLd 161 b1 38 (fun w' hS=>hS.cell (fun e=>Nat.lt_irrefl _ e) hc38) underlying161 ?_;simp only[nmz];refine qT rfl (fun K hK=>?_)
  refine wp_gat descE _ _ 161 46 (.agg (qB descZ)) 35 64 (by rfl) underlying161 desc_i desc_zs (by omega) descE_one w3.heap.size _ [m.config] (by rfl) hg4d _ m.layers (by rfl) (HL.out.keep hS (fun q hq e=>by have:=hlk q hq;have e':b1<q:=e;omega)).src (by unfold maxLen;simp;omega) (by simp;omega) (by have:=hS.size;omega) (fun v5 w5 hg5 hm5=>?_)
  have hS5:Mod (fun q=>v4.ownBlock=some q) w4 w5:=(show Mod (fun q=>v4.ownBlock=some q) w4 w4.drew from(Mod.refl _ _).drew).trans hm5 (fun _ _ h=>h)
  have hS5b:Mod (fun q=>b1<q) w4 w5:=hS5.mono (fun k _ e=>(hv2 k e).1);refine hK _ _ hS5b ?_;clear hK K;try simp only[nmz]
  refine qT rfl (fun K hK=>?_)
  refine wp_gat descE _ _ 161 46 (.agg (qB descZ)) 35 64 (by rfl) underlying161 desc_i desc_zs (by omega) descE_one w3.heap.size _ ([m.config]++m.layers) (by rfl) hg5 _ m.subs (by rfl) (HS.out.keep hS5 (fun q hq e=>by have:=hsk q hq;have:=hv2 q e;omega)).src (by unfold maxLen;simp;omega) (by simp;omega) (by have:=hS5.size;omega) (fun v6 w6 hg6 hm6=>?_)
  have hm46:Mod NoB w w6:=(HM4.out.trans hS5 (fun k hk e=>by have:=hv2 k e;omega)).trans hm6 (fun k hk e=>by have:=hg5.lt e;omega)
  have hS6b:Mod (fun q=>b1<q) w4 w6:=hS5b.trans hm6 (fun k _ e=>by have:=hg5.lt e;omega)
  have HR:Hid (DescsR w (xC m) (.returned v6) w6):=Lib.hid ⟨hm46,v6,rfl,by rw[HDL.out];exact hg6.base (by omega)⟩;refine hK _ _ hS6b ?_
  clear hm46 hg5 hg6 hm5 hm6 hS5 hS5b hS6b;clear hK K;simp only[stz];clear hS hg4d hc37 hc38;go_wp2;go_ret;exact HR.out
 ·have hkz:¬(m.kind:Int)=3:=by omega
  have hdl:xC m=m.layers++m.subs:=by unfold xC;rw[if_neg hk3];rfl
  have HDL:=Lib.hid hdl;clear hdl;go_upto_region 1 with(fail);refine wpR [3,1,3] (by rfl) (by rfl) ?_;simp only[stz]
  refine wpXd (v:=(.int .i64 m.kind)) 3 b1 0 hck underlying3 trivial ?_;try simp only[nmz]
  refine qG (v:=?_) rfl (fun w'=>?_) ?_;rotate_left;·(go_simp;try with_reducible rfl)
  simp only[stz];clear hck hcc;go_upto_region 3 with(fail);have hS:Mod (fun q=>b1<q) w1 w1.drew:=(Mod.refl _ _).drew
  refine wpRP [(0,3),(1,3),(2,0),(4,3),(5,0),(3,1),(6,1),(7,3)] [] (fun w'=>Mod (fun q=>b1<q) w1 w') hS ?_;simp only[stz]
  refine wpLd 161 b1 37 (fun w' hS=>hS.cell (fun e=>Nat.lt_irrefl _ e) hc37) underlying161 ?_;simp only[stz]
  refine wpLd 161 b1 38 (fun w' hS=>hS.cell (fun e=>Nat.lt_irrefl _ e) hc38) underlying161 ?_;simp only[nmz];refine qT rfl (fun K hK=>?_)
  refine wp_gat descE _ _ 161 46 (.agg (qB descZ)) 35 64 (by rfl) underlying161 desc_i desc_zs (by omega) descE_one w1.heap.size _ [] (by rfl) (Gat.nil _ _ _ _ _) _ m.layers (by rfl) (HL.out.keep hS (fun q hq e=>by have:=hlk q hq;have e':b1<q:=e;omega)).src (by unfold maxLen;simp;omega) (by simp;omega) hS.size (fun v5 w5 hg5 hm5=>?_)
  rw[List.nil_append]at hg5;have hS5:Mod NoB w1 w5:=(show Mod NoB w1 w1.drew from(Mod.refl _ _).drew).trans hm5 (fun k hk e=>by cases e)
  have hS5b:Mod (fun q=>b1<q) w1 w5:=hS5.mono (fun k _ e=>e.elim);refine hK _ _ hS5b ?_;clear hK K;try simp only[nmz]
  refine qT rfl (fun K hK=>?_)
  refine wp_gat descE _ _ 161 46 (.agg (qB descZ)) 35 64 (by rfl) underlying161 desc_i desc_zs (by omega) descE_one w1.heap.size _ m.layers (by rfl) hg5 _ m.subs (by rfl) (HS.out.keep0 hS5).src (by unfold maxLen;omega) (by omega) hS5.size (fun v6 w6 hg6 hm6=>?_)
  have hm46:Mod NoB w w6:=(HM1.out.trans0 hS5).trans hm6 (fun k hk e=>by have:=hg5.lt e;omega)
  have hS6b:Mod (fun q=>b1<q) w1 w6:=hS5b.trans hm6 (fun k _ e=>by have:=hg5.lt e;omega)
  have HR:Hid (DescsR w (xC m) (.returned v6) w6):=Lib.hid ⟨hm46,v6,rfl,by rw[HDL.out];exact hg6.base (by omega)⟩;refine hK _ _ hS6b ?_
  clear hm46 hg5 hg6 hm5 hm6 hS5 hS5b hS6b;clear hK K;simp only[stz];clear hS hc37 hc38;go_wp2;go_ret;exact HR.out
end
theorem cmarkZ:(prog.info? 152).bind (·.zero)=some (.agg #[.int .i64 0]):=by kernel_rfl
theorem built_cmark(n:Int):prog.built 152 [(0,.int .i64 n)]=some #[.int .i64 n]:=by
 have p:yG prog 152=some [(0,1)]:=by kernel_rfl
 rw[zW cmarkZ p,zK (off:=0) (size:=1) rfl (by rfl) (by simp),yI]
 rfl
theorem built_cmark0:prog.built 152 []=some #[.int .i64 0]:=by kernel_rfl
def marksV(all:Marks):List (List UInt8×Value):=all.map fun p=>(p.1,linkV ((p.2:Nat):Int))
abbrev MarksAt(w:World)(mb:Nat)(all:Marks):Prop:=MapIs idV IdOk w mb (marksV all)
theorem marks_get(id:List UInt8)(all:Marks):getL id (marksV all)=(getL id all).map fun k=>linkV ((k:Nat):Int):=getL_map (fun k:Nat=>linkV (k:Int)) id all
theorem marks_put(id:List UInt8)(k:Nat)(all:Marks):putL id (linkV ((k:Nat):Int)) (marksV all)=marksV (putL id k all):=putL_map (fun k:Nat=>linkV (k:Int)) id k all
def RisingR(w:World)(l:List (List UInt8)):Ending->World->Prop:=fun e w'=>Mod NoB w w'/\∃v ids,e=.returned v/\GatI w.heap.size w' v ids/\ids.Pairwise (fun a b=>a<b)/\ids.Perm l/\∀x∈ids,x.length=32
theorem rising_of{w w1 w':World}{v:Value}{ks:List IdS}{l:List (List UInt8)}(hS:(ks.map (·.1)).Perm l)(hnd:l.Nodup)(hm1:Mod NoB w w1)(hm:Mod NoB w1 w')(hrow:w'.ownsRow w1.heap.size 24 32 v ks.length ((yB ks).flatMap idLS)):RisingR w l (.returned v) w':=by
 have hl:(yB ks).length=ks.length:=(sortIS_perm ks).length_eq
 have hkn:ks.Nodup:=by
  have:(ks.map (·.1)).Nodup:=hS.nodup_iff.2 hnd;exact(List.pairwise_map.1 this).imp fun hne e=>hne (by rw[e])
 refine⟨hm1.trans0 hm,v,(yB ks).map (·.1),rfl,?_,?_,?_,?_⟩
 ·have h1:GatI w1.heap.size w' v ((yB ks).map (·.1)):=by
   unfold GatI Gat;rw[List.length_map,hl,<-idLS_flat];exact hrow
  exact h1.base hm1.size
 ·exact List.pairwise_map.2 (sortIS_sorted hkn)
 ·exact((sortIS_perm ks).map _).trans hS
 ·intro x hx
  obtain⟨k,_,rfl⟩:=List.mem_map.1 hx;exact k.2
theorem clRising_any{w:World}{mb:Nat}{l:List (List UInt8×Value)}(hM:MapIs idV IdOk w mb l)(hlen:l.length<=65536):Calls prog 84 #[.map (some mb)] w (RisingR w (l.map (·.1))):=by
 have hm1:=zT w (.cells #[.map (some mb)] 144);have hB:=heap_alloc_new w (.cells #[.map (some mb)] 144);have hk:=keysC_any w mb;have hnd:=hM.nd
 obtain⟨w1,hw1⟩:∃w1,w.alloc (.cells #[.map (some mb)] 144)=w1:=⟨_,rfl⟩;rw[hw1]at hm1 hB;simp only[hw1]at hk
 have hst:=keysC_stops 2 (by omega) w1 w.heap.size mb l hB (hM.keep0 hm1)
 have hso:=sortedI_of (n:=3) (by omega) 216 #[.pointer (some ⟨w.heap.size,0,none⟩)] (enters_of func216 (by kernel_rfl) rfl) _ _ l.length hlen w1 hst (fun ks h=>by have:=h.length_eq;simp at this;omega)
 clear hst hw1 hB;go_enter func84,ntmps84;go_upto_region 1 with(fail);refine wpR [3,1,1,3] (by rfl) (by rfl) ?_;simp only[stz];refine wpDo rfl ?_
 refine qD (qF 161 [.tmp 3] _ rfl _ func161 rfl (by kernel_rfl) [.map (some mb)] rfl _) (hk) ?_;rintro e wa ⟨rfl,hw⟩;obtain rfl:=hw.symm;refine⟨_,rfl,?_⟩
 try simp only[nmz]
 refine wpDo rfl ?_
 refine qD (qF 160 [.tmp 4,.func 35] _ rfl _ func160 rfl (by kernel_rfl) [.func (.func 216) #[] #[.pointer (some ⟨w.heap.size,0,none⟩)],.func (.func 35) #[] #[]] rfl _) hso ?_
 rintro e w3 ⟨v,ks,rfl,hS,hm3,hrow⟩;have HR:=hid (rising_of hS hnd hm1 hm3 hrow);clear hS hm3 hrow;refine⟨_,rfl,?_⟩;simp only[stz];go_wp2;go_ret;exact HR.out
section
variable{w:World}{bs ms wd:Nat}{room:Int}{bl:List Blb}
theorem clNone_any(h:StInv w bs ms wd room bl):Calls prog 86 #[.pointer (some ⟨bs,0,none⟩)] w (RetE (.bool false) w):=by
 have hw:=bWidth_any h;have hz:¬(wd:Int)=0:=by have:=h.wok;omega
 clear h;go_enter func86,ntmps86;go_wp2_with (go_at_call 124;refine hw.mono ?_;rintro _ w1 ⟨rfl,hw1⟩;obtain rfl:=hw1.symm);go_ret;have hz2:¬wd=0:=by omega
 exact⟨by simp[hz2],rfl⟩
end
instance:Inhabited DescL:=⟨descZ⟩
def ReachR(w:World)(mb:Nat)(all:Marks):Ending->World->Prop:=fun e w'=>e=.returned (.tuple #[])/\MarksAt w' mb all/\Mod (fun k=>k=mb) w w'
def foldM(c:BlobM)(f depth:Nat)(ds:List DescL)(all:Marks):Marks:=ds.foldl (fun all d=>if yD d then xX c f d.id (depth+1) all else leafM all d.id) all
theorem foldM_succ(c:BlobM)(f depth:Nat)(ds:List DescL)(all:Marks)(k:Nat)(hk:k<ds.length):foldM c f depth (ds.take (k+1)) all=if yD ds[k]then xX c f ds[k].id (depth+1) (foldM c f depth (ds.take k) all)else leafM (foldM c f depth (ds.take k) all) ds[k].id:=by
 unfold foldM;rw[List.take_succ_eq_append_getElem hk,List.foldl_append]
 rfl
def ReachRel(w0:World)(mb:Nat)(c:BlobM)(f depth:Nat)(ds:List DescL)(all:Marks)(i:Value)(w:World):Prop:=∃k:Nat,k<=ds.length/\i=.int .i64 k/\MarksAt w mb (foldM c f depth (ds.take k) all)/\Mod (fun q=>q=mb) w0 w
theorem descRow_at1{m:Nat}{x:List UInt8}{n:Nat}{p:List UInt8}:∀j,j<(qA x).size->(xD m x n p)[1+j]?=(qA x)[j]?:=by
 intro j hj;rw[qE]at hj;rw[<-Array.getElem?_toList,<-Array.getElem?_toList,Nat.add_comm];simp only[xD,List.getElem?_cons_succ,qA]
 rw[List.getElem?_append_left (by simpa using hj)]
theorem wasM_eq(all:Marks)(id:List UInt8)(depth:Nat):wasM all id depth=((getL id all).isSome&&(decide (0<(getL id all).getD 0)&&decide ((getL id all).getD 0<=depth))):=by
 unfold wasM
 cases getL id all<;>simp
theorem mark_look(id:List UInt8)(all:Marks):(if true=true then Value.tuple #[(getL id (marksV all)).getD (linkV 0),.bool (getL id (marksV all)).isSome]else(getL id (marksV all)).getD (linkV 0))=.tuple #[linkV ((((getL id all).getD 0:Nat)):Int),.bool (getL id all).isSome]:=by
 rw[if_pos rfl,marks_get]
 cases getL id all<;>rfl
theorem linkV_one(n:Int):∀c∈(#[.int .i64 n]:Array Value),c.oneCell'=true:=by simp[Value.oneCell']
section
variable{bs ms wd:Nat}{room:Int}{bl:List Blb}{mb:Nat}
theorem StInv.keepM{w w':World}(h:StInv w bs ms wd room bl)(hmb:¬SFoot bs ms bl mb)(hm:Mod (fun k=>k=mb) w w'):StInv w' bs ms wd room bl:=h.keep hm (fun k hk e=>hmb (by have e':k=mb:=e;rw[<-e'];exact hk))
theorem clReach_any(hmb:¬SFoot bs ms bl mb):∀(f:Nat)(id:List UInt8)(depth:Nat)(all:Marks)(w:World),id.length=32->0<depth->depth+f=6->0<f->StInv w bs ms wd room bl->MarksAt w mb all->
 Calls prog 87 #[.pointer (some ⟨bs,0,none⟩),.agg (qA id),.int .i64 depth,.map (some mb)] w (ReachR w mb (xX (cont bl) f id depth all))
 |0,_,_,_,_,_,_,_,h,_,_=>by omega
 |f+1,di,depth,all,w,hid,hd0,hdf,_,hst,hM=>by
  have ih:=clReach_any hmb f;have IH:=Lib.hid ih;have hic:(qA di).size=32:=by rw[qE,hid]
  have H:=Lib.hid hst;have HM:=Lib.hid hM;have hmbl:mb<w.heap.size:=hM.lt;have HW:=Lib.hid (wasM_eq all di depth);have HLK:=Lib.hid (mark_look di all)
  obtain⟨kk,hkk⟩:∃q,(getL di all).getD 0=q:=⟨_,rfl⟩;obtain⟨is,his⟩:∃q,(getL di all).isSome=q:=⟨_,rfl⟩;rw[hkk,his]at HW HLK
  have hwas:∃q,wasM all di depth=q:=⟨_,rfl⟩;obtain⟨was,hwas⟩:=hwas;rw[hwas]at HW;have HWAS:=Lib.hid hwas;have hdz:depth<=5:=by omega
  clear hst hM hkk his hwas ih;go_enter func87,ntmps87;go_upto_region 0 with(fail);refine wpR [1] (by rfl) (by rfl) ?_;simp only[stz];refine wpDo rfl ?_
  refine xA 24 _ _ (by rfl) (by rfl) (fun w1 hB1 hm1 hs1=>?_);replace hB1:w1.heap[w.heap.size]?=some (.cells (qA di) 24 (0,0)):=hB1;simp only[stz]
  have HM1:=Lib.hid (HM.out.keep0 hm1);have hm1s:w.heap.size<w1.heap.size:=hs1;generalize hb5:w.heap.size=b5 at*;go_upto_region 1 with(fail)
  refine wpR [3,1,1,3,3,3,1,1,3] (by rfl) (by rfl) ?_;simp only[stz];refine wpXA 24 b5 0 (qA di) (CellsAt.whole hB1) underlying24 32 hic trivial ?_;try simp only[nmz]
  refine wpX rfl (jF keyT_id HM1.out di hid 144 152 underlying144 (linkV 0) cmarkZ _ _ true (by rfl) (by rfl) (by rfl) _ HLK.out) trivial ?_;simp only[stz]
  refine qG (v:=?_) rfl (fun w'=>?_) ?_;rotate_left;·(go_simp;try with_reducible rfl)
  simp only[nmz];refine qG (v:=?_) rfl (fun w'=>?_) ?_;rotate_left;·(go_simp;try with_reducible rfl)
  simp only[nmz];refine wpDo rfl ?_;refine qU 152 _ (by rfl) cmarkZ (fun w2 hB2 hm2 hs2=>?_)
  replace hB2:w2.heap[w1.heap.size]?=some (.cells #[.int .i64 0] 152 (0,0)):=hB2;try simp only[nmz]
  refine wpDo rfl ?_;refine qM 152 _ _ w1.heap.size 0 #[.int .i64 kk] (by rfl) (by rfl) (by rfl) (linkV_one _) 1 (by kernel_rfl) rfl _ _ hB2 (by simp) (fun w3 hB3 hm3=>?_)
  rw[qI (by rfl)]at hB3;simp only[stz];have hm13:Mod NoB w1 w3:=hm2.transB hm3 (Nat.le_refl _);have HB1:=Lib.hid (hm13.obj id hB1)
  have hck:w3.cell? ⟨w1.heap.size,0,none⟩=some (.int .i64 kk):=by simp[World.cell?,hB3]
  have HM03:=Lib.hid (hm1.trans0 hm13);replace HM1:=Lib.hid (HM1.out.keep0 hm13);generalize hb8:w1.heap.size=b8 at*;clear hm1 hm13 hm2 hm3 hB1 hB2 hB3 hs1 hs2
  go_upto_region 2 with(fail)
  go_cut [35] (fun s wx=>s=.bool was/\wx=w3)
  case first=>
   have hw:=HW.out
   cases is with
   |false=>
    obtain rfl:was=false:=by simpa using hw
    clear hw;refine wpR [3,3,3,0,3,3,3,3,0,3,3,3] (by rfl) (by rfl) ?_;simp only[stz];go_wp2
    go_meet
    case rel=>exact⟨rfl,rfl⟩
   |true=>
    by_cases hk0:0<kk
    ·have hz:(kk:Int)>0:=by omega
     by_cases hkd:kk<=depth
     ·have hz2:(kk:Int)<=(depth:Int):=by omega
      obtain rfl:was=true:=by simpa[hk0,hkd]using hw
      clear hw;refine wpR [3,3,3,1,3,3,3,3,1,3,3,3] (by rfl) (by rfl) ?_;simp only[stz];refine wpXd (v:=(.int .i64 kk)) 3 b8 0 hck underlying3 trivial ?_
      try simp only[nmz]
      refine qQ _ _ _ _ _ _ _ _ rfl rfl rfl rfl rfl true (decide_eq_true hz) ?_;simp only[stz];refine wpXd (v:=(.int .i64 kk)) 3 b8 0 hck underlying3 trivial ?_
      simp only[stz];refine qQ _ _ _ _ _ _ _ _ rfl rfl rfl rfl rfl true (decide_eq_true hz2) ?_;simp only[stz];go_wp2
      go_meet
      case rel=>exact⟨rfl,rfl⟩
     ·have hz2:¬(kk:Int)<=(depth:Int):=by omega
      obtain rfl:was=false:=by simpa[hk0,hkd]using hw
      clear hw;refine wpR [3,3,3,1,3,3,3,3,1,3,3,3] (by rfl) (by rfl) ?_;simp only[stz];refine wpXd (v:=(.int .i64 kk)) 3 b8 0 hck underlying3 trivial ?_
      try simp only[nmz]
      refine qQ _ _ _ _ _ _ _ _ rfl rfl rfl rfl rfl true (decide_eq_true hz) ?_;simp only[stz];refine wpXd (v:=(.int .i64 kk)) 3 b8 0 hck underlying3 trivial ?_
      simp only[stz];refine qQ _ _ _ _ _ _ _ _ rfl rfl rfl rfl rfl false (decide_eq_false hz2) ?_;simp only[stz];go_wp2
      go_meet
      case rel=>exact⟨rfl,rfl⟩
    ·have hz:¬(kk:Int)>0:=by omega
     obtain rfl:was=false:=by simpa[hk0]using hw
     clear hw;refine wpR [3,3,3,1,3,3,3,3,0,3,3,3] (by rfl) (by rfl) ?_;simp only[stz];refine wpXd (v:=(.int .i64 kk)) 3 b8 0 hck underlying3 trivial ?_
     try simp only[nmz]
     refine qQ _ _ _ _ _ _ _ _ rfl rfl rfl rfl rfl false (decide_eq_false hz) ?_;simp only[stz];go_wp2
     go_meet
     case rel=>exact⟨rfl,rfl⟩
  case rest=>
   obtain⟨rfl,hw⟩:=hcut;obtain rfl:=hw.symm;clear HW hck HLK
   cases was with
   |true=>
    have HF:Hid (ReachR w mb (xX (cont bl) (f+1) di depth all) (.returned (.tuple #[])) w3):=Lib.hid ⟨rfl,by unfold xX;rw[if_pos HWAS.out];exact HM1.out,HM03.out.mono (fun _ _ h=>h.elim)⟩
    go_wp2
    go_end0
    exact HF.out
   |false=>
    have HRE:Hid (xX (cont bl) (f+1) di depth all=if 4<depth then putL di depth all else match yY (cont bl) di with|none=>putL di depth all|some ds=>foldM (cont bl) f depth ds (putL di depth all)):=Lib.hid (by
     unfold xX;rw[if_neg (by rw[HWAS.out];simp)]
     rfl)
    have hb1c:=HB1.out;go_upto_region 3 with(fail);refine wpR [3,1,3,0,1] (by rfl) (by rfl) ?_;simp only[stz]
    refine wpXA 24 b5 0 (qA di) (CellsAt.whole hb1c) underlying24 32 hic trivial ?_;simp only[stz]
    refine qW rfl (fun w' hS=>qS 152 [(0,_)] [(0,.int .i64 depth)] _ (by rfl) (by rfl) (built_cmark depth)) ?_;simp only[nmz];refine wpDo rfl ?_
    refine wp_putL keyT_id HM1.out di hid 144 152 underlying144 _ _ _ (linkV depth) (by rfl) (by rfl) (by rfl) (by rfl) (fun w4 hM4 hm4=>?_);rw[marks_put]at hM4
    have HM4:=Lib.hid hM4;simp only[stz];have hm04:Mod (fun k=>k=mb) w w4:=(HM03.out.mono (fun _ _ h=>h.elim)).trans hm4 (fun _ _ h=>h)
    have H4:=Lib.hid (H.out.keepM hmb hm04);have hb14:=hm4.objB (b:=b5) (by omega) hb1c;have HM04:=Lib.hid hm04;obtain⟨all1,hall1⟩:∃q,putL di depth all=q:=⟨_,rfl⟩
    rw[hall1]at HM4 HRE;have hget:=bGet_any H4.out di hid;clear hM4 hm4 hm04 hb1c hall1;obtain⟨r,hr⟩:∃q,getL di (cont bl)=q:=⟨_,rfl⟩;rw[hr]at hget
    have HGR:=Lib.hid hr;clear hr
    cases r with
    |none=>
     have HF0:Hid (xX (cont bl) (f+1) di depth all=all1):=Lib.hid (by
      rw[HRE.out];have:yY (cont bl) di=none:=by unfold yY;rw[HGR.out]
      rw[this]
      split<;>rfl)
     go_upto_region 4 with(fail);refine wpR [3,1,1,3,3,3,3,3] (by rfl) (by rfl) ?_;simp only[stz]
     refine wpXA 24 b5 0 (qA di) (CellsAt.whole hb14) underlying24 32 hic trivial ?_;try simp only[nmz]
     refine wpDo rfl ?_;refine qD (qF 33 [.tmp 41,.tmp 42] _ rfl _ func33 rfl (by kernel_rfl) [.pointer (some ⟨bs,0,none⟩),.agg (qA di)] rfl _) (hget) ?_
     rintro e w5 ⟨hm5,rfl⟩;refine⟨_,rfl,?_⟩;simp only[stz];refine qG (v:=?_) rfl (fun w'=>?_) ?_;rotate_left;·(go_simp;try with_reducible rfl)
     simp only[nmz];refine qG (v:=?_) rfl (fun w'=>?_) ?_;rotate_left;·(go_simp;try with_reducible rfl)
     simp only[stz];go_upto_region 5 with(fail);refine wpR [3,1,3,3,3,1,1,1,1] (by rfl) (by rfl) ?_;simp only[stz];refine wpDo rfl ?_
     refine qD (qF 158 [.tmp 47] _ rfl _ func158 rfl (by kernel_rfl) [.slice none 0 0] rfl _) (mDecode_any (b:=[]) (Sl.nil true w5 (fun _=>True) 1 ByteC) (by simp)) ?_
     rintro e w6 ⟨hm6,cs,er,at_,rfl,her,hmc⟩;have hcs:=hmc.size;have hone:=hmc.one;refine⟨_,rfl,?_⟩;simp only[stz]
     refine qG (v:=?_) rfl (fun w'=>?_) ?_;rotate_left;·(go_simp;try with_reducible rfl)
     simp only[nmz];refine qG (v:=?_) rfl (fun w'=>?_) ?_;rotate_left;·(go_simp;try with_reducible rfl)
     simp only[nmz];refine wpDo rfl ?_;refine qU 163 _ (by rfl) manZ_i (fun w7 hB7 hm7 hs7=>?_)
     replace hB7:w7.heap[w6.heap.size]?=some (.cells (qY 0 [] descZ (.slice none 0 0) (.slice none 0 0)) 163 (0,0)):=hB7;try simp only[nmz]
     refine wpDo rfl ?_;refine qU 255 _ (by rfl) fltZ (fun w8 hB8 hm8 hs8=>?_)
     replace hB8:w8.heap[w7.heap.size]?=some (.cells #[.int .i64 0,.int .i64 0] 255 (0,0)):=hB8;try simp only[nmz]
     refine wpDo rfl ?_
     refine qM 163 _ _ w6.heap.size 0 cs (by rfl) (by rfl) (by rfl) hone 39 (by kernel_rfl) hcs _ _ (hm8.obj id hB7) (by rw[hcs];exact Nat.le_of_eq (zD zG).symm) (fun w9 hB9 hm9=>?_)
     have hB8':=hm9.objB (by omega) hB8;try simp only[nmz]
     refine wpDo rfl ?_
     refine qM 255 _ _ w7.heap.size 0 #[.int .i64 er,.int .i64 at_] (by rfl) (by rfl) (by rfl) (by simp[Value.oneCell']) 2 (by kernel_rfl) rfl _ _ hB8' (by simp) (fun wa hBa hma=>?_)
     simp only[stz]
     have hm4a:Mod NoB w4 wa:=((((hm5.trans0 hm6).trans0 hm7).trans0 hm8).transB hm9 (by have:=hm5.size;have:=hm6.size;omega)).transB hma (by have:=hm5.size;have:=hm6.size;have:=hm7.size;omega)
     have HF:Hid (ReachR w mb (xX (cont bl) (f+1) di depth all) (.returned (.tuple #[])) wa):=Lib.hid ⟨rfl,by rw[HF0.out];exact HM4.out.keep0 hm4a,HM04.out.trans hm4a (fun _ _ h=>h.elim)⟩
     clear hm5 hm6 hm7 hm8 hm9 hma hm4a hB7 hB8 hB8' hB9 hBa hmc hb14;go_upto_region 6 with(fail);refine wpR [3,3,3,3,0,3,3,3,3,3,3] (by rfl) (by rfl) ?_;simp only[stz]
     try refine zI _ _ false (by rfl) (by rfl) (by rfl) ?_
     try simp only[stz]
     go_wp2
     go_end0
     exact HF.out
    |some m=>
     have hml:m.length<=4096:=by
      have h1:=HGR.out;rw[getB]at h1
      cases hf:findB di bl with
      |none=>rw[hf]at h1;cases h1
      |some b=>
       rw[hf]at h1;simp only[Option.map_some,Option.some.injEq]at h1;rw[<-h1];exact H.out.sz b (findB_some hf).1
     have HDO:Hid (yY (cont bl) di=(decL m).map xC):=Lib.hid (by unfold yY;rw[HGR.out]);go_upto_region 4 with(fail)
     refine wpR [3,1,1,3,3,3,3,3] (by rfl) (by rfl) ?_;simp only[stz];refine wpXA 24 b5 0 (qA di) (CellsAt.whole hb14) underlying24 32 hic trivial ?_
     try simp only[nmz]
     refine wpDo rfl ?_;refine qD (qF 33 [.tmp 41,.tmp 42] _ rfl _ func33 rfl (by kernel_rfl) [.pointer (some ⟨bs,0,none⟩),.agg (qA di)] rfl _) (hget) ?_
     rintro e w5 ⟨hm5,bv,rfl,hbv⟩;refine⟨_,rfl,?_⟩;simp only[stz];refine qG (v:=?_) rfl (fun w'=>?_) ?_;rotate_left;·(go_simp;try with_reducible rfl)
     simp only[nmz];refine qG (v:=?_) rfl (fun w'=>?_) ?_;rotate_left;·(go_simp;try with_reducible rfl)
     simp only[stz];go_upto_region 5 with(fail);refine wpR [3,1,3,3,3,1,1,1,1] (by rfl) (by rfl) ?_;simp only[stz];refine wpDo rfl ?_
     refine qD (qF 158 [.tmp 47] _ rfl _ func158 rfl (by kernel_rfl) [bv] rfl _) (mDecode_any (Bts.sl hbv) hml) ?_;rintro e w6 ⟨hm6,cs,er,at_,rfl,her,hmc⟩
     have hcs:=hmc.size;have hone:=hmc.one;refine⟨_,rfl,?_⟩;simp only[stz];refine qG (v:=?_) rfl (fun w'=>?_) ?_;rotate_left;·(go_simp;try with_reducible rfl)
     simp only[nmz];refine qG (v:=?_) rfl (fun w'=>?_) ?_;rotate_left;·(go_simp;try with_reducible rfl)
     simp only[nmz];refine wpDo rfl ?_;refine qU 163 _ (by rfl) manZ_i (fun w7 hB7 hm7 hs7=>?_)
     replace hB7:w7.heap[w6.heap.size]?=some (.cells (qY 0 [] descZ (.slice none 0 0) (.slice none 0 0)) 163 (0,0)):=hB7;try simp only[nmz]
     refine wpDo rfl ?_;refine qU 255 _ (by rfl) fltZ (fun w8 hB8 hm8 hs8=>?_)
     replace hB8:w8.heap[w7.heap.size]?=some (.cells #[.int .i64 0,.int .i64 0] 255 (0,0)):=hB8;try simp only[nmz]
     refine wpDo rfl ?_
     refine qM 163 _ _ w6.heap.size 0 cs (by rfl) (by rfl) (by rfl) hone 39 (by kernel_rfl) hcs _ _ (hm8.obj id hB7) (by rw[hcs];exact Nat.le_of_eq (zD zG).symm) (fun w9 hB9 hm9=>?_)
     rw[qI (by rw[hcs];exact(zD zG).symm)]at hB9;have hB8':=hm9.objB (by omega) hB8;try simp only[nmz]
     refine wpDo rfl ?_
     refine qM 255 _ _ w7.heap.size 0 #[.int .i64 er,.int .i64 at_] (by rfl) (by rfl) (by rfl) (by simp[Value.oneCell']) 2 (by kernel_rfl) rfl _ _ hB8' (by simp) (fun wa hBa hma=>?_)
     rw[qI (by rfl)]at hBa;have hB9':=hma.objB (by omega) hB9;simp only[stz];have h56:=hm5.size;have h66:=hm6.size;have h67:=hm7.size
     have hm6a:Mod NoB w6 wa:=((hm7.trans0 hm8).transB hm9 (Nat.le_refl _)).transB hma (by omega);have hm4a:Mod NoB w4 wa:=(hm5.trans0 hm6).trans0 hm6a
     have HMC:=Lib.hid (hmc.keep0 hm6a);have hce:wa.cell? ⟨w7.heap.size,0,none⟩=some (.int .i64 er):=by simp[World.cell?,hBa]
     have HER:=Lib.hid her;have HMa:=Lib.hid (HM4.out.keep0 hm4a);have H4a:=Lib.hid (H4.out.keep0 hm4a)
     have HM0a:Hid (Mod (fun k=>k=mb) w wa):=Lib.hid (HM04.out.trans hm4a (fun _ _ h=>h.elim));generalize hb13:w7.heap.size=b13 at*
     generalize hb12:w6.heap.size=b12 at*;clear hm5 hm6 hm7 hm8 hm9 hma hm4a hm6a hB7 hB8 hB8' hB9 hBa hmc hb14 her hbv
     by_cases hez:er=0
     rotate_left
     ·have hF0:xX (cont bl) (f+1) di depth all=all1:=by
       rw[HRE.out,HDO.out]
       have:decL m=none:=by
        cases hd:decL m with
        |none=>rfl
        |some q=>exact absurd (HER.out.2 (by rw[hd];rfl)) hez
       rw[this]
       simp
      have HF:Hid (ReachR w mb (xX (cont bl) (f+1) di depth all) (.returned (.tuple #[])) wa):=Lib.hid ⟨rfl,by rw[hF0];exact HMa.out,HM0a.out⟩;clear hF0
      go_upto_region 6 with(fail);refine wpR [3,3,3,3,1,3,3,3,3,3,3] (by rfl) (by rfl) ?_;simp only[stz]
      try refine zI _ _ true (by rfl) (by rfl) (by rfl) ?_
      try simp only[stz]
      refine wpXd (v:=(.int .i64 er)) 33 b13 0 hce underlying33 trivial ?_;try simp only[nmz]
      refine qQ _ _ _ _ _ _ _ _ rfl rfl rfl rfl rfl true (decide_eq_true hez) ?_;simp only[stz];go_wp2
      go_end0
      exact HF.out
     ·subst hez
      obtain⟨M,hM⟩:∃M,decL m=some M:=Option.isSome_iff_exists.1 (HER.out.1 rfl);have hmc:=HMC.out;rw[hM]at hmc;replace hmc:ManC w5.heap.size wa cs M:=hmc
      by_cases hd4:4<depth
      ·have hz4:(depth:Int)>4:=by omega
       have HF:Hid (ReachR w mb (xX (cont bl) (f+1) di depth all) (.returned (.tuple #[])) wa):=Lib.hid ⟨rfl,by rw[HRE.out,if_pos hd4];exact HMa.out,HM0a.out⟩
       clear hmc;go_upto_region 6 with(fail);refine wpR [3,3,3,3,1,3,3,3,3,3,3] (by rfl) (by rfl) ?_;simp only[stz]
       try refine zI _ _ true (by rfl) (by rfl) (by rfl) ?_
       try simp only[stz]
       refine wpXd (v:=(.int .i64 0)) 33 b13 0 hce underlying33 trivial ?_;try simp only[nmz]
       refine qQ _ _ _ _ _ _ _ _ rfl rfl rfl rfl rfl false (by decide) ?_;simp only[stz];refine qQ _ _ _ _ _ _ _ _ rfl rfl rfl rfl rfl true (decide_eq_true hz4) ?_
       simp only[stz];go_wp2
       go_end0
       exact HF.out
      ·have hz4:¬(depth:Int)>4:=by omega
       have hlens:=decL_len hM;have hids:=decL_ids hM
       have hR0:xX (cont bl) (f+1) di depth all=foldM (cont bl) f depth (xC M) all1:=by
        rw[HRE.out,if_neg hd4,HDO.out,hM]
        rfl
       have HR0:=Lib.hid hR0;have hdc:=mDescs_any hmc ⟨hlens.1,hlens.2.1⟩
       have hdl:(xC M).length<=33:=by
        unfold xC;simp only[List.length_append]
        split<;>simp<;>omega
       have HIDS:=Lib.hid hids;obtain⟨ds,hds⟩:∃ds,xC M=ds:=⟨_,rfl⟩;rw[hds]at hdc HR0 HIDS hdl;clear hR0 hlens hids hmc HMC hM hds HRE HDO HER
       go_upto_region 6 with(fail);refine wpR [3,3,3,3,1,3,3,3,3,3,3] (by rfl) (by rfl) ?_;simp only[stz]
       try refine zI _ _ true (by rfl) (by rfl) (by rfl) ?_
       try simp only[stz]
       refine wpXd (v:=(.int .i64 0)) 33 b13 0 hce underlying33 trivial ?_;try simp only[nmz]
       refine qQ _ _ _ _ _ _ _ _ rfl rfl rfl rfl rfl false (by decide) ?_;simp only[stz];refine qQ _ _ _ _ _ _ _ _ rfl rfl rfl rfl rfl false (decide_eq_false hz4) ?_
       simp only[stz];clear hce;go_upto_region 7 with(fail);refine wpR [1,1,3,3] (by rfl) (by rfl) ?_;simp only[stz]
       refine wpXA 163 b12 0 cs (CellsAt.whole hB9') underlying163 39 hcs trivial ?_;try simp only[nmz]
       refine wpDo rfl ?_;refine qD (qF 159 [.tmp 62] _ rfl _ func159 rfl (by kernel_rfl) [.agg cs] rfl _) hdc ?_;rintro e wb ⟨hmb',dv,rfl,hgd⟩
       have HGD:=Lib.hid hgd;obtain⟨dad,dcap,rfl⟩:=hgd.slice;clear hgd;refine⟨_,rfl,?_⟩;try simp only[nmz]
       refine zC _ _ _ _ _ rfl rfl rfl (by kernel_rfl) ?_;simp only[stz]
       have HRL:Hid (ReachRel wb mb (cont bl) f depth ds all1 (.int .i64 (0:Nat)) wb):=Lib.hid ⟨0,Nat.zero_le _,rfl,HMa.out.keep0 hmb',Mod.refl _ _⟩
       have H4b:=Lib.hid (H4a.out.keep0 hmb');have HM0b:Hid (Mod (fun k=>k=mb) w wb):=Lib.hid (HM0a.out.trans hmb' (fun _ _ h=>h.elim))
       have hmbb:mb<wa.heap.size:=HMa.out.lt;have hwab:wa.heap.size<=wb.heap.size:=hmb'.size
       have hgl:∀q,(Value.slice dad ds.length dcap).ownBlock=some q->q≠mb:=fun q hq=>by
        have:=(HGD.out.lt hq).1;omega
       clear hmb' hB9' hdc;go_wp2
       go_loopw [65] (ReachRel wb mb (cont bl) f depth ds all1) (fun i _=>ds.length-(intOf i).toNat)
       case atStart=>exact HRL.out
       case round=>
        rename World=>wr
        obtain⟨k,hk,rfl,hMr,hmr⟩:=hrel;have HMR:=Lib.hid hMr;have HmR:=Lib.hid hmr;have hmbr:mb<wr.heap.size:=hMr.lt
        by_cases hlt:k<ds.length
        ·have hzk:(k:Int)<(ds.length:Nat):=by omega
         have hgr:GatD wa.heap.size wr (.slice dad ds.length dcap) ds:=HGD.out.keep hmr (fun q hq e=>hgl q hq e)
         obtain⟨g,cap',cur,hq,hgc,hcc,hsz,-,-⟩:=hgr.at descE_len k hlt
         cases hq
         have hfs:=foldM_succ (cont bl) f depth ds all1 k hlt;have hdid:=HIDS.out ds[k] (List.getElem_mem _);generalize ds[k]=d at*;rw[descE_eq hdid]at hcc
         have hdsz:(qB d).size=35:=qR hdid;have hdic:(qA d.id).size=32:=by rw[qE,hdid]
         have hdone:∀c∈qB d,c.oneCell'=true:=zJ _ _ _ _;have HFS:=Lib.hid hfs;clear hfs hMr hmr hgr;go_upto_region 9 with(fail)
         refine wpR [3,1,1,1] (by rfl) (by rfl) ?_;simp only[stz];refine qV _ _ _ _ _ _ _ _ _ rfl rfl rfl rfl underlying161 (n:=35) (by kernel_rfl) hlt ?_
         simp only[nmz];refine wpXA 46 g (k*35) (qB d) hcc underlying46 35 hdsz trivial ?_;try simp only[nmz]
         refine wpDo rfl ?_;refine qU 46 _ (by rfl) descZ_i (fun wc hBc hmc hsc=>?_)
         replace hBc:wc.heap[wr.heap.size]?=some (.cells (qB descZ) 46 (0,0)):=hBc;try simp only[nmz]
         refine wpDo rfl ?_
         refine qM 46 _ _ wr.heap.size 0 (qB d) (by rfl) (by rfl) (by rfl) hdone 35 (by kernel_rfl) hdsz _ _ hBc (by rw[hdsz];exact Nat.le_of_eq (qR zG).symm) (fun wd' hBd hmd=>?_)
         rw[qI (by rw[hdsz];exact(qR zG).symm)]at hBd;simp only[stz];have hmrd:Mod NoB wr wd':=hmc.transB hmd (Nat.le_refl _)
         have hcm:wd'.cell? ⟨wr.heap.size,0,none⟩=some (.int .i64 d.media):=by rw[cell_of_row _ _ _ _ _ _ hBd];rfl
         have hci:CellsAt wd' wr.heap.size 1 (qA d.id):=CellsAt.of_obj hBd descRow_at1;replace HMR:=Lib.hid (HMR.out.keep0 hmrd)
         replace HmR:Hid (Mod (fun q=>q=mb) wb wd'):=Lib.hid (HmR.out.trans hmrd (fun _ _ h=>h.elim));have Hd:=Lib.hid (H4b.out.keepM hmb HmR.out)
         have hmbd:mb<wd'.heap.size:=HMR.out.lt;generalize hb15:wr.heap.size=b15 at*;clear hmc hmd hmrd hBc hBd hcc hgc hsz;go_upto_region 10 with(fail)
         go_cut [76] (fun s wx=>s=.bool (yD d)/\wx=wd')
         case first=>
          by_cases h3:d.media=3
          ·have hz3:(d.media:Int)=3:=by omega
           have ht:yD d=true:=by simp[yD,h3]
           refine wpR [3,1,3,3,3,0,3,3] (by rfl) (by rfl) ?_;simp only[stz];refine wpXd (v:=(.int .i64 d.media)) 3 b15 0 hcm underlying3 trivial ?_;try simp only[nmz]
           refine qQ _ _ _ _ _ _ _ _ rfl rfl rfl rfl rfl true (decide_eq_true hz3) ?_;simp only[stz];go_wp2
           go_meet
           case rel=>exact⟨by rw[ht],rfl⟩
          ·have hz3:¬(d.media:Int)=3:=by omega
           by_cases h4:d.media=4
           ·have hz4':(d.media:Int)=4:=by omega
            have ht:yD d=true:=by simp[yD,h4]
            refine wpR [3,1,3,3,3,1,3,3] (by rfl) (by rfl) ?_;simp only[stz];refine wpXd (v:=(.int .i64 d.media)) 3 b15 0 hcm underlying3 trivial ?_
            try simp only[nmz]
            refine qQ _ _ _ _ _ _ _ _ rfl rfl rfl rfl rfl false (decide_eq_false hz3) ?_;simp only[stz]
            refine wpXd (v:=(.int .i64 d.media)) 3 b15 0 hcm underlying3 trivial ?_;try simp only[nmz]
            refine qQ _ _ _ _ _ _ _ _ rfl rfl rfl rfl rfl true (decide_eq_true hz4') ?_;simp only[stz];go_wp2
            go_meet
            case rel=>exact⟨by rw[ht],rfl⟩
           ·have hz4':¬(d.media:Int)=4:=by omega
            have ht:yD d=false:=by simp[yD,h3,h4]
            refine wpR [3,1,3,3,3,1,3,3] (by rfl) (by rfl) ?_;simp only[stz];refine wpXd (v:=(.int .i64 d.media)) 3 b15 0 hcm underlying3 trivial ?_
            try simp only[nmz]
            refine qQ _ _ _ _ _ _ _ _ rfl rfl rfl rfl rfl false (decide_eq_false hz3) ?_;simp only[stz]
            refine wpXd (v:=(.int .i64 d.media)) 3 b15 0 hcm underlying3 trivial ?_;try simp only[nmz]
            refine qQ _ _ _ _ _ _ _ _ rfl rfl rfl rfl rfl false (decide_eq_false hz4') ?_;simp only[stz];go_wp2
            go_meet
            case rel=>exact⟨by rw[ht],rfl⟩
         case rest=>
          obtain⟨rfl,hw⟩:=hcut;obtain rfl:=hw.symm;clear hcm;obtain⟨tr,htr⟩:∃q,yD d=q:=⟨_,rfl⟩;rw[htr]at HFS |-;clear htr
          cases tr with
          |true=>
           have hrec:=IH.out d.id (depth+1) _ _ hdid (by omega) (by omega) (by omega) Hd.out HMR.out;go_upto_region 11 with(fail)
           refine wpR [3,3,1,3,3,3,1] (by rfl) (by rfl) ?_;simp only[stz];refine wpXA 24 b15 1 (qA d.id) hci underlying24 32 hdic trivial ?_;simp only[stz]
           refine zM _ _ _ _ (depth:Int) 1 ((depth+1:Nat):Int) rfl rfl rfl rfl (by omega) (by omega) (by omega) ?_;simp only[stz];refine wpDo rfl ?_
           refine qD (qF 87 [.tmp 77,.tmp 79,.tmp 81,.tmp 82] _ rfl _ func87 rfl (by kernel_rfl) [.pointer (some ⟨bs,0,none⟩),.agg (qA d.id),.int .i64 ((depth+1:Nat):Int),.map (some mb)] rfl _) (hrec) ?_
           rintro e we ⟨rfl,hMe,hme⟩
           have HR:Hid (ReachRel wb mb (cont bl) f depth ds all1 (.int .i64 ((k+1:Nat):Int)) we):=Lib.hid ⟨k+1,by omega,rfl,by rw[HFS.out];exact hMe,HmR.out.trans hme (fun _ _ h=>h)⟩
           refine⟨_,rfl,?_⟩;simp only[stz];clear hMe hme hci hrec;go_wp2
           go_roundw
           case rel=>exact HR.out
           case measure=>simp[intOf];omega
          |false=>
           have HLK:=Lib.hid (mark_look d.id (foldM (cont bl) f depth (ds.take k) all1))
           obtain⟨kk2,hkk2⟩:∃q,(getL d.id (foldM (cont bl) f depth (ds.take k) all1)).getD 0=q:=⟨_,rfl⟩
           obtain⟨is2,his2⟩:∃q,(getL d.id (foldM (cont bl) f depth (ds.take k) all1)).isSome=q:=⟨_,rfl⟩;rw[hkk2,his2]at HLK;have HIS2:=Lib.hid his2
           clear hkk2 his2;go_upto_region 12 with(fail);refine wpR [3,3,1,1,3,3,3,1,1,3] (by rfl) (by rfl) ?_;simp only[stz]
           refine wpXA 24 b15 1 (qA d.id) hci underlying24 32 hdic trivial ?_;try simp only[nmz]
           refine wpX rfl (jF keyT_id HMR.out d.id hdid 144 152 underlying144 (linkV 0) cmarkZ _ _ true (by rfl) (by rfl) (by rfl) _ HLK.out) trivial ?_;simp only[stz]
           refine qG (v:=?_) rfl (fun w'=>?_) ?_;rotate_left;·(go_simp;try with_reducible rfl)
           simp only[nmz];refine qG (v:=?_) rfl (fun w'=>?_) ?_;rotate_left;·(go_simp;try with_reducible rfl)
           simp only[nmz];refine wpDo rfl ?_;refine qU 152 _ (by rfl) cmarkZ (fun we hBe hme hse=>?_)
           replace hBe:we.heap[wd'.heap.size]?=some (.cells #[.int .i64 0] 152 (0,0)):=hBe;try simp only[nmz]
           refine wpDo rfl ?_
           refine qM 152 _ _ wd'.heap.size 0 #[.int .i64 kk2] (by rfl) (by rfl) (by rfl) (linkV_one _) 1 (by kernel_rfl) rfl _ _ hBe (by simp) (fun wf hBf hmf=>?_)
           simp only[stz];have hmdf:Mod NoB wd' wf:=hme.transB hmf (Nat.le_refl _);have hcf:=hci.keep hmdf id;have HMf:=Lib.hid (HMR.out.keep0 hmdf)
           have HmF:Hid (Mod (fun q=>q=mb) wb wf):=Lib.hid (HmR.out.trans hmdf (fun _ _ h=>h.elim));clear hme hmf hmdf hBe hBf hse hci
           cases is2 with
           |true=>
            have HR:Hid (ReachRel wb mb (cont bl) f depth ds all1 (.int .i64 ((k+1:Nat):Int)) wf):=Lib.hid ⟨k+1,by omega,rfl,by rw[HFS.out];simp only[Bool.false_eq_true,if_false];unfold leafM;rw[if_pos HIS2.out];exact HMf.out,HmF.out⟩
            clear hcf;go_wp2
            go_roundw
            case rel=>exact HR.out
            case measure=>simp[intOf];omega
           |false=>
            go_upto_region 14 with(fail);refine wpR [3,3,1,0,1] (by rfl) (by rfl) ?_;simp only[stz];refine wpXA 24 b15 1 (qA d.id) hcf underlying24 32 hdic trivial ?_
            try simp only[nmz]
            refine qW rfl (fun w' hS=>qS 152 [] [] _ (by rfl) (by rfl) built_cmark0) ?_;simp only[nmz];refine qT rfl (fun K hK=>?_)
            refine wp_putL keyT_id HMf.out d.id hdid 144 152 underlying144 _ _ _ (linkV ((0:Nat):Int)) (by rfl) (by rfl) (by rfl) (by rfl) (fun wg hMg hmg=>?_)
            rw[marks_put]at hMg
            have HR:Hid (ReachRel wb mb (cont bl) f depth ds all1 (.int .i64 ((k+1:Nat):Int)) wg):=Lib.hid ⟨k+1,by omega,rfl,by rw[HFS.out];simp only[Bool.false_eq_true,if_false];unfold leafM;rw[if_neg (by rw[HIS2.out];simp)];exact hMg,HmF.out.trans hmg (fun _ _ h=>h)⟩
            refine hK _ _ trivial ?_;clear hMg hmg;clear hK K;simp only[stz];clear hcf;go_wp2
            go_roundw
            case rel=>exact HR.out
            case measure=>simp[intOf];omega
        ·have hzk:¬(k:Int)<(ds.length:Nat):=by omega
         obtain rfl:k=ds.length:=by omega
         have HF:Hid (ReachR w mb (xX (cont bl) (f+1) di depth all) (.returned (.tuple #[])) wr):=Lib.hid ⟨rfl,by
          rw[HR0.out];have h1:=HMR.out;rw[List.take_length]at h1
          exact h1,HM0b.out.trans HmR.out (fun _ _ h=>h)⟩
         clear hMr hmr;go_wp2
         go_end0
         exact HF.out
end
end
section
open Go.RowKit Go.Proofs.Tryz Go.Lib
def KC(W W':World):Prop:=Mod (fun k=>∀o,W.heap[k]?=some o->o.isCells=false) W W'
theorem KC.refl(W:World):KC W W:=Mod.refl _ W
theorem KC.obj{W W':World}(h:KC W W'){k:Nat}{o:Obj}(ho:W.heap[k]?=some o)(hc:o.isCells=true):W'.heap[k]?=some o:=
 Mod.obj h (fun hs=>by rw[hs o ho]at hc;cases hc) ho
theorem KC.trans{A B C:World}(h:KC A B)(k:KC B C):KC A C:=
 Mod.trans h k (fun i _ hs o ho=>by
  cases hc:o.isCells with
  |false=>rfl
  |true=>rw[<-hs o (h.obj ho hc),hc])
theorem KC.of_mod{S:Nat->Prop}{W W':World}(h:Mod S W W')(hS:∀k o,S k->W.heap[k]?=some o->o.isCells=false):KC W W':=
 h.mono fun k _ hk o ho=>hS k o hk ho
theorem KC.of0{W W':World}(h:Mod NoB W W'):KC W W':=KC.of_mod h fun _ _ h=>h.elim
theorem KC.putObj{W:World}{l:Nat}{o:Obj}(o':Obj)(h:W.heap[l]?=some o)(hc:o.isCells=false):KC W (W.putObj l o'):=
 KC.of_mod (S:=fun k=>k=l) ((Mod.refl _ W).grown (grownBy_putObj' W l o') (fun k e _=>by cases e;rfl)) (fun k o1 e ho=>by
  have e:k=l:=e
  subst e;rw[h]at ho;cases ho;exact hc)
theorem KC.mod0{W W':World}(h:KC W W'):Mod (fun k=>∀o,W.heap[k]?=some o->o.isCells=false) W W':=h
theorem KC.cell{W W':World}(h:KC W W'){p:Addr}{v:Value}(hc:W.cell? p=some v):W'.cell? p=some v:=by
 obtain⟨o,ho,hk⟩:=cells_of_cell hc;exact(World.cell?_of_block ((h.obj ho hk).trans ho.symm)).trans hc
theorem KC.cells{W W':World}(h:KC W W'){b o:Nat}{cs:Array Value}(hc:CellsAt W b o cs):CellsAt W' b o cs:=fun i hx=>by
 have e:cs[i]?=some cs[i]:=Array.getElem?_eq_getElem hx;rw[e];exact h.cell ((hc i hx).trans e)
theorem OwnFrom.up{β:Type}{B B':Nat}{I:β->World->Prop}(h:OwnFrom B I)(hB:B<=B'):OwnFrom B' I:=
 fun s W W' row hs hg hr=>h s W W' row hs hg (fun r e=>⟨Nat.le_trans hB (hr r e).1,(hr r e).2⟩)
theorem OwnFrom.mod0{β:Type}{I:β->World->Prop}{B:Nat}(h:OwnFrom B I){s:β}{W W':World}(hs:I s W)(hm:Mod NoB W W'):I s W':=
 h s W W' none hs hm.grownNone (fun r e=>by cases e)
theorem yield0{m m':Nat}{P:Program}{l:Nat}{args:Array Value}{W:World}{R:Ending->World->Prop}(h:YieldAt Fence.wide m P l args W R):YieldAt Fence.wide m' P l args W R:=by
 obtain⟨fn,tmps,assign,body,hy,hR⟩:=h;exact⟨fn,tmps,assign,body,hy,hR.1,fun c cs _=>hR.2 c cs (room_wide _)⟩
theorem yield_round{m l₀:Nat}{P:Program}{l:Nat}{args:Array Value}{W:World}{R:Ending->World->Prop}(h:YieldAt Fence.wide m P l args W R):YieldAt (Fence.wide.inRound l₀) m P l args W R:=h
end
section
open Go.RowKit Go.Shelf Go.Proofs.Tryz Go.Lib
theorem take_snoc{α:Type}{l:List α}{k:Nat}(hk:k<l.length):l.take k++[l[k]]=l.take (k+1):=(List.take_succ_eq_append_getElem hk).symm
theorem Sl.kc{α:Type}{w w':World}{G:Nat->Prop}{sz:Nat}{R R':Array Value->α->Prop}{v:Value}{l:List α}(h:Sl false w G sz R v l)(hm:KC w w')(hR:∀cs x,R cs x->R' cs x):Sl false w' G sz R' v l:=by
 obtain⟨a,cap,hv,hl,hc,h⟩:=h;refine⟨a,cap,hv,hl,hc,fun hne=>?_⟩;obtain⟨b,off,ha,hG,-,hi⟩:=h hne
 refine⟨b,off,ha,hG,fun e=>(by cases e),fun i hlt=>?_⟩;obtain⟨cs,h1,h2,h3⟩:=hi i hlt;exact⟨cs,h1,hR _ _ h2,hm.cells h3⟩
abbrev AnyB:Nat->Prop:=fun _=>True
abbrev HeldL:=(Int×Int)×List UInt8
def heldCells(h:HeldL):Array Value:=#[.int .i64 h.1.1,.int .i64 h.1.2]++qA h.2
def HeldC(cs:Array Value)(h:HeldL):Prop:=cs=heldCells h/\h.2.length=32
abbrev RowX:=Value×List HeldL
def RowAt(w:World)(x:RowX):Prop:=Sl false w AnyB 34 HeldC x.1 x.2
theorem RowAt.kc{w w':World}{x:RowX}(h:RowAt w x)(hm:KC w w'):RowAt w' x:=Sl.kc h hm fun _ _ h=>h
theorem RowAt.one{w:World}{x:RowX}(h:RowAt w x):x.1.oneCell'=true:=Sl.one h
structure TagX where
 name:ByteArray
 row:RowX
structure RepX where
 name:ByteArray
 tv:Value
 tags:List TagX
 man:RowX
def TagC(w:World)(cs:Array Value)(t:TagX):Prop:=cs=#[.string t.name,t.row.1]/\RowAt w t.row
structure RepAt(w:World)(r:RepX):Prop where
 tags:Sl false w AnyB 2 (TagC w) r.tv r.tags
 man:RowAt w r.man
theorem RepAt.kc{w w':World}{r:RepX}(h:RepAt w r)(hm:KC w w'):RepAt w' r:=⟨Sl.kc h.tags hm fun _ _ h=>⟨h.1,h.2.kc hm⟩,h.man.kc hm⟩
attribute [local go_sem] Oper.semAt_some
theorem KC.own{β:Type}(W0:World)(B:Nat):OwnFrom B (fun(_:β) W=>KC W0 W):=fun s A C row hs hg hr=>
 hs.trans (KC.of_mod (Mod.of_grown hg fun r e=>e.symm) (S:=fun k=>some k=row) (fun k o e ho=>by
  obtain⟨_,o',ho',hc⟩:=hr k e.symm
  rw[ho]at ho';cases ho';exact hc))
theorem wpIn_yieldR{P:Program}{n l₀:Nat}{o:Oper}{a:Act}{w:World}{K:Act->World->Prop}{Q:Exit->Act->World->Prop}{l:Nat}{R:Ending->World->Prop}(x y:Operand)(ts:Array TypeId)(ho:o.op=.call { callee:=.value x,args:=#[y],argTypes:=ts })(hx:a.eval x=.func (.yield l) #[] #[])(v:Value)(hv:a.eval y=v)
 (hy:YieldAt Fence.wide 0 P l #[v] w R)(hR:∀e w',R e w'->∃v,e=.returned v/\K (a.put o.dst v) w'):o.wpIn (Fence.wide.inRound l₀) n P a w K Q:=by
 subst hv;obtain⟨fn,tmps,assign,body,hrun,hround⟩:=yield_round (l₀:=l₀) (yield0 (m':=n-1) hy);unfold Oper.wpIn;refine⟨fun _ _=>trivial,?_⟩
 rw[Oper.semAt_eq _ _ _ (fun c h=>by rw[ho]at h;cases h)]
 have e:(execOp a.eval o).run P w=.ok (.round l fn tmps assign body) w:=by
  unfold execOp
  simp[ho,resolve,hx,Deferred.ofValue,invoke,hrun]
 rw[e];refine⟨fun h=>by simp[Fence.wide]at h,hround.mono fun e w' he=>?_⟩;obtain⟨v,rfl,hk⟩:=hR e w' he;exact hk
end
section
open Go.RowKit Go.Shelf Go.Proofs.Tryz Go.Lib
theorem run_clos{P:Program}{o:Oper}{a:Act}{w:World}(x y:Operand)(ts:Array TypeId)(gf:Nat)(lb:Array Value)(ho:o.op=.call { callee:=.value x,args:=#[y],argTypes:=ts })(hx:a.eval x=.func (.func gf) #[] lb)(v:Value)(hv:a.eval y=v)
 (eg:∀args w,(callFunc gf args).run P w=.ok (.enter gf args) w):(execOp a.eval o).run P w=.ok (.enter gf (#[v]++lb)) w:=by
 subst hv;unfold execOp
 simp[ho,resolve,hx,Deferred.ofValue,invoke,eg]
section
variable{w:World}{base gf:Nat}{lb:Array Value}{v:Value}{ids:List (List UInt8)}{del:List UInt8->Bool}
end
section
variable{P:Program}{o:Oper}{a:Act}{w:World}{K:Act->World->Prop}{Q:Exit->Act->World->Prop}
end
structure DelAt(w0:World)(base:Nat)(v:Value)(ids:List (List UInt8))(del:List UInt8->Bool)(ni nj:Nat)(l:List (List UInt8))(w:World):Prop where
 row:GatI base w v l
 len:l.length=ids.length
 lt:ni<nj
 le:nj<=ids.length
 took:l.take ni=(ids.take nj).filter fun x=> !del x
 left:l.drop nj=ids.drop nj
 mod:Mod (fun q=>v.ownBlock=some q) w0 w
theorem DelAt.skip{w0 w w':World}{base ni nj:Nat}{v:Value}{ids l:List (List UInt8)}{del:List UInt8->Bool}(h:DelAt w0 base v ids del ni nj l w)(hlt:nj<ids.length)(hd:del ids[nj]=true)(hm:Mod NoB w w'):DelAt w0 base v ids del ni (nj+1) l w':=
 ⟨h.row.keep0 hm,h.len,by have:=h.lt;omega,hlt,by rw[h.took,<-take_snoc hlt,List.filter_append];simp[hd],by rw[<-List.drop_drop,h.left,List.drop_drop],h.mod.trans hm (fun _ _ h=>h.elim)⟩
theorem DelAt.keep{w0 w w':World}{base ni nj:Nat}{v:Value}{ids l:List (List UInt8)}{del:List UInt8->Bool}(h:DelAt w0 base v ids del ni nj l w)(hlt:nj<ids.length)(hd:del ids[nj]=false)(hr:GatI base w' v (l.set ni ids[nj]))(hm:Mod (fun q=>v.ownBlock=some q) w0 w'):DelAt w0 base v ids del (ni+1) (nj+1) (l.set ni ids[nj]) w':=by
 have h1:=h.lt;have h2:=h.len;refine⟨hr,by rw[List.length_set,h2],by omega,hlt,?_,?_,hm⟩
 ·rw[List.take_succ_eq_append_getElem (by rw[List.length_set];omega),List.take_set_of_le (Nat.le_refl _),h.took,<-take_snoc hlt,List.filter_append]
  simp[hd]
 ·rw[List.drop_set_of_lt (by omega),<-List.drop_drop,h.left,List.drop_drop]
section
variable{w:World}{base gf:Nat}{lb:Array Value}{v:Value}{ids:List (List UInt8)}{del:List UInt8->Bool}
end
def emptyW(w:World):World:={ w with heap:=#[] }
theorem emptyW_mod(w:World):Mod NoB (emptyW w) w:=⟨rfl,rfl,rfl,by simp[emptyW],fun k hk _=>by simp[emptyW]at hk⟩
theorem LkAt.bare{w0 w:World}{p:Value}{limit:Int}{l:LinkL}{F:Nat->Prop}(h:LkAt w0 w p limit l F):LkAt (emptyW w) w p limit l F:=⟨emptyW_mod w,h.ok,fun k _=>by simp[emptyW],h.lt⟩
structure House where
 bs:Nat
 ms:Nat
 wd:Nat
 room:Int
 q:Value
 limit:Int
def HsAt(w:World)(h:House)(c:BlobL)(l:LinkL)(Ft:Nat->Prop):Prop:=
 ∃bl F,StInv w h.bs h.ms h.wd h.room bl/\cont bl=c/\LkAt (emptyW w) w h.q h.limit l F/\(∀k,SFoot h.bs h.ms bl k->¬F k)/\(∀k,SFoot h.bs h.ms bl k->Ft k)/\(∀k,F k->Ft k)/\∀k,Ft k->k<w.heap.size
def HStep(w:World)(h:House)(Ft:Nat->Prop)(w':World)(c':BlobL)(l':LinkL):Prop:=∃Ft',HsAt w' h c' l' Ft'/\Mod Ft w w'/\∀k,Ft' k->Ft k\/New w w' k
section
variable{w w':World}{h:House}{c c':BlobL}{l l':LinkL}{Ft:Nat->Prop}
theorem HsAt.lt(H:HsAt w h c l Ft):∀k,Ft k->k<w.heap.size:=by
 obtain⟨_,_,_,_,_,_,_,_,h⟩:=H;exact h
theorem HsAt.keep{S:Nat->Prop}(H:HsAt w h c l Ft)(hm:Mod S w w')(hS:∀k,Ft k->¬S k):HsAt w' h c l Ft:=by
 obtain⟨bl,F,h1,h2,h3,h4,h5,h6,h7⟩:=H
 exact⟨bl,F,h1.keep hm (fun k hk=>hS k (h5 k hk)),h2,(h3.keep hm (fun k hk=>hS k (h6 k hk)) (fun k hk=>by simp[emptyW]at hk)).bare,h4,h5,h6,fun k hk=>Nat.lt_of_lt_of_le (h7 k hk) hm.size⟩
theorem HsAt.keep0(H:HsAt w h c l Ft)(hm:Mod NoB w w'):HsAt w' h c l Ft:=H.keep hm fun _ _=>id
theorem HStep.of0(H:HsAt w h c l Ft)(hm:Mod NoB w w'):HStep w h Ft w' c l:=⟨Ft,H.keep0 hm,hm.mono (fun _ _ h=>h.elim),fun _ hk=>.inl hk⟩
theorem HStep.trans{w1:World}{c1:BlobL}{l1:LinkL}(h1:HStep w h Ft w1 c1 l1)(h2:∀F1,HsAt w1 h c1 l1 F1->HStep w1 h F1 w' c' l'):HStep w h Ft w' c' l':=by
 obtain⟨F1,a1,b1,d1⟩:=h1;obtain⟨F2,a2,b2,d2⟩:=h2 F1 a1;refine⟨F2,a2,b1.trans b2 (fun k hk hf=>(d1 k hf).elim id (fun hn=>by have:=hn.1;omega)),fun k hk=>?_⟩
 rcases d2 k hk with h|h
 ·rcases d1 k h with h|h
  ·exact .inl h
  ·exact .inr ⟨h.1,Nat.lt_of_lt_of_le h.2 b2.size⟩
 ·exact .inr ⟨Nat.le_trans b1.size h.1,h.2⟩
theorem HsAt.nd(H:HsAt w h c l Ft):(c.map (·.1)).Nodup:=by
 obtain⟨bl,F,h1,rfl,_⟩:=H;exact h1.nd
theorem HsAt.small(H:HsAt w h c l Ft):(∀p∈c,p.1.length=32/\p.2.length<=4096)/\c.length<=10000/\l.length<=65536:=by
 obtain⟨bl,F,h1,rfl,h3,_⟩:=H;refine⟨fun p hp=>?_,by simpa[cont]using h1.few,h3.facts.2.2.2.2.2⟩;obtain⟨b,hb,rfl⟩:=List.mem_map.1 hp
 exact⟨h1.ok b hb,h1.sz b hb⟩
theorem HsAt.drop(H:HsAt w h c l Ft)(di:List UInt8)(hd:di.length=32):Calls prog 30 #[.pointer (some ⟨h.bs,0,none⟩),.agg (qA di)] w (fun e w'=>∃v,e=.returned v/\HStep w h Ft w' (delL di c) l):=by
 obtain⟨bl,F,h1,rfl,h3,h4,h5,h6,h7⟩:=H;refine(bDrop_any h1 di hd).mono ?_;rintro e w' ⟨rfl,bl',k1,k2,k3,k4⟩
 have hF:∀k,F k->¬(k=h.bs\/k=h.ms):=fun k hk e=>h4 k (e.elim (fun e=>.inl e) (fun e=>.inr (.inl e))) hk
 refine⟨_,rfl,fun k=>Ft k\/New w w' k,⟨bl',F,k1,k2,(h3.keep k3 hF (fun k hk=>by simp[emptyW]at hk)).bare,fun k hk hf=>?_,fun k hk=>(k4 k hk).imp (h5 k) id,fun k hk=>.inl (h6 k hk),fun k hk=>hk.elim (fun hk=>Nat.lt_of_lt_of_le (h7 k hk) k3.size) (fun hk=>hk.2)⟩,k3.mono (fun k _ e=>h5 k (e.elim (fun e=>.inl e) (fun e=>.inr (.inl e)))),fun k hk=>hk⟩
 rcases k4 k hk with hk|hk
 ·exact h4 k hk hf
 ·have:=h3.lt k hf
  have:=hk.1;omega
theorem HsAt.size(H:HsAt w h c l Ft)(di:List UInt8)(hd:di.length=32):Calls prog 91 #[.pointer (some ⟨h.bs,0,none⟩),.agg (qA di)] w (SizeR w (getL di c)):=by
 obtain⟨bl,F,h1,rfl,_⟩:=H;exact bSize_any h1 di hd
theorem HsAt.ids(H:HsAt w h c l Ft):Calls prog 38 #[.pointer (some ⟨h.bs,0,none⟩)] w (IDsR w c):=by
 obtain⟨bl,F,h1,rfl,_⟩:=H;exact bIDs_any h1
theorem nameB_none:nameB ⟨#[]⟩=false:=by decide+kernel
theorem HsAt.none(H:HsAt w h c l Ft):Calls prog 123 #[h.q,.string ⟨#[]⟩,.agg (qA (List.replicate 32 0)),.int .i64 0] w (fun e w'=>(∃er:Int,er≠1/\e=.returned (.tuple #[.bool false,.int .i64 er]))/\HStep w h Ft w' c l):=by
 obtain⟨bl,F,h1,rfl,h3,h4,h5,h6,h7⟩:=H;refine(link_at h3 (⟨#[]⟩,List.replicate 32 0) (by simp[KeyOk]) (Nat.zero_le _) 0).mono ?_
 have ha:(addE true h.limit l (⟨#[]⟩,List.replicate 32 0) 0).1=false/\(addE true h.limit l (⟨#[]⟩,List.replicate 32 0) 0).2≠1:=by
  unfold addE;rw[nameB_none]
  simp
 rintro e w' ⟨rfl,F',k1,k2,k3⟩;rw[addL,ha.1]at k1
 refine⟨⟨_,ha.2,by rw[ha.1]⟩,fun k=>Ft k\/New w w' k,⟨bl,F',h1.keep k2 (fun k hk hf=>h4 k hk hf),rfl,k1.bare,fun k hk hf=>?_,fun k hk=>.inl (h5 k hk),fun k hk=>(k3 k hk).imp (h6 k) id,fun k hk=>hk.elim (fun hk=>Nat.lt_of_lt_of_le (h7 k hk) k2.size) (fun hk=>hk.2)⟩,k2.mono (fun k _ e=>h6 k e),fun k hk=>hk⟩
 rcases k3 k hf with hf|hf
 ·exact h4 k hk hf
 ·have:=h1.lt k hk
  have:=hf.1;omega
end
abbrev SwS:=BlobL×LinkL×Nat×Nat
theorem built_id0:prog.built 24 []=some (qA (List.replicate 32 0)):=by kernel_rfl
section
variable{w:World}{h:House}{c:BlobL}{l:LinkL}{Ft:Nat->Prop}
end
end
section
open Go.RowKit Go.Proofs.Tryz Go.Lib
structure Evt where
 r:Int
 n:Int
 deps:List Int
 kind:Int
 repo:ByteArray
 tag:ByteArray
 id:List UInt8
 refs:List (List UInt8)
 deriving DecidableEq
def evCells(e:Evt)(dv rv:Value):Array Value:=
 #[.int .i64 e.r,.int .i64 e.n,dv,.int .i64 e.kind,.string e.repo,.string e.tag]++qA e.id++#[rv]
def EvR(own:Bool)(w:World)(G:Nat->Prop)(cs:Array Value)(e:Evt):Prop:=
 ∃dv rv,cs=evCells e dv rv/\e.id.length=32/\Sl own w G 1 IntC dv e.deps/\Sl own w G 32 IdC rv e.refs/\e.repo.size<=maxLen/\e.tag.size<=maxLen
structure EvCells(cs:Array Value)(e:Evt)(dv rv:Value):Prop where
 size:cs.size=39
 c0:cs[0]?=some (.int .i64 e.r)
 c1:cs[1]?=some (.int .i64 e.n)
 c2:cs[2]?=some dv
 c3:cs[3]?=some (.int .i64 e.kind)
 c4:cs[4]?=some (.string e.repo)
 c5:cs[5]?=some (.string e.tag)
 c38:cs[38]?=some rv
 dot:cs.extract 0 2=#[.int .i64 e.r,.int .i64 e.n]
 id:cs.extract 6 38=qA e.id
theorem evCells_spec(e:Evt)(dv rv:Value)(h:e.id.length=32):EvCells (evCells e dv rv) e dv rv:=by
 have hi:(qA e.id).size=32:=by rw[qE,h]
 have hl:(e.id.map byteV).length=32:=by simpa using h
 refine⟨by simp[evCells,hi],?_,?_,?_,?_,?_,?_,?_,?_,?_⟩
 all_goals try (simp[evCells,qA,h];done)
 ·apply Array.toList_inj.1
  simp only[evCells,qA,Array.toList_extract,Array.toList_append,List.extract_eq_take_drop]
  simp[hl]
theorem evCells_one{e:Evt}{dv rv:Value}(h1:dv.oneCell'=true)(h2:rv.oneCell'=true):∀c∈evCells e dv rv,c.oneCell'=true:=by
 intro c hc;simp only[evCells,Array.mem_append]at hc
 rcases hc with(hc|hc)|hc
 ·simp at hc
  rcases hc with rfl|rfl|rfl|rfl|rfl|rfl<;>first|rfl|exact h1
 ·exact qZ _ c hc
 ·simp at hc;subst hc;exact h2
theorem EvR.keep{own:Bool}{w w':World}{G S:Nat->Prop}{cs:Array Value}{e:Evt}(h:EvR own w G cs e)(hm:Mod S w w')(hd:∀k,G k->¬S k):EvR own w' G cs e:=by
 obtain⟨dv,rv,hc,hi,h1,h2,h3⟩:=h;exact⟨dv,rv,hc,hi,h1.keep hm hd fun _ _ h=>h,h2.keep hm hd fun _ _ h=>h,h3⟩
theorem EvR.mono{own:Bool}{w:World}{G G':Nat->Prop}{cs:Array Value}{e:Evt}(h:EvR own w G cs e)(hg:∀k,G k->G' k):EvR own w G' cs e:=by
 obtain⟨dv,rv,hc,hi,h1,h2,h3⟩:=h;exact⟨dv,rv,hc,hi,h1.mono hg fun _ _ h=>h,h2.mono hg fun _ _ h=>h,h3⟩
theorem EvR.keep0{own:Bool}{w w':World}{G:Nat->Prop}{cs:Array Value}{e:Evt}(h:EvR own w G cs e)(hm:Mod NoB w w'):EvR own w' G cs e:=h.keep hm (fun _ _=>id)
theorem EvR.weak{own:Bool}{w:World}{G:Nat->Prop}{cs:Array Value}{e:Evt}(h:EvR own w G cs e):EvR false w G cs e:=by
 obtain⟨dv,rv,hc,hi,h1,h2,h3⟩:=h;exact⟨dv,rv,hc,hi,h1.weak,h2.weak,h3⟩
theorem SlEv.keep0{own own':Bool}{w w':World}{E G:Nat->Prop}{v:Value}{l:List Evt}(h:Sl own w E 39 (EvR own' w G) v l)(hm:Mod NoB w w'):Sl own w' E 39 (EvR own' w' G) v l:=h.keep hm (fun _ _=>id) (fun _ _ h=>h.keep0 hm)
end
section
open Go.RowKit Go.Shelf Go.Proofs.Tryz Go.Lib
def allDescs(c:BlobM):List (List UInt8):=c.flatMap fun p=>((decL p.2).map xC).getD [] |>.map (·.id)
theorem allDescs_len(c:BlobM):(allDescs c).length<=33*c.length:=by
 induction c with
 |nil=>simp[allDescs]
 |cons p c ih=>
  have h:(((decL p.2).map xC).getD []).length<=33:=by
   cases hd:decL p.2 with
   |none=>simp
   |some m=>
    have:=decL_len hd;simp only[Option.map_some,Option.getD_some,xC,List.length_append]
    split<;>simp<;>omega
  simp only[allDescs,List.flatMap_cons,List.length_append,List.length_map,List.length_cons]at ih |-;omega
theorem descsOf_mem{c:BlobM}{id:List UInt8}{ds:List DescL}(h:yY c id=some ds):∀d∈ds,d.id∈allDescs c:=by
 intro d hd;unfold yY at h
 cases hg:getL id c with
 |none=>rw[hg]at h;cases h
 |some b=>
  rw[hg]at h;refine List.mem_flatMap.2 ⟨(id,b),getL_mem hg,List.mem_map.2 ⟨d,?_,rfl⟩⟩;have h':(decL b).map xC=some ds:=h
  show d∈((decL b).map xC).getD []
  rw[h'];exact hd
theorem inR_mem{c:BlobM}:∀{f:Nat}{id:List UInt8}{depth:Nat}{x:List UInt8},inR c f id depth x->x=id\/x∈allDescs c
 |0,_,_,_,h=>h.elim
 |f+1,id,depth,x,h=>by
  rcases h with rfl|⟨_,ds,hds,d,hd,hx⟩
  ·exact .inl rfl
  ·right
   have hm:=descsOf_mem hds d hd
   split at hx
   ·rcases inR_mem hx with rfl|hx
    ·exact hm
    ·exact hx
   ·rw[hx];exact hm
theorem marks_len(c:BlobM)(roots:List (List UInt8))(h:((xR c roots).map (·.1)).Nodup):(xR c roots).length<=roots.length+33*c.length:=by
 have h1:=yJ (l:=(xR c roots).map (·.1)) (m:=roots++allDescs c) h (fun x hx=>by
  have hs:(getL x (xR c roots)).isSome=true:=by
   cases hg:getL x (xR c roots)with
   |none=>exact absurd hx (getL_none.1 hg)
   |some k=>rfl
  obtain⟨r,hr,hi⟩:=(marks_keys c roots x).1 hs
  rcases inR_mem hi with rfl|hm
  ·exact List.mem_append_left _ hr
  ·exact List.mem_append_right _ hm)
 have h2:=allDescs_len c;simp only[List.length_map,List.length_append]at h1;omega
theorem marks_of{c:BlobM}{roots ids:List (List UInt8)}(hs:ids.Pairwise (fun a b=>a<b))(hp:ids.Perm ((xR c roots).map (·.1))):MarkOf c roots ids:=by
 refine⟨hs,fun x=>?_⟩;rw[hp.mem_iff,<-marks_keys c roots x]
 cases hg:getL x (xR c roots)with
 |none=>simp[getL_none.1 hg]
 |some k=>
  simp only[Option.isSome_some,iff_true];exact List.mem_map.2 ⟨_,getL_mem hg,rfl⟩
def MarkR(w:World)(c:BlobM)(roots:List (List UInt8)):Ending->World->Prop:=fun e w'=>Mod NoB w w'/\∃v ids,e=.returned v/\GatI w.heap.size w' v ids/\MarkOf c roots ids/\∀x∈ids,x.length=32
def MarkRel(w0:World)(mb:Nat)(c:BlobM)(roots:List (List UInt8))(i:Value)(w:World):Prop:=∃k:Nat,k<=roots.length/\i=.int .i64 k/\MarksAt w mb (xR c (roots.take k))/\Mod NoB w0 w
theorem marksL_succ(c:BlobM)(roots:List (List UInt8))(k:Nat)(hk:k<roots.length):xR c (roots.take (k+1))=xX c 5 roots[k] 1 (xR c (roots.take k)):=by
 unfold xR;rw[List.take_succ_eq_append_getElem hk,List.foldl_append]
 rfl
section
variable{w:World}{bs ms wd:Nat}{room:Int}{bl:List Blb}
theorem clMark_any(h:StInv w bs ms wd room bl){own:Bool}{G:Nat->Prop}{v:Value}{roots:List (List UInt8)}(hv:Sl own w G 32 IdC v roots)(hn:roots.length<=10000)(hc:(cont bl).length<=1000):Calls prog 22 #[.pointer (some ⟨bs,0,none⟩),v] w (MarkR w (cont bl) roots):=by
 have hmm:= @run_makeMap prog;have H:=hid h;have HV:=hid hv;obtain⟨ad,cap,rfl,-,hat⟩:=Sl.at hv;have HAT:=hid hat;clear h hv hat;go_enter func22,ntmps22
 go_upto_region 1 with(fail);refine wpR [1,3] (by rfl) (by rfl) ?_;simp only[stz];refine qT rfl (fun K hK=>?_);unfold Oper.wp execOp
 simp only[Array.map_empty,Option.map_none,Sem.run_bind,hmm,Result.andThen_ok,Sem.run_pure];have hB:=heap_alloc_new w (.map #[] 0);have hM:=zT w (.map #[] 0)
 have hs:w.heap.size<(w.alloc (.map #[] 0)).heap.size:=by simp
 generalize w.alloc (.map #[] 0)=w1 at hB hM hs |-;refine hK _ _ trivial ?_;clear hK K;simp only[stz];have hMA:MarksAt w1 w.heap.size (xR (cont bl) []):=MapIs.made hB
 have HR0:Hid (MarkRel w w.heap.size (cont bl) roots (.int .i64 (0:Nat)) w1):=hid ⟨0,Nat.zero_le _,rfl,by rw[List.take_zero];exact hMA,hM⟩
 generalize hmb:w.heap.size=mb at*;have hns:¬SFoot bs ms bl mb:=fun e=>by have:=H.out.lt mb e;omega
 clear hmm hB hM hMA;go_wp2
 go_loopw [11] (MarkRel w mb (cont bl) roots) (fun i _=>roots.length-(intOf i).toNat)
 case atStart=>exact HR0.out
 case round=>
  rename World=>wr
  obtain⟨k,hk,rfl,hMr,hm⟩:=hrel;have HMR:=hid hMr
  by_cases hlt:k<roots.length
  ·have hz:(k:Int)<(roots.length:Nat):=by omega
   obtain⟨b,off,rfl,-,-,hcc⟩:=HAT.out k hlt;obtain⟨cs,-,⟨rfl,hx32⟩,hcA⟩:=hcc k hlt;have hms:=marksL_succ (cont bl) roots k hlt;generalize roots[k]=x at*
   have hic:(qA x).size=32:=by rw[qE,hx32]
   have hcr:=hcA.keep hm id;have Hr:=hid (H.out.keep0 hm);have HMS:=hid hms;clear hms hcc hcA hMr;go_upto_region 4 with(fail);refine wpR [3,1,1,1] (by rfl) (by rfl) ?_
   simp only[stz];refine qV _ _ _ _ _ _ _ _ _ rfl rfl rfl rfl underlying25 (n:=32) (by kernel_rfl) hlt ?_;simp only[nmz]
   refine wpXA 24 b (off+k*32) (qA x) hcr underlying24 32 hic trivial ?_;try simp only[nmz]
   refine wpDo rfl ?_;refine qU 24 _ (by rfl) idZ (fun w2 hB2 hm2 hs2=>?_)
   replace hB2:w2.heap[wr.heap.size]?=some (.cells (qA (List.replicate 32 0)) 24 (0,0)):=hB2;try simp only[nmz]
   refine wpDo rfl ?_
   refine qM 24 _ _ wr.heap.size 0 (qA x) (by rfl) (by rfl) (by rfl) (qZ _) 32 (by kernel_rfl) hic _ _ hB2 (by rw[hic,qE];simp) (fun w3 hB3 hm3=>?_)
   rw[qI (by rw[hic,qE];simp)]at hB3;simp only[stz];have hmr3:Mod NoB wr w3:=hm2.transB hm3 (Nat.le_refl _);have hm03:=hm.trans0 hmr3
   have H3:=hid (Hr.out.keep0 hmr3);have HM3:=hid (HMR.out.keep0 hmr3);have hrec:=clReach_any hns 5 x 1 _ _ hx32 (by omega) (by omega) (by omega) H3.out HM3.out
   have hno:=clNone_any H3.out;generalize hb7:wr.heap.size=b7 at*;clear hm hm2 hm3 hmr3 hB2 hcr hs2
   go_upto_region 7 with(go_at_call 86;refine hno.mono ?_;rintro _ w4 ⟨rfl,hw⟩;obtain rfl:=hw.symm);refine wpR [3,1,3,1] (by rfl) (by rfl) ?_;simp only[stz]
   refine wpXA 24 b7 0 (qA x) (CellsAt.whole hB3) underlying24 32 hic trivial ?_;simp only[stz];refine wpDo rfl ?_
   refine qD (qF 87 [.tmp 20,.tmp 21,.const (.int .i64 1),.tmp 22] _ rfl _ func87 rfl (by kernel_rfl) [.pointer (some ⟨bs,0,none⟩),.agg (qA x),.int .i64 ((1:Nat):Int),.map (some mb)] rfl _) (hrec) ?_
   rintro e w5 ⟨rfl,hM5,hm5⟩
   have HR:Hid (MarkRel w mb (cont bl) roots (.int .i64 ((k+1:Nat):Int)) w5):=hid ⟨k+1,by omega,rfl,by rw[HMS.out];exact hM5,hm03.transB hm5 (by omega)⟩
   refine⟨_,rfl,?_⟩;simp only[stz];clear hB3 hM5 hm5 hm03 hrec hno;go_wp2
   go_roundw
   case rel=>exact HR.out
   case measure=>simp[intOf];omega
  ·have hz:¬(k:Int)<(roots.length:Nat):=by omega
   obtain rfl:k=roots.length:=by omega
   have hMf:=HMR.out;rw[List.take_length]at hMf
   have hnd:((xR (cont bl) roots).map (·.1)).Nodup:=by
    have:=hMf.nd
    simpa[marksV,List.map_map,Function.comp_def]using this
   have hln:=marks_len (cont bl) roots hnd;have hris:=clRising_any hMf (by unfold marksV;rw[List.length_map];omega)
   have hkm:(marksV (xR (cont bl) roots)).map (·.1)=(xR (cont bl) roots).map (·.1):=by simp[marksV,List.map_map,Function.comp_def]
   rw[hkm]at hris;clear hMr hMf hkm hnd hln;go_upto_region 9 with(fail);refine wpR [3,1,3] (by rfl) (by rfl) ?_;simp only[stz];refine wpDo rfl ?_
   refine qD (qF 84 [.tmp 25] _ rfl _ func84 rfl (by kernel_rfl) [.map (some mb)] rfl _) (hris) ?_;rintro e w6 ⟨hm6,v6,ids,he6,hg6,hs6,hp6,hl6⟩;subst he6
   have HF:Hid (MarkR w (cont bl) roots (.returned v6) w6):=hid ⟨hm.trans0 hm6,v6,ids,rfl,hg6.base (by have:=hm.size;omega),marks_of hs6 hp6,hl6⟩;refine⟨_,rfl,?_⟩
   simp only[stz];clear hm hm6 hg6 hs6 hp6 hl6;go_wp2;go_ret;exact HF.out
end
def refsL(l:List Evt):List (List UInt8):=l.flatMap (·.refs)
theorem Sl.memR{α:Type}{own:Bool}{w:World}{G:Nat->Prop}{sz:Nat}{R R':Array Value->α->Prop}{v:Value}{l:List α}(h:Sl own w G sz R v l)(hR:∀cs x,x∈l->R cs x->R' cs x):Sl own w G sz R' v l:=by
 obtain⟨a,cap,hv,hl,hc,h⟩:=h;refine⟨a,cap,hv,hl,hc,fun hne=>?_⟩;obtain⟨b,off,ha,hG,ho,hi⟩:=h hne;refine⟨b,off,ha,hG,ho,fun i hlt=>?_⟩
 obtain⟨cs,h1,h2,h3⟩:=hi i hlt;exact⟨cs,h1,hR _ _ (List.getElem_mem hlt) h2,h3⟩
theorem slI{base:Nat}{w:World}{v:Value}{ids:List (List UInt8)}(h:GatI base w v ids)(h32:∀x∈ids,x.length=32):Sl true w (fun q=>base<=q/\q<w.heap.size/\v.ownBlock=some q) 32 IdC v ids:=
 Sl.memR (h.sl idE_len) fun cs x hx hcs=>⟨by rw[hcs,idE_eq (h32 x hx)],h32 x hx⟩
def MarkedOf(c:BlobM)(roots:List (List UInt8))(l:List Evt)(out:List (List UInt8)):Prop:=out.Pairwise (fun a b=>a<b)/\∀x,x∈out↔(∃r∈roots,inR c 5 r 1 x)\/x∈refsL l
theorem lt_nodup{l:List (List UInt8)}(h:l.Pairwise (fun a b=>a<b)):l.Nodup:=h.imp fun{a b} hab e=>by rw[e]at hab;exact List.lt_irrefl _ hab
def cutTo(n k:Nat)(x:List UInt8):List UInt8:=x.take n++List.replicate (k-n) 0++x.drop k
theorem cutTo_len{n k:Nat}{x:List UInt8}(hx:x.length=32)(hn:n<=k)(hk:k<=32):(cutTo n k x).length=32:=by simp[cutTo,hx];omega
theorem cutTo_start{n:Nat}{x:List UInt8}:cutTo n n x=x:=by simp[cutTo]
theorem cutTo_end{n:Nat}{x:List UInt8}(hx:x.length=32):cutTo n 32 x=cutI n x:=by
 unfold cutTo cutI;rw[List.drop_of_length_le (by omega),List.append_nil]
theorem cutTo_step{n k:Nat}{x:List UInt8}(hx:x.length=32)(hn:n<=k)(hk:k<32):(qA (cutTo n k x)).setIfInBounds k (byteV 0)=qA (cutTo n (k+1) x):=by
 apply Array.toList_inj.1
 have h1:(x.take n).length=n:=by simp[hx];omega
 have e:List.replicate (k+1-n) (0:UInt8)=List.replicate (k-n) 0++[0]:=by rw[show k+1-n=(k-n)+1 by omega,List.replicate_succ']
 have d:x.drop k=x[k]'(by omega)::x.drop (k+1):=List.drop_eq_getElem_cons (by omega);simp only[qA,cutTo,Array.toList_setIfInBounds];rw[e,d]
 have hl:((x.take n++List.replicate (k-n) 0).map byteV).length=k:=by simp[hx];omega
 rw[List.map_append,List.set_append_right _ _ (by rw[hl];exact Nat.le_refl _),hl,Nat.sub_self]
 simp
 rw[<-List.map_drop,d,<-List.map_drop]
 rfl
def CutRel(n:Nat)(x:List UInt8)(b:Nat)(w0:World)(i:Value)(w:World):Prop:=∃k:Nat,n<=k/\k<=32/\i=.int .i64 k/\w.heap[b]?=some (.cells (qA (cutTo n k x)) 24 (0,0))/\Mod (fun q=>q=b) w0 w
theorem refCut_any(x:List UInt8)(hx:x.length=32)(n:Nat)(h1:1<=n)(h2:n<=32)(w:World):Calls prog 151 #[.agg (qA x),.int .i64 n] w (CutR2 w n x):=by
 have hrs:(qA (cutI n x)).size=32:=by rw[qE,cutI_len hx h2]
 have HE:=hid (cutTo_end (n:=n) hx);go_enter func151,ntmps151;go_upto_region 0 with(fail);refine wpR [1,1,3] (by rfl) (by rfl) ?_;simp only[stz];refine wpDo rfl ?_
 refine xA 24 _ _ (by rfl) (by rfl) (fun w1 hB1 hm1 hs1=>?_);replace hB1:w1.heap[w.heap.size]?=some (.cells (qA x) 24 (0,0)):=hB1;try simp only[nmz]
 refine wpDo rfl ?_;refine qU 24 _ (by rfl) idZ (fun w2 hB2 hm2 hs2=>?_)
 replace hB2:w2.heap[w1.heap.size]?=some (.cells (qA (List.replicate 32 0)) 24 (0,0)):=hB2;simp only[stz];replace hB1:=hm2.obj id hB1;have hM2:=hm1.trans0 hm2
 have hne:w.heap.size≠w1.heap.size:=by omega
 have hs1':w.heap.size<=w1.heap.size:=hm1.size;generalize hb1:w.heap.size=b1 at*;generalize hb2:w1.heap.size=b2 at*;clear hm1 hm2;go_wp2
 go_loopw [6] (CutRel n x b1 w2) (fun i _=>32-(intOf i).toNat)
 case atStart=>exact⟨n,Nat.le_refl _,h2,rfl,by rw[cutTo_start];exact hB1,Mod.refl _ _⟩
 case round=>
  rename World=>wr
  obtain⟨k,hnk,hk,rfl,hrow,hm⟩:=hrel
  by_cases hlt:k<32
  ·have hz:(k:Int)<32:=by omega
   have hst:=cutTo_step hx hnk hlt;have hsz:(qA (cutTo n k x)).size=32:=by rw[qE,cutTo_len hx hnk hk]
   go_upto_region 6 with(fail);refine wpR [3,3,1] (by rfl) (by rfl) ?_;simp only[stz]
   refine qO _ _ _ _ _ _ _ _ rfl rfl rfl rfl underlying24 (n:=1) (by kernel_rfl) hlt ?_;simp only[nmz];refine wpDo rfl ?_
   refine zA 5 _ _ b1 (k*1) (byteV 0) (by rfl) (by rfl) (by rfl) rfl (by kernel_rfl) _ _ hrow (by rw[hsz];omega) (fun w3 hB3 hm3=>?_);rw[Nat.mul_one,hst]at hB3
   have hM3:Mod (fun q=>q=b1) w2 w3:=hm.trans hm3 (fun _ _ h=>h);simp only[stz];clear hm hm3 hrow hst hsz;go_wp2
   go_roundw
   case rel=>exact⟨k+1,by omega,by omega,by go_num,hB3,hM3⟩
   case measure=>simp[intOf];omega
  ·have hz:¬(k:Int)<32:=by omega
   obtain rfl:k=32:=by omega
   rw[HE.out]at hrow;have hB23:=hm.objB (fun e=>hne e.symm) hB2;have hM3:Mod NoB w wr:=hM2.transB hm (by omega);clear hm hM2 hB2;go_upto_region 7 with(fail)
   refine wpR [1,1,3] (by rfl) (by rfl) ?_;simp only[stz];refine wpXA 24 b1 0 (qA (cutI n x)) (CellsAt.whole hrow) underlying24 32 hrs trivial ?_;try simp only[nmz]
   refine wpDo rfl ?_
   refine qM 24 _ _ b2 0 (qA (cutI n x)) (by rfl) (by rfl) (by rfl) (qZ _) 32 (by kernel_rfl) hrs _ _ hB23 (by rw[hrs,qE];simp) (fun w4 hB4 hm4=>?_)
   rw[qI (by rw[hrs,qE];rfl)]at hB4;simp only[stz];have hM4:Mod NoB w w4:=hM3.transB hm4 (by omega);clear hm4 hM3;go_wp2
   refine bodyPost_ret (xF (P:=prog) (ty:=24) rfl _ _ b2 _ _ _ _ (by rfl) hB4 underlying24 rfl (by rw[hrs];kernel_rfl)) rfl ?_;exact⟨rfl,hM4⟩
theorem refOf_any{own:Bool}{G:Nat->Prop}{v:Value}{m:List UInt8}{w:World}(h:Sl own w G 1 ByteC v m)(hl:m.length<=1000000)(n:Nat)(h1:1<=n)(h2:n<=32):Calls prog 79 #[v,.int .i64 n] w (OfR w n m):=by
 have H:=hid h;obtain⟨ad,cap,rfl,-,-⟩:=Sl.at h;have hsl:(shaL m).length=32:=shaL_len _;have hrs:(qA (ofI n m)).size=32:=by rw[qE,ofI_len h2]
 have HC:=hid (show cutI n (shaL m)=ofI n m from rfl);clear h;go_enter func79,ntmps79;go_upto_region 0 with(fail);refine wpR [1,3] (by rfl) (by rfl) ?_;simp only[stz]
 refine wpDo rfl ?_;refine qU 24 _ (by rfl) idZ (fun w1 hB1 hm1 hs1=>?_);replace hB1:w1.heap[w.heap.size]?=some (.cells (qA (List.replicate 32 0)) 24 (0,0)):=hB1
 simp only[stz];go_upto_region 1 with(fail);refine wpR [3,1,3,1,3,3,1,3] (by rfl) (by rfl) ?_;simp only[stz];refine wpDo rfl ?_
 refine qD (qF 152 [.tmp 6] _ rfl _ func152 rfl (by kernel_rfl) [.slice ad m.length cap] rfl _) (refSum_any (H.out.keep0 hm1) (by omega)) ?_;rintro e w2 ⟨rfl,hm2⟩
 refine⟨_,rfl,?_⟩;simp only[stz];refine wpDo rfl ?_
 refine qD (qF 151 [.tmp 7,.tmp 8] _ rfl _ func151 rfl (by kernel_rfl) [.agg (qA (shaL m)),.int .i64 n] rfl _) (refCut_any (shaL m) hsl n h1 h2 _) ?_
 rintro e w3 ⟨rfl,hm3⟩;rw[HC.out];have hB3:=(hm2.trans0 hm3).obj id hB1;refine⟨_,rfl,?_⟩;try simp only[nmz]
 refine qG (v:=?_) rfl (fun w'=>?_) ?_;rotate_left;·(go_simp;try with_reducible rfl)
 simp only[nmz];refine qG (v:=?_) rfl (fun w'=>?_) ?_;rotate_left;·(go_simp;try with_reducible rfl)
 simp only[nmz];refine wpDo rfl ?_
 refine qM 24 _ _ w.heap.size 0 (qA (ofI n m)) (by rfl) (by rfl) (by rfl) (qZ _) 32 (by kernel_rfl) hrs _ _ hB3 (by rw[hrs,qE];simp) (fun w4 hB4 hm4=>?_)
 rw[qI (by rw[hrs,qE];rfl)]at hB4;simp only[stz];have hM4:Mod NoB w w4:=((hm1.trans0 hm2).trans0 hm3).transB hm4 (Nat.le_refl _);clear hm1 hm2 hm3 hm4
 go_wp2;refine bodyPost_ret (xF (P:=prog) (ty:=24) rfl _ _ w.heap.size _ _ _ _ (by rfl) hB4 underlying24 rfl (by rw[hrs];kernel_rfl)) rfl ?_;exact⟨rfl,hM4⟩
def pickZ(x n:Int):Int:=if n<=0 then 0 else x%n
theorem pickZ_lt(x n:Int)(h:0<n):0<=pickZ x n/\pickZ x n<n:=by
 unfold pickZ;rw[if_neg (by omega)];exact⟨Int.emod_nonneg _ (by omega),Int.emod_lt_of_pos _ h⟩
theorem tmod_up(x n:Int)(h:0<n):(if x.tmod n<0 then x.tmod n+n else x.tmod n)=x%n:=by
 have h1:=Int.tmod_lt_of_pos x h;have h2:=Int.lt_tmod_of_pos x h;have h3:x.tmod n=x-n*x.tdiv n:=by have:=Int.mul_tdiv_add_tmod x n;omega
 split
 ·rw[h3,<-Int.emod_eq_of_lt (a:=x-n*x.tdiv n+n) (b:=n) (by omega) (by omega)]
  rw[show x-n*x.tdiv n+n=x+n*(1-x.tdiv n) by rw[Int.mul_sub];omega];rw[Int.add_mul_emod_self_left]
 ·rw[<-Int.emod_eq_of_lt (a:=x.tmod n) (b:=n) (by omega) (by omega),h3]
  rw[show x-n*x.tdiv n=x+n*(-x.tdiv n) by rw[Int.mul_neg];omega];rw[Int.add_mul_emod_self_left]
abbrev I64(x:Int):Prop:=-9223372036854775808<=x/\x<=9223372036854775807
theorem pick_any(x n:Int)(hx:I64 x)(hn:n<=1000000)(w:World):Calls prog 17 #[.int .i64 x,.int .i64 n] w (RetE (.int .i64 (pickZ x n)) w):=by
 obtain⟨hx1,hx2⟩:=hx
 by_cases h0:n<=0
 ·rw[show pickZ x n=0 by simp[pickZ,h0]]
  go_enter func17,ntmps17;go_wp2;go_ret;exact⟨rfl,rfl⟩
 ·have hp:=tmod_up x n (by omega)
  have h1:=Int.tmod_lt_of_pos x (show 0<n by omega);have h2:=Int.lt_tmod_of_pos x (show 0<n by omega);rw[show pickZ x n=x%n by simp[pickZ,h0]];rw[<-hp];clear hp
  go_enter func17,ntmps17;go_wp2
  all_goals
   go_ret;exact⟨rfl,rfl⟩
section
variable{w w':World}{h:House}{c c':BlobL}{l l':LinkL}{Ft:Nat->Prop}
theorem HsAt.put(H:HsAt w h c l Ft){own:Bool}{G:Nat->Prop}{v:Value}{m:List UInt8}(hv:Sl own w G 1 ByteC v m)(hm:m.length<=4096)(hroom:h.room=67108864)(hfew:c.length<10000):
 Calls prog 37 #[.pointer (some ⟨h.bs,0,Option.none⟩),.agg (qA (ofI h.wd m)),v] w (fun e w'=>(∃v,e=.returned v)/\HStep w h Ft w' (putB (ofI h.wd m) m c) l):=by
 obtain⟨bl,F,h1,rfl,h3,h4,h5,h6,h7⟩:=H;have hu:=h1.used;refine(bPut_any h1 hv hm (by omega) (by simpa[cont]using hfew)).mono ?_
 rintro e w' ⟨⟨ok,er,rfl⟩,bl',k1,k2,k3,k4⟩;have hF:∀k,F k->¬(k=h.bs\/k=h.ms):=fun k hk e=>h4 k (e.elim (fun e=>.inl e) (fun e=>.inr (.inl e))) hk
 refine⟨⟨_,rfl⟩,fun k=>Ft k\/New w w' k,⟨bl',F,k1,k2,(h3.keep k3 hF (fun k hk=>by simp[emptyW]at hk)).bare,fun k hk hf=>?_,fun k hk=>(k4 k hk).imp (h5 k) id,fun k hk=>.inl (h6 k hk),fun k hk=>hk.elim (fun hk=>Nat.lt_of_lt_of_le (h7 k hk) k3.size) (fun hk=>hk.2)⟩,k3.mono (fun k _ e=>h5 k (e.elim (fun e=>.inl e) (fun e=>.inr (.inl e)))),fun k hk=>hk⟩
 rcases k4 k hk with hk|hk
 ·exact h4 k hk hf
 ·have:=h3.lt k hf
  have:=hk.1;omega
theorem HsAt.lay(H:HsAt w h c l Ft)(k:Key)(hk:KeyOk k)(hsz:k.1.size<=maxLen)(size:Int):
 Calls prog 110 #[h.q,.string k.1,.agg (qA k.2),.int .i64 size] w (fun e w'=>(∃v,e=.returned v)/\HStep w h Ft w' c (addL false h.limit l k size)):=by
 obtain⟨bl,F,h1,rfl,h3,h4,h5,h6,h7⟩:=H;refine(lay_at h3 k hk hsz size).mono ?_;rintro e w' ⟨rfl,F',k1,k2,k3⟩
 refine⟨⟨_,rfl⟩,fun k=>Ft k\/New w w' k,⟨bl,F',h1.keep k2 (fun k hk hf=>h4 k hk hf),rfl,k1.bare,fun k hk hf=>?_,fun k hk=>.inl (h5 k hk),fun k hk=>(k3 k hk).imp (h6 k) id,fun k hk=>hk.elim (fun hk=>Nat.lt_of_lt_of_le (h7 k hk) k2.size) (fun hk=>hk.2)⟩,k2.mono (fun k _ e=>h6 k e),fun k hk=>hk⟩
 rcases k3 k hf with hf|hf
 ·exact h4 k hk hf
 ·have:=h1.lt k hk
  have:=hf.1;omega
theorem putB_len(di m:List UInt8)(c:BlobL):(putB di m c).length<=c.length+1:=by
 unfold putB
 split<;>simp
end
def BtsC(w:World)(cs:Array Value)(b:List UInt8):Prop:=∃v,cs=#[v]/\Sl false w AnyB 1 ByteC v b
theorem BtsC.keep0{w w':World}{cs:Array Value}{b:List UInt8}(h:BtsC w cs b)(hm:Mod NoB w w'):BtsC w' cs b:=by
 obtain⟨v,h1,h2⟩:=h;exact⟨v,h1,h2.keep0 hm⟩
abbrev LsAt(w:World)(v:Value)(L:List (List UInt8)):Prop:=Sl false w AnyB 1 (BtsC w) v L
theorem lsAt_keep0{w w':World}{v:Value}{L:List (List UInt8)}(h:LsAt w v L)(hm:Mod NoB w w'):LsAt w' v L:=h.keep hm (fun _ _=>id) (fun _ _ h=>h.keep0 hm)
def cOf(wd:Nat)(L:List (List UInt8)):BlobL:=L.foldl (fun c b=>putB (ofI wd b) b c) []
theorem cOf_snoc(wd:Nat)(L:List (List UInt8))(k:Nat)(hk:k<L.length):cOf wd (L.take (k+1))=putB (ofI wd L[k]) L[k] (cOf wd (L.take k)):=by
 unfold cOf;rw[List.take_succ_eq_append_getElem hk,List.foldl_append]
 rfl
theorem cOf_len(wd:Nat):∀(L:List (List UInt8))(c:BlobL),(L.foldl (fun c b=>putB (ofI wd b) b c) c).length<=c.length+L.length
 | [],c=>by simp
 |b::L,c=>by
  have h1:=cOf_len wd L (putB (ofI wd b) b c);have h2:=putB_len (ofI wd b) b c;simp only[List.foldl_cons,List.length_cons];omega
def HsNew(w0 w:World)(h:House)(c:BlobL)(l:LinkL):Prop:=∃Ft,HsAt w h c l Ft/\(∀k,Ft k->w0.heap.size<=k)/\Mod NoB w0 w
theorem HsNew.step{w0 w w':World}{h:House}{c':BlobL}{l':LinkL}{Ft:Nat->Prop}(hn:∀k,Ft k->w0.heap.size<=k)(hm:Mod NoB w0 w)(hs:HStep w h Ft w' c' l'):HsNew w0 w' h c' l':=by
 obtain⟨F',h1,h2,h3⟩:=hs;exact⟨F',h1,fun k hk=>(h3 k hk).elim (hn k) (fun h=>Nat.le_trans hm.size h.1),hm.trans h2 (fun k hk hf=>by have:=hn k hf;omega)⟩
theorem sl_lt{α:Type}{own:Bool}{w:World}{G:Nat->Prop}{R:Array Value->α->Prop}{b off n cap:Nat}{l:List α}(h:Sl own w G 1 R (.slice (some ⟨b,off,none⟩) n cap) l){i:Nat}(hi:i<l.length):b<w.heap.size:=by
 obtain⟨a,c,e,_,_,h2⟩:=h;injection e with e1 e2 e3;obtain⟨b',off',e4,_,_,hc⟩:=h2 (fun e=>by rw[e]at hi;simp at hi);rw[<-e1]at e4;injection e4 with e4
 injection e4 with e5 e6 e7;obtain⟨cs,hs,_,hcs⟩:=hc i hi;have h0:=hcs 0 (by omega);rw[Array.getElem?_eq_getElem (by omega)]at h0;have:=block_lt_of_cell h0;rw[e5]
 exact this
end
section
open Go.RowKit Go.Proofs.Tryz Go.Lib
theorem sameIDs_any(o o':Bool)(G G':Nat->Prop)(va vb:Value)(la lb:List (List UInt8))(w:World)(ha:Sl o w G 32 IdC va la)(hb:Sl o' w G' 32 IdC vb lb):
 Calls prog 24 #[va,vb] w (RetM (.bool (decide (la=lb))) w):=by
 obtain⟨aa,ca,rfl,hla,ha⟩:=ha.at;obtain⟨ab,cb,rfl,hlb,hb⟩:=hb.at
 by_cases hlen:la.length=lb.length
 ·have e1:((la.length:Int)==(lb.length:Int))=true:=by simp[hlen]
  have H:=hid hlen;have HA:=hid ha;have HB:=hid hb;clear hlen ha hb;go_enter func24,ntmps24;go_wp2
  go_loopw [5,6] (SameRel la lb w) (fun _ i _=>la.length-(intOf i).toNat)
  case atStart=>exact⟨0,by omega,rfl,by rw[pre_zero],Mod.refl _ _⟩
  case round=>
   obtain⟨k,hk,rfl,rfl,hm⟩:=hrel
   rename_i wr
   by_cases hs:pre k la lb=true
   ·by_cases hlt:k<la.length
    ·have hlt':k<lb.length:=by rw[<-H.out];exact hlt
     obtain⟨ba,oa,rfl,-,-,hca⟩:=HA.out k hlt;obtain⟨bb,ob,rfl,-,-,hcb⟩:=HB.out k hlt';obtain⟨_,-,⟨rfl,hc32⟩,hca⟩:=hca k hlt
     obtain⟨_,-,⟨rfl,hd32⟩,hcb⟩:=hcb k hlt';have hps:=hid (pre_succ hlt hlt' hs);clear HA HB;go_wp2_with fail;have hS:=hm.drew
     refine wpRP [(0,3),(1,3),(2,3),(3,0),(4,3),(5,3),(6,3),(7,0),(8,0),(9,3)] [] (fun w'=>Mod NoB w w') hS ?_;simp only[stz]
     refine qV _ _ _ _ _ _ _ _ _ rfl rfl rfl rfl underlying25 (n:=32) (by kernel_rfl) hlt ?_;simp only[nmz]
     refine qW rfl (fun w' hS=>xL _ _ rfl _ _ rfl _ (hca.keep hS id) _ underlying24 rfl 32 (by kernel_rfl) (by rw[qE,hc32])) ?_;simp only[stz]
     refine qV _ _ _ _ _ _ _ _ _ rfl rfl rfl rfl underlying25 (n:=32) (by kernel_rfl) hlt' ?_;simp only[nmz]
     refine qW rfl (fun w' hS=>xL _ _ rfl _ _ rfl _ (hcb.keep hS id) _ underlying24 rfl 32 (by kernel_rfl) (by rw[qE,hd32])) ?_;simp only[nmz]
     refine qW rfl (fun w' hS=>exec_eql_id _ _ _ _ rfl _ _ rfl rfl 32 5 underlying24 underlying5 (by kernel_rfl) (by kernel_rfl) hc32 hd32 _ rfl) ?_;simp only[stz]
     go_wp2
     go_roundw
     case rel=>exact⟨k+1,by omega,by go_num,by rw[hps.out],hS⟩
     case measure=>simp[intOf];omega
    ·go_wp2
     go_ret;exact⟨by rw[<-pre_full H.out (Nat.le_of_not_lt hlt),hs];rfl,hm⟩
   ·have hs':pre k la lb=false:=by simpa using hs
    have hps:=hid (pre_false hs');clear hs;go_wp2;go_ret;exact⟨by rw[hps.out];rfl,hm⟩
 ·have e1:((la.length:Int)==(lb.length:Int))=false:=by simp;omega
  have hps:=hid (decide_eq_false (show ¬la=lb by rintro rfl;exact hlen rfl));clear hlen;go_enter func24,ntmps24;go_wp2;refine wp_loop_once ?_;go_wp2;go_ret
  exact⟨by rw[hps.out];rfl,Mod.refl _ _⟩
end
section
open Go.RowKit Go.Shelf Go.Proofs.Tryz Go.Lib
theorem sl_one{α:Type}{w:World}{b:Nat}{cs:Array Value}{T:TypeId}{R:Array Value->α->Prop}{x:α}(h:w.heap[b]?=some (.cells cs T (0,0)))(hR:R cs x)(n:Nat)(hn:cs.size=n):Sl false w AnyB n R (.slice (some ⟨b,0,none⟩) 1 1) [x]:=by
 refine⟨some ⟨b,0,none⟩,1,rfl,Nat.le_refl _,by unfold maxLen;omega,fun _=>⟨b,0,rfl,trivial,fun e=>(by cases e),fun i hi=>?_⟩⟩
 have h0:i=0:=by simpa using hi
 subst h0;refine⟨cs,hn,hR,?_⟩;rw[Nat.zero_mul];exact CellsAt.whole h
theorem results_row1{P:Program}{fn:Func}{p:Tmp}{ty:TypeId}(h:fn.results=#[.cell p ty])(tmps:Array Value)(w:World)(g:Nat)(t:TypeId)(cs:Array Value)(fr:Nat×Nat)(d:TypeDesc)
 (hp:tmps.getD p undef=.pointer (some ⟨g,0,none⟩))(hg:w.heap[g]?=some (.cells cs t fr))
 (hu:P.underlying ty=some d)(hd:(match d with| .struct _| .array _ _=>true|_=>false)=true)(hi:(P.info? ty).map (·.size)=some cs.size):
 (results fn tmps).run P w=.ok (.agg cs) w:=by
 have hp':tmps[p]?.getD undef=.pointer (some ⟨g,0,none⟩):=by simpa using hp
 simp[results,h,hp',asAddr,run_loadVar_row w g t ty cs fr d hg hu hd hi]
structure Thg where
 d:DescL
 depth:Nat
 first:Bool
deriving DecidableEq
abbrev WErr:=List UInt8×Int
def treeT(t:Thg):Bool:=t.first||yD t.d
def zY(g:DescL->List Thg×Option WErr):List DescL->List Thg×Option WErr
 | []=>([],none)
 |d::ds=>match(g d).2 with
  |some e=>((g d).1,some e)
  |none=>((g d).1++(zY g ds).1,(zY g ds).2)
def walkL(c:BlobM):Nat->Thg->List Thg×Option WErr
 |0,_=>([],none)
 |f+1,t=>match getL t.d.id c with
  |none=>([],some (t.d.id,14))
  |some b=>
   if(t.first||decide (b.length=t.d.size))=false then([],some (t.d.id,17))
   else if treeT t=false then(if(decide (t.d.media=1)||decide (t.d.media=2))=false then([],some (t.d.id,20))else([t],none))
   else if 4<t.depth then([],some (t.d.id,18))
   else match decL b with
    |none=>([],some (t.d.id,5))
    |some m=>
     if(t.first||decide (m.kind=t.d.media))=false then([],some (t.d.id,20))
     else(t::(zY (fun d=>walkL c f ⟨d,t.depth+1,false⟩) (xC m)).1,(zY (fun d=>walkL c f ⟨d,t.depth+1,false⟩) (xC m)).2)
theorem walkDs_at(g:DescL->List Thg×Option WErr):∀(ds:List DescL)(k:Nat)(hk:k<ds.length),(∀j (hj:j<ds.length),j<k->(g ds[j]).2=none)->∃rest,(zY g ds).1=(ds.take k).flatMap (fun d=>(g d).1)++((g ds[k]).1++rest)
 | [],k,hk,_=>by simp at hk
 |d::ds,0,_,_=>by
  simp only[List.take_zero,List.flatMap_nil,List.nil_append,List.getElem_cons_zero,zY]
  split
  ·exact⟨[],by simp⟩
  ·exact⟨_,rfl⟩
 |d::ds,k+1,hk,h=>by
  have h0:(g d).2=none:=h 0 (by simp) (by omega);obtain⟨rest,hr⟩:=walkDs_at g ds k (by simpa using hk) (fun j hj hl=>h (j+1) (by simpa using hj) (by omega))
  refine⟨rest,?_⟩;rw[zY,h0];simp only[List.take_succ_cons,List.flatMap_cons,List.getElem_cons_succ,List.append_assoc,hr]
theorem walkDs_stop(g:DescL->List Thg×Option WErr)(e:WErr):∀(ds:List DescL)(k:Nat)(hk:k<ds.length),(∀j (hj:j<ds.length),j<k->(g ds[j]).2=none)->(g ds[k]).2=some e->zY g ds=((ds.take k).flatMap (fun d=>(g d).1)++(g ds[k]).1,some e)
 | [],k,hk,_,_=>by simp at hk
 |d::ds,0,_,_,he=>by
  have he:(g d).2=some e:=he;simp only[List.take_zero,List.flatMap_nil,List.nil_append,List.getElem_cons_zero,zY,he]
 |d::ds,k+1,hk,h,he=>by
  have h0:(g d).2=none:=h 0 (by simp) (by omega);have hr:=walkDs_stop g e ds k (by simpa using hk) (fun j hj hl=>h (j+1) (by simpa using hj) (by omega)) he
  rw[zY,h0];simp only[List.take_succ_cons,List.flatMap_cons,List.getElem_cons_succ,List.append_assoc,hr]
theorem walkDs_none(g:DescL->List Thg×Option WErr):∀(ds:List DescL),(∀j (hj:j<ds.length),(g ds[j]).2=none)->zY g ds=(ds.flatMap (fun d=>(g d).1),none)
 | [],_=>rfl
 |d::ds,h=>by
  have h0:(g d).2=none:=h 0 (by simp);have hr:=walkDs_none g ds (fun j hj=>h (j+1) (by simpa using hj));rw[zY,h0];simp only[List.flatMap_cons,hr]
def jA(t:Thg):Array Value:=(.int .i64 t.d.media::(t.d.id.map byteV++[.int .i64 t.d.size,.string ⟨t.d.plat.toArray⟩,.int .i64 t.depth,.bool t.first])).toArray
theorem thCells_size{t:Thg}(h:t.d.id.length=32):(jA t).size=37:=by simp[jA,h]
theorem thCells_at1(t:Thg):∀j,j<(qA t.d.id).size->(jA t)[1+j]?=(qA t.d.id)[j]?:=by
 intro j hj;rw[qE]at hj;rw[<-Array.getElem?_toList,<-Array.getElem?_toList,Nat.add_comm];simp only[jA,List.getElem?_cons_succ,qA]
 rw[List.getElem?_append_left (by simpa using hj)]
def ThAt(w:World)(b:Nat)(t:Thg):Prop:=w.heap[b]?=some (.cells (jA t) 150 (0,0))
theorem ThAt.id{w:World}{b:Nat}{t:Thg}(h:ThAt w b t):CellsAt w b (0+1) (qA t.d.id):=CellsAt.of_obj h (by rw[Nat.zero_add];exact thCells_at1 t)
theorem ThAt.media{w:World}{b:Nat}{t:Thg}(h:ThAt w b t):w.cell? ⟨b,0,none⟩=some (.int .i64 t.d.media):=by rw[cell_of_row _ _ _ _ _ _ h];rfl
theorem th_back{t:Thg}(h:t.d.id.length=32)(j:Nat):(jA t)[33+j]?=[Value.int .i64 t.d.size,.string ⟨t.d.plat.toArray⟩,.int .i64 t.depth,.bool t.first][j]?:=by
 rw[<-Array.getElem?_toList];simp only[jA];rw[show 33+j=32+j+1 by omega,List.getElem?_cons_succ,List.getElem?_append_right (by simp[h])]
 simp[h]
theorem ThAt.size{w:World}{b:Nat}{t:Thg}(h:ThAt w b t)(hl:t.d.id.length=32):w.cell? ⟨b,0+33,none⟩=some (.int .i64 t.d.size):=by rw[cell_of_row _ _ _ _ _ _ h];exact th_back hl 0
theorem ThAt.depth{w:World}{b:Nat}{t:Thg}(h:ThAt w b t)(hl:t.d.id.length=32):w.cell? ⟨b,0+35,none⟩=some (.int .i64 t.depth):=by rw[cell_of_row _ _ _ _ _ _ h];exact th_back hl 2
theorem ThAt.first{w:World}{b:Nat}{t:Thg}(h:ThAt w b t)(hl:t.d.id.length=32):w.cell? ⟨b,0+36,none⟩=some (.bool t.first):=by rw[cell_of_row _ _ _ _ _ _ h];exact th_back hl 3
def wrongV(e:WErr):Value:=.iface 142 (.agg ((e.1.map byteV++[Value.int .i64 e.2]).toArray))
def chainW(e:WErr):List PanicEntry:=[{ v:=wrongV e,recovered:=false }]
theorem wrong_noIface:(∀ms,prog.underlying 142≠some (.interface ms))/\(prog.underlying 142).isSome=true:=by
 rw[underlying142];exact⟨fun ms e=>(by cases e),rfl⟩
theorem wrongZ:(prog.info? 142).bind (·.zero)=some (.agg ((List.replicate 32 (byteV 0)++[Value.int .i64 0]).toArray)):=by kernel_rfl
theorem built_wrong(x:List UInt8)(h:x.length=32)(n:Int):prog.built 142 [(0,.agg (qA x)),(1,.int .i64 n)]=some ((x.map byteV++[Value.int .i64 n]).toArray):=by
 have p:yG prog 142=some [(0,32),(32,1)]:=by kernel_rfl
 have hz:((List.replicate 32 (byteV 0)++[Value.int .i64 0]).toArray).size=33:=by simp
 rw[zW wrongZ p]
 rw[zK (off:=0) (size:=32) rfl (by simp[Value.cells,qA,h]) (by rw[hz];omega),zK (off:=32) (size:=1) rfl (by rfl) (by rw[xW (by rw[hz];simp[Value.cells,qA,h])];rw[hz];omega),yI]
 congr 1
 apply Array.toList_inj.1
 simp[zE,qA,Value.cells,h,List.drop_append]
theorem wp_panicI{P:Program}{o:Oper}{a:Act}{w:World}{K:Act->World->Prop}{Q:Exit->Act->World->Prop}(x:Operand)(ho:o.op=.panic x){t:TypeId}{v:Value}(hx:a.eval x=.iface t v)(h:Q (.panic [{ v:=.iface t v,recovered:=false }]) a w):o.wp P a w K Q:=by
 unfold Oper.wp execOp;simp only[ho,hx,Sem.run_bind,run_panic_iface,Result.andThen_halt];exact h
theorem thMust_ok(b:Nat)(n:Int)(w:World):Calls prog 156 #[.pointer (some ⟨b,0,none⟩),.bool true,.int .i64 n] w (RetE (.tuple #[]) w):=by
 go_enter func156,ntmps156;go_wp2
 go_end0
 exact⟨rfl,rfl⟩
theorem thMust_no{w:World}{b:Nat}{t:Thg}(h:ThAt w b t)(hl:t.d.id.length=32)(n:Int):Calls prog 156 #[.pointer (some ⟨b,0,none⟩),.bool false,.int .i64 n] w (fun e w'=>e=.panicked (chainW (t.d.id,n))/\Mod NoB w w'):=by
 have hci:=h.id;have hic:(qA t.d.id).size=32:=by rw[qE,hl]
 have hbw:=built_wrong _ hl n;clear h;go_enter func156,ntmps156;go_upto_region 1 with(fail);refine wpR [3,3,3,3,1,3,0,1,1] (by rfl) (by rfl) ?_;simp only[stz]
 refine wpXA 24 b (0+1) (qA t.d.id) hci underlying24 32 hic trivial ?_;simp only[stz]
 refine qW rfl (fun w' hS=>qS 142 [(0,_),(1,_)] [(0,.agg (qA t.d.id)),(1,.int .i64 n)] _ (by rfl) (by rfl) hbw) ?_;simp only[nmz]
 refine wpX rfl (xT _ 142 (.agg ((t.d.id.map byteV++[Value.int .i64 n]).toArray)) (by rfl) (by rfl) wrong_noIface) trivial ?_;try simp only[nmz]
 refine qT rfl (fun K hK=>?_);refine wp_panicI _ (by rfl) (t:=142) (v:=.agg ((t.d.id.map byteV++[Value.int .i64 n]).toArray)) (by rfl) ?_;exact⟨rfl,rfl,Mod.refl _ _⟩
theorem thTree_any{w:World}{b:Nat}{t:Thg}(h:ThAt w b t)(hl:t.d.id.length=32):Calls prog 157 #[.pointer (some ⟨b,0,none⟩)] w (RetE (.bool (treeT t)) w):=by
 have hcm:=h.media;have hcf:=h.first hl
 obtain⟨r,hr⟩:∃r,treeT t=r:=⟨_,rfl⟩;rw[hr];unfold treeT yD at hr;obtain⟨fs,hfs⟩:∃r,t.first=r:=⟨_,rfl⟩
 obtain⟨m,hm⟩:∃r,t.d.media=r:=⟨_,rfl⟩;rw[hfs]at hcf hr;rw[hm]at hcm hr;clear h hl hfs hm
 cases fs with
 |true=>
  obtain rfl:r=true:=by simpa using hr.symm
  clear hr;go_enter func157,ntmps157;go_upto_region 1 with(fail);refine wpR [3,3,3,1,3,3,3,3,3,0,3,3,3,3,3,3,3,0,3,3,3] (by rfl) (by rfl) ?_;simp only[stz]
  refine wpXd (v:=(.bool true)) 4 b (0+36) hcf underlying4 trivial ?_;simp only[stz];go_wp2;go_ret;exact⟨rfl,rfl⟩
 |false=>
  by_cases h3:m=3
  ·have hz:(m:Int)=3:=by omega
   obtain rfl:r=true:=by simpa[h3]using hr.symm
   clear hr;go_enter func157,ntmps157;go_upto_region 1 with(fail);refine wpR [3,3,3,1,3,3,3,3,3,1,3,3,3,3,3,3,3,0,3,3,3] (by rfl) (by rfl) ?_;simp only[stz]
   refine wpXd (v:=(.bool false)) 4 b (0+36) hcf underlying4 trivial ?_;simp only[stz];refine wpXd (v:=(.int .i64 m)) 3 b 0 hcm underlying3 trivial ?_;try simp only[nmz]
   refine qQ _ _ _ _ _ _ _ _ rfl rfl rfl rfl rfl true (decide_eq_true hz) ?_;simp only[stz];go_wp2;go_ret;exact⟨rfl,rfl⟩
  ·have hz:¬(m:Int)=3:=by omega
   by_cases h4:m=4
   ·have hz4:(m:Int)=4:=by omega
    obtain rfl:r=true:=by simpa[h4]using hr.symm
    clear hr;go_enter func157,ntmps157;go_upto_region 1 with(fail);refine wpR [3,3,3,1,3,3,3,3,3,1,3,3,3,3,3,3,3,1,3,3,3] (by rfl) (by rfl) ?_
    simp only[stz];refine wpXd (v:=(.bool false)) 4 b (0+36) hcf underlying4 trivial ?_;simp only[stz];refine wpXd (v:=(.int .i64 m)) 3 b 0 hcm underlying3 trivial ?_
    try simp only[nmz]
    refine qQ _ _ _ _ _ _ _ _ rfl rfl rfl rfl rfl false (decide_eq_false hz) ?_;simp only[stz];refine wpXd (v:=(.int .i64 m)) 3 b 0 hcm underlying3 trivial ?_
    try simp only[nmz]
    refine qQ _ _ _ _ _ _ _ _ rfl rfl rfl rfl rfl true (decide_eq_true hz4) ?_;simp only[stz];go_wp2;go_ret;exact⟨rfl,rfl⟩
   ·have hz4:¬(m:Int)=4:=by omega
    obtain rfl:r=false:=by rw[<-hr];simp[h3,h4]
    clear hr;go_enter func157,ntmps157;go_upto_region 1 with(fail);refine wpR [3,3,3,1,3,3,3,3,3,1,3,3,3,3,3,3,3,1,3,3,3] (by rfl) (by rfl) ?_
    simp only[stz];refine wpXd (v:=(.bool false)) 4 b (0+36) hcf underlying4 trivial ?_;simp only[stz];refine wpXd (v:=(.int .i64 m)) 3 b 0 hcm underlying3 trivial ?_
    try simp only[nmz]
    refine qQ _ _ _ _ _ _ _ _ rfl rfl rfl rfl rfl false (decide_eq_false hz) ?_;simp only[stz];refine wpXd (v:=(.int .i64 m)) 3 b 0 hcm underlying3 trivial ?_
    try simp only[nmz]
    refine qQ _ _ _ _ _ _ _ _ rfl rfl rfl rfl rfl false (decide_eq_false hz4) ?_;simp only[stz];go_wp2;go_ret;exact⟨rfl,rfl⟩
end
section
open Go.RowKit Go.Proofs.Tryz Go.Lib
def EndsAs(ch:Option (List PanicEntry))(e:Ending):Prop:=match ch with
 |none=>∃v,e=.returned v
 |some c=>e=.panicked c
structure Kept(Kp:World->World->Prop)(n0:Nat):Prop where
 refl:∀W,Kp W W
 trans:∀{A B C},Kp A B->Kp B C->Kp A C
 of0:∀{W W'},Mod NoB W W'->Kp W W'
 put:∀{W:World}{l:Nat}{o:Obj}(o':Obj),W.heap[l]?=some o->o.isCells=false->n0<=l->Kp W (W.putObj l o')
def KSt(St:Nat->Prop)(W W':World):Prop:=Mod (fun k=>¬St k) W W'
theorem kept_st{St:Nat->Prop}{n0:Nat}(hSt:∀k,St k->k<n0):Kept (KSt St) n0 where
 refl W:=Mod.refl _ W
 trans h k:=Mod.trans h k fun _ _ h=>h
 of0 h:=h.mono fun _ _ h=>h.elim
 put o' _ _ hl:=(Mod.refl _ _).grown (grownBy_putObj' _ _ o') (fun k e _ hk=>by cases e;have:=hSt _ hk;omega)
def KSc(St:Nat->Prop)(W W':World):Prop:=KC W W'/\KSt St W W'
theorem kept_sc{St:Nat->Prop}{n0:Nat}(hSt:∀k,St k->k<n0):Kept (KSc St) n0 where
 refl W:=⟨KC.refl _,Mod.refl _ W⟩
 trans h k:=⟨h.1.trans k.1,(kept_st hSt).trans h.2 k.2⟩
 of0 h:=⟨KC.of0 h,(kept_st hSt).of0 h⟩
 put o' h hc hl:=⟨KC.putObj o' h hc,(kept_st hSt).put o' h hc hl⟩
def GivesX(P:Program){α:Type}(gf:Nat)(lb:Array Value)(enc:α->Array Value->World->Prop)(Kp:World->World->Prop)(xs:List α)(ch:Option (List PanicEntry))(w:World):Prop:=
 ∀(l:Nat)(J:List α->World->Prop)(W:World),Mod NoB w W->OwnFrom W.heap.size J->
  (∀pre x rest W1 args,xs=pre++x::rest->J pre W1->enc x args W1->YieldAt Fence.wide 0 P l args W1 fun e W'=>e=.returned (.bool true)/\J (pre++[x]) W'/\Kp W1 W'/\KeepsFrom W.heap.size W1 W')->
  J [] W->Calls P gf (#[.func (.yield l) #[] #[]]++lb) W fun e W'=>EndsAs ch e/\J xs W'
theorem wpIn_rangeFunc_gvx{P:Program}{n:Nat}{α:Type}{g:Operand}{ps:Array Tmp}{assign body:Code}{Q:Exit->Act->World->Prop}{a:Act}{w:World}{gf:Nat}{lb:Array Value}(hg:a.eval g=.func (.func gf) #[] lb)
 (eg:∀args w,(callFunc gf args).run P w=.ok (.enter gf args) w){enc:α->Array Value->World->Prop}{Kp:World->World->Prop}{xs:List α}{ch:Option (List PanicEntry)}{w0:World}(hseq:GivesX P gf lb enc Kp xs ch w0)(hb0:Mod NoB w0 w)(hps:∀x args W,enc x args W->args.size=ps.size)
 (hKp:Kept Kp w.heap.size)
 (I:List α->World->Prop)(hI:OwnFrom w.heap.size I)(h0:I [] w)(Ax:α->Act->World->Prop)(hAx:∀x a',OwnFrom w.heap.size (fun(_:Unit) W=>Ax x a' W))
 (hassign:∀(l:Nat)(pre:List α)(x:α)(rest:List α)(args:Array Value)(W:World)(K:Act->World->Prop),xs=pre++x::rest->I pre W->enc x args W->(∀a' W',KeepsFrom w.heap.size W W'->Kp W W'->I pre W'->Ax x a' W'->K a' W')->
  assign.wpIn (Fence.wide.inRound l) 0 P (Exit.then K (fun _ _ _=>False)) { tmps:=(ps.zip args).foldl (fun t (p,v)=>t.setIfInBounds p v) a.tmps,defers:=[] } W)
 (hbody:∀(l:Nat)(pre:List α)(x:α)(rest:List α)(a':Act)(W:World),xs=pre++x::rest->I pre W->Ax x a' W->
  body.wpIn (Fence.wide.inRound l) 0 P (Exit.then (fun _ W'=>KeepsFrom w.heap.size W W'/\Kp W W'/\I (pre++[x]) W') (fun _ _ _=>False)) a' W)
 (hdone:ch=none->∀(D:Nat)(W:World),w.heap.size<=D->I xs W->W.heap[D]?=some (.deferred (some []))->Q .normal { a with defers:={ target:=.collected D,args:=#[] }::a.defers } W)
 (hfell:∀c,ch=some c->∀(D:Nat)(W:World),w.heap.size<=D->I xs W->W.heap[D]?=some (.deferred (some []))->Q (.panic c) { a with defers:={ target:=.collected D,args:=#[] }::a.defers } W):
 (Code.rangeFunc g ps assign body).wpIn Fence.wide n P Q a w:=by
 refine wpIn_rangeFunc ?_;intro fn hfn;rw[show Fence.wide.round=none from rfl]
 obtain⟨rec,hrec⟩:∃rec:LoopState->Loop,rec=fun st=>{ state:=st,pending:=none,fn,tmps:=a.tmps,params:=ps,assign,body,defers:=w.heap.size }:=⟨_,rfl⟩
 obtain⟨W1,hW1⟩:∃W1,(w.alloc (.deferred (some []))).alloc (.loop (rec .ready))=W1:=⟨_,rfl⟩;have hs1:W1.heap.size=w.heap.size+2:=by rw[<-hW1];simp
 have hL1:W1.heap[w.heap.size+1]?=some (.loop (rec .ready)):=by
  rw[<-hW1];have:=World.alloc_heap_new (w.alloc (.deferred (some []))) (.loop (rec .ready));rwa[World.size_alloc]at this
 have hK1:W1.heap[w.heap.size]?=some (.deferred (some [])):=by
  rw[<-hW1];exact(Below.heap_alloc _ _ _ (by simp)).trans (World.alloc_heap_new w _)
 have hI1:I [] W1:=by rw[<-hW1];exact hI.alloc _ (hI.alloc _ h0)
 have hb1:Mod NoB w0 W1:=by rw[<-hW1];exact(hb0.alloc _).alloc _
 refine⟨w.heap.size+1,[{ target:=.collected w.heap.size,args:=#[] }],W1,{ target:=.fn (.func gf) lb,args:=#[.func (.yield (w.heap.size+1)) #[] #[]] },W1,gf,
  #[.func (.yield (w.heap.size+1)) #[] #[]]++lb,W1,?_,?_,?_,?_,fun h=>(by simp[Fence.wide]at h),?_⟩
 ·rw[<-hW1,hrec];exact run_enterLoop_outer _ _ _ _ _
 ·simp only[resolve,hg]
  simp[go_sem]
 ·intro f' _;trivial
 ·simp[invoke,go_sem,eg]
 ·have hold:∀{A B:World}{row:Option Nat}{k:Nat}{o:Obj},A.grownBy B row->(∀r,row=some r->W1.heap.size<=r/\∃o:Obj,A.heap[r]?=some o/\o.isCells=false)->k<W1.heap.size->A.heap[k]?=some o->B.heap[k]?=some o:=
   fun hg hr hk ho=>(hg.block _ (Array.getElem?_eq_some_iff.1 ho).1 (fun e=>by have:=(hr _ e.symm).1;omega)).trans ho
  have hcalls:=hseq (w.heap.size+1) (fun pre W=>I pre W/\W.heap[w.heap.size+1]?=some (.loop (rec .ready))/\W.heap[w.heap.size]?=some (.deferred (some []))) W1 hb1
   (fun s A B row hs hg' hr=>⟨hI s A B row hs.1 hg' (fun r e=>⟨by have:=(hr r e).1;omega,(hr r e).2⟩),hold hg' hr (by omega) hs.2.1,hold hg' hr (by omega) hs.2.2⟩)
   ?_ ⟨hI1,hL1,hK1⟩
  ·refine(callsIn_wide.2 hcalls).mono ?_
   rintro e W2 ⟨he,hi,hl,hk⟩
   cases ch with
   |none=>
    obtain⟨v,rfl⟩:=he
    exact⟨none,_,by have:=run_endLoop (P:=P) hl (by rw[hrec];simp);rw[hrec]at this;exact this,hdone rfl _ _ (Nat.le_refl _) (hI.putObj _ hi (by omega) hl rfl) ((World.putObj_heap_other (by omega)).trans hk)⟩
   |some c=>
    have he:e=.panicked c:=he;subst he;exact hfell c rfl _ _ (Nat.le_refl _) hi hk
  ·rintro pre x rest W args hxs ⟨hi,hl,hk⟩ hen
   have hlt:w.heap.size+1<W.heap.size:=(Array.getElem?_eq_some_iff.1 hl).1;have hy:=run_yield (P:=P) (args:=args) hl (by rw[hrec];exact hps x args W hen)
   rw[hrec]at hy;refine⟨fn,_,assign,body,hy,roundIn_of_wpIn hfn (hassign _ pre x rest args W _ hxs hi hen ?_)⟩;clear hy;intro a' Wa hkfa hkca hia hax
   have hla:=hkfa.same _ _ (by omega) hl rfl;have hka:=hkfa.same _ _ (Nat.le_refl _) hk rfl;have hlta:w.heap.size+1<Wa.heap.size:=(Array.getElem?_eq_some_iff.1 hla).1
   refine⟨_,run_beginRound hla (by rw[hrec]),?_⟩;obtain⟨Wb,hWb⟩:∃Wb,Wa.putObj (w.heap.size+1) (.loop { rec .ready with state:=.busy })=Wb:=⟨_,rfl⟩
   have hlb:Wb.heap[w.heap.size+1]?=some (.loop { rec .ready with state:=.busy }):=by rw[<-hWb];exact World.putObj_heap_same hlta
   have hkb:Wb.heap[w.heap.size]?=some (.deferred (some [])):=by rw[<-hWb];exact(World.putObj_heap_other (by omega)).trans hka
   have hcb:Kp Wa Wb:=by rw[<-hWb];exact hKp.put _ hla rfl (by omega)
   have hfb:KeepsFrom W1.heap.size Wa Wb:=by
    rw[<-hWb];exact KeepsFrom.of_grownBy (grownBy_putObj' Wa _ _) (fun j e=>by cases e;omega)
   have hib:I pre Wb:=by rw[<-hWb];exact hI.putObj _ hia (by omega) hla rfl
   have haxb:Ax x a' Wb:=by rw[<-hWb];exact(hAx x a').putObj (s:=()) _ hax (by omega) hla rfl
   rw[hWb];refine wpIn_mono (hbody _ pre x rest a' _ hxs hib haxb) ?_;rintro e a3 W3 hp
   cases e with
   |normal=>
    obtain⟨hk3,hc3,hi3⟩:=hp;have hl3:=hk3.same _ _ (by omega) hlb rfl;have hq3:=hk3.same _ _ (Nat.le_refl _) hkb rfl;have hr:=run_endRound (P:=P) none hl3
    rw[hrec]at hr hl3
    refine⟨_,_,hr,rfl,⟨hI.putObj _ hi3 (by omega) hl3 rfl,?_,(World.putObj_heap_other (by omega)).trans hq3⟩,hKp.trans (hKp.trans (hKp.trans hkca hcb) hc3) (hKp.put _ hl3 rfl (by omega)),?_⟩
    ·rw[hrec];exact World.putObj_heap_same (Array.getElem?_eq_some_iff.1 hl3).1
    ·refine KeepsFrom.trans (KeepsFrom.trans (KeepsFrom.trans ?_ hfb) ?_) (KeepsFrom.of_grownBy (grownBy_putObj' W3 _ _) (fun j e=>by cases e;omega))
     ·exact⟨hkfa.size,fun k o hb ho hc=>hkfa.same k o (by omega) ho hc⟩
     ·exact⟨hk3.size,fun k o hb ho hc=>hk3.same k o (by omega) ho hc⟩
   |_=>exact hp.elim
theorem EvR.one{own:Bool}{w:World}{G:Nat->Prop}{cs:Array Value}{e:Evt}(h:EvR own w G cs e):∀c∈cs,c.oneCell'=true:=by
 obtain⟨dv,rv,rfl,hi,h1,h2,_⟩:=h;exact evCells_one h1.one h2.one
theorem EvR.size{own:Bool}{w:World}{G:Nat->Prop}{cs:Array Value}{e:Evt}(h:EvR own w G cs e):cs.size=39:=by
 obtain⟨dv,rv,rfl,hi,_⟩:=h;exact(evCells_spec e dv rv hi).size
def DotC(cs:Array Value)(x:Int×Int):Prop:=cs=#[.int .i64 x.1,.int .i64 x.2]
theorem Sl.inside{α:Type}{own:Bool}{w:World}{G:Nat->Prop}{sz:Nat}{R:Array Value->α->Prop}{v:Value}{l:List α}(h:Sl own w G sz R v l)(hz:0<sz):Sl own w (fun k=>k<w.heap.size) sz R v l:=by
 obtain⟨ad,cap,e,h1,h2,h3⟩:=h;refine⟨ad,cap,e,h1,h2,fun hne=>?_⟩;obtain⟨b,off,ha,hG,ho,hc⟩:=h3 hne;refine⟨b,off,ha,?_,ho,hc⟩
 cases l with
 |nil=>exact absurd rfl hne
 |cons x l=>
  obtain⟨cs,hs,_,hcs⟩:=hc 0 (by simp);have h0:=hcs 0 (by omega);rw[Array.getElem?_eq_getElem (by omega:0<cs.size)]at h0;exact block_lt_of_cell h0
def EvOk(e:Evt):Prop:=e.deps.length<=1048576/\e.refs.length<=1048576
def Inn(Z:Nat->Prop)(base:Nat)(v:Value)(w:World):Nat->Prop:=fun k=>base<=k/\k<w.heap.size/\v.ownBlock≠some k/\¬Z k
def EvGs(Z:Nat->Prop)(base:Nat)(w:World)(v:Value)(l:List Evt):Prop:=
 ∃css,w.ownsRow base 115 39 v l.length (css.flatMap Array.toList)/\(∀c∈css,c.size=39)/\All2 (EvR true w (Inn Z base v w)) css l
section
variable{Z:Nat->Prop}{base:Nat}{l:List Evt}{v:Value}{w w':World}
theorem EvGs.nil(Z:Nat->Prop)(base:Nat)(w:World):EvGs Z base w (.slice none 0 0) []:=⟨[],World.ownsRow_nil _ _ _ _,by simp,by simpa using All2.nil⟩
theorem EvGs.keep{S:Nat->Prop}(h:EvGs Z base w v l)(hm:Mod S w w')(hr:∀k,v.ownBlock=some k->¬S k)(hS:∀k,Inn Z base v w k->¬S k):EvGs Z base w' v l:=by
 obtain⟨css,h1,h2,h3⟩:=h;exact⟨css,zR h1 hm hr,h2,h3.imp fun _ _ h=>(h.keep hm hS).mono fun k hk=>⟨hk.1,Nat.lt_of_lt_of_le hk.2.1 hm.size,hk.2.2⟩⟩
theorem EvGs.keep0(h:EvGs Z base w v l)(hm:Mod NoB w w'):EvGs Z base w' v l:=h.keep hm (fun _ _=>id) (fun _ _=>id)
theorem EvGs.apart{Z':Nat->Prop}(h:EvGs Z base w v l)(hz:∀k,Inn Z base v w k->¬Z' k):EvGs Z' base w v l:=by
 obtain⟨css,h1,h2,h3⟩:=h;exact⟨css,h1,h2,h3.imp fun _ _ h=>h.mono fun k hk=>⟨hk.1,hk.2.1,hk.2.2.1,hz k hk⟩⟩
theorem EvGs.lt(h:EvGs Z base w v l){q:Nat}(hq:v.ownBlock=some q):base<=q/\q<w.heap.size:=by
 obtain⟨css,h1,-⟩:=h;exact h1.lt q hq
theorem EvGs.one(h:EvGs Z base w v l):v.oneCell'=true:=by
 obtain⟨css,h1,-⟩:=h;exact owns_one h1
theorem EvGs.sl(h:EvGs Z base w v l):Sl true w (fun k=>base<=k/\k<w.heap.size/\v.ownBlock=some k) 39 (EvR true w (Inn Z base v w)) v l:=by
 obtain⟨css,h1,h2,h3⟩:=h;exact Sl.of_owns h1 rfl h2 h3 rfl
end
def dotEnc(d:Int×Int):List Value:=[.int .i64 d.1,.int .i64 d.2]
theorem dotEnc_len:∀d,(dotEnc d).length=2:=fun _=>rfl
abbrev DotGs(base:Nat)(w:World)(v:Value)(l:List (Int×Int)):Prop:=Gat dotEnc 113 2 base w v l
theorem DotGs.sl{base:Nat}{w:World}{v:Value}{l:List (Int×Int)}(h:DotGs base w v l):Sl true w (fun q=>base<=q/\q<w.heap.size/\v.ownBlock=some q) 2 DotC v l:=
 (Gat.sl h dotEnc_len).mono (fun _ h=>h) (fun _ _ h=>h)
end
section
open Go.Proofs.Tryz Go.Lib
end
section
open Go.RowKit Go.Proofs.Tryz Go.Lib
section
variable{P:Program}{ops:Array Oper}{Q:Exit->Act->World->Prop}{S:World->Prop}{o:Oper}{r:List (Oper×Nat)}{a:Act}{w:World}
end
end
section
open Go.RowKit Go.Shelf Go.Proofs.Tryz Go.Lib
section
variable{P:Program}{n fuel:Nat}{ops:Array Oper}{Q:Exit->Act->World->Prop}{listed:Array Bool}{a:Act}{w:World}{o:Oper}
end
def intEnc(x:Int):List Value:=[.int .i64 x]
theorem intEnc_len:∀x,(intEnc x).length=1:=fun _=>rfl
abbrev IntGs(base:Nat)(w:World)(v:Value)(l:List Int):Prop:=Gat intEnc 3 1 base w v l
theorem IntGs.sl{base:Nat}{w:World}{v:Value}{l:List Int}(h:IntGs base w v l):Sl true w (fun q=>base<=q/\q<w.heap.size/\v.ownBlock=some q) 1 IntC v l:=
 (Gat.sl h intEnc_len).mono (fun _ h=>h) (fun _ _ h=>h)
theorem gat_cells{α:Type}{enc:α->List Value}{e k base:Nat}{w:World}{v:Value}{l:List α}(h:Gat enc e k base w v l){q:Nat}(hq:v.ownBlock=some q):∃o,w.heap[q]?=some o/\o.isCells=true:=by
 rcases h.2 with⟨rfl,-⟩|⟨g,cap,cur,rfl,-,hg,-⟩
 ·cases hq
 ·cases hq;exact⟨_,hg,rfl⟩
def MarksOk(B:Nat):List Deferred->World->Prop
 | [],_=>True
 |d::ds,w=>(∃D,d={ target:=.collected D,args:=#[] }/\B<=D/\w.heap[D]?=some (.deferred (some []))/\∀d'∈ds,d'.target≠.collected D)/\MarksOk B ds w
theorem xK{B:Nat}{ds ds':List Deferred}{w:World}(hd:ds'=ds)(h:MarksOk B ds w):MarksOk B ds' w:=by rw[hd];exact h
theorem MarksOk.keep{B:Nat}{w w':World}:∀{ds:List Deferred},MarksOk B ds w->(∀D,B<=D->Deferred.mk (.collected D) #[]∈ds->w.heap[D]?=some (.deferred (some []))->w'.heap[D]?=some (.deferred (some [])))->MarksOk B ds w'
 | [],_,_=>trivial
 |_::_,⟨⟨D,e,h1,h2,h3⟩,h⟩,k=>⟨⟨D,e,h1,k D h1 (by rw[e];exact List.mem_cons_self) h2,h3⟩,h.keep fun D h1 hm h2=>k D h1 (List.mem_cons_of_mem _ hm) h2⟩
theorem MarksOk.from{B n:Nat}{w w':World}{ds:List Deferred}(h:MarksOk B ds w)(hk:KeepsFrom n w w')(hn:n<=B):MarksOk B ds w':=h.keep fun D h1 _ h2=>hk.same D _ (by omega) h2 rfl
theorem MarksOk.mod0{B:Nat}{w w':World}{ds:List Deferred}(h:MarksOk B ds w)(hm:Mod NoB w w'):MarksOk B ds w':=h.keep fun _ _ _ h2=>hm.obj id h2
theorem MarksOk.lt{B:Nat}{w:World}:∀{ds:List Deferred},MarksOk B ds w->∀d∈ds,∃D,d={ target:=.collected D,args:=#[] }/\D<w.heap.size
 | [],_,d,hd=>by cases hd
 |_::_,⟨⟨D,e,h1,h2,h3⟩,h⟩,d,hd=>by
  rcases List.mem_cons.1 hd with rfl|hd
  ·exact⟨D,e,(Array.getElem?_eq_some_iff.1 h2).1⟩
  ·exact h.lt d hd
theorem MarksOk.cons{B D:Nat}{w0 w:World}{ds:List Deferred}(h0:MarksOk B ds w0)(h:MarksOk B ds w)(hD:w0.heap.size<=D)(hB:B<=D)(hK:w.heap[D]?=some (.deferred (some []))):MarksOk B ({ target:=.collected D,args:=#[] }::ds) w:=
 ⟨⟨D,rfl,hB,hK,fun d' hd e=>by
  obtain⟨D',e',hlt⟩:=h0.lt d' hd;rw[e']at e;have e:D'=D:=by simpa using e
  omega⟩,h⟩
theorem leaves_marks{P:Program}{fn:Func}{tmps:Array Value}{R:Ending->World->Prop}{B:Nat}(hR:∀e w D,B<=D->w.heap[D]?=some (.deferred (some []))->R e w->R e (w.putObj D (.deferred none)))(hv:∀w,∃v,(results fn tmps).run P w=.ok v w):
 ∀(ds:List Deferred)(u:FrameMode)(w:World),u≠.run->MarksOk B ds w->(u=.returning->∀v,R (.returned v) w)->(∀c,u=.panicking c->R (.panicked c) w)->LeavesInM Fence.wide 0 P fn tmps R ds u w
 | [],u,w,hu,_,h1,h2=>by
  cases u with
  |run=>exact absurd rfl hu
  |returning=>obtain⟨v,hv⟩:=hv w;exact⟨v,hv,h1 rfl v⟩
  |panicking c=>exact h2 c rfl
 |d::ds,u,w,hu,⟨⟨D,e,k1,k2,k3⟩,h⟩,h1,h2=>by
  refine⟨hu,.inl ⟨D,_,by rw[e],run_takeDeferred k2,?_⟩⟩
  refine leaves_marks hR hv ds u _ hu (h.keep fun D' _ hm h'=>?_) (fun e v=>hR _ _ _ k1 k2 (h1 e v)) (fun c e=>hR _ _ _ k1 k2 (h2 c e))
  have hne:D'≠D:=fun e=>k3 _ hm (by rw[e]);exact(World.putObj_heap_other hne).trans h'
def WkQ(B:Nat)(R:Ending->World->Prop):Exit->Act->World->Prop
 | .normal,a,w| .ret,a,w=>MarksOk B a.defers w/\∀v,R (.returned v) w
 | .panic c,a,w=>MarksOk B a.defers w/\R (.panicked c) w
 |_,_,_=>False
theorem enter_marks{P:Program}{f:FuncId}{fn:Func}{c:Code}{args:Array Value}{w:World}{R:Ending->World->Prop}(B:Nat)(hf:P.funcs[f]?=some fn)(hb:fn.body=some c)(hR:∀e w D,B<=D->w.heap[D]?=some (.deferred (some []))->R e w->R e (w.putObj D (.deferred none)))
 (hv:∀(t:Array Value) w,∃v,(results fn t).run P w=.ok v w)(h:c.wpIn Fence.wide 0 P (WkQ B R) { tmps:=args++Array.replicate (fn.ntmps-args.size) undef,defers:=[] } w):Calls P f args w R:=by
 refine(callsIn_wide (n:=0)).1 (callsIn_of_wp_marks hf hb trivial (wpIn_mono h ?_) rfl);intro e a w hq
 cases e with
 |normal=>exact leaves_marks hR (hv _) _ _ _ (by simp) hq.1 (fun _=>hq.2) (fun c e=>by cases e)
 |ret=>exact leaves_marks hR (hv _) _ _ _ (by simp) hq.1 (fun _=>hq.2) (fun c e=>by cases e)
 |panic c=>exact leaves_marks hR (hv _) _ _ _ (by simp) hq.1 (fun e=>by cases e) (fun c' e=>by cases e;exact hq.2)
 |_=>exact hq.elim
theorem wp_enterP{P:Program}{K:Act->World->Prop}{Q:Exit->Act->World->Prop}{o:Oper}{a:Act}{w:World}{f:FuncId}{args:Array Value}{c:List PanicEntry}{R:World->Prop}(hr:(execOp a.eval o).run P w=.ok (.enter f args) w)
 (hc:Calls P f args w (fun e w'=>e=.panicked c/\R w'))(k:∀w',R w'->Q (.panic c) a w'):o.wp P a w K Q:=by
 unfold Oper.wp;rw[hr,Oper.upon_enter];refine hc.mono fun e w' he=>?_;obtain⟨rfl,h⟩:=he;exact k w' h
def wkFr(L0:List Value)(g9 g10:Value)(k:Nat)(l:List Value):List Value:=(((L0.set 9 g9).set 10 g10).take 102)++(.int .i64 (k:Int)::l)
theorem wp_loopFr{P:Program}{Q:Exit->Act->World->Prop}{c:Code}{L0:List Value}{ds0:List Deferred}{w:World}(N:Nat)(Rel:Nat->List Deferred->World->Prop)(h0:Rel 0 ds0 w)(hL:∃g9 g10 l,l.length=19/\wkFr L0 g9 g10 0 l=L0)(hlen:L0.length=122)
 (round:∀(k:Nat)(ds:List Deferred)(g9 g10 x103 x104 x105 x106 x107 x108 x109 x110 x111 x112 x113 x114 x115 x116 x117 x118 x119 x120 x121:Value)(w:World),Rel k ds w->
  c.wpIn Fence.wide 0 P (Exit.then (fun a' w'=>k<N/\∃ds' g9' g10' l',l'.length=19/\a'=⟨(wkFr L0 g9' g10' (k+1) l').toArray,ds'⟩/\Rel (k+1) ds' w') Q)
   ⟨(wkFr L0 g9 g10 k [x103,x104,x105,x106,x107,x108,x109,x110,x111,x112,x113,x114,x115,x116,x117,x118,x119,x120,x121]).toArray,ds⟩ w):
 (Code.loop c).wpIn Fence.wide 0 P Q ⟨L0.toArray,ds0⟩ w:=by
 have hk:∀(g9 g10:Value)(k:Nat)(l:List Value),(wkFr L0 g9 g10 k l)[102]?=some (.int .i64 (k:Int)):=fun g9 g10 k l=>by
  unfold wkFr;have h1:(List.take 102 ((L0.set 9 g9).set 10 g10)).length=102:=by rw[List.length_take];simp[hlen]
  rw[List.getElem?_append_right (by omega),h1]
  rfl
 refine wpIn_loop (fun a w=>∃(k:Nat)(ds:List Deferred)(g9 g10:Value)(l:List Value),l.length=19/\a=⟨(wkFr L0 g9 g10 k l).toArray,ds⟩/\Rel k ds w) (fun a _=>N-(intOf ((a.tmps[102]?).getD undef)).toNat) ?_ ?_
 ·obtain⟨g9,g10,l,h1,h2⟩:=hL
  exact⟨0,ds0,g9,g10,l,h1,by rw[h2],h0⟩
 ·rintro a w ⟨k,ds,g9,g10,l,hl,rfl,hr⟩
  match l,hl with
  | [x103,x104,x105,x106,x107,x108,x109,x110,x111,x112,x113,x114,x115,x116,x117,x118,x119,x120,x121],_=>
   refine wpIn_mono (round k ds g9 g10 x103 x104 x105 x106 x107 x108 x109 x110 x111 x112 x113 x114 x115 x116 x117 x118 x119 x120 x121 w hr) ?_;intro e a' w' hq
   cases e with
   |normal=>
    obtain⟨hlt,ds',g9',g10',l',hl',rfl,hr'⟩:=hq;refine⟨⟨k+1,ds',g9',g10',l',hl',rfl,hr'⟩,?_⟩;simp only[List.getElem?_toArray,hk,Option.getD_some,intOf]
    omega
   |_=>exact hq
def ThE(t:Thg)(args:Array Value)(w:World):Prop:=∃b,args=#[.pointer (some ⟨b,0,none⟩)]/\ThAt w b t
theorem thZ:(prog.info? 150).bind (·.zero)=some (.agg (jA ⟨descZ,0,false⟩)):=by kernel_rfl
theorem built_thing(d:DescL)(h:d.id.length=32)(n:Int)(k:Nat)(hk:n=k)(b:Bool):prog.built 150 [(0,.agg (qB d)),(1,.int .i64 n),(2,.bool b)]=some (jA ⟨d,k,b⟩):=by
 subst hk;have p:yG prog 150=some [(0,35),(35,1),(36,1)]:=by kernel_rfl
 have hz:(jA ⟨descZ,0,false⟩).size=37:=thCells_size zG;have hd:(qB d).size=35:=qR h;rw[zW thZ p]
 have hc:(Value.agg (qB d)).cells=qB d:=rfl;have h35:(zE (jA ⟨descZ,0,false⟩) 0 (qB d)).size=37:=by rw[xW (by omega)];exact hz
 rw[zK (off:=0) (size:=35) rfl (by rw[hc];exact hd) (by rw[hz];omega),hc,zK (off:=35) (size:=1) rfl (by rfl) (by omega),zK (off:=36) (size:=1) rfl (by rfl) (by rw[xW (by simp[Value.cells];omega)];omega),yI]
 congr 1
 apply Array.toList_inj.1
 have hm:(d.id.map byteV).length=32:=by simp[h]
 have t34:List.take 34 (d.id.map byteV)=d.id.map byteV:=List.take_of_length_le (by omega)
 have t35:List.take 35 (d.id.map byteV)=d.id.map byteV:=List.take_of_length_le (by omega);have d35:List.drop 35 (d.id.map byteV)=[]:=List.drop_eq_nil_of_le (by omega)
 have d36:List.drop 36 (d.id.map byteV)=[]:=List.drop_eq_nil_of_le (by omega)
 simp[zE,Value.cells,jA,qB,xD,h,descZ,zeros32,List.take_append,List.drop_append,t34,t35,d35,d36]
def SeqTR(w:World)(bs bt:Nat):Ending->World->Prop:=fun e w'=>∃B1 B2,e=.returned (.func (.func 155) #[] #[.pointer (some ⟨B1,0,none⟩),.pointer (some ⟨B2,0,none⟩)])/\w'.heap[B1]?=some (.cells #[.pointer (some ⟨bs,0,none⟩)] 29 (0,0))/\w'.heap[B2]?=some (.cells #[.pointer (some ⟨bt,0,none⟩)] 148 (0,0))/\Mod NoB w w'
theorem clSeq_any(w:World)(bs bt:Nat):Calls prog 83 #[.pointer (some ⟨bs,0,none⟩),.pointer (some ⟨bt,0,none⟩)] w (SeqTR w bs bt):=by
 go_enter func83,ntmps83;go_upto_region 0 with(fail);refine wpR [1,1,3] (by rfl) (by rfl) ?_;simp only[stz];refine wpDo rfl ?_
 refine xA 29 _ _ (by rfl) (by rfl) (fun w1 hB1 hm1 hs1=>?_);replace hB1:w1.heap[w.heap.size]?=some (.cells #[.pointer (some ⟨bs,0,none⟩)] 29 (0,0)):=hB1
 try simp only[nmz]
 refine wpDo rfl ?_;refine xA 148 _ _ (by rfl) (by rfl) (fun w2 hB2 hm2 hs2=>?_)
 replace hB2:w2.heap[w1.heap.size]?=some (.cells #[.pointer (some ⟨bt,0,none⟩)] 148 (0,0)):=hB2;simp only[stz];have hB12:=hm2.obj id hB1;have hmf:=xN;go_wp2
 go_ret;exact⟨_,_,rfl,hB12,hB2,hm1.trans0 hm2⟩
structure WkEnv(w:World)(bs ms wd:Nat)(room:Int)(bl:List Blb)(y by' B1 B2 bt:Nat)(t:Thg):Prop where
 yc:w.cell? ⟨by',0,none⟩=some (.func (.yield y) #[] #[])
 sc:w.cell? ⟨B1,0,none⟩=some (.pointer (some ⟨bs,0,none⟩))
 tc:w.cell? ⟨B2,0,none⟩=some (.pointer (some ⟨bt,0,none⟩))
 th:ThAt w bt t
 st:StInv w bs ms wd room bl
theorem WkEnv.keep{w w':World}{bs ms wd:Nat}{room:Int}{bl:List Blb}{y by' B1 B2 bt:Nat}{t:Thg}(h:WkEnv w bs ms wd room bl y by' B1 B2 bt t)(hk:KSc (SFoot bs ms bl) w w'):WkEnv w' bs ms wd room bl y by' B1 B2 bt t:=
 ⟨hk.1.cell h.yc,hk.1.cell h.sc,hk.1.cell h.tc,hk.1.obj h.th rfl,h.st.keep hk.2 (fun k hk e=>e hk)⟩
theorem KSc.of0{St:Nat->Prop}{w w':World}(h:Mod NoB w w'):KSc St w w':=⟨KC.of0 h,h.mono fun _ _ h=>h.elim⟩
theorem KSc.trans{St:Nat->Prop}{A B C:World}(h:KSc St A B)(k:KSc St B C):KSc St A C:=⟨h.1.trans k.1,Mod.trans h.2 k.2 fun _ _ h=>h⟩
theorem WkEnv.mod0{w w':World}{bs ms wd:Nat}{room:Int}{bl:List Blb}{y by' B1 B2 bt:Nat}{t:Thg}(h:WkEnv w bs ms wd room bl y by' B1 B2 bt t)(hm:Mod NoB w w'):WkEnv w' bs ms wd room bl y by' B1 B2 bt t:=h.keep (KSc.of0 hm)
end
end Go.Proofs.YtjeonjoifjbohaaGreat
