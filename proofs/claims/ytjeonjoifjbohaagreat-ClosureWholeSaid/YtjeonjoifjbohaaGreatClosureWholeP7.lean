/- What the statement ClosureWhole needs, part 7. -/
import Derived.WalkKit
import Derived.ProofKit
import Derived.OpenShut
import Derived.ChangeStays
import Derived.ChangeBook
import Derived.ChangeSlices
import Derived.Test.YtjeonjoifjbohaaGreatClosureWholeP6
set_option linter.unusedVariables false
set_option linter.unusedSimpArgs false
set_option linter.unnecessarySimpa false
set_option linter.unusedSectionVars false
set_option maxRecDepth 10000
set_option maxHeartbeats 8000000
namespace Go.Proofs.YtjeonjoifjbohaaGreat
section
open Go.RowKit Go.Shelf Go.Proofs.Tryz Go.Lib
theorem put_mid(pre a a' suf:List Value)(h:a'.length=a.length):zE (pre++a++suf).toArray pre.length a'.toArray=(pre++a'++suf).toArray:=by
 apply Array.toList_inj.1
 simp[zE,h,List.drop_append,List.take_append]
theorem read_mid(pre a suf:List Value)(j:Nat)(h:j<a.length):(pre++a++suf).toArray[pre.length+j]?=a[j]?:=by
 simp only[List.getElem?_toArray,List.append_assoc];rw[List.getElem?_append_right (by omega),Nat.add_sub_cancel_left,List.getElem?_append_left h]
def exRow(p:Value)(A B C D:Array Value):Array Value:=(p::(A.toList++(B.toList++(C.toList++D.toList)))).toArray
section
variable{p q:Value}{A B C D X:Array Value}
theorem zX(hA:A.size=35)(hB:B.size=35)(hC:C.size=35)(hD:D.size=35):(exRow p A B C D).size=141:=by
 simp[exRow,hA,hB,hC,hD]
theorem exRow_one(hp:p.oneCell'=true)(hA:∀c∈A,c.oneCell'=true)(hB:∀c∈B,c.oneCell'=true)(hC:∀c∈C,c.oneCell'=true)(hD:∀c∈D,c.oneCell'=true):∀c∈exRow p A B C D,c.oneCell'=true:=by
 intro c hc;simp only[exRow,List.mem_toArray,List.mem_cons,List.mem_append,Array.mem_toList_iff]at hc
 rcases hc with rfl|hc|hc|hc|hc
 ·exact hp
 ·exact hA _ hc
 ·exact hB _ hc
 ·exact hC _ hc
 ·exact hD _ hc
theorem ex_put1(hA:A.size=35)(hX:X.size=35):zE (exRow p A B C D) 1 X=exRow p X B C D:=by
 have h:=put_mid [p] A.toList X.toList (B.toList++(C.toList++D.toList)) (by simp[hA,hX])
 simpa[exRow]using h
theorem ex_put2(hA:A.size=35)(hB:B.size=35)(hX:X.size=35):zE (exRow p A B C D) 36 X=exRow p A X C D:=by
 have h:=put_mid (p::A.toList) B.toList X.toList (C.toList++D.toList) (by simp[hB,hX]);rw[show(p::A.toList).length=36 by simp[hA]]at h
 simpa[exRow]using h
theorem ex_put3(hA:A.size=35)(hB:B.size=35)(hC:C.size=35)(hX:X.size=35):zE (exRow p A B C D) 71 X=exRow p A B X D:=by
 have h:=put_mid (p::(A.toList++B.toList)) C.toList X.toList D.toList (by simp[hC,hX]);rw[show(p::(A.toList++B.toList)).length=71 by simp[hA,hB]]at h
 simpa[exRow]using h
theorem ex_put4(hA:A.size=35)(hB:B.size=35)(hC:C.size=35)(hD:D.size=35)(hX:X.size=35):zE (exRow p A B C D) 106 X=exRow p A B C X:=by
 have h:=put_mid (p::(A.toList++(B.toList++C.toList))) D.toList X.toList [] (by simp[hD,hX])
 rw[show(p::(A.toList++(B.toList++C.toList))).length=106 by simp[hA,hB,hC]]at h
 simpa[exRow]using h
variable{w:World}{b:Nat}{T:TypeId}{fr:Nat×Nat}
theorem ex_at0(h:w.heap[b]?=some (.cells (exRow p A B C D) T fr)):w.cell? ⟨b,0,none⟩=some p:=by
 rw[cell_of_row _ _ _ _ _ _ h];rfl
theorem ex_at1(h:w.heap[b]?=some (.cells (exRow p A B C D) T fr)):CellsAt w b 1 A:=CellsAt.of_obj h fun j hj=>by
 have h:=read_mid [p] A.toList (B.toList++(C.toList++D.toList)) j (by simpa using hj)
 simpa[exRow]using h
theorem ex_at2(hA:A.size=35)(h:w.heap[b]?=some (.cells (exRow p A B C D) T fr)):CellsAt w b 36 B:=CellsAt.of_obj h fun j hj=>by
 have h:=read_mid (p::A.toList) B.toList (C.toList++D.toList) j (by simpa using hj);rw[show(p::A.toList).length=36 by simp[hA]]at h
 simpa[exRow]using h
theorem ex_at3(hA:A.size=35)(hB:B.size=35)(h:w.heap[b]?=some (.cells (exRow p A B C D) T fr)):CellsAt w b 71 C:=CellsAt.of_obj h fun j hj=>by
 have h:=read_mid (p::(A.toList++B.toList)) C.toList D.toList j (by simpa using hj);rw[show(p::(A.toList++B.toList)).length=71 by simp[hA,hB]]at h
 simpa[exRow]using h
theorem ex_at4(hA:A.size=35)(hB:B.size=35)(hC:C.size=35)(h:w.heap[b]?=some (.cells (exRow p A B C D) T fr)):CellsAt w b 106 D:=CellsAt.of_obj h fun j hj=>by
 have h:=read_mid (p::(A.toList++(B.toList++C.toList))) D.toList [] j (by simpa using hj)
 rw[show(p::(A.toList++(B.toList++C.toList))).length=106 by simp[hA,hB,hC]]at h
 simpa[exRow]using h
end
section
variable{k k':Nat}{t:List UInt8}{d d':DescL}{lv sv v:Value}
theorem man_put0:zE (qY k t d lv sv) 0 #[.int .i64 k']=qY k' t d lv sv:=by
 have h:=put_mid [] [.int .i64 k] [.int .i64 k'] (.string ⟨t.toArray⟩::((qB d).toList++[lv,sv])) rfl
 simpa[qY]using h
theorem man_put2(h1:(qB d).size=35)(h2:(qB d').size=35):zE (qY k t d lv sv) 2 (qB d')=qY k t d' lv sv:=by
 have h:=put_mid [.int .i64 k,.string ⟨t.toArray⟩] (qB d).toList (qB d').toList [lv,sv] (by simp[h1,h2])
 simpa[qY]using h
theorem man_put37(h1:(qB d).size=35):zE (qY k t d lv sv) 37 #[v]=qY k t d v sv:=by
 have h:=put_mid (.int .i64 k::.string ⟨t.toArray⟩::(qB d).toList) [lv] [v] [sv] rfl
 rw[show(Value.int .i64 k::.string ⟨t.toArray⟩::(qB d).toList).length=37 by simp[h1]]at h
 simpa[qY]using h
theorem man_put38(h1:(qB d).size=35):zE (qY k t d lv sv) 38 #[v]=qY k t d lv v:=by
 have h:=put_mid (.int .i64 k::.string ⟨t.toArray⟩::((qB d).toList++[lv])) [sv] [v] [] rfl
 rw[show(Value.int .i64 k::.string ⟨t.toArray⟩::((qB d).toList++[lv])).length=38 by simp[h1]]at h
 simpa[qY]using h
end
theorem manZ9:(prog.info? 163).bind (·.zero)=some (.agg (qY 0 [] descZ (.slice none 0 0) (.slice none 0 0))):=by kernel_rfl
theorem man_places:yG prog 163=some [(0,1),(1,1),(2,35),(37,1),(38,1)]:=by kernel_rfl
theorem built_man3(c:DescL)(hc:c.id.length=32)(ad:Option Addr)(n cap:Nat):prog.built 163 [(0,.int .i64 3),(2,.agg (qB c)),(3,.slice ad n cap)]=some (qY 3 [] c (.slice ad n cap) (.slice none 0 0)):=by
 have hz:(qB descZ).size=35:=qR zG;have hs:(qB c).size=35:=qR hc
 have e0:zE (qY 0 [] descZ (.slice none 0 0) (.slice none 0 0)) 0 #[.int .i64 3]=qY 3 [] descZ (.slice none 0 0) (.slice none 0 0):=man_put0 (k':=3)
 rw[zW manZ9 man_places,zK (off:=0) (size:=1) rfl (by rfl) (by rw[zD zG];omega)];simp only[Value.cells,e0]
 rw[zK (off:=2) (size:=35) rfl (by simpa[Value.cells]using hs) (by rw[zD zG];omega)];simp only[Value.cells,man_put2 hz hs]
 rw[zK (off:=37) (size:=1) rfl (by rfl) (by rw[zD hc];omega)];simp only[Value.cells,man_put37 hs];rw[yI]
theorem built_man4(ad:Option Addr)(n cap:Nat):prog.built 163 [(0,.int .i64 4),(4,.slice ad n cap)]=some (qY 4 [] descZ (.slice none 0 0) (.slice ad n cap)):=by
 have hz:(qB descZ).size=35:=qR zG
 have e0:zE (qY 0 [] descZ (.slice none 0 0) (.slice none 0 0)) 0 #[.int .i64 4]=qY 4 [] descZ (.slice none 0 0) (.slice none 0 0):=man_put0 (k':=4)
 rw[zW manZ9 man_places,zK (off:=0) (size:=1) rfl (by rfl) (by rw[zD zG];omega)];simp only[Value.cells,e0]
 rw[zK (off:=38) (size:=1) rfl (by rfl) (by rw[zD zG];omega)];simp only[Value.cells,man_put38 hz];rw[yI]
theorem gatD_one{w:World}{b base:Nat}{d:DescL}(hid:d.id.length=32)(h:w.heap[b]?=some (.cells (qB d) 46 (0,0)))(hb:base<=b):GatD base w (.slice (some ⟨b,0,none⟩) 1 1) [d]:=by
 have hs:(qB d).size=35:=qR hid;have he:(descE d).length=35:=descE_len d
 refine⟨by simp[he],.inr ⟨b,1,qB d,rfl,hb,h,Nat.le_refl _,by unfold maxLen;omega,by omega,?_⟩⟩;rw[List.take_of_length_le (by simp[hs])]
 simp[descE,hid]
def layB:List UInt8:=[108,97,121,101,114]
def cfgB:List UInt8:=[99,111,110,102,105,103]
def dL:DescL:=⟨2,ofI 32 layB,5,[]⟩
def dC:DescL:=⟨1,ofI 32 cfgB,6,[]⟩
def imgM:ManL:=⟨3,[],dC,[dL],[]⟩
def imgB:List UInt8:=encL imgM
def dM:DescL:=⟨3,ofI 32 imgB,imgB.length,[]⟩
def saidD(more:Nat):DescL:=⟨3,ofI 32 imgB,imgB.length+more,[]⟩
def idxM(more:Nat):ManL:=⟨4,[],descZ,[],[saidD more]⟩
def idxB(more:Nat):List UInt8:=encL (idxM more)
def dX(more:Nat):DescL:=⟨4,ofI 32 (idxB more),(idxB more).length,[]⟩
def libL(more:Nat):List (List UInt8):=[layB,cfgB,imgB,idxB more]
theorem xG(b:List UInt8):(ofI 32 b).length=32:=ofI_len (by omega)
theorem dL_small:SmallD dL:=⟨xG _,by decide,by decide,rfl⟩
theorem dC_small:SmallD dC:=⟨xG _,by decide,by decide,rfl⟩
theorem imgB_len:imgB.length=74:=by
 simp[imgB,encL,encB,imgM,descB,dL,dC,xG]
theorem idxB_len(more:Nat):(idxB more).length=39:=by
 simp[idxB,encL,encB,idxM,descB,saidD,xG]
theorem imgM_small:SmallM imgM:=⟨rfl,dC_small.id,.inl ⟨rfl,dC_small,rfl⟩,fun d hd=>by
 simp[imgM]at hd
 rw[hd]
 exact dL_small,by simp[imgM]⟩
theorem saidD_small{more:Nat}(h:more<=1):SmallD (saidD more):=⟨xG _,by simp[saidD],by simp[saidD,imgB_len];omega,rfl⟩
theorem idxM_small{more:Nat}(h:more<=1):SmallM (idxM more):=⟨rfl,zG,.inr ⟨rfl,rfl,rfl⟩,fun d hd=>by
 simp[idxM]at hd
 rw[hd]
 exact saidD_small h,by simp[idxM]⟩
theorem lib_four:∀more:Nat,more<=1->(cOf 32 (libL more)).length=4:=by
 intro more h
 rcases Nat.le_one_iff_eq_zero_or_eq_one.1 h with rfl|rfl<;>decide+kernel
theorem libL_size(more:Nat):∀b∈libL more,b.length<=4096:=by
 intro b hb;have h1:=imgB_len;have h2:=idxB_len more;simp only[libL,List.mem_cons,List.not_mem_nil,or_false]at hb
 rcases hb with rfl|rfl|rfl|rfl
 ·decide
 ·decide
 ·omega
 ·omega
theorem exampleZ:(prog.info? 48).bind (·.zero)=some (.agg (exRow (.pointer none) (qB descZ) (qB descZ) (qB descZ) (qB descZ))):=by kernel_rfl
theorem said_put(more:Nat):(qB dM).setIfInBounds 33 (.int .i64 ((imgB.length+more:Nat):Int))=qB (saidD more):=by
 apply Array.toList_inj.1
 have h:(ofI 32 imgB).length=32:=xG _;simp only[qB,xD,dM,saidD,Array.toList_setIfInBounds,List.set_cons_succ];generalize ofI 32 imgB=x at*
 rw[List.set_append_right _ _ (by simp[h])]
 simp[h]
theorem dM_33:(qB dM)[33]?=some (.int .i64 (imgB.length:Nat)):=by
 have h:(ofI 32 imgB).length=32:=xG _;rw[<-Array.getElem?_toList];simp only[qB,xD,dM]
 rw[List.getElem?_cons_succ,List.getElem?_append_right (by simp[h])]
 simp[h]
theorem desc_zs9:(prog.info? 46).map (fun i=>(i.zero,i.size))=some (some (.agg (qB descZ)),35):=by kernel_rfl
theorem ex_set0{p q:Value}{A B C D:Array Value}:(exRow p A B C D).setIfInBounds 0 q=exRow q A B C D:=by
 apply Array.toList_inj.1
 simp[exRow]
theorem bts_any{base:Nat}{w:World}{v:Value}{xs:List UInt8}(h:Bts base w v xs):Sl false w AnyB 1 ByteC v xs:=h.sl.weak.mono (fun _ _=>trivial) (fun _ _ h=>h)
theorem StoAt.ids{w:World}{bs wd:Nat}{c:BlobL}{Ft:Nat->Prop}(h:StoAt w bs wd c Ft):Calls prog 38 #[.pointer (some ⟨bs,0,Option.none⟩)] w (IDsR w c):=by
 obtain⟨ms,bl,h1,rfl,_⟩:=h;exact bIDs_any h1
def LibR(w:World)(more:Nat):Ending->World->Prop:=fun e w'=>∃bs,e=.returned (.tuple #[.agg (exRow (.pointer (some ⟨bs,0,none⟩)) (qB dL) (qB dC) (qB dM) (qB (dX more))),.bool true])/\StNew w w' bs 32 (cOf 32 (libL more))
theorem fo_48_0:qX prog 48 0=some 0:=by kernel_rfl
theorem fo_48_1:qX prog 48 1=some 1:=by kernel_rfl
theorem fo_48_2:qX prog 48 2=some 36:=by kernel_rfl
theorem fo_48_3:qX prog 48 3=some 71:=by kernel_rfl
theorem fo_48_4:qX prog 48 4=some 106:=by kernel_rfl
theorem lib13_any(w:World)(more:Nat)(hmo:more<=1):Calls prog 28 #[.int .i64 more] w (LibR w more):=by
 have sZ:(qB descZ).size=35:=qR zG;have sL:(qB dL).size=35:=qR dL_small.id
 have sC:(qB dC).size=35:=qR dC_small.id;have sM:(qB dM).size=35:=qR (xG _)
 have sX:(qB (dX more)).size=35:=qR (xG _);have sS:(qB (saidD more)).size=35:=qR (xG _)
 have oL:∀c∈qB dL,c.oneCell'=true:=zJ _ _ _ _;have oC:∀c∈qB dC,c.oneCell'=true:=zJ _ _ _ _
 have oM:∀c∈qB dM,c.oneCell'=true:=zJ _ _ _ _;have oX:∀c∈qB (dX more),c.oneCell'=true:=zJ _ _ _ _;have hib:=imgB_len
 have hxb:=idxB_len more;have hput33:=said_put more;go_enter func28,ntmps28;go_upto_region 0 with(fail);refine wpR [1,3] (by rfl) (by rfl) ?_;simp only[zz2]
 refine wpDo rfl ?_;refine qU 48 _ (by rfl) exampleZ (fun w1 hB1 hm1 hs1=>?_)
 replace hB1:w1.heap[w.heap.size]?=some (.cells (exRow (.pointer none) (qB descZ) (qB descZ) (qB descZ) (qB descZ)) 48 (0,0)):=hB1
 refine qJ _ rfl rfl ?_;simp only[nmz];refine qK ?_;go_upto_region 1 with(fail);refine wpR [1] (by rfl) (by rfl) ?_;simp only[zz2];refine wpDo rfl ?_
 refine qU 48 _ (by rfl) exampleZ (fun w2 hB2 hm2 hs2=>?_)
 replace hB2:w2.heap[w1.heap.size]?=some (.cells (exRow (.pointer none) (qB descZ) (qB descZ) (qB descZ) (qB descZ)) 48 (0,0)):=hB2
 try simp only[nmz]
 refine qK ?_;have hR2:=hm2.obj id hB1;have hm02:=hm1.trans0 hm2;have l1:w.heap.size<w1.heap.size:=hs1;have l2:w1.heap.size<w2.heap.size:=hs2
 clear hm1 hB1 hs1 hs2 hm2;generalize hb2:w.heap.size=b2 at*;generalize hb4:w1.heap.size=b4 at*;go_upto_region 2 with(fail)
 refine wpR [1,1,1,1,3,3] (by rfl) (by rfl) ?_;simp only[zz2];refine wpDo rfl ?_
 refine xE 53 5 5 [(0,_),(1,_),(2,_),(3,_),(4,_)] [byteV 108,byteV 97,byteV 121,byteV 101,byteV 114] (byteV 0) 1 (by rfl) (by rfl) (by rfl) underlying53 byte_zs (by omega) (by omega) (by simp[Value.cells,byteV]) (fun w3 hB3 hm3 hs3=>?_)
 replace hB3:w3.heap[w2.heap.size]?=some (.cells (qA layB) 5 (0,0)):=hB3;try simp only[nmz]
 refine wpDo rfl ?_;refine wp_bytesConst 53 5 _ w2.heap.size 5 5 _ (by rfl) (by rfl) underlying53 underlying5 hB3 (fun w4 hB4 hm4=>?_)
 have hm24:Mod NoB w2 w4:=hm3.transB hm4 (Nat.le_refl _);try simp only[nmz]
 refine wpDo rfl ?_
 refine xE 53 5 6 [(0,_),(1,_),(2,_),(3,_),(4,_),(5,_)] [byteV 99,byteV 111,byteV 110,byteV 102,byteV 105,byteV 103] (byteV 0) 1 (by rfl) (by rfl) (by rfl) underlying53 byte_zs (by omega) (by omega) (by simp[Value.cells,byteV]) (fun w5 hB5 hm5 hs5=>?_)
 replace hB5:w5.heap[w4.heap.size]?=some (.cells (qA cfgB) 5 (0,0)):=hB5;try simp only[nmz]
 refine wpDo rfl ?_;refine wp_bytesConst 53 5 _ w4.heap.size 6 6 _ (by rfl) (by rfl) underlying53 underlying5 hB5 (fun w6 hB6 hm6=>?_)
 have hm46:Mod NoB w4 w6:=hm5.transB hm6 (Nat.le_refl _);refine qJ _ rfl rfl ?_;simp only[nmz];refine qJ _ rfl rfl ?_;simp only[nmz];refine qK ?_
 have hBl:=hm46.obj id hB4;have l3:w2.heap.size<w6.heap.size:=(Array.getElem?_eq_some_iff.1 hBl).1
 have l4:w4.heap.size<w6.heap.size:=(Array.getElem?_eq_some_iff.1 hB6).1;have s24:=hm24.size;have s46:=hm46.size;have hR6:=(hm24.trans0 hm46).obj id hR2
 have hE6:=(hm24.trans0 hm46).obj id hB2;have hm06:=hm02.trans0 (hm24.trans0 hm46);clear hm3 hm4 hm5 hm6 hB3 hB4 hB5 hm24 hm46 hs3 hs5 hR2 hB2 hm02
 generalize hbl:w2.heap.size=bl at*;generalize hbc:w4.heap.size=bc at*
 have hlS:Sl false w6 AnyB 1 ByteC (.slice (some ⟨bl,0,none⟩) 5 5) layB:=sl_bytes hBl rfl (by simp[layB])
 have hcS:Sl false w6 AnyB 1 ByteC (.slice (some ⟨bc,0,none⟩) 6 6) cfgB:=sl_bytes hB6 rfl (by simp[cfgB])
 have hdl:=desc13_any hlS (by simp[layB]) 2 32 (by omega) (by omega)
 have hdc:=fun w' (hm:Mod NoB w6 w')=>desc13_any (hcS.keep0 hm) (by simp[cfgB]) 1 32 (by omega) (by omega);go_upto_region 3 with(fail)
 refine wpR [3,1,3,1,3,1,3,1] (by rfl) (by rfl) ?_;simp only[zz2];refine qC _ rfl rfl ?_;simp only[nmz];refine wpDo rfl ?_
 refine qD (qF 89 [.const (.int .i64 2),.const (.int .i64 32),.tmp 16] _ rfl _ func89 rfl (by kernel_rfl) [.int .i64 (2:Nat),.int .i64 (32:Nat),.slice (some ⟨bl,0,none⟩) 5 5] rfl _) (hdl) ?_
 rintro e w7 ⟨he7,hm7⟩;subst he7;refine⟨_,rfl,?_⟩;refine qC _ rfl rfl ?_;simp only[nmz];refine wpDo rfl ?_
 refine qD (qF 89 [.const (.int .i64 1),.const (.int .i64 32),.tmp 18] _ rfl _ func89 rfl (by kernel_rfl) [.int .i64 (1:Nat),.int .i64 (32:Nat),.slice (some ⟨bc,0,none⟩) 6 6] rfl _) (hdc _ hm7) ?_
 rintro e w8 ⟨he8,hm8⟩;subst he8;have hE8:=(hm7.trans0 hm8).obj id hE6;refine⟨_,rfl,?_⟩;refine qN _ _ _ _ _ _ rfl rfl rfl fo_48_1 ?_;simp only[nmz];refine wpDo rfl ?_
 refine qM 46 _ _ b4 1 (qB dL) (by rfl) (by rfl) (by rfl) oL 35 (by kernel_rfl) sL _ _ hE8 (by rw[zX sZ sZ sZ sZ,sL];omega) (fun w9 hB9 hm9=>?_)
 rw[ex_put1 sZ sL]at hB9;refine qN _ _ _ _ _ _ rfl rfl rfl fo_48_2 ?_;simp only[nmz];refine wpDo rfl ?_
 refine qM 46 _ _ b4 36 (qB dC) (by rfl) (by rfl) (by rfl) oC 35 (by kernel_rfl) sC _ _ hB9 (by rw[zX sL sZ sZ sZ,sC];omega) (fun wa hBa hma=>?_)
 rw[ex_put2 sL sZ sC]at hBa;try simp only[nmz]
 refine qK ?_;have hm68:=hm7.trans0 hm8;have hm6a:Mod (fun k=>k=b4) w6 wa:=((hm68.mono (fun _ _ h=>h.elim)).trans hm9 (fun _ _ h=>h)).trans hma (fun _ _ h=>h)
 have hRa:=hm6a.objB (b:=b2) (by omega) hR6;have hBla:=hm6a.objB (b:=bl) (by omega) hBl;have hBca:=hm6a.objB (b:=bc) (by omega) hB6
 have hm0a:Mod NoB w wa:=hm06.transB hm6a (by omega);have l10:=hm6a.size;have hx1:CellsAt wa b4 (0+1) (qB dL):=ex_at1 hBa
 have hx2:CellsAt wa b4 (0+36) (qB dC):=ex_at2 sL hBa;clear hdl hdc hlS hcS hE6 hE8 hB9 hm7 hm8 hm9 hma hm68 hR6 hBl hB6 hm06;go_upto_region 4 with(fail)
 refine wpR [3,1,3,1,1,0,1,3,3,3,3,3] (by rfl) (by rfl) ?_;simp only[zz2];refine qN _ _ _ _ _ _ rfl rfl rfl fo_48_2 ?_;simp only[nmz]
 refine wpXA 46 b4 (0+36) (qB dC) hx2 underlying46 35 sC trivial ?_;refine qN _ _ _ _ _ _ rfl rfl rfl fo_48_1 ?_;simp only[nmz]
 refine wpXA 46 b4 (0+1) (qB dL) hx1 underlying46 35 sL trivial ?_;try simp only[nmz]
 refine wpDo rfl ?_
 refine zF 161 46 _ (.agg (qB dL)) (.agg (qB descZ)) 35 (by rfl) (by rfl) underlying161 desc_zs9 (by omega) (by omega) sL (fun wb hBb hmb hsb=>?_)
 replace hBb:wb.heap[wa.heap.size]?=some (.cells (qB dL) 46 (0,0)):=hBb
 have henc:Calls prog 90 #[.agg (qY 3 [] dC (.slice (some ⟨wa.heap.size,0,none⟩) 1 1) (.slice none 0 0))] wb (EncodeR wb imgB):=mEncode_any (m:=imgM) imgM_small (gatD_one dL_small.id hBb (Nat.le_refl _)) (Gat.nil _ _ _ _ _)
 try simp only[nmz]
 refine qW rfl (fun w' hS=>qS 163 [(0,_),(2,_),(3,_)] [(0,.int .i64 3),(2,.agg (qB dC)),(3,.slice (some ⟨wa.heap.size,0,none⟩) 1 1)] _ (by rfl) (by rfl) (built_man3 dC dC_small.id _ 1 1)) ?_
 simp only[nmz];refine wpDo rfl ?_
 refine qD (qF 90 [.tmp 28] _ rfl _ func90 rfl (by kernel_rfl) [.agg (qY 3 [] dC (.slice (some ⟨wa.heap.size,0,none⟩) 1 1) (.slice none 0 0))] rfl _) (henc) ?_
 rintro e wc ⟨hmc,vi,hei,hbi⟩;subst hei;refine⟨_,rfl,?_⟩;refine qC _ rfl rfl ?_;simp only[nmz]
 refine qG rfl (fun w'=>qP _ 0 #[vi,.int .i64 0] rfl rfl vi rfl) ?_;simp only[nmz]
 refine qG rfl (fun w'=>qP _ 1 #[vi,.int .i64 0] rfl rfl (.int .i64 0) rfl) ?_;simp only[nmz];refine qJ _ rfl rfl ?_;simp only[nmz]
 refine qJ _ rfl rfl ?_;simp only[nmz];refine qK ?_;have hmac:=hmb.trans0 hmc;have hRc:=hmac.obj id hRa;have hEc:=hmac.obj id hBa;have hBlc:=hmac.obj id hBla
 have hBcc:=hmac.obj id hBca;have hm0c:=hm0a.trans0 hmac;have l5:b2<wc.heap.size:=(Array.getElem?_eq_some_iff.1 hRc).1
 have l6:b4<wc.heap.size:=(Array.getElem?_eq_some_iff.1 hEc).1;have l7:=hmb.size;have l11:=hmc.size;have l8:b4<wa.heap.size:=(Array.getElem?_eq_some_iff.1 hBa).1
 have hqi:∀q,vi.ownBlock=some q->wb.heap.size<=q/\q<wc.heap.size:=fun q hq=>Bts.lt hbi hq;obtain⟨iad,icp,rfl⟩:=hbi.slice;have HBI:=hid hbi
 clear hbi henc hmb hmc hBb hsb hmac hRa hBa hBla hBca hx1 hx2 hm0a
 have hdm:Calls prog 89 #[.int .i64 (3:Nat),.int .i64 (32:Nat),.slice iad imgB.length icp] wc (DesR wc dM):=desc13_any HBI.out.sl (by omega) 3 32 (by omega) (by omega)
 go_upto_region 5 with(fail);refine wpR [3,1,3,1] (by rfl) (by rfl) ?_;simp only[zz2];refine qC _ rfl rfl ?_;simp only[nmz];refine wpDo rfl ?_
 refine qD (qF 89 [.const (.int .i64 3),.const (.int .i64 32),.tmp 32] _ rfl _ func89 rfl (by kernel_rfl) [.int .i64 (3:Nat),.int .i64 (32:Nat),.slice iad imgB.length icp] rfl _) (hdm) ?_
 rintro e wd ⟨hed,hmd⟩;subst hed;refine⟨_,rfl,?_⟩;refine qN _ _ _ _ _ _ rfl rfl rfl fo_48_3 ?_;simp only[nmz];refine wpDo rfl ?_
 refine qM 46 _ _ b4 71 (qB dM) (by rfl) (by rfl) (by rfl) oM 35 (by kernel_rfl) sM _ _ (hmd.obj id hEc) (by rw[zX sL sC sZ sZ,sM];omega) (fun we hBe hme=>?_)
 rw[ex_put3 sL sC sZ sM]at hBe;try simp only[nmz]
 refine qK ?_;have hmce:Mod (fun k=>k=b4) wc we:=(hmd.mono (fun _ _ h=>h.elim)).trans hme (fun _ _ h=>h);have hRe:=hmce.objB (b:=b2) (by omega) hRc
 have hBle:=hmce.objB (b:=bl) (by omega) hBlc;have hBce:=hmce.objB (b:=bc) (by omega) hBcc
 have hbie:=Bts.keep HBI.out hmce (fun q hq e=>by have h1:=(hqi q hq).1;have e':q=b4:=e;omega);have hm0e:Mod NoB w we:=hm0c.transB hmce (by omega)
 have l9:=hmce.size;have hx3:CellsAt we b4 (0+71) (qB dM):=ex_at3 sL sC hBe;clear hdm hmd hme hmce hRc hEc hBlc hBcc HBI hm0c;go_upto_region 6 with(fail)
 refine wpR [3,1,1,1] (by rfl) (by rfl) ?_;simp only[zz2];refine qN _ _ _ _ _ _ rfl rfl rfl fo_48_3 ?_;simp only[nmz]
 refine wpXA 46 b4 (0+71) (qB dM) hx3 underlying46 35 sM trivial ?_;try simp only[nmz]
 refine wpDo rfl ?_;refine qU 46 _ (by rfl) descZ_i (fun wf hBf hmf hsf=>?_);replace hBf:wf.heap[we.heap.size]?=some (.cells (qB descZ) 46 (0,0)):=hBf
 try simp only[nmz]
 refine wpDo rfl ?_;refine qM 46 _ _ we.heap.size 0 (qB dM) (by rfl) (by rfl) (by rfl) oM 35 (by kernel_rfl) sM _ _ hBf (by rw[sM,sZ];omega) (fun wg hBg hmg=>?_)
 rw[qI (by rw[sM,sZ])]at hBg;try simp only[nmz]
 refine qK ?_;have hmeg:Mod NoB we wg:=hmf.transB hmg (Nat.le_refl _);have hRg:=hmeg.obj id hRe;have hEg:=hmeg.obj id hBe;have hBlg:=hmeg.obj id hBle
 have hBcg:=hmeg.obj id hBce;have hbig:=Bts.keep hbie hmeg (fun _ _=>id);have hm0g:=hm0e.trans0 hmeg
 have hc33:wg.cell? ⟨we.heap.size,0+33,none⟩=some (.int .i64 (imgB.length:Nat)):=by rw[cell_of_row _ _ _ _ _ _ hBg];exact dM_33
 have la:we.heap.size<wg.heap.size:=(Array.getElem?_eq_some_iff.1 hBg).1;generalize hb9:we.heap.size=b9 at*;clear hmf hmg hmeg hRe hBe hBle hBce hbie hm0e hx3 hBf hsf
 go_upto_region 7 with(fail);refine wpR [3,1,3,3,3,1] (by rfl) (by rfl) ?_;simp only[zz2];refine qN _ _ _ _ _ _ rfl rfl rfl fo_46_2 ?_;simp only[nmz]
 refine wpXd (v:=(.int .i64 (imgB.length:Nat))) 3 b9 (0+33) hc33 underlying3 trivial ?_;refine qC _ rfl rfl ?_;simp only[nmz]
 refine zM _ _ _ _ (imgB.length:Int) (more:Int) ((imgB.length+more:Nat):Int) rfl rfl rfl rfl (by omega) (by omega) (by omega) ?_;simp only[nmz]
 refine qN _ _ _ _ _ _ rfl rfl rfl fo_46_2 ?_;simp only[nmz];refine wpDo rfl ?_
 refine zA 3 _ _ b9 33 (.int .i64 ((imgB.length+more:Nat):Int)) (by rfl) (by rfl) (by rfl) (by rfl) (by kernel_rfl) _ _ hBg (by rw[sM];omega) (fun wh hBh hmh=>?_)
 rw[hput33]at hBh;try simp only[nmz]
 refine qK ?_;have hRh:=hmh.objB (b:=b2) (by omega) hRg;have hEh:=hmh.objB (b:=b4) (by omega) hEg;have hBlh:=hmh.objB (b:=bl) (by omega) hBlg
 have hBch:=hmh.objB (b:=bc) (by omega) hBcg;have hbih:=Bts.keep hbig hmh (fun q hq e=>by have h1:=(hqi q hq).2;have e':q=b9:=e;omega)
 have hm0h:Mod NoB w wh:=hm0g.transB hmh (by omega);have hcS:CellsAt wh b9 0 (qB (saidD more)):=CellsAt.whole hBh;have lb:=hmh.size
 clear hRg hEg hBlg hBcg hbig hm0g hmh hBg hc33;go_upto_region 8 with(fail);refine wpR [1,1,0,1,3,3,3,3,3] (by rfl) (by rfl) ?_;simp only[zz2]
 refine wpXA 46 b9 0 (qB (saidD more)) hcS underlying46 35 sS trivial ?_;try simp only[nmz]
 refine wpDo rfl ?_
 refine zF 161 46 _ (.agg (qB (saidD more))) (.agg (qB descZ)) 35 (by rfl) (by rfl) underlying161 desc_zs9 (by omega) (by omega) sS (fun wi hBi hmi hsi=>?_)
 replace hBi:wi.heap[wh.heap.size]?=some (.cells (qB (saidD more)) 46 (0,0)):=hBi
 have henc:Calls prog 90 #[.agg (qY 4 [] descZ (.slice none 0 0) (.slice (some ⟨wh.heap.size,0,none⟩) 1 1))] wi (EncodeR wi (idxB more)):=mEncode_any (m:=idxM more) (idxM_small hmo) (base:=wh.heap.size) (Gat.nil _ _ _ _ _) (gatD_one (saidD_small hmo).id hBi (Nat.le_refl _))
 try simp only[nmz]
 refine qW rfl (fun w' hS=>qS 163 [(0,_),(4,_)] [(0,.int .i64 4),(4,.slice (some ⟨wh.heap.size,0,none⟩) 1 1)] _ (by rfl) (by rfl) (built_man4 _ 1 1)) ?_
 simp only[nmz];refine wpDo rfl ?_
 refine qD (qF 90 [.tmp 45] _ rfl _ func90 rfl (by kernel_rfl) [.agg (qY 4 [] descZ (.slice none 0 0) (.slice (some ⟨wh.heap.size,0,none⟩) 1 1))] rfl _) (henc) ?_
 rintro e wj ⟨hmj,vx,hej,hbx⟩;subst hej;refine⟨_,rfl,?_⟩;refine qC _ rfl rfl ?_;simp only[nmz]
 refine qG rfl (fun w'=>qP _ 0 #[vx,.int .i64 0] rfl rfl vx rfl) ?_;simp only[nmz]
 refine qG rfl (fun w'=>qP _ 1 #[vx,.int .i64 0] rfl rfl (.int .i64 0) rfl) ?_;simp only[nmz];refine qJ _ rfl rfl ?_;simp only[nmz]
 refine qJ _ rfl rfl ?_;simp only[nmz];refine qK ?_;have hmhj:=hmi.trans0 hmj;have hRj:=hmhj.obj id hRh;have hEj:=hmhj.obj id hEh;have hBlj:=hmhj.obj id hBlh
 have hBcj:=hmhj.obj id hBch;have hbij:=Bts.keep hbih hmhj (fun _ _=>id);have hm0j:=hm0h.trans0 hmhj;have lc:=hmi.size;have ld':=hmj.size
 have hqx:∀q,vx.ownBlock=some q->wi.heap.size<=q/\q<wj.heap.size:=fun q hq=>Bts.lt hbx hq;obtain⟨xad,xcp,rfl⟩:=hbx.slice;have HBX:=hid hbx
 clear hbx henc hmi hmj hBi hsi hmhj hRh hEh hBlh hBch hbih hBh hcS hm0h
 have hdx:Calls prog 89 #[.int .i64 (4:Nat),.int .i64 (32:Nat),.slice xad (idxB more).length xcp] wj (DesR wj (dX more)):=desc13_any HBX.out.sl (by omega) 4 32 (by omega) (by omega)
 go_upto_region 9 with(fail);refine wpR [3,1,3,1] (by rfl) (by rfl) ?_;simp only[zz2];refine qC _ rfl rfl ?_;simp only[nmz];refine wpDo rfl ?_
 refine qD (qF 89 [.const (.int .i64 4),.const (.int .i64 32),.tmp 49] _ rfl _ func89 rfl (by kernel_rfl) [.int .i64 (4:Nat),.int .i64 (32:Nat),.slice xad (idxB more).length xcp] rfl _) (hdx) ?_
 rintro e wk ⟨hek,hmk⟩;subst hek;refine⟨_,rfl,?_⟩;refine qN _ _ _ _ _ _ rfl rfl rfl fo_48_4 ?_;simp only[nmz];refine wpDo rfl ?_
 refine qM 46 _ _ b4 106 (qB (dX more)) (by rfl) (by rfl) (by rfl) oX 35 (by kernel_rfl) sX _ _ (hmk.obj id hEj) (by rw[zX sL sC sM sZ,sX];omega) (fun wl hBl2 hml=>?_)
 rw[ex_put4 sL sC sM sZ sX]at hBl2;try simp only[nmz]
 refine qK ?_;have hmjl:Mod (fun k=>k=b4) wj wl:=(hmk.mono (fun _ _ h=>h.elim)).trans hml (fun _ _ h=>h);have hRl:=hmjl.objB (b:=b2) (by omega) hRj
 have hBll:=hmjl.objB (b:=bl) (by omega) hBlj;have hBcl:=hmjl.objB (b:=bc) (by omega) hBcj
 have hbil:=bts_any (Bts.keep hbij hmjl (fun q hq e=>by have h1:=(hqi q hq).1;have e':q=b4:=e;omega))
 have hbxl:=bts_any (Bts.keep HBX.out hmjl (fun q hq e=>by have h1:=(hqx q hq).1;have e':q=b4:=e;omega));have hm0l:Mod NoB w wl:=hm0j.transB hmjl (by omega)
 have le':=hmjl.size;have hlS:Sl false wl AnyB 1 ByteC (.slice (some ⟨bl,0,none⟩) 5 5) layB:=sl_bytes hBll rfl (by simp[layB])
 have hcS:Sl false wl AnyB 1 ByteC (.slice (some ⟨bc,0,none⟩) 6 6) cfgB:=sl_bytes hBcl rfl (by simp[cfgB]);clear hdx hmk hml hmjl hRj hEj hBlj hBcj hbij HBX hm0j hBll hBcl
 go_upto_region 10 with(fail);refine wpR [3,3,3,3,1,1,3,1] (by rfl) (by rfl) ?_;simp only[zz2];refine qC _ rfl rfl ?_;simp only[nmz];refine qC _ rfl rfl ?_
 simp only[nmz];refine qC _ rfl rfl ?_;simp only[nmz];refine qC _ rfl rfl ?_;simp only[nmz];refine wpDo rfl ?_
 refine xE 22 53 4 [(0,_),(1,_),(2,_),(3,_)] [.slice (some ⟨bl,0,none⟩) 5 5,.slice (some ⟨bc,0,none⟩) 6 6,.slice iad imgB.length icp,.slice xad (idxB more).length xcp] (.slice none 0 0) 1 (by rfl) (by rfl) (by rfl) underlying22 bytes_zs (by omega) (by omega) (by simp[Value.cells]) (fun wm hBm hmm hsm=>?_)
 replace hBm:wm.heap[wl.heap.size]?=some (.cells #[.slice (some ⟨bl,0,none⟩) 5 5,.slice (some ⟨bc,0,none⟩) 6 6,.slice iad imgB.length icp,.slice xad (idxB more).length xcp] 53 (0,0)):=hBm
 have hls:LsAt wm (.slice (some ⟨wl.heap.size,0,none⟩) 4 4) (libL more):=by
  refine⟨_,_,rfl,Nat.le_refl _,by unfold maxLen;omega,fun _=>⟨wl.heap.size,0,rfl,trivial,fun e=>(by cases e),fun i hi=>?_⟩⟩
  match i,hi with
  |0,_=>exact⟨_,rfl,⟨_,rfl,hlS.keep0 hmm⟩,cells_nth hBm _ _ rfl⟩
  |1,_=>exact⟨_,rfl,⟨_,rfl,hcS.keep0 hmm⟩,cells_nth hBm _ _ rfl⟩
  |2,_=>exact⟨_,rfl,⟨_,rfl,hbil.keep0 hmm⟩,cells_nth hBm _ _ rfl⟩
  |3,_=>exact⟨_,rfl,⟨_,rfl,hbxl.keep0 hmm⟩,cells_nth hBm _ _ rfl⟩
 have hfi:=filled13_any (wn:=32) (by omega) hls (by simp[libL]) (libL_size more);try simp only[nmz]
 refine wpDo rfl ?_
 refine qD (qF 18 [.const (.int .i64 32),.tmp 56] _ rfl _ func18 rfl (by kernel_rfl) [.int .i64 (32:Nat),.slice (some ⟨wl.heap.size,0,none⟩) 4 4] rfl _) (hfi) ?_
 rintro e wn ⟨bs,hen,hst⟩;subst hen;obtain⟨Ft,hat,hFn,hmn⟩:=hst;have hln:=hmm.trans0 hmn;refine⟨_,rfl,?_⟩;refine qN _ _ _ _ _ _ rfl rfl rfl fo_48_0 ?_
 simp only[nmz];refine wpDo rfl ?_
 refine zA 29 _ _ b4 0 (.pointer (some ⟨bs,0,none⟩)) (by rfl) (by rfl) (by rfl) (by rfl) (by kernel_rfl) _ _ (hln.obj id hBl2) (by rw[zX sL sC sM sX];omega) (fun wo hBo hmo'=>?_)
 rw[ex_set0]at hBo;try simp only[nmz]
 refine qK ?_;have lf:=hmm.size;have hRo:=hmo'.objB (b:=b2) (by omega) (hln.obj id hRl)
 have hato:=hat.keep hmo' (fun k hk e=>by have h1:=hFn k hk;have e':k=b4:=e;omega);have hm0o:Mod NoB w wo:=(hm0l.trans0 hln).transB hmo' (by omega)
 have hFo:∀k,Ft k->w.heap.size<=k/\k≠b2:=fun k hk=>by have h1:=hFn k hk;have h2:=hm0l.size;constructor<;>omega
 have hxo:CellsAt wo b4 0 (exRow (.pointer (some ⟨bs,0,none⟩)) (qB dL) (qB dC) (qB dM) (qB (dX more))):=CellsAt.whole hBo
 have hpo:wo.cell? ⟨b4,0,none⟩=some (.pointer (some ⟨bs,0,none⟩)):=ex_at0 hBo;have hes:=zX (p:=.pointer (some ⟨bs,0,none⟩)) sL sC sM sX
 have heo:∀c∈exRow (.pointer (some ⟨bs,0,none⟩)) (qB dL) (qB dC) (qB dM) (qB (dX more)),c.oneCell'=true:=exRow_one rfl oL oC oM oX
 have hzs:=zX (p:=.pointer none) sZ sZ sZ sZ;have hfour:=lib_four more hmo;clear hfi hls hBm hsm hmm hmn hln hmo' hBl2 hRl hat hbil hbxl hlS hcS hm0l hBo
 generalize hEX:exRow (.pointer (some ⟨bs,0,none⟩)) (qB dL) (qB dC) (qB dM) (qB (dX more))=EX at*;have HEX:=hid hEX;clear hEX
 go_upto_region 11 with(fail);have hids:=(hato.keep0 ((Mod.refl NoB wo).drew)).ids
 have hS:Mod (fun k=>k=b2) wo wo.drew:=((Mod.refl NoB wo).drew).mono (fun _ _ h=>h.elim);have hn42:¬b4=b2:=by omega
 refine wpRP [(0,0),(1,3),(2,0),(3,3),(4,3),(5,3),(6,3),(7,3),(8,3),(9,3),(10,3),(11,3),(12,3),(13,3),(14,0),(15,1),(16,3),(17,3),(18,3),(19,1),(20,3)] [] (fun w'=>Mod (fun k=>k=b2) wo w') hS ?_
 simp only[zz4];refine wpLA 48 b4 0 EX (fun w' hS=>hxo.keep hS hn42) underlying48 141 hes ?_;simp only[nmz];refine qN _ _ _ _ _ _ rfl rfl rfl fo_48_0 ?_;simp only[nmz]
 refine wpLd 29 b4 0 (fun w' hS=>hS.cell hn42 hpo) underlying29 ?_;simp only[nmz]
 refine qG (v:=?_) rfl (fun w'=>?_) ?_;rotate_left;·(go_simp;try with_reducible rfl)
 simp only[nmz];refine qC _ rfl rfl ?_;simp only[nmz];refine qC _ rfl rfl ?_;simp only[nmz]
 refine qG (v:=?_) rfl (fun w'=>?_) ?_;rotate_left;·(go_simp;try with_reducible rfl)
 simp only[nmz];refine zB _ _ _ _ rfl rfl rfl ?_;simp only[nmz];refine qC _ rfl rfl ?_;simp only[nmz];refine qC _ rfl rfl ?_;simp only[nmz]
 refine qG (v:=?_) rfl (fun w'=>?_) ?_;rotate_left;·(go_simp;try with_reducible rfl)
 simp only[nmz];refine zB _ _ _ _ rfl rfl rfl ?_;simp only[nmz];refine qC _ rfl rfl ?_;simp only[nmz];refine qN _ _ _ _ _ _ rfl rfl rfl fo_48_0 ?_
 simp only[nmz];refine wpLd 29 b4 0 (fun w' hS=>hS.cell hn42 hpo) underlying29 ?_;simp only[nmz];refine qT rfl (fun K hK=>?_)
 refine qD (qF 38 [.tmp 73] _ rfl _ func38 rfl (by kernel_rfl) [.pointer (some ⟨bs,0,none⟩)] rfl _) (hids) ?_;rintro e wp ⟨hmp,vl,lids,hep,hgl,hidc⟩;subst hep
 have hl4:lids.length=4:=by rw[hidc.2.length_eq,List.length_map];exact hfour
 obtain⟨lad,lcp,rfl⟩:=hgl.slice;rw[hl4];have hT:Mod NoB wo wp:=((Mod.refl NoB wo).drew).trans0 hmp;refine⟨_,rfl,hK _ _ (hT.mono (fun _ _ h=>h.elim)) ?_⟩;clear hK K
 try simp only[nmz]
 refine zC _ _ _ _ _ rfl rfl rfl (by kernel_rfl) ?_;simp only[nmz];refine qG (v:=?_) rfl (fun w'=>?_) ?_;rotate_left;·(go_simp;try with_reducible rfl)
 simp only[nmz];refine zB _ _ _ _ rfl rfl rfl ?_;simp only[nmz];refine qT rfl (fun K hK=>?_)
 refine qM 48 _ _ b2 0 EX (by rfl) (by rfl) (by rfl) heo 141 (by kernel_rfl) hes _ _ (hT.obj id hRo) (by rw[hes,hzs];omega) (fun wq hBq hmq=>?_)
 rw[qI (by rw[hes,hzs])]at hBq;refine hK _ _ ((hT.mono (fun _ _ h=>h.elim)).trans hmq (fun _ _ h=>h)) ?_;clear hK K;refine qJ _ rfl rfl ?_;simp only[nmz]
 refine qK ?_
 have HF:Hid (LibR w more (.returned (.tuple #[.agg EX,.bool true])) wq):=hid ⟨bs,by rw[HEX.out],Ft,(hato.keep0 hT).keep hmq (fun k hk e=>(hFo k hk).2 e),fun k hk=>(hFo k hk).1,(hm0o.trans0 hT).transB hmq (by omega)⟩
 clear hato hS hT hmq hm0o hFo hids hgl hidc;go_wp2
 refine bodyPost_ret (xF (P:=prog) (ty:=48) rfl _ _ b2 _ _ _ _ (by rfl) hBq underlying48 rfl (by rw[hes];kernel_rfl)) rfl ?_;exact HF.out
theorem StoAt.walk{w:World}{bs wd:Nat}{c:BlobL}{Ft:Nat->Prop}(h:StoAt w bs wd c Ft)(hc:c.length<=1000)(di:List UInt8)(hid:di.length=32):Calls prog 20 #[.pointer (some ⟨bs,0,Option.none⟩),.agg (qA di)] w (WalkR w c di):=by
 obtain⟨ms,bl,h1,rfl,_⟩:=h;exact clWalk_any h1 di hid hc
def WalksR(w:World)(c:BlobL)(id:List UInt8)(want:List (List UInt8))(bad:List UInt8)(n:Int):Ending->World->Prop:=fun e w'=>Mod NoB w w'/\∃ids b2 n2,xJ c id ids b2 n2/\e=.returned (.bool (decide (ids=want/\b2=bad/\n2=n)))
theorem yU{w:World}{bs wd:Nat}{c:BlobL}{Ft:Nat->Prop}(H:StoAt w bs wd c Ft)(hc:c.length<=1000){di bad:List UInt8}(hid:di.length=32)(hbad:bad.length=32){o:Bool}{G:Nat->Prop}{wv:Value}{want:List (List UInt8)}(hw:Sl o w G 32 IdC wv want)(n:Int):
 Calls prog 29 #[.pointer (some ⟨bs,0,none⟩),.agg (qA di),wv,.agg (qA bad),.int .i64 n] w (WalksR w c di want bad n):=by
 have hic:(qA di).size=32:=by rw[qE,hid]
 have hib:(qA bad).size=32:=by rw[qE,hbad]
 obtain⟨lad,lcap,rfl,-,-⟩:=Sl.at hw;have HW:=Lib.hid hw;clear hw;go_enter func29,ntmps29;go_upto_region 0 with(fail);refine wpR [1,1,3] (by rfl) (by rfl) ?_
 simp only[zz2];refine wpDo rfl ?_;refine xA 24 _ _ (by rfl) (by rfl) (fun w1 hB1 hm1 hs1=>?_)
 replace hB1:w1.heap[w.heap.size]?=some (.cells (qA di) 24 (0,0)):=hB1;try simp only[nmz]
 refine wpDo rfl ?_;refine xA 24 _ _ (by rfl) (by rfl) (fun w2 hB2 hm2 hs2=>?_);replace hB2:w2.heap[w1.heap.size]?=some (.cells (qA bad) 24 (0,0)):=hB2
 refine qJ _ rfl rfl ?_;simp only[nmz];refine qK ?_;have hm02:=hm1.trans0 hm2;have hc1:CellsAt w2 w.heap.size 0 (qA di):=CellsAt.whole (hm2.obj id hB1)
 have hc2:CellsAt w2 w1.heap.size 0 (qA bad):=CellsAt.whole hB2;have hwk:=(H.keep0 hm02).walk hc di hid;generalize hb6:w.heap.size=b6 at*
 generalize hb8:w1.heap.size=b8 at*;clear hm1 hm2 hB1 hB2 hs1 hs2;go_upto_region 1 with(fail);refine wpR [3,1,1,3,3,3,3,1,3,1,3] (by rfl) (by rfl) ?_;simp only[zz2]
 refine qC _ rfl rfl ?_;simp only[nmz];refine wpXA 24 b6 0 (qA di) hc1 underlying24 32 hic trivial ?_;try simp only[nmz]
 refine wpDo rfl ?_;refine qD (qF 20 [.tmp 15,.tmp 16] _ rfl _ func20 rfl (by kernel_rfl) [.pointer (some ⟨bs,0,none⟩),.agg (qA di)] rfl _) (hwk) ?_
 rintro e w3 ⟨hm3,v,ids,b2,n2,he3,hg3,hout,hb2,h32⟩;subst he3;refine⟨_,rfl,?_⟩;refine qC _ rfl rfl ?_;simp only[nmz]
 refine qG rfl (fun w'=>qP _ 0 #[v,.agg (qA b2),.int .i64 n2] rfl rfl v rfl) ?_;simp only[nmz]
 refine qG rfl (fun w'=>qP _ 1 #[v,.agg (qA b2),.int .i64 n2] rfl rfl (.agg (qA b2)) rfl) ?_;simp only[nmz]
 refine qG rfl (fun w'=>qP _ 2 #[v,.agg (qA b2),.int .i64 n2] rfl rfl (.int .i64 n2) rfl) ?_;simp only[nmz];refine wpDo rfl ?_
 refine qU 24 _ (by rfl) idZ (fun w4 hB4 hm4 hs4=>?_);replace hB4:w4.heap[w3.heap.size]?=some (.cells (qA (List.replicate 32 0)) 24 (0,0)):=hB4
 refine qJ _ rfl rfl ?_;simp only[nmz];refine wpDo rfl ?_;have hi2:(qA b2).size=32:=by rw[qE,hb2]
 refine qM 24 _ _ w3.heap.size 0 (qA b2) (by rfl) (by rfl) (by rfl) (qZ _) 32 (by kernel_rfl) hi2 _ _ hB4 (by rw[hi2,qE];simp) (fun w5 hB5 hm5=>?_)
 rw[qI (by rw[hi2,qE];simp)]at hB5;refine qJ _ rfl rfl ?_;simp only[nmz];refine qK ?_
 have hi2:(qA b2).size=32:=by rw[qE,hb2]
 have hm35:Mod NoB w3 w5:=hm4.transB hm5 (Nat.le_refl _);have hm25:=hm3.trans0 hm35;have hm05:=hm02.trans0 hm25;have hcb:=hc2.keep hm25 id
 have hc5:CellsAt w5 w3.heap.size 0 (qA b2):=CellsAt.whole hB5;have hids:=slI (hg3.keep0 hm35) h32;have hwn:=HW.out.keep0 hm05
 have hsm:=sameIDs_any _ _ _ _ _ _ _ _ _ hids hwn;obtain⟨r,hr⟩:∃r,decide (ids=want/\b2=bad/\n2=n)=r:=⟨_,rfl⟩
 have HF:∀w',Mod NoB w5 w'->WalksR w c di want bad n (.returned (.bool r)) w':=fun w' hm=>⟨hm05.trans0 hm,ids,b2,n2,hout,by rw[hr]⟩
 generalize hb3:w3.heap.size=b3 at*;clear hwk hm3 hm4 hm5 hm35 hm25 hm05 hm02 hg3 hB4 hB5 hs4 hc1 hc2 hout hids hwn
 by_cases h1:ids=want
 ·rw[decide_eq_true h1]at hsm
  by_cases h2:b2=bad
  ·have HD:Hid (decide (b2=bad)=true):=Lib.hid (decide_eq_true h2)
   by_cases h3:n2=n
   ·have hrt:r=true:=by rw[<-hr];exact decide_eq_true ⟨h1,h2,h3⟩
    subst hrt;clear hr h1 h2;subst h3;go_upto_region 2 with(fail);refine wpR [3,3,1,3,1,1,0,3,3,3,3,3,3,3] (by rfl) (by rfl) ?_;simp only[zz2]
    refine qC _ rfl rfl ?_;simp only[nmz];refine qC _ rfl rfl ?_;simp only[nmz];refine wpDo rfl ?_
    refine qD (qF 24 [.tmp 21,.tmp 22] _ rfl _ func24 rfl (by kernel_rfl) [v,.slice lad want.length lcap] rfl _) (hsm) ?_;rintro e w6 ⟨rfl,hm6⟩
    refine⟨_,rfl,?_⟩;refine qC _ rfl rfl ?_;simp only[nmz];refine wpXA 24 b3 0 (qA b2) (hc5.keep hm6 id) underlying24 32 hi2 trivial ?_;try simp only[nmz]
    refine wpXA 24 b8 0 (qA bad) (hcb.keep hm6 id) underlying24 32 hib trivial ?_;try simp only[nmz]
    refine qW rfl (fun w' hS=>exec_eql_id _ _ _ _ rfl _ _ rfl rfl 32 5 underlying24 underlying5 (by kernel_rfl) (by kernel_rfl) hb2 hbad true HD.out) ?_;simp only[nmz]
    refine zB _ _ _ _ rfl rfl rfl ?_;simp only[nmz];refine qC _ rfl rfl ?_;simp only[nmz];refine qC _ rfl rfl ?_;simp only[nmz]
    refine qC _ rfl rfl ?_;simp only[nmz];refine qQ _ _ _ _ _ _ _ _ rfl rfl rfl rfl rfl true (by simp[cmpB]) ?_;simp only[nmz]
    refine zB _ _ _ _ rfl rfl rfl ?_;simp only[nmz];refine qJ _ rfl rfl ?_;simp only[nmz];refine qK ?_;have HF:=Lib.hid (HF _ hm6);go_wp2;go_ret
    exact HF.out
   ·have hrt:r=false:=by rw[<-hr];exact decide_eq_false (fun h=>h3 h.2.2)
    subst hrt;have hz:¬n2=n:=h3;clear hr h1 h2;go_upto_region 2 with(fail);refine wpR [3,3,1,3,1,1,0,3,3,3,3,3,3,3] (by rfl) (by rfl) ?_;simp only[zz2]
    refine qC _ rfl rfl ?_;simp only[nmz];refine qC _ rfl rfl ?_;simp only[nmz];refine wpDo rfl ?_
    refine qD (qF 24 [.tmp 21,.tmp 22] _ rfl _ func24 rfl (by kernel_rfl) [v,.slice lad want.length lcap] rfl _) (hsm) ?_;rintro e w6 ⟨rfl,hm6⟩
    refine⟨_,rfl,?_⟩;refine qC _ rfl rfl ?_;simp only[nmz];refine wpXA 24 b3 0 (qA b2) (hc5.keep hm6 id) underlying24 32 hi2 trivial ?_;try simp only[nmz]
    refine wpXA 24 b8 0 (qA bad) (hcb.keep hm6 id) underlying24 32 hib trivial ?_;try simp only[nmz]
    refine qW rfl (fun w' hS=>exec_eql_id _ _ _ _ rfl _ _ rfl rfl 32 5 underlying24 underlying5 (by kernel_rfl) (by kernel_rfl) hb2 hbad true HD.out) ?_;simp only[nmz]
    refine zB _ _ _ _ rfl rfl rfl ?_;simp only[nmz];refine qC _ rfl rfl ?_;simp only[nmz];refine qC _ rfl rfl ?_;simp only[nmz]
    refine qC _ rfl rfl ?_;simp only[nmz];refine qQ _ _ _ _ _ _ _ _ rfl rfl rfl rfl rfl false (by simp[cmpB,hz]) ?_;simp only[nmz]
    refine zB _ _ _ _ rfl rfl rfl ?_;simp only[nmz];refine qJ _ rfl rfl ?_;simp only[nmz];refine qK ?_;have HF:=Lib.hid (HF _ hm6);go_wp2;go_ret
    exact HF.out
  ·have HD:Hid (decide (b2=bad)=false):=Lib.hid (decide_eq_false h2)
   have hrt:r=false:=by rw[<-hr];exact decide_eq_false (fun h=>h2 h.2.1)
   subst hrt;clear hr h1 h2;go_upto_region 2 with(fail);refine wpR [3,3,1,3,1,1,0,3,3,3,3,3,3,3] (by rfl) (by rfl) ?_;simp only[zz2];refine qC _ rfl rfl ?_
   simp only[nmz];refine qC _ rfl rfl ?_;simp only[nmz];refine wpDo rfl ?_
   refine qD (qF 24 [.tmp 21,.tmp 22] _ rfl _ func24 rfl (by kernel_rfl) [v,.slice lad want.length lcap] rfl _) (hsm) ?_;rintro e w6 ⟨rfl,hm6⟩;refine⟨_,rfl,?_⟩
   refine qC _ rfl rfl ?_;simp only[nmz];refine wpXA 24 b3 0 (qA b2) (hc5.keep hm6 id) underlying24 32 hi2 trivial ?_;try simp only[nmz]
   refine wpXA 24 b8 0 (qA bad) (hcb.keep hm6 id) underlying24 32 hib trivial ?_;try simp only[nmz]
   refine qW rfl (fun w' hS=>exec_eql_id _ _ _ _ rfl _ _ rfl rfl 32 5 underlying24 underlying5 (by kernel_rfl) (by kernel_rfl) hb2 hbad false HD.out) ?_;simp only[nmz]
   refine zB _ _ _ _ rfl rfl rfl ?_;simp only[nmz];refine qC _ rfl rfl ?_;simp only[nmz];refine zH rfl ?_;simp only[nmz];refine zH rfl ?_
   simp only[nmz];refine zH rfl ?_;simp only[nmz];refine zB _ _ _ _ rfl rfl rfl ?_;simp only[nmz];refine qJ _ rfl rfl ?_;simp only[nmz]
   refine qK ?_;have HF:=Lib.hid (HF _ hm6);go_wp2;go_ret;exact HF.out
 ·rw[decide_eq_false h1]at hsm
  have hrt:r=false:=by rw[<-hr];exact decide_eq_false (fun h=>h1 h.1)
  subst hrt;clear hr h1;go_upto_region 2 with(fail);refine wpR [3,3,1,3,0,0,3,3,3,3,3,3,3,3] (by rfl) (by rfl) ?_;simp only[zz2];refine qC _ rfl rfl ?_
  simp only[nmz];refine qC _ rfl rfl ?_;simp only[nmz];refine wpDo rfl ?_
  refine qD (qF 24 [.tmp 21,.tmp 22] _ rfl _ func24 rfl (by kernel_rfl) [v,.slice lad want.length lcap] rfl _) (hsm) ?_;rintro e w6 ⟨rfl,hm6⟩;refine⟨_,rfl,?_⟩
  refine qC _ rfl rfl ?_;simp only[nmz];refine jC rfl ?_;simp only[nmz];refine jC rfl ?_;simp only[nmz];refine zH rfl ?_;simp only[nmz]
  refine zB _ _ _ _ rfl rfl rfl ?_;simp only[nmz];refine qC _ rfl rfl ?_;simp only[nmz];refine zH rfl ?_;simp only[nmz];refine zH rfl ?_
  simp only[nmz];refine zH rfl ?_;simp only[nmz];refine zB _ _ _ _ rfl rfl rfl ?_;simp only[nmz];refine qJ _ rfl rfl ?_;simp only[nmz];refine qK ?_
  have HF:=Lib.hid (HF _ hm6);go_wp2;go_ret;exact HF.out
section
variable{w w':World}{bs wd:Nat}{c c':BlobL}{Ft:Nat->Prop}
theorem StoAt.facts(H:StoAt w bs wd c Ft):(c.map (·.1)).Nodup/\∀x∈c.map (·.1),x.length=32:=by
 obtain⟨ms,bl,h1,rfl,_⟩:=H;refine⟨h1.nd,fun x hx=>?_⟩;simp only[cont,List.map_map,List.mem_map]at hx;obtain⟨b,hb,rfl⟩:=hx;exact h1.ok b hb
theorem StoAt.get(H:StoAt w bs wd c Ft){di:List UInt8}(hid:di.length=32):Calls prog 33 #[.pointer (some ⟨bs,0,Option.none⟩),.agg (qA di)] w (GetR w (getL di c)):=by
 obtain⟨ms,bl,h1,rfl,_⟩:=H;exact bGet_any h1 di hid
theorem StoAt.drop(H:StoAt w bs wd c Ft){di:List UInt8}(hid:di.length=32):Calls prog 30 #[.pointer (some ⟨bs,0,Option.none⟩),.agg (qA di)] w (fun e w'=>e=.returned (.bool (getL di c).isSome)/\SStep w bs wd Ft w' (delL di c)):=by
 obtain⟨ms,bl,h1,rfl,h3,h4⟩:=H;refine(bDrop_any h1 di hid).mono ?_;rintro e w' ⟨rfl,bl',k1,k2,k3,k4⟩
 exact⟨rfl,fun k=>Ft k\/New w w' k,⟨ms,bl',k1,k2,fun k hk=>(k4 k hk).imp (h3 k) id,fun k hk=>hk.elim (fun hk=>Nat.lt_of_lt_of_le (h4 k hk) k3.size) (fun hk=>hk.2)⟩,k3.mono (fun k _ e=>h3 k (e.elim (fun e=>.inl e) (fun e=>.inr (.inl e)))),fun k hk=>hk⟩
theorem StoAt.mark(H:StoAt w bs wd c Ft){own:Bool}{G:Nat->Prop}{v:Value}{roots:List (List UInt8)}(hv:Sl own w G 32 IdC v roots)(hn:roots.length<=10000)(hc:c.length<=1000):Calls prog 22 #[.pointer (some ⟨bs,0,Option.none⟩),v] w (MarkR w c roots):=by
 obtain⟨ms,bl,h1,rfl,_⟩:=H;exact clMark_any h1 hv hn hc
end
theorem clWhole_of{w:World}{v:Value}{x:List UInt8}(hx:x.length=32){P:Int->Prop}(h:∀w',Mod NoB w w'->Calls prog 20 #[v,.agg (qA x)] w' (fun e w''=>Mod NoB w' w''/\∃vv bad n,e=.returned (.tuple #[vv,.agg (qA bad),.int .i64 n])/\bad.length=32/\P n)):
 Calls prog 25 #[v,.agg (qA x)] w (fun e w'=>Mod NoB w w'/\∃n,P n/\e=.returned (.bool (decide (n=0)))):=by
 have hic:(qA x).size=32:=by rw[qE,hx]
 have H:=hid h;clear h;go_enter func25,ntmps25;go_upto_region 0 with(fail);refine wpR [1,3] (by rfl) (by rfl) ?_;simp only[zz2];refine wpDo rfl ?_
 refine xA 24 _ _ (by rfl) (by rfl) (fun w1 hB1 hm1 hs1=>?_);replace hB1:w1.heap[w.heap.size]?=some (.cells (qA x) 24 (0,0)):=hB1;refine qJ _ rfl rfl ?_
 simp only[nmz];refine qK ?_;have hwk:=H.out w1 hm1;have hc1:CellsAt w1 w.heap.size 0 (qA x):=CellsAt.whole hB1;generalize w.heap.size=b3 at*;clear hB1 hs1
 go_upto_region 1 with(fail);refine wpR [3,1,1,3,3,3,3,1,3,1,3] (by rfl) (by rfl) ?_;simp only[zz2];refine qC _ rfl rfl ?_;simp only[nmz]
 refine wpXA 24 b3 0 (qA x) hc1 underlying24 32 hic trivial ?_;try simp only[nmz]
 refine wpDo rfl ?_;refine qD (qF 20 [.tmp 9,.tmp 10] _ rfl _ func20 rfl (by kernel_rfl) [v,.agg (qA x)] rfl _) (hwk) ?_
 rintro e w3 ⟨hm3,vv,bad,n,he3,hb3,hP⟩;subst he3;refine⟨_,rfl,?_⟩;refine qC _ rfl rfl ?_;simp only[nmz]
 refine qG rfl (fun w'=>qP _ 0 #[vv,.agg (qA bad),.int .i64 n] rfl rfl vv rfl) ?_;simp only[nmz]
 refine qG rfl (fun w'=>qP _ 1 #[vv,.agg (qA bad),.int .i64 n] rfl rfl (.agg (qA bad)) rfl) ?_;simp only[nmz]
 refine qG rfl (fun w'=>qP _ 2 #[vv,.agg (qA bad),.int .i64 n] rfl rfl (.int .i64 n) rfl) ?_;simp only[nmz];refine wpDo rfl ?_
 refine qU 24 _ (by rfl) idZ (fun w4 hB4 hm4 hs4=>?_);replace hB4:w4.heap[w3.heap.size]?=some (.cells (qA (List.replicate 32 0)) 24 (0,0)):=hB4
 refine qJ _ rfl rfl ?_;simp only[nmz];refine wpDo rfl ?_;have hi2:(qA bad).size=32:=by rw[qE,hb3]
 refine qM 24 _ _ w3.heap.size 0 (qA bad) (by rfl) (by rfl) (by rfl) (qZ _) 32 (by kernel_rfl) hi2 _ _ hB4 (by rw[hi2,qE];simp) (fun w5 hB5 hm5=>?_)
 refine qJ _ rfl rfl ?_;simp only[nmz];refine qK ?_;have hm05:Mod NoB w w5:=(hm1.trans0 hm3).trans0 (hm4.transB hm5 (Nat.le_refl _))
 clear hwk hc1 hm1 hm3 hm4 hm5 hB4 hB5 hs4
 by_cases hz:n=0
 ·subst hz
  go_wp2;go_ret;exact⟨hm05,0,hP,rfl⟩
 ·have hd:decide (n=0)=false:=decide_eq_false hz
  go_wp2;go_ret;exact⟨hm05,n,hP,rfl⟩
def WholeR(w:World)(c:BlobL)(x:List UInt8):Ending->World->Prop:=fun e w'=>Mod NoB w w'/\∃ids bad n,xJ c x ids bad n/\e=.returned (.bool (decide (n=0)))
theorem StoAt.whole{w:World}{bs wd:Nat}{c:BlobL}{Ft:Nat->Prop}(H:StoAt w bs wd c Ft)(hc:c.length<=1000){x:List UInt8}(hx:x.length=32):Calls prog 25 #[.pointer (some ⟨bs,0,Option.none⟩),.agg (qA x)] w (WholeR w c x):=by
 refine(clWhole_of hx (P:=fun n=>∃ids bad,xJ c x ids bad n) fun w' hm=>((H.keep0 hm).walk hc x hx).mono ?_).mono ?_
 ·rintro e w'' ⟨hm,v,ids,bad,n,rfl,_,ho,hb,_⟩
  exact⟨hm,_,_,_,rfl,hb,ids,bad,ho⟩
 ·rintro e w' ⟨hm,n,⟨ids,bad,ho⟩,rfl⟩
  exact⟨hm,ids,bad,n,ho,rfl⟩
end
section
open Go.RowKit Go.Proofs.Tryz Go.Lib
attribute [local irreducible] shaL ofI
theorem sorted_ext{l m:List (List UInt8)}(hl:l.Pairwise (fun a b=>a<b))(hm:m.Pairwise (fun a b=>a<b))(h:∀x,x∈l↔x∈m):l=m:=by
 have hp:l.Perm m:=(List.perm_ext_iff_of_nodup (lt_nodup hl) (lt_nodup hm)).2 h;exact hp.eq_of_pairwise (fun a b _ _ h1 h2=>absurd (ltB_trans h1 h2) (List.lt_irrefl _)) hl hm
end
section
open Go.RowKit Go.Shelf Go.Proofs.Tryz Go.Lib
section
variable{w:World}{h:House}{c:BlobL}{l:LinkL}{Ft:Nat->Prop}
end
def longB(L:List (List UInt8))(n mx:Nat):Bool:=(L.take (n+1)).any (fun m=>decide (mx<m.length))||decide (n<L.length)
theorem longB_false{L:List (List UInt8)}{n mx:Nat}(h:longB L n mx=false):L.length<=n/\∀m∈L,m.length<=mx:=by
 unfold longB at h;rw[Bool.or_eq_false_iff,decide_eq_false_iff_not]at h;have hl:L.length<=n:=by omega
 rw[List.take_of_length_le (by omega)]at h;refine⟨hl,fun m hm=>?_⟩;have h1:=List.any_eq_false.1 h.1 m hm
 simpa using h1
theorem longB_big{L:List (List UInt8)}{n mx k:Nat}(hk:k<L.length)(hn:k<=n)(hb:mx<L[k].length):longB L n mx=true:=by
 unfold longB
 have:(L.take (n+1)).any (fun m=>decide (mx<m.length))=true:=List.any_eq_true.2 ⟨L[k],by rw[List.mem_take_iff_getElem];exact⟨k,by omega,rfl⟩,by simpa using hb⟩
 rw[this,Bool.true_or]
theorem longB_many{L:List (List UInt8)}{n mx:Nat}(h:n<L.length):longB L n mx=true:=by
 unfold longB;rw[decide_eq_true h,Bool.or_true]
theorem longB_not{L:List (List UInt8)}{n mx:Nat}(h:L.length<=n)(h2:∀m∈L,m.length<=mx):longB L n mx=false:=by
 unfold longB;rw[List.take_of_length_le (by omega),Bool.or_eq_false_iff,decide_eq_false_iff_not];refine⟨List.any_eq_false.2 fun m hm=>?_,by omega⟩;have:=h2 m hm
 simpa using this
def LngRel(w0:World)(L:List (List UInt8))(n mx:Nat)(i:Value)(w:World):Prop:=∃k:Nat,k<=L.length/\k<=n+1/\i=.int .i64 k/\Mod NoB w0 w/\∀m∈L.take k,m.length<=mx
theorem longLists_any{w:World}{lv:Value}{L:List (List UInt8)}(hl:LsAt w lv L)(n mx:Nat)(hn:n<=1000000)(hsz:mx<=1000000):Calls prog 77 #[lv,.int .i64 n,.int .i64 mx] w (RetM (.bool (longB L n mx)) w):=by
 obtain⟨lad,lcap,rfl,hle,-⟩:=Sl.at hl;have HL:=hid hl
 have HR0:Hid (LngRel w L n mx (.int .i64 (0:Nat)) w):=hid ⟨0,Nat.zero_le _,Nat.zero_le _,rfl,Mod.refl _ _,by simp⟩;clear hl;go_enter func77,ntmps77;go_wp2
 go_loopw [7] (LngRel w L n mx) (fun i _=>L.length+1-(intOf i).toNat)
 case atStart=>exact HR0.out
 case round=>
  rename World=>wr
  obtain⟨k,hk,hkn,rfl,hmr,hpre⟩:=hrel
  by_cases hlt:k<L.length
  ·have hz:(k:Int)<(L.length:Nat):=by omega
   by_cases hkle:k<=n
   ·have hz2:(k:Int)<=(n:Nat):=by omega
    obtain⟨_,_,hae,-,hat⟩:=(lsAt_keep0 HL.out hmr).at;injection hae with hae1 hae2 hae3;subst hae1 hae3;obtain⟨b,off,rfl,-,-,hcc⟩:=hat k hlt
    obtain⟨cs,-,⟨vk,rfl,hvk⟩,hcA⟩:=hcc k hlt;have hc:=CellsAt.one.1 hcA;have hsn:=take_snoc hlt;have hbg:mx<L[k].length->longB L n mx=true:=longB_big hlt hkle
    have HBG:=hid hbg;clear hbg;generalize L[k]=m at*;obtain⟨va,vc,rfl,hml,-⟩:=Sl.at hvk;clear hcc hcA hvk hat hae2;go_upto_region 4 with(fail)
    refine wpR [3,3,3,1,3,3,3] (by rfl) (by rfl) ?_;simp only[stz];refine qV _ _ _ _ _ _ _ _ _ rfl rfl rfl rfl underlying22 (n:=1) (by kernel_rfl) hlt ?_
    simp only[nmz];refine wpXd 53 b (off+k*1) hc underlying53 trivial ?_;try simp only[nmz]
    refine zC _ _ _ _ _ rfl rfl rfl (by kernel_rfl) ?_;simp only[stz];refine qG (v:=?_) rfl (fun w'=>?_) ?_;rotate_left;·(go_simp;try with_reducible rfl)
    simp only[stz]
    by_cases hbig:m.length>mx
    ·have hz3:(m.length:Int)>(mx:Nat):=by omega
     have HV:=hid (HBG.out hbig);clear hc hsn hpre;go_wp2;go_ret;exact⟨by rw[HV.out];rfl,hmr⟩
    ·have hz3:¬(m.length:Int)>(mx:Nat):=by omega
     have HR:Hid (LngRel w L n mx (.int .i64 ((k+1:Nat):Int)) wr):=hid ⟨k+1,by omega,by omega,rfl,hmr,fun x hx=>by
      rw[<-hsn,List.mem_append,List.mem_singleton]at hx
      rcases hx with hx|rfl
      ·exact hpre x hx
      ·omega⟩
     clear hc hsn hpre;go_wp2
     go_roundw
     case rel=>exact HR.out
     case measure=>simp[intOf];omega
   ·have hz2:¬(k:Int)<=(n:Nat):=by omega
    have hz4:(L.length:Int)>(n:Nat):=by omega
    have HV:=hid (longB_many (mx:=mx) (show n<L.length by omega));clear hpre;go_wp2;go_ret;exact⟨by rw[HV.out];rfl,hmr⟩
  ·have hz:¬(k:Int)<(L.length:Nat):=by omega
   obtain rfl:k=L.length:=by omega
   rw[List.take_length]at hpre;have HP:=hid hpre;clear hpre
   by_cases hgt:L.length>n
   ·have hz4:(L.length:Int)>(n:Nat):=by omega
    have HV:=hid (longB_many (mx:=mx) (show n<L.length by omega));go_wp2;go_ret;exact⟨by rw[HV.out];rfl,hmr⟩
   ·have hz4:¬(L.length:Int)>(n:Nat):=by omega
    have HV:=hid (longB_not (mx:=mx) (show L.length<=n by omega) HP.out);go_wp2;go_ret;exact⟨by rw[HV.out];rfl,hmr⟩
theorem long13_any{w:World}{lv:Value}{L:List (List UInt8)}(hl:LsAt w lv L):Calls prog 15 #[lv] w (RetM (.bool (longB L 30 700)) w):=by
 have hcall:=longLists_any hl 30 700 (by omega) (by omega);go_enter func15,ntmps15;go_upto_region 1 with(fail);refine wpR [3,1,3] (by rfl) (by rfl) ?_;simp only[zz2]
 refine qC _ rfl rfl ?_;simp only[nmz];refine wpDo rfl ?_
 refine qD (qF 77 [.tmp 3,.const (.int .i64 30),.const (.int .i64 700)] _ rfl _ func77 rfl (by kernel_rfl) [lv,.int .i64 ((30:Nat):Int),.int .i64 ((700:Nat):Int)] rfl _) (hcall) ?_
 rintro e w2 ⟨rfl,hm2⟩;refine⟨_,rfl,?_⟩;refine qJ _ rfl rfl ?_;simp only[nmz];refine qK ?_;go_wp2;go_ret;exact⟨rfl,hm2⟩
def PickedR(w:World):Ending->World->Prop:=fun e w'=>Mod NoB w w'/\∃x,e=.returned (.agg (qA x))/\x.length=32
theorem picked13_any{w:World}{bs wd:Nat}{c:BlobL}{Ft:Nat->Prop}(H:StoAt w bs wd c Ft)(hc:c.length<=1000){n:Int}(hn:I64 n):Calls prog 32 #[.pointer (some ⟨bs,0,none⟩),.int .i64 n] w (PickedR w):=by
 have hzb:(qA (List.replicate 32 0)).size=32:=idZ_size;have hzc:(qA zeros32).size=32:=idZ_size;have hf:=H.facts;go_enter func32,ntmps32
 go_upto_region 0 with(fail);refine wpR [1] (by rfl) (by rfl) ?_;simp only[zz2];refine wpDo rfl ?_;refine qU 24 _ (by rfl) idZ (fun w1 hB1 hm1 hs1=>?_)
 replace hB1:w1.heap[w.heap.size]?=some (.cells (qA zeros32) 24 (0,0)):=hB1;try simp only[nmz]
 refine qK ?_;have hids:=(H.keep0 hm1).ids;go_upto_region 1 with(fail);refine wpR [3,1,3] (by rfl) (by rfl) ?_;simp only[zz2];refine qC _ rfl rfl ?_
 simp only[nmz];refine wpDo rfl ?_;refine qD (qF 38 [.tmp 6] _ rfl _ func38 rfl (by kernel_rfl) [.pointer (some ⟨bs,0,none⟩)] rfl _) (hids) ?_
 rintro e w2 ⟨hm2,v,ids,he2,hg2,hc2⟩;subst he2;refine⟨_,rfl,?_⟩;refine qJ _ rfl rfl ?_;simp only[nmz];refine qK ?_
 have h32:∀x∈ids,x.length=32:=fun x hx=>hf.2 x ((hc2.2.mem_iff).1 hx);have hlen:ids.length<=1000:=by rw[hc2.2.length_eq,List.length_map];exact hc
 have hl2:=slI hg2 h32;obtain⟨ad,cp,rfl,hle,hat⟩:=Sl.at hl2;have hB2:=hm2.obj id hB1;have hm02:=hm1.trans0 hm2
 have hb4:w.heap.size<w2.heap.size:=by have:=hm2.size;have h:w.heap.size<w1.heap.size:=hs1;omega
 generalize hb:w.heap.size=b4 at*;clear hids hm1 hm2 hs1 hB1 hl2 hg2 hc2 hf H hc
 by_cases h0:ids.length=0
 ·have hz:((ids.length:Nat):Int)=0:=by omega
  go_upto_region 3 with(fail);refine wpR [0,1] (by rfl) (by rfl) ?_;simp only[zz2];refine qW rfl (fun w' hS=>qS 24 [] [] _ (by rfl) (by rfl) built_id0) ?_
  simp only[nmz];refine wpDo rfl ?_
  refine qM 24 _ _ b4 0 (qA (List.replicate 32 0)) (by rfl) (by rfl) (by rfl) (qZ _) 32 (by kernel_rfl) hzb _ _ hB2 (by rw[hzb,qE];exact Nat.le_refl _) (fun w3 hB3 hm3=>?_)
  rw[qI (by rw[hzb,qE];rfl)]at hB3;try simp only[nmz]
  refine qK ?_;have hm03:=hm02.transB hm3 (by omega);clear hat;go_wp2
  refine bodyPost_ret (results_row1 (P:=prog) (ty:=24) rfl _ _ b4 _ _ _ _ (by rfl) hB3 underlying24 rfl (by rw[hzb];kernel_rfl)) rfl ?_;exact⟨hm03,_,rfl,by simp⟩
 ·have hz:¬((ids.length:Nat):Int)=0:=by omega
  have hp:=pick_any n (ids.length:Nat) hn (by omega) w2;have hpl:=pickZ_lt n (ids.length:Nat) (by omega)
  obtain⟨k,hk⟩:∃k:Nat,pickZ n (ids.length:Nat)=(k:Int):=⟨(pickZ n (ids.length:Nat)).toNat,by omega⟩;rw[hk]at hp hpl;have hlt:k<ids.length:=by omega
  obtain⟨b,off,rfl,-,-,hcc⟩:=hat k hlt;obtain⟨cs,-,⟨rfl,hx32⟩,hcA⟩:=hcc k hlt;generalize ids[k]=x at*
  have hic:(qA x).size=32:=by rw[qE,hx32]
  clear hcc hk h32 hpl;go_upto_region 4 with(fail);refine wpR [3,3,3,3,1,3,1,1] (by rfl) (by rfl) ?_;simp only[zz2];refine qC _ rfl rfl ?_;simp only[nmz]
  refine qC _ rfl rfl ?_;simp only[nmz];refine qC _ rfl rfl ?_;simp only[nmz];refine zC _ _ _ _ _ rfl rfl rfl (by kernel_rfl) ?_;simp only[nmz]
  refine wpDo rfl ?_;refine qD (qF 17 [.tmp 13,.tmp 15] _ rfl _ func17 rfl (by kernel_rfl) [.int .i64 n,.int .i64 ((ids.length:Nat):Int)] rfl _) (hp) ?_
  rintro e w3 ⟨rfl,hw⟩;obtain rfl:=hw.symm;refine⟨_,rfl,?_⟩;try simp only[nmz]
  refine qV _ _ _ _ _ _ _ _ _ rfl rfl rfl rfl underlying25 (n:=32) (by kernel_rfl) hlt ?_;simp only[nmz]
  refine wpXA 24 b (off+k*32) (qA x) hcA underlying24 32 hic trivial ?_;try simp only[nmz]
  refine wpDo rfl ?_
  refine qM 24 _ _ b4 0 (qA x) (by rfl) (by rfl) (by rfl) (qZ _) 32 (by kernel_rfl) hic _ _ hB2 (by rw[hic,hzc];exact Nat.le_refl _) (fun w4 hB4 hm4=>?_)
  rw[qI (by rw[hic,hzc])]at hB4;try simp only[nmz]
  refine qK ?_;have hm03:=hm02.transB hm4 (by omega);clear hp hcA;go_wp2
  refine bodyPost_ret (results_row1 (P:=prog) (ty:=24) rfl _ _ b4 _ _ _ _ (by rfl) hB4 underlying24 rfl (by rw[hic];kernel_rfl)) rfl ?_;exact⟨hm03,_,rfl,hx32⟩
end
section
open Go.RowKit Go.Proofs.Tryz Go.Lib
theorem walkDs_same{g g':DescL->List Thg×Option WErr}:∀{ds:List DescL},(∀d∈ds,g d=g' d)->zY g ds=zY g' ds
 | [],_=>rfl
 |d::ds,h=>by rw[zY,zY,h d (by simp),walkDs_same fun d hd=>h d (by simp[hd])]
theorem walk_same{c c':BlobM}:∀(f:Nat)(t:Thg),(∀y,(if treeT t=true then inR c f t.d.id t.depth y else y=t.d.id)->getL y c=getL y c')->walkL c f t=walkL c' f t
 |0,_,_=>rfl
 |f+1,t,h=>by
  have hid:getL t.d.id c=getL t.d.id c':=h _ (by split;exact .inl rfl;rfl);unfold walkL;rw[<-hid]
  cases hg:getL t.d.id c with
  |none=>rfl
  |some b=>
   dsimp only
   by_cases h1:(t.first||decide (b.length=t.d.size))=false
   ·rw[if_pos h1,if_pos h1]
   rw[if_neg h1,if_neg h1]
   by_cases h2:treeT t=false
   ·rw[if_pos h2,if_pos h2]
   rw[if_neg h2,if_neg h2]
   by_cases h3:4<t.depth
   ·rw[if_pos h3,if_pos h3]
   rw[if_neg h3,if_neg h3]
   cases hd:decL b with
   |none=>rfl
   |some m=>
    dsimp only
    have ht:treeT t=true:=by simpa using h2
    have he:zY (fun d=>walkL c f ⟨d,t.depth+1,false⟩) (xC m)=zY (fun d=>walkL c' f ⟨d,t.depth+1,false⟩) (xC m):=walkDs_same fun d hm=>walk_same f _ fun y hy=>h y (by
     rw[if_pos ht];refine .inr ⟨by omega,xC m,by unfold yY;rw[hg];show(decL b).map xC=_;rw[hd];rfl,d,hm,?_⟩
     have e:treeT ⟨d,t.depth+1,false⟩=yD d:=rfl;rw[e]at hy
     exact hy)
    rw[he]
theorem walkOut_same{c c':BlobM}{id:List UInt8}(h:∀y,inR c 5 id 1 y->getL y c=getL y c'){ids ids':List (List UInt8)}{bad bad':List UInt8}{n n':Int}(h1:xJ c id ids bad n)(h2:xJ c' id ids' bad' n'):ids=ids'/\bad=bad'/\n=n':=by
 have e:=walk_same (c:=c) (c':=c') 5 (thgI id) fun y hy=>h y hy;unfold xJ at h1 h2;rw[<-e]at h2
 cases hx:(walkL c 5 (thgI id)).2 with
 |some e=>
  rw[hx]at h1 h2;obtain⟨rfl,rfl,rfl⟩:=h1;obtain⟨rfl,rfl,rfl⟩:=h2;exact⟨rfl,rfl,rfl⟩
 |none=>
  rw[hx]at h1 h2
  dsimp only at h1 h2
  split at h1
  ·rename_i hg
   rw[if_pos hg]at h2;obtain⟨rfl,rfl,rfl⟩:=h1;obtain⟨rfl,rfl,rfl⟩:=h2;exact⟨rfl,rfl,rfl⟩
  ·rename_i hg
   rw[if_neg hg]at h2;obtain⟨⟨a1,a2⟩,rfl,rfl⟩:=h1;obtain⟨⟨b1,b2⟩,rfl,rfl⟩:=h2;exact⟨sorted_ext a1 b1 fun x=>by rw[a2.mem_iff,b2.mem_iff],rfl,rfl⟩
structure LeftOf(c:BlobL)(l:LinkL)(marks gone:List (List UInt8))(s:SwS):Prop where
 nd:(s.1.map (·.1)).Nodup
 get:∀x,getL x s.1=if x∈gone then none else getL x c
 lk:s.2.1=l.filter (fun p=> !decide (p.1.2∈gone))
 len:s.1.length+gone.length=c.length
 used:usedL s.1+s.2.2.1=usedL c
 sum:s.2.2.2=(gone.map (forgetN l)).sum
 gnd:gone.Nodup
 mem:∀x,x∈gone↔(getL x c).isSome=true/\x∉marks
section
variable{c:BlobL}{l:LinkL}{marks gone:List (List UInt8)}{s:SwS}(H:LeftOf c l marks gone s)
include H
theorem LeftOf.same{x:List UInt8}(hx:x∈marks):getL x c=getL x s.1:=by
 rw[H.get,if_neg fun hg=>((H.mem x).1 hg).2 hx]
theorem LeftOf.walk{roots:List (List UInt8)}{evs:List Evt}(hM:MarkedOf c roots evs marks){id:List UInt8}(hr:id∈roots){ids ids':List (List UInt8)}{bad bad':List UInt8}{n n':Int}(h1:xJ c id ids bad n)(h2:xJ s.1 id ids' bad' n'):ids=ids'/\bad=bad'/\n=n':=
 walkOut_same (fun y hy=>H.same ((hM.2 y).2 (.inl ⟨id,hr,hy⟩))) h1 h2
end
end
section
open Go.Proofs.Tryz Go.Lib
def idsT(l:List Thg):List (List UInt8):=l.map (·.d.id)
theorem idsT_append(a b:List Thg):idsT (a++b)=idsT a++idsT b:=List.map_append
theorem walkDs_gone{g g':DescL->List Thg×Option WErr}{x:List UInt8}{e:WErr}:∀(ds:List DescL),(∀d∈ds,(g d).2=none->(x∈idsT (g d).1->(g' d).2=some e)/\(x∉idsT (g d).1->g' d=g d))->(zY g ds).2=none->(x∈idsT (zY g ds).1->(zY g' ds).2=some e)/\(x∉idsT (zY g ds).1->zY g' ds=zY g ds)
 | [],_,_=>⟨fun h=>(by cases h),fun _=>rfl⟩
 |d::ds,h,hn=>by
  simp only[zY]at hn |-
  cases h0:(g d).2 with
  |some e'=>rw[h0]at hn;cases hn
  |none=>
   rw[h0]at hn;simp only at hn |-;obtain⟨h1,h2⟩:=h d List.mem_cons_self h0;obtain⟨h3,h4⟩:=walkDs_gone ds (fun d hd=>h d (List.mem_cons_of_mem _ hd)) hn
   by_cases hx:x∈idsT (g d).1
   ·have h5:=h1 hx
    refine⟨fun _=>by rw[h5],fun hc=>absurd ?_ hc⟩;rw[idsT_append];exact List.mem_append_left _ hx
   ·rw[h2 hx,h0]
    simp only
    rw[idsT_append];refine⟨fun hm=>h3 ((List.mem_append.1 hm).resolve_left hx),fun hm=>?_⟩;rw[h4 fun hc=>hm (List.mem_append_right _ hc)]
theorem walkL_eq(c:BlobM)(f:Nat)(t:Thg):walkL c (f+1) t=match getL t.d.id c with
 |none=>([],some (t.d.id,14))
 |some b=>
  if(t.first||decide (b.length=t.d.size))=false then([],some (t.d.id,17))
  else if treeT t=false then(if(decide (t.d.media=1)||decide (t.d.media=2))=false then([],some (t.d.id,20))else([t],none))
  else if 4<t.depth then([],some (t.d.id,18))
  else match decL b with
   |none=>([],some (t.d.id,5))
   |some m=>
    if(t.first||decide (m.kind=t.d.media))=false then([],some (t.d.id,20))
    else(t::(zY (fun d=>walkL c f ⟨d,t.depth+1,false⟩) (xC m)).1,(zY (fun d=>walkL c f ⟨d,t.depth+1,false⟩) (xC m)).2):=rfl
theorem walkL_self{c:BlobM}{f:Nat}{t:Thg}(h:(walkL c (f+1) t).2=none):∃l,(walkL c (f+1) t).1=t::l:=by
 rw[walkL_eq c f t]at h |-
 cases h0:getL t.d.id c with
 |none=>rw[h0]at h;cases h
 |some b=>
  rw[h0]at h
  dsimp only at h |-
  split at h
  ·cases h
  rename_i h1
  rw[if_neg h1]
  split at h
  ·rename_i h2
   rw[if_pos h2]
   split at h
   ·cases h
   rename_i h3
   rw[if_neg h3];exact⟨_,rfl⟩
  rename_i h2
  rw[if_neg h2]
  split at h
  ·cases h
  rename_i h3
  rw[if_neg h3]
  cases hd:decL b with
  |none=>rw[hd]at h;cases h
  |some m=>
   rw[hd]at h
   dsimp only at h |-
   split at h
   ·cases h
   rename_i h4
   rw[if_neg h4];exact⟨_,rfl⟩
theorem walkL_tree{c:BlobM}{f:Nat}{t:Thg}(ht:treeT t=true)(h:(walkL c (f+1) t).2=none):∃ds,t.depth<=4/\yY c t.d.id=some ds/\(zY (fun d=>walkL c f ⟨d,t.depth+1,false⟩) ds).2=none/\(walkL c (f+1) t).1=t::(zY (fun d=>walkL c f ⟨d,t.depth+1,false⟩) ds).1:=by
 rw[walkL_eq c f t]at h |-
 cases h0:getL t.d.id c with
 |none=>rw[h0]at h;cases h
 |some b=>
  rw[h0]at h
  dsimp only at h |-
  split at h
  ·cases h
  rename_i h1
  rw[if_neg h1]
  split at h
  ·rename_i h2
   rw[ht]at h2;cases h2
  rename_i h2
  rw[if_neg h2]
  split at h
  ·cases h
  rename_i h3
  rw[if_neg h3]
  cases hd:decL b with
  |none=>rw[hd]at h;cases h
  |some m=>
   rw[hd]at h
   dsimp only at h |-
   split at h
   ·cases h
   rename_i h4
   rw[if_neg h4];refine⟨xC m,by omega,?_,h,rfl⟩;unfold yY;rw[h0]
   show(decL b).map xC=_
   rw[hd];rfl
theorem walkL_leaf{c:BlobM}{f:Nat}{t:Thg}(ht:treeT t=false)(h:(walkL c (f+1) t).2=none):(walkL c (f+1) t).1=[t]:=by
 rw[walkL_eq c f t]at h |-
 cases h0:getL t.d.id c with
 |none=>rw[h0]at h;cases h
 |some b=>
  rw[h0]at h
  dsimp only at h |-
  split at h
  ·cases h
  rename_i h1
  rw[if_neg h1];rw[if_pos ht]
  split at h
  ·cases h
  rename_i h3
  rw[if_neg h3]
theorem walkDs_all(g:DescL->List Thg×Option WErr):∀(ds:List DescL),(zY g ds).2=none->∀d∈ds,(g d).2=none/\∀t∈(g d).1,t∈(zY g ds).1
 | [],_,d,hd=>by cases hd
 |d0::ds,h,d,hd=>by
  simp only[zY]at h |-
  cases h0:(g d0).2 with
  |some e=>rw[h0]at h;cases h
  |none=>
   rw[h0]at h;simp only at h |-
   rcases List.mem_cons.1 hd with rfl|hd
   ·exact⟨h0,fun t ht=>List.mem_append_left _ ht⟩
   ·obtain⟨h1,h2⟩:=walkDs_all g ds h d hd
    exact⟨h1,fun t ht=>List.mem_append_right _ (h2 t ht)⟩
theorem walkL_all{c:BlobM}:∀(f:Nat)(t:Thg),treeT t=true->t.depth+f=6->(walkL c f t).2=none->∀y,inR c f t.d.id t.depth y->y∈idsT (walkL c f t).1
 |0,_,_,_,_,_,h=>h.elim
 |f+1,t,ht,hf,hn,y,hy=>by
  obtain⟨ds,h4,hds,hw,e⟩:=walkL_tree ht hn;rw[e]
  rcases hy with rfl|⟨_,ds',hds',d,hd,hx⟩
  ·exact List.mem_cons_self
  ·rw[hds]at hds';cases hds'
   obtain⟨h1,h2⟩:=walkDs_all _ ds hw d hd;refine List.mem_cons_of_mem _ ?_
   split at hx
   ·rename_i hi
    obtain⟨t',ht',rfl⟩:=List.mem_map.1 (walkL_all f ⟨d,t.depth+1,false⟩ hi (by show t.depth+1+f=6;omega) h1 y hx);exact List.mem_map.2 ⟨t',h2 t' ht',rfl⟩
   ·subst hx
    cases f with
    |zero=>omega
    |succ f=>
     obtain⟨l,hl⟩:=walkL_self h1;exact List.mem_map.2 ⟨⟨d,t.depth+1,false⟩,h2 _ (by show _∈(walkL c (f+1) _).1;rw[hl];exact List.mem_cons_self),rfl⟩
theorem walkL_only{c:BlobM}:∀(f:Nat)(t:Thg),treeT t=true->(walkL c f t).2=none->∀t'∈(walkL c f t).1,inR c f t.d.id t.depth t'.d.id
 |0,_,_,_,_,h=>by cases h
 |f+1,t,ht,hn,t',hm=>by
  obtain⟨ds,h4,hds,hw,e⟩:=walkL_tree ht hn;rw[e]at hm
  rcases List.mem_cons.1 hm with rfl|hm
  ·exact .inl rfl
  ·obtain⟨d,hd,hx⟩:=walkDs_mem _ ds t' hm
   have h1:=(walkDs_all _ ds hw d hd).1;refine .inr ⟨h4,ds,hds,d,hd,?_⟩
   by_cases hi:yD d=true
   ·rw[if_pos hi]
    exact walkL_only f ⟨d,t.depth+1,false⟩ hi h1 t' hx
   ·rw[if_neg hi]
    cases f with
    |zero=>cases hx
    |succ f=>
     have hf:treeT ⟨d,t.depth+1,false⟩=false:=by simpa[treeT]using hi
     have hx:t'∈(walkL c (f+1) ⟨d,t.depth+1,false⟩).1:=hx;rw[walkL_leaf hf h1]at hx;rw[List.mem_singleton.1 hx]
theorem walkL_gone{c c':BlobM}{x:List UInt8}(hx:getL x c'=none)(hs:∀y,y≠x->getL y c'=getL y c):∀(f:Nat)(t:Thg),(walkL c f t).2=none->(x∈idsT (walkL c f t).1->(walkL c' f t).2=some (x,14))/\(x∉idsT (walkL c f t).1->walkL c' f t=walkL c f t)
 |0,t,_=>⟨fun h=>(by cases h),fun _=>rfl⟩
 |f+1,t,hn=>by
  by_cases hid:t.d.id=x
  ·have e:walkL c' (f+1) t=([],some (x,14)):=by rw[walkL_eq,hid,hx]
   refine⟨fun _=>by rw[e],fun hc=>absurd ?_ hc⟩;obtain⟨l,hl⟩:=walkL_self hn;rw[hl,<-hid];exact List.mem_cons_self
  ·have hg:=hs _ hid
   by_cases ht:treeT t=true
   ·obtain⟨ds,h4,hds,hw,e⟩:=walkL_tree ht hn
    have ih:=walkDs_gone (g:=fun d=>walkL c f ⟨d,t.depth+1,false⟩) (g':=fun d=>walkL c' f ⟨d,t.depth+1,false⟩) (x:=x) (e:=(x,14)) ds (fun d _ h=>walkL_gone hx hs f _ h) hw
    have e':walkL c' (f+1) t=(t::(zY (fun d=>walkL c' f ⟨d,t.depth+1,false⟩) ds).1,(zY (fun d=>walkL c' f ⟨d,t.depth+1,false⟩) ds).2):=by
     rw[walkL_eq c f t]at hn;rw[walkL_eq c' f t,hg];unfold yY at hds
     cases h0:getL t.d.id c with
     |none=>rw[h0]at hn;cases hn
     |some b=>
      rw[h0]at hn hds
      dsimp only at hn hds |-
      split at hn
      ·cases hn
      rename_i h1
      rw[if_neg h1]
      split at hn
      ·rename_i h2
       rw[ht]at h2;cases h2
      rename_i h2
      rw[if_neg h2]
      split at hn
      ·cases hn
      rename_i h3
      rw[if_neg h3]
      cases hd:decL b with
      |none=>rw[hd]at hn;cases hn
      |some m=>
       rw[hd]at hn hds
       cases hds
       dsimp only at hn |-
       split at hn
       ·cases hn
       rename_i h4
       rw[if_neg h4]
    have hne:∀l:List Thg,(x∈idsT (t::l)↔x∈idsT l):=fun l=>by
     show x∈t.d.id::idsT l↔_
     rw[List.mem_cons];exact⟨fun h=>h.resolve_left fun e=>hid e.symm,.inr⟩
    rw[e',e,hne];refine⟨ih.1,fun hm=>?_⟩;rw[ih.2 hm,<-e,hw,<-hn]
   ·have ht:treeT t=false:=by simpa using ht
    have e:=walkL_leaf ht hn
    have e':walkL c' (f+1) t=walkL c (f+1) t:=by
     rw[walkL_eq c' f t,walkL_eq c f t,hg]
     cases h0:getL t.d.id c with
     |none=>rfl
     |some b=>
      dsimp only
      rw[if_pos ht,if_pos ht]
    refine⟨fun hm=>?_,fun _=>e'⟩;rw[e]at hm;exact absurd (List.mem_singleton.1 hm).symm hid
structure OkW(c:BlobM)(id:List UInt8)(ids:List (List UInt8)):Prop where
 fine:(walkL c 5 (thgI id)).2=none
 sort:ids.Pairwise (fun a b=>a<b)
 mem:∀x,x∈ids↔x∈idsT (walkL c 5 (thgI id)).1
 few:ids.length<=256
theorem walkOut_ok{c:BlobM}{id bad:List UInt8}{ids:List (List UInt8)}(hid:id.length=32)(h:xJ c id ids bad 0):OkW c id ids/\bad=zeros32:=by
 unfold xJ at h
 cases hx:(walkL c 5 (thgI id)).2 with
 |some e=>
  rw[hx]at h;have h1:=walkL_err c 5 (thgI id) e hid hx;have h2:(0:Int)=e.2:=h.2.2;omega
 |none=>
  rw[hx]at h
  dsimp only at h
  split at h
  ·exact absurd h.2.2 (by decide)
  ·rename_i hf
   obtain⟨⟨h1,h2⟩,h3,_⟩:=h;refine⟨⟨hx,h1,fun x=>?_,?_⟩,h3⟩
   ·rw[h2.mem_iff,(walkM_keys _).2 x]
    exact⟨fun⟨t,ht,e⟩=>List.mem_map.2 ⟨t,ht,e⟩,fun h=>by
     obtain⟨t,ht,e⟩:=List.mem_map.1 h
     exact⟨t,ht,e⟩⟩
   ·rw[h2.length_eq,List.length_map];omega
section
variable{c:BlobM}{id:List UInt8}{ids:List (List UInt8)}(H:OkW c id ids)
include H
theorem OkW.self:id∈ids:=by
 obtain⟨l,hl⟩:=walkL_self (f:=4) H.fine;rw[H.mem,hl];exact List.mem_cons_self
theorem OkW.kept{x:List UInt8}(hx:x∈ids):(getL x c).isSome=true:=by
 obtain⟨t,ht,rfl⟩:=List.mem_map.1 ((H.mem x).1 hx);exact walkL_in c 5 _ t ht
theorem OkW.inR(x:List UInt8):x∈ids↔inR c 5 id 1 x:=by
 rw[H.mem];refine⟨fun h=>?_,walkL_all 5 (thgI id) rfl rfl H.fine x⟩;obtain⟨t,ht,rfl⟩:=List.mem_map.1 h;exact walkL_only 5 (thgI id) rfl H.fine t ht
theorem OkW.move{c':BlobM}(hs:∀x∈ids,getL x c'=getL x c):OkW c' id ids:=by
 have e:=walk_same (c:=c) (c':=c') 5 (thgI id) fun y hy=>(hs y ((H.inR y).2 hy)).symm;exact⟨by rw[<-e];exact H.fine,H.sort,fun x=>by rw[<-e];exact H.mem x,H.few⟩
theorem OkW.same{c':BlobM}(hs:∀x∈ids,getL x c'=getL x c){ids':List (List UInt8)}{bad:List UInt8}{n:Int}(h:xJ c' id ids' bad n):ids'=ids/\bad=zeros32/\n=0:=by
 have e:=walk_same (c:=c) (c':=c') 5 (thgI id) fun y hy=>(hs y ((H.inR y).2 hy)).symm
 have hk:(walkM (walkL c' 5 (thgI id)).1).length<=256:=by
  have h1:=walkM_keys (walkL c' 5 (thgI id)).1
  have h2:=yJ (m:=ids) h1.1 fun x hx=>by
   rw[H.mem,e];obtain⟨t,ht,rfl⟩:=(h1.2 x).1 hx;exact List.mem_map.2 ⟨t,ht,rfl⟩
  rw[List.length_map]at h2;exact Nat.le_trans h2 H.few
 unfold xJ at h;rw[<-e,H.fine]at h
 dsimp only at h
 rw[e,if_neg (by omega)]at h;obtain⟨⟨h1,h2⟩,h3,h4⟩:=h;refine⟨sorted_ext h1 H.sort fun x=>?_,h3,h4⟩;rw[h2.mem_iff,H.mem,e,(walkM_keys _).2 x]
 exact⟨fun⟨t,ht,e⟩=>List.mem_map.2 ⟨t,ht,e⟩,fun h=>by
  obtain⟨t,ht,e⟩:=List.mem_map.1 h
  exact⟨t,ht,e⟩⟩
theorem OkW.gone{c':BlobM}{x:List UInt8}(hx:x∈ids)(h0:getL x c'=none)(hs:∀y,y≠x->getL y c'=getL y c){ids':List (List UInt8)}{bad:List UInt8}{n:Int}(h:xJ c' id ids' bad n):ids'=[]/\bad=x/\n=14:=by
 have e:=(walkL_gone h0 hs 5 (thgI id) H.fine).1 ((H.mem x).1 hx);unfold xJ at h;rw[e]at h;exact h
end
end
section
open Go.RowKit Go.Proofs.Tryz Go.Lib
def HasRelC(w0:World)(l:List (List UInt8))(x:List UInt8)(i:Value)(w:World):Prop:=∃k:Nat,k<=l.length/\i=.int .i64 k/\(∀j (h:j<l.length),j<k->l[j]≠x)/\Mod NoB w0 w
theorem has13_any{own:Bool}{G:Nat->Prop}{w:World}{v:Value}{l:List (List UInt8)}{x:List UInt8}(hl:Sl own w G 32 IdC v l)(hx:x.length=32):Calls prog 34 #[v,.agg (qA x)] w (RetM (.bool (decide (x∈l))) w):=by
 obtain⟨ad,cap,rfl,hlm,-⟩:=Sl.at hl;have hic:(qA x).size=32:=by rw[qE,hx]
 have HL:=hid hl;clear hl;obtain⟨r,hr⟩:∃r,decide (x∈l)=r:=⟨_,rfl⟩;have HR:=hid hr;rw[hr];clear hr;go_enter func34,ntmps34;go_upto_region 0 with(fail)
 refine wpR [1,3] (by rfl) (by rfl) ?_;simp only[zz2];refine wpDo rfl ?_;refine xA 24 _ _ (by rfl) (by rfl) (fun w1 hB1 hm1 hs1=>?_)
 replace hB1:w1.heap[w.heap.size]?=some (.cells (qA x) 24 (0,0)):=hB1;refine qJ _ rfl rfl ?_;simp only[nmz];refine qK ?_;have hl1:=HL.out.keep0 hm1
 have hc1:CellsAt w1 w.heap.size 0 (qA x):=CellsAt.whole hB1;have HL1:=hid hl1;have hm01:=hid hm1;generalize w.heap.size=b0 at*;clear hl1 hB1 hs1 hm1;go_wp2
 go_loopw [5] (HasRelC w1 l x) (fun i _=>l.length-(intOf i).toNat)
 case atStart=>exact⟨0,Nat.zero_le _,rfl,fun j h hj=>absurd hj (Nat.not_lt_zero _),Mod.refl _ _⟩
 case round=>
  rename World=>wr
  obtain⟨k,hk,rfl,hall,hmr⟩:=hrel
  by_cases hlt:k<l.length
  ·have hz:(k:Int)<(l.length:Nat):=by omega
   obtain⟨_,_,hae,-,hat⟩:=(HL1.out.keep0 hmr).at;injection hae with hae1 hae2 hae3;subst hae1 hae3;obtain⟨b,off,rfl,-,-,hcc⟩:=hat k hlt
   obtain⟨cs,-,⟨rfl,hy32⟩,hcA⟩:=hcc k hlt;have hyi:(qA l[k]).size=32:=by rw[qE,hy32]
   have hcx:=hc1.keep hmr id
   by_cases heq:l[k]=x
   ·have HD:Hid (decide (l[k]=x)=true):=hid (decide_eq_true heq)
    have HRT:Hid (r=true):=hid (by rw[<-HR.out];exact decide_eq_true (heq▸List.getElem_mem hlt));clear hat hcc hae2 hall heq;go_upto_region 4 with(fail)
    have hS:Mod NoB wr wr.drew:=(Mod.refl _ _).drew;refine wpRP [(0,3),(1,3),(2,3),(3,0),(4,0),(5,0)] [] (fun w'=>Mod NoB wr w') hS ?_;simp only[zz4]
    refine qC _ rfl rfl ?_;simp only[nmz];refine qC _ rfl rfl ?_;simp only[nmz]
    refine qV _ _ _ _ _ _ _ _ _ rfl rfl rfl rfl underlying25 (n:=32) (by kernel_rfl) hlt ?_;simp only[nmz]
    refine qW rfl (fun w' hS=>xL 24 _ rfl _ _ rfl _ (hcA.keep hS id) _ underlying24 rfl 32 (by kernel_rfl) hyi) ?_;simp only[nmz]
    refine qW rfl (fun w' hS=>xL 24 _ rfl _ _ rfl _ (hcx.keep hS id) _ underlying24 rfl 32 (by kernel_rfl) hic) ?_;simp only[nmz]
    refine qW rfl (fun w' hS=>exec_eql_id _ _ _ _ rfl _ _ rfl rfl 32 5 underlying24 underlying5 (by kernel_rfl) (by kernel_rfl) hy32 hx true HD.out) ?_;simp only[nmz]
    refine qK ?_;go_wp2;go_ret;exact⟨by rw[HRT.out];rfl,hm01.out.trans0 (hmr.trans0 hS)⟩
   ·have HD:Hid (decide (l[k]=x)=false):=hid (decide_eq_false heq)
    have HA:Hid (∀j (h:j<l.length),j<k+1->l[j]≠x):=hid (fun j h hj=>by
     rcases Nat.lt_or_ge j k with h1|h1
     ·exact hall j h h1
     ·have e:j=k:=by omega
      subst e;exact heq)
    clear hat hcc hae2 hall heq;go_upto_region 4 with(fail);have hS:Mod NoB wr wr.drew:=(Mod.refl _ _).drew
    refine wpRP [(0,3),(1,3),(2,3),(3,0),(4,0),(5,0)] [] (fun w'=>Mod NoB wr w') hS ?_;simp only[zz4];refine qC _ rfl rfl ?_;simp only[nmz]
    refine qC _ rfl rfl ?_;simp only[nmz];refine qV _ _ _ _ _ _ _ _ _ rfl rfl rfl rfl underlying25 (n:=32) (by kernel_rfl) hlt ?_;simp only[nmz]
    refine qW rfl (fun w' hS=>xL 24 _ rfl _ _ rfl _ (hcA.keep hS id) _ underlying24 rfl 32 (by kernel_rfl) hyi) ?_;simp only[nmz]
    refine qW rfl (fun w' hS=>xL 24 _ rfl _ _ rfl _ (hcx.keep hS id) _ underlying24 rfl 32 (by kernel_rfl) hic) ?_;simp only[nmz]
    refine qW rfl (fun w' hS=>exec_eql_id _ _ _ _ rfl _ _ rfl rfl 32 5 underlying24 underlying5 (by kernel_rfl) (by kernel_rfl) hy32 hx false HD.out) ?_;simp only[nmz]
    refine qK ?_;have HQ:Hid (HasRelC w1 l x (.int .i64 ((k+1:Nat):Int)) wr.drew):=hid ⟨k+1,by omega,rfl,HA.out,hmr.drew⟩;clear hS hmr hcA hcx;go_wp2
    go_roundw
    case rel=>exact HQ.out
    case measure=>simp[intOf];omega
  ·have hz:¬(k:Int)<(l.length:Nat):=by omega
   have HRF:Hid (r=false):=hid (by
    rw[<-HR.out];refine decide_eq_false fun h=>?_;obtain⟨j,hj,e⟩:=List.getElem_of_mem h
    exact hall j hj (by omega) e)
   clear hall;go_wp2;go_ret;exact⟨by rw[HRF.out];rfl,hm01.out.trans0 hmr⟩
end
section
open Go.RowKit Go.Shelf Go.Proofs.Tryz Go.Lib
theorem take_app{α:Type}{l:List α}{k:Nat}(h:k<l.length):l.take (k+1)=l.take k++[l[k]]:=by rw[List.take_add_one,List.getElem?_eq_getElem h];rfl
theorem wp_gatB{α:Type}{P:Program}{o:Oper}{a:Act}{w:World}{K:Act->World->Prop}{Q:Exit->Act->World->Prop}(enc:α->List Value)(s x:Operand)(t e:TypeId)(z:Value)(k bytes:Nat)(ho:o.op=.call { callee:=.builtin .append,args:=#[s,x],argTypes:=#[t,t] })
 (ht:P.underlying t=some (.slice e))(hi:(P.info? e).map (fun i=>(i.zero,i.size,i.bytes))=some (some z,k,bytes))(hzs:z.cells.size=k)(hk0:0<k)(h1:∀x,∀c∈enc x,c.oneCell'=true)
 (base:Nat)(v:Value)(l:List α)(hs:a.eval s=v)(hown:Gat enc e k base w v l)(u:Value)(m:List α)(hx:a.eval x=u)(hsrc:Src w k u m.length (m.flatMap enc))(h63:l.length+m.length<=maxLen)(hlen:(l.length+m.length)*bytes<=140737488355328)(hbase:base<=w.heap.size)
 (h:∀v' w',Gat enc e k base w' v' (l++m)->Mod (fun q=>v.ownBlock=some q) w w'->(∀g,v'.ownBlock=some g->v.ownBlock=some g\/w.heap.size<=g)->K (a.put o.dst v') w'):o.wp P a w K Q:=by
 refine wp_append s x t e z k bytes ho ht hi hzs hk0 base v l.length _ hs hown u m.length _ hx hsrc (fun c hc=>?_) h63 hlen hbase (fun v' w' ho' hg hv=>?_)
 ·obtain⟨y,_,hy⟩:=List.mem_flatMap.1 hc
  exact h1 y c hy
 ·refine h v' w' ?_ ((Mod.refl _ _).grown hg (fun k e _=>e)) (fun g hg'=>?_)
  ·unfold Gat
   rw[List.length_append,List.flatMap_append];exact ho'
  ·rcases hv with hv|hv
   ·exact .inl (by rw[<-hv];exact hg')
   ·rw[hv]at hg';cases hg';exact .inr (Nat.le_refl _)
def RiseI(l m:List (List UInt8)):Prop:=m.Pairwise (fun x y=>x<y)/\∀x,x∈m↔x∈l
theorem riseI_ins{l out:List (List UInt8)}{x:List UInt8}{j:Nat}(h:RiseI l out)(hj:j<=out.length)(h1:∀p (hp:p<out.length),p<j->out[p]<x)(h2:∀(hp:j<out.length),x<out[j]):RiseI (l++[x]) (out.take j++[x]++out.drop j):=by
 obtain⟨hs,hm⟩:=h;have hpw:=List.pairwise_iff_getElem.1 hs
 have ha:∀y∈out.take j,y<x:=fun y hy=>by
  obtain⟨p,hp,rfl⟩:=List.getElem_of_mem hy;rw[List.length_take]at hp;rw[List.getElem_take];exact h1 p (by omega) (by omega)
 have hb:∀y∈out.drop j,x<y:=fun y hy=>by
  obtain⟨p,hp,rfl⟩:=List.getElem_of_mem hy;rw[List.length_drop]at hp;rw[List.getElem_drop]
  rcases Nat.eq_zero_or_pos p with rfl|hp0
  ·exact h2 (by omega)
  ·exact List.lt_trans (h2 (by omega)) (hpw j (j+p) (by omega) (by omega) (by omega))
 refine⟨?_,fun y=>?_⟩
 ·rw[List.pairwise_append,List.pairwise_append]
  refine⟨⟨hs.sublist (List.take_sublist _ _),List.pairwise_singleton _ _,fun a h3 b h4=>?_⟩,hs.sublist (List.drop_sublist _ _),fun a h3 b h4=>?_⟩
  ·rw[List.mem_singleton.1 h4];exact ha a h3
  ·rcases List.mem_append.1 h3 with h5|h5
   ·exact List.lt_trans (ha a h5) (hb b h4)
   ·rw[List.mem_singleton.1 h5];exact hb b h4
 ·have h3:=hm y
  rw[<-List.take_append_drop j out,List.mem_append]at h3;simp only[List.mem_append,List.mem_singleton];rw[<-h3]
  constructor
  ·rintro((h|h)|h)
   ·exact .inl (.inl h)
   ·exact .inr h
   ·exact .inl (.inr h)
  ·rintro((h|h)|h)
   ·exact .inl (.inl h)
   ·exact .inr h
   ·exact .inl (.inr h)
theorem riseI_old{l out:List (List UInt8)}{x:List UInt8}(h:RiseI l out)(hx:x∈out):RiseI (l++[x]) out:=by
 refine⟨h.1,fun y=>?_⟩;rw[h.2 y,List.mem_append,List.mem_singleton]
 constructor
 ·exact .inl
 ·rintro(h1|rfl)
  ·exact h1
  ·exact(h.2 _).1 hx
theorem flatI_len(l:List (List UInt8)):(l.flatMap idE).length=l.length*32:=by
 induction l with
 |nil=>rfl
 |cons x l ih=>rw[List.flatMap_cons,List.length_append,idE_len,ih,List.length_cons];omega
theorem flatI_drop(l:List (List UInt8))(i:Nat)(hi:i<=l.length):(l.flatMap idE).drop (i*32)=(l.drop i).flatMap idE:=by
 have h1:=flat_take idE_len l i hi;have h2:l.flatMap idE=(l.take i).flatMap idE++(l.drop i).flatMap idE:=by rw[<-List.flatMap_append,List.take_append_drop]
 have h3:((l.take i).flatMap idE).length=i*32:=by rw[flatI_len,List.length_take,Nat.min_eq_left hi]
 rw[h2,List.drop_append_of_le_length (by omega),List.drop_eq_nil_of_le (by omega),List.nil_append]
theorem gatI_cap{base:Nat}{w:World}{ad:Option Addr}{cap n:Nat}{out:List (List UInt8)}(h:GatI base w (.slice ad n cap) out):out.length<=cap:=by
 rcases h.2 with⟨h1,h2⟩|⟨g,c,cur,h1,-,-,hc,-⟩
 ·omega
 ·cases h1;exact hc
theorem srcI_drop{base:Nat}{w:World}{ad:Option Addr}{cap j:Nat}{out:List (List UInt8)}(h:GatI base w (.slice ad out.length cap) out)(hj:j<=out.length):Src w 32 (sliced ad j out.length cap 32) (out.drop j).length ((out.drop j).flatMap idE):=by
 have:=(owns_src h).drop (i:=j) hj (gatI_cap h);rw[flatI_drop _ _ hj]at this;rw[List.length_drop];exact this
theorem gatI_to{base:Nat}{w:World}{ad:Option Addr}{cap j:Nat}{out:List (List UInt8)}(h:GatI base w (.slice ad out.length cap) out)(hj:j<=out.length):GatI base w (sliced ad 0 j cap 32) (out.take j)/\∀q,(sliced ad 0 j cap 32).ownBlock=some q->(Value.slice ad out.length cap).ownBlock=some q:=by
 have hto:=owns_to (i:=j) h hj;refine⟨?_,fun q hq=>by rw[<-hto.2];exact hq⟩;have h1:=hto.1;rw[flat_take idE_len _ _ hj]at h1
 show w.ownsRow base 24 32 _ (out.take j).length _
 rw[List.length_take,Nat.min_eq_left hj];exact h1
def DscC(cs:Array Value)(d:DescL):Prop:=cs=qB d/\d.id.length=32
def RisRelI(l:List (List UInt8))(w0:World)(v i:Value)(w:World):Prop:=∃(k:Nat)(out:List (List UInt8)),k<=l.length/\i=.int .i64 k/\RiseI (l.take k) out/\out.length<=k/\GatI w0.heap.size w v out/\Mod NoB w0 w
def RisInI(out:List (List UInt8))(x:List UInt8)(w0:World)(i:Value)(w:World):Prop:=∃j:Nat,j<=out.length/\i=.int .i64 j/\(∀p (hp:p<out.length),p<j->out[p]<x)/\Mod NoB w0 w
def RisRI(w:World)(l:List (List UInt8)):Ending->World->Prop:=fun e w'=>∃v ks,e=.returned v/\GatI w.heap.size w' v ks/\RiseI l ks/\Mod NoB w w'
theorem rising13_any{o:Bool}{G:Nat->Prop}{w:World}{v:Value}{D:List DescL}(h:Sl o w G 35 DscC v D)(hlen:D.length<=10000):Calls prog 31 #[v] w (RisRI w (D.map (·.id))):=by
 have HS:=Lib.hid (Sl.inside h (by omega));obtain⟨ad,cap,rfl,hlm,-⟩:=Sl.at h;clear h;obtain⟨l,hl⟩:∃l,D.map (·.id)=l:=⟨_,rfl⟩
 have hll:l.length=D.length:=by rw[<-hl,List.length_map]
 rw[hl];have HL:=Lib.hid hl;clear hl
 have H32:Hid (∀x∈l,x.length=32):=Lib.hid (fun x hx=>by
  rw[<-HL.out]at hx;obtain⟨d,hd,rfl⟩:=List.mem_map.1 hx;obtain⟨i,hi,rfl⟩:=List.getElem_of_mem hd;obtain⟨_,_,hv,-,hat⟩:=Sl.at HS.out
  obtain⟨b1,off1,rfl,-,-,hc⟩:=hat i hi;obtain⟨_,-,⟨_,hid⟩,_⟩:=hc i hi
  exact hid)
 go_enter func31,ntmps31;go_wp2
 go_loopw [3,4] (RisRelI l w) (fun _ i _=>l.length-(intOf i).toNat)
 case atStart=>exact⟨0,[],by omega,rfl,⟨.nil,fun y=>by simp⟩,Nat.le_refl _,Gat.nil _ _ _ _ _,Mod.refl _ _⟩
 case round=>
  rename World=>wr
  obtain⟨k,out,hk,rfl,hrise,hol,hg,hm⟩:=hrel;obtain⟨ad3,cap3,rfl⟩:=hg.slice
  have h32:∀y∈out,y.length=32:=fun y hy=>H32.out y (List.mem_of_mem_take ((hrise.2 y).1 hy));have HG:=Lib.hid hg;have HR:=Lib.hid hrise;clear hg hrise
  by_cases hlt:k<D.length
  ·have hz:(k:Int)<(D.length:Int):=by omega
   have hltl:k<l.length:=by omega
   have HTK:=Lib.hid (take_app hltl);obtain⟨_,_,hv,-,hat⟩:=Sl.at (Sl.keep0 HS.out hm)
   cases hv
   obtain⟨b1,off1,rfl,hgb,-,hc⟩:=hat k hlt;obtain⟨_,-,⟨rfl,hx32⟩,hc⟩:=hc k hlt
   have hkx:CellsAt wr b1 (off1+k*35+1) (qA D[k].id):=fun j hj=>by
    have h1:(qB D[k]).size=35:=qR hx32;have h2:(qA D[k].id).size=32:=by rw[qE,hx32]
    rw[Nat.add_assoc,hc (1+j) (by omega)];exact descRow_at1 j hj
   obtain⟨x,hx⟩:∃x,D[k].id=x:=⟨_,rfl⟩;have hxl:l[k]=x:=by rw[<-hx];simp only[<-HL.out,List.getElem_map]
   rw[hx]at hkx hx32;rw[hxl]at HTK;have hxc:(qA x).size=32:=by rw[qE,hx32]
   have hnb:¬w.heap.size<=b1:=Nat.not_le.2 hgb;clear hat hc hx hgb hxl;go_wp2
   go_loopw [5] (RisInI out x wr) (fun i _=>out.length-(intOf i).toNat)
   case atStart=>exact⟨0,by omega,rfl,fun p _ h=>by omega,Mod.refl _ _⟩
   case round=>
    rename World=>w8
    obtain⟨j,hj,rfl,hall,hm8⟩:=hrel;have HALL:=Lib.hid hall;clear hall;have hM8:=hm.trans0 hm8;have HG8:=Lib.hid (HG.out.keep0 hm8);have hkx8:=hkx.keep hm8 id
    by_cases hjl:j<out.length
    ·have hzj:(j:Int)<(out.length:Int):=by omega
     have hnj:¬(j:Int)=(out.length:Int):=by omega
     obtain⟨_,_,hv,-,hat⟩:=Sl.at (slI HG8.out h32)
     cases hv
     obtain⟨b3,off3,rfl,-,-,hc⟩:=hat j hjl;obtain⟨_,-,⟨rfl,hy32⟩,hky⟩:=hc j hjl
     have HNX:=Lib.hid (fun(h:out[j]<x) p (hp:p<out.length)(h1:p<j+1)=>show out[p]<x by
      rcases Nat.lt_or_ge p j with h2|h2
      ·exact HALL.out p hp h2
      ·obtain rfl:p=j:=by omega
       exact h)
     have HMEM:=Lib.hid (show out[j]∈out from List.getElem_mem hjl)
     have HTRI:=Lib.hid (fun(h1:¬out[j]<x)(h2:out[j]≠x)=>show ∀(hp:j<out.length),x<out[j]from fun _=>by
      rcases ltB_tri out[j] x with h3|h3|h3
      ·exact absurd h3 h1
      ·exact absurd h3 h2
      ·exact h3)
     have HINS:=Lib.hid (fun h2=>riseI_ins (x:=x) HR.out hj HALL.out h2);obtain⟨y,hy⟩:∃x,out[j]=x:=⟨_,rfl⟩;rw[hy]at hky HNX HMEM HTRI hy32
     have hyc:(qA y).size=32:=by rw[qE,hy32]
     clear hat hc;have hneg:=cmpI_neg y x;obtain⟨c,hcc⟩:∃c,cmpI y x=c:=⟨_,rfl⟩;have hsc:=fun w'=>shaCompare_any y x hy32 hx32 w';rw[hcc]at hneg
     simp only[hcc]at hsc;go_upto_region 6 with(fail);have hS:Mod NoB w8 w8.drew:=(Mod.refl _ _).drew
     by_cases hlss:y<x
     ·have hc0:c<0:=hneg.2 hlss
      have HN:=Lib.hid (HNX.out hlss);clear HTRI HINS HNX hlss hy hneg hcc
      refine wpRP [(0,3),(1,3),(2,3),(3,3),(4,3),(5,3),(6,3),(7,3),(8,0),(9,3),(10,3),(11,3),(12,3),(13,0),(14,1),(15,3),(16,3)] [] (fun w'=>Mod NoB w8 w') hS ?_
      simp only[zz4];refine qC _ rfl rfl ?_;simp only[nmz];refine qC _ rfl rfl ?_;simp only[nmz];refine zC _ _ _ _ _ rfl rfl rfl (by kernel_rfl) ?_
      simp only[nmz];refine qQ _ _ _ _ _ _ _ _ rfl rfl rfl rfl rfl true (decide_eq_true hzj) ?_;simp only[nmz];refine qC _ rfl rfl ?_;simp only[nmz]
      refine qC _ rfl rfl ?_;simp only[nmz];refine qC _ rfl rfl ?_;simp only[nmz]
      refine qV _ _ _ _ _ _ _ _ _ rfl rfl rfl rfl underlying25 (n:=32) (by kernel_rfl) hjl ?_;simp only[nmz]
      refine wpLA 24 b3 (off3+j*32) (qA y) (fun w' hS=>hky.keep hS id) underlying24 32 hyc ?_;simp only[nmz];refine qC _ rfl rfl ?_;simp only[nmz]
      refine qC _ rfl rfl ?_;simp only[nmz];refine qV _ _ _ _ _ _ _ _ _ rfl rfl rfl rfl underlying161 (n:=35) (by kernel_rfl) hlt ?_;simp only[nmz]
      refine qN _ _ _ _ _ _ rfl rfl rfl yC ?_;simp only[nmz];refine wpLA 24 b1 (off1+k*35+1) (qA x) (fun w' hS=>hkx8.keep hS id) underlying24 32 hxc ?_
      simp only[nmz];refine qT rfl (fun K hK=>?_)
      refine qD (qF 35 [.tmp 21,.tmp 26] _ rfl _ func35 rfl (by kernel_rfl) [.agg (qA y),.agg (qA x)] rfl _) (hsc _) ?_;rintro e we ⟨rfl,hg2⟩
      have hS2:=hS.trans0 hg2.mod;refine⟨_,rfl,hK _ _ hS2 ?_⟩;clear hK K;try simp only[nmz]
      refine qQ _ _ _ _ _ _ _ _ rfl rfl rfl rfl rfl true (decide_eq_true hc0) ?_;simp only[nmz];refine zB _ _ _ _ rfl rfl rfl ?_;simp only[nmz];refine qK ?_
      clear hc0;go_wp2
      go_roundw
      case rel=>exact⟨j+1,by omega,by go_num,HN.out,hm8.trans0 hS2⟩
      case measure=>simp[intOf];omega
     ·have hc0:¬c<0:=fun h=>hlss (hneg.1 h)
      have HT2:=Lib.hid (HTRI.out hlss);clear HTRI HNX hlss hneg hcc
      refine wpRP [(0,3),(1,3),(2,3),(3,3),(4,3),(5,3),(6,3),(7,3),(8,0),(9,3),(10,3),(11,3),(12,3),(13,0),(14,1),(15,3),(16,3)] [] (fun w'=>Mod NoB w8 w') hS ?_
      simp only[zz4];refine qC _ rfl rfl ?_;simp only[nmz];refine qC _ rfl rfl ?_;simp only[nmz];refine zC _ _ _ _ _ rfl rfl rfl (by kernel_rfl) ?_
      simp only[nmz];refine qQ _ _ _ _ _ _ _ _ rfl rfl rfl rfl rfl true (decide_eq_true hzj) ?_;simp only[nmz];refine qC _ rfl rfl ?_;simp only[nmz]
      refine qC _ rfl rfl ?_;simp only[nmz];refine qC _ rfl rfl ?_;simp only[nmz]
      refine qV _ _ _ _ _ _ _ _ _ rfl rfl rfl rfl underlying25 (n:=32) (by kernel_rfl) hjl ?_;simp only[nmz]
      refine wpLA 24 b3 (off3+j*32) (qA y) (fun w' hS=>hky.keep hS id) underlying24 32 hyc ?_;simp only[nmz];refine qC _ rfl rfl ?_;simp only[nmz]
      refine qC _ rfl rfl ?_;simp only[nmz];refine qV _ _ _ _ _ _ _ _ _ rfl rfl rfl rfl underlying161 (n:=35) (by kernel_rfl) hlt ?_;simp only[nmz]
      refine qN _ _ _ _ _ _ rfl rfl rfl yC ?_;simp only[nmz];refine wpLA 24 b1 (off1+k*35+1) (qA x) (fun w' hS=>hkx8.keep hS id) underlying24 32 hxc ?_
      simp only[nmz];refine qT rfl (fun K hK=>?_)
      refine qD (qF 35 [.tmp 21,.tmp 26] _ rfl _ func35 rfl (by kernel_rfl) [.agg (qA y),.agg (qA x)] rfl _) (hsc _) ?_;rintro e we ⟨rfl,hg2⟩
      have hS2:=hS.trans0 hg2.mod;refine⟨_,rfl,hK _ _ hS2 ?_⟩;clear hK K;try simp only[nmz]
      refine qQ _ _ _ _ _ _ _ _ rfl rfl rfl rfl rfl false (decide_eq_false hc0) ?_;simp only[nmz];refine zB _ _ _ _ rfl rfl rfl ?_;simp only[nmz]
      refine qK ?_;clear hc0;replace hM8:=hM8.trans0 hS2;replace HG8:=Lib.hid (HG8.out.keep0 hS2);replace hkx8:=hkx8.keep hS2 id;replace hky:=hky.keep hS2 id
      clear hS hS2 hg2 hm8 hkx hm;go_upto_region 8 with(fail);have hS:Mod NoB we we.drew:=(Mod.refl _ _).drew
      by_cases hyx:y=x
      ·have HOLD:=Lib.hid (show RiseI (l.take (k+1)) out by rw[HTK.out];exact riseI_old HR.out (by rw[<-hyx];exact HMEM.out))
       clear HT2 HINS HMEM hy
       refine wpRP [(0,3),(1,3),(2,3),(3,3),(4,3),(5,3),(6,3),(7,3),(8,0),(9,3),(10,3),(11,3),(12,3),(13,0),(14,0),(15,3)] [] (fun w'=>Mod NoB we w') hS ?_
       simp only[zz4];refine qC _ rfl rfl ?_;simp only[nmz];refine qC _ rfl rfl ?_;simp only[nmz];refine zC _ _ _ _ _ rfl rfl rfl (by kernel_rfl) ?_
       simp only[nmz];refine qQ _ _ _ _ _ _ _ _ rfl rfl rfl rfl rfl false (decide_eq_false hnj) ?_;simp only[nmz];refine qC _ rfl rfl ?_;simp only[nmz]
       refine qC _ rfl rfl ?_;simp only[nmz];refine qC _ rfl rfl ?_;simp only[nmz]
       refine qV _ _ _ _ _ _ _ _ _ rfl rfl rfl rfl underlying25 (n:=32) (by kernel_rfl) hjl ?_;simp only[nmz]
       refine wpLA 24 b3 (off3+j*32) (qA y) (fun w' hS=>hky.keep hS id) underlying24 32 hyc ?_;simp only[nmz];refine qC _ rfl rfl ?_;simp only[nmz]
       refine qC _ rfl rfl ?_;simp only[nmz];refine qV _ _ _ _ _ _ _ _ _ rfl rfl rfl rfl underlying161 (n:=35) (by kernel_rfl) hlt ?_;simp only[nmz]
       refine qN _ _ _ _ _ _ rfl rfl rfl yC ?_;simp only[nmz]
       refine wpLA 24 b1 (off1+k*35+1) (qA x) (fun w' hS=>hkx8.keep hS id) underlying24 32 hxc ?_;simp only[nmz]
       refine qW rfl (fun w' hS=>exec_neq_id _ _ _ _ rfl _ _ rfl rfl 32 5 underlying24 underlying5 (by kernel_rfl) (by kernel_rfl) hy32 hx32 false (by simp[hyx])) ?_
       simp only[nmz];refine zB _ _ _ _ rfl rfl rfl ?_;simp only[nmz];refine qK ?_;have hMx:=hM8.trans0 hS;have hgx:=HG8.out.keep0 hS;clear hS hM8 HG8 hyx
       go_wp2
       go_roundw
       case rel=>exact⟨k+1,out,by omega,by go_num,HOLD.out,by omega,hgx,hMx⟩
       case measure=>simp[intOf];omega
      ·have hins:RiseI (l.take (k+1)) (out.take j++[x]++out.drop j):=by rw[HTK.out];exact HINS.out (HT2.out hyx)
       clear HT2 HINS HMEM hy
       refine wpRP [(0,3),(1,3),(2,3),(3,3),(4,3),(5,3),(6,3),(7,3),(8,0),(9,3),(10,3),(11,3),(12,3),(13,0),(14,0),(15,3)] [] (fun w'=>Mod NoB we w') hS ?_
       simp only[zz4];refine qC _ rfl rfl ?_;simp only[nmz];refine qC _ rfl rfl ?_;simp only[nmz];refine zC _ _ _ _ _ rfl rfl rfl (by kernel_rfl) ?_
       simp only[nmz];refine qQ _ _ _ _ _ _ _ _ rfl rfl rfl rfl rfl false (decide_eq_false hnj) ?_;simp only[nmz];refine qC _ rfl rfl ?_;simp only[nmz]
       refine qC _ rfl rfl ?_;simp only[nmz];refine qC _ rfl rfl ?_;simp only[nmz]
       refine qV _ _ _ _ _ _ _ _ _ rfl rfl rfl rfl underlying25 (n:=32) (by kernel_rfl) hjl ?_;simp only[nmz]
       refine wpLA 24 b3 (off3+j*32) (qA y) (fun w' hS=>hky.keep hS id) underlying24 32 hyc ?_;simp only[nmz];refine qC _ rfl rfl ?_;simp only[nmz]
       refine qC _ rfl rfl ?_;simp only[nmz];refine qV _ _ _ _ _ _ _ _ _ rfl rfl rfl rfl underlying161 (n:=35) (by kernel_rfl) hlt ?_;simp only[nmz]
       refine qN _ _ _ _ _ _ rfl rfl rfl yC ?_;simp only[nmz]
       refine wpLA 24 b1 (off1+k*35+1) (qA x) (fun w' hS=>hkx8.keep hS id) underlying24 32 hxc ?_;simp only[nmz]
       refine qW rfl (fun w' hS=>exec_neq_id _ _ _ _ rfl _ _ rfl rfl 32 5 underlying24 underlying5 (by kernel_rfl) (by kernel_rfl) hy32 hx32 true (by simp[hyx])) ?_
       simp only[nmz];refine zB _ _ _ _ rfl rfl rfl ?_;simp only[nmz];refine qK ?_;replace hM8:=hM8.trans0 hS;replace HG8:=Lib.hid (HG8.out.keep0 hS)
       replace hkx8:=hkx8.keep hS id;clear hS hyx hky;generalize we.drew=wi at*;have hjle:j<=out.length:=by omega
       have hcap:=gatI_cap HG8.out;have hsz8:=hM8.size;go_upto_region 9 with(fail);refine wpR [1,3,3,3,1,3] (by rfl) (by rfl) ?_;simp only[zz2];refine wpDo rfl ?_
       refine yK 25 24 (by rfl) underlying25 (by kernel_rfl) (fun w9 hB9 hm9 hs9=>?_);refine qC _ rfl rfl ?_;simp only[nmz];refine qC _ rfl rfl ?_
       simp only[nmz];refine wpPi_sliceFrom 25 24 _ _ _ _ _ j 32 rfl rfl rfl rfl underlying25 (by kernel_rfl) hjle ?_;simp only[nmz];refine wpDo rfl ?_
       refine wp_gatB idE _ _ 25 24 (.agg (qA (List.replicate 32 0))) 32 32 (by rfl) underlying25 id_i (by kernel_rfl) (by omega) idE_one wi.heap.size _ [] (by rfl) (owns_empty _ hB9 (Nat.le_refl _)) _ (out.drop j) (by rfl) (srcI_drop (HG8.out.keep0 hm9) hjle) (by simp only[List.length_nil,List.length_drop];unfold maxLen;omega) (by simp only[List.length_nil,List.length_drop];omega) hm9.size (fun v10 w10 hg10 hm10 hn10=>?_)
       have hM10:Mod NoB wi w10:=hm9.trans hm10 (fun k hk e=>by
        have e':some wi.heap.size=some k:=e
        cases e';omega)
       refine qJ _ rfl rfl ?_;simp only[nmz];refine qK ?_;rw[List.nil_append]at hg10;have HG10:=Lib.hid hg10;have HGX:=Lib.hid (HG8.out.keep0 hM10)
       have hsz10:=hM10.size;have hown:∀q,(Value.slice (some ⟨b3,off3,none⟩) out.length cap3).ownBlock=some q->q<wi.heap.size:=fun q hq=>(HG8.out.lt hq).2
       have hkx':=hkx8.keep hM10 id;clear hg10 hm9 hm10 hn10 hB9;go_upto_region 10 with(fail);have hT:Mod NoB w10 w10.drew:=(Mod.refl _ _).drew
       have hS:Mod (fun q=>w.heap.size<=q) w10 w10.drew:=(Mod.refl _ _).drew;have hto:=gatI_to (HGX.out.keep0 hT) hjle
       refine wpRP [(0,3),(1,3),(2,3),(3,3),(4,3),(5,3),(6,3),(7,0),(10,3),(8,1),(9,1),(11,1),(12,3)] [] (fun w'=>Mod (fun q=>w.heap.size<=q) w10 w') hS ?_
       simp only[zz4];refine qC _ rfl rfl ?_;simp only[nmz];refine qC _ rfl rfl ?_;simp only[nmz]
       refine wpPi_sliceTo 25 24 _ _ _ _ _ j 32 rfl rfl rfl rfl underlying25 (by kernel_rfl) (by omega) ?_;simp only[nmz];refine qC _ rfl rfl ?_;simp only[nmz]
       refine qC _ rfl rfl ?_;simp only[nmz];refine qV _ _ _ _ _ _ _ _ _ rfl rfl rfl rfl underlying161 (n:=35) (by kernel_rfl) hlt ?_;simp only[nmz]
       refine qN _ _ _ _ _ _ rfl rfl rfl yC ?_;simp only[nmz]
       refine wpLA 24 b1 (off1+k*35+1) (qA x) (fun w' hS=>hkx'.keep hS hnb) underlying24 32 hxc ?_;simp only[nmz];refine qC _ rfl rfl ?_;simp only[nmz]
       refine qT rfl (fun K hK=>?_)
       refine zF 25 24 _ (.agg (qA x)) (.agg (qA (List.replicate 32 0))) 32 (by rfl) (by rfl) underlying25 (by kernel_rfl) (by omega) (by omega) hxc (fun w11 hB11 hm11 hs11=>?_)
       replace hB11:w11.heap[w10.heap.size]?=some (.cells (idE x).toArray 24 (0,0)):=by rw[idE_eq hx32];exact hB11
       replace hT:=hT.trans0 hm11;refine hK _ _ (hT.mono fun _ _ h=>h.elim) ?_;clear hK K;try simp only[nmz]
       refine qT rfl (fun K hK=>?_)
       refine wp_gat idE _ _ 25 24 (.agg (qA (List.replicate 32 0))) 32 32 (by rfl) underlying25 id_i (by kernel_rfl) (by omega) idE_one w.heap.size _ _ (by rfl) (hto.1.keep0 hm11) (.slice (some ⟨w10.heap.size,0,none⟩) 1 1) [x] (by rfl) (src_lit (enc:=idE) (x:=x) (e:=24) idE_len hB11) (by simp only[List.length_singleton,List.length_take];unfold maxLen;omega) (by simp only[List.length_singleton,List.length_take];omega) (by have:=hT.size;omega) (fun v12 w12 hg12 hm12=>?_)
       have hr12:=(HG10.out.keep0 hT).keep hm12 (fun q h1 h2=>by
        have h3:=(HG10.out.lt h1).1;have h4:=hown q (hto.2 q h2)
        omega)
       have hT12:Mod (fun q=>w.heap.size<=q) w10 w12:=(hT.mono fun _ _ h=>h.elim).trans hm12 (fun q hq e=>(HGX.out.lt (hto.2 q e)).1);refine hK _ _ hT12 ?_;clear hK K
       try simp only[nmz]
       refine qT rfl (fun K hK=>?_)
       refine wp_gat idE _ _ 25 24 (.agg (qA (List.replicate 32 0))) 32 32 (by rfl) underlying25 id_i (by kernel_rfl) (by omega) idE_one w.heap.size _ _ (by rfl) hg12 v10 (out.drop j) (by rfl) hr12.src (by simp only[List.length_append,List.length_singleton,List.length_take,List.length_drop];unfold maxLen;omega) (by simp only[List.length_append,List.length_singleton,List.length_take,List.length_drop];omega) (by have:=hT12.size;omega) (fun v13 w13 hg13 hm13=>?_)
       have hT13:Mod (fun q=>w.heap.size<=q) w10 w13:=hT12.trans hm13 (fun q hq e=>(hg12.lt e).1);refine hK _ _ hT13 ?_;clear hK K;refine qJ _ rfl rfl ?_
       simp only[nmz];refine qK ?_;have hMr:Mod NoB w w13:=(hM8.trans0 hM10).trans hT13 (fun q hq e=>by have e':w.heap.size<=q:=e;omega)
       generalize sliced (some ⟨b3,off3,none⟩) 0 j cap3 32=sl1;generalize sliced (some ⟨b3,off3,none⟩) j out.length cap3 32=sl2
       have hlen':(out.take j++[x]++out.drop j).length<=k+1:=by simp only[List.length_append,List.length_singleton,List.length_take,List.length_drop];omega
       have HINS:=Lib.hid hins;clear hT hS hm11 hm12 hm13 hT12 hT13 hM8 hM10 hB11 hto hr12 hg12 HG10 HGX HG8 hown hins;go_wp2
       go_roundw
       case rel=>exact⟨k+1,_,by omega,by go_num,HINS.out,hlen',hg13,hMr⟩
       case measure=>simp[intOf];omega
    ·have hzj:¬(j:Int)<(out.length:Int):=by omega
     have hnj:(j:Int)=(out.length:Int):=by omega
     go_upto_region 6 with(fail);have hS:Mod NoB w8 w8.drew:=(Mod.refl _ _).drew
     refine wpRP [(0,3),(1,3),(2,3),(3,3),(4,3),(5,3),(6,3),(7,3),(8,0),(9,3),(10,3),(11,3),(12,3),(13,0),(14,1),(15,3),(16,3)] [] (fun w'=>Mod NoB w8 w') hS ?_
     simp only[zz4];refine qC _ rfl rfl ?_;simp only[nmz];refine qC _ rfl rfl ?_;simp only[nmz];refine zC _ _ _ _ _ rfl rfl rfl (by kernel_rfl) ?_
     simp only[nmz];refine qQ _ _ _ _ _ _ _ _ rfl rfl rfl rfl rfl false (decide_eq_false hzj) ?_;simp only[nmz];refine qC _ rfl rfl ?_;simp only[nmz]
     refine zH rfl ?_;simp only[nmz];refine zH rfl ?_;simp only[nmz];refine zH rfl ?_;simp only[nmz];refine jC rfl ?_;simp only[nmz]
     refine zH rfl ?_;simp only[nmz];refine zH rfl ?_;simp only[nmz];refine zH rfl ?_;simp only[nmz];refine zH rfl ?_;simp only[nmz]
     refine jC rfl ?_;simp only[nmz];refine yQ rfl hS ?_;simp only[nmz];refine zH rfl ?_;simp only[nmz];refine zB _ _ _ _ rfl rfl rfl ?_
     simp only[nmz];refine qK ?_
     have hins:RiseI (l.take (k+1)) (out.take j++[x]++out.drop j):=by rw[HTK.out];exact riseI_ins HR.out hj HALL.out (fun h=>absurd h hjl)
     replace hM8:=hM8.trans0 hS;replace HG8:=Lib.hid (HG8.out.keep0 hS);replace hkx8:=hkx8.keep hS id;clear hS hm8 hkx hm HALL;generalize w8.drew=we at*
     go_upto_region 8 with(fail);have hS:Mod NoB we we.drew:=(Mod.refl _ _).drew
     refine wpRP [(0,3),(1,3),(2,3),(3,3),(4,3),(5,3),(6,3),(7,3),(8,0),(9,3),(10,3),(11,3),(12,3),(13,0),(14,3),(15,3)] [] (fun w'=>Mod NoB we w') hS ?_
     simp only[zz4];refine qC _ rfl rfl ?_;simp only[nmz];refine qC _ rfl rfl ?_;simp only[nmz];refine zC _ _ _ _ _ rfl rfl rfl (by kernel_rfl) ?_
     simp only[nmz];refine qQ _ _ _ _ _ _ _ _ rfl rfl rfl rfl rfl true (decide_eq_true hnj) ?_;simp only[nmz];refine qC _ rfl rfl ?_;simp only[nmz]
     refine zH rfl ?_;simp only[nmz];refine zH rfl ?_;simp only[nmz];refine zH rfl ?_;simp only[nmz];refine jC rfl ?_;simp only[nmz]
     refine zH rfl ?_;simp only[nmz];refine zH rfl ?_;simp only[nmz];refine zH rfl ?_;simp only[nmz];refine zH rfl ?_;simp only[nmz]
     refine jC rfl ?_;simp only[nmz];refine zH rfl ?_;simp only[nmz];refine zB _ _ _ _ rfl rfl rfl ?_;simp only[nmz];refine qK ?_
     replace hM8:=hM8.trans0 hS;replace HG8:=Lib.hid (HG8.out.keep0 hS);replace hkx8:=hkx8.keep hS id;clear hS;generalize we.drew=wi at*
     have hjle:j<=out.length:=by omega
     have hcap:=gatI_cap HG8.out;have hsz8:=hM8.size;go_upto_region 9 with(fail);refine wpR [1,3,3,3,1,3] (by rfl) (by rfl) ?_;simp only[zz2];refine wpDo rfl ?_
     refine yK 25 24 (by rfl) underlying25 (by kernel_rfl) (fun w9 hB9 hm9 hs9=>?_);refine qC _ rfl rfl ?_;simp only[nmz];refine qC _ rfl rfl ?_
     simp only[nmz];refine wpPi_sliceFrom 25 24 _ _ _ _ _ j 32 rfl rfl rfl rfl underlying25 (by kernel_rfl) hjle ?_;simp only[nmz];refine wpDo rfl ?_
     refine wp_gatB idE _ _ 25 24 (.agg (qA (List.replicate 32 0))) 32 32 (by rfl) underlying25 id_i (by kernel_rfl) (by omega) idE_one wi.heap.size _ [] (by rfl) (owns_empty _ hB9 (Nat.le_refl _)) _ (out.drop j) (by rfl) (srcI_drop (HG8.out.keep0 hm9) hjle) (by simp only[List.length_nil,List.length_drop];unfold maxLen;omega) (by simp only[List.length_nil,List.length_drop];omega) hm9.size (fun v10 w10 hg10 hm10 hn10=>?_)
     have hM10:Mod NoB wi w10:=hm9.trans hm10 (fun k hk e=>by
      have e':some wi.heap.size=some k:=e
      cases e';omega)
     refine qJ _ rfl rfl ?_;simp only[nmz];refine qK ?_;rw[List.nil_append]at hg10;have HG10:=Lib.hid hg10;have HGX:=Lib.hid (HG8.out.keep0 hM10)
     have hsz10:=hM10.size;have hown:∀q,(Value.slice ad3 out.length cap3).ownBlock=some q->q<wi.heap.size:=fun q hq=>(HG8.out.lt hq).2
     have hkx':=hkx8.keep hM10 id;clear hg10 hm9 hm10 hn10 hB9;go_upto_region 10 with(fail);have hT:Mod NoB w10 w10.drew:=(Mod.refl _ _).drew
     have hS:Mod (fun q=>w.heap.size<=q) w10 w10.drew:=(Mod.refl _ _).drew;have hto:=gatI_to (HGX.out.keep0 hT) hjle
     refine wpRP [(0,3),(1,3),(2,3),(3,3),(4,3),(5,3),(6,3),(7,0),(10,3),(8,1),(9,1),(11,1),(12,3)] [] (fun w'=>Mod (fun q=>w.heap.size<=q) w10 w') hS ?_
     simp only[zz4];refine qC _ rfl rfl ?_;simp only[nmz];refine qC _ rfl rfl ?_;simp only[nmz]
     refine wpPi_sliceTo 25 24 _ _ _ _ _ j 32 rfl rfl rfl rfl underlying25 (by kernel_rfl) (by omega) ?_;simp only[nmz];refine qC _ rfl rfl ?_;simp only[nmz]
     refine qC _ rfl rfl ?_;simp only[nmz];refine qV _ _ _ _ _ _ _ _ _ rfl rfl rfl rfl underlying161 (n:=35) (by kernel_rfl) hlt ?_;simp only[nmz]
     refine qN _ _ _ _ _ _ rfl rfl rfl yC ?_;simp only[nmz];refine wpLA 24 b1 (off1+k*35+1) (qA x) (fun w' hS=>hkx'.keep hS hnb) underlying24 32 hxc ?_
     simp only[nmz];refine qC _ rfl rfl ?_;simp only[nmz];refine qT rfl (fun K hK=>?_)
     refine zF 25 24 _ (.agg (qA x)) (.agg (qA (List.replicate 32 0))) 32 (by rfl) (by rfl) underlying25 (by kernel_rfl) (by omega) (by omega) hxc (fun w11 hB11 hm11 hs11=>?_)
     replace hB11:w11.heap[w10.heap.size]?=some (.cells (idE x).toArray 24 (0,0)):=by rw[idE_eq hx32];exact hB11
     replace hT:=hT.trans0 hm11;refine hK _ _ (hT.mono fun _ _ h=>h.elim) ?_;clear hK K;try simp only[nmz]
     refine qT rfl (fun K hK=>?_)
     refine wp_gat idE _ _ 25 24 (.agg (qA (List.replicate 32 0))) 32 32 (by rfl) underlying25 id_i (by kernel_rfl) (by omega) idE_one w.heap.size _ _ (by rfl) (hto.1.keep0 hm11) (.slice (some ⟨w10.heap.size,0,none⟩) 1 1) [x] (by rfl) (src_lit (enc:=idE) (x:=x) (e:=24) idE_len hB11) (by simp only[List.length_singleton,List.length_take];unfold maxLen;omega) (by simp only[List.length_singleton,List.length_take];omega) (by have:=hT.size;omega) (fun v12 w12 hg12 hm12=>?_)
     have hr12:=(HG10.out.keep0 hT).keep hm12 (fun q h1 h2=>by
      have h3:=(HG10.out.lt h1).1;have h4:=hown q (hto.2 q h2)
      omega)
     have hT12:Mod (fun q=>w.heap.size<=q) w10 w12:=(hT.mono fun _ _ h=>h.elim).trans hm12 (fun q hq e=>(HGX.out.lt (hto.2 q e)).1);refine hK _ _ hT12 ?_;clear hK K
     try simp only[nmz]
     refine qT rfl (fun K hK=>?_)
     refine wp_gat idE _ _ 25 24 (.agg (qA (List.replicate 32 0))) 32 32 (by rfl) underlying25 id_i (by kernel_rfl) (by omega) idE_one w.heap.size _ _ (by rfl) hg12 v10 (out.drop j) (by rfl) hr12.src (by simp only[List.length_append,List.length_singleton,List.length_take,List.length_drop];unfold maxLen;omega) (by simp only[List.length_append,List.length_singleton,List.length_take,List.length_drop];omega) (by have:=hT12.size;omega) (fun v13 w13 hg13 hm13=>?_)
     have hT13:Mod (fun q=>w.heap.size<=q) w10 w13:=hT12.trans hm13 (fun q hq e=>(hg12.lt e).1);refine hK _ _ hT13 ?_;clear hK K;refine qJ _ rfl rfl ?_
     simp only[nmz];refine qK ?_;have hMr:Mod NoB w w13:=(hM8.trans0 hM10).trans hT13 (fun q hq e=>by have e':w.heap.size<=q:=e;omega)
     generalize sliced ad3 0 j cap3 32=sl1;generalize sliced ad3 j out.length cap3 32=sl2
     have hlen':(out.take j++[x]++out.drop j).length<=k+1:=by simp only[List.length_append,List.length_singleton,List.length_take,List.length_drop];omega
     have HINS:=Lib.hid hins;clear hT hS hm11 hm12 hm13 hT12 hT13 hM8 hM10 hB11 hto hr12 hg12 HG10 HGX HG8 hown hins;go_wp2
     go_roundw
     case rel=>exact⟨k+1,_,by omega,by go_num,HINS.out,hlen',hg13,hMr⟩
     case measure=>simp[intOf];omega
  ·have hz:¬(k:Int)<(D.length:Int):=by omega
   obtain rfl:k=l.length:=by omega
   rw[List.take_length]at HR;go_wp2;go_ret;exact⟨_,out,rfl,HG.out,HR.out,hm⟩
theorem walk_whole{c:BlobM}{id bad:List UInt8}{l ks ids:List (List UInt8)}{n:Int}(h1:(walkL c 5 (thgI id)).2.isNone=true)(h2:(walkM (walkL c 5 (thgI id)).1).length<=256)
 (h3:∀x∈(walkM (walkL c 5 (thgI id)).1).map (·.1),x∈l)(h4:∀x∈l,x∈(walkM (walkL c 5 (thgI id)).1).map (·.1))(hr:RiseI l ks)(ho:xJ c id ids bad n):ids=ks/\bad=zeros32/\n=0:=by
 unfold xJ at ho;rw[Option.isNone_iff_eq_none.1 h1]at ho;simp only at ho;rw[if_neg (by omega)]at ho;obtain⟨⟨hs,hp⟩,hb,hn⟩:=ho
 exact⟨sorted_ext hs hr.1 fun x=>by rw[hp.mem_iff,hr.2 x];exact⟨h3 x,h4 x⟩,hb,hn⟩
theorem walk_wrong{c:BlobM}{id bad:List UInt8}{ids:List (List UInt8)}{n:Int}{e:List UInt8×Int}(h1:(walkL c 5 (thgI id)).2=some e)(ho:xJ c id ids bad n):ids=[]/\bad=e.1/\n=e.2:=by
 unfold xJ at ho;rw[h1]at ho;exact ho
def c0:BlobL:=cOf 32 (libL 0)
theorem walk0_M:(walkL c0 5 (thgI dM.id)).2.isNone=true/\(walkM (walkL c0 5 (thgI dM.id)).1).length<=256/\(∀x∈(walkM (walkL c0 5 (thgI dM.id)).1).map (·.1),x∈[dC.id,dL.id,dM.id])/\∀x∈[dC.id,dL.id,dM.id],x∈(walkM (walkL c0 5 (thgI dM.id)).1).map (·.1):=by decide+kernel
theorem walk0_X:(walkL c0 5 (thgI (dX 0).id)).2.isNone=true/\(walkM (walkL c0 5 (thgI (dX 0).id)).1).length<=256/\(∀x∈(walkM (walkL c0 5 (thgI (dX 0).id)).1).map (·.1),x∈[dC.id,dL.id,dM.id,(dX 0).id])/\∀x∈[dC.id,dL.id,dM.id,(dX 0).id],x∈(walkM (walkL c0 5 (thgI (dX 0).id)).1).map (·.1):=by decide+kernel
theorem walk0_L:(walkL c0 5 (thgI dL.id)).2=some (dL.id,5):=by decide+kernel
theorem built_idZ:prog.built 24 []=some (qA zeros32):=by kernel_rfl
theorem desc_idAt{w:World}{b off:Nat}{d:DescL}(h:CellsAt w b off (qB d))(hd:d.id.length=32):CellsAt w b (off+1) (qA d.id):=fun j hj=>by
 have h1:(qB d).size=35:=qR hd;have h2:(qA d.id).size=32:=by rw[qE,hd]
 rw[Nat.add_assoc,h (1+j) (by omega)];exact descRow_at1 j hj
theorem slD_lit{w:World}{b n:Nat}{ds:List DescL}(h:w.heap[b]?=some (.cells (ds.flatMap fun d=>(qB d).toList).toArray 46 (0,0)))(h32:∀d∈ds,d.id.length=32)(hn:n=ds.length)(hl:ds.length<=1000):Sl false w AnyB 35 DscC (.slice (some ⟨b,0,none⟩) n n) ds:=by
 subst hn
 have e:ds.flatMap (fun d=>(qB d).toList)=ds.flatMap descE:=by
  clear h hl
  induction ds with
  |nil=>rfl
  |cons d ds ih=>rw[List.flatMap_cons,List.flatMap_cons,ih (fun x hx=>h32 x (List.mem_cons_of_mem _ hx))];unfold descE;rw[if_pos (h32 d List.mem_cons_self)]
 have hlen:(ds.flatMap descE).length=ds.length*35:=by
  clear h hl e h32
  induction ds with
  |nil=>rfl
  |cons d ds ih=>rw[List.flatMap_cons,List.length_append,descE_len,ih,List.length_cons];omega
 have hg:GatD 0 w (.slice (some ⟨b,0,none⟩) ds.length ds.length) ds:=⟨hlen,.inr ⟨b,ds.length,_,rfl,Nat.zero_le _,h,Nat.le_refl _,by unfold maxLen;omega,by simp only[List.size_toArray,e,hlen],by simp only[e];rw[List.take_of_length_le (by omega)]⟩⟩
 have hs:=(Gat.sl hg descE_len).weak;obtain⟨a,c,e1,e2,e3,hc⟩:=hs;refine⟨a,c,e1,e2,e3,fun hne=>?_⟩;obtain⟨b',off',e4,_,_,hcc⟩:=hc hne
 refine⟨b',off',e4,trivial,fun e=>(by cases e),fun i hi=>?_⟩;obtain⟨cs,hs1,hs2,hs3⟩:=hcc i hi
 exact⟨cs,hs1,⟨by rw[hs2];exact descE_eq (h32 _ (List.getElem_mem hi)),h32 _ (List.getElem_mem hi)⟩,hs3⟩
def LibQ(w:World)(eL eC eM eX:DescL)(c:BlobL):Ending->World->Prop:=fun e w'=>∃bs,e=.returned (.tuple #[.agg (exRow (.pointer (some ⟨bs,0,none⟩)) (qB eL) (qB eC) (qB eM) (qB eX)),.bool true])/\StNew w w' bs 32 c
structure AwF(c:BlobL)(eL eC eM eX:DescL):Prop where
 few:c.length<=1000
 iL:eL.id.length=32
 iC:eC.id.length=32
 iM:eM.id.length=32
 iX:eX.id.length=32
 w1:(walkL c 5 (thgI eM.id)).2.isNone=true/\(walkM (walkL c 5 (thgI eM.id)).1).length<=256/\(∀x∈(walkM (walkL c 5 (thgI eM.id)).1).map (·.1),x∈[eC.id,eL.id,eM.id])/\∀x∈[eC.id,eL.id,eM.id],x∈(walkM (walkL c 5 (thgI eM.id)).1).map (·.1)
 w2:(walkL c 5 (thgI eX.id)).2.isNone=true/\(walkM (walkL c 5 (thgI eX.id)).1).length<=256/\(∀x∈(walkM (walkL c 5 (thgI eX.id)).1).map (·.1),x∈[eC.id,eL.id,eM.id,eX.id])/\∀x∈[eC.id,eL.id,eM.id,eX.id],x∈(walkM (walkL c 5 (thgI eX.id)).1).map (·.1)
 w3:(walkL c 5 (thgI eL.id)).2=some (eL.id,5)
theorem awake_walk{c0:BlobL}{eL eC eM eX:DescL}(F:AwF c0 eL eC eM eX)(h0:∀w,Calls prog 28 #[.int .i64 (0:Nat)] w (LibQ w eL eC eM eX c0))(w:World):Calls prog 16 #[] w (RetM (.bool true) w):=by
 have sZ:(qB descZ).size=35:=qR zG;have iL:=F.iL;have iC:=F.iC;have iM:=F.iM;have iX:=F.iX;have sL:(qB eL).size=35:=qR iL
 have sC:(qB eC).size=35:=qR iC;have sM:(qB eM).size=35:=qR iM;have sX:(qB eX).size=35:=qR iX
 have cL:(qA eL.id).size=32:=by rw[qE,iL]
 have cM:(qA eM.id).size=32:=by rw[qE,iM]
 have cX:(qA eX.id).size=32:=by rw[qE,iX]
 have hzs:=zX (p:=.pointer none) sZ sZ sZ sZ;have hfour:=F.few;have hlib:=h0 w;have W1:=hid F.w1;have W2:=hid F.w2;have W3:=hid F.w3;clear F h0
 go_enter func16,ntmps16;go_upto_region 1 with(fail);refine wpR [1,3,3,3,1,1,3] (by rfl) (by rfl) ?_;simp only[zz2];refine wpDo rfl ?_
 refine qD (qF 28 [.const (.int .i64 0)] _ rfl _ func28 rfl (by kernel_rfl) [.int .i64 (0:Nat)] rfl _) (hlib) ?_;rintro e w1 ⟨bs,he1,Ft,hat,hFn,hm1⟩;subst he1
 refine⟨_,rfl,?_⟩;refine qC _ rfl rfl ?_;simp only[nmz]
 refine qG rfl (fun w'=>qP _ 0 #[.agg (exRow (.pointer (some ⟨bs,0,none⟩)) (qB eL) (qB eC) (qB eM) (qB eX)),.bool true] rfl rfl (.agg (exRow (.pointer (some ⟨bs,0,none⟩)) (qB eL) (qB eC) (qB eM) (qB eX))) rfl) ?_
 simp only[nmz]
 refine qG rfl (fun w'=>qP _ 1 #[.agg (exRow (.pointer (some ⟨bs,0,none⟩)) (qB eL) (qB eC) (qB eM) (qB eX)),.bool true] rfl rfl (.bool true) rfl) ?_
 simp only[nmz];refine wpDo rfl ?_;refine qU 48 _ (by rfl) exampleZ (fun w2 hB2 hm2 hs2=>?_)
 replace hB2:w2.heap[w1.heap.size]?=some (.cells (exRow (.pointer none) (qB descZ) (qB descZ) (qB descZ) (qB descZ)) 48 (0,0)):=hB2
 try simp only[nmz]
 refine wpDo rfl ?_
 refine qM 48 _ _ w1.heap.size 0 (exRow (.pointer (some ⟨bs,0,none⟩)) (qB eL) (qB eC) (qB eM) (qB eX)) (by rfl) (by rfl) (by rfl) (exRow_one rfl (zJ _ _ _ _) (zJ _ _ _ _) (zJ _ _ _ _) (zJ _ _ _ _)) 141 (by kernel_rfl) (zX sL sC sM sX) _ _ hB2 (by rw[hzs,zX sL sC sM sX];omega) (fun w3 hB3 hm3=>?_)
 rw[qI (by rw[hzs,zX sL sC sM sX])]at hB3;refine qJ _ rfl rfl ?_;simp only[nmz];refine qK ?_
 have hm13:Mod NoB w1 w3:=hm2.transB hm3 (Nat.le_refl _);have hm03:=hm1.trans0 hm13;have hat3:=hat.keep0 hm13
 have x0:w3.cell? ⟨w1.heap.size,0,none⟩=some (.pointer (some ⟨bs,0,none⟩)):=ex_at0 hB3;have x1:CellsAt w3 w1.heap.size (0+1) (qB eL):=ex_at1 hB3
 have x2:CellsAt w3 w1.heap.size (0+36) (qB eC):=ex_at2 sL hB3;have x3:CellsAt w3 w1.heap.size (0+71) (qB eM):=ex_at3 sL sC hB3
 have x4:CellsAt w3 w1.heap.size (0+106) (qB eX):=ex_at4 sL sC sM hB3;have y1:=desc_idAt x1 iL;have y3:=desc_idAt x3 iM;have y4:=desc_idAt x4 iX
 generalize hb1:w1.heap.size=b1 at*;clear hlib hat hm2 hm3 hm13 hm1 hB2 hB3 hs2;go_upto_region 2 with(fail);have hS:Mod NoB w3 w3.drew:=(Mod.refl _ _).drew
 have hT:Mod NoB w3 w3.drew:=(Mod.refl _ _).drew
 refine wpRP [(0,3),(1,3),(2,3),(3,0),(4,3),(5,3),(6,0),(7,3),(8,0),(9,3),(10,0),(11,3),(12,0),(15,0),(13,1),(14,1),(16,1),(17,3),(18,3),(19,3),(20,0),(21,3),(22,3),(23,0),(24,3),(25,0),(26,3),(27,0),(28,3),(29,0),(30,3),(31,0),(34,0),(32,1),(33,1),(35,1),(36,3),(37,3),(38,3),(39,0),(40,3),(41,3),(42,0),(43,3),(44,3),(45,0),(46,1),(47,3),(48,3)] [] (fun w'=>Mod NoB w3 w') hS ?_
 simp only[zz4];refine qC _ rfl rfl ?_;simp only[nmz];refine qC _ rfl rfl ?_;simp only[nmz];refine qN _ _ _ _ _ _ rfl rfl rfl fo_48_0 ?_;simp only[nmz]
 refine wpLd 29 b1 0 (fun w' hS=>hS.cell id x0) underlying29 ?_;simp only[nmz];refine qN _ _ _ _ _ _ rfl rfl rfl fo_48_3 ?_;simp only[nmz]
 refine qN _ _ _ _ _ _ rfl rfl rfl yC ?_;simp only[nmz];refine wpLA 24 b1 (0+71+1) (qA eM.id) (fun w' hS=>y3.keep hS id) underlying24 32 cM ?_
 simp only[nmz];refine qN _ _ _ _ _ _ rfl rfl rfl fo_48_2 ?_;simp only[nmz];refine wpLA 46 b1 (0+36) (qB eC) (fun w' hS=>x2.keep hS id) underlying46 35 sC ?_
 simp only[nmz];refine qN _ _ _ _ _ _ rfl rfl rfl fo_48_1 ?_;simp only[nmz];refine wpLA 46 b1 (0+1) (qB eL) (fun w' hS=>x1.keep hS id) underlying46 35 sL ?_
 simp only[nmz];refine qN _ _ _ _ _ _ rfl rfl rfl fo_48_3 ?_;simp only[nmz];refine wpLA 46 b1 (0+71) (qB eM) (fun w' hS=>x3.keep hS id) underlying46 35 sM ?_
 simp only[nmz];refine qW rfl (fun w' hS=>qS 24 [] [] _ (by rfl) (by rfl) built_idZ) ?_;simp only[nmz];refine qT rfl (fun K hK=>?_)
 refine xE 161 46 3 [(0,_),(1,_),(2,_)] [.agg (qB eC),.agg (qB eL),.agg (qB eM)] (.agg (qB descZ)) 35 (by rfl) (by rfl) (by rfl) underlying161 desc_zs9 (by omega) (by omega) (by intro v hv;simp at hv;rcases hv with rfl|rfl|rfl<;>first|exact sC|exact sL|exact sM|exact sX) (fun w4 hB4 hm4 hs4=>?_)
 have hr1:=rising13_any (slD_lit (ds:=[eC,eL,eM]) hB4 (by intro d hd;simp at hd;rcases hd with rfl|rfl|rfl<;>first|exact iC|exact iL|exact iM|exact iX) rfl (by simp)) (by simp)
 replace hT:=hT.trans0 hm4;refine hK _ _ hT ?_;clear hK K;try simp only[nmz]
 refine qT rfl (fun K hK=>?_);refine qD (qF 31 [.tmp 20] _ rfl _ func31 rfl (by kernel_rfl) [_] rfl _) hr1 ?_;rintro e w5 ⟨vr,ks,rfl,hgk,hrk,hm5⟩
 replace hT:=hT.trans0 hm5
 have hk32:∀x∈ks,x.length=32:=fun x hx=>by
  have:=(hrk.2 x).1 hx
  simp at this
  rcases this with rfl|rfl|rfl
  ·exact iC
  ·exact iL
  ·exact iM
 have hw1:=yU (hat3.keep0 hT) hfour iM (bad:=zeros32) (by decide) (slI hgk hk32) 0;refine⟨_,rfl,hK _ _ hT ?_⟩;clear hK K hm5;try simp only[nmz]
 refine qT rfl (fun K hK=>?_)
 refine qD (qF 29 [.tmp 10,.tmp 13,.tmp 21,.tmp 22,.const (.int .i64 0)] _ rfl _ func29 rfl (by kernel_rfl) [_,_,_,_,_] rfl _) hw1 ?_
 rintro e w6 ⟨hm6,ids,b2,n2,hout,rfl⟩;rw[decide_eq_true (walk_whole W1.out.1 W1.out.2.1 W1.out.2.2.1 W1.out.2.2.2 hrk hout)];replace hT:=hT.trans0 hm6
 refine⟨_,rfl,hK _ _ hT ?_⟩;clear hK K hm6 hout hw1 hgk hrk hr1 hB4 hm4 hs4;refine zB _ _ _ _ rfl rfl rfl ?_;simp only[nmz];refine qC _ rfl rfl ?_;simp only[nmz]
 refine qN _ _ _ _ _ _ rfl rfl rfl fo_48_0 ?_;simp only[nmz];refine wpLd 29 b1 0 (fun w' hS=>hS.cell id x0) underlying29 ?_;simp only[nmz]
 refine qN _ _ _ _ _ _ rfl rfl rfl fo_48_4 ?_;simp only[nmz];refine qN _ _ _ _ _ _ rfl rfl rfl yC ?_;simp only[nmz]
 refine wpLA 24 b1 (0+106+1) (qA eX.id) (fun w' hS=>y4.keep hS id) underlying24 32 cX ?_;simp only[nmz];refine qN _ _ _ _ _ _ rfl rfl rfl fo_48_2 ?_
 simp only[nmz];refine wpLA 46 b1 (0+36) (qB eC) (fun w' hS=>x2.keep hS id) underlying46 35 sC ?_;simp only[nmz];refine qN _ _ _ _ _ _ rfl rfl rfl fo_48_1 ?_
 simp only[nmz];refine wpLA 46 b1 (0+1) (qB eL) (fun w' hS=>x1.keep hS id) underlying46 35 sL ?_;simp only[nmz];refine qN _ _ _ _ _ _ rfl rfl rfl fo_48_3 ?_
 simp only[nmz];refine wpLA 46 b1 (0+71) (qB eM) (fun w' hS=>x3.keep hS id) underlying46 35 sM ?_;simp only[nmz];refine qN _ _ _ _ _ _ rfl rfl rfl fo_48_4 ?_
 simp only[nmz];refine wpLA 46 b1 (0+106) (qB eX) (fun w' hS=>x4.keep hS id) underlying46 35 sX ?_;simp only[nmz]
 refine qW rfl (fun w' hS=>qS 24 [] [] _ (by rfl) (by rfl) built_idZ) ?_;simp only[nmz];refine qT rfl (fun K hK=>?_)
 refine xE 161 46 4 [(0,_),(1,_),(2,_),(3,_)] [.agg (qB eC),.agg (qB eL),.agg (qB eM),.agg (qB eX)] (.agg (qB descZ)) 35 (by rfl) (by rfl) (by rfl) underlying161 desc_zs9 (by omega) (by omega) (by intro v hv;simp at hv;rcases hv with rfl|rfl|rfl|rfl<;>first|exact sC|exact sL|exact sM|exact sX) (fun w7 hB7 hm7 hs7=>?_)
 have hr2:=rising13_any (slD_lit (ds:=[eC,eL,eM,eX]) hB7 (by intro d hd;simp at hd;rcases hd with rfl|rfl|rfl|rfl<;>first|exact iC|exact iL|exact iM|exact iX) rfl (by simp)) (by simp)
 replace hT:=hT.trans0 hm7;refine hK _ _ hT ?_;clear hK K;try simp only[nmz]
 refine qT rfl (fun K hK=>?_);refine qD (qF 31 [.tmp 39] _ rfl _ func31 rfl (by kernel_rfl) [_] rfl _) hr2 ?_;rintro e w8 ⟨vr2,ks2,rfl,hgk,hrk,hm8⟩
 replace hT:=hT.trans0 hm8
 have hk32:∀x∈ks2,x.length=32:=fun x hx=>by
  have:=(hrk.2 x).1 hx
  simp at this
  rcases this with rfl|rfl|rfl|rfl
  ·exact iC
  ·exact iL
  ·exact iM
  ·exact iX
 have hw2:=yU (hat3.keep0 hT) hfour iX (bad:=zeros32) (by decide) (slI hgk hk32) 0;refine⟨_,rfl,hK _ _ hT ?_⟩;clear hK K hm8;try simp only[nmz]
 refine qT rfl (fun K hK=>?_)
 refine qD (qF 29 [.tmp 27,.tmp 30,.tmp 40,.tmp 41,.const (.int .i64 0)] _ rfl _ func29 rfl (by kernel_rfl) [_,_,_,_,_] rfl _) hw2 ?_
 rintro e w9 ⟨hm9,ids,b2,n2,hout,rfl⟩;rw[decide_eq_true (walk_whole W2.out.1 W2.out.2.1 W2.out.2.2.1 W2.out.2.2.2 hrk hout)];replace hT:=hT.trans0 hm9
 have hw3:=yU (hat3.keep0 hT) hfour iL iL (Sl.nil false w9 AnyB 32 IdC) 5;refine⟨_,rfl,hK _ _ hT ?_⟩;clear hK K hm9 hout hw2 hgk hrk hr2 hB7 hm7 hs7
 refine zB _ _ _ _ rfl rfl rfl ?_;simp only[nmz];refine qC _ rfl rfl ?_;simp only[nmz];refine qN _ _ _ _ _ _ rfl rfl rfl fo_48_0 ?_;simp only[nmz]
 refine wpLd 29 b1 0 (fun w' hS=>hS.cell id x0) underlying29 ?_;simp only[nmz];refine qN _ _ _ _ _ _ rfl rfl rfl fo_48_1 ?_;simp only[nmz]
 refine qN _ _ _ _ _ _ rfl rfl rfl yC ?_;simp only[nmz];refine wpLA 24 b1 (0+1+1) (qA eL.id) (fun w' hS=>y1.keep hS id) underlying24 32 cL ?_
 simp only[nmz];refine qN _ _ _ _ _ _ rfl rfl rfl fo_48_1 ?_;simp only[nmz];refine qN _ _ _ _ _ _ rfl rfl rfl yC ?_;simp only[nmz]
 refine wpLA 24 b1 (0+1+1) (qA eL.id) (fun w' hS=>y1.keep hS id) underlying24 32 cL ?_;simp only[nmz];refine qT rfl (fun K hK=>?_)
 refine qD (qF 29 [.tmp 46,.tmp 49,.const (.slice none 0 0),.tmp 52,.const (.int .i64 5)] _ rfl _ func29 rfl (by kernel_rfl) [_,_,_,_,_] rfl _) hw3 ?_
 rintro e wa ⟨hma,ids,b2,n2,hout,rfl⟩;rw[decide_eq_true (walk_wrong W3.out hout)];replace hT:=hT.trans0 hma;refine⟨_,rfl,hK _ _ hT ?_⟩;clear hK K hma hout hw3
 refine zB _ _ _ _ rfl rfl rfl ?_;simp only[nmz];refine qJ _ rfl rfl ?_;simp only[nmz];refine qK ?_;have HF:=hid (hm03.trans0 hT)
 clear hS hT hm03 hat3 x0 x1 x2 x3 x4 y1 y3 y4;go_wp2;go_ret;exact⟨rfl,HF.out⟩
theorem awakeF:AwF c0 dL dC dM (dX 0) where
 few:=by have h:c0.length=4:=lib_four 0 (by omega);omega
 iL:=xG _
 iC:=xG _
 iM:=xG _
 iX:=xG _
 w1:=walk0_M
 w2:=walk0_X
 w3:=walk0_L
theorem awake13_any(w:World):Calls prog 16 #[] w (RetM (.bool true) w):=awake_walk awakeF (fun w=>lib13_any w 0 (by omega)) w
theorem id_zs0:(prog.info? 24).map (fun i=>(i.zero,i.size))=some (some (.agg (qA (List.replicate 32 0))),32):=by kernel_rfl
theorem slI_one{w:World}{b:Nat}{x:List UInt8}(h:w.heap[b]?=some (.cells (qA x) 24 (0,0)))(hx:x.length=32):Sl false w AnyB 32 IdC (.slice (some ⟨b,0,none⟩) 1 1) [x]:=sl_one h ⟨rfl,hx⟩ 32 (by rw[qE,hx])
def id1:List UInt8:=1::List.replicate 31 0
def c1:BlobL:=cOf 32 (libL 1)
def c0a:BlobL:=delL dL.id c0
def c0b:BlobL:=delL dM.id c0a
theorem known_1:(walkL c0 5 (thgI id1)).2=some (id1,14):=by decide+kernel
theorem known_2:(walkL c1 5 (thgI (dX 1).id)).2=some (dM.id,17):=by decide+kernel
theorem known_3:(getL dL.id c0).isSome=true/\(walkL c0a 5 (thgI (dX 0).id)).2=some (dL.id,14):=by decide+kernel
theorem known_4:(∀x∈(xR c0a [(dX 0).id]).map (·.1),x∈[dC.id,dL.id,dM.id,(dX 0).id])/\∀x∈[dC.id,dL.id,dM.id,(dX 0).id],x∈(xR c0a [(dX 0).id]).map (·.1):=by decide+kernel
theorem known_5:(getL dM.id c0a).isSome=true/\(∀x∈(xR c0b [(dX 0).id]).map (·.1),x∈[dM.id,(dX 0).id])/\∀x∈[dM.id,(dX 0).id],x∈(xR c0b [(dX 0).id]).map (·.1):=by decide+kernel
theorem mark_rise{c:BlobM}{roots l ks ids:List (List UInt8)}(h:(∀x∈(xR c roots).map (·.1),x∈l)/\∀x∈l,x∈(xR c roots).map (·.1))(hr:RiseI l ks)(hm:MarkOf c roots ids):ids=ks:=
 sorted_ext hm.1 hr.1 fun x=>by
  rw[hm.2 x,<-marks_keys c roots x,hr.2 x]
  have e:(getL x (xR c roots)).isSome=true↔x∈(xR c roots).map (·.1):=by
   cases hg:getL x (xR c roots)with
   |none=>simp[getL_none.1 hg]
   |some k=>
    simp only[Option.isSome_some,true_iff];exact List.mem_map.2 ⟨_,getL_mem hg,rfl⟩
  rw[e];exact⟨h.1 x,h.2 x⟩
theorem Mod.more{S:Nat->Prop}{w w1 w2:World}(h:Mod S w w1)(k:Mod NoB w1 w2):Mod S w w2:=h.trans k (fun _ _ h=>h.elim)
structure KnF(c0 c1:BlobL)(eL eC eM eX oX:DescL):Prop where
 l0:c0.length<=1000
 l1:c1.length<=1000
 la:(delL eL.id c0).length<=1000
 lb:(delL eM.id (delL eL.id c0)).length<=1000
 iL:eL.id.length=32
 iC:eC.id.length=32
 iM:eM.id.length=32
 iX:eX.id.length=32
 iO:oX.id.length=32
 k1:(walkL c0 5 (thgI id1)).2=some (id1,14)
 k2:(walkL c1 5 (thgI oX.id)).2=some (eM.id,17)
 k3:(getL eL.id c0).isSome=true/\(walkL (delL eL.id c0) 5 (thgI eX.id)).2=some (eL.id,14)
 k4:(∀x∈(xR (delL eL.id c0) [eX.id]).map (·.1),x∈[eC.id,eL.id,eM.id,eX.id])/\∀x∈[eC.id,eL.id,eM.id,eX.id],x∈(xR (delL eL.id c0) [eX.id]).map (·.1)
 k5:(getL eM.id (delL eL.id c0)).isSome=true/\(∀x∈(xR (delL eM.id (delL eL.id c0)) [eX.id]).map (·.1),x∈[eM.id,eX.id])/\∀x∈[eM.id,eX.id],x∈(xR (delL eM.id (delL eL.id c0)) [eX.id]).map (·.1)
theorem built_id1:prog.built 24 [(0,.int .u8 1)]=some (qA id1):=by kernel_rfl
theorem id1_len:id1.length=32:=by decide
def KMid(w:World)(Ft:Nat->Prop)(bs:Nat)(c:BlobL)(s:Value)(wx:World):Prop:=s=.bool false/\∃Fa,StoAt wx bs 32 c Fa/\Mod Ft w wx/\∀k,Fa k->Ft k\/New w wx k
theorem del_le(x:List UInt8):∀(c:BlobL),(delL x c).length<=c.length
 | []=>Nat.le_refl _
 |p::c=>by
  unfold delL;have:=del_le x c
  split<;>simp only[List.length_cons]<;>omega
theorem known_walk{c0 c1:BlobL}{eL eC eM eX oX:DescL}(F:KnF c0 c1 eL eC eM eX oX)(h0:∀w,Calls prog 28 #[.int .i64 (0:Nat)] w (LibQ w eL eC eM eX c0))(h1:∀w,Calls prog 28 #[.int .i64 (1:Nat)] w (LibQ w eL eC eM oX c1))(ha:∀w,Calls prog 16 #[] w (RetM (.bool true) w))(w:World):
 Calls prog 5 #[] w (RetM (.bool true) w):=by
 have sZ:(qB descZ).size=35:=qR zG;have sL:(qB eL).size=35:=qR F.iL;have sC:(qB eC).size=35:=qR F.iC
 have sM:(qB eM).size=35:=qR F.iM;have sX:(qB eX).size=35:=qR F.iX;have sO:(qB oX).size=35:=qR F.iO
 have iL:=F.iL;have iC:=F.iC;have iM:=F.iM;have iX:=F.iX;have iO:=F.iO;have cL:(qA eL.id).size=32:=by rw[qE,iL]
 have cM:(qA eM.id).size=32:=by rw[qE,iM]
 have cX:(qA eX.id).size=32:=by rw[qE,iX]
 have cO:(qA oX.id).size=32:=by rw[qE,iO]
 have hzs:=zX (p:=.pointer none) sZ sZ sZ sZ;have HF0:=hid F;have H0:=hid h0;have H1:=hid h1;have HA:=hid ha;clear F h0 h1 ha;go_enter func5,ntmps5
 go_upto_region 1 with(fail);refine wpR [1,3,3,3,1,1,3] (by rfl) (by rfl) ?_;simp only[zz2];refine wpDo rfl ?_
 refine qD (qF 28 [.const (.int .i64 0)] _ rfl _ func28 rfl (by kernel_rfl) [.int .i64 (0:Nat)] rfl _) (H0.out w) ?_;rintro e w1 ⟨bs,he1,Ft,hat,hFn,hm1⟩
 subst he1;refine⟨_,rfl,?_⟩;refine qC _ rfl rfl ?_;simp only[nmz]
 refine qG rfl (fun w'=>qP _ 0 #[.agg (exRow (.pointer (some ⟨bs,0,none⟩)) (qB eL) (qB eC) (qB eM) (qB eX)),.bool true] rfl rfl (.agg (exRow (.pointer (some ⟨bs,0,none⟩)) (qB eL) (qB eC) (qB eM) (qB eX))) rfl) ?_
 simp only[nmz]
 refine qG rfl (fun w'=>qP _ 1 #[.agg (exRow (.pointer (some ⟨bs,0,none⟩)) (qB eL) (qB eC) (qB eM) (qB eX)),.bool true] rfl rfl (.bool true) rfl) ?_
 simp only[nmz];refine wpDo rfl ?_;refine qU 48 _ (by rfl) exampleZ (fun w2 hB2 hm2 hs2=>?_)
 replace hB2:w2.heap[w1.heap.size]?=some (.cells (exRow (.pointer none) (qB descZ) (qB descZ) (qB descZ) (qB descZ)) 48 (0,0)):=hB2
 try simp only[nmz]
 refine wpDo rfl ?_
 refine qM 48 _ _ w1.heap.size 0 (exRow (.pointer (some ⟨bs,0,none⟩)) (qB eL) (qB eC) (qB eM) (qB eX)) (by rfl) (by rfl) (by rfl) (exRow_one rfl (zJ _ _ _ _) (zJ _ _ _ _) (zJ _ _ _ _) (zJ _ _ _ _)) 141 (by kernel_rfl) (zX sL sC sM sX) _ _ hB2 (by rw[hzs,zX sL sC sM sX];omega) (fun w3 hB3 hm3=>?_)
 rw[qI (by rw[hzs,zX sL sC sM sX])]at hB3;refine qJ _ rfl rfl ?_;simp only[nmz];refine qK ?_
 have hm13:Mod NoB w1 w3:=hm2.transB hm3 (Nat.le_refl _);have hm03:=hm1.trans0 hm13;have hat3:=hat.keep0 hm13;have hlt1:∀k,Ft k->k<w1.heap.size:=hat.lt
 have s13:=hm13.size;have s01:=hm1.size;have lb1:w1.heap.size<w3.heap.size:=(Array.getElem?_eq_some_iff.1 hB3).1;generalize hb1:w1.heap.size=b1 at*
 clear hat hm1 hm2 hm3 hm13 hB2 hs2;go_upto_region 2 with(fail);refine wpR [1,3,3,3,1,1,3] (by rfl) (by rfl) ?_;simp only[zz2];refine wpDo rfl ?_
 refine qD (qF 28 [.const (.int .i64 1)] _ rfl _ func28 rfl (by kernel_rfl) [.int .i64 (1:Nat)] rfl _) (H1.out w3) ?_;rintro e w4 ⟨bo,he4,Fo,hao,hFon,hm4⟩
 subst he4;refine⟨_,rfl,?_⟩;refine qC _ rfl rfl ?_;simp only[nmz]
 refine qG rfl (fun w'=>qP _ 0 #[.agg (exRow (.pointer (some ⟨bo,0,none⟩)) (qB eL) (qB eC) (qB eM) (qB oX)),.bool true] rfl rfl (.agg (exRow (.pointer (some ⟨bo,0,none⟩)) (qB eL) (qB eC) (qB eM) (qB oX))) rfl) ?_
 simp only[nmz]
 refine qG rfl (fun w'=>qP _ 1 #[.agg (exRow (.pointer (some ⟨bo,0,none⟩)) (qB eL) (qB eC) (qB eM) (qB oX)),.bool true] rfl rfl (.bool true) rfl) ?_
 simp only[nmz];refine wpDo rfl ?_;refine qU 48 _ (by rfl) exampleZ (fun w5 hB5 hm5 hs5=>?_)
 replace hB5:w5.heap[w4.heap.size]?=some (.cells (exRow (.pointer none) (qB descZ) (qB descZ) (qB descZ) (qB descZ)) 48 (0,0)):=hB5
 try simp only[nmz]
 refine wpDo rfl ?_
 refine qM 48 _ _ w4.heap.size 0 (exRow (.pointer (some ⟨bo,0,none⟩)) (qB eL) (qB eC) (qB eM) (qB oX)) (by rfl) (by rfl) (by rfl) (exRow_one rfl (zJ _ _ _ _) (zJ _ _ _ _) (zJ _ _ _ _) (zJ _ _ _ _)) 141 (by kernel_rfl) (zX sL sC sM sO) _ _ hB5 (by rw[hzs,zX sL sC sM sO];omega) (fun w6 hB6 hm6=>?_)
 rw[qI (by rw[hzs,zX sL sC sM sO])]at hB6;refine qJ _ rfl rfl ?_;simp only[nmz];refine qK ?_
 have hm46:Mod NoB w4 w6:=hm5.transB hm6 (Nat.le_refl _);have hm36:=hm4.trans0 hm46;have hm06:=hm03.trans0 hm36;have s36:=hm36.size;have hat6:=hat3.keep0 hm36
 have hao6:=hao.keep0 hm46;have hB36:=hm36.obj id hB3;have x0:w6.cell? ⟨b1,0,none⟩=some (.pointer (some ⟨bs,0,none⟩)):=ex_at0 hB36
 have x1:CellsAt w6 b1 (0+1) (qB eL):=ex_at1 hB36;have x2:CellsAt w6 b1 (0+36) (qB eC):=ex_at2 sL hB36
 have x3:CellsAt w6 b1 (0+71) (qB eM):=ex_at3 sL sC hB36;have x4:CellsAt w6 b1 (0+106) (qB eX):=ex_at4 sL sC sM hB36;have y1:=desc_idAt x1 iL
 have y3:=desc_idAt x3 iM;have y4:=desc_idAt x4 iX;have z0:w6.cell? ⟨w4.heap.size,0,none⟩=some (.pointer (some ⟨bo,0,none⟩)):=ex_at0 hB6
 have z3:CellsAt w6 w4.heap.size (0+71+1) (qA eM.id):=desc_idAt (ex_at3 sL sC hB6) iM
 have z4:CellsAt w6 w4.heap.size (0+106+1) (qA oX.id):=desc_idAt (ex_at4 sL sC sM hB6) iO;generalize hb3:w4.heap.size=b3 at*
 have hnb:¬Ft b1:=fun e=>by have:=hlt1 _ e;omega
 clear hat3 hao hm4 hm5 hm6 hm46 hm36 hm03 hB3 hB5 hB6 hB36 hs5 H0 H1;go_upto_region 3 with(fail);have hS:Mod NoB w6 w6:=Mod.refl _ _;have hT:Mod NoB w6 w6:=Mod.refl _ _
 refine wp_region_seq [1,3,3,3,3,3,3,3,3,3,3,3,0,0,0,1,3,3,3,3,0,3,3,0,3,3,0,1,3,3] (fun w'=>Mod NoB w6 w') (by rfl) (by rfl) hS ?_;simp only[zz2]
 refine qT rfl (fun K hK=>?_);refine qD (qF 16 [] _ rfl _ func16 rfl (by kernel_rfl) [] rfl _) (HA.out _) ?_;rintro e w7 ⟨rfl,hm7⟩;replace hT:=hT.trans0 hm7
 refine⟨_,rfl,hK _ _ hT ?_⟩;clear hK K hm7;try simp only[nmz]
 refine zI _ _ _ rfl rfl rfl ?_;simp only[nmz];refine qC _ rfl rfl ?_;simp only[nmz];refine qC _ rfl rfl ?_;simp only[nmz]
 refine zI _ _ _ rfl rfl rfl ?_;simp only[nmz];refine zB _ _ _ _ rfl rfl rfl ?_;simp only[nmz];refine qC _ rfl rfl ?_;simp only[nmz]
 refine qC _ rfl rfl ?_;simp only[nmz];refine zI _ _ _ rfl rfl rfl ?_;simp only[nmz];refine zB _ _ _ _ rfl rfl rfl ?_;simp only[nmz]
 refine qC _ rfl rfl ?_;simp only[nmz];refine qN _ _ _ _ _ _ rfl rfl rfl fo_48_0 ?_;simp only[nmz];refine wpLd 29 b1 0 (fun w' hS=>hS.cell id x0) underlying29 ?_
 simp only[nmz];refine qW rfl (fun w' hS=>qS 24 [(0,_)] [(0,.int .u8 1)] _ (by rfl) (by rfl) built_id1) ?_;simp only[nmz]
 refine qW rfl (fun w' hS=>qS 24 [(0,_)] [(0,.int .u8 1)] _ (by rfl) (by rfl) built_id1) ?_;simp only[nmz];refine qT rfl (fun K hK=>?_)
 have hw1:=yU (hat6.keep0 hT) HF0.out.l0 id1_len id1_len (Sl.nil false _ AnyB 32 IdC) 14
 refine qD (qF 29 [.tmp 25,.tmp 26,.const (.slice none 0 0),.tmp 27,.const (.int .i64 14)] _ rfl _ func29 rfl (by kernel_rfl) [_,_,_,_,_] rfl _) hw1 ?_
 rintro e w8 ⟨hm8,ids,b2,n2,hout,rfl⟩;rw[decide_eq_true (walk_wrong HF0.out.k1 hout)];replace hT:=hT.trans0 hm8;refine⟨_,rfl,hK _ _ hT ?_⟩;clear hK K hm8 hout hw1
 try simp only[nmz]
 refine zI _ _ _ rfl rfl rfl ?_;simp only[nmz];refine zB _ _ _ _ rfl rfl rfl ?_;simp only[nmz];refine qC _ rfl rfl ?_;simp only[nmz]
 refine qN _ _ _ _ _ _ rfl rfl rfl fo_48_0 ?_;simp only[nmz];refine wpLd 29 b3 0 (fun w' hS=>hS.cell id z0) underlying29 ?_;simp only[nmz]
 refine qN _ _ _ _ _ _ rfl rfl rfl fo_48_4 ?_;simp only[nmz];refine qN _ _ _ _ _ _ rfl rfl rfl yC ?_;simp only[nmz]
 refine wpLA 24 b3 (0+106+1) (qA oX.id) (fun w' hS=>z4.keep hS id) underlying24 32 cO ?_;simp only[nmz];refine qN _ _ _ _ _ _ rfl rfl rfl fo_48_3 ?_
 simp only[nmz];refine qN _ _ _ _ _ _ rfl rfl rfl yC ?_;simp only[nmz]
 refine wpLA 24 b3 (0+71+1) (qA eM.id) (fun w' hS=>z3.keep hS id) underlying24 32 cM ?_;simp only[nmz];refine qT rfl (fun K hK=>?_)
 have hw1:=yU (hao6.keep0 hT) HF0.out.l1 iO iM (Sl.nil false _ AnyB 32 IdC) 17
 refine qD (qF 29 [.tmp 33,.tmp 36,.const (.slice none 0 0),.tmp 39,.const (.int .i64 17)] _ rfl _ func29 rfl (by kernel_rfl) [_,_,_,_,_] rfl _) hw1 ?_
 rintro e w9 ⟨hm9,ids,b2,n2,hout,rfl⟩;rw[decide_eq_true (walk_wrong HF0.out.k2 hout)];replace hT:=hT.trans0 hm9;refine⟨_,rfl,hK _ _ hT ?_⟩;clear hK K hm9 hout hw1
 try simp only[nmz]
 refine zI _ _ _ rfl rfl rfl ?_;simp only[nmz];refine zB _ _ _ _ rfl rfl rfl ?_;simp only[nmz];refine qK ?_;have hm09:=hm06.trans0 hT;have s69:=hT.size
 have hat9:=hat6.keep0 hT;replace x0:=hT.cell id x0;replace x1:=x1.keep hT id;replace x2:=x2.keep hT id;replace x3:=x3.keep hT id;replace x4:=x4.keep hT id
 replace y1:=y1.keep hT id;replace y3:=y3.keep hT id;replace y4:=y4.keep hT id;clear hS hT hat6 hao6 hm06 z0 z3 z4 HA;go_upto_region 5 with(fail)
 go_cut [90] (fun s wx=>KMid w9 Ft bs (delL eL.id c0) s wx)
 case first=>
  have hatd:=hat9.keep0 ((Mod.refl NoB w9).drew);have hS:Mod Ft w9 w9.drew:=(Mod.refl _ _).drew
  refine wp_region_plan [.inl [(0,3),(1,0),(2,3),(3,3),(4,0)],.inr (.inl 5),.inl [(6,3),(7,3),(8,3),(9,0),(10,3),(11,3),(12,0),(13,3),(14,3),(15,0)],.inr (.inl 16),.inl [(17,3),(18,3),(19,3),(20,3),(21,0),(22,3),(23,3),(24,0)],.inr (.inl 25),.inl [(26,3),(27,3),(28,3),(29,0),(30,3),(31,3),(32,0),(35,3),(36,0),(37,3),(38,0),(39,3),(40,0),(41,3),(42,0)],.inr (.inr (3,#[true,true,true,true,true,true,true,true,true,true,true,true,true,true,true,true,true,true,true,true,true,true,true,true,true,true,true,true,true,true,true,true,true,false,false,true,true,true,true,true,true,true,true,false,false,false,false,false])),.inr (.inl 44),.inr (.inl 45),.inl [(46,3),(47,3)]] (fun w'=>Mod Ft w9 w') (by kernel_rfl) (by kernel_rfl) (by kernel_rfl) (fun _ _ _ _ hd h=>⟨hd.trans h.1,h.2⟩) hS ?_
  refine yV ?_
  simp only[List.map_cons,List.map_nil,Array.getD_eq_getD_getElem?,List.getElem?_toArray,List.getElem?_cons_succ,List.getElem?_cons_zero,Option.getD_some]
  refine qN _ _ _ _ _ _ rfl rfl rfl fo_48_0 ?_;simp only[nmz];refine wpLd 29 b1 0 (fun w' hS=>hS.cell hnb x0) underlying29 ?_;simp only[nmz]
  refine qN _ _ _ _ _ _ rfl rfl rfl fo_48_1 ?_;simp only[nmz];refine qN _ _ _ _ _ _ rfl rfl rfl yC ?_;simp only[nmz]
  refine wpLA 24 b1 (0+1+1) (qA eL.id) (fun w' hS=>y1.keep hS hnb) underlying24 32 cL ?_;simp only[nmz];refine qK ?_;refine xS ?_
  refine yL rfl (fun K hK=>?_);simp only[Array.getD_eq_getD_getElem?,List.getElem?_toArray,List.getElem?_cons_succ,List.getElem?_cons_zero,Option.getD_some]
  refine qD (qF 30 [.tmp 44,.tmp 47] _ rfl _ func30 rfl (by kernel_rfl) [_,_] rfl _) (hatd.drop iL) ?_;rintro e wa ⟨rfl,Fa,hata,hma,hFa⟩;rw[HF0.out.k3.1]
  have hSa:Mod Ft w9 wa:=hS.trans hma (fun _ _ h=>h);have hT:Mod NoB wa wa:=Mod.refl _ _;refine⟨_,rfl,hK _ _ hSa ?_⟩;clear hK K hma;try simp only[nmz]
  refine yV ?_
  simp only[List.map_cons,List.map_nil,Array.getD_eq_getD_getElem?,List.getElem?_toArray,List.getElem?_cons_succ,List.getElem?_cons_zero,Option.getD_some]
  refine zI _ _ _ rfl rfl rfl ?_;simp only[nmz];refine qC _ rfl rfl ?_;simp only[nmz];refine qN _ _ _ _ _ _ rfl rfl rfl fo_48_0 ?_;simp only[nmz]
  refine wpLd 29 b1 0 (fun w' hS=>hS.cell hnb x0) underlying29 ?_;simp only[nmz];refine qN _ _ _ _ _ _ rfl rfl rfl fo_48_4 ?_;simp only[nmz]
  refine qN _ _ _ _ _ _ rfl rfl rfl yC ?_;simp only[nmz];refine wpLA 24 b1 (0+106+1) (qA eX.id) (fun w' hS=>y4.keep hS hnb) underlying24 32 cX ?_
  simp only[nmz];refine qN _ _ _ _ _ _ rfl rfl rfl fo_48_1 ?_;simp only[nmz];refine qN _ _ _ _ _ _ rfl rfl rfl yC ?_;simp only[nmz]
  refine wpLA 24 b1 (0+1+1) (qA eL.id) (fun w' hS=>y1.keep hS hnb) underlying24 32 cL ?_;simp only[nmz];refine qK ?_;refine xS ?_
  refine yL rfl (fun K hK=>?_);simp only[Array.getD_eq_getD_getElem?,List.getElem?_toArray,List.getElem?_cons_succ,List.getElem?_cons_zero,Option.getD_some]
  have hw1:=yU (hata.keep0 hT) HF0.out.la iX iL (Sl.nil false _ AnyB 32 IdC) 14
  refine qD (qF 29 [.tmp 52,.tmp 55,.const (.slice none 0 0),.tmp 58,.const (.int .i64 14)] _ rfl _ func29 rfl (by kernel_rfl) [_,_,_,_,_] rfl _) hw1 ?_
  rintro e wb ⟨hmb,ids,b2,n2,hout,rfl⟩;rw[decide_eq_true (walk_wrong HF0.out.k3.2 hout)];replace hT:=hT.trans0 hmb;refine⟨_,rfl,hK _ _ (hSa.more hT) ?_⟩
  clear hK K hmb hout hw1;try simp only[nmz]
  refine yV ?_
  simp only[List.map_cons,List.map_nil,Array.getD_eq_getD_getElem?,List.getElem?_toArray,List.getElem?_cons_succ,List.getElem?_cons_zero,Option.getD_some]
  refine zI _ _ _ rfl rfl rfl ?_;simp only[nmz];refine zB _ _ _ _ rfl rfl rfl ?_;simp only[nmz];refine qC _ rfl rfl ?_;simp only[nmz]
  refine qN _ _ _ _ _ _ rfl rfl rfl fo_48_0 ?_;simp only[nmz];refine wpLd 29 b1 0 (fun w' hS=>hS.cell hnb x0) underlying29 ?_;simp only[nmz]
  refine qN _ _ _ _ _ _ rfl rfl rfl fo_48_4 ?_;simp only[nmz];refine qN _ _ _ _ _ _ rfl rfl rfl yC ?_;simp only[nmz]
  refine wpLA 24 b1 (0+106+1) (qA eX.id) (fun w' hS=>y4.keep hS hnb) underlying24 32 cX ?_;simp only[nmz];refine qK ?_;refine xS ?_
  refine yL rfl (fun K hK=>?_);simp only[Array.getD_eq_getD_getElem?,List.getElem?_toArray,List.getElem?_cons_succ,List.getElem?_cons_zero,Option.getD_some]
  have hw1:=(hata.keep0 hT).whole HF0.out.la iX;refine qD (qF 25 [.tmp 64,.tmp 67] _ rfl _ func25 rfl (by kernel_rfl) [_,_] rfl _) hw1 ?_
  rintro e wc ⟨hmc,ids,b2,n2,hout,rfl⟩;obtain rfl:=(walk_wrong HF0.out.k3.2 hout).2.2;rw[show decide ((14:Int)=0)=false from rfl];replace hT:=hT.trans0 hmc
  refine⟨_,rfl,hK _ _ (hSa.more hT) ?_⟩;clear hK K hmc hout hw1;try simp only[nmz]
  refine yV ?_
  simp only[List.map_cons,List.map_nil,Array.getD_eq_getD_getElem?,List.getElem?_toArray,List.getElem?_cons_succ,List.getElem?_cons_zero,Option.getD_some]
  refine zB _ _ _ _ rfl rfl rfl ?_;simp only[nmz];refine qC _ rfl rfl ?_;simp only[nmz];refine qN _ _ _ _ _ _ rfl rfl rfl fo_48_0 ?_;simp only[nmz]
  refine wpLd 29 b1 0 (fun w' hS=>hS.cell hnb x0) underlying29 ?_;simp only[nmz];refine qN _ _ _ _ _ _ rfl rfl rfl fo_48_4 ?_;simp only[nmz]
  refine qN _ _ _ _ _ _ rfl rfl rfl yC ?_;simp only[nmz];refine wpLA 24 b1 (0+106+1) (qA eX.id) (fun w' hS=>y4.keep hS hnb) underlying24 32 cX ?_
  simp only[nmz];refine qN _ _ _ _ _ _ rfl rfl rfl fo_48_2 ?_;simp only[nmz];refine wpLA 46 b1 (0+36) (qB eC) (fun w' hS=>x2.keep hS hnb) underlying46 35 sC ?_
  simp only[nmz];refine qN _ _ _ _ _ _ rfl rfl rfl fo_48_1 ?_;simp only[nmz];refine wpLA 46 b1 (0+1) (qB eL) (fun w' hS=>x1.keep hS hnb) underlying46 35 sL ?_
  simp only[nmz];refine qN _ _ _ _ _ _ rfl rfl rfl fo_48_3 ?_;simp only[nmz];refine wpLA 46 b1 (0+71) (qB eM) (fun w' hS=>x3.keep hS hnb) underlying46 35 sM ?_
  simp only[nmz];refine qN _ _ _ _ _ _ rfl rfl rfl fo_48_4 ?_;simp only[nmz];refine wpLA 46 b1 (0+106) (qB eX) (fun w' hS=>x4.keep hS hnb) underlying46 35 sX ?_
  simp only[nmz];refine qK ?_;refine xS ?_
  refine wpPlan_dep [(76,(fun v w'=>Sl false w' AnyB 32 IdC v [eX.id])),(77,(fun v w'=>∃mks,Sl false w' AnyB 32 IdC v mks/\MarkOf (delL eL.id c0) [eX.id] mks)),(86,(fun v w'=>Sl false w' AnyB 35 DscC v [eC,eL,eM,eX]))] [(33,76,[]),(34,77,[76]),(43,86,[])] ?hF ?hS (by decide) (by kernel_rfl) (by kernel_rfl) (by kernel_rfl) ?hw ?hend ?hop
  case hF=>
   intro x hx;simp only[List.mem_cons,List.not_mem_nil,or_false]at hx
   rcases hx with rfl|rfl|rfl
   ·exact(fun _ _ _ h hm=>h.keep0 hm)
   ·exact(fun _ _ _ ⟨mks,h1,h2⟩ hm=>⟨mks,h1.keep0 hm,h2⟩)
   ·exact(fun _ _ _ h hm=>h.keep0 hm)
  case hS=>exact(fun _ hm=>hSa.more (hT.trans0 hm))
  case hw=>
   intro q hq;simp only[List.mem_cons,List.not_mem_nil,or_false]at hq
   rcases hq with rfl|rfl|rfl<;>rfl
  case hop=>
   intro q hq ps w1 hm hps hds hnd hpn K hK;simp only[List.mem_cons,List.not_mem_nil,or_false]at hq
   rcases hq with rfl|rfl|rfl
   ·simp only[depF,Nat.reduceEqDiff,if_true,if_false,reduceIte]at hK
    simp only[Array.getD_eq_getD_getElem?,List.getElem?_toArray,List.getElem?_cons_succ,List.getElem?_cons_zero,Option.getD_some];clear hps hds
    have E:∀t,t≠76->t≠77->t≠86->∀x:Act,(puts ps x).eval (.tmp t)=x.eval (.tmp t):=fun t h1 h2 h3 x=>puts_eval (fun p hp e=>by have h9:=(hpn p hp).2;rw[e]at h9;simp at h9;exact h9.elim h1 (fun h=>h.elim h2 h3)) x
    refine zF 25 24 _ (.agg (qA eX.id)) (.agg (qA (List.replicate 32 0))) 32 (by rfl) (by rw[E 75 (by decide) (by decide) (by decide)];rfl) underlying25 id_zs0 (by omega) (by omega) cX (fun wd hBd hmd hsd=>?_)
    exact hK _ _ hmd (slI_one hBd iX)
   ·simp only[depF,Nat.reduceEqDiff,if_true,if_false,reduceIte]at hK
    simp only[Array.getD_eq_getD_getElem?,List.getElem?_toArray,List.getElem?_cons_succ,List.getElem?_cons_zero,Option.getD_some];obtain⟨v76,hv76⟩:=hds 76 (by simp)
    have hf76:=hps (76,v76) hv76;simp only[depF,Nat.reduceEqDiff,if_true,if_false,reduceIte]at hf76;clear hps hds
    have E:∀t,t≠76->t≠77->t≠86->∀x:Act,(puts ps x).eval (.tmp t)=x.eval (.tmp t):=fun t h1 h2 h3 x=>puts_eval (fun p hp e=>by have h9:=(hpn p hp).2;rw[e]at h9;simp at h9;exact h9.elim h1 (fun h=>h.elim h2 h3)) x
    have hmk:=(hata.keep0 (hT.trans0 hm)).mark hf76 (by simp) HF0.out.la
    refine qD (qF 22 [.tmp 72,.tmp 76] _ rfl _ func22 rfl (by kernel_rfl) [.pointer (some ⟨bs,0,none⟩),v76] (List.cons_eq_cons.2 ⟨(E 72 (by decide) (by decide) (by decide) _).trans (by rfl),List.cons_eq_cons.2 ⟨puts_get hv76 hnd (of_decide_eq_true (by rfl)),rfl⟩⟩) _) hmk ?_
    rintro e we ⟨hme,vk,mks,rfl,hgm,hmo,hm32⟩;exact⟨_,rfl,hK _ _ hme ⟨mks,(slI hgm hm32).weak.mono (fun _ _=>trivial) (fun _ _ h=>h),hmo⟩⟩
   ·simp only[depF,Nat.reduceEqDiff,if_true,if_false,reduceIte]at hK
    simp only[Array.getD_eq_getD_getElem?,List.getElem?_toArray,List.getElem?_cons_succ,List.getElem?_cons_zero,Option.getD_some];clear hps hds
    have E:∀t,t≠76->t≠77->t≠86->∀x:Act,(puts ps x).eval (.tmp t)=x.eval (.tmp t):=fun t h1 h2 h3 x=>puts_eval (fun p hp e=>by have h9:=(hpn p hp).2;rw[e]at h9;simp at h9;exact h9.elim h1 (fun h=>h.elim h2 h3)) x
    refine xE 161 46 4 [(0,_),(1,_),(2,_),(3,_)] [.agg (qB eC),.agg (qB eL),.agg (qB eM),.agg (qB eX)] (.agg (qB descZ)) 35 (by rfl) (by simp only[List.map_cons,List.map_nil,E 79 (by decide) (by decide) (by decide),E 81 (by decide) (by decide) (by decide),E 83 (by decide) (by decide) (by decide),E 85 (by decide) (by decide) (by decide)];rfl) (by rfl) underlying161 desc_zs9 (by omega) (by omega) (by intro v hv;simp at hv;rcases hv with rfl|rfl|rfl|rfl<;>first|exact sC|exact sL|exact sM|exact sX) (fun wf hBf hmf hsf=>?_)
    exact hK _ _ hmf (slD_lit (ds:=[eC,eL,eM,eX]) hBf (by intro d hd;simp at hd;rcases hd with rfl|rfl|rfl|rfl<;>first|exact iC|exact iL|exact iM|exact iX) rfl (by simp))
  case hend=>
   intro vals wz hvl hGM hJ;obtain⟨v76,vals1,rfl,hvl1⟩:=yA hvl;obtain⟨v77,vals2,rfl,hvl2⟩:=yA hvl1;obtain⟨v86,vals3,rfl,hvl3⟩:=yA hvl2
   obtain rfl:=List.eq_nil_of_length_eq_zero hvl3;simp only[List.map_cons,List.map_nil,List.zip_cons_cons,List.zip_nil_left]at hJ |-;have h76:=hJ (76,v76) (by simp)
   simp only[depF,Nat.reduceEqDiff,if_true,if_false,reduceIte]at h76;have h77:=hJ (77,v77) (by simp);simp only[depF,Nat.reduceEqDiff,if_true,if_false,reduceIte]at h77
   have h86:=hJ (86,v86) (by simp);simp only[depF,Nat.reduceEqDiff,if_true,if_false,reduceIte]at h86;clear hJ hvl hvl1 hvl2 hvl3;have hGM76:=hGM;simp only[puts]
   try simp only[nmz]
   refine yL rfl (fun K hK=>?_);simp only[Array.getD_eq_getD_getElem?,List.getElem?_toArray,List.getElem?_cons_succ,List.getElem?_cons_zero,Option.getD_some]
   obtain⟨mks,hMS,hmo⟩:=h77;have hTg:=hT.trans0 hGM;have hr1:=rising13_any h86 (by simp)
   refine qD (qF 31 [.tmp 86] _ rfl _ func31 rfl (by kernel_rfl) [v86] rfl _) hr1 ?_;rintro e wg ⟨vr,ks,rfl,hgk,hrk,hmg⟩
   have hks32:∀x∈ks,x.length=32:=fun x hx=>by
    have:=(hrk.2 x).1 hx
    simp at this
    rcases this with rfl|rfl|rfl|rfl<;>first|exact iC|exact iL|exact iM|exact iX
   obtain rfl:=mark_rise HF0.out.k4 hrk hmo;have hKS:=slI hgk hks32;replace hMS:=hMS.keep0 hmg;have hTh:=hTg.trans0 hmg;refine⟨_,rfl,hK _ _ (hSa.more hTh) ?_⟩
   clear hK K hmg hgk hrk hmo hr1;try simp only[nmz]
   refine yL rfl (fun K hK=>?_);simp only[Array.getD_eq_getD_getElem?,List.getElem?_toArray,List.getElem?_cons_succ,List.getElem?_cons_zero,Option.getD_some]
   have hsm:=sameIDs_any _ _ _ _ _ _ _ _ _ hMS hKS;rw[decide_eq_true rfl]at hsm
   refine qD (qF 24 [.tmp 77,.tmp 87] _ rfl _ func24 rfl (by kernel_rfl) [_,_] rfl _) hsm ?_;rintro e wh ⟨rfl,hmh⟩;have hTj:=hTh.trans0 hmh
   refine⟨_,rfl,hK _ _ (hSa.more hTj) ?_⟩;clear hsm hMS hKS hmh;clear hK K;try simp only[nmz]
   refine yV ?_
   simp only[List.map_cons,List.map_nil,Array.getD_eq_getD_getElem?,List.getElem?_toArray,List.getElem?_cons_succ,List.getElem?_cons_zero,Option.getD_some]
   refine zI _ _ _ rfl rfl rfl ?_;simp only[nmz];refine zB _ _ _ _ rfl rfl rfl ?_;simp only[nmz];refine qK ?_;refine xS ?_;refine wpPlan_fin ?_
   have HM:Hid (KMid w9 Ft bs (delL eL.id c0) (.bool false) wh):=hid ⟨rfl,Fa,hata.keep0 hTj,hSa.more hTj,fun k hk=>(hFa k hk).imp id fun h=>⟨h.1,Nat.lt_of_lt_of_le h.2 hTj.size⟩⟩
   clear hS hSa hT hTg hTh hTj hata hFa;go_wp2
   go_meet
   case rel=>exact HM.out
 case rest=>
  rename World=>wx
  obtain⟨rfl,Fa,hatx,hSx,hFx⟩:=hcut;replace x0:=hSx.cell hnb x0;replace x3:=x3.keep hSx hnb;replace x4:=x4.keep hSx hnb;replace y3:=y3.keep hSx hnb
  replace y4:=y4.keep hSx hnb;have hnx:¬Fa b1:=fun e=>(hFx _ e).elim hnb (fun h=>by have:=h.1;have:=hm09.size;omega)
  have hm0x:Mod NoB w wx:=hm09.trans hSx (fun k hk h=>by have:=hFn k h;omega)
  have hFax:∀k,Fa k->w.heap.size<=k:=fun k hk=>(hFx k hk).elim (hFn k) (fun h=>Nat.le_trans hm09.size h.1);clear hm09 hSx hFx hat9 x1 x2 y1;go_upto_region 7 with(fail)
  have hatd:=hatx.keep0 ((Mod.refl NoB wx).drew);have hS:Mod Fa wx wx.drew:=(Mod.refl _ _).drew
  refine wp_region_plan [.inl [(0,3),(1,0),(2,3),(3,3),(4,0)],.inr (.inl 5),.inl [(6,3),(7,3),(8,0),(9,3),(10,3),(11,0),(14,3),(15,0),(16,3),(17,0)],.inr (.inr (3,#[true,true,true,true,true,true,true,true,true,true,true,true,false,false,true,true,true,true,false,false,false,false,false])),.inr (.inl 19),.inr (.inl 20),.inl [(21,3),(22,3)]] (fun w'=>Mod Fa wx w') (by kernel_rfl) (by kernel_rfl) (by kernel_rfl) (fun _ _ _ _ hd h=>⟨hd.trans h.1,h.2⟩) hS ?_
  refine yV ?_
  simp only[List.map_cons,List.map_nil,Array.getD_eq_getD_getElem?,List.getElem?_toArray,List.getElem?_cons_succ,List.getElem?_cons_zero,Option.getD_some]
  refine qN _ _ _ _ _ _ rfl rfl rfl fo_48_0 ?_;simp only[nmz];refine wpLd 29 b1 0 (fun w' hS=>hS.cell hnx x0) underlying29 ?_;simp only[nmz]
  refine qN _ _ _ _ _ _ rfl rfl rfl fo_48_3 ?_;simp only[nmz];refine qN _ _ _ _ _ _ rfl rfl rfl yC ?_;simp only[nmz]
  refine wpLA 24 b1 (0+71+1) (qA eM.id) (fun w' hS=>y3.keep hS hnx) underlying24 32 cM ?_;simp only[nmz];refine qK ?_;refine xS ?_
  refine yL rfl (fun K hK=>?_);simp only[Array.getD_eq_getD_getElem?,List.getElem?_toArray,List.getElem?_cons_succ,List.getElem?_cons_zero,Option.getD_some]
  refine qD (qF 30 [.tmp 92,.tmp 95] _ rfl _ func30 rfl (by kernel_rfl) [_,_] rfl _) (hatd.drop iM) ?_;rintro e wa ⟨rfl,Fb,hatb,hma,hFb⟩;rw[HF0.out.k5.1]
  have hSa:Mod Fa wx wa:=hS.trans hma (fun _ _ h=>h);have hT:Mod NoB wa wa:=Mod.refl _ _;refine⟨_,rfl,hK _ _ hSa ?_⟩;clear hK K hma;try simp only[nmz]
  refine yV ?_
  simp only[List.map_cons,List.map_nil,Array.getD_eq_getD_getElem?,List.getElem?_toArray,List.getElem?_cons_succ,List.getElem?_cons_zero,Option.getD_some]
  refine qC _ rfl rfl ?_;simp only[nmz];refine qN _ _ _ _ _ _ rfl rfl rfl fo_48_0 ?_;simp only[nmz]
  refine wpLd 29 b1 0 (fun w' hS=>hS.cell hnx x0) underlying29 ?_;simp only[nmz];refine qN _ _ _ _ _ _ rfl rfl rfl fo_48_4 ?_;simp only[nmz]
  refine qN _ _ _ _ _ _ rfl rfl rfl yC ?_;simp only[nmz];refine wpLA 24 b1 (0+106+1) (qA eX.id) (fun w' hS=>y4.keep hS hnx) underlying24 32 cX ?_
  simp only[nmz];refine qN _ _ _ _ _ _ rfl rfl rfl fo_48_3 ?_;simp only[nmz];refine wpLA 46 b1 (0+71) (qB eM) (fun w' hS=>x3.keep hS hnx) underlying46 35 sM ?_
  simp only[nmz];refine qN _ _ _ _ _ _ rfl rfl rfl fo_48_4 ?_;simp only[nmz];refine wpLA 46 b1 (0+106) (qB eX) (fun w' hS=>x4.keep hS hnx) underlying46 35 sX ?_
  simp only[nmz];refine qK ?_;refine xS ?_
  refine wpPlan_dep [(103,(fun v w'=>Sl false w' AnyB 32 IdC v [eX.id])),(104,(fun v w'=>∃mks,Sl false w' AnyB 32 IdC v mks/\MarkOf (delL eM.id (delL eL.id c0)) [eX.id] mks)),(109,(fun v w'=>Sl false w' AnyB 35 DscC v [eM,eX]))] [(12,103,[]),(13,104,[103]),(18,109,[])] ?hF ?hS (by decide) (by kernel_rfl) (by kernel_rfl) (by kernel_rfl) ?hw ?hend ?hop
  case hF=>
   intro x hx;simp only[List.mem_cons,List.not_mem_nil,or_false]at hx
   rcases hx with rfl|rfl|rfl
   ·exact(fun _ _ _ h hm=>h.keep0 hm)
   ·exact(fun _ _ _ ⟨mks,h1,h2⟩ hm=>⟨mks,h1.keep0 hm,h2⟩)
   ·exact(fun _ _ _ h hm=>h.keep0 hm)
  case hS=>exact(fun _ hm=>hSa.more (hT.trans0 hm))
  case hw=>
   intro q hq;simp only[List.mem_cons,List.not_mem_nil,or_false]at hq
   rcases hq with rfl|rfl|rfl<;>rfl
  case hop=>
   intro q hq ps w1 hm hps hds hnd hpn K hK;simp only[List.mem_cons,List.not_mem_nil,or_false]at hq
   rcases hq with rfl|rfl|rfl
   ·simp only[depF,Nat.reduceEqDiff,if_true,if_false,reduceIte]at hK
    simp only[Array.getD_eq_getD_getElem?,List.getElem?_toArray,List.getElem?_cons_succ,List.getElem?_cons_zero,Option.getD_some];clear hps hds
    have E:∀t,t≠103->t≠104->t≠109->∀x:Act,(puts ps x).eval (.tmp t)=x.eval (.tmp t):=fun t h1 h2 h3 x=>puts_eval (fun p hp e=>by have h9:=(hpn p hp).2;rw[e]at h9;simp at h9;exact h9.elim h1 (fun h=>h.elim h2 h3)) x
    refine zF 25 24 _ (.agg (qA eX.id)) (.agg (qA (List.replicate 32 0))) 32 (by rfl) (by rw[E 102 (by decide) (by decide) (by decide)];rfl) underlying25 id_zs0 (by omega) (by omega) cX (fun wd hBd hmd hsd=>?_)
    exact hK _ _ hmd (slI_one hBd iX)
   ·simp only[depF,Nat.reduceEqDiff,if_true,if_false,reduceIte]at hK
    simp only[Array.getD_eq_getD_getElem?,List.getElem?_toArray,List.getElem?_cons_succ,List.getElem?_cons_zero,Option.getD_some];obtain⟨v103,hv103⟩:=hds 103 (by simp)
    have hf103:=hps (103,v103) hv103;simp only[depF,Nat.reduceEqDiff,if_true,if_false,reduceIte]at hf103;clear hps hds
    have E:∀t,t≠103->t≠104->t≠109->∀x:Act,(puts ps x).eval (.tmp t)=x.eval (.tmp t):=fun t h1 h2 h3 x=>puts_eval (fun p hp e=>by have h9:=(hpn p hp).2;rw[e]at h9;simp at h9;exact h9.elim h1 (fun h=>h.elim h2 h3)) x
    have hmk:=(hatb.keep0 (hT.trans0 hm)).mark hf103 (by simp) HF0.out.lb
    refine qD (qF 22 [.tmp 99,.tmp 103] _ rfl _ func22 rfl (by kernel_rfl) [.pointer (some ⟨bs,0,none⟩),v103] (List.cons_eq_cons.2 ⟨(E 99 (by decide) (by decide) (by decide) _).trans (by rfl),List.cons_eq_cons.2 ⟨puts_get hv103 hnd (of_decide_eq_true (by rfl)),rfl⟩⟩) _) hmk ?_
    rintro e we ⟨hme,vk,mks,rfl,hgm,hmo,hm32⟩;exact⟨_,rfl,hK _ _ hme ⟨mks,(slI hgm hm32).weak.mono (fun _ _=>trivial) (fun _ _ h=>h),hmo⟩⟩
   ·simp only[depF,Nat.reduceEqDiff,if_true,if_false,reduceIte]at hK
    simp only[Array.getD_eq_getD_getElem?,List.getElem?_toArray,List.getElem?_cons_succ,List.getElem?_cons_zero,Option.getD_some];clear hps hds
    have E:∀t,t≠103->t≠104->t≠109->∀x:Act,(puts ps x).eval (.tmp t)=x.eval (.tmp t):=fun t h1 h2 h3 x=>puts_eval (fun p hp e=>by have h9:=(hpn p hp).2;rw[e]at h9;simp at h9;exact h9.elim h1 (fun h=>h.elim h2 h3)) x
    refine xE 161 46 2 [(0,_),(1,_)] [.agg (qB eM),.agg (qB eX)] (.agg (qB descZ)) 35 (by rfl) (by simp only[List.map_cons,List.map_nil,E 106 (by decide) (by decide) (by decide),E 108 (by decide) (by decide) (by decide)];rfl) (by rfl) underlying161 desc_zs9 (by omega) (by omega) (by intro v hv;simp at hv;rcases hv with rfl|rfl<;>first|exact sM|exact sX) (fun wf hBf hmf hsf=>?_)
    exact hK _ _ hmf (slD_lit (ds:=[eM,eX]) hBf (by intro d hd;simp at hd;rcases hd with rfl|rfl<;>first|exact iM|exact iX) rfl (by simp))
  case hend=>
   intro vals wz hvl hGM hJ;obtain⟨v103,vals1,rfl,hvl1⟩:=yA hvl;obtain⟨v104,vals2,rfl,hvl2⟩:=yA hvl1;obtain⟨v109,vals3,rfl,hvl3⟩:=yA hvl2
   obtain rfl:=List.eq_nil_of_length_eq_zero hvl3;simp only[List.map_cons,List.map_nil,List.zip_cons_cons,List.zip_nil_left]at hJ |-;have h103:=hJ (103,v103) (by simp)
   simp only[depF,Nat.reduceEqDiff,if_true,if_false,reduceIte]at h103;have h104:=hJ (104,v104) (by simp)
   simp only[depF,Nat.reduceEqDiff,if_true,if_false,reduceIte]at h104;have h109:=hJ (109,v109) (by simp)
   simp only[depF,Nat.reduceEqDiff,if_true,if_false,reduceIte]at h109;clear hJ hvl hvl1 hvl2 hvl3;have hGM103:=hGM;simp only[puts];try simp only[nmz]
   refine yL rfl (fun K hK=>?_);simp only[Array.getD_eq_getD_getElem?,List.getElem?_toArray,List.getElem?_cons_succ,List.getElem?_cons_zero,Option.getD_some]
   obtain⟨mks,hMS,hmo⟩:=h104;have hTg:=hT.trans0 hGM;have hr1:=rising13_any h109 (by simp)
   refine qD (qF 31 [.tmp 109] _ rfl _ func31 rfl (by kernel_rfl) [v109] rfl _) hr1 ?_;rintro e wg ⟨vr,ks,rfl,hgk,hrk,hmg⟩
   have hks32:∀x∈ks,x.length=32:=fun x hx=>by
    have:=(hrk.2 x).1 hx
    simp at this
    rcases this with rfl|rfl<;>first|exact iM|exact iX
   obtain rfl:=mark_rise HF0.out.k5.2 hrk hmo;have hKS:=slI hgk hks32;replace hMS:=hMS.keep0 hmg;have hTh:=hTg.trans0 hmg;refine⟨_,rfl,hK _ _ (hSa.more hTh) ?_⟩
   clear hK K hmg hgk hrk hmo hr1;try simp only[nmz]
   refine yL rfl (fun K hK=>?_);simp only[Array.getD_eq_getD_getElem?,List.getElem?_toArray,List.getElem?_cons_succ,List.getElem?_cons_zero,Option.getD_some]
   have hsm:=sameIDs_any _ _ _ _ _ _ _ _ _ hMS hKS;rw[decide_eq_true rfl]at hsm
   refine qD (qF 24 [.tmp 104,.tmp 110] _ rfl _ func24 rfl (by kernel_rfl) [_,_] rfl _) hsm ?_;rintro e wh ⟨rfl,hmh⟩;have hTj:=hTh.trans0 hmh
   refine⟨_,rfl,hK _ _ (hSa.more hTj) ?_⟩;clear hsm hMS hKS hmh;clear hK K;try simp only[nmz]
   refine yV ?_
   simp only[List.map_cons,List.map_nil,Array.getD_eq_getD_getElem?,List.getElem?_toArray,List.getElem?_cons_succ,List.getElem?_cons_zero,Option.getD_some]
   refine zB _ _ _ _ rfl rfl rfl ?_;simp only[nmz];refine qJ _ rfl rfl ?_;simp only[nmz];refine qK ?_;refine xS ?_;refine wpPlan_fin ?_
   have HM:=hid (hm0x.trans (hSa.more hTj) (fun k hk h=>by have:=hFax k h;omega));clear hS hSa hT hTg hTh hTj hatb hFb;go_wp2;go_ret;exact⟨rfl,HM.out⟩
theorem knownF:KnF c0 c1 dL dC dM (dX 0) (dX 1) where
 l0:=by have h:c0.length=4:=lib_four 0 (by omega);omega
 l1:=by have h:c1.length=4:=lib_four 1 (by omega);omega
 la:=by have h:c0.length=4:=lib_four 0 (by omega);have:=del_le dL.id c0;omega
 lb:=by have h:c0.length=4:=lib_four 0 (by omega);have:=del_le dL.id c0;have:=del_le dM.id (delL dL.id c0);omega
 iL:=xG _
 iC:=xG _
 iM:=xG _
 iX:=xG _
 iO:=xG _
 k1:=known_1
 k2:=known_2
 k3:=known_3
 k4:=known_4
 k5:=known_5
theorem closureKnown_any(w:World):Calls prog 5 #[] w (RetM (.bool true) w):=known_walk knownF (fun w=>lib13_any w 0 (by omega)) (fun w=>lib13_any w 1 (by omega)) awake13_any w
theorem getL_app{y:List UInt8}{d:BlobL}:∀{c:BlobL},(getL y c).isSome=true->getL y (c++d)=getL y c
 | [],h=>by cases h
 |p::c,h=>by
  rw[List.cons_append];unfold getL at h |-
  by_cases e:y=p.1
  ·rw[if_pos e,if_pos e]
  ·rw[if_neg e]at h
   rw[if_neg e,if_neg e,getL_app h]
theorem put_keeps{di m y:List UInt8}{c:BlobL}(h:(getL y c).isSome=true):getL y (putB di m c)=getL y c:=by
 unfold putB
 split
 ·rfl
 ·exact getL_app h
theorem put_len(di m:List UInt8)(c:BlobL):(putB di m c).length<=c.length+1:=by
 unfold putB
 split
 ·omega
 ·simp
theorem walkOut_det{c:BlobM}{id:List UInt8}{ids ids':List (List UInt8)}{bad bad':List UInt8}{n n':Int}(h1:xJ c id ids bad n)(h2:xJ c id ids' bad' n'):ids=ids'/\bad=bad'/\n=n':=walkOut_same (fun _ _=>rfl) h1 h2
def WhRel(w0:World)(n:Nat)(i:Value)(w:World):Prop:=∃k:Nat,k<=n/\i=.int .i64 k/\Mod NoB w0 w
theorem closureWhole_walk{w:World}{wd which drp:Int}(hwd:I64 wd)(hwh:I64 which)(hdr:I64 drp){lv mv:Value}{L:List (List UInt8)}{mo:List UInt8}(hlv:LsAt w lv L)(hmv:Sl false w AnyB 1 ByteC mv mo):
 Calls prog 6 #[.int .i64 wd,lv,.int .i64 which,mv,.int .i64 drp] w (RetM (.bool true) w):=by
 obtain⟨mad,mcap,rfl,-,-⟩:=Sl.at hmv;have HL:=hid hlv;have HMV:=hid hmv;clear hlv hmv;go_enter func6,ntmps6;go_upto_region 1 with(fail)
 refine wpR [1,3] (by rfl) (by rfl) ?_;simp only[zz2];refine wpDo rfl ?_;refine qD (qF 5 [] _ rfl _ func5 rfl (by kernel_rfl) [] rfl _) (closureKnown_any _) ?_
 rintro e w1 ⟨rfl,hm1⟩;refine⟨_,rfl,?_⟩;refine qJ _ rfl rfl ?_;simp only[nmz];refine qK ?_;have hlong:=long13_any (lsAt_keep0 HL.out hm1)
 obtain⟨lg,hlg⟩:∃b,longB L 30 700=b:=⟨_,rfl⟩;rw[hlg]at hlong;have HLG:=hid hlg;clear hlg;go_upto_region 2 with(fail)
 go_cut [31] (fun s wx=>Mod NoB w1 wx/\(s=.bool true\/s=.bool false/\longB L 30 700=false/\mo.length<=700))
 case first=>
  cases lg with
  |true=>
   refine wpR [3,1,3,3,3,3,3] (by rfl) (by rfl) ?_;simp only[zz2];refine qC _ rfl rfl ?_;simp only[nmz];refine wpDo rfl ?_
   refine qD (qF 15 [.tmp 25] _ rfl _ func15 rfl (by kernel_rfl) [lv] rfl _) (hlong) ?_;rintro e w2 ⟨rfl,hm2⟩;refine⟨_,rfl,?_⟩;refine qC _ rfl rfl ?_
   simp only[nmz];refine zH rfl ?_;simp only[nmz];refine zH rfl ?_;simp only[nmz];refine zH rfl ?_;simp only[nmz];refine zB _ _ _ _ rfl rfl rfl ?_
   simp only[nmz];refine qK ?_;go_wp2
   go_meet
   case rel=>exact⟨hm2,.inl rfl⟩
  |false=>
   by_cases hmo:mo.length<=700
   ·have hz:¬((mo.length:Nat):Int)>700:=by omega
    refine wpR [3,1,3,3,3,3,3] (by rfl) (by rfl) ?_;simp only[zz2];refine qC _ rfl rfl ?_;simp only[nmz];refine wpDo rfl ?_
    refine qD (qF 15 [.tmp 25] _ rfl _ func15 rfl (by kernel_rfl) [lv] rfl _) (hlong) ?_;rintro e w2 ⟨rfl,hm2⟩;refine⟨_,rfl,?_⟩;refine qC _ rfl rfl ?_
    simp only[nmz];refine qC _ rfl rfl ?_;simp only[nmz];refine zC _ _ _ _ _ rfl rfl rfl (by kernel_rfl) ?_;simp only[nmz]
    refine qQ _ _ _ _ _ _ _ _ rfl rfl rfl rfl rfl false (decide_eq_false hz) ?_;simp only[nmz];refine zB _ _ _ _ rfl rfl rfl ?_;simp only[nmz];refine qK ?_
    go_wp2
    go_meet
    case rel=>exact⟨hm2,.inr ⟨rfl,HLG.out,hmo⟩⟩
   ·have hz:((mo.length:Nat):Int)>700:=by omega
    refine wpR [3,1,3,3,3,3,3] (by rfl) (by rfl) ?_;simp only[zz2];refine qC _ rfl rfl ?_;simp only[nmz];refine wpDo rfl ?_
    refine qD (qF 15 [.tmp 25] _ rfl _ func15 rfl (by kernel_rfl) [lv] rfl _) (hlong) ?_;rintro e w2 ⟨rfl,hm2⟩;refine⟨_,rfl,?_⟩;refine qC _ rfl rfl ?_
    simp only[nmz];refine qC _ rfl rfl ?_;simp only[nmz];refine zC _ _ _ _ _ rfl rfl rfl (by kernel_rfl) ?_;simp only[nmz]
    refine qQ _ _ _ _ _ _ _ _ rfl rfl rfl rfl rfl true (decide_eq_true hz) ?_;simp only[nmz];refine zB _ _ _ _ rfl rfl rfl ?_;simp only[nmz];refine qK ?_
    go_wp2
    go_meet
    case rel=>exact⟨hm2,.inl rfl⟩
 case rest=>
  rename World=>wx
  obtain⟨hmx,rfl|⟨rfl,hlgf,hmo⟩⟩:=hcut
  ·have hmw:=hm1.trans0 hmx
   clear hlong hmx hm1;go_wp2;go_ret;exact⟨rfl,hmw⟩
  obtain⟨hL30,hL700⟩:=longB_false hlgf;have hmw:=hm1.trans0 hmx;have hp:=pick_any wd 32 hwd (by omega) wx;have hpl:=pickZ_lt wd 32 (by omega)
  obtain⟨k,hk⟩:∃k:Nat,pickZ wd 32=(k:Int):=⟨(pickZ wd 32).toNat,by omega⟩;rw[hk]at hp hpl;clear hlong hm1 hmx hk;go_upto_region 4 with(fail)
  refine wpR [3,1,3,3] (by rfl) (by rfl) ?_;simp only[zz2];refine qC _ rfl rfl ?_;simp only[nmz];refine wpDo rfl ?_
  refine qD (qF 17 [.tmp 33,.const (.int .i64 32)] _ rfl _ func17 rfl (by kernel_rfl) [.int .i64 wd,.int .i64 32] rfl _) (hp) ?_;rintro e w3 ⟨rfl,hw⟩
  obtain rfl:=hw.symm;refine⟨_,rfl,?_⟩;try simp only[nmz]
  refine zM _ _ _ _ (1:Int) (k:Int) ((k+1:Nat):Int) rfl rfl rfl rfl (by omega) (by omega) (by omega) ?_;simp only[nmz];refine qJ _ rfl rfl ?_
  simp only[nmz];refine qK ?_;have hwz:1<=k+1/\k+1<=32:=by omega
  have hfi:=filled13_any hwz (lsAt_keep0 HL.out hmw) (by omega) (fun b hb=>by have:=hL700 b hb;omega)
  have hcl:(cOf (k+1) L).length<=30:=by have:=cOf_len (k+1) L [];unfold cOf;simp at this;omega
  generalize hwn:k+1=wn at*;clear hp hpl hwn;go_upto_region 5 with(fail);refine wpR [3,3,1,3] (by rfl) (by rfl) ?_;simp only[zz2];refine qC _ rfl rfl ?_
  simp only[nmz];refine qC _ rfl rfl ?_;simp only[nmz];refine wpDo rfl ?_
  refine qD (qF 18 [.tmp 36,.tmp 37] _ rfl _ func18 rfl (by kernel_rfl) [.int .i64 (wn:Nat),lv] rfl _) (hfi) ?_;rintro e w4 ⟨bs,he4,Ft,hat,hFn,hm4⟩;subst he4
  refine⟨_,rfl,?_⟩;refine qJ _ rfl rfl ?_;simp only[nmz];refine qK ?_;generalize cOf wn L=c at*;have hm04:=hmw.trans0 hm4
  have hpk:=picked13_any hat (by omega) hwh;have hFw:∀q,Ft q->w.heap.size<=q:=fun q hq=>Nat.le_trans hmw.size (hFn q hq);have hFlt:=hat.lt;clear hfi hm4 hmw
  go_upto_region 8 with(fail);refine wpR [3,3,1,1,1] (by rfl) (by rfl) ?_;simp only[zz2];refine qC _ rfl rfl ?_;simp only[nmz];refine qC _ rfl rfl ?_
  simp only[nmz];refine wpDo rfl ?_
  refine qD (qF 32 [.tmp 41,.tmp 42] _ rfl _ func32 rfl (by kernel_rfl) [.pointer (some ⟨bs,0,none⟩),.int .i64 which] rfl _) (hpk) ?_;rintro e w5 ⟨hm5,x,he5,hx⟩
  subst he5;have hic:(qA x).size=32:=by rw[qE,hx]
  refine⟨_,rfl,?_⟩;try simp only[nmz]
  refine wpDo rfl ?_;refine qU 24 _ (by rfl) idZ (fun w6 hB6 hm6 hs6=>?_);replace hB6:w6.heap[w5.heap.size]?=some (.cells (qA zeros32) 24 (0,0)):=hB6
  try simp only[nmz]
  refine wpDo rfl ?_
  refine qM 24 _ _ w5.heap.size 0 (qA x) (by rfl) (by rfl) (by rfl) (qZ _) 32 (by kernel_rfl) hic _ _ hB6 (by rw[hic,qE];exact Nat.le_refl _) (fun w7 hB7 hm7=>?_)
  rw[qI (by rw[hic,qE];rfl)]at hB7;try simp only[nmz]
  refine qK ?_;have lb13:w5.heap.size<w7.heap.size:=(Array.getElem?_eq_some_iff.1 hB7).1;have hm47:Mod NoB w4 w7:=hm5.trans0 (hm6.transB hm7 (Nat.le_refl _))
  have hm07:=hm04.trans0 hm47;have hat7:=hat.keep0 hm47;have hx7:CellsAt w7 w5.heap.size 0 (qA x):=CellsAt.whole hB7;have hwk:=hat7.walk (by omega) x hx
  have s45:=hm5.size;have s47:=hm47.size;generalize hb13:w5.heap.size=b13 at*;have hn13:¬Ft b13:=fun e=>by have:=hFlt _ e;omega
  clear hpk hm5 hm6 hm7 hB6 hB7 hs6 hat hm04 hm47;go_upto_region 9 with(fail);refine wpR [3,1,1,3,3,3,3,1,3,1,3] (by rfl) (by rfl) ?_;simp only[zz2]
  refine qC _ rfl rfl ?_;simp only[nmz];refine wpXA 24 b13 0 (qA x) hx7 underlying24 32 hic trivial ?_;try simp only[nmz]
  refine wpDo rfl ?_;refine qD (qF 20 [.tmp 45,.tmp 46] _ rfl _ func20 rfl (by kernel_rfl) [.pointer (some ⟨bs,0,none⟩),.agg (qA x)] rfl _) (hwk) ?_
  rintro e w8 ⟨hm8,v,ids,bad,n,he8,hg8,hout,hbad,h32⟩;subst he8;refine⟨_,rfl,?_⟩;refine qC _ rfl rfl ?_;simp only[nmz]
  refine qG rfl (fun w'=>qP _ 0 #[v,.agg (qA bad),.int .i64 n] rfl rfl v rfl) ?_;simp only[nmz]
  refine qG rfl (fun w'=>qP _ 1 #[v,.agg (qA bad),.int .i64 n] rfl rfl (.agg (qA bad)) rfl) ?_;simp only[nmz]
  refine qG rfl (fun w'=>qP _ 2 #[v,.agg (qA bad),.int .i64 n] rfl rfl (.int .i64 n) rfl) ?_;simp only[nmz];refine wpDo rfl ?_
  refine qU 24 _ (by rfl) idZ (fun w9 hB9 hm9 hs9=>?_);replace hB9:w9.heap[w8.heap.size]?=some (.cells (qA (List.replicate 32 0)) 24 (0,0)):=hB9
  refine qJ _ rfl rfl ?_;simp only[nmz];refine wpDo rfl ?_;have hi2:(qA bad).size=32:=by rw[qE,hbad]
  refine qM 24 _ _ w8.heap.size 0 (qA bad) (by rfl) (by rfl) (by rfl) (qZ _) 32 (by kernel_rfl) hi2 _ _ hB9 (by rw[hi2,qE];simp) (fun wa hBa hma=>?_)
  refine qJ _ rfl rfl ?_;simp only[nmz];refine qK ?_;have hm8a:Mod NoB w8 wa:=hm9.transB hma (Nat.le_refl _);have hm7a:=hm8.trans0 hm8a
  have hm0a:=hm07.trans0 hm7a;have s7a:=hm7a.size;have hata:=hat7.keep0 hm7a;have hxa:=hx7.keep hm7a id;have hga:=hg8.keep0 hm8a;obtain⟨iad,icp,rfl⟩:=hga.slice
  have hil:∀q,(Value.slice iad ids.length icp).ownBlock=some q->w7.heap.size<=q/\q<wa.heap.size:=fun q hq=>Gat.lt hga hq;have hsl:=slI hga h32
  clear hwk hm8 hm9 hma hm8a hm7a hB9 hBa hs9 hx7 hg8 hat7 hm07 hga
  by_cases hn0:n=0
  case neg=>
   have hwh2:=hata.whole (by omega) hx;have HN:=hid hn0;clear hsl;go_upto_region 11 with(fail);refine wpR [3,3,3,1,1,3,3,3] (by rfl) (by rfl) ?_;simp only[zz2]
   refine qC _ rfl rfl ?_;simp only[nmz];refine qC _ rfl rfl ?_;simp only[nmz];refine qC _ rfl rfl ?_;simp only[nmz]
   refine wpXA 24 b13 0 (qA x) hxa underlying24 32 hic trivial ?_;try simp only[nmz]
   refine wpDo rfl ?_;refine qD (qF 25 [.tmp 55,.tmp 56] _ rfl _ func25 rfl (by kernel_rfl) [.pointer (some ⟨bs,0,none⟩),.agg (qA x)] rfl _) (hwh2) ?_
   rintro e wb ⟨hmb,ids2,bad2,n2,hout2,rfl⟩;obtain rfl:=(walkOut_det hout hout2).2.2;rw[decide_eq_false HN.out];refine⟨_,rfl,?_⟩;try simp only[nmz]
   refine zI _ _ _ rfl rfl rfl ?_;simp only[nmz];refine zB _ _ _ _ rfl rfl rfl ?_;simp only[nmz];refine qJ _ rfl rfl ?_;simp only[nmz];refine qK ?_
   have HF:=hid (hm0a.trans0 hmb);clear hwh2 hmb hout hout2 hata hxa;go_wp2;go_ret;exact⟨rfl,HF.out⟩
  case pos=>
  subst hn0;obtain⟨hok,rfl⟩:=walkOut_ok hx hout;go_upto_region 12 with(fail);refine wpR [3,1,1,1,3] (by rfl) (by rfl) ?_;simp only[zz2];refine qC _ rfl rfl ?_
  simp only[nmz];refine wpXA 24 b13 0 (qA x) hxa underlying24 32 hic trivial ?_;try simp only[nmz]
  refine wpDo rfl ?_
  refine zF 25 24 _ (.agg (qA x)) (.agg (qA (List.replicate 32 0))) 32 (by rfl) (by rfl) underlying25 id_zs0 (by omega) (by omega) hic (fun wb hBb hmb hsb=>?_)
  replace hBb:wb.heap[wa.heap.size]?=some (.cells (qA x) 24 (0,0)):=hBb;have hmk:=(hata.keep0 hmb).mark (slI_one hBb hx) (by simp) (by omega);try simp only[nmz]
  refine wpDo rfl ?_
  refine qD (qF 22 [.tmp 60,.tmp 62] _ rfl _ func22 rfl (by kernel_rfl) [.pointer (some ⟨bs,0,none⟩),.slice (some ⟨wa.heap.size,0,none⟩) 1 1] rfl _) (hmk) ?_
  rintro e wc ⟨hmc,vm,mks,hec,hgc,hmo2,hm32⟩;subst hec;refine⟨_,rfl,?_⟩;refine qJ _ rfl rfl ?_;simp only[nmz];refine qK ?_;have hmac:=hmb.trans0 hmc
  have hm0c:=hm0a.trans0 hmac;have hatc:=hata.keep0 hmac;have hxc:=hxa.keep hmac id;have hslc:=hsl.keep0 hmac;have hmsl:=slI hgc hm32;obtain⟨kad,kcp,rfl⟩:=hgc.slice
  have hin:∀y∈ids,y∈mks:=fun y hy=>(hmo2.2 y).2 ⟨x,List.mem_singleton.2 rfl,(hok.inR y).1 hy⟩;have hsc:=hmac.size;have hfew:=hok.few;have HOK:=hid hok
  have HIN:=hid hin;have H32:=hid h32;have HSL:=hid hslc;have HMS:=hid hmsl;have HAT:=hid hatc;have HIL:=hid hil;have HM0C:=hid hm0c;have HXC:=hid hxc;clear hxc hm0c
  clear hmk hmb hmc hmac hm0a hata hxa hsl hBb hsb hgc hmo2 hout hok hin h32 hslc hmsl hatc hil;go_wp2
  go_loopw [18] (WhRel wc ids.length) (fun i _=>ids.length-(intOf i).toNat)
  case atStart=>exact⟨0,Nat.zero_le _,rfl,Mod.refl _ _⟩
  case round=>
   rename World=>wr
   obtain⟨j,hj,rfl,hmr⟩:=hrel
   by_cases hlt:j<ids.length
   ·have hz:(j:Int)<(ids.length:Nat):=by omega
    have hjz:(0:Int)<=j:=by omega
    obtain⟨_,_,hae,-,hatL⟩:=(HSL.out.keep0 hmr).at;injection hae with hae1 hae2 hae3;subst hae1 hae3;obtain⟨b,off,rfl,-,-,hcc⟩:=hatL j hlt
    obtain⟨cs,-,⟨rfl,hy32⟩,hcA⟩:=hcc j hlt;have hyi:(qA ids[j]).size=32:=by rw[qE,hy32]
    have hmem:ids[j]∈ids:=List.getElem_mem hlt;have hks:=HOK.out.kept hmem;obtain⟨m,hgm⟩:=Option.isSome_iff_exists.1 hks
    have hget:=(HAT.out.keep0 hmr).get (di:=ids[j]) hy32;rw[hgm]at hget;go_upto_region 16 with(fail);refine wpR [3,3,3,3,1,1,3,3,3,3,3] (by rfl) (by rfl) ?_
    simp only[zz2];refine qC _ rfl rfl ?_;simp only[nmz];refine qC _ rfl rfl ?_;simp only[nmz];refine qC _ rfl rfl ?_;simp only[nmz]
    refine qV _ _ _ _ _ _ _ _ _ rfl rfl rfl rfl underlying25 (n:=32) (by kernel_rfl) hlt ?_;simp only[nmz]
    refine wpXA 24 b (off+j*32) (qA ids[j]) hcA underlying24 32 hyi trivial ?_;try simp only[nmz]
    refine wpDo rfl ?_;refine qD (qF 33 [.tmp 71,.tmp 75] _ rfl _ func33 rfl (by kernel_rfl) [.pointer (some ⟨bs,0,none⟩),.agg (qA ids[j])] rfl _) (hget) ?_
    rintro e wd ⟨hmd,gv,hed,hgd⟩;subst hed;refine⟨_,rfl,?_⟩;refine qC _ rfl rfl ?_;simp only[nmz]
    refine qG rfl (fun w'=>qP _ 0 #[gv,.bool true] rfl rfl gv rfl) ?_;simp only[nmz]
    refine qG rfl (fun w'=>qP _ 1 #[gv,.bool true] rfl rfl (.bool true) rfl) ?_;simp only[nmz];refine qJ _ rfl rfl ?_;simp only[nmz]
    refine qJ _ rfl rfl ?_;simp only[nmz];refine qK ?_;have hmcd:=hmr.trans0 hmd;have hcAd:=hcA.keep hmd id
    have hhas:=fun w' (hm:Mod NoB wd w')=>has13_any ((HMS.out.keep0 hmcd).keep0 hm) hy32;rw[decide_eq_true (HIN.out _ hmem)]at hhas
    by_cases hj0:j=0
    ·subst hj0
     clear hget hgm hks hmd hgd hcA;have HR:∀w',Mod NoB wd w'->WhRel wc ids.length (.int .i64 ((0+1:Nat):Int)) w':=fun w' hm=>⟨1,by omega,rfl,hmcd.trans0 hm⟩
     have HRH:=hid HR;clear HR;go_upto_region 17 with(fail);have hS:Mod NoB wd wd.drew:=(Mod.refl _ _).drew
     refine wpRP [(0,3),(1,3),(2,3),(3,3),(4,3),(5,3),(6,3),(7,0),(8,1),(9,3),(10,3),(11,3),(12,3),(13,3),(14,3),(15,3),(16,3),(17,3),(18,3),(19,0),(20,3),(21,3),(22,3),(23,0),(24,1),(25,3),(26,3),(27,3)] [] (fun w'=>Mod NoB wd w') hS ?_
     simp only[zz4];refine qC _ rfl rfl ?_;simp only[nmz];refine zI _ _ _ rfl rfl rfl ?_;simp only[nmz];refine qC _ rfl rfl ?_;simp only[nmz]
     refine qC _ rfl rfl ?_;simp only[nmz];refine qC _ rfl rfl ?_;simp only[nmz];refine qC _ rfl rfl ?_;simp only[nmz]
     refine qV _ _ _ _ _ _ _ _ _ rfl rfl rfl rfl underlying25 (n:=32) (by kernel_rfl) hlt ?_;simp only[nmz]
     refine qW rfl (fun w' hS=>xL 24 _ rfl _ _ rfl _ (hcAd.keep hS id) _ underlying24 rfl 32 (by kernel_rfl) hyi) ?_;simp only[nmz]
     refine qT rfl (fun K hK=>?_)
     refine qD (qF 34 [.tmp 82,.tmp 86] _ rfl _ func34 rfl (by kernel_rfl) [.slice kad mks.length kcp,.agg (qA ids[0])] rfl _) (hhas _ hS) ?_
     rintro e we ⟨rfl,hme⟩;replace hS:=hS.trans0 hme;refine⟨_,rfl,hK _ _ hS ?_⟩;clear hK K;try simp only[nmz]
     refine zI _ _ _ rfl rfl rfl ?_;simp only[nmz];refine zB _ _ _ _ rfl rfl rfl ?_;simp only[nmz];refine qC _ rfl rfl ?_;simp only[nmz]
     refine qC _ rfl rfl ?_;simp only[nmz];refine qG (v:=?_) rfl (fun w'=>?_) ?_;rotate_left;·(go_simp;try with_reducible rfl)
     simp only[nmz];refine qC _ rfl rfl ?_;simp only[nmz];refine zH rfl ?_;simp only[nmz];refine zH rfl ?_;simp only[nmz];refine zH rfl ?_
     simp only[nmz];refine zH rfl ?_;simp only[nmz];refine jC rfl ?_;simp only[nmz];refine zH rfl ?_;simp only[nmz];refine zH rfl ?_
     simp only[nmz];refine zH rfl ?_;simp only[nmz];refine jC rfl ?_;simp only[nmz];refine yQ rfl hS ?_;simp only[nmz];refine zH rfl ?_
     simp only[nmz];refine zB _ _ _ _ rfl rfl rfl ?_;simp only[nmz];refine zB _ _ _ _ rfl rfl rfl ?_;simp only[nmz];refine qK ?_
     have HQ:=hid (HRH.out _ hS);clear hS hme hhas hcAd hmcd hmr hcc hatL HRH;go_wp2
     go_roundw
     case rel=>exact HQ.out
     case measure=>simp[intOf];omega
    ·have hlt1:j-1<ids.length:=by omega
     obtain⟨cs1,-,⟨rfl,hz32⟩,hcZ⟩:=hcc (j-1) hlt1;have hzi:(qA ids[j-1]).size=32:=by rw[qE,hz32]
     have hcZd:=(hcZ.keep hmd id);have hord:ids[j-1]<ids[j]:=List.pairwise_iff_getElem.1 HOK.out.sort (j-1) j hlt1 hlt (by omega)
     have hcmp:=fun w'=>shaCompare_any ids[j-1] ids[j] hz32 hy32 w';have hneg:cmpI ids[j-1] ids[j]<0:=(cmpI_neg _ _).2 hord
     generalize cmpI ids[j-1] ids[j]=cv at*;have hcv:¬cv>=0:=by omega
     have hjp:(j:Int)>0:=by omega
     have HR:∀w',Mod NoB wd w'->WhRel wc ids.length (.int .i64 ((j+1:Nat):Int)) w':=fun w' hm=>⟨j+1,by omega,rfl,hmcd.trans0 hm⟩;have HRH:=hid HR
     clear HR hget hgm hks hmd hgd hcA hcZ hord hneg;generalize ids[j]=y at*;generalize ids[j-1]=z at*;go_upto_region 17 with(fail)
     have hS:Mod NoB wd wd.drew:=(Mod.refl _ _).drew
     refine wpRP [(0,3),(1,3),(2,3),(3,3),(4,3),(5,3),(6,3),(7,0),(8,1),(9,3),(10,3),(11,3),(12,3),(13,3),(14,3),(15,3),(16,3),(17,3),(18,3),(19,0),(20,3),(21,3),(22,3),(23,0),(24,1),(25,3),(26,3),(27,3)] [] (fun w'=>Mod NoB wd w') hS ?_
     simp only[zz4];refine qC _ rfl rfl ?_;simp only[nmz];refine zI _ _ _ rfl rfl rfl ?_;simp only[nmz];refine qC _ rfl rfl ?_;simp only[nmz]
     refine qC _ rfl rfl ?_;simp only[nmz];refine qC _ rfl rfl ?_;simp only[nmz];refine qC _ rfl rfl ?_;simp only[nmz]
     refine qV _ _ _ _ _ _ _ _ _ rfl rfl rfl rfl underlying25 (n:=32) (by kernel_rfl) hlt ?_;simp only[nmz]
     refine qW rfl (fun w' hS=>xL 24 _ rfl _ _ rfl _ (hcAd.keep hS id) _ underlying24 rfl 32 (by kernel_rfl) hyi) ?_;simp only[nmz]
     refine qT rfl (fun K hK=>?_)
     refine qD (qF 34 [.tmp 82,.tmp 86] _ rfl _ func34 rfl (by kernel_rfl) [.slice kad mks.length kcp,.agg (qA y)] rfl _) (hhas _ hS) ?_;rintro e we ⟨rfl,hme⟩
     have hT:=hS.trans0 hme;refine⟨_,rfl,hK _ _ hT ?_⟩;clear hK K;try simp only[nmz]
     refine zI _ _ _ rfl rfl rfl ?_;simp only[nmz];refine zB _ _ _ _ rfl rfl rfl ?_;simp only[nmz];refine qC _ rfl rfl ?_;simp only[nmz]
     refine qC _ rfl rfl ?_;simp only[nmz];refine qQ _ _ _ _ _ _ _ _ rfl rfl rfl rfl rfl true (decide_eq_true hjp) ?_;simp only[nmz];refine qC _ rfl rfl ?_
     simp only[nmz];refine qC _ rfl rfl ?_;simp only[nmz];refine qC _ rfl rfl ?_;simp only[nmz]
     refine zN _ _ _ _ (j:Int) (1:Int) ((j-1:Nat):Int) rfl rfl rfl rfl (by omega) (by omega) (by omega) ?_;simp only[nmz]
     refine qV _ _ _ _ _ _ _ _ _ rfl rfl rfl rfl underlying25 (n:=32) (by kernel_rfl) hlt1 ?_;simp only[nmz]
     refine qW rfl (fun w' hS=>xL 24 _ rfl _ _ rfl _ (hcZd.keep hS id) _ underlying24 rfl 32 (by kernel_rfl) hzi) ?_;simp only[nmz];refine qC _ rfl rfl ?_
     simp only[nmz];refine qC _ rfl rfl ?_;simp only[nmz];refine qV _ _ _ _ _ _ _ _ _ rfl rfl rfl rfl underlying25 (n:=32) (by kernel_rfl) hlt ?_
     simp only[nmz];refine qW rfl (fun w' hS=>xL 24 _ rfl _ _ rfl _ (hcAd.keep hS id) _ underlying24 rfl 32 (by kernel_rfl) hyi) ?_;simp only[nmz]
     refine qT rfl (fun K hK=>?_)
     refine qD (qF 35 [.tmp 98,.tmp 102] _ rfl _ func35 rfl (by kernel_rfl) [.agg (qA z),.agg (qA y)] rfl _) (hcmp _) ?_;rintro e wf ⟨rfl,hgf⟩
     have hT:=hT.trans0 hgf.mod;refine⟨_,rfl,hK _ _ hT ?_⟩;clear hK K;try simp only[nmz]
     refine qQ _ _ _ _ _ _ _ _ rfl rfl rfl rfl rfl false (decide_eq_false hcv) ?_;simp only[nmz];refine zB _ _ _ _ rfl rfl rfl ?_;simp only[nmz]
     refine zB _ _ _ _ rfl rfl rfl ?_;simp only[nmz];refine qK ?_;have HQ:=hid (HRH.out _ hT);clear hS hT hme hhas hcAd hcZd hmcd hmr hcc hatL HRH hcmp;go_wp2
     go_roundw
     case rel=>exact HQ.out
     case measure=>simp[intOf];omega
   ·have hz:¬(j:Int)<(ids.length:Nat):=by omega
    have hm0r:=HM0C.out.trans0 hmr;have hof:=shaOf_any (HMV.out.keep0 hm0r) (by omega) wn (by omega) (by omega);have hdi:(ofI wn mo).length=32:=ofI_len (by omega)
    have hdc:(qA (ofI wn mo)).size=32:=by rw[qE,hdi]
    go_upto_region 19 with(fail);refine wpR [3,3,1,3,3,3,1,1,3] (by rfl) (by rfl) ?_;simp only[zz2];refine qC _ rfl rfl ?_;simp only[nmz]
    refine qC _ rfl rfl ?_;simp only[nmz];refine wpDo rfl ?_
    refine qD (qF 36 [.tmp 108,.tmp 109] _ rfl _ func36 rfl (by kernel_rfl) [.slice mad mo.length mcap,.int .i64 (wn:Nat)] rfl _) (hof) ?_;rintro e wd ⟨rfl,hmd⟩
    refine⟨_,rfl,?_⟩;refine qC _ rfl rfl ?_;simp only[nmz]
    refine qG rfl (fun w'=>qP _ 0 #[.agg (qA (ofI wn mo)),.int .i64 0] rfl rfl (.agg (qA (ofI wn mo))) rfl) ?_;simp only[nmz]
    refine qG rfl (fun w'=>qP _ 1 #[.agg (qA (ofI wn mo)),.int .i64 0] rfl rfl (.int .i64 0) rfl) ?_;simp only[nmz];refine wpDo rfl ?_
    refine qU 24 _ (by rfl) idZ (fun we hBe hme hse=>?_);replace hBe:we.heap[wd.heap.size]?=some (.cells (qA (List.replicate 32 0)) 24 (0,0)):=hBe
    try simp only[nmz]
    refine wpDo rfl ?_
    refine qM 24 _ _ wd.heap.size 0 (qA (ofI wn mo)) (by rfl) (by rfl) (by rfl) (qZ _) 32 (by kernel_rfl) hdc _ _ hBe (by rw[hdc,qE];simp) (fun wf hBf hmf=>?_)
    rw[qI (by rw[hdc,qE];simp)]at hBf;refine qJ _ rfl rfl ?_;simp only[nmz];refine qK ?_
    have hmrf:Mod NoB wr wf:=hmd.trans0 (hme.transB hmf (Nat.le_refl _));have hmcf:=hmr.trans0 hmrf;have hm0f:=HM0C.out.trans0 hmcf;have hatf:=HAT.out.keep0 hmcf
    have hcf:CellsAt wf wd.heap.size 0 (qA (ofI wn mo)):=CellsAt.whole hBf;have hput:=hatf.put (HMV.out.keep0 hm0f) (by omega) (by omega)
    have hxf:=HXC.out.keep hmcf id;have hslf:=HSL.out.keep0 hmcf;have hkp:∀y∈ids,getL y (putB (ofI wn mo) mo c)=getL y c:=fun y hy=>put_keeps (HOK.out.kept hy)
    have hpl:(putB (ofI wn mo) mo c).length<=31:=Nat.le_trans (put_len _ _ _) (by omega);generalize hb21:wd.heap.size=b21 at*
    generalize hp2:putB (ofI wn mo) mo c=c2 at*;clear hp2;clear hof hmd hme hmf hmrf hBe hBf hse hm0r hmr;go_upto_region 20 with(fail)
    refine wpR [3,1,3,1] (by rfl) (by rfl) ?_;simp only[zz2];refine qC _ rfl rfl ?_;simp only[nmz]
    refine wpXA 24 b21 0 (qA (ofI wn mo)) hcf underlying24 32 hdc trivial ?_;refine qC _ rfl rfl ?_;simp only[nmz];refine wpDo rfl ?_
    refine qD (qF 37 [.tmp 113,.tmp 114,.tmp 115] _ rfl _ func37 rfl (by kernel_rfl) [.pointer (some ⟨bs,0,none⟩),.agg (qA (ofI wn mo)),.slice mad mo.length mcap] rfl _) (hput) ?_
    rintro e wg ⟨⟨pv,rfl⟩,Fg,hatg,hmg,hFg⟩;refine⟨_,rfl,?_⟩;try simp only[nmz]
    refine qK ?_;have hm0g:Mod NoB w wg:=hm0f.trans hmg (fun q hq h=>by have:=hFw q h;omega)
    have hFgw:∀q,Fg q->w.heap.size<=q:=fun q hq=>(hFg q hq).elim (hFw q) (fun h=>Nat.le_trans hm0f.size h.1)
    have hFgn:∀q,q<wf.heap.size->¬Ft q->¬Fg q:=fun q h1 h2 h=>(hFg q h).elim h2 (fun h=>by have:=h.1;omega);have hxg:=hxf.keep hmg hn13
    have hslg:=hslf.keep hmg (fun q hq h=>by have h1:=hFlt _ h;have h2:=hq.1;omega) (fun _ _ h=>h);have scf:=hmcf.size
    have hn13g:¬Fg b13:=hFgn b13 (by omega) hn13
    have hngi:∀q,(w7.heap.size<=q/\q<wa.heap.size/\(Value.slice iad ids.length icp).ownBlock=some q)->¬Fg q:=fun q hq=>hFgn q (by have:=hq.2.1;omega) (fun h=>by have h1:=hFlt _ h;have h2:=hq.1;omega)
    have hne0:¬((ids.length:Nat):Int)=0:=by have:=List.length_pos_of_mem HOK.out.self;omega
    have hself:=HOK.out.self;have HKP:=hid hkp;clear hput hmg hFg hatf hcf hm0f hmcf hxf hslf hkp hFgn;go_upto_region 21 with(fail);have hS:Mod NoB wg wg:=Mod.refl _ _
    have hT:Mod NoB wg wg:=Mod.refl _ _
    refine wp_region_seq [3,0,1,3,3,3,0,3,0,1,3,3,3,3,3,3,3,3,3,0,1,3,3] (fun w'=>Mod NoB wg w') (by rfl) (by rfl) hS ?_;simp only[zz2]
    refine qC _ rfl rfl ?_;simp only[nmz];refine wpLA 24 b13 0 (qA x) (fun w' hS=>hxg.keep hS id) underlying24 32 hic ?_;simp only[nmz]
    refine qT rfl (fun K hK=>?_);refine qD (qF 25 [.tmp 117,.tmp 118] _ rfl _ func25 rfl (by kernel_rfl) [_,_] rfl _) ((hatg.keep0 hT).whole (by omega) hx) ?_
    rintro e wh ⟨hmh,ids2,bad2,n2,hout2,rfl⟩;obtain rfl:=(HOK.out.same HKP.out hout2).2.2;rw[show decide ((0:Int)=0)=true from rfl];replace hT:=hT.trans0 hmh
    refine⟨_,rfl,hK _ _ hT ?_⟩;clear hK K hmh hout2;try simp only[nmz]
    refine zI _ _ _ rfl rfl rfl ?_;simp only[nmz];refine qC _ rfl rfl ?_;simp only[nmz];refine qC _ rfl rfl ?_;simp only[nmz]
    refine wpLA 24 b13 0 (qA x) (fun w' hS=>hxg.keep hS id) underlying24 32 hic ?_;simp only[nmz];refine qC _ rfl rfl ?_;simp only[nmz]
    refine qW rfl (fun w' hS=>qS 24 [] [] _ (by rfl) (by rfl) built_id0) ?_;simp only[nmz];refine qT rfl (fun K hK=>?_)
    refine qD (qF 29 [.tmp 122,.tmp 123,.tmp 124,.tmp 125,.const (.int .i64 0)] _ rfl _ func29 rfl (by kernel_rfl) [_,_,_,_,_] rfl _) (yU (hatg.keep0 hT) (by omega) hx (bad:=zeros32) (by decide) (hslg.keep0 hT) 0) ?_
    rintro e wi ⟨hmi,ids2,b2,n2,hout2,rfl⟩;rw[decide_eq_true (HOK.out.same HKP.out hout2)];replace hT:=hT.trans0 hmi;refine⟨_,rfl,hK _ _ hT ?_⟩;clear hK K hmi hout2
    try simp only[nmz]
    refine zI _ _ _ rfl rfl rfl ?_;simp only[nmz];refine zB _ _ _ _ rfl rfl rfl ?_;simp only[nmz];refine qC _ rfl rfl ?_;simp only[nmz]
    refine qC _ rfl rfl ?_;simp only[nmz];refine zC _ _ _ _ _ rfl rfl rfl (by kernel_rfl) ?_;simp only[nmz]
    refine qQ _ _ _ _ _ _ _ _ rfl rfl rfl rfl rfl false (decide_eq_false hne0) ?_;simp only[nmz];refine zB _ _ _ _ rfl rfl rfl ?_;simp only[nmz]
    refine qC _ rfl rfl ?_;simp only[nmz];refine qC _ rfl rfl ?_;simp only[nmz]
    refine wpLA 24 b13 0 (qA x) (fun w' hS=>hxg.keep hS id) underlying24 32 hic ?_;simp only[nmz];refine qT rfl (fun K hK=>?_)
    have hhas:=has13_any (hslg.keep0 hT) hx;rw[decide_eq_true hself]at hhas
    refine qD (qF 34 [.tmp 135,.tmp 136] _ rfl _ func34 rfl (by kernel_rfl) [_,_] rfl _) hhas ?_;rintro e wj ⟨rfl,hmj⟩;replace hT:=hT.trans0 hmj
    refine⟨_,rfl,hK _ _ hT ?_⟩;clear hK K hmj hhas;try simp only[nmz]
    refine zI _ _ _ rfl rfl rfl ?_;simp only[nmz];refine zB _ _ _ _ rfl rfl rfl ?_;simp only[nmz];refine qK ?_;have hatj:=hatg.keep0 hT
    have hm0j:=hm0g.trans0 hT;have hxj:=hxg.keep hT id;have hslj:=hslg.keep0 hT;have hp:=pick_any drp (ids.length:Nat) hdr (by have:=HOK.out.few;omega) wj
    have hpp:=pickZ_lt drp (ids.length:Nat) (by omega);obtain⟨g,hg⟩:∃g:Nat,pickZ drp (ids.length:Nat)=(g:Int):=⟨(pickZ drp (ids.length:Nat)).toNat,by omega⟩
    rw[hg]at hp hpp;have hglt:g<ids.length:=by omega
    obtain⟨_,_,hae,-,hatL⟩:=hslj.at;injection hae with hae1 hae2 hae3;subst hae1 hae3;obtain⟨b,off,rfl,-,-,hcc⟩:=hatL g hglt
    obtain⟨cs,-,⟨rfl,hy32⟩,hcA⟩:=hcc g hglt;have hyi:(qA ids[g]).size=32:=by rw[qE,hy32]
    have hmem:ids[g]∈ids:=List.getElem_mem hglt;have hgsome:(getL ids[g] c2).isSome=true:=by rw[HKP.out _ hmem];exact HOK.out.kept hmem
    generalize ids[g]=y at*;clear hS hT hatg hm0g hxg hslg hg hpp hatL hcc;go_upto_region 23 with(fail);refine wpR [3,3,3,3,1,3,1,1,1] (by rfl) (by rfl) ?_
    simp only[zz2];refine qC _ rfl rfl ?_;simp only[nmz];refine qC _ rfl rfl ?_;simp only[nmz];refine qC _ rfl rfl ?_;simp only[nmz]
    refine zC _ _ _ _ _ rfl rfl rfl (by kernel_rfl) ?_;simp only[nmz];refine wpDo rfl ?_
    refine qD (qF 17 [.tmp 141,.tmp 143] _ rfl _ func17 rfl (by kernel_rfl) [.int .i64 drp,.int .i64 ((ids.length:Nat):Int)] rfl _) (hp) ?_;rintro e wk ⟨rfl,hw⟩
    obtain rfl:=hw.symm;refine⟨_,rfl,?_⟩;try simp only[nmz]
    refine qV _ _ _ _ _ _ _ _ _ rfl rfl rfl rfl underlying25 (n:=32) (by kernel_rfl) hglt ?_;simp only[nmz]
    refine wpXA 24 b (off+g*32) (qA y) hcA underlying24 32 hyi trivial ?_;try simp only[nmz]
    refine wpDo rfl ?_;refine qU 24 _ (by rfl) idZ (fun wl hBl hml hsl=>?_)
    replace hBl:wl.heap[wj.heap.size]?=some (.cells (qA (List.replicate 32 0)) 24 (0,0)):=hBl;try simp only[nmz]
    refine wpDo rfl ?_
    refine qM 24 _ _ wj.heap.size 0 (qA y) (by rfl) (by rfl) (by rfl) (qZ _) 32 (by kernel_rfl) hyi _ _ hBl (by rw[hyi,qE];simp) (fun wm hBm hmm=>?_)
    rw[qI (by rw[hyi,qE];simp)]at hBm;try simp only[nmz]
    refine qK ?_;have hmjm:Mod NoB wj wm:=hml.transB hmm (Nat.le_refl _);have hatm:=hatj.keep0 hmjm;have hm0m:=hm0j.trans0 hmjm;have hxm:=hxj.keep hmjm id
    have hym:CellsAt wm wj.heap.size 0 (qA y):=CellsAt.whole hBm;have hn23:¬Fg wj.heap.size:=fun h=>Nat.lt_irrefl _ (hatj.lt _ h);have hnd:=hatm.facts.1
    have hgone:∀(ids':List (List UInt8))(bad':List UInt8)(n':Int),xJ (delL y c2) x ids' bad' n'->ids'=[]/\bad'=y/\n'=14:=fun ids' bad' n' ho=>
     (HOK.out.move HKP.out).gone hmem (by rw[getL_del _ _ _ hnd,if_pos rfl]) (fun z hz=>by rw[getL_del _ _ _ hnd,if_neg hz]) ho
    have hdl:(delL y c2).length<=1000:=by have:=del_le y c2;omega
    have HGO:=hid hgone;generalize hb23:wj.heap.size=b23 at*;clear hp hml hmm hmjm hBl hBm hsl hatj hm0j hxj hslj hcA hgone;go_upto_region 24 with(fail)
    have hS:Mod Fg wm wm:=Mod.refl _ _;refine wp_region_seq [3,3,3,0,1,3,3,3,0,0,1,3,3,3,0,1,3,3,3] (fun w'=>Mod Fg wm w') (by rfl) (by rfl) hS ?_
    simp only[zz2];refine qC _ rfl rfl ?_;simp only[nmz];refine qC _ rfl rfl ?_;simp only[nmz];refine qC _ rfl rfl ?_;simp only[nmz]
    refine wpLA 24 b23 0 (qA y) (fun w' hS=>hym.keep hS hn23) underlying24 32 hyi ?_;simp only[nmz];refine qT rfl (fun K hK=>?_)
    refine qD (qF 30 [.tmp 149,.tmp 150] _ rfl _ func30 rfl (by kernel_rfl) [_,_] rfl _) (hatm.drop hy32) ?_;rintro e wn2 ⟨rfl,Fn,hatn,hmn,hFn2⟩;rw[hgsome]
    have hSn:Mod Fg wm wn2:=hmn;have hT:Mod NoB wn2 wn2:=Mod.refl _ _;refine⟨_,rfl,hK _ _ hSn ?_⟩;clear hK K hmn;refine zB _ _ _ _ rfl rfl rfl ?_;simp only[nmz]
    refine qC _ rfl rfl ?_;simp only[nmz];refine qC _ rfl rfl ?_;simp only[nmz]
    refine wpLA 24 b13 0 (qA x) (fun w' hS=>hxm.keep hS hn13g) underlying24 32 hic ?_;simp only[nmz]
    refine wpLA 24 b23 0 (qA y) (fun w' hS=>hym.keep hS hn23) underlying24 32 hyi ?_;simp only[nmz];refine qT rfl (fun K hK=>?_)
    refine qD (qF 29 [.tmp 154,.tmp 155,.const (.slice none 0 0),.tmp 156,.const (.int .i64 14)] _ rfl _ func29 rfl (by kernel_rfl) [_,_,_,_,_] rfl _) (yU (hatn.keep0 hT) hdl hx hy32 (Sl.nil false _ AnyB 32 IdC) 14) ?_
    rintro e wo ⟨hmo2,ids2,b2,n2,hout2,rfl⟩;rw[decide_eq_true (HGO.out _ _ _ hout2)];replace hT:=hT.trans0 hmo2;refine⟨_,rfl,hK _ _ (hSn.more hT) ?_⟩
    clear hK K hmo2 hout2;refine zB _ _ _ _ rfl rfl rfl ?_;simp only[nmz];refine qC _ rfl rfl ?_;simp only[nmz];refine qC _ rfl rfl ?_;simp only[nmz]
    refine wpLA 24 b13 0 (qA x) (fun w' hS=>hxm.keep hS hn13g) underlying24 32 hic ?_;simp only[nmz];refine qT rfl (fun K hK=>?_)
    refine qD (qF 25 [.tmp 160,.tmp 161] _ rfl _ func25 rfl (by kernel_rfl) [_,_] rfl _) ((hatn.keep0 hT).whole hdl hx) ?_
    rintro e wp ⟨hmp,ids2,bad2,n2,hout2,rfl⟩;obtain rfl:=(HGO.out _ _ _ hout2).2.2;rw[show decide ((14:Int)=0)=false from rfl];replace hT:=hT.trans0 hmp
    refine⟨_,rfl,hK _ _ (hSn.more hT) ?_⟩;clear hK K hmp hout2;try simp only[nmz]
    refine zI _ _ _ rfl rfl rfl ?_;simp only[nmz];refine zB _ _ _ _ rfl rfl rfl ?_;simp only[nmz];refine qJ _ rfl rfl ?_;simp only[nmz];refine qK ?_
    have HF:=hid (hm0m.trans (hSn.more hT) (fun q hq h=>by have:=hFgw q h;omega));clear hS hSn hT hatn hatm hxm hym hFn2 hm0m;go_wp2;go_ret;exact⟨rfl,HF.out⟩
end
section
open Go.ChangeShapes Go.WideShapes Go.ChangeAt Go.RowKit Go.Proofs.Tryz Go.Lib
theorem Mod.kept{w w':World}(h:Mod NoB w w')(may:MemPlace->Prop):w.keptBut w' may:=by
 refine⟨h.os,h.output,fun i hi=>?_⟩;have e:=h.block i hi id
 cases hw:w.heap[i]? with
 |none=>rw[hw]at e;simp[e]
 |some o=>
  rw[hw]at e
  cases o<;>simp[e]
theorem post_of_mod{H:Type}{enc:TypeId×Value->H}{P:Program}{f:Func}{s:ChangeSpec}{apart fresh handsOn:Bool}{W W':World}{args:Array Value}{v:Value}{ds gs:List (DataW H)}{before pa pv:List MemPlace}
 (hold:DataW.Whole enc P f.params.toList s.vars apart W args.toList ds gs before)(hm:Mod NoB W W')
 (hr:∀(b:Nat),DataW.TrodAll enc P W' b (fun _=>false) handsOn f.resultTypes.toList (v.resultList f.resultTypes.size) (s.fn H (ds++gs)).results [])
 (ha:DataW.TrodAll enc P W' 0 (fun b=>decide (b<W.heap.size)) true f.params.toList args.toList (s.fn H (ds++gs)).args pa)
 (hv:DataW.TrodVars enc P W' (fun b=>decide (b<W.heap.size)) s.vars (s.fn H (ds++gs)).vars pv):s.post enc P f apart fresh handsOn false W args v W':=by
 unfold ChangeSpec.post;exact⟨ds,gs,before,[],pa,pv,hold,hr _,ha,hv,hm.kept _,fun h=>Bool.noConfusion h⟩
theorem laidOut:laidOutB prog=true:=by kernel_rfl
theorem carry{H:Type}{enc:TypeId×Value->H}{t:TypeId}(hr:prog.readableRec t=true)(hrow:t<prog.types.size){W W':World}(hm:Mod NoB W W'){v:Value}{d:DataW H}{ps:List MemPlace}
 (h:DataW.Trod enc prog W 0 (fun _=>true) true t v d ps):DataW.Trod enc prog W' 0 (fun b=>decide (b<W.heap.size)) true t v d ps:=by
 obtain⟨n,h⟩:=h;have hlt:=DataW.trod_lt n t _ _ h
 refine⟨n,DataW.trod_stays (kids_book laidOut hr) (book_sized hr) (fun h=>by cases h) ⟨hrow,book_self t⟩ h (fun p hp=>?_) (fun p hp=>by simpa using hlt p hp)⟩
 have hb:=hlt p hp
 cases p with
 |cell b off=>exact World.cell?_of_block (w:=W) (hm.block b hb id)
 |map b=>exact hm.block b hb id
end
section
open Go.RowKit Go.Shelf Go.Proofs.Tryz Go.Lib
end
section
open Go.ChangeShapes Go.WideShapes Go.ChangeAt Go.RowKit Go.Proofs.Tryz Go.Lib
theorem fit_i64{n:Int}(h:(Lit.int .i64 n).wf=true):-9223372036854775808<=n/\n<=9223372036854775807:=bounds_i64 h
theorem addr_add{w:World}{a:Addr}{v:Value}(i:Nat)(h0:∃u,w.cell? (a.add 0)=some u)(h:w.cell? (a.add i)=some v):a=⟨a.block,a.off,none⟩/\w.cell? ⟨a.block,a.off+i,none⟩=some v:=by
 obtain⟨u,h0⟩:=h0;obtain⟨b,off,spot⟩:=a
 have hs:spot=none:=by
  simp only[Addr.add,if_true]at h0;unfold World.cell? at h0
  cases spot with
  |none=>rfl
  |some s=>cases hw:w.heap[b]? with
   |none=>simp[hw]at h0
   |some o=>cases o<;>simp[hw]at h0
 subst hs;refine⟨rfl,?_⟩;unfold Addr.add at h
 split at h
 ·rename_i hi;subst hi;exact h
 ·exact h
theorem list_of_all{α:Type}{n:Nat}{Q:Nat->α->Prop}(h:∀i,i<n->∃a,Q i a):∃l:List α,l.length=n/\∀i (hi:i<l.length),Q i l[i]:=by
 refine⟨List.ofFn fun i:Fin n=>Classical.choose (h i.1 i.2),by simp,fun i hi=>?_⟩;rw[List.getElem_ofFn];exact Classical.choose_spec (h i (by simpa using hi))
theorem addr_cells{w:World}{a:Addr}{i j:Nat}{u v:Value}(h0:w.cell? ((a.add 0).add 0)=some u)(h:w.cell? ((a.add i).add j)=some v):a=⟨a.block,a.off,none⟩/\w.cell? ⟨a.block,a.off+i+j,none⟩=some v:=by
 have e0:(a.add 0).add 0=a.add 0:=by simp[Addr.add]
 have h1:=(addr_add 0 ⟨u,e0▸h0⟩ (e0▸h0)).1;refine⟨h1,?_⟩;rw[h1]at h
 have e:∀(b o k:Nat),Addr.add ⟨b,o,none⟩ k=⟨b,o+k,none⟩:=fun b o k=>by
  unfold Addr.add
  split
  ·rename_i hk;subst hk;rfl
  ·rfl
 rwa[e,e]at h
section
variable{H:Type}{enc:TypeId×Value->H}{P:Program}{W:World}{sp:Nat->Bool}{held:Bool}
theorem sl_of_trod{α:Type}{R:Array Value->α->Prop}{t e:TypeId}{sz fuel:Nat}{cs:List Value}{x:DataW H×List MemPlace}(ht:P.underlying t=some (.slice e))(hsz:P.cellsOf e=sz)(hpos:0<sz)
 (hR:∀n cs x,DataW.trod enc P W 0 sp held n e cs=some x->∃a,R cs.toArray a)(h:DataW.trod enc P W 0 sp held fuel t cs=some x):∃v l,cs=[v]/\Sl false W (fun k=>k<W.heap.size) sz R v l:=by
 rcases DataW.trod_slice ht h with⟨rfl,_⟩|⟨a,len,cap,elems,rest,n,_,rfl,_,_,hlc,hcm,hel,helem,_,_⟩
 ·exact⟨_,[],rfl,Sl.nil _ _ _ _ _⟩
 ·subst hsz
  have hall:∀i,i<len->∃y:α,∃cs:List Value,cs.length=P.cellsOf e/\R cs.toArray y/\∀j,j<P.cellsOf e->W.cell? ((a.add (i*P.cellsOf e)).add j)=cs[j]?:=by
   intro i hi;have h1:=helem i hi;rw[List.getElem?_eq_getElem (by omega)]at h1;obtain⟨cs,h2,h3⟩:=Option.bind_eq_some_iff.1 h1;obtain⟨_,hl,hc⟩:=World.cells?_some h2
   obtain⟨y,hy⟩:=hR _ _ _ h3;exact⟨y,cs,hl,hy,hc⟩
  obtain⟨l,hl,hq⟩:=list_of_all hall;refine⟨_,l,rfl,some a,cap,by rw[hl],by omega,hcm,fun hne=>?_⟩;have hp:0<l.length:=List.length_pos_iff.2 hne
  have h0:∃u,W.cell? ((a.add 0).add 0)=some u:=by
   obtain⟨cs,h1,_,h3⟩:=hq 0 hp;have:=h3 0 hpos;rw[List.getElem?_eq_getElem (by omega),Nat.zero_mul]at this;exact⟨_,this⟩
  obtain⟨u,h0⟩:=h0
  refine⟨a.block,a.off,by rw[<-(addr_cells h0 h0).1],(block_lt_of_cell (a:=⟨a.block,a.off+0+0,none⟩) (addr_cells h0 h0).2),fun h=>(by cases h),fun i hi=>?_⟩
  obtain⟨cs,h1,h2,h3⟩:=hq i hi;refine⟨cs.toArray,by simpa using h1,h2,fun j hj=>?_⟩;have hj':j<cs.length:=by simpa using hj
  have:=h3 j (by omega);rw[List.getElem?_eq_getElem hj']at this;rw[(addr_cells h0 this).2]
  simp[List.getElem?_eq_getElem hj']
end
section
variable{H:Type}{enc:TypeId×Value->H}{W:World}{sp:Nat->Bool}{held:Bool}{fuel:Nat}{cs:List Value}{x:DataW H×List MemPlace}
theorem read_u8(h:DataW.trod enc prog W 0 sp held fuel 5 cs=some x):∃b,cs=[byteV b]:=by
 obtain⟨n,rfl,_,hw⟩:=DataW.trod_int underlying5 h;have:=bounds_u8 hw;refine⟨UInt8.ofNat n.toNat,?_⟩;unfold byteV
 rw[UInt8.toNat_ofNat_of_lt' (by rw[show UInt8.size=256 from rfl];omega),Int.toNat_of_nonneg this.1]
theorem read_bytes(h:DataW.trod enc prog W 0 sp held fuel 53 cs=some x):∃v l,cs=[v]/\Sl false W (fun k=>k<W.heap.size) 1 ByteC v l:=
 sl_of_trod underlying53 (by kernel_rfl) (by decide) (fun _ _ _ h=>by
  obtain⟨b,rfl⟩:=read_u8 h
  exact⟨b,rfl⟩) h
theorem read_lists(h:DataW.trod enc prog W 0 sp held fuel 22 cs=some x):∃v l,cs=[v]/\LsAt W v l:=by
 obtain⟨v,l,e,hs⟩:=sl_of_trod (R:=BtsC W) (sz:=1) underlying22 (by kernel_rfl) (by decide) (fun _ _ _ h=>by
  obtain⟨v,l,rfl,hs⟩:=read_bytes h
  exact⟨l,v,rfl,hs.mono (fun _ _=>trivial) (fun _ _ h=>h)⟩) h
 exact⟨v,l,e,hs.mono (fun _ _=>trivial) (fun _ _ h=>h)⟩
end
section
variable{H:Type}{enc:TypeId×Value->H}{W W0:World}{sp:Nat->Bool}{r:Reach}{b0:Nat}{v:Value}{d:DataW H}{ps:List MemPlace}
end
section
variable{H:Type}{enc:TypeId×Value->H}{W W0:World}{sp:Nat->Bool}{r:Reach}{b0:Nat}{v:Value}{d:DataW H}{ps:List MemPlace}
theorem open_bytesC(hval:Value.okWide prog W0 r b0 53 v)(h:DataW.Trod enc prog W 0 sp true 53 v d ps):∃l,Sl false W AnyB 1 ByteC v l:=by
 obtain⟨a0,n0,c0,rfl⟩:=okWide_slice underlying53 hval;obtain⟨fuel,h⟩:=h;obtain⟨v,l,hv,hl⟩:=read_bytes h
 have:Value.slice a0 n0 c0=v:=by simpa[Value.cells]using hv
 rw[this];exact⟨l,hl.mono (fun _ _=>trivial) (fun _ _ h=>h)⟩
theorem open_listsC(hval:Value.okWide prog W0 r b0 22 v)(h:DataW.Trod enc prog W 0 sp true 22 v d ps):∃l,LsAt W v l:=by
 obtain⟨a0,n0,c0,rfl⟩:=okWide_slice underlying22 hval;obtain⟨fuel,h⟩:=h;obtain⟨v,l,hv,hl⟩:=read_lists h
 have:Value.slice a0 n0 c0=v:=by simpa[Value.cells]using hv
 rw[this];exact⟨l,hl⟩
end
end
section
open Go.RowKit Go.Proofs.Tryz Go.Lib
theorem closureWhole_any(W:World)(wd:Int)(lv:Value)(L:List (List UInt8))(which:Int)(mv:Value)(mo:List UInt8)(drp:Int)(hwd:I64 wd)(hl:LsAt W lv L)(hwh:I64 which)(hm:Sl false W AnyB 1 ByteC mv mo)(hd:I64 drp):
 Calls prog 6 #[.int .i64 wd,lv,.int .i64 which,mv,.int .i64 drp] W (RetM (.bool true) W):=closureWhole_walk hwd hwh hd hl hm
end
end Go.Proofs.YtjeonjoifjbohaaGreat
