/- What the statement ClosureWalks needs, part 7. -/
import Derived.Test.YtjeonjoifjbohaaGreatClosureWalksP6
set_option linter.unusedVariables false
set_option linter.unusedSimpArgs false
set_option linter.unnecessarySimpa false
set_option linter.unusedSectionVars false
set_option maxRecDepth 10000
set_option maxHeartbeats 8000000
namespace Go.Proofs.YtjeonjoifjbohaaGreat
section
open Go.RowKit Go.Shelf Go.Proofs.Tryz Go.Lib
theorem lib13_any(w:World)(more:Nat)(hmo:more<=1):Calls prog 28 #[.int .i64 more] w (LibR w more):=by
 have sZ:(qB descZ).size=35:=qO qV;have sL:(qB dL).size=35:=qO dL_small.id
 have sC:(qB dC).size=35:=qO dC_small.id;have sM:(qB dM).size=35:=qO (xW _)
 have sX:(qB (dX more)).size=35:=qO (xW _);have sS:(qB (saidD more)).size=35:=qO (xW _)
 have oL:∀c∈qB dL,c.oneCell'=true:=zJ _ _ _ _;have oC:∀c∈qB dC,c.oneCell'=true:=zJ _ _ _ _
 have oM:∀c∈qB dM,c.oneCell'=true:=zJ _ _ _ _;have oX:∀c∈qB (dX more),c.oneCell'=true:=zJ _ _ _ _;have hib:=imgB_len
 have hxb:=idxB_len more;have hput33:=said_put more;go_enter func28,ntmps28;go_upto_region 0 with(fail);refine wpR [1,3] ?_;simp only[stz]
 refine wpD (qP 48 _ (by rfl) exampleZ (fun w1 hB1 hm1 hs1=>?_))
 replace hB1:w1.heap[w.heap.size]?=some (.cells (exRow (.pointer none) (qB descZ) (qB descZ) (qB descZ) (qB descZ)) 48 (0,0)):=hB1;simp only[stz]
 go_upto_region 1 with(fail);refine wpR [1] ?_;simp only[stz];refine wpD (qP 48 _ (by rfl) exampleZ (fun w2 hB2 hm2 hs2=>?_))
 replace hB2:w2.heap[w1.heap.size]?=some (.cells (exRow (.pointer none) (qB descZ) (qB descZ) (qB descZ) (qB descZ)) 48 (0,0)):=hB2
 simp only[stz];have hR2:=hm2.obj id hB1;have hm02:=hm1.trans0 hm2;have l1:w.heap.size<w1.heap.size:=hs1;have l2:w1.heap.size<w2.heap.size:=hs2
 clear hm1 hB1 hs1 hs2 hm2;generalize hb2:w.heap.size=b2 at*;generalize hb4:w1.heap.size=b4 at*;go_upto_region 2 with(fail);refine wpR [1,1,1,1,3,3] ?_
 simp only[stz]
 refine wpD (xM 53 5 5 [(0,_),(1,_),(2,_),(3,_),(4,_)] [byteV 108,byteV 97,byteV 121,byteV 101,byteV 114] (byteV 0) 1 (by rfl) (by rfl) (by rfl) underlying53 byte_zs (by omega) (by omega) (by simp[Value.cells,byteV]) (fun w3 hB3 hm3 hs3=>?_))
 replace hB3:w3.heap[w2.heap.size]?=some (.cells (qA layB) 5 (0,0)):=hB3;try simp only[nmz]
 refine wpD (wp_bytesConst 53 5 _ w2.heap.size 5 5 _ (by rfl) (by rfl) underlying53 underlying5 hB3 (fun w4 hB4 hm4=>?_))
 have hm24:Mod NoB w2 w4:=hm3.transB hm4 (Nat.le_refl _);try simp only[nmz]
 refine wpD (xM 53 5 6 [(0,_),(1,_),(2,_),(3,_),(4,_),(5,_)] [byteV 99,byteV 111,byteV 110,byteV 102,byteV 105,byteV 103] (byteV 0) 1 (by rfl) (by rfl) (by rfl) underlying53 byte_zs (by omega) (by omega) (by simp[Value.cells,byteV]) (fun w5 hB5 hm5 hs5=>?_))
 replace hB5:w5.heap[w4.heap.size]?=some (.cells (qA cfgB) 5 (0,0)):=hB5;try simp only[nmz]
 refine wpD (wp_bytesConst 53 5 _ w4.heap.size 6 6 _ (by rfl) (by rfl) underlying53 underlying5 hB5 (fun w6 hB6 hm6=>?_))
 have hm46:Mod NoB w4 w6:=hm5.transB hm6 (Nat.le_refl _);simp only[stz];have hBl:=hm46.obj id hB4
 have l3:w2.heap.size<w6.heap.size:=(Array.getElem?_eq_some_iff.1 hBl).1;have l4:w4.heap.size<w6.heap.size:=(Array.getElem?_eq_some_iff.1 hB6).1;have s24:=hm24.size
 have s46:=hm46.size;have hR6:=(hm24.trans0 hm46).obj id hR2;have hE6:=(hm24.trans0 hm46).obj id hB2;have hm06:=hm02.trans0 (hm24.trans0 hm46)
 clear hm3 hm4 hm5 hm6 hB3 hB4 hB5 hm24 hm46 hs3 hs5 hR2 hB2 hm02;generalize hbl:w2.heap.size=bl at*;generalize hbc:w4.heap.size=bc at*
 have hlS:Sl false w6 AnyB 1 ByteC (.slice (some ⟨bl,0,none⟩) 5 5) layB:=sl_bytes hBl rfl (by simp[layB])
 have hcS:Sl false w6 AnyB 1 ByteC (.slice (some ⟨bc,0,none⟩) 6 6) cfgB:=sl_bytes hB6 rfl (by simp[cfgB])
 have hdl:=desc13_any hlS (by simp[layB]) 2 32 (by omega) (by omega)
 have hdc:=fun w' (hm:Mod NoB w6 w')=>desc13_any (hcS.keep0 hm) (by simp[cfgB]) 1 32 (by omega) (by omega);go_upto_region 3 with(fail);refine wpR [3,1,3,1,3,1,3,1] ?_
 simp only[stz];refine wpD (wpC func89 (hdl) ?_);rintro e w7 ⟨he7,hm7⟩;subst he7;refine⟨_,rfl,?_⟩;simp only[stz];refine wpD (wpC func89 (hdc _ hm7) ?_);rintro e w8 ⟨he8,hm8⟩
 subst he8;have hE8:=(hm7.trans0 hm8).obj id hE6;refine⟨_,rfl,?_⟩;simp only[stz]
 refine wpD (qF 46 _ _ b4 1 (qB dL) (by rfl) (by rfl) (by rfl) oL 35 (by kernel_rfl) sL _ _ hE8 (by rw[yI sZ sZ sZ sZ,sL];omega) (fun w9 hB9 hm9=>?_))
 rw[ex_put1 sZ sL]at hB9;simp only[stz]
 refine wpD (qF 46 _ _ b4 36 (qB dC) (by rfl) (by rfl) (by rfl) oC 35 (by kernel_rfl) sC _ _ hB9 (by rw[yI sL sZ sZ sZ,sC];omega) (fun wa hBa hma=>?_))
 rw[ex_put2 sL sZ sC]at hBa;simp only[stz];have hm68:=hm7.trans0 hm8
 have hm6a:Mod (fun k=>k=b4) w6 wa:=((hm68.mono (fun _ _ h=>h.elim)).trans hm9 (fun _ _ h=>h)).trans hma (fun _ _ h=>h);have hRa:=hm6a.objB (b:=b2) (by omega) hR6
 have hBla:=hm6a.objB (b:=bl) (by omega) hBl;have hBca:=hm6a.objB (b:=bc) (by omega) hB6;have hm0a:Mod NoB w wa:=hm06.transB hm6a (by omega);have l10:=hm6a.size
 have hx1:CellsAt wa b4 (0+1) (qB dL):=ex_at1 hBa;have hx2:CellsAt wa b4 (0+36) (qB dC):=ex_at2 sL hBa
 clear hdl hdc hlS hcS hE6 hE8 hB9 hm7 hm8 hm9 hma hm68 hR6 hBl hB6 hm06;go_upto_region 4 with(fail);refine wpR [3,1,3,1,1,0,1,3,3,3,3,3] ?_;simp only[stz]
 refine wpXA 46 b4 (0+36) (qB dC) hx2 underlying46 35 sC trivial ?_;simp only[stz];refine wpXA 46 b4 (0+1) (qB dL) hx1 underlying46 35 sL trivial ?_
 try simp only[nmz]
 refine wpD (qU 161 46 _ (.agg (qB dL)) (.agg (qB descZ)) 35 (by rfl) (by rfl) underlying161 desc_zs9 (by omega) (by omega) sL (fun wb hBb hmb hsb=>?_))
 replace hBb:wb.heap[wa.heap.size]?=some (.cells (qB dL) 46 (0,0)):=hBb
 have henc:Calls prog 90 #[.agg (qN 3 [] dC (.slice (some ⟨wa.heap.size,0,none⟩) 1 1) (.slice none 0 0))] wb (EncodeR wb imgB):=mEncode_any (m:=imgM) imgM_small (gatD_one dL_small.id hBb (Nat.le_refl _)) (Gat.nil _ _ _ _ _)
 try simp only[nmz]
 refine qQ rfl (fun w' hS=>qL 163 [(0,_),(2,_),(3,_)] [(0,.int .i64 3),(2,.agg (qB dC)),(3,.slice (some ⟨wa.heap.size,0,none⟩) 1 1)] _ (by rfl) (by rfl) (built_man3 dC dC_small.id _ 1 1)) ?_
 simp only[nmz];refine wpD (wpC func90 (henc) ?_);rintro e wc ⟨hmc,vi,hei,hbi⟩;subst hei;refine⟨_,rfl,?_⟩;simp only[stz]
 refine qE rfl (fun w'=>qI _ 0 #[vi,.int .i64 0] rfl rfl vi rfl) ?_;simp only[nmz]
 refine qE rfl (fun w'=>qI _ 1 #[vi,.int .i64 0] rfl rfl (.int .i64 0) rfl) ?_;simp only[stz];have hmac:=hmb.trans0 hmc;have hRc:=hmac.obj id hRa
 have hEc:=hmac.obj id hBa;have hBlc:=hmac.obj id hBla;have hBcc:=hmac.obj id hBca;have hm0c:=hm0a.trans0 hmac
 have l5:b2<wc.heap.size:=(Array.getElem?_eq_some_iff.1 hRc).1;have l6:b4<wc.heap.size:=(Array.getElem?_eq_some_iff.1 hEc).1;have l7:=hmb.size;have l11:=hmc.size
 have l8:b4<wa.heap.size:=(Array.getElem?_eq_some_iff.1 hBa).1;have hqi:∀q,vi.ownBlock=some q->wb.heap.size<=q/\q<wc.heap.size:=fun q hq=>Bts.lt hbi hq
 obtain⟨iad,icp,rfl⟩:=hbi.slice;have HBI:=hid hbi;clear hbi henc hmb hmc hBb hsb hmac hRa hBa hBla hBca hx1 hx2 hm0a
 have hdm:Calls prog 89 #[.int .i64 (3:Nat),.int .i64 (32:Nat),.slice iad imgB.length icp] wc (DesR wc dM):=desc13_any HBI.out.sl (by omega) 3 32 (by omega) (by omega)
 go_upto_region 5 with(fail);refine wpR [3,1,3,1] ?_;simp only[stz];refine wpD (wpC func89 (hdm) ?_);rintro e wd ⟨hed,hmd⟩;subst hed;refine⟨_,rfl,?_⟩;simp only[stz]
 refine wpD (qF 46 _ _ b4 71 (qB dM) (by rfl) (by rfl) (by rfl) oM 35 (by kernel_rfl) sM _ _ (hmd.obj id hEc) (by rw[yI sL sC sZ sZ,sM];omega) (fun we hBe hme=>?_))
 rw[ex_put3 sL sC sZ sM]at hBe;simp only[stz];have hmce:Mod (fun k=>k=b4) wc we:=(hmd.mono (fun _ _ h=>h.elim)).trans hme (fun _ _ h=>h)
 have hRe:=hmce.objB (b:=b2) (by omega) hRc;have hBle:=hmce.objB (b:=bl) (by omega) hBlc;have hBce:=hmce.objB (b:=bc) (by omega) hBcc
 have hbie:=Bts.keep HBI.out hmce (fun q hq e=>by have h1:=(hqi q hq).1;have e':q=b4:=e;omega);have hm0e:Mod NoB w we:=hm0c.transB hmce (by omega)
 have l9:=hmce.size;have hx3:CellsAt we b4 (0+71) (qB dM):=ex_at3 sL sC hBe;clear hdm hmd hme hmce hRc hEc hBlc hBcc HBI hm0c;go_upto_region 6 with(fail)
 refine wpR [3,1,1,1] ?_;simp only[stz];refine wpXA 46 b4 (0+71) (qB dM) hx3 underlying46 35 sM trivial ?_;try simp only[nmz]
 refine wpD (qP 46 _ (by rfl) descZ_i (fun wf hBf hmf hsf=>?_));replace hBf:wf.heap[we.heap.size]?=some (.cells (qB descZ) 46 (0,0)):=hBf;try simp only[nmz]
 refine wpD (qF 46 _ _ we.heap.size 0 (qB dM) (by rfl) (by rfl) (by rfl) oM 35 (by kernel_rfl) sM _ _ hBf (by rw[sM,sZ];omega) (fun wg hBg hmg=>?_))
 rw[qC (by rw[sM,sZ])]at hBg;simp only[stz];have hmeg:Mod NoB we wg:=hmf.transB hmg (Nat.le_refl _);have hRg:=hmeg.obj id hRe;have hEg:=hmeg.obj id hBe
 have hBlg:=hmeg.obj id hBle;have hBcg:=hmeg.obj id hBce;have hbig:=Bts.keep hbie hmeg (fun _ _=>id);have hm0g:=hm0e.trans0 hmeg
 have hc33:wg.cell? ⟨we.heap.size,0+33,none⟩=some (.int .i64 (imgB.length:Nat)):=by rw[cell_of_row _ _ _ _ _ _ hBg];exact dM_33
 have la:we.heap.size<wg.heap.size:=(Array.getElem?_eq_some_iff.1 hBg).1;generalize hb9:we.heap.size=b9 at*;clear hmf hmg hmeg hRe hBe hBle hBce hbie hm0e hx3 hBf hsf
 go_upto_region 7 with(fail);refine wpR [3,1,3,3,3,1] ?_;simp only[stz];refine wpXd (v:=(.int .i64 (imgB.length:Nat))) 3 b9 (0+33) hc33 underlying3 trivial ?_
 simp only[stz];refine qY _ _ _ _ (imgB.length:Int) (more:Int) ((imgB.length+more:Nat):Int) rfl rfl rfl rfl (by omega) (by omega) (by omega) ?_;simp only[stz]
 refine wpD (qT 3 _ _ b9 33 (.int .i64 ((imgB.length+more:Nat):Int)) (by rfl) (by rfl) (by rfl) (by rfl) (by kernel_rfl) _ _ hBg (by rw[sM];omega) (fun wh hBh hmh=>?_))
 rw[hput33]at hBh;simp only[stz];have hRh:=hmh.objB (b:=b2) (by omega) hRg;have hEh:=hmh.objB (b:=b4) (by omega) hEg;have hBlh:=hmh.objB (b:=bl) (by omega) hBlg
 have hBch:=hmh.objB (b:=bc) (by omega) hBcg;have hbih:=Bts.keep hbig hmh (fun q hq e=>by have h1:=(hqi q hq).2;have e':q=b9:=e;omega)
 have hm0h:Mod NoB w wh:=hm0g.transB hmh (by omega);have hcS:CellsAt wh b9 0 (qB (saidD more)):=CellsAt.whole hBh;have lb:=hmh.size
 clear hRg hEg hBlg hBcg hbig hm0g hmh hBg hc33;go_upto_region 8 with(fail);refine wpR [1,1,0,1,3,3,3,3,3] ?_;simp only[stz]
 refine wpXA 46 b9 0 (qB (saidD more)) hcS underlying46 35 sS trivial ?_;try simp only[nmz]
 refine wpD (qU 161 46 _ (.agg (qB (saidD more))) (.agg (qB descZ)) 35 (by rfl) (by rfl) underlying161 desc_zs9 (by omega) (by omega) sS (fun wi hBi hmi hsi=>?_))
 replace hBi:wi.heap[wh.heap.size]?=some (.cells (qB (saidD more)) 46 (0,0)):=hBi
 have henc:Calls prog 90 #[.agg (qN 4 [] descZ (.slice none 0 0) (.slice (some ⟨wh.heap.size,0,none⟩) 1 1))] wi (EncodeR wi (idxB more)):=mEncode_any (m:=idxM more) (idxM_small hmo) (base:=wh.heap.size) (Gat.nil _ _ _ _ _) (gatD_one (saidD_small hmo).id hBi (Nat.le_refl _))
 try simp only[nmz]
 refine qQ rfl (fun w' hS=>qL 163 [(0,_),(4,_)] [(0,.int .i64 4),(4,.slice (some ⟨wh.heap.size,0,none⟩) 1 1)] _ (by rfl) (by rfl) (built_man4 _ 1 1)) ?_
 simp only[nmz];refine wpD (wpC func90 (henc) ?_);rintro e wj ⟨hmj,vx,hej,hbx⟩;subst hej;refine⟨_,rfl,?_⟩;simp only[stz]
 refine qE rfl (fun w'=>qI _ 0 #[vx,.int .i64 0] rfl rfl vx rfl) ?_;simp only[nmz]
 refine qE rfl (fun w'=>qI _ 1 #[vx,.int .i64 0] rfl rfl (.int .i64 0) rfl) ?_;simp only[stz];have hmhj:=hmi.trans0 hmj;have hRj:=hmhj.obj id hRh
 have hEj:=hmhj.obj id hEh;have hBlj:=hmhj.obj id hBlh;have hBcj:=hmhj.obj id hBch;have hbij:=Bts.keep hbih hmhj (fun _ _=>id);have hm0j:=hm0h.trans0 hmhj
 have lc:=hmi.size;have ld':=hmj.size;have hqx:∀q,vx.ownBlock=some q->wi.heap.size<=q/\q<wj.heap.size:=fun q hq=>Bts.lt hbx hq;obtain⟨xad,xcp,rfl⟩:=hbx.slice
 have HBX:=hid hbx;clear hbx henc hmi hmj hBi hsi hmhj hRh hEh hBlh hBch hbih hBh hcS hm0h
 have hdx:Calls prog 89 #[.int .i64 (4:Nat),.int .i64 (32:Nat),.slice xad (idxB more).length xcp] wj (DesR wj (dX more)):=desc13_any HBX.out.sl (by omega) 4 32 (by omega) (by omega)
 go_upto_region 9 with(fail);refine wpR [3,1,3,1] ?_;simp only[stz];refine wpD (wpC func89 (hdx) ?_);rintro e wk ⟨hek,hmk⟩;subst hek;refine⟨_,rfl,?_⟩;simp only[stz]
 refine wpD (qF 46 _ _ b4 106 (qB (dX more)) (by rfl) (by rfl) (by rfl) oX 35 (by kernel_rfl) sX _ _ (hmk.obj id hEj) (by rw[yI sL sC sM sZ,sX];omega) (fun wl hBl2 hml=>?_))
 rw[ex_put4 sL sC sM sZ sX]at hBl2;simp only[stz];have hmjl:Mod (fun k=>k=b4) wj wl:=(hmk.mono (fun _ _ h=>h.elim)).trans hml (fun _ _ h=>h)
 have hRl:=hmjl.objB (b:=b2) (by omega) hRj;have hBll:=hmjl.objB (b:=bl) (by omega) hBlj;have hBcl:=hmjl.objB (b:=bc) (by omega) hBcj
 have hbil:=bts_any (Bts.keep hbij hmjl (fun q hq e=>by have h1:=(hqi q hq).1;have e':q=b4:=e;omega))
 have hbxl:=bts_any (Bts.keep HBX.out hmjl (fun q hq e=>by have h1:=(hqx q hq).1;have e':q=b4:=e;omega));have hm0l:Mod NoB w wl:=hm0j.transB hmjl (by omega)
 have le':=hmjl.size;have hlS:Sl false wl AnyB 1 ByteC (.slice (some ⟨bl,0,none⟩) 5 5) layB:=sl_bytes hBll rfl (by simp[layB])
 have hcS:Sl false wl AnyB 1 ByteC (.slice (some ⟨bc,0,none⟩) 6 6) cfgB:=sl_bytes hBcl rfl (by simp[cfgB]);clear hdx hmk hml hmjl hRj hEj hBlj hBcj hbij HBX hm0j hBll hBcl
 go_upto_region 10 with(fail);refine wpR [3,3,3,3,1,1,3,1] ?_;simp only[stz]
 refine wpD (xM 22 53 4 [(0,_),(1,_),(2,_),(3,_)] [.slice (some ⟨bl,0,none⟩) 5 5,.slice (some ⟨bc,0,none⟩) 6 6,.slice iad imgB.length icp,.slice xad (idxB more).length xcp] (.slice none 0 0) 1 (by rfl) (by rfl) (by rfl) underlying22 bytes_zs (by omega) (by omega) (by simp[Value.cells]) (fun wm hBm hmm hsm=>?_))
 replace hBm:wm.heap[wl.heap.size]?=some (.cells #[.slice (some ⟨bl,0,none⟩) 5 5,.slice (some ⟨bc,0,none⟩) 6 6,.slice iad imgB.length icp,.slice xad (idxB more).length xcp] 53 (0,0)):=hBm
 have hls:LsAt wm (.slice (some ⟨wl.heap.size,0,none⟩) 4 4) (libL more):=by
  refine⟨_,_,rfl,Nat.le_refl _,by unfold maxLen;omega,fun _=>⟨wl.heap.size,0,rfl,trivial,fun e=>(by cases e),fun i hi=>?_⟩⟩
  match i,hi with
  |0,_=>exact⟨_,rfl,⟨_,rfl,hlS.keep0 hmm⟩,cells_nth hBm _ _ rfl⟩
  |1,_=>exact⟨_,rfl,⟨_,rfl,hcS.keep0 hmm⟩,cells_nth hBm _ _ rfl⟩
  |2,_=>exact⟨_,rfl,⟨_,rfl,hbil.keep0 hmm⟩,cells_nth hBm _ _ rfl⟩
  |3,_=>exact⟨_,rfl,⟨_,rfl,hbxl.keep0 hmm⟩,cells_nth hBm _ _ rfl⟩
 have hfi:=filled13_any (wn:=32) (by omega) hls (by simp[libL]) (libL_size more);try simp only[nmz]
 refine wpD (wpC func18 (hfi) ?_);rintro e wn ⟨bs,hen,hst⟩;subst hen;obtain⟨Ft,hat,hFn,hmn⟩:=hst;have hln:=hmm.trans0 hmn;refine⟨_,rfl,?_⟩;simp only[stz]
 refine wpD (qT 29 _ _ b4 0 (.pointer (some ⟨bs,0,none⟩)) (by rfl) (by rfl) (by rfl) (by rfl) (by kernel_rfl) _ _ (hln.obj id hBl2) (by rw[yI sL sC sM sX];omega) (fun wo hBo hmo'=>?_))
 rw[ex_set0]at hBo;simp only[stz];have lf:=hmm.size;have hRo:=hmo'.objB (b:=b2) (by omega) (hln.obj id hRl)
 have hato:=hat.keep hmo' (fun k hk e=>by have h1:=hFn k hk;have e':k=b4:=e;omega);have hm0o:Mod NoB w wo:=(hm0l.trans0 hln).transB hmo' (by omega)
 have hFo:∀k,Ft k->w.heap.size<=k/\k≠b2:=fun k hk=>by have h1:=hFn k hk;have h2:=hm0l.size;constructor<;>omega
 have hxo:CellsAt wo b4 0 (exRow (.pointer (some ⟨bs,0,none⟩)) (qB dL) (qB dC) (qB dM) (qB (dX more))):=CellsAt.whole hBo
 have hpo:wo.cell? ⟨b4,0,none⟩=some (.pointer (some ⟨bs,0,none⟩)):=ex_at0 hBo;have hes:=yI (p:=.pointer (some ⟨bs,0,none⟩)) sL sC sM sX
 have heo:∀c∈exRow (.pointer (some ⟨bs,0,none⟩)) (qB dL) (qB dC) (qB dM) (qB (dX more)),c.oneCell'=true:=exRow_one rfl oL oC oM oX
 have hzs:=yI (p:=.pointer none) sZ sZ sZ sZ;have hfour:=lib_four more hmo;clear hfi hls hBm hsm hmm hmn hln hmo' hBl2 hRl hat hbil hbxl hlS hcS hm0l hBo
 generalize hEX:exRow (.pointer (some ⟨bs,0,none⟩)) (qB dL) (qB dC) (qB dM) (qB (dX more))=EX at*;have HEX:=hid hEX;clear hEX
 go_upto_region 11 with(fail);have hids:=(hato.keep0 ((Mod.refl NoB wo).drew)).ids
 have hS:Mod (fun k=>k=b2) wo wo.drew:=((Mod.refl NoB wo).drew).mono (fun _ _ h=>h.elim);have hn42:¬b4=b2:=by omega
 refine wpRZ [0,3,0,3,3,3,3,3,3,3,3,3,3,3,0,1,3,3,3,1,3] [] (fun w'=>Mod (fun k=>k=b2) wo w') hS ?_;simp only[stz]
 refine wpLA 48 b4 0 EX (fun w' hS=>hxo.keep hS hn42) underlying48 141 hes ?_;simp only[stz];refine wpLd 29 b4 0 (fun w' hS=>hS.cell hn42 hpo) underlying29 ?_;simp only[nmz]
 refine qE (v:=?_) rfl (fun w'=>?_) ?_;rotate_left;·(go_simp;try with_reducible rfl)
 simp only[stz];refine qE (v:=?_) rfl (fun w'=>?_) ?_;rotate_left;·(go_simp;try with_reducible rfl)
 simp only[stz];refine qE (v:=?_) rfl (fun w'=>?_) ?_;rotate_left;·(go_simp;try with_reducible rfl)
 simp only[stz];refine wpLd 29 b4 0 (fun w' hS=>hS.cell hn42 hpo) underlying29 ?_;simp only[nmz];refine qM rfl (fun K hK=>?_);refine wpC func38 (hids) ?_
 rintro e wp ⟨hmp,vl,lids,hep,hgl,hidc⟩;subst hep;have hl4:lids.length=4:=by rw[hidc.2.length_eq,List.length_map];exact hfour
 obtain⟨lad,lcp,rfl⟩:=hgl.slice;rw[hl4];have hT:Mod NoB wo wp:=((Mod.refl NoB wo).drew).trans0 hmp;refine⟨_,rfl,hK _ _ (hT.mono (fun _ _ h=>h.elim)) ?_⟩;clear hK K
 try simp only[nmz]
 refine wpPL ?_;simp only[nmz];refine qE (v:=?_) rfl (fun w'=>?_) ?_;rotate_left;·(go_simp;try with_reducible rfl)
 simp only[stz];refine qM rfl (fun K hK=>?_)
 refine qF 48 _ _ b2 0 EX (by rfl) (by rfl) (by rfl) heo 141 (by kernel_rfl) hes _ _ (hT.obj id hRo) (by rw[hes,hzs];omega) (fun wq hBq hmq=>?_)
 rw[qC (by rw[hes,hzs])]at hBq;refine hK _ _ ((hT.mono (fun _ _ h=>h.elim)).trans hmq (fun _ _ h=>h)) ?_;clear hK K;simp only[stz]
 have HF:Hid (LibR w more (.returned (.tuple #[.agg EX,.bool true])) wq):=hid ⟨bs,by rw[HEX.out],Ft,(hato.keep0 hT).keep hmq (fun k hk e=>(hFo k hk).2 e),fun k hk=>(hFo k hk).1,(hm0o.trans0 hT).transB hmq (by omega)⟩
 clear hato hS hT hmq hm0o hFo hids hgl hidc;go_wp2
 refine bodyPost_ret (xC (P:=prog) (ty:=48) rfl _ _ b2 _ _ _ _ (by rfl) hBq underlying48 rfl (by rw[hes];kernel_rfl)) rfl ?_;exact HF.out
theorem StoAt.walk{w:World}{bs wd:Nat}{c:BlobL}{Ft:Nat->Prop}(h:StoAt w bs wd c Ft)(hc:c.length<=1000)(di:List UInt8)(hid:di.length=32):Calls prog 20 #[.pointer (some ⟨bs,0,Option.none⟩),.agg (qA di)] w (WalkR w c di):=by
 obtain⟨ms,bl,h1,rfl,_⟩:=h;exact clWalk_any h1 di hid hc
def WalksR(w:World)(c:BlobL)(id:List UInt8)(want:List (List UInt8))(bad:List UInt8)(n:Int):Ending->World->Prop:=fun e w'=>Mod NoB w w'/\∃ids b2 n2,yD c id ids b2 n2/\e=.returned (.bool (decide (ids=want/\b2=bad/\n2=n)))
theorem walks13_any{w:World}{bs wd:Nat}{c:BlobL}{Ft:Nat->Prop}(H:StoAt w bs wd c Ft)(hc:c.length<=1000){di bad:List UInt8}(hid:di.length=32)(hbad:bad.length=32){o:Bool}{G:Nat->Prop}{wv:Value}{want:List (List UInt8)}(hw:Sl o w G 32 IdC wv want)(n:Int):
 Calls prog 29 #[.pointer (some ⟨bs,0,none⟩),.agg (qA di),wv,.agg (qA bad),.int .i64 n] w (WalksR w c di want bad n):=by
 have hic:(qA di).size=32:=by rw[qD,hid]
 have hib:(qA bad).size=32:=by rw[qD,hbad]
 obtain⟨lad,lcap,rfl,-,-⟩:=Sl.at hw;have HW:=Lib.hid hw;clear hw;go_enter func29,ntmps29;go_upto_region 0 with(fail);refine wpR [1,1,3] ?_;simp only[stz]
 refine wpD (zT 24 _ _ (by rfl) (by rfl) (fun w1 hB1 hm1 hs1=>?_));replace hB1:w1.heap[w.heap.size]?=some (.cells (qA di) 24 (0,0)):=hB1;try simp only[nmz]
 refine wpD (zT 24 _ _ (by rfl) (by rfl) (fun w2 hB2 hm2 hs2=>?_));replace hB2:w2.heap[w1.heap.size]?=some (.cells (qA bad) 24 (0,0)):=hB2;simp only[stz]
 have hm02:=hm1.trans0 hm2;have hc1:CellsAt w2 w.heap.size 0 (qA di):=CellsAt.whole (hm2.obj id hB1)
 have hc2:CellsAt w2 w1.heap.size 0 (qA bad):=CellsAt.whole hB2;have hwk:=(H.keep0 hm02).walk hc di hid;generalize hb6:w.heap.size=b6 at*
 generalize hb8:w1.heap.size=b8 at*;clear hm1 hm2 hB1 hB2 hs1 hs2;go_upto_region 1 with(fail);refine wpR [3,1,1,3,3,3,3,1,3,1,3] ?_;simp only[stz]
 refine wpXA 24 b6 0 (qA di) hc1 underlying24 32 hic trivial ?_;try simp only[nmz]
 refine wpD (wpC func20 (hwk) ?_);rintro e w3 ⟨hm3,v,ids,b2,n2,he3,hg3,hout,hb2,h32⟩;subst he3;refine⟨_,rfl,?_⟩;simp only[stz]
 refine qE rfl (fun w'=>qI _ 0 #[v,.agg (qA b2),.int .i64 n2] rfl rfl v rfl) ?_;simp only[nmz]
 refine qE rfl (fun w'=>qI _ 1 #[v,.agg (qA b2),.int .i64 n2] rfl rfl (.agg (qA b2)) rfl) ?_;simp only[nmz]
 refine qE rfl (fun w'=>qI _ 2 #[v,.agg (qA b2),.int .i64 n2] rfl rfl (.int .i64 n2) rfl) ?_;simp only[nmz]
 refine wpD (qP 24 _ (by rfl) idZ (fun w4 hB4 hm4 hs4=>?_));replace hB4:w4.heap[w3.heap.size]?=some (.cells (qA (List.replicate 32 0)) 24 (0,0)):=hB4
 simp only[stz];refine wpDo rfl ?_;have hi2:(qA b2).size=32:=by rw[qD,hb2]
 refine qF 24 _ _ w3.heap.size 0 (qA b2) (by rfl) (by rfl) (by rfl) (qR _) 32 (by kernel_rfl) hi2 _ _ hB4 (by rw[hi2,qD];simp) (fun w5 hB5 hm5=>?_)
 rw[qC (by rw[hi2,qD];simp)]at hB5;simp only[stz];have hi2:(qA b2).size=32:=by rw[qD,hb2]
 have hm35:Mod NoB w3 w5:=hm4.transB hm5 (Nat.le_refl _);have hm25:=hm3.trans0 hm35;have hm05:=hm02.trans0 hm25;have hcb:=hc2.keep hm25 id
 have hc5:CellsAt w5 w3.heap.size 0 (qA b2):=CellsAt.whole hB5;have hids:=slI (hg3.keep0 hm35) h32;have hwn:=HW.out.keep0 hm05
 have hsm:=sameIDs_any _ _ _ _ _ _ _ _ _ hids hwn;obtain⟨r,hr⟩:∃r,decide (ids=want/\b2=bad/\n2=n)=r:=⟨_,rfl⟩
 have HF:∀w',Mod NoB w5 w'->WalksR w c di want bad n (.returned (.bool r)) w':=fun w' hm=>⟨hm05.trans0 hm,ids,b2,n2,hout,by rw[hr]⟩
 generalize hb3:w3.heap.size=b3 at*;clear hwk hm3 hm4 hm5 hm35 hm25 hm05 hm02 hg3 hB4 hB5 hs4 hc1 hc2 hout hids hwn
 by_cases h1:ids=want
 ·rw[decide_eq_true h1]at hsm
  by_cases h2:b2=bad
  ·have HD:Hid (decide (b2=bad)=true):=Lib.hid (decide_eq_true h2)
   by_cases h3:n2=n
   ·have hrt:r=true:=by rw[<-hr];exact decide_eq_true ⟨h1,h2,h3⟩
    subst hrt;clear hr h1 h2;subst h3;go_upto_region 2 with(fail);refine wpR [3,3,1,3,1,1,0,3,3,3,3,3,3,3] ?_;simp only[stz]
    refine wpD (wpCM func24 (hsm) fun w6 hm6=>?_);simp only[stz];refine wpXA 24 b3 0 (qA b2) (hc5.keep hm6 id) underlying24 32 hi2 trivial ?_;try simp only[nmz]
    refine wpXA 24 b8 0 (qA bad) (hcb.keep hm6 id) underlying24 32 hib trivial ?_;try simp only[nmz]
    refine qQ rfl (fun w' hS=>yZ _ _ _ _ rfl _ _ rfl rfl 32 5 underlying24 underlying5 (by kernel_rfl) (by kernel_rfl) hb2 hbad true HD.out) ?_;simp only[stz]
    refine qG _ _ _ _ _ _ _ _ rfl rfl rfl rfl rfl true (by simp[cmpB]) ?_;simp only[stz];have HF:=Lib.hid (HF _ hm6);go_wp2;go_ret;exact HF.out
   ·have hrt:r=false:=by rw[<-hr];exact decide_eq_false (fun h=>h3 h.2.2)
    subst hrt;have hz:¬n2=n:=h3;clear hr h1 h2;go_upto_region 2 with(fail);refine wpR [3,3,1,3,1,1,0,3,3,3,3,3,3,3] ?_;simp only[stz]
    refine wpD (wpCM func24 (hsm) fun w6 hm6=>?_);simp only[stz];refine wpXA 24 b3 0 (qA b2) (hc5.keep hm6 id) underlying24 32 hi2 trivial ?_;try simp only[nmz]
    refine wpXA 24 b8 0 (qA bad) (hcb.keep hm6 id) underlying24 32 hib trivial ?_;try simp only[nmz]
    refine qQ rfl (fun w' hS=>yZ _ _ _ _ rfl _ _ rfl rfl 32 5 underlying24 underlying5 (by kernel_rfl) (by kernel_rfl) hb2 hbad true HD.out) ?_;simp only[stz]
    refine qG _ _ _ _ _ _ _ _ rfl rfl rfl rfl rfl false (by simp[cmpB,hz]) ?_;simp only[stz];have HF:=Lib.hid (HF _ hm6);go_wp2;go_ret;exact HF.out
  ·have HD:Hid (decide (b2=bad)=false):=Lib.hid (decide_eq_false h2)
   have hrt:r=false:=by rw[<-hr];exact decide_eq_false (fun h=>h2 h.2.1)
   subst hrt;clear hr h1 h2;go_upto_region 2 with(fail);refine wpR [3,3,1,3,1,1,0,3,3,3,3,3,3,3] ?_;simp only[stz];refine wpD (wpCM func24 (hsm) fun w6 hm6=>?_)
   simp only[stz];refine wpXA 24 b3 0 (qA b2) (hc5.keep hm6 id) underlying24 32 hi2 trivial ?_;try simp only[nmz]
   refine wpXA 24 b8 0 (qA bad) (hcb.keep hm6 id) underlying24 32 hib trivial ?_;try simp only[nmz]
   refine qQ rfl (fun w' hS=>yZ _ _ _ _ rfl _ _ rfl rfl 32 5 underlying24 underlying5 (by kernel_rfl) (by kernel_rfl) hb2 hbad false HD.out) ?_;simp only[stz]
   have HF:=Lib.hid (HF _ hm6);go_wp2;go_ret;exact HF.out
 ·rw[decide_eq_false h1]at hsm
  have hrt:r=false:=by rw[<-hr];exact decide_eq_false (fun h=>h1 h.1)
  subst hrt;clear hr h1;go_upto_region 2 with(fail);refine wpR [3,3,1,3,0,0,3,3,3,3,3,3,3,3] ?_;simp only[stz];refine wpD (wpCM func24 (hsm) fun w6 hm6=>?_)
  simp only[stz];have HF:=Lib.hid (HF _ hm6);go_wp2;go_ret;exact HF.out
theorem take_app{α:Type}{l:List α}{k:Nat}(h:k<l.length):l.take (k+1)=l.take k++[l[k]]:=by rw[List.take_add_one,List.getElem?_eq_getElem h];rfl
theorem xU{α:Type}{P:Program}{o:Oper}{a:Act}{w:World}{K:Act->World->Prop}{Q:Exit->Act->World->Prop}(enc:α->List Value)(s x:Operand)(t e:TypeId)(z:Value)(k bytes:Nat)(ho:o.op=.call { callee:=.builtin .append,args:=#[s,x],argTypes:=#[t,t] })
 (ht:P.underlying t=some (.slice e))(hi:(P.info? e).map (fun i=>(i.zero,i.size,i.bytes))=some (some z,k,bytes))(hzs:z.cells.size=k)(hk0:0<k)(h1:∀x,∀c∈enc x,c.oneCell'=true)
 (base:Nat)(v:Value)(l:List α)(hs:a.eval s=v)(hown:Gat enc e k base w v l)(u:Value)(m:List α)(hx:a.eval x=u)(hsrc:Src w k u m.length (m.flatMap enc))(h63:l.length+m.length<=maxLen)(hlen:(l.length+m.length)*bytes<=140737488355328)(hbase:base<=w.heap.size)
 (h:∀v' w',Gat enc e k base w' v' (l++m)->Mod (fun q=>v.ownBlock=some q) w w'->(∀g,v'.ownBlock=some g->v.ownBlock=some g\/w.heap.size<=g)->K (a.put o.dst v') w'):o.wp P a w K Q:=by
 refine wp_append s x t e z k bytes ho ht hi hzs hk0 base v l.length _ hs hown u m.length _ hx hsrc (fun c hc=>?_) h63 hlen hbase (fun v' w' ho' hg hv=>?_)
 ·obtain⟨y,_,hy⟩:=List.mem_flatMap.1 hc
  exact h1 y c hy
 ·refine h v' w' ?_ ((Mod.refl _ _).grown hg (fun k e _=>e)) (fun g hg'=>?_)
  ·unfold Gat
   rw[List.length_append,List.flatMap_append];exact ho'
  ·rcases hv with hv|hv
   ·exact .inl (by rw[<-hv];exact hg')
   ·rw[hv]at hg';cases hg';exact .inr (Nat.le_refl _)
def RiseI(l m:List (List UInt8)):Prop:=m.Pairwise (fun x y=>x<y)/\∀x,x∈m↔x∈l
theorem riseI_ins{l out:List (List UInt8)}{x:List UInt8}{j:Nat}(h:RiseI l out)(hj:j<=out.length)(h1:∀p (hp:p<out.length),p<j->out[p]<x)(h2:∀(hp:j<out.length),x<out[j]):RiseI (l++[x]) (out.take j++[x]++out.drop j):=by
 obtain⟨hs,hm⟩:=h;have hpw:=List.pairwise_iff_getElem.1 hs
 have ha:∀y∈out.take j,y<x:=fun y hy=>by
  obtain⟨p,hp,rfl⟩:=List.getElem_of_mem hy;rw[List.length_take]at hp;rw[List.getElem_take];exact h1 p (by omega) (by omega)
 have hb:∀y∈out.drop j,x<y:=fun y hy=>by
  obtain⟨p,hp,rfl⟩:=List.getElem_of_mem hy;rw[List.length_drop]at hp;rw[List.getElem_drop]
  rcases Nat.eq_zero_or_pos p with rfl|hp0
  ·exact h2 (by omega)
  ·exact List.lt_trans (h2 (by omega)) (hpw j (j+p) (by omega) (by omega) (by omega))
 refine⟨?_,fun y=>?_⟩
 ·rw[List.pairwise_append,List.pairwise_append]
  refine⟨⟨hs.sublist (List.take_sublist _ _),List.pairwise_singleton _ _,fun a h3 b h4=>?_⟩,hs.sublist (List.drop_sublist _ _),fun a h3 b h4=>?_⟩
  ·rw[List.mem_singleton.1 h4];exact ha a h3
  ·rcases List.mem_append.1 h3 with h5|h5
   ·exact List.lt_trans (ha a h5) (hb b h4)
   ·rw[List.mem_singleton.1 h5];exact hb b h4
 ·have h3:=hm y
  rw[<-List.take_append_drop j out,List.mem_append]at h3;simp only[List.mem_append,List.mem_singleton];rw[<-h3]
  constructor
  ·rintro((h|h)|h)
   ·exact .inl (.inl h)
   ·exact .inr h
   ·exact .inl (.inr h)
  ·rintro((h|h)|h)
   ·exact .inl (.inl h)
   ·exact .inr h
   ·exact .inl (.inr h)
theorem riseI_old{l out:List (List UInt8)}{x:List UInt8}(h:RiseI l out)(hx:x∈out):RiseI (l++[x]) out:=by
 refine⟨h.1,fun y=>?_⟩;rw[h.2 y,List.mem_append,List.mem_singleton]
 constructor
 ·exact .inl
 ·rintro(h1|rfl)
  ·exact h1
  ·exact(h.2 _).1 hx
theorem flatI_len(l:List (List UInt8)):(l.flatMap idE).length=l.length*32:=by
 induction l with
 |nil=>rfl
 |cons x l ih=>rw[List.flatMap_cons,List.length_append,yX,ih,List.length_cons];omega
theorem flatI_drop(l:List (List UInt8))(i:Nat)(hi:i<=l.length):(l.flatMap idE).drop (i*32)=(l.drop i).flatMap idE:=by
 have h1:=flat_take yX l i hi;have h2:l.flatMap idE=(l.take i).flatMap idE++(l.drop i).flatMap idE:=by rw[<-List.flatMap_append,List.take_append_drop]
 have h3:((l.take i).flatMap idE).length=i*32:=by rw[flatI_len,List.length_take,Nat.min_eq_left hi]
 rw[h2,List.drop_append_of_le_length (by omega),List.drop_eq_nil_of_le (by omega),List.nil_append]
theorem gatI_cap{base:Nat}{w:World}{ad:Option Addr}{cap n:Nat}{out:List (List UInt8)}(h:GatI base w (.slice ad n cap) out):out.length<=cap:=by
 rcases h.2 with⟨h1,h2⟩|⟨g,c,cur,h1,-,-,hc,-⟩
 ·omega
 ·cases h1;exact hc
theorem srcI_drop{base:Nat}{w:World}{ad:Option Addr}{cap j:Nat}{out:List (List UInt8)}(h:GatI base w (.slice ad out.length cap) out)(hj:j<=out.length):Src w 32 (sliced ad j out.length cap 32) (out.drop j).length ((out.drop j).flatMap idE):=by
 have:=(jD h).drop (i:=j) hj (gatI_cap h);rw[flatI_drop _ _ hj]at this;rw[List.length_drop];exact this
theorem gatI_to{base:Nat}{w:World}{ad:Option Addr}{cap j:Nat}{out:List (List UInt8)}(h:GatI base w (.slice ad out.length cap) out)(hj:j<=out.length):GatI base w (sliced ad 0 j cap 32) (out.take j)/\∀q,(sliced ad 0 j cap 32).ownBlock=some q->(Value.slice ad out.length cap).ownBlock=some q:=by
 have hto:=owns_to (i:=j) h hj;refine⟨?_,fun q hq=>by rw[<-hto.2];exact hq⟩;have h1:=hto.1;rw[flat_take yX _ _ hj]at h1
 show w.ownsRow base 24 32 _ (out.take j).length _
 rw[List.length_take,Nat.min_eq_left hj];exact h1
def DscC(cs:Array Value)(d:DescL):Prop:=cs=qB d/\d.id.length=32
def RisRelI(l:List (List UInt8))(w0:World)(v i:Value)(w:World):Prop:=∃(k:Nat)(out:List (List UInt8)),k<=l.length/\i=.int .i64 k/\RiseI (l.take k) out/\out.length<=k/\GatI w0.heap.size w v out/\Mod NoB w0 w
def RisInI(out:List (List UInt8))(x:List UInt8)(w0:World)(i:Value)(w:World):Prop:=∃j:Nat,j<=out.length/\i=.int .i64 j/\(∀p (hp:p<out.length),p<j->out[p]<x)/\Mod NoB w0 w
def RisRI(w:World)(l:List (List UInt8)):Ending->World->Prop:=fun e w'=>∃v ks,e=.returned v/\GatI w.heap.size w' v ks/\RiseI l ks/\Mod NoB w w'
theorem rising13_any{o:Bool}{G:Nat->Prop}{w:World}{v:Value}{D:List DescL}(h:Sl o w G 35 DscC v D)(hlen:D.length<=10000):Calls prog 31 #[v] w (RisRI w (D.map (·.id))):=by
 have HS:=Lib.hid (Sl.inside h (by omega));obtain⟨ad,cap,rfl,hlm,-⟩:=Sl.at h;clear h;obtain⟨l,hl⟩:∃l,D.map (·.id)=l:=⟨_,rfl⟩
 have hll:l.length=D.length:=by rw[<-hl,List.length_map]
 rw[hl];have HL:=Lib.hid hl;clear hl
 have H32:Hid (∀x∈l,x.length=32):=Lib.hid (fun x hx=>by
  rw[<-HL.out]at hx;obtain⟨d,hd,rfl⟩:=List.mem_map.1 hx;obtain⟨i,hi,rfl⟩:=List.getElem_of_mem hd;obtain⟨_,_,hv,-,hat⟩:=Sl.at HS.out
  obtain⟨b1,off1,rfl,-,-,hc⟩:=hat i hi;obtain⟨_,-,⟨_,hid⟩,_⟩:=hc i hi
  exact hid)
 go_enter func31,ntmps31;go_wp2
 go_loopw [3,4] (RisRelI l w) (fun _ i _=>l.length-(intOf i).toNat)
 case atStart=>exact⟨0,[],by omega,rfl,⟨.nil,fun y=>by simp⟩,Nat.le_refl _,Gat.nil _ _ _ _ _,Mod.refl _ _⟩
 case round=>
  rename World=>wr
  obtain⟨k,out,hk,rfl,hrise,hol,hg,hm⟩:=hrel;obtain⟨ad3,cap3,rfl⟩:=hg.slice
  have h32:∀y∈out,y.length=32:=fun y hy=>H32.out y (List.mem_of_mem_take ((hrise.2 y).1 hy));have HG:=Lib.hid hg;have HR:=Lib.hid hrise;clear hg hrise
  by_cases hlt:k<D.length
  ·have hz:(k:Int)<(D.length:Int):=by omega
   have hltl:k<l.length:=by omega
   have HTK:=Lib.hid (take_app hltl);obtain⟨_,_,hv,-,hat⟩:=Sl.at (Sl.keep0 HS.out hm)
   cases hv
   obtain⟨b1,off1,rfl,hgb,-,hc⟩:=hat k hlt;obtain⟨_,-,⟨rfl,hx32⟩,hc⟩:=hc k hlt
   have hkx:CellsAt wr b1 (off1+k*35+1) (qA D[k].id):=fun j hj=>by
    have h1:(qB D[k]).size=35:=qO hx32;have h2:(qA D[k].id).size=32:=by rw[qD,hx32]
    rw[Nat.add_assoc,hc (1+j) (by omega)];exact descRow_at1 j hj
   obtain⟨x,hx⟩:∃x,D[k].id=x:=⟨_,rfl⟩;have hxl:l[k]=x:=by rw[<-hx];simp only[<-HL.out,List.getElem_map]
   rw[hx]at hkx hx32;rw[hxl]at HTK;have hxc:(qA x).size=32:=by rw[qD,hx32]
   have hnb:¬w.heap.size<=b1:=Nat.not_le.2 hgb;clear hat hc hx hgb hxl;go_wp2
   go_loopw [5] (RisInI out x wr) (fun i _=>out.length-(intOf i).toNat)
   case atStart=>exact⟨0,by omega,rfl,fun p _ h=>by omega,Mod.refl _ _⟩
   case round=>
    rename World=>w8
    obtain⟨j,hj,rfl,hall,hm8⟩:=hrel;have HALL:=Lib.hid hall;clear hall;have hM8:=hm.trans0 hm8;have HG8:=Lib.hid (HG.out.keep0 hm8);have hkx8:=hkx.keep hm8 id
    by_cases hjl:j<out.length
    ·have hzj:(j:Int)<(out.length:Int):=by omega
     have hnj:¬(j:Int)=(out.length:Int):=by omega
     obtain⟨_,_,hv,-,hat⟩:=Sl.at (slI HG8.out h32)
     cases hv
     obtain⟨b3,off3,rfl,-,-,hc⟩:=hat j hjl;obtain⟨_,-,⟨rfl,hy32⟩,hky⟩:=hc j hjl
     have HNX:=Lib.hid (fun(h:out[j]<x) p (hp:p<out.length)(h1:p<j+1)=>show out[p]<x by
      rcases Nat.lt_or_ge p j with h2|h2
      ·exact HALL.out p hp h2
      ·obtain rfl:p=j:=by omega
       exact h)
     have HMEM:=Lib.hid (show out[j]∈out from List.getElem_mem hjl)
     have HTRI:=Lib.hid (fun(h1:¬out[j]<x)(h2:out[j]≠x)=>show ∀(hp:j<out.length),x<out[j]from fun _=>by
      rcases ltB_tri out[j] x with h3|h3|h3
      ·exact absurd h3 h1
      ·exact absurd h3 h2
      ·exact h3)
     have HINS:=Lib.hid (fun h2=>riseI_ins (x:=x) HR.out hj HALL.out h2);obtain⟨y,hy⟩:∃x,out[j]=x:=⟨_,rfl⟩;rw[hy]at hky HNX HMEM HTRI hy32
     have hyc:(qA y).size=32:=by rw[qD,hy32]
     clear hat hc;have hneg:=cmpI_neg y x;obtain⟨c,hcc⟩:∃c,cmpI y x=c:=⟨_,rfl⟩;have hsc:=fun w'=>shaCompare_any y x hy32 hx32 w';rw[hcc]at hneg
     simp only[hcc]at hsc;go_upto_region 6 with(fail);have hS:Mod NoB w8 w8.drew:=(Mod.refl _ _).drew
     by_cases hlss:y<x
     ·have hc0:c<0:=hneg.2 hlss
      have HN:=Lib.hid (HNX.out hlss);clear HTRI HINS HNX hlss hy hneg hcc;refine wpRZ [3,3,3,3,3,3,3,3,0,3,3,3,3,0,1,3,3] [] (fun w'=>Mod NoB w8 w') hS ?_
      simp only[stz];refine wpPL ?_;simp only[nmz];refine qG _ _ _ _ _ _ _ _ rfl rfl rfl rfl rfl true (decide_eq_true hzj) ?_;simp only[stz]
      refine wpPI underlying25 32 hjl ?_;simp only[nmz];refine wpLA 24 b3 (off3+j*32) (qA y) (fun w' hS=>hky.keep hS id) underlying24 32 hyc ?_;simp only[stz]
      refine wpPI underlying161 35 hlt ?_;simp only[stz];refine wpLA 24 b1 (off1+k*35+1) (qA x) (fun w' hS=>hkx8.keep hS id) underlying24 32 hxc ?_;simp only[nmz]
      refine qM rfl (fun K hK=>?_);refine wpC func35 (hsc _) ?_;rintro e we ⟨rfl,hg2⟩;have hS2:=hS.trans0 hg2.mod;refine⟨_,rfl,hK _ _ hS2 ?_⟩;clear hK K
      try simp only[nmz]
      refine qG _ _ _ _ _ _ _ _ rfl rfl rfl rfl rfl true (decide_eq_true hc0) ?_;simp only[stz];clear hc0;go_wp2
      go_roundw
      case rel=>exact⟨j+1,by omega,by go_num,HN.out,hm8.trans0 hS2⟩
      case measure=>simp[intOf];omega
     ·have hc0:¬c<0:=fun h=>hlss (hneg.1 h)
      have HT2:=Lib.hid (HTRI.out hlss);clear HTRI HNX hlss hneg hcc;refine wpRZ [3,3,3,3,3,3,3,3,0,3,3,3,3,0,1,3,3] [] (fun w'=>Mod NoB w8 w') hS ?_
      simp only[stz];refine wpPL ?_;simp only[nmz];refine qG _ _ _ _ _ _ _ _ rfl rfl rfl rfl rfl true (decide_eq_true hzj) ?_;simp only[stz]
      refine wpPI underlying25 32 hjl ?_;simp only[nmz];refine wpLA 24 b3 (off3+j*32) (qA y) (fun w' hS=>hky.keep hS id) underlying24 32 hyc ?_;simp only[stz]
      refine wpPI underlying161 35 hlt ?_;simp only[stz];refine wpLA 24 b1 (off1+k*35+1) (qA x) (fun w' hS=>hkx8.keep hS id) underlying24 32 hxc ?_;simp only[nmz]
      refine qM rfl (fun K hK=>?_);refine wpC func35 (hsc _) ?_;rintro e we ⟨rfl,hg2⟩;have hS2:=hS.trans0 hg2.mod;refine⟨_,rfl,hK _ _ hS2 ?_⟩;clear hK K
      try simp only[nmz]
      refine qG _ _ _ _ _ _ _ _ rfl rfl rfl rfl rfl false (decide_eq_false hc0) ?_;simp only[stz];clear hc0;replace hM8:=hM8.trans0 hS2
      replace HG8:=Lib.hid (HG8.out.keep0 hS2);replace hkx8:=hkx8.keep hS2 id;replace hky:=hky.keep hS2 id;clear hS hS2 hg2 hm8 hkx hm;go_upto_region 8 with(fail)
      have hS:Mod NoB we we.drew:=(Mod.refl _ _).drew
      by_cases hyx:y=x
      ·have HOLD:=Lib.hid (show RiseI (l.take (k+1)) out by rw[HTK.out];exact riseI_old HR.out (by rw[<-hyx];exact HMEM.out))
       clear HT2 HINS HMEM hy;refine wpRZ [3,3,3,3,3,3,3,3,0,3,3,3,3,0,0,3] [] (fun w'=>Mod NoB we w') hS ?_;simp only[stz];refine wpPL ?_;simp only[nmz]
       refine qG _ _ _ _ _ _ _ _ rfl rfl rfl rfl rfl false (decide_eq_false hnj) ?_;simp only[stz];refine wpPI underlying25 32 hjl ?_;simp only[nmz]
       refine wpLA 24 b3 (off3+j*32) (qA y) (fun w' hS=>hky.keep hS id) underlying24 32 hyc ?_;simp only[stz];refine wpPI underlying161 35 hlt ?_;simp only[stz]
       refine wpLA 24 b1 (off1+k*35+1) (qA x) (fun w' hS=>hkx8.keep hS id) underlying24 32 hxc ?_;simp only[nmz]
       refine qQ rfl (fun w' hS=>exec_neq_id _ _ _ _ rfl _ _ rfl rfl 32 5 underlying24 underlying5 (by kernel_rfl) (by kernel_rfl) hy32 hx32 false (by simp[hyx])) ?_
       simp only[stz];have hMx:=hM8.trans0 hS;have hgx:=HG8.out.keep0 hS;clear hS hM8 HG8 hyx;go_wp2
       go_roundw
       case rel=>exact⟨k+1,out,by omega,by go_num,HOLD.out,by omega,hgx,hMx⟩
       case measure=>simp[intOf];omega
      ·have hins:RiseI (l.take (k+1)) (out.take j++[x]++out.drop j):=by rw[HTK.out];exact HINS.out (HT2.out hyx)
       clear HT2 HINS HMEM hy;refine wpRZ [3,3,3,3,3,3,3,3,0,3,3,3,3,0,0,3] [] (fun w'=>Mod NoB we w') hS ?_;simp only[stz];refine wpPL ?_;simp only[nmz]
       refine qG _ _ _ _ _ _ _ _ rfl rfl rfl rfl rfl false (decide_eq_false hnj) ?_;simp only[stz];refine wpPI underlying25 32 hjl ?_;simp only[nmz]
       refine wpLA 24 b3 (off3+j*32) (qA y) (fun w' hS=>hky.keep hS id) underlying24 32 hyc ?_;simp only[stz];refine wpPI underlying161 35 hlt ?_;simp only[stz]
       refine wpLA 24 b1 (off1+k*35+1) (qA x) (fun w' hS=>hkx8.keep hS id) underlying24 32 hxc ?_;simp only[nmz]
       refine qQ rfl (fun w' hS=>exec_neq_id _ _ _ _ rfl _ _ rfl rfl 32 5 underlying24 underlying5 (by kernel_rfl) (by kernel_rfl) hy32 hx32 true (by simp[hyx])) ?_
       simp only[stz];replace hM8:=hM8.trans0 hS;replace HG8:=Lib.hid (HG8.out.keep0 hS);replace hkx8:=hkx8.keep hS id;clear hS hyx hky;generalize we.drew=wi at*
       have hjle:j<=out.length:=by omega
       have hcap:=gatI_cap HG8.out;have hsz8:=hM8.size;go_upto_region 9 with(fail);refine wpR [1,3,3,3,1,3] ?_;simp only[stz]
       refine wpD (zG 25 24 (by rfl) underlying25 (by kernel_rfl) (fun w9 hB9 hm9 hs9=>?_));simp only[stz]
       refine yA 25 24 _ _ _ _ _ j 32 rfl rfl rfl rfl underlying25 (by kernel_rfl) hjle ?_;simp only[nmz]
       refine wpD (xU idE _ _ 25 24 (.agg (qA (List.replicate 32 0))) 32 32 (by rfl) underlying25 id_i (by kernel_rfl) (by omega) xE wi.heap.size _ [] (by rfl) (xH _ hB9 (Nat.le_refl _)) _ (out.drop j) (by rfl) (srcI_drop (HG8.out.keep0 hm9) hjle) (by simp only[List.length_nil,List.length_drop];unfold maxLen;omega) (by simp only[List.length_nil,List.length_drop];omega) hm9.size (fun v10 w10 hg10 hm10 hn10=>?_))
       have hM10:Mod NoB wi w10:=hm9.trans hm10 (fun k hk e=>by
        have e':some wi.heap.size=some k:=e
        cases e';omega)
       simp only[stz];rw[List.nil_append]at hg10;have HG10:=Lib.hid hg10;have HGX:=Lib.hid (HG8.out.keep0 hM10);have hsz10:=hM10.size
       have hown:∀q,(Value.slice (some ⟨b3,off3,none⟩) out.length cap3).ownBlock=some q->q<wi.heap.size:=fun q hq=>(HG8.out.lt hq).2
       have hkx':=hkx8.keep hM10 id;clear hg10 hm9 hm10 hn10 hB9;go_upto_region 10 with(fail);have hT:Mod NoB w10 w10.drew:=(Mod.refl _ _).drew
       have hS:Mod (fun q=>w.heap.size<=q) w10 w10.drew:=(Mod.refl _ _).drew;have hto:=gatI_to (HGX.out.keep0 hT) hjle
       refine wpRP [(0,3),(1,3),(2,3),(3,3),(4,3),(5,3),(6,3),(7,0),(10,3),(8,1),(9,1),(11,1),(12,3)] [] (fun w'=>Mod (fun q=>w.heap.size<=q) w10 w') hS ?_
       simp only[stz];refine yK 25 24 _ _ _ _ _ j 32 rfl rfl rfl rfl underlying25 (by kernel_rfl) (by omega) ?_;simp only[stz];refine wpPI underlying161 35 hlt ?_
       simp only[stz];refine wpLA 24 b1 (off1+k*35+1) (qA x) (fun w' hS=>hkx'.keep hS hnb) underlying24 32 hxc ?_;simp only[stz]
       refine qM rfl (fun K hK=>?_)
       refine qU 25 24 _ (.agg (qA x)) (.agg (qA (List.replicate 32 0))) 32 (by rfl) (by rfl) underlying25 (by kernel_rfl) (by omega) (by omega) hxc (fun w11 hB11 hm11 hs11=>?_)
       replace hB11:w11.heap[w10.heap.size]?=some (.cells (idE x).toArray 24 (0,0)):=by rw[idE_eq hx32];exact hB11
       replace hT:=hT.trans0 hm11;refine hK _ _ (hT.mono fun _ _ h=>h.elim) ?_;clear hK K;try simp only[nmz]
       refine qM rfl (fun K hK=>?_)
       refine wp_gat idE _ _ 25 24 (.agg (qA (List.replicate 32 0))) 32 32 (by rfl) underlying25 id_i (by kernel_rfl) (by omega) xE w.heap.size _ _ (by rfl) (hto.1.keep0 hm11) (.slice (some ⟨w10.heap.size,0,none⟩) 1 1) [x] (by rfl) (jM (enc:=idE) (x:=x) (e:=24) yX hB11) (by simp only[List.length_singleton,List.length_take];unfold maxLen;omega) (by simp only[List.length_singleton,List.length_take];omega) (by have:=hT.size;omega) (fun v12 w12 hg12 hm12=>?_)
       have hr12:=(HG10.out.keep0 hT).keep hm12 (fun q h1 h2=>by
        have h3:=(HG10.out.lt h1).1;have h4:=hown q (hto.2 q h2)
        omega)
       have hT12:Mod (fun q=>w.heap.size<=q) w10 w12:=(hT.mono fun _ _ h=>h.elim).trans hm12 (fun q hq e=>(HGX.out.lt (hto.2 q e)).1);refine hK _ _ hT12 ?_;clear hK K
       try simp only[nmz]
       refine qM rfl (fun K hK=>?_)
       refine wp_gat idE _ _ 25 24 (.agg (qA (List.replicate 32 0))) 32 32 (by rfl) underlying25 id_i (by kernel_rfl) (by omega) xE w.heap.size _ _ (by rfl) hg12 v10 (out.drop j) (by rfl) hr12.src (by simp only[List.length_append,List.length_singleton,List.length_take,List.length_drop];unfold maxLen;omega) (by simp only[List.length_append,List.length_singleton,List.length_take,List.length_drop];omega) (by have:=hT12.size;omega) (fun v13 w13 hg13 hm13=>?_)
       have hT13:Mod (fun q=>w.heap.size<=q) w10 w13:=hT12.trans hm13 (fun q hq e=>(hg12.lt e).1);refine hK _ _ hT13 ?_;clear hK K;simp only[stz]
       have hMr:Mod NoB w w13:=(hM8.trans0 hM10).trans hT13 (fun q hq e=>by have e':w.heap.size<=q:=e;omega)
       generalize sliced (some ⟨b3,off3,none⟩) 0 j cap3 32=sl1;generalize sliced (some ⟨b3,off3,none⟩) j out.length cap3 32=sl2
       have hlen':(out.take j++[x]++out.drop j).length<=k+1:=by simp only[List.length_append,List.length_singleton,List.length_take,List.length_drop];omega
       have HINS:=Lib.hid hins;clear hT hS hm11 hm12 hm13 hT12 hT13 hM8 hM10 hB11 hto hr12 hg12 HG10 HGX HG8 hown hins;go_wp2
       go_roundw
       case rel=>exact⟨k+1,_,by omega,by go_num,HINS.out,hlen',hg13,hMr⟩
       case measure=>simp[intOf];omega
    ·have hzj:¬(j:Int)<(out.length:Int):=by omega
     have hnj:(j:Int)=(out.length:Int):=by omega
     go_upto_region 6 with(fail);have hS:Mod NoB w8 w8.drew:=(Mod.refl _ _).drew
     refine wpRZ [3,3,3,3,3,3,3,3,0,3,3,3,3,0,1,3,3] [] (fun w'=>Mod NoB w8 w') hS ?_;simp only[stz];refine wpPL ?_;simp only[nmz]
     refine qG _ _ _ _ _ _ _ _ rfl rfl rfl rfl rfl false (decide_eq_false hzj) ?_;simp only[stz];refine xF rfl hS ?_;simp only[stz]
     have hins:RiseI (l.take (k+1)) (out.take j++[x]++out.drop j):=by rw[HTK.out];exact riseI_ins HR.out hj HALL.out (fun h=>absurd h hjl)
     replace hM8:=hM8.trans0 hS;replace HG8:=Lib.hid (HG8.out.keep0 hS);replace hkx8:=hkx8.keep hS id;clear hS hm8 hkx hm HALL;generalize w8.drew=we at*
     go_upto_region 8 with(fail);have hS:Mod NoB we we.drew:=(Mod.refl _ _).drew
     refine wpRZ [3,3,3,3,3,3,3,3,0,3,3,3,3,0,3,3] [] (fun w'=>Mod NoB we w') hS ?_;simp only[stz];refine wpPL ?_;simp only[nmz]
     refine qG _ _ _ _ _ _ _ _ rfl rfl rfl rfl rfl true (decide_eq_true hnj) ?_;simp only[stz];replace hM8:=hM8.trans0 hS;replace HG8:=Lib.hid (HG8.out.keep0 hS)
     replace hkx8:=hkx8.keep hS id;clear hS;generalize we.drew=wi at*;have hjle:j<=out.length:=by omega
     have hcap:=gatI_cap HG8.out;have hsz8:=hM8.size;go_upto_region 9 with(fail);refine wpR [1,3,3,3,1,3] ?_;simp only[stz]
     refine wpD (zG 25 24 (by rfl) underlying25 (by kernel_rfl) (fun w9 hB9 hm9 hs9=>?_));simp only[stz]
     refine yA 25 24 _ _ _ _ _ j 32 rfl rfl rfl rfl underlying25 (by kernel_rfl) hjle ?_;simp only[nmz]
     refine wpD (xU idE _ _ 25 24 (.agg (qA (List.replicate 32 0))) 32 32 (by rfl) underlying25 id_i (by kernel_rfl) (by omega) xE wi.heap.size _ [] (by rfl) (xH _ hB9 (Nat.le_refl _)) _ (out.drop j) (by rfl) (srcI_drop (HG8.out.keep0 hm9) hjle) (by simp only[List.length_nil,List.length_drop];unfold maxLen;omega) (by simp only[List.length_nil,List.length_drop];omega) hm9.size (fun v10 w10 hg10 hm10 hn10=>?_))
     have hM10:Mod NoB wi w10:=hm9.trans hm10 (fun k hk e=>by
      have e':some wi.heap.size=some k:=e
      cases e';omega)
     simp only[stz];rw[List.nil_append]at hg10;have HG10:=Lib.hid hg10;have HGX:=Lib.hid (HG8.out.keep0 hM10);have hsz10:=hM10.size
     have hown:∀q,(Value.slice ad3 out.length cap3).ownBlock=some q->q<wi.heap.size:=fun q hq=>(HG8.out.lt hq).2;have hkx':=hkx8.keep hM10 id
     clear hg10 hm9 hm10 hn10 hB9;go_upto_region 10 with(fail);have hT:Mod NoB w10 w10.drew:=(Mod.refl _ _).drew
     have hS:Mod (fun q=>w.heap.size<=q) w10 w10.drew:=(Mod.refl _ _).drew;have hto:=gatI_to (HGX.out.keep0 hT) hjle
     refine wpRP [(0,3),(1,3),(2,3),(3,3),(4,3),(5,3),(6,3),(7,0),(10,3),(8,1),(9,1),(11,1),(12,3)] [] (fun w'=>Mod (fun q=>w.heap.size<=q) w10 w') hS ?_
     simp only[stz];refine yK 25 24 _ _ _ _ _ j 32 rfl rfl rfl rfl underlying25 (by kernel_rfl) (by omega) ?_;simp only[stz];refine wpPI underlying161 35 hlt ?_
     simp only[stz];refine wpLA 24 b1 (off1+k*35+1) (qA x) (fun w' hS=>hkx'.keep hS hnb) underlying24 32 hxc ?_;simp only[stz];refine qM rfl (fun K hK=>?_)
     refine qU 25 24 _ (.agg (qA x)) (.agg (qA (List.replicate 32 0))) 32 (by rfl) (by rfl) underlying25 (by kernel_rfl) (by omega) (by omega) hxc (fun w11 hB11 hm11 hs11=>?_)
     replace hB11:w11.heap[w10.heap.size]?=some (.cells (idE x).toArray 24 (0,0)):=by rw[idE_eq hx32];exact hB11
     replace hT:=hT.trans0 hm11;refine hK _ _ (hT.mono fun _ _ h=>h.elim) ?_;clear hK K;try simp only[nmz]
     refine qM rfl (fun K hK=>?_)
     refine wp_gat idE _ _ 25 24 (.agg (qA (List.replicate 32 0))) 32 32 (by rfl) underlying25 id_i (by kernel_rfl) (by omega) xE w.heap.size _ _ (by rfl) (hto.1.keep0 hm11) (.slice (some ⟨w10.heap.size,0,none⟩) 1 1) [x] (by rfl) (jM (enc:=idE) (x:=x) (e:=24) yX hB11) (by simp only[List.length_singleton,List.length_take];unfold maxLen;omega) (by simp only[List.length_singleton,List.length_take];omega) (by have:=hT.size;omega) (fun v12 w12 hg12 hm12=>?_)
     have hr12:=(HG10.out.keep0 hT).keep hm12 (fun q h1 h2=>by
      have h3:=(HG10.out.lt h1).1;have h4:=hown q (hto.2 q h2)
      omega)
     have hT12:Mod (fun q=>w.heap.size<=q) w10 w12:=(hT.mono fun _ _ h=>h.elim).trans hm12 (fun q hq e=>(HGX.out.lt (hto.2 q e)).1);refine hK _ _ hT12 ?_;clear hK K
     try simp only[nmz]
     refine qM rfl (fun K hK=>?_)
     refine wp_gat idE _ _ 25 24 (.agg (qA (List.replicate 32 0))) 32 32 (by rfl) underlying25 id_i (by kernel_rfl) (by omega) xE w.heap.size _ _ (by rfl) hg12 v10 (out.drop j) (by rfl) hr12.src (by simp only[List.length_append,List.length_singleton,List.length_take,List.length_drop];unfold maxLen;omega) (by simp only[List.length_append,List.length_singleton,List.length_take,List.length_drop];omega) (by have:=hT12.size;omega) (fun v13 w13 hg13 hm13=>?_)
     have hT13:Mod (fun q=>w.heap.size<=q) w10 w13:=hT12.trans hm13 (fun q hq e=>(hg12.lt e).1);refine hK _ _ hT13 ?_;clear hK K;simp only[stz]
     have hMr:Mod NoB w w13:=(hM8.trans0 hM10).trans hT13 (fun q hq e=>by have e':w.heap.size<=q:=e;omega);generalize sliced ad3 0 j cap3 32=sl1
     generalize sliced ad3 j out.length cap3 32=sl2
     have hlen':(out.take j++[x]++out.drop j).length<=k+1:=by simp only[List.length_append,List.length_singleton,List.length_take,List.length_drop];omega
     have HINS:=Lib.hid hins;clear hT hS hm11 hm12 hm13 hT12 hT13 hM8 hM10 hB11 hto hr12 hg12 HG10 HGX HG8 hown hins;go_wp2
     go_roundw
     case rel=>exact⟨k+1,_,by omega,by go_num,HINS.out,hlen',hg13,hMr⟩
     case measure=>simp[intOf];omega
  ·have hz:¬(k:Int)<(D.length:Int):=by omega
   obtain rfl:k=l.length:=by omega
   rw[List.take_length]at HR;go_wp2;go_ret;exact⟨_,out,rfl,HG.out,HR.out,hm⟩
theorem sorted_ext:∀{l m:List (List UInt8)},l.Pairwise (fun a b=>a<b)->m.Pairwise (fun a b=>a<b)->(∀x,x∈l↔x∈m)->l=m
 | [],[],_,_,_=>rfl
 | [],y::m,_,_,h=>by have:=(h y).2 List.mem_cons_self;cases this
 |x::l,[],_,_,h=>by have:=(h x).1 List.mem_cons_self;cases this
 |x::l,y::m,hl,hm,h=>by
  obtain⟨h1,h2⟩:=List.pairwise_cons.1 hl;obtain⟨h3,h4⟩:=List.pairwise_cons.1 hm
  have e:x=y:=by
   rcases List.mem_cons.1 ((h x).1 List.mem_cons_self)with e|e
   ·exact e
   ·rcases List.mem_cons.1 ((h y).2 List.mem_cons_self)with e2|e2
    ·exact e2.symm
    ·exact absurd (List.lt_trans (h3 _ e) (h1 _ e2)) (List.lt_irrefl y)
  subst e;rw[sorted_ext h2 h4 (fun z=>⟨fun hz=>?_,fun hz=>?_⟩)]
  ·rcases List.mem_cons.1 ((h z).1 (List.mem_cons_of_mem _ hz))with e|e
   ·exact absurd (e▸h1 _ hz) (List.lt_irrefl _)
   ·exact e
  ·rcases List.mem_cons.1 ((h z).2 (List.mem_cons_of_mem _ hz))with e|e
   ·exact absurd (e▸h3 _ hz) (List.lt_irrefl _)
   ·exact e
theorem walk_whole{c:BlobM}{id bad:List UInt8}{l ks ids:List (List UInt8)}{n:Int}(h1:(walkL c 5 (thgI id)).2.isNone=true)(h2:(walkM (walkL c 5 (thgI id)).1).length<=256)
 (h3:∀x∈(walkM (walkL c 5 (thgI id)).1).map (·.1),x∈l)(h4:∀x∈l,x∈(walkM (walkL c 5 (thgI id)).1).map (·.1))(hr:RiseI l ks)(ho:yD c id ids bad n):ids=ks/\bad=zeros32/\n=0:=by
 unfold yD at ho;rw[Option.isNone_iff_eq_none.1 h1]at ho;simp only at ho;rw[if_neg (by omega)]at ho;obtain⟨⟨hs,hp⟩,hb,hn⟩:=ho
 exact⟨sorted_ext hs hr.1 fun x=>by rw[hp.mem_iff,hr.2 x];exact⟨h3 x,h4 x⟩,hb,hn⟩
theorem walk_wrong{c:BlobM}{id bad:List UInt8}{ids:List (List UInt8)}{n:Int}{e:List UInt8×Int}(h1:(walkL c 5 (thgI id)).2=some e)(ho:yD c id ids bad n):ids=[]/\bad=e.1/\n=e.2:=by
 unfold yD at ho;rw[h1]at ho;exact ho
def c0:BlobL:=cOf 32 (libL 0)
theorem walk0_M:(walkL c0 5 (thgI dM.id)).2.isNone=true/\(walkM (walkL c0 5 (thgI dM.id)).1).length<=256/\(∀x∈(walkM (walkL c0 5 (thgI dM.id)).1).map (·.1),x∈[dC.id,dL.id,dM.id])/\∀x∈[dC.id,dL.id,dM.id],x∈(walkM (walkL c0 5 (thgI dM.id)).1).map (·.1):=by decide+kernel
theorem walk0_X:(walkL c0 5 (thgI (dX 0).id)).2.isNone=true/\(walkM (walkL c0 5 (thgI (dX 0).id)).1).length<=256/\(∀x∈(walkM (walkL c0 5 (thgI (dX 0).id)).1).map (·.1),x∈[dC.id,dL.id,dM.id,(dX 0).id])/\∀x∈[dC.id,dL.id,dM.id,(dX 0).id],x∈(walkM (walkL c0 5 (thgI (dX 0).id)).1).map (·.1):=by decide+kernel
theorem walk0_L:(walkL c0 5 (thgI dL.id)).2=some (dL.id,5):=by decide+kernel
end
section
open Go.RowKit Go.Proofs.Tryz Go.Lib
attribute [local irreducible] shaL ofI
end
section
open Go.RowKit Go.Proofs.Tryz Go.Lib
theorem descsOf_same{c c':BlobM}{id:List UInt8}(h:getL id c=getL id c'):xL c id=xL c' id:=by unfold xL;rw[h]
theorem walkDs_same{g g':DescL->List Thg×Option WErr}:∀{ds:List DescL},(∀d∈ds,g d=g' d)->zZ g ds=zZ g' ds
 | [],_=>rfl
 |d::ds,h=>by rw[zZ,zZ,h d (by simp),walkDs_same fun d hd=>h d (by simp[hd])]
theorem walk_same{c c':BlobM}:∀(f:Nat)(t:Thg),(∀y,(if treeT t=true then inR c f t.d.id t.depth y else y=t.d.id)->getL y c=getL y c')->walkL c f t=walkL c' f t
 |0,_,_=>rfl
 |f+1,t,h=>by
  have hid:getL t.d.id c=getL t.d.id c':=h _ (by split;exact .inl rfl;rfl);unfold walkL;rw[<-hid]
  cases hg:getL t.d.id c with
  |none=>rfl
  |some b=>
   dsimp only
   by_cases h1:(t.first||decide (b.length=t.d.size))=false
   ·rw[if_pos h1,if_pos h1]
   rw[if_neg h1,if_neg h1]
   by_cases h2:treeT t=false
   ·rw[if_pos h2,if_pos h2]
   rw[if_neg h2,if_neg h2]
   by_cases h3:4<t.depth
   ·rw[if_pos h3,if_pos h3]
   rw[if_neg h3,if_neg h3]
   cases hd:decL b with
   |none=>rfl
   |some m=>
    dsimp only
    have ht:treeT t=true:=by simpa using h2
    have he:zZ (fun d=>walkL c f ⟨d,t.depth+1,false⟩) (zE m)=zZ (fun d=>walkL c' f ⟨d,t.depth+1,false⟩) (zE m):=walkDs_same fun d hm=>walk_same f _ fun y hy=>h y (by
     rw[if_pos ht];refine .inr ⟨by omega,zE m,by unfold xL;rw[hg];show(decL b).map zE=_;rw[hd];rfl,d,hm,?_⟩
     have e:treeT ⟨d,t.depth+1,false⟩=xK d:=rfl;rw[e]at hy
     exact hy)
    rw[he]
theorem walkOut_same{c c':BlobM}{id:List UInt8}(h:∀y,inR c 5 id 1 y->getL y c=getL y c'){ids ids':List (List UInt8)}{bad bad':List UInt8}{n n':Int}(h1:yD c id ids bad n)(h2:yD c' id ids' bad' n'):ids=ids'/\bad=bad'/\n=n':=by
 have e:=walk_same (c:=c) (c':=c') 5 (thgI id) fun y hy=>h y hy;unfold yD at h1 h2;rw[<-e]at h2
 cases hx:(walkL c 5 (thgI id)).2 with
 |some e=>
  rw[hx]at h1 h2;obtain⟨rfl,rfl,rfl⟩:=h1;obtain⟨rfl,rfl,rfl⟩:=h2;exact⟨rfl,rfl,rfl⟩
 |none=>
  rw[hx]at h1 h2
  dsimp only at h1 h2
  split at h1
  ·rename_i hg
   rw[if_pos hg]at h2;obtain⟨rfl,rfl,rfl⟩:=h1;obtain⟨rfl,rfl,rfl⟩:=h2;exact⟨rfl,rfl,rfl⟩
  ·rename_i hg
   rw[if_neg hg]at h2;obtain⟨⟨a1,a2⟩,rfl,rfl⟩:=h1;obtain⟨⟨b1,b2⟩,rfl,rfl⟩:=h2;exact⟨sorted_ext a1 b1 fun x=>by rw[a2.mem_iff,b2.mem_iff],rfl,rfl⟩
structure LeftOf(c:BlobL)(l:LinkL)(marks gone:List (List UInt8))(s:SwS):Prop where
 nd:(s.1.map (·.1)).Nodup
 get:∀x,getL x s.1=if x∈gone then none else getL x c
 lk:s.2.1=l.filter (fun p=> !decide (p.1.2∈gone))
 len:s.1.length+gone.length=c.length
 used:usedL s.1+s.2.2.1=usedL c
 sum:s.2.2.2=(gone.map (forgetN l)).sum
 gnd:gone.Nodup
 mem:∀x,x∈gone↔(getL x c).isSome=true/\x∉marks
section
variable{c:BlobL}{l:LinkL}{marks gone:List (List UInt8)}{s:SwS}(H:LeftOf c l marks gone s)
include H
end
end
section
open Go.Proofs.Tryz Go.Lib
def idsT(l:List Thg):List (List UInt8):=l.map (·.d.id)
theorem walkL_eq(c:BlobM)(f:Nat)(t:Thg):walkL c (f+1) t=match getL t.d.id c with
 |none=>([],some (t.d.id,14))
 |some b=>
  if(t.first||decide (b.length=t.d.size))=false then([],some (t.d.id,17))
  else if treeT t=false then(if(decide (t.d.media=1)||decide (t.d.media=2))=false then([],some (t.d.id,20))else([t],none))
  else if 4<t.depth then([],some (t.d.id,18))
  else match decL b with
   |none=>([],some (t.d.id,5))
   |some m=>
    if(t.first||decide (m.kind=t.d.media))=false then([],some (t.d.id,20))
    else(t::(zZ (fun d=>walkL c f ⟨d,t.depth+1,false⟩) (zE m)).1,(zZ (fun d=>walkL c f ⟨d,t.depth+1,false⟩) (zE m)).2):=rfl
structure OkW(c:BlobM)(id:List UInt8)(ids:List (List UInt8)):Prop where
 fine:(walkL c 5 (thgI id)).2=none
 sort:ids.Pairwise (fun a b=>a<b)
 mem:∀x,x∈ids↔x∈idsT (walkL c 5 (thgI id)).1
 few:ids.length<=256
section
variable{c:BlobM}{id:List UInt8}{ids:List (List UInt8)}(H:OkW c id ids)
include H
end
def inL(c:BlobM):Nat->List UInt8->Nat->List (List UInt8)
 |0,_,_=>[]
 |f+1,id,depth=>id::(if 4<depth then []else match xL c id with
  |none=>[]
  |some ds=>ds.flatMap fun d=>if xK d then inL c f d.id (depth+1)else [d.id])
theorem inL_mem(c:BlobM):∀(f:Nat)(id:List UInt8)(depth:Nat)(x:List UInt8),x∈inL c f id depth↔inR c f id depth x
 |0,_,_,_=>by simp[inL,inR]
 |f+1,id,depth,x=>by
  unfold inL inR;rw[List.mem_cons];refine or_congr Iff.rfl ?_
  by_cases h4:4<depth
  ·rw[if_pos h4]
   exact⟨fun h=>(by cases h),fun h=>by omega⟩
  ·rw[if_neg h4]
   cases hd:xL c id with
   |none=>
    dsimp only
    exact⟨fun h=>(by cases h),fun⟨_,ds,h,_⟩=>by cases h⟩
   |some ds=>
    dsimp only
    rw[List.mem_flatMap]
    constructor
    ·rintro⟨d,hd,hx⟩
     refine⟨by omega,ds,rfl,d,hd,?_⟩
     split at hx
     ·rename_i ht
      rw[if_pos ht];exact(inL_mem c f _ _ x).1 hx
     ·rename_i ht
      rw[if_neg ht];exact List.mem_singleton.1 hx
    ·rintro⟨_,ds',hds,d,hd,hx⟩
     cases hds
     refine⟨d,hd,?_⟩
     split at hx
     ·rename_i ht
      rw[if_pos ht];exact(inL_mem c f _ _ x).2 hx
     ·rename_i ht
      rw[if_neg ht];exact List.mem_singleton.2 hx
theorem riseI_len{s l U:List (List UInt8)}(h:RiseI s l)(hs:∀y∈s,y∈U):l.length<=U.length:=
 yO (lt_nodup h.1) fun y hy=>hs y ((h.2 y).1 hy)
theorem riseI_ext{s s' l:List (List UInt8)}(h:RiseI s l)(hs:∀y,y∈s↔y∈s'):RiseI s' l:=⟨h.1,fun y=>(h.2 y).trans (hs y)⟩
theorem walkOut_rise{c:BlobM}{id:List UInt8}{l:List (List UInt8)}(hn:(walkL c 5 (thgI id)).2=none)(h:RiseI (idsT (walkL c 5 (thgI id)).1) l):(256<l.length->yD c id [] id 4)/\(¬256<l.length->yD c id l zeros32 0):=by
 have hk:=walkM_keys (walkL c 5 (thgI id)).1
 have hp:l.Perm ((walkM (walkL c 5 (thgI id)).1).map (·.1)):=by
  refine(List.perm_ext_iff_of_nodup (lt_nodup h.1) hk.1).2 fun x=>?_;rw[h.2 x,hk.2 x]
  exact⟨fun h=>by
   obtain⟨t,ht,e⟩:=List.mem_map.1 h
   exact⟨t,ht,e⟩,fun⟨t,ht,e⟩=>List.mem_map.2 ⟨t,ht,e⟩⟩
 have hl:l.length=(walkM (walkL c 5 (thgI id)).1).length:=by rw[hp.length_eq,List.length_map]
 unfold yD;rw[hn]
 dsimp only
 rw[<-hl];exact⟨fun h=>by rw[if_pos h];exact⟨rfl,rfl,rfl⟩,fun hn=>by rw[if_neg hn];exact⟨⟨h.1,hp⟩,rfl,rfl⟩⟩
theorem walkOut_wrong{c:BlobM}{id:List UInt8}{e:WErr}(hn:(walkL c 5 (thgI id)).2=some e):yD c id [] e.1 e.2:=by
 unfold yD;rw[hn];exact⟨rfl,rfl,rfl⟩
theorem walkL_keys{c:BlobM}{f:Nat}{t:Thg}:∀x∈idsT (walkL c f t).1,x∈c.map (·.1):=fun x hx=>by
 obtain⟨t',ht,rfl⟩:=List.mem_map.1 hx;have:=walkL_in c f t t' ht
 cases hg:getL t'.d.id c with
 |none=>rw[hg]at this;cases this
 |some b=>exact List.mem_map.2 ⟨_,getL_mem hg,rfl⟩
theorem walkDs_upto(g:DescL->List Thg×Option WErr)(ds:List DescL)(hno:∀j (hj:j<ds.length),(g ds[j]).2=none):(zZ g ds).2=none/\idsT (zZ g ds).1=ds.flatMap fun d=>idsT (g d).1:=by
 rw[walkDs_none g ds hno];exact⟨rfl,by simp[idsT,List.map_flatMap]⟩
theorem marks_uniq{c:BlobM}{roots l l':List (List UInt8)}(h:MarkOf c roots l)(h':RiseI (roots.flatMap fun r=>inL c 5 r 1) l'):l=l':=sorted_ext h.1 h'.1 fun y=>by
 rw[h.2,h'.2,List.mem_flatMap];exact exists_congr fun r=>and_congr_right fun _=>(inL_mem c 5 r 1 y).symm
theorem inL_same{c c':BlobM}(h:∀y,getL y c=getL y c'):∀(f:Nat)(id:List UInt8)(depth:Nat),inL c f id depth=inL c' f id depth
 |0,_,_=>rfl
 |f+1,id,depth=>by
  unfold inL;rw[descsOf_same (h id)];simp only[inL_same h f]
end
section
open Go.RowKit Go.Proofs.Tryz Go.Lib
theorem lex_lt:∀{x y:List UInt8}{n:Nat}(hx:n<x.length)(hy:n<y.length),x.take n=y.take n->x[n]<y[n]->x<y
 |a::x,b::y,0,_,_,_,h=>by
  exact List.cons_lt_cons_iff.2 (.inl h)
 |a::x,b::y,n+1,hx,hy,ht,h=>by
  simp only[List.take_succ_cons,List.cons.injEq]at ht;exact List.cons_lt_cons_iff.2 (.inr ⟨ht.1,lex_lt (by simpa using hx) (by simpa using hy) ht.2 (by simpa using h)⟩)
theorem cmpI_less{x y:List UInt8}(h:x<y):cmpI x y=-1:=by
 have h1:=(cmpI_neg x y).2 h
 rcases cmpI_lt x y with h2|h2|h2<;>omega
theorem cmpI_more{x y:List UInt8}(h:y<x):cmpI x y=1:=by
 rcases cmpI_lt x y with h2|h2|h2
 ·exact absurd ((cmpI_neg x y).1 (by omega)) (fun h3=>List.lt_irrefl _ (ltB_trans h h3))
 ·rw[cmpI_zero]at h2;subst h2;exact absurd h (List.lt_irrefl _)
 ·exact h2
def CmpRel(x y:List UInt8)(w0:World)(v:Value)(w:World):Prop:=∃n:Nat,n<=32/\v=.int .i64 n/\x.take n=y.take n/\Mod NoB w0 w
theorem id_cell{w:World}{b:Nat}{x:List UInt8}{T:TypeId}(hB:w.heap[b]?=some (.cells (qA x) T (0,0))){n:Nat}(h:n<x.length):w.cell? ⟨b,n,none⟩=some (.int .u8 (x[n].toNat:Int)):=by
 rw[cell_of_row _ _ _ _ _ _ hB]
 simp[qA,h,byteV]
theorem refCompare_any(x y:List UInt8)(hx:x.length=32)(hy:y.length=32)(w:World):Calls prog 195 #[.agg (qA x),.agg (qA y)] w (RetM (.int .i64 (cmpI x y)) w):=by
 go_enter func195,ntmps195;go_upto_region 0 with(fail);refine wpR [1,1,3] ?_;simp only[stz];refine wpD (zT 24 _ _ (by rfl) (by rfl) (fun w1 hB1 hm1 hs1=>?_))
 replace hB1:w1.heap[w.heap.size]?=some (.cells (qA x) 24 (0,0)):=hB1;try simp only[nmz]
 refine wpD (zT 24 _ _ (by rfl) (by rfl) (fun w2 hB2 hm2 hs2=>?_));replace hB2:w2.heap[w1.heap.size]?=some (.cells (qA y) 24 (0,0)):=hB2;simp only[stz]
 have hM2:=hm1.trans0 hm2;have hB1:=hm2.obj id hB1;clear hm1 hm2 hs1 hs2;go_wp2
 go_loopw [5] (CmpRel x y w2) (fun i _=>32-(intOf i).toNat)
 case atStart=>exact⟨0,by omega,rfl,rfl,Mod.refl _ _⟩
 case round=>
  rename World=>wr
  obtain⟨n,hn,rfl,hpre,hM⟩:=hrel
  by_cases hlt:n<32
  ·have hz:(n:Int)<32:=by omega
   have hxn:n<x.length:=by omega
   have hyn:n<y.length:=by omega
   have h1:=id_cell (hM.obj id hB1) hxn;have h2:=id_cell (hM.obj id hB2) hyn;have e1:x.take (n+1)=x.take n++[x[n]]:=List.take_succ_eq_append_getElem hxn
   have e2:y.take (n+1)=y.take n++[y[n]]:=List.take_succ_eq_append_getElem hyn;have hlx:= @lex_lt x y n hxn hyn hpre;have hly:= @lex_lt y x n hyn hxn hpre.symm
   have heq:x[n]=y[n]->x.take (n+1)=y.take (n+1):=fun e=>by rw[e1,e2,hpre,e]
   generalize x[n]=p at*;generalize y[n]=q at*;have HLX:=hid hlx;have HLY:=hid hly;have HEQ:=hid heq;clear hlx hly heq e1 e2 hpre;go_upto_region 4 with(fail)
   have hS:Mod NoB wr wr.drew:=(Mod.refl _ _).drew;obtain⟨t,ht⟩:∃t,cmpB .lss (p.toNat:Int) (q.toNat:Int)=t:=⟨_,rfl⟩;have HT:=hid ht;clear ht
   refine wpRZ [3,3,0,3,3,0,3] [] (fun w'=>Mod NoB wr w') hS ?_;simp only[stz]
   refine qJ _ _ _ _ _ _ _ _ rfl rfl rfl rfl underlying24 (n:=1) (by kernel_rfl) hlt ?_;simp only[nmz]
   refine wpLd 5 w.heap.size (n*1) (fun w' hS=>by rw[Nat.mul_one];exact hS.cell id h1) underlying5 ?_;simp only[stz]
   refine qJ _ _ _ _ _ _ _ _ rfl rfl rfl rfl underlying24 (n:=1) (by kernel_rfl) hlt ?_;simp only[nmz]
   refine wpLd 5 w1.heap.size (n*1) (fun w' hS=>by rw[Nat.mul_one];exact hS.cell id h2) underlying5 ?_;simp only[nmz]
   refine qG _ _ _ _ _ _ _ _ rfl rfl rfl rfl rfl t HT.out ?_;simp only[stz]
   cases t
   ·have hnl:¬p.toNat<q.toNat:=by have:=HT.out;simpa[cmpB]using this
    go_upto_region 6 with(fail);have hS2:Mod NoB wr wr.drew.drew:=hS.drew;obtain⟨t,ht⟩:∃t,cmpB .gtr (p.toNat:Int) (q.toNat:Int)=t:=⟨_,rfl⟩
    have HT2:=hid ht;clear ht;refine wpRZ [3,3,0,3,3,0,3] [] (fun w'=>Mod NoB wr w') hS2 ?_;simp only[stz]
    refine qJ _ _ _ _ _ _ _ _ rfl rfl rfl rfl underlying24 (n:=1) (by kernel_rfl) hlt ?_;simp only[nmz]
    refine wpLd 5 w.heap.size (n*1) (fun w' hS=>by rw[Nat.mul_one];exact hS.cell id h1) underlying5 ?_;simp only[stz]
    refine qJ _ _ _ _ _ _ _ _ rfl rfl rfl rfl underlying24 (n:=1) (by kernel_rfl) hlt ?_;simp only[nmz]
    refine wpLd 5 w1.heap.size (n*1) (fun w' hS=>by rw[Nat.mul_one];exact hS.cell id h2) underlying5 ?_;simp only[nmz]
    refine qG _ _ _ _ _ _ _ _ rfl rfl rfl rfl rfl t HT2.out ?_;simp only[stz]
    cases t
    ·have hng:¬q.toNat<p.toNat:=by have:=HT2.out;simpa[cmpB]using this
     have e:p=q:=UInt8.toNat_inj.1 (by omega);have hM':=hM.trans0 hS2;clear hM hS hS2 h1 h2;go_wp2
     go_roundw
     case rel=>exact⟨n+1,by omega,by go_num,HEQ.out e,hM'⟩
     case measure=>simp[intOf];omega
    ·have hg:q.toNat<p.toNat:=by have:=HT2.out;simpa[cmpB]using this
     have hc:=cmpI_more (HLY.out hg);have hM':=(hM2.trans0 hM).trans0 hS2;clear hM hS hS2 h1 h2;go_wp2;go_ret;refine⟨?_,hM'⟩
     first|rfl|(rw[hc];rfl)
   ·have hl:p.toNat<q.toNat:=by have:=HT.out;simpa[cmpB]using this
    have hc:=cmpI_less (HLX.out hl);have hM':=(hM2.trans0 hM).trans0 hS;clear hM hS h1 h2;go_wp2;go_ret;refine⟨?_,hM'⟩
    first|rfl|(rw[hc];rfl)
  ·have hz:¬(n:Int)<32:=by omega
   obtain rfl:n=32:=by omega
   have e:x=y:=by rw[List.take_of_length_le (by omega),List.take_of_length_le (by omega)]at hpre;exact hpre
   have hc:cmpI x y=0:=(cmpI_zero x y).2 e;have hM':=hM2.trans0 hM;clear hM hpre e;go_wp2;go_ret;refine⟨?_,hM'⟩
   first|rfl|(rw[hc];rfl)
end
section
open Go.RowKit Go.Shelf Go.Proofs.Tryz Go.Lib
theorem own_new{w:World}{b:Nat}{o:Obj}(h:w.heap[b]?=some o)(n c:Nat):∀k,(Value.slice (some ⟨w.heap.size,0,none⟩) n c).ownBlock=some k->k≠b:=fun k e=>by
 have h1:=(Array.getElem?_eq_some_iff.1 h).1;have e':some w.heap.size=some k:=e
 cases e';omega
theorem gat_fresh{base:Nat}{w:World}{v:Value}{l:List (List UInt8)}(h:GatI base w v l):∀k,v.ownBlock=some k->k≠w.heap.size:=fun k e=>by have:=(h.lt e).2;omega
theorem app_apart{w:World}{v v':Value}{b:Nat}{o:Obj}(h:w.heap[b]?=some o)(hN:∀k,v.ownBlock=some k->k≠b)(hv:∀g,v'.ownBlock=some g->v.ownBlock=some g\/w.heap.size<=g):∀k,v'.ownBlock=some k->k≠b:=fun k e=>by
 have h1:=(Array.getElem?_eq_some_iff.1 h).1
 rcases hv k e with h2|h2
 ·exact hN k h2
 ·omega
def OwnOr(w:World)(v0 v:Value):Prop:=∀q,v.ownBlock=some q->v0.ownBlock=some q\/w.heap.size<=q
def LaidR(base:Nat)(w:World)(v0:Value)(s:List (List UInt8))(x:List UInt8):Ending->World->Prop:=fun e w'=>Mod NoB w w'/\∃v m,e=.returned v/\GatI base w' v m/\RiseI (s++[x]) m/\OwnOr w v0 v
theorem r13Laid_any{base:Nat}{w:World}{v:Value}{s l:List (List UInt8)}{x:List UInt8}(h:GatI base w v l)(hb:base<=w.heap.size)(hr:RiseI s l)(h32:∀y∈l,y.length=32)(hx32:x.length=32)(hl:l.length<=10000):Calls prog 120 #[v,.agg (qA x)] w (LaidR base w v s x):=by
 obtain⟨ad,cap,rfl⟩:=h.slice;have hxc:(qA x).size=32:=by rw[qD,hx32]
 have HG:=hid h;have HR:=hid hr;have H32:=hid h32;clear h hr h32;go_enter func120,ntmps120;go_upto_region 0 with(fail);refine wpR [1,3] ?_;simp only[stz]
 refine wpD (zT 24 _ _ (by rfl) (by rfl) (fun w1 hB1 hm1 hs1=>?_));replace hB1:w1.heap[w.heap.size]?=some (.cells (qA x) 24 (0,0)):=hB1;simp only[stz]
 have hbx:CellsAt w1 w.heap.size 0 (qA x):=CellsAt.whole hB1;have hm:=hm1;generalize hb3:w.heap.size=b3 at*;clear hB1 hm1 hs1;go_wp2
 go_loopw [5] (RisInI l x w1) (fun i _=>l.length-(intOf i).toNat)
 case atStart=>exact⟨0,by omega,rfl,fun p _ h=>by omega,Mod.refl _ _⟩
 case round=>
  rename World=>w8
  obtain⟨j,hj,rfl,hall,hm8⟩:=hrel;have HALL:=hid hall;clear hall;have hM8:=hm.trans0 hm8;have HG8:=hid (HG.out.keep0 hM8);have hbx8:=hbx.keep hm8 id
  by_cases hjl:j<l.length
  ·have hzj:(j:Int)<(l.length:Int):=by omega
   obtain⟨_,_,hv,-,hat⟩:=Sl.at (slI HG8.out H32.out)
   cases hv
   obtain⟨g3,off3,rfl,-,-,hc⟩:=hat j hjl;obtain⟨_,-,⟨rfl,hy32⟩,hky⟩:=hc j hjl
   have HNX:=hid (fun(h:l[j]<x) p (hp:p<l.length)(h1:p<j+1)=>show l[p]<x by
    rcases Nat.lt_or_ge p j with h2|h2
    ·exact HALL.out p hp h2
    ·obtain rfl:p=j:=by omega
     exact h)
   have HMEM:=hid (show l[j]∈l from List.getElem_mem hjl)
   have HTRI:=hid (fun(h1:¬l[j]<x)(h2:l[j]≠x)=>show ∀(hp:j<l.length),x<l[j]from fun _=>by
    rcases ltB_tri l[j] x with h3|h3|h3
    ·exact absurd h3 h1
    ·exact absurd h3 h2
    ·exact h3)
   have HIN:=hid (fun h2=>riseI_ins (x:=x) HR.out hj HALL.out h2);obtain⟨y,hy⟩:∃x,l[j]=x:=⟨_,rfl⟩;rw[hy]at hky HNX HMEM HTRI hy32
   have hyc:(qA y).size=32:=by rw[qD,hy32]
   clear hat hc;have hneg:=cmpI_neg y x;obtain⟨c,hcc⟩:∃c,cmpI y x=c:=⟨_,rfl⟩;have hsc:=fun w'=>refCompare_any y x hy32 hx32 w';rw[hcc]at hneg
   simp only[hcc]at hsc;go_upto_region 2 with(fail);have hS:Mod NoB w8 w8.drew:=(Mod.refl _ _).drew
   by_cases hlss:y<x
   ·have hc0:c<0:=hneg.2 hlss
    have HN:=hid (HNX.out hlss);clear HTRI HIN HNX hlss hy hneg hcc;refine wpRZ [3,3,3,3,3,3,3,3,0,0,1,3,3] [] (fun w'=>Mod NoB w8 w') hS ?_;simp only[stz]
    refine wpPL ?_;simp only[nmz];refine qG _ _ _ _ _ _ _ _ rfl rfl rfl rfl rfl true (decide_eq_true hzj) ?_;simp only[stz];refine wpPI underlying25 32 hjl ?_
    simp only[nmz];refine wpLA 24 g3 (off3+j*32) (qA y) (fun w' hS=>hky.keep hS id) underlying24 32 hyc ?_;simp only[nmz]
    refine wpLA 24 b3 0 (qA x) (fun w' hS=>hbx8.keep hS id) underlying24 32 hxc ?_;simp only[nmz];refine qM rfl (fun K hK=>?_);refine wpC func195 (hsc _) ?_
    rintro e we ⟨rfl,hg2⟩;have hS2:=hS.trans0 hg2;refine⟨_,rfl,hK _ _ hS2 ?_⟩;clear hK K;try simp only[nmz]
    refine qG _ _ _ _ _ _ _ _ rfl rfl rfl rfl rfl true (decide_eq_true hc0) ?_;simp only[stz];clear hc0;go_wp2
    go_roundw
    case rel=>exact⟨j+1,by omega,by go_num,HN.out,hm8.trans0 hS2⟩
    case measure=>simp[intOf];omega
   ·have hc0:¬c<0:=fun h=>hlss (hneg.1 h)
    have HT2:=hid (HTRI.out hlss);clear HTRI HNX hlss hneg hcc;refine wpRZ [3,3,3,3,3,3,3,3,0,0,1,3,3] [] (fun w'=>Mod NoB w8 w') hS ?_;simp only[stz]
    refine wpPL ?_;simp only[nmz];refine qG _ _ _ _ _ _ _ _ rfl rfl rfl rfl rfl true (decide_eq_true hzj) ?_;simp only[stz];refine wpPI underlying25 32 hjl ?_
    simp only[nmz];refine wpLA 24 g3 (off3+j*32) (qA y) (fun w' hS=>hky.keep hS id) underlying24 32 hyc ?_;simp only[nmz]
    refine wpLA 24 b3 0 (qA x) (fun w' hS=>hbx8.keep hS id) underlying24 32 hxc ?_;simp only[nmz];refine qM rfl (fun K hK=>?_);refine wpC func195 (hsc _) ?_
    rintro e we ⟨rfl,hg2⟩;have hS2:=hS.trans0 hg2;refine⟨_,rfl,hK _ _ hS2 ?_⟩;clear hK K;try simp only[nmz]
    refine qG _ _ _ _ _ _ _ _ rfl rfl rfl rfl rfl false (decide_eq_false hc0) ?_;simp only[stz];clear hc0;replace hM8:=hM8.trans0 hS2
    replace HG8:=hid (HG8.out.keep0 hS2);replace hbx8:=hbx8.keep hS2 id;replace hky:=hky.keep hS2 id;clear hS hS2 hg2 hm8 hm;go_upto_region 4 with(fail)
    have hS:Mod NoB we we.drew:=(Mod.refl _ _).drew
    by_cases hyx:y=x
    ·have HOLD:=hid (show RiseI (s++[x]) l from riseI_old HR.out (by rw[<-hyx];exact HMEM.out))
     clear HT2 HIN HMEM hy;refine wpRZ [3,3,3,3,3,3,3,3,0,0,0,3] [] (fun w'=>Mod NoB we w') hS ?_;simp only[stz];refine wpPL ?_;simp only[nmz]
     refine qG _ _ _ _ _ _ _ _ rfl rfl rfl rfl rfl true (decide_eq_true hzj) ?_;simp only[stz];refine wpPI underlying25 32 hjl ?_;simp only[nmz]
     refine wpLA 24 g3 (off3+j*32) (qA y) (fun w' hS=>hky.keep hS id) underlying24 32 hyc ?_;simp only[nmz]
     refine wpLA 24 b3 0 (qA x) (fun w' hS=>hbx8.keep hS id) underlying24 32 hxc ?_;simp only[nmz]
     refine qQ rfl (fun w' hS=>yZ _ _ _ _ rfl _ _ rfl rfl 32 5 underlying24 underlying5 (by kernel_rfl) (by kernel_rfl) hy32 hx32 true (decide_eq_true hyx)) ?_
     simp only[stz]
     have HF:Hid (LaidR base w (.slice (some ⟨g3,off3,none⟩) l.length cap) s x (.returned (.slice (some ⟨g3,off3,none⟩) l.length cap)) we.drew):=hid ⟨hM8.trans0 hS,_,l,rfl,HG8.out.keep0 hS,HOLD.out,fun q hq=>.inl hq⟩
     clear hS hM8 HG8 hyx;go_wp2;go_ret;exact HF.out
    ·have HINS:Hid (RiseI (s++[x]) (l.take j++[x]++l.drop j)):=hid (HIN.out (HT2.out hyx))
     clear HT2 HIN HMEM hy;refine wpRZ [3,3,3,3,3,3,3,3,0,0,0,3] [] (fun w'=>Mod NoB we w') hS ?_;simp only[stz];refine wpPL ?_;simp only[nmz]
     refine qG _ _ _ _ _ _ _ _ rfl rfl rfl rfl rfl true (decide_eq_true hzj) ?_;simp only[stz];refine wpPI underlying25 32 hjl ?_;simp only[nmz]
     refine wpLA 24 g3 (off3+j*32) (qA y) (fun w' hS=>hky.keep hS id) underlying24 32 hyc ?_;simp only[nmz]
     refine wpLA 24 b3 0 (qA x) (fun w' hS=>hbx8.keep hS id) underlying24 32 hxc ?_;simp only[nmz]
     refine qQ rfl (fun w' hS=>yZ _ _ _ _ rfl _ _ rfl rfl 32 5 underlying24 underlying5 (by kernel_rfl) (by kernel_rfl) hy32 hx32 false (decide_eq_false hyx)) ?_
     simp only[stz];replace hM8:=hM8.trans0 hS;replace HG8:=hid (HG8.out.keep0 hS);replace hbx8:=hbx8.keep hS id;clear hS hyx hky;generalize we.drew=wi at*
     have hjle:j<=l.length:=by omega
     have hcap:=gatI_cap HG8.out;have hsz8:=hM8.size;go_upto_region 6 with(fail);refine wpR [1,3,3,3,1,3] ?_;simp only[stz]
     refine wpD (zG 25 24 (by rfl) underlying25 (by kernel_rfl) (fun w9 hB9 hm9 hs9=>?_));simp only[stz]
     refine yA 25 24 _ _ _ _ _ j 32 rfl rfl rfl rfl underlying25 (by kernel_rfl) hjle ?_;simp only[nmz]
     refine wpD (xU idE _ _ 25 24 (.agg (qA (List.replicate 32 0))) 32 32 (by rfl) underlying25 id_i (by kernel_rfl) (by omega) xE wi.heap.size _ [] (by rfl) (xH _ hB9 (Nat.le_refl _)) _ (l.drop j) (by rfl) (srcI_drop (HG8.out.keep0 hm9) hjle) (by simp only[List.length_nil,List.length_drop];unfold maxLen;omega) (by simp only[List.length_nil,List.length_drop];omega) hm9.size (fun v10 w10 hg10 hm10 hn10=>?_))
     have hM10:Mod NoB wi w10:=hm9.trans hm10 (fun k hk e=>by
      have e':some wi.heap.size=some k:=e
      cases e';omega)
     simp only[stz];rw[List.nil_append]at hg10;have HG10:=hid hg10;have HGX:=hid (HG8.out.keep0 hM10);have hbx':=hbx8.keep hM10 id;have hMx:=hM8.trans0 hM10
     clear hg10 hm9 hm10 hn10 hB9 hM10 hM8;go_upto_region 7 with(fail);have hS:Mod NoB w10 w10.drew:=(Mod.refl _ _).drew;have hT:=hS;have hto:=(gatI_to HGX.out hjle).1
     refine jG [(1,3),(2,3),(3,3),(5,0),(8,3)] 3 [(7,1),(9,1),(10,3)] [] (fun w'=>Mod NoB w10 w') #[false,true,true,true,false,true,false,false,true,false,false] (by kernel_rfl) (by kernel_rfl) (by kernel_rfl) (by kernel_rfl) (by kernel_rfl) (fun _ _ _ _ hd h=>⟨hd.trans h.1,h.2⟩) hS ?_
     simp only[stz];refine yK 25 24 _ _ _ _ _ j 32 rfl rfl rfl rfl underlying25 (by kernel_rfl) (by omega) ?_;simp only[nmz]
     refine wpLA 24 b3 0 (qA x) (fun w' hS=>hbx'.keep hS id) underlying24 32 hxc ?_;simp only[stz];refine zC [0,6] (by kernel_rfl) ?_
     simp only[zz3,false_implies,implies_true];refine⟨?_,?_⟩
     ·intro K hK
      simp only[zz5];refine zG 25 24 (by rfl) underlying25 (by kernel_rfl) (fun wa hBa hma hsa=>?_)
      have hO:GatI w10.heap.size wa _ []:=xH _ hBa hT.size
      try have hN:=own_new hX 0 0
      try replace hX:=hma.obj id hX
      replace hT:=hT.trans0 hma;clear hBa hma hsa;refine hK _ _ hT ?_;clear hK K;try simp only[nmz]
      refine zC [4,6] (by kernel_rfl) ?_;simp only[zz3,false_implies,implies_true];refine⟨?_,?_⟩
      ·intro K hK
       simp only[zz5]
       refine xU idE _ _ 25 24 (.agg (qA (List.replicate 32 0))) 32 32 (by rfl) underlying25 id_i (by kernel_rfl) (by omega) xE w10.heap.size _ [] (by rfl) hO _ (l.take j) (by rfl) (Gat.src (hto.keep0 hT)) (by simp only[List.length_nil,List.length_take];unfold maxLen;omega) (by simp only[List.length_nil,List.length_take];omega) hT.size (fun v44 wb hb hmb hvb=>?_)
       rw[List.nil_append]at hb
       try have hN2:=app_apart hX hN hvb
       try replace hX:=hmb.obj (fun e=>hN _ e rfl) hX
       try replace hN:=hN2
       replace hT:Mod NoB w10 wb:=hT.trans hmb (fun k hk e=>by have:=(hO.lt e).1;omega);replace hO:=hb;clear hb hmb hvb;refine hK _ _ hT ?_;clear hK K
       try simp only[nmz]
       refine zC [6] (by kernel_rfl) ?_;simp only[zz3,false_implies,implies_true];intro K hK;simp only[zz5]
       refine qU 25 24 _ (.agg (qA x)) (.agg (qA (List.replicate 32 0))) 32 (by rfl) (by rfl) underlying25 (by kernel_rfl) (by omega) (by omega) hxc (fun wc hBc hmc hsc=>?_)
       have hX:=hBc;rw[<-idE_eq hx32]at hX
       try have hN:=gat_fresh hO
       try replace hO:=hO.keep0 hmc
       replace hT:=hT.trans0 hmc;clear hmc hBc hsc;refine hK _ _ hT ?_;clear hK K;try simp only[nmz]
       refine xP ?_;try simp only[zz4]
       try simp only[nmz]
       refine qM rfl (fun K hK=>?_)
       refine xU idE _ _ 25 24 (.agg (qA (List.replicate 32 0))) 32 32 (by rfl) underlying25 id_i (by kernel_rfl) (by omega) xE w10.heap.size _ (l.take j) (by rfl) hO (.slice (some ⟨_,0,none⟩) 1 1) [x] (by rfl) (jM (enc:=idE) (x:=x) (e:=24) yX hX) (by simp only[List.length_singleton,List.length_take];unfold maxLen;omega) (by simp only[List.length_singleton,List.length_take];omega) hT.size (fun v47 wd hg47 hm47 hv47=>?_)
       replace hT:Mod NoB w10 wd:=hT.trans hm47 (fun k hk e=>by have:=(hO.lt e).1;omega);clear hm47 hv47 hO hX hN;refine hK _ _ hT ?_;clear hK K;try simp only[nmz]
       refine qM rfl (fun K hK=>?_)
       refine xU idE _ _ 25 24 (.agg (qA (List.replicate 32 0))) 32 32 (by rfl) underlying25 id_i (by kernel_rfl) (by omega) xE w10.heap.size _ (l.take j++[x]) (by rfl) hg47 v10 (l.drop j) (by rfl) (Gat.src (HG10.out.keep0 hT)) (by simp only[List.length_append,List.length_singleton,List.length_take,List.length_drop];unfold maxLen;omega) (by simp only[List.length_append,List.length_singleton,List.length_take,List.length_drop];omega) hT.size (fun v49 wz hg49 hm49 hv49=>?_)
       replace hT:Mod NoB w10 wz:=hT.trans hm49 (fun k hk e=>by have:=(hg47.lt e).1;omega)
       have HF:Hid (LaidR base w (.slice (some ⟨g3,off3,none⟩) l.length cap) s x (.returned v49) wz):=hid ⟨hMx.trans0 hT,v49,_,rfl,hg49.base (by have:=hMx.size;omega),HINS.out,fun q hq=>.inr (by have:=(hg49.lt hq).1;have:=hMx.size;omega)⟩
       clear hm49 hv49 hg47 hg49;refine hK _ _ hT ?_;clear hK K;simp only[stz];clear hT hS hto HG10 HGX HINS hMx hbx'
       generalize sliced (some ⟨g3,off3,none⟩) 0 j cap 32=sl1;generalize sliced (some ⟨g3,off3,none⟩) j l.length cap 32=sl2;go_wp2;go_ret;exact HF.out
      ·intro K hK
       simp only[zz5]
       refine qU 25 24 _ (.agg (qA x)) (.agg (qA (List.replicate 32 0))) 32 (by rfl) (by rfl) underlying25 (by kernel_rfl) (by omega) (by omega) hxc (fun wc hBc hmc hsc=>?_)
       have hX:=hBc;rw[<-idE_eq hx32]at hX
       try have hN:=gat_fresh hO
       try replace hO:=hO.keep0 hmc
       replace hT:=hT.trans0 hmc;clear hmc hBc hsc;refine hK _ _ hT ?_;clear hK K;try simp only[nmz]
       refine zC [4] (by kernel_rfl) ?_;simp only[zz3,false_implies,implies_true];intro K hK;simp only[zz5]
       refine xU idE _ _ 25 24 (.agg (qA (List.replicate 32 0))) 32 32 (by rfl) underlying25 id_i (by kernel_rfl) (by omega) xE w10.heap.size _ [] (by rfl) hO _ (l.take j) (by rfl) (Gat.src (hto.keep0 hT)) (by simp only[List.length_nil,List.length_take];unfold maxLen;omega) (by simp only[List.length_nil,List.length_take];omega) hT.size (fun v44 wb hb hmb hvb=>?_)
       rw[List.nil_append]at hb
       try have hN2:=app_apart hX hN hvb
       try replace hX:=hmb.obj (fun e=>hN _ e rfl) hX
       try replace hN:=hN2
       replace hT:Mod NoB w10 wb:=hT.trans hmb (fun k hk e=>by have:=(hO.lt e).1;omega);replace hO:=hb;clear hb hmb hvb;refine hK _ _ hT ?_;clear hK K
       try simp only[nmz]
       refine xP ?_;try simp only[zz4]
       try simp only[nmz]
       refine qM rfl (fun K hK=>?_)
       refine xU idE _ _ 25 24 (.agg (qA (List.replicate 32 0))) 32 32 (by rfl) underlying25 id_i (by kernel_rfl) (by omega) xE w10.heap.size _ (l.take j) (by rfl) hO (.slice (some ⟨_,0,none⟩) 1 1) [x] (by rfl) (jM (enc:=idE) (x:=x) (e:=24) yX hX) (by simp only[List.length_singleton,List.length_take];unfold maxLen;omega) (by simp only[List.length_singleton,List.length_take];omega) hT.size (fun v47 wd hg47 hm47 hv47=>?_)
       replace hT:Mod NoB w10 wd:=hT.trans hm47 (fun k hk e=>by have:=(hO.lt e).1;omega);clear hm47 hv47 hO hX hN;refine hK _ _ hT ?_;clear hK K;try simp only[nmz]
       refine qM rfl (fun K hK=>?_)
       refine xU idE _ _ 25 24 (.agg (qA (List.replicate 32 0))) 32 32 (by rfl) underlying25 id_i (by kernel_rfl) (by omega) xE w10.heap.size _ (l.take j++[x]) (by rfl) hg47 v10 (l.drop j) (by rfl) (Gat.src (HG10.out.keep0 hT)) (by simp only[List.length_append,List.length_singleton,List.length_take,List.length_drop];unfold maxLen;omega) (by simp only[List.length_append,List.length_singleton,List.length_take,List.length_drop];omega) hT.size (fun v49 wz hg49 hm49 hv49=>?_)
       replace hT:Mod NoB w10 wz:=hT.trans hm49 (fun k hk e=>by have:=(hg47.lt e).1;omega)
       have HF:Hid (LaidR base w (.slice (some ⟨g3,off3,none⟩) l.length cap) s x (.returned v49) wz):=hid ⟨hMx.trans0 hT,v49,_,rfl,hg49.base (by have:=hMx.size;omega),HINS.out,fun q hq=>.inr (by have:=(hg49.lt hq).1;have:=hMx.size;omega)⟩
       clear hm49 hv49 hg47 hg49;refine hK _ _ hT ?_;clear hK K;simp only[stz];clear hT hS hto HG10 HGX HINS hMx hbx'
       generalize sliced (some ⟨g3,off3,none⟩) 0 j cap 32=sl1;generalize sliced (some ⟨g3,off3,none⟩) j l.length cap 32=sl2;go_wp2;go_ret;exact HF.out
     ·intro K hK
      simp only[zz5]
      refine qU 25 24 _ (.agg (qA x)) (.agg (qA (List.replicate 32 0))) 32 (by rfl) (by rfl) underlying25 (by kernel_rfl) (by omega) (by omega) hxc (fun wc hBc hmc hsc=>?_)
      have hX:=hBc;rw[<-idE_eq hx32]at hX
      try have hN:=gat_fresh hO
      try replace hO:=hO.keep0 hmc
      replace hT:=hT.trans0 hmc;clear hmc hBc hsc;refine hK _ _ hT ?_;clear hK K;try simp only[nmz]
      refine zC [0] (by kernel_rfl) ?_;simp only[zz3,false_implies,implies_true];intro K hK;simp only[zz5]
      refine zG 25 24 (by rfl) underlying25 (by kernel_rfl) (fun wa hBa hma hsa=>?_);have hO:GatI w10.heap.size wa _ []:=xH _ hBa hT.size
      try have hN:=own_new hX 0 0
      try replace hX:=hma.obj id hX
      replace hT:=hT.trans0 hma;clear hBa hma hsa;refine hK _ _ hT ?_;clear hK K;try simp only[nmz]
      refine zC [4] (by kernel_rfl) ?_;simp only[zz3,false_implies,implies_true];intro K hK;simp only[zz5]
      refine xU idE _ _ 25 24 (.agg (qA (List.replicate 32 0))) 32 32 (by rfl) underlying25 id_i (by kernel_rfl) (by omega) xE w10.heap.size _ [] (by rfl) hO _ (l.take j) (by rfl) (Gat.src (hto.keep0 hT)) (by simp only[List.length_nil,List.length_take];unfold maxLen;omega) (by simp only[List.length_nil,List.length_take];omega) hT.size (fun v44 wb hb hmb hvb=>?_)
      rw[List.nil_append]at hb
      try have hN2:=app_apart hX hN hvb
      try replace hX:=hmb.obj (fun e=>hN _ e rfl) hX
      try replace hN:=hN2
      replace hT:Mod NoB w10 wb:=hT.trans hmb (fun k hk e=>by have:=(hO.lt e).1;omega);replace hO:=hb;clear hb hmb hvb;refine hK _ _ hT ?_;clear hK K
      try simp only[nmz]
      refine xP ?_;try simp only[zz4]
      try simp only[nmz]
      refine qM rfl (fun K hK=>?_)
      refine xU idE _ _ 25 24 (.agg (qA (List.replicate 32 0))) 32 32 (by rfl) underlying25 id_i (by kernel_rfl) (by omega) xE w10.heap.size _ (l.take j) (by rfl) hO (.slice (some ⟨_,0,none⟩) 1 1) [x] (by rfl) (jM (enc:=idE) (x:=x) (e:=24) yX hX) (by simp only[List.length_singleton,List.length_take];unfold maxLen;omega) (by simp only[List.length_singleton,List.length_take];omega) hT.size (fun v47 wd hg47 hm47 hv47=>?_)
      replace hT:Mod NoB w10 wd:=hT.trans hm47 (fun k hk e=>by have:=(hO.lt e).1;omega);clear hm47 hv47 hO hX hN;refine hK _ _ hT ?_;clear hK K;try simp only[nmz]
      refine qM rfl (fun K hK=>?_)
      refine xU idE _ _ 25 24 (.agg (qA (List.replicate 32 0))) 32 32 (by rfl) underlying25 id_i (by kernel_rfl) (by omega) xE w10.heap.size _ (l.take j++[x]) (by rfl) hg47 v10 (l.drop j) (by rfl) (Gat.src (HG10.out.keep0 hT)) (by simp only[List.length_append,List.length_singleton,List.length_take,List.length_drop];unfold maxLen;omega) (by simp only[List.length_append,List.length_singleton,List.length_take,List.length_drop];omega) hT.size (fun v49 wz hg49 hm49 hv49=>?_)
      replace hT:Mod NoB w10 wz:=hT.trans hm49 (fun k hk e=>by have:=(hg47.lt e).1;omega)
      have HF:Hid (LaidR base w (.slice (some ⟨g3,off3,none⟩) l.length cap) s x (.returned v49) wz):=hid ⟨hMx.trans0 hT,v49,_,rfl,hg49.base (by have:=hMx.size;omega),HINS.out,fun q hq=>.inr (by have:=(hg49.lt hq).1;have:=hMx.size;omega)⟩
      clear hm49 hv49 hg47 hg49;refine hK _ _ hT ?_;clear hK K;simp only[stz];clear hT hS hto HG10 HGX HINS hMx hbx';generalize sliced (some ⟨g3,off3,none⟩) 0 j cap 32=sl1
      generalize sliced (some ⟨g3,off3,none⟩) j l.length cap 32=sl2;go_wp2;go_ret;exact HF.out
  ·have hzj:¬(j:Int)<(l.length:Int):=by omega
   have HINS:Hid (RiseI (s++[x]) (l.take j++[x]++l.drop j)):=hid (riseI_ins HR.out hj HALL.out (fun h=>absurd h hjl));go_upto_region 2 with(fail)
   have hS:Mod NoB w8 w8.drew:=(Mod.refl _ _).drew;refine wpRZ [3,3,3,3,3,3,3,3,0,0,1,3,3] [] (fun w'=>Mod NoB w8 w') hS ?_;simp only[stz];refine wpPL ?_
   simp only[nmz];refine qG _ _ _ _ _ _ _ _ rfl rfl rfl rfl rfl false (decide_eq_false hzj) ?_;simp only[stz];refine xF rfl hS ?_;simp only[stz]
   replace hM8:=hM8.trans0 hS;replace HG8:=hid (HG8.out.keep0 hS);replace hbx8:=hbx8.keep hS id;clear hS hm8 hm HALL;generalize w8.drew=we at*;go_upto_region 4 with(fail)
   have hS:Mod NoB we we.drew:=(Mod.refl _ _).drew;refine wpRZ [3,3,3,3,3,3,3,3,0,0,3,3] [] (fun w'=>Mod NoB we w') hS ?_;simp only[stz];refine wpPL ?_
   simp only[nmz];refine qG _ _ _ _ _ _ _ _ rfl rfl rfl rfl rfl false (decide_eq_false hzj) ?_;simp only[stz];replace hM8:=hM8.trans0 hS
   replace HG8:=hid (HG8.out.keep0 hS);replace hbx8:=hbx8.keep hS id;clear hS;generalize we.drew=wi at*;have hjle:j<=l.length:=by omega
   have hcap:=gatI_cap HG8.out;have hsz8:=hM8.size;go_upto_region 6 with(fail);refine wpR [1,3,3,3,1,3] ?_;simp only[stz]
   refine wpD (zG 25 24 (by rfl) underlying25 (by kernel_rfl) (fun w9 hB9 hm9 hs9=>?_));simp only[stz]
   refine yA 25 24 _ _ _ _ _ j 32 rfl rfl rfl rfl underlying25 (by kernel_rfl) hjle ?_;simp only[nmz]
   refine wpD (xU idE _ _ 25 24 (.agg (qA (List.replicate 32 0))) 32 32 (by rfl) underlying25 id_i (by kernel_rfl) (by omega) xE wi.heap.size _ [] (by rfl) (xH _ hB9 (Nat.le_refl _)) _ (l.drop j) (by rfl) (srcI_drop (HG8.out.keep0 hm9) hjle) (by simp only[List.length_nil,List.length_drop];unfold maxLen;omega) (by simp only[List.length_nil,List.length_drop];omega) hm9.size (fun v10 w10 hg10 hm10 hn10=>?_))
   have hM10:Mod NoB wi w10:=hm9.trans hm10 (fun k hk e=>by
    have e':some wi.heap.size=some k:=e
    cases e';omega)
   simp only[stz];rw[List.nil_append]at hg10;have HG10:=hid hg10;have HGX:=hid (HG8.out.keep0 hM10);have hbx':=hbx8.keep hM10 id;have hMx:=hM8.trans0 hM10
   clear hg10 hm9 hm10 hn10 hB9 hM10 hM8;go_upto_region 7 with(fail);have hS:Mod NoB w10 w10.drew:=(Mod.refl _ _).drew;have hT:=hS;have hto:=(gatI_to HGX.out hjle).1
   refine jG [(1,3),(2,3),(3,3),(5,0),(8,3)] 3 [(7,1),(9,1),(10,3)] [] (fun w'=>Mod NoB w10 w') #[false,true,true,true,false,true,false,false,true,false,false] (by kernel_rfl) (by kernel_rfl) (by kernel_rfl) (by kernel_rfl) (by kernel_rfl) (fun _ _ _ _ hd h=>⟨hd.trans h.1,h.2⟩) hS ?_
   simp only[stz];refine yK 25 24 _ _ _ _ _ j 32 rfl rfl rfl rfl underlying25 (by kernel_rfl) (by omega) ?_;simp only[nmz]
   refine wpLA 24 b3 0 (qA x) (fun w' hS=>hbx'.keep hS id) underlying24 32 hxc ?_;simp only[stz];refine zC [0,6] (by kernel_rfl) ?_
   simp only[zz3,false_implies,implies_true];refine⟨?_,?_⟩
   ·intro K hK
    simp only[zz5];refine zG 25 24 (by rfl) underlying25 (by kernel_rfl) (fun wa hBa hma hsa=>?_);have hO:GatI w10.heap.size wa _ []:=xH _ hBa hT.size
    try have hN:=own_new hX 0 0
    try replace hX:=hma.obj id hX
    replace hT:=hT.trans0 hma;clear hBa hma hsa;refine hK _ _ hT ?_;clear hK K;try simp only[nmz]
    refine zC [4,6] (by kernel_rfl) ?_;simp only[zz3,false_implies,implies_true];refine⟨?_,?_⟩
    ·intro K hK
     simp only[zz5]
     refine xU idE _ _ 25 24 (.agg (qA (List.replicate 32 0))) 32 32 (by rfl) underlying25 id_i (by kernel_rfl) (by omega) xE w10.heap.size _ [] (by rfl) hO _ (l.take j) (by rfl) (Gat.src (hto.keep0 hT)) (by simp only[List.length_nil,List.length_take];unfold maxLen;omega) (by simp only[List.length_nil,List.length_take];omega) hT.size (fun v44 wb hb hmb hvb=>?_)
     rw[List.nil_append]at hb
     try have hN2:=app_apart hX hN hvb
     try replace hX:=hmb.obj (fun e=>hN _ e rfl) hX
     try replace hN:=hN2
     replace hT:Mod NoB w10 wb:=hT.trans hmb (fun k hk e=>by have:=(hO.lt e).1;omega);replace hO:=hb;clear hb hmb hvb;refine hK _ _ hT ?_;clear hK K
     try simp only[nmz]
     refine zC [6] (by kernel_rfl) ?_;simp only[zz3,false_implies,implies_true];intro K hK;simp only[zz5]
     refine qU 25 24 _ (.agg (qA x)) (.agg (qA (List.replicate 32 0))) 32 (by rfl) (by rfl) underlying25 (by kernel_rfl) (by omega) (by omega) hxc (fun wc hBc hmc hsc=>?_)
     have hX:=hBc;rw[<-idE_eq hx32]at hX
     try have hN:=gat_fresh hO
     try replace hO:=hO.keep0 hmc
     replace hT:=hT.trans0 hmc;clear hmc hBc hsc;refine hK _ _ hT ?_;clear hK K;try simp only[nmz]
     refine xP ?_;try simp only[zz4]
     try simp only[nmz]
     refine qM rfl (fun K hK=>?_)
     refine xU idE _ _ 25 24 (.agg (qA (List.replicate 32 0))) 32 32 (by rfl) underlying25 id_i (by kernel_rfl) (by omega) xE w10.heap.size _ (l.take j) (by rfl) hO (.slice (some ⟨_,0,none⟩) 1 1) [x] (by rfl) (jM (enc:=idE) (x:=x) (e:=24) yX hX) (by simp only[List.length_singleton,List.length_take];unfold maxLen;omega) (by simp only[List.length_singleton,List.length_take];omega) hT.size (fun v47 wd hg47 hm47 hv47=>?_)
     replace hT:Mod NoB w10 wd:=hT.trans hm47 (fun k hk e=>by have:=(hO.lt e).1;omega);clear hm47 hv47 hO hX hN;refine hK _ _ hT ?_;clear hK K;try simp only[nmz]
     refine qM rfl (fun K hK=>?_)
     refine xU idE _ _ 25 24 (.agg (qA (List.replicate 32 0))) 32 32 (by rfl) underlying25 id_i (by kernel_rfl) (by omega) xE w10.heap.size _ (l.take j++[x]) (by rfl) hg47 v10 (l.drop j) (by rfl) (Gat.src (HG10.out.keep0 hT)) (by simp only[List.length_append,List.length_singleton,List.length_take,List.length_drop];unfold maxLen;omega) (by simp only[List.length_append,List.length_singleton,List.length_take,List.length_drop];omega) hT.size (fun v49 wz hg49 hm49 hv49=>?_)
     replace hT:Mod NoB w10 wz:=hT.trans hm49 (fun k hk e=>by have:=(hg47.lt e).1;omega)
     have HF:Hid (LaidR base w (.slice ad l.length cap) s x (.returned v49) wz):=hid ⟨hMx.trans0 hT,v49,_,rfl,hg49.base (by have:=hMx.size;omega),HINS.out,fun q hq=>.inr (by have:=(hg49.lt hq).1;have:=hMx.size;omega)⟩
     clear hm49 hv49 hg47 hg49;refine hK _ _ hT ?_;clear hK K;simp only[stz];clear hT hS hto HG10 HGX HINS hMx hbx';generalize sliced ad 0 j cap 32=sl1
     generalize sliced ad j l.length cap 32=sl2;go_wp2;go_ret;exact HF.out
    ·intro K hK
     simp only[zz5]
     refine qU 25 24 _ (.agg (qA x)) (.agg (qA (List.replicate 32 0))) 32 (by rfl) (by rfl) underlying25 (by kernel_rfl) (by omega) (by omega) hxc (fun wc hBc hmc hsc=>?_)
     have hX:=hBc;rw[<-idE_eq hx32]at hX
     try have hN:=gat_fresh hO
     try replace hO:=hO.keep0 hmc
     replace hT:=hT.trans0 hmc;clear hmc hBc hsc;refine hK _ _ hT ?_;clear hK K;try simp only[nmz]
     refine zC [4] (by kernel_rfl) ?_;simp only[zz3,false_implies,implies_true];intro K hK;simp only[zz5]
     refine xU idE _ _ 25 24 (.agg (qA (List.replicate 32 0))) 32 32 (by rfl) underlying25 id_i (by kernel_rfl) (by omega) xE w10.heap.size _ [] (by rfl) hO _ (l.take j) (by rfl) (Gat.src (hto.keep0 hT)) (by simp only[List.length_nil,List.length_take];unfold maxLen;omega) (by simp only[List.length_nil,List.length_take];omega) hT.size (fun v44 wb hb hmb hvb=>?_)
     rw[List.nil_append]at hb
     try have hN2:=app_apart hX hN hvb
     try replace hX:=hmb.obj (fun e=>hN _ e rfl) hX
     try replace hN:=hN2
     replace hT:Mod NoB w10 wb:=hT.trans hmb (fun k hk e=>by have:=(hO.lt e).1;omega);replace hO:=hb;clear hb hmb hvb;refine hK _ _ hT ?_;clear hK K
     try simp only[nmz]
     refine xP ?_;try simp only[zz4]
     try simp only[nmz]
     refine qM rfl (fun K hK=>?_)
     refine xU idE _ _ 25 24 (.agg (qA (List.replicate 32 0))) 32 32 (by rfl) underlying25 id_i (by kernel_rfl) (by omega) xE w10.heap.size _ (l.take j) (by rfl) hO (.slice (some ⟨_,0,none⟩) 1 1) [x] (by rfl) (jM (enc:=idE) (x:=x) (e:=24) yX hX) (by simp only[List.length_singleton,List.length_take];unfold maxLen;omega) (by simp only[List.length_singleton,List.length_take];omega) hT.size (fun v47 wd hg47 hm47 hv47=>?_)
     replace hT:Mod NoB w10 wd:=hT.trans hm47 (fun k hk e=>by have:=(hO.lt e).1;omega);clear hm47 hv47 hO hX hN;refine hK _ _ hT ?_;clear hK K;try simp only[nmz]
     refine qM rfl (fun K hK=>?_)
     refine xU idE _ _ 25 24 (.agg (qA (List.replicate 32 0))) 32 32 (by rfl) underlying25 id_i (by kernel_rfl) (by omega) xE w10.heap.size _ (l.take j++[x]) (by rfl) hg47 v10 (l.drop j) (by rfl) (Gat.src (HG10.out.keep0 hT)) (by simp only[List.length_append,List.length_singleton,List.length_take,List.length_drop];unfold maxLen;omega) (by simp only[List.length_append,List.length_singleton,List.length_take,List.length_drop];omega) hT.size (fun v49 wz hg49 hm49 hv49=>?_)
     replace hT:Mod NoB w10 wz:=hT.trans hm49 (fun k hk e=>by have:=(hg47.lt e).1;omega)
     have HF:Hid (LaidR base w (.slice ad l.length cap) s x (.returned v49) wz):=hid ⟨hMx.trans0 hT,v49,_,rfl,hg49.base (by have:=hMx.size;omega),HINS.out,fun q hq=>.inr (by have:=(hg49.lt hq).1;have:=hMx.size;omega)⟩
     clear hm49 hv49 hg47 hg49;refine hK _ _ hT ?_;clear hK K;simp only[stz];clear hT hS hto HG10 HGX HINS hMx hbx';generalize sliced ad 0 j cap 32=sl1
     generalize sliced ad j l.length cap 32=sl2;go_wp2;go_ret;exact HF.out
   ·intro K hK
    simp only[zz5]
    refine qU 25 24 _ (.agg (qA x)) (.agg (qA (List.replicate 32 0))) 32 (by rfl) (by rfl) underlying25 (by kernel_rfl) (by omega) (by omega) hxc (fun wc hBc hmc hsc=>?_)
    have hX:=hBc;rw[<-idE_eq hx32]at hX
    try have hN:=gat_fresh hO
    try replace hO:=hO.keep0 hmc
    replace hT:=hT.trans0 hmc;clear hmc hBc hsc;refine hK _ _ hT ?_;clear hK K;try simp only[nmz]
    refine zC [0] (by kernel_rfl) ?_;simp only[zz3,false_implies,implies_true];intro K hK;simp only[zz5]
    refine zG 25 24 (by rfl) underlying25 (by kernel_rfl) (fun wa hBa hma hsa=>?_);have hO:GatI w10.heap.size wa _ []:=xH _ hBa hT.size
    try have hN:=own_new hX 0 0
    try replace hX:=hma.obj id hX
    replace hT:=hT.trans0 hma;clear hBa hma hsa;refine hK _ _ hT ?_;clear hK K;try simp only[nmz]
    refine zC [4] (by kernel_rfl) ?_;simp only[zz3,false_implies,implies_true];intro K hK;simp only[zz5]
    refine xU idE _ _ 25 24 (.agg (qA (List.replicate 32 0))) 32 32 (by rfl) underlying25 id_i (by kernel_rfl) (by omega) xE w10.heap.size _ [] (by rfl) hO _ (l.take j) (by rfl) (Gat.src (hto.keep0 hT)) (by simp only[List.length_nil,List.length_take];unfold maxLen;omega) (by simp only[List.length_nil,List.length_take];omega) hT.size (fun v44 wb hb hmb hvb=>?_)
    rw[List.nil_append]at hb
    try have hN2:=app_apart hX hN hvb
    try replace hX:=hmb.obj (fun e=>hN _ e rfl) hX
    try replace hN:=hN2
    replace hT:Mod NoB w10 wb:=hT.trans hmb (fun k hk e=>by have:=(hO.lt e).1;omega);replace hO:=hb;clear hb hmb hvb;refine hK _ _ hT ?_;clear hK K;try simp only[nmz]
    refine xP ?_;try simp only[zz4]
    try simp only[nmz]
    refine qM rfl (fun K hK=>?_)
    refine xU idE _ _ 25 24 (.agg (qA (List.replicate 32 0))) 32 32 (by rfl) underlying25 id_i (by kernel_rfl) (by omega) xE w10.heap.size _ (l.take j) (by rfl) hO (.slice (some ⟨_,0,none⟩) 1 1) [x] (by rfl) (jM (enc:=idE) (x:=x) (e:=24) yX hX) (by simp only[List.length_singleton,List.length_take];unfold maxLen;omega) (by simp only[List.length_singleton,List.length_take];omega) hT.size (fun v47 wd hg47 hm47 hv47=>?_)
    replace hT:Mod NoB w10 wd:=hT.trans hm47 (fun k hk e=>by have:=(hO.lt e).1;omega);clear hm47 hv47 hO hX hN;refine hK _ _ hT ?_;clear hK K;try simp only[nmz]
    refine qM rfl (fun K hK=>?_)
    refine xU idE _ _ 25 24 (.agg (qA (List.replicate 32 0))) 32 32 (by rfl) underlying25 id_i (by kernel_rfl) (by omega) xE w10.heap.size _ (l.take j++[x]) (by rfl) hg47 v10 (l.drop j) (by rfl) (Gat.src (HG10.out.keep0 hT)) (by simp only[List.length_append,List.length_singleton,List.length_take,List.length_drop];unfold maxLen;omega) (by simp only[List.length_append,List.length_singleton,List.length_take,List.length_drop];omega) hT.size (fun v49 wz hg49 hm49 hv49=>?_)
    replace hT:Mod NoB w10 wz:=hT.trans hm49 (fun k hk e=>by have:=(hg47.lt e).1;omega)
    have HF:Hid (LaidR base w (.slice ad l.length cap) s x (.returned v49) wz):=hid ⟨hMx.trans0 hT,v49,_,rfl,hg49.base (by have:=hMx.size;omega),HINS.out,fun q hq=>.inr (by have:=(hg49.lt hq).1;have:=hMx.size;omega)⟩
    clear hm49 hv49 hg47 hg49;refine hK _ _ hT ?_;clear hK K;simp only[stz];clear hT hS hto HG10 HGX HINS hMx hbx';generalize sliced ad 0 j cap 32=sl1
    generalize sliced ad j l.length cap 32=sl2;go_wp2;go_ret;exact HF.out
end
section
open Go.RowKit Go.Proofs.Tryz Go.Lib
structure RrI(w:World)(rb:Nat)(bv:Value)(b:List UInt8)(a:Nat)(e p:Int):Prop where
 box:w.heap[rb]?=some (.cells #[bv,.int .i64 a,.int .i64 e,.int .i64 p] 351 (0,0))
 sl:Sl false w (fun k=>bv.ownBlock=some k) 1 ByteC bv b
 lt:∀k,bv.ownBlock=some k->k<w.heap.size/\k≠rb
 len:b.length<=4096
 al:a<=b.length
 z:e=0->p=0
def RrS(w w':World)(rb:Nat)(bv:Value)(b:List UInt8)(s:RS):Prop:=(∃a e p,RrI w' rb bv b a e p/\stOf a e=s)/\Mod (fun k=>k=rb) w w'
theorem Sl.own1{α:Type}{own:Bool}{w:World}{G:Nat->Prop}{n:Nat}{R:Array Value->α->Prop}{v:Value}{l:List α}(h:Sl own w G n R v l):Sl false w (fun k=>v.ownBlock=some k) n R v l:=by
 obtain⟨a,cap,rfl,h1,h2,h3⟩:=h;refine⟨a,cap,rfl,h1,h2,fun hne=>?_⟩;obtain⟨b,off,rfl,_,_,hc⟩:=h3 hne;exact⟨b,off,rfl,rfl,fun h=>(nomatch h),hc⟩
section
variable{w:World}{rb:Nat}{bv:Value}{b:List UInt8}{a:Nat}{e p:Int}
theorem RrI.keep{S:Nat->Prop}{w':World}(h:RrI w rb bv b a e p)(hm:Mod S w w')(h1:¬S rb)(h3:∀k,bv.ownBlock=some k->¬S k):RrI w' rb bv b a e p:=
 ⟨hm.obj h1 h.box,h.sl.keep hm h3 (fun _ _ h=>h),fun k hk=>⟨Nat.lt_of_lt_of_le (h.lt k hk).1 hm.size,(h.lt k hk).2⟩,h.len,h.al,h.z⟩
theorem RrI.keep0{w':World}(h:RrI w rb bv b a e p)(hm:Mod NoB w w'):RrI w' rb bv b a e p:=h.keep hm id (fun _ _=>id)
theorem RrI.all(h:RrI w rb bv b a e p):∀k,k=rb\/bv.ownBlock=some k->k<w.heap.size:=fun k hk=>by
 rcases hk with rfl|hk
 ·exact(Array.getElem?_eq_some_iff.1 h.box).1
 ·exact(h.lt k hk).1
theorem RrI.keepN{w0 w':World}{n:Nat}(h:RrI w rb bv b a e p)(h0:∀k,k=rb\/bv.ownBlock=some k->k<w0.heap.size)(hm:Mod (fun k=>k=n) w w')(hn:w0.heap.size<=n):RrI w' rb bv b a e p:=
 h.keep hm (fun e=>by have:=h0 rb (.inl rfl);omega) (fun k hk e=>by have:=h0 k (.inr hk);omega)
theorem RrI.cell(h:RrI w rb bv b a e p):w.cell? ⟨rb,0,none⟩=some bv/\w.cell? ⟨rb,1,none⟩=some (.int .i64 a)/\w.cell? ⟨rb,2,none⟩=some (.int .i64 e)/\w.cell? ⟨rb,3,none⟩=some (.int .i64 p):=by
 simp[World.cell?,h.box]
theorem RrI.row(h:RrI w rb bv b a e p):CellsAt w rb 2 #[.int .i64 e,.int .i64 p]:=by
 intro j hj;have hj:j<2:=hj;rw[cell_of_row _ _ _ _ _ _ h.box]
 match j,hj with
 |0,_=>rfl
 |1,_=>rfl
theorem RrI.stay(h:RrI w rb bv b a e p):RrS w w rb bv b (stOf a e):=⟨⟨a,e,p,h,rfl⟩,Mod.refl _ _⟩
theorem RrS.keepN{w0 w1 w2:World}{n:Nat}{s:RS}(h:RrS w w1 rb bv b s)(h0:∀k,k=rb\/bv.ownBlock=some k->k<w0.heap.size)(hs:w0.heap.size<=w.heap.size)(hm:Mod (fun k=>k=n) w1 w2)(hn:w.heap.size<=n):RrS w w2 rb bv b s:=by
 obtain⟨⟨a,e,p,hi,hst⟩,hM⟩:=h;exact⟨⟨a,e,p,hi.keepN h0 hm (by omega),hst⟩,hM.trans hm (fun k hk e=>by have e':k=n:=e;omega)⟩
theorem RrS.pre{w1 w2:World}{s:RS}(h:Mod NoB w w1)(k:RrS w1 w2 rb bv b s):RrS w w2 rb bv b s:=⟨k.1,(h.mono (fun _ _ h=>h.elim)).trans k.2 (fun _ _ h=>h)⟩
theorem RrS.post{w1 w2:World}{s:RS}(k:RrS w w1 rb bv b s)(h:Mod NoB w1 w2):RrS w w2 rb bv b s:=by
 obtain⟨⟨a,e,p,hi,hst⟩,hM⟩:=k;exact⟨⟨a,e,p,hi.keep0 h,hst⟩,hM.trans h (fun _ _ h=>h.elim)⟩
theorem RrS.trans{w1 w2:World}{s s':RS}(h:RrS w w1 rb bv b s)(k:RrS w1 w2 rb bv b s'):RrS w w2 rb bv b s':=⟨k.1,h.2.trans k.2 (fun _ _ h=>h)⟩
theorem RrI.fail(h:RrI w rb bv b a 0 p){w':World}(hm:Mod (fun k=>k=rb) w w'){er at_:Int}(he:er≠0)(hw:w'.heap[rb]?=some (.cells #[bv,.int .i64 a,.int .i64 er,.int .i64 at_] 351 (0,0))):RrS w w' rb bv b none:=
 ⟨⟨a,er,at_,⟨hw,h.sl.keep hm (fun k hk hs=>(h.lt k hk).2 hs) (fun _ _ h=>h),fun k hk=>⟨Nat.lt_of_lt_of_le (h.lt k hk).1 hm.size,(h.lt k hk).2⟩,h.len,h.al,fun h=>absurd h he⟩,jB he⟩,hm⟩
theorem RrI.on(h:RrI w rb bv b a 0 p){w':World}(hm:Mod (fun k=>k=rb) w w'){a':Nat}(ha:a'<=b.length)(hw:w'.heap[rb]?=some (.cells #[bv,.int .i64 a',.int .i64 0,.int .i64 p] 351 (0,0))):RrS w w' rb bv b (some a'):=
 ⟨⟨a',0,p,⟨hw,h.sl.keep hm (fun k hk hs=>(h.lt k hk).2 hs) (fun _ _ h=>h),fun k hk=>⟨Nat.lt_of_lt_of_le (h.lt k hk).1 hm.size,(h.lt k hk).2⟩,h.len,ha,h.z⟩,rfl⟩,hm⟩
def RFailR(w:World)(rb:Nat)(bv:Value)(b:List UInt8):Ending->World->Prop:=fun x w'=>x=.returned (.tuple #[])/\RrS w w' rb bv b none
theorem jC(h:RrI w rb bv b a 0 p){er:Int}(he:er≠0)(at_:Int):Calls prog 293 #[.pointer (some ⟨rb,0,none⟩),.int .i64 er,.int .i64 at_] w (RFailR w rb bv b):=by
 have hce:=h.cell.2.2.1;have hbx:=h.box;have H:=hid h;clear h;go_enter func293,ntmps293;go_upto_region 0 with(fail);refine wpR [3,3,3,3,1,3] ?_;simp only[stz]
 refine wpXd (v:=(.int .i64 0)) 33 rb 2 hce underlying33 trivial ?_;try simp only[nmz]
 refine qE (v:=?_) rfl (fun w'=>?_) ?_;rotate_left;·(go_simp;try with_reducible rfl)
 simp only[stz];go_upto_region 1 with(fail);refine wpR [3,3,3,0,3,3,1] ?_;simp only[stz]
 refine qQ rfl (fun w' hS=>qL 255 [(0,_),(1,_)] [(0,.int .i64 er),(1,.int .i64 at_)] _ (by rfl) (by rfl) (jA er at_)) ?_;simp only[stz]
 refine wpD (qF 255 _ _ rb 2 #[.int .i64 er,.int .i64 at_] (by rfl) (by rfl) (by rfl) (by simp[Value.oneCell']) 2 (by kernel_rfl) rfl _ _ hbx (by simp) (fun w3 hB3 hm3=>?_))
 replace hB3:w3.heap[rb]?=some (.cells #[bv,.int .i64 a,.int .i64 er,.int .i64 at_] 351 (0,0)):=hB3;simp only[stz];go_wp2
 go_end0
 exact⟨rfl,H.out.fail hm3 he hB3⟩
theorem rrRest_any(h:RrI w rb bv b a e p):Calls prog 220 #[.pointer (some ⟨rb,0,none⟩)] w (RetM (.int .i64 (if e≠0 then 0 else(b.length:Int)-a)) w):=by
 obtain⟨hcb,hca,hce,-⟩:=h.cell;have hle:=h.al;have hln:=h.len;obtain⟨ad,cap,rfl,-,-⟩:=Sl.at h.sl;clear h
 by_cases he:e=0
 ·subst he
  go_enter func220,ntmps220;go_upto_region 1 with(fail);refine wpR [3,3,3,3,1,3] ?_;simp only[stz];refine wpXd (v:=(.int .i64 0)) 33 rb 2 hce underlying33 trivial ?_
  try simp only[nmz]
  refine qG _ _ _ _ _ _ _ _ rfl rfl rfl rfl rfl false rfl ?_;simp only[stz];go_upto_region 3 with(fail);have hS:Mod NoB w w.drew:=(Mod.refl _ _).drew
  refine wpRZ [3,3,3,0,3,3,3,3,0,3,3] [] (fun w'=>Mod NoB w w') hS ?_;simp only[stz];refine wpLd 53 rb 0 (fun w' hS=>hS.cell id hcb) underlying53 ?_;simp only[nmz]
  refine wpPL ?_;simp only[stz];refine wpLd 3 rb 1 (fun w' hS=>hS.cell id hca) underlying3 ?_;simp only[nmz]
  refine xB _ _ _ _ ((b.length:Nat):Int) (a:Int) rfl rfl rfl rfl (by omega) (by omega) ?_;simp only[stz];go_wp2;go_ret;exact⟨rfl,hS⟩
 ·rw[if_pos he]
  go_enter func220,ntmps220;go_upto_region 1 with(fail);refine wpR [3,3,3,3,1,3] ?_;simp only[stz];refine wpXd (v:=(.int .i64 e)) 33 rb 2 hce underlying33 trivial ?_
  try simp only[nmz]
  refine qG _ _ _ _ _ _ _ _ rfl rfl rfl rfl rfl true (decide_eq_true he) ?_;simp only[stz];go_wp2;go_ret;exact⟨rfl,Mod.refl _ _⟩
def REndR(w:World)(b:List UInt8)(a:Nat)(e:Int):Ending->World->Prop:=fun x w'=>Mod NoB w w'/\∃er at_:Int,x=.returned (.agg #[.int .i64 er,.int .i64 at_])/\(er=0↔e=0/\a=b.length)/\(er=0->at_=0)
theorem rrEnd_any(h:RrI w rb bv b a e p):Calls prog 219 #[.pointer (some ⟨rb,0,none⟩)] w (REndR w b a e):=by
 have hal:=h.al;have hln:=h.len;have hzp:=h.z;obtain⟨ad,cap,rfl,-,-⟩:=Sl.at h.sl;have H:=hid h;clear h;go_enter func219,ntmps219;go_upto_region 0 with(fail)
 refine wpR [1] ?_;simp only[stz];refine wpD (qP 255 _ (by rfl) fltZ (fun w1 hB1 hm1 hs1=>?_))
 replace hB1:w1.heap[w.heap.size]?=some (.cells #[.int .i64 0,.int .i64 0] 255 (0,0)):=hB1;simp only[stz];have H1:=H.out.keep0 hm1;obtain⟨hcb,hca,hce,-⟩:=H1.cell
 have hrow:=H1.row;clear H1;go_upto_region 1 with(fail);have hS:Mod NoB w1 w1.drew:=(Mod.refl _ _).drew
 by_cases he:e=0
 ·subst he
  obtain rfl:=hzp rfl
  rcases Nat.lt_or_ge a b.length with hlt|hge
  ·have hlz:(a:Int)<(b.length:Nat):=by omega
   refine wpRZ [3,3,3,3,0,3,3,3,3,3,0,3,3,3,0,3,3,3] [] (fun w'=>Mod NoB w1 w') hS ?_;simp only[stz]
   refine wpLd 33 rb 2 (fun w' hS=>hS.cell id hce) underlying33 ?_;simp only[nmz];refine qG _ _ _ _ _ _ _ _ rfl rfl rfl rfl rfl true rfl ?_;simp only[stz]
   refine wpLd 3 rb 1 (fun w' hS=>hS.cell id hca) underlying3 ?_;simp only[stz];refine wpLd 53 rb 0 (fun w' hS=>hS.cell id hcb) underlying53 ?_;simp only[nmz];refine wpPL ?_
   simp only[nmz];refine qG _ _ _ _ _ _ _ _ rfl rfl rfl rfl rfl true (decide_eq_true (by omega)) ?_;simp only[stz]
   have HM3:Hid (Mod NoB w w1.drew):=hid (hm1.trans0 hS);have hB3:=hS.obj id hB1;have hca3:=hS.cell id hca;clear hS hm1 hB1 hcb hca hce hrow H;generalize w1.drew=w3 at*
   go_upto_region 2 with(fail);refine wpR [3,3,3,1,0,1] ?_;simp only[stz];refine wpXd (v:=(.int .i64 a)) 3 rb 1 hca3 underlying3 trivial ?_;try simp only[nmz]
   refine qQ rfl (fun w' hS=>qL 255 [(0,_),(1,_)] [(0,.int .i64 4),(1,.int .i64 a)] _ (by rfl) (by rfl) (jA 4 a)) ?_;simp only[nmz]
   refine wpD (qF 255 _ _ w.heap.size 0 #[.int .i64 4,.int .i64 a] (by rfl) (by rfl) (by rfl) (by simp[Value.oneCell']) 2 (by kernel_rfl) rfl _ _ hB3 (by simp) (fun w4 hB4 hm4=>?_))
   rw[qC (by rfl)]at hB4;simp only[stz];have hM4:Hid (Mod NoB w w4):=hid (HM3.out.transB hm4 (Nat.le_refl _));clear hm4 hB3;go_wp2
   refine bodyPost_ret (results_cell_row (P:=prog) (ty:=255) rfl _ _ w.heap.size _ _ _ _ (by rfl) hB4 underlying255 rfl (by kernel_rfl)) rfl ?_
   exact⟨hM4.out,4,a,rfl,by omega,by omega⟩
  ·have hlz:¬(a:Int)<(b.length:Nat):=by omega
   refine wpRZ [3,3,3,3,0,3,3,3,3,3,0,3,3,3,0,3,3,3] [] (fun w'=>Mod NoB w1 w') hS ?_;simp only[stz]
   refine wpLd 33 rb 2 (fun w' hS=>hS.cell id hce) underlying33 ?_;simp only[nmz];refine qG _ _ _ _ _ _ _ _ rfl rfl rfl rfl rfl true rfl ?_;simp only[stz]
   refine wpLd 3 rb 1 (fun w' hS=>hS.cell id hca) underlying3 ?_;simp only[stz];refine wpLd 53 rb 0 (fun w' hS=>hS.cell id hcb) underlying53 ?_;simp only[nmz];refine wpPL ?_
   simp only[nmz];refine qG _ _ _ _ _ _ _ _ rfl rfl rfl rfl rfl false (decide_eq_false (by omega)) ?_;simp only[stz]
   have HM3:Hid (Mod NoB w w1.drew):=hid (hm1.trans0 hS);have hB3:=hS.obj id hB1;have hrow3:=hrow.keep hS id;clear hS hm1 hB1 hcb hca hce hrow H
   generalize w1.drew=w3 at*;go_upto_region 3 with(fail);refine wpR [3,3,3,1,1] ?_;simp only[stz]
   refine wpXA 255 rb 2 #[.int .i64 0,.int .i64 0] hrow3 underlying255 2 rfl trivial ?_;try simp only[nmz]
   refine wpD (qF 255 _ _ w.heap.size 0 #[.int .i64 0,.int .i64 0] (by rfl) (by rfl) (by rfl) (by simp[Value.oneCell']) 2 (by kernel_rfl) rfl _ _ hB3 (by simp) (fun w4 hB4 hm4=>?_))
   rw[qC (by rfl)]at hB4;simp only[stz];have hM4:Hid (Mod NoB w w4):=hid (HM3.out.transB hm4 (Nat.le_refl _));clear hm4 hB3;go_wp2
   refine bodyPost_ret (results_cell_row (P:=prog) (ty:=255) rfl _ _ w.heap.size _ _ _ _ (by rfl) hB4 underlying255 rfl (by kernel_rfl)) rfl ?_
   exact⟨hM4.out,0,0,rfl,by omega,by omega⟩
 ·
  refine wpRZ [3,3,3,3,0,3,3,3,3,3,0,3,3,3,0,3,3,3] [] (fun w'=>Mod NoB w1 w') hS ?_;simp only[stz]
  refine wpLd 33 rb 2 (fun w' hS=>hS.cell id hce) underlying33 ?_;simp only[nmz];refine qG _ _ _ _ _ _ _ _ rfl rfl rfl rfl rfl false (decide_eq_false he) ?_;simp only[stz]
  have HM3:Hid (Mod NoB w w1.drew):=hid (hm1.trans0 hS);have hB3:=hS.obj id hB1;have hrow3:=hrow.keep hS id;clear hS hm1 hB1 hcb hca hce hrow H;generalize w1.drew=w3 at*
  go_upto_region 3 with(fail);refine wpR [3,3,3,1,1] ?_;simp only[stz];refine wpXA 255 rb 2 #[.int .i64 e,.int .i64 p] hrow3 underlying255 2 rfl trivial ?_
  try simp only[nmz]
  refine wpD (qF 255 _ _ w.heap.size 0 #[.int .i64 e,.int .i64 p] (by rfl) (by rfl) (by rfl) (by simp[Value.oneCell']) 2 (by kernel_rfl) rfl _ _ hB3 (by simp) (fun w4 hB4 hm4=>?_))
  rw[qC (by rfl)]at hB4;simp only[stz];have hM4:Hid (Mod NoB w w4):=hid (HM3.out.transB hm4 (Nat.le_refl _));clear hm4 hB3;go_wp2
  refine bodyPost_ret (results_cell_row (P:=prog) (ty:=255) rfl _ _ w.heap.size _ _ _ _ (by rfl) hB4 underlying255 rfl (by kernel_rfl)) rfl ?_
  exact⟨hM4.out,e,p,rfl,by omega,by omega⟩
end
def beN(n k j:Nat):List UInt8:=(List.range j).map fun t=>UInt8.ofNat (n/256^(k-1-t))
theorem beN_succ(n k j:Nat):beN n k (j+1)=beN n k j++[UInt8.ofNat (n/256^(k-1-j))]:=by
 unfold beN;rw[List.range_succ,List.map_append]
 rfl
theorem beN_len(n k j:Nat):(beN n k j).length=j:=by simp[beN]
def formN(n:Nat):List UInt8:=if n<192 then [UInt8.ofNat n]else UInt8.ofNat (191+szK n 1)::beN n (szK n 1) (szK n 1)
theorem szK_ge(n:Nat):∀(j k:Nat),k<=8->8-k=j->k<=szK n k:=fun j=>by
 induction j with
 |zero=>intro k h1 h2;rw[szK_stop (by omega)];omega
 |succ j ih=>
  intro k h1 h2
  by_cases h:k<8/\0<n/256^k
  ·rw[szK_step h];have:=ih (k+1) (by omega) (by omega);omega
  ·rw[szK_stop h];omega
theorem exec_byte_wrap{P:Program}{w:World}{o:Oper}{a:Act}(t u:TypeId)(x:Operand)(m:Nat)(ho:o.op=.convert t u x)(hx:a.eval x=.int .i64 (m:Int))(ht:(P.underlying t).isSome=true)(hu:P.underlying u=some (.int .u8)):
 (execOp a.eval o).run P w=.ok (.value (byteV (UInt8.ofNat m))) w:=by
 have hv:IntKind.u8.wrap (m:Int)=((UInt8.ofNat m).toNat:Int):=by
  rw[IntKind.wrap_u8]
  simp
 unfold execOp;simp only[ho,hx];have hk:P.intKind u=.u8:=by simp[Program.intKind,hu]
 have h1:=run_convert_int (P:=P) w t u .i64 m ht (by rw[hk];exact hu);rw[hk]at h1;rw[Sem.run_bind,h1,hv]
 rfl
def RFormR(w:World)(xs:List UInt8):Ending->World->Prop:=fun e w'=>Mod NoB w w'/\∃v,e=.returned v/\Bts w.heap.size w' v xs
def FormRel1(n:Nat)(w0:World)(i:Value)(w:World):Prop:=∃k:Nat,1<=k/\k<=8/\i=.int .i64 k/\szK n 1=szK n k/\w=w0
def FormRel2(c0:UInt8)(n r:Nat)(w0:World)(v i:Value)(w:World):Prop:=∃j:Nat,j<=r/\i=.int .i64 ((r:Int)-1-j)/\Mod NoB w0 w/\Bts w0.heap.size w v (c0::beN n r j)
theorem rrForm_any(n:Nat)(hn:n<9223372036854775808)(w:World):Calls prog 294 #[.int .i64 n] w (RFormR w (formN n)):=by
 have hsz:=fun(w:World)(o:Oper)(a:Act)=> @exec_shrI prog w o a
 by_cases h:n<192
 ·have hs:formN n=[UInt8.ofNat n]:=if_pos h
  have hz:(n:Int)<192:=by omega
  rw[hs];go_enter func294,ntmps294;go_upto_region 2 with(fail);refine wpR [3,3,1,3] ?_;simp only[stz]
  refine qE (v:=byteV (UInt8.ofNat n)) rfl (fun w'=>exec_byte_wrap _ _ _ n rfl rfl (by kernel_rfl) underlying5) ?_;simp only[nmz]
  refine wpD (qU 53 5 _ (byteV (UInt8.ofNat n)) (.int .u8 0) 1 (by rfl) (by rfl) underlying53 (by kernel_rfl) (by omega) (by omega) (by rfl) (fun w1 hB1 hm1 hs1=>?_))
  replace hB1:w1.heap[w.heap.size]?=some (.cells #[byteV (UInt8.ofNat n)] 5 (0,0)):=hB1;simp only[stz];go_wp2;go_ret;exact⟨hm1,_,rfl,owns_lit hB1⟩
 ·have hs:formN n=UInt8.ofNat (191+szK n 1)::beN n (szK n 1) (szK n 1):=if_neg h
  have hz:¬(n:Int)<192:=by omega
  have hr1:=szK_ge n 7 1 (by omega) (by omega);have hr8:=szK_le n 7 1 (by omega) (by omega);rw[hs];obtain⟨r,hr⟩:∃r,szK n 1=r:=⟨_,rfl⟩;have HR:=hid hr
  rw[hr]at hr1 hr8 |-;obtain⟨c0,hc0⟩:∃c,UInt8.ofNat (191+r)=c:=⟨_,rfl⟩;rw[hc0];have HC:=hid hc0;clear hr hs h hc0;go_enter func294,ntmps294
  go_upto_region 3 with(fail);go_wp2
  go_loopw [3] (fun i wr=>FormRel1 n w i wr) (fun i _=>8-(intOf i).toNat)
  case atStart=>exact⟨1,by omega,by omega,rfl,rfl,rfl⟩
  case round=>
   rename World=>wr
   obtain⟨k,hk1,hk8,rfl,hsk,rfl⟩:=hrel;rw[HR.out]at hsk;have HSK:=hid hsk;clear hsk;go_upto_region 4 with(fail)
   go_cut [19] (fun s wx=>wx=wr/\(s=.bool true/\k<8/\0<n/256^k\/s=.bool false/\r=k))
   case first=>
    by_cases hlt:k<8
    ·have hp:2^(8*k)=256^k:=pow8 k
     have hm8:(8:Int)*(k:Int)=((8*k:Nat):Int):=by omega
     by_cases hg:0<n/256^k
     ·
      refine wpR [3,3,3,3,3,3,3,3,3] ?_;simp only[stz];refine qG _ _ _ _ _ _ _ _ rfl rfl rfl rfl rfl true (by simp[cmpB];omega) ?_;simp only[stz]
      refine xG _ _ _ _ 8 (k:Int) ((8*k:Nat):Int) rfl rfl rfl rfl hm8 (by omega) (by omega) ?_;simp only[nmz]
      refine qE rfl (fun w'=>hsz w' _ _ _ _ _ _ n (8*k) rfl rfl rfl (by omega) hn) ?_;simp only[nmz]
      refine qG _ _ _ _ _ _ _ _ rfl rfl rfl rfl rfl true (by simp only[cmpB,decide_eq_true_eq];rw[hp];exact Int.natCast_pos.2 hg) ?_;simp only[stz];go_wp2
      go_meet
      case rel=>exact⟨rfl,.inl ⟨rfl,hlt,hg⟩⟩
     ·have hz0:n/256^k=0:=Nat.eq_zero_of_not_pos hg
      refine wpR [3,3,3,3,3,3,3,3,3] ?_;simp only[stz];refine qG _ _ _ _ _ _ _ _ rfl rfl rfl rfl rfl true (by simp[cmpB];omega) ?_;simp only[stz]
      refine xG _ _ _ _ 8 (k:Int) ((8*k:Nat):Int) rfl rfl rfl rfl hm8 (by omega) (by omega) ?_;simp only[nmz]
      refine qE rfl (fun w'=>hsz w' _ _ _ _ _ _ n (8*k) rfl rfl rfl (by omega) hn) ?_;simp only[nmz]
      refine qG _ _ _ _ _ _ _ _ rfl rfl rfl rfl rfl false (by simp only[cmpB,decide_eq_false_iff_not];rw[hp,hz0];simp) ?_;simp only[stz];go_wp2
      go_meet
      case rel=>exact⟨rfl,.inr ⟨rfl,HSK.out.trans (szK_stop (by omega))⟩⟩
    ·
     refine wpR [3,3,3,3,3,3,3,3,3] ?_;simp only[stz];refine qG _ _ _ _ _ _ _ _ rfl rfl rfl rfl rfl false (by simp[cmpB];omega) ?_;simp only[stz];go_wp2
     go_meet
     case rel=>exact⟨rfl,.inr ⟨rfl,HSK.out.trans (szK_stop (by omega))⟩⟩
   case rest=>
    rename World=>wx
    obtain⟨hwx,⟨rfl,hlt,hg⟩|⟨rfl,hrk⟩⟩:=hcut
    ·obtain rfl:=hwx.symm
     go_wp2
     go_roundw
     case rel=>exact⟨k+1,by omega,by omega,by go_num,by rw[HR.out,<-szK_step ⟨hlt,hg⟩];exact HSK.out,rfl⟩
     case measure=>simp[intOf];omega
    ·obtain rfl:=hwx.symm
     obtain rfl:=hrk;clear HSK;go_upto_region 6 with(fail);refine wpR [3,3,3,1,3] ?_;simp only[stz]
     refine qY _ _ _ _ 191 (r:Int) ((191+r:Nat):Int) rfl rfl rfl rfl (by omega) (by omega) (by omega) ?_;simp only[nmz]
     refine qE (v:=byteV c0) rfl (fun w'=>by rw[<-HC.out];exact exec_byte_wrap _ _ _ (191+r) rfl rfl (by kernel_rfl) underlying5) ?_;simp only[nmz]
     refine wpD (qU 53 5 _ (byteV (c0)) (.int .u8 0) 1 (by rfl) (by rfl) underlying53 (by kernel_rfl) (by omega) (by omega) (by rfl) (fun w1 hB1 hm1 hs1=>?_))
     replace hB1:w1.heap[wr.heap.size]?=some (.cells #[byteV (c0)] 5 (0,0)):=hB1;simp only[stz]
     have HR0:Hid (FormRel2 c0 n r wr (.slice (some ⟨wr.heap.size,0,none⟩) 1 1) (.int .i64 ((r:Int)-1)) w1):=hid ⟨0,by omega,by simp,hm1,owns_lit hB1⟩
     clear hB1 hm1 hs1;go_wp2
     go_loopw [4,5] (fun v i wz=>FormRel2 c0 n r wr v i wz) (fun _ i _=>(intOf i+1).toNat)
     case atStart=>exact HR0.out
     case round=>
      rename World=>wr2
      obtain⟨j,hj,rfl,hm,hv⟩:=hrel
      by_cases hlt:j<r
      ·have hz2:(r:Int)-1-(j:Int)>=0:=by omega
       obtain⟨i,hi⟩:∃i:Nat,i=r-1-j:=⟨_,rfl⟩;have hie:(r:Int)-1-(j:Int)=(i:Int):=by omega
       have hp:2^(8*i)=256^i:=pow8 i;have hm8:(8:Int)*(i:Int)=((8*i:Nat):Int):=by omega
       have hz3:(i:Int)>=0:=by omega
       have hi7:i<=7:=by omega
       rw[hie];have HI:=hid hi;have HIE:=hid hie;clear hi hie hz2;go_upto_region 10 with(fail);refine wpR [3,3,3,3,3,3,1,1,3] ?_;simp only[stz]
       refine xG _ _ _ _ 8 (i:Int) ((8*i:Nat):Int) rfl rfl rfl rfl hm8 (by omega) (by omega) ?_;simp only[nmz]
       refine qE rfl (fun w'=>hsz w' _ _ _ _ _ _ n (8*i) rfl rfl rfl (by omega) hn) ?_;simp only[nmz]
       refine qE (v:=byteV (UInt8.ofNat (n/256^i))) rfl (fun w'=>by rw[<-hp];exact exec_byte_wrap _ _ _ (n/2^(8*i)) rfl rfl (by kernel_rfl) underlying5) ?_
       simp only[nmz]
       refine wpD (qU 53 5 _ (byteV (UInt8.ofNat (n/256^i))) (.int .u8 0) 1 (by rfl) (by rfl) underlying53 (by kernel_rfl) (by omega) (by omega) (by rfl) (fun w3 hB3 hm3 hs3=>?_))
       replace hB3:w3.heap[wr2.heap.size]?=some (.cells #[byteV (UInt8.ofNat (n/256^i))] 5 (0,0)):=hB3;have hv3:=Bts.keep hv hm3 (fun _ _=>id);try simp only[nmz]
       refine wpD (xV _ _ (by rfl) wr.heap.size _ _ (by rfl) hv3 (.slice (some ⟨wr2.heap.size,0,none⟩) 1 1) [UInt8.ofNat (n/256^i)] (by rfl) (jD (owns_lit hB3)) (by simp[beN_len];omega) (by have:=hm.size;omega) (fun v4 w4 ho4 hm4=>?_))
       simp only[stz]
       have HQ:Hid (FormRel2 c0 n r wr v4 (.int .i64 ((i:Int)-1)) w4):=hid ⟨j+1,by omega,by have:=HIE.out;congr 1;omega,(hm.trans0 hm3).trans hm4 (fun k hk e=>by have:=(Bts.lt hv3 e).1;omega),by rw[beN_succ,<-HI.out];exact ho4⟩
       clear hm hv hm3 hB3 hs3 hv3 ho4 hm4 hp hm8;go_wp2
       go_roundw
       case rel=>exact HQ.out
       case measure=>simp[intOf]
      ·obtain rfl:j=r:=by omega
       have hz2:¬(j:Int)-1-(j:Int)>=0:=by omega
       have HF:Hid (RFormR wr (c0::beN n j j) (.returned _) wr2):=hid ⟨hm,_,rfl,hv⟩;clear hm hv;go_wp2;go_ret;exact HF.out
theorem be_fold(y:List UInt8):∀n:Nat,y.foldl (fun n x=>n*256+x.toNat) n=n*256^y.length+be y:=by
 induction y with
 |nil=>intro n;simp[be]
 |cons z y ih=>
  intro n;have h1:=ih (n*256+z.toNat);have h2:=ih (0*256+z.toNat);have h3:be (z::y)=y.foldl (fun n x=>n*256+x.toNat) (0*256+z.toNat):=rfl
  rw[List.foldl_cons,h1,h3,h2,List.length_cons,Nat.pow_succ];simp only[Nat.add_mul,Nat.zero_mul,Nat.zero_add];rw[Nat.mul_assoc,Nat.mul_comm 256];omega
theorem be_append(x y:List UInt8):be (x++y)=be x*256^y.length+be y:=by
 unfold be;rw[List.foldl_append];exact be_fold y _
theorem beN_be(l:List UInt8):beN (be l) l.length l.length=l:=by
 refine List.ext_getElem (by rw[beN_len]) fun t h1 h2=>?_;have hg:(beN (be l) l.length l.length)[t]=UInt8.ofNat (be l/256^(l.length-1-t)):=by simp[beN]
 rw[hg]
 have e:be l=be (l.take (t+1))*256^(l.length-1-t)+be (l.drop (t+1)):=by
  have:=be_append (l.take (t+1)) (l.drop (t+1));rw[List.take_append_drop,List.length_drop,show l.length-(t+1)=l.length-1-t by omega]at this;exact this
 have hlt:=be_lt (l.drop (t+1));rw[List.length_drop,show l.length-(t+1)=l.length-1-t by omega]at hlt
 have hp:0<256^(l.length-1-t):=Nat.pow_pos (by omega)
 have hd:be l/256^(l.length-1-t)=be (l.take (t+1)):=by
  rw[e,Nat.add_comm,Nat.add_mul_div_right _ _ hp,Nat.div_eq_of_lt hlt,Nat.zero_add]
 rw[hd,take_succ_be h2]
 apply UInt8.toNat_inj.1
 have:=(l[t]).toNat_lt;simp only[UInt8.toNat_ofNat'];omega
theorem formN_iff{l:List UInt8}{c:UInt8}{k:Nat}(hk:l.length=k)(hk1:1<=k)(hk8:k<=8)(hc:c.toNat=191+k)(h192:¬be l<192):formN (be l)=c::l↔sizeN (be l)=k:=by
 have h1:formN (be l)=UInt8.ofNat (191+szK (be l) 1)::beN (be l) (szK (be l) 1) (szK (be l) 1):=if_neg h192;have h2:sizeN (be l)=szK (be l) 1:=if_neg h192
 have h8:=szK_le (be l) 7 1 (by omega) (by omega);rw[h1,h2]
 constructor
 ·intro h
  injection h with h3 _;have h4:=congrArg UInt8.toNat h3;simp only[UInt8.toNat_ofNat']at h4;omega
 ·intro h
  rw[h,show UInt8.ofNat (191+k)=c from UInt8.toNat_inj.1 (by simp only[UInt8.toNat_ofNat'];omega)]
  congr 1
  have:=beN_be l;rw[hk]at this;exact this
def RNumR(w:World)(rb:Nat)(bv:Value)(b:List UInt8)(n:Nat)(s:RS):Ending->World->Prop:=fun x w'=>x=.returned (.int .i64 n)/\RrS w w' rb bv b s
def RNumRel(w0:World)(l:List UInt8)(s i:Value)(w:World):Prop:=∃k:Nat,k<=l.length/\i=.int .i64 ((k+1:Nat):Int)/\s=.int .u64 (be (l.take k):Nat)/\Mod NoB w0 w
section
variable{w:World}{rb:Nat}{bv:Value}{b:List UInt8}{a:Nat}{e p:Int}
theorem rrNum_any(h:RrI w rb bv b a e p):Calls prog 248 #[.pointer (some ⟨rb,0,none⟩)] w (RNumR w rb bv b (rNumL b (stOf a e)).1 (rNumL b (stOf a e)).2):=by
 have H:=hid h;have hal:=h.al;have hln:=h.len;obtain⟨ad,cap,rfl,hcap,hat⟩:=Sl.at h.sl
 by_cases he:e=0
 rotate_left
 ·rw[jB he]
  have hce:=h.cell.2.2.1;have hca:=h.cell.2.1;clear h hat;go_enter func248,ntmps248;go_upto_region 1 with(fail);refine wpR [3,3,3,1,3] ?_;simp only[stz]
  refine wpXd (v:=(.int .i64 a)) 3 rb 1 hca underlying3 trivial ?_;simp only[stz];go_upto_region 2 with(fail);refine wpR [3,3,3,3,1,3] ?_;simp only[stz]
  refine wpXd (v:=(.int .i64 e)) 33 rb 2 hce underlying33 trivial ?_;try simp only[nmz]
  refine qG _ _ _ _ _ _ _ _ rfl rfl rfl rfl rfl true (decide_eq_true he) ?_;simp only[stz];have HF:=hid H.out.stay;rw[jB he]at HF;go_wp2;go_ret;exact⟨rfl,HF.out⟩
 subst he;obtain⟨n,s,hns⟩:∃n s,rNumL b (some a)=(n,s):=⟨_,_,rfl⟩;have HE:Hid ((rNumL b (some a)).1=n):=hid (by rw[hns])
 have HE2:Hid ((rNumL b (some a)).2=s):=hid (by rw[hns]);rw[stOf_zero,HE.out,HE2.out];have hce:=h.cell.2.2.1;have hca:=h.cell.2.1;have hcb:=h.cell.1;clear hns h
 have HM:Hid (Mod NoB w w):=hid (Mod.refl _ _);go_enter func248,ntmps248;go_upto_region 1 with(fail);refine wpR [3,3,3,1,3] ?_;simp only[stz]
 refine wpXd (v:=(.int .i64 a)) 3 rb 1 hca underlying3 trivial ?_;simp only[stz];go_upto_region 2 with(fail);refine wpR [3,3,3,3,1,3] ?_;simp only[stz]
 refine wpXd (v:=(.int .i64 0)) 33 rb 2 hce underlying33 trivial ?_;try simp only[nmz]
 refine qG _ _ _ _ _ _ _ _ rfl rfl rfl rfl rfl false rfl ?_;simp only[stz]
 rcases Nat.lt_or_ge a b.length with hlt|hge
 rotate_left
 · -- nothing is left
   have hz:(a:Int)>=(b.length:Nat):=by omega
   have hbn:b[a]?=none:=List.getElem?_eq_none hge;have hr0:rNumL b (some a)=(0,none):=by simp[rNumL,rdNum,hbn]
   replace HE:Hid (n=0):=hid (by rw[<-HE.out,hr0]);replace HE2:Hid (s=none):=hid (by rw[<-HE2.out,hr0]);clear hr0;clear hbn;go_upto_region 4 with(fail)
   refine wpR [3,3,3,3,1,3,3] ?_;simp only[stz];refine wpXd (v:=(.slice ad b.length cap)) 53 rb 0 hcb underlying53 trivial ?_;try simp only[nmz]
   refine wpPL ?_;simp only[nmz];refine qG _ _ _ _ _ _ _ _ rfl rfl rfl rfl rfl true (decide_eq_true (by omega)) ?_;simp only[stz];go_upto_region 5 with(fail)
   refine wpR [3,3,1] ?_;simp only[stz];refine wpD (wpCM func293 (jC (er:=6) H.out (by decide) a) fun wf hrf=>?_);simp only[stz];have HF:=hid hrf;clear hrf;go_wp2
   go_ret;exact⟨by rw[HE.out];rfl,by rw[HE2.out];exact RrS.pre HM.out HF.out⟩
 obtain⟨c,hc⟩:∃c,b[a]=c:=⟨_,rfl⟩;have hbs:b[a]?=some c:=by rw[List.getElem?_eq_getElem hlt,hc]
 have hz:¬(a:Int)>=(b.length:Nat):=by omega
 obtain⟨k,hk⟩:∃k,c.toNat-191=k:=⟨_,rfl⟩;have hct:=c.toNat_lt
 have hrd:rNumL b (some a)=(match(if 199<c.toNat then none else if b.length-a-1<k then none else if k=0 then some (c.toNat,a+1)else if be ((b.drop (a+1)).take k)>=9223372036854775808\/sizeN (be ((b.drop (a+1)).take k))≠k then none else some (be ((b.drop (a+1)).take k),a+1+k):Option (Nat×Nat))with|none=>(0,none)|some q=>(q.1,some q.2)):=by
  simp only[rNumL,rdNum,hbs,hk]
  generalize (if 199<c.toNat then none else if b.length-a-1<k then none else if k=0 then some (c.toNat,a+1)else if be ((b.drop (a+1)).take k)>=9223372036854775808\/sizeN (be ((b.drop (a+1)).take k))≠k then none else some (be ((b.drop (a+1)).take k),a+1+k):Option (Nat×Nat))=q
  cases q<;>rfl
 have HAB:=hid hat;obtain⟨bk,off,rfl,-,-,hcells⟩:=hat a hlt;obtain⟨cs,hcs,hcR,hcA⟩:=hcells a hlt;rw[hc]at hcR;obtain rfl:cs=#[byteV c]:=hcR
 have hcell:=CellsAt.one.1 hcA;have HRD:=hid hrd;clear hrd hcells hat hcA hcs hbs;go_upto_region 4 with(fail);refine wpR [3,3,3,3,1,3,3] ?_;simp only[stz]
 refine wpXd (v:=(.slice (some ⟨bk,off,none⟩) b.length cap)) 53 rb 0 hcb underlying53 trivial ?_;try simp only[nmz]
 refine wpPL ?_;simp only[nmz];refine qG _ _ _ _ _ _ _ _ rfl rfl rfl rfl rfl false (decide_eq_false (by omega)) ?_;simp only[stz];go_upto_region 7 with(fail)
 refine wpR [3,3,3,1,3,3,1,3,3] ?_;simp only[stz];refine wpXd (v:=(.slice (some ⟨bk,off,none⟩) b.length cap)) 53 rb 0 hcb underlying53 trivial ?_;simp only[stz]
 refine wpPI underlying53 1 hlt ?_;simp only[nmz];refine wpXd (v:=(byteV c)) 5 bk (off+a*1) hcell underlying5 trivial ?_;try simp only[nmz]
 refine qE rfl (fun w'=>exec_int_of_byte _ _ _ c rfl rfl (by kernel_rfl) underlying3) ?_;simp only[stz];clear hcell
 by_cases h192:c.toNat<192
 ·have h192z:((c.toNat:Nat):Int)<192:=by omega
  have hr0:rNumL b (some a)=(c.toNat,some (a+1)):=by rw[HRD.out,if_neg (by omega),if_neg (by omega),if_pos (by omega)]
  replace HE:Hid (n=c.toNat):=hid (by rw[<-HE.out,hr0]);replace HE2:Hid (s=some (a+1)):=hid (by rw[<-HE2.out,hr0]);have hbox:=H.out.box;clear hr0
  go_upto_region 10 with(fail);refine wpR [3,3,3,1,3,3,3,1] ?_;simp only[stz];refine wpXd (v:=(.int .i64 a)) 3 rb 1 hca underlying3 trivial ?_;try simp only[nmz]
  refine qY _ _ _ _ (a:Int) 1 ((a+1:Nat):Int) rfl rfl rfl rfl (by omega) (by omega) (by omega) ?_;simp only[stz]
  refine wpD (qT 3 _ _ rb 1 (.int .i64 ((a+1:Nat):Int)) (by rfl) (by rfl) (by rfl) rfl (by kernel_rfl) _ _ hbox (by simp) (fun w3 hB3 hm3=>?_))
  have HT:Hid (RrS w w3 rb (.slice (some ⟨bk,off,none⟩) b.length cap) b (some (a+1))):=hid (H.out.on hm3 (by omega) hB3);simp only[stz];clear hbox hca hB3 hm3;go_wp2
  go_ret;exact⟨by rw[HE.out];rfl,by rw[HE2.out];exact HT.out⟩
 have h192z:¬((c.toNat:Nat):Int)<192:=by omega
 have hke:((c.toNat:Nat):Int)-191=(k:Int):=by omega
 by_cases h199:199<c.toNat
 ·have h199z:((c.toNat:Nat):Int)>199:=by omega
  have hr0:rNumL b (some a)=(0,none):=by rw[HRD.out,if_pos h199]
  replace HE:Hid (n=0):=hid (by rw[<-HE.out,hr0]);replace HE2:Hid (s=none):=hid (by rw[<-HE2.out,hr0]);clear hr0;go_upto_region 13 with(fail)
  refine wpR [3,3,1] ?_;simp only[stz];refine wpD (wpCM func293 (jC (er:=5) H.out (by decide) a) fun wf hrf=>?_);simp only[stz];have HF:=hid hrf;clear hrf;go_wp2
  go_ret;exact⟨by rw[HE.out];rfl,by rw[HE2.out];exact RrS.pre HM.out HF.out⟩
 have h199z:¬((c.toNat:Nat):Int)>199:=by omega
 have hr1:=HRD.out;rw[if_neg h199]at hr1;replace HRD:=hid hr1;clear hr1
 by_cases hsh:b.length-a-1<k
 ·
  have hr0:rNumL b (some a)=(0,none):=by rw[HRD.out,if_pos hsh]
  replace HE:Hid (n=0):=hid (by rw[<-HE.out,hr0]);replace HE2:Hid (s=none):=hid (by rw[<-HE2.out,hr0]);clear hr0;go_upto_region 15 with(fail)
  refine wpR [3,3,3,1,3,3,3,3,3,3,3] ?_;simp only[stz];refine wpXd (v:=(.slice (some ⟨bk,off,none⟩) b.length cap)) 53 rb 0 hcb underlying53 trivial ?_
  try simp only[nmz]
  refine wpPL ?_;simp only[stz];refine xB _ _ _ _ ((b.length:Nat):Int) (a:Int) rfl rfl rfl rfl (by omega) (by omega) ?_;simp only[nmz]
  refine xB _ _ _ _ ((b.length:Int)-(a:Int)) 1 rfl rfl rfl rfl (by omega) (by omega) ?_;simp only[stz]
  refine qG _ _ _ _ _ _ _ _ rfl rfl rfl rfl rfl true (decide_eq_true (by omega)) ?_;simp only[stz];go_upto_region 16 with(fail);refine wpR [3,3,1] ?_;simp only[stz]
  refine wpD (wpCM func293 (jC (er:=6) H.out (by decide) a) fun wf hrf=>?_);simp only[stz];have HF:=hid hrf;clear hrf;go_wp2;go_ret
  exact⟨by rw[HE.out];rfl,by rw[HE2.out];exact RrS.pre HM.out HF.out⟩
 have hr1:=HRD.out;rw[if_neg hsh,if_neg (by omega)]at hr1;replace HRD:=hid hr1;clear hr1;have hk8:k<=8:=by omega
 have hk1:1<=k:=by omega
 obtain⟨l,hl⟩:∃l,(b.drop (a+1)).take k=l:=⟨_,rfl⟩;have hll:l.length=k:=by rw[<-hl,List.length_take,List.length_drop];omega
 have hcl:(b.drop a).take (k+1)=c::l:=by
  rw[<-hl,List.drop_eq_getElem_cons hlt,hc]
  rfl
 have hget:∀j (hj:j<l.length),l[j]=b[a+(j+1)]'(by omega):=fun j hj=>by
  subst hl;rw[List.getElem_take,List.getElem_drop]
  congr 1
  omega
 have HL:=hid hl;have HCL:=hid hcl;have HGET:=hid hget;clear hl hcl hget;go_upto_region 15 with(fail);refine wpR [3,3,3,1,3,3,3,3,3,3,3] ?_;simp only[stz]
 refine wpXd (v:=(.slice (some ⟨bk,off,none⟩) b.length cap)) 53 rb 0 hcb underlying53 trivial ?_;try simp only[nmz]
 refine wpPL ?_;simp only[stz];refine xB _ _ _ _ ((b.length:Nat):Int) (a:Int) rfl rfl rfl rfl (by omega) (by omega) ?_;simp only[nmz]
 refine xB _ _ _ _ ((b.length:Int)-(a:Int)) 1 rfl rfl rfl rfl (by omega) (by omega) ?_;simp only[stz]
 refine qG _ _ _ _ _ _ _ _ rfl rfl rfl rfl rfl false (decide_eq_false (by omega)) ?_;simp only[stz]
 have HR0:Hid (RNumRel w l (.int .u64 (0:Nat)) (.int .i64 1) w):=hid ⟨0,Nat.zero_le _,rfl,by simp[be],Mod.refl _ _⟩;go_wp2
 go_loopw [6,7] (fun sv iv wx=>RNumRel w l sv iv wx) (fun _ i _=>l.length+1-(intOf i).toNat)
 case atStart=>exact HR0.out
 case round=>
  rename World=>wr
  obtain⟨j,hj,rfl,rfl,hmr⟩:=hrel;have Hr:=hid (H.out.keep0 hmr);have hcbr:=Hr.out.cell.1
  by_cases hjl:j<l.length
  ·have hjz:((j+1:Nat):Int)<=(k:Int):=by omega
   have hjz2:((j+1:Nat):Int)<=((c.toNat:Nat):Int)-191:=by omega
   have hil:a+(j+1)<b.length:=by omega
   obtain⟨b2,off2,hb2,-,-,hcc⟩:=HAB.out (a+(j+1)) hil
   cases hb2
   obtain⟨cs,-,hcR,hcA⟩:=hcc _ hil;rw[<-HGET.out j hjl]at hcR;obtain rfl:cs=#[byteV l[j]]:=hcR;have hcr:=hmr.cell id (CellsAt.one.1 hcA)
   have hnx:=take_succ_be hjl;have hbt:=be_take_lt l j (by omega);generalize l[j]=x at*;have hxt:=x.toNat_lt;obtain⟨q,hq⟩:∃q,be (l.take j)=q:=⟨_,rfl⟩
   rw[hq]at hnx hbt |-;have hor:=be_or q x;have HNX:=hid hnx;clear hnx hq hcA hcc;go_upto_region 22 with(fail);refine wpR [3,3,3,3,3,1,3,3,3,3,1,3,3,3] ?_
   simp only[stz];refine qE rfl (fun w'=>exec_shl64 _ _ _ _ q _ 8 (q*2^8) rfl rfl rfl (by omega) rfl (by omega)) ?_;simp only[stz]
   refine wpXd (v:=(.slice (some ⟨bk,off,none⟩) b.length cap)) 53 rb 0 hcbr underlying53 trivial ?_;simp only[stz]
   refine qY _ _ _ _ (a:Int) ((j+1:Nat):Int) ((a+(j+1):Nat):Int) rfl rfl rfl rfl (by omega) (by omega) (by omega) ?_;simp only[nmz]
   refine wpPI underlying53 1 hil ?_;simp only[nmz];refine wpXd (v:=(byteV x)) 5 bk (off+(a+(j+1))*1) hcr underlying5 trivial ?_;try simp only[nmz]
   refine qE rfl (fun w'=>exec_u64_of_byte _ _ _ x rfl rfl (by kernel_rfl) underlying300) ?_;simp only[nmz]
   refine qE rfl (fun w'=>exec_or64 _ _ _ _ (q*2^8) x.toNat (q*256+x.toNat) rfl rfl rfl (by omega) (by omega) hor) ?_;simp only[stz];clear hcr hor hcbr;go_wp2
   go_roundw
   case rel=>exact⟨j+1,by omega,by go_num,by rw[HNX.out],hmr⟩
   case measure=>simp[intOf];omega
  ·obtain rfl:j=l.length:=by omega
   have hjz:¬((l.length+1:Nat):Int)<=(k:Int):=by omega
   have hjz2:¬((l.length+1:Nat):Int)<=((c.toNat:Nat):Int)-191:=by omega
   have hfull:l.take l.length=l:=List.take_length;rw[hfull];have hbl:=be_lt l;have hb8:256^l.length<=256^8:=Nat.pow_le_pow_right (by omega) (by omega)
   have h256:(256:Nat)^8=18446744073709551616:=by decide
   have hr1:=HRD.out;rw[HL.out]at hr1;have hfi:=fun h=>formN_iff (l:=l) (c:=c) (k:=k) hll hk1 hk8 (by omega) h;obtain⟨q,hq⟩:∃q,be l=q:=⟨_,rfl⟩
   rw[hq]at hr1 hbl hfi |-;have hqb:q<18446744073709551616:=by omega
   have HR1:=hid hr1;have HFI:=hid hfi;replace HM:Hid (Mod NoB w wr):=hid (HM.out.trans0 hmr);clear hr1 hbl hb8 h256 hq hfull hfi;go_upto_region 23 with(fail)
   have hS:Mod NoB wr wr.drew:=(Mod.refl _ _).drew
   by_cases hbig:9223372036854775808<=q
   ·
    have hr0:rNumL b (some a)=(0,none):=by rw[HR1.out,if_pos (.inl hbig)]
    replace HE:Hid (n=0):=hid (by rw[<-HE.out,hr0]);replace HE2:Hid (s=none):=hid (by rw[<-HE2.out,hr0]);clear hr0
    refine wpRP [(0,3),(1,3),(2,3),(3,3),(4,3),(5,3),(6,3),(7,3),(8,3),(11,3),(12,3),(13,3),(14,0),(15,3),(16,3),(17,3),(18,3),(19,3),(20,3),(21,3),(9,1),(10,3),(22,3),(23,3)] [] (fun w'=>Mod NoB wr w') hS ?_
    simp only[stz];refine qG _ _ _ _ _ _ _ _ rfl rfl rfl rfl rfl true (decide_eq_true (by omega)) ?_;simp only[stz];refine xF rfl hS ?_;simp only[stz]
    have H5:=hid (Hr.out.keep0 hS);replace HM:Hid (Mod NoB w wr.drew):=hid (HM.out.trans0 hS);clear hS;generalize wr.drew=w5 at*;go_upto_region 24 with(fail)
    refine wpR [3,3,1] ?_;simp only[stz];refine wpD (wpCM func293 (jC (er:=5) H5.out (by decide) a) fun wf hrf=>?_);simp only[stz];have HF:=hid hrf;clear hrf
    go_wp2;go_ret;exact⟨by rw[HE.out];rfl,by rw[HE2.out];exact RrS.pre HM.out HF.out⟩
   by_cases hsmall:q<192
   ·
    have hr0:rNumL b (some a)=(0,none):=by rw[HR1.out,if_pos (.inr (by unfold sizeN;rw[if_pos hsmall];omega))]
    replace HE:Hid (n=0):=hid (by rw[<-HE.out,hr0]);replace HE2:Hid (s=none):=hid (by rw[<-HE2.out,hr0]);clear hr0
    refine wpRP [(0,3),(1,3),(2,3),(3,3),(4,3),(5,3),(6,3),(7,3),(8,3),(11,3),(12,3),(13,3),(14,0),(15,3),(16,3),(17,3),(18,3),(19,3),(20,3),(21,3),(9,1),(10,3),(22,3),(23,3)] [] (fun w'=>Mod NoB wr w') hS ?_
    simp only[stz];refine qG _ _ _ _ _ _ _ _ rfl rfl rfl rfl rfl false (decide_eq_false (by omega)) ?_;simp only[stz]
    refine qG _ _ _ _ _ _ _ _ rfl rfl rfl rfl rfl true (decide_eq_true (by omega)) ?_;simp only[stz];refine xF rfl hS ?_;simp only[stz]
    have H5:=hid (Hr.out.keep0 hS);replace HM:Hid (Mod NoB w wr.drew):=hid (HM.out.trans0 hS);clear hS;generalize wr.drew=w5 at*;go_upto_region 24 with(fail)
    refine wpR [3,3,1] ?_;simp only[stz];refine wpD (wpCM func293 (jC (er:=5) H5.out (by decide) a) fun wf hrf=>?_);simp only[stz];have HF:=hid hrf;clear hrf
    go_wp2;go_ret;exact⟨by rw[HE.out];rfl,by rw[HE2.out];exact RrS.pre HM.out HF.out⟩
   have hfi:=HFI.out hsmall;have hfo:=fun w'=>rrForm_any q (by omega) w';have hsl:=(Hr.out.sl).midLe a (a+1+k) (by omega) (by omega)
   rw[show a+1+k-a=k+1 by omega,HCL.out]at hsl
   have hcap1:a+1+k<=cap:=by
    obtain⟨ad',cap',hq',hle,-⟩:=H.out.sl
    cases hq'
    omega
   obtain⟨fl,hfl⟩:∃fl,formN q=fl:=⟨_,rfl⟩;rw[hfl]at hfi;simp only[hfl]at hfo
   obtain⟨df,hdf⟩:∃df,decide ((⟨fl.toArray⟩:ByteArray)≠⟨(c::l).toArray⟩)=df:=⟨_,rfl⟩
   have hdf2:df= !decide (sizeN q=k):=by
    rw[<-hdf,<-decide_not];exact decide_eq_decide.2 (not_congr (bytes_inj.trans hfi))
   obtain⟨sv,hsv⟩:∃sv,sliced (some ⟨bk,off,none⟩) a (a+1+k) cap 1=sv:=⟨_,rfl⟩;rw[hsv]at hsl;have HSV:=hid hsv;have HDF:=hid hdf;clear hsv hdf hfi hfl
   refine wpRP [(0,3),(1,3),(2,3),(3,3),(4,3),(5,3),(6,3),(7,3),(8,3),(11,3),(12,3),(13,3),(14,0),(15,3),(16,3),(17,3),(18,3),(19,3),(20,3),(21,0),(9,1),(10,1),(22,0),(23,3)] [] (fun w'=>Mod NoB wr w') hS ?_
   simp only[stz];refine qG _ _ _ _ _ _ _ _ rfl rfl rfl rfl rfl false (decide_eq_false (by omega)) ?_;simp only[stz]
   refine qG _ _ _ _ _ _ _ _ rfl rfl rfl rfl rfl false (decide_eq_false (by omega)) ?_;simp only[stz]
   refine qE rfl (fun w'=>yY _ _ _ q rfl rfl (by kernel_rfl) underlying3 (by omega)) ?_;simp only[stz]
   refine wpLd 53 rb 0 (fun w' hS=>hS.cell id hcbr) underlying53 ?_;simp only[stz]
   refine qY _ _ _ _ (a:Int) 1 ((a+1:Nat):Int) rfl rfl rfl rfl (by omega) (by omega) (by omega) ?_;simp only[stz]
   refine qY _ _ _ _ ((a+1:Nat):Int) (k:Int) ((a+1+k:Nat):Int) rfl rfl rfl rfl (by omega) (by omega) (by omega) ?_;simp only[nmz]
   refine wpPi_sliceLH 53 5 _ _ _ _ _ _ a (a+1+k) 1 rfl rfl rfl rfl rfl underlying53 (by kernel_rfl) (by omega) hcap1 ?_;simp only[nmz]
   refine qQ rfl (fun w' hS=>zP 53 5 9 _ (by rfl) sv (by rw[<-HSV.out];rfl) (hsl.keep0 hS) underlying53 underlying5 underlying9) ?_;simp only[nmz]
   refine qM rfl (fun K hK=>?_);refine wpC func294 (hfo _) ?_;rintro e w5 ⟨hm5,v5,he5,hv5⟩;subst he5;replace hS:=hS.trans0 hm5;refine⟨_,rfl,hK _ _ hS ?_⟩;clear hK K
   try simp only[nmz]
   refine wpX rfl (zP 53 5 9 _ (by rfl) v5 (by rfl) (Bts.sl hv5) underlying53 underlying5 underlying9) hS ?_;try simp only[nmz]
   refine qQ rfl (fun w' hS=>exec_neq_str 9 _ _ _ (by rfl) ⟨fl.toArray⟩ ⟨(c::l).toArray⟩ (by rfl) (by rfl) df HDF.out) ?_;simp only[stz];have H5:=hid (Hr.out.keep0 hS)
   replace HM:Hid (Mod NoB w w5):=hid (HM.out.trans0 hS);clear hS hm5 hv5 hsl
   by_cases hsk:sizeN q=k
   ·rw[decide_eq_true hsk]at hdf2
    subst hdf2;have hr0:rNumL b (some a)=(q,some (a+1+k)):=by rw[HR1.out,if_neg (by omega)]
    replace HE:Hid (n=q):=hid (by rw[<-HE.out,hr0]);replace HE2:Hid (s=some (a+1+k)):=hid (by rw[<-HE2.out,hr0]);have hbox:=H5.out.box;clear hr0 HR1
    go_upto_region 26 with(fail);refine wpR [3,3,3,3,3,3,3,1] ?_;simp only[stz]
    refine qY _ _ _ _ (a:Int) 1 ((a+1:Nat):Int) rfl rfl rfl rfl (by omega) (by omega) (by omega) ?_;simp only[stz]
    refine qY _ _ _ _ ((a+1:Nat):Int) (k:Int) ((a+1+k:Nat):Int) rfl rfl rfl rfl (by omega) (by omega) (by omega) ?_;simp only[stz]
    refine wpD (qT 3 _ _ rb 1 (.int .i64 ((a+1+k:Nat):Int)) (by rfl) (by rfl) (by rfl) rfl (by kernel_rfl) _ _ hbox (by simp) (fun w6 hB6 hm6=>?_))
    have HT:Hid (RrS w5 w6 rb (.slice (some ⟨bk,off,none⟩) b.length cap) b (some (a+1+k))):=hid (H5.out.on hm6 (by omega) hB6);simp only[stz]
    go_upto_region 27 with(fail);refine wpR [3,3,3] ?_;simp only[stz];refine qE rfl (fun w'=>yY _ _ _ q rfl rfl (by kernel_rfl) underlying3 (by omega)) ?_
    simp only[stz];clear hbox hB6 hm6;go_wp2;go_ret;exact⟨by rw[HE.out];rfl,by rw[HE2.out];exact RrS.pre HM.out HT.out⟩
   ·rw[decide_eq_false hsk]at hdf2
    subst hdf2;have hr0:rNumL b (some a)=(0,none):=by rw[HR1.out,if_pos (.inr hsk)]
    replace HE:Hid (n=0):=hid (by rw[<-HE.out,hr0]);replace HE2:Hid (s=none):=hid (by rw[<-HE2.out,hr0]);clear hr0;go_upto_region 24 with(fail)
    refine wpR [3,3,1] ?_;simp only[stz];refine wpD (wpCM func293 (jC (er:=5) H5.out (by decide) a) fun wf hrf=>?_);simp only[stz];have HF:=hid hrf;clear hrf
    go_wp2;go_ret;exact⟨by rw[HE.out];rfl,by rw[HE2.out];exact RrS.pre HM.out HF.out⟩
end
def RTakeR(w:World)(rb:Nat)(bv:Value)(b x:List UInt8)(s:RS):Ending->World->Prop:=fun e w'=>RrS w w' rb bv b s/\∃v,e=.returned v/\Bts w.heap.size w' v x
theorem rBytesL_bad{b:List UInt8}{most:Nat}{s:RS}(h:(rNumL b s).2=none):xD b most s=([],none):=by
 have e:(rManyL b most s).2=none:=by
  unfold rManyL
  split
  ·rfl
  ·exact h
 unfold xD;rw[e]
 rfl
theorem rBytesL_long{b:List UInt8}{most:Nat}{s:RS}(h:most<(rNumL b s).1):xD b most s=([],none):=by
 unfold xD rManyL;rw[if_pos h]
 rfl
theorem rBytesL_on{b:List UInt8}{most:Nat}{s:RS}(h:¬most<(rNumL b s).1):xD b most s=jF b (rNumL b s).1 (rNumL b s).2:=by
 unfold xD rManyL;rw[if_neg h]
section
variable{w:World}{rb:Nat}{bv:Value}{b:List UInt8}{a:Nat}{e p:Int}
theorem rrBytes_any(h:RrI w rb bv b a e p)(most:Nat):Calls prog 295 #[.pointer (some ⟨rb,0,none⟩),.int .i64 most] w (RTakeR w rb bv b (xD b most (stOf a e)).1 (xD b most (stOf a e)).2):=by
 have hnum:=rrNum_any h;have hca:=h.cell.2.1;have hln:=h.len;have hwb:∀k,k=rb\/bv.ownBlock=some k->k<w.heap.size:=h.all
 have hbad:=rBytesL_bad (b:=b) (most:=most) (s:=stOf a e);have hlong:=rBytesL_long (b:=b) (most:=most) (s:=stOf a e)
 have hon:=rBytesL_on (b:=b) (most:=most) (s:=stOf a e);obtain⟨n,hne⟩:∃n,(rNumL b (stOf a e)).1=n:=⟨_,rfl⟩
 obtain⟨s,hse⟩:∃s,(rNumL b (stOf a e)).2=s:=⟨_,rfl⟩;rw[hne]at hnum hlong hon;rw[hse]at hnum hbad hon;generalize xD b most (stOf a e)=R at*;have HB:=hid hbad
 have HLG:=hid hlong;have HON:=hid hon;clear h hne hse hbad hlong hon;go_enter func295,ntmps295;go_upto_region 1 with(fail);refine wpR [3,3,3,1,3] ?_;simp only[stz]
 refine wpXd (v:=(.int .i64 a)) 3 rb 1 hca underlying3 trivial ?_;simp only[stz];go_upto_region 2 with(fail);refine wpR [3,1,3] ?_;simp only[stz]
 refine wpD (wpC func248 (hnum) ?_);rintro e2 w2 ⟨rfl,hr2⟩;refine⟨_,rfl,?_⟩;simp only[stz];obtain⟨⟨a2,e2,p2,hi2,hs2⟩,hm2⟩:=hr2;have hce:=hi2.cell.2.2.1
 have H2:=hid hi2;have HM2:Hid (Mod (fun k=>k=rb) w w2):=hid hm2
 by_cases he2:e2=0
 rotate_left
 ·rw[jB he2]at hs2
  have HF:Hid (R=([],none)):=hid (HB.out hs2.symm);have HR:Hid (RrS w w2 rb bv b none):=hid ⟨⟨a2,e2,p2,hi2,jB he2⟩,hm2⟩;clear hi2 hm2 hs2 hnum
  go_upto_region 3 with(fail);refine wpR [3,3,3,3,1,3,3] ?_;simp only[stz];refine wpXd (v:=(.int .i64 e2)) 33 rb 2 hce underlying33 trivial ?_;try simp only[nmz]
  refine qG _ _ _ _ _ _ _ _ rfl rfl rfl rfl rfl true (decide_eq_true he2) ?_;simp only[stz];go_wp2;go_ret
  exact⟨by rw[HF.out];exact HR.out,_,rfl,by rw[HF.out];exact bts_nil _ _⟩
 subst he2;rw[stOf_zero]at hs2;subst hs2;clear hnum hm2;go_upto_region 3 with(fail);refine wpR [3,3,3,3,1,3,3] ?_;simp only[stz]
 refine wpXd (v:=(.int .i64 0)) 33 rb 2 hce underlying33 trivial ?_;try simp only[nmz]
 refine qG _ _ _ _ _ _ _ _ rfl rfl rfl rfl rfl false rfl ?_;simp only[stz]
 by_cases hlg:most<n
 ·have hlz:(n:Int)>(most:Int):=by omega
  have HF:Hid (R=([],none)):=hid (HLG.out hlg);clear hi2;go_upto_region 6 with(fail);refine wpR [3,3,1] ?_;simp only[stz]
  refine wpD (wpC func293 (jC (er:=4) H2.out (by decide) a) ?_);rintro e3 w3 ⟨rfl,hr3⟩;refine⟨_,rfl,?_⟩;simp only[stz]
  have HR:Hid (RrS w w3 rb bv b none):=hid ⟨hr3.1,HM2.out.trans hr3.2 (fun _ _ h=>h)⟩;clear hr3;go_wp2;go_ret
  exact⟨by rw[HF.out];exact HR.out,_,rfl,by rw[HF.out];exact bts_nil _ _⟩
 have hlz:¬(n:Int)>(most:Int):=by omega
 have hR:=HON.out hlg;have hal:=hi2.al;obtain⟨ad,cap,rfl,hcap,-⟩:=Sl.at hi2.sl;have hcb2:=hi2.cell.1;have hca2:=hi2.cell.2.1;have hsl2:=hi2.sl
 have hlc:b.length<=cap:=by
  obtain⟨ad',cap',hq',hle,-⟩:=hi2.sl
  cases hq'
  exact hle
 clear hi2;go_upto_region 8 with(fail);have hS:Mod NoB w2 w2.drew:=(Mod.refl _ _).drew
 by_cases hsh:b.length-a2<n
 ·have HF:Hid (R=([],none)):=hid (by rw[hR];unfold jF;simp only;rw[if_pos hsh])
  clear hR;refine wpRZ [3,3,3,3,0,3,3,3,3,0,3,3,3] [] (fun w'=>Mod NoB w2 w') hS ?_;simp only[stz];refine wpLd 53 rb 0 (fun w' hS=>hS.cell id hcb2) underlying53 ?_
  simp only[nmz];refine wpPL ?_;simp only[stz];refine wpLd 3 rb 1 (fun w' hS=>hS.cell id hca2) underlying3 ?_;simp only[nmz]
  refine xB _ _ _ _ ((b.length:Nat):Int) (a2:Int) rfl rfl rfl rfl (by omega) (by omega) ?_;simp only[nmz]
  refine qG _ _ _ _ _ _ _ _ rfl rfl rfl rfl rfl true (decide_eq_true (by omega)) ?_;simp only[stz];have H3:=hid (H2.out.keep0 hS)
  have HM3:=hid (HM2.out.trans hS (fun _ _ h=>h.elim));clear hS;generalize w2.drew=w3 at*;go_upto_region 9 with(fail);refine wpR [3,3,1] ?_;simp only[stz]
  refine wpD (wpC func293 (jC (er:=6) H3.out (by decide) a) ?_);rintro e3 w4 ⟨rfl,hr4⟩;refine⟨_,rfl,?_⟩;simp only[stz]
  have HR:Hid (RrS w w4 rb (.slice ad b.length cap) b none):=hid ⟨hr4.1,HM3.out.trans hr4.2 (fun _ _ h=>h)⟩;clear hr4;go_wp2;go_ret
  exact⟨by rw[HF.out];exact HR.out,_,rfl,by rw[HF.out];exact bts_nil _ _⟩
 have HF:Hid (R=((b.drop a2).take n,some (a2+n))):=hid (by rw[hR];unfold jF;simp only;rw[if_neg hsh]);clear hR
 refine wpRZ [3,3,3,3,0,3,3,3,3,0,3,3,3] [] (fun w'=>Mod NoB w2 w') hS ?_;simp only[stz];refine wpLd 53 rb 0 (fun w' hS=>hS.cell id hcb2) underlying53 ?_
 simp only[nmz];refine wpPL ?_;simp only[stz];refine wpLd 3 rb 1 (fun w' hS=>hS.cell id hca2) underlying3 ?_;simp only[nmz]
 refine xB _ _ _ _ ((b.length:Nat):Int) (a2:Int) rfl rfl rfl rfl (by omega) (by omega) ?_;simp only[nmz]
 refine qG _ _ _ _ _ _ _ _ rfl rfl rfl rfl rfl false (decide_eq_false (by omega)) ?_;simp only[stz];have H3:=hid (H2.out.keep0 hS)
 have HM3:=hid (HM2.out.trans hS (fun _ _ h=>h.elim));have hcb3:=hS.cell id hcb2;have hca3:=hS.cell id hca2
 have hsl3:=(hsl2.keep0 hS).midLe a2 (a2+n) (by omega) (by omega);rw[show a2+n-a2=n by omega]at hsl3
 have hxl:((b.drop a2).take n).length=n:=by rw[List.length_take,List.length_drop];omega
 obtain⟨x,hx⟩:∃x,(b.drop a2).take n=x:=⟨_,rfl⟩;rw[hx]at HF hsl3 hxl;obtain⟨sv,hsv⟩:∃sv,sliced ad a2 (a2+n) cap 1=sv:=⟨_,rfl⟩;rw[hsv]at hsl3
 have HSV:=hid hsv;have s32:=HM3.out.size;clear hS hx hsv hcb2 hca2 hsl2;generalize w2.drew=w3 at*;go_upto_region 11 with(fail)
 have hS:Mod NoB w3 w3.drew:=(Mod.refl _ _).drew
 refine wpRP [(1,3),(2,3),(3,3),(4,0),(5,3),(6,3),(7,3),(8,0),(9,3),(10,3),(11,3),(12,0),(13,3),(14,3),(15,3),(0,1),(16,1),(17,3)] [] (fun w'=>Mod NoB w3 w') hS ?_
 simp only[stz];refine wpLd 53 rb 0 (fun w' hS=>hS.cell id hcb3) underlying53 ?_;simp only[stz];refine wpLd 3 rb 1 (fun w' hS=>hS.cell id hca3) underlying3 ?_;simp only[stz]
 refine wpLd 3 rb 1 (fun w' hS=>hS.cell id hca3) underlying3 ?_;simp only[stz]
 refine qY _ _ _ _ (a2:Int) (n:Int) ((a2+n:Nat):Int) rfl rfl rfl rfl (by omega) (by omega) (by omega) ?_;simp only[nmz]
 refine wpPi_sliceLH 53 5 _ _ _ _ _ _ a2 (a2+n) 1 rfl rfl rfl rfl rfl underlying53 (by kernel_rfl) (by omega) (by omega) ?_;simp only[nmz];refine qM rfl (fun K hK=>?_)
 refine zG 53 5 (by rfl) underlying53 (by kernel_rfl) (fun w4 hB4 hm4 hs4=>?_);replace hS:=hS.trans0 hm4;refine hK _ _ hS ?_;clear hK K;try simp only[nmz]
 refine qM rfl (fun K hK=>?_)
 refine xV _ _ (by rfl) w3.heap.size _ [] (by rfl) (xH _ hB4 (Nat.le_refl _)) sv x (by rw[<-HSV.out];rfl) (hsl3.keep0 hS).bsrc (by simp;omega) hS.size (fun v5 w5 ho5 hm5=>?_)
 rw[List.nil_append]at ho5
 have hT5:Mod NoB w3 w5:=hS.trans hm5 (fun k hk e=>by
  have e':some w3.heap.size=some k:=e
  cases e';omega)
 refine hK _ _ hT5 ?_;clear hK K;simp only[stz];rw[HSV.out];have H5:=hid (H3.out.keep0 hT5);have hca5:=hT5.cell id hca3;have hbox:=H5.out.box;have s35:=hT5.size
 have HM5:=hid (HM3.out.trans hT5 (fun _ _ h=>h.elim));have HV5:=hid ho5;have hrbw:rb<w3.heap.size:=by have:=hwb rb (.inl rfl);have:=HM3.out.size;omega
 clear hS hT5 hm5 ho5 hB4 hm4 hs4 hcb3 hca3 hsl3;go_upto_region 12 with(fail);refine wpR [3,3,3,3,1,3,3,3,3,1] ?_;simp only[stz]
 refine wpXd (v:=(.int .i64 a2)) 3 rb 1 hca5 underlying3 trivial ?_;simp only[stz]
 refine qY _ _ _ _ (a2:Int) (n:Int) ((a2+n:Nat):Int) rfl rfl rfl rfl (by omega) (by omega) (by omega) ?_;simp only[stz]
 refine wpD (qT 3 _ _ rb 1 (.int .i64 ((a2+n:Nat):Int)) (by rfl) (by rfl) (by rfl) rfl (by kernel_rfl) _ _ hbox (by simp) (fun w6 hB6 hm6=>?_))
 have HT:Hid (RrS w5 w6 rb (.slice ad b.length cap) b (some (a2+n))):=hid (H5.out.on hm6 (by omega) hB6)
 have HV6:=hid (Bts.keep HV5.out hm6 (fun k hk e=>by have e:k=rb:=e;have:=(Bts.lt HV5.out hk).1;omega));simp only[stz]
 have HR:Hid (RrS w w6 rb (.slice ad b.length cap) b (some (a2+n))):=hid ⟨HT.out.1,HM5.out.trans HT.out.2 (fun _ _ h=>h)⟩
 have HVF:Hid (Bts w.heap.size w6 v5 x):=hid (yW HV6.out s32);clear hbox hca5 hB6 hm6;go_wp2;go_ret
 exact⟨by rw[HF.out];exact HR.out,_,rfl,by rw[HF.out];exact HVF.out⟩
def RTextR(w:World)(rb:Nat)(bv:Value)(b x:List UInt8)(s:RS):Ending->World->Prop:=fun e w'=>RrS w w' rb bv b s/\e=.returned (.string ⟨x.toArray⟩)
theorem rrText_any(h:RrI w rb bv b a e p)(most:Nat):Calls prog 249 #[.pointer (some ⟨rb,0,none⟩),.int .i64 most] w (RTextR w rb bv b (xD b most (stOf a e)).1 (xD b most (stOf a e)).2):=by
 have hb:=rrBytes_any h most;clear h;go_enter func249,ntmps249;go_upto_region 1 with(fail);refine wpR [3,3,1,1,3] ?_;simp only[stz];refine wpD (wpC func295 (hb) ?_)
 rintro e w2 ⟨hr2,v,rfl,hv⟩;have HR2:=hid hr2;have HV:=hid hv;clear hr2 hv;refine⟨_,rfl,?_⟩;try simp only[nmz]
 refine wpX rfl (zP 53 5 9 _ (by rfl) v (by rfl) (Bts.sl HV.out) underlying53 underlying5 underlying9) trivial ?_;simp only[stz];go_wp2;go_ret
 exact⟨HR2.out,rfl⟩
end
def RIDR(w:World)(rb:Nat)(bv:Value)(b x:List UInt8)(s:RS):Ending->World->Prop:=fun e w'=>RrS w w' rb bv b s/\e=.returned (.agg (qA x))
def IdRow(b:List UInt8)(a j:Nat)(cur:Array Value):Prop:=cur.size=32/\∀t (h:a+t<b.length),t<j->cur[t]?=some (byteV b[a+t])
def RIDRel(w0:World)(ob:Nat)(b:List UInt8)(a:Nat)(i:Value)(w:World):Prop:=∃j:Nat,j<=32/\i=.int .i64 j/\∃cur,w.heap[ob]?=some (.cells cur 24 (0,0))/\IdRow b a j cur/\Mod (fun k=>k=ob) w0 w
theorem idRow_full{b:List UInt8}{a:Nat}{cur:Array Value}(h:IdRow b a 32 cur)(hl:a+32<=b.length):cur=qA ((b.drop a).take 32):=by
 have h32:((b.drop a).take 32).length=32:=by rw[List.length_take,List.length_drop];omega
 refine Array.ext_getElem? fun t=>?_
 by_cases ht:t<32
 ·rw[h.2 t (by omega) ht]
  unfold qA;rw[List.getElem?_toArray,List.getElem?_map,List.getElem?_eq_getElem (by omega),List.getElem_take,List.getElem_drop]
  rfl
 ·rw[Array.getElem?_eq_none (by rw[h.1];omega),Array.getElem?_eq_none (by rw[qD,h32];omega)]
theorem rIDL_bad{b:List UInt8}:rIDL b none=(zeros32,none):=rfl
theorem rIDL_short{b:List UInt8}{a:Nat}(h:b.length-a<32):rIDL b (some a)=(zeros32,none):=by
 unfold rIDL jF;simp only[if_pos h,if_true]
theorem rIDL_on{b:List UInt8}{a:Nat}(h:¬b.length-a<32):rIDL b (some a)=((b.drop a).take 32,some (a+32)):=by
 have h32:((b.drop a).take 32).length=32:=by rw[List.length_take,List.length_drop];omega
 unfold rIDL jF;simp only[if_neg h];rw[if_neg (by intro e;rw[e]at h32;simp at h32)]
section
variable{w:World}{rb:Nat}{bv:Value}{b:List UInt8}{a:Nat}{e p:Int}
theorem rrID_any(h:RrI w rb bv b a e p):Calls prog 296 #[.pointer (some ⟨rb,0,none⟩)] w (RIDR w rb bv b (rIDL b (stOf a e)).1 (rIDL b (stOf a e)).2):=by
 have H:=hid h;have hal:=h.al;have hln:=h.len;have hrb:=h.all rb (.inl rfl);have hbl:∀k,bv.ownBlock=some k->k<w.heap.size:=fun k hk=>h.all k (.inr hk)
 have hz32:(qA (List.replicate 32 0)).size=32:=idZ_size;obtain⟨R,hR⟩:∃R,rIDL b (stOf a e)=R:=⟨_,rfl⟩;have HRR:=hid hR;rw[hR];clear h hR
 go_enter func296,ntmps296;go_upto_region 0 with(fail);refine wpR [1] ?_;simp only[stz];refine wpD (qP 24 _ (by rfl) idZ (fun w1 hB1 hm1 hs1=>?_))
 replace hB1:w1.heap[w.heap.size]?=some (.cells (qA (List.replicate 32 0)) 24 (0,0)):=hB1;simp only[stz];go_upto_region 1 with(fail);refine wpR [1] ?_;simp only[stz]
 refine wpD (qP 24 _ (by rfl) idZ (fun w2 hB2 hm2 hs2=>?_));replace hB2:w2.heap[w1.heap.size]?=some (.cells (qA (List.replicate 32 0)) 24 (0,0)):=hB2
 simp only[stz];have hm02:=hm1.trans0 hm2;have hB12:=hm2.obj id hB1;have H2:=hid (H.out.keep0 hm02);have hce:=H2.out.cell.2.2.1;have s1:w.heap.size<w1.heap.size:=hs1
 have s2:w1.heap.size<w2.heap.size:=hs2;generalize hb2:w.heap.size=b2 at*;generalize hb3:w1.heap.size=b3 at*;have HM02:=hid hm02;clear hm1 hm2 hB1 hm02 hs1 hs2
 by_cases he:e=0
 rotate_left
 ·have HE:Hid (R=(zeros32,none)):=hid (by rw[<-HRR.out,jB he,rIDL_bad])
  go_upto_region 2 with(fail);refine wpR [3,3,3,3,1,3,3] ?_;simp only[stz];refine wpXd (v:=(.int .i64 e)) 33 rb 2 hce underlying33 trivial ?_;try simp only[nmz]
  refine qG _ _ _ _ _ _ _ _ rfl rfl rfl rfl rfl true (decide_eq_true he) ?_;simp only[stz];go_upto_region 3 with(fail);refine wpR [0,1] ?_;simp only[stz]
  refine qQ rfl (fun w' hS=>qL 24 [] [] _ (by rfl) (by rfl) built_id0) ?_;simp only[nmz]
  refine wpD (qF 24 _ _ b2 0 (qA (List.replicate 32 0)) (by rfl) (by rfl) (by rfl) (qR _) 32 (by kernel_rfl) hz32 _ _ hB12 (by rw[hz32];exact Nat.le_refl _) (fun w3 hB3 hm3=>?_))
  rw[qC rfl]at hB3;simp only[stz]
  have HT:Hid (RrS w w3 rb bv b none):=hid ⟨⟨a,e,p,H2.out.keep hm3 (fun e=>by have e:rb=b2:=e;omega) (fun k hk e=>by have e:k=b2:=e;have:=hbl k hk;omega),jB he⟩,(HM02.out.transB hm3 (by omega)).mono (fun _ _ h=>h.elim)⟩
  clear hm3;go_wp2;refine bodyPost_ret (results_cell_row (P:=prog) (ty:=24) rfl _ _ b2 _ _ _ _ (by rfl) hB3 underlying24 rfl (by rw[hz32];kernel_rfl)) rfl ?_
  exact⟨by rw[HE.out];exact HT.out,by rw[HE.out];rfl⟩
 subst he;have hR0:rIDL b (some a)=R:=HRR.out;obtain⟨ad,cap,hbv,hcap,hat⟩:=Sl.at H2.out.sl;subst hbv;have hcb:=H2.out.cell.1;have hca:=H2.out.cell.2.1
 go_upto_region 2 with(fail);refine wpR [3,3,3,3,1,3,3] ?_;simp only[stz];refine wpXd (v:=(.int .i64 0)) 33 rb 2 hce underlying33 trivial ?_;try simp only[nmz]
 refine qG _ _ _ _ _ _ _ _ rfl rfl rfl rfl rfl false rfl ?_;simp only[stz];go_upto_region 4 with(fail);have hS:Mod NoB w2 w2.drew:=(Mod.refl _ _).drew
 by_cases hsh:b.length-a<32
 ·have HE:Hid (R=(zeros32,none)):=hid (by rw[<-hR0,rIDL_short hsh])
  clear hR0;refine wpRZ [3,3,3,0,3,3,3,3,0,3,3,3] [] (fun w'=>Mod NoB w2 w') hS ?_;simp only[stz];refine wpLd 53 rb 0 (fun w' hS=>hS.cell id hcb) underlying53 ?_
  simp only[nmz];refine wpPL ?_;simp only[stz];refine wpLd 3 rb 1 (fun w' hS=>hS.cell id hca) underlying3 ?_;simp only[nmz]
  refine xB _ _ _ _ ((b.length:Nat):Int) (a:Int) rfl rfl rfl rfl (by omega) (by omega) ?_;simp only[nmz]
  refine qG _ _ _ _ _ _ _ _ rfl rfl rfl rfl rfl true (decide_eq_true (by omega)) ?_;simp only[stz];have H3:=hid (H2.out.keep0 hS);have hB3:=hS.obj id hB12
  have hca3:=hS.cell id hca;have HM3:=hid (HM02.out.trans0 hS);clear hS hat hcb hca hce;generalize w2.drew=w3 at*;go_upto_region 5 with(fail)
  refine wpR [3,3,3,3,1,1] ?_;simp only[stz];refine wpXd (v:=(.int .i64 a)) 3 rb 1 hca3 underlying3 trivial ?_;try simp only[nmz]
  refine wpD (wpC func293 (jC (er:=6) H3.out (by decide) a) ?_);rintro e4 w4 ⟨rfl,hr4⟩;refine⟨_,rfl,?_⟩;simp only[stz];have HR4:=hid hr4
  have hB4:=hr4.2.obj (fun e=>by have e:b2=rb:=e;omega) hB3;clear hr4;go_upto_region 6 with(fail);refine wpR [0,1] ?_;simp only[stz]
  refine qQ rfl (fun w' hS=>qL 24 [] [] _ (by rfl) (by rfl) built_id0) ?_;simp only[nmz]
  refine wpD (qF 24 _ _ b2 0 (qA (List.replicate 32 0)) (by rfl) (by rfl) (by rfl) (qR _) 32 (by kernel_rfl) hz32 _ _ hB4 (by rw[hz32];exact Nat.le_refl _) (fun w5 hB5 hm5=>?_))
  rw[qC rfl]at hB5;simp only[stz]
  have HT:Hid (RrS w w5 rb (.slice ad b.length cap) b none):=hid (by
   obtain⟨⟨a4,e4,p4,hi4,hs4⟩,hm4⟩:=HR4.out
   exact⟨⟨a4,e4,p4,hi4.keep hm5 (fun e=>by have e:rb=b2:=e;omega) (fun k hk e=>by have e:k=b2:=e;have:=hbl k hk;omega),hs4⟩,((HM3.out.mono (fun _ _ h=>h.elim)).trans hm4 (fun _ _ h=>h)).trans hm5 (fun k hk e=>by have e:k=b2:=e;omega)⟩)
  clear hm5 hB4 hB3;go_wp2;refine bodyPost_ret (results_cell_row (P:=prog) (ty:=24) rfl _ _ b2 _ _ _ _ (by rfl) hB5 underlying24 rfl (by rw[hz32];kernel_rfl)) rfl ?_
  exact⟨by rw[HE.out];exact HT.out,by rw[HE.out];rfl⟩
 have HE:Hid (R=((b.drop a).take 32,some (a+32))):=hid (by rw[<-hR0,rIDL_on hsh]);clear hR0
 have hx32:((b.drop a).take 32).length=32:=by rw[List.length_take,List.length_drop];omega
 refine wpRZ [3,3,3,0,3,3,3,3,0,3,3,3] [] (fun w'=>Mod NoB w2 w') hS ?_;simp only[stz];refine wpLd 53 rb 0 (fun w' hS=>hS.cell id hcb) underlying53 ?_
 simp only[nmz];refine wpPL ?_;simp only[stz];refine wpLd 3 rb 1 (fun w' hS=>hS.cell id hca) underlying3 ?_;simp only[nmz]
 refine xB _ _ _ _ ((b.length:Nat):Int) (a:Int) rfl rfl rfl rfl (by omega) (by omega) ?_;simp only[nmz]
 refine qG _ _ _ _ _ _ _ _ rfl rfl rfl rfl rfl false (decide_eq_false (by omega)) ?_;simp only[stz];have H3:=hid (H2.out.keep0 hS);have hB32:=hS.obj id hB12
 have hB33:=hS.obj id hB2;have HM3:=hid (HM02.out.trans0 hS);have s3:=hS.size;have HAT:=hid hat;have HSD:=hid hS;clear hS hcb hca hce hat;generalize w2.drew=w3 at*
 have HX:=hid hx32;have hb3r:¬rb=b3:=by omega
 have HR0:Hid (RIDRel w3 b3 b a (.int .i64 (0:Nat)) w3):=hid ⟨0,by omega,rfl,_,hB33,⟨hz32,fun t _ h=>by omega⟩,Mod.refl _ _⟩;clear hB33 hx32;go_wp2
 go_loopw [4] (RIDRel w3 b3 b a) (fun i _=>32-(intOf i).toNat)
 case atStart=>exact HR0.out
 case round=>
  rename World=>wr
  obtain⟨j,hj,rfl,cur,hBr,hrow,hmr⟩:=hrel;have Hr:=hid (H3.out.keep hmr (fun e=>hb3r e) (fun k hk e=>by have e:k=b3:=e;have:=hbl k hk;omega))
  have hcbr:=Hr.out.cell.1;have hcar:=Hr.out.cell.2.1
  by_cases hlt:j<32
  ·have hz:(j:Int)<32:=by omega
   have hil:a+j<b.length:=by omega
   obtain⟨bk,off,rfl,hown,-,hcc⟩:=HAT.out (a+j) hil;obtain⟨cs,-,hcR,hcA⟩:=hcc _ hil;obtain rfl:cs=#[byteV b[a+j]]:=hcR
   have hcr:=hmr.cell (fun e=>by have e:bk=b3:=e;have:=hbl bk hown;omega) (HSD.out.cell id (CellsAt.one.1 hcA));have hcs:=hrow.1;have HROW:=hid hrow
   obtain⟨x,hx⟩:∃x,b[a+j]=x:=⟨_,rfl⟩;rw[hx]at hcr;have HXX:=hid hx;clear hcc hcA hown hrow hx;go_upto_region 10 with(fail)
   have hS:Mod NoB wr wr.drew:=(Mod.refl _ _).drew;refine wpRZ [3,3,3,3,0,3,3,3,0,3,3,3,0,3,2] [14] (fun w'=>Mod NoB wr w') hS ?_;simp only[stz]
   refine wpLd 53 rb 0 (fun w' hS=>hS.cell id hcbr) underlying53 ?_;simp only[stz];refine wpLd 3 rb 1 (fun w' hS=>hS.cell id hcar) underlying3 ?_;simp only[stz]
   refine qY _ _ _ _ (a:Int) (j:Int) ((a+j:Nat):Int) rfl rfl rfl rfl (by omega) (by omega) (by omega) ?_;simp only[nmz];refine wpPI underlying53 1 hil ?_
   simp only[nmz];refine wpLd (v:=(byteV x)) 5 bk (off+(a+j)*1) (fun w' hS=>hS.cell id hcr) underlying5 ?_;simp only[nmz]
   refine qJ _ _ _ _ _ _ _ _ rfl rfl rfl rfl underlying24 (n:=1) (by kernel_rfl) hlt ?_;simp only[nmz];refine zB rfl (fun K hK=>?_)
   refine qT 5 _ _ b3 (j*1) (byteV x) (by rfl) (by rfl) (by rfl) rfl (by kernel_rfl) _ _ (hS.obj id hBr) (by rw[hcs];omega) (fun w5 hB5 hm5=>?_)
   have hmr5:=(hmr.trans hS (fun _ _ h=>h.elim)).trans hm5 (fun _ _ h=>h);refine hK _ _ ?_;clear hK K;simp only[stz]
   have HQ:Hid (RIDRel w3 b3 b a (.int .i64 ((j+1:Nat):Int)) w5):=hid ⟨j+1,by omega,rfl,_,hB5,⟨by simpa using hcs,fun t ht h=>by
    rw[Array.getElem?_setIfInBounds]
    by_cases e:j*1=t
    ·rw[if_pos e,if_pos (by rw[hcs];omega)]
     have e:t=j:=by omega
     subst e;rw[HXX.out]
    ·rw[if_neg e]
     exact HROW.out.2 t ht (by omega)⟩,hmr5⟩
   clear hS hmr hmr5 hm5 hB5 hBr hcr hcbr hcar hcs;go_wp2
   go_roundw
   case rel=>exact HQ.out
   case measure=>simp[intOf];omega
  ·have hz:¬(j:Int)<32:=by omega
   obtain rfl:j=32:=by omega
   have hcur:=idRow_full hrow (by omega);rw[hcur]at hBr;have hBr2:=hmr.obj (fun e=>by have e:b2=b3:=e;omega) hB32;have hbox:=Hr.out.box
   obtain⟨x,hx⟩:∃x,(b.drop a).take 32=x:=⟨_,rfl⟩;have hxl:=HX.out;have HE2:=HE.out;rw[hx]at hBr hxl HE2;replace HE:=hid HE2;clear HE2
   have hic:(qA x).size=32:=by rw[qD,hxl]
   have HMR:=hid hmr;clear hrow hcur hmr hx;go_upto_region 11 with(fail);refine wpR [3,3,3,3,1,3,3,3,1] ?_;simp only[stz]
   refine wpXd (v:=(.int .i64 a)) 3 rb 1 hcar underlying3 trivial ?_;try simp only[nmz]
   refine qY _ _ _ _ (a:Int) 32 ((a+32:Nat):Int) rfl rfl rfl rfl (by omega) (by omega) (by omega) ?_;simp only[stz]
   refine wpD (qT 3 _ _ rb 1 (.int .i64 ((a+32:Nat):Int)) (by rfl) (by rfl) (by rfl) rfl (by kernel_rfl) _ _ hbox (by simp) (fun w6 hB6 hm6=>?_))
   have HT:Hid (RrS wr w6 rb (.slice ad b.length cap) b (some (a+32))):=hid (Hr.out.on hm6 (by omega) hB6);simp only[stz]
   have hB6o:CellsAt w6 b3 0 (qA x):=CellsAt.whole (hm6.obj (fun e=>by have e:b3=rb:=e;omega) hBr)
   have hB62:=hm6.obj (fun e=>by have e:b2=rb:=e;omega) hBr2;have HM6:=hid hm6;clear hBr hBr2 hm6 hB6 hbox hcbr hcar;go_upto_region 12 with(fail);refine wpR [1,1] ?_
   simp only[stz];refine wpXA 24 b3 0 (qA x) hB6o underlying24 32 hic trivial ?_;try simp only[nmz]
   refine wpD (qF 24 _ _ b2 0 (qA x) (by rfl) (by rfl) (by rfl) (qR _) 32 (by kernel_rfl) hic _ _ hB62 (by rw[hic,hz32];exact Nat.le_refl _) (fun w7 hB7 hm7=>?_))
   rw[qC (by rw[hic,hz32])]at hB7;simp only[stz]
   have HF:Hid (RrS w w7 rb (.slice ad b.length cap) b (some (a+32))):=hid (by
    obtain⟨⟨a4,e4,p4,hi4,hs4⟩,hm4⟩:=HT.out
    exact⟨⟨a4,e4,p4,hi4.keep hm7 (fun e=>by have e:rb=b2:=e;omega) (fun k hk e=>by have e:k=b2:=e;have:=hbl k hk;omega),hs4⟩,(((HM3.out.mono (fun _ _ h=>h.elim)).trans HMR.out (fun k hk e=>by have e:k=b3:=e;omega)).trans hm4 (fun _ _ h=>h)).trans hm7 (fun k hk e=>by have e:k=b2:=e;omega)⟩)
   clear hm7 hB6o hB62;go_wp2;refine bodyPost_ret (results_cell_row (P:=prog) (ty:=24) rfl _ _ b2 _ _ _ _ (by rfl) hB7 underlying24 rfl (by rw[hic];kernel_rfl)) rfl ?_
   exact⟨by rw[HE.out];exact HF.out,by rw[HE.out]⟩
end
section
variable{w:World}{rb:Nat}{bv:Value}{b:List UInt8}{a:Nat}{e p:Int}
theorem RrS.obj{w1 w2:World}{s:RS}{n:Nat}{o:Obj}(h:RrS w1 w2 rb bv b s)(hn:n≠rb)(hc:w1.heap[n]?=some o):w2.heap[n]?=some o:=h.2.obj hn hc
def RDescR(w:World)(rb:Nat)(bv:Value)(b:List UInt8)(d:DescL)(s:RS):Ending->World->Prop:=fun x w'=>RrS w w' rb bv b s/\x=.returned (.agg (qB d))
theorem built_rreader(v:Value)(h:v.cells=#[v]):prog.built 351 [(0,v)]=some #[v,.int .i64 0,.int .i64 0,.int .i64 0]:=by
 have z:(prog.info? 351).bind (·.zero)=some (.agg #[.slice none 0 0,.int .i64 0,.int .i64 0,.int .i64 0]):=by kernel_rfl
 have p:xR prog 351=some [(0,1),(1,1),(2,2)]:=by kernel_rfl
 rw[zL z p,zD (off:=0) (size:=1) rfl (by rw[h];rfl) (by simp[Value.cells]),xT,h]
 rfl
def NewRr(w:World)(bv:Value)(b:List UInt8):Ending->World->Prop:=fun x w'=>∃rb,x=.returned (.pointer (some ⟨rb,0,none⟩))/\RrI w' rb bv b 0 0 0/\Mod NoB w w'/\w.heap.size<=rb
theorem rrNew_any{own:Bool}{G:Nat->Prop}{v:Value}{w:World}{b:List UInt8}(h:Sl own w G 1 ByteC v b)(hv:∀k,v.ownBlock=some k->k<w.heap.size)(hl:b.length<=4096):Calls prog 217 #[v] w (NewRr w v b):=by
 have H:=hid h.own1;have hvc:v.cells=#[v]:=by obtain⟨ad,cap,rfl,-,-⟩:=Sl.at h;rfl
 have hbr:=built_rreader v hvc;clear h;go_enter func217,ntmps217;go_upto_region 1 with(fail);refine wpR [3,0,1,3] ?_;simp only[stz]
 refine qQ rfl (fun w' hS=>qL 351 [(0,_)] [(0,v)] _ (by rfl) (by rfl) hbr) ?_;simp only[nmz]
 refine wpD (zT 351 _ _ (by rfl) (by rfl) (fun w1 hB1 hm1 hs1=>?_))
 replace hB1:w1.heap[w.heap.size]?=some (.cells #[v,.int .i64 0,.int .i64 0,.int .i64 0] 351 (0,0)):=hB1;simp only[stz]
 have HT:Hid (NewRr w v b (.returned (.pointer (some ⟨w.heap.size,0,none⟩))) w1):=hid ⟨_,rfl,⟨hB1,H.out.keep0 hm1,fun k hk=>⟨Nat.lt_of_lt_of_le (hv k hk) hm1.size,by have:=hv k hk;omega⟩,hl,by omega,fun _=>rfl⟩,hm1,Nat.le_refl _⟩
 clear hB1 hm1;go_wp2;go_ret;exact HT.out
theorem r11reads_any(h:RrI w rb bv b a e p):Calls prog 250 #[.pointer (some ⟨rb,0,none⟩)] w (RDescR w rb bv b (zS b (stOf a e)).1 (zS b (stOf a e)).2):=by
 have hall:=h.all;have hrl:=h.all rb (.inl rfl);obtain⟨m,hm⟩:∃m,rNumL b (stOf a e)=m:=⟨_,rfl⟩;obtain⟨i,hi⟩:∃i,rIDL b m.2=i:=⟨_,rfl⟩
 obtain⟨n,hn⟩:∃n,rNumL b i.2=n:=⟨_,rfl⟩;obtain⟨t,ht⟩:∃t,xD b 4096 n.2=t:=⟨_,rfl⟩
 have hd:zS b (stOf a e)=(⟨m.1,i.1,n.1,t.1⟩,t.2):=by unfold zS;simp only[hm,hi,hn,ht]
 rw[hd]
 have HN1:Hid (∀w',RrS w w' rb bv b (stOf a e)->Calls prog 248 #[.pointer (some ⟨rb,0,none⟩)] w' (RNumR w' rb bv b m.1 m.2)):=hid (fun w' hw'=>by
  obtain⟨⟨a',e',p',h',hs⟩,-⟩:=hw';have:=rrNum_any h'
  rwa[hs,hm]at this)
 have HN2:Hid (∀w',RrS w w' rb bv b m.2->Calls prog 296 #[.pointer (some ⟨rb,0,none⟩)] w' (RIDR w' rb bv b i.1 i.2)):=hid (fun w' hw'=>by
  obtain⟨⟨a',e',p',h',hs⟩,-⟩:=hw';have:=rrID_any h'
  rwa[hs,hi]at this)
 have HN3:Hid (∀w',RrS w w' rb bv b i.2->Calls prog 248 #[.pointer (some ⟨rb,0,none⟩)] w' (RNumR w' rb bv b n.1 n.2)):=hid (fun w' hw'=>by
  obtain⟨⟨a',e',p',h',hs⟩,-⟩:=hw';have:=rrNum_any h'
  rwa[hs,hn]at this)
 have HN4:Hid (∀w',RrS w w' rb bv b n.2->Calls prog 249 #[.pointer (some ⟨rb,0,none⟩),.int .i64 (4096:Nat)] w' (RTextR w' rb bv b t.1 t.2)):=hid (fun w' hw'=>by
  obtain⟨⟨a',e',p',h',hs⟩,-⟩:=hw';have:=rrText_any h' 4096
  rwa[hs,ht]at this)
 have hil:i.1.length=32:=by
  have:=(rIDL_ok (b:=b) (s:=m.2) (by rw[<-hm];exact rNumL_ok.1)).2
  rwa[hi]at this
 have HR0:Hid (RrS w w rb bv b (stOf a e)):=hid h.stay;have hzl:=zeros32_len;have his:(qA i.1).size=32:=by rw[qD,hil]
 obtain⟨m,s1⟩:=m;obtain⟨i,s2⟩:=i;obtain⟨n,s3⟩:=n;obtain⟨t,s4⟩:=t
 dsimp only at HN1 HN2 HN3 HN4 hil his |-
 clear h hm hi hn ht hd;go_enter func250,ntmps250;go_upto_region 0 with(fail);refine wpR [1] ?_;simp only[stz]
 refine wpD (qP 46 _ (by rfl) descZ_i (fun wx hBx hmx hsx=>?_));replace hBx:wx.heap[w.heap.size]?=some (.cells (qB descZ) 46 (0,0)):=hBx;simp only[stz]
 go_upto_region 1 with(fail);refine wpR [1] ?_;simp only[stz];refine wpD (qP 46 _ (by rfl) descZ_i (fun w1 hB1 hm1 hs1=>?_))
 replace hB1:w1.heap[wx.heap.size]?=some (.cells (qB descZ) 46 (0,0)):=hB1;simp only[stz];have hA1:=hm1.obj id hBx;have hb12:w.heap.size<wx.heap.size:=hsx
 generalize hb1:w.heap.size=b1 at*;generalize hb2:wx.heap.size=b2 at*;have HR1:Hid (RrS w w1 rb bv b (stOf a e)):=hid (HR0.out.post (hmx.trans0 hm1))
 replace hB1:w1.heap[b2]?=some (.cells (zX 0 zeros32 0 []) 46 (0,0)):=hB1;replace hall:∀k,k=rb\/bv.ownBlock=some k->k<w.heap.size:=by rw[hb1];exact hall
 clear hmx hm1 HR0 hBx hsx hs1;go_upto_region 2 with(fail);refine wpR [3,1,3,1] ?_;simp only[stz];refine wpD (wpC func248 ((HN1.out _ HR1.out)) ?_);rintro e w1x ⟨rfl,hr⟩
 have HR:=hid (HR1.out.trans hr);have HA:=hid (RrS.obj hr (by omega) hA1);have hB:=RrS.obj hr (by omega) hB1;clear hr;refine⟨_,rfl,?_⟩;simp only[stz]
 refine wpD (qT 3 _ _ b2 0 (.int .i64 m) (by rfl) (by rfl) (by rfl) rfl (by kernel_rfl) _ _ hB (by rw[qO hzl];omega) (fun w2 hB2 hmS=>?_))
 rw[descRow_put0]at hB2;have HR2:Hid (RrS w w2 rb bv b _):=hid (HR.out.keepN hall (Nat.le_refl _) hmS (by omega));have hA2:=hmS.objB (by omega) HA.out
 clear hmS hB HA HR HR1 hA1 hB1;simp only[stz];go_upto_region 3 with(fail);refine wpR [3,1,3,1] ?_;simp only[stz];refine wpD (wpC func296 ((HN2.out _ HR2.out)) ?_)
 rintro e w2x ⟨hr,rfl⟩;have HR:=hid (HR2.out.trans hr);have HA:=hid (RrS.obj hr (by omega) hA2);have hB:=RrS.obj hr (by omega) hB2;clear hr;refine⟨_,rfl,?_⟩
 simp only[stz]
 refine wpD (qF 24 _ _ b2 1 (qA i) (by rfl) (by rfl) (by rfl) (qR _) 32 (by kernel_rfl) his _ _ hB (by rw[qO hzl,his];omega) (fun w3 hB3 hmS=>?_))
 rw[descRow_put1 hzl hil]at hB3;have HR3:Hid (RrS w w3 rb bv b _):=hid (HR.out.keepN hall (Nat.le_refl _) hmS (by omega));have hA3:=hmS.objB (by omega) HA.out
 clear hmS hB HA HR HR2 hA2 hB2;simp only[stz];go_upto_region 4 with(fail);refine wpR [3,1,3,1] ?_;simp only[stz];refine wpD (wpC func248 ((HN3.out _ HR3.out)) ?_)
 rintro e w3x ⟨rfl,hr⟩;have HR:=hid (HR3.out.trans hr);have HA:=hid (RrS.obj hr (by omega) hA3);have hB:=RrS.obj hr (by omega) hB3;clear hr;refine⟨_,rfl,?_⟩
 simp only[stz];refine wpD (qT 3 _ _ b2 33 (.int .i64 n) (by rfl) (by rfl) (by rfl) rfl (by kernel_rfl) _ _ hB (by rw[qO hil];omega) (fun w4 hB4 hmS=>?_))
 rw[descRow_put33 hil]at hB4;have HR4:Hid (RrS w w4 rb bv b _):=hid (HR.out.keepN hall (Nat.le_refl _) hmS (by omega));have hA4:=hmS.objB (by omega) HA.out
 clear hmS hB HA HR HR3 hA3 hB3;simp only[stz];go_upto_region 5 with(fail);refine wpR [3,1,3,1] ?_;simp only[stz];refine wpD (wpC func249 ((HN4.out _ HR4.out)) ?_)
 rintro e w4x ⟨hr,rfl⟩;have HR:=hid (HR4.out.trans hr);have HA:=hid (RrS.obj hr (by omega) hA4);have hB:=RrS.obj hr (by omega) hB4;clear hr;refine⟨_,rfl,?_⟩
 simp only[stz]
 refine wpD (qT 9 _ _ b2 34 (.string ⟨t.toArray⟩) (by rfl) (by rfl) (by rfl) rfl (by kernel_rfl) _ _ hB (by rw[qO hil];omega) (fun w5 hB5 hmS=>?_))
 rw[descRow_put34 hil]at hB5;have HR5:Hid (RrS w w5 rb bv b _):=hid (HR.out.keepN hall (Nat.le_refl _) hmS (by omega));have hA5:=hmS.objB (by omega) HA.out
 clear hmS hB HA HR HR4 hA4 hB4;simp only[stz];have hrs:=qO (m:=m) (n:=n) (p:=t) hil;have hone:=zJ m i n t
 have hzs:(qB descZ).size=35:=qO hzl;go_upto_region 6 with(fail);refine wpR [1,1] ?_;simp only[stz]
 refine wpXA 46 b2 0 (zX m i n t) (CellsAt.whole hB5) underlying46 35 hrs trivial ?_;try simp only[nmz]
 refine wpD (qF 46 _ _ b1 0 (zX m i n t) (by rfl) (by rfl) (by rfl) hone 35 (by kernel_rfl) hrs _ _ hA5 (by omega) (fun w6 hB6 hm6=>?_))
 rw[qC (by rw[hrs,hzs])]at hB6;have HR6:=hid (HR5.out.keepN hall (Nat.le_refl _) hm6 (by omega));clear hB5 hA5 hm6;simp only[stz];go_wp2
 refine bodyPost_ret (results_cell_row (P:=prog) (ty:=46) rfl _ _ b1 _ _ _ _ (by rfl) hB6 underlying46 rfl (by rw[hrs];kernel_rfl)) rfl ?_;exact⟨HR6.out,rfl⟩
end
end
section
open Go.RowKit Go.Shelf Go.Proofs.Tryz Go.Lib
section
variable{w:World}{base:Nat}{cs:Array Value}{m:ManL}
theorem r11Descs_any(h:ManC base w cs m)(hl:m.layers.length<=16/\m.subs.length<=16):Calls prog 165 #[.agg cs] w (DescsR w (zE m)):=by
 obtain⟨hid,lv,sv,rfl,hlv,hsv⟩:=h;obtain⟨hl1,hl2⟩:=hl;have HL:=Lib.hid hlv;have HS:=Lib.hid hsv
 have hlk:∀q,lv.ownBlock=some q->q<w.heap.size:=fun q hq=>(hlv.lt hq).2;have hsk:∀q,sv.ownBlock=some q->q<w.heap.size:=fun q hq=>(hsv.lt hq).2
 have hl1c:lv.oneCell'=true:=yF hlv;have hs1c:sv.oneCell'=true:=yF hsv;obtain⟨adl,cpl,rfl⟩:=hlv.slice;obtain⟨ads,cps,rfl⟩:=hsv.slice
 have hmk:=man_kind m.kind m.title m.config (.slice adl m.layers.length cpl) (.slice ads m.subs.length cps)
 have hm37:=man_37 (k:=m.kind) (t:=m.title) (lv:=.slice adl m.layers.length cpl) (sv:=.slice ads m.subs.length cps) hid
 have hm38:=man_38 (k:=m.kind) (t:=m.title) (lv:=.slice adl m.layers.length cpl) (sv:=.slice ads m.subs.length cps) hid
 have hmcf:=man_config (k:=m.kind) (t:=m.title) (lv:=.slice adl m.layers.length cpl) (sv:=.slice ads m.subs.length cps) hid
 have hds:(qB m.config).size=35:=qO hid
 obtain⟨cs,hcs⟩:∃cs,qN m.kind m.title m.config (.slice adl m.layers.length cpl) (.slice ads m.subs.length cps)=cs:=⟨_,rfl⟩;rw[hcs]at hmk hm37 hm38 hmcf |-
 have HDE:=Lib.hid (jK hid);clear hcs hlv hsv;go_enter func165,ntmps165;go_upto_region 0 with(fail);refine wpR [1,3] ?_;simp only[stz]
 refine wpD (zT 163 _ _ (by rfl) (by rfl) (fun w1 hB1 hm1 hs1=>?_));replace hB1:w1.heap[w.heap.size]?=some (.cells cs 163 (0,0)):=hB1;simp only[stz]
 have hck:w1.cell? ⟨w.heap.size,0,none⟩=some (.int .i64 m.kind):=by rw[cell_of_row _ _ _ _ _ _ hB1];exact hmk
 have hc37:w1.cell? ⟨w.heap.size,37,none⟩=some (.slice adl m.layers.length cpl):=by rw[cell_of_row _ _ _ _ _ _ hB1];exact hm37
 have hc38:w1.cell? ⟨w.heap.size,38,none⟩=some (.slice ads m.subs.length cps):=by rw[cell_of_row _ _ _ _ _ _ hB1];exact hm38
 have hcc:CellsAt w1 w.heap.size 2 (qB m.config):=CellsAt.of_obj hB1 hmcf;have HM1:=Lib.hid hm1;replace HL:=Lib.hid (HL.out.keep0 hm1)
 replace HS:=Lib.hid (HS.out.keep0 hm1);have hs1':w.heap.size<w1.heap.size:=hs1;generalize hb1:w.heap.size=b1 at*;clear hm1 hB1 hmk hm37 hm38 hmcf
 by_cases hk3:m.kind=3
 ·have hkz:(m.kind:Int)=3:=by omega
  have hdl:zE m=[m.config]++m.layers++m.subs:=by unfold zE;rw[if_pos hk3]
  have HDL:=Lib.hid hdl;clear hdl;go_upto_region 2 with(fail);refine wpR [3,1,3] ?_;simp only[stz];refine wpXd (v:=(.int .i64 m.kind)) 3 b1 0 hck underlying3 trivial ?_
  try simp only[nmz]
  refine qE (v:=?_) rfl (fun w'=>?_) ?_;rotate_left;·(go_simp;try with_reducible rfl)
  simp only[stz];go_upto_region 3 with(fail);refine wpR [3,3,1,1,1,3] ?_;simp only[stz];refine wpXA 46 b1 2 (qB m.config) hcc underlying46 35 hds trivial ?_
  try simp only[nmz]
  refine wpD (qU 161 46 _ (.agg (qB m.config)) (.agg (qB descZ)) 35 (by rfl) (by rfl) underlying161 (by kernel_rfl) (by omega) (by omega) hds (fun w3 hB3 hm3 hs3=>?_))
  have hsrc:=jM (enc:=descE) (e:=46) (x:=m.config) xZ (by rw[HDE.out];exact hB3);have h3s:=hm3.size;try simp only[nmz]
  refine wpD (wp_gat descE _ _ 161 46 (.agg (qB descZ)) 35 64 (by rfl) underlying161 desc_i desc_zs (by omega) xY w3.heap.size _ [] (by rfl) (Gat.nil _ _ _ _ _) _ [m.config] (by rfl) hsrc (by unfold maxLen;simp) (by simp) (Nat.le_refl _) (fun v4 w4 hg4 hm4=>?_))
  have hm4':Mod NoB w3 w4:=hm4.mono (fun k hk e=>by cases e);rw[List.nil_append]at hg4;simp only[stz];have hm14:=hm3.trans0 hm4';have h34:=hm4'.size
  have HM4:=Lib.hid (HM1.out.trans0 hm14);replace HL:=Lib.hid (HL.out.keep0 hm14);replace HS:=Lib.hid (HS.out.keep0 hm14);replace hc37:=hm14.cell id hc37
  replace hc38:=hm14.cell id hc38;have HG2:=Lib.hid hg4
  have hv2:∀q,v4.ownBlock=some q->b1<q/\q<w4.heap.size:=fun q hq=>by
   have:=hg4.lt hq;omega
  have hv1c:v4.oneCell'=true:=yF hg4;have h14s:=hm14.size;clear hm3 hm4 hm4' hm14 hB3 hsrc hg4 hck hcc;go_upto_region 4 with(fail)
  have hS:Mod (fun q=>b1<q) w4 w4.drew:=(Mod.refl _ _).drew;have hg4d:=HG2.out.keep0 (Mod.refl NoB w4).drew
  refine wpRP [(0,3),(1,3),(2,0),(4,3),(5,0),(3,1),(6,1),(7,3)] [] (fun w'=>Mod (fun q=>b1<q) w4 w') hS ?_;simp only[stz]
  refine wpLd 161 b1 37 (fun w' hS=>hS.cell (fun e=>Nat.lt_irrefl _ e) hc37) underlying161 ?_;simp only[stz]
  refine wpLd 161 b1 38 (fun w' hS=>hS.cell (fun e=>Nat.lt_irrefl _ e) hc38) underlying161 ?_;simp only[nmz];refine qM rfl (fun K hK=>?_)
  refine wp_gat descE _ _ 161 46 (.agg (qB descZ)) 35 64 (by rfl) underlying161 desc_i desc_zs (by omega) xY w3.heap.size _ [m.config] (by rfl) hg4d _ m.layers (by rfl) (HL.out.keep hS (fun q hq e=>by have:=hlk q hq;have e':b1<q:=e;omega)).src (by unfold maxLen;simp;omega) (by simp;omega) (by have:=hS.size;omega) (fun v5 w5 hg5 hm5=>?_)
  have hS5:Mod (fun q=>v4.ownBlock=some q) w4 w5:=(show Mod (fun q=>v4.ownBlock=some q) w4 w4.drew from(Mod.refl _ _).drew).trans hm5 (fun _ _ h=>h)
  have hS5b:Mod (fun q=>b1<q) w4 w5:=hS5.mono (fun k _ e=>(hv2 k e).1);refine hK _ _ hS5b ?_;clear hK K;try simp only[nmz]
  refine qM rfl (fun K hK=>?_)
  refine wp_gat descE _ _ 161 46 (.agg (qB descZ)) 35 64 (by rfl) underlying161 desc_i desc_zs (by omega) xY w3.heap.size _ ([m.config]++m.layers) (by rfl) hg5 _ m.subs (by rfl) (HS.out.keep hS5 (fun q hq e=>by have:=hsk q hq;have:=hv2 q e;omega)).src (by unfold maxLen;simp;omega) (by simp;omega) (by have:=hS5.size;omega) (fun v6 w6 hg6 hm6=>?_)
  have hm46:Mod NoB w w6:=(HM4.out.trans hS5 (fun k hk e=>by have:=hv2 k e;omega)).trans hm6 (fun k hk e=>by have:=hg5.lt e;omega)
  have hS6b:Mod (fun q=>b1<q) w4 w6:=hS5b.trans hm6 (fun k _ e=>by have:=hg5.lt e;omega)
  have HR:Hid (DescsR w (zE m) (.returned v6) w6):=Lib.hid ⟨hm46,v6,rfl,by rw[HDL.out];exact hg6.base (by omega)⟩;refine hK _ _ hS6b ?_
  clear hm46 hg5 hg6 hm5 hm6 hS5 hS5b hS6b;clear hK K;simp only[stz];clear hS hg4d hc37 hc38;go_wp2;go_ret;exact HR.out
 ·have hkz:¬(m.kind:Int)=3:=by omega
  have hdl:zE m=m.layers++m.subs:=by unfold zE;rw[if_neg hk3];rfl
  have HDL:=Lib.hid hdl;clear hdl;go_upto_region 2 with(fail);refine wpR [3,1,3] ?_;simp only[stz];refine wpXd (v:=(.int .i64 m.kind)) 3 b1 0 hck underlying3 trivial ?_
  try simp only[nmz]
  refine qE (v:=?_) rfl (fun w'=>?_) ?_;rotate_left;·(go_simp;try with_reducible rfl)
  simp only[stz];clear hck hcc;go_upto_region 4 with(fail);have hS:Mod (fun q=>b1<q) w1 w1.drew:=(Mod.refl _ _).drew
  refine wpRP [(0,3),(1,3),(2,0),(4,3),(5,0),(3,1),(6,1),(7,3)] [] (fun w'=>Mod (fun q=>b1<q) w1 w') hS ?_;simp only[stz]
  refine wpLd 161 b1 37 (fun w' hS=>hS.cell (fun e=>Nat.lt_irrefl _ e) hc37) underlying161 ?_;simp only[stz]
  refine wpLd 161 b1 38 (fun w' hS=>hS.cell (fun e=>Nat.lt_irrefl _ e) hc38) underlying161 ?_;simp only[nmz];refine qM rfl (fun K hK=>?_)
  refine wp_gat descE _ _ 161 46 (.agg (qB descZ)) 35 64 (by rfl) underlying161 desc_i desc_zs (by omega) xY w1.heap.size _ [] (by rfl) (Gat.nil _ _ _ _ _) _ m.layers (by rfl) (HL.out.keep hS (fun q hq e=>by have:=hlk q hq;have e':b1<q:=e;omega)).src (by unfold maxLen;simp;omega) (by simp;omega) hS.size (fun v5 w5 hg5 hm5=>?_)
  rw[List.nil_append]at hg5;have hS5:Mod NoB w1 w5:=(show Mod NoB w1 w1.drew from(Mod.refl _ _).drew).trans hm5 (fun k hk e=>by cases e)
  have hS5b:Mod (fun q=>b1<q) w1 w5:=hS5.mono (fun k _ e=>e.elim);refine hK _ _ hS5b ?_;clear hK K;try simp only[nmz]
  refine qM rfl (fun K hK=>?_)
  refine wp_gat descE _ _ 161 46 (.agg (qB descZ)) 35 64 (by rfl) underlying161 desc_i desc_zs (by omega) xY w1.heap.size _ m.layers (by rfl) hg5 _ m.subs (by rfl) (HS.out.keep0 hS5).src (by unfold maxLen;omega) (by omega) hS5.size (fun v6 w6 hg6 hm6=>?_)
  have hm46:Mod NoB w w6:=(HM1.out.trans0 hS5).trans hm6 (fun k hk e=>by have:=hg5.lt e;omega)
  have hS6b:Mod (fun q=>b1<q) w1 w6:=hS5b.trans hm6 (fun k _ e=>by have:=hg5.lt e;omega)
  have HR:Hid (DescsR w (zE m) (.returned v6) w6):=Lib.hid ⟨hm46,v6,rfl,by rw[HDL.out];exact hg6.base (by omega)⟩;refine hK _ _ hS6b ?_
  clear hm46 hg5 hg6 hm5 hm6 hS5 hS5b hS6b;clear hK K;simp only[stz];clear hS hc37 hc38;go_wp2;go_ret;exact HR.out
end
theorem r13tree_any(n:Nat)(w:World):Calls prog 163 #[.int .i64 n] w (RetE (.bool (decide (n=3\/n=4))) w):=by
 by_cases h3:n=3
 ·subst h3
  go_enter func163,ntmps163;go_wp2;go_ret;exact⟨rfl,rfl⟩
 have hz3:¬(n:Int)=3:=by omega
 by_cases h4:n=4
 ·subst h4
  go_enter func163,ntmps163;go_wp2;go_ret;exact⟨rfl,rfl⟩
 have hz4:¬(n:Int)=4:=by omega
 have hd:decide (n=3\/n=4)=false:=decide_eq_false (by omega);rw[hd];go_enter func163,ntmps163;go_wp2;go_ret;exact⟨by simp_all,rfl⟩
end
end Go.Proofs.YtjeonjoifjbohaaGreat
