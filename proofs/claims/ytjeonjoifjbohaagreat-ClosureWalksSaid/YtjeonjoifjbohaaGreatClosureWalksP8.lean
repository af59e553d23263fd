/- What the statement ClosureWalks needs, part 8. -/
import Derived.Test.YtjeonjoifjbohaaGreatClosureWalksP7
set_option linter.unusedVariables false
set_option linter.unusedSimpArgs false
set_option linter.unnecessarySimpa false
set_option linter.unusedSectionVars false
set_option maxRecDepth 10000
set_option maxHeartbeats 8000000
namespace Go.Proofs.YtjeonjoifjbohaaGreat
section
open Go.RowKit Go.Shelf Go.Proofs.Tryz Go.Lib
section
variable{w:World}{rb:Nat}{bv:Value}{b:List UInt8}{a:Nat}{e p:Int}
theorem RrS.keepS{w1 w2:World}{s:RS}{S:Nat->Prop}(h:RrS w w1 rb bv b s)(h0:∀k,k=rb\/bv.ownBlock=some k->k<w.heap.size)(hm:Mod S w1 w2)(hS:∀k,S k->w.heap.size<=k):RrS w w2 rb bv b s:=by
 obtain⟨⟨a,e,p,hi,hst⟩,hM⟩:=h
 exact⟨⟨a,e,p,hi.keep hm (fun e=>by have:=hS _ e;have:=h0 rb (.inl rfl);omega) (fun k hk e=>by have:=hS _ e;have:=h0 k (.inr hk);omega),hst⟩,hM.trans hm (fun k hk e=>by have:=hS _ e;omega)⟩
def RManR(w:World)(rb:Nat)(bv:Value)(b:List UInt8)(r:ManL×RS×Bool):Ending->World->Prop:=fun x w'=>RrS w w' rb bv b r.2.1/\∃(cs:Array Value)(er at_:Int),x=.returned (.tuple #[.agg cs,.agg #[.int .i64 er,.int .i64 at_]])/\(er=0↔r.2.2=true)/\(er=0->at_=0)/\ManC w.heap.size w' cs r.1
def RManyRel(w0:World)(rb:Nat)(bv:Value)(b:List UInt8)(s:RS)(n b1 b2 b3:Nat)(row:Array Value)(v i:Value)(w:World):Prop:=∃k:Nat,k<=n/\i=.int .i64 k/\RrS w0 w rb bv b (zF b k s).2/\GatD (b3+1) w v (zF b k s).1/\b3<w.heap.size/\
 w.heap[b1]?=some (.cells (qN 0 [] descZ (.slice none 0 0) (.slice none 0 0)) 163 (0,0))/\w.heap[b2]?=some (.cells #[.int .i64 0,.int .i64 0] 255 (0,0))/\w.heap[b3]?=some (.cells row 163 (0,0))
theorem built_fault0:prog.built 255 []=some #[.int .i64 0,.int .i64 0]:=by
 have z:(prog.info? 255).bind (·.zero)=some (.agg #[.int .i64 0,.int .i64 0]):=by kernel_rfl
 have p:xR prog 255=some [(0,1),(1,1)]:=by kernel_rfl
 rw[zL z p,xT]
theorem r11read_any(h:RrI w rb bv b 0 0 p):Calls prog 218 #[.pointer (some ⟨rb,0,none⟩),.int .i64 b.length] w (RManR w rb bv b (manR b)):=by
 have hall:=h.all;have hrl:=h.all rb (.inl rfl);have hbl:=h.len;have hst:=h.stay;rw[stOf_zero]at hst;have HST:=hid hst
 have HN:=hid (show ∀(w':World)(s':RS),RrS w w' rb bv b s'->Calls prog 248 #[.pointer (some ⟨rb,0,none⟩)] w' (RNumR w' rb bv b (rNumL b s').1 (rNumL b s').2)from fun w' s' hw'=>by
  obtain⟨⟨a',e',p',h',hs⟩,-⟩:=hw';have:=rrNum_any h'
  rwa[hs]at this)
 have HT:=hid (show ∀(w':World)(s':RS),RrS w w' rb bv b s'->Calls prog 249 #[.pointer (some ⟨rb,0,none⟩),.int .i64 (4096:Nat)] w' (RTextR w' rb bv b (xD b 4096 s').1 (xD b 4096 s').2)from fun w' s' hw'=>by
  obtain⟨⟨a',e',p',h',hs⟩,-⟩:=hw';have:=rrText_any h' 4096
  rwa[hs]at this)
 have HD:=hid (show ∀(w':World)(s':RS),RrS w w' rb bv b s'->Calls prog 250 #[.pointer (some ⟨rb,0,none⟩)] w' (RDescR w' rb bv b (zS b s').1 (zS b s').2)from fun w' s' hw'=>by
  obtain⟨⟨a',e',p',h',hs⟩,-⟩:=hw';have:=r11reads_any h'
  rwa[hs]at this)
 have HL:=hid (show ∀(w':World)(s':RS),RrS w w' rb bv b s'->∃r:Int,0<=r/\r<=4096/\Calls prog 220 #[.pointer (some ⟨rb,0,none⟩)] w' (RetM (.int .i64 r) w')from fun w' s' hw'=>by
  obtain⟨⟨a',e',p',h',hs⟩,-⟩:=hw'
  refine⟨_,?_,?_,rrRest_any h'⟩<;>have:=h'.al<;>have:=h'.len<;>split<;>omega)
 obtain⟨f,hf⟩:∃f,rNumL b (some 0)=f:=⟨_,rfl⟩;obtain⟨k,hk⟩:∃k,rNumL b f.2=k:=⟨_,rfl⟩;obtain⟨t,ht⟩:∃t,xD b 4096 k.2=t:=⟨_,rfl⟩
 have HMR:Hid (manR b=if f.1≠77 then(manZ,f.2,false)else if k.1≠3/\k.1≠4 then({ manZ with kind:=k.1 },k.2,false)
  else if(if k.1=3 then 16 else 8)<(rNumL b (if k.1=3 then zS b t.2 else(descZ,t.2)).2).1 then(⟨k.1,t.1,(if k.1=3 then zS b t.2 else(descZ,t.2)).1,[],[]⟩,(rNumL b (if k.1=3 then zS b t.2 else(descZ,t.2)).2).2,false)
  else(⟨k.1,t.1,(if k.1=3 then zS b t.2 else(descZ,t.2)).1,if k.1=3 then(zF b (rNumL b (if k.1=3 then zS b t.2 else(descZ,t.2)).2).1 (rNumL b (if k.1=3 then zS b t.2 else(descZ,t.2)).2).2).1 else [],if k.1=3 then []else(zF b (rNumL b (if k.1=3 then zS b t.2 else(descZ,t.2)).2).1 (rNumL b (if k.1=3 then zS b t.2 else(descZ,t.2)).2).2).1⟩,(zF b (rNumL b (if k.1=3 then zS b t.2 else(descZ,t.2)).2).1 (rNumL b (if k.1=3 then zS b t.2 else(descZ,t.2)).2).2).2,true)):=hid (by
  unfold manR
  simp only[hf,hk,ht])
 have HK2:Hid (∀w',RrS w w' rb bv b f.2->Calls prog 248 #[.pointer (some ⟨rb,0,none⟩)] w' (RNumR w' rb bv b k.1 k.2)):=hid (fun w' hw'=>by
  have:=HN.out w' _ hw'
  rwa[hk]at this)
 have HT2:Hid (∀w',RrS w w' rb bv b k.2->Calls prog 249 #[.pointer (some ⟨rb,0,none⟩),.int .i64 (4096:Nat)] w' (RTextR w' rb bv b t.1 t.2)):=hid (fun w' hw'=>by
  have:=HT.out w' _ hw'
  rwa[ht]at this)
 have HN1:Hid (∀w',RrS w w' rb bv b (some 0)->Calls prog 248 #[.pointer (some ⟨rb,0,none⟩)] w' (RNumR w' rb bv b f.1 f.2)):=hid (fun w' hw'=>by
  have:=HN.out w' _ hw'
  rwa[hf]at this)
 have hfb:=(rNumL_ok (b:=b) (s:=some 0)).2.1;have hkb:=(rNumL_ok (b:=b) (s:=f.2)).2.1;rw[hf]at hfb;rw[hk]at hkb;obtain⟨f,s1⟩:=f;obtain⟨k,s2⟩:=k
 obtain⟨t,s3⟩:=t
 dsimp only at HMR HK2 HT2 HN1 hfb hkb
 generalize manR b=MRR at*;clear h hst hf hk ht HT;have hzi:=qV;have hz39:(qN 0 [] descZ (.slice none 0 0) (.slice none 0 0)).size=39:=qS hzi
 go_enter func218,ntmps218;go_upto_region 0 with(fail);refine wpR [1,1] ?_;simp only[stz];refine wpD (qP 163 _ (by rfl) manZ_i (fun wx hBx hmx hsx=>?_))
 replace hBx:wx.heap[w.heap.size]?=some (.cells (qN 0 [] descZ (.slice none 0 0) (.slice none 0 0)) 163 (0,0)):=hBx;try simp only[nmz]
 refine wpD (qP 255 _ (by rfl) fltZ (fun wy hBy hmy hsy=>?_));replace hBy:wy.heap[wx.heap.size]?=some (.cells #[.int .i64 0,.int .i64 0] 255 (0,0)):=hBy
 simp only[stz];go_upto_region 1 with(fail);refine wpR [1] ?_;simp only[stz];refine wpD (qP 163 _ (by rfl) manZ_i (fun wz hBz hmz hsz=>?_))
 replace hBz:wz.heap[wy.heap.size]?=some (.cells (qN 0 [] descZ (.slice none 0 0) (.slice none 0 0)) 163 (0,0)):=hBz;simp only[stz]
 have hA:=(hmy.trans0 hmz).obj id hBx;have hC:=hmz.obj id hBy;have hB:=hBz;have hb12:w.heap.size<wx.heap.size:=hsx;have hb23:wx.heap.size<wy.heap.size:=hsy
 have HR:Hid (RrS w wz rb bv b (some 0)):=hid (HST.out.post ((hmx.trans0 hmy).trans0 hmz));clear hmx hmy hmz hBx hBy hBz hsx hsy hsz HST;generalize hb1:w.heap.size=b1 at*
 generalize hb2:wx.heap.size=b2 at*;generalize hb3:wy.heap.size=b3 at*;replace hall:∀k,k=rb\/bv.ownBlock=some k->k<w.heap.size:=by rw[hb1];exact hall
 go_upto_region 2 with(fail);refine wpR [3,1,3] ?_;simp only[stz];refine wpD (wpC func248 (HN1.out _ HR.out) ?_);rintro e w1 ⟨rfl,hr⟩;replace hA:=RrS.obj hr (by omega) hA
 replace hB:=RrS.obj hr (by omega) hB;replace hC:=RrS.obj hr (by omega) hC;replace HR:=hid (HR.out.trans hr);clear hr;refine⟨_,rfl,?_⟩;try simp only[nmz]
 refine qE (v:=?_) rfl (fun w'=>?_) ?_;rotate_left;·(go_simp;try with_reducible rfl)
 simp only[stz]
 by_cases h77:f=77
 rotate_left
 ·have hz:¬(f:Int)=77:=by omega
  have hr0:=HMR.out;rw[if_pos h77]at hr0;have HE:=hid hr0;clear hr0
  have hszr:(qN 0 [] descZ (.slice none 0 0) (.slice none 0 0)).size=39:=qS (by first|exact qV|assumption)
  have hone:∀c∈qN 0 [] descZ (.slice none 0 0) (.slice none 0 0),c.oneCell'=true:=zU rfl rfl;go_upto_region 3 with(fail);refine wpR [1,0,1,1] ?_
  simp only[stz];refine wpXA 163 b3 0 (qN 0 [] descZ (.slice none 0 0) (.slice none 0 0)) (CellsAt.whole hB) underlying163 39 hszr trivial ?_;try simp only[nmz]
  refine qQ rfl (fun w' hS=>qL 255 [(0,_)] [(0,.int .i64 20)] _ (by rfl) (by rfl) (built_fault1 20)) ?_;simp only[nmz]
  refine wpD (qF 163 _ _ b1 0 (qN 0 [] descZ (.slice none 0 0) (.slice none 0 0)) (by rfl) (by rfl) (by rfl) hone 39 (by kernel_rfl) hszr _ _ hA (by omega) (fun wf hAf hmf=>?_))
  rw[qC (by omega)]at hAf;replace hC:=hmf.objB (by omega) hC;have HRf:=hid (HR.out.keepS hall hmf (fun k e=>by have e:k=b1:=e;omega));try simp only[nmz]
  refine wpD (qF 255 _ _ b2 0 #[.int .i64 20,.int .i64 0] (by rfl) (by rfl) (by rfl) (by simp[Value.oneCell']) 2 (by kernel_rfl) rfl _ _ hC (by simp) (fun wg hCg hmg=>?_))
  rw[qC (by rfl)]at hCg;have hAg:=hmg.objB (by omega) hAf;have HRg:=hid (HRf.out.keepS hall hmg (fun k e=>by have e:k=b2:=e;omega));simp only[stz]
  have hsz2:(prog.info? 163).map (·.size)=some (qN 0 [] descZ (.slice none 0 0) (.slice none 0 0)).size:=by rw[hszr];kernel_rfl
  clear HR hmf hmg hB hC hAf;go_wp2
  refine bodyPost_ret (qX (P:=prog) (ty:=163) (tz:=255) rfl _ _ b1 b2 _ _ _ _ _ _ _ _ (by rfl) hAg (by rfl) hCg underlying163 rfl hsz2 underlying255 rfl (by kernel_rfl)) rfl ?_
  rw[HE.out];exact⟨HRg.out,_,20,0,rfl,by simp,by simp,qV,_,_,rfl,Gat.nil _ _ _ _ _,Gat.nil _ _ _ _ _⟩
 subst h77;have hr0:=HMR.out;rw[if_neg (by simp)]at hr0;replace HMR:=hid hr0;clear hr0;go_upto_region 4 with(fail);refine wpR [3,1,3,1] ?_;simp only[stz]
 refine wpD (wpC func248 (HK2.out _ HR.out) ?_);rintro e w2 ⟨rfl,hr⟩;replace hA:=RrS.obj hr (by omega) hA;replace hB:=RrS.obj hr (by omega) hB
 replace hC:=RrS.obj hr (by omega) hC;replace HR:=hid (HR.out.trans hr);clear hr;refine⟨_,rfl,?_⟩;simp only[stz]
 refine wpD (qT 3 _ _ b3 0 (.int .i64 k) (by rfl) (by rfl) (by rfl) rfl (by kernel_rfl) _ _ hB (by omega) (fun w3 hB3 hm3=>?_));rw[manRow_put0]at hB3;replace hB:=hB3
 replace hA:=hm3.objB (by omega) hA;replace hC:=hm3.objB (by omega) hC;replace HR:=hid (HR.out.keepS hall hm3 (fun k e=>by have e:k=b3:=e;omega));clear hm3 hB3
 simp only[stz];have hck:w3.cell? ⟨b3,0,none⟩=some (.int .i64 k):=by rw[cell_of_row _ _ _ _ _ _ hB];rfl
 by_cases hbad:k≠3/\k≠4
 ·go_upto_region 5 with(fail)
  refine wpR [3,1,3,3,3,1,3,3] ?_;simp only[stz];refine wpXd (v:=(.int .i64 k)) 3 b3 0 hck underlying3 trivial ?_;try simp only[nmz]
  refine qG _ _ _ _ _ _ _ _ rfl rfl rfl rfl rfl true (decide_eq_true (by omega)) ?_;simp only[stz];refine wpXd (v:=(.int .i64 k)) 3 b3 0 hck underlying3 trivial ?_
  try simp only[nmz]
  refine qG _ _ _ _ _ _ _ _ rfl rfl rfl rfl rfl true (decide_eq_true (by omega)) ?_;simp only[stz];have hr0:=HMR.out;rw[if_pos hbad]at hr0;have HE:=hid hr0;clear hr0
  have hszr:(qN k [] descZ (.slice none 0 0) (.slice none 0 0)).size=39:=qS (by first|exact qV|assumption)
  have hone:∀c∈qN k [] descZ (.slice none 0 0) (.slice none 0 0),c.oneCell'=true:=zU rfl rfl;go_upto_region 6 with(fail);refine wpR [1,0,1,1] ?_
  simp only[stz];refine wpXA 163 b3 0 (qN k [] descZ (.slice none 0 0) (.slice none 0 0)) (CellsAt.whole hB) underlying163 39 hszr trivial ?_;try simp only[nmz]
  refine qQ rfl (fun w' hS=>qL 255 [(0,_)] [(0,.int .i64 20)] _ (by rfl) (by rfl) (built_fault1 20)) ?_;simp only[nmz]
  refine wpD (qF 163 _ _ b1 0 (qN k [] descZ (.slice none 0 0) (.slice none 0 0)) (by rfl) (by rfl) (by rfl) hone 39 (by kernel_rfl) hszr _ _ hA (by omega) (fun wf hAf hmf=>?_))
  rw[qC (by omega)]at hAf;replace hC:=hmf.objB (by omega) hC;have HRf:=hid (HR.out.keepS hall hmf (fun k e=>by have e:k=b1:=e;omega));try simp only[nmz]
  refine wpD (qF 255 _ _ b2 0 #[.int .i64 20,.int .i64 0] (by rfl) (by rfl) (by rfl) (by simp[Value.oneCell']) 2 (by kernel_rfl) rfl _ _ hC (by simp) (fun wg hCg hmg=>?_))
  rw[qC (by rfl)]at hCg;have hAg:=hmg.objB (by omega) hAf;have HRg:=hid (HRf.out.keepS hall hmg (fun k e=>by have e:k=b2:=e;omega));simp only[stz]
  have hsz2:(prog.info? 163).map (·.size)=some (qN k [] descZ (.slice none 0 0) (.slice none 0 0)).size:=by rw[hszr];kernel_rfl
  clear HR hmf hmg hB hC hAf;go_wp2
  refine bodyPost_ret (qX (P:=prog) (ty:=163) (tz:=255) rfl _ _ b1 b2 _ _ _ _ _ _ _ _ (by rfl) hAg (by rfl) hCg underlying163 rfl hsz2 underlying255 rfl (by kernel_rfl)) rfl ?_
  rw[HE.out];exact⟨HRg.out,_,20,0,rfl,by simp,by simp,qV,_,_,rfl,Gat.nil _ _ _ _ _,Gat.nil _ _ _ _ _⟩
 have hr0:=HMR.out;rw[if_neg hbad]at hr0;replace HMR:=hid hr0;clear hr0;have h34:k=3\/k=4:=by omega
 clear hbad
 rcases h34 with rfl|rfl
 ·
  go_upto_region 5 with(fail);refine wpR [3,1,3,3,3,0,3,3] ?_;simp only[stz];refine wpXd (v:=(.int .i64 3)) 3 b3 0 hck underlying3 trivial ?_;try simp only[nmz]
  refine qG _ _ _ _ _ _ _ _ rfl rfl rfl rfl rfl false (by decide) ?_;simp only[stz]
  have hsz0:(qN 3 [] descZ (.slice none 0 0) (.slice none 0 0)).size=39:=qS hzi;go_upto_region 7 with(fail);refine wpR [3,1,3,1] ?_;simp only[stz]
  refine wpD (wpC func249 (HT2.out _ HR.out) ?_);rintro e w4 ⟨hr,rfl⟩;replace hA:=RrS.obj hr (by omega) hA;replace hB:=RrS.obj hr (by omega) hB
  replace hC:=RrS.obj hr (by omega) hC;replace HR:=hid (HR.out.trans hr);clear hr;refine⟨_,rfl,?_⟩;simp only[stz]
  refine wpD (qT 9 _ _ b3 1 (.string ⟨t.toArray⟩) (by rfl) (by rfl) (by rfl) rfl (by kernel_rfl) _ _ hB (by omega) (fun w5 hB5 hm5=>?_));rw[manRow_put1]at hB5
  replace hB:=hB5;replace hA:=hm5.objB (by omega) hA;replace hC:=hm5.objB (by omega) hC;replace HR:=hid (HR.out.keepS hall hm5 (fun k e=>by have e:k=b3:=e;omega))
  clear hm5 hB5;simp only[stz];clear hsz0 hck;have hsz0:(qN 3 t descZ (.slice none 0 0) (.slice none 0 0)).size=39:=qS hzi
  have hck:w5.cell? ⟨b3,0,none⟩=some (.int .i64 3):=by rw[cell_of_row _ _ _ _ _ _ hB];rfl
  obtain⟨⟨d,s4⟩,hd⟩:∃d,zS b s3=d:=⟨_,rfl⟩;have hdl:=(rDescL_ok (b:=b) (s:=s3)).2.1;have hdc:=HD.out _ _ HR.out;rw[hd]at hdl hdc
  dsimp only at hdl hdc
  have hdz:=qO (m:=d.media) (n:=d.size) (p:=d.plat) hdl;replace hdz:(qB d).size=35:=hdz
  have hdo:∀c∈qB d,c.oneCell'=true:=zJ _ _ _ _;have hr0:=HMR.out;simp only[if_true,hd]at hr0;replace HMR:=hid hr0;clear hr0 hd
  go_upto_region 9 with(fail);refine wpR [3,1,3] ?_;simp only[stz];refine wpXd (v:=(.int .i64 3)) 3 b3 0 hck underlying3 trivial ?_;try simp only[nmz]
  refine qE (v:=?_) rfl (fun w'=>?_) ?_;rotate_left;·(go_simp;try with_reducible rfl)
  simp only[stz];clear hck;go_upto_region 10 with(fail);refine wpR [3,1,3,1] ?_;simp only[stz];refine wpD (wpC func250 (hdc) ?_);rintro e w6 ⟨hr,rfl⟩
  replace hA:=RrS.obj hr (by omega) hA;replace hB:=RrS.obj hr (by omega) hB;replace hC:=RrS.obj hr (by omega) hC;replace HR:=hid (HR.out.trans hr);clear hr
  refine⟨_,rfl,?_⟩;simp only[stz];refine wpD (qF 46 _ _ b3 2 (qB d) (by rfl) (by rfl) (by rfl) hdo 35 (by kernel_rfl) hdz _ _ hB (by omega) (fun w7 hB7 hm7=>?_))
  rw[manRow_putD hzi hdl]at hB7;replace hB:=hB7;replace hA:=hm7.objB (by omega) hA;replace hC:=hm7.objB (by omega) hC
  replace HR:=hid (HR.out.keepS hall hm7 (fun k e=>by have e:k=b3:=e;omega));clear hm7 hB7;simp only[stz];clear hsz0
  have hszr0:(qN 3 t d (.slice none 0 0) (.slice none 0 0)).size=39:=qS hdl;obtain⟨r,hr1,hr2,hrc⟩:=HL.out _ _ HR.out
  obtain⟨⟨n,s5⟩,hn⟩:∃n,rNumL b s4=n:=⟨_,rfl⟩
  have HNC:Hid (∀w',RrS w w' rb bv b s4->Calls prog 248 #[.pointer (some ⟨rb,0,none⟩)] w' (RNumR w' rb bv b n s5)):=hid (fun w' hw'=>by
   have:=HN.out w' _ hw'
   rwa[hn]at this)
  have hnb:=(rNumL_ok (b:=b) (s:=s4)).2.1;rw[hn]at hnb
  dsimp only at hnb
  have hr0:=HMR.out;simp only[hn]at hr0;replace HMR:=hid hr0;clear hr0 hn;go_upto_region 12 with(fail);refine wpR [3,3,1,3,3] ?_;simp only[stz]
  refine wpD (wpCM func220 (hrc) fun w8 hm8=>?_);try simp only[nmz]
  refine xB _ _ _ _ ((b.length:Nat):Int) r rfl rfl rfl rfl (by omega) (by omega) ?_;simp only[stz];replace hA:=hm8.obj id hA;replace hB:=hm8.obj id hB
  replace hC:=hm8.obj id hC;replace HR:=hid (HR.out.post hm8);clear hm8 hrc;go_upto_region 13 with(fail);refine wpR [3,1,3] ?_;simp only[stz]
  refine wpD (wpC func248 (HNC.out _ HR.out) ?_);rintro e w9 ⟨rfl,hr⟩;replace hA:=RrS.obj hr (by omega) hA;replace hB:=RrS.obj hr (by omega) hB
  replace hC:=RrS.obj hr (by omega) hC;replace HR:=hid (HR.out.trans hr);clear hr;refine⟨_,rfl,?_⟩;simp only[stz]
  by_cases hmost:16<n
  ·have hmz:(n:Int)>16:=by omega
   have hr0:=HMR.out;rw[if_pos hmost]at hr0;have HE:=hid hr0;clear hr0;have hszr:(qN 3 t d (.slice none 0 0) (.slice none 0 0)).size=39:=hszr0
   have hone:∀c∈qN 3 t d (.slice none 0 0) (.slice none 0 0),c.oneCell'=true:=zU rfl rfl;go_upto_region 15 with(fail);refine wpR [1,3,0,1,1] ?_
   simp only[stz];refine wpXA 163 b3 0 (qN 3 t d (.slice none 0 0) (.slice none 0 0)) (CellsAt.whole hB) underlying163 39 hszr trivial ?_;simp only[stz]
   refine qQ rfl (fun w' hS=>qL 255 [(0,_),(1,_)] [(0,.int .i64 4),(1,.int .i64 (b.length-r))] _ (by rfl) (by rfl) (jA 4 (b.length-r))) ?_
   simp only[nmz]
   refine wpD (qF 163 _ _ b1 0 (qN 3 t d (.slice none 0 0) (.slice none 0 0)) (by rfl) (by rfl) (by rfl) hone 39 (by kernel_rfl) hszr _ _ hA (by omega) (fun wf hAf hmf=>?_))
   rw[qC (by omega)]at hAf;replace hC:=hmf.objB (by omega) hC;have HRf:=hid (HR.out.keepS hall hmf (fun k e=>by have e:k=b1:=e;omega));try simp only[nmz]
   refine wpD (qF 255 _ _ b2 0 #[.int .i64 4,.int .i64 (b.length-r)] (by rfl) (by rfl) (by rfl) (by simp[Value.oneCell']) 2 (by kernel_rfl) rfl _ _ hC (by simp) (fun wg hCg hmg=>?_))
   rw[qC (by rfl)]at hCg;have hAg:=hmg.objB (by omega) hAf;have HRg:=hid (HRf.out.keepS hall hmg (fun k e=>by have e:k=b2:=e;omega));simp only[stz]
   have hsz2:(prog.info? 163).map (·.size)=some (qN 3 t d (.slice none 0 0) (.slice none 0 0)).size:=by rw[hszr];kernel_rfl
   clear HR hmf hmg hB hC hAf;go_wp2
   refine bodyPost_ret (qX (P:=prog) (ty:=163) (tz:=255) rfl _ _ b1 b2 _ _ _ _ _ _ _ _ (by rfl) hAg (by rfl) hCg underlying163 rfl hsz2 underlying255 rfl (by kernel_rfl)) rfl ?_
   rw[HE.out];exact⟨HRg.out,_,4,_,rfl,by simp,by simp,hdl,_,_,rfl,Gat.nil _ _ _ _ _,Gat.nil _ _ _ _ _⟩
  have hmz:¬(n:Int)>16:=by omega
  have hr0:=HMR.out;rw[if_neg hmost]at hr0;obtain⟨l,hl⟩:∃l,zF b n s5=l:=⟨_,rfl⟩;simp only[hl]at hr0;have HE:=hid hr0;have HLL:=hid hl;clear hr0 HMR hl
  have hw9:b3<w9.heap.size:=(Array.getElem?_eq_some_iff.1 hB).1
  have HR0:Hid (RManyRel w rb bv b s5 n b1 b2 b3 (qN 3 t d (.slice none 0 0) (.slice none 0 0)) (.slice none 0 0) (.int .i64 (0:Nat)) w9):=hid ⟨0,Nat.zero_le _,rfl,HR.out,Gat.nil _ _ _ _ _,hw9,hA,hC,hB⟩
  clear HR hA hB hC hw9;go_wp2
  go_loopw [10,11] (fun v i wx=>RManyRel w rb bv b s5 n b1 b2 b3 (qN 3 t d (.slice none 0 0) (.slice none 0 0)) v i wx) (fun _ i _=>n-(intOf i).toNat)
  case atStart=>exact HR0.out
  case round=>
   rename World=>wr
   obtain⟨j,hj,rfl,hrd,hg,hwr,hA,hC,hB⟩:=hrel
   by_cases hlt:j<n
   ·have hz:(j:Int)<(n:Int):=by omega
    have hidl:=(rDescL_ok (b:=b) (s:=(zF b j s5).2)).2.1;have hlen:=rDescsL_len (b:=b) (s:=s5) j
    obtain⟨dd,hd⟩:∃d,(zS b (zF b j s5).2).1=d:=⟨_,rfl⟩;have hcall:=HD.out wr _ hrd;rw[hd]at hidl hcall;have HDD:=hid hd;have HEE:=hid (jK hidl)
    have hds:=qO (m:=dd.media) (n:=dd.size) (p:=dd.plat) hidl;replace hds:(qB dd).size=35:=hds;have HRD:=hid hrd;have HG:=hid hg;clear hrd hg hd
    go_upto_region 20 with(fail);refine wpR [3,3,1,1,1,3] ?_;simp only[stz];refine wpD (wpC func250 (hcall) ?_);rintro e wa ⟨hr,rfl⟩;have HR2:=hid (HRD.out.trans hr)
    have HG2:=hid (HG.out.keep hr.2 (fun q hq e=>by have e:q=rb:=e;have:=(HG.out.lt hq).1;omega));replace hA:=RrS.obj hr (by omega) hA
    replace hB:=RrS.obj hr (by omega) hB;replace hC:=RrS.obj hr (by omega) hC;have hwa:=hr.2.size;clear hr;refine⟨_,rfl,?_⟩;try simp only[nmz]
    refine wpD (qU 161 46 _ (.agg (qB dd)) (.agg (qB descZ)) 35 (by rfl) (by rfl) underlying161 (by kernel_rfl) (by omega) (by omega) hds (fun wb2 hBb hmb hsb=>?_))
    have hsrc:=jM (enc:=descE) (e:=46) (x:=dd) xZ (by rw[HEE.out];exact hBb);have HR3:=hid (HR2.out.post hmb);have HG3:=hid (HG2.out.keep0 hmb)
    replace hA:=hmb.obj id hA;replace hB:=hmb.obj id hB;replace hC:=hmb.obj id hC;have hwb:=hmb.size;clear hmb hBb hsb;try simp only[nmz]
    refine wpD (wp_gat descE _ _ 161 46 (.agg (qB descZ)) 35 64 (by rfl) underlying161 desc_i desc_zs (by omega) xY (b3+1) _ (zF b j s5).1 (by rfl) HG3.out _ [dd] (by rfl) hsrc (by rw[hlen];unfold maxLen;simp;omega) (by rw[hlen];simp;omega) (by omega) (fun v' wc hgc hmc=>?_))
    have hne:∀q,q<=b3->¬Value.ownBlock _=some q:=fun q hq e=>by have:=(HG3.out.lt e).1;omega
    have HR4:=hid (HR3.out.keepS hall hmc (fun q hq=>by have:=(HG3.out.lt hq).1;omega));have HG4:=hid hgc;replace hA:=hmc.obj (hne b1 (by omega)) hA
    replace hB:=hmc.obj (hne b3 (by omega)) hB;replace hC:=hmc.obj (hne b2 (by omega)) hC;have hwc:=hmc.size;clear hmc hsrc hgc hne;simp only[stz]
    have HNX:Hid (zF b (j+1) s5=((zF b j s5).1++[dd],(zS b (zF b j s5).2).2)):=hid (by rw[<-HDD.out];rfl)
    have HQ:Hid (RManyRel w rb bv b s5 n b1 b2 b3 (qN 3 t d (.slice none 0 0) (.slice none 0 0)) v' (.int .i64 ((j+1:Nat):Int)) wc):=hid ⟨j+1,by omega,rfl,by rw[HNX.out];exact HR4.out,by rw[HNX.out];exact HG4.out,by omega,hA,hC,hB⟩
    clear hcall hidl hA hB hC;go_wp2
    go_roundw
    case rel=>exact HQ.out
    case measure=>simp[intOf];omega
   ·have hz:¬(j:Int)<(n:Int):=by omega
    obtain rfl:j=n:=by omega
    rw[HLL.out]at hrd hg;have HR:=hid hrd;have HG:=hid hg;have hv1:Value.oneCell' u10=true:=yF hg;clear hrd hg;go_upto_region 21 with(fail)
    refine wpR [3,3,1] ?_;simp only[stz];refine wpD (qT 161 _ _ b3 38 u10 (by rfl) (by rfl) (by rfl) hv1 (by kernel_rfl) _ _ hB (by omega) (fun wa hBa hma=>?_))
    rw[manRow_put38 hdl]at hBa;replace hB:=hBa;replace hA:=hma.objB (by omega) hA;replace hC:=hma.objB (by omega) hC
    replace HR:=hid (HR.out.keepS hall hma (fun k e=>by have e:k=b3:=e;omega))
    replace HG:=hid (HG.out.keep hma (fun q hq e=>by have e:q=b3:=e;have:=(HG.out.lt hq).1;omega));clear hma hBa;simp only[stz]
    have hck:wa.cell? ⟨b3,0,none⟩=some (.int .i64 3):=by rw[cell_of_row _ _ _ _ _ _ hB];rfl
    have hsz8:(qN 3 t d (.slice none 0 0) u10).size=39:=qS hdl;go_upto_region 22 with(fail);refine wpR [3,1,3] ?_;simp only[stz]
    refine wpXd (v:=(.int .i64 3)) 3 b3 0 hck underlying3 trivial ?_;try simp only[nmz]
    refine qE (v:=?_) rfl (fun w'=>?_) ?_;rotate_left;·(go_simp;try with_reducible rfl)
    simp only[stz];clear hck;go_upto_region 23 with(fail);refine wpR [3,3,1] ?_;simp only[stz]
    refine wpD (qT 161 _ _ b3 37 u10 (by rfl) (by rfl) (by rfl) hv1 (by kernel_rfl) _ _ hB (by omega) (fun wb3 hBa hma=>?_));rw[manRow_put37 hdl]at hBa;replace hB:=hBa
    replace hA:=hma.objB (by omega) hA;replace hC:=hma.objB (by omega) hC;replace HR:=hid (HR.out.keepS hall hma (fun k e=>by have e:k=b3:=e;omega))
    replace HG:=hid (HG.out.keep hma (fun q hq e=>by have e:q=b3:=e;have:=(HG.out.lt hq).1;omega));clear hma hBa;simp only[stz]
    have hsz9:(qN 3 t d u10 u10).size=39:=qS hdl;go_upto_region 24 with(fail);refine wpR [3,1] ?_;simp only[stz]
    refine wpD (qT 161 _ _ b3 38 (.slice none 0 0) (by rfl) (by rfl) (by rfl) rfl (by kernel_rfl) _ _ hB (by omega) (fun wd3 hBa hma=>?_));rw[manRow_put38 hdl]at hBa
    replace hB:=hBa;replace hA:=hma.objB (by omega) hA;replace hC:=hma.objB (by omega) hC
    replace HR:=hid (HR.out.keepS hall hma (fun k e=>by have e:k=b3:=e;omega))
    replace HG:=hid (HG.out.keep hma (fun q hq e=>by have e:q=b3:=e;have:=(HG.out.lt hq).1;omega));clear hma hBa;simp only[stz]
    have hszr:(qN 3 t d u10 (.slice none 0 0)).size=39:=qS hdl;have hone:∀c∈qN 3 t d u10 (.slice none 0 0),c.oneCell'=true:=zU hv1 rfl
    go_upto_region 25 with(fail);refine wpR [1,0,1,1] ?_;simp only[stz]
    refine wpXA 163 b3 0 (qN 3 t d u10 (.slice none 0 0)) (CellsAt.whole hB) underlying163 39 hszr trivial ?_;try simp only[nmz]
    refine qQ rfl (fun w' hS=>qL 255 [] [] _ (by rfl) (by rfl) built_fault0) ?_;simp only[nmz]
    refine wpD (qF 163 _ _ b1 0 (qN 3 t d u10 (.slice none 0 0)) (by rfl) (by rfl) (by rfl) hone 39 (by kernel_rfl) hszr _ _ hA (by omega) (fun wf hAf hmf=>?_))
    rw[qC (by omega)]at hAf;replace hC:=hmf.objB (by omega) hC;have HRf:=hid (HR.out.keepS hall hmf (fun k e=>by have e:k=b1:=e;omega));try simp only[nmz]
    refine wpD (qF 255 _ _ b2 0 #[.int .i64 0,.int .i64 0] (by rfl) (by rfl) (by rfl) (by simp[Value.oneCell']) 2 (by kernel_rfl) rfl _ _ hC (by simp) (fun wg hCg hmg=>?_))
    rw[qC (by rfl)]at hCg;have hAg:=hmg.objB (by omega) hAf;have HRg:=hid (HRf.out.keepS hall hmg (fun k e=>by have e:k=b2:=e;omega));simp only[stz]
    have HGf:=hid (HG.out.keep hmf (fun q hq e=>by have e:q=b1:=e;have:=(HG.out.lt hq).1;omega))
    have HGg:=hid (HGf.out.keep hmg (fun q hq e=>by have e:q=b2:=e;have:=(HGf.out.lt hq).1;omega))
    have hsz2:(prog.info? 163).map (·.size)=some (qN 3 t d u10 (.slice none 0 0)).size:=by rw[hszr];kernel_rfl
    clear HR hmf hmg hB hC hAf;go_wp2
    refine bodyPost_ret (qX (P:=prog) (ty:=163) (tz:=255) rfl _ _ b1 b2 _ _ _ _ _ _ _ _ (by rfl) hAg (by rfl) hCg underlying163 rfl hsz2 underlying255 rfl (by kernel_rfl)) rfl ?_
    rw[HE.out];exact⟨HRg.out,_,0,0,rfl,by simp,by simp,hdl,_,_,rfl,HGg.out.base (by omega),Gat.nil _ _ _ _ _⟩
 ·
  go_upto_region 5 with(fail);refine wpR [3,1,3,3,3,1,3,3] ?_;simp only[stz];refine wpXd (v:=(.int .i64 4)) 3 b3 0 hck underlying3 trivial ?_;try simp only[nmz]
  refine qG _ _ _ _ _ _ _ _ rfl rfl rfl rfl rfl true (by decide) ?_;simp only[stz];refine wpXd (v:=(.int .i64 4)) 3 b3 0 hck underlying3 trivial ?_;try simp only[nmz]
  refine qG _ _ _ _ _ _ _ _ rfl rfl rfl rfl rfl false (by decide) ?_;simp only[stz]
  have hsz0:(qN 4 [] descZ (.slice none 0 0) (.slice none 0 0)).size=39:=qS hzi;go_upto_region 7 with(fail);refine wpR [3,1,3,1] ?_;simp only[stz]
  refine wpD (wpC func249 (HT2.out _ HR.out) ?_);rintro e w4 ⟨hr,rfl⟩;replace hA:=RrS.obj hr (by omega) hA;replace hB:=RrS.obj hr (by omega) hB
  replace hC:=RrS.obj hr (by omega) hC;replace HR:=hid (HR.out.trans hr);clear hr;refine⟨_,rfl,?_⟩;simp only[stz]
  refine wpD (qT 9 _ _ b3 1 (.string ⟨t.toArray⟩) (by rfl) (by rfl) (by rfl) rfl (by kernel_rfl) _ _ hB (by omega) (fun w5 hB5 hm5=>?_));rw[manRow_put1]at hB5
  replace hB:=hB5;replace hA:=hm5.objB (by omega) hA;replace hC:=hm5.objB (by omega) hC;replace HR:=hid (HR.out.keepS hall hm5 (fun k e=>by have e:k=b3:=e;omega))
  clear hm5 hB5;simp only[stz];clear hsz0 hck;have hsz0:(qN 4 t descZ (.slice none 0 0) (.slice none 0 0)).size=39:=qS hzi
  have hck:w5.cell? ⟨b3,0,none⟩=some (.int .i64 4):=by rw[cell_of_row _ _ _ _ _ _ hB];rfl
  have hr0:=HMR.out;simp only[show ¬((4:Nat)=3) by omega,if_false]at hr0;replace HMR:=hid hr0;clear hr0;have hdl:=hzi;go_upto_region 9 with(fail)
  refine wpR [3,1,3] ?_;simp only[stz];refine wpXd (v:=(.int .i64 4)) 3 b3 0 hck underlying3 trivial ?_;try simp only[nmz]
  refine qE (v:=?_) rfl (fun w'=>?_) ?_;rotate_left;·(go_simp;try with_reducible rfl)
  simp only[stz];clear hck hsz0;have hszr0:(qN 4 t descZ (.slice none 0 0) (.slice none 0 0)).size=39:=qS hdl;obtain⟨r,hr1,hr2,hrc⟩:=HL.out _ _ HR.out
  obtain⟨⟨n,s5⟩,hn⟩:∃n,rNumL b s3=n:=⟨_,rfl⟩
  have HNC:Hid (∀w',RrS w w' rb bv b s3->Calls prog 248 #[.pointer (some ⟨rb,0,none⟩)] w' (RNumR w' rb bv b n s5)):=hid (fun w' hw'=>by
   have:=HN.out w' _ hw'
   rwa[hn]at this)
  have hnb:=(rNumL_ok (b:=b) (s:=s3)).2.1;rw[hn]at hnb
  dsimp only at hnb
  have hr0:=HMR.out;simp only[hn]at hr0;replace HMR:=hid hr0;clear hr0 hn;go_upto_region 12 with(fail);refine wpR [3,3,1,3,3] ?_;simp only[stz]
  refine wpD (wpCM func220 (hrc) fun w8 hm8=>?_);try simp only[nmz]
  refine xB _ _ _ _ ((b.length:Nat):Int) r rfl rfl rfl rfl (by omega) (by omega) ?_;simp only[stz];replace hA:=hm8.obj id hA;replace hB:=hm8.obj id hB
  replace hC:=hm8.obj id hC;replace HR:=hid (HR.out.post hm8);clear hm8 hrc;go_upto_region 13 with(fail);refine wpR [3,1,3] ?_;simp only[stz]
  refine wpD (wpC func248 (HNC.out _ HR.out) ?_);rintro e w9 ⟨rfl,hr⟩;replace hA:=RrS.obj hr (by omega) hA;replace hB:=RrS.obj hr (by omega) hB
  replace hC:=RrS.obj hr (by omega) hC;replace HR:=hid (HR.out.trans hr);clear hr;refine⟨_,rfl,?_⟩;simp only[stz]
  by_cases hmost:8<n
  ·have hmz:(n:Int)>8:=by omega
   have hr0:=HMR.out;rw[if_pos hmost]at hr0;have HE:=hid hr0;clear hr0;have hszr:(qN 4 t descZ (.slice none 0 0) (.slice none 0 0)).size=39:=hszr0
   have hone:∀c∈qN 4 t descZ (.slice none 0 0) (.slice none 0 0),c.oneCell'=true:=zU rfl rfl;go_upto_region 15 with(fail);refine wpR [1,3,0,1,1] ?_
   simp only[stz];refine wpXA 163 b3 0 (qN 4 t descZ (.slice none 0 0) (.slice none 0 0)) (CellsAt.whole hB) underlying163 39 hszr trivial ?_;simp only[stz]
   refine qQ rfl (fun w' hS=>qL 255 [(0,_),(1,_)] [(0,.int .i64 4),(1,.int .i64 (b.length-r))] _ (by rfl) (by rfl) (jA 4 (b.length-r))) ?_
   simp only[nmz]
   refine wpD (qF 163 _ _ b1 0 (qN 4 t descZ (.slice none 0 0) (.slice none 0 0)) (by rfl) (by rfl) (by rfl) hone 39 (by kernel_rfl) hszr _ _ hA (by omega) (fun wf hAf hmf=>?_))
   rw[qC (by omega)]at hAf;replace hC:=hmf.objB (by omega) hC;have HRf:=hid (HR.out.keepS hall hmf (fun k e=>by have e:k=b1:=e;omega));try simp only[nmz]
   refine wpD (qF 255 _ _ b2 0 #[.int .i64 4,.int .i64 (b.length-r)] (by rfl) (by rfl) (by rfl) (by simp[Value.oneCell']) 2 (by kernel_rfl) rfl _ _ hC (by simp) (fun wg hCg hmg=>?_))
   rw[qC (by rfl)]at hCg;have hAg:=hmg.objB (by omega) hAf;have HRg:=hid (HRf.out.keepS hall hmg (fun k e=>by have e:k=b2:=e;omega));simp only[stz]
   have hsz2:(prog.info? 163).map (·.size)=some (qN 4 t descZ (.slice none 0 0) (.slice none 0 0)).size:=by rw[hszr];kernel_rfl
   clear HR hmf hmg hB hC hAf;go_wp2
   refine bodyPost_ret (qX (P:=prog) (ty:=163) (tz:=255) rfl _ _ b1 b2 _ _ _ _ _ _ _ _ (by rfl) hAg (by rfl) hCg underlying163 rfl hsz2 underlying255 rfl (by kernel_rfl)) rfl ?_
   rw[HE.out];exact⟨HRg.out,_,4,_,rfl,by simp,by simp,hdl,_,_,rfl,Gat.nil _ _ _ _ _,Gat.nil _ _ _ _ _⟩
  have hmz:¬(n:Int)>8:=by omega
  have hr0:=HMR.out;rw[if_neg hmost]at hr0;obtain⟨l,hl⟩:∃l,zF b n s5=l:=⟨_,rfl⟩;simp only[hl]at hr0;have HE:=hid hr0;have HLL:=hid hl;clear hr0 HMR hl
  have hw9:b3<w9.heap.size:=(Array.getElem?_eq_some_iff.1 hB).1
  have HR0:Hid (RManyRel w rb bv b s5 n b1 b2 b3 (qN 4 t descZ (.slice none 0 0) (.slice none 0 0)) (.slice none 0 0) (.int .i64 (0:Nat)) w9):=hid ⟨0,Nat.zero_le _,rfl,HR.out,Gat.nil _ _ _ _ _,hw9,hA,hC,hB⟩
  clear HR hA hB hC hw9;go_wp2
  go_loopw [10,11] (fun v i wx=>RManyRel w rb bv b s5 n b1 b2 b3 (qN 4 t descZ (.slice none 0 0) (.slice none 0 0)) v i wx) (fun _ i _=>n-(intOf i).toNat)
  case atStart=>exact HR0.out
  case round=>
   rename World=>wr
   obtain⟨j,hj,rfl,hrd,hg,hwr,hA,hC,hB⟩:=hrel
   by_cases hlt:j<n
   ·have hz:(j:Int)<(n:Int):=by omega
    have hidl:=(rDescL_ok (b:=b) (s:=(zF b j s5).2)).2.1;have hlen:=rDescsL_len (b:=b) (s:=s5) j
    obtain⟨dd,hd⟩:∃d,(zS b (zF b j s5).2).1=d:=⟨_,rfl⟩;have hcall:=HD.out wr _ hrd;rw[hd]at hidl hcall;have HDD:=hid hd;have HEE:=hid (jK hidl)
    have hds:=qO (m:=dd.media) (n:=dd.size) (p:=dd.plat) hidl;replace hds:(qB dd).size=35:=hds;have HRD:=hid hrd;have HG:=hid hg;clear hrd hg hd
    go_upto_region 20 with(fail);refine wpR [3,3,1,1,1,3] ?_;simp only[stz];refine wpD (wpC func250 (hcall) ?_);rintro e wa ⟨hr,rfl⟩;have HR2:=hid (HRD.out.trans hr)
    have HG2:=hid (HG.out.keep hr.2 (fun q hq e=>by have e:q=rb:=e;have:=(HG.out.lt hq).1;omega));replace hA:=RrS.obj hr (by omega) hA
    replace hB:=RrS.obj hr (by omega) hB;replace hC:=RrS.obj hr (by omega) hC;have hwa:=hr.2.size;clear hr;refine⟨_,rfl,?_⟩;try simp only[nmz]
    refine wpD (qU 161 46 _ (.agg (qB dd)) (.agg (qB descZ)) 35 (by rfl) (by rfl) underlying161 (by kernel_rfl) (by omega) (by omega) hds (fun wb2 hBb hmb hsb=>?_))
    have hsrc:=jM (enc:=descE) (e:=46) (x:=dd) xZ (by rw[HEE.out];exact hBb);have HR3:=hid (HR2.out.post hmb);have HG3:=hid (HG2.out.keep0 hmb)
    replace hA:=hmb.obj id hA;replace hB:=hmb.obj id hB;replace hC:=hmb.obj id hC;have hwb:=hmb.size;clear hmb hBb hsb;try simp only[nmz]
    refine wpD (wp_gat descE _ _ 161 46 (.agg (qB descZ)) 35 64 (by rfl) underlying161 desc_i desc_zs (by omega) xY (b3+1) _ (zF b j s5).1 (by rfl) HG3.out _ [dd] (by rfl) hsrc (by rw[hlen];unfold maxLen;simp;omega) (by rw[hlen];simp;omega) (by omega) (fun v' wc hgc hmc=>?_))
    have hne:∀q,q<=b3->¬Value.ownBlock _=some q:=fun q hq e=>by have:=(HG3.out.lt e).1;omega
    have HR4:=hid (HR3.out.keepS hall hmc (fun q hq=>by have:=(HG3.out.lt hq).1;omega));have HG4:=hid hgc;replace hA:=hmc.obj (hne b1 (by omega)) hA
    replace hB:=hmc.obj (hne b3 (by omega)) hB;replace hC:=hmc.obj (hne b2 (by omega)) hC;have hwc:=hmc.size;clear hmc hsrc hgc hne;simp only[stz]
    have HNX:Hid (zF b (j+1) s5=((zF b j s5).1++[dd],(zS b (zF b j s5).2).2)):=hid (by rw[<-HDD.out];rfl)
    have HQ:Hid (RManyRel w rb bv b s5 n b1 b2 b3 (qN 4 t descZ (.slice none 0 0) (.slice none 0 0)) v' (.int .i64 ((j+1:Nat):Int)) wc):=hid ⟨j+1,by omega,rfl,by rw[HNX.out];exact HR4.out,by rw[HNX.out];exact HG4.out,by omega,hA,hC,hB⟩
    clear hcall hidl hA hB hC;go_wp2
    go_roundw
    case rel=>exact HQ.out
    case measure=>simp[intOf];omega
   ·have hz:¬(j:Int)<(n:Int):=by omega
    obtain rfl:j=n:=by omega
    rw[HLL.out]at hrd hg;have HR:=hid hrd;have HG:=hid hg;have hv1:Value.oneCell' u10=true:=yF hg;clear hrd hg;go_upto_region 21 with(fail)
    refine wpR [3,3,1] ?_;simp only[stz];refine wpD (qT 161 _ _ b3 38 u10 (by rfl) (by rfl) (by rfl) hv1 (by kernel_rfl) _ _ hB (by omega) (fun wa hBa hma=>?_))
    rw[manRow_put38 hdl]at hBa;replace hB:=hBa;replace hA:=hma.objB (by omega) hA;replace hC:=hma.objB (by omega) hC
    replace HR:=hid (HR.out.keepS hall hma (fun k e=>by have e:k=b3:=e;omega))
    replace HG:=hid (HG.out.keep hma (fun q hq e=>by have e:q=b3:=e;have:=(HG.out.lt hq).1;omega));clear hma hBa;simp only[stz]
    have hck:wa.cell? ⟨b3,0,none⟩=some (.int .i64 4):=by rw[cell_of_row _ _ _ _ _ _ hB];rfl
    have hsz8:(qN 4 t descZ (.slice none 0 0) u10).size=39:=qS hdl;go_upto_region 22 with(fail);refine wpR [3,1,3] ?_;simp only[stz]
    refine wpXd (v:=(.int .i64 4)) 3 b3 0 hck underlying3 trivial ?_;try simp only[nmz]
    refine qE (v:=?_) rfl (fun w'=>?_) ?_;rotate_left;·(go_simp;try with_reducible rfl)
    simp only[stz];clear hck;have hszr:(qN 4 t descZ (.slice none 0 0) u10).size=39:=qS hdl
    have hone:∀c∈qN 4 t descZ (.slice none 0 0) u10,c.oneCell'=true:=zU rfl hv1;go_upto_region 25 with(fail);refine wpR [1,0,1,1] ?_;simp only[stz]
    refine wpXA 163 b3 0 (qN 4 t descZ (.slice none 0 0) u10) (CellsAt.whole hB) underlying163 39 hszr trivial ?_;try simp only[nmz]
    refine qQ rfl (fun w' hS=>qL 255 [] [] _ (by rfl) (by rfl) built_fault0) ?_;simp only[nmz]
    refine wpD (qF 163 _ _ b1 0 (qN 4 t descZ (.slice none 0 0) u10) (by rfl) (by rfl) (by rfl) hone 39 (by kernel_rfl) hszr _ _ hA (by omega) (fun wf hAf hmf=>?_))
    rw[qC (by omega)]at hAf;replace hC:=hmf.objB (by omega) hC;have HRf:=hid (HR.out.keepS hall hmf (fun k e=>by have e:k=b1:=e;omega));try simp only[nmz]
    refine wpD (qF 255 _ _ b2 0 #[.int .i64 0,.int .i64 0] (by rfl) (by rfl) (by rfl) (by simp[Value.oneCell']) 2 (by kernel_rfl) rfl _ _ hC (by simp) (fun wg hCg hmg=>?_))
    rw[qC (by rfl)]at hCg;have hAg:=hmg.objB (by omega) hAf;have HRg:=hid (HRf.out.keepS hall hmg (fun k e=>by have e:k=b2:=e;omega));simp only[stz]
    have HGf:=hid (HG.out.keep hmf (fun q hq e=>by have e:q=b1:=e;have:=(HG.out.lt hq).1;omega))
    have HGg:=hid (HGf.out.keep hmg (fun q hq e=>by have e:q=b2:=e;have:=(HGf.out.lt hq).1;omega))
    have hsz2:(prog.info? 163).map (·.size)=some (qN 4 t descZ (.slice none 0 0) u10).size:=by rw[hszr];kernel_rfl
    clear HR hmf hmg hB hC hAf;go_wp2
    refine bodyPost_ret (qX (P:=prog) (ty:=163) (tz:=255) rfl _ _ b1 b2 _ _ _ _ _ _ _ _ (by rfl) hAg (by rfl) hCg underlying163 rfl hsz2 underlying255 rfl (by kernel_rfl)) rfl ?_
    rw[HE.out];exact⟨HRg.out,_,0,0,rfl,by simp,by simp,hdl,_,_,rfl,Gat.nil _ _ _ _ _,HGg.out.base (by omega)⟩
end
theorem r11Decode_any{own:Bool}{G:Nat->Prop}{w:World}{v:Value}{b:List UInt8}(h:Sl own w G 1 ByteC v b)(hv:∀k,v.ownBlock=some k->k<w.heap.size)(hl:b.length<=4096):Calls prog 164 #[v] w (DecR w b):=by
 obtain⟨ad,cap,rfl,-,-⟩:=Sl.at h;have H:=hid h;have HV:=hid hv;have hlz:¬((b.length:Nat):Int)>4096:=by omega
 have HDL:Hid (decL b=if(manR b).2.2=true/\(manR b).2.1=some b.length then some (manR b).1 else none):=hid (by unfold decL;simp only[hl,true_and])
 obtain⟨⟨m,s,ok⟩,hmr⟩:∃r,manR b=r:=⟨_,rfl⟩;rw[hmr]at HDL;have HMR:=hid hmr;clear h hv hmr
 have hz39:(qN 0 [] descZ (.slice none 0 0) (.slice none 0 0)).size=39:=qS qV;go_enter func164,ntmps164;go_upto_region 0 with(fail);refine wpR [1,1] ?_
 simp only[stz];refine wpD (qP 163 _ (by rfl) manZ_i (fun wx hBx hmx hsx=>?_))
 replace hBx:wx.heap[w.heap.size]?=some (.cells (qN 0 [] descZ (.slice none 0 0) (.slice none 0 0)) 163 (0,0)):=hBx;try simp only[nmz]
 refine wpD (qP 255 _ (by rfl) fltZ (fun wy hBy hmy hsy=>?_));replace hBy:wy.heap[wx.heap.size]?=some (.cells #[.int .i64 0,.int .i64 0] 255 (0,0)):=hBy
 simp only[stz];have hA:=hmy.obj id hBx;have hC:=hBy;have hM:=hmx.trans0 hmy;have l1:w.heap.size<wx.heap.size:=hsx;have l2:wx.heap.size<wy.heap.size:=hsy
 generalize hb1:w.heap.size=b1 at*;generalize hb2:wx.heap.size=b2 at*;clear hmx hmy hBx hBy hsx hsy;go_upto_region 3 with(fail);refine wpR [3,1,3] ?_;simp only[stz]
 refine wpD (wpC func217 (rrNew_any (H.out.keep0 hM) (fun k hk=>by have:=HV.out k hk;have:=hM.size;omega) hl) ?_);rintro e w3 ⟨rb,rfl,hri,hm3,hrb⟩;refine⟨_,rfl,?_⟩
 simp only[stz];have hrd:=r11read_any hri;rw[HMR.out]at hrd;replace hA:=hm3.obj id hA;replace hC:=hm3.obj id hC;replace hM:=hm3.size|>fun _=>hM.trans0 hm3
 have l3:=hm3.size;generalize hs3:w3.heap.size=s3 at*;clear hri hm3;go_upto_region 4 with(fail);refine wpR [3,3,3,1,3,3,3,1,1,1,1] ?_;simp only[stz]
 refine wpPL ?_;simp only[nmz];refine wpD (wpC func218 (hrd) ?_);rintro e w4 ⟨hr4,cs,er,at_,rfl,he1,he2,hmc⟩;obtain⟨⟨a6,e6,p6,hri4,hst4⟩,hm34⟩:=hr4
 have hA4:=hm34.obj (fun e=>by omega) hA;have hC4:=hm34.obj (fun e=>by omega) hC
 have hM4:Mod NoB w w4:=hM.trans hm34 (fun k hk e=>by
  have e':k=rb:=e
  omega)
 have hcs:=hmc.size;have hone:=hmc.one;have l34:=hm34.size;rw[hs3]at l34 hmc
 have hmcs:∀(S:Nat->Prop)(w':World),Mod S w4 w'->(∀k,S k->w4.heap.size<=k\/k<=b2)->ManC b1 w' cs m:=fun S w' hmm hS=>by
  obtain⟨q0,lv,sv,q1,q2,q3⟩:=hmc;refine⟨q0,lv,sv,q1,(q2.keep hmm (fun k hk e=>?_)).base (by omega),(q3.keep hmm (fun k hk e=>?_)).base (by omega)⟩
  ·have:=q2.lt hk;have:=hS k e;omega
  ·have:=q3.lt hk;have:=hS k e;omega
 have HMC0:=hid hmcs;clear hmc hmcs;refine⟨_,rfl,?_⟩;simp only[stz];refine qE (v:=?_) rfl (fun w'=>?_) ?_;rotate_left;·(go_simp;try with_reducible rfl)
 simp only[nmz];refine qE (v:=?_) rfl (fun w'=>?_) ?_;rotate_left;·(go_simp;try with_reducible rfl)
 simp only[nmz];refine wpD (qP 163 _ (by rfl) manZ_i (fun w7 hB7 hm7 hs7=>?_))
 replace hB7:w7.heap[w4.heap.size]?=some (.cells (qN 0 [] descZ (.slice none 0 0) (.slice none 0 0)) 163 (0,0)):=hB7;try simp only[nmz]
 refine wpD (qP 255 _ (by rfl) fltZ (fun w8 hB8 hm8 hs8=>?_));replace hB8:w8.heap[w7.heap.size]?=some (.cells #[.int .i64 0,.int .i64 0] 255 (0,0)):=hB8
 try simp only[nmz]
 refine wpD (qF 163 _ _ w4.heap.size 0 cs (by rfl) (by rfl) (by rfl) hone 39 (by kernel_rfl) hcs _ _ (hm8.obj id hB7) (by rw[hcs];exact Nat.le_of_eq hz39.symm) (fun w9 hB9 hm9=>?_))
 rw[qC (by rw[hcs];exact hz39.symm)]at hB9;have hB8':=hm9.objB (by omega) hB8;try simp only[nmz]
 refine wpD (qF 255 _ _ w7.heap.size 0 #[.int .i64 er,.int .i64 at_] (by rfl) (by rfl) (by rfl) (by simp[Value.oneCell']) 2 (by kernel_rfl) rfl _ _ hB8' (by simp) (fun wa hBa hma=>?_))
 rw[qC (by rfl)]at hBa;have hB9':=hma.objB (by omega) hB9;simp only[stz]
 have hm4a:Mod NoB w4 wa:=((hm7.trans0 hm8).transB hm9 (Nat.le_refl _)).transB hma (by omega);have HMa:=hid (hM4.trans0 hm4a);have hAa:=hm4a.obj id hA4
 have hCa:=hm4a.obj id hC4;have hria:=hri4.keep0 hm4a;have l4a:=hm4a.size;have hend:=rrEnd_any hria;have l47:w4.heap.size<w7.heap.size:=hs7
 have l7a:w7.heap.size<wa.heap.size:=(Array.getElem?_eq_some_iff.1 hBa).1
 have HMC1:Hid (∀(S:Nat->Prop)(w':World),Mod S wa w'->(∀k,S k->w4.heap.size<=k\/k<=b2)->ManC b1 w' cs m):=hid (fun S w' hmm hS=>HMC0.out S w' ((hm4a.mono (fun _ _ h=>h.elim)).trans hmm (fun _ _ h=>h)) hS)
 have HST:=hid hst4;have l24:b2<w4.heap.size:=by omega
 have HRI:=hid hria;generalize hb5:w4.heap.size=b5 at*;generalize hb6:w7.heap.size=b6 at*
 clear hM hM4 hA hC hA4 hC4 hm34 hm4a hm7 hm8 hm9 hma hB7 hB8 hB8' hB9 hri4 hria hst4 hrd HMC0;go_upto_region 5 with(fail);refine wpR [3,1,1,1] ?_;simp only[stz]
 refine wpD (wpC func219 (hend) ?_);rintro e wc ⟨hmc,er2,at2,rfl,hg1,hg2⟩;refine⟨_,rfl,?_⟩;try simp only[nmz]
 refine wpD (qP 255 _ (by rfl) fltZ (fun wd hBd hmd hsd=>?_));replace hBd:wd.heap[wc.heap.size]?=some (.cells #[.int .i64 0,.int .i64 0] 255 (0,0)):=hBd
 try simp only[nmz]
 refine wpD (qF 255 _ _ wc.heap.size 0 #[.int .i64 er2,.int .i64 at2] (by rfl) (by rfl) (by rfl) (by simp[Value.oneCell']) 2 (by kernel_rfl) rfl _ _ hBd (by simp) (fun we hBe hme=>?_))
 rw[qC (by rfl)]at hBe;simp only[stz];have lac:=hmc.size;have hmae:Mod NoB wa we:=(hmc.trans0 hmd).transB hme lac;have HM:=hid (HMa.out.trans0 hmae)
 have hA:=hmae.obj id hAa;have hC:=hmae.obj id hCa;have hB5:=hmae.obj id hB9';have hF:=hmae.obj id hBa;have hE:=hBe
 have HMC:Hid (∀(S:Nat->Prop)(w':World),Mod S we w'->(∀k,S k->b5<=k\/k<=b2)->ManC b1 w' cs m):=hid (fun S w' hmm hS=>HMC1.out S w' ((hmae.mono (fun _ _ h=>h.elim)).trans hmm (fun _ _ h=>h)) hS)
 have hrst:=rrRest_any (HRI.out.keep0 hmae)
 have hgst:er2=0↔s=some b.length:=by
  have hst:stOf a6 e6=s:=HST.out;rw[hg1,<-hst];unfold stOf
  by_cases h6:e6=0
  ·simp[h6]
  ·simp[h6]
 have l6c:b6<wc.heap.size:=by omega
 have hce:we.cell? ⟨wc.heap.size,0,none⟩=some (.int .i64 er2):=by rw[cell_of_row _ _ _ _ _ _ hE];rfl
 generalize hb7:wc.heap.size=b7 at*;obtain⟨rs,hrs⟩:∃rs,(if e6≠0 then 0 else(b.length:Int)-a6)=rs:=⟨_,rfl⟩;rw[hrs]at hrst
 clear hmc hmd hme hmae hBd hBe hAa hCa hB9' hBa hend hg1 HMa HMC1 HST HRI hrs
 by_cases h2:er2=0
 ·subst h2
  obtain rfl:=hg2 rfl;go_upto_region 6 with(fail);refine wpR [3,1,3,3,3,1,3,3,3] ?_;simp only[stz];refine wpXd (v:=(.int .i64 0)) 33 b7 0 hce underlying33 trivial ?_
  try simp only[nmz]
  refine qG _ _ _ _ _ _ _ _ rfl rfl rfl rfl rfl false (by decide) ?_;simp only[stz];refine xF rfl trivial ?_;simp only[stz];clear hce hrst
  by_cases h1:er=0
  ·subst h1
   obtain rfl:=he2 rfl;have hyes:ok=true/\s=some b.length:=⟨he1.1 rfl,hgst.1 rfl⟩
   have hcf:we.cell? ⟨b6,0,none⟩=some (.int .i64 0):=by rw[cell_of_row _ _ _ _ _ _ hF];rfl
   go_upto_region 7 with(fail);refine wpR [3,3,3,1,3,3] ?_;simp only[stz];refine wpXd (v:=(.int .i64 0)) 33 b6 0 hcf underlying33 trivial ?_;try simp only[nmz]
   refine qG _ _ _ _ _ _ _ _ rfl rfl rfl rfl rfl true rfl ?_;simp only[stz];clear hcf;go_upto_region 8 with(fail);refine wpR [1,1] ?_;simp only[stz]
   refine wpXA 255 b7 0 #[.int .i64 0,.int .i64 0] (CellsAt.whole hE) underlying255 2 rfl trivial ?_;try simp only[nmz]
   refine wpD (qF 255 _ _ b6 0 #[.int .i64 0,.int .i64 0] (by rfl) (by rfl) (by rfl) (by simp[Value.oneCell']) 2 (by kernel_rfl) rfl _ _ hF (by simp) (fun wz hBz hmz=>?_))
   rw[qC (by rfl)]at hBz;replace HM:=hid (HM.out.transB hmz (by omega));replace hA:=hmz.objB (by omega) hA;replace hC:=hmz.objB (by omega) hC
   replace hB5:=hmz.objB (by omega) hB5
   replace HMC:Hid (∀(S:Nat->Prop)(w':World),Mod S wz w'->(∀k,S k->b5<=k\/k<=b2)->ManC b1 w' cs m):=hid (fun S w' hmm hS=>HMC.out (fun k=>k=b6\/S k) w' ((hmz.mono (fun _ _ h=>.inl h)).trans hmm (fun _ _ h=>.inr h)) (fun k hk=>hk.elim (fun e=>.inl (by omega)) (hS k)))
   clear hF hmz;simp only[stz];replace hF:=hBz;clear hBz hE;have hcf:wz.cell? ⟨b6,0,none⟩=some (.int .i64 0):=by rw[cell_of_row _ _ _ _ _ _ hF];rfl
   go_upto_region 9 with(fail);refine wpR [3,1,3] ?_;simp only[stz];refine wpXd (v:=(.int .i64 0)) 33 b6 0 hcf underlying33 trivial ?_;try simp only[nmz]
   refine qG _ _ _ _ _ _ _ _ rfl rfl rfl rfl rfl false (by decide) ?_;simp only[stz];go_upto_region 11 with(fail)
   have hS:Mod (fun k=>k=b1) wz wz.drew:=(Mod.refl _ _).drew
   have hAd:wz.drew.heap[b1]?=some (.cells (qN 0 [] descZ (.slice none 0 0) (.slice none 0 0)) 163 (0,0)):=hA
   refine wpRZ [0,0,1,2] [3] (fun w'=>Mod (fun k=>k=b1) wz w') hS ?_;simp only[stz]
   refine wpLA 163 b5 0 cs (fun w' hS=>CellsAt.whole (hS.objB (by omega) hB5)) underlying163 39 hcs ?_;simp only[nmz]
   refine wpLA 255 b6 0 #[.int .i64 0,.int .i64 0] (fun w' hS=>CellsAt.whole (hS.objB (by omega) hF)) underlying255 2 rfl ?_;simp only[nmz];refine qM rfl (fun K hK=>?_)
   refine qF 163 _ _ b1 0 cs (by rfl) (by rfl) (by rfl) hone 39 (by kernel_rfl) hcs _ _ hAd (by omega) (fun wg hBg hmg=>?_);rw[qC (by rw[hcs,hz39])]at hBg
   have hSg:Mod (fun k=>k=b1) wz wg:=hS.trans hmg (fun _ _ h=>h);refine hK _ _ hSg ?_;clear hK K;try simp only[nmz]
   refine zB rfl (fun K hK=>?_)
   refine qF 255 _ _ b2 0 #[.int .i64 0,.int .i64 0] (by rfl) (by rfl) (by rfl) (by simp[Value.oneCell']) 2 (by kernel_rfl) rfl _ _ (hSg.objB (by omega) hC) (by simp) (fun wh hCh hmh=>?_)
   rw[qC (by rfl)]at hCh;have hBh:=hmh.objB (by omega) hBg;refine hK _ _ ?_;clear hK K;simp only[stz]
   have HMh:=hid ((HM.out.transB hSg (by omega)).transB hmh (by omega))
   have HMCh:=hid (HMC.out (fun k=>k=b1\/k=b2) wh ((hSg.mono (fun _ _ h=>.inl h)).trans hmh (fun _ _ h=>.inr h)) (fun k hk=>.inr (by omega)))
   have hsz2:(prog.info? 163).map (·.size)=some cs.size:=by rw[hcs];kernel_rfl
   clear hS hSg hmg hmh hBg hAd hA hC hF hB5 HM HMC hcf;go_wp2
   refine bodyPost_ret (qX (P:=prog) (ty:=163) (tz:=255) rfl _ _ b1 b2 _ _ _ _ _ _ _ _ (by rfl) hBh (by rfl) hCh underlying163 rfl hsz2 underlying255 rfl (by kernel_rfl)) rfl ?_
   have hdn:decL b=some m:=by rw[HDL.out,if_pos hyes]
   rw[show DecR w b=fun x w'=>Mod NoB w w'/\∃(cs:Array Value)(er at_:Int),x=.returned (.tuple #[.agg cs,.agg #[.int .i64 er,.int .i64 at_]])/\(er=0↔(decL b).isSome=true)/\ManC w.heap.size w' cs ((decL b).getD manZ)from rfl,hdn]
   exact⟨HMh.out,_,0,0,rfl,by simp,by rw[hb1];exact HMCh.out⟩
  ·have hne1:¬er=0:=h1
   have hno:¬(ok=true/\s=some b.length):=fun hq=>h1 (he1.2 hq.1);have hcf:we.cell? ⟨b6,0,none⟩=some (.int .i64 er):=by rw[cell_of_row _ _ _ _ _ _ hF];rfl
   go_upto_region 7 with(fail);refine wpR [3,3,3,1,3,3] ?_;simp only[stz];refine wpXd (v:=(.int .i64 er)) 33 b6 0 hcf underlying33 trivial ?_;try simp only[nmz]
   refine qG _ _ _ _ _ _ _ _ rfl rfl rfl rfl rfl false (decide_eq_false hne1) ?_;simp only[stz];clear hcf;clear hE
   rename World=>wz
   have hcf:wz.cell? ⟨b6,0,none⟩=some (.int .i64 er):=by rw[cell_of_row _ _ _ _ _ _ hF];rfl
   go_upto_region 9 with(fail);refine wpR [3,1,3] ?_;simp only[stz];refine wpXd (v:=(.int .i64 er)) 33 b6 0 hcf underlying33 trivial ?_;try simp only[nmz]
   refine qG _ _ _ _ _ _ _ _ rfl rfl rfl rfl rfl true (decide_eq_true hne1) ?_;simp only[stz];go_upto_region 10 with(fail)
   have hzo:∀c∈qN 0 [] descZ (.slice none 0 0) (.slice none 0 0),c.oneCell'=true:=zU rfl rfl
   have hS:Mod (fun k=>k=b1) wz wz.drew:=(Mod.refl _ _).drew
   have hAd:wz.drew.heap[b1]?=some (.cells (qN 0 [] descZ (.slice none 0 0) (.slice none 0 0)) 163 (0,0)):=hA
   refine wpRZ [0,0,1,2] [3] (fun w'=>Mod (fun k=>k=b1) wz w') hS ?_;simp only[stz]
   refine qQ rfl (fun w' hS=>qL 163 [] [] _ (by rfl) (by rfl) zero_man) ?_;simp only[nmz]
   refine wpLA 255 b6 0 #[.int .i64 er,.int .i64 at_] (fun w' hS=>CellsAt.whole (hS.objB (by omega) hF)) underlying255 2 rfl ?_;simp only[nmz]
   refine qM rfl (fun K hK=>?_)
   refine qF 163 _ _ b1 0 (qN 0 [] descZ (.slice none 0 0) (.slice none 0 0)) (by rfl) (by rfl) (by rfl) hzo 39 (by kernel_rfl) hz39 _ _ hAd (by omega) (fun wg hBg hmg=>?_)
   rw[qC (by rfl)]at hBg;have hSg:Mod (fun k=>k=b1) wz wg:=hS.trans hmg (fun _ _ h=>h);refine hK _ _ hSg ?_;clear hK K;try simp only[nmz]
   refine zB rfl (fun K hK=>?_)
   refine qF 255 _ _ b2 0 #[.int .i64 er,.int .i64 at_] (by rfl) (by rfl) (by rfl) (by simp[Value.oneCell']) 2 (by kernel_rfl) rfl _ _ (hSg.objB (by omega) hC) (by simp) (fun wh hCh hmh=>?_)
   rw[qC (by rfl)]at hCh;have hBh:=hmh.objB (by omega) hBg;refine hK _ _ ?_;clear hK K;simp only[stz]
   have HMh:=hid ((HM.out.transB hSg (by omega)).transB hmh (by omega))
   have hsz2:(prog.info? 163).map (·.size)=some (qN 0 [] descZ (.slice none 0 0) (.slice none 0 0)).size:=by rw[hz39];kernel_rfl
   clear hS hSg hmg hmh hBg hAd hA hC hF hB5 HM HMC hcf;go_wp2
   refine bodyPost_ret (qX (P:=prog) (ty:=163) (tz:=255) rfl _ _ b1 b2 _ _ _ _ _ _ _ _ (by rfl) hBh (by rfl) hCh underlying163 rfl hsz2 underlying255 rfl (by kernel_rfl)) rfl ?_
   have hdn:decL b=none:=by rw[HDL.out,if_neg hno]
   rw[show DecR w b=fun x w'=>Mod NoB w w'/\∃(cs:Array Value)(er at_:Int),x=.returned (.tuple #[.agg cs,.agg #[.int .i64 er,.int .i64 at_]])/\(er=0↔(decL b).isSome=true)/\ManC w.heap.size w' cs ((decL b).getD manZ)from rfl,hdn]
   exact⟨HMh.out,_,er,at_,rfl,by simp[hne1],qV,_,_,rfl,Gat.nil _ _ _ _ _,Gat.nil _ _ _ _ _⟩
 ·have hne2:¬er2=0:=h2
  have hno:¬(ok=true/\s=some b.length):=fun hq=>h2 (hgst.2 hq.2)
  by_cases hr:rs=0
  ·subst hr
   go_upto_region 6 with(fail);refine wpR [3,1,3,3,3,1,3,3,3] ?_;simp only[stz];refine wpXd (v:=(.int .i64 er2)) 33 b7 0 hce underlying33 trivial ?_
   try simp only[nmz]
   refine qG _ _ _ _ _ _ _ _ rfl rfl rfl rfl rfl true (decide_eq_true hne2) ?_;simp only[stz];refine wpD (wpCM func220 (hrst) fun wr hmr=>?_);try simp only[nmz]
   refine qG _ _ _ _ _ _ _ _ rfl rfl rfl rfl rfl true rfl ?_;simp only[stz];replace hA:=hmr.obj id hA;replace hC:=hmr.obj id hC;replace hB5:=hmr.obj id hB5
   replace hF:=hmr.obj id hF;replace hE:=hmr.obj id hE;replace HM:=hid (HM.out.trans0 hmr)
   replace HMC:Hid (∀(S:Nat->Prop)(w':World),Mod S wr w'->(∀k,S k->b5<=k\/k<=b2)->ManC b1 w' cs m):=hid (fun S w' hmm hS=>HMC.out S w' ((hmr.mono (fun _ _ h=>h.elim)).trans hmm (fun _ _ h=>h)) hS)
   clear hce hrst hmr;go_upto_region 7 with(fail);refine wpR [3,3,3,0,3,3] ?_;simp only[stz];go_upto_region 8 with(fail);refine wpR [1,1] ?_;simp only[stz]
   refine wpXA 255 b7 0 #[.int .i64 er2,.int .i64 at2] (CellsAt.whole hE) underlying255 2 rfl trivial ?_;try simp only[nmz]
   refine wpD (qF 255 _ _ b6 0 #[.int .i64 er2,.int .i64 at2] (by rfl) (by rfl) (by rfl) (by simp[Value.oneCell']) 2 (by kernel_rfl) rfl _ _ hF (by simp) (fun wz hBz hmz=>?_))
   rw[qC (by rfl)]at hBz;replace HM:=hid (HM.out.transB hmz (by omega));replace hA:=hmz.objB (by omega) hA;replace hC:=hmz.objB (by omega) hC
   replace hB5:=hmz.objB (by omega) hB5
   replace HMC:Hid (∀(S:Nat->Prop)(w':World),Mod S wz w'->(∀k,S k->b5<=k\/k<=b2)->ManC b1 w' cs m):=hid (fun S w' hmm hS=>HMC.out (fun k=>k=b6\/S k) w' ((hmz.mono (fun _ _ h=>.inl h)).trans hmm (fun _ _ h=>.inr h)) (fun k hk=>hk.elim (fun e=>.inl (by omega)) (hS k)))
   clear hF hmz;simp only[stz];replace hF:=hBz;clear hBz hE;have hcf:wz.cell? ⟨b6,0,none⟩=some (.int .i64 er2):=by rw[cell_of_row _ _ _ _ _ _ hF];rfl
   go_upto_region 9 with(fail);refine wpR [3,1,3] ?_;simp only[stz];refine wpXd (v:=(.int .i64 er2)) 33 b6 0 hcf underlying33 trivial ?_;try simp only[nmz]
   refine qG _ _ _ _ _ _ _ _ rfl rfl rfl rfl rfl true (decide_eq_true hne2) ?_;simp only[stz];go_upto_region 10 with(fail)
   have hzo:∀c∈qN 0 [] descZ (.slice none 0 0) (.slice none 0 0),c.oneCell'=true:=zU rfl rfl
   have hS:Mod (fun k=>k=b1) wz wz.drew:=(Mod.refl _ _).drew
   have hAd:wz.drew.heap[b1]?=some (.cells (qN 0 [] descZ (.slice none 0 0) (.slice none 0 0)) 163 (0,0)):=hA
   refine wpRZ [0,0,1,2] [3] (fun w'=>Mod (fun k=>k=b1) wz w') hS ?_;simp only[stz]
   refine qQ rfl (fun w' hS=>qL 163 [] [] _ (by rfl) (by rfl) zero_man) ?_;simp only[nmz]
   refine wpLA 255 b6 0 #[.int .i64 er2,.int .i64 at2] (fun w' hS=>CellsAt.whole (hS.objB (by omega) hF)) underlying255 2 rfl ?_;simp only[nmz]
   refine qM rfl (fun K hK=>?_)
   refine qF 163 _ _ b1 0 (qN 0 [] descZ (.slice none 0 0) (.slice none 0 0)) (by rfl) (by rfl) (by rfl) hzo 39 (by kernel_rfl) hz39 _ _ hAd (by omega) (fun wg hBg hmg=>?_)
   rw[qC (by rfl)]at hBg;have hSg:Mod (fun k=>k=b1) wz wg:=hS.trans hmg (fun _ _ h=>h);refine hK _ _ hSg ?_;clear hK K;try simp only[nmz]
   refine zB rfl (fun K hK=>?_)
   refine qF 255 _ _ b2 0 #[.int .i64 er2,.int .i64 at2] (by rfl) (by rfl) (by rfl) (by simp[Value.oneCell']) 2 (by kernel_rfl) rfl _ _ (hSg.objB (by omega) hC) (by simp) (fun wh hCh hmh=>?_)
   rw[qC (by rfl)]at hCh;have hBh:=hmh.objB (by omega) hBg;refine hK _ _ ?_;clear hK K;simp only[stz]
   have HMh:=hid ((HM.out.transB hSg (by omega)).transB hmh (by omega))
   have hsz2:(prog.info? 163).map (·.size)=some (qN 0 [] descZ (.slice none 0 0) (.slice none 0 0)).size:=by rw[hz39];kernel_rfl
   clear hS hSg hmg hmh hBg hAd hA hC hF hB5 HM HMC hcf;go_wp2
   refine bodyPost_ret (qX (P:=prog) (ty:=163) (tz:=255) rfl _ _ b1 b2 _ _ _ _ _ _ _ _ (by rfl) hBh (by rfl) hCh underlying163 rfl hsz2 underlying255 rfl (by kernel_rfl)) rfl ?_
   have hdn:decL b=none:=by rw[HDL.out,if_neg hno]
   rw[show DecR w b=fun x w'=>Mod NoB w w'/\∃(cs:Array Value)(er at_:Int),x=.returned (.tuple #[.agg cs,.agg #[.int .i64 er,.int .i64 at_]])/\(er=0↔(decL b).isSome=true)/\ManC w.heap.size w' cs ((decL b).getD manZ)from rfl,hdn]
   exact⟨HMh.out,_,er2,at2,rfl,by simp[hne2],qV,_,_,rfl,Gat.nil _ _ _ _ _,Gat.nil _ _ _ _ _⟩
  ·go_upto_region 6 with(fail)
   refine wpR [3,1,3,3,3,1,3,3,3] ?_;simp only[stz];refine wpXd (v:=(.int .i64 er2)) 33 b7 0 hce underlying33 trivial ?_;try simp only[nmz]
   refine qG _ _ _ _ _ _ _ _ rfl rfl rfl rfl rfl true (decide_eq_true hne2) ?_;simp only[stz];refine wpD (wpCM func220 (hrst) fun wr hmr=>?_);try simp only[nmz]
   refine qG _ _ _ _ _ _ _ _ rfl rfl rfl rfl rfl false (decide_eq_false hr) ?_;simp only[stz];replace hA:=hmr.obj id hA;replace hC:=hmr.obj id hC
   replace hB5:=hmr.obj id hB5;replace hF:=hmr.obj id hF;replace hE:=hmr.obj id hE;replace HM:=hid (HM.out.trans0 hmr)
   replace HMC:Hid (∀(S:Nat->Prop)(w':World),Mod S wr w'->(∀k,S k->b5<=k\/k<=b2)->ManC b1 w' cs m):=hid (fun S w' hmm hS=>HMC.out S w' ((hmr.mono (fun _ _ h=>h.elim)).trans hmm (fun _ _ h=>h)) hS)
   clear hce hrst hmr
   by_cases h1:er=0
   ·subst h1
    obtain rfl:=he2 rfl;have hcf:wr.cell? ⟨b6,0,none⟩=some (.int .i64 0):=by rw[cell_of_row _ _ _ _ _ _ hF];rfl
    go_upto_region 7 with(fail);refine wpR [3,3,3,1,3,3] ?_;simp only[stz];refine wpXd (v:=(.int .i64 0)) 33 b6 0 hcf underlying33 trivial ?_;try simp only[nmz]
    refine qG _ _ _ _ _ _ _ _ rfl rfl rfl rfl rfl true rfl ?_;simp only[stz];clear hcf;go_upto_region 8 with(fail);refine wpR [1,1] ?_;simp only[stz]
    refine wpXA 255 b7 0 #[.int .i64 er2,.int .i64 at2] (CellsAt.whole hE) underlying255 2 rfl trivial ?_;try simp only[nmz]
    refine wpD (qF 255 _ _ b6 0 #[.int .i64 er2,.int .i64 at2] (by rfl) (by rfl) (by rfl) (by simp[Value.oneCell']) 2 (by kernel_rfl) rfl _ _ hF (by simp) (fun wz hBz hmz=>?_))
    rw[qC (by rfl)]at hBz;replace HM:=hid (HM.out.transB hmz (by omega));replace hA:=hmz.objB (by omega) hA;replace hC:=hmz.objB (by omega) hC
    replace hB5:=hmz.objB (by omega) hB5
    replace HMC:Hid (∀(S:Nat->Prop)(w':World),Mod S wz w'->(∀k,S k->b5<=k\/k<=b2)->ManC b1 w' cs m):=hid (fun S w' hmm hS=>HMC.out (fun k=>k=b6\/S k) w' ((hmz.mono (fun _ _ h=>.inl h)).trans hmm (fun _ _ h=>.inr h)) (fun k hk=>hk.elim (fun e=>.inl (by omega)) (hS k)))
    clear hF hmz;simp only[stz];replace hF:=hBz;clear hBz hE;have hcf:wz.cell? ⟨b6,0,none⟩=some (.int .i64 er2):=by rw[cell_of_row _ _ _ _ _ _ hF];rfl
    go_upto_region 9 with(fail);refine wpR [3,1,3] ?_;simp only[stz];refine wpXd (v:=(.int .i64 er2)) 33 b6 0 hcf underlying33 trivial ?_;try simp only[nmz]
    refine qG _ _ _ _ _ _ _ _ rfl rfl rfl rfl rfl true (decide_eq_true hne2) ?_;simp only[stz];go_upto_region 10 with(fail)
    have hzo:∀c∈qN 0 [] descZ (.slice none 0 0) (.slice none 0 0),c.oneCell'=true:=zU rfl rfl
    have hS:Mod (fun k=>k=b1) wz wz.drew:=(Mod.refl _ _).drew
    have hAd:wz.drew.heap[b1]?=some (.cells (qN 0 [] descZ (.slice none 0 0) (.slice none 0 0)) 163 (0,0)):=hA
    refine wpRZ [0,0,1,2] [3] (fun w'=>Mod (fun k=>k=b1) wz w') hS ?_;simp only[stz]
    refine qQ rfl (fun w' hS=>qL 163 [] [] _ (by rfl) (by rfl) zero_man) ?_;simp only[nmz]
    refine wpLA 255 b6 0 #[.int .i64 er2,.int .i64 at2] (fun w' hS=>CellsAt.whole (hS.objB (by omega) hF)) underlying255 2 rfl ?_;simp only[nmz]
    refine qM rfl (fun K hK=>?_)
    refine qF 163 _ _ b1 0 (qN 0 [] descZ (.slice none 0 0) (.slice none 0 0)) (by rfl) (by rfl) (by rfl) hzo 39 (by kernel_rfl) hz39 _ _ hAd (by omega) (fun wg hBg hmg=>?_)
    rw[qC (by rfl)]at hBg;have hSg:Mod (fun k=>k=b1) wz wg:=hS.trans hmg (fun _ _ h=>h);refine hK _ _ hSg ?_;clear hK K;try simp only[nmz]
    refine zB rfl (fun K hK=>?_)
    refine qF 255 _ _ b2 0 #[.int .i64 er2,.int .i64 at2] (by rfl) (by rfl) (by rfl) (by simp[Value.oneCell']) 2 (by kernel_rfl) rfl _ _ (hSg.objB (by omega) hC) (by simp) (fun wh hCh hmh=>?_)
    rw[qC (by rfl)]at hCh;have hBh:=hmh.objB (by omega) hBg;refine hK _ _ ?_;clear hK K;simp only[stz]
    have HMh:=hid ((HM.out.transB hSg (by omega)).transB hmh (by omega))
    have hsz2:(prog.info? 163).map (·.size)=some (qN 0 [] descZ (.slice none 0 0) (.slice none 0 0)).size:=by rw[hz39];kernel_rfl
    clear hS hSg hmg hmh hBg hAd hA hC hF hB5 HM HMC hcf;go_wp2
    refine bodyPost_ret (qX (P:=prog) (ty:=163) (tz:=255) rfl _ _ b1 b2 _ _ _ _ _ _ _ _ (by rfl) hBh (by rfl) hCh underlying163 rfl hsz2 underlying255 rfl (by kernel_rfl)) rfl ?_
    have hdn:decL b=none:=by rw[HDL.out,if_neg hno]
    rw[show DecR w b=fun x w'=>Mod NoB w w'/\∃(cs:Array Value)(er at_:Int),x=.returned (.tuple #[.agg cs,.agg #[.int .i64 er,.int .i64 at_]])/\(er=0↔(decL b).isSome=true)/\ManC w.heap.size w' cs ((decL b).getD manZ)from rfl,hdn]
    exact⟨HMh.out,_,er2,at2,rfl,by simp[hne2],qV,_,_,rfl,Gat.nil _ _ _ _ _,Gat.nil _ _ _ _ _⟩
   ·have hne1:¬er=0:=h1
    have hcf:wr.cell? ⟨b6,0,none⟩=some (.int .i64 er):=by rw[cell_of_row _ _ _ _ _ _ hF];rfl
    go_upto_region 7 with(fail);refine wpR [3,3,3,1,3,3] ?_;simp only[stz];refine wpXd (v:=(.int .i64 er)) 33 b6 0 hcf underlying33 trivial ?_;try simp only[nmz]
    refine qG _ _ _ _ _ _ _ _ rfl rfl rfl rfl rfl false (decide_eq_false hne1) ?_;simp only[stz];clear hcf;clear hE
    rename World=>wz
    have hcf:wz.cell? ⟨b6,0,none⟩=some (.int .i64 er):=by rw[cell_of_row _ _ _ _ _ _ hF];rfl
    go_upto_region 9 with(fail);refine wpR [3,1,3] ?_;simp only[stz];refine wpXd (v:=(.int .i64 er)) 33 b6 0 hcf underlying33 trivial ?_;try simp only[nmz]
    refine qG _ _ _ _ _ _ _ _ rfl rfl rfl rfl rfl true (decide_eq_true hne1) ?_;simp only[stz];go_upto_region 10 with(fail)
    have hzo:∀c∈qN 0 [] descZ (.slice none 0 0) (.slice none 0 0),c.oneCell'=true:=zU rfl rfl
    have hS:Mod (fun k=>k=b1) wz wz.drew:=(Mod.refl _ _).drew
    have hAd:wz.drew.heap[b1]?=some (.cells (qN 0 [] descZ (.slice none 0 0) (.slice none 0 0)) 163 (0,0)):=hA
    refine wpRZ [0,0,1,2] [3] (fun w'=>Mod (fun k=>k=b1) wz w') hS ?_;simp only[stz]
    refine qQ rfl (fun w' hS=>qL 163 [] [] _ (by rfl) (by rfl) zero_man) ?_;simp only[nmz]
    refine wpLA 255 b6 0 #[.int .i64 er,.int .i64 at_] (fun w' hS=>CellsAt.whole (hS.objB (by omega) hF)) underlying255 2 rfl ?_;simp only[nmz]
    refine qM rfl (fun K hK=>?_)
    refine qF 163 _ _ b1 0 (qN 0 [] descZ (.slice none 0 0) (.slice none 0 0)) (by rfl) (by rfl) (by rfl) hzo 39 (by kernel_rfl) hz39 _ _ hAd (by omega) (fun wg hBg hmg=>?_)
    rw[qC (by rfl)]at hBg;have hSg:Mod (fun k=>k=b1) wz wg:=hS.trans hmg (fun _ _ h=>h);refine hK _ _ hSg ?_;clear hK K;try simp only[nmz]
    refine zB rfl (fun K hK=>?_)
    refine qF 255 _ _ b2 0 #[.int .i64 er,.int .i64 at_] (by rfl) (by rfl) (by rfl) (by simp[Value.oneCell']) 2 (by kernel_rfl) rfl _ _ (hSg.objB (by omega) hC) (by simp) (fun wh hCh hmh=>?_)
    rw[qC (by rfl)]at hCh;have hBh:=hmh.objB (by omega) hBg;refine hK _ _ ?_;clear hK K;simp only[stz]
    have HMh:=hid ((HM.out.transB hSg (by omega)).transB hmh (by omega))
    have hsz2:(prog.info? 163).map (·.size)=some (qN 0 [] descZ (.slice none 0 0) (.slice none 0 0)).size:=by rw[hz39];kernel_rfl
    clear hS hSg hmg hmh hBg hAd hA hC hF hB5 HM HMC hcf;go_wp2
    refine bodyPost_ret (qX (P:=prog) (ty:=163) (tz:=255) rfl _ _ b1 b2 _ _ _ _ _ _ _ _ (by rfl) hBh (by rfl) hCh underlying163 rfl hsz2 underlying255 rfl (by kernel_rfl)) rfl ?_
    have hdn:decL b=none:=by rw[HDL.out,if_neg hno]
    rw[show DecR w b=fun x w'=>Mod NoB w w'/\∃(cs:Array Value)(er at_:Int),x=.returned (.tuple #[.agg cs,.agg #[.int .i64 er,.int .i64 at_]])/\(er=0↔(decL b).isSome=true)/\ManC w.heap.size w' cs ((decL b).getD manZ)from rfl,hdn]
    exact⟨HMh.out,_,er,at_,rfl,by simp[hne1],qV,_,_,rfl,Gat.nil _ _ _ _ _,Gat.nil _ _ _ _ _⟩
end
section
open Go.RowKit Go.Proofs.Tryz Go.Lib
section
variable{β:Type}
def posB(k:List UInt8):List (List UInt8×β)->Nat
 | []=>0
 |p::l=>if p.1<k then posB k l+1 else 0
abbrev SortedB(r:List (List UInt8×β)):Prop:=r.Pairwise fun p q=>p.1<q.1
theorem posB_le(k:List UInt8):∀r:List (List UInt8×β),posB k r<=r.length
 | []=>by simp[posB]
 |p::r=>by
  have:=posB_le k r;simp only[posB,List.length_cons]
  split<;>omega
theorem posB_lt(k:List UInt8):∀(r:List (List UInt8×β))(i:Nat)(h:i<r.length),i<posB k r->r[i].1<k
 |p::r,i,h,hi=>by
  simp only[posB]at hi
  split at hi
  ·rename_i hp
   cases i with
   |zero=>exact hp
   |succ i=>exact posB_lt k r i (by simpa using h) (by omega)
  ·omega
theorem posB_ge(k:List UInt8):∀(r:List (List UInt8×β))(h:posB k r<r.length),¬r[posB k r].1<k
 |p::r,h=>by
  by_cases hp:p.1<k
  ·have e:posB k (p::r)=posB k r+1:=by simp[posB,hp]
   have h':posB k r<r.length:=by rw[e]at h;simpa using h
   have:=posB_ge k r h'
   simpa only[e,List.getElem_cons_succ]using this
  ·have e:posB k (p::r)=0:=by simp[posB,hp]
   simpa only[e,List.getElem_cons_zero]using hp
theorem posB_eq{k:List UInt8}{r:List (List UInt8×β)}{i:Nat}(hi:i<=r.length)(h1:∀j (h:j<r.length),j<i->r[j].1<k)(h2:∀h:i<r.length,¬r[i].1<k):posB k r=i:=by
 rcases Nat.lt_trichotomy (posB k r) i with h|h|h
 ·exact absurd (h1 _ (by omega) h) (posB_ge k r (by omega))
 ·exact h
 ·have:=posB_le k r
  exact absurd (posB_lt k r i (by omega) h) (h2 (by omega))
theorem SortedB.nodup{r:List (List UInt8×β)}(h:SortedB r):(r.map (·.1)).Nodup:=by
 rw[List.nodup_iff_pairwise_ne,List.pairwise_map];exact h.imp fun{a b} hab (e:a.1=b.1)=>List.lt_irrefl b.1 (by rw[e]at hab;exact hab)
def isB(k:List UInt8)(r:List (List UInt8×β)):Bool:=match r[posB k r]? with|some p=>decide (p.1=k)|none=>false
theorem SortedB.at{r:List (List UInt8×β)}(h:SortedB r)(k:List UInt8):∀x,getL k r=some x↔r[posB k r]?=some (k,x):=by
 intro x
 constructor
 ·intro hg
  obtain⟨i,hi,e⟩:=List.getElem_of_mem (getL_mem hg)
  have hp:posB k r=i:=by
   refine posB_eq (by omega) (fun j hj hji=>?_) (fun _=>?_)
   ·have:=List.pairwise_iff_getElem.1 h j i hj hi hji
    rw[e]at this;exact this
   ·rw[e];exact List.lt_irrefl _
  rw[hp,List.getElem?_eq_getElem hi,e]
 ·intro hg
  exact getL_of_mem h.nodup (List.mem_of_getElem? hg)
theorem SortedB.isSome{r:List (List UInt8×β)}(h:SortedB r)(k:List UInt8):isB k r=(getL k r).isSome:=by
 unfold isB
 cases hq:r[posB k r]? with
 |none=>
  cases hg:getL k r with
  |none=>rfl
  |some x=>rw[(h.at k x).1 hg]at hq;cases hq
 |some p=>
  by_cases hp:p.1=k
  ·have:r[posB k r]?=some (k,p.2):=by rw[hq,<-hp]
   rw[(h.at k p.2).2 this];simp[hp]
  ·cases hg:getL k r with
   |none=>simp[hp]
   |some x=>rw[(h.at k x).1 hg]at hq;cases hq;exact absurd rfl hp
def insB(k:List UInt8)(x:β)(r:List (List UInt8×β)):List (List UInt8×β):=r.take (posB k r)++(k,x)::r.drop (posB k r)
theorem SortedB.ins{r:List (List UInt8×β)}(h:SortedB r){k:List UInt8}(x:β)(hg:getL k r=none):SortedB (insB k x r):=by
 have hk:=getL_none.1 hg;have h1:SortedB (r.take (posB k r)):=h.sublist (List.take_sublist _ _);have h2:SortedB (r.drop (posB k r)):=h.sublist (List.drop_sublist _ _)
 have ha:∀p∈r.take (posB k r),p.1<k:=fun p hp=>by
  obtain⟨i,hi,e⟩:=List.getElem_of_mem hp;have hi':i<posB k r/\i<r.length:=by simp at hi;omega
  rw[List.getElem_take]at e;rw[<-e];exact posB_lt k r i hi'.2 hi'.1
 have hb:∀p∈r.drop (posB k r),k<p.1:=fun p hp=>by
  obtain⟨i,hi,e⟩:=List.getElem_of_mem hp;have hi':posB k r+i<r.length:=by simp at hi;omega
  rw[List.getElem_drop]at e;have hp0:posB k r<r.length:=by omega
  have h0:=posB_ge k r hp0;have hne:r[posB k r].1≠k:=fun e=>hk (e▸List.mem_map.2 ⟨_,List.getElem_mem hp0,rfl⟩)
  have h3:k<r[posB k r].1:=by
   rcases ltB_tri r[posB k r].1 k with h|h|h
   ·exact absurd h h0
   ·exact absurd h hne
   ·exact h
  rw[<-e]
  rcases Nat.eq_zero_or_pos i with rfl|hi0
  ·exact h3
  ·exact ltB_trans h3 (List.pairwise_iff_getElem.1 h (posB k r) (posB k r+i) hp0 hi' (by omega))
 show List.Pairwise _ (r.take (posB k r)++(k,x)::r.drop (posB k r))
 rw[List.pairwise_append,List.pairwise_cons];refine⟨h1,⟨hb,h2⟩,fun p hp q hq=>?_⟩
 rcases List.mem_cons.1 hq with rfl|hq
 ·exact ha p hp
 ·exact ltB_trans (ha p hp) (hb q hq)
theorem ins_permB(k:List UInt8)(x:β)(r:List (List UInt8×β)):(insB k x r).Perm (r++[(k,x)]):=by
 unfold insB;refine List.perm_middle.trans ?_;rw[List.take_append_drop];exact(List.perm_append_singleton _ _).symm
structure Ref8(r l:List (List UInt8×β)):Prop where
 sorted:SortedB r
 perm:r.Perm l
theorem Ref8.nodup{r l:List (List UInt8×β)}(h:Ref8 r l):(l.map (·.1)).Nodup:=(h.perm.map _).nodup_iff.1 h.sorted.nodup
theorem Ref8.get{r l:List (List UInt8×β)}(h:Ref8 r l)(k:List UInt8):getL k r=getL k l:=by
 have hm:∀x,getL k r=some x↔getL k l=some x:=fun x=>
  ⟨fun hg=>getL_of_mem h.nodup (h.perm.mem_iff.1 (getL_mem hg)),fun hg=>getL_of_mem h.sorted.nodup (h.perm.mem_iff.2 (getL_mem hg))⟩
 cases hr:getL k r with
 |some x=>exact((hm x).1 hr).symm
 |none=>
  cases hl:getL k l with
  |none=>rfl
  |some x=>rw[(hm x).2 hl]at hr;cases hr
end
def putR(k m:List UInt8)(r:BlobL):BlobL:=if(getL k r).isSome then r else insB k m r
theorem Ref8.put{r c:BlobL}(h:Ref8 r c)(k m:List UInt8):Ref8 (putR k m r) (putB k m c):=by
 unfold putR putB;rw[h.get]
 cases hg:getL k c with
 |some x=>exact h
 |none=>
  have hr:getL k r=none:=by rw[h.get];exact hg
  exact⟨h.sorted.ins m hr,(ins_permB k m r).trans (h.perm.append_right _)⟩
def rOf(wd:Nat)(L:List (List UInt8)):BlobL:=L.foldl (fun c b=>putR (ofI wd b) b c) []
theorem rOf_snoc(wd:Nat)(L:List (List UInt8))(k:Nat)(hk:k<L.length):rOf wd (L.take (k+1))=putR (ofI wd L[k]) L[k] (rOf wd (L.take k)):=by
 unfold rOf;rw[List.take_succ_eq_append_getElem hk,List.foldl_append]
 rfl
theorem rOf_ref(wd:Nat)(L:List (List UInt8)):Ref8 (rOf wd L) (cOf wd L):=by
 suffices h:∀(L:List (List UInt8))(r c:BlobL),Ref8 r c->Ref8 (L.foldl (fun c b=>putR (ofI wd b) b c) r) (L.foldl (fun c b=>putB (ofI wd b) b c) c)from h L [] [] ⟨.nil,.refl _⟩
 intro L
 induction L with
 |nil=>intro r c h;exact h
 |cons b L ih=>intro r c h;exact ih _ _ (h.put _ _)
end
section
open Go.RowKit Go.Shelf Go.Proofs.Tryz Go.Lib
abbrev Rb8:=List UInt8×(List UInt8×(Option Addr×Nat))
abbrev R8L:=List Rb8
def rbV(p:Rb8):Value:=.slice p.2.2.1 p.2.1.length p.2.2.2
def rbL(p:Rb8):List Value:=idE p.1++[rbV p]
theorem rbL_len(p:Rb8):(rbL p).length=33:=by simp[rbL,yX]
theorem rbL_one(p:Rb8):∀c∈rbL p,c.oneCell'=true:=by
 intro c hc
 rcases List.mem_append.1 hc with h|h
 ·exact xE p.1 c h
 ·rw[List.mem_singleton.1 h];rfl
theorem rbL_arr{p:Rb8}(h:p.1.length=32):(rbL p).toArray=qA p.1++#[rbV p]:=by
 unfold rbL;rw[<-idE_eq h]
 simp
def contR(r:R8L):BlobL:=r.map fun p=>(p.1,p.2.1)
theorem contR_get(k:List UInt8):∀(r:R8L),getL k (contR r)=(getL k r).map (·.1)
 | []=>rfl
 |p::r=>by
  show getL k ((p.1,p.2.1)::contR r)=_
  unfold getL
  by_cases e:k=p.1
  ·rw[if_pos e,if_pos e];rfl
  ·rw[if_neg e,if_neg e,contR_get k r]
theorem contR_pos(k:List UInt8):∀(r:R8L),posB k (contR r)=posB k r
 | []=>rfl
 |p::r=>by
  show posB k ((p.1,p.2.1)::contR r)=_
  simp only[posB,contR_pos k r]
theorem contR_sort{r:R8L}:SortedB (contR r)↔SortedB r:=by
 unfold SortedB contR;rw[List.pairwise_map]
theorem contR_len(r:R8L):(contR r).length=r.length:=List.length_map ..
theorem contR_ins(k m:List UInt8)(v:Option Addr×Nat)(r:R8L):contR (insB k (m,v) r)=insB k m (contR r):=by
 unfold insB;rw[contR_pos]
 simp[contR,List.map_take,List.map_drop]
structure R8At(w:World)(q wd:Nat)(r:R8L)(R:Nat->Prop):Prop where
 ok:∃v,w.heap[q]?=some (.cells #[.int .i64 wd,.int .i64 67108864,v] 89 (0,0))/\Gat rbL 225 33 0 w v r/\R q/\∀g,v.ownBlock=some g->R g/\g≠q/\∀p∈r,(rbV p).ownBlock≠some g
 bts:∀p∈r,Bts 0 w (rbV p) p.2.1/\∀g,(rbV p).ownBlock=some g->R g/\g≠q
 ids:∀p∈r,p.1.length=32
 sz:∀p∈r,p.2.1.length<=4096
 few:r.length<=10000
 wok:1<=wd/\wd<=32
 lt:∀k,R k->k<w.heap.size
def R8Step(w:World)(q wd:Nat)(R:Nat->Prop)(w':World)(r':R8L):Prop:=∃R',R8At w' q wd r' R'/\Mod R w w'/\∀k,R' k->R k\/New w w' k
section
variable{w w':World}{q wd:Nat}{r r':R8L}{R:Nat->Prop}
theorem R8At.keep{S:Nat->Prop}(h:R8At w q wd r R)(hm:Mod S w w')(hS:∀k,R k->¬S k):R8At w' q wd r R:=by
 obtain⟨⟨v,h1,h2,h3,h4⟩,hb,hi,hz,hf,hw,hl⟩:=h
 exact⟨⟨v,hm.obj (hS q h3) h1,h2.keep hm (fun g hg=>hS g (h4 g hg).1),h3,h4⟩,fun p hp=>⟨Bts.keep (hb p hp).1 hm (fun g hg=>hS g ((hb p hp).2 g hg).1),(hb p hp).2⟩,hi,hz,hf,hw,fun k hk=>Nat.lt_of_lt_of_le (hl k hk) hm.size⟩
theorem R8At.keep0(h:R8At w q wd r R)(hm:Mod NoB w w'):R8At w' q wd r R:=h.keep hm (fun _ _=>id)
theorem R8At.step(h:R8At w q wd r R)(hm:Mod NoB w w'):R8Step w q wd R w' r:=⟨R,h.keep0 hm,hm.mono (fun _ _ h=>False.elim h),fun k hk=>.inl hk⟩
theorem R8At.at(h:R8At w q wd r R):∃ad cap,w.cell? ⟨q,0,none⟩=some (.int .i64 wd)/\w.cell? ⟨q,1,none⟩=some (.int .i64 67108864)/\w.cell? ⟨q,2,none⟩=some (.slice ad r.length cap)/\r.length<=cap/\
 ∀i (hi:i<r.length),∃g,ad=some ⟨g,0,none⟩/\CellsAt w g (i*33) (qA r[i].1)/\w.cell? ⟨g,i*33+32,none⟩=some (rbV r[i]):=by
 obtain⟨⟨v,h1,h2,h3,h4⟩,hb,hi,hz,hf,hw,hl⟩:=h;obtain⟨ad,cap,rfl⟩:=h2.slice
 refine⟨ad,cap,by rw[cell_of_row _ _ _ _ _ _ h1];rfl,by rw[cell_of_row _ _ _ _ _ _ h1];rfl,by rw[cell_of_row _ _ _ _ _ _ h1];rfl,?_,fun i hi'=>?_⟩
 ·rcases h2.2 with⟨e,h0⟩|⟨g,c,cur,e,_,_,hc,_⟩
  ·omega
  ·injection e with e1 e2 e3
   rw[e3];exact hc
 ·obtain⟨g,c,cur,e,hg,hc,-⟩:=Gat.at h2 rbL_len i hi'
  injection e with e1 e2 e3;subst e1;have hid:=hi _ (List.getElem_mem hi');have hcells:=rbL_arr hid;have hs:(qA r[i].1).size=32:=by rw[qD,hid]
  refine⟨g,rfl,fun j hj=>?_,?_⟩
  ·have h9:=hc.cell (j:=j) (v:=(qA r[i].1)[j]) (by rw[hcells,Array.getElem?_append_left hj];simp)
   rw[h9];simp
  ·exact hc.cell (j:=32) (by rw[hcells,Array.getElem?_append_right (by omega),hs];rfl)
end
theorem R8At.own{w:World}{q wd:Nat}{r:R8L}{R:Nat->Prop}(h:R8At w q wd r R):∃ad cap,w.heap[q]?=some (.cells #[.int .i64 wd,.int .i64 67108864,.slice ad r.length cap] 89 (0,0))/\Gat rbL 225 33 0 w (.slice ad r.length cap) r/\R q/\∀g,(Value.slice ad r.length cap).ownBlock=some g->R g/\g≠q/\∀p∈r,(rbV p).ownBlock≠some g:=by
 obtain⟨⟨v,h1,h2,h3,h4⟩,-⟩:=h;obtain⟨ad,cap,rfl⟩:=h2.slice;exact⟨ad,cap,h1,h2,h3,h4⟩
theorem R8Step.mk{w:World}{q wd:Nat}{r:R8L}{R:Nat->Prop}(h:R8At w q wd r R){w8 w9:World}{v:Value}{r':R8L}(hG:Gat rbL 225 33 0 w8 v r')(hm8:Mod (fun k=>R k/\k≠q) w w8)(hB9:w9.heap[q]?=some (.cells #[.int .i64 wd,.int .i64 67108864,v] 89 (0,0)))(hm9:Mod (fun k=>k=q) w8 w9)
 (hv:∀g,v.ownBlock=some g->(R g\/New w w8 g)/\g≠q/\∀p∈r',(rbV p).ownBlock≠some g)(hb:∀p∈r',Bts 0 w8 (rbV p) p.2.1/\∀g,(rbV p).ownBlock=some g->(R g\/New w w8 g)/\g≠q)(hi:∀p∈r',p.1.length=32)(hz:∀p∈r',p.2.1.length<=4096)(hf:r'.length<=10000):R8Step w q wd R w9 r':=by
 have hRq:R q:=by obtain⟨_,_,_,h3,_⟩:=h.ok;exact h3
 have hM:Mod R w w9:=(hm8.mono (S':=R) fun _ _ h=>h.1).trans hm9 (fun k _ e=>by rw[show k=q from e];exact hRq)
 have up:∀g,R g\/New w w8 g->R g\/New w w9 g:=fun g hg=>hg.imp id fun h=>⟨h.1,Nat.lt_of_lt_of_le h.2 hm9.size⟩
 refine⟨fun k=>R k\/New w w9 k,⟨⟨v,hB9,hG.keep hm9 (fun g e=>(hv g e).2.1),.inl hRq,fun g e=>⟨up g (hv g e).1,(hv g e).2⟩⟩,fun p hp=>⟨Bts.keep (hb p hp).1 hm9 (fun g e=>((hb p hp).2 g e).2),fun g e=>⟨up g ((hb p hp).2 g e).1,((hb p hp).2 g e).2⟩⟩,hi,hz,hf,h.wok,fun k hk=>?_⟩,hM,fun k hk=>hk⟩
 rcases hk with hk|hk
 ·exact Nat.lt_of_lt_of_le (h.lt k hk) hM.size
 ·exact hk.2
theorem r8Z:(prog.info? 89).bind (·.zero)=some (.agg #[.int .i64 0,.int .i64 0,.slice none 0 0]):=by kernel_rfl
theorem r8P:xR prog 89=some [(0,1),(1,1),(2,1)]:=by kernel_rfl
theorem built_r8(n:Int):prog.built 89 [(0,.int .i64 n),(1,.int .i64 67108864)]=some #[.int .i64 n,.int .i64 67108864,.slice none 0 0]:=by
 rw[zL r8Z r8P,zD (off:=0) (size:=1) rfl rfl (by simp),zD (off:=1) (size:=1) rfl rfl (by simp[qZ,Value.cells]),xT]
 rfl
def R8New(w:World)(wd:Nat):Ending->World->Prop:=fun e w'=>∃q R,e=.returned (.tuple #[.pointer (some ⟨q,0,none⟩),.int .i64 0])/\R8At w' q wd [] R/\Mod NoB w w'/\∀k,R k->w.heap.size<=k
theorem r8New_any(wd:Nat)(hw:1<=wd/\wd<=32)(w:World):Calls prog 80 #[.int .i64 wd,.int .i64 67108864] w (R8New w wd):=by
 have h1:¬(wd:Int)<1:=by omega
 have h2:¬(32:Int)<wd:=by omega
 go_enter func80,ntmps80;go_upto_region 3 with(fail);refine wpR [3,3,0,1,3,3] ?_;simp only[stz]
 refine qQ rfl (fun w' hS=>qL 89 [(0,_),(1,_)] [(0,.int .i64 wd),(1,.int .i64 67108864)] _ (by rfl) (by rfl) (built_r8 wd)) ?_;simp only[nmz]
 refine wpD (zT 89 _ _ (by rfl) (by rfl) (fun w1 hB1 hm1 hs1=>?_))
 replace hB1:w1.heap[w.heap.size]?=some (.cells #[.int .i64 wd,.int .i64 67108864,.slice none 0 0] 89 (0,0)):=hB1;simp only[stz];go_wp2;go_ret2
 refine⟨w.heap.size,fun k=>k=w.heap.size,rfl,⟨⟨_,hB1,Gat.nil _ _ _ _ _,rfl,fun g h=>(nomatch h)⟩,fun p hp=>(nomatch hp),fun p hp=>(nomatch hp),fun p hp=>(nomatch hp),by simp,hw,fun k hk=>?_⟩,hm1,fun k hk=>?_⟩
 ·rw[show k=w.heap.size from hk];exact hs1
 ·rw[show k=w.heap.size from hk];exact Nat.le_refl _
section
variable{w:World}{q wd:Nat}{r:R8L}{R:Nat->Prop}
def At8Rel(r:R8L)(k:List UInt8)(w0:World)(v:Value)(w:World):Prop:=∃n:Nat,n<=r.length/\v=.int .i64 n/\(∀j (h:j<r.length),j<n->r[j].1<k)/\Mod NoB w0 w
theorem r8At_any(h:R8At w q wd r R){k:List UInt8}(hk:k.length=32):Calls prog 153 #[.pointer (some ⟨q,0,none⟩),.agg (qA k)] w (RetM (.tuple #[.int .i64 (posB k r),.bool (isB k r)]) w):=by
 have hkc:(qA k).size=32:=by rw[qD,hk]
 obtain⟨ra,rc,-,-,hLc,hlc,hat⟩:=h.at;have hids:=h.ids;have hfew:=h.few;have HA:=Lib.hid hat;have HI:=Lib.hid hids;clear hat hids h;go_enter func153,ntmps153
 go_upto_region 0 with(fail);refine wpR [1,3,3] ?_;simp only[stz];refine wpD (zT 24 _ _ (by rfl) (by rfl) (fun w1 hB1 hm1 hs1=>?_))
 replace hB1:w1.heap[w.heap.size]?=some (.cells (qA k) 24 (0,0)):=hB1;simp only[stz];have hLc:=hm1.cell id hLc
 have hbx:CellsAt w1 w.heap.size 0 (qA k):=CellsAt.whole hB1;have HM1:=Lib.hid hm1;generalize w.heap.size=b3 at*;clear hB1 hm1 hs1;go_wp2
 go_loopw [6] (At8Rel r k w1) (fun i _=>r.length-(intOf i).toNat)
 case atStart=>exact⟨0,by omega,rfl,fun j _ hj=>by omega,Mod.refl _ _⟩
 case round=>
  rename World=>wr
  obtain⟨n,hn,rfl,hpre,hM⟩:=hrel;go_upto_region 2 with(fail);have hS:Mod NoB w1 wr.drew:=hM.drew
  by_cases hlt:n<r.length
  ·have hz:(n:Int)<(r.length:Int):=by omega
   obtain⟨g,rfl,hcid,-⟩:=HA.out n hlt;have hcid:=hcid.keep HM1.out id;have hp32:=HI.out r[n] (List.getElem_mem hlt)
   have hpc:(qA r[n].1).size=32:=by rw[qD,hp32]
   have hnext:r[n].1<k->∀j (h:j<r.length),j<n+1->r[j].1<k:=fun h1 j hj hj1=>by
    rcases Nat.lt_or_ge j n with h2|h2
    ·exact hpre j hj h2
    ·have:j=n:=by omega
     subst this;exact h1
   have hstop:¬r[n].1<k->posB k r=n:=fun h1=>posB_eq (by omega) hpre (fun _=>h1)
   have hisl:posB k r=n->isB k r=decide (r[n].1=k):=fun e=>by unfold isB;rw[e,List.getElem?_eq_getElem hlt]
   have hneg:=cmpI_neg r[n].1 k;clear hpre;generalize r[n].1=x at*;have hcmp:=fun w'=>refCompare_any x k hp32 hk w'
   have HNX:=Lib.hid hnext;have HST:=Lib.hid hstop;have HIS:=Lib.hid hisl;have HNG:=Lib.hid hneg;generalize cmpI x k=cv at*;clear hnext hstop hisl hneg HA HI
   by_cases hcv:cv<0
   ·skip
    refine wpRZ [3,3,3,3,0,3,3,3,3,3,3,0,3,3,3,0,0,1,3,3] [] (fun w'=>Mod NoB w1 w') hS ?_;simp only[stz]
    refine wpLd 87 q 2 (fun w' hS=>hS.cell id hLc) underlying87 ?_;simp only[nmz];refine wpPL ?_;simp only[nmz]
    refine qG _ _ _ _ _ _ _ _ rfl rfl rfl rfl rfl true (decide_eq_true hz) ?_;simp only[stz];refine wpLd 87 q 2 (fun w' hS=>hS.cell id hLc) underlying87 ?_
    simp only[stz];refine wpPI underlying87 33 hlt ?_;simp only[stz];refine wpLA 24 g (n*33) (qA x) (fun w' hS=>hcid.keep hS id) underlying24 32 hpc ?_;simp only[nmz]
    refine wpLA 24 b3 0 (qA k) (fun w' hS=>hbx.keep hS id) underlying24 32 hkc ?_;simp only[nmz];refine qM rfl (fun K hK=>?_);refine wpC func195 (hcmp _) ?_
    rintro e w5 ⟨rfl,hm5⟩;have hS5:=hS.trans0 hm5;refine⟨_,rfl,hK _ _ hS5 ?_⟩;clear hK K;try simp only[nmz]
    refine qG _ _ _ _ _ _ _ _ rfl rfl rfl rfl rfl true (decide_eq_true hcv) ?_;simp only[stz];have HNX2:=Lib.hid (HNX.out (HNG.out.1 hcv));clear hM hS hcid hcmp;go_wp2
    go_roundw
    case rel=>exact⟨n+1,by omega,by go_num,HNX2.out,hS5⟩
    case measure=>simp[intOf];omega
   ·have hp0:=HST.out (fun h=>hcv (HNG.out.2 h))
    obtain⟨t4,ht4⟩:∃t,decide (x=k)=t:=⟨_,rfl⟩;have hi0:=(HIS.out hp0).trans ht4;have HP:=Lib.hid hp0;have HII:=Lib.hid hi0;have HT4:=Lib.hid ht4
    clear hp0 hi0 ht4;refine wpRZ [3,3,3,3,0,3,3,3,3,3,3,0,3,3,3,0,0,1,3,3] [] (fun w'=>Mod NoB w1 w') hS ?_;simp only[stz]
    refine wpLd 87 q 2 (fun w' hS=>hS.cell id hLc) underlying87 ?_;simp only[nmz];refine wpPL ?_;simp only[nmz]
    refine qG _ _ _ _ _ _ _ _ rfl rfl rfl rfl rfl true (decide_eq_true hz) ?_;simp only[stz];refine wpLd 87 q 2 (fun w' hS=>hS.cell id hLc) underlying87 ?_
    simp only[stz];refine wpPI underlying87 33 hlt ?_;simp only[stz];refine wpLA 24 g (n*33) (qA x) (fun w' hS=>hcid.keep hS id) underlying24 32 hpc ?_;simp only[nmz]
    refine wpLA 24 b3 0 (qA k) (fun w' hS=>hbx.keep hS id) underlying24 32 hkc ?_;simp only[nmz];refine qM rfl (fun K hK=>?_);refine wpC func195 (hcmp _) ?_
    rintro e w5 ⟨rfl,hm5⟩;have hS5:=hS.trans0 hm5;refine⟨_,rfl,hK _ _ hS5 ?_⟩;clear hK K;try simp only[nmz]
    refine qG _ _ _ _ _ _ _ _ rfl rfl rfl rfl rfl false (decide_eq_false hcv) ?_;simp only[stz];clear hM hS hcmp;go_upto_region 4 with(fail)
    have hS:Mod NoB w1 w5.drew:=hS5.drew;refine wpRZ [3,3,3,3,3,0,3,3,3,3,3,3,0,3,3,3,0,0,0,3,3,3] [] (fun w'=>Mod NoB w1 w') hS ?_;simp only[stz]
    refine wpLd 87 q 2 (fun w' hS=>hS.cell id hLc) underlying87 ?_;simp only[nmz];refine wpPL ?_;simp only[nmz]
    refine qG _ _ _ _ _ _ _ _ rfl rfl rfl rfl rfl true (decide_eq_true hz) ?_;simp only[stz];refine wpLd 87 q 2 (fun w' hS=>hS.cell id hLc) underlying87 ?_
    simp only[stz];refine wpPI underlying87 33 hlt ?_;simp only[stz];refine wpLA 24 g (n*33) (qA x) (fun w' hS=>hcid.keep hS id) underlying24 32 hpc ?_;simp only[nmz]
    refine wpLA 24 b3 0 (qA k) (fun w' hS=>hbx.keep hS id) underlying24 32 hkc ?_;simp only[nmz]
    refine qQ rfl (fun w' hS=>yZ _ _ _ _ rfl _ _ rfl rfl 32 5 underlying24 underlying5 (by kernel_rfl) (by kernel_rfl) hp32 hk t4 HT4.out) ?_;simp only[stz]
    have hM3:=HM1.out.trans0 hS;clear hS hS5 hcid;go_wp2;go_ret2;rw[HP.out,HII.out];exact⟨rfl,hM3⟩
  ·have hz:¬(n:Int)<(r.length:Int):=by omega
   have hp0:posB k r=n:=posB_eq (by omega) hpre (fun h=>absurd h hlt);have hi0:isB k r=false:=by unfold isB;rw[hp0,List.getElem?_eq_none (by omega)]
   have HP:=Lib.hid hp0;have HII:=Lib.hid hi0;clear hp0 hi0 hpre HA HI
   refine wpRZ [3,3,3,3,0,3,3,3,3,3,3,0,3,3,3,0,0,1,3,3] [] (fun w'=>Mod NoB w1 w') hS ?_;simp only[stz]
   refine wpLd 87 q 2 (fun w' hS=>hS.cell id hLc) underlying87 ?_;simp only[nmz];refine wpPL ?_;simp only[nmz]
   refine qG _ _ _ _ _ _ _ _ rfl rfl rfl rfl rfl false (decide_eq_false hz) ?_;simp only[stz];refine xF rfl hS ?_;simp only[stz];have hM2:=hS
   go_upto_region 4 with(fail);have hS:Mod NoB w1 wr.drew.drew:=hM2.drew
   refine wpRZ [3,3,3,3,3,0,3,3,3,3,3,3,0,3,3,3,0,0,3,3,3,3] [] (fun w'=>Mod NoB w1 w') hS ?_;simp only[stz]
   refine wpLd 87 q 2 (fun w' hS=>hS.cell id hLc) underlying87 ?_;simp only[nmz];refine wpPL ?_;simp only[nmz]
   refine qG _ _ _ _ _ _ _ _ rfl rfl rfl rfl rfl false (decide_eq_false hz) ?_;simp only[stz];have hM3:=HM1.out.trans0 hS;clear hM hM2 hS;go_wp2;go_ret2
   rw[HP.out,HII.out];exact⟨rfl,hM3⟩
end
section
variable{w:World}{q wd:Nat}{r:R8L}{R:Nat->Prop}
theorem R8At.val(h:R8At w q wd r R)(i:Nat)(hi:i<r.length):Sl true w (fun g=>0<=g/\g<w.heap.size/\(rbV r[i]).ownBlock=some g) 1 ByteC (rbV r[i]) r[i].2.1:=(h.bts _ (List.getElem_mem hi)).1.sl
def used8(r:R8L):Nat:=(r.map (·.2.1.length)).sum
theorem used8_take(r:R8L)(n:Nat)(hn:n<r.length):used8 (r.take (n+1))=used8 (r.take n)+r[n].2.1.length:=by
 unfold used8;rw[List.take_succ_eq_append_getElem hn,List.map_append,List.sum_append]
 simp
theorem used8_le:∀(r:R8L),(∀p∈r,p.2.1.length<=4096)->used8 r<=4096*r.length
 | [],_=>by simp[used8]
 |p::r,h=>by
  have h1:=used8_le r (fun x hx=>h x (List.mem_cons_of_mem _ hx));have h2:=h p List.mem_cons_self;simp only[used8,List.map_cons,List.sum_cons,List.length_cons]at h1 |-
  omega
def Us8Rel(r:R8L)(w0:World)(u i:Value)(w:World):Prop:=∃n:Nat,n<=r.length/\i=.int .i64 n/\u=.int .i64 (used8 (r.take n):Nat)/\Mod NoB w0 w
theorem r8Used_any(h:R8At w q wd r R):Calls prog 154 #[.pointer (some ⟨q,0,none⟩)] w (RetM (.int .i64 (used8 r:Nat)) w):=by
 obtain⟨ra,rc,-,-,hLc,hlc,hat⟩:=h.at;have hfew:=h.few;have hsz:=h.sz;have hu:=used8_le r hsz;have HA:=hid hat;have HZ:=hid hsz;clear hat hsz h
 go_enter func154,ntmps154;go_wp2
 go_loopw [3,4] (Us8Rel r w) (fun _ i _=>r.length-(intOf i).toNat)
 case atStart=>exact⟨0,by omega,rfl,rfl,Mod.refl _ _⟩
 case round=>
  rename World=>wr
  obtain⟨n,hn,rfl,rfl,hM⟩:=hrel;have hLr:=hM.cell id hLc
  by_cases hlt:n<r.length
  ·have hz:(n:Int)<(r.length:Int):=by omega
   obtain⟨g,rfl,-,hcv⟩:=HA.out n hlt;have hcr:=hM.cell id hcv;have hs:=used8_take r n hlt;have hle:=HZ.out r[n] (List.getElem_mem hlt)
   have hul:=used8_le (r.take n) (fun p hp=>HZ.out p (List.mem_of_mem_take hp));rw[List.length_take]at hul
   have hcr:wr.cell? ⟨g,n*33+32,none⟩=some (.slice r[n].2.2.1 r[n].2.1.length r[n].2.2.2):=hcr;generalize r[n].2.2.1=va at*;generalize r[n].2.2.2=vc at*
   generalize r[n].2.1.length=ln at*;generalize used8 (r.take n)=un at*;have HS:=hid hs;clear hcv hs;go_upto_region 3 with(fail);refine wpR [3,3,3,3,1,3,3] ?_
   simp only[stz];refine wpXd (v:=(.slice (some ⟨g,0,none⟩) r.length rc)) 87 q 2 hLr underlying87 trivial ?_;try simp only[nmz]
   refine wpPL ?_;simp only[nmz];refine qG _ _ _ _ _ _ _ _ rfl rfl rfl rfl rfl true (decide_eq_true hz) ?_;simp only[stz];go_upto_region 5 with(fail)
   refine wpR [3,3,3,3,1,3,3,3,1,3,3,3] ?_;simp only[stz];refine wpXd (v:=(.slice (some ⟨g,0,none⟩) r.length rc)) 87 q 2 hLr underlying87 trivial ?_;simp only[stz]
   refine wpPI underlying87 33 hlt ?_;simp only[stz];refine wpXd (v:=(.slice va ln vc)) 53 g (n*33+32) hcr underlying53 trivial ?_;try simp only[nmz]
   refine wpPL ?_;simp only[nmz];refine qY _ _ _ _ (un:Int) (ln:Int) ((un+ln:Nat):Int) rfl rfl rfl rfl (by omega) (by omega) (by omega) ?_;simp only[stz]
   clear hcr hLr;go_wp2
   go_roundw
   case rel=>exact⟨n+1,by omega,by go_num,by rw[HS.out],hM⟩
   case measure=>simp[intOf];omega
  ·have hz:¬(n:Int)<(r.length:Int):=by omega
   obtain rfl:n=r.length:=by omega
   go_upto_region 3 with(fail);refine wpR [3,3,3,3,1,3,3] ?_;simp only[stz];refine wpXd (v:=(.slice ra r.length rc)) 87 q 2 hLr underlying87 trivial ?_
   try simp only[nmz]
   refine wpPL ?_;simp only[nmz];refine qG _ _ _ _ _ _ _ _ rfl rfl rfl rfl rfl false (decide_eq_false hz) ?_;simp only[stz];clear hLr;rw[List.take_length];go_wp2;go_ret
   exact⟨rfl,hM⟩
end
theorem flat_dropE{α:Type}{enc:α->List Value}{k:Nat}(hk:∀x,(enc x).length=k)(l:List α)(i:Nat)(hi:i<=l.length):(l.flatMap enc).drop (i*k)=(l.drop i).flatMap enc:=by
 have h1:=flat_take hk l i hi;have h2:l.flatMap enc=(l.take i).flatMap enc++(l.drop i).flatMap enc:=by rw[<-List.flatMap_append,List.take_append_drop]
 have h3:((l.take i).flatMap enc).length=i*k:=by
  rw[<-h1,List.length_take]
  have:(l.flatMap enc).length=l.length*k:=by
   clear h1 h2 hi
   induction l with
   |nil=>simp
   |cons x l ih=>rw[List.flatMap_cons,List.length_append,hk,ih,List.length_cons,Nat.succ_mul,Nat.add_comm]
  rw[this,Nat.min_eq_left (Nat.mul_le_mul_right _ hi)]
 rw[h2,List.drop_append_of_le_length (by omega),List.drop_eq_nil_of_le (by omega),List.nil_append]
theorem gat_lit{α:Type}{enc:α->List Value}{e:TypeId}{k:Nat}(hk:∀x,(enc x).length=k){w:World}{b:Nat}{x:α}(h:w.heap[b]?=some (.cells (enc x).toArray e (0,0))):Gat enc e k b w (.slice (some ⟨b,0,none⟩) 1 1) [x]:=by
 refine⟨by simp[hk],.inr ⟨b,1,(enc x).toArray,rfl,Nat.le_refl _,h,Nat.le_refl _,by unfold maxLen;omega,by simp[hk],?_⟩⟩;rw[List.take_of_length_le (by simp[hk])]
 simp
theorem gat_cap{α:Type}{enc:α->List Value}{e k base:Nat}{w:World}{ad:Option Addr}{n cap:Nat}{l:List α}(h:Gat enc e k base w (.slice ad n cap) l):l.length<=cap:=by
 rcases h.2 with⟨h1,h2⟩|⟨g,c,cur,h1,-,-,hc,-⟩
 ·omega
 ·cases h1;exact hc
theorem gat_to{α:Type}{enc:α->List Value}{e k base:Nat}(hk:∀x,(enc x).length=k){w:World}{ad:Option Addr}{cap i:Nat}{l:List α}(h:Gat enc e k base w (.slice ad l.length cap) l)(hi:i<=l.length):Gat enc e k base w (sliced ad 0 i cap k) (l.take i)/\(sliced ad 0 i cap k).ownBlock=(Value.slice ad l.length cap).ownBlock:=by
 have hto:=owns_to (i:=i) h hi;refine⟨?_,hto.2⟩;have h1:=hto.1;rw[flat_take hk _ _ hi]at h1
 show w.ownsRow base e k _ (l.take i).length _
 rw[List.length_take,Nat.min_eq_left hi];exact h1
theorem src_dropE{α:Type}{enc:α->List Value}{e k base:Nat}(hk:∀x,(enc x).length=k){w:World}{ad:Option Addr}{cap i:Nat}{l:List α}(h:Gat enc e k base w (.slice ad l.length cap) l)(hi:i<=l.length):Src w k (sliced ad i l.length cap k) (l.drop i).length ((l.drop i).flatMap enc):=by
 have:=(jD h).drop (i:=i) hi (gat_cap h);rw[flat_dropE hk _ _ hi]at this;rw[List.length_drop];exact this
theorem blob8_i:(prog.info? 225).map (fun i=>(i.zero,i.size,i.bytes))=some (some (.agg (qA (List.replicate 32 0)++#[Value.slice none 0 0])),33,56):=by kernel_rfl
theorem blob8_Z:(prog.info? 225).bind (·.zero)=some (.agg (qA (List.replicate 32 0)++#[Value.slice none 0 0])):=by kernel_rfl
theorem blob8_zs:(prog.info? 225).map (fun i=>(i.zero,i.size))=some (some (.agg (qA (List.replicate 32 0)++#[Value.slice none 0 0])),33):=by kernel_rfl
theorem built_blob8(x:List UInt8)(h:x.length=32)(v:Value)(hv:v.oneCell'=true):prog.built 225 [(0,.agg (qA x)),(1,v)]=some (qA x++#[v]):=by
 have p:xR prog 225=some [(0,32),(32,1)]:=by kernel_rfl
 have hc:v.cells=#[v]:=by cases v<;>first|rfl|cases hv
 have hi:(qA x).size=32:=by rw[qD,h]
 rw[zL blob8_Z p,zD (off:=0) (size:=32) rfl (by simp[Value.cells,hi]) (by simp[qD]),zD (off:=32) (size:=1) rfl (by rw[hc];rfl) (by simp[qZ,qD,Value.cells,h]),xT]
 congr 1
 apply Array.toList_inj.1
 rw[hc]
 simp[qZ,qA,Value.cells,h]
theorem isB_get{r:R8L}(hs:SortedB r)(k:List UInt8):isB k r=(getL k (contR r)).isSome:=by
 rw[hs.isSome k,contR_get]
 cases getL k r<;>rfl
theorem bts_ne{base:Nat}{w:World}{v:Value}{xs:List UInt8}{b:Nat}{cs:Array Value}{T:TypeId}{p:Nat×Nat}(hT:T≠5)(h:Bts base w v xs)(hb:w.heap[b]?=some (.cells cs T p)):∀k,v.ownBlock=some k->k≠b:=by
 intro k hk e;subst e
 rcases h.2 with⟨rfl,_⟩|⟨g,cap,cur,rfl,_,hg,_⟩
 ·cases hk
 ·cases hk
  rw[hg]at hb
  cases hb
  exact hT rfl
theorem xJ{x:List UInt8}(h:x.length=32)(v:Value):(qA x++#[v]).size=33:=by simp[qD,h]
theorem row8_one(x:List UInt8)(v:Value)(hv:v.oneCell'=true):∀c∈qA x++#[v],c.oneCell'=true:=by
 intro c hc
 rcases Array.mem_append.1 hc with h|h
 ·exact qR x c h
 ·rw[Array.mem_singleton.1 h];exact hv
def PutMid(w:World)(x m:List UInt8)(s:Value)(wx:World):Prop:=∃bx ad cap,s=.pointer (some ⟨bx,0,none⟩)/\wx.heap[bx]?=some (.cells (qA x++#[Value.slice ad m.length cap]) 225 (0,0))/\Bts w.heap.size wx (.slice ad m.length cap) m/\w.heap.size<=bx/\(Value.slice ad m.length cap).ownBlock≠some bx/\Mod NoB w wx
section
variable{w:World}{q wd:Nat}{r:R8L}{R:Nat->Prop}
def R8PutR(w:World)(q wd:Nat)(r:R8L)(R:Nat->Prop)(m:List UInt8):Ending->World->Prop:=fun e w'=>(∃v,e=.returned v)/\∃r',R8Step w q wd R w' r'/\contR r'=putR (ofI wd m) m (contR r)
theorem r8Put_any(h:R8At w q wd r R)(hs:SortedB r){own:Bool}{G:Nat->Prop}{v:Value}{m:List UInt8}(hv:Sl own w G 1 ByteC v m)(hm:m.length<=4096)(hfew:r.length<=1000):
 Calls prog 81 #[.pointer (some ⟨q,0,none⟩),.agg (qA (ofI wd m)),v] w (R8PutR w q wd r R m):=by
 have hwok:=h.wok;have hdi:(ofI wd m).length=32:=ofI_len hwok.2;have hic:(qA (ofI wd m)).size=32:=by rw[qD,hdi]
 obtain⟨mad,mcap,rfl,-,-⟩:=Sl.at hv;obtain⟨ra,rc,hw0,hw1,hLc,hlc,hat⟩:=h.at;have hisg:=isB_get hs (ofI wd m);have hpos:=posB_le (ofI wd m) r
 have hidn:(getL (ofI wd m) r).isSome=isB (ofI wd m) r:=(hs.isSome (ofI wd m)).symm;have hsm:=used8_le r h.sz;have H:=hid h;have HS:=hid hs;have HV:=hid hv
 have HA:=hid hat;have href:=fun w' (hm':Mod NoB w w')=>refOf_any (HV.out.keep0 hm') (by omega) wd hwok.1 hwok.2
 have hat8:=fun w' (hm':Mod NoB w w')=>r8At_any (H.out.keep0 hm') hdi;obtain⟨i,hi⟩:∃i,posB (ofI wd m) r=i:=⟨_,rfl⟩
 obtain⟨t,ht⟩:∃t,isB (ofI wd m) r=t:=⟨_,rfl⟩;rw[hi]at hpos;simp only[hi,ht]at hat8;rw[ht]at hisg hidn;have HI:=hid hi;have HT:=hid ht;have HISG:=hid hisg
 have HIDN:=hid hidn;have HNE:Hid (decide (ofI wd m≠ofI wd m)=false):=hid (by simp)
 have hblt:q<w.heap.size:=by
  obtain⟨v0,h1,_⟩:=h.ok;exact(Array.getElem?_eq_some_iff.1 h1).1
 clear h hs hv hat hi ht hisg hidn;go_enter func81,ntmps81;go_upto_region 0 with(fail);refine wpR [1,3,3] ?_;simp only[stz]
 refine wpD (zT 24 _ _ (by rfl) (by rfl) (fun w1 hB1 hm1 hs1=>?_));replace hB1:w1.heap[w.heap.size]?=some (.cells (qA (ofI wd m)) 24 (0,0)):=hB1;simp only[stz]
 have hc4:CellsAt w1 w.heap.size 0 (qA (ofI wd m)):=CellsAt.whole hB1;generalize hb4:w.heap.size=b4 at*;clear hB1 hs1;go_upto_region 1 with(fail)
 refine wpR [3,3,3,3,1,1,3,3,3,1,1,3] ?_;simp only[stz];refine wpXd (v:=(.int .i64 (wd:Nat))) 3 q 0 (hm1.cell id hw0) underlying3 trivial ?_;try simp only[nmz]
 refine wpD (wpCM func79 (href _ hm1) fun w2 hm2=>?_);simp only[stz]
 refine qE rfl (fun w'=>qI _ 0 #[.agg (qA (ofI wd m)),.int .i64 0] rfl rfl (.agg (qA (ofI wd m))) rfl) ?_;simp only[nmz]
 refine qE rfl (fun w'=>qI _ 1 #[.agg (qA (ofI wd m)),.int .i64 0] rfl rfl (.int .i64 0) rfl) ?_;simp only[nmz]
 refine wpD (qP 24 _ (by rfl) idZ (fun w3 hB3 hm3 hs3=>?_));replace hB3:w3.heap[w2.heap.size]?=some (.cells (qA (List.replicate 32 0)) 24 (0,0)):=hB3
 try simp only[nmz]
 refine wpD (qF 24 _ _ w2.heap.size 0 (qA (ofI wd m)) (by rfl) (by rfl) (by rfl) (qR _) 32 (by kernel_rfl) hic _ _ hB3 (by rw[hic,qD];simp) (fun w4 hB4 hm4=>?_))
 rw[qC (by rw[hic,qD];simp)]at hB4;simp only[stz];have hm24:Mod NoB w2 w4:=hm3.transB hm4 (Nat.le_refl _);have hm14:=hm2.trans0 hm24
 have hm04:=hm1.trans0 hm14;have hc44:=hc4.keep hm14 id;have hc84:CellsAt w4 w2.heap.size 0 (qA (ofI wd m)):=CellsAt.whole hB4;have hat4:=hat8 _ hm04
 generalize hb8:w2.heap.size=b8 at*;clear href hat8 hm1 hm2 hm3 hm4 hm24 hm14 hB3 hB4 hs3 hc4;go_upto_region 2 with(fail);refine wpR [3,1,1,3,3,3,3,3] ?_
 simp only[stz];refine wpXA 24 b4 0 (qA (ofI wd m)) hc44 underlying24 32 hic trivial ?_;try simp only[nmz]
 refine wpD (wpCM func153 (hat4) fun w5 hm5=>?_);simp only[stz]
 refine qE rfl (fun w'=>qI _ 0 #[.int .i64 (i:Nat),.bool t] rfl rfl (.int .i64 (i:Nat)) rfl) ?_;simp only[nmz]
 refine qE rfl (fun w'=>qI _ 1 #[.int .i64 (i:Nat),.bool t] rfl rfl (.bool t) rfl) ?_;simp only[stz];have hm05:=hm04.trans0 hm5
 have hc45:=hc44.keep hm5 id;have hc85:=hc84.keep hm5 id;have hL5:=hm05.cell id hLc;have hR5:=hm05.cell id hw1;have hz4:¬((m.length:Nat):Int)>4096:=by omega
 clear hat4 hm5 hm04 hc44 hc84 hw0;go_upto_region 3 with(fail);refine wpR [3,3,3,3] ?_;simp only[stz];refine wpPL ?_;simp only[nmz]
 refine qG _ _ _ _ _ _ _ _ rfl rfl rfl rfl rfl false (decide_eq_false hz4) ?_;simp only[stz];go_upto_region 5 with(fail);refine wpR [1,1,0,3] ?_;simp only[stz]
 refine wpXA 24 b8 0 (qA (ofI wd m)) hc85 underlying24 32 hic trivial ?_;try simp only[nmz]
 refine wpXA 24 b4 0 (qA (ofI wd m)) hc45 underlying24 32 hic trivial ?_;try simp only[nmz]
 refine qQ rfl (fun w' hS=>exec_neq_id _ _ _ _ rfl _ _ rfl rfl 32 5 underlying24 underlying5 (by kernel_rfl) (by kernel_rfl) hdi hdi false HNE.out) ?_;simp only[stz]
 go_upto_region 7 with(fail)
 cases t with
 |true=>
  have hlt:i<r.length:=by
   have h1:=HT.out;unfold isB at h1;rw[HI.out]at h1
   rcases Nat.lt_or_ge i r.length with h|h
   ·exact h
   ·rw[List.getElem?_eq_none h]at h1;cases h1
  obtain⟨g,rfl,-,hcv⟩:=HA.out i hlt;have hval:=H.out.val i hlt
  have hsame:R8PutR w q wd r R m (.returned (.tuple #[.bool false,.int .i64 0])) w5->True:=fun _=>trivial
  have HSAME:Hid (∀v w',Mod NoB w w'->R8PutR w q wd r R m (.returned v) w'):=hid fun v w' hm'=>⟨⟨v,rfl⟩,r,H.out.step hm',by
   unfold putR
   rw[<-HISG.out];rfl⟩
  obtain⟨b,hb⟩:∃b,decide ((⟨(r[i].2.1).toArray⟩:ByteArray)≠⟨m.toArray⟩)=b:=⟨_,rfl⟩;have HB:=hid hb;have hcv5:=hm05.cell id hcv;have hval5:=hval.keep0 hm05
  clear hsame hb hcv hval;generalize rbV r[i]=bv at*;generalize r[i].2.1=bm at*;have hS:Mod NoB w5 w5.drew:=(Mod.refl _ _).drew
  refine wpRZ [3,3,3,3,3,0,3,3,3,0,0,3,0,0,3,3] [] (fun w'=>Mod NoB w5 w') hS ?_;simp only[stz];refine wpLd 87 q 2 (fun w' hS=>hS.cell id hL5) underlying87 ?_
  simp only[stz];refine wpPI underlying87 33 hlt ?_;simp only[stz];refine wpLd 53 g (i*33+32) (fun w' hS=>hS.cell id hcv5) underlying53 ?_;simp only[nmz]
  refine qQ rfl (fun w' hS=>zP 53 5 9 _ (by rfl) _ (by rfl) (hval5.keep0 hS) underlying53 underlying5 underlying9) ?_;simp only[stz]
  refine qQ rfl (fun w' hS=>zP 53 5 9 _ (by rfl) _ (by rfl) (HV.out.keep0 (hm05.trans0 hS)) underlying53 underlying5 underlying9) ?_;simp only[nmz]
  refine qQ rfl (fun w' hS=>exec_neq_str _ _ _ _ (by rfl) _ _ (by rfl) (by rfl) b HB.out) ?_;simp only[stz];have HM:Hid (Mod NoB w w5.drew):=hid (hm05.trans0 hS)
  clear hS hL5 hR5 hc45 hc85 hcv5 hval5 hm05 hLc hw1
  cases b with
  |true=>
   go_wp2
   all_goals
    go_ret2;exact HSAME.out _ _ HM.out
  |false=>
   go_wp2
   all_goals
    go_ret2;exact HSAME.out _ _ HM.out
 |false=>
  have hS:Mod NoB w5 w5.drew:=(Mod.refl _ _).drew;refine wpRZ [3,3,3,3,3,0,3,3,3,0,3,3,3,3,3,3] [] (fun w'=>Mod NoB w5 w') hS ?_;simp only[stz]
  have hM7:=hm05.trans0 hS;have hus:=fun w' (hm':Mod NoB w5.drew w')=>r8Used_any (H.out.keep0 (hM7.trans0 hm'));have hR7:=hS.cell id hR5;have hc47:=hc45.keep hS id
  have hz64:¬((used8 r+m.length:Nat):Int)>67108864:=by omega
  generalize hw7:w5.drew=w7 at*;clear hS hL5 hR5 hc45 hc85 hw7 hm05 hw1;go_upto_region 11 with(fail);have hS:Mod NoB w7 w7.drew:=(Mod.refl _ _).drew
  refine wpRP [(0,3),(2,3),(3,3),(5,3),(6,3),(7,3),(8,0),(1,1),(4,3),(9,3),(10,3)] [] (fun w'=>Mod NoB w7 w') hS ?_;simp only[stz];refine wpPL ?_
  simp only[stz];refine wpLd 3 q 1 (fun w' hS=>hS.cell id hR7) underlying3 ?_;simp only[nmz];refine qM rfl (fun K hK=>?_);refine wpC func154 (hus _ hS) ?_
  rintro e w8 ⟨rfl,hm8⟩;have hT:=hS.trans0 hm8;refine⟨_,rfl,hK _ _ hT ?_⟩;clear hK K;try simp only[nmz]
  refine qY _ _ _ _ ((used8 r:Nat):Int) ((m.length:Nat):Int) ((used8 r+m.length:Nat):Int) rfl rfl rfl rfl (by omega) (by omega) (by omega) ?_;simp only[nmz]
  refine qG _ _ _ _ _ _ _ _ rfl rfl rfl rfl rfl false (decide_eq_false hz64) ?_;simp only[stz];have hM8:=hM7.trans0 hT;have hc48:=hc47.keep hT id
  clear hS hT hm8 hus hR7 hc47 hM7 hz64;generalize used8 r=us at*;go_upto_region 13 with(fail)
  go_cut [12] (fun s wx=>PutMid w8 (ofI wd m) m s wx)
  case first=>
   have hS:Mod NoB w8 w8.drew:=(Mod.refl _ _).drew;have hT:Mod NoB w8 w8.drew:=(Mod.refl _ _).drew
   refine jG [(0,0),(2,3)] 4 [(6,1)] [] (fun w'=>Mod NoB w8 w') #[true,false,true,false,false,false,false] (by kernel_rfl) (by kernel_rfl) (by kernel_rfl) (by kernel_rfl) (by kernel_rfl) (fun _ _ _ _ hd h=>⟨hd.trans h.1,h.2⟩) hS ?_
   simp only[stz];refine wpLA 24 b4 0 (qA (ofI wd m)) (fun w' hS=>hc48.keep hS id) underlying24 32 hic ?_;simp only[stz];refine zC [1,5] (by kernel_rfl) ?_
   simp only[zz3,false_implies,implies_true];refine⟨?_,?_⟩
   ·intro K hK
    simp only[zz5];refine zG 53 5 (by rfl) underlying53 (by kernel_rfl) (fun wa hBa hma hsa=>?_);have hO:Bts w8.heap.size wa _ []:=xH _ hBa hT.size
    try replace hBx:=hma.obj id hBx
    replace hT:=hT.trans0 hma;clear hBa hma hsa;refine hK _ _ hT ?_;clear hK K;try simp only[nmz]
    refine zC [3,5] (by kernel_rfl) ?_;simp only[zz3,false_implies,implies_true];refine⟨?_,?_⟩
    ·intro K hK
     simp only[zz5];refine xV _ _ (by rfl) w8.heap.size _ [] (by rfl) hO _ m (by rfl) (HV.out.keep0 (hM8.trans0 hT)).bsrc (by simp;omega) hT.size (fun ub wb hb hmb=>?_)
     rw[List.nil_append]at hb
     try replace hBx:=hmb.obj (fun e=>bts_ne (by decide) hO hBx _ e rfl) hBx
     replace hT:Mod NoB w8 wb:=hT.trans hmb (fun k hk e=>by have:=(hO.lt e).1;omega);obtain⟨uad,ucap,rfl⟩:=hb.slice;clear hO hmb;refine hK _ _ hT ?_;clear hK K
     try simp only[nmz]
     refine yM 4 (.agg (qA (ofI wd m)++#[Value.slice uad m.length ucap])) (by kernel_rfl) (fun _ _ _ _ hd h=>⟨hd.trans h.1,h.2⟩) (fun w'=>by simp only[zz5];exact qL 225 [(0,_),(1,_)] [(0,.agg (qA (ofI wd m))),(1,.slice uad m.length ucap)] _ (by rfl) (by rfl) (built_blob8 _ hdi _ rfl)) hT ?_
     simp only[zz5];try simp only[nmz]
     refine zC [5] (by kernel_rfl) ?_;simp only[zz3,false_implies,implies_true];intro K hK;simp only[zz5]
     refine wp_allocAt 225 _ (by rfl) blob8_Z (fun bx wc hbe hBx hmc hsc=>?_)
     replace hBx:wc.heap[bx]?=some (.cells (qA (List.replicate 32 0)++#[Value.slice none 0 0]) 225 (0,0)):=hBx
     have hbn:w8.heap.size<=bx:=by rw[hbe];exact hT.size
     try replace hO:=Bts.keep hO hmc (fun _ _=>id)
     try replace hb:=Bts.keep hb hmc (fun _ _=>id)
     replace hT:=hT.trans0 hmc;clear hmc hbe hsc;refine hK _ _ hT ?_;clear hK K;try simp only[nmz]
     refine xP ?_;try simp only[zz4]
     try simp only[nmz]
     refine qM rfl (fun K hK=>?_)
     refine qF 225 _ _ bx 0 (qA (ofI wd m)++#[Value.slice uad m.length ucap]) (by rfl) (by rfl) (by rfl) (row8_one _ _ rfl) 33 (by kernel_rfl) (xJ hdi _) _ _ hBx (by rw[xJ hdi,xJ (by simp)];exact Nat.le_refl _) (fun wd2 hBd hmd=>?_)
     rw[qC (by rw[xJ hdi,xJ (by simp)])]at hBd;have hbd:=Bts.keep hb hmd (fun k e=>bts_ne (by decide) hb hBx k e)
     have HPM:Hid (PutMid w8 (ofI wd m) m (.pointer (some ⟨bx,0,none⟩)) wd2):=hid ⟨bx,uad,ucap,rfl,hBd,hbd,hbn,fun e=>bts_ne (by decide) hb hBx _ e rfl,hT.transB hmd hbn⟩
     replace hT:=hT.transB hmd hbn;clear hmd hBx hb hBd hbd;refine hK _ _ hT ?_;clear hK K;simp only[stz];clear hS hT;go_wp2
     go_meet
     case rel=>exact HPM.out
    ·intro K hK
     simp only[zz5];refine wp_allocAt 225 _ (by rfl) blob8_Z (fun bx wc hbe hBx hmc hsc=>?_)
     replace hBx:wc.heap[bx]?=some (.cells (qA (List.replicate 32 0)++#[Value.slice none 0 0]) 225 (0,0)):=hBx
     have hbn:w8.heap.size<=bx:=by rw[hbe];exact hT.size
     try replace hO:=Bts.keep hO hmc (fun _ _=>id)
     try replace hb:=Bts.keep hb hmc (fun _ _=>id)
     replace hT:=hT.trans0 hmc;clear hmc hbe hsc;refine hK _ _ hT ?_;clear hK K;try simp only[nmz]
     refine zC [3] (by kernel_rfl) ?_;simp only[zz3,false_implies,implies_true];intro K hK;simp only[zz5]
     refine xV _ _ (by rfl) w8.heap.size _ [] (by rfl) hO _ m (by rfl) (HV.out.keep0 (hM8.trans0 hT)).bsrc (by simp;omega) hT.size (fun ub wb hb hmb=>?_)
     rw[List.nil_append]at hb
     try replace hBx:=hmb.obj (fun e=>bts_ne (by decide) hO hBx _ e rfl) hBx
     replace hT:Mod NoB w8 wb:=hT.trans hmb (fun k hk e=>by have:=(hO.lt e).1;omega);obtain⟨uad,ucap,rfl⟩:=hb.slice;clear hO hmb;refine hK _ _ hT ?_;clear hK K
     try simp only[nmz]
     refine yM 4 (.agg (qA (ofI wd m)++#[Value.slice uad m.length ucap])) (by kernel_rfl) (fun _ _ _ _ hd h=>⟨hd.trans h.1,h.2⟩) (fun w'=>by simp only[zz5];exact qL 225 [(0,_),(1,_)] [(0,.agg (qA (ofI wd m))),(1,.slice uad m.length ucap)] _ (by rfl) (by rfl) (built_blob8 _ hdi _ rfl)) hT ?_
     simp only[zz5];try simp only[nmz]
     refine xP ?_;try simp only[zz4]
     try simp only[nmz]
     refine qM rfl (fun K hK=>?_)
     refine qF 225 _ _ bx 0 (qA (ofI wd m)++#[Value.slice uad m.length ucap]) (by rfl) (by rfl) (by rfl) (row8_one _ _ rfl) 33 (by kernel_rfl) (xJ hdi _) _ _ hBx (by rw[xJ hdi,xJ (by simp)];exact Nat.le_refl _) (fun wd2 hBd hmd=>?_)
     rw[qC (by rw[xJ hdi,xJ (by simp)])]at hBd;have hbd:=Bts.keep hb hmd (fun k e=>bts_ne (by decide) hb hBx k e)
     have HPM:Hid (PutMid w8 (ofI wd m) m (.pointer (some ⟨bx,0,none⟩)) wd2):=hid ⟨bx,uad,ucap,rfl,hBd,hbd,hbn,fun e=>bts_ne (by decide) hb hBx _ e rfl,hT.transB hmd hbn⟩
     replace hT:=hT.transB hmd hbn;clear hmd hBx hb hBd hbd;refine hK _ _ hT ?_;clear hK K;simp only[stz];clear hS hT;go_wp2
     go_meet
     case rel=>exact HPM.out
   ·intro K hK
    simp only[zz5];refine wp_allocAt 225 _ (by rfl) blob8_Z (fun bx wc hbe hBx hmc hsc=>?_)
    replace hBx:wc.heap[bx]?=some (.cells (qA (List.replicate 32 0)++#[Value.slice none 0 0]) 225 (0,0)):=hBx
    have hbn:w8.heap.size<=bx:=by rw[hbe];exact hT.size
    try replace hO:=Bts.keep hO hmc (fun _ _=>id)
    try replace hb:=Bts.keep hb hmc (fun _ _=>id)
    replace hT:=hT.trans0 hmc;clear hmc hbe hsc;refine hK _ _ hT ?_;clear hK K;try simp only[nmz]
    refine zC [1] (by kernel_rfl) ?_;simp only[zz3,false_implies,implies_true];intro K hK;simp only[zz5]
    refine zG 53 5 (by rfl) underlying53 (by kernel_rfl) (fun wa hBa hma hsa=>?_);have hO:Bts w8.heap.size wa _ []:=xH _ hBa hT.size
    try replace hBx:=hma.obj id hBx
    replace hT:=hT.trans0 hma;clear hBa hma hsa;refine hK _ _ hT ?_;clear hK K;try simp only[nmz]
    refine zC [3] (by kernel_rfl) ?_;simp only[zz3,false_implies,implies_true];intro K hK;simp only[zz5]
    refine xV _ _ (by rfl) w8.heap.size _ [] (by rfl) hO _ m (by rfl) (HV.out.keep0 (hM8.trans0 hT)).bsrc (by simp;omega) hT.size (fun ub wb hb hmb=>?_)
    rw[List.nil_append]at hb
    try replace hBx:=hmb.obj (fun e=>bts_ne (by decide) hO hBx _ e rfl) hBx
    replace hT:Mod NoB w8 wb:=hT.trans hmb (fun k hk e=>by have:=(hO.lt e).1;omega);obtain⟨uad,ucap,rfl⟩:=hb.slice;clear hO hmb;refine hK _ _ hT ?_;clear hK K
    try simp only[nmz]
    refine yM 4 (.agg (qA (ofI wd m)++#[Value.slice uad m.length ucap])) (by kernel_rfl) (fun _ _ _ _ hd h=>⟨hd.trans h.1,h.2⟩) (fun w'=>by simp only[zz5];exact qL 225 [(0,_),(1,_)] [(0,.agg (qA (ofI wd m))),(1,.slice uad m.length ucap)] _ (by rfl) (by rfl) (built_blob8 _ hdi _ rfl)) hT ?_
    simp only[zz5];try simp only[nmz]
    refine xP ?_;try simp only[zz4]
    try simp only[nmz]
    refine qM rfl (fun K hK=>?_)
    refine qF 225 _ _ bx 0 (qA (ofI wd m)++#[Value.slice uad m.length ucap]) (by rfl) (by rfl) (by rfl) (row8_one _ _ rfl) 33 (by kernel_rfl) (xJ hdi _) _ _ hBx (by rw[xJ hdi,xJ (by simp)];exact Nat.le_refl _) (fun wd2 hBd hmd=>?_)
    rw[qC (by rw[xJ hdi,xJ (by simp)])]at hBd;have hbd:=Bts.keep hb hmd (fun k e=>bts_ne (by decide) hb hBx k e)
    have HPM:Hid (PutMid w8 (ofI wd m) m (.pointer (some ⟨bx,0,none⟩)) wd2):=hid ⟨bx,uad,ucap,rfl,hBd,hbd,hbn,fun e=>bts_ne (by decide) hb hBx _ e rfl,hT.transB hmd hbn⟩
    replace hT:=hT.transB hmd hbn;clear hmd hBx hb hBd hbd;refine hK _ _ hT ?_;clear hK K;simp only[stz];clear hS hT;go_wp2
    go_meet
    case rel=>exact HPM.out
  case rest=>
   rename World=>wx
   obtain⟨bx,uad,ucap,rfl,hBx,hb,hbn,hne,hmx⟩:=hcut;obtain⟨oad,ocap,hq,hgat,hRq,hown⟩:=H.out.own
   have hcell:w.cell? ⟨q,2,none⟩=some (.slice oad r.length ocap):=by rw[cell_of_row _ _ _ _ _ _ hq];rfl
   rw[hLc]at hcell;obtain⟨rfl,rfl⟩:ra=oad/\rc=ocap:=by injection hcell with h;injection h with h1 h2 h3;exact⟨h1,h3⟩
   have hMx:=hM8.trans0 hmx;have hLx:=hMx.cell id hLc;have hqx:=hMx.obj id hq;have hgx:=hgat.keep0 hMx;have hltB:=H.out.lt;have s8:=hM8.size;have sx:=hMx.size
   have hcap:i<=rc:=by omega
   have hxr:(qA (ofI wd m)++#[Value.slice uad m.length ucap])=(rbL (ofI wd m,(m,(uad,ucap)))).toArray:=(rbL_arr (p:=(ofI wd m,(m,(uad,ucap)))) hdi).symm
   have hsz33:=xJ hdi (Value.slice uad m.length ucap);have HOWN:=hid hown;have HHA:=hid hgx;have hbxn:¬R bx:=fun e=>by have:=hltB bx e;omega
   have hbb:∀g,(Value.slice uad m.length ucap).ownBlock=some g->w8.heap.size<=g/\g<wx.heap.size:=fun g e=>Bts.lt hb e;have HBB:=hid hbb
   have hnone:(getL (ofI wd m) r)=none:=by
    have h9:=HIDN.out
    cases hg:getL (ofI wd m) r with
    |none=>rfl
    |some _=>rw[hg]at h9;cases h9
   clear hcell hgat hown hgx hbb hM8 hmx hLc hq;go_upto_region 14 with(fail)
   have hS:wx.drew.cell? ⟨q,2,none⟩=some (.slice ra r.length rc)/\CellsAt wx.drew bx 0 (qA (ofI wd m)++#[Value.slice uad m.length ucap]):=⟨hLx,CellsAt.whole hBx⟩
   have hT:Mod NoB wx wx.drew:=(Mod.refl _ _).drew
   refine wpRP [(0,3),(1,3),(2,3),(3,3),(4,0),(5,3),(6,3),(7,0),(9,3),(10,3),(11,3),(12,0),(13,3),(14,3),(8,1),(15,1),(16,1),(17,3),(18,3),(19,2)] [19] (fun w'=>w'.cell? ⟨q,2,none⟩=some (.slice ra r.length rc)/\CellsAt w' bx 0 (qA (ofI wd m)++#[Value.slice uad m.length ucap])) hS ?_
   simp only[stz];refine wpLd 87 q 2 (fun w' hS=>hS.1) underlying87 ?_;simp only[stz]
   refine yK 87 225 _ _ _ _ _ i 33 rfl rfl rfl rfl underlying87 (by kernel_rfl) hcap ?_;simp only[nmz]
   refine wpLA 225 bx 0 (qA (ofI wd m)++#[Value.slice uad m.length ucap]) (fun w' hS=>hS.2) underlying225 33 hsz33 ?_;simp only[stz]
   refine wpLd 87 q 2 (fun w' hS=>hS.1) underlying87 ?_;simp only[stz];refine yA 87 225 _ _ _ _ _ i 33 rfl rfl rfl rfl underlying87 (by kernel_rfl) hpos ?_
   simp only[nmz];refine qM rfl (fun K hK=>?_)
   refine qU 87 225 _ (.agg (qA (ofI wd m)++#[Value.slice uad m.length ucap])) (.agg (qA (List.replicate 32 0)++#[Value.slice none 0 0])) 33 (by rfl) (by rfl) underlying87 blob8_zs (by omega) (by omega) hsz33 (fun w9 hB9 hm9 hs9=>?_)
   replace hB9:w9.heap[wx.heap.size]?=some (.cells (rbL (ofI wd m,(m,(uad,ucap)))).toArray 225 (0,0)):=by rw[<-hxr];exact hB9
   replace hS:=And.intro (hm9.cell id hS.1) (hS.2.keep hm9 id);have hT9:=hT.trans0 hm9;have hq9:=hT9.obj id hqx;have s9:=hT9.size;refine hK _ _ hS ?_;clear hK K
   try simp only[nmz]
   refine qM rfl (fun K hK=>?_)
   refine wp_gatV rbL _ _ 87 225 (.agg (qA (List.replicate 32 0)++#[Value.slice none 0 0])) 33 56 (by rfl) underlying87 blob8_i (by kernel_rfl) (by omega) rbL_one wx.heap.size _ [(ofI wd m,(m,(uad,ucap)))] (by rfl) (gat_lit rbL_len hB9) _ (r.drop i) (by rfl) (src_dropE rbL_len (HHA.out.keep0 hT9) hpos) (by unfold maxLen;simp;omega) (by simp;omega) hT9.size (fun va wa hga hma hvva=>?_)
   have hTa:Mod NoB wx wa:=hT9.trans hma (fun k hk e=>by have e:=Option.some.inj (show some wx.heap.size=some k from e);omega)
   have hnb:¬(Value.slice (some ⟨wx.heap.size,0,none⟩) 1 1).ownBlock=some q:=fun e=>by have e:=Option.some.inj (show some wx.heap.size=some q from e);omega
   have hnx:¬(Value.slice (some ⟨wx.heap.size,0,none⟩) 1 1).ownBlock=some bx:=fun e=>by
    have e:=Option.some.inj (show some wx.heap.size=some bx from e);have:=(Array.getElem?_eq_some_iff.1 hBx).1;omega
   replace hS:=And.intro (hma.cell hnb hS.1) (hS.2.keep hma hnx);have hqa:=hTa.obj id hqx;refine hK _ _ hS ?_;clear hK K;try simp only[nmz]
   refine qM rfl (fun K hK=>?_);have hto:=gat_to rbL_len (HHA.out.keep0 hTa) hpos
   refine wp_gatV rbL _ _ 87 225 (.agg (qA (List.replicate 32 0)++#[Value.slice none 0 0])) 33 56 (by rfl) underlying87 blob8_i (by kernel_rfl) (by omega) rbL_one 0 _ (r.take i) (by rfl) hto.1 _ ([(ofI wd m,(m,(uad,ucap)))]++r.drop i) (by rfl) (hga.src) (by unfold maxLen;simp;omega) (by simp;omega) (Nat.zero_le _) (fun vb wb hgb hmb hvvb=>?_)
   rw[hto.2]at hmb hvvb;have hnb2:¬(Value.slice ra r.length rc).ownBlock=some q:=fun e=>(HOWN.out q e).2.1 rfl
   have hnx2:¬(Value.slice ra r.length rc).ownBlock=some bx:=fun e=>hbxn (HOWN.out bx e).1;have hqb:=hmb.obj hnb2 hqa
   replace hS:=And.intro (hmb.cell hnb2 hS.1) (hS.2.keep hmb hnx2);refine hK _ _ hS ?_;clear hK K;simp only[stz];refine zB rfl (fun K hK=>?_)
   refine qT 87 _ _ q 2 vb (by rfl) (by rfl) (by rfl) (by obtain⟨_,_,rfl⟩:=hgb.slice;rfl) (by kernel_rfl) _ _ hqb (by simp) (fun wc hBc hmc=>?_);refine hK _ _ ?_
   clear hK K;simp only[stz];have hMa:=hMx.trans0 hTa
   have hMb:Mod (fun k=>R k/\k≠q) w wb:=(hMa.mono (S':=fun k=>R k/\k≠q) (fun _ _ h=>h.elim)).trans hmb (fun k hk e=>⟨(HOWN.out k e).1,(HOWN.out k e).2.1⟩)
   have hins:insB (ofI wd m) (m,(uad,ucap)) r=r.take i++([(ofI wd m,(m,(uad,ucap)))]++r.drop i):=by unfold insB;rw[HI.out];rfl
   rw[<-hins]at hgb
   have hmem:∀p∈insB (ofI wd m) (m,(uad,ucap)) r,p=(ofI wd m,(m,(uad,ucap)))\/p∈r:=fun p hp=>by
    have:=(ins_permB (ofI wd m) (m,(uad,ucap)) r).mem_iff.1 hp
    rcases List.mem_append.1 this with h1|h1
    ·exact .inr h1
    ·exact .inl (by simpa using h1)
   have sab:=hmb.size;have sxa:=hTa.size;have hnewb:∀g,(Value.slice ra r.length rc).ownBlock=some g->g<w.heap.size:=fun g e=>hltB g (HOWN.out g e).1
   have hbk:∀g,(Value.slice uad m.length ucap).ownBlock=some g->¬(Value.slice ra r.length rc).ownBlock=some g:=fun g e e2=>by have:=(HBB.out g e).1;have:=hnewb g e2;omega
   have hbb':Bts 0 wb (.slice uad m.length ucap) m:=Bts.keep (Bts.keep (yW hb (Nat.zero_le _)) hTa (fun _ _=>id)) hmb (fun g e=>hbk g e)
   have HR:Hid (R8PutR w q wd r R m (.returned (.tuple #[.bool true,.int .i64 0])) wc):=hid ⟨⟨_,rfl⟩,insB (ofI wd m) (m,(uad,ucap)) r,R8Step.mk H.out hgb hMb (by simpa using hBc) hmc (fun g e=>?g1) (fun p hp=>?g2) (fun p hp=>?g3) (fun p hp=>?g4) (by rw[(ins_permB _ _ _).length_eq];simp;omega),by
    unfold putR
    rw[contR_ins,<-HISG.out];rfl⟩
   case g1=>
    rcases hvvb with h1|h1
    ·rw[h1]at e
     refine⟨.inl (HOWN.out g e).1,(HOWN.out g e).2.1,fun p hp=>?_⟩
     rcases hmem p hp with rfl|hp
     ·exact fun e2=>hbk g e2 e
     ·exact(HOWN.out g e).2.2 p hp
    ·rw[h1]at e
     cases e
     refine⟨.inr ⟨by omega,(hgb.lt h1).2⟩,by omega,fun p hp e2=>?_⟩
     rcases hmem p hp with rfl|hp
     ·have:=(HBB.out _ e2).2;omega
     ·have:=hltB _ ((H.out.bts p hp).2 _ e2).1;omega
   case g2=>
    rcases hmem p hp with rfl|hp
    ·exact⟨hbb',fun g e=>⟨.inr ⟨by have:=(HBB.out g e).1;omega,by have:=(HBB.out g e).2;omega⟩,by have:=(HBB.out g e).1;omega⟩⟩
    ·refine⟨Bts.keep (Bts.keep (H.out.bts p hp).1 hMa (fun _ _=>id)) hmb (fun g e e2=>(HOWN.out g e2).2.2 p hp e),fun g e=>⟨.inl ((H.out.bts p hp).2 g e).1,((H.out.bts p hp).2 g e).2⟩⟩
   case g3=>
    rcases hmem p hp with rfl|hp
    ·exact hdi
    ·exact H.out.ids p hp
   case g4=>
    rcases hmem p hp with rfl|hp
    ·exact hm
    ·exact H.out.sz p hp
   clear hMa hMb hS hT hT9 hTa hm9 hma hmb hmc hB9 hBc hq9 hqa hqb hga hgb hbb' hLx hqx hBx hto;go_wp2
   all_goals
    go_ret2;exact HR.out
end
theorem isB_at{r:R8L}(hs:SortedB r){k:List UInt8}{i:Nat}(hp:posB k r=i)(h:isB k r=true):∃hi:i<r.length,r[i].1=k/\getL k (contR r)=some r[i].2.1:=by
 subst hp;have h1:=h;unfold isB at h1
 rcases Nat.lt_or_ge (posB k r) r.length with hi|hi
 ·rw[List.getElem?_eq_getElem hi]at h1
  have e:=of_decide_eq_true h1
  have h2:r[posB k r]?=some (k,r[posB k r].2):=by
   rw[List.getElem?_eq_getElem hi];exact congrArg some (Prod.ext e rfl)
  refine⟨hi,e,?_⟩;rw[contR_get,(hs.at k _).2 h2]
  rfl
 ·rw[List.getElem?_eq_none hi]at h1;cases h1
section
variable{w:World}{q wd:Nat}{r:R8L}{R:Nat->Prop}
theorem r8Get_any(h:R8At w q wd r R)(hs:SortedB r){k:List UInt8}(hk:k.length=32):Calls prog 162 #[.pointer (some ⟨q,0,none⟩),.agg (qA k)] w (GetR w (getL k (contR r))):=by
 have hic:(qA k).size=32:=by rw[qD,hk]
 obtain⟨ra,rc,-,-,hLc,hlc,hat⟩:=h.at;have hisg:=isB_get hs k;have hisa:=fun i (hp:posB k r=i)=>isB_at hs (k:=k) hp;have H:=hid h;have HA:=hid hat
 have hat8:=fun w' (hm':Mod NoB w w')=>r8At_any (H.out.keep0 hm') hk;have hval:=h.val;have hsz:=h.sz;obtain⟨i,hi⟩:∃i,posB k r=i:=⟨_,rfl⟩
 obtain⟨t,ht⟩:∃t,isB k r=t:=⟨_,rfl⟩;rw[ht]at hisg;replace hisa:=hisa i hi;rw[ht]at hisa;simp only[hi,ht]at hat8;have HV:=hid hval;have HZ:=hid hsz
 clear h hat hi ht hval hsz;go_enter func162,ntmps162;go_upto_region 0 with(fail);refine wpR [1,3,3] ?_;simp only[stz]
 refine wpD (zT 24 _ _ (by rfl) (by rfl) (fun w1 hB1 hm1 hs1=>?_));replace hB1:w1.heap[w.heap.size]?=some (.cells (qA k) 24 (0,0)):=hB1;simp only[stz]
 have hc3:CellsAt w1 w.heap.size 0 (qA k):=CellsAt.whole hB1;have hat1:=hat8 _ hm1;generalize hb3:w.heap.size=b3 at*;clear hB1 hs1 hat8;go_upto_region 1 with(fail)
 refine wpR [3,1,1,3,3,3,3,3] ?_;simp only[stz];refine wpXA 24 b3 0 (qA k) hc3 underlying24 32 hic trivial ?_;try simp only[nmz]
 refine wpD (wpCM func153 (hat1) fun w2 hm2=>?_);simp only[stz]
 refine qE rfl (fun w'=>qI _ 0 #[.int .i64 (i:Nat),.bool t] rfl rfl (.int .i64 (i:Nat)) rfl) ?_;simp only[nmz]
 refine qE rfl (fun w'=>qI _ 1 #[.int .i64 (i:Nat),.bool t] rfl rfl (.bool t) rfl) ?_;simp only[stz];have hm02:=hm1.trans0 hm2;have hL2:=hm02.cell id hLc
 clear hat1 hm1 hm2 hc3 hLc
 cases t with
 |false=>
  have hg:getL k (contR r)=none:=by
   cases hx:getL k (contR r)with
   |none=>rfl
   |some b=>rw[hx]at hisg;cases hisg
  clear hisg hisa;go_wp2;go_ret2;rw[hg];exact⟨hm02,rfl⟩
 |true=>
  obtain⟨hlt,-,hg⟩:=hisa rfl;obtain⟨g,rfl,-,hcv⟩:=HA.out i hlt;have hcv2:=hm02.cell id hcv;have hv2:=(HV.out i hlt).keep0 hm02
  have hz:=HZ.out _ (List.getElem_mem hlt);have HGT:=hid hg;clear hg hisg hisa hcv;generalize rbV r[i]=bv at*;generalize r[i].2.1=m at*;go_upto_region 4 with(fail)
  refine wpR [1,3,3,3,1,3,3,3,1,1,3,3] ?_;simp only[stz];refine wpD (zG 53 5 (by rfl) underlying53 (by kernel_rfl) (fun w3 hB3 hm3 hs3=>?_))
  simp only[stz];refine wpXd (v:=(.slice (some ⟨g,0,none⟩) r.length rc)) 87 q 2 (hm3.cell id hL2) underlying87 trivial ?_;simp only[stz];refine wpPI underlying87 33 hlt ?_
  simp only[stz];refine wpXd (v:=bv) 53 g (i*33+32) (hm3.cell id hcv2) underlying53 trivial ?_;try simp only[nmz]
  refine wpD (xV _ _ (by rfl) w2.heap.size _ [] (by rfl) (xH _ hB3 (Nat.le_refl _)) _ m (by rfl) (hv2.keep0 hm3).bsrc (by simp;omega) hm3.size (fun v' w4 ho4 hm4=>?_))
  rw[List.nil_append]at ho4;simp only[stz]
  have hm24:Mod NoB w2 w4:=hm3.trans hm4 (fun k hk e=>by
   have e':some w2.heap.size=some k:=e
   cases e';omega)
  have s2:=hm02.size;clear hL2 hcv2 hv2 hB3 hm3 hm4;go_wp2;go_ret2;rw[HGT.out];exact⟨hm02.trans0 hm24,_,rfl,yW ho4 s2⟩
end
def GetsC(w0:World)(sv:Value)(c:BlobM):Prop:=∀(w:World)(k:List UInt8),Mod NoB w0 w->k.length=32->Calls prog 162 #[sv,.agg (qA k)] w (GetR w (getL k c))
def MarkedR(base:Nat)(w:World)(s t:List (List UInt8)):Ending->World->Prop:=fun e w'=>Mod NoB w w'/\∃v m,e=.returned v/\GatI base w' v m/\RiseI (s++t) m
def inDs(c:BlobM)(f depth:Nat)(ds:List DescL):List (List UInt8):=ds.flatMap fun d=>if xK d then inL c f d.id (depth+1)else [d.id]
theorem inDs_succ(c:BlobM)(f depth:Nat)(ds:List DescL)(k:Nat)(hk:k<ds.length):inDs c f depth (ds.take (k+1))=inDs c f depth (ds.take k)++(if xK ds[k]then inL c f ds[k].id (depth+1)else [ds[k].id]):=by
 unfold inDs;rw[List.take_succ_eq_append_getElem hk,List.flatMap_append]
 simp
theorem inL_in{c:BlobM}{U:List (List UInt8)}(hU:∀x∈jE c,x∈U){f:Nat}{id:List UInt8}{depth:Nat}(hid:id∈U):∀y∈inL c f id depth,y∈U:=fun y hy=>by
 rcases inR_mem ((inL_mem c f id depth y).1 hy)with rfl|h
 ·exact hid
 ·exact hU y h
theorem inDs_in{c:BlobM}{U:List (List UInt8)}(hU:∀x∈jE c,x∈U){f depth:Nat}{ds:List DescL}(hd:∀d∈ds,d.id∈U):∀y∈inDs c f depth ds,y∈U:=fun y hy=>by
 obtain⟨d,h1,h2⟩:=List.mem_flatMap.1 hy
 split at h2
 ·exact inL_in hU (hd d h1) y h2
 ·rw[List.mem_singleton.1 h2];exact hd d h1
def MkRel(base:Nat)(w0:World)(c:BlobM)(f depth:Nat)(ds:List DescL)(s:List (List UInt8))(v i:Value)(w:World):Prop:=∃(k:Nat)(m:List (List UInt8)),k<=ds.length/\i=.int .i64 k/\GatI base w v m/\RiseI (s++inDs c f depth (ds.take k)) m/\Mod NoB w0 w
section
variable{w0:World}{sv:Value}{c:BlobM}{U:List (List UInt8)}
theorem r13marked_any(HGet:GetsC w0 sv c)(hsz:∀k b,getL k c=some b->b.length<=4096)(hU:∀x∈jE c,x∈U)(hU32:∀x∈U,x.length=32)(hUl:U.length<=9000)(base:Nat):
 ∀(f:Nat)(di:List UInt8)(depth:Nat)(w:World)(v0:Value)(s l:List (List UInt8)),di∈U->depth+f=6->0<f->Mod NoB w0 w->base<=w.heap.size->GatI base w v0 l->RiseI s l->(∀y∈s,y∈U)->
  Calls prog 88 #[sv,.agg (qA di),.int .i64 depth,v0] w (MarkedR base w s (inL c f di depth))
 |0,_,_,_,_,_,_,_,_,h,_,_,_,_,_=>by omega
 |f+1,di,depth,w,v0,s,l,hdu,hdf,_,hm0,hbase,hg,hr,hs=>by
  have IH:=Lib.hid (r13marked_any HGet hsz hU hU32 hUl base f);have hid:=hU32 di hdu;have hic:(qA di).size=32:=by rw[qD,hid]
  have hll:l.length<=9000:=Nat.le_trans (riseI_len hr hs) hUl;have hl32:∀y∈l,y.length=32:=fun y hy=>hU32 y (hs y ((hr.2 y).1 hy));have HS0:=Lib.hid hs
  have HSZ:=Lib.hid hsz;have HM0:=Lib.hid hm0;have HGT:=Lib.hid HGet;have HU:=Lib.hid hU;have HU32:=Lib.hid hU32;have HDU:=Lib.hid hdu
  have hlay:=fun w' (hm:Mod NoB w w')=>r13Laid_any (x:=di) (hg.keep0 hm) (by have:=hm.size;omega) hr hl32 hid (by omega);have HLAY:=Lib.hid hlay
  have hdz:depth<=5:=by omega
  obtain⟨R,hR⟩:∃R,inL c (f+1) di depth=R:=⟨_,rfl⟩
  have HIN:Hid (R=di::(if 4<depth then []else match xL c di with|none=>[]|some ds=>inDs c f depth ds)):=Lib.hid (by rw[<-hR];rfl);rw[hR]
  clear hg hr hs hl32 hsz hm0 HGet hU hU32 hdu hlay hR;go_enter func88,ntmps88;go_upto_region 0 with(fail);refine wpR [1,3] ?_;simp only[stz]
  refine wpD (zT 24 _ _ (by rfl) (by rfl) (fun w1 hB1 hm1 hs1=>?_));replace hB1:w1.heap[w.heap.size]?=some (.cells (qA di) 24 (0,0)):=hB1;simp only[stz]
  have hcd:CellsAt w1 w.heap.size 0 (qA di):=CellsAt.whole hB1;have hla:=HLAY.out w1 hm1;generalize hb5:w.heap.size=b5 at*;go_upto_region 1 with(fail)
  refine wpR [3,1,1,3] ?_;simp only[stz];refine wpXA 24 b5 0 (qA di) hcd underlying24 32 hic trivial ?_;try simp only[nmz]
  refine wpD (wpC func120 (hla) ?_);rintro e w2 ⟨hm2,v2,m2,rfl,hg2,hr2,-⟩;have HG2:=Lib.hid hg2;have HR2:=Lib.hid hr2;have hv2:v2.oneCell'=true:=yF hg2
  clear hg2 hr2;refine⟨_,rfl,?_⟩;simp only[stz];have HM2:=Lib.hid (hm1.trans0 hm2);replace hcd:=hcd.keep hm2 id;have hget:=HGT.out w2 di (HM0.out.trans0 HM2.out) hid
  obtain⟨r,hrg⟩:∃r,getL di c=r:=⟨_,rfl⟩;rw[hrg]at hget;have HRG:=Lib.hid hrg;clear hm1 hm2 hB1 hs1 hla hrg HLAY
  cases r with
  |none=>
   have HF0:Hid (R=[di]):=Lib.hid (by
    rw[HIN.out];have:xL c di=none:=by unfold xL;rw[HRG.out]
    rw[this]
    split<;>rfl)
   go_upto_region 2 with(fail);refine wpR [3,1,1,3,3,3,3,3] ?_;simp only[stz];refine wpXA 24 b5 0 (qA di) hcd underlying24 32 hic trivial ?_;try simp only[nmz]
   refine wpD (wpC func162 (hget) ?_);rintro e w5 ⟨hm5,he5⟩;subst he5;refine⟨_,rfl,?_⟩;simp only[stz]
   refine qE rfl (fun w'=>qI _ 0 #[.slice none 0 0,.bool false] rfl rfl (.slice none 0 0) rfl) ?_;simp only[nmz]
   refine qE rfl (fun w'=>qI _ 1 #[.slice none 0 0,.bool false] rfl rfl (.bool false) rfl) ?_;simp only[stz];go_upto_region 3 with(fail)
   refine wpR [3,1,3,3,3,1,1,1,1] ?_;simp only[stz]
   refine wpD (wpC func164 (r11Decode_any (b:=[]) (Sl.nil true w5 (fun _=>True) 1 ByteC) (fun k hk=>by cases hk) (by simp)) ?_);rintro e w6 ⟨hm6,cs,er,at_,rfl,her,hmc⟩
   have hcs:=hmc.size;have hone:=hmc.one;refine⟨_,rfl,?_⟩;simp only[stz];refine qE (v:=?_) rfl (fun w'=>?_) ?_;rotate_left;·(go_simp;try with_reducible rfl)
   simp only[nmz];refine qE (v:=?_) rfl (fun w'=>?_) ?_;rotate_left;·(go_simp;try with_reducible rfl)
   simp only[nmz];refine wpD (qP 163 _ (by rfl) manZ_i (fun w7 hB7 hm7 hs7=>?_))
   replace hB7:w7.heap[w6.heap.size]?=some (.cells (qN 0 [] descZ (.slice none 0 0) (.slice none 0 0)) 163 (0,0)):=hB7;try simp only[nmz]
   refine wpD (qP 255 _ (by rfl) fltZ (fun w8 hB8 hm8 hs8=>?_));replace hB8:w8.heap[w7.heap.size]?=some (.cells #[.int .i64 0,.int .i64 0] 255 (0,0)):=hB8
   try simp only[nmz]
   refine wpDo rfl ?_
   refine qF 163 _ _ w6.heap.size 0 cs (by rfl) (by rfl) (by rfl) hone 39 (by kernel_rfl) hcs _ _ (hm8.obj id hB7) (by rw[hcs];exact Nat.le_of_eq (qS qV).symm) (fun w9 hB9 hm9=>?_)
   have hB8':=hm9.objB (by omega) hB8;try simp only[nmz]
   refine wpD (qF 255 _ _ w7.heap.size 0 #[.int .i64 er,.int .i64 at_] (by rfl) (by rfl) (by rfl) (by simp[Value.oneCell']) 2 (by kernel_rfl) rfl _ _ hB8' (by simp) (fun wa hBa hma=>?_))
   simp only[stz]
   have hm2a:Mod NoB w2 wa:=((((hm5.trans0 hm6).trans0 hm7).trans0 hm8).transB hm9 (by have:=hm5.size;have:=hm6.size;omega)).transB hma (by have:=hm5.size;have:=hm6.size;have:=hm7.size;omega)
   have HF:Hid (MarkedR base w s R (.returned v2) wa):=Lib.hid ⟨HM2.out.trans0 hm2a,v2,m2,rfl,HG2.out.keep0 hm2a,by rw[HF0.out];exact HR2.out⟩
   clear hm5 hm6 hm7 hm8 hm9 hma hm2a hB7 hB8 hB8' hB9 hBa hmc hcd hget her hs7 hs8;go_upto_region 4 with(fail);refine wpR [3,3,3,3,0,3,3,3,3,3,3] ?_;simp only[stz]
   try refine zH _ _ false (by rfl) (by rfl) (by rfl) ?_
   try simp only[stz]
   go_wp2;go_ret;exact HF.out
  |some b=>
   have hbl:=HSZ.out _ _ HRG.out;have HDO:Hid (xL c di=(decL b).map zE):=Lib.hid (by unfold xL;rw[HRG.out]);go_upto_region 2 with(fail)
   refine wpR [3,1,1,3,3,3,3,3] ?_;simp only[stz];refine wpXA 24 b5 0 (qA di) hcd underlying24 32 hic trivial ?_;try simp only[nmz]
   refine wpD (wpC func162 (hget) ?_);rintro e w5 ⟨hm5,bv,he5,hbv⟩;subst he5;obtain⟨bad,bcp,rfl⟩:=hbv.slice;have HBV:=Lib.hid hbv;clear hbv;refine⟨_,rfl,?_⟩
   simp only[stz];refine qE rfl (fun w'=>qI _ 0 #[.slice bad b.length bcp,.bool true] rfl rfl (.slice bad b.length bcp) rfl) ?_;simp only[nmz]
   refine qE rfl (fun w'=>qI _ 1 #[.slice bad b.length bcp,.bool true] rfl rfl (.bool true) rfl) ?_;simp only[stz];go_upto_region 3 with(fail)
   refine wpR [3,1,3,3,3,1,1,1,1] ?_;simp only[stz];refine wpD (wpC func164 (r11Decode_any (Bts.sl HBV.out) (fun k hk=>(HBV.out.lt hk).2) hbl) ?_)
   rintro e w6 ⟨hm6,cs,er,at_,rfl,her,hmc⟩;have hcs:=hmc.size;have hone:=hmc.one;refine⟨_,rfl,?_⟩;simp only[stz]
   refine qE (v:=?_) rfl (fun w'=>?_) ?_;rotate_left;·(go_simp;try with_reducible rfl)
   simp only[nmz];refine qE (v:=?_) rfl (fun w'=>?_) ?_;rotate_left;·(go_simp;try with_reducible rfl)
   simp only[nmz];refine wpD (qP 163 _ (by rfl) manZ_i (fun w7 hB7 hm7 hs7=>?_))
   replace hB7:w7.heap[w6.heap.size]?=some (.cells (qN 0 [] descZ (.slice none 0 0) (.slice none 0 0)) 163 (0,0)):=hB7;try simp only[nmz]
   refine wpD (qP 255 _ (by rfl) fltZ (fun w8 hB8 hm8 hs8=>?_));replace hB8:w8.heap[w7.heap.size]?=some (.cells #[.int .i64 0,.int .i64 0] 255 (0,0)):=hB8
   try simp only[nmz]
   refine wpDo rfl ?_
   refine qF 163 _ _ w6.heap.size 0 cs (by rfl) (by rfl) (by rfl) hone 39 (by kernel_rfl) hcs _ _ (hm8.obj id hB7) (by rw[hcs];exact Nat.le_of_eq (qS qV).symm) (fun w9 hB9 hm9=>?_)
   rw[qC (by rw[hcs];exact(qS qV).symm)]at hB9;have hB8':=hm9.objB (by omega) hB8;try simp only[nmz]
   refine wpD (qF 255 _ _ w7.heap.size 0 #[.int .i64 er,.int .i64 at_] (by rfl) (by rfl) (by rfl) (by simp[Value.oneCell']) 2 (by kernel_rfl) rfl _ _ hB8' (by simp) (fun wa hBa hma=>?_))
   rw[qC (by rfl)]at hBa;have hB9':=hma.objB (by omega) hB9;simp only[stz]
   have hm6a:Mod NoB w6 wa:=((hm7.trans0 hm8).transB hm9 (Nat.le_refl _)).transB hma (by have:=hm7.size;omega);have hm2a:Mod NoB w2 wa:=(hm5.trans0 hm6).trans0 hm6a
   have HMC:=Lib.hid (hmc.keep0 hm6a);have hce:wa.cell? ⟨w7.heap.size,0,none⟩=some (.int .i64 er):=by simp[World.cell?,hBa]
   have HER:=Lib.hid her;have HMa:=Lib.hid (HM2.out.trans0 hm2a);have HGa:=Lib.hid (HG2.out.keep0 hm2a);generalize hb12:w7.heap.size=b12 at*
   generalize hb11:w6.heap.size=b11 at*;clear hm5 hm6 hm7 hm8 hm9 hma hm2a hm6a hB7 hB8 hB8' hB9 hBa hmc hcd hget her HBV HG2 HM2 hs7 hs8
   by_cases hez:er=0
   rotate_left
   ·have HF:Hid (MarkedR base w s R (.returned v2) wa):=Lib.hid ⟨HMa.out,v2,m2,rfl,HGa.out,by
     have:decL b=none:=by
      cases hd:decL b with
      |none=>rfl
      |some q=>exact absurd (HER.out.2 (by rw[hd];rfl)) hez
     rw[HIN.out,HDO.out,this];have:=HR2.out
     simpa using this⟩
    go_upto_region 4 with(fail);refine wpR [3,3,3,3,1,3,3,3,3,3,3] ?_;simp only[stz]
    try refine zH _ _ true (by rfl) (by rfl) (by rfl) ?_
    try simp only[stz]
    refine wpXd (v:=(.int .i64 er)) 33 b12 0 hce underlying33 trivial ?_;try simp only[nmz]
    refine qG _ _ _ _ _ _ _ _ rfl rfl rfl rfl rfl true (decide_eq_true hez) ?_;simp only[stz];clear hce hB9';go_wp2;go_ret;exact HF.out
   ·subst hez
    obtain⟨M,hM⟩:∃M,decL b=some M:=Option.isSome_iff_exists.1 (HER.out.1 rfl);have hmc:=HMC.out;rw[hM]at hmc;replace hmc:ManC w5.heap.size wa cs M:=hmc
    by_cases hd4:4<depth
    ·have hz4:(depth:Int)>4:=by omega
     have HF:Hid (MarkedR base w s R (.returned v2) wa):=Lib.hid ⟨HMa.out,v2,m2,rfl,HGa.out,by
      rw[HIN.out,if_pos hd4]
      exact HR2.out⟩
     clear hmc;go_upto_region 4 with(fail);refine wpR [3,3,3,3,1,3,3,3,3,3,3] ?_;simp only[stz]
     try refine zH _ _ true (by rfl) (by rfl) (by rfl) ?_
     try simp only[stz]
     refine wpXd (v:=(.int .i64 0)) 33 b12 0 hce underlying33 trivial ?_;try simp only[nmz]
     refine qG _ _ _ _ _ _ _ _ rfl rfl rfl rfl rfl false (by decide) ?_;simp only[stz];refine qG _ _ _ _ _ _ _ _ rfl rfl rfl rfl rfl true (decide_eq_true hz4) ?_
     simp only[stz];clear hce hB9';go_wp2;go_ret;exact HF.out
    ·have hz4:¬(depth:Int)>4:=by omega
     have hlens:=decL_len hM;have hids:=decL_ids hM;have hdc:=r11Descs_any hmc ⟨hlens.1,hlens.2.1⟩
     have hdl:(zE M).length<=33:=by
      unfold zE;simp only[List.length_append]
      split<;>simp<;>omega
     have hdsC:xL c di=some (zE M):=by rw[HDO.out,hM];rfl
     have hinU:=fun d hd=>HU.out _ (descsOf_mem hdsC d hd);have hR0:R=di::inDs c f depth (zE M):=by rw[HIN.out,if_neg hd4,hdsC]
     obtain⟨ds,hds⟩:∃ds,zE M=ds:=⟨_,rfl⟩;rw[hds]at hdc hdl hids hinU hR0;have HR0:=Lib.hid hR0;have HIDS:=Lib.hid hids;have HINU:=Lib.hid hinU
     clear hids hlens hds hmc HMC hM hdsC hinU hR0 HER HDO HIN;go_upto_region 4 with(fail);refine wpR [3,3,3,3,1,3,3,3,3,3,3] ?_;simp only[stz]
     try refine zH _ _ true (by rfl) (by rfl) (by rfl) ?_
     try simp only[stz]
     refine wpXd (v:=(.int .i64 0)) 33 b12 0 hce underlying33 trivial ?_;try simp only[nmz]
     refine qG _ _ _ _ _ _ _ _ rfl rfl rfl rfl rfl false (by decide) ?_;simp only[stz];refine qG _ _ _ _ _ _ _ _ rfl rfl rfl rfl rfl false (decide_eq_false hz4) ?_
     simp only[stz];clear hce;go_upto_region 6 with(fail);refine wpR [1,1,3] ?_;simp only[stz];refine wpXA 163 b11 0 cs (CellsAt.whole hB9') underlying163 39 hcs trivial ?_
     try simp only[nmz]
     refine wpD (wpC func165 (hdc) ?_);rintro e wb ⟨hmb,dv,rfl,hgdv⟩;have HDV:=Lib.hid hgdv;obtain⟨dad,dcap,rfl⟩:=hgdv.slice;clear hgdv;refine⟨_,rfl,?_⟩
     simp only[stz]
     have HRL:Hid (MkRel base wb c f depth ds (s++[di]) v2 (.int .i64 (0:Nat)) wb):=Lib.hid ⟨0,m2,by omega,rfl,HGa.out.keep0 hmb,by simpa[inDs]using HR2.out,Mod.refl _ _⟩
     replace HMa:=Lib.hid (HMa.out.trans0 hmb);have hm0b:=HM0.out.trans0 HMa.out;have hsb:=HMa.out.size;clear hmb hB9' hdc HR2 HGa;go_wp2
     go_loopw [3,14] (MkRel base wb c f depth ds (s++[di])) (fun _ i _=>ds.length-(intOf i).toNat)
     case atStart=>exact HRL.out
     case round=>
      rename World=>wr
      obtain⟨k,m,hk,rfl,hgr,hrr,hmr⟩:=hrel;have HGL:=Lib.hid hgr;have HRR:=Lib.hid hrr;obtain⟨vad,vcp,rfl⟩:=hgr.slice;have hbr:=hmr.size
      by_cases hlt:k<ds.length
      ·have hzk:(k:Int)<(ds.length:Nat):=by omega
       have hsu:∀y∈s++[di]++inDs c f depth (ds.take k),y∈U:=fun y hy=>by
        rcases List.mem_append.1 hy with hy|hy
        ·rcases List.mem_append.1 hy with hy|hy
         ·exact HS0.out y hy
         ·rw[List.mem_singleton.1 hy];exact HDU.out
        ·exact inDs_in HU.out (fun d hd=>HINU.out d (List.mem_of_mem_take hd)) y hy
       have hml:m.length<=9000:=Nat.le_trans (riseI_len hrr hsu) hUl;have hm32:∀y∈m,y.length=32:=fun y hy=>HU32.out y (hsu y ((hrr.2 y).1 hy))
       have hdid:=HIDS.out ds[k] (List.getElem_mem _);have hdu:=HINU.out ds[k] (List.getElem_mem _);have hgr2:=HDV.out.keep0 hmr
       obtain⟨gb,cap',cur,hq,hgc,hcc,hszd,-,-⟩:=hgr2.at xZ k hlt
       cases hq
       have HTK:=Lib.hid (inDs_succ c f depth ds k hlt);generalize ds[k]=d at*;rw[jK hdid]at hcc;have hdsz:(qB d).size=35:=qO hdid
       have hdic:(qA d.id).size=32:=by rw[qD,hdid]
       have hcm:wr.cell? ⟨gb,k*35,none⟩=some (.int .i64 d.media):=hcc 0 (by omega)
       have hci:CellsAt wr gb (k*35+1) (qA d.id):=fun j hj=>by
        rw[hdic]at hj;have h1:=hcc (1+j) (by omega);rw[<-Nat.add_assoc]at h1;rw[h1];exact descRow_at1 j (by omega)
       have HSU:=Lib.hid hsu;have HM32:=Lib.hid hm32;obtain⟨tr,htr⟩:∃tr,xK d=tr:=⟨_,rfl⟩;have htr0:=r13tree_any d.media wr
       rw[show decide (d.media=3\/d.media=4)=tr by rw[<-htr];unfold xK;by_cases h1:d.media=3<;>by_cases h2:d.media=4<;>simp[h1,h2]]at htr0
       rw[htr]at HTK;clear htr hsu hm32 hgr hgr2 hgc hszd hrr hcc;go_upto_region 10 with(fail);refine wpR [3,3,3,3,1,1] ?_;simp only[stz]
       refine wpPI underlying161 35 hlt ?_;simp only[stz];refine wpXd (v:=(.int .i64 d.media)) 3 gb (k*35) hcm underlying3 trivial ?_;try simp only[nmz]
       refine wpD (wpC func163 (htr0) ?_);rintro e we ⟨rfl,hwe⟩;obtain rfl:=hwe.symm;refine⟨_,rfl,?_⟩;simp only[stz];clear htr0 hcm
       cases tr with
       |true=>
        have hrec:=IH.out d.id (depth+1) wr (.slice vad m.length vcp) _ m hdu (by omega) (by omega) (hm0b.trans0 hmr) (by omega) HGL.out HRR.out HSU.out
        go_upto_region 11 with(fail);refine wpR [3,3,3,3,3,1,3,3,3,1,3] ?_;simp only[stz];refine wpPI underlying161 35 hlt ?_;simp only[stz]
        refine wpXA 24 gb (k*35+1) (qA d.id) hci underlying24 32 hdic trivial ?_;simp only[stz]
        refine qY _ _ _ _ (depth:Int) 1 ((depth+1:Nat):Int) rfl rfl rfl rfl (by omega) (by omega) (by omega) ?_;simp only[stz];refine wpD (wpC func88 (hrec) ?_)
        rintro e wf ⟨hmf,vf,mf,rfl,hgf,hrf⟩
        have HR:Hid (MkRel base wb c f depth ds (s++[di]) vf (.int .i64 ((k+1:Nat):Int)) wf):=Lib.hid ⟨k+1,mf,by omega,rfl,hgf,by rw[HTK.out,<-List.append_assoc];exact hrf,hmr.trans0 hmf⟩
        refine⟨_,rfl,?_⟩;simp only[stz];clear hmf hgf hrf hrec hci hmr;go_wp2
        go_roundw
        case rel=>exact HR.out
        case measure=>simp[intOf];omega
       |false=>
        have hla:=r13Laid_any HGL.out (by omega) HRR.out HM32.out hdid (by omega);go_upto_region 12 with(fail);refine wpR [3,3,3,3,3,1,1,3] ?_;simp only[stz]
        refine wpPI underlying161 35 hlt ?_;simp only[stz];refine wpXA 24 gb (k*35+1) (qA d.id) hci underlying24 32 hdic trivial ?_;try simp only[nmz]
        refine wpD (wpC func120 (hla) ?_);rintro e wf ⟨hmf,vf,mf,rfl,hgf,hrf,-⟩
        have HR:Hid (MkRel base wb c f depth ds (s++[di]) vf (.int .i64 ((k+1:Nat):Int)) wf):=Lib.hid ⟨k+1,mf,by omega,rfl,hgf,by rw[HTK.out,<-List.append_assoc];exact hrf,hmr.trans0 hmf⟩
        refine⟨_,rfl,?_⟩;simp only[stz];clear hmf hgf hrf hla hci hmr;go_wp2
        go_roundw
        case rel=>exact HR.out
        case measure=>simp[intOf];omega
      ·have hzk:¬(k:Int)<(ds.length:Nat):=by omega
       obtain rfl:k=ds.length:=by omega
       have HF:Hid (MarkedR base w s R (.returned (.slice vad m.length vcp)) wr):=Lib.hid ⟨HMa.out.trans0 hmr,_,m,rfl,HGL.out,by
        have h1:=HRR.out;rw[List.take_length,List.append_assoc]at h1;rw[HR0.out]
        exact h1⟩
       clear hgr hrr hmr;go_wp2;go_ret;exact HF.out
def Mk2Rel(base:Nat)(w0:World)(c:BlobM)(roots:List (List UInt8))(v i:Value)(w:World):Prop:=∃(k:Nat)(m:List (List UInt8)),k<=roots.length/\i=.int .i64 k/\GatI base w v m/\RiseI ((roots.take k).flatMap fun r=>inL c 5 r 1) m/\Mod NoB w0 w
def Mark13R(w:World)(c:BlobM)(roots:List (List UInt8)):Ending->World->Prop:=fun e w'=>Mod NoB w w'/\∃v m,e=.returned v/\GatI w.heap.size w' v m/\RiseI (roots.flatMap fun r=>inL c 5 r 1) m
theorem r13Mark_any(HGet:GetsC w0 sv c)(hsz:∀k b,getL k c=some b->b.length<=4096)(hks:∀p∈c,∀M,decL p.2=some M->∀d∈zE M,d.id.length=32){w:World}(hm0:Mod NoB w0 w){own:Bool}{G:Nat->Prop}{v:Value}{roots:List (List UInt8)}(hv:Sl own w G 32 IdC v roots)
 (hr32:∀x∈roots,x.length=32)(hn:roots.length+(jE c).length<=9000):Calls prog 23 #[sv,v] w (Mark13R w c roots):=by
 have hU32:∀x∈roots++jE c,x.length=32:=fun x hx=>by
  rcases List.mem_append.1 hx with hx|hx
  ·exact hr32 x hx
  ·obtain⟨p,hp,hq⟩:=List.mem_flatMap.1 hx
   obtain⟨d,hd,rfl⟩:=List.mem_map.1 hq
   cases hM:decL p.2 with
   |none=>rw[hM]at hd;simp at hd
   |some M=>rw[hM]at hd;exact hks p hp M hM d (by simpa using hd)
 have HMK:=Lib.hid (r13marked_any (U:=roots++jE c) HGet hsz (fun x hx=>List.mem_append_right _ hx) hU32 (by rw[List.length_append];omega) w.heap.size 5)
 have HV:=Lib.hid hv;obtain⟨ad,cap,rfl,-,hat⟩:=Sl.at hv;have HAT:=Lib.hid hat;have HM0:=Lib.hid hm0;clear hv hat hm0 HGet hsz hks hU32 hr32;go_enter func23,ntmps23
 go_wp2
 go_loopw [5,6] (Mk2Rel w.heap.size w c roots) (fun _ i _=>roots.length-(intOf i).toNat)
 case atStart=>exact⟨0,[],by omega,rfl,Gat.nil _ _ _ _ _,⟨.nil,fun y=>by simp⟩,Mod.refl _ _⟩
 case round=>
  rename World=>wr
  obtain⟨k,m,hk,rfl,hgr,hrr,hmr⟩:=hrel;have HGL:=Lib.hid hgr;have HRR:=Lib.hid hrr;obtain⟨vad,vcp,rfl⟩:=hgr.slice;clear hgr hrr
  by_cases hlt:k<roots.length
  ·have hz:(k:Int)<(roots.length:Nat):=by omega
   obtain⟨b,off,rfl,-,-,hcc⟩:=HAT.out k hlt;obtain⟨cs,-,⟨rfl,hx32⟩,hcA⟩:=hcc k hlt;have hcr:=hcA.keep hmr id
   have hrec:=HMK.out roots[k] 1 wr (.slice vad m.length vcp) _ m (List.mem_append_left _ (List.getElem_mem _)) (by omega) (by omega) (HM0.out.trans0 hmr) hmr.size HGL.out HRR.out (fun y hy=>by
    obtain⟨r,hr,hy⟩:=List.mem_flatMap.1 hy
    exact inL_in (fun x hx=>List.mem_append_right _ hx) (List.mem_append_left _ (List.mem_of_mem_take hr)) y hy)
   have HTK:Hid ((roots.take (k+1)).flatMap (fun r=>inL c 5 r 1)=(roots.take k).flatMap (fun r=>inL c 5 r 1)++inL c 5 roots[k] 1):=Lib.hid (by rw[List.take_succ_eq_append_getElem hlt,List.flatMap_append];simp)
   generalize roots[k]=x at*;have hic:(qA x).size=32:=by rw[qD,hx32]
   clear hcc hcA;go_upto_region 5 with(fail);refine wpR [3,3,3,3,1,3,1,3] ?_;simp only[stz];refine wpPI underlying25 32 hlt ?_;simp only[nmz]
   refine wpXA 24 b (off+k*32) (qA x) hcr underlying24 32 hic trivial ?_;simp only[stz];refine wpD (wpC func88 (hrec) ?_);rintro e wf ⟨hmf,vf,mf,rfl,hgf,hrf⟩
   have HR:Hid (Mk2Rel w.heap.size w c roots vf (.int .i64 ((k+1:Nat):Int)) wf):=Lib.hid ⟨k+1,mf,by omega,rfl,hgf,by rw[HTK.out];exact hrf,hmr.trans0 hmf⟩
   refine⟨_,rfl,?_⟩;simp only[stz];clear hmf hgf hrf hrec hcr hmr;go_wp2
   go_roundw
   case rel=>exact HR.out
   case measure=>simp[intOf];omega
  ·have hz:¬(k:Int)<(roots.length:Nat):=by omega
   obtain rfl:k=roots.length:=by omega
   have HF:Hid (Mark13R w c roots (.returned (.slice vad m.length vcp)) wr):=Lib.hid ⟨hmr,_,m,rfl,HGL.out,by have h1:=HRR.out;rwa[List.take_length]at h1⟩;clear hmr
   go_wp2;go_ret;exact HF.out
end
theorem built_idZ:prog.built 24 []=some (qA zeros32):=by kernel_rfl
theorem desc_idAt{w:World}{b off:Nat}{d:DescL}(h:CellsAt w b off (qB d))(hd:d.id.length=32):CellsAt w b (off+1) (qA d.id):=fun j hj=>by
 have h1:(qB d).size=35:=qO hd;have h2:(qA d.id).size=32:=by rw[qD,hd]
 rw[Nat.add_assoc,h (1+j) (by omega)];exact descRow_at1 j hj
theorem slD_lit{w:World}{b n:Nat}{ds:List DescL}(h:w.heap[b]?=some (.cells (ds.flatMap fun d=>(qB d).toList).toArray 46 (0,0)))(h32:∀d∈ds,d.id.length=32)(hn:n=ds.length)(hl:ds.length<=1000):Sl false w AnyB 35 DscC (.slice (some ⟨b,0,none⟩) n n) ds:=by
 subst hn
 have e:ds.flatMap (fun d=>(qB d).toList)=ds.flatMap descE:=by
  clear h hl
  induction ds with
  |nil=>rfl
  |cons d ds ih=>rw[List.flatMap_cons,List.flatMap_cons,ih (fun x hx=>h32 x (List.mem_cons_of_mem _ hx))];unfold descE;rw[if_pos (h32 d List.mem_cons_self)]
 have hlen:(ds.flatMap descE).length=ds.length*35:=by
  clear h hl e h32
  induction ds with
  |nil=>rfl
  |cons d ds ih=>rw[List.flatMap_cons,List.length_append,xZ,ih,List.length_cons];omega
 have hg:GatD 0 w (.slice (some ⟨b,0,none⟩) ds.length ds.length) ds:=⟨hlen,.inr ⟨b,ds.length,_,rfl,Nat.zero_le _,h,Nat.le_refl _,by unfold maxLen;omega,by simp only[List.size_toArray,e,hlen],by simp only[e];rw[List.take_of_length_le (by omega)]⟩⟩
 have hs:=(Gat.sl hg xZ).weak;obtain⟨a,c,e1,e2,e3,hc⟩:=hs;refine⟨a,c,e1,e2,e3,fun hne=>?_⟩;obtain⟨b',off',e4,_,_,hcc⟩:=hc hne
 refine⟨b',off',e4,trivial,fun e=>(by cases e),fun i hi=>?_⟩;obtain⟨cs,hs1,hs2,hs3⟩:=hcc i hi
 exact⟨cs,hs1,⟨by rw[hs2];exact jK (h32 _ (List.getElem_mem hi)),h32 _ (List.getElem_mem hi)⟩,hs3⟩
def LibQ(w:World)(eL eC eM eX:DescL)(c:BlobL):Ending->World->Prop:=fun e w'=>∃bs,e=.returned (.tuple #[.agg (exRow (.pointer (some ⟨bs,0,none⟩)) (qB eL) (qB eC) (qB eM) (qB eX)),.bool true])/\StNew w w' bs 32 c
structure AwF(c:BlobL)(eL eC eM eX:DescL):Prop where
 few:c.length<=1000
 iL:eL.id.length=32
 iC:eC.id.length=32
 iM:eM.id.length=32
 iX:eX.id.length=32
 w1:(walkL c 5 (thgI eM.id)).2.isNone=true/\(walkM (walkL c 5 (thgI eM.id)).1).length<=256/\(∀x∈(walkM (walkL c 5 (thgI eM.id)).1).map (·.1),x∈[eC.id,eL.id,eM.id])/\∀x∈[eC.id,eL.id,eM.id],x∈(walkM (walkL c 5 (thgI eM.id)).1).map (·.1)
 w2:(walkL c 5 (thgI eX.id)).2.isNone=true/\(walkM (walkL c 5 (thgI eX.id)).1).length<=256/\(∀x∈(walkM (walkL c 5 (thgI eX.id)).1).map (·.1),x∈[eC.id,eL.id,eM.id,eX.id])/\∀x∈[eC.id,eL.id,eM.id,eX.id],x∈(walkM (walkL c 5 (thgI eX.id)).1).map (·.1)
 w3:(walkL c 5 (thgI eL.id)).2=some (eL.id,5)
theorem awake_walk{c0:BlobL}{eL eC eM eX:DescL}(F:AwF c0 eL eC eM eX)(h0:∀w,Calls prog 28 #[.int .i64 (0:Nat)] w (LibQ w eL eC eM eX c0))(w:World):Calls prog 16 #[] w (RetM (.bool true) w):=by
 have sZ:(qB descZ).size=35:=qO qV;have iL:=F.iL;have iC:=F.iC;have iM:=F.iM;have iX:=F.iX;have sL:(qB eL).size=35:=qO iL
 have sC:(qB eC).size=35:=qO iC;have sM:(qB eM).size=35:=qO iM;have sX:(qB eX).size=35:=qO iX
 have cL:(qA eL.id).size=32:=by rw[qD,iL]
 have cM:(qA eM.id).size=32:=by rw[qD,iM]
 have cX:(qA eX.id).size=32:=by rw[qD,iX]
 have hzs:=yI (p:=.pointer none) sZ sZ sZ sZ;have hfour:=F.few;have hlib:=h0 w;have W1:=hid F.w1;have W2:=hid F.w2;have W3:=hid F.w3;clear F h0
 go_enter func16,ntmps16;go_upto_region 1 with(fail);refine wpR [1,3,3,3,1,1,3] ?_;simp only[stz];refine wpD (wpC func28 (hlib) ?_);rintro e w1 ⟨bs,he1,Ft,hat,hFn,hm1⟩
 subst he1;refine⟨_,rfl,?_⟩;simp only[stz]
 refine qE rfl (fun w'=>qI _ 0 #[.agg (exRow (.pointer (some ⟨bs,0,none⟩)) (qB eL) (qB eC) (qB eM) (qB eX)),.bool true] rfl rfl (.agg (exRow (.pointer (some ⟨bs,0,none⟩)) (qB eL) (qB eC) (qB eM) (qB eX))) rfl) ?_
 simp only[nmz]
 refine qE rfl (fun w'=>qI _ 1 #[.agg (exRow (.pointer (some ⟨bs,0,none⟩)) (qB eL) (qB eC) (qB eM) (qB eX)),.bool true] rfl rfl (.bool true) rfl) ?_
 simp only[nmz];refine wpD (qP 48 _ (by rfl) exampleZ (fun w2 hB2 hm2 hs2=>?_))
 replace hB2:w2.heap[w1.heap.size]?=some (.cells (exRow (.pointer none) (qB descZ) (qB descZ) (qB descZ) (qB descZ)) 48 (0,0)):=hB2
 try simp only[nmz]
 refine wpD (qF 48 _ _ w1.heap.size 0 (exRow (.pointer (some ⟨bs,0,none⟩)) (qB eL) (qB eC) (qB eM) (qB eX)) (by rfl) (by rfl) (by rfl) (exRow_one rfl (zJ _ _ _ _) (zJ _ _ _ _) (zJ _ _ _ _) (zJ _ _ _ _)) 141 (by kernel_rfl) (yI sL sC sM sX) _ _ hB2 (by rw[hzs,yI sL sC sM sX];omega) (fun w3 hB3 hm3=>?_))
 rw[qC (by rw[hzs,yI sL sC sM sX])]at hB3;simp only[stz];have hm13:Mod NoB w1 w3:=hm2.transB hm3 (Nat.le_refl _);have hm03:=hm1.trans0 hm13
 have hat3:=hat.keep0 hm13;have x0:w3.cell? ⟨w1.heap.size,0,none⟩=some (.pointer (some ⟨bs,0,none⟩)):=ex_at0 hB3
 have x1:CellsAt w3 w1.heap.size (0+1) (qB eL):=ex_at1 hB3;have x2:CellsAt w3 w1.heap.size (0+36) (qB eC):=ex_at2 sL hB3
 have x3:CellsAt w3 w1.heap.size (0+71) (qB eM):=ex_at3 sL sC hB3;have x4:CellsAt w3 w1.heap.size (0+106) (qB eX):=ex_at4 sL sC sM hB3
 have y1:=desc_idAt x1 iL;have y3:=desc_idAt x3 iM;have y4:=desc_idAt x4 iX;generalize hb1:w1.heap.size=b1 at*;clear hlib hat hm2 hm3 hm13 hm1 hB2 hB3 hs2
 go_upto_region 2 with(fail);have hS:Mod NoB w3 w3.drew:=(Mod.refl _ _).drew;have hT:Mod NoB w3 w3.drew:=(Mod.refl _ _).drew
 refine wpRP [(0,3),(1,3),(2,3),(3,0),(4,3),(5,3),(6,0),(7,3),(8,0),(9,3),(10,0),(11,3),(12,0),(15,0),(13,1),(14,1),(16,1),(17,3),(18,3),(19,3),(20,0),(21,3),(22,3),(23,0),(24,3),(25,0),(26,3),(27,0),(28,3),(29,0),(30,3),(31,0),(34,0),(32,1),(33,1),(35,1),(36,3),(37,3),(38,3),(39,0),(40,3),(41,3),(42,0),(43,3),(44,3),(45,0),(46,1),(47,3),(48,3)] [] (fun w'=>Mod NoB w3 w') hS ?_
 simp only[stz];refine wpLd 29 b1 0 (fun w' hS=>hS.cell id x0) underlying29 ?_;simp only[stz]
 refine wpLA 24 b1 (0+71+1) (qA eM.id) (fun w' hS=>y3.keep hS id) underlying24 32 cM ?_;simp only[stz]
 refine wpLA 46 b1 (0+36) (qB eC) (fun w' hS=>x2.keep hS id) underlying46 35 sC ?_;simp only[stz]
 refine wpLA 46 b1 (0+1) (qB eL) (fun w' hS=>x1.keep hS id) underlying46 35 sL ?_;simp only[stz]
 refine wpLA 46 b1 (0+71) (qB eM) (fun w' hS=>x3.keep hS id) underlying46 35 sM ?_;simp only[nmz]
 refine qQ rfl (fun w' hS=>qL 24 [] [] _ (by rfl) (by rfl) built_idZ) ?_;simp only[nmz];refine qM rfl (fun K hK=>?_)
 refine xM 161 46 3 [(0,_),(1,_),(2,_)] [.agg (qB eC),.agg (qB eL),.agg (qB eM)] (.agg (qB descZ)) 35 (by rfl) (by rfl) (by rfl) underlying161 desc_zs9 (by omega) (by omega) (by intro v hv;simp at hv;rcases hv with rfl|rfl|rfl<;>first|exact sC|exact sL|exact sM|exact sX) (fun w4 hB4 hm4 hs4=>?_)
 have hr1:=rising13_any (slD_lit (ds:=[eC,eL,eM]) hB4 (by intro d hd;simp at hd;rcases hd with rfl|rfl|rfl<;>first|exact iC|exact iL|exact iM|exact iX) rfl (by simp)) (by simp)
 replace hT:=hT.trans0 hm4;refine hK _ _ hT ?_;clear hK K;try simp only[nmz]
 refine qM rfl (fun K hK=>?_);refine wpC func31 hr1 ?_;rintro e w5 ⟨vr,ks,rfl,hgk,hrk,hm5⟩;replace hT:=hT.trans0 hm5
 have hk32:∀x∈ks,x.length=32:=fun x hx=>by
  have:=(hrk.2 x).1 hx
  simp at this
  rcases this with rfl|rfl|rfl
  ·exact iC
  ·exact iL
  ·exact iM
 have hw1:=walks13_any (hat3.keep0 hT) hfour iM (bad:=zeros32) (by decide) (slI hgk hk32) 0;refine⟨_,rfl,hK _ _ hT ?_⟩;clear hK K hm5;try simp only[nmz]
 refine qM rfl (fun K hK=>?_);refine wpC func29 hw1 ?_;rintro e w6 ⟨hm6,ids,b2,n2,hout,rfl⟩
 rw[decide_eq_true (walk_whole W1.out.1 W1.out.2.1 W1.out.2.2.1 W1.out.2.2.2 hrk hout)];replace hT:=hT.trans0 hm6;refine⟨_,rfl,hK _ _ hT ?_⟩
 clear hK K hm6 hout hw1 hgk hrk hr1 hB4 hm4 hs4;simp only[stz];refine wpLd 29 b1 0 (fun w' hS=>hS.cell id x0) underlying29 ?_;simp only[stz]
 refine wpLA 24 b1 (0+106+1) (qA eX.id) (fun w' hS=>y4.keep hS id) underlying24 32 cX ?_;simp only[stz]
 refine wpLA 46 b1 (0+36) (qB eC) (fun w' hS=>x2.keep hS id) underlying46 35 sC ?_;simp only[stz]
 refine wpLA 46 b1 (0+1) (qB eL) (fun w' hS=>x1.keep hS id) underlying46 35 sL ?_;simp only[stz]
 refine wpLA 46 b1 (0+71) (qB eM) (fun w' hS=>x3.keep hS id) underlying46 35 sM ?_;simp only[stz]
 refine wpLA 46 b1 (0+106) (qB eX) (fun w' hS=>x4.keep hS id) underlying46 35 sX ?_;simp only[nmz]
 refine qQ rfl (fun w' hS=>qL 24 [] [] _ (by rfl) (by rfl) built_idZ) ?_;simp only[nmz];refine qM rfl (fun K hK=>?_)
 refine xM 161 46 4 [(0,_),(1,_),(2,_),(3,_)] [.agg (qB eC),.agg (qB eL),.agg (qB eM),.agg (qB eX)] (.agg (qB descZ)) 35 (by rfl) (by rfl) (by rfl) underlying161 desc_zs9 (by omega) (by omega) (by intro v hv;simp at hv;rcases hv with rfl|rfl|rfl|rfl<;>first|exact sC|exact sL|exact sM|exact sX) (fun w7 hB7 hm7 hs7=>?_)
 have hr2:=rising13_any (slD_lit (ds:=[eC,eL,eM,eX]) hB7 (by intro d hd;simp at hd;rcases hd with rfl|rfl|rfl|rfl<;>first|exact iC|exact iL|exact iM|exact iX) rfl (by simp)) (by simp)
 replace hT:=hT.trans0 hm7;refine hK _ _ hT ?_;clear hK K;try simp only[nmz]
 refine qM rfl (fun K hK=>?_);refine wpC func31 hr2 ?_;rintro e w8 ⟨vr2,ks2,rfl,hgk,hrk,hm8⟩;replace hT:=hT.trans0 hm8
 have hk32:∀x∈ks2,x.length=32:=fun x hx=>by
  have:=(hrk.2 x).1 hx
  simp at this
  rcases this with rfl|rfl|rfl|rfl
  ·exact iC
  ·exact iL
  ·exact iM
  ·exact iX
 have hw2:=walks13_any (hat3.keep0 hT) hfour iX (bad:=zeros32) (by decide) (slI hgk hk32) 0;refine⟨_,rfl,hK _ _ hT ?_⟩;clear hK K hm8;try simp only[nmz]
 refine qM rfl (fun K hK=>?_);refine wpC func29 hw2 ?_;rintro e w9 ⟨hm9,ids,b2,n2,hout,rfl⟩
 rw[decide_eq_true (walk_whole W2.out.1 W2.out.2.1 W2.out.2.2.1 W2.out.2.2.2 hrk hout)];replace hT:=hT.trans0 hm9
 have hw3:=walks13_any (hat3.keep0 hT) hfour iL iL (Sl.nil false w9 AnyB 32 IdC) 5;refine⟨_,rfl,hK _ _ hT ?_⟩;clear hK K hm9 hout hw2 hgk hrk hr2 hB7 hm7 hs7;simp only[stz]
 refine wpLd 29 b1 0 (fun w' hS=>hS.cell id x0) underlying29 ?_;simp only[stz];refine wpLA 24 b1 (0+1+1) (qA eL.id) (fun w' hS=>y1.keep hS id) underlying24 32 cL ?_
 simp only[stz];refine wpLA 24 b1 (0+1+1) (qA eL.id) (fun w' hS=>y1.keep hS id) underlying24 32 cL ?_;simp only[nmz];refine qM rfl (fun K hK=>?_)
 refine wpC func29 hw3 ?_;rintro e wa ⟨hma,ids,b2,n2,hout,rfl⟩;rw[decide_eq_true (walk_wrong W3.out hout)];replace hT:=hT.trans0 hma;refine⟨_,rfl,hK _ _ hT ?_⟩
 clear hK K hma hout hw3;simp only[stz];have HF:=hid (hm03.trans0 hT);clear hS hT hm03 hat3 x0 x1 x2 x3 x4 y1 y3 y4;go_wp2;go_ret;exact⟨rfl,HF.out⟩
theorem awakeF:AwF c0 dL dC dM (dX 0) where
 few:=by have h:c0.length=4:=lib_four 0 (by omega);omega
 iL:=xW _
 iC:=xW _
 iM:=xW _
 iX:=xW _
 w1:=walk0_M
 w2:=walk0_X
 w3:=walk0_L
theorem awake13_any(w:World):Calls prog 16 #[] w (RetM (.bool true) w):=awake_walk awakeF (fun w=>lib13_any w 0 (by omega)) w
end
end Go.Proofs.YtjeonjoifjbohaaGreat
