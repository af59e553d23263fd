/- What the statement SweepSweeps needs, part 5. -/
import Derived.Sort.CutIn
import Derived.Test.YtjeonjoifjbohaaGreatSweepSweepsP4
set_option linter.unusedVariables false
set_option linter.unusedSimpArgs false
set_option linter.unnecessarySimpa false
set_option linter.unusedSectionVars false
set_option maxRecDepth 10000
set_option maxHeartbeats 8000000
namespace Go.Proofs.YtjeonjoifjbohaaGreat
section
open Go.RowKit Go.Shelf Go.Proofs.Tryz Go.Lib
def descE(d:DescL):List Value:=if d.id.length=32 then(qZ d).toList else List.replicate 35 (.int .i64 0)
theorem descE_len(d:DescL):(descE d).length=35:=by
 unfold descE
 split
 ·rename_i h;rw[Array.length_toList];exact zZ h
 ·simp
theorem descE_one(d:DescL):∀c∈descE d,c.oneCell'=true:=by
 unfold descE
 split
 ·intro c hc;exact descRow_one _ _ _ _ c (by simpa[qZ]using hc)
 ·intro c hc;rw[List.eq_of_mem_replicate hc];rfl
theorem descE_eq{d:DescL}(h:d.id.length=32):(descE d).toArray=qZ d:=by unfold descE;rw[if_pos h]
theorem desc_i:(prog.info? 46).map (fun i=>(i.zero,i.size,i.bytes))=some (some (.agg (qZ descZ)),35,64):=by kernel_rfl
theorem desc_zs:(Value.agg (qZ descZ)).cells.size=35:=by kernel_rfl
abbrev GatD(base:Nat)(w:World)(v:Value)(l:List DescL):Prop:=Gat descE 46 35 base w v l
section
variable{w:World}{rb wb:Nat}{bv:Value}{b:List UInt8}{a:Nat}{e p:Int}
theorem RdS.keepS{S:Nat->Prop}{w1 w2:World}{s:RS}(h:RdS w w1 rb wb bv b s)(h0:∀k,k=rb\/k=wb\/bv.ownBlock=some k->k<w.heap.size)(hm:Mod S w1 w2)(hS:∀k,S k->w.heap.size<=k):RdS w w2 rb wb bv b s:=by
 obtain⟨⟨a,e,p,hi,hst⟩,hM⟩:=h;refine⟨⟨a,e,p,hi.keep hm (fun e=>?_) (fun e=>?_) (fun k hk e=>?_),hst⟩,hM.trans hm (fun k hk e=>?_)⟩
 ·have:=hS _ e;have:=h0 rb (.inl rfl);omega
 ·have:=hS _ e;have:=h0 wb (.inr (.inl rfl));omega
 ·have:=hS _ e;have:=h0 k (.inr (.inr hk));omega
 ·have:=hS _ e;omega
def ManyR(w:World)(rb wb:Nat)(bv:Value)(b:List UInt8)(l:List DescL)(s:RS):Ending->World->Prop:=fun x w'=>RdS w w' rb wb bv b s/\∃v,x=.returned v/\GatD w.heap.size w' v l
def ManyRel(w0:World)(rb wb:Nat)(bv:Value)(b:List UInt8)(s:RS)(n:Nat)(v i:Value)(w:World):Prop:=∃k:Nat,k<=n/\i=.int .i64 k/\RdS w0 w rb wb bv b (xO b k s).2/\GatD w0.heap.size w v (xO b k s).1
theorem mMany_any(h:RdI w rb wb bv b a e p)(size:Int)(n:Nat)(hn:n<=4096):Calls prog 244 #[.int .i64 n,.func (.func 242) #[.agg #[.pointer (some ⟨rb,0,none⟩),.int .i64 size]] #[]] w (ManyR w rb wb bv b (xO b n (stOf a e)).1 (xO b n (stOf a e)).2):=by
 have hall:=h.all;have hst:=h.stay;have hok:=h.notOk;generalize stOf a e=s at hst hok |-;have HST:=hid hst
 have HD:=hid (show ∀(w':World)(s':RS),RdS w w' rb wb bv b s'->Calls prog 242 #[.agg #[.pointer (some ⟨rb,0,none⟩),.int .i64 size]] w' (DescR w' rb wb bv b (yJ b s').1 (yJ b s').2)from fun w' s' hw'=>by
  obtain⟨⟨a',e',p',h',hs⟩,-⟩:=hw';have:=mDesc_any h' size
  rwa[hs]at this)
 clear h hst;go_enter func244,ntmps244;go_upto_region 1 with(fail);go_wp2
 go_loopw [4,6] (ManyRel w rb wb bv b s n) (fun _ i _=>n-(intOf i).toNat)
 case atStart=>exact⟨0,Nat.zero_le _,rfl,HST.out,Gat.nil _ _ _ _ _⟩
 case round=>
  rename World=>wr
  obtain⟨k,hk,rfl,hrd,hg⟩:=hrel;have HRD:=hid hrd;have HG:=hid hg
  by_cases hlt:k<n
  ·have hz:(k:Int)<(n:Int):=by omega
   have hidl:=(rDescL_ok (b:=b) (s:=(xO b k s).2)).2.1;have hlen:=rDescsL_len (b:=b) (s:=s) k;obtain⟨d,hd⟩:∃d,(yJ b (xO b k s).2).1=d:=⟨_,rfl⟩
   have hcall:=HD.out wr _ hrd;rw[hd]at hidl hcall;have HDD:=hid hd;have HE:=hid (descE_eq hidl);have hds:=zZ (m:=d.media) (n:=d.size) (p:=d.plat) hidl
   replace hds:(qZ d).size=35:=hds;clear hrd hg hd;go_upto_region 3 with(fail);refine wpR [3,3,1,1,1,3] ?_;simp only[stz]
   refine wpD (wp_callv 242 _ [] _ #[.agg #[.pointer (some ⟨rb,0,none⟩),.int .i64 size]] #[] (by rfl) (by rfl) (enters_of func242 (by kernel_rfl) rfl) ?_)
   show Calls prog 242 #[.agg #[.pointer (some ⟨rb,0,none⟩),.int .i64 size]] _ _
   refine hcall.mono ?_;rintro e w2 ⟨hr2,rfl⟩;have HR2:=hid (HRD.out.trans hr2)
   have HG2:Hid (GatD w.heap.size w2 _ (xO b k s).1):=hid (HG.out.keep hr2.2 (fun q hq e=>by
    have h1:=(HG.out.lt hq).1
    rcases e with e|e
    ·have:=hall rb (.inl rfl);omega
    ·have:=hall wb (.inr (.inl rfl));omega))
   clear hr2;refine⟨_,rfl,?_⟩;try simp only[nmz]
   refine wpD (qQ 161 46 _ (.agg (qZ d)) (.agg (qZ descZ)) 35 (by rfl) (by rfl) underlying161 (by kernel_rfl) (by omega) (by omega) hds (fun w3 hB3 hm3 hs3=>?_))
   have hsrc:=src_lit (enc:=descE) (e:=46) (x:=d) descE_len (by rw[HE.out];exact hB3);have HR3:=hid (HR2.out.keepS hall hm3 (fun _ h=>h.elim))
   have HG3:=hid (HG2.out.keep0 hm3);have hws:w.heap.size<=w3.heap.size:=HR3.out.2.size;clear hm3 hB3 hs3;try simp only[nmz]
   refine wpD (wp_gat descE _ _ 161 46 (.agg (qZ descZ)) 35 64 (by rfl) underlying161 desc_i desc_zs (by omega) descE_one w.heap.size _ (xO b k s).1 (by rfl) HG3.out _ [d] (by rfl) hsrc (by rw[hlen];unfold maxLen;simp;omega) (by rw[hlen];simp;omega) hws (fun v' w4 hg4 hm4=>?_))
   have HR4:=hid (HR3.out.keepS hall hm4 (fun q hq=>(HG3.out.lt hq).1));have HG4:=hid hg4;clear hm4 hsrc hg4;simp only[stz]
   have HNX:Hid (xO b (k+1) s=((xO b k s).1++[d],(yJ b (xO b k s).2).2)):=hid (by rw[<-HDD.out];rfl);clear hcall hidl;go_wp2
   go_roundw
   case rel=>exact⟨k+1,by omega,by go_num,by rw[HNX.out];exact HR4.out,by rw[HNX.out];exact HG4.out⟩
   case measure=>simp[intOf];omega
  ·have hz:¬(k:Int)<(n:Int):=by omega
   obtain rfl:k=n:=by omega
   clear hrd hg;go_wp2;go_ret;exact⟨HRD.out,_,rfl,HG.out⟩
theorem built_fault1(x:Int):prog.built 255 [(0,.int .i64 x)]=some #[.int .i64 x,.int .i64 0]:=by
 have z:(prog.info? 255).bind (·.zero)=some (.agg #[.int .i64 0,.int .i64 0]):=by kernel_rfl
 have p:xV prog 255=some [(0,1),(1,1)]:=by kernel_rfl
 rw[zP z p,zC (off:=0) (size:=1) rfl (by rfl) (by simp),xY]
 rfl
theorem exec_bindFunc{P:Program}{w:World}{o:Oper}{a:Act}(f:FuncId)(xs:List Operand)(ho:o.op=.makeFunc (.func f) xs.toArray #[])(vals:List Value)(hx:xs.map a.eval=vals):(execOp a.eval o).run P w=.ok (.value (.func (.func f) vals.toArray #[])) w:=by
 subst hx;unfold execOp
 simp[ho,Instr.makeFunc]
theorem cell1{w:World}{b:Nat}{v u:Value}{T:TypeId}{fz:Nat×Nat}(h:w.heap[b]?=some (.cells #[v,u] T fz)):w.cell? ⟨b,1,none⟩=some u:=by simp[World.cell?,h]
def FailedR(w:World)(b:List UInt8)(a:Nat)(e:Int):Ending->World->Prop:=fun x w'=>Mod NoB w w'/\∃(er at_:Int)(is:Bool),x=.returned (.tuple #[.agg #[.int .i64 er,.int .i64 at_],.bool is])/\(er=0↔e=0/\a=b.length)/\(er=0->at_=0)/\(is=true->er≠0)
end
def qX(k:Nat)(t:List UInt8)(d:DescL)(lv sv:Value):Array Value:=(.int .i64 k::.string ⟨t.toArray⟩::((qZ d).toList++[lv,sv])).toArray
section
variable{k k':Nat}{t t':List UInt8}{d d':DescL}{lv sv v:Value}
theorem descL_len(h:d.id.length=32):(qZ d).toList.length=35:=by rw[Array.length_toList];exact zZ h
theorem zH(h:d.id.length=32):(qX k t d lv sv).size=39:=by
 have:=descL_len h
 simp[qX,this]
theorem jA(h1:lv.oneCell'=true)(h2:sv.oneCell'=true):∀c∈qX k t d lv sv,c.oneCell'=true:=by
 intro c hc;simp only[qX,List.mem_toArray,List.mem_cons,List.mem_append,List.not_mem_nil,or_false]at hc
 rcases hc with rfl|rfl|hc|rfl|rfl
 ·rfl
 ·rfl
 ·exact descRow_one _ _ _ _ c (by simpa[qZ]using hc)
 ·exact h1
 ·exact h2
theorem manRow_put0:(qX k t d lv sv).setIfInBounds 0 (.int .i64 k')=qX k' t d lv sv:=by
 apply Array.toList_inj.1
 simp[qX]
theorem manRow_put1:(qX k t d lv sv).setIfInBounds 1 (.string ⟨t'.toArray⟩)=qX k t' d lv sv:=by
 apply Array.toList_inj.1
 simp[qX]
theorem manRow_putD(h:d.id.length=32)(h':d'.id.length=32):qY (qX k t d lv sv) 2 (qZ d')=qX k t d' lv sv:=by
 have h1:=descL_len h;have h2:=zZ (m:=d'.media) (n:=d'.size) (p:=d'.plat) h';replace h2:(qZ d').size=35:=h2
 apply Array.toList_inj.1
 simp only[qY,qX,h2];rw[List.drop_succ_cons,List.drop_succ_cons,List.drop_append_of_le_length (by omega),List.drop_of_length_le (by omega)]
 rfl
theorem manRow_put37(h:d.id.length=32):(qX k t d lv sv).setIfInBounds 37 v=qX k t d v sv:=by
 have h1:=descL_len h
 apply Array.toList_inj.1
 simp only[qX,Array.toList_setIfInBounds,List.set_cons_succ];rw[List.set_append_right _ _ (by omega),h1]
 rfl
theorem manRow_put38(h:d.id.length=32):(qX k t d lv sv).setIfInBounds 38 v=qX k t d lv v:=by
 have h1:=descL_len h
 apply Array.toList_inj.1
 simp only[qX,Array.toList_setIfInBounds,List.set_cons_succ];rw[List.set_append_right _ _ (by omega),h1]
 rfl
end
theorem manZ_i:(prog.info? 163).bind (·.zero)=some (.agg (qX 0 [] descZ (.slice none 0 0) (.slice none 0 0))):=by kernel_rfl
theorem xE{P:Program}{fn:Func}{p u:Tmp}{ty tz:TypeId}(h:fn.results=#[.cell p ty,.cell u tz])(tmps:Array Value)(w:World)(g g':Nat)(t t':TypeId)(cs cs':Array Value)(fr fr':Nat×Nat)(d d':TypeDesc)
 (hp:tmps.getD p undef=.pointer (some ⟨g,0,none⟩))(hg:w.heap[g]?=some (.cells cs t fr))(hq:tmps.getD u undef=.pointer (some ⟨g',0,none⟩))(hg':w.heap[g']?=some (.cells cs' t' fr'))
 (hu:P.underlying ty=some d)(hd:(match d with| .struct _| .array _ _=>true|_=>false)=true)(hi:(P.info? ty).map (·.size)=some cs.size)
 (hu':P.underlying tz=some d')(hd':(match d' with| .struct _| .array _ _=>true|_=>false)=true)(hi':(P.info? tz).map (·.size)=some cs'.size):
 (results fn tmps).run P w=.ok (.tuple #[.agg cs,.agg cs']) w:=by
 have hp':tmps[p]?.getD undef=.pointer (some ⟨g,0,none⟩):=by simpa using hp
 have hq':tmps[u]?.getD undef=.pointer (some ⟨g',0,none⟩):=by simpa using hq
 simp[results,h,hp',hq',asAddr,run_loadVar_row w g t ty cs fr d hg hu hd hi,run_loadVar_row w g' t' tz cs' fr' d' hg' hu' hd' hi']
def ManC(base:Nat)(w:World)(cs:Array Value)(m:ManL):Prop:=m.config.id.length=32/\∃lv sv,cs=qX m.kind m.title m.config lv sv/\GatD base w lv m.layers/\GatD base w sv m.subs
theorem ManC.keep0{base:Nat}{w w':World}{cs:Array Value}{m:ManL}(h:ManC base w cs m)(hm:Mod NoB w w'):ManC base w' cs m:=by
 obtain⟨h0,lv,sv,h1,h2,h3⟩:=h;exact⟨h0,lv,sv,h1,h2.keep0 hm,h3.keep0 hm⟩
theorem ManC.size{base:Nat}{w:World}{cs:Array Value}{m:ManL}(h:ManC base w cs m):cs.size=39:=by
 obtain⟨h0,lv,sv,rfl,-,-⟩:=h;exact zH h0
theorem ManC.one{base:Nat}{w:World}{cs:Array Value}{m:ManL}(h:ManC base w cs m):∀c∈cs,c.oneCell'=true:=by
 obtain⟨h0,lv,sv,rfl,h1,h2⟩:=h;exact jA (xW h1) (xW h2)
section
variable{w:World}{rb wb:Nat}{bv:Value}{b:List UInt8}{a:Nat}{e p:Int}
def ManR(w:World)(rb wb:Nat)(bv:Value)(b:List UInt8)(r:ManL×RS×Bool):Ending->World->Prop:=fun x w'=>RdS w w' rb wb bv b r.2.1/\∃(cs:Array Value)(er at_:Int),x=.returned (.tuple #[.agg cs,.agg #[.int .i64 er,.int .i64 at_]])/\(er=0↔r.2.2=true)/\(er=0->at_=0)/\ManC w.heap.size w' cs r.1
theorem mManifest_any(h:RdI w rb wb bv b 0 0 p):Calls prog 212 #[.agg #[.pointer (some ⟨rb,0,none⟩),.int .i64 b.length]] w (ManR w rb wb bv b (manR b)):=by
 have hall:=h.all;have hrl:=h.lts;have hbl:=h.len;have hst:=h.stay;rw[stOf_zero]at hst;have HST:=hid hst
 have HN:=hid (show ∀(w':World)(s':RS),RdS w w' rb wb bv b s'->Calls prog 240 #[.pointer (some ⟨rb,0,none⟩)] w' (NumR w' rb wb bv b (rNumL b s').1 (rNumL b s').2)from fun w' s' hw'=>by
  obtain⟨⟨a',e',p',h',hs⟩,-⟩:=hw';have:=rNum_any h'
  rwa[hs]at this)
 have HT:=hid (show ∀(w':World)(s':RS),RdS w w' rb wb bv b s'->Calls prog 241 #[.pointer (some ⟨rb,0,none⟩),.int .i64 (4096:Nat)] w' (TextR w' rb wb bv b (rBytesL b 4096 s').1 (rBytesL b 4096 s').2)from fun w' s' hw'=>by
  obtain⟨⟨a',e',p',h',hs⟩,-⟩:=hw';have:=rText_any h' 4096 (Nat.le_refl _)
  rwa[hs]at this)
 have HD:=hid (show ∀(w':World)(s':RS),RdS w w' rb wb bv b s'->Calls prog 242 #[.agg #[.pointer (some ⟨rb,0,none⟩),.int .i64 b.length]] w' (DescR w' rb wb bv b (yJ b s').1 (yJ b s').2)from fun w' s' hw'=>by
  obtain⟨⟨a',e',p',h',hs⟩,-⟩:=hw';have:=mDesc_any h' b.length
  rwa[hs]at this)
 have HM:=hid (show ∀(w':World)(s':RS)(n:Nat),n<=4096->RdS w w' rb wb bv b s'->Calls prog 244 #[.int .i64 n,.func (.func 242) #[.agg #[.pointer (some ⟨rb,0,none⟩),.int .i64 b.length]] #[]] w' (ManyR w' rb wb bv b (xO b n s').1 (xO b n s').2)from fun w' s' n hn hw'=>by
  obtain⟨⟨a',e',p',h',hs⟩,-⟩:=hw';have:=mMany_any h' b.length n hn
  rwa[hs]at this)
 have HL:=hid (show ∀(w':World)(s':RS),RdS w w' rb wb bv b s'->∃r:Int,0<=r/\r<=4096/\Calls prog 243 #[.pointer (some ⟨rb,0,none⟩)] w' (RetM (.int .i64 r) w')from fun w' s' hw'=>by
  obtain⟨⟨a',e',p',h',hs⟩,-⟩:=hw'
  refine⟨_,?_,?_,rRest_any h'⟩<;>have:=h'.al<;>have:=h'.len<;>split<;>omega)
 obtain⟨f,hf⟩:∃f,rNumL b (some 0)=f:=⟨_,rfl⟩;obtain⟨k,hk⟩:∃k,rNumL b f.2=k:=⟨_,rfl⟩;obtain⟨t,ht⟩:∃t,rBytesL b 4096 k.2=t:=⟨_,rfl⟩
 have HMR:Hid (manR b=if f.1≠77 then(manZ,f.2,false)else if k.1≠3/\k.1≠4 then({ manZ with kind:=k.1 },k.2,false)
  else if(if k.1=3 then 16 else 8)<(rNumL b (if k.1=3 then yJ b t.2 else(descZ,t.2)).2).1 then(⟨k.1,t.1,(if k.1=3 then yJ b t.2 else(descZ,t.2)).1,[],[]⟩,(rNumL b (if k.1=3 then yJ b t.2 else(descZ,t.2)).2).2,false)
  else(⟨k.1,t.1,(if k.1=3 then yJ b t.2 else(descZ,t.2)).1,if k.1=3 then(xO b (rNumL b (if k.1=3 then yJ b t.2 else(descZ,t.2)).2).1 (rNumL b (if k.1=3 then yJ b t.2 else(descZ,t.2)).2).2).1 else [],if k.1=3 then []else(xO b (rNumL b (if k.1=3 then yJ b t.2 else(descZ,t.2)).2).1 (rNumL b (if k.1=3 then yJ b t.2 else(descZ,t.2)).2).2).1⟩,(xO b (rNumL b (if k.1=3 then yJ b t.2 else(descZ,t.2)).2).1 (rNumL b (if k.1=3 then yJ b t.2 else(descZ,t.2)).2).2).2,true)):=hid (by
  unfold manR
  simp only[hf,hk,ht])
 have hn1:=HN.out w _ hst;rw[hf]at hn1
 have HK2:Hid (∀w',RdS w w' rb wb bv b f.2->Calls prog 240 #[.pointer (some ⟨rb,0,none⟩)] w' (NumR w' rb wb bv b k.1 k.2)):=hid (fun w' hw'=>by
  have:=HN.out w' _ hw'
  rwa[hk]at this)
 have HT2:Hid (∀w',RdS w w' rb wb bv b k.2->Calls prog 241 #[.pointer (some ⟨rb,0,none⟩),.int .i64 (4096:Nat)] w' (TextR w' rb wb bv b t.1 t.2)):=hid (fun w' hw'=>by
  have:=HT.out w' _ hw'
  rwa[ht]at this)
 have HN1:Hid (∀w',RdS w w' rb wb bv b (some 0)->Calls prog 240 #[.pointer (some ⟨rb,0,none⟩)] w' (NumR w' rb wb bv b f.1 f.2)):=hid (fun w' hw'=>by
  have:=HN.out w' _ hw'
  rwa[hf]at this)
 have hfb:=(rNumL_ok (b:=b) (s:=some 0)).2.1;have hkb:=(rNumL_ok (b:=b) (s:=f.2)).2.1;rw[hf]at hfb;rw[hk]at hkb;obtain⟨f,s1⟩:=f;obtain⟨k,s2⟩:=k
 obtain⟨t,s3⟩:=t
 dsimp only at HMR HK2 HT2 HN1 hfb hkb
 clear h hst hf hk ht hn1 HT;have hzi:=xP;go_enter func212,ntmps212;go_upto_region 0 with(fail);refine wpR [1,1,1] ?_;simp only[stz]
 refine wpD (zL 307 _ _ (by rfl) (by rfl) (fun wx hBx hmx hsx=>?_))
 replace hBx:wx.heap[w.heap.size]?=some (.cells #[.pointer (some ⟨rb,0,none⟩),.int .i64 b.length] 307 (0,0)):=hBx;try simp only[nmz]
 refine wpD (qN 163 _ (by rfl) manZ_i (fun wy hBy hmy hsy=>?_))
 replace hBy:wy.heap[wx.heap.size]?=some (.cells (qX 0 [] descZ (.slice none 0 0) (.slice none 0 0)) 163 (0,0)):=hBy;try simp only[nmz]
 refine wpD (qN 255 _ (by rfl) fltZ (fun wz hBz hmz hsz=>?_));replace hBz:wz.heap[wy.heap.size]?=some (.cells #[.int .i64 0,.int .i64 0] 255 (0,0)):=hBz
 simp only[stz];have HA:=hid ((hmy.trans0 hmz).obj id hBx);have hB:=hmz.obj id hBy;have hC:=hBz;have hb12:w.heap.size<wx.heap.size:=hsx
 have hb23:wx.heap.size<wy.heap.size:=hsy;have HR:Hid (RdS w wz rb wb bv b (some 0)):=hid (HST.out.keepS hall ((hmx.trans0 hmy).trans0 hmz) (fun _ h=>h.elim))
 clear hmx hmy hmz hBx hBy hBz hsx hsy hsz HST;generalize hb1:w.heap.size=b1 at*;generalize hb2:wx.heap.size=b2 at*;generalize hb3:wy.heap.size=b3 at*
 replace hall:∀k,k=rb\/k=wb\/bv.ownBlock=some k->k<w.heap.size:=by rw[hb1];exact hall
 go_upto_region 1 with(fail);refine wpR [3,1,1,3] ?_;simp only[stz];refine wpXd (v:=(.pointer (some ⟨rb,0,none⟩))) 304 b1 0 (cell0 HA.out) underlying304 trivial ?_
 try simp only[nmz]
 refine wpD (wpC func240 (HN1.out _ HR.out) ?_);rintro e w1 ⟨rfl,hr⟩;replace HA:=hid (RdS.obj hr ⟨by omega,by omega⟩ HA.out);replace hB:=RdS.obj hr ⟨by omega,by omega⟩ hB
 replace hC:=RdS.obj hr ⟨by omega,by omega⟩ hC;replace HR:=hid (HR.out.trans hr);clear hr;refine⟨_,rfl,?_⟩;simp only[stz]
 by_cases h77:f=77
 rotate_left
 · -- it begins with another number
   have hz:¬(f:Int)=77:=by omega
   have hr0:=HMR.out;rw[if_pos h77]at hr0;have HE:=hid hr0;clear hr0
   have hsz:(qX 0 [] descZ (.slice none 0 0) (.slice none 0 0)).size=39:=zH (by first|exact xP|assumption)
   have hone:∀c∈qX 0 [] descZ (.slice none 0 0) (.slice none 0 0),c.oneCell'=true:=jA rfl rfl;go_upto_region 3 with(fail);refine wpR [1,0,1,1] ?_
   simp only[stz];refine wpXA 163 b2 0 (qX 0 [] descZ (.slice none 0 0) (.slice none 0 0)) (CellsAt.whole hB) underlying163 39 hsz trivial ?_;try simp only[nmz]
   refine qG rfl (fun w' hS=>qO 255 [(0,_)] [(0,.int .i64 20)] _ (by rfl) (by rfl) (built_fault1 20)) ?_;simp only[nmz]
   refine wpD (qF 163 _ _ b2 0 (qX 0 [] descZ (.slice none 0 0) (.slice none 0 0)) (by rfl) (by rfl) (by rfl) hone 39 (by kernel_rfl) hsz _ _ hB (by omega) (fun wf hBf hmf=>?_))
   rw[qD (by rfl)]at hBf;have hCf:=hmf.objB (by omega) hC;have HRf:=hid (HR.out.keepN hall (Nat.le_refl _) hmf (by omega));clear hmf hB hC;try simp only[nmz]
   refine wpD (qF 255 _ _ b3 0 #[.int .i64 20,.int .i64 0] (by rfl) (by rfl) (by rfl) (by simp[Value.oneCell']) 2 (by kernel_rfl) rfl _ _ hCf (by simp) (fun wg hCg hmg=>?_))
   rw[qD (by rfl)]at hCg;have hBg:=hmg.objB (by omega) hBf;have HRg:=hid (HRf.out.keepN hall (Nat.le_refl _) hmg (by omega));clear hmg hBf hCf;simp only[stz]
   have hsz2:(prog.info? 163).map (·.size)=some (qX 0 [] descZ (.slice none 0 0) (.slice none 0 0)).size:=by rw[hsz];kernel_rfl
   clear HR HA;go_wp2
   refine bodyPost_ret (xE (P:=prog) (ty:=163) (tz:=255) rfl _ _ b2 b3 _ _ _ _ _ _ _ _ (by rfl) hBg (by rfl) hCg underlying163 rfl hsz2 underlying255 rfl (by kernel_rfl)) rfl ?_
   rw[HE.out];exact⟨HRg.out,_,20,0,rfl,by simp,by simp,xP,_,_,rfl,Gat.nil _ _ _ _ _,Gat.nil _ _ _ _ _⟩
 ·subst h77
  have hr0:=HMR.out;rw[if_neg (by simp)]at hr0;replace HMR:=hid hr0;clear hr0;go_upto_region 4 with(fail)
  have hsz0:(qX 0 [] descZ (.slice none 0 0) (.slice none 0 0)).size=39:=zH hzi;refine wpR [3,1,1,3,1] ?_;simp only[stz]
  refine wpXd (v:=(.pointer (some ⟨rb,0,none⟩))) 304 b1 0 (cell0 HA.out) underlying304 trivial ?_;try simp only[nmz]
  refine wpD (wpC func240 (HK2.out _ HR.out) ?_);rintro e w2 ⟨rfl,hr⟩;replace HA:=hid (RdS.obj hr ⟨by omega,by omega⟩ HA.out);replace hB:=RdS.obj hr ⟨by omega,by omega⟩ hB
  replace hC:=RdS.obj hr ⟨by omega,by omega⟩ hC;replace HR:=hid (HR.out.trans hr);clear hr;refine⟨_,rfl,?_⟩;simp only[stz]
  refine wpD (qR 3 _ _ b2 0 (.int .i64 k) (by rfl) (by rfl) (by rfl) rfl (by kernel_rfl) _ _ hB (by omega) (fun w3 hB3 hm3=>?_));rw[manRow_put0]at hB3;replace hB:=hB3
  replace HA:=hid (hm3.objB (by omega) HA.out);replace hC:=hm3.objB (by omega) hC;replace HR:=hid (HR.out.keepN hall (Nat.le_refl _) hm3 (by omega));clear hm3 hB3
  simp only[stz];clear hsz0;have hck:w3.cell? ⟨b2,0,none⟩=some (.int .i64 k):=by rw[cell_of_row _ _ _ _ _ _ hB];rfl
  by_cases hbad:k≠3/\k≠4
  ·have hz3:¬(k:Int)=3:=by omega
   have hz4:¬(k:Int)=4:=by omega
   go_upto_region 5 with(fail);refine wpR [3,1,3,3,3,1,3,3] ?_;simp only[stz];refine wpXd (v:=(.int .i64 k)) 3 b2 0 hck underlying3 trivial ?_;try simp only[nmz]
   refine qK _ _ _ _ _ _ _ _ rfl rfl rfl rfl rfl true (decide_eq_true (by omega)) ?_;simp only[stz];refine wpXd (v:=(.int .i64 k)) 3 b2 0 hck underlying3 trivial ?_
   try simp only[nmz]
   refine qK _ _ _ _ _ _ _ _ rfl rfl rfl rfl rfl true (decide_eq_true (by omega)) ?_;simp only[stz];have hr0:=HMR.out;rw[if_pos hbad]at hr0;have HE:=hid hr0;clear hr0
   have hsz:(qX k [] descZ (.slice none 0 0) (.slice none 0 0)).size=39:=zH (by first|exact xP|assumption)
   have hone:∀c∈qX k [] descZ (.slice none 0 0) (.slice none 0 0),c.oneCell'=true:=jA rfl rfl;go_upto_region 6 with(fail);refine wpR [1,0,1,1] ?_
   simp only[stz];refine wpXA 163 b2 0 (qX k [] descZ (.slice none 0 0) (.slice none 0 0)) (CellsAt.whole hB) underlying163 39 hsz trivial ?_;try simp only[nmz]
   refine qG rfl (fun w' hS=>qO 255 [(0,_)] [(0,.int .i64 20)] _ (by rfl) (by rfl) (built_fault1 20)) ?_;simp only[nmz]
   refine wpD (qF 163 _ _ b2 0 (qX k [] descZ (.slice none 0 0) (.slice none 0 0)) (by rfl) (by rfl) (by rfl) hone 39 (by kernel_rfl) hsz _ _ hB (by omega) (fun wf hBf hmf=>?_))
   rw[qD (by rfl)]at hBf;have hCf:=hmf.objB (by omega) hC;have HRf:=hid (HR.out.keepN hall (Nat.le_refl _) hmf (by omega));clear hmf hB hC;try simp only[nmz]
   refine wpD (qF 255 _ _ b3 0 #[.int .i64 20,.int .i64 0] (by rfl) (by rfl) (by rfl) (by simp[Value.oneCell']) 2 (by kernel_rfl) rfl _ _ hCf (by simp) (fun wg hCg hmg=>?_))
   rw[qD (by rfl)]at hCg;have hBg:=hmg.objB (by omega) hBf;have HRg:=hid (HRf.out.keepN hall (Nat.le_refl _) hmg (by omega));clear hmg hBf hCf;simp only[stz]
   have hsz2:(prog.info? 163).map (·.size)=some (qX k [] descZ (.slice none 0 0) (.slice none 0 0)).size:=by rw[hsz];kernel_rfl
   clear HR HA;go_wp2
   refine bodyPost_ret (xE (P:=prog) (ty:=163) (tz:=255) rfl _ _ b2 b3 _ _ _ _ _ _ _ _ (by rfl) hBg (by rfl) hCg underlying163 rfl hsz2 underlying255 rfl (by kernel_rfl)) rfl ?_
   rw[HE.out];exact⟨HRg.out,_,20,0,rfl,by simp,by simp,xP,_,_,rfl,Gat.nil _ _ _ _ _,Gat.nil _ _ _ _ _⟩
  ·rcases(by omega:k=3\/k=4)with rfl|rfl
   ·skip
    go_upto_region 5 with(fail);refine wpR [3,1,3,3,3,0,3,3] ?_;simp only[stz];refine wpXd (v:=(.int .i64 3)) 3 b2 0 hck underlying3 trivial ?_;try simp only[nmz]
    refine qK _ _ _ _ _ _ _ _ rfl rfl rfl rfl rfl false (by decide) ?_;simp only[stz]
    have hsz0:(qX 3 [] descZ (.slice none 0 0) (.slice none 0 0)).size=39:=zH hzi;go_upto_region 7 with(fail);refine wpR [3,1,1,3,1] ?_;simp only[stz]
    refine wpXd (v:=(.pointer (some ⟨rb,0,none⟩))) 304 b1 0 (cell0 HA.out) underlying304 trivial ?_;try simp only[nmz]
    refine wpD (wpC func241 (HT2.out _ HR.out) ?_);rintro e w4 ⟨hr,rfl⟩;replace HA:=hid (RdS.obj hr ⟨by omega,by omega⟩ HA.out)
    replace hB:=RdS.obj hr ⟨by omega,by omega⟩ hB;replace hC:=RdS.obj hr ⟨by omega,by omega⟩ hC;replace HR:=hid (HR.out.trans hr);clear hr;refine⟨_,rfl,?_⟩
    simp only[stz];refine wpD (qR 9 _ _ b2 1 (.string ⟨t.toArray⟩) (by rfl) (by rfl) (by rfl) rfl (by kernel_rfl) _ _ hB (by omega) (fun w5 hB5 hm5=>?_))
    rw[manRow_put1]at hB5;replace hB:=hB5;replace HA:=hid (hm5.objB (by omega) HA.out);replace hC:=hm5.objB (by omega) hC
    replace HR:=hid (HR.out.keepN hall (Nat.le_refl _) hm5 (by omega));clear hm5 hB5;simp only[stz];clear hsz0 hck
    have hsz0:(qX 3 t descZ (.slice none 0 0) (.slice none 0 0)).size=39:=zH hzi
    have hck:w5.cell? ⟨b2,0,none⟩=some (.int .i64 3):=by rw[cell_of_row _ _ _ _ _ _ hB];rfl
    obtain⟨⟨d,s4⟩,hd⟩:∃d,yJ b s3=d:=⟨_,rfl⟩;have hdl:=(rDescL_ok (b:=b) (s:=s3)).2.1;have hdc:=HD.out _ _ HR.out;rw[hd]at hdl hdc
    dsimp only at hdl hdc
    have hdz:=zZ (m:=d.media) (n:=d.size) (p:=d.plat) hdl;replace hdz:(qZ d).size=35:=hdz
    have hdo:∀c∈qZ d,c.oneCell'=true:=descRow_one _ _ _ _;have hr0:=HMR.out;rw[if_neg (by omega)]at hr0;simp only[if_true,hd]at hr0;replace HMR:=hid hr0
    clear hr0 hd;go_upto_region 9 with(fail);refine wpR [3,1,3] ?_;simp only[stz];refine wpXd (v:=(.int .i64 3)) 3 b2 0 hck underlying3 trivial ?_;try simp only[nmz]
    refine qC (v:=?_) rfl (fun w'=>?_) ?_;rotate_left;·(go_simp;try with_reducible rfl)
    simp only[stz];clear hck;go_upto_region 10 with(fail);refine wpR [1,1,3,1] ?_;simp only[stz]
    refine wpXA 307 b1 0 #[.pointer (some ⟨rb,0,none⟩),.int .i64 b.length] (CellsAt.whole HA.out) underlying307 2 rfl trivial ?_;try simp only[nmz]
    refine wpD (wpC func242 (hdc) ?_);rintro e w6 ⟨hr,rfl⟩;replace HA:=hid (RdS.obj hr ⟨by omega,by omega⟩ HA.out);replace hB:=RdS.obj hr ⟨by omega,by omega⟩ hB
    replace hC:=RdS.obj hr ⟨by omega,by omega⟩ hC;replace HR:=hid (HR.out.trans hr);clear hr;refine⟨_,rfl,?_⟩;simp only[stz]
    refine wpD (qF 46 _ _ b2 2 (qZ d) (by rfl) (by rfl) (by rfl) hdo 35 (by kernel_rfl) hdz _ _ hB (by omega) (fun w7 hB7 hm7=>?_))
    rw[manRow_putD hzi hdl]at hB7;replace hB:=hB7;replace HA:=hid (hm7.objB (by omega) HA.out);replace hC:=hm7.objB (by omega) hC
    replace HR:=hid (HR.out.keepN hall (Nat.le_refl _) hm7 (by omega));clear hm7 hB7;simp only[stz];clear hsz0
    have hszr:(qX 3 t d (.slice none 0 0) (.slice none 0 0)).size=39:=zH hdl
    obtain⟨r,hr1,hr2,hrc⟩:=HL.out _ _ (RdS.keepS HR.out hall (S:=NoB) (w2:=w7.drew) ((Mod.refl _ _).drew) (fun _ h=>h.elim))
    obtain⟨⟨n,s5⟩,hn⟩:∃n,rNumL b s4=n:=⟨_,rfl⟩
    have HNC:Hid (∀w',RdS w w' rb wb bv b s4->Calls prog 240 #[.pointer (some ⟨rb,0,none⟩)] w' (NumR w' rb wb bv b n s5)):=hid (fun w' hw'=>by
     have:=HN.out w' _ hw'
     rwa[hn]at this)
    have hnb:=(rNumL_ok (b:=b) (s:=s4)).2.1;rw[hn]at hnb
    dsimp only at hnb
    have hr0:=HMR.out;simp only[hn]at hr0;replace HMR:=hid hr0;clear hr0 hn;go_upto_region 12 with(fail);have hS:Mod NoB w7 w7.drew:=(Mod.refl _ _).drew
    refine wpRZ [3,0,3,0,1,3,3] [] (fun w'=>Mod NoB w7 w') hS ?_;simp only[stz]
    refine wpLd (v:=(.int .i64 b.length)) 3 b1 1 (fun w' hS=>hS.cell id (cell1 HA.out)) underlying3 ?_;simp only[stz]
    refine wpLd 304 b1 0 (fun w' hS=>hS.cell id (cell0 HA.out)) underlying304 ?_;simp only[nmz];refine qL rfl (fun K hK=>?_);refine wpC func243 (hrc) ?_
    rintro e w8 ⟨rfl,hm8⟩;have hS8:=hS.trans0 hm8;refine⟨_,rfl,hK _ _ hS8 ?_⟩;clear hK K;try simp only[nmz]
    refine yK _ _ _ _ ((b.length:Nat):Int) r rfl rfl rfl rfl (by omega) (by omega) ?_;simp only[stz];replace HA:=hid (hS8.obj id HA.out);replace hB:=hS8.obj id hB
    replace hC:=hS8.obj id hC;replace HR:=hid (HR.out.keepS hall hS8 (fun _ h=>h.elim));clear hS hS8 hm8 hrc;go_upto_region 13 with(fail);refine wpR [3,1,1,3] ?_
    simp only[stz];refine wpXd (v:=(.pointer (some ⟨rb,0,none⟩))) 304 b1 0 (cell0 HA.out) underlying304 trivial ?_;try simp only[nmz]
    refine wpD (wpC func240 (HNC.out _ HR.out) ?_);rintro e w9 ⟨rfl,hr⟩;replace HA:=hid (RdS.obj hr ⟨by omega,by omega⟩ HA.out)
    replace hB:=RdS.obj hr ⟨by omega,by omega⟩ hB;replace hC:=RdS.obj hr ⟨by omega,by omega⟩ hC;replace HR:=hid (HR.out.trans hr);clear hr;refine⟨_,rfl,?_⟩
    simp only[stz]
    by_cases hmost:16<n
    ·have hmz:(n:Int)>16:=by omega
     have hr0:=HMR.out;rw[if_pos hmost]at hr0;have HE:=hid hr0;clear hr0
     have hsz:(qX 3 t d (.slice none 0 0) (.slice none 0 0)).size=39:=zH (by first|exact xP|assumption)
     have hone:∀c∈qX 3 t d (.slice none 0 0) (.slice none 0 0),c.oneCell'=true:=jA rfl rfl;go_upto_region 15 with(fail);refine wpR [1,3,0,1,1] ?_
     simp only[stz];refine wpXA 163 b2 0 (qX 3 t d (.slice none 0 0) (.slice none 0 0)) (CellsAt.whole hB) underlying163 39 hsz trivial ?_;simp only[stz]
     refine qG rfl (fun w' hS=>qO 255 [(0,_),(1,_)] [(0,.int .i64 4),(1,.int .i64 (b.length-r))] _ (by rfl) (by rfl) (built_fault 4 (b.length-r))) ?_
     simp only[nmz]
     refine wpD (qF 163 _ _ b2 0 (qX 3 t d (.slice none 0 0) (.slice none 0 0)) (by rfl) (by rfl) (by rfl) hone 39 (by kernel_rfl) hsz _ _ hB (by omega) (fun wf hBf hmf=>?_))
     rw[qD (by rfl)]at hBf;have hCf:=hmf.objB (by omega) hC;have HRf:=hid (HR.out.keepN hall (Nat.le_refl _) hmf (by omega));clear hmf hB hC;try simp only[nmz]
     refine wpD (qF 255 _ _ b3 0 #[.int .i64 4,.int .i64 (b.length-r)] (by rfl) (by rfl) (by rfl) (by simp[Value.oneCell']) 2 (by kernel_rfl) rfl _ _ hCf (by simp) (fun wg hCg hmg=>?_))
     rw[qD (by rfl)]at hCg;have hBg:=hmg.objB (by omega) hBf;have HRg:=hid (HRf.out.keepN hall (Nat.le_refl _) hmg (by omega));clear hmg hBf hCf;simp only[stz]
     have hsz2:(prog.info? 163).map (·.size)=some (qX 3 t d (.slice none 0 0) (.slice none 0 0)).size:=by rw[hsz];kernel_rfl
     clear HR HA;go_wp2
     refine bodyPost_ret (xE (P:=prog) (ty:=163) (tz:=255) rfl _ _ b2 b3 _ _ _ _ _ _ _ _ (by rfl) hBg (by rfl) hCg underlying163 rfl hsz2 underlying255 rfl (by kernel_rfl)) rfl ?_
     rw[HE.out];exact⟨HRg.out,_,4,_,rfl,by simp,by simp,hdl,_,_,rfl,Gat.nil _ _ _ _ _,Gat.nil _ _ _ _ _⟩
    ·have hmz:¬(n:Int)>16:=by omega
     have hr0:=HMR.out;rw[if_neg hmost]at hr0;have HE0:=hid hr0;clear hr0 HMR;have hmn:=HM.out _ _ n (by omega) HR.out;have HC9:=hid hC
     obtain⟨l,hl⟩:∃l,xO b n s5=l:=⟨_,rfl⟩;rw[hl]at hmn;have hr0:=HE0.out;rw[hl]at hr0;have HE:=hid hr0;clear hl hr0 HE0;go_upto_region 16 with(fail)
     refine wpR [3,3,1,1,1,3,1] ?_;simp only[stz]
     refine wpXA 307 b1 0 #[.pointer (some ⟨rb,0,none⟩),.int .i64 b.length] (CellsAt.whole HA.out) underlying307 2 rfl trivial ?_;try simp only[nmz]
     refine wpX rfl (exec_bindFunc 242 [.tmp 59] (by rfl) [.agg #[.pointer (some ⟨rb,0,none⟩),.int .i64 b.length]] (by rfl)) trivial ?_;try simp only[nmz]
     refine wpD (wpC func244 (hmn) ?_);rintro e wa ⟨hr,v,rfl,hg⟩;have hws:=HR.out.2.size;replace HA:=hid (RdS.obj hr ⟨by omega,by omega⟩ HA.out)
     replace hB:=RdS.obj hr ⟨by omega,by omega⟩ hB;replace hC:=RdS.obj hr ⟨by omega,by omega⟩ hC
     have hw9s:b3<w9.heap.size:=(Array.getElem?_eq_some_iff.1 (show w9.heap[b3]?=some _ from HC9.out)).1;replace HR:=hid (HR.out.trans hr)
     have hvn:∀q,v.ownBlock=some q->b3<q:=fun q hq=>Nat.lt_of_lt_of_le hw9s (hg.lt hq).1;have hv1:v.oneCell'=true:=xW hg
     have hg0:GatD w.heap.size wa v l.1:=hg.base hws;clear hr hg;refine⟨_,rfl,?_⟩;simp only[stz]
     refine wpD (qR 161 _ _ b2 37 v (by rfl) (by rfl) (by rfl) hv1 (by kernel_rfl) _ _ hB (by omega) (fun wb' hBb hmb=>?_));rw[manRow_put37 hdl]at hBb
     replace hB:=hBb;replace hC:=hmb.objB (by omega) hC;replace HR:=hid (HR.out.keepN hall (Nat.le_refl _) hmb (by omega))
     replace hg0:=hg0.keep hmb (fun q hq e=>by
      have:=hvn q hq;have e':q=b2:=e
      omega)
     clear hmb hBb;simp only[stz];obtain⟨MR,hMR⟩:∃MR,qX 3 t d v (.slice none 0 0)=MR:=⟨_,rfl⟩;have hsz:MR.size=39:=by rw[<-hMR];exact zH hdl
     have hone:∀c∈MR,c.oneCell'=true:=by rw[<-hMR];exact jA hv1 rfl
     have HMM:=hid hMR;rw[hMR]at hB;clear hMR HA;go_upto_region 17 with(fail)
     have hS:Mod (fun q=>q=b2) wb' wb'.drew/\wb'.drew.heap[b2]?=some (.cells MR 163 (0,0)):=⟨(Mod.refl _ _).drew,hB⟩
     refine wpRZ [0,0,1,2] [3] (fun w'=>Mod (fun q=>q=b2) wb' w'/\w'.heap[b2]?=some (.cells MR 163 (0,0))) hS ?_;simp only[stz]
     refine wpLA 163 b2 0 MR (fun w' hS=>CellsAt.whole hS.2) underlying163 39 hsz ?_;simp only[nmz]
     refine wpLA 255 b3 0 #[.int .i64 0,.int .i64 0] (fun w' hS=>CellsAt.whole (hS.1.objB (by omega) hC)) underlying255 2 rfl ?_;simp only[nmz]
     refine qL rfl (fun K hK=>?_);refine qF 163 _ _ b2 0 MR (by rfl) (by rfl) (by rfl) hone 39 (by kernel_rfl) hsz _ _ hS.2 (by omega) (fun wc hBc hmc=>?_)
     rw[qD (by rfl)]at hBc;have hSc:Mod (fun q=>q=b2) wb' wc:=hS.1.trans hmc (fun _ _ h=>h);refine hK _ _ ⟨hSc,hBc⟩ ?_;clear hK K;try simp only[nmz]
     refine zD rfl (fun K hK=>?_)
     refine qF 255 _ _ b3 0 #[.int .i64 0,.int .i64 0] (by rfl) (by rfl) (by rfl) (by simp[Value.oneCell']) 2 (by kernel_rfl) rfl _ _ (hSc.objB (by omega) hC) (by simp) (fun wd hCd hmd=>?_)
     rw[qD (by rfl)]at hCd;have hBd:=hmd.objB (by omega) hBc;refine hK _ _ ?_;clear hK K;simp only[stz]
     have HRd:=hid ((HR.out.keepN hall (Nat.le_refl _) hSc (by omega)).keepN hall (Nat.le_refl _) hmd (by omega))
     have HGd:=hid ((hg0.keep hSc (fun q hq e=>by
      have:=hvn q hq;have e':q=b2:=e
      omega)).keep hmd (fun q hq e=>by
      have:=hvn q hq;have e':q=b3:=e
      omega))
     have hsz2:(prog.info? 163).map (·.size)=some MR.size:=by rw[hsz];kernel_rfl
     clear hS hSc hmc hmd hBc hB hC hg0 HR;go_wp2
     refine bodyPost_ret (xE (P:=prog) (ty:=163) (tz:=255) rfl _ _ b2 b3 _ _ _ _ _ _ _ _ (by rfl) hBd (by rfl) hCd underlying163 rfl hsz2 underlying255 rfl (by kernel_rfl)) rfl ?_
     rw[HE.out];exact⟨HRd.out,_,0,0,rfl,by simp,by simp,hdl,_,_,HMM.out.symm,HGd.out,Gat.nil _ _ _ _ _⟩
   ·skip
    go_upto_region 5 with(fail);refine wpR [3,1,3,3,3,1,3,3] ?_;simp only[stz];refine wpXd (v:=(.int .i64 4)) 3 b2 0 hck underlying3 trivial ?_;try simp only[nmz]
    refine qK _ _ _ _ _ _ _ _ rfl rfl rfl rfl rfl true (by decide) ?_;simp only[stz];refine wpXd (v:=(.int .i64 4)) 3 b2 0 hck underlying3 trivial ?_;try simp only[nmz]
    refine qK _ _ _ _ _ _ _ _ rfl rfl rfl rfl rfl false (by decide) ?_;simp only[stz]
    have hsz0:(qX 4 [] descZ (.slice none 0 0) (.slice none 0 0)).size=39:=zH hzi;go_upto_region 7 with(fail);refine wpR [3,1,1,3,1] ?_;simp only[stz]
    refine wpXd (v:=(.pointer (some ⟨rb,0,none⟩))) 304 b1 0 (cell0 HA.out) underlying304 trivial ?_;try simp only[nmz]
    refine wpD (wpC func241 (HT2.out _ HR.out) ?_);rintro e w4 ⟨hr,rfl⟩;replace HA:=hid (RdS.obj hr ⟨by omega,by omega⟩ HA.out)
    replace hB:=RdS.obj hr ⟨by omega,by omega⟩ hB;replace hC:=RdS.obj hr ⟨by omega,by omega⟩ hC;replace HR:=hid (HR.out.trans hr);clear hr;refine⟨_,rfl,?_⟩
    simp only[stz];refine wpD (qR 9 _ _ b2 1 (.string ⟨t.toArray⟩) (by rfl) (by rfl) (by rfl) rfl (by kernel_rfl) _ _ hB (by omega) (fun w5 hB5 hm5=>?_))
    rw[manRow_put1]at hB5;replace hB:=hB5;replace HA:=hid (hm5.objB (by omega) HA.out);replace hC:=hm5.objB (by omega) hC
    replace HR:=hid (HR.out.keepN hall (Nat.le_refl _) hm5 (by omega));clear hm5 hB5;simp only[stz];clear hsz0 hck
    have hsz0:(qX 4 t descZ (.slice none 0 0) (.slice none 0 0)).size=39:=zH hzi
    have hck:w5.cell? ⟨b2,0,none⟩=some (.int .i64 4):=by rw[cell_of_row _ _ _ _ _ _ hB];rfl
    have hr0:=HMR.out;rw[if_neg (by omega)]at hr0;simp only[show ¬((4:Nat)=3) by omega,if_false]at hr0;replace HMR:=hid hr0;clear hr0;have hdl:=hzi
    go_upto_region 9 with(fail);refine wpR [3,1,3] ?_;simp only[stz];refine wpXd (v:=(.int .i64 4)) 3 b2 0 hck underlying3 trivial ?_;try simp only[nmz]
    refine qC (v:=?_) rfl (fun w'=>?_) ?_;rotate_left;·(go_simp;try with_reducible rfl)
    simp only[stz];clear hck hsz0;have hszr:(qX 4 t descZ (.slice none 0 0) (.slice none 0 0)).size=39:=zH hdl
    obtain⟨r,hr1,hr2,hrc⟩:=HL.out _ _ (RdS.keepS HR.out hall (S:=NoB) (w2:=w5.drew) ((Mod.refl _ _).drew) (fun _ h=>h.elim))
    obtain⟨⟨n,s5⟩,hn⟩:∃n,rNumL b s3=n:=⟨_,rfl⟩
    have HNC:Hid (∀w',RdS w w' rb wb bv b s3->Calls prog 240 #[.pointer (some ⟨rb,0,none⟩)] w' (NumR w' rb wb bv b n s5)):=hid (fun w' hw'=>by
     have:=HN.out w' _ hw'
     rwa[hn]at this)
    have hnb:=(rNumL_ok (b:=b) (s:=s3)).2.1;rw[hn]at hnb
    dsimp only at hnb
    have hr0:=HMR.out;simp only[hn]at hr0;replace HMR:=hid hr0;clear hr0 hn;go_upto_region 12 with(fail);have hS:Mod NoB w5 w5.drew:=(Mod.refl _ _).drew
    refine wpRZ [3,0,3,0,1,3,3] [] (fun w'=>Mod NoB w5 w') hS ?_;simp only[stz]
    refine wpLd (v:=(.int .i64 b.length)) 3 b1 1 (fun w' hS=>hS.cell id (cell1 HA.out)) underlying3 ?_;simp only[stz]
    refine wpLd 304 b1 0 (fun w' hS=>hS.cell id (cell0 HA.out)) underlying304 ?_;simp only[nmz];refine qL rfl (fun K hK=>?_);refine wpC func243 (hrc) ?_
    rintro e w8 ⟨rfl,hm8⟩;have hS8:=hS.trans0 hm8;refine⟨_,rfl,hK _ _ hS8 ?_⟩;clear hK K;try simp only[nmz]
    refine yK _ _ _ _ ((b.length:Nat):Int) r rfl rfl rfl rfl (by omega) (by omega) ?_;simp only[stz];replace HA:=hid (hS8.obj id HA.out);replace hB:=hS8.obj id hB
    replace hC:=hS8.obj id hC;replace HR:=hid (HR.out.keepS hall hS8 (fun _ h=>h.elim));clear hS hS8 hm8 hrc;go_upto_region 13 with(fail);refine wpR [3,1,1,3] ?_
    simp only[stz];refine wpXd (v:=(.pointer (some ⟨rb,0,none⟩))) 304 b1 0 (cell0 HA.out) underlying304 trivial ?_;try simp only[nmz]
    refine wpD (wpC func240 (HNC.out _ HR.out) ?_);rintro e w9 ⟨rfl,hr⟩;replace HA:=hid (RdS.obj hr ⟨by omega,by omega⟩ HA.out)
    replace hB:=RdS.obj hr ⟨by omega,by omega⟩ hB;replace hC:=RdS.obj hr ⟨by omega,by omega⟩ hC;replace HR:=hid (HR.out.trans hr);clear hr;refine⟨_,rfl,?_⟩
    simp only[stz]
    by_cases hmost:8<n
    ·have hmz:(n:Int)>8:=by omega
     have hr0:=HMR.out;rw[if_pos hmost]at hr0;have HE:=hid hr0;clear hr0
     have hsz:(qX 4 t descZ (.slice none 0 0) (.slice none 0 0)).size=39:=zH (by first|exact xP|assumption)
     have hone:∀c∈qX 4 t descZ (.slice none 0 0) (.slice none 0 0),c.oneCell'=true:=jA rfl rfl;go_upto_region 15 with(fail);refine wpR [1,3,0,1,1] ?_
     simp only[stz];refine wpXA 163 b2 0 (qX 4 t descZ (.slice none 0 0) (.slice none 0 0)) (CellsAt.whole hB) underlying163 39 hsz trivial ?_;simp only[stz]
     refine qG rfl (fun w' hS=>qO 255 [(0,_),(1,_)] [(0,.int .i64 4),(1,.int .i64 (b.length-r))] _ (by rfl) (by rfl) (built_fault 4 (b.length-r))) ?_
     simp only[nmz]
     refine wpD (qF 163 _ _ b2 0 (qX 4 t descZ (.slice none 0 0) (.slice none 0 0)) (by rfl) (by rfl) (by rfl) hone 39 (by kernel_rfl) hsz _ _ hB (by omega) (fun wf hBf hmf=>?_))
     rw[qD (by rfl)]at hBf;have hCf:=hmf.objB (by omega) hC;have HRf:=hid (HR.out.keepN hall (Nat.le_refl _) hmf (by omega));clear hmf hB hC;try simp only[nmz]
     refine wpD (qF 255 _ _ b3 0 #[.int .i64 4,.int .i64 (b.length-r)] (by rfl) (by rfl) (by rfl) (by simp[Value.oneCell']) 2 (by kernel_rfl) rfl _ _ hCf (by simp) (fun wg hCg hmg=>?_))
     rw[qD (by rfl)]at hCg;have hBg:=hmg.objB (by omega) hBf;have HRg:=hid (HRf.out.keepN hall (Nat.le_refl _) hmg (by omega));clear hmg hBf hCf;simp only[stz]
     have hsz2:(prog.info? 163).map (·.size)=some (qX 4 t descZ (.slice none 0 0) (.slice none 0 0)).size:=by rw[hsz];kernel_rfl
     clear HR HA;go_wp2
     refine bodyPost_ret (xE (P:=prog) (ty:=163) (tz:=255) rfl _ _ b2 b3 _ _ _ _ _ _ _ _ (by rfl) hBg (by rfl) hCg underlying163 rfl hsz2 underlying255 rfl (by kernel_rfl)) rfl ?_
     rw[HE.out];exact⟨HRg.out,_,4,_,rfl,by simp,by simp,hdl,_,_,rfl,Gat.nil _ _ _ _ _,Gat.nil _ _ _ _ _⟩
    ·have hmz:¬(n:Int)>8:=by omega
     have hr0:=HMR.out;rw[if_neg hmost]at hr0;have HE0:=hid hr0;clear hr0 HMR;have hmn:=HM.out _ _ n (by omega) HR.out;have HC9:=hid hC
     obtain⟨l,hl⟩:∃l,xO b n s5=l:=⟨_,rfl⟩;rw[hl]at hmn;have hr0:=HE0.out;rw[hl]at hr0;have HE:=hid hr0;clear hl hr0 HE0;go_upto_region 16 with(fail)
     refine wpR [3,3,1,1,1,3,1] ?_;simp only[stz]
     refine wpXA 307 b1 0 #[.pointer (some ⟨rb,0,none⟩),.int .i64 b.length] (CellsAt.whole HA.out) underlying307 2 rfl trivial ?_;try simp only[nmz]
     refine wpX rfl (exec_bindFunc 242 [.tmp 59] (by rfl) [.agg #[.pointer (some ⟨rb,0,none⟩),.int .i64 b.length]] (by rfl)) trivial ?_;try simp only[nmz]
     refine wpD (wpC func244 (hmn) ?_);rintro e wa ⟨hr,v,rfl,hg⟩;have hws:=HR.out.2.size;replace HA:=hid (RdS.obj hr ⟨by omega,by omega⟩ HA.out)
     replace hB:=RdS.obj hr ⟨by omega,by omega⟩ hB;replace hC:=RdS.obj hr ⟨by omega,by omega⟩ hC
     have hw9s:b3<w9.heap.size:=(Array.getElem?_eq_some_iff.1 (show w9.heap[b3]?=some _ from HC9.out)).1;replace HR:=hid (HR.out.trans hr)
     have hvn:∀q,v.ownBlock=some q->b3<q:=fun q hq=>Nat.lt_of_lt_of_le hw9s (hg.lt hq).1;have hv1:v.oneCell'=true:=xW hg
     have hg0:GatD w.heap.size wa v l.1:=hg.base hws;clear hr hg;refine⟨_,rfl,?_⟩;simp only[stz]
     refine wpD (qR 161 _ _ b2 38 v (by rfl) (by rfl) (by rfl) hv1 (by kernel_rfl) _ _ hB (by omega) (fun wb' hBb hmb=>?_));rw[manRow_put38 hdl]at hBb
     replace hB:=hBb;replace hC:=hmb.objB (by omega) hC;replace HR:=hid (HR.out.keepN hall (Nat.le_refl _) hmb (by omega))
     replace hg0:=hg0.keep hmb (fun q hq e=>by
      have:=hvn q hq;have e':q=b2:=e
      omega)
     clear hmb hBb;simp only[stz];obtain⟨MR,hMR⟩:∃MR,qX 4 t descZ (.slice none 0 0) v=MR:=⟨_,rfl⟩;have hsz:MR.size=39:=by rw[<-hMR];exact zH hdl
     have hone:∀c∈MR,c.oneCell'=true:=by rw[<-hMR];exact jA rfl hv1
     have HMM:=hid hMR;rw[hMR]at hB;clear hMR HA;go_upto_region 17 with(fail)
     have hS:Mod (fun q=>q=b2) wb' wb'.drew/\wb'.drew.heap[b2]?=some (.cells MR 163 (0,0)):=⟨(Mod.refl _ _).drew,hB⟩
     refine wpRZ [0,0,1,2] [3] (fun w'=>Mod (fun q=>q=b2) wb' w'/\w'.heap[b2]?=some (.cells MR 163 (0,0))) hS ?_;simp only[stz]
     refine wpLA 163 b2 0 MR (fun w' hS=>CellsAt.whole hS.2) underlying163 39 hsz ?_;simp only[nmz]
     refine wpLA 255 b3 0 #[.int .i64 0,.int .i64 0] (fun w' hS=>CellsAt.whole (hS.1.objB (by omega) hC)) underlying255 2 rfl ?_;simp only[nmz]
     refine qL rfl (fun K hK=>?_);refine qF 163 _ _ b2 0 MR (by rfl) (by rfl) (by rfl) hone 39 (by kernel_rfl) hsz _ _ hS.2 (by omega) (fun wc hBc hmc=>?_)
     rw[qD (by rfl)]at hBc;have hSc:Mod (fun q=>q=b2) wb' wc:=hS.1.trans hmc (fun _ _ h=>h);refine hK _ _ ⟨hSc,hBc⟩ ?_;clear hK K;try simp only[nmz]
     refine zD rfl (fun K hK=>?_)
     refine qF 255 _ _ b3 0 #[.int .i64 0,.int .i64 0] (by rfl) (by rfl) (by rfl) (by simp[Value.oneCell']) 2 (by kernel_rfl) rfl _ _ (hSc.objB (by omega) hC) (by simp) (fun wd hCd hmd=>?_)
     rw[qD (by rfl)]at hCd;have hBd:=hmd.objB (by omega) hBc;refine hK _ _ ?_;clear hK K;simp only[stz]
     have HRd:=hid ((HR.out.keepN hall (Nat.le_refl _) hSc (by omega)).keepN hall (Nat.le_refl _) hmd (by omega))
     have HGd:=hid ((hg0.keep hSc (fun q hq e=>by
      have:=hvn q hq;have e':q=b2:=e
      omega)).keep hmd (fun q hq e=>by
      have:=hvn q hq;have e':q=b3:=e
      omega))
     have hsz2:(prog.info? 163).map (·.size)=some MR.size:=by rw[hsz];kernel_rfl
     clear hS hSc hmc hmd hBc hB hC hg0 HR;go_wp2
     refine bodyPost_ret (xE (P:=prog) (ty:=163) (tz:=255) rfl _ _ b2 b3 _ _ _ _ _ _ _ _ (by rfl) hBd (by rfl) hCd underlying163 rfl hsz2 underlying255 rfl (by kernel_rfl)) rfl ?_
     rw[HE.out];exact⟨HRd.out,_,0,0,rfl,by simp,by simp,hdl,_,_,HMM.out.symm,Gat.nil _ _ _ _ _,HGd.out⟩
end
section
variable{w:World}{o:Oper}{a:Act}
theorem exec_eql_flt(x y:Operand)(yt:TypeId)(m n:Int)(ho:o.op=.binOp .eql 255 x y yt)(hx:a.eval x=.agg #[.int .i64 m,.int .i64 n])(hy:a.eval y=.agg #[.int .i64 0,.int .i64 0])(r:Bool)(hr:(decide (m=0)&&decide (n=0))=r):(execOp a.eval o).run prog w=.ok (.value (.bool r)) w:=by
 subst hr;have h1:=run_eqGuard_agg (P:=prog) w .eql 255 x y #[.int .i64 m,.int .i64 n] #[.int .i64 0,.int .i64 0] eqGuardType255;unfold execOp
 simp only[ho,hx,hy,Sem.run_bind,h1,Result.andThen_ok]
 go_simp
 by_cases h1:m=0<;>by_cases h2:n=0<;>simp[h1,h2]
theorem exec_neq_flt(x y:Operand)(yt:TypeId)(m n:Int)(ho:o.op=.binOp .neq 255 x y yt)(hx:a.eval x=.agg #[.int .i64 m,.int .i64 n])(hy:a.eval y=.agg #[.int .i64 0,.int .i64 0])(r:Bool)(hr:(!(decide (m=0)&&decide (n=0)))=r):(execOp a.eval o).run prog w=.ok (.value (.bool r)) w:=by
 subst hr;have h1:=run_eqGuard_agg (P:=prog) w .neq 255 x y #[.int .i64 m,.int .i64 n] #[.int .i64 0,.int .i64 0] eqGuardType255;unfold execOp
 simp only[ho,hx,hy,Sem.run_bind,h1,Result.andThen_ok]
 go_simp
 by_cases h1:m=0<;>by_cases h2:n=0<;>simp[h1,h2]
end
section
variable{w:World}{rb wb:Nat}{bv:Value}{b:List UInt8}{a:Nat}{e p:Int}
theorem mFailed_any(h:RdI w rb wb bv b a e p)(size:Int):Calls prog 213 #[.agg #[.pointer (some ⟨rb,0,none⟩),.int .i64 size]] w (FailedR w b a e):=by
 have H:=hid h;have HE:=hid (show ∀(w':World),RdI w' rb wb bv b a e p->Calls prog 245 #[.pointer (some ⟨rb,0,none⟩)] w' (EndR w' b a e p)from fun w' h'=>rEnd_any h')
 have HL:=hid (show ∃r:Int,∀(w':World),RdI w' rb wb bv b a e p->Calls prog 243 #[.pointer (some ⟨rb,0,none⟩)] w' (RetM (.int .i64 r) w')from⟨_,fun w' h'=>rRest_any h'⟩)
 clear h;go_enter func213,ntmps213;go_upto_region 0 with(fail);refine wpR [1,1,3] ?_;simp only[stz];refine wpD (zL 307 _ _ (by rfl) (by rfl) (fun w1 hB1 hm1 hs1=>?_))
 replace hB1:w1.heap[w.heap.size]?=some (.cells #[.pointer (some ⟨rb,0,none⟩),.int .i64 size] 307 (0,0)):=hB1;try simp only[nmz]
 refine wpD (qN 255 _ (by rfl) fltZ (fun w2 hB2 hm2 hs2=>?_));replace hB2:w2.heap[w1.heap.size]?=some (.cells #[.int .i64 0,.int .i64 0] 255 (0,0)):=hB2
 simp only[stz];have hA:=hm2.obj id hB1;have HM2:=hid (hm1.trans0 hm2);have hb12:w.heap.size<w1.heap.size:=hs1;generalize hb1:w.heap.size=b1 at*
 generalize hb2:w1.heap.size=b2 at*;clear hm1 hm2 hB1;go_upto_region 1 with(fail);refine wpR [3,1,1,1,1] ?_;simp only[stz]
 refine wpXd (v:=(.pointer (some ⟨rb,0,none⟩))) 304 b1 0 (cell0 hA) underlying304 trivial ?_;try simp only[nmz]
 refine wpD (wpC func245 (HE.out _ (H.out.keep0 HM2.out)) ?_);rintro e w3 ⟨hm3,er,at_,rfl,hz1,hz2⟩;refine⟨_,rfl,?_⟩;try simp only[nmz]
 refine wpD (qN 255 _ (by rfl) fltZ (fun w4 hB4 hm4 hs4=>?_));replace hB4:w4.heap[w3.heap.size]?=some (.cells #[.int .i64 0,.int .i64 0] 255 (0,0)):=hB4
 try simp only[nmz]
 refine wpD (qF 255 _ _ w3.heap.size 0 #[.int .i64 er,.int .i64 at_] (by rfl) (by rfl) (by rfl) (by simp[Value.oneCell']) 2 (by kernel_rfl) rfl _ _ hB4 (by simp) (fun w5 hB5 hm5=>?_))
 rw[qD (by rfl)]at hB5;simp only[stz]
 have h25:b2<w3.heap.size:=by
  have:=hm3.size;have h3:=(Array.getElem?_eq_some_iff.1 hB2).1;omega
 have hm25:Mod NoB w2 w5:=(hm3.trans0 hm4).transB hm5 (by have:=hm3.size;omega);have HM5:=hid (HM2.out.trans0 hm25);have hA5:=hm25.obj id hA;have hC5:=hm25.obj id hB2
 have HZ:=hid (show(er=0↔e=0/\a=b.length)/\(er=0->at_=0)from⟨hz1,hz2⟩);generalize hb4:w3.heap.size=b4 at*;clear hm3 hm4 hm5 hm25 hA hB2 hB4 hz1 hz2
 obtain⟨r,hr⟩:=HL.out;have HR:=hid hr;clear hr HL;go_upto_region 2 with(fail);have hS:Mod (fun k=>k=b2) w5 w5.drew:=(Mod.refl _ _).drew
 have h4l:b4<w5.heap.size:=(Array.getElem?_eq_some_iff.1 hB5).1
 by_cases her:er=0
 ·subst her
  have hC0:=(show w5.drew.heap[b2]?=_ from hC5);refine wpRZ [0,3,0,3,3,3,0,1,3,3,1,3] [] (fun w'=>Mod (fun k=>k=b2) w5 w') hS ?_;simp only[stz]
  refine wpLA 255 b4 0 #[.int .i64 0,.int .i64 at_] (fun w' hS=>CellsAt.whole (hS.objB (by omega) hB5)) underlying255 2 rfl ?_;simp only[stz]
  refine wpLd (v:=(.int .i64 0)) 33 b4 0 (fun w' hS=>hS.cell (fun e=>by have e':b4=b2:=e;omega) (cell0 hB5)) underlying33 ?_;simp only[nmz]
  refine qK _ _ _ _ _ _ _ _ rfl rfl rfl rfl rfl false (by decide) ?_;simp only[stz];refine zO rfl hS ?_;simp only[stz];refine qL rfl (fun K hK=>?_)
  refine qF 255 _ _ b2 0 #[.int .i64 0,.int .i64 at_] (by rfl) (by rfl) (by rfl) (by simp[Value.oneCell']) 2 (by kernel_rfl) rfl _ _ hC0 (by simp) (fun w6 hB6 hm6=>?_)
  rw[qD (by rfl)]at hB6;have hS8:Mod (fun k=>k=b2) w5 w6:=hS.trans hm6 (fun _ _ h=>h);refine hK _ _ hS8 ?_;clear hK K;simp only[stz]
  have HM6:=hid (HM5.out.transB hS8 (by omega));clear hS hS8 hm6 hB5 hA5 hC5 hC0;go_wp2
  refine bodyPost_ret (xM (P:=prog) (ty:=255) rfl _ _ b2 _ _ _ _ (by rfl) hB6 underlying255 rfl (by kernel_rfl)) rfl ?_
  exact⟨HM6.out,0,at_,false,rfl,by simpa using HZ.out.1,by simpa using HZ.out.2,by simp⟩
 ·have hez:¬er=0:=her
  have hC0:=(show w5.drew.heap[b2]?=_ from hC5);refine wpRZ [0,3,0,3,3,3,0,1,3,3,1,3] [] (fun w'=>Mod (fun k=>k=b2) w5 w') hS ?_;simp only[stz]
  refine wpLA 255 b4 0 #[.int .i64 er,.int .i64 at_] (fun w' hS=>CellsAt.whole (hS.objB (by omega) hB5)) underlying255 2 rfl ?_;simp only[stz]
  refine wpLd (v:=(.int .i64 er)) 33 b4 0 (fun w' hS=>hS.cell (fun e=>by have e':b4=b2:=e;omega) (cell0 hB5)) underlying33 ?_;simp only[nmz]
  refine qK _ _ _ _ _ _ _ _ rfl rfl rfl rfl rfl true (decide_eq_true hez) ?_;simp only[stz]
  refine wpLd 304 b1 0 (fun w' hS=>hS.cell (fun e=>by have e':b1=b2:=e;omega) (cell0 hA5)) underlying304 ?_;simp only[nmz];refine qL rfl (fun K hK=>?_)
  refine wpC func243 (HR.out _ (H.out.keep0 (HM5.out.transB hS (by omega)))) ?_;rintro e w7 ⟨rfl,hm7⟩;have hS7:Mod (fun k=>k=b2) w5 w7:=hS.trans hm7 (fun _ _ h=>h.elim)
  have hC7:=hm7.obj id hC0;refine⟨_,rfl,hK _ _ hS7 ?_⟩;clear hK K;try simp only[nmz]
  refine qK _ _ _ _ _ _ _ _ rfl rfl rfl rfl rfl (decide (r=0)) rfl ?_;simp only[stz];refine qL rfl (fun K hK=>?_)
  refine qF 255 _ _ b2 0 #[.int .i64 er,.int .i64 at_] (by rfl) (by rfl) (by rfl) (by simp[Value.oneCell']) 2 (by kernel_rfl) rfl _ _ hC7 (by simp) (fun w6 hB6 hm6=>?_)
  rw[qD (by rfl)]at hB6;have hS8:Mod (fun k=>k=b2) w5 w6:=hS7.trans hm6 (fun _ _ h=>h);refine hK _ _ hS8 ?_;clear hK K;simp only[stz]
  have HM6:=hid (HM5.out.transB hS8 (by omega));clear hS hS7 hS8 hm6 hm7 hB5 hA5 hC5 hC0 hC7;go_wp2
  refine bodyPost_ret (xM (P:=prog) (ty:=255) rfl _ _ b2 _ _ _ _ (by rfl) hB6 underlying255 rfl (by kernel_rfl)) rfl ?_
  exact⟨HM6.out,er,at_,decide (r=0),rfl,HZ.out.1,HZ.out.2,fun _=>her⟩
end
section
variable{w:World}{b:List UInt8}
def DecR(w:World)(b:List UInt8):Ending->World->Prop:=fun x w'=>Mod NoB w w'/\∃(cs:Array Value)(er at_:Int),x=.returned (.tuple #[.agg cs,.agg #[.int .i64 er,.int .i64 at_]])/\(er=0↔(decL b).isSome=true)/\ManC w.heap.size w' cs ((decL b).getD manZ)
theorem built_mreader(rb:Nat)(n:Int):prog.built 307 [(0,.pointer (some ⟨rb,0,none⟩)),(1,.int .i64 n)]=some #[.pointer (some ⟨rb,0,none⟩),.int .i64 n]:=by
 have z:(prog.info? 307).bind (·.zero)=some (.agg #[.pointer none,.int .i64 0]):=by kernel_rfl
 have p:xV prog 307=some [(0,1),(1,1)]:=by kernel_rfl
 rw[zP z p,zC (off:=0) (size:=1) rfl (by rfl) (by simp),zC (off:=1) (size:=1) rfl (by rfl) (by simp[qY,Value.cells]),xY]
 rfl
theorem mreader_i:(prog.info? 307).bind (·.zero)=some (.agg #[.pointer none,.int .i64 0]):=by kernel_rfl
theorem zero_man:prog.built 163 []=some (qX 0 [] descZ (.slice none 0 0) (.slice none 0 0)):=by kernel_rfl
theorem zero_flt:prog.built 255 []=some #[.int .i64 0,.int .i64 0]:=by kernel_rfl
theorem mDecode_any{own:Bool}{G:Nat->Prop}{v:Value}(h:Sl own w G 1 ByteC v b)(hl:b.length<=4096):Calls prog 158 #[v] w (DecR w b):=by
 obtain⟨ad,cap,rfl,-,-⟩:=Sl.at h;have H:=hid h;have hlz:¬((b.length:Nat):Int)>4096:=by omega
 have HDL:Hid (decL b=if(manR b).2.2=true/\(manR b).2.1=some b.length then some (manR b).1 else none):=hid (by unfold decL;simp only[hl,true_and])
 obtain⟨⟨m,s,ok⟩,hmr⟩:∃r,manR b=r:=⟨_,rfl⟩;rw[hmr]at HDL;have HMR:=hid hmr;clear h hmr;go_enter func158,ntmps158;go_upto_region 0 with(fail);refine wpR [1,1] ?_
 simp only[stz];refine wpD (qN 163 _ (by rfl) manZ_i (fun w1 hB1 hm1 hs1=>?_))
 replace hB1:w1.heap[w.heap.size]?=some (.cells (qX 0 [] descZ (.slice none 0 0) (.slice none 0 0)) 163 (0,0)):=hB1;try simp only[nmz]
 refine wpD (qN 255 _ (by rfl) fltZ (fun w2 hB2 hm2 hs2=>?_));replace hB2:w2.heap[w1.heap.size]?=some (.cells #[.int .i64 0,.int .i64 0] 255 (0,0)):=hB2
 simp only[stz];have hB1':=hm2.obj id hB1;have HM2:=hid (hm1.trans0 hm2);have hb23:w.heap.size<w1.heap.size:=hs1;have hbs2:w1.heap.size<w2.heap.size:=hs2
 have hwb2:w.heap.size<=w.heap.size:=Nat.le_refl _;generalize hb2:w.heap.size=b2 at*;generalize hb3:w1.heap.size=b3 at*;have hB2x:=hB2;clear hm1 hm2 hB1 hB2
 go_upto_region 3 with(fail);refine wpR [3,1,3,3,0,1,1] ?_;simp only[stz];refine wpD (wpC func211 (rNew_any (H.out.keep0 HM2.out) hl) ?_)
 rintro e w3 ⟨rb,wb,bv,rfl,hrd,hm3,hrn⟩;refine⟨_,rfl,?_⟩;simp only[stz];refine wpPL ?_;simp only[nmz]
 refine qG rfl (fun w' hS=>qO 307 [(0,_),(1,_)] [(0,.pointer (some ⟨rb,0,none⟩)),(1,.int .i64 b.length)] _ (by rfl) (by rfl) (built_mreader rb b.length)) ?_
 simp only[nmz];refine wpD (qN 307 _ (by rfl) mreader_i (fun w4 hB4 hm4 hs4=>?_))
 replace hB4:w4.heap[w3.heap.size]?=some (.cells #[.pointer none,.int .i64 0] 307 (0,0)):=hB4;try simp only[nmz]
 refine wpD (qF 307 _ _ w3.heap.size 0 #[.pointer (some ⟨rb,0,none⟩),.int .i64 b.length] (by rfl) (by rfl) (by rfl) (by simp[Value.oneCell']) 2 (by kernel_rfl) rfl _ _ hB4 (by simp) (fun w5 hB5 hm5=>?_))
 rw[qD (by rfl)]at hB5;simp only[stz];have hs3:=hm3.size;have hm25:Mod NoB w2 w5:=(hm3.trans0 hm4).transB hm5 hs3;have hB2:=hm25.obj id hB1'
 have hC2:=hm25.obj id hB2x;have HM5:=hid (HM2.out.trans0 hm25);have hall:=hrd.all;have hrd5:=(hrd.keep0 hm4).keepN hall hm5 (Nat.le_refl _);have hst5:=hrd5.stay
 have hman:=mManifest_any hrd5;have h34:w3.heap.size<w5.heap.size:=(Array.getElem?_eq_some_iff.1 hB5).1
 replace hrn:∀k,k=rb\/k=wb\/bv.ownBlock=some k->b3<k/\k<w3.heap.size:=fun k hk=>by
  have:=hrn k hk;have:=hall k hk;omega
 have h3l:b3<w3.heap.size:=by omega
 generalize hb4:w3.heap.size=b4 at*;rw[HMR.out]at hman;clear hm3 hm4 hm5 hm25 hB1' hB4 hB2x hrd hst5;go_upto_region 4 with(fail);refine wpR [1,1,3,3,3,1,1,1,1] ?_
 simp only[stz];refine wpXA 307 b4 0 #[.pointer (some ⟨rb,0,none⟩),.int .i64 b.length] (CellsAt.whole hB5) underlying307 2 rfl trivial ?_;try simp only[nmz]
 refine wpD (wpC func212 (hman) ?_);rintro e w6 ⟨hr6,cs,er,at_,rfl,he1,he2,hmc⟩
 have hB26:=hr6.obj ⟨fun e=>by have:=hrn rb (.inl rfl);omega,fun e=>by have:=hrn wb (.inr (.inl rfl));omega⟩ hB2
 have hC26:=hr6.obj ⟨fun e=>by have:=hrn rb (.inl rfl);omega,fun e=>by have:=hrn wb (.inr (.inl rfl));omega⟩ hC2
 have hB56:=hr6.obj ⟨fun e=>by have:=hrn rb (.inl rfl);omega,fun e=>by have:=hrn wb (.inr (.inl rfl));omega⟩ hB5
 have hm06:Mod NoB w w6:=HM5.out.trans hr6.2 (fun k hk e=>by
  have e':k=rb\/k=wb:=e
  rcases e' with rfl|rfl
  ·have:=hrn k (.inl rfl);omega
  ·have:=hrn k (.inr (.inl rfl));omega)
 have hcs:=hmc.size;have hone:=hmc.one;have h56:=hr6.2.size;obtain⟨⟨a6,e6,p6,hrd6,hst6⟩,-⟩:=hr6
 have hmc0:ManC b2 w6 cs m:=by
  obtain⟨q0,lv,sv,q1,q2,q3⟩:=hmc;exact⟨q0,lv,sv,q1,q2.base (by omega),q3.base (by omega)⟩
 have hmcs:∀(S:Nat->Prop)(w':World),Mod S w6 w'->(∀k,S k->w6.heap.size<=k\/k<=b4)->ManC b2 w' cs m:=fun S w' hmm hS=>by
  obtain⟨q0,lv,sv,q1,q2,q3⟩:=hmc;refine⟨q0,lv,sv,q1,(q2.keep hmm (fun k hk e=>?_)).base (by omega),(q3.keep hmm (fun k hk e=>?_)).base (by omega)⟩
  ·have:=q2.lt hk;have:=hS k e;omega
  ·have:=q3.lt hk;have:=hS k e;omega
 have HMC:=hid hmcs;clear hmc hmc0 hmcs;refine⟨_,rfl,?_⟩;simp only[stz];refine qC (v:=?_) rfl (fun w'=>?_) ?_;rotate_left;·(go_simp;try with_reducible rfl)
 simp only[nmz];refine qC (v:=?_) rfl (fun w'=>?_) ?_;rotate_left;·(go_simp;try with_reducible rfl)
 simp only[nmz];refine wpD (qN 163 _ (by rfl) manZ_i (fun w7 hB7 hm7 hs7=>?_))
 replace hB7:w7.heap[w6.heap.size]?=some (.cells (qX 0 [] descZ (.slice none 0 0) (.slice none 0 0)) 163 (0,0)):=hB7;try simp only[nmz]
 refine wpD (qN 255 _ (by rfl) fltZ (fun w8 hB8 hm8 hs8=>?_));replace hB8:w8.heap[w7.heap.size]?=some (.cells #[.int .i64 0,.int .i64 0] 255 (0,0)):=hB8
 try simp only[nmz]
 refine wpDo rfl ?_
 refine qF 163 _ _ w6.heap.size 0 cs (by rfl) (by rfl) (by rfl) hone 39 (by kernel_rfl) hcs _ _ (hm8.obj id hB7) (by rw[hcs];exact Nat.le_of_eq (zH xP).symm) (fun w9 hB9 hm9=>?_)
 rw[qD (by rw[hcs];exact(zH xP).symm)]at hB9;have hB8':=hm9.objB (by omega) hB8;try simp only[nmz]
 refine wpD (qF 255 _ _ w7.heap.size 0 #[.int .i64 er,.int .i64 at_] (by rfl) (by rfl) (by rfl) (by simp[Value.oneCell']) 2 (by kernel_rfl) rfl _ _ hB8' (by simp) (fun wa hBa hma=>?_))
 rw[qD (by rfl)]at hBa;have hB9':=hma.objB (by omega) hB9;simp only[stz]
 have hm6a:Mod NoB w6 wa:=((hm7.trans0 hm8).transB hm9 (Nat.le_refl _)).transB hma (by omega);have HMa:=hid (hm06.trans0 hm6a);have hB2a:=hm6a.obj id hB26
 have hC2a:=hm6a.obj id hC26;have hB5a:=hm6a.obj id hB56;have hrda:=hrd6.keep0 hm6a;have h6a:=hm6a.size;have hfl:=mFailed_any hrda b.length
 have h67:w6.heap.size<w7.heap.size:=hs7;have hb4l:b4<w6.heap.size:=by omega
 have h7a:w7.heap.size<wa.heap.size:=(Array.getElem?_eq_some_iff.1 hBa).1
 replace HMC:Hid (∀(S:Nat->Prop)(w':World),Mod S wa w'->(∀k,S k->w6.heap.size<=k\/k<=b4)->ManC b2 w' cs m):=hid (fun S w' hmm hS=>HMC.out S w' ((hm6a.mono (fun _ _ h=>h.elim)).trans hmm (fun _ _ h=>h)) hS)
 have HST:=hid hst6;generalize hb5:w6.heap.size=b5 at*;generalize hb6:w7.heap.size=b6 at*
 clear hm06 hm6a hm7 hm8 hm9 hma hB26 hC26 hB56 hB7 hB8 hB8' hB9 hrd6 hrd5 hman hst6 HM5 HM2;go_upto_region 5 with(fail);refine wpR [1,1,3,3,3,1,1,3] ?_;simp only[stz]
 refine wpXA 307 b4 0 #[.pointer (some ⟨rb,0,none⟩),.int .i64 b.length] (CellsAt.whole hB5a) underlying307 2 rfl trivial ?_;try simp only[nmz]
 refine wpD (wpC func213 (hfl) ?_);rintro e wc ⟨hmc,er2,at2,is,rfl,hg1,hg2,hg3⟩;refine⟨_,rfl,?_⟩;simp only[stz]
 refine qC (v:=?_) rfl (fun w'=>?_) ?_;rotate_left;·(go_simp;try with_reducible rfl)
 simp only[nmz];refine qC (v:=?_) rfl (fun w'=>?_) ?_;rotate_left;·(go_simp;try with_reducible rfl)
 simp only[nmz];refine wpD (qN 255 _ (by rfl) fltZ (fun wd hBd hmd hsd=>?_))
 replace hBd:wd.heap[wc.heap.size]?=some (.cells #[.int .i64 0,.int .i64 0] 255 (0,0)):=hBd;try simp only[nmz]
 refine wpD (qF 255 _ _ wc.heap.size 0 #[.int .i64 er2,.int .i64 at2] (by rfl) (by rfl) (by rfl) (by simp[Value.oneCell']) 2 (by kernel_rfl) rfl _ _ hBd (by simp) (fun we hBe hme=>?_))
 rw[qD (by rfl)]at hBe;simp only[stz];have hac:=hmc.size;have hmae:Mod NoB wa we:=(hmc.trans0 hmd).transB hme hac;have HMe:=hid (HMa.out.trans0 hmae)
 have hB2e:=hmae.obj id hB2a;have hC2e:=hmae.obj id hC2a;have hB9e:=hmae.obj id hB9';have hBae:=hmae.obj id hBa
 replace HMC:Hid (∀(S:Nat->Prop)(w':World),Mod S we w'->(∀k,S k->b5<=k\/k<=b4)->ManC b2 w' cs m):=hid (fun S w' hmm hS=>HMC.out S w' ((hmae.mono (fun _ _ h=>h.elim)).trans hmm (fun _ _ h=>h)) hS)
 have hgst:er2=0↔s=some b.length:=by
  have hst:stOf a6 e6=s:=HST.out;rw[hg1,<-hst];unfold stOf
  by_cases h6:e6=0
  ·simp[h6]
  ·simp[h6]
 have h67c:b6<wc.heap.size:=by omega
 generalize hb7:wc.heap.size=b7 at*;clear hmc hmd hme hmae hBd hB2a hC2a hB9' hBa hB5a hfl hrda hg1 HMa HST
 cases is with
 |true=>
  have hne:=hg3 rfl;have hno:¬(ok=true/\s=some b.length):=fun hq=>hne (hgst.2 hq.2);go_upto_region 7 with(fail);refine wpR [1,1] ?_;simp only[stz]
  refine wpXA 255 b7 0 #[.int .i64 er2,.int .i64 at2] (CellsAt.whole hBe) underlying255 2 rfl trivial ?_;try simp only[nmz]
  refine wpD (qF 255 _ _ b6 0 #[.int .i64 er2,.int .i64 at2] (by rfl) (by rfl) (by rfl) (by simp[Value.oneCell']) 2 (by kernel_rfl) rfl _ _ hBae (by simp) (fun wf hBz hmz=>?_))
  rw[qD (by rfl)]at hBz;have HMf:=hid (HMe.out.transB hmz (by omega));have hB2f:=hmz.objB (by omega) hB2e;have hC2f:=hmz.objB (by omega) hC2e
  have hB9f:=hmz.objB (by omega) hB9e
  have HMCf:Hid (∀(S:Nat->Prop)(w':World),Mod S wf w'->(∀k,S k->b5<=k\/k<=b4)->ManC b2 w' cs m):=hid (fun S w' hmm hS=>HMC.out (fun k=>k=b6\/S k) w' ((hmz.mono (fun _ _ h=>.inl h)).trans hmm (fun _ _ h=>.inr h)) (fun k hk=>hk.elim (fun e=>.inl (by omega)) (hS k)))
  clear hmz hBae hB2e hC2e hB9e HMe HMC;simp only[stz];go_upto_region 10 with(fail);refine wpR [1,0,0] ?_;simp only[stz]
  refine wpXA 255 b6 0 #[.int .i64 er2,.int .i64 at2] (CellsAt.whole hBz) underlying255 2 rfl trivial ?_;try simp only[nmz]
  refine qG rfl (fun w' hS=>qO 255 [] [] _ (by rfl) (by rfl) zero_flt) ?_;simp only[nmz]
  refine qG rfl (fun w' hS=>exec_neq_flt _ _ _ er2 at2 (by rfl) (by rfl) (by rfl) true (by simp[hne])) ?_;simp only[stz];go_upto_region 11 with(fail)
  have hzs:(qX 0 [] descZ (.slice none 0 0) (.slice none 0 0)).size=39:=zH xP
  have hzo:∀c∈qX 0 [] descZ (.slice none 0 0) (.slice none 0 0),c.oneCell'=true:=jA rfl rfl;have hS:Mod (fun k=>k=b2) wf wf.drew:=(Mod.refl _ _).drew
  have hB2d:wf.drew.heap[b2]?=some (.cells (qX 0 [] descZ (.slice none 0 0) (.slice none 0 0)) 163 (0,0)):=hB2f
  refine wpRZ [0,0,1,2] [3] (fun w'=>Mod (fun k=>k=b2) wf w') hS ?_;simp only[stz]
  refine qG rfl (fun w' hS=>qO 163 [] [] _ (by rfl) (by rfl) zero_man) ?_;simp only[nmz]
  refine wpLA 255 b6 0 #[.int .i64 er2,.int .i64 at2] (fun w' hS=>CellsAt.whole (hS.objB (by omega) hBz)) underlying255 2 rfl ?_;simp only[nmz]
  refine qL rfl (fun K hK=>?_)
  refine qF 163 _ _ b2 0 (qX 0 [] descZ (.slice none 0 0) (.slice none 0 0)) (by rfl) (by rfl) (by rfl) hzo 39 (by kernel_rfl) hzs _ _ hB2d (by omega) (fun wg hBg hmg=>?_)
  rw[qD (by rfl)]at hBg;have hSg:Mod (fun k=>k=b2) wf wg:=hS.trans hmg (fun _ _ h=>h);refine hK _ _ hSg ?_;clear hK K;try simp only[nmz]
  refine zD rfl (fun K hK=>?_)
  refine qF 255 _ _ b3 0 #[.int .i64 er2,.int .i64 at2] (by rfl) (by rfl) (by rfl) (by simp[Value.oneCell']) 2 (by kernel_rfl) rfl _ _ (hSg.objB (by omega) hC2f) (by simp) (fun wh hCh hmh=>?_)
  rw[qD (by rfl)]at hCh;have hBh:=hmh.objB (by omega) hBg;refine hK _ _ ?_;clear hK K;simp only[stz]
  have HMh:=hid ((HMf.out.transB hSg (by omega)).transB hmh (by omega))
  have hsz2:(prog.info? 163).map (·.size)=some (qX 0 [] descZ (.slice none 0 0) (.slice none 0 0)).size:=by rw[hzs];kernel_rfl
  clear hS hSg hmg hmh hBg hB2d hBz hB2f hC2f hB9f HMf HMCf;go_wp2
  refine bodyPost_ret (xE (P:=prog) (ty:=163) (tz:=255) rfl _ _ b2 b3 _ _ _ _ _ _ _ _ (by rfl) hBh (by rfl) hCh underlying163 rfl hsz2 underlying255 rfl (by kernel_rfl)) rfl ?_
  have hdn:decL b=none:=by rw[HDL.out,if_neg hno]
  rw[show DecR w b=fun x w'=>Mod NoB w w'/\∃(cs:Array Value)(er at_:Int),x=.returned (.tuple #[.agg cs,.agg #[.int .i64 er,.int .i64 at_]])/\(er=0↔(decL b).isSome=true)/\ManC w.heap.size w' cs ((decL b).getD manZ)from rfl,hdn]
  exact⟨HMh.out,_,er2,at2,rfl,by simp[hne],xP,_,_,rfl,Gat.nil _ _ _ _ _,Gat.nil _ _ _ _ _⟩
 |false=>
  by_cases h1:er=0
  ·subst h1
   obtain rfl:=he2 rfl;have hok:ok=true:=he1.1 rfl;go_upto_region 8 with(fail);refine wpR [1,0,0] ?_;simp only[stz]
   refine wpXA 255 b6 0 #[.int .i64 0,.int .i64 0] (CellsAt.whole hBae) underlying255 2 rfl trivial ?_;try simp only[nmz]
   refine qG rfl (fun w' hS=>qO 255 [] [] _ (by rfl) (by rfl) zero_flt) ?_;simp only[nmz]
   refine qG rfl (fun w' hS=>exec_eql_flt _ _ _ 0 0 (by rfl) (by rfl) (by rfl) true (by simp)) ?_;simp only[stz];go_upto_region 9 with(fail);refine wpR [1,1] ?_
   simp only[stz];refine wpXA 255 b7 0 #[.int .i64 er2,.int .i64 at2] (CellsAt.whole hBe) underlying255 2 rfl trivial ?_;try simp only[nmz]
   refine wpD (qF 255 _ _ b6 0 #[.int .i64 er2,.int .i64 at2] (by rfl) (by rfl) (by rfl) (by simp[Value.oneCell']) 2 (by kernel_rfl) rfl _ _ hBae (by simp) (fun wf hBz hmz=>?_))
   rw[qD (by rfl)]at hBz;have HMf:=hid (HMe.out.transB hmz (by omega));have hB2f:=hmz.objB (by omega) hB2e;have hC2f:=hmz.objB (by omega) hC2e
   have hB9f:=hmz.objB (by omega) hB9e
   have HMCf:Hid (∀(S:Nat->Prop)(w':World),Mod S wf w'->(∀k,S k->b5<=k\/k<=b4)->ManC b2 w' cs m):=hid (fun S w' hmm hS=>HMC.out (fun k=>k=b6\/S k) w' ((hmz.mono (fun _ _ h=>.inl h)).trans hmm (fun _ _ h=>.inr h)) (fun k hk=>hk.elim (fun e=>.inl (by omega)) (hS k)))
   clear hmz hBae hB2e hC2e hB9e HMe HMC;simp only[stz]
   by_cases h2:er2=0
   ·subst h2
    obtain rfl:=hg2 rfl;have hyes:ok=true/\s=some b.length:=⟨hok,hgst.1 rfl⟩;go_upto_region 10 with(fail);refine wpR [1,0,0] ?_;simp only[stz]
    refine wpXA 255 b6 0 #[.int .i64 0,.int .i64 0] (CellsAt.whole hBz) underlying255 2 rfl trivial ?_;try simp only[nmz]
    refine qG rfl (fun w' hS=>qO 255 [] [] _ (by rfl) (by rfl) zero_flt) ?_;simp only[nmz]
    refine qG rfl (fun w' hS=>exec_neq_flt _ _ _ 0 0 (by rfl) (by rfl) (by rfl) false (by simp)) ?_;simp only[stz];go_upto_region 12 with(fail)
    have hzs:(qX 0 [] descZ (.slice none 0 0) (.slice none 0 0)).size=39:=zH xP;have hS:Mod (fun k=>k=b2) wf wf.drew:=(Mod.refl _ _).drew
    have hB2d:wf.drew.heap[b2]?=some (.cells (qX 0 [] descZ (.slice none 0 0) (.slice none 0 0)) 163 (0,0)):=hB2f
    refine wpRZ [0,0,1,2] [3] (fun w'=>Mod (fun k=>k=b2) wf w') hS ?_;simp only[stz]
    refine wpLA 163 b5 0 cs (fun w' hS=>CellsAt.whole (hS.objB (by omega) hB9f)) underlying163 39 hcs ?_;simp only[nmz]
    refine wpLA 255 b6 0 #[.int .i64 0,.int .i64 0] (fun w' hS=>CellsAt.whole (hS.objB (by omega) hBz)) underlying255 2 rfl ?_;simp only[nmz]
    refine qL rfl (fun K hK=>?_);refine qF 163 _ _ b2 0 cs (by rfl) (by rfl) (by rfl) hone 39 (by kernel_rfl) hcs _ _ hB2d (by omega) (fun wg hBg hmg=>?_)
    rw[qD (by rw[hcs,hzs])]at hBg;have hSg:Mod (fun k=>k=b2) wf wg:=hS.trans hmg (fun _ _ h=>h);refine hK _ _ hSg ?_;clear hK K;try simp only[nmz]
    refine zD rfl (fun K hK=>?_)
    refine qF 255 _ _ b3 0 #[.int .i64 0,.int .i64 0] (by rfl) (by rfl) (by rfl) (by simp[Value.oneCell']) 2 (by kernel_rfl) rfl _ _ (hSg.objB (by omega) hC2f) (by simp) (fun wh hCh hmh=>?_)
    rw[qD (by rfl)]at hCh;have hBh:=hmh.objB (by omega) hBg;refine hK _ _ ?_;clear hK K;simp only[stz]
    have HMh:=hid ((HMf.out.transB hSg (by omega)).transB hmh (by omega))
    have HMCh:=hid (HMCf.out (fun k=>k=b2\/k=b3) wh ((hSg.mono (fun _ _ h=>.inl h)).trans hmh (fun _ _ h=>.inr h)) (fun k hk=>.inr (by omega)))
    have hsz2:(prog.info? 163).map (·.size)=some cs.size:=by rw[hcs];kernel_rfl
    clear hS hSg hmg hmh hBg hB2d hBz hB2f hC2f hB9f HMf HMCf;go_wp2
    refine bodyPost_ret (xE (P:=prog) (ty:=163) (tz:=255) rfl _ _ b2 b3 _ _ _ _ _ _ _ _ (by rfl) hBh (by rfl) hCh underlying163 rfl hsz2 underlying255 rfl (by kernel_rfl)) rfl ?_
    have hdn:decL b=some m:=by rw[HDL.out,if_pos hyes]
    rw[show DecR w b=fun x w'=>Mod NoB w w'/\∃(cs:Array Value)(er at_:Int),x=.returned (.tuple #[.agg cs,.agg #[.int .i64 er,.int .i64 at_]])/\(er=0↔(decL b).isSome=true)/\ManC w.heap.size w' cs ((decL b).getD manZ)from rfl,hdn]
    exact⟨HMh.out,_,0,0,rfl,by simp,by rw[hb2];exact HMCh.out⟩
   ·have hne:=h2
    have hno:¬(ok=true/\s=some b.length):=fun hq=>hne (hgst.2 hq.2);go_upto_region 10 with(fail);refine wpR [1,0,0] ?_;simp only[stz]
    refine wpXA 255 b6 0 #[.int .i64 er2,.int .i64 at2] (CellsAt.whole hBz) underlying255 2 rfl trivial ?_;try simp only[nmz]
    refine qG rfl (fun w' hS=>qO 255 [] [] _ (by rfl) (by rfl) zero_flt) ?_;simp only[nmz]
    refine qG rfl (fun w' hS=>exec_neq_flt _ _ _ er2 at2 (by rfl) (by rfl) (by rfl) true (by simp[hne])) ?_;simp only[stz];go_upto_region 11 with(fail)
    have hzs:(qX 0 [] descZ (.slice none 0 0) (.slice none 0 0)).size=39:=zH xP
    have hzo:∀c∈qX 0 [] descZ (.slice none 0 0) (.slice none 0 0),c.oneCell'=true:=jA rfl rfl
    have hS:Mod (fun k=>k=b2) wf wf.drew:=(Mod.refl _ _).drew
    have hB2d:wf.drew.heap[b2]?=some (.cells (qX 0 [] descZ (.slice none 0 0) (.slice none 0 0)) 163 (0,0)):=hB2f
    refine wpRZ [0,0,1,2] [3] (fun w'=>Mod (fun k=>k=b2) wf w') hS ?_;simp only[stz]
    refine qG rfl (fun w' hS=>qO 163 [] [] _ (by rfl) (by rfl) zero_man) ?_;simp only[nmz]
    refine wpLA 255 b6 0 #[.int .i64 er2,.int .i64 at2] (fun w' hS=>CellsAt.whole (hS.objB (by omega) hBz)) underlying255 2 rfl ?_;simp only[nmz]
    refine qL rfl (fun K hK=>?_)
    refine qF 163 _ _ b2 0 (qX 0 [] descZ (.slice none 0 0) (.slice none 0 0)) (by rfl) (by rfl) (by rfl) hzo 39 (by kernel_rfl) hzs _ _ hB2d (by omega) (fun wg hBg hmg=>?_)
    rw[qD (by rfl)]at hBg;have hSg:Mod (fun k=>k=b2) wf wg:=hS.trans hmg (fun _ _ h=>h);refine hK _ _ hSg ?_;clear hK K;try simp only[nmz]
    refine zD rfl (fun K hK=>?_)
    refine qF 255 _ _ b3 0 #[.int .i64 er2,.int .i64 at2] (by rfl) (by rfl) (by rfl) (by simp[Value.oneCell']) 2 (by kernel_rfl) rfl _ _ (hSg.objB (by omega) hC2f) (by simp) (fun wh hCh hmh=>?_)
    rw[qD (by rfl)]at hCh;have hBh:=hmh.objB (by omega) hBg;refine hK _ _ ?_;clear hK K;simp only[stz]
    have HMh:=hid ((HMf.out.transB hSg (by omega)).transB hmh (by omega))
    have hsz2:(prog.info? 163).map (·.size)=some (qX 0 [] descZ (.slice none 0 0) (.slice none 0 0)).size:=by rw[hzs];kernel_rfl
    clear hS hSg hmg hmh hBg hB2d hBz hB2f hC2f hB9f HMf HMCf;go_wp2
    refine bodyPost_ret (xE (P:=prog) (ty:=163) (tz:=255) rfl _ _ b2 b3 _ _ _ _ _ _ _ _ (by rfl) hBh (by rfl) hCh underlying163 rfl hsz2 underlying255 rfl (by kernel_rfl)) rfl ?_
    have hdn:decL b=none:=by rw[HDL.out,if_neg hno]
    rw[show DecR w b=fun x w'=>Mod NoB w w'/\∃(cs:Array Value)(er at_:Int),x=.returned (.tuple #[.agg cs,.agg #[.int .i64 er,.int .i64 at_]])/\(er=0↔(decL b).isSome=true)/\ManC w.heap.size w' cs ((decL b).getD manZ)from rfl,hdn]
    exact⟨HMh.out,_,er2,at2,rfl,by simp[hne],xP,_,_,rfl,Gat.nil _ _ _ _ _,Gat.nil _ _ _ _ _⟩
  ·have hne:=h1
   have hno:¬(ok=true/\s=some b.length):=fun hq=>hne (he1.2 hq.1);go_upto_region 8 with(fail);refine wpR [1,0,0] ?_;simp only[stz]
   refine wpXA 255 b6 0 #[.int .i64 er,.int .i64 at_] (CellsAt.whole hBae) underlying255 2 rfl trivial ?_;try simp only[nmz]
   refine qG rfl (fun w' hS=>qO 255 [] [] _ (by rfl) (by rfl) zero_flt) ?_;simp only[nmz]
   refine qG rfl (fun w' hS=>exec_eql_flt _ _ _ er at_ (by rfl) (by rfl) (by rfl) false (by simp[hne])) ?_;simp only[stz];have hBz:=hBae;have HMf:=HMe
   have hB2f:=hB2e;have hC2f:=hC2e;have hB9f:=hB9e;have HMCf:=HMC;clear hBae hB2e hC2e hB9e;go_upto_region 10 with(fail);refine wpR [1,0,0] ?_;simp only[stz]
   refine wpXA 255 b6 0 #[.int .i64 er,.int .i64 at_] (CellsAt.whole hBz) underlying255 2 rfl trivial ?_;try simp only[nmz]
   refine qG rfl (fun w' hS=>qO 255 [] [] _ (by rfl) (by rfl) zero_flt) ?_;simp only[nmz]
   refine qG rfl (fun w' hS=>exec_neq_flt _ _ _ er at_ (by rfl) (by rfl) (by rfl) true (by simp[hne])) ?_;simp only[stz];go_upto_region 11 with(fail)
   have hzs:(qX 0 [] descZ (.slice none 0 0) (.slice none 0 0)).size=39:=zH xP
   have hzo:∀c∈qX 0 [] descZ (.slice none 0 0) (.slice none 0 0),c.oneCell'=true:=jA rfl rfl;have hS:Mod (fun k=>k=b2) we we.drew:=(Mod.refl _ _).drew
   have hB2d:we.drew.heap[b2]?=some (.cells (qX 0 [] descZ (.slice none 0 0) (.slice none 0 0)) 163 (0,0)):=hB2f
   refine wpRZ [0,0,1,2] [3] (fun w'=>Mod (fun k=>k=b2) we w') hS ?_;simp only[stz]
   refine qG rfl (fun w' hS=>qO 163 [] [] _ (by rfl) (by rfl) zero_man) ?_;simp only[nmz]
   refine wpLA 255 b6 0 #[.int .i64 er,.int .i64 at_] (fun w' hS=>CellsAt.whole (hS.objB (by omega) hBz)) underlying255 2 rfl ?_;simp only[nmz]
   refine qL rfl (fun K hK=>?_)
   refine qF 163 _ _ b2 0 (qX 0 [] descZ (.slice none 0 0) (.slice none 0 0)) (by rfl) (by rfl) (by rfl) hzo 39 (by kernel_rfl) hzs _ _ hB2d (by omega) (fun wg hBg hmg=>?_)
   rw[qD (by rfl)]at hBg;have hSg:Mod (fun k=>k=b2) we wg:=hS.trans hmg (fun _ _ h=>h);refine hK _ _ hSg ?_;clear hK K;try simp only[nmz]
   refine zD rfl (fun K hK=>?_)
   refine qF 255 _ _ b3 0 #[.int .i64 er,.int .i64 at_] (by rfl) (by rfl) (by rfl) (by simp[Value.oneCell']) 2 (by kernel_rfl) rfl _ _ (hSg.objB (by omega) hC2f) (by simp) (fun wh hCh hmh=>?_)
   rw[qD (by rfl)]at hCh;have hBh:=hmh.objB (by omega) hBg;refine hK _ _ ?_;clear hK K;simp only[stz]
   have HMh:=hid ((HMf.out.transB hSg (by omega)).transB hmh (by omega))
   have hsz2:(prog.info? 163).map (·.size)=some (qX 0 [] descZ (.slice none 0 0) (.slice none 0 0)).size:=by rw[hzs];kernel_rfl
   clear hS hSg hmg hmh hBg hB2d hBz hB2f hC2f hB9f HMf HMCf;go_wp2
   refine bodyPost_ret (xE (P:=prog) (ty:=163) (tz:=255) rfl _ _ b2 b3 _ _ _ _ _ _ _ _ (by rfl) hBh (by rfl) hCh underlying163 rfl hsz2 underlying255 rfl (by kernel_rfl)) rfl ?_
   have hdn:decL b=none:=by rw[HDL.out,if_neg hno]
   rw[show DecR w b=fun x w'=>Mod NoB w w'/\∃(cs:Array Value)(er at_:Int),x=.returned (.tuple #[.agg cs,.agg #[.int .i64 er,.int .i64 at_]])/\(er=0↔(decL b).isSome=true)/\ManC w.heap.size w' cs ((decL b).getD manZ)from rfl,hdn]
   exact⟨HMh.out,_,er,at_,rfl,by simp[hne],xP,_,_,rfl,Gat.nil _ _ _ _ _,Gat.nil _ _ _ _ _⟩
end
theorem decL_len{b:List UInt8}{m:ManL}(h:decL b=some m):m.layers.length<=16/\m.subs.length<=16/\(m.kind=3\/m.kind=4):=by
 unfold decL at h
 split at h
 ·rename_i hc
  have hm:=Option.some.inj h;subst hm;obtain⟨-,h2,-⟩:=hc
  revert h2
  unfold manR
  dsimp only
  generalize (rNumL b (some 0))=f
  split
  ·simp
  ·generalize rNumL b f.2=k
   split
   ·simp
   ·rename_i hk4
    generalize rBytesL b 4096 k.2=t
    by_cases hk:k.1=3
    ·simp only[hk,if_true]
     split
     ·simp
     ·intro _
      refine⟨by rw[rDescsL_len];omega,by simp,.inl rfl⟩
    ·simp only[hk,if_false]
     split
     ·simp
     ·intro _
      refine⟨by simp,by rw[rDescsL_len];omega,.inr (by show k.1=4;omega)⟩
 ·cases h
def DescsR(w:World)(l:List DescL):Ending->World->Prop:=fun x w'=>Mod NoB w w'/\∃v,x=.returned v/\GatD w.heap.size w' v l
theorem man_kind(k:Nat)(t:List UInt8)(d:DescL)(lv sv:Value):(qX k t d lv sv)[0]?=some (.int .i64 k):=by simp[qX]
theorem man_37{k:Nat}{t:List UInt8}{d:DescL}{lv sv:Value}(h:d.id.length=32):(qX k t d lv sv)[37]?=some lv:=by
 have h1:=descL_len h;rw[<-Array.getElem?_toList];simp only[qX,List.getElem?_cons_succ];rw[List.getElem?_append_right (by omega),h1]
 rfl
theorem man_38{k:Nat}{t:List UInt8}{d:DescL}{lv sv:Value}(h:d.id.length=32):(qX k t d lv sv)[38]?=some sv:=by
 have h1:=descL_len h;rw[<-Array.getElem?_toList];simp only[qX,List.getElem?_cons_succ];rw[List.getElem?_append_right (by omega),h1]
 rfl
theorem man_config{k:Nat}{t:List UInt8}{d:DescL}{lv sv:Value}(h:d.id.length=32):∀j,j<(qZ d).size->(qX k t d lv sv)[2+j]?=(qZ d)[j]?:=by
 intro j hj;have h1:=descL_len h;have h2:(qZ d).size=35:=zZ h;rw[<-Array.getElem?_toList,<-Array.getElem?_toList,show 2+j=j+1+1 by omega]
 simp only[qX,List.getElem?_cons_succ];rw[List.getElem?_append_left (by omega)]
section
variable{w:World}{base:Nat}{cs:Array Value}{m:ManL}
theorem mDescs_any(h:ManC base w cs m)(hl:m.layers.length<=16/\m.subs.length<=16):Calls prog 159 #[.agg cs] w (DescsR w (jR m)):=by
 obtain⟨hid,lv,sv,rfl,hlv,hsv⟩:=h;obtain⟨hl1,hl2⟩:=hl;have HL:=Lib.hid hlv;have HS:=Lib.hid hsv
 have hlk:∀q,lv.ownBlock=some q->q<w.heap.size:=fun q hq=>(hlv.lt hq).2;have hsk:∀q,sv.ownBlock=some q->q<w.heap.size:=fun q hq=>(hsv.lt hq).2
 have hl1c:lv.oneCell'=true:=xW hlv;have hs1c:sv.oneCell'=true:=xW hsv;obtain⟨adl,cpl,rfl⟩:=hlv.slice;obtain⟨ads,cps,rfl⟩:=hsv.slice
 have hmk:=man_kind m.kind m.title m.config (.slice adl m.layers.length cpl) (.slice ads m.subs.length cps)
 have hm37:=man_37 (k:=m.kind) (t:=m.title) (lv:=.slice adl m.layers.length cpl) (sv:=.slice ads m.subs.length cps) hid
 have hm38:=man_38 (k:=m.kind) (t:=m.title) (lv:=.slice adl m.layers.length cpl) (sv:=.slice ads m.subs.length cps) hid
 have hmcf:=man_config (k:=m.kind) (t:=m.title) (lv:=.slice adl m.layers.length cpl) (sv:=.slice ads m.subs.length cps) hid
 have hds:(qZ m.config).size=35:=zZ hid
 obtain⟨cs,hcs⟩:∃cs,qX m.kind m.title m.config (.slice adl m.layers.length cpl) (.slice ads m.subs.length cps)=cs:=⟨_,rfl⟩;rw[hcs]at hmk hm37 hm38 hmcf |-
 have HDE:=Lib.hid (descE_eq hid);clear hcs hlv hsv;go_enter func159,ntmps159;go_upto_region 0 with(fail);refine wpR [1,3] ?_;simp only[stz]
 refine wpD (zL 163 _ _ (by rfl) (by rfl) (fun w1 hB1 hm1 hs1=>?_));replace hB1:w1.heap[w.heap.size]?=some (.cells cs 163 (0,0)):=hB1;simp only[stz]
 have hck:w1.cell? ⟨w.heap.size,0,none⟩=some (.int .i64 m.kind):=by rw[cell_of_row _ _ _ _ _ _ hB1];exact hmk
 have hc37:w1.cell? ⟨w.heap.size,37,none⟩=some (.slice adl m.layers.length cpl):=by rw[cell_of_row _ _ _ _ _ _ hB1];exact hm37
 have hc38:w1.cell? ⟨w.heap.size,38,none⟩=some (.slice ads m.subs.length cps):=by rw[cell_of_row _ _ _ _ _ _ hB1];exact hm38
 have hcc:CellsAt w1 w.heap.size 2 (qZ m.config):=CellsAt.of_obj hB1 hmcf;have HM1:=Lib.hid hm1;replace HL:=Lib.hid (HL.out.keep0 hm1)
 replace HS:=Lib.hid (HS.out.keep0 hm1);have hs1':w.heap.size<w1.heap.size:=hs1;generalize hb1:w.heap.size=b1 at*;clear hm1 hB1 hmk hm37 hm38 hmcf
 by_cases hk3:m.kind=3
 ·have hkz:(m.kind:Int)=3:=by omega
  have hdl:jR m=[m.config]++m.layers++m.subs:=by unfold jR;rw[if_pos hk3]
  have HDL:=Lib.hid hdl;clear hdl;go_upto_region 1 with(fail);refine wpR [3,1,3] ?_;simp only[stz];refine wpXd (v:=(.int .i64 m.kind)) 3 b1 0 hck underlying3 trivial ?_
  try simp only[nmz]
  refine qC (v:=?_) rfl (fun w'=>?_) ?_;rotate_left;·(go_simp;try with_reducible rfl)
  simp only[stz];go_upto_region 2 with(fail);refine wpR [3,3,1,1,1,3] ?_;simp only[stz];refine wpXA 46 b1 2 (qZ m.config) hcc underlying46 35 hds trivial ?_
  try simp only[nmz]
  refine wpD (qQ 161 46 _ (.agg (qZ m.config)) (.agg (qZ descZ)) 35 (by rfl) (by rfl) underlying161 (by kernel_rfl) (by omega) (by omega) hds (fun w3 hB3 hm3 hs3=>?_))
  have hsrc:=src_lit (enc:=descE) (e:=46) (x:=m.config) descE_len (by rw[HDE.out];exact hB3);have h3s:=hm3.size;try simp only[nmz]
  refine wpD (wp_gat descE _ _ 161 46 (.agg (qZ descZ)) 35 64 (by rfl) underlying161 desc_i desc_zs (by omega) descE_one w3.heap.size _ [] (by rfl) (Gat.nil _ _ _ _ _) _ [m.config] (by rfl) hsrc (by unfold maxLen;simp) (by simp) (Nat.le_refl _) (fun v4 w4 hg4 hm4=>?_))
  have hm4':Mod NoB w3 w4:=hm4.mono (fun k hk e=>by cases e);rw[List.nil_append]at hg4;simp only[stz];have hm14:=hm3.trans0 hm4';have h34:=hm4'.size
  have HM4:=Lib.hid (HM1.out.trans0 hm14);replace HL:=Lib.hid (HL.out.keep0 hm14);replace HS:=Lib.hid (HS.out.keep0 hm14);replace hc37:=hm14.cell id hc37
  replace hc38:=hm14.cell id hc38;have HG2:=Lib.hid hg4
  have hv2:∀q,v4.ownBlock=some q->b1<q/\q<w4.heap.size:=fun q hq=>by
   have:=hg4.lt hq;omega
  have hv1c:v4.oneCell'=true:=xW hg4;have h14s:=hm14.size;clear hm3 hm4 hm4' hm14 hB3 hsrc hg4 hck hcc;go_upto_region 3 with(fail)
  have hS:Mod (fun q=>b1<q) w4 w4.drew:=(Mod.refl _ _).drew;have hg4d:=HG2.out.keep0 (Mod.refl NoB w4).drew
  refine wpRP [(0,3),(1,3),(2,0),(4,3),(5,0),(3,1),(6,1),(7,3)] [] (fun w'=>Mod (fun q=>b1<q) w4 w') hS ?_;simp only[stz]
  refine wpLd 161 b1 37 (fun w' hS=>hS.cell (fun e=>Nat.lt_irrefl _ e) hc37) underlying161 ?_;simp only[stz]
  refine wpLd 161 b1 38 (fun w' hS=>hS.cell (fun e=>Nat.lt_irrefl _ e) hc38) underlying161 ?_;simp only[nmz];refine qL rfl (fun K hK=>?_)
  refine wp_gat descE _ _ 161 46 (.agg (qZ descZ)) 35 64 (by rfl) underlying161 desc_i desc_zs (by omega) descE_one w3.heap.size _ [m.config] (by rfl) hg4d _ m.layers (by rfl) (HL.out.keep hS (fun q hq e=>by have:=hlk q hq;have e':b1<q:=e;omega)).src (by unfold maxLen;simp;omega) (by simp;omega) (by have:=hS.size;omega) (fun v5 w5 hg5 hm5=>?_)
  have hS5:Mod (fun q=>v4.ownBlock=some q) w4 w5:=(show Mod (fun q=>v4.ownBlock=some q) w4 w4.drew from(Mod.refl _ _).drew).trans hm5 (fun _ _ h=>h)
  have hS5b:Mod (fun q=>b1<q) w4 w5:=hS5.mono (fun k _ e=>(hv2 k e).1);refine hK _ _ hS5b ?_;clear hK K;try simp only[nmz]
  refine qL rfl (fun K hK=>?_)
  refine wp_gat descE _ _ 161 46 (.agg (qZ descZ)) 35 64 (by rfl) underlying161 desc_i desc_zs (by omega) descE_one w3.heap.size _ ([m.config]++m.layers) (by rfl) hg5 _ m.subs (by rfl) (HS.out.keep hS5 (fun q hq e=>by have:=hsk q hq;have:=hv2 q e;omega)).src (by unfold maxLen;simp;omega) (by simp;omega) (by have:=hS5.size;omega) (fun v6 w6 hg6 hm6=>?_)
  have hm46:Mod NoB w w6:=(HM4.out.trans hS5 (fun k hk e=>by have:=hv2 k e;omega)).trans hm6 (fun k hk e=>by have:=hg5.lt e;omega)
  have hS6b:Mod (fun q=>b1<q) w4 w6:=hS5b.trans hm6 (fun k _ e=>by have:=hg5.lt e;omega)
  have HR:Hid (DescsR w (jR m) (.returned v6) w6):=Lib.hid ⟨hm46,v6,rfl,by rw[HDL.out];exact hg6.base (by omega)⟩;refine hK _ _ hS6b ?_
  clear hm46 hg5 hg6 hm5 hm6 hS5 hS5b hS6b;clear hK K;simp only[stz];clear hS hg4d hc37 hc38;go_wp2;go_ret;exact HR.out
 ·have hkz:¬(m.kind:Int)=3:=by omega
  have hdl:jR m=m.layers++m.subs:=by unfold jR;rw[if_neg hk3];rfl
  have HDL:=Lib.hid hdl;clear hdl;go_upto_region 1 with(fail);refine wpR [3,1,3] ?_;simp only[stz];refine wpXd (v:=(.int .i64 m.kind)) 3 b1 0 hck underlying3 trivial ?_
  try simp only[nmz]
  refine qC (v:=?_) rfl (fun w'=>?_) ?_;rotate_left;·(go_simp;try with_reducible rfl)
  simp only[stz];clear hck hcc;go_upto_region 3 with(fail);have hS:Mod (fun q=>b1<q) w1 w1.drew:=(Mod.refl _ _).drew
  refine wpRP [(0,3),(1,3),(2,0),(4,3),(5,0),(3,1),(6,1),(7,3)] [] (fun w'=>Mod (fun q=>b1<q) w1 w') hS ?_;simp only[stz]
  refine wpLd 161 b1 37 (fun w' hS=>hS.cell (fun e=>Nat.lt_irrefl _ e) hc37) underlying161 ?_;simp only[stz]
  refine wpLd 161 b1 38 (fun w' hS=>hS.cell (fun e=>Nat.lt_irrefl _ e) hc38) underlying161 ?_;simp only[nmz];refine qL rfl (fun K hK=>?_)
  refine wp_gat descE _ _ 161 46 (.agg (qZ descZ)) 35 64 (by rfl) underlying161 desc_i desc_zs (by omega) descE_one w1.heap.size _ [] (by rfl) (Gat.nil _ _ _ _ _) _ m.layers (by rfl) (HL.out.keep hS (fun q hq e=>by have:=hlk q hq;have e':b1<q:=e;omega)).src (by unfold maxLen;simp;omega) (by simp;omega) hS.size (fun v5 w5 hg5 hm5=>?_)
  rw[List.nil_append]at hg5;have hS5:Mod NoB w1 w5:=(show Mod NoB w1 w1.drew from(Mod.refl _ _).drew).trans hm5 (fun k hk e=>by cases e)
  have hS5b:Mod (fun q=>b1<q) w1 w5:=hS5.mono (fun k _ e=>e.elim);refine hK _ _ hS5b ?_;clear hK K;try simp only[nmz]
  refine qL rfl (fun K hK=>?_)
  refine wp_gat descE _ _ 161 46 (.agg (qZ descZ)) 35 64 (by rfl) underlying161 desc_i desc_zs (by omega) descE_one w1.heap.size _ m.layers (by rfl) hg5 _ m.subs (by rfl) (HS.out.keep0 hS5).src (by unfold maxLen;omega) (by omega) hS5.size (fun v6 w6 hg6 hm6=>?_)
  have hm46:Mod NoB w w6:=(HM1.out.trans0 hS5).trans hm6 (fun k hk e=>by have:=hg5.lt e;omega)
  have hS6b:Mod (fun q=>b1<q) w1 w6:=hS5b.trans hm6 (fun k _ e=>by have:=hg5.lt e;omega)
  have HR:Hid (DescsR w (jR m) (.returned v6) w6):=Lib.hid ⟨hm46,v6,rfl,by rw[HDL.out];exact hg6.base (by omega)⟩;refine hK _ _ hS6b ?_
  clear hm46 hg5 hg6 hm5 hm6 hS5 hS5b hS6b;clear hK K;simp only[stz];clear hS hc37 hc38;go_wp2;go_ret;exact HR.out
end
theorem cmarkZ:(prog.info? 152).bind (·.zero)=some (.agg #[.int .i64 0]):=by kernel_rfl
theorem built_cmark(n:Int):prog.built 152 [(0,.int .i64 n)]=some #[.int .i64 n]:=by
 have p:xV prog 152=some [(0,1)]:=by kernel_rfl
 rw[zP cmarkZ p,zC (off:=0) (size:=1) rfl (by rfl) (by simp),xY]
 rfl
theorem built_cmark0:prog.built 152 []=some #[.int .i64 0]:=by kernel_rfl
def marksV(all:Marks):List (List UInt8×Value):=all.map fun p=>(p.1,linkV ((p.2:Nat):Int))
abbrev MarksAt(w:World)(mb:Nat)(all:Marks):Prop:=MapIs idV IdOk w mb (marksV all)
theorem marks_get(id:List UInt8)(all:Marks):getL id (marksV all)=(getL id all).map fun k=>linkV ((k:Nat):Int):=getL_map (fun k:Nat=>linkV (k:Int)) id all
theorem marks_put(id:List UInt8)(k:Nat)(all:Marks):putL id (linkV ((k:Nat):Int)) (marksV all)=marksV (putL id k all):=putL_map (fun k:Nat=>linkV (k:Int)) id k all
def RisingR(w:World)(l:List (List UInt8)):Ending->World->Prop:=fun e w'=>Mod NoB w w'/\∃v ids,e=.returned v/\GatI w.heap.size w' v ids/\ids.Pairwise (fun a b=>a<b)/\ids.Perm l/\∀x∈ids,x.length=32
theorem rising_of{w w1 w':World}{v:Value}{ks:List IdS}{l:List (List UInt8)}(hS:(ks.map (·.1)).Perm l)(hnd:l.Nodup)(hm1:Mod NoB w w1)(hm:Mod NoB w1 w')(hrow:w'.ownsRow w1.heap.size 24 32 v ks.length ((yM ks).flatMap idLS)):RisingR w l (.returned v) w':=by
 have hl:(yM ks).length=ks.length:=(sortIS_perm ks).length_eq
 have hkn:ks.Nodup:=by
  have:(ks.map (·.1)).Nodup:=hS.nodup_iff.2 hnd;exact(List.pairwise_map.1 this).imp fun hne e=>hne (by rw[e])
 refine⟨hm1.trans0 hm,v,(yM ks).map (·.1),rfl,?_,?_,?_,?_⟩
 ·have h1:GatI w1.heap.size w' v ((yM ks).map (·.1)):=by
   unfold GatI Gat;rw[List.length_map,hl,<-idLS_flat];exact hrow
  exact h1.base hm1.size
 ·exact List.pairwise_map.2 (sortIS_sorted hkn)
 ·exact((sortIS_perm ks).map _).trans hS
 ·intro x hx
  obtain⟨k,_,rfl⟩:=List.mem_map.1 hx;exact k.2
theorem clRising_any{w:World}{mb:Nat}{l:List (List UInt8×Value)}(hM:MapIs idV IdOk w mb l)(hlen:l.length<=65536):Calls prog 84 #[.map (some mb)] w (RisingR w (l.map (·.1))):=by
 have hm1:=qW w (.cells #[.map (some mb)] 144);have hB:=heap_alloc_new w (.cells #[.map (some mb)] 144);have hk:=keysC_any w mb;have hnd:=hM.nd
 obtain⟨w1,hw1⟩:∃w1,w.alloc (.cells #[.map (some mb)] 144)=w1:=⟨_,rfl⟩;rw[hw1]at hm1 hB;simp only[hw1]at hk
 have hst:=keysC_stops 2 (by omega) w1 w.heap.size mb l hB (hM.keep0 hm1)
 have hso:=sortedI_of (n:=3) (by omega) 216 #[.pointer (some ⟨w.heap.size,0,none⟩)] (enters_of func216 (by kernel_rfl) rfl) _ _ l.length hlen w1 hst (fun ks h=>by have:=h.length_eq;simp at this;omega)
 clear hst hw1 hB;go_enter func84,ntmps84;go_upto_region 1 with(fail);refine wpR [3,1,1,3] ?_;simp only[stz];refine wpD (wpC func161 (hk) ?_);rintro e wa ⟨rfl,hw⟩
 obtain rfl:=hw.symm;refine⟨_,rfl,?_⟩;try simp only[nmz]
 refine wpD (wpC func160 hso ?_);rintro e w3 ⟨v,ks,rfl,hS,hm3,hrow⟩;have HR:=hid (rising_of hS hnd hm1 hm3 hrow);clear hS hm3 hrow;refine⟨_,rfl,?_⟩;simp only[stz];go_wp2
 go_ret;exact HR.out
theorem swRising_any{w:World}{mb:Nat}{l:List (List UInt8×Value)}(hM:MapIs idV IdOk w mb l)(hlen:l.length<=65536):Calls prog 118 #[.map (some mb)] w (RisingR w (l.map (·.1))):=by
 have hm1:=qW w (.cells #[.map (some mb)] 200);have hB:=heap_alloc_new w (.cells #[.map (some mb)] 200);have hk:=keysW_any w mb;have hnd:=hM.nd
 obtain⟨w1,hw1⟩:∃w1,w.alloc (.cells #[.map (some mb)] 200)=w1:=⟨_,rfl⟩;rw[hw1]at hm1 hB;simp only[hw1]at hk
 have hst:=keysW_stops 2 (by omega) w1 w.heap.size mb l hB (hM.keep0 hm1)
 have hso:=sortedI_of (n:=3) (by omega) 230 #[.pointer (some ⟨w.heap.size,0,none⟩)] (enters_of func230 (by kernel_rfl) rfl) _ _ l.length hlen w1 hst (fun ks h=>by have:=h.length_eq;simp at this;omega)
 clear hst hw1 hB;go_enter func118,ntmps118;go_upto_region 1 with(fail);refine wpR [3,1,1,3] ?_;simp only[stz];refine wpD (wpC func193 (hk) ?_);rintro e wa ⟨rfl,hw⟩
 obtain rfl:=hw.symm;refine⟨_,rfl,?_⟩;try simp only[nmz]
 refine wpD (wpC func160 hso ?_);rintro e w3 ⟨v,ks,rfl,hS,hm3,hrow⟩;have HR:=hid (rising_of hS hnd hm1 hm3 hrow);clear hS hm3 hrow;refine⟨_,rfl,?_⟩;simp only[stz];go_wp2
 go_ret;exact HR.out
section
variable{w:World}{bs ms wd:Nat}{room:Int}{bl:List Blb}
theorem clNone_any(h:StInv w bs ms wd room bl):Calls prog 86 #[.pointer (some ⟨bs,0,none⟩)] w (RetE (.bool false) w):=by
 have hw:=bWidth_any h;have hz:¬(wd:Int)=0:=by have:=h.wok;omega
 clear h;go_enter func86,ntmps86;go_wp2_with (go_at_call 124;refine hw.mono ?_;rintro _ w1 ⟨rfl,hw1⟩;obtain rfl:=hw1.symm);go_ret;have hz2:¬wd=0:=by omega
 exact⟨by simp[hz2],rfl⟩
end
theorem valuesI_any(w:World)(ad:Option Addr)(n cap:Nat):Calls prog 119 #[.slice ad n cap] w fun e w'=>e=.returned (.func (.func 194) #[] #[.pointer (some ⟨w.heap.size,0,none⟩)])/\w'=w.alloc (.cells #[.slice ad n cap] 25):=by
 have hmf:=xG;go_enter func119,ntmps119;go_wp2;go_ret;exact⟨rfl,rfl⟩
def ValRel(ids:List (List UInt8))(J:List (List UInt8)->World->Prop)(W0:World)(i:Value)(w:World):Prop:=
 ∃k:Nat,k<=ids.length/\i=.int .i64 k/\J (ids.take k) w/\KC W0 w
theorem take_split{α:Type}{l:List α}{k:Nat}(hk:k<l.length):l=l.take k++l[k]::l.drop (k+1):=by
 rw[List.getElem_cons_drop hk,List.take_append_drop]
theorem take_snoc{α:Type}{l:List α}{k:Nat}(hk:k<l.length):l.take k++[l[k]]=l.take (k+1):=(List.take_succ_eq_append_getElem hk).symm
theorem valuesI_gives{w:World}{B:Nat}{own:Bool}{G:Nat->Prop}{v:Value}{ids:List (List UInt8)}(hB:w.heap[B]?=some (.cells #[v] 25 (0,0)))(hv:Sl own w G 32 IdC v ids):
 Gives prog 194 #[.pointer (some ⟨B,0,none⟩)] (fun x=>#[idV x]) ids w:=by
 intro y J W hW hJ hY h0;have hBW:=hW.obj id hB;obtain⟨ad,cap,rfl,hle,hat⟩:=Sl.at (hv.keep0 hW);have HAT:=hid hat
 have hcB:W.cell? ⟨B,0,none⟩=some (.slice ad ids.length cap):=by simp[World.cell?,hBW]
 have HR0:Hid (ValRel ids J W (.int .i64 (0:Nat)) W):=hid ⟨0,Nat.zero_le _,rfl,by rw[List.take_zero];exact h0,KC.refl _⟩;clear hB hv hat h0 hW;go_enter func194,ntmps194
 go_upto_region 0 with(fail);refine wpR [1,3,3] ?_;simp only[stz];refine wpXd 25 B 0 hcB underlying25 trivial ?_;try simp only[nmz]
 refine wpPL ?_;simp only[stz];clear hcB hBW;go_wp2
 go_loopw [7] (ValRel ids J W) (fun i _=>ids.length-(intOf i).toNat)
 case atStart=>exact HR0.out
 case round=>
  rename World=>wr
  obtain⟨k,hk,rfl,hJr,hkc⟩:=hrel
  by_cases hlt:k<ids.length
  ·have hz:(k:Int)<(ids.length:Nat):=by omega
   obtain⟨b,off,rfl,-,-,hcc⟩:=HAT.out k hlt;obtain⟨cs,-,⟨rfl,hx32⟩,hcA⟩:=hcc k hlt;have hsp:=take_split hlt;have hsn:=take_snoc hlt;generalize ids[k]=x at*
   have hic:(qA x).size=32:=by rw[qB,hx32]
   have hcr:=hkc.cells hcA;have HSP:=hid hsp;have HSN:=hid hsn;clear hsp hsn hcc hcA;go_upto_region 2 with(fail);refine wpR [3,1,1,1] ?_;simp only[stz]
   refine wpPI underlying25 32 hlt ?_;simp only[nmz];refine wpXA 24 b (off+k*32) (qA x) hcr underlying24 32 hic trivial ?_;try simp only[nmz]
   refine wpD (qN 24 _ (by rfl) idZ (fun w2 hB2 hm2 hs2=>?_));replace hB2:w2.heap[wr.heap.size]?=some (.cells (qA (List.replicate 32 0)) 24 (0,0)):=hB2
   try simp only[nmz]
   refine wpD (qF 24 _ _ wr.heap.size 0 (qA x) (by rfl) (by rfl) (by rfl) (qP _) 32 (by kernel_rfl) hic _ _ hB2 (by rw[hic,qB];simp) (fun w3 hB3 hm3=>?_))
   rw[qD (by rw[hic,qB];simp)]at hB3;simp only[stz];have hmr3:Mod NoB wr w3:=hm2.transB hm3 (Nat.le_refl _);have hJ3:=OwnFrom.mod0 hJ hJr hmr3
   have hk3:=hkc.trans (KC.of0 hmr3);have hYk:=hY _ x _ w3 HSP.out hJ3;have hca:CellsAt w3 wr.heap.size 0 (qA x):=CellsAt.whole hB3
   generalize hb7:wr.heap.size=b7 at*;clear hkc hm2 hm3 hmr3 hB2 hcr hs2 hJr hJ3 hB3;go_upto_region 3 with(fail);refine(wpIn_wide (n:=1)).1 (wpIn_region_lit ?_)
   refine wpListIn_plain rfl fun K hK=>zN (fun c h=>by cases h) ?_;refine zS (exec_move _ (by rfl)) ?_;refine hK _ _ ?_;clear hK K
   refine wpListIn_plain rfl fun K hK=>zN (fun c h=>by cases h) ?_
   refine zS (zK 24 _ (by rfl) b7 0 (by rfl) (qA x) hca _ underlying24 rfl 32 (by kernel_rfl) hic) ?_;refine hK _ _ ?_;clear hK K
   refine wpListIn_plain rfl fun K hK=>wpIn_yield (l:=y) _ _ _ (by rfl) (by rfl) (idV x) (by rfl) hYk (fun e' w5 he'=>?_);obtain⟨rfl,hJ5,hk5,-⟩:=he';refine⟨_,rfl,?_⟩
   refine hK _ _ ?_;clear hK K;refine wpListIn_plain rfl fun K hK=>zN (fun c h=>by cases h) ?_;refine zS (exec_not _ _ true (by rfl) (by rfl)) ?_;refine hK _ _ ?_
   clear hK K;simp only[nmz];refine wpListIn_nil ?_
   have HR:Hid (ValRel ids J W (.int .i64 ((k+1:Nat):Int)) w5):=hid ⟨k+1,by omega,rfl,by rw[<-HSN.out];exact hJ5,hk3.trans hk5⟩;clear hk3 hk5 hJ5 hYk hca;go_wp2
   go_roundw
   case rel=>exact HR.out
   case measure=>simp[intOf];omega
  ·have hz:¬(k:Int)<(ids.length:Nat):=by omega
   obtain rfl:k=ids.length:=by omega
   rw[List.take_length]at hJr;have HJ:=hid hJr;clear hJr;go_wp2
   go_end0
   exact⟨⟨_,rfl⟩,HJ.out⟩
def addsL(ids:List (List UInt8))(all:List (List UInt8×Value)):List (List UInt8×Value):=ids.foldl (fun a x=>putL x (.agg #[]) a) all
theorem addsL_snoc(ids:List (List UInt8))(x:List UInt8)(all:List (List UInt8×Value)):addsL (ids++[x]) all=putL x (.agg #[]) (addsL ids all):=by simp[addsL]
theorem built_wmark:prog.built 216 []=some #[]:=by kernel_rfl
def AddI(w:World)(mb:Nat)(all:List (List UInt8×Value))(pre:List (List UInt8))(W:World):Prop:=
 MapIs idV IdOk W mb (addsL pre all)/\Mod (fun k=>k=mb) w W/\W.heap[w.heap.size]?=some (.cells #[.map (some mb)] 200 (0,0))
theorem addI_own{w:World}{mb:Nat}{all:List (List UInt8×Value)}(hmb:mb<w.heap.size):OwnFrom (w.heap.size+1) (AddI w mb all):=by
 intro s A B row hs hg hr;obtain⟨h1,h2,h3⟩:=hs;have hm:Mod (fun k=>some k=row) A B:=Mod.of_grown hg fun r e=>e.symm
 refine⟨h1.keep hm (fun e=>by have:=(hr _ e.symm).1;omega),h2.trans hm (fun k hk e=>by have:=(hr k e.symm).1;omega),hm.obj (fun e=>by have:=(hr _ e.symm).1;omega) h3⟩
def AddAx(mb:Nat)(fv:Value)(Bs:Nat)(x:List UInt8)(a:Act)(w:World):Prop:=
 ∃Bx,Bs<Bx/\w.heap[Bx]?=some (.cells (qA x) 24 (0,0))/\a={ tmps:=#[.map (some mb),fv,.pointer (some ⟨Bs,0,none⟩),undef,.map none,.pointer (some ⟨Bx,0,none⟩),fv,idV x,undef,undef,undef,undef],defers:=[] }
theorem swAdd_any{w:World}{mb gf:Nat}{lb:Array Value}{ids:List (List UInt8)}{all:List (List UInt8×Value)}(eg:∀args w,(callFunc gf args).run prog w=.ok (.enter gf args) w)(hG:Gives prog gf lb (fun x=>#[idV x]) ids w)
 (hok:∀x∈ids,x.length=32)(hM:MapIs idV IdOk w mb all):
 Calls prog 115 #[.map (some mb),.func (.func gf) #[] lb] w fun e w'=>e=.returned (.map (some mb))/\MapIs idV IdOk w' mb (addsL ids all)/\Mod (fun k=>k=mb) w w':=by
 have hmb:=hM.lt;refine(callsIn_wide (n:=3)).1 (callsIn_of_wp_marks func115 rfl trivial ?_ rfl)
 simp only[ntmps115,List.size_toArray,List.length_cons,List.length_nil,Nat.reduceAdd,Nat.reduceSub,Array.replicate_succ,Array.replicate_zero,List.push_toArray,List.append_toArray,List.nil_append,List.cons_append]
 gi_wp2
 have hm0:=qW w (.cells #[.map (some mb)] 200);have hv0:=heap_alloc_new w (.cells #[.map (some mb)] 200)
 have hs0:(w.alloc (.cells #[.map (some mb)] 200)).heap.size=w.heap.size+1:=by simp
 have hh0:AddI w mb all [] (w.alloc (.cells #[.map (some mb)] 200)):=⟨hM.keep0 hm0,hm0.mono (fun _ _ h=>h.elim),hv0⟩
 generalize w.alloc (.cells #[.map (some mb)] 200)=W0 at*
 refine wpIn_rangeFunc_giv (gf:=gf) (lb:=lb) (by rfl) eg hG hm0 (fun _=>rfl)
  (AddI w mb all) (by rw[hs0];exact addI_own hmb) hh0
  (AddAx mb (.func (.func gf) #[] lb) w.heap.size)
  (fun x a' s A B row hs hg hr=>by
   obtain⟨Bx,hlt,h1,rfl⟩:=hs;refine⟨Bx,hlt,(hg.block Bx (Array.getElem?_eq_some_iff.1 h1).1 (fun e=>?_)).trans h1,rfl⟩;obtain⟨_,o,ho,hc⟩:=hr Bx e.symm
   rw[h1]at ho;cases ho;cases hc)
  ?assign ?body ?done
 case assign=>
  rintro l pre x rest W K hxs ⟨hMW,hmW,hbW⟩ hK0;have hx32:x.length=32:=hok x (by rw[hxs];simp);have hic:(qA x).size=32:=by rw[qB,hx32]
  simp only[List.zip_toArray,List.zip_cons_cons,List.zip_nil_right,List.foldl_toArray',List.foldl_cons,List.foldl_nil,List.setIfInBounds_toArray,ss,sz]
  refine wpIn_region_lit ?_;refine qV rfl rfl fun K hK=>?_;refine qN 24 _ (by rfl) idZ (fun w3 hB3 hm3 hs3=>?_)
  replace hB3:w3.heap[W.heap.size]?=some (.cells (qA (List.replicate 32 0)) 24 (0,0)):=hB3;refine hK _ _ ?_;clear hK K;refine qV rfl rfl fun K hK=>?_
  refine qF 24 _ _ W.heap.size 0 (qA x) (by rfl) (by rfl) (by rfl) (qP x) 32 (by kernel_rfl) hic _ _ hB3 (by rw[hic,qB];simp) (fun w4 hB4 hm4=>?_)
  have hm24:Mod NoB W w4:=hm3.transB hm4 (Nat.le_refl _);rw[qD (by rw[hic,qB];simp)]at hB4;refine hK _ _ ?_;clear hK K;refine wpListIn_nil ?_
  have hlt:=(Array.getElem?_eq_some_iff.1 hbW).1
  refine hK0 _ _ (hm24.keepsOthers0.from _) (KC.of0 hm24) ⟨hMW.keep0 hm24,hmW.trans hm24 (fun _ _ h=>h.elim),hm24.obj id hbW⟩ ⟨W.heap.size,hlt,hB4,rfl⟩
 case body=>
  rintro l pre x rest a' W hxs ⟨hMW,hmW,hbW⟩ ⟨Bx,hBs,hBx,rfl⟩;have hx32:x.length=32:=hok x (by rw[hxs];simp)
  have hic:(qA x).size=32:=by rw[qB,hx32]
  have hca:CellsAt W Bx 0 (qA x):=CellsAt.whole hBx;have hcb:W.cell? ⟨w.heap.size,0,none⟩=some (.map (some mb)):=by simp[World.cell?,hbW]
  refine wpIn_block ?_;refine wpIn_region_lit ?_;refine qV rfl rfl fun K hK=>?_
  refine zS (zA 200 _ (by rfl) w.heap.size 0 (by rfl) _ hcb _ underlying200 rfl) ?_;refine hK _ _ ?_;clear hK K;refine qV rfl rfl fun K hK=>?_
  refine zS (zK 24 _ (by rfl) Bx 0 (by rfl) (qA x) hca _ underlying24 rfl 32 (by kernel_rfl) hic) ?_;refine hK _ _ ?_;clear hK K;simp only[nmz]
  refine qV rfl rfl fun K hK=>?_;refine zS (qO 216 [] [] _ (by rfl) (by rfl) built_wmark) ?_;refine hK _ _ ?_;clear hK K;simp only[nmz]
  refine qV rfl rfl fun K hK=>?_;refine wp_putL keyT_id hMW x hx32 200 216 underlying200 _ _ _ (.agg #[]) (by rfl) (by rfl) (by rfl) (by rfl) (fun w4 hM4 hm4=>?_)
  refine hK _ _ ?_;clear hK K;refine wpListIn_nil ?_
  have hmapb:∃es clk,W.heap[mb]?=some (.map es clk):=by
   obtain⟨⟨es,clk,h1,_⟩,_⟩:=hMW;exact⟨es,clk,h1⟩
  obtain⟨es,clk,hmo⟩:=hmapb;refine⟨?_,KC.of_mod hm4 (fun k o e ho=>?_),?_,?_,?_⟩
  ·exact KeepsFrom.of_grownBy hm4.grownAt (fun j e=>by cases e;omega)
  ·have e:k=mb:=e
   subst e;rw[hmo]at ho;cases ho;rfl
  ·rw[addsL_snoc];exact hM4
  ·exact hmW.trans hm4 (fun _ _ h=>h)
  ·exact hm4.obj (fun e=>by have e:w.heap.size=mb:=e;omega) hbW
 case done=>
  rintro D W hD ⟨hMW,hmW,hbW⟩ hK;have hcb:W.cell? ⟨w.heap.size,0,none⟩=some (.map (some mb)):=by simp[World.cell?,hbW]
  gi_wp2
  refine⟨by simp,.inl ⟨_,_,rfl,run_takeDeferred hK,?_⟩⟩;refine⟨_,results_tmp rfl _ _ _,rfl,?_,?_⟩
  ·refine hMW.keep ((Mod.refl (fun k=>k=D) W).grown (grownBy_putObj' W D _) (fun k e _=>by cases e;rfl)) (fun e=>by have e:mb=D:=e;omega)
  ·refine hmW.trans ((Mod.refl (fun k=>k=D) W).grown (grownBy_putObj' W D _) (fun k e _=>by cases e;rfl)) (fun k hk e=>by have e:k=D:=e;omega)
theorem Sl.kc{α:Type}{w w':World}{G:Nat->Prop}{sz:Nat}{R R':Array Value->α->Prop}{v:Value}{l:List α}(h:Sl false w G sz R v l)(hm:KC w w')(hR:∀cs x,R cs x->R' cs x):Sl false w' G sz R' v l:=by
 obtain⟨a,cap,hv,hl,hc,h⟩:=h;refine⟨a,cap,hv,hl,hc,fun hne=>?_⟩;obtain⟨b,off,ha,hG,-,hi⟩:=h hne
 refine⟨b,off,ha,hG,fun e=>(by cases e),fun i hlt=>?_⟩;obtain⟨cs,h1,h2,h3⟩:=hi i hlt;exact⟨cs,h1,hR _ _ h2,hm.cells h3⟩
abbrev AnyB:Nat->Prop:=fun _=>True
abbrev HeldL:=(Int×Int)×List UInt8
def xN(h:HeldL):Array Value:=#[.int .i64 h.1.1,.int .i64 h.1.2]++qA h.2
def HeldC(cs:Array Value)(h:HeldL):Prop:=cs=xN h/\h.2.length=32
theorem heldCells_one(h:HeldL):∀c∈xN h,c.oneCell'=true:=by
 intro c hc;simp only[xN,Array.mem_append]at hc
 rcases hc with hc|hc
 ·simp at hc;rcases hc with rfl|rfl<;>rfl
 ·exact qP _ c hc
theorem jQ{h:HeldL}(hh:h.2.length=32):(xN h).size=34:=by simp[xN,qB,hh]
abbrev RowX:=Value×List HeldL
def RowAt(w:World)(x:RowX):Prop:=Sl false w AnyB 34 HeldC x.1 x.2
theorem RowAt.kc{w w':World}{x:RowX}(h:RowAt w x)(hm:KC w w'):RowAt w' x:=Sl.kc h hm fun _ _ h=>h
theorem RowAt.one{w:World}{x:RowX}(h:RowAt w x):x.1.oneCell'=true:=Sl.one h
structure TagX where
 name:ByteArray
 row:RowX
structure RepX where
 name:ByteArray
 tv:Value
 tags:List TagX
 man:RowX
def TagC(w:World)(cs:Array Value)(t:TagX):Prop:=cs=#[.string t.name,t.row.1]/\RowAt w t.row
structure RepAt(w:World)(r:RepX):Prop where
 tags:Sl false w AnyB 2 (TagC w) r.tv r.tags
 man:RowAt w r.man
def RepC(w:World)(cs:Array Value)(r:RepX):Prop:=cs=#[.string r.name,r.tv,r.man.1]/\RepAt w r
theorem RepAt.kc{w w':World}{r:RepX}(h:RepAt w r)(hm:KC w w'):RepAt w' r:=⟨Sl.kc h.tags hm fun _ _ h=>⟨h.1,h.2.kc hm⟩,h.man.kc hm⟩
abbrev RepsAt(w:World)(v:Value)(l:List RepX):Prop:=Sl false w AnyB 3 (RepC w) v l
theorem repsAt_kc{w w':World}{v:Value}{l:List RepX}(h:RepsAt w v l)(hm:KC w w'):RepsAt w' v l:=Sl.kc h hm fun _ _ h=>⟨h.1,h.2.kc hm⟩
def repRows(r:RepX):List RowX:=r.tags.map (·.row)++[r.man]
def rowsX(l:List RepX):List RowX:=l.flatMap repRows
theorem rowsX_app(a b:List RepX):rowsX (a++b)=rowsX a++rowsX b:=List.flatMap_append
theorem rowsX_cons(r:RepX)(b:List RepX):rowsX (r::b)=(r.tags.map (·.row)++[r.man])++rowsX b:=List.flatMap_cons
theorem rowsX_tag(l:List RepX)(k:Nat)(hk:k<l.length)(m:Nat)(hm:m<l[k].tags.length):∃rest,rowsX l=(rowsX (l.take k)++(l[k].tags.take m).map (·.row))++l[k].tags[m].row::rest:=by
 have h1:=congrArg rowsX (take_split hk);have h2:=congrArg (List.map (·.row)) (take_split hm);rw[rowsX_app,rowsX_cons]at h1;rw[List.map_append,List.map_cons]at h2
 refine⟨(l[k].tags.drop (m+1)).map (·.row)++[l[k].man]++rowsX (l.drop (k+1)),?_⟩;rw[h1,h2];simp only[List.append_assoc,List.cons_append]
theorem rowsX_man(l:List RepX)(k:Nat)(hk:k<l.length):∃rest,rowsX l=(rowsX (l.take k)++l[k].tags.map (·.row))++l[k].man::rest:=by
 have h1:=congrArg rowsX (take_split hk);rw[rowsX_app,rowsX_cons]at h1;refine⟨rowsX (l.drop (k+1)),?_⟩;rw[h1]
 simp only[List.append_assoc,List.cons_append,List.nil_append]
theorem rowsX_succ(l:List RepX)(k:Nat)(hk:k<l.length):rowsX (l.take (k+1))=(rowsX (l.take k)++l[k].tags.map (·.row))++[l[k].man]:=by
 have h1:=congrArg rowsX (List.take_succ_eq_append_getElem hk);rw[rowsX_app,rowsX_cons]at h1;rw[h1];simp only[List.append_assoc,rowsX,List.flatMap_nil,List.append_nil]
theorem tableZ:(prog.info? 71).bind (·.zero)=some (.agg #[.slice none 0 0,.slice none 0 0]):=by kernel_rfl
theorem swRts_any(w:World)(vv rv:Value)(h1:vv.oneCell'=true)(h2:rv.oneCell'=true):Calls prog 117 #[.agg #[vv,rv]] w fun e w'=>e=.returned (.func (.func 192) #[] #[.pointer (some ⟨w.heap.size,0,none⟩)])/\w'=w.alloc (.cells #[vv,rv] 71):=by
 have hmf:=xG;go_enter func117,ntmps117;go_wp2;go_ret;exact⟨rfl,rfl⟩
theorem swIds_any(w:World)(f:Fn)(lb:Array Value):Calls prog 116 #[.func f #[] lb] w fun e w'=>e=.returned (.func (.func 191) #[] #[.pointer (some ⟨w.heap.size,0,none⟩)])/\w'=w.alloc (.cells #[.func f #[] lb] 206):=by
 have hmf:=xG;go_enter func116,ntmps116;go_wp2;go_ret;exact⟨rfl,rfl⟩
theorem exec_fieldAddr{P:Program}{o:Oper}{a:Act}{w:World}(s:TypeId)(x:Operand)(f k b off:Nat)(ho:o.op=.fieldAddr s x f)(hx:a.eval x=.pointer (some ⟨b,off,none⟩))(hk:qS P s f=some k):(execOp a.eval o).run P w=.ok (.value (.pointer (some ⟨b,off+k,none⟩))) w:=by
 unfold execOp;simp only[ho,hx,Sem.run_bind,run_fieldAt hk,Result.andThen_ok,Sem.run_pure]
theorem repZ:(prog.info? 186).bind (·.zero)=some (.agg #[.string ⟨#[]⟩,.slice none 0 0,.slice none 0 0]):=by kernel_rfl
theorem tagZ:(prog.info? 188).bind (·.zero)=some (.agg #[.string ⟨#[]⟩,.slice none 0 0]):=by kernel_rfl
def RtsRel(reps:List RepX)(J:List RowX->World->Prop)(W0:World)(i:Value)(w:World):Prop:=
 ∃k:Nat,k<=reps.length/\i=.int .i64 k/\J (rowsX (reps.take k)) w/\KC W0 w
def TgsRel(pre:List RowX)(tags:List TagX)(J:List RowX->World->Prop)(W0:World)(i:Value)(w:World):Prop:=
 ∃m:Nat,m<=tags.length/\i=.int .i64 m/\J (pre++(tags.take m).map (·.row)) w/\KC W0 w
theorem swRts_gives{w:World}{B:Nat}{vv rv:Value}{reps:List RepX}(hB:w.heap[B]?=some (.cells #[vv,rv] 71 (0,0)))(hv:RepsAt w rv reps):
 Gives prog 192 #[.pointer (some ⟨B,0,none⟩)] (fun x:RowX=>#[x.1]) (rowsX reps) w:=by
 intro y J W hW hJ hY h0;have hBW:=hW.obj id hB;have hvW:RepsAt W rv reps:=repsAt_kc hv (KC.of0 hW);have hone:=Sl.one hv;obtain⟨ad,cap,rfl,hle,hat⟩:=Sl.at hvW
 have HAT:=hid hat;have hcB:W.cell? ⟨B,0+1,none⟩=some (.slice ad reps.length cap):=by simp[World.cell?,hBW]
 have HR0:Hid (RtsRel reps J W (.int .i64 (0:Nat)) W):=hid ⟨0,Nat.zero_le _,rfl,by rw[List.take_zero];exact h0,KC.refl _⟩;clear hB hv hat h0 hW hvW hone
 go_enter func192,ntmps192;go_upto_region 0 with(fail);refine wpR [3,1,3,3] ?_;simp only[stz];refine wpXd 69 B (0+1) hcB underlying69 trivial ?_;try simp only[nmz]
 refine wpPL ?_;simp only[stz];clear hcB hBW;go_wp2
 go_loopw [10] (RtsRel reps J W) (fun i _=>reps.length-(intOf i).toNat)
 case atStart=>exact HR0.out
 case round=>
  rename World=>wr
  obtain⟨k,hk,rfl,hJr,hkc⟩:=hrel
  by_cases hlt:k<reps.length
  ·have hz:(k:Int)<(reps.length:Nat):=by omega
   obtain⟨b,off,rfl,-,-,hcc⟩:=HAT.out k hlt;obtain⟨cs,-,⟨rfl,hra⟩,hcA⟩:=hcc k hlt;have hsm:=rowsX_man reps k hlt;have hst:=rowsX_tag reps k hlt
   have hsn:=rowsX_succ reps k hlt;generalize reps[k]=x at*;have hic:(#[Value.string x.name,x.tv,x.man.1]:Array Value).size=3:=rfl
   have h1x:∀c∈(#[Value.string x.name,x.tv,x.man.1]:Array Value),c.oneCell'=true:=by
    intro c hc
    simp at hc
    rcases hc with rfl|rfl|rfl
    ·rfl
    ·exact Sl.one hra.tags
    ·exact hra.man.one
   have hcr:=hkc.cells hcA;have HRA:=hid hra;have HSM:=hid hsm;have HST:=hid hst;have HSN:=hid hsn;clear hsm hst hsn hcc hcA hra;go_upto_region 2 with(fail)
   refine wpR [3,1,1,1] ?_;simp only[stz];refine wpPI underlying69 3 hlt ?_;simp only[nmz]
   refine wpXA 186 b (off+k*3) #[Value.string x.name,x.tv,x.man.1] hcr underlying186 3 hic trivial ?_;try simp only[nmz]
   refine wpD (qN 186 _ (by rfl) repZ (fun w2 hB2 hm2 hs2=>?_))
   replace hB2:w2.heap[wr.heap.size]?=some (.cells #[.string ⟨#[]⟩,.slice none 0 0,.slice none 0 0] 186 (0,0)):=hB2;try simp only[nmz]
   refine wpD (qF 186 _ _ wr.heap.size 0 #[Value.string x.name,x.tv,x.man.1] (by rfl) (by rfl) (by rfl) h1x 3 (by kernel_rfl) hic _ _ hB2 (by simp) (fun w3 hB3 hm3=>?_))
   rw[qD (by simp)]at hB3;simp only[stz];have hmr3:Mod NoB wr w3:=hm2.transB hm3 (Nat.le_refl _);have hJ3:=OwnFrom.mod0 hJ hJr hmr3
   have hk3:=hkc.trans (KC.of0 hmr3);have hra3:=HRA.out.kc hk3;generalize hb7:wr.heap.size=b7 at*;obtain⟨ta,tcap,htv,htle,htat⟩:=Sl.at hra3.tags
   have HTAT:=hid htat;have HMAN:=hid hra3.man;have hcT:w3.cell? ⟨b7,0+1,none⟩=some (.slice ta x.tags.length tcap):=by rw[<-htv];simp[World.cell?,hB3]
   have hcM:w3.cell? ⟨b7,0+2,none⟩=some x.man.1:=by simp[World.cell?,hB3]
   have hmn1:=hra3.man.one;have HT0:Hid (TgsRel (rowsX (reps.take k)) x.tags J w3 (.int .i64 (0:Nat)) w3):=hid ⟨0,Nat.zero_le _,rfl,by simpa using hJ3,KC.refl _⟩
   have HK3:=hid hk3;clear hkc hm2 hm3 hmr3 hB2 hcr hs2 hJr hJ3 hB3 htat hra3 h1x htv hk3;go_upto_region 3 with(fail);refine wpR [3,1,3,3] ?_;simp only[stz]
   refine wpXd 183 b7 (0+1) hcT underlying183 trivial ?_;try simp only[nmz]
   refine wpPL ?_;simp only[stz];clear hcT;go_wp2
   go_loopw [17] (TgsRel (rowsX (reps.take k)) x.tags J w3) (fun i _=>x.tags.length-(intOf i).toNat)
   case atStart=>exact HT0.out
   case round=>
    rename World=>wq
    obtain⟨m,hmle,rfl,hJq,hkq⟩:=hrel
    by_cases hltm:m<x.tags.length
    ·have hzm:(m:Int)<(x.tags.length:Nat):=by omega
     obtain⟨tb,toff,rfl,-,-,htcc⟩:=HTAT.out m hltm;obtain⟨cs,-,⟨rfl,hta⟩,htA⟩:=htcc m hltm;obtain⟨rest,hsp⟩:=HST.out m hltm
     have hsn:(x.tags.take m).map (·.row)++[x.tags[m].row]=(x.tags.take (m+1)).map (·.row):=by have h9:=congrArg (List.map (·.row)) (take_snoc hltm);rw[List.map_append]at h9;exact h9
     generalize x.tags[m]=t at*;have hict:(#[Value.string t.name,t.row.1]:Array Value).size=2:=rfl
     have h1t:∀c∈(#[Value.string t.name,t.row.1]:Array Value),c.oneCell'=true:=by
      intro c hc
      simp at hc
      rcases hc with rfl|rfl
      ·rfl
      ·exact hta.one
     have h1r:=hta.one;have hctr:=hkq.cells htA;have HSP:=hid hsp;have HSQ:=hid hsn;clear hsp hsn htcc htA hta;go_upto_region 5 with(fail);refine wpR [3,1,1,1] ?_
     simp only[stz];refine wpPI underlying183 2 hltm ?_;simp only[nmz];refine wpXA 188 tb (toff+m*2) #[Value.string t.name,t.row.1] hctr underlying188 2 hict trivial ?_
     try simp only[nmz]
     refine wpD (qN 188 _ (by rfl) tagZ (fun w2 hB2 hm2 hs2=>?_));replace hB2:w2.heap[wq.heap.size]?=some (.cells #[.string ⟨#[]⟩,.slice none 0 0] 188 (0,0)):=hB2
     try simp only[nmz]
     refine wpD (qF 188 _ _ wq.heap.size 0 #[Value.string t.name,t.row.1] (by rfl) (by rfl) (by rfl) h1t 2 (by kernel_rfl) hict _ _ hB2 (by simp) (fun w4 hB4 hm4=>?_))
     rw[qD (by simp)]at hB4;simp only[stz];have hmr4:Mod NoB wq w4:=hm2.transB hm4 (Nat.le_refl _);have hJ4:=OwnFrom.mod0 hJ hJq hmr4
     have hk4:=hkq.trans (KC.of0 hmr4);have hYk:=hY _ t.row _ w4 HSP.out hJ4;have hcR:w4.cell? ⟨wq.heap.size,0+1,none⟩=some t.row.1:=by simp[World.cell?,hB4]
     generalize hb9:wq.heap.size=b9 at*;clear hkq hm2 hm4 hmr4 hB2 hctr hs2 hJq hJ4 hB4 h1t;go_upto_region 6 with(fail);refine(wpIn_wide (n:=1)).1 (wpIn_region_lit ?_)
     refine wpListIn_plain rfl fun K hK=>zN (fun c h=>by cases h) ?_;refine zS (exec_move _ (by rfl)) ?_;refine hK _ _ ?_;clear hK K
     refine wpListIn_plain rfl fun K hK=>zN (fun c h=>by cases h) ?_;refine zS (exec_fieldAddr 188 _ 1 1 b9 0 (by rfl) (by rfl) (by kernel_rfl)) ?_
     refine hK _ _ ?_;clear hK K;simp only[nmz];refine wpListIn_plain rfl fun K hK=>zN (fun c h=>by cases h) ?_
     refine zS (zA 184 _ (by rfl) b9 (0+1) (by rfl) _ hcR _ underlying184 rfl) ?_;refine hK _ _ ?_;clear hK K
     refine wpListIn_plain rfl fun K hK=>wpIn_yield (l:=y) _ _ _ (by rfl) (by rfl) t.row.1 (by rfl) hYk (fun e' w5 he'=>?_);obtain⟨rfl,hJ5,hk5,-⟩:=he'
     refine⟨_,rfl,?_⟩;refine hK _ _ ?_;clear hK K;refine wpListIn_plain rfl fun K hK=>zN (fun c h=>by cases h) ?_
     refine zS (exec_not _ _ true (by rfl) (by rfl)) ?_;refine hK _ _ ?_;clear hK K;simp only[nmz];refine wpListIn_nil ?_
     have HQ:Hid (TgsRel (rowsX (reps.take k)) x.tags J w3 (.int .i64 ((m+1:Nat):Int)) w5):=hid ⟨m+1,by omega,rfl,by rw[<-HSQ.out,<-List.append_assoc];exact hJ5,hk4.trans hk5⟩
     clear hk4 hk5 hJ5 hYk hcR;go_wp2
     go_roundw
     case rel=>exact HQ.out
     case measure=>simp[intOf];omega
    ·have hzm:¬(m:Int)<(x.tags.length:Nat):=by omega
     obtain rfl:m=x.tags.length:=by omega
     rw[List.take_length]at hJq;obtain⟨rest,hsp⟩:=HSM.out;have hYk:=hY _ x.man _ wq hsp hJq;have hcQ:=hkq.cell hcM;have hkk:=HK3.out.trans hkq;clear hsp hJq hkq
     go_upto_region 8 with(fail);refine(wpIn_wide (n:=1)).1 (wpIn_region_lit ?_);refine wpListIn_plain rfl fun K hK=>zN (fun c h=>by cases h) ?_
     refine zS (exec_move _ (by rfl)) ?_;refine hK _ _ ?_;clear hK K;refine wpListIn_plain rfl fun K hK=>zN (fun c h=>by cases h) ?_
     refine zS (exec_fieldAddr 186 _ 2 2 b7 0 (by rfl) (by rfl) (by kernel_rfl)) ?_;refine hK _ _ ?_;clear hK K;simp only[nmz]
     refine wpListIn_plain rfl fun K hK=>zN (fun c h=>by cases h) ?_;refine zS (zA 184 _ (by rfl) b7 (0+2) (by rfl) _ hcQ _ underlying184 rfl) ?_
     refine hK _ _ ?_;clear hK K;refine wpListIn_plain rfl fun K hK=>wpIn_yield (l:=y) _ _ _ (by rfl) (by rfl) x.man.1 (by rfl) hYk (fun e' w5 he'=>?_)
     obtain⟨rfl,hJ5,hk5,-⟩:=he';refine⟨_,rfl,?_⟩;refine hK _ _ ?_;clear hK K;refine wpListIn_plain rfl fun K hK=>zN (fun c h=>by cases h) ?_
     refine zS (exec_not _ _ true (by rfl) (by rfl)) ?_;refine hK _ _ ?_;clear hK K;simp only[nmz];refine wpListIn_nil ?_
     have HR:Hid (RtsRel reps J W (.int .i64 ((k+1:Nat):Int)) w5):=hid ⟨k+1,by omega,rfl,by rw[HSN.out];exact hJ5,hkk.trans hk5⟩;clear hkk hk5 hJ5 hYk hcQ;go_wp2
     go_roundw
     case rel=>exact HR.out
     case measure=>simp[intOf];omega
  ·have hz:¬(k:Int)<(reps.length:Nat):=by omega
   obtain rfl:k=reps.length:=by omega
   rw[List.take_length]at hJr;have HJ:=hid hJr;clear hJr;go_wp2
   go_end0
   exact⟨⟨_,rfl⟩,HJ.out⟩
attribute [local go_sem] Oper.semAt_some
theorem exec_assign{P:Program}{o:Oper}{a:Act}{w:World}(x:Operand)(ho:o.op=.assign x):(execOp a.eval o).run P w=.ok (.value (a.eval x)) w:=by
 unfold execOp;simp only[ho];rfl
theorem exec_indexAddr{P:Program}{o:Oper}{a:Act}{w:World}(t:TypeId)(x y:Operand)(e:TypeId)(b off len cap n i:Nat)(ho:o.op=.indexAddr t x y)(hx:a.eval x=.slice (some ⟨b,off,none⟩) len cap)(hy:a.eval y=.int .i64 i)(hu:P.underlying t=some (.slice e))
 (hi:(P.info? e).map (·.size)=some n)(hlt:i<len):(execOp a.eval o).run P w=.ok (.value (.pointer (some ⟨b,off+i*n,none⟩))) w:=by
 unfold execOp;simp only[ho,hx,hy,Sem.run_bind,run_indexAt_slice hu hi hlt,Result.andThen_ok,Sem.run_pure]
theorem heldZ:(prog.info? 211).bind (·.zero)=some (.agg (xN ((0,0),List.replicate 32 0))):=by kernel_rfl
def jK(rows:List RowX):List (List UInt8):=rows.flatMap fun r=>r.2.map (·.2)
def IdsI(J:List (List UInt8)->World->Prop)(W0:World)(pre:List RowX)(W:World):Prop:=J (jK pre) W/\KC W0 W
theorem KC.own{β:Type}(W0:World)(B:Nat):OwnFrom B (fun(_:β) W=>KC W0 W):=fun s A C row hs hg hr=>
 hs.trans (KC.of_mod (Mod.of_grown hg fun r e=>e.symm) (S:=fun k=>some k=row) (fun k o e ho=>by
  obtain⟨_,o',ho',hc⟩:=hr k e.symm
  rw[ho]at ho';cases ho';exact hc))
def IdsAx(y B Bs:Nat)(fv:Value)(x:RowX)(a:Act)(_:World):Prop:=
 a={ tmps:=#[.func (.yield y) #[] #[],.pointer (some ⟨B,0,none⟩),.pointer (some ⟨Bs,0,none⟩),x.1,undef,undef,fv,x.1,undef,undef,undef,undef,undef,undef,undef,undef,undef,undef,undef,undef],defers:=[] }
theorem wpIn_yieldR{P:Program}{n l₀:Nat}{o:Oper}{a:Act}{w:World}{K:Act->World->Prop}{Q:Exit->Act->World->Prop}{l:Nat}{R:Ending->World->Prop}(x y:Operand)(ts:Array TypeId)(ho:o.op=.call { callee:=.value x,args:=#[y],argTypes:=ts })(hx:a.eval x=.func (.yield l) #[] #[])(v:Value)(hv:a.eval y=v)
 (hy:YieldAt Fence.wide 0 P l #[v] w R)(hR:∀e w',R e w'->∃v,e=.returned v/\K (a.put o.dst v) w'):o.wpIn (Fence.wide.inRound l₀) n P a w K Q:=by
 subst hv;obtain⟨fn,tmps,assign,body,hrun,hround⟩:=yield_round (l₀:=l₀) (yield0 (m':=n-1) hy);unfold Oper.wpIn;refine⟨fun _ _=>trivial,?_⟩
 rw[Oper.semAt_eq _ _ _ (fun c h=>by rw[ho]at h;cases h)]
 have e:(execOp a.eval o).run P w=.ok (.round l fn tmps assign body) w:=by
  unfold execOp
  simp[ho,resolve,hx,Deferred.ofValue,invoke,hrun]
 rw[e];refine⟨fun h=>by simp[Fence.wide]at h,hround.mono fun e w' he=>?_⟩;obtain⟨v,rfl,hk⟩:=hR e w' he;exact hk
def HlsRel(pre:List (List UInt8))(hs:List HeldL)(J:List (List UInt8)->World->Prop)(B:Nat)(W0:World)(i:Value)(w:World):Prop:=
 ∃k:Nat,k<=hs.length/\i=.int .i64 k/\J (pre++(hs.take k).map (·.2)) w/\KC W0 w/\KeepsFrom B W0 w
theorem rowIds_app(a b:List RowX):jK (a++b)=jK a++jK b:=List.flatMap_append
theorem rowIds_cons(r:RowX)(b:List RowX):jK (r::b)=r.2.map (·.2)++jK b:=List.flatMap_cons
theorem rowIds_split{rows pre rest:List RowX}{v:Value}{hs:List HeldL}(h:rows=pre++(v,hs)::rest)(k:Nat)(hk:k<hs.length):∃r,jK rows=(jK pre++(hs.take k).map (·.2))++hs[k].2::r:=by
 have h2:=congrArg (List.map (·.2)) (take_split hk);rw[List.map_append,List.map_cons]at h2;refine⟨(hs.drop (k+1)).map (·.2)++jK rest,?_⟩
 rw[h,rowIds_app,rowIds_cons]
 show jK pre++(hs.map (·.2)++jK rest)=_
 rw[h2];simp only[List.append_assoc,List.cons_append]
theorem swIds_gives{w:World}{B gf:Nat}{lb:Array Value}{rows:List RowX}(eg:∀args w,(callFunc gf args).run prog w=.ok (.enter gf args) w)(hB:w.heap[B]?=some (.cells #[.func (.func gf) #[] lb] 206 (0,0)))
 (hG:Gives prog gf lb (fun x:RowX=>#[x.1]) rows w)(hrows:∀r∈rows,RowAt w r):
 Gives prog 191 #[.pointer (some ⟨B,0,none⟩)] (fun x=>#[idV x]) (jK rows) w:=by
 intro y J W hW hJ hY h0;have hBW:=hW.obj id hB;have hcB:W.cell? ⟨B,0,none⟩=some (.func (.func gf) #[] lb):=by simp[World.cell?,hBW]
 refine(callsIn_wide (n:=3)).1 (callsIn_of_wp_marks func191 rfl trivial ?_ rfl)
 simp only[ntmps191,List.size_toArray,List.length_cons,List.length_nil,Nat.reduceAdd,Nat.reduceSub,Array.replicate_succ,Array.replicate_zero,List.push_toArray,List.append_toArray,List.nil_append,List.cons_append]
 have hm0:=qW W (.cells #[.func (.yield y) #[] #[]] 44);have hv0:=heap_alloc_new W (.cells #[.func (.yield y) #[] #[]] 44)
 have hs0:(W.alloc (.cells #[.func (.yield y) #[] #[]] 44)).heap.size=W.heap.size+1:=by simp
 have hcB0:(W.alloc (.cells #[.func (.yield y) #[] #[]] 44)).cell? ⟨B,0,none⟩=some (.func (.func gf) #[] lb):=(KC.of0 hm0).cell hcB
 gi_wp2
 generalize W.alloc (.cells #[.func (.yield y) #[] #[]] 44)=W0 at*
 refine wpIn_rangeFunc_giv (gf:=gf) (lb:=lb) (by rfl) eg hG (hW.trans0 hm0) (fun _=>rfl)
  (IdsI J W0) ?own ⟨OwnFrom.mod0 hJ h0 hm0,KC.refl _⟩
  (IdsAx y B W.heap.size (.func (.func gf) #[] lb))
  (fun x a' s A C row hs hg hr=>hs)
  ?assign ?body ?done
 case own=>
  intro s A C row hs hg hr;exact⟨hJ _ A C row hs.1 hg (fun r e=>⟨by have:=(hr r e).1;omega,(hr r e).2⟩),KC.own (β:=Unit) W0 _ () A C row hs.2 hg hr⟩
 case assign=>
  rintro l pre x rest Wc K hxs hI hK0
  simp only[List.zip_toArray,List.zip_cons_cons,List.zip_nil_right,List.foldl_toArray',List.foldl_cons,List.foldl_nil,List.setIfInBounds_toArray,ss,sz]
  refine wpIn_region_lit ?_;refine qV rfl rfl fun K hK=>?_;refine zS (exec_assign _ (by rfl)) ?_;refine hK _ _ ?_;clear hK K;refine wpListIn_nil ?_
  exact hK0 _ _ (KeepsFrom.refl _ _) (KC.refl _) hI rfl
 case body=>
  rintro l pre x rest a' Wc hxs ⟨hJc,hkc⟩ rfl;have hrc:RowAt Wc x:=(hrows x (by rw[hxs];simp)).kc (((KC.of0 hW).trans (KC.of0 hm0)).trans hkc);obtain⟨v,hs⟩:=x
  replace hrc:Sl false Wc AnyB 34 HeldC v hs:=hrc;obtain⟨ad,cap,rfl,hle,hat⟩:=Sl.at hrc;have HAT:=hid hat;have hcY:=hkc.obj hv0 rfl
  have HR0:Hid (HlsRel (jK pre) hs J W0.heap.size Wc (.int .i64 (0:Nat)) Wc):=hid ⟨0,Nat.zero_le _,rfl,by simpa using hJc,KC.refl _,KeepsFrom.refl _ _⟩
  have HSP:=hid (rowIds_split hxs);clear hat hrc hW hBW hcB hG hrows hcB0 hB
  gi_wp2
  gi_loopw [10] (HlsRel (jK pre) hs J W0.heap.size Wc) (fun i _=>hs.length-(intOf i).toNat)
  case atStart=>exact HR0.out
  case round=>
   rename World=>wr
   obtain⟨k,hk,rfl,hJr,hkr,hfr⟩:=hrel
   by_cases hlt:k<hs.length
   ·have hz:(k:Int)<(hs.length:Nat):=by omega
    obtain⟨b,off,rfl,-,-,hcc⟩:=HAT.out k hlt;obtain⟨cs,-,⟨rfl,hx32⟩,hcA⟩:=hcc k hlt;obtain⟨rest',hsp⟩:=HSP.out k hlt
    have hsn:(hs.take k).map (·.2)++[hs[k].2]=(hs.take (k+1)).map (·.2):=by have h9:=congrArg (List.map (·.2)) (take_snoc hlt);rw[List.map_append]at h9;exact h9
    generalize hs[k]=h at*;have hic:(xN h).size=34:=jQ hx32;have hidc:(qA h.2).size=32:=by rw[qB,hx32]
    have hcr:=hkr.cells hcA;have HSN:=hid hsn;have HSQ:=hid hsp;clear hsp hsn hcc hcA
    gi_upto_region 5 with(fail)
    refine wpIn_region_lit ?_;refine qV rfl rfl fun K hK=>?_
    refine zS (exec_indexAddr 184 _ _ 211 b off hs.length cap 34 k (by rfl) (by rfl) (by rfl) underlying184 (by kernel_rfl) hlt) ?_;refine hK _ _ ?_;clear hK K;simp only[nmz]
    refine qV rfl rfl fun K hK=>?_;refine zS (zK 211 _ (by rfl) b (off+k*34) (by rfl) (xN h) hcr _ underlying211 rfl 34 (by kernel_rfl) hic) ?_
    refine hK _ _ ?_;clear hK K;simp only[nmz];refine qV rfl rfl fun K hK=>?_;refine qN 211 _ (by rfl) heldZ (fun w2 hB2 hm2 hs2=>?_)
    replace hB2:w2.heap[wr.heap.size]?=some (.cells (xN ((0,0),List.replicate 32 0)) 211 (0,0)):=hB2;refine hK _ _ ?_;clear hK K;simp only[nmz]
    refine qV rfl rfl fun K hK=>?_
    refine qF 211 _ _ wr.heap.size 0 (xN h) (by rfl) (by rfl) (by rfl) (heldCells_one _) 34 (by kernel_rfl) hic _ _ hB2 (by rw[hic,jQ (by simp)];omega) (fun w3 hB3 hm3=>?_)
    rw[qD (by rw[hic,jQ (by simp)])]at hB3;refine hK _ _ ?_;clear hK K;refine wpListIn_nil ?_;have hmr3:Mod NoB wr w3:=hm2.transB hm3 (Nat.le_refl _)
    have hJ3:=OwnFrom.mod0 hJ hJr hmr3;have hk3:=hkr.trans (KC.of0 hmr3);have hf3:KeepsFrom W0.heap.size Wc w3:=hfr.trans (hmr3.keepsOthers0.from _)
    have hYk:=hY _ h.2 _ w3 HSQ.out hJ3;have hcY3:w3.cell? ⟨W.heap.size,0,none⟩=some (.func (.yield y) #[] #[]):=by simp[World.cell?,hk3.obj hcY rfl]
    have hcI:CellsAt w3 wr.heap.size (0+2) (qA h.2):=CellsAt.of_obj hB3 fun j hj=>by
     show(#[Value.int .i64 h.1.1,Value.int .i64 h.1.2]++qA h.2)[0+2+j]?=_
     rw[Array.getElem?_append_right (by simp)]
     simp
    generalize hb7:wr.heap.size=b7 at*;clear hkr hm2 hm3 hmr3 hB2 hcr hs2 hJr hJ3 hB3 hfr
    gi_upto_region 6 with(fail)
    refine wpIn_region_lit ?_;refine qV rfl rfl fun K hK=>?_;refine zS (zA 44 _ (by rfl) W.heap.size 0 (by rfl) _ hcY3 _ underlying44 rfl) ?_
    refine hK _ _ ?_;clear hK K;refine qV rfl rfl fun K hK=>?_;refine zS (exec_fieldAddr 211 _ 1 2 b7 0 (by rfl) (by rfl) (by kernel_rfl)) ?_;refine hK _ _ ?_
    clear hK K;simp only[nmz];refine qV rfl rfl fun K hK=>?_
    refine zS (zK 24 _ (by rfl) b7 (0+2) (by rfl) (qA h.2) hcI _ underlying24 rfl 32 (by kernel_rfl) hidc) ?_;refine hK _ _ ?_;clear hK K;simp only[nmz]
    refine wpListIn_plain rfl fun K hK=>wpIn_yieldR (l:=y) _ _ _ (by rfl) (by rfl) (idV h.2) (by rfl) hYk (fun e' w5 he'=>?_);obtain⟨rfl,hJ5,hk5,hf5⟩:=he'
    refine⟨_,rfl,?_⟩;refine hK _ _ ?_;clear hK K;refine qV rfl rfl fun K hK=>?_;refine zS (exec_not _ _ true (by rfl) (by rfl)) ?_;refine hK _ _ ?_;clear hK K
    simp only[nmz];refine wpListIn_nil ?_
    have HR:Hid (HlsRel (jK pre) hs J W0.heap.size Wc (.int .i64 ((k+1:Nat):Int)) w5):=hid ⟨k+1,by omega,rfl,by rw[<-HSN.out,<-List.append_assoc];exact hJ5,hk3.trans hk5,hf3.trans ⟨hf5.size,fun j o hb ho hc=>hf5.same j o (by omega) ho hc⟩⟩
    clear hk3 hk5 hJ5 hYk hcY3 hcI hf3 hf5
    gi_wp2
    go_roundw
    case rel=>exact HR.out
    case measure=>simp[intOf];omega
   ·have hz:¬(k:Int)<(hs.length:Nat):=by omega
    obtain rfl:k=hs.length:=by omega
    rw[List.take_length]at hJr
    have HF:Hid (KeepsFrom W0.heap.size Wc wr/\KC Wc wr/\IdsI J W0 (pre++[(Value.slice ad hs.length cap,hs)]) wr):=hid ⟨hfr,hkr,by rw[rowIds_app,rowIds_cons];simpa[jK]using hJr,hkc.trans hkr⟩
    clear hJr hkr hfr
    gi_wp2
    have h9:=HF.out;rw[hs0]at h9;exact h9
 case done=>
  rintro D Wc hD ⟨hJc,hkc⟩ hK
  have hJd:J (jK rows) (Wc.putObj D (.deferred none)):=hJ _ Wc _ (some D) hJc (grownBy_putObj' Wc D _) (fun r e=>by cases e;exact⟨by omega,_,hK,rfl⟩)
  have HJ:=hid hJd;clear hJd hJc
  gi_wp2
  refine⟨by simp,.inl ⟨_,_,rfl,run_takeDeferred hK,?_⟩⟩;exact⟨_,results_none rfl _ _ _,⟨_,rfl⟩,HJ.out⟩
end
section
open Go.RowKit Go.Shelf Go.Proofs.Tryz Go.Lib
theorem addsL_mem(ids:List (List UInt8)):∀(all:List (List UInt8×Value))(x:List UInt8),x∈(addsL ids all).map (·.1)↔x∈ids\/x∈all.map (·.1):=by
 induction ids with
 |nil=>intro all x;simp[addsL]
 |cons y ids ih=>
  intro all x
  show x∈(addsL ids (putL y (.agg #[]) all)).map (·.1)↔_
  rw[ih,keys_put]
  by_cases hy:y∈all.map (·.1)
  ·rw[if_pos hy,List.mem_cons]
   constructor
   ·rintro(h|h)
    ·exact .inl (.inr h)
    ·exact .inr h
   ·rintro((rfl|h)|h)
    ·exact .inr hy
    ·exact .inl h
    ·exact .inr h
  ·rw[if_neg hy,List.mem_cons,List.mem_append,List.mem_singleton]
   constructor
   ·rintro(h|h|h)
    ·exact .inl (.inr h)
    ·exact .inr h
    ·exact .inl (.inl h)
   ·rintro((h|h)|h)
    ·exact .inr (.inr h)
    ·exact .inl h
    ·exact .inr (.inl h)
theorem addsL_len(ids:List (List UInt8)):∀(all:List (List UInt8×Value)),(addsL ids all).length<=ids.length+all.length:=by
 induction ids with
 |nil=>intro all;simp[addsL]
 |cons y ids ih=>
  intro all;have h1:=ih (putL y (.agg #[]) all);have h2:(putL y (.agg #[]) all).length<=all.length+1:=by rw[length_put];split<;>omega
  show(addsL ids (putL y (.agg #[]) all)).length<=_
  simp only[List.length_cons];omega
def SetOf(l out:List (List UInt8)):Prop:=out.Pairwise (fun a b=>a<b)/\∀x,x∈out↔x∈l
def SetR(w:World)(l:List (List UInt8)):Ending->World->Prop:=fun e w'=>Mod NoB w w'/\∃v out,e=.returned v/\GatI w.heap.size w' v out/\SetOf l out/\∀x∈out,x.length=32
theorem rowIds_ok{w:World}{rows:List RowX}(h:∀r∈rows,RowAt w r):∀x∈jK rows,x.length=32:=by
 intro x hx;obtain⟨r,hr,hx⟩:=List.mem_flatMap.1 hx;obtain⟨y,hy,rfl⟩:=List.mem_map.1 hx;obtain⟨a,cap,_,_,hat⟩:=Sl.at (h r hr)
 obtain⟨i,hi,rfl⟩:=List.getElem_of_mem hy;obtain⟨b,off,_,_,_,hc⟩:=hat i hi;obtain⟨cs,_,⟨_,h2⟩,_⟩:=hc i hi;exact h2
theorem rows_at{w:World}{v:Value}{reps:List RepX}(h:RepsAt w v reps):∀r∈rowsX reps,RowAt w r:=by
 intro r hr;obtain⟨p,hp,hr⟩:=List.mem_flatMap.1 hr;obtain⟨a,cap,_,_,hat⟩:=Sl.at h;obtain⟨i,hi,rfl⟩:=List.getElem_of_mem hp;obtain⟨b,off,_,_,_,hc⟩:=hat i hi
 obtain⟨cs,_,⟨_,h2⟩,_⟩:=hc i hi
 rcases List.mem_append.1 hr with hr|hr
 ·obtain⟨t,ht,rfl⟩:=List.mem_map.1 hr
  obtain⟨ta,tcap,_,_,htat⟩:=Sl.at h2.tags;obtain⟨j,hj,rfl⟩:=List.getElem_of_mem ht;obtain⟨tb,toff,_,_,_,htc⟩:=htat j hj;obtain⟨tcs,_,⟨_,h3⟩,_⟩:=htc j hj
  exact h3
 ·rw[List.mem_singleton]at hr
  subst hr;exact h2.man
abbrev rootsX(reps:List RepX):List (List UInt8):=jK (rowsX reps)
theorem swRoots_any{w:World}{vv rv:Value}{reps:List RepX}(h1:vv.oneCell'=true)(hv:RepsAt w rv reps)(hn:(rootsX reps).length<=65536):Calls prog 47 #[.agg #[vv,rv]] w (SetR w (rootsX reps)):=by
 have hmm:= @run_makeMap prog;have h2:=Sl.one hv;have hm1:=qW w (.cells #[vv,rv] 71);have hB1:=heap_alloc_new w (.cells #[vv,rv] 71)
 obtain⟨w1,hw1⟩:∃w1,w.alloc (.cells #[vv,rv] 71)=w1:=⟨_,rfl⟩;rw[hw1]at hm1 hB1;have hs1:w1.heap.size=w.heap.size+1:=by rw[<-hw1];simp
 have hm2:=hm1.trans0 (qW w1 (.map #[] 0));have hM2:=heap_alloc_new w1 (.map #[] 0);have hk2:KC w1 (w1.alloc (.map #[] 0)):=KC.of0 (qW w1 _)
 obtain⟨w2,hw2⟩:∃w2,w1.alloc (.map #[] 0)=w2:=⟨_,rfl⟩;rw[hw2]at hm2 hM2 hk2;have hs2:w2.heap.size=w1.heap.size+1:=by rw[<-hw2];simp
 have hB2:=hk2.obj hB1 rfl;have hc3:=swRts_any w2 vv rv h1 h2;have hm3:=qW w2 (.cells #[vv,rv] 71);have hB3:=heap_alloc_new w2 (.cells #[vv,rv] 71)
 obtain⟨w3,hw3⟩:∃w3,w2.alloc (.cells #[vv,rv] 71)=w3:=⟨_,rfl⟩;rw[hw3]at hm3 hB3;simp only[hw3]at hc3;have hv3:=repsAt_kc hv (KC.of0 (hm2.trans0 hm3))
 have hg3:=swRts_gives hB3 hv3;have hc4:=swIds_any w3 (.func 192) #[.pointer (some ⟨w2.heap.size,0,none⟩)]
 have hm4:=qW w3 (.cells #[.func (.func 192) #[] #[.pointer (some ⟨w2.heap.size,0,none⟩)]] 206)
 have hB4:=heap_alloc_new w3 (.cells #[.func (.func 192) #[] #[.pointer (some ⟨w2.heap.size,0,none⟩)]] 206)
 obtain⟨w4,hw4⟩:∃w4,w3.alloc (.cells #[.func (.func 192) #[] #[.pointer (some ⟨w2.heap.size,0,none⟩)]] 206)=w4:=⟨_,rfl⟩;rw[hw4]at hm4 hB4;simp only[hw4]at hc4
 have hv4:=repsAt_kc hv3 (KC.of0 hm4)
 have hg4:Gives prog 192 #[.pointer (some ⟨w2.heap.size,0,none⟩)] (fun x:RowX=>#[x.1]) (rowsX reps) w4:=swRts_gives (hm4.obj id hB3) hv4;have hrows:=rows_at hv4
 have hg5:=swIds_gives (enters_of func192 (by kernel_rfl) rfl) hB4 hg4 hrows;have hmap4:MapIs idV IdOk w4 w1.heap.size []:=(MapIs.made hM2).keep0 (hm3.trans0 hm4)
 have hc5:=swAdd_any (enters_of func191 (by kernel_rfl) rfl) hg5 (rowIds_ok hrows) hmap4;have hm04:=hm2.trans0 (hm3.trans0 hm4)
 have hnl:(addsL (jK (rowsX reps)) []).length<=65536:=by have h9:=addsL_len (jK (rowsX reps)) [];have h8:(jK (rowsX reps)).length<=65536:=hn;simp only[List.length_nil]at h9;omega
 have hcT:CellsAt w2 w.heap.size 0 #[vv,rv]:=CellsAt.whole hB2;clear hg5 hrows hg4 hv4 hB4 hg3 hv3 hB3 hmap4 hk2 hM2 hB1 hv hB2 hw3 hw4;go_enter func47,ntmps47
 go_upto_region 1 with(fail)
 try rw[hw1]
 clear hw1;refine wpR [1,1,1,1,1,1,3] ?_;simp only[stz];refine qL rfl (fun K hK=>?_);unfold Oper.wp execOp
 simp only[Array.map_empty,Option.map_none,Sem.run_bind,hmm,Result.andThen_ok,Sem.run_pure]
 try rw[hw2]
 refine hK _ _ trivial ?_;clear hK K;try simp only[nmz]
 refine wpXA 71 w.heap.size 0 #[vv,rv] hcT underlying71 2 rfl trivial ?_;try simp only[nmz]
 refine wpD (wpC func117 (hc3) ?_);rintro e wa ⟨rfl,hw⟩;obtain rfl:=hw.symm;refine⟨_,rfl,?_⟩;try simp only[nmz]
 refine wpD (wpC func116 (hc4) ?_);rintro e wb ⟨rfl,hw⟩;obtain rfl:=hw.symm;refine⟨_,rfl,?_⟩;try simp only[nmz]
 refine wpD (wpC func115 (hc5) ?_);rintro e w5 ⟨rfl,hM5,hm5⟩;have hc6:=swRising_any hM5 hnl;refine⟨_,rfl,?_⟩;try simp only[nmz]
 refine wpD (wpC func118 (hc6) ?_);rintro e w6 ⟨hm6,v6,out,he6,hg6,hs6,hp6,hl6⟩;subst he6
 have HF:Hid (SetR w (rootsX reps) (.returned v6) w6):=hid ⟨(hm04.trans hm5 (fun k hk e=>by have e:k=w1.heap.size:=e;omega)).trans0 hm6,v6,out,rfl,hg6.base (by have:=hm04.size;have:=hm5.size;omega),⟨hs6,fun x=>by rw[hp6.mem_iff,addsL_mem];simp⟩,hl6⟩
 refine⟨_,rfl,?_⟩;simp only[stz];clear hm5 hm6 hg6 hs6 hp6 hl6 hM5 hc6 hm04 hc5 hc4 hc3 hm4 hm3 hm2 hm1;go_wp2;go_ret;exact HF.out
theorem run_clos{P:Program}{o:Oper}{a:Act}{w:World}(x y:Operand)(ts:Array TypeId)(gf:Nat)(lb:Array Value)(ho:o.op=.call { callee:=.value x,args:=#[y],argTypes:=ts })(hx:a.eval x=.func (.func gf) #[] lb)(v:Value)(hv:a.eval y=v)
 (eg:∀args w,(callFunc gf args).run P w=.ok (.enter gf args) w):(execOp a.eval o).run P w=.ok (.enter gf (#[v]++lb)) w:=by
 subst hv;unfold execOp
 simp[ho,resolve,hx,Deferred.ofValue,invoke,eg]
theorem wmarkZ:(prog.info? 216).bind (·.zero)=some (.agg #[]):=by kernel_rfl
def DelR(w:World)(b:Bool):Ending->World->Prop:=fun e w'=>e=.returned (.bool b)/\Mod NoB w w'
def Marked(l:List (List UInt8×Value)):Prop:=∀p∈l,p.2=.agg #[]
theorem addsL_marked(ids:List (List UInt8)):∀(all:List (List UInt8×Value)),Marked all->Marked (addsL ids all):=by
 induction ids with
 |nil=>intro all h;exact h
 |cons y ids ih=>
  intro all h;refine ih _ fun p hp=>?_;replace hp:p∈putL y (.agg #[]) all:=hp
  cases hg:idxL y all 0 with
  |none=>
   obtain⟨_,h2,_⟩:=idxL_none hg;rw[h2,List.mem_append,List.mem_singleton]at hp
   rcases hp with hp|rfl
   ·exact h p hp
   ·rfl
  |some q=>
   obtain⟨_,_,_,h2,_⟩:=idxL_some hg;rw[h2]at hp
   rcases List.mem_or_eq_of_mem_set hp with hp|rfl
   ·exact h p hp
   ·rfl
theorem swKept_any{w:World}{kb mb:Nat}{l:List (List UInt8×Value)}(hK:w.heap[kb]?=some (.cells #[.map (some mb)] 200 (0,0)))(hM:MapIs idV IdOk w mb l)(hl:Marked l)(x:List UInt8)(hx:x.length=32):
 Calls prog 126 (#[idV x]++#[.pointer (some ⟨kb,0,none⟩)]) w (DelR w (decide (x∈l.map (·.1)))):=by
 have hic:(qA x).size=32:=by rw[qB,hx]
 have hcb:w.cell? ⟨kb,0,none⟩=some (.map (some mb)):=by simp[World.cell?,hK]
 have hb:(getL x l).isSome=decide (x∈l.map (·.1)):=by
  cases hg:getL x l with
  |none=>simp[getL_none.1 hg]
  |some v=>simp only[Option.isSome_some];rw[eq_comm,decide_eq_true_iff];exact List.mem_map.2 ⟨_,yC hg,rfl⟩
 have hv:(getL x l).getD (.agg #[])=.agg #[]:=by
  cases hg:getL x l with
  |none=>rfl
  |some v=>exact hl _ (yC hg)
 have hlk:(if true then Value.tuple #[(getL x l).getD (.agg #[]),.bool (getL x l).isSome]else(getL x l).getD (.agg #[]))=.tuple #[.agg #[],.bool (decide (x∈l.map (·.1)))]:=by rw[if_pos rfl,hv,hb]
 generalize decide (x∈l.map (·.1))=b at*;have HLK:=hid hlk;clear hb hv hlk hl
 rw[show #[idV x]++#[.pointer (some ⟨kb,0,none⟩)]=#[.agg (qA x),.pointer (some ⟨kb,0,none⟩)]from rfl];go_enter func126,ntmps126
 have hm1:=qW w (.cells (qA x) 24);have hB1:=heap_alloc_new w (.cells (qA x) 24);go_upto_region 1 with(fail)
 generalize w.alloc (.cells (qA x) 24)=w1 at*;have hcb1:=(KC.of0 hm1).cell hcb;have hM1:=hM.keep0 hm1
 have hca:CellsAt w1 w.heap.size 0 (qA x):=CellsAt.whole hB1;refine wpR [1,1,1,3,3,3,1,1,3] ?_;simp only[stz];refine wpXd 200 kb 0 hcb1 underlying200 trivial ?_
 try simp only[nmz]
 refine wpXA 24 w.heap.size 0 (qA x) hca underlying24 32 hic trivial ?_;try simp only[nmz]
 refine wpX rfl (yP keyT_id hM1 x hx 200 216 underlying200 (.agg #[]) wmarkZ _ _ true (by rfl) (by rfl) (by rfl) _ HLK.out) trivial ?_;simp only[stz]
 refine qC rfl (fun w'=>qJ _ 0 #[.agg #[],.bool b] rfl rfl (.agg #[]) rfl) ?_;simp only[nmz]
 refine qC rfl (fun w'=>qJ _ 1 #[.agg #[],.bool b] rfl rfl (.bool b) rfl) ?_;simp only[nmz]
 refine wpD (qN 216 _ (by rfl) wmarkZ (fun w3 hB3 hm3 hs3=>?_));replace hB3:w3.heap[w1.heap.size]?=some (.cells #[] 216 (0,0)):=hB3;try simp only[nmz]
 refine wpD (qF 216 _ _ w1.heap.size 0 #[] (by rfl) (by rfl) (by rfl) (by simp) 0 (by kernel_rfl) rfl _ _ hB3 (by simp) (fun w4 hB4 hm4=>?_))
 have hS4:Mod NoB w1 w4:=hm3.transB hm4 (Nat.le_refl _);simp only[stz];have HF:=hid (hm1.trans0 hS4);clear hS4 hm1 hm3 hm4 hB1 hB3 hB4 hca;go_wp2;go_ret;exact⟨rfl,HF.out⟩
def FindR(w:World)(ids:List (List UInt8))(del:List UInt8->Bool):Ending->World->Prop:=fun e w'=>Mod NoB w w'/\
 ((e=.returned (.int .i64 (-1))/\∀x∈ids,del x=false)\/(∃pre x rest,ids=pre++x::rest/\e=.returned (.int .i64 (pre.length:Nat))/\del x=true/\∀y∈pre,del y=false))
def DelsOn(gf:Nat)(lb:Array Value)(del:List UInt8->Bool)(S:Nat->Prop)(w:World):Prop:=∀(x:List UInt8)(W:World),x.length=32->Mod S w W->Calls prog gf (#[idV x]++lb) W (DelR W (del x))
def FindRel(w0:World)(ids:List (List UInt8))(del:List UInt8->Bool)(i:Value)(w:World):Prop:=∃k:Nat,k<=ids.length/\i=.int .i64 k/\Mod NoB w0 w/\∀y∈ids.take k,del y=false
section
variable{w:World}{base gf:Nat}{lb:Array Value}{v:Value}{ids:List (List UInt8)}{del:List UInt8->Bool}
theorem indexI_any(eg:∀args w,(callFunc gf args).run prog w=.ok (.enter gf args) w)(hv:GatI base w v ids)(h32:∀x∈ids,x.length=32)(hdel:DelsOn gf lb del NoB w):
 Calls prog 197 #[v,.func (.func gf) #[] lb] w (FindR w ids del):=by
 obtain⟨ad,cap,hve⟩:=hv.slice
 have hmx:ids.length<=9223372036854775807:=by
  rcases hv.2 with⟨_,h0⟩|⟨g,c,cur,_,_,_,hc,hm,_⟩
  ·omega
  ·unfold maxLen at hm;omega
 have HV:=hid hv;have HR0:Hid (FindRel w ids del (.int .i64 (0:Nat)) w):=hid ⟨0,Nat.zero_le _,rfl,Mod.refl _ _,by simp⟩;have HD:=hid hdel;clear hv hdel;rw[hve]
 rw[hve]at HV;clear hve;go_enter func197,ntmps197;go_wp2
 go_loopw [8] (FindRel w ids del) (fun i _=>ids.length-(intOf i).toNat)
 case atStart=>exact HR0.out
 case round=>
  rename World=>wr
  obtain⟨k,hk,rfl,hmr,hpre⟩:=hrel
  by_cases hlt:k<ids.length
  ·have hz:(k:Int)<(ids.length:Nat):=by omega
   obtain⟨g,cap',cur,hce,hg,hcA,-,-,-⟩:=Gat.at (HV.out.keep0 hmr) jM k hlt;have hx32:=h32 _ (List.getElem_mem hlt);have hsp:=take_split hlt
   have hsn:=take_snoc hlt;rw[idE_eq hx32]at hcA;generalize ids[k]=x at*
   cases hce
   have hic:(qA x).size=32:=by rw[qB,hx32]
   have hcall:=HD.out x wr hx32 hmr;generalize hb:del x=b at*;have HSP:=hid hsp;have HSN:=hid hsn;have HP:=hid hpre;have HB:=hid hb;clear hsp hsn hpre hb
   go_upto_region 4 with(fail);refine wpR [3,3,3,3,1,1] ?_;simp only[stz];refine wpPI underlying25 32 hlt ?_;simp only[nmz]
   refine wpXA 24 g (k*32) (qA x) hcA underlying24 32 hic trivial ?_;try simp only[nmz]
   refine wpD (zV (run_clos _ _ _ gf lb (by rfl) (by rfl) (idV x) (by rfl) eg) hcall ?_);rintro e w5 ⟨rfl,hm5⟩;refine⟨_,rfl,?_⟩;simp only[stz]
   have HM:=hid (hmr.trans0 hm5);clear hmr hm5 hcA hg hcall
   cases b with
   |true=>
    go_wp2;go_ret;refine⟨HM.out,.inr ⟨ids.take k,x,ids.drop (k+1),HSP.out,?_,HB.out,HP.out⟩⟩
    have h9:(ids.take k).length=k:=by rw[List.length_take,Nat.min_eq_left hk]
    rw[h9]
    rfl
   |false=>
    have HR:Hid (FindRel w ids del (.int .i64 ((k+1:Nat):Int)) w5):=hid ⟨k+1,by omega,rfl,HM.out,fun y hy=>by
     rw[<-HSN.out,List.mem_append,List.mem_singleton]at hy
     rcases hy with hy|rfl
     ·exact HP.out y hy
     ·exact HB.out⟩
    clear HM HP;go_wp2
    go_roundw
    case rel=>exact HR.out
    case measure=>simp[intOf];omega
  ·have hz:¬(k:Int)<(ids.length:Nat):=by omega
   obtain rfl:k=ids.length:=by omega
   have HF:Hid (FindR w ids del (.returned (.int .i64 (-1))) wr):=hid ⟨hmr,.inl ⟨rfl,by rw[List.take_length]at hpre;exact hpre⟩⟩;clear hmr hpre;go_wp2;go_ret;exact HF.out
end
theorem id_zero:(prog.info? 24).bind (·.zero)=some (.agg (Array.replicate 32 (byteV 0))):=by kernel_rfl
section
variable{P:Program}{o:Oper}{a:Act}{w:World}{K:Act->World->Prop}{Q:Exit->Act->World->Prop}
theorem wp_clearIds(t e:TypeId)(x:Operand)(b off n c:Nat)(ho:o.op=.call { callee:=.builtin .clear,args:=#[x],argTypes:=#[t] })(hx:a.eval x=.slice (some ⟨b,off,none⟩) (n+1) c)(ht:P.underlying t=some (.slice e))(hz:(P.info? e).bind (·.zero)=some (.agg (Array.replicate 32 (byteV 0))))
 (cur:Array Value)(T:TypeId)(hb:w.heap[b]?=some (.cells cur T (0,0)))(hoff:off+(n+1)*32<=cur.size)
 (h:∀w',w'.heap[b]?=some (.cells (qY cur off (Array.replicate ((n+1)*32) (byteV 0))) T (0,0))->Mod (fun k=>k=b) w w'->K (a.put o.dst (.tuple #[])) w'):o.wp P a w K Q:=by
 have hzv:(zeroValue e).run P w=.ok (.agg (Array.replicate 32 (byteV 0))) w:=by
  cases hi:P.info? e with
  |none=>simp[hi]at hz
  |some i=>simp[hi]at hz;simp[zeroValue,typeInfo,hi,hz]
 have hzc:(Builtin.zeroCells (Value.agg (Array.replicate 32 (byteV 0))).cells (n+1)).toList=List.replicate ((n+1)*32) (byteV 0):=by
  have h32:(Value.agg (Array.replicate 32 (byteV 0))).cells=Array.replicate 32 (byteV 0):=rfl;rw[h32];unfold Builtin.zeroCells
  apply List.ext_getElem
  ·simp
  ·intro i h1 h2
   have h3:i%32<32:=Nat.mod_lt _ (by omega)
   simp[getElem!_pos,h3]
 have hst:=run_storeCells_at P b off T (List.replicate ((n+1)*32) (byteV 0)) 0 cur w hb (by simpa using hoff) (fun v hv=>by rw[List.eq_of_mem_replicate hv];rfl)
 simp only[Nat.add_zero,List.length_replicate]at hst
 have he:(cur.toList.take off++List.replicate ((n+1)*32) (byteV 0)++cur.toList.drop (off+(n+1)*32)).toArray=qY cur off (Array.replicate ((n+1)*32) (byteV 0)):=by
  unfold qY
  simp
 rw[he]at hst;unfold Oper.wp execOp
 have hr:(Builtin.clear_ #[t] o.type #[.slice (some ⟨b,off,none⟩) (n+1) c]).run P w=.ok (.tuple #[]) (w.setRow b (qY cur off (Array.replicate ((n+1)*32) (byteV 0)))):=by
  simp[Builtin.clear_,run_underlying ht,hzv,hzc,hst]
 simp[ho,hx,resolve,invoke,builtin,hr]
 exact h _ (setRow_heap w b cur _ T _ hb) ⟨rfl,rfl,rfl,by simp,fun k _ hk=>setRow_other w b k _ (fun e=>hk e)⟩
end
theorem gat_cut{base:Nat}{w w':World}{g n cap i:Nat}{cur cs:Array Value}{l:List (List UInt8)}(h:GatI base w (.slice (some ⟨g,0,none⟩) n cap) l)(hg:w.heap[g]?=some (.cells cur 24 (0,0)))(hi:i<=l.length)(hsz:i*32+cs.size<=cur.size)
 (hg':w'.heap[g]?=some (.cells (qY cur (i*32) cs) 24 (0,0))):GatI base w' (.slice (some ⟨g,0,none⟩) i cap) (l.take i):=by
 rcases h.2 with⟨h1,_⟩|⟨g2,c,cur2,h1,hb,hg2,hc,hm,hcs,ht⟩
 ·cases h1
 ·have hlt:(l.take i).length=i:=by rw[List.length_take,Nat.min_eq_left hi]
  cases h1
  rw[hg]at hg2
  cases hg2
  have hft:(l.take i).flatMap idE=(l.flatMap idE).take (i*32):=(flat_take jM l i hi).symm;have hmul:i*32<=l.length*32:=Nat.mul_le_mul_right _ hi
  have hlen:=len_enc jM (l.take i);unfold GatI Gat
  refine⟨hlen,.inr ⟨g,cap,qY cur (i*32) cs,by rw[hlt],hb,hg',by omega,hm,by rw[yH hsz];exact hcs,?_⟩⟩
  have h2:(qY cur (i*32) cs).toList.take (i*32)=cur.toList.take (i*32):=by
   unfold qY;have h4:cur.toList.length=cur.size:=Array.length_toList;have h3:(cur.toList.take (i*32)).length=i*32:=by rw[List.length_take];omega
   simp only[List.append_assoc];rw[List.take_append_of_le_length (by omega),List.take_of_length_le (by omega)]
  rw[hlt,h2,hft,<-ht,List.take_take,Nat.min_eq_left hmul]
def DelsR(w:World)(base:Nat)(v:Value)(l:List (List UInt8)):Ending->World->Prop:=fun e w'=>Mod (fun q=>v.ownBlock=some q) w w'/\∃v',e=.returned v'/\GatI base w' v' l/\v'.ownBlock=v.ownBlock
structure DelAt(w0:World)(base:Nat)(v:Value)(ids:List (List UInt8))(del:List UInt8->Bool)(ni nj:Nat)(l:List (List UInt8))(w:World):Prop where
 row:GatI base w v l
 len:l.length=ids.length
 lt:ni<nj
 le:nj<=ids.length
 took:l.take ni=(ids.take nj).filter fun x=> !del x
 left:l.drop nj=ids.drop nj
 mod:Mod (fun q=>v.ownBlock=some q) w0 w
def DelRel(w0:World)(base:Nat)(v:Value)(ids:List (List UInt8))(del:List UInt8->Bool)(i j:Value)(w:World):Prop:=∃ni nj l,i=.int .i64 (ni:Nat)/\j=.int .i64 (nj:Nat)/\DelAt w0 base v ids del ni nj l w
theorem DelAt.skip{w0 w w':World}{base ni nj:Nat}{v:Value}{ids l:List (List UInt8)}{del:List UInt8->Bool}(h:DelAt w0 base v ids del ni nj l w)(hlt:nj<ids.length)(hd:del ids[nj]=true)(hm:Mod NoB w w'):DelAt w0 base v ids del ni (nj+1) l w':=
 ⟨h.row.keep0 hm,h.len,by have:=h.lt;omega,hlt,by rw[h.took,<-take_snoc hlt,List.filter_append];simp[hd],by rw[<-List.drop_drop,h.left,List.drop_drop],h.mod.trans hm (fun _ _ h=>h.elim)⟩
theorem DelAt.keep{w0 w w':World}{base ni nj:Nat}{v:Value}{ids l:List (List UInt8)}{del:List UInt8->Bool}(h:DelAt w0 base v ids del ni nj l w)(hlt:nj<ids.length)(hd:del ids[nj]=false)(hr:GatI base w' v (l.set ni ids[nj]))(hm:Mod (fun q=>v.ownBlock=some q) w0 w'):DelAt w0 base v ids del (ni+1) (nj+1) (l.set ni ids[nj]) w':=by
 have h1:=h.lt;have h2:=h.len;refine⟨hr,by rw[List.length_set,h2],by omega,hlt,?_,?_,hm⟩
 ·rw[List.take_succ_eq_append_getElem (by rw[List.length_set];omega),List.take_set_of_le (Nat.le_refl _),h.took,<-take_snoc hlt,List.filter_append]
  simp[hd]
 ·rw[List.drop_set_of_lt (by omega),<-List.drop_drop,h.left,List.drop_drop]
def FindP(ids:List (List UInt8))(del:List UInt8->Bool)(r:Int):Prop:=(r=-1/\∀x∈ids,del x=false)\/(∃pre x rest,ids=pre++x::rest/\r=(pre.length:Nat)/\del x=true/\∀y∈pre,del y=false)
theorem filter_none{α:Type}{l:List α}{del:α->Bool}(h:∀y∈l,del y=false):(l.filter fun x=> !del x)=l:=List.filter_eq_self.2 fun y hy=>by simp[h y hy]
section
variable{w:World}{base gf:Nat}{lb:Array Value}{v:Value}{ids:List (List UInt8)}{del:List UInt8->Bool}
theorem deleteI_any(eg:∀args w,(callFunc gf args).run prog w=.ok (.enter gf args) w)(hv:GatI base w v ids)(h32:∀x∈ids,x.length=32)(hdel:DelsOn gf lb del (fun q=>v.ownBlock=some q) w):
 Calls prog 125 #[v,.func (.func gf) #[] lb] w (DelsR w base v (ids.filter fun x=> !del x)):=by
 have hfind:=indexI_any eg hv h32 (fun x W hx hm=>hdel x W hx (hm.mono (fun _ _ h=>h.elim)));obtain⟨ad,cap,hve⟩:=hv.slice
 have hmx:ids.length<=9223372036854775807:=by
  rcases hv.2 with⟨_,h0⟩|⟨g,c,cur,_,_,_,hc,hm,_⟩
  ·omega
  ·unfold maxLen at hm;omega
 have HV:=hid hv;have HD:=hid hdel;have HVE:=hid hve;clear hv hdel
 replace hfind:=hfind.mono (R':=fun e w'=>∃r:Int,e=.returned (.int .i64 r)/\FindP ids del r/\Mod NoB w w') (by
  rintro e w' ⟨hm,⟨rfl,h⟩|⟨pre,x,rest,h1,rfl,h2⟩⟩
  ·exact⟨-1,rfl,.inl ⟨rfl,h⟩,hm⟩
  ·exact⟨_,rfl,.inr ⟨pre,x,rest,h1,rfl,h2⟩,hm⟩)
 rw[hve]at HV hfind
 suffices hsuf:Calls prog 125 #[.slice ad ids.length cap,.func (.func gf) #[] lb] w (DelsR w base v (ids.filter fun x=> !del x)) by rw[hve];rw[hve]at hsuf;exact hsuf
 clear hve;go_enter func125,ntmps125;go_upto_region 1 with(fail);refine wpR [3,3,1,3] ?_;simp only[stz];refine wpD (wpC func197 (hfind) ?_);rintro e w2 ⟨r,rfl,hfp,hm2⟩
 refine⟨_,rfl,?_⟩;simp only[stz];clear hfind
 rcases hfp with⟨rfl,hall⟩|⟨pre,x,rest,hids,rfl,hx,hpre⟩
 ·have HF:Hid (DelsR w base v (ids.filter fun x=> !del x) (.returned (.slice ad ids.length cap)) w2):=hid ⟨hm2.mono (fun _ _ h=>h.elim),_,rfl,by rw[filter_none hall];exact HV.out.keep0 hm2,by rw[HVE.out]⟩
  clear hall hm2;go_wp2;go_ret;exact HF.out
 have hpl:pre.length<ids.length:=by rw[hids];simp
 have h0:DelAt w base v ids del pre.length (pre.length+1) ids w2:=by
  refine⟨by rw[HVE.out];exact HV.out.keep0 hm2,rfl,by omega,hpl,?_,rfl,hm2.mono (fun _ _ h=>h.elim)⟩;have e1:ids.take pre.length=pre:=by rw[hids,List.take_left]
  have e2:ids.take (pre.length+1)=pre++[x]:=by rw[hids,List.take_append,List.take_of_length_le (by omega)];simp
  rw[e1,e2,List.filter_append,filter_none hpre]
  simp[hx]
 have HR0:Hid (DelRel w base v ids del (.int .i64 (pre.length:Nat)) (.int .i64 ((pre.length+1:Nat):Int)) w2):=hid ⟨_,_,ids,rfl,rfl,h0⟩
 generalize pre.length=k0 at*;have hk1:((k0:Nat):Int)≠-1:=by omega
 clear h0 hids hx hpre hm2;go_wp2
 go_loopw [5,6] (DelRel w base v ids del) (fun _ j _=>ids.length-(intOf j).toNat)
 case atStart=>exact HR0.out
 case round=>
  rename World=>wr
  obtain⟨ni,nj,l,rfl,rfl,hda⟩:=hrel;have HDA:=hid hda;have hij:=hda.lt;have hjn:=hda.le;have hln:=hda.len
  by_cases hlt:nj<ids.length
  ·have hz:(nj:Int)<(ids.length:Nat):=by omega
   have hrow:=hda.row;rw[HVE.out]at hrow;obtain⟨g,cap',cur,hce,hg,hcA,-,-,-⟩:=Gat.at hrow jM nj (by omega)
   obtain⟨rfl,rfl⟩:ad=some ⟨g,0,none⟩/\cap=cap':=by injection hce with e1 e2 e3;exact⟨e1,e3⟩
   have hx32:=h32 _ (List.getElem_mem hlt)
   have hlx:l[nj]'(by omega)=ids[nj]:=by
    have h1:=List.getElem_drop (xs:=l) (i:=nj) (j:=0) (h:=by simp;omega);have h2:=List.getElem_drop (xs:=ids) (i:=nj) (j:=0) (h:=by simp;omega)
    simp only[Nat.add_zero]at h1 h2;rw[<-h1,<-h2]
    congr 1
    exact hda.left
   rw[hlx,idE_eq hx32]at hcA;have hskip:=fun(w':World) hd hm=>hda.skip (w':=w') hlt hd hm;have hkeep:=fun(w':World) hd hr hm=>hda.keep (w':=w') hlt hd hr hm
   generalize ids[nj]=x at*;have hic:(qA x).size=32:=by rw[qB,hx32]
   have HSK:=hid hskip;have HKP:=hid hkeep;have hmr:=hda.mod;clear hskip hkeep hlx hce hda hrow;go_upto_region 7 with(fail);refine wpR [3,3,3,1,1,1] ?_;simp only[stz]
   refine wpPI underlying25 32 hlt ?_;simp only[nmz];refine wpXA 24 g (nj*32) (qA x) hcA underlying24 32 hic trivial ?_;try simp only[nmz]
   refine wpD (qN 24 _ (by rfl) idZ (fun w3 hB3 hm3 hs3=>?_));replace hB3:w3.heap[wr.heap.size]?=some (.cells (qA (List.replicate 32 0)) 24 (0,0)):=hB3
   try simp only[nmz]
   refine wpD (qF 24 _ _ wr.heap.size 0 (qA x) (by rfl) (by rfl) (by rfl) (qP _) 32 (by kernel_rfl) hic _ _ hB3 (by rw[hic,qB];simp) (fun w4 hB4 hm4=>?_))
   rw[qD (by rw[hic,qB];simp)]at hB4;simp only[stz];have hmr4:Mod NoB wr w4:=hm3.transB hm4 (Nat.le_refl _);generalize hb7:wr.heap.size=b7 at*
   have hgb:g<b7:=by rw[<-hb7];exact(Array.getElem?_eq_some_iff.1 hg).1
   have hcall:=HD.out x w4 hx32 (by rw[HVE.out]at hmr |-;exact hmr.trans hmr4 (fun _ _ h=>h.elim));generalize hbb:del x=bb at*;have HBB:=hid hbb
   have hg4:=hmr4.obj id hg;clear hm3 hm4 hB3 hs3 hbb hcA;go_upto_region 8 with(fail);refine wpR [3,1,1,3] ?_;simp only[stz]
   refine wpXA 24 b7 0 (qA x) (CellsAt.whole hB4) underlying24 32 hic trivial ?_;try simp only[nmz]
   refine wpD (zV (run_clos _ _ _ gf lb (by rfl) (by rfl) (idV x) (by rfl) eg) hcall ?_);rintro e w5 ⟨rfl,hm5⟩;refine⟨_,rfl,?_⟩;try simp only[stz]
   try refine zM _ _ _ rfl rfl rfl ?_
   try simp only[stz]
   have hmr5:=hmr4.trans0 hm5;have hB5:=hm5.obj id hB4;have hg5:=hm5.obj id hg4;clear hcall hB4 hg4
   cases bb with
   |true=>
    have HR:Hid (DelRel w base v ids del (.int .i64 (ni:Nat)) (.int .i64 ((nj+1:Nat):Int)) w5):=hid ⟨_,_,l,rfl,rfl,HSK.out w5 rfl hmr5⟩
    clear hmr4 hmr5 hm5 hB5 hg5 hg hmr;go_wp2
    go_roundw
    case rel=>exact HR.out
    case measure=>simp[intOf];omega
   |false=>
    have hrow5:=HDA.out.row;rw[HVE.out]at hrow5;obtain⟨g2,cap2,cur2,hce2,hg2,-,hsz2,-,hput⟩:=Gat.at (hrow5.keep0 hmr5) jM ni (by omega)
    obtain rfl:g=g2:=by injection hce2 with e1 e2 e3;injection e1 with e1;injection e1
    have hput':=fun(w6:World)(h:w6.heap[g]?=some (.cells (qY cur2 (ni*32) (qA x)) 24 (0,0)))=>hput x w6 (by rw[idE_eq hx32];exact h)
    have HPUT:=hid hput';clear hput hput' hrow5;go_upto_region 9 with(fail);refine wpR [3,3,1,3,1] ?_;simp only[stz]
    refine wpXA 24 b7 0 (qA x) (CellsAt.whole hB5) underlying24 32 hic trivial ?_;try simp only[nmz]
    refine wpPi_index _ _ _ _ _ _ _ _ _ rfl rfl rfl rfl underlying25 (n:=32) (by kernel_rfl) (by omega) ?_;simp only[nmz]
    refine wpD (qF 24 _ _ g (ni*32) (qA x) (by rfl) (by rfl) (by rfl) (qP _) 32 (by kernel_rfl) hic _ _ hg2 (by rw[hic];exact hsz2) (fun w6 hB6 hm6=>?_))
    simp only[stz]
    have HR:Hid (DelRel w base v ids del (.int .i64 ((ni+1:Nat):Int)) (.int .i64 ((nj+1:Nat):Int)) w6):=hid ⟨_,_,l.set ni x,rfl,rfl,HKP.out w6 rfl (by rw[HVE.out];exact HPUT.out w6 hB6) ((hmr.trans hmr5 (fun _ _ h=>h.elim)).trans hm6 (fun k _ e=>by rw[HVE.out,show k=g from e];rfl))⟩
    clear hmr4 hmr5 hm5 hB5 hg5 hg hmr hB6 hm6 hg2;go_wp2
    go_roundw
    case rel=>exact HR.out
    case measure=>simp[intOf];omega
  ·have hz:¬(nj:Int)<(ids.length:Nat):=by omega
   obtain rfl:nj=ids.length:=by omega
   have hrow:=hda.row;rw[HVE.out]at hrow;obtain⟨g,cap',cur,hce,hg,-,-,-,-⟩:=Gat.at hrow jM ni (by omega)
   obtain⟨rfl,rfl⟩:ad=some ⟨g,0,none⟩/\cap=cap':=by injection hce with e1 e2 e3;exact⟨e1,e3⟩
   obtain⟨hcs,hncap⟩:cur.size=cap*32/\ids.length<=cap:=by
    rcases hrow.2 with⟨h1,_⟩|⟨g2,c,cur2,h1,_,hg2,hc,_,hcs,_⟩
    ·cases h1
    ·injection h1 with e1 e2 e3
     injection e1 with e1;injection e1 with e1;subst e1 e3;rw[hg]at hg2
     cases hg2
     exact⟨hcs,by omega⟩
   obtain⟨m,hm⟩:∃m,ids.length-ni=m+1:=⟨ids.length-ni-1,by omega⟩
   have hsl:sliced (some ⟨g,0,none⟩) ni ids.length cap 32=.slice (some ⟨g,ni*32,none⟩) (m+1) (cap-ni):=by
    unfold sliced;rw[if_neg (by omega),hm]
    simp[jS]
   have hst:sliced (some ⟨g,0,none⟩) 0 ni cap 32=.slice (some ⟨g,0,none⟩) ni cap:=by
    simp only[sliced,Option.map_some,jS,Nat.zero_mul,Nat.add_zero,Nat.sub_zero,ite_self]
   have htk:=hda.took;rw[List.take_length]at htk;have hmr:=hda.mod;have HSL:=hid hsl;have HST:=hid hst;clear hsl hst hce hda;go_upto_region 11 with(fail)
   refine wpR [3,3,3,1] ?_;simp only[stz];refine yX 25 24 _ _ _ _ _ ni 32 rfl rfl rfl rfl underlying25 (by kernel_rfl) (by omega) ?_;simp only[nmz]
   refine wpDo rfl ?_;rw[HSL.out];refine wp_clearIds 25 24 _ g (ni*32) m (cap-ni) (by rfl) (by rfl) underlying25 id_zero _ _ hg (by omega) (fun w3 hB3 hm3=>?_)
   simp only[stz];have hcut:=gat_cut (i:=ni) hrow hg (by omega) (by rw[Array.size_replicate];omega) hB3;rw[htk]at hcut
   have HF:Hid (DelsR w base v (ids.filter fun x=> !del x) (.returned (sliced (some ⟨g,0,none⟩) 0 ni cap 32)) w3):=hid ⟨hmr.trans hm3 (fun k _ e=>by rw[HVE.out,show k=g from e];rfl),_,rfl,by rw[HST.out];exact hcut,by rw[HST.out,HVE.out];rfl⟩
   clear hcut hB3 hm3 hg hmr hrow htk;go_upto_region 12 with(fail);refine wpR [3,3,3,3] ?_;simp only[stz]
   refine jC 25 24 _ _ _ _ _ ni 32 rfl rfl rfl rfl underlying25 (by kernel_rfl) (by omega) ?_;simp only[stz];go_wp2;go_ret;have h9:=HF.out;rw[HST.out]at h9;exact h9
end
def emptyW(w:World):World:={ w with heap:=#[] }
theorem emptyW_mod(w:World):Mod NoB (emptyW w) w:=⟨rfl,rfl,rfl,by simp[emptyW],fun k hk _=>by simp[emptyW]at hk⟩
theorem LkAt.bare{w0 w:World}{p:Value}{limit:Int}{l:LinkL}{F:Nat->Prop}(h:LkAt w0 w p limit l F):LkAt (emptyW w) w p limit l F:=⟨emptyW_mod w,h.ok,fun k _=>by simp[emptyW],h.lt⟩
structure House where
 bs:Nat
 ms:Nat
 wd:Nat
 room:Int
 q:Value
 limit:Int
def HsAt(w:World)(h:House)(c:BlobL)(l:LinkL)(Ft:Nat->Prop):Prop:=
 ∃bl F,StInv w h.bs h.ms h.wd h.room bl/\cont bl=c/\LkAt (emptyW w) w h.q h.limit l F/\(∀k,SFoot h.bs h.ms bl k->¬F k)/\(∀k,SFoot h.bs h.ms bl k->Ft k)/\(∀k,F k->Ft k)/\∀k,Ft k->k<w.heap.size
def HStep(w:World)(h:House)(Ft:Nat->Prop)(w':World)(c':BlobL)(l':LinkL):Prop:=∃Ft',HsAt w' h c' l' Ft'/\Mod Ft w w'/\∀k,Ft' k->Ft k\/New w w' k
section
variable{w w':World}{h:House}{c c':BlobL}{l l':LinkL}{Ft:Nat->Prop}
theorem HsAt.lt(H:HsAt w h c l Ft):∀k,Ft k->k<w.heap.size:=by
 obtain⟨_,_,_,_,_,_,_,_,h⟩:=H;exact h
theorem HsAt.keep{S:Nat->Prop}(H:HsAt w h c l Ft)(hm:Mod S w w')(hS:∀k,Ft k->¬S k):HsAt w' h c l Ft:=by
 obtain⟨bl,F,h1,h2,h3,h4,h5,h6,h7⟩:=H
 exact⟨bl,F,h1.keep hm (fun k hk=>hS k (h5 k hk)),h2,(h3.keep hm (fun k hk=>hS k (h6 k hk)) (fun k hk=>by simp[emptyW]at hk)).bare,h4,h5,h6,fun k hk=>Nat.lt_of_lt_of_le (h7 k hk) hm.size⟩
theorem HsAt.keep0(H:HsAt w h c l Ft)(hm:Mod NoB w w'):HsAt w' h c l Ft:=H.keep hm fun _ _=>id
theorem HsAt.small(H:HsAt w h c l Ft):(∀p∈c,p.1.length=32/\p.2.length<=4096)/\c.length<=10000/\l.length<=65536:=by
 obtain⟨bl,F,h1,rfl,h3,_⟩:=H;refine⟨fun p hp=>?_,by simpa[cont]using h1.few,h3.facts.2.2.2.2.2⟩;obtain⟨b,hb,rfl⟩:=List.mem_map.1 hp
 exact⟨h1.ok b hb,h1.sz b hb⟩
theorem HsAt.drop(H:HsAt w h c l Ft)(di:List UInt8)(hd:di.length=32):Calls prog 30 #[.pointer (some ⟨h.bs,0,none⟩),.agg (qA di)] w (fun e w'=>∃v,e=.returned v/\HStep w h Ft w' (delL di c) l):=by
 obtain⟨bl,F,h1,rfl,h3,h4,h5,h6,h7⟩:=H;refine(bDrop_any h1 di hd).mono ?_;rintro e w' ⟨rfl,bl',k1,k2,k3,k4⟩
 have hF:∀k,F k->¬(k=h.bs\/k=h.ms):=fun k hk e=>h4 k (e.elim (fun e=>.inl e) (fun e=>.inr (.inl e))) hk
 refine⟨_,rfl,fun k=>Ft k\/New w w' k,⟨bl',F,k1,k2,(h3.keep k3 hF (fun k hk=>by simp[emptyW]at hk)).bare,fun k hk hf=>?_,fun k hk=>(k4 k hk).imp (h5 k) id,fun k hk=>.inl (h6 k hk),fun k hk=>hk.elim (fun hk=>Nat.lt_of_lt_of_le (h7 k hk) k3.size) (fun hk=>hk.2)⟩,k3.mono (fun k _ e=>h5 k (e.elim (fun e=>.inl e) (fun e=>.inr (.inl e)))),fun k hk=>hk⟩
 rcases k4 k hk with hk|hk
 ·exact h4 k hk hf
 ·have:=h3.lt k hf
  have:=hk.1;omega
theorem HsAt.forget(H:HsAt w h c l Ft)(x:List UInt8)(hx:x.length=32):Calls prog 127 #[h.q,.agg (qA x)] w (fun e w'=>e=.returned (.int .i64 (xQ l x))/\HStep w h Ft w' c (xX l x)):=by
 obtain⟨bl,F,h1,rfl,h3,h4,h5,h6,h7⟩:=H;refine(forget_at h3 x hx).mono ?_;rintro e w' ⟨rfl,F',k1,k2,k3⟩
 refine⟨rfl,fun k=>Ft k\/New w w' k,⟨bl,F',h1.keep k2 (fun k hk hf=>h4 k hk hf),rfl,k1.bare,fun k hk hf=>?_,fun k hk=>.inl (h5 k hk),fun k hk=>(k3 k hk).imp (h6 k) id,fun k hk=>hk.elim (fun hk=>Nat.lt_of_lt_of_le (h7 k hk) k2.size) (fun hk=>hk.2)⟩,k2.mono (fun k _ e=>h6 k e),fun k hk=>hk⟩
 rcases k3 k hf with hf|hf
 ·exact h4 k hk hf
 ·have:=h1.lt k hk
  have:=hf.1;omega
theorem HsAt.size(H:HsAt w h c l Ft)(di:List UInt8)(hd:di.length=32):Calls prog 91 #[.pointer (some ⟨h.bs,0,none⟩),.agg (qA di)] w (SizeR w (getL di c)):=by
 obtain⟨bl,F,h1,rfl,_⟩:=H;exact bSize_any h1 di hd
theorem HsAt.ids(H:HsAt w h c l Ft):Calls prog 38 #[.pointer (some ⟨h.bs,0,none⟩)] w (IDsR w c):=by
 obtain⟨bl,F,h1,rfl,_⟩:=H;exact bIDs_any h1
theorem HsAt.width(H:HsAt w h c l Ft):Calls prog 124 #[.pointer (some ⟨h.bs,0,none⟩)] w (RetE (.int .i64 h.wd) w):=by
 obtain⟨bl,F,h1,rfl,_⟩:=H;exact bWidth_any h1
theorem nameB_none:nameB ⟨#[]⟩=false:=by decide+kernel
theorem HsAt.none(H:HsAt w h c l Ft):Calls prog 123 #[h.q,.string ⟨#[]⟩,.agg (qA (List.replicate 32 0)),.int .i64 0] w (fun e w'=>(∃er:Int,er≠1/\e=.returned (.tuple #[.bool false,.int .i64 er]))/\HStep w h Ft w' c l):=by
 obtain⟨bl,F,h1,rfl,h3,h4,h5,h6,h7⟩:=H;refine(link_at h3 (⟨#[]⟩,List.replicate 32 0) (by simp[KeyOk]) (Nat.zero_le _) 0).mono ?_
 have ha:(addE true h.limit l (⟨#[]⟩,List.replicate 32 0) 0).1=false/\(addE true h.limit l (⟨#[]⟩,List.replicate 32 0) 0).2≠1:=by
  unfold addE;rw[nameB_none]
  simp
 rintro e w' ⟨rfl,F',k1,k2,k3⟩;rw[addL,ha.1]at k1
 refine⟨⟨_,ha.2,by rw[ha.1]⟩,fun k=>Ft k\/New w w' k,⟨bl,F',h1.keep k2 (fun k hk hf=>h4 k hk hf),rfl,k1.bare,fun k hk hf=>?_,fun k hk=>.inl (h5 k hk),fun k hk=>(k3 k hk).imp (h6 k) id,fun k hk=>hk.elim (fun hk=>Nat.lt_of_lt_of_le (h7 k hk) k2.size) (fun hk=>hk.2)⟩,k2.mono (fun k _ e=>h6 k e),fun k hk=>hk⟩
 rcases k3 k hf with hf|hf
 ·exact h4 k hk hf
 ·have:=h1.lt k hk
  have:=hf.1;omega
end
abbrev SwS:=BlobL×LinkL×Nat×Nat
def swStep(s:SwS)(x:List UInt8):SwS:=(delL x s.1,xX s.2.1 x,s.2.2.1+((getL x s.1).getD []).length,s.2.2.2+xQ s.2.1 x)
def swRun(xs:List (List UInt8))(c:BlobL)(l:LinkL):SwS:=xs.foldl swStep (c,l,0,0)
theorem swRun_snoc(xs:List (List UInt8))(x:List UInt8)(c:BlobL)(l:LinkL):swRun (xs++[x]) c l=swStep (swRun xs c l) x:=by simp[swRun]
def goneL(ids marks:List (List UInt8)):List (List UInt8):=ids.filter fun x=> !decide (x∈marks)
theorem sweptZ:(prog.info? 104).bind (·.zero)=some (.agg #[.slice none 0 0,.int .i64 0,.int .i64 0]):=by kernel_rfl
theorem setZ:(prog.info? 200).bind (·.zero)=some (.map none):=by kernel_rfl
theorem built_id0:prog.built 24 []=some (qA (List.replicate 32 0)):=by kernel_rfl
def qM(bv:Value)(b n:Nat):Array Value:=#[bv,.int .i64 b,.int .i64 n]
structure SwpAt(w0:World)(h:House)(Ft:Nat->Prop)(c:BlobL)(l:LinkL)(gone:List (List UInt8))(ob:Nat)(bv:Value)(k:Nat)(s:SwS)(w:World)(Fk:Nat->Prop):Prop where
 run:swRun (gone.take k) c l=s
 at':HsAt w h s.1 s.2.1 Fk
 mod:Mod Ft w0 w
 sub:∀j,Fk j->Ft j\/New w0 w j
 nob:¬Fk ob
 nrow:∀q,bv.ownBlock=some q->¬Fk q
 box:w.heap[ob]?=some (.cells (qM bv s.2.2.1 s.2.2.2) 104 (0,0))
 row:GatI w0.heap.size w bv gone
 b1:s.2.2.1<=k*4096
 n1:s.2.2.2<=k*65536
def SwpRel(w0:World)(h:House)(Ft:Nat->Prop)(c:BlobL)(l:LinkL)(gone:List (List UInt8))(ob:Nat)(bv:Value)(i:Value)(w:World):Prop:=
 ∃k s Fk,k<=gone.length/\i=.int .i64 (k:Nat)/\SwpAt w0 h Ft c l gone ob bv k s w Fk
def SwpR(w:World)(h:House)(Ft:Nat->Prop)(c:BlobL)(l:LinkL)(marks:List (List UInt8)):Ending->World->Prop:=fun e w'=>
 ∃ids bv s Ft',IDsC c ids/\swRun (goneL ids marks) c l=s/\e=.returned (.tuple #[.agg (qM bv s.2.2.1 s.2.2.2),.int .i64 0])/\GatI w.heap.size w' bv (goneL ids marks)/\
  HsAt w' h s.1 s.2.1 Ft'/\Mod Ft w w'/\(∀k,Ft' k->Ft k\/New w w' k)/\∀q,bv.ownBlock=some q->¬Ft' q
section
variable{w:World}{h:House}{c:BlobL}{l:LinkL}{Ft:Nat->Prop}
theorem swSweep_any(H:HsAt w h c l Ft){own:Bool}{G:Nat->Prop}{v:Value}{marks:List (List UInt8)}(hv:Sl own w G 32 IdC v marks)(hG:∀k,G k->¬Ft k):Calls prog 53 #[.pointer (some ⟨h.bs,0,none⟩),h.q,v] w (SwpR w h Ft c l marks):=by
 have hmm:= @run_makeMap prog;have HH:=hid H;have HV:=hid hv;obtain⟨vad,vcap,hve,-,-⟩:=Sl.at hv
 have hmk32:∀x∈marks,x.length=32:=by
  intro x hx;obtain⟨a,cap,_,_,hat⟩:=Sl.at hv;obtain⟨i,hi,rfl⟩:=List.getElem_of_mem hx;obtain⟨b,off,_,_,_,hc⟩:=hat i hi;obtain⟨cs,_,⟨_,h2⟩,_⟩:=hc i hi
  exact h2
 rw[hve]at HV;subst hve;clear H hv
 have hz:¬(h.wd:Int)=0:=by
  obtain⟨bl,F,h1,_⟩:=HH.out;have:=h1.wok;omega
 generalize hq:h.q=qv;go_enter func53,ntmps53;go_upto_region 0 with(fail);refine wpR [1,3] ?_;simp only[stz]
 refine wpD (qN 104 _ (by rfl) sweptZ (fun w1 hB1 hm1 hs1=>?_))
 replace hB1:w1.heap[w.heap.size]?=some (.cells #[.slice none 0 0,.int .i64 0,.int .i64 0] 104 (0,0)):=hB1;simp only[stz];have hlk:=(HH.out.keep0 hm1).none
 rw[hq]at hlk;go_upto_region 1 with(fail);refine wpR [3,0,1,3,3,3,3,3] ?_;simp only[stz]
 refine qG rfl (fun w' hS=>qO 24 [] [] _ (by rfl) (by rfl) built_id0) ?_;simp only[nmz];refine wpD (wpC func123 (hlk) ?_);rintro e w2 ⟨⟨er,her,rfl⟩,hst2⟩
 refine⟨_,rfl,?_⟩;simp only[stz];refine qC rfl (fun w'=>qJ _ 0 #[.bool false,.int .i64 er] rfl rfl (.bool false) rfl) ?_;simp only[nmz]
 refine qC rfl (fun w'=>qJ _ 1 #[.bool false,.int .i64 er] rfl rfl (.int .i64 er) rfl) ?_;simp only[stz];obtain⟨F2,H2,hm2,hs2⟩:=hst2;have hwid:=H2.width
 clear hlk;have HWID:=hid hwid;clear hwid;have hz1:((h.wd:Int)==0)=false:=by simpa using hz
 have her1:(er==1)=false:=by simpa using her
 clear hz her;go_upto_region 4 with(go_at_call 124;refine HWID.out.mono ?_;rintro _ w3 ⟨rfl,hw3⟩;obtain rfl:=hw3.symm)
 have hobF:¬Ft w.heap.size:=fun e=>by have:=HH.out.lt _ e;omega
 have hob2:¬F2 w.heap.size:=fun e=>(hs2 _ e).elim hobF (fun h=>by have:=h.1;omega);have hBo2:=hm2.obj hobF hB1
 have hm02:Mod Ft w w2:=(hm1.mono (fun _ _ h=>h.elim)).trans hm2 (fun _ _ h=>h)
 have hs02:∀k,F2 k->Ft k\/New w w2 k:=fun k hk=>(hs2 k hk).imp id (fun h=>⟨by have:=h.1;have:=hm1.size;omega,h.2⟩);have hlt2:=H2.lt;have hw02:=hm02.size
 clear hz1 her1 HWID hm2 hs2 hB1;refine wpR [1,3,1,1,1,1] ?_;simp only[stz];refine qL rfl (fun K hK=>?_);unfold Oper.wp execOp
 simp only[Array.map_empty,Option.map_none,Sem.run_bind,hmm,Result.andThen_ok,Sem.run_pure];have hB3:=heap_alloc_new w2 (.map #[] 0);have hm3:=qW w2 (.map #[] 0)
 have hs3:(w2.alloc (.map #[] 0)).heap.size=w2.heap.size+1:=by simp
 generalize w2.alloc (.map #[] 0)=w3 at hB3 hm3 hs3 |-;have hM3:MapIs idV IdOk w3 w2.heap.size []:=MapIs.made hB3;have hval:=valuesI_any w3 vad marks.length vcap
 refine hK _ _ trivial ?_;clear hK K;simp only[stz];refine wpD (wpC func119 (hval) ?_);rintro e w4 ⟨rfl,hw4⟩;have hm4:Mod NoB w3 w4:=by rw[hw4];exact qW w3 _
 have hB4:w4.heap[w3.heap.size]?=some (.cells #[.slice vad marks.length vcap] 25 (0,0)):=by rw[hw4];exact heap_alloc_new w3 _
 clear hw4;have hadd:=swAdd_any (enters_of func194 (by kernel_rfl) rfl) (valuesI_gives hB4 (((HV.out.keep hm02 hG (fun _ _ h=>h)).keep0 hm3).keep0 hm4)) hmk32 (hM3.keep0 hm4)
 refine⟨_,rfl,?_⟩;try simp only[nmz]
 refine wpD (wpC func115 (hadd) ?_);rintro e w5 ⟨rfl,hM5,hm5⟩;refine⟨_,rfl,?_⟩;try simp only[nmz]
 refine wpD (qN 200 _ (by rfl) setZ (fun w6 hB6 hm6 hs6=>?_));replace hB6:w6.heap[w5.heap.size]?=some (.cells #[.map none] 200 (0,0)):=hB6;try simp only[nmz]
 refine wpD (qR 200 _ _ w5.heap.size 0 (.map (some w2.heap.size)) (by rfl) (by rfl) (by rfl) rfl (by kernel_rfl) _ _ hB6 (by simp) (fun w7 hB7 hm7=>?_))
 replace hB7:w7.heap[w5.heap.size]?=some (.cells #[.map (some w2.heap.size)] 200 (0,0)):=hB7;simp only[stz]
 have hm25:Mod NoB w2 w5:=(hm3.trans0 hm4).transB hm5 (Nat.le_refl _);have hm27:Mod NoB w2 w7:=(hm25.trans0 hm6).transB hm7 hm25.size;have hmbk:=hM5.lt
 have hM7:=(hM5.keep0 hm6).keep hm7 (fun e=>by have e:w2.heap.size=w5.heap.size:=e;omega);have hkb7:w5.heap.size<w7.heap.size:=(Array.getElem?_eq_some_iff.1 hB7).1
 have hob2':w.heap.size<w2.heap.size:=(Array.getElem?_eq_some_iff.1 hBo2).1;generalize hmb:w2.heap.size=mb at*;generalize hkb:w5.heap.size=kb at*
 have hmk:=addsL_marked marks [] (by simp[Marked])
 have hmem:∀x,decide (x∈(addsL marks []).map (·.1))=decide (x∈marks):=fun x=>by rw[decide_eq_decide,addsL_mem];simp
 have H7:=H2.keep0 hm27;have hBo7:=hm27.obj id hBo2;have hids:=H7.ids;have hc32:=H7.small.1;have hs27:=hm27.size
 clear hB6 hm3 hm4 hm5 hm6 hm7 hM3 hB3 hB4 hval hadd hM5 hs3 hs6 hm25;go_upto_region 5 with(fail);refine wpR [3,1,1,1,3,1] ?_;simp only[stz];refine wpD (wpC func38 (hids) ?_)
 rintro e w8 ⟨hm8,v8,ids,he8,hg8,hidc⟩;subst he8
 have hi32:∀x∈ids,x.length=32:=fun x hx=>by
  obtain⟨p,hp,rfl⟩:=List.mem_map.1 ((hidc.2.mem_iff).1 hx);exact(hc32 p hp).1
 have hdels:DelsOn 126 #[.pointer (some ⟨kb,0,none⟩)] (fun x=>decide (x∈marks)) (fun q=>v8.ownBlock=some q) w8:=fun x W hx hm=>by
  have hno:∀k,k<w7.heap.size->¬(v8.ownBlock=some k):=fun k hk e=>by have:=(hg8.lt e).1;omega
  have h1:=swKept_any (hm.obj (hno kb hkb7) (hm8.obj id hB7)) ((hM7.keep0 hm8).keep hm (hno mb (by omega))) hmk x hx;rw[hmem]at h1;exact h1
 have hdelc:=deleteI_any (enters_of func126 (by kernel_rfl) rfl) hg8 hi32 hdels;refine⟨_,rfl,?_⟩;try simp only[nmz]
 refine wpX rfl (jI 126 [.tmp 10] (by rfl) [.pointer (some ⟨kb,0,none⟩)] (by rfl)) trivial ?_;try simp only[nmz]
 refine wpD (wpC func125 (hdelc) ?_);rintro e w9 ⟨hm9,bv,he9,hg9,ho9⟩;subst he9
 have hbv:∀q,bv.ownBlock=some q->w7.heap.size<=q:=fun q hq=>by rw[ho9]at hq;exact(hg8.lt hq).1
 have hm79:Mod NoB w7 w9:=hm8.trans hm9 (fun k hk e=>by have:=(hg8.lt e).1;omega);have hBo9:=hm79.obj id hBo7;refine⟨_,rfl,?_⟩;simp only[stz]
 refine wpD (qR 25 _ _ w.heap.size 0 bv (by rfl) (by rfl) (by rfl) (xW hg9) (by kernel_rfl) _ _ hBo9 (by simp) (fun w10 hB10 hm10=>?_))
 replace hB10:w10.heap[w.heap.size]?=some (.cells #[bv,.int .i64 0,.int .i64 0] 104 (0,0)):=hB10;simp only[stz];have hm29:=hm27.trans0 hm79
 have hg10:GatI w.heap.size w10 bv (goneL ids marks):=(hg9.keep hm10 (fun q hq e=>by have:=hbv q hq;have e:q=w.heap.size:=e;omega)).base (by omega)
 have hAt:SwpAt w h Ft c l (goneL ids marks) w.heap.size bv 0 (c,l,0,0) w10 F2:=by
  refine⟨rfl,(H2.keep0 hm29).keep hm10 (fun k hk e=>hob2 (by rw[<-show k=w.heap.size from e];exact hk)),?_,?_,hob2,fun q hq hf=>?_,hB10,hg10,Nat.le_refl _,Nat.le_refl _⟩
  ·exact(hm02.trans hm29 (fun _ _ h=>h.elim)).trans hm10 (fun k hk e=>by have e:k=w.heap.size:=e;omega)
  ·intro k hk
   exact(hs02 k hk).imp id (fun h=>⟨h.1,by have:=h.2;have:=hm29.size;have:=hm10.size;omega⟩)
  ·have:=hbv q hq
   have:=hlt2 q hf;omega
 obtain⟨gad,gcap,hgv⟩:=hg10.slice
 have hgl:(goneL ids marks).length<=9223372036854775807:=by
  rcases hg10.2 with⟨_,h0⟩|⟨g,cc,cur,_,_,_,hc,hm,_⟩
  ·omega
  ·unfold maxLen at hm;omega
 have hgl2:(goneL ids marks).length<=10000:=by
  have h1:(goneL ids marks).length<=ids.length:=List.length_filter_le _ _;have h2:=hidc.2.length_eq;have h3:=H7.small.2.1
  simp at h2
  omega
 have hg32:∀x∈goneL ids marks,x.length=32:=fun x hx=>hi32 x (List.mem_filter.1 hx).1;have HIDC:=hid hidc;generalize hgone:goneL ids marks=gone at*
 have HGO:=hid hgone;have HR0:Hid (SwpRel w h Ft c l gone w.heap.size bv (.int .i64 (0:Nat)) w10):=hid ⟨0,_,F2,Nat.zero_le _,rfl,hAt⟩
 have hcB:w10.cell? ⟨w.heap.size,0,none⟩=some bv:=by simp[World.cell?,hB10]
 rw[hgv]at hcB HR0;generalize hob:w.heap.size=ob at*
 clear hgone hAt hg10 hB10 hm10 hBo9 hm79 hbv hg9 ho9 hm9 hdelc hdels hm29 hi32 hg8 hidc hm8 H7 hids hBo7 hmem hmk hM7 hm27 H2 hB7 hlt2 hs02 hm02 hBo2 hm1
 go_upto_region 6 with(fail);refine wpR [3,1,3,3] ?_;simp only[stz];refine wpXd 25 ob 0 hcB underlying25 trivial ?_;try simp only[nmz]
 refine wpPL ?_;simp only[stz];clear hcB;go_wp2
 go_loopw [41] (SwpRel w h Ft c l gone ob (.slice gad gone.length gcap)) (fun i _=>gone.length-(intOf i).toNat)
 case atStart=>exact HR0.out
 case round=>
  rename World=>wr
  obtain⟨k,s,Fk,hk,rfl,hat⟩:=hrel;have hrow:=hat.row
  by_cases hlt:k<gone.length
  ·have hz:(k:Int)<(gone.length:Nat):=by omega
   obtain⟨g,cap',cur,hce,hg,hcA,-,-,-⟩:=Gat.at hrow jM k hlt
   obtain⟨rfl,rfl⟩:gad=some ⟨g,0,none⟩/\gcap=cap':=by injection hce with e1 e2 e3;exact⟨e1,e3⟩
   have hx32:=hg32 _ (List.getElem_mem hlt);rw[idE_eq hx32]at hcA;have hrun:swRun (gone.take (k+1)) c l=swStep s gone[k]:=by rw[<-take_snoc hlt,swRun_snoc,hat.run]
   generalize gone[k]=x at*;have hic:(qA x).size=32:=by rw[qB,hx32]
   have HRUN:=hid hrun;have HAT:=hid hat;have hboxr:=hat.box;have hobk:=hat.nob;have hnrk:=hat.nrow g rfl
   have hobr:ob<wr.heap.size:=(Array.getElem?_eq_some_iff.1 hboxr).1;have hgr:g<wr.heap.size:=(Array.getElem?_eq_some_iff.1 hg).1;have hltk:=hat.at'.lt
   have hsm:=hat.at'.small;have hb1:=hat.b1;have hn1:=hat.n1
   have hgne:g≠ob:=fun e=>by
    subst e;rw[hg]at hboxr;injection hboxr with h1;injection h1 with _ h2 _;exact absurd h2 (by decide)
   clear hrun hat hce;go_upto_region 8 with(fail);refine wpR [3,1,1,1] ?_;simp only[stz];refine wpPI underlying25 32 hlt ?_;simp only[nmz]
   refine wpXA 24 g (k*32) (qA x) hcA underlying24 32 hic trivial ?_;try simp only[nmz]
   refine wpD (qN 24 _ (by rfl) idZ (fun w2 hB2 hm2 hs2=>?_));replace hB2:w2.heap[wr.heap.size]?=some (.cells (qA (List.replicate 32 0)) 24 (0,0)):=hB2
   try simp only[nmz]
   refine wpD (qF 24 _ _ wr.heap.size 0 (qA x) (by rfl) (by rfl) (by rfl) (qP _) 32 (by kernel_rfl) hic _ _ hB2 (by rw[hic,qB];simp) (fun w3 hB3 hm3=>?_))
   rw[qD (by rw[hic,qB];simp)]at hB3;simp only[stz];have hmr3:Mod NoB wr w3:=hm2.transB hm3 (Nat.le_refl _);have H3:=HAT.out.at'.keep0 hmr3
   have hbox3:=hmr3.obj id hboxr;have hrow3:=hrow.keep0 hmr3;have hib3:wr.heap.size<w3.heap.size:=(Array.getElem?_eq_some_iff.1 hB3).1;have hsz:=H3.size x hx32
   clear hm2 hm3 hB2 hs2 hcA hg hboxr hrow;generalize hib:wr.heap.size=ib at*;obtain⟨m,hmm2⟩:∃m,((getL x s.1).getD []).length=m:=⟨_,rfl⟩
   have hm4096:m<=4096:=by
    rw[<-hmm2]
    cases hgx:getL x s.1 with
    |none=>simp
    |some b=>exact(hsm.1 _ (yC hgx)).2
   obtain⟨mo,hmo⟩:∃mo,(getL x s.1).isSome=mo:=⟨_,rfl⟩;unfold SizeR at hsz;rw[hmm2,hmo]at hsz;have HMM:=hid hmm2;clear hmm2 hmo;go_upto_region 9 with(fail)
   refine wpR [3,1,1,3,3,3,3,3] ?_;simp only[stz];refine wpXA 24 ib 0 (qA x) (CellsAt.whole hB3) underlying24 32 hic trivial ?_;try simp only[nmz]
   refine wpD (wpC func91 (hsz) ?_);rintro e w4 ⟨hm4,he4⟩;subst he4;refine⟨_,rfl,?_⟩;simp only[stz]
   refine qC rfl (fun w'=>qJ _ 0 #[.int .i64 (m:Nat),.bool mo] rfl rfl (.int .i64 (m:Nat)) rfl) ?_;simp only[nmz]
   refine qC rfl (fun w'=>qJ _ 1 #[.int .i64 (m:Nat),.bool mo] rfl rfl (.bool mo) rfl) ?_;simp only[stz];have H4:=H3.keep0 hm4
   have hbox4:=hm4.obj id hbox3;have hB4:=hm4.obj id hB3;have hrow4:=hrow3.keep0 hm4;have hmr4:=hmr3.trans0 hm4;have hs34:=hm4.size;have hdrop:=H4.drop x hx32
   clear hsz H3 hB3 hbox3 hrow3 hm4 hmr3;go_upto_region 10 with(fail);refine wpR [3,1,1] ?_;simp only[stz]
   refine wpXA 24 ib 0 (qA x) (CellsAt.whole hB4) underlying24 32 hic trivial ?_;try simp only[nmz]
   refine wpD (wpC func30 (hdrop) ?_);rintro e w5 ⟨v5,rfl,F5,H5,hm5,hs5⟩;refine⟨_,rfl,?_⟩;simp only[stz];have hibk:¬Fk ib:=fun e=>by have:=hltk _ e;omega
   have hbox5:=hm5.obj hobk hbox4;have hB5:=hm5.obj hibk hB4;have hrow5:=hrow4.keep hm5 (fun q hq=>by have hq:some g=some q:=hq;cases hq;exact hnrk)
   have hs4:=hmr4.size;have hno5:∀j,j<w4.heap.size->¬Fk j->¬F5 j:=fun j hj hf hf5=>(hs5 j hf5).elim hf (fun h=>by have:=h.1;omega)
   have hob5:=hno5 ob (by omega) hobk;have hib5:=hno5 ib (by omega) hibk;have hg5:=hno5 g (by omega) hnrk
   have hcb5:w5.cell? ⟨ob,0+1,none⟩=some (.int .i64 (s.2.2.1:Nat)):=by simp[World.cell?,hbox5,qM]
   clear hdrop hbox4 hB4 hrow4 H4;go_upto_region 11 with(fail);refine wpR [3,1,3,3,3,1] ?_;simp only[stz];refine wpXd 3 ob (0+1) hcb5 underlying3 trivial ?_
   simp only[stz];refine zF _ _ _ _ ((s.2.2.1:Nat):Int) ((m:Nat):Int) ((s.2.2.1+m:Nat):Int) rfl rfl rfl rfl (by omega) (by omega) (by omega) ?_
   simp only[stz]
   refine wpD (qR 3 _ _ ob (0+1) (.int .i64 ((s.2.2.1+m:Nat):Int)) (by rfl) (by rfl) (by rfl) rfl (by kernel_rfl) _ _ hbox5 (by simp[qM]) (fun w6 hB6 hm6=>?_))
   replace hB6:w6.heap[ob]?=some (.cells (qM (.slice (some ⟨g,0,none⟩) gone.length gcap) (s.2.2.1+m) s.2.2.2) 104 (0,0)):=hB6;simp only[stz]
   have H6:=H5.keep hm6 (fun j hj e=>hob5 (by rw[<-show j=ob from e];exact hj));have hid6:=hm6.objB (b:=ib) (by omega) hB5
   have hrow6:=hrow5.keep hm6 (fun q hq e=>by have hq:some g=some q:=hq;cases hq;exact hgne e)
   have hcn6:w6.drew.cell? ⟨ob,0+2,none⟩=some (.int .i64 (s.2.2.2:Nat)):=by
    have h1:w6.drew.heap[ob]?=_:=hB6
    simp[World.cell?,h1,qM]
   have hcx6:CellsAt w6.drew ib 0 (qA x):=CellsAt.whole (w:=w6.drew) hid6;have hdr:Mod NoB w6 w6.drew:=(Mod.refl _ _).drew;have hfor:=(H6.keep0 hdr).forget x hx32
   rw[hq]at hfor;have hle5:=hm5.size;have hle6:=hm6.size;have hfl:xQ s.2.1 x<=65536:=Nat.le_trans (List.length_filter_le _ _) hsm.2.2
   obtain⟨fn,hfn⟩:∃n,xQ s.2.1 x=n:=⟨_,rfl⟩;rw[hfn]at hfl;simp only[hfn]at hfor;have HFN:=hid hfn
   obtain⟨SC,hSC⟩:∃SC:World->Prop,SC=fun w'=>w'.cell? ⟨ob,0+2,none⟩=some (.int .i64 (s.2.2.2:Nat))/\CellsAt w' ib 0 (qA x):=⟨_,rfl⟩
   have hSi:∀w',SC w'->w'.cell? ⟨ob,0+2,none⟩=some (.int .i64 (s.2.2.2:Nat))/\CellsAt w' ib 0 (qA x):=fun w' h=>by rw[hSC]at h;exact h
   have hSm:∀w',w'.cell? ⟨ob,0+2,none⟩=some (.int .i64 (s.2.2.2:Nat))/\CellsAt w' ib 0 (qA x)->SC w':=fun w' h=>by rw[hSC];exact h
   have hS:SC w6.drew:=hSm _ ⟨hcn6,hcx6⟩;clear hfn hSC hcn6 hbox5 hB5 hrow5 H5;go_upto_region 12 with(fail);refine wpRZ [3,0,3,0,1,3,3,2] [7] SC hS ?_;simp only[stz]
   refine wpLd 3 ob (0+2) (fun w' hS=>(hSi _ hS).1) underlying3 ?_;simp only[stz];refine wpLA 24 ib 0 (qA x) (fun w' hS=>(hSi _ hS).2) underlying24 32 hic ?_
   simp only[nmz];refine qL rfl (fun K hK=>?_);refine wpC func127 (hfor) ?_;rintro e w7 ⟨rfl,F7,H7,hm7,hs7⟩;have hB7:=hm7.obj hob5 (hdr.obj id hB6)
   have hS2:SC w7:=hSm _ ⟨by simp[World.cell?,hB7,qM],hcx6.keep hm7 hib5⟩;refine⟨_,rfl,hK _ _ hS2 ?_⟩;clear hK K;try simp only[nmz]
   refine zF _ _ _ _ ((s.2.2.2:Nat):Int) ((fn:Nat):Int) ((s.2.2.2+fn:Nat):Int) rfl rfl rfl rfl (by omega) (by omega) (by omega) ?_;simp only[stz]
   refine zD rfl (fun K hK=>?_)
   refine qR 3 _ _ ob (0+2) (.int .i64 ((s.2.2.2+fn:Nat):Int)) (by rfl) (by rfl) (by rfl) rfl (by kernel_rfl) _ _ hB7 (by simp[qM]) (fun w8 hB8 hm8=>?_)
   replace hB8:w8.heap[ob]?=some (.cells (qM (.slice (some ⟨g,0,none⟩) gone.length gcap) (s.2.2.1+m) (s.2.2.2+fn)) 104 (0,0)):=hB8;refine hK _ _ ?_;clear hK K
   simp only[stz];have hno7:∀j,j<w6.heap.size->¬F5 j->¬F7 j:=fun j hj hf hf7=>(hs7 j hf7).elim hf (fun h=>by have h:=h.1;have:w6.heap.size<=j:=h;omega)
   have hob7:=hno7 ob (by omega) hob5;have hg7:=hno7 g (by omega) hg5;have hle7:w6.heap.size<=w7.heap.size:=hm7.size;have hle8:=hm8.size;have hA:=HAT.out
   have hlt0:w.heap.size=ob:=hob
   have hF5:∀j,j<ob->F5 j->Ft j:=fun j hj hf=>by
    rcases hs5 j hf with h|h
    ·rcases hA.sub j h with h|h
     ·exact h
     ·have:=h.1;omega
    ·have:=h.1;omega
   have hmodA:Mod Ft w w8:=by
    refine Mod.trans (Mod.trans (Mod.trans (Mod.trans (Mod.trans (Mod.trans hA.mod hmr4 (fun _ _ h=>h.elim)) hm5 (fun j hj hf=>?_)) hm6 (fun j hj e=>?_)) hdr (fun _ _ h=>h.elim)) hm7 (fun j hj hf=>hF5 j (by omega) hf)) hm8 (fun j hj e=>?_)
    ·rcases hA.sub j hf with h|h
     ·exact h
     ·have:=h.1;omega
    ·have e:j=ob:=e;omega
    ·have e:j=ob:=e;omega
   have hAt:SwpAt w h Ft c l gone ob (.slice (some ⟨g,0,none⟩) gone.length gcap) (k+1) (swStep s x) w8 F7:=by
    refine⟨HRUN.out,H7.keep hm8 (fun j hj e=>hob7 (by rw[<-show j=ob from e];exact hj)),hmodA,fun j hf=>?_,hob7,fun q hq=>?_,?_,?_,?_,?_⟩
    ·rcases hs7 j hf with h7|h7
     ·rcases hs5 j h7 with h5|h5
      ·exact(hA.sub j h5).imp id (fun h=>⟨h.1,by have:=h.2;omega⟩)
      ·exact .inr ⟨by have:=h5.1;omega,by have:=h5.2;omega⟩
     ·exact .inr ⟨by have h:=h7.1;have:w6.heap.size<=j:=h;omega,by have:=h7.2;omega⟩
    ·have hq:some g=some q:=hq
     cases hq
     exact hg7
    ·unfold swStep
     rw[HMM.out,HFN.out];exact hB8
    ·exact((hrow6.keep0 hdr).keep hm7 (fun q hq=>by have hq:some g=some q:=hq;cases hq;exact hg5)).keep hm8 (fun q hq e=>by have hq:some g=some q:=hq;cases hq;exact hgne e)
    ·unfold swStep
     rw[HMM.out]
     show s.2.2.1+m<=_
     omega
    ·unfold swStep
     rw[HFN.out]
     show s.2.2.2+fn<=_
     omega
   have HR:Hid (SwpRel w h Ft c l gone ob (.slice (some ⟨g,0,none⟩) gone.length gcap) (.int .i64 ((k+1:Nat):Int)) w8):=hid ⟨k+1,_,F7,by omega,rfl,hAt⟩
   clear hAt hmodA hA hB8 hm8 hm7 hm6 hm5 hs7 hs5 hB7 hS hS2 hSi hSm H6 hrow6 hfor hB6 hid6 hcx6 hdr hmr4 H7;go_wp2
   go_roundw
   case rel=>exact HR.out
   case measure=>simp[intOf];omega
  ·have hz:¬(k:Int)<(gone.length:Nat):=by omega
   obtain rfl:k=gone.length:=by omega
   have hbox:=hat.box;have hrun:=hat.run;rw[List.take_length]at hrun;have hone:(Value.slice gad gone.length gcap).oneCell'=true:=rfl
   have hall:∀cc∈qM (.slice gad gone.length gcap) s.2.2.1 s.2.2.2,cc.oneCell'=true:=by
    intro cc hc
    simp[qM]at hc
    rcases hc with rfl|rfl|rfl<;>rfl
   have hca:CellsAt wr ob 0 (qM (.slice gad gone.length gcap) s.2.2.1 s.2.2.2):=CellsAt.whole hbox;go_upto_region 14 with(fail);refine wpR [1,1,3] ?_;simp only[stz]
   refine wpXA 104 ob 0 (qM (.slice gad gone.length gcap) s.2.2.1 s.2.2.2) hca underlying104 3 rfl trivial ?_;try simp only[nmz]
   refine wpD (qF 104 _ _ ob 0 (qM (.slice gad gone.length gcap) s.2.2.1 s.2.2.2) (by rfl) (by rfl) (by rfl) hall 3 (by kernel_rfl) rfl _ _ hbox (by simp[qM]) (fun w9 hB9 hm9=>?_))
   rw[qD rfl]at hB9;simp only[stz];have hlt0:w.heap.size=ob:=hob;have hnob:=hat.nob
   have HF:Hid (SwpR w h Ft c l marks (.returned (.tuple #[.agg (qM (.slice gad gone.length gcap) s.2.2.1 s.2.2.2),.int .i64 0])) w9):=hid (by
    refine⟨ids,.slice gad gone.length gcap,s,Fk,HIDC.out,by rw[HGO.out];exact hrun,rfl,?_,hat.at'.keep hm9 (fun j hj e=>hnob (by rw[<-show j=ob from e];exact hj)),hat.mod.trans hm9 (fun j hj e=>by have e:j=ob:=e;omega),fun j hj=>(hat.sub j hj).imp id (fun h=>⟨h.1,by have:=h.2;have:=hm9.size;omega⟩),hat.nrow⟩
    rw[HGO.out];refine hrow.keep hm9 (fun q hq e=>?_);have e:q=ob:=e;rw[e]at hq
    rcases hrow.2 with⟨h1,_⟩|⟨g,cc,cur,h1,_,hg,_⟩
    ·injection h1 with h1
     rw[h1]at hq
     cases hq
    ·injection h1 with h1
     rw[h1]at hq;have hq:some g=some ob:=hq
     cases hq
     rw[hg]at hbox;injection hbox with h1;injection h1 with _ h2 _
     exact absurd h2 (by decide))
   clear hm9 hrow hat hbox hca hrun;go_wp2;refine bodyPost_ret (xM (P:=prog) (ty:=104) rfl _ _ ob _ _ _ _ (by rfl) hB9 underlying104 rfl (by kernel_rfl)) rfl ?_
   exact HF.out
end
end
section
open Go.RowKit Go.Proofs.Tryz Go.Lib
structure Evt where
 r:Int
 n:Int
 deps:List Int
 kind:Int
 repo:ByteArray
 tag:ByteArray
 id:List UInt8
 refs:List (List UInt8)
 deriving DecidableEq
def xI(e:Evt)(dv rv:Value):Array Value:=
 #[.int .i64 e.r,.int .i64 e.n,dv,.int .i64 e.kind,.string e.repo,.string e.tag]++qA e.id++#[rv]
def EvR(own:Bool)(w:World)(G:Nat->Prop)(cs:Array Value)(e:Evt):Prop:=
 ∃dv rv,cs=xI e dv rv/\e.id.length=32/\Sl own w G 1 IntC dv e.deps/\Sl own w G 32 IdC rv e.refs/\e.repo.size<=maxLen/\e.tag.size<=maxLen
structure EvCells(cs:Array Value)(e:Evt)(dv rv:Value):Prop where
 size:cs.size=39
 c0:cs[0]?=some (.int .i64 e.r)
 c1:cs[1]?=some (.int .i64 e.n)
 c2:cs[2]?=some dv
 c3:cs[3]?=some (.int .i64 e.kind)
 c4:cs[4]?=some (.string e.repo)
 c5:cs[5]?=some (.string e.tag)
 c38:cs[38]?=some rv
 dot:cs.extract 0 2=#[.int .i64 e.r,.int .i64 e.n]
 id:cs.extract 6 38=qA e.id
theorem zI(e:Evt)(dv rv:Value)(h:e.id.length=32):EvCells (xI e dv rv) e dv rv:=by
 have hi:(qA e.id).size=32:=by rw[qB,h]
 have hl:(e.id.map byteV).length=32:=by simpa using h
 refine⟨by simp[xI,hi],?_,?_,?_,?_,?_,?_,?_,?_,?_⟩
 all_goals try (simp[xI,qA,h];done)
 ·apply Array.toList_inj.1
  simp only[xI,qA,Array.toList_extract,Array.toList_append,List.extract_eq_take_drop]
  simp[hl]
theorem evCells_one{e:Evt}{dv rv:Value}(h1:dv.oneCell'=true)(h2:rv.oneCell'=true):∀c∈xI e dv rv,c.oneCell'=true:=by
 intro c hc;simp only[xI,Array.mem_append]at hc
 rcases hc with(hc|hc)|hc
 ·simp at hc
  rcases hc with rfl|rfl|rfl|rfl|rfl|rfl<;>first|rfl|exact h1
 ·exact qP _ c hc
 ·simp at hc;subst hc;exact h2
theorem EvR.keep{own:Bool}{w w':World}{G S:Nat->Prop}{cs:Array Value}{e:Evt}(h:EvR own w G cs e)(hm:Mod S w w')(hd:∀k,G k->¬S k):EvR own w' G cs e:=by
 obtain⟨dv,rv,hc,hi,h1,h2,h3⟩:=h;exact⟨dv,rv,hc,hi,h1.keep hm hd fun _ _ h=>h,h2.keep hm hd fun _ _ h=>h,h3⟩
theorem EvR.mono{own:Bool}{w:World}{G G':Nat->Prop}{cs:Array Value}{e:Evt}(h:EvR own w G cs e)(hg:∀k,G k->G' k):EvR own w G' cs e:=by
 obtain⟨dv,rv,hc,hi,h1,h2,h3⟩:=h;exact⟨dv,rv,hc,hi,h1.mono hg fun _ _ h=>h,h2.mono hg fun _ _ h=>h,h3⟩
theorem EvR.keep0{own:Bool}{w w':World}{G:Nat->Prop}{cs:Array Value}{e:Evt}(h:EvR own w G cs e)(hm:Mod NoB w w'):EvR own w' G cs e:=h.keep hm (fun _ _=>id)
theorem SlEv.keep0{own own':Bool}{w w':World}{E G:Nat->Prop}{v:Value}{l:List Evt}(h:Sl own w E 39 (EvR own' w G) v l)(hm:Mod NoB w w'):Sl own w' E 39 (EvR own' w' G) v l:=h.keep hm (fun _ _=>id) (fun _ _ h=>h.keep0 hm)
end
end Go.Proofs.YtjeonjoifjbohaaGreat
