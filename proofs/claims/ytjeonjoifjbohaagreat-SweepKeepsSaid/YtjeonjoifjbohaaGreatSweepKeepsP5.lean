/- What the statement SweepKeeps needs, part 5. -/
import Derived.RangeFuncNested
import Derived.Sort.CutIn
import Derived.Test.YtjeonjoifjbohaaGreatSweepKeepsP4
set_option linter.unusedVariables false
set_option linter.unusedSimpArgs false
set_option linter.unnecessarySimpa false
set_option linter.unusedSectionVars false
set_option maxRecDepth 10000
set_option maxHeartbeats 8000000
namespace Go.Proofs.YtjeonjoifjbohaaGreat
section
open Go.RowKit Go.Shelf Go.Proofs.Tryz Go.Lib
def descE(d:DescL):List Value:=if d.id.length=32 then(qW d).toList else List.replicate 35 (.int .i64 0)
theorem descE_len(d:DescL):(descE d).length=35:=by
 unfold descE
 split
 ·rename_i h;rw[Array.length_toList];exact zQ h
 ·simp
theorem descE_one(d:DescL):∀c∈descE d,c.oneCell'=true:=by
 unfold descE
 split
 ·intro c hc;exact descRow_one _ _ _ _ c (by simpa[qW]using hc)
 ·intro c hc;rw[List.eq_of_mem_replicate hc];rfl
theorem descE_eq{d:DescL}(h:d.id.length=32):(descE d).toArray=qW d:=by unfold descE;rw[if_pos h]
theorem desc_i:(prog.info? 46).map (fun i=>(i.zero,i.size,i.bytes))=some (some (.agg (qW descZ)),35,64):=by kernel_rfl
theorem desc_zs:(Value.agg (qW descZ)).cells.size=35:=by kernel_rfl
abbrev GatD(base:Nat)(w:World)(v:Value)(l:List DescL):Prop:=Gat descE 46 35 base w v l
section
variable{w:World}{rb wb:Nat}{bv:Value}{b:List UInt8}{a:Nat}{e p:Int}
theorem RdS.keepS{S:Nat->Prop}{w1 w2:World}{s:RS}(h:RdS w w1 rb wb bv b s)(h0:∀k,k=rb\/k=wb\/bv.ownBlock=some k->k<w.heap.size)(hm:Mod S w1 w2)(hS:∀k,S k->w.heap.size<=k):RdS w w2 rb wb bv b s:=by
 obtain⟨⟨a,e,p,hi,hst⟩,hM⟩:=h;refine⟨⟨a,e,p,hi.keep hm (fun e=>?_) (fun e=>?_) (fun k hk e=>?_),hst⟩,hM.trans hm (fun k hk e=>?_)⟩
 ·have:=hS _ e;have:=h0 rb (.inl rfl);omega
 ·have:=hS _ e;have:=h0 wb (.inr (.inl rfl));omega
 ·have:=hS _ e;have:=h0 k (.inr (.inr hk));omega
 ·have:=hS _ e;omega
def ManyR(w:World)(rb wb:Nat)(bv:Value)(b:List UInt8)(l:List DescL)(s:RS):Ending->World->Prop:=fun x w'=>RdS w w' rb wb bv b s/\∃v,x=.returned v/\GatD w.heap.size w' v l
def ManyRel(w0:World)(rb wb:Nat)(bv:Value)(b:List UInt8)(s:RS)(n:Nat)(v i:Value)(w:World):Prop:=∃k:Nat,k<=n/\i=.int .i64 k/\RdS w0 w rb wb bv b (xO b k s).2/\GatD w0.heap.size w v (xO b k s).1
theorem mMany_any(h:RdI w rb wb bv b a e p)(size:Int)(n:Nat)(hn:n<=4096):Calls prog 244 #[.int .i64 n,.func (.func 242) #[.agg #[.pointer (some ⟨rb,0,none⟩),.int .i64 size]] #[]] w (ManyR w rb wb bv b (xO b n (stOf a e)).1 (xO b n (stOf a e)).2):=by
 have hall:=h.all;have hst:=h.stay;have hok:=h.notOk;generalize stOf a e=s at hst hok |-;have HST:=hid hst
 have HD:=hid (show ∀(w':World)(s':RS),RdS w w' rb wb bv b s'->Calls prog 242 #[.agg #[.pointer (some ⟨rb,0,none⟩),.int .i64 size]] w' (DescR w' rb wb bv b (yM b s').1 (yM b s').2)from fun w' s' hw'=>by
  obtain⟨⟨a',e',p',h',hs⟩,-⟩:=hw';have:=mDesc_any h' size
  rwa[hs]at this)
 clear h hst;go_enter func244,ntmps244;go_upto_region 1 with(fail);go_wp2
 go_loopw [4,6] (ManyRel w rb wb bv b s n) (fun _ i _=>n-(intOf i).toNat)
 case atStart=>exact⟨0,Nat.zero_le _,rfl,HST.out,Gat.nil _ _ _ _ _⟩
 case round=>
  rename World=>wr
  obtain⟨k,hk,rfl,hrd,hg⟩:=hrel;have HRD:=hid hrd;have HG:=hid hg
  by_cases hlt:k<n
  ·have hz:(k:Int)<(n:Int):=by omega
   have hidl:=(rDescL_ok (b:=b) (s:=(xO b k s).2)).2.1;have hlen:=rDescsL_len (b:=b) (s:=s) k;obtain⟨d,hd⟩:∃d,(yM b (xO b k s).2).1=d:=⟨_,rfl⟩
   have hcall:=HD.out wr _ hrd;rw[hd]at hidl hcall;have HDD:=hid hd;have HE:=hid (descE_eq hidl);have hds:=zQ (m:=d.media) (n:=d.size) (p:=d.plat) hidl
   replace hds:(qW d).size=35:=hds;clear hrd hg hd;go_upto_region 3 with(fail);refine wpR [3,3,1,1,1,3] (by rfl) (by rfl) ?_;simp only[stz];refine wpDo rfl ?_
   refine wp_callv 242 _ [] _ #[.agg #[.pointer (some ⟨rb,0,none⟩),.int .i64 size]] #[] (by rfl) (by rfl) (enters_of func242 (by kernel_rfl) rfl) ?_
   show Calls prog 242 #[.agg #[.pointer (some ⟨rb,0,none⟩),.int .i64 size]] _ _
   refine hcall.mono ?_;rintro e w2 ⟨hr2,rfl⟩;have HR2:=hid (HRD.out.trans hr2)
   have HG2:Hid (GatD w.heap.size w2 _ (xO b k s).1):=hid (HG.out.keep hr2.2 (fun q hq e=>by
    have h1:=(HG.out.lt hq).1
    rcases e with e|e
    ·have:=hall rb (.inl rfl);omega
    ·have:=hall wb (.inr (.inl rfl));omega))
   clear hr2;refine⟨_,rfl,?_⟩;try simp only[nmz]
   refine wpDo rfl ?_
   refine qY 161 46 _ (.agg (qW d)) (.agg (qW descZ)) 35 (by rfl) (by rfl) underlying161 (by kernel_rfl) (by omega) (by omega) hds (fun w3 hB3 hm3 hs3=>?_)
   have hsrc:=src_lit (enc:=descE) (e:=46) (x:=d) descE_len (by rw[HE.out];exact hB3);have HR3:=hid (HR2.out.keepS hall hm3 (fun _ h=>h.elim))
   have HG3:=hid (HG2.out.keep0 hm3);have hws:w.heap.size<=w3.heap.size:=HR3.out.2.size;clear hm3 hB3 hs3;try simp only[nmz]
   refine wpDo rfl ?_
   refine wp_gat descE _ _ 161 46 (.agg (qW descZ)) 35 64 (by rfl) underlying161 desc_i desc_zs (by omega) descE_one w.heap.size _ (xO b k s).1 (by rfl) HG3.out _ [d] (by rfl) hsrc (by rw[hlen];unfold maxLen;simp;omega) (by rw[hlen];simp;omega) hws (fun v' w4 hg4 hm4=>?_)
   have HR4:=hid (HR3.out.keepS hall hm4 (fun q hq=>(HG3.out.lt hq).1));have HG4:=hid hg4;clear hm4 hsrc hg4;simp only[stz]
   have HNX:Hid (xO b (k+1) s=((xO b k s).1++[d],(yM b (xO b k s).2).2)):=hid (by rw[<-HDD.out];rfl);clear hcall hidl;go_wp2
   go_roundw
   case rel=>exact⟨k+1,by omega,by go_num,by rw[HNX.out];exact HR4.out,by rw[HNX.out];exact HG4.out⟩
   case measure=>simp[intOf];omega
  ·have hz:¬(k:Int)<(n:Int):=by omega
   obtain rfl:k=n:=by omega
   clear hrd hg;go_wp2;go_ret;exact⟨HRD.out,_,rfl,HG.out⟩
theorem built_fault1(x:Int):prog.built 255 [(0,.int .i64 x)]=some #[.int .i64 x,.int .i64 0]:=by
 have z:(prog.info? 255).bind (·.zero)=some (.agg #[.int .i64 0,.int .i64 0]):=by kernel_rfl
 have p:xT prog 255=some [(0,1),(1,1)]:=by kernel_rfl
 rw[zS z p,zK (off:=0) (size:=1) rfl (by rfl) (by simp),xU]
 rfl
theorem exec_bindFunc{P:Program}{w:World}{o:Oper}{a:Act}(f:FuncId)(xs:List Operand)(ho:o.op=.makeFunc (.func f) xs.toArray #[])(vals:List Value)(hx:xs.map a.eval=vals):(execOp a.eval o).run P w=.ok (.value (.func (.func f) vals.toArray #[])) w:=by
 subst hx;unfold execOp
 simp[ho,Instr.makeFunc]
theorem cell1{w:World}{b:Nat}{v u:Value}{T:TypeId}{fz:Nat×Nat}(h:w.heap[b]?=some (.cells #[v,u] T fz)):w.cell? ⟨b,1,none⟩=some u:=by simp[World.cell?,h]
def FailedR(w:World)(b:List UInt8)(a:Nat)(e:Int):Ending->World->Prop:=fun x w'=>Mod NoB w w'/\∃(er at_:Int)(is:Bool),x=.returned (.tuple #[.agg #[.int .i64 er,.int .i64 at_],.bool is])/\(er=0↔e=0/\a=b.length)/\(er=0->at_=0)/\(is=true->er≠0)
end
def zA(k:Nat)(t:List UInt8)(d:DescL)(lv sv:Value):Array Value:=(.int .i64 k::.string ⟨t.toArray⟩::((qW d).toList++[lv,sv])).toArray
section
variable{k k':Nat}{t t':List UInt8}{d d':DescL}{lv sv v:Value}
theorem descL_len(h:d.id.length=32):(qW d).toList.length=35:=by rw[Array.length_toList];exact zQ h
theorem zM(h:d.id.length=32):(zA k t d lv sv).size=39:=by
 have:=descL_len h
 simp[zA,this]
theorem jC(h1:lv.oneCell'=true)(h2:sv.oneCell'=true):∀c∈zA k t d lv sv,c.oneCell'=true:=by
 intro c hc;simp only[zA,List.mem_toArray,List.mem_cons,List.mem_append,List.not_mem_nil,or_false]at hc
 rcases hc with rfl|rfl|hc|rfl|rfl
 ·rfl
 ·rfl
 ·exact descRow_one _ _ _ _ c (by simpa[qW]using hc)
 ·exact h1
 ·exact h2
theorem manRow_put0:(zA k t d lv sv).setIfInBounds 0 (.int .i64 k')=zA k' t d lv sv:=by
 apply Array.toList_inj.1
 simp[zA]
theorem manRow_put1:(zA k t d lv sv).setIfInBounds 1 (.string ⟨t'.toArray⟩)=zA k t' d lv sv:=by
 apply Array.toList_inj.1
 simp[zA]
theorem manRow_putD(h:d.id.length=32)(h':d'.id.length=32):zF (zA k t d lv sv) 2 (qW d')=zA k t d' lv sv:=by
 have h1:=descL_len h;have h2:=zQ (m:=d'.media) (n:=d'.size) (p:=d'.plat) h';replace h2:(qW d').size=35:=h2
 apply Array.toList_inj.1
 simp only[zF,zA,h2];rw[List.drop_succ_cons,List.drop_succ_cons,List.drop_append_of_le_length (by omega),List.drop_of_length_le (by omega)]
 rfl
theorem manRow_put37(h:d.id.length=32):(zA k t d lv sv).setIfInBounds 37 v=zA k t d v sv:=by
 have h1:=descL_len h
 apply Array.toList_inj.1
 simp only[zA,Array.toList_setIfInBounds,List.set_cons_succ];rw[List.set_append_right _ _ (by omega),h1]
 rfl
theorem manRow_put38(h:d.id.length=32):(zA k t d lv sv).setIfInBounds 38 v=zA k t d lv v:=by
 have h1:=descL_len h
 apply Array.toList_inj.1
 simp only[zA,Array.toList_setIfInBounds,List.set_cons_succ];rw[List.set_append_right _ _ (by omega),h1]
 rfl
end
theorem manZ_i:(prog.info? 163).bind (·.zero)=some (.agg (zA 0 [] descZ (.slice none 0 0) (.slice none 0 0))):=by kernel_rfl
theorem xI{P:Program}{fn:Func}{p u:Tmp}{ty tz:TypeId}(h:fn.results=#[.cell p ty,.cell u tz])(tmps:Array Value)(w:World)(g g':Nat)(t t':TypeId)(cs cs':Array Value)(fr fr':Nat×Nat)(d d':TypeDesc)
 (hp:tmps.getD p undef=.pointer (some ⟨g,0,none⟩))(hg:w.heap[g]?=some (.cells cs t fr))(hq:tmps.getD u undef=.pointer (some ⟨g',0,none⟩))(hg':w.heap[g']?=some (.cells cs' t' fr'))
 (hu:P.underlying ty=some d)(hd:(match d with| .struct _| .array _ _=>true|_=>false)=true)(hi:(P.info? ty).map (·.size)=some cs.size)
 (hu':P.underlying tz=some d')(hd':(match d' with| .struct _| .array _ _=>true|_=>false)=true)(hi':(P.info? tz).map (·.size)=some cs'.size):
 (results fn tmps).run P w=.ok (.tuple #[.agg cs,.agg cs']) w:=by
 have hp':tmps[p]?.getD undef=.pointer (some ⟨g,0,none⟩):=by simpa using hp
 have hq':tmps[u]?.getD undef=.pointer (some ⟨g',0,none⟩):=by simpa using hq
 simp[results,h,hp',hq',asAddr,run_loadVar_row w g t ty cs fr d hg hu hd hi,run_loadVar_row w g' t' tz cs' fr' d' hg' hu' hd' hi']
def ManC(base:Nat)(w:World)(cs:Array Value)(m:ManL):Prop:=m.config.id.length=32/\∃lv sv,cs=zA m.kind m.title m.config lv sv/\GatD base w lv m.layers/\GatD base w sv m.subs
theorem ManC.keep0{base:Nat}{w w':World}{cs:Array Value}{m:ManL}(h:ManC base w cs m)(hm:Mod NoB w w'):ManC base w' cs m:=by
 obtain⟨h0,lv,sv,h1,h2,h3⟩:=h;exact⟨h0,lv,sv,h1,h2.keep0 hm,h3.keep0 hm⟩
theorem ManC.size{base:Nat}{w:World}{cs:Array Value}{m:ManL}(h:ManC base w cs m):cs.size=39:=by
 obtain⟨h0,lv,sv,rfl,-,-⟩:=h;exact zM h0
theorem ManC.one{base:Nat}{w:World}{cs:Array Value}{m:ManL}(h:ManC base w cs m):∀c∈cs,c.oneCell'=true:=by
 obtain⟨h0,lv,sv,rfl,h1,h2⟩:=h;exact jC (yC h1) (yC h2)
section
variable{w:World}{rb wb:Nat}{bv:Value}{b:List UInt8}{a:Nat}{e p:Int}
def ManR(w:World)(rb wb:Nat)(bv:Value)(b:List UInt8)(r:ManL×RS×Bool):Ending->World->Prop:=fun x w'=>RdS w w' rb wb bv b r.2.1/\∃(cs:Array Value)(er at_:Int),x=.returned (.tuple #[.agg cs,.agg #[.int .i64 er,.int .i64 at_]])/\(er=0↔r.2.2=true)/\(er=0->at_=0)/\ManC w.heap.size w' cs r.1
theorem mManifest_any(h:RdI w rb wb bv b 0 0 p):Calls prog 212 #[.agg #[.pointer (some ⟨rb,0,none⟩),.int .i64 b.length]] w (ManR w rb wb bv b (manR b)):=by
 have hall:=h.all;have hrl:=h.lts;have hbl:=h.len;have hst:=h.stay;rw[stOf_zero]at hst;have HST:=hid hst
 have HN:=hid (show ∀(w':World)(s':RS),RdS w w' rb wb bv b s'->Calls prog 240 #[.pointer (some ⟨rb,0,none⟩)] w' (NumR w' rb wb bv b (rNumL b s').1 (rNumL b s').2)from fun w' s' hw'=>by
  obtain⟨⟨a',e',p',h',hs⟩,-⟩:=hw';have:=rNum_any h'
  rwa[hs]at this)
 have HT:=hid (show ∀(w':World)(s':RS),RdS w w' rb wb bv b s'->Calls prog 241 #[.pointer (some ⟨rb,0,none⟩),.int .i64 (4096:Nat)] w' (TextR w' rb wb bv b (rBytesL b 4096 s').1 (rBytesL b 4096 s').2)from fun w' s' hw'=>by
  obtain⟨⟨a',e',p',h',hs⟩,-⟩:=hw';have:=rText_any h' 4096 (Nat.le_refl _)
  rwa[hs]at this)
 have HD:=hid (show ∀(w':World)(s':RS),RdS w w' rb wb bv b s'->Calls prog 242 #[.agg #[.pointer (some ⟨rb,0,none⟩),.int .i64 b.length]] w' (DescR w' rb wb bv b (yM b s').1 (yM b s').2)from fun w' s' hw'=>by
  obtain⟨⟨a',e',p',h',hs⟩,-⟩:=hw';have:=mDesc_any h' b.length
  rwa[hs]at this)
 have HM:=hid (show ∀(w':World)(s':RS)(n:Nat),n<=4096->RdS w w' rb wb bv b s'->Calls prog 244 #[.int .i64 n,.func (.func 242) #[.agg #[.pointer (some ⟨rb,0,none⟩),.int .i64 b.length]] #[]] w' (ManyR w' rb wb bv b (xO b n s').1 (xO b n s').2)from fun w' s' n hn hw'=>by
  obtain⟨⟨a',e',p',h',hs⟩,-⟩:=hw';have:=mMany_any h' b.length n hn
  rwa[hs]at this)
 have HL:=hid (show ∀(w':World)(s':RS),RdS w w' rb wb bv b s'->∃r:Int,0<=r/\r<=4096/\Calls prog 243 #[.pointer (some ⟨rb,0,none⟩)] w' (RetM (.int .i64 r) w')from fun w' s' hw'=>by
  obtain⟨⟨a',e',p',h',hs⟩,-⟩:=hw'
  refine⟨_,?_,?_,rRest_any h'⟩<;>have:=h'.al<;>have:=h'.len<;>split<;>omega)
 obtain⟨f,hf⟩:∃f,rNumL b (some 0)=f:=⟨_,rfl⟩;obtain⟨k,hk⟩:∃k,rNumL b f.2=k:=⟨_,rfl⟩;obtain⟨t,ht⟩:∃t,rBytesL b 4096 k.2=t:=⟨_,rfl⟩
 have HMR:Hid (manR b=if f.1≠77 then(manZ,f.2,false)else if k.1≠3/\k.1≠4 then({ manZ with kind:=k.1 },k.2,false)
  else if(if k.1=3 then 16 else 8)<(rNumL b (if k.1=3 then yM b t.2 else(descZ,t.2)).2).1 then(⟨k.1,t.1,(if k.1=3 then yM b t.2 else(descZ,t.2)).1,[],[]⟩,(rNumL b (if k.1=3 then yM b t.2 else(descZ,t.2)).2).2,false)
  else(⟨k.1,t.1,(if k.1=3 then yM b t.2 else(descZ,t.2)).1,if k.1=3 then(xO b (rNumL b (if k.1=3 then yM b t.2 else(descZ,t.2)).2).1 (rNumL b (if k.1=3 then yM b t.2 else(descZ,t.2)).2).2).1 else [],if k.1=3 then []else(xO b (rNumL b (if k.1=3 then yM b t.2 else(descZ,t.2)).2).1 (rNumL b (if k.1=3 then yM b t.2 else(descZ,t.2)).2).2).1⟩,(xO b (rNumL b (if k.1=3 then yM b t.2 else(descZ,t.2)).2).1 (rNumL b (if k.1=3 then yM b t.2 else(descZ,t.2)).2).2).2,true)):=hid (by
  unfold manR
  simp only[hf,hk,ht])
 have hn1:=HN.out w _ hst;rw[hf]at hn1
 have HK2:Hid (∀w',RdS w w' rb wb bv b f.2->Calls prog 240 #[.pointer (some ⟨rb,0,none⟩)] w' (NumR w' rb wb bv b k.1 k.2)):=hid (fun w' hw'=>by
  have:=HN.out w' _ hw'
  rwa[hk]at this)
 have HT2:Hid (∀w',RdS w w' rb wb bv b k.2->Calls prog 241 #[.pointer (some ⟨rb,0,none⟩),.int .i64 (4096:Nat)] w' (TextR w' rb wb bv b t.1 t.2)):=hid (fun w' hw'=>by
  have:=HT.out w' _ hw'
  rwa[ht]at this)
 have HN1:Hid (∀w',RdS w w' rb wb bv b (some 0)->Calls prog 240 #[.pointer (some ⟨rb,0,none⟩)] w' (NumR w' rb wb bv b f.1 f.2)):=hid (fun w' hw'=>by
  have:=HN.out w' _ hw'
  rwa[hf]at this)
 have hfb:=(rNumL_ok (b:=b) (s:=some 0)).2.1;have hkb:=(rNumL_ok (b:=b) (s:=f.2)).2.1;rw[hf]at hfb;rw[hk]at hkb;obtain⟨f,s1⟩:=f;obtain⟨k,s2⟩:=k
 obtain⟨t,s3⟩:=t
 dsimp only at HMR HK2 HT2 HN1 hfb hkb
 clear h hst hf hk ht hn1 HT;have hzi:=xF;go_enter func212,ntmps212;go_upto_region 0 with(fail);refine wpR [1,1,1] (by rfl) (by rfl) ?_;simp only[stz]
 refine wpDo rfl ?_;refine zW 307 _ _ (by rfl) (by rfl) (fun wx hBx hmx hsx=>?_)
 replace hBx:wx.heap[w.heap.size]?=some (.cells #[.pointer (some ⟨rb,0,none⟩),.int .i64 b.length] 307 (0,0)):=hBx;try simp only[nmz]
 refine wpDo rfl ?_;refine qR 163 _ (by rfl) manZ_i (fun wy hBy hmy hsy=>?_)
 replace hBy:wy.heap[wx.heap.size]?=some (.cells (zA 0 [] descZ (.slice none 0 0) (.slice none 0 0)) 163 (0,0)):=hBy;try simp only[nmz]
 refine wpDo rfl ?_;refine qR 255 _ (by rfl) fltZ (fun wz hBz hmz hsz=>?_);replace hBz:wz.heap[wy.heap.size]?=some (.cells #[.int .i64 0,.int .i64 0] 255 (0,0)):=hBz
 simp only[stz];have HA:=hid ((hmy.trans0 hmz).obj id hBx);have hB:=hmz.obj id hBy;have hC:=hBz;have hb12:w.heap.size<wx.heap.size:=hsx
 have hb23:wx.heap.size<wy.heap.size:=hsy;have HR:Hid (RdS w wz rb wb bv b (some 0)):=hid (HST.out.keepS hall ((hmx.trans0 hmy).trans0 hmz) (fun _ h=>h.elim))
 clear hmx hmy hmz hBx hBy hBz hsx hsy hsz HST;generalize hb1:w.heap.size=b1 at*;generalize hb2:wx.heap.size=b2 at*;generalize hb3:wy.heap.size=b3 at*
 replace hall:∀k,k=rb\/k=wb\/bv.ownBlock=some k->k<w.heap.size:=by rw[hb1];exact hall
 go_upto_region 1 with(fail);refine wpR [3,1,1,3] (by rfl) (by rfl) ?_;simp only[stz]
 refine wpXd (v:=(.pointer (some ⟨rb,0,none⟩))) 304 b1 0 (cell0 HA.out) underlying304 trivial ?_;try simp only[nmz]
 refine wpDo rfl ?_;refine qB (qC 240 [.tmp 10] _ rfl _ func240 rfl (by kernel_rfl) [.pointer (some ⟨rb,0,none⟩)] rfl _) (HN1.out _ HR.out) ?_;rintro e w1 ⟨rfl,hr⟩
 replace HA:=hid (RdS.obj hr ⟨by omega,by omega⟩ HA.out);replace hB:=RdS.obj hr ⟨by omega,by omega⟩ hB;replace hC:=RdS.obj hr ⟨by omega,by omega⟩ hC
 replace HR:=hid (HR.out.trans hr);clear hr;refine⟨_,rfl,?_⟩;simp only[stz]
 by_cases h77:f=77
 rotate_left
 · -- it begins with another number
   have hz:¬(f:Int)=77:=by omega
   have hr0:=HMR.out;rw[if_pos h77]at hr0;have HE:=hid hr0;clear hr0
   have hsz:(zA 0 [] descZ (.slice none 0 0) (.slice none 0 0)).size=39:=zM (by first|exact xF|assumption)
   have hone:∀c∈zA 0 [] descZ (.slice none 0 0) (.slice none 0 0),c.oneCell'=true:=jC rfl rfl;go_upto_region 3 with(fail)
   refine wpR [1,0,1,1] (by rfl) (by rfl) ?_;simp only[stz]
   refine wpXA 163 b2 0 (zA 0 [] descZ (.slice none 0 0) (.slice none 0 0)) (CellsAt.whole hB) underlying163 39 hsz trivial ?_;try simp only[nmz]
   refine qM rfl (fun w' hS=>qO 255 [(0,_)] [(0,.int .i64 20)] _ (by rfl) (by rfl) (built_fault1 20)) ?_;simp only[nmz];refine wpDo rfl ?_
   refine qH 163 _ _ b2 0 (zA 0 [] descZ (.slice none 0 0) (.slice none 0 0)) (by rfl) (by rfl) (by rfl) hone 39 (by kernel_rfl) hsz _ _ hB (by omega) (fun wf hBf hmf=>?_)
   rw[qF (by rfl)]at hBf;have hCf:=hmf.objB (by omega) hC;have HRf:=hid (HR.out.keepN hall (Nat.le_refl _) hmf (by omega));clear hmf hB hC;try simp only[nmz]
   refine wpDo rfl ?_
   refine qH 255 _ _ b3 0 #[.int .i64 20,.int .i64 0] (by rfl) (by rfl) (by rfl) (by simp[Value.oneCell']) 2 (by kernel_rfl) rfl _ _ hCf (by simp) (fun wg hCg hmg=>?_)
   rw[qF (by rfl)]at hCg;have hBg:=hmg.objB (by omega) hBf;have HRg:=hid (HRf.out.keepN hall (Nat.le_refl _) hmg (by omega));clear hmg hBf hCf;simp only[stz]
   have hsz2:(prog.info? 163).map (·.size)=some (zA 0 [] descZ (.slice none 0 0) (.slice none 0 0)).size:=by rw[hsz];kernel_rfl
   clear HR HA;go_wp2
   refine bodyPost_ret (xI (P:=prog) (ty:=163) (tz:=255) rfl _ _ b2 b3 _ _ _ _ _ _ _ _ (by rfl) hBg (by rfl) hCg underlying163 rfl hsz2 underlying255 rfl (by kernel_rfl)) rfl ?_
   rw[HE.out];exact⟨HRg.out,_,20,0,rfl,by simp,by simp,xF,_,_,rfl,Gat.nil _ _ _ _ _,Gat.nil _ _ _ _ _⟩
 ·subst h77
  have hr0:=HMR.out;rw[if_neg (by simp)]at hr0;replace HMR:=hid hr0;clear hr0;go_upto_region 4 with(fail)
  have hsz0:(zA 0 [] descZ (.slice none 0 0) (.slice none 0 0)).size=39:=zM hzi;refine wpR [3,1,1,3,1] (by rfl) (by rfl) ?_;simp only[stz]
  refine wpXd (v:=(.pointer (some ⟨rb,0,none⟩))) 304 b1 0 (cell0 HA.out) underlying304 trivial ?_;try simp only[nmz]
  refine wpDo rfl ?_;refine qB (qC 240 [.tmp 17] _ rfl _ func240 rfl (by kernel_rfl) [.pointer (some ⟨rb,0,none⟩)] rfl _) (HK2.out _ HR.out) ?_;rintro e w2 ⟨rfl,hr⟩
  replace HA:=hid (RdS.obj hr ⟨by omega,by omega⟩ HA.out);replace hB:=RdS.obj hr ⟨by omega,by omega⟩ hB;replace hC:=RdS.obj hr ⟨by omega,by omega⟩ hC
  replace HR:=hid (HR.out.trans hr);clear hr;refine⟨_,rfl,?_⟩;simp only[stz];refine wpDo rfl ?_
  refine qV 3 _ _ b2 0 (.int .i64 k) (by rfl) (by rfl) (by rfl) rfl (by kernel_rfl) _ _ hB (by omega) (fun w3 hB3 hm3=>?_);rw[manRow_put0]at hB3;replace hB:=hB3
  replace HA:=hid (hm3.objB (by omega) HA.out);replace hC:=hm3.objB (by omega) hC;replace HR:=hid (HR.out.keepN hall (Nat.le_refl _) hm3 (by omega));clear hm3 hB3
  simp only[stz];clear hsz0;have hck:w3.cell? ⟨b2,0,none⟩=some (.int .i64 k):=by rw[cell_of_row _ _ _ _ _ _ hB];rfl
  by_cases hbad:k≠3/\k≠4
  ·have hz3:¬(k:Int)=3:=by omega
   have hz4:¬(k:Int)=4:=by omega
   go_upto_region 5 with(fail);refine wpR [3,1,3,3,3,1,3,3] (by rfl) (by rfl) ?_;simp only[stz];refine wpXd (v:=(.int .i64 k)) 3 b2 0 hck underlying3 trivial ?_
   try simp only[nmz]
   refine qS _ _ _ _ _ _ _ _ rfl rfl rfl rfl rfl true (decide_eq_true (by omega)) ?_;simp only[stz];refine wpXd (v:=(.int .i64 k)) 3 b2 0 hck underlying3 trivial ?_
   try simp only[nmz]
   refine qS _ _ _ _ _ _ _ _ rfl rfl rfl rfl rfl true (decide_eq_true (by omega)) ?_;simp only[stz];have hr0:=HMR.out;rw[if_pos hbad]at hr0;have HE:=hid hr0;clear hr0
   have hsz:(zA k [] descZ (.slice none 0 0) (.slice none 0 0)).size=39:=zM (by first|exact xF|assumption)
   have hone:∀c∈zA k [] descZ (.slice none 0 0) (.slice none 0 0),c.oneCell'=true:=jC rfl rfl;go_upto_region 6 with(fail)
   refine wpR [1,0,1,1] (by rfl) (by rfl) ?_;simp only[stz]
   refine wpXA 163 b2 0 (zA k [] descZ (.slice none 0 0) (.slice none 0 0)) (CellsAt.whole hB) underlying163 39 hsz trivial ?_;try simp only[nmz]
   refine qM rfl (fun w' hS=>qO 255 [(0,_)] [(0,.int .i64 20)] _ (by rfl) (by rfl) (built_fault1 20)) ?_;simp only[nmz];refine wpDo rfl ?_
   refine qH 163 _ _ b2 0 (zA k [] descZ (.slice none 0 0) (.slice none 0 0)) (by rfl) (by rfl) (by rfl) hone 39 (by kernel_rfl) hsz _ _ hB (by omega) (fun wf hBf hmf=>?_)
   rw[qF (by rfl)]at hBf;have hCf:=hmf.objB (by omega) hC;have HRf:=hid (HR.out.keepN hall (Nat.le_refl _) hmf (by omega));clear hmf hB hC;try simp only[nmz]
   refine wpDo rfl ?_
   refine qH 255 _ _ b3 0 #[.int .i64 20,.int .i64 0] (by rfl) (by rfl) (by rfl) (by simp[Value.oneCell']) 2 (by kernel_rfl) rfl _ _ hCf (by simp) (fun wg hCg hmg=>?_)
   rw[qF (by rfl)]at hCg;have hBg:=hmg.objB (by omega) hBf;have HRg:=hid (HRf.out.keepN hall (Nat.le_refl _) hmg (by omega));clear hmg hBf hCf;simp only[stz]
   have hsz2:(prog.info? 163).map (·.size)=some (zA k [] descZ (.slice none 0 0) (.slice none 0 0)).size:=by rw[hsz];kernel_rfl
   clear HR HA;go_wp2
   refine bodyPost_ret (xI (P:=prog) (ty:=163) (tz:=255) rfl _ _ b2 b3 _ _ _ _ _ _ _ _ (by rfl) hBg (by rfl) hCg underlying163 rfl hsz2 underlying255 rfl (by kernel_rfl)) rfl ?_
   rw[HE.out];exact⟨HRg.out,_,20,0,rfl,by simp,by simp,xF,_,_,rfl,Gat.nil _ _ _ _ _,Gat.nil _ _ _ _ _⟩
  ·rcases(by omega:k=3\/k=4)with rfl|rfl
   ·skip
    go_upto_region 5 with(fail);refine wpR [3,1,3,3,3,0,3,3] (by rfl) (by rfl) ?_;simp only[stz];refine wpXd (v:=(.int .i64 3)) 3 b2 0 hck underlying3 trivial ?_
    try simp only[nmz]
    refine qS _ _ _ _ _ _ _ _ rfl rfl rfl rfl rfl false (by decide) ?_;simp only[stz]
    have hsz0:(zA 3 [] descZ (.slice none 0 0) (.slice none 0 0)).size=39:=zM hzi;go_upto_region 7 with(fail);refine wpR [3,1,1,3,1] (by rfl) (by rfl) ?_
    simp only[stz];refine wpXd (v:=(.pointer (some ⟨rb,0,none⟩))) 304 b1 0 (cell0 HA.out) underlying304 trivial ?_;try simp only[nmz]
    refine wpDo rfl ?_
    refine qB (qC 241 [.tmp 31,.const (.int .i64 4096)] _ rfl _ func241 rfl (by kernel_rfl) [.pointer (some ⟨rb,0,none⟩),.int .i64 (4096:Nat)] rfl _) (HT2.out _ HR.out) ?_
    rintro e w4 ⟨hr,rfl⟩;replace HA:=hid (RdS.obj hr ⟨by omega,by omega⟩ HA.out);replace hB:=RdS.obj hr ⟨by omega,by omega⟩ hB
    replace hC:=RdS.obj hr ⟨by omega,by omega⟩ hC;replace HR:=hid (HR.out.trans hr);clear hr;refine⟨_,rfl,?_⟩;simp only[stz];refine wpDo rfl ?_
    refine qV 9 _ _ b2 1 (.string ⟨t.toArray⟩) (by rfl) (by rfl) (by rfl) rfl (by kernel_rfl) _ _ hB (by omega) (fun w5 hB5 hm5=>?_);rw[manRow_put1]at hB5
    replace hB:=hB5;replace HA:=hid (hm5.objB (by omega) HA.out);replace hC:=hm5.objB (by omega) hC;replace HR:=hid (HR.out.keepN hall (Nat.le_refl _) hm5 (by omega))
    clear hm5 hB5;simp only[stz];clear hsz0 hck;have hsz0:(zA 3 t descZ (.slice none 0 0) (.slice none 0 0)).size=39:=zM hzi
    have hck:w5.cell? ⟨b2,0,none⟩=some (.int .i64 3):=by rw[cell_of_row _ _ _ _ _ _ hB];rfl
    obtain⟨⟨d,s4⟩,hd⟩:∃d,yM b s3=d:=⟨_,rfl⟩;have hdl:=(rDescL_ok (b:=b) (s:=s3)).2.1;have hdc:=HD.out _ _ HR.out;rw[hd]at hdl hdc
    dsimp only at hdl hdc
    have hdz:=zQ (m:=d.media) (n:=d.size) (p:=d.plat) hdl;replace hdz:(qW d).size=35:=hdz
    have hdo:∀c∈qW d,c.oneCell'=true:=descRow_one _ _ _ _;have hr0:=HMR.out;rw[if_neg (by omega)]at hr0;simp only[if_true,hd]at hr0;replace HMR:=hid hr0
    clear hr0 hd;go_upto_region 9 with(fail);refine wpR [3,1,3] (by rfl) (by rfl) ?_;simp only[stz];refine wpXd (v:=(.int .i64 3)) 3 b2 0 hck underlying3 trivial ?_
    try simp only[nmz]
    refine qE (v:=?_) rfl (fun w'=>?_) ?_;rotate_left;·(go_simp;try with_reducible rfl)
    simp only[stz];clear hck;go_upto_region 10 with(fail);refine wpR [1,1,3,1] (by rfl) (by rfl) ?_;simp only[stz]
    refine wpXA 307 b1 0 #[.pointer (some ⟨rb,0,none⟩),.int .i64 b.length] (CellsAt.whole HA.out) underlying307 2 rfl trivial ?_;try simp only[nmz]
    refine wpDo rfl ?_;refine qB (qC 242 [.tmp 38] _ rfl _ func242 rfl (by kernel_rfl) [.agg #[.pointer (some ⟨rb,0,none⟩),.int .i64 b.length]] rfl _) (hdc) ?_
    rintro e w6 ⟨hr,rfl⟩;replace HA:=hid (RdS.obj hr ⟨by omega,by omega⟩ HA.out);replace hB:=RdS.obj hr ⟨by omega,by omega⟩ hB
    replace hC:=RdS.obj hr ⟨by omega,by omega⟩ hC;replace HR:=hid (HR.out.trans hr);clear hr;refine⟨_,rfl,?_⟩;simp only[stz];refine wpDo rfl ?_
    refine qH 46 _ _ b2 2 (qW d) (by rfl) (by rfl) (by rfl) hdo 35 (by kernel_rfl) hdz _ _ hB (by omega) (fun w7 hB7 hm7=>?_);rw[manRow_putD hzi hdl]at hB7
    replace hB:=hB7;replace HA:=hid (hm7.objB (by omega) HA.out);replace hC:=hm7.objB (by omega) hC;replace HR:=hid (HR.out.keepN hall (Nat.le_refl _) hm7 (by omega))
    clear hm7 hB7;simp only[stz];clear hsz0;have hszr:(zA 3 t d (.slice none 0 0) (.slice none 0 0)).size=39:=zM hdl
    obtain⟨r,hr1,hr2,hrc⟩:=HL.out _ _ (RdS.keepS HR.out hall (S:=NoB) (w2:=w7.drew) ((Mod.refl _ _).drew) (fun _ h=>h.elim))
    obtain⟨⟨n,s5⟩,hn⟩:∃n,rNumL b s4=n:=⟨_,rfl⟩
    have HNC:Hid (∀w',RdS w w' rb wb bv b s4->Calls prog 240 #[.pointer (some ⟨rb,0,none⟩)] w' (NumR w' rb wb bv b n s5)):=hid (fun w' hw'=>by
     have:=HN.out w' _ hw'
     rwa[hn]at this)
    have hnb:=(rNumL_ok (b:=b) (s:=s4)).2.1;rw[hn]at hnb
    dsimp only at hnb
    have hr0:=HMR.out;simp only[hn]at hr0;replace HMR:=hid hr0;clear hr0 hn;go_upto_region 12 with(fail);have hS:Mod NoB w7 w7.drew:=(Mod.refl _ _).drew
    refine wpRP [(0,3),(1,0),(2,3),(3,0),(4,1),(5,3),(6,3)] [] (fun w'=>Mod NoB w7 w') hS ?_;simp only[stz]
    refine wpLd (v:=(.int .i64 b.length)) 3 b1 1 (fun w' hS=>hS.cell id (cell1 HA.out)) underlying3 ?_;simp only[stz]
    refine wpLd 304 b1 0 (fun w' hS=>hS.cell id (cell0 HA.out)) underlying304 ?_;simp only[nmz];refine qN rfl (fun K hK=>?_)
    refine qB (qC 243 [.tmp 45] _ rfl _ func243 rfl (by kernel_rfl) [.pointer (some ⟨rb,0,none⟩)] rfl _) (hrc) ?_;rintro e w8 ⟨rfl,hm8⟩;have hS8:=hS.trans0 hm8
    refine⟨_,rfl,hK _ _ hS8 ?_⟩;clear hK K;try simp only[nmz]
    refine yB _ _ _ _ ((b.length:Nat):Int) r rfl rfl rfl rfl (by omega) (by omega) ?_;simp only[stz];replace HA:=hid (hS8.obj id HA.out);replace hB:=hS8.obj id hB
    replace hC:=hS8.obj id hC;replace HR:=hid (HR.out.keepS hall hS8 (fun _ h=>h.elim));clear hS hS8 hm8 hrc;go_upto_region 13 with(fail)
    refine wpR [3,1,1,3] (by rfl) (by rfl) ?_;simp only[stz];refine wpXd (v:=(.pointer (some ⟨rb,0,none⟩))) 304 b1 0 (cell0 HA.out) underlying304 trivial ?_
    try simp only[nmz]
    refine wpDo rfl ?_;refine qB (qC 240 [.tmp 49] _ rfl _ func240 rfl (by kernel_rfl) [.pointer (some ⟨rb,0,none⟩)] rfl _) (HNC.out _ HR.out) ?_
    rintro e w9 ⟨rfl,hr⟩;replace HA:=hid (RdS.obj hr ⟨by omega,by omega⟩ HA.out);replace hB:=RdS.obj hr ⟨by omega,by omega⟩ hB
    replace hC:=RdS.obj hr ⟨by omega,by omega⟩ hC;replace HR:=hid (HR.out.trans hr);clear hr;refine⟨_,rfl,?_⟩;simp only[stz]
    by_cases hmost:16<n
    ·have hmz:(n:Int)>16:=by omega
     have hr0:=HMR.out;rw[if_pos hmost]at hr0;have HE:=hid hr0;clear hr0
     have hsz:(zA 3 t d (.slice none 0 0) (.slice none 0 0)).size=39:=zM (by first|exact xF|assumption)
     have hone:∀c∈zA 3 t d (.slice none 0 0) (.slice none 0 0),c.oneCell'=true:=jC rfl rfl;go_upto_region 15 with(fail)
     refine wpR [1,3,0,1,1] (by rfl) (by rfl) ?_;simp only[stz]
     refine wpXA 163 b2 0 (zA 3 t d (.slice none 0 0) (.slice none 0 0)) (CellsAt.whole hB) underlying163 39 hsz trivial ?_;simp only[stz]
     refine qM rfl (fun w' hS=>qO 255 [(0,_),(1,_)] [(0,.int .i64 4),(1,.int .i64 (b.length-r))] _ (by rfl) (by rfl) (built_fault 4 (b.length-r))) ?_
     simp only[nmz];refine wpDo rfl ?_
     refine qH 163 _ _ b2 0 (zA 3 t d (.slice none 0 0) (.slice none 0 0)) (by rfl) (by rfl) (by rfl) hone 39 (by kernel_rfl) hsz _ _ hB (by omega) (fun wf hBf hmf=>?_)
     rw[qF (by rfl)]at hBf;have hCf:=hmf.objB (by omega) hC;have HRf:=hid (HR.out.keepN hall (Nat.le_refl _) hmf (by omega));clear hmf hB hC;try simp only[nmz]
     refine wpDo rfl ?_
     refine qH 255 _ _ b3 0 #[.int .i64 4,.int .i64 (b.length-r)] (by rfl) (by rfl) (by rfl) (by simp[Value.oneCell']) 2 (by kernel_rfl) rfl _ _ hCf (by simp) (fun wg hCg hmg=>?_)
     rw[qF (by rfl)]at hCg;have hBg:=hmg.objB (by omega) hBf;have HRg:=hid (HRf.out.keepN hall (Nat.le_refl _) hmg (by omega));clear hmg hBf hCf;simp only[stz]
     have hsz2:(prog.info? 163).map (·.size)=some (zA 3 t d (.slice none 0 0) (.slice none 0 0)).size:=by rw[hsz];kernel_rfl
     clear HR HA;go_wp2
     refine bodyPost_ret (xI (P:=prog) (ty:=163) (tz:=255) rfl _ _ b2 b3 _ _ _ _ _ _ _ _ (by rfl) hBg (by rfl) hCg underlying163 rfl hsz2 underlying255 rfl (by kernel_rfl)) rfl ?_
     rw[HE.out];exact⟨HRg.out,_,4,_,rfl,by simp,by simp,hdl,_,_,rfl,Gat.nil _ _ _ _ _,Gat.nil _ _ _ _ _⟩
    ·have hmz:¬(n:Int)>16:=by omega
     have hr0:=HMR.out;rw[if_neg hmost]at hr0;have HE0:=hid hr0;clear hr0 HMR;have hmn:=HM.out _ _ n (by omega) HR.out;have HC9:=hid hC
     obtain⟨l,hl⟩:∃l,xO b n s5=l:=⟨_,rfl⟩;rw[hl]at hmn;have hr0:=HE0.out;rw[hl]at hr0;have HE:=hid hr0;clear hl hr0 HE0;go_upto_region 16 with(fail)
     refine wpR [3,3,1,1,1,3,1] (by rfl) (by rfl) ?_;simp only[stz]
     refine wpXA 307 b1 0 #[.pointer (some ⟨rb,0,none⟩),.int .i64 b.length] (CellsAt.whole HA.out) underlying307 2 rfl trivial ?_;try simp only[nmz]
     refine wpX rfl (exec_bindFunc 242 [.tmp 59] (by rfl) [.agg #[.pointer (some ⟨rb,0,none⟩),.int .i64 b.length]] (by rfl)) trivial ?_;try simp only[nmz]
     refine wpDo rfl ?_
     refine qB (qC 244 [.tmp 58,.tmp 60] _ rfl _ func244 rfl (by kernel_rfl) [.int .i64 n,.func (.func 242) #[.agg #[.pointer (some ⟨rb,0,none⟩),.int .i64 b.length]] #[]] rfl _) (hmn) ?_
     rintro e wa ⟨hr,v,rfl,hg⟩;have hws:=HR.out.2.size;replace HA:=hid (RdS.obj hr ⟨by omega,by omega⟩ HA.out);replace hB:=RdS.obj hr ⟨by omega,by omega⟩ hB
     replace hC:=RdS.obj hr ⟨by omega,by omega⟩ hC;have hw9s:b3<w9.heap.size:=(Array.getElem?_eq_some_iff.1 (show w9.heap[b3]?=some _ from HC9.out)).1
     replace HR:=hid (HR.out.trans hr);have hvn:∀q,v.ownBlock=some q->b3<q:=fun q hq=>Nat.lt_of_lt_of_le hw9s (hg.lt hq).1
     have hv1:v.oneCell'=true:=yC hg;have hg0:GatD w.heap.size wa v l.1:=hg.base hws;clear hr hg;refine⟨_,rfl,?_⟩;simp only[stz];refine wpDo rfl ?_
     refine qV 161 _ _ b2 37 v (by rfl) (by rfl) (by rfl) hv1 (by kernel_rfl) _ _ hB (by omega) (fun wb' hBb hmb=>?_);rw[manRow_put37 hdl]at hBb;replace hB:=hBb
     replace hC:=hmb.objB (by omega) hC;replace HR:=hid (HR.out.keepN hall (Nat.le_refl _) hmb (by omega))
     replace hg0:=hg0.keep hmb (fun q hq e=>by
      have:=hvn q hq;have e':q=b2:=e
      omega)
     clear hmb hBb;simp only[stz];obtain⟨MR,hMR⟩:∃MR,zA 3 t d v (.slice none 0 0)=MR:=⟨_,rfl⟩;have hsz:MR.size=39:=by rw[<-hMR];exact zM hdl
     have hone:∀c∈MR,c.oneCell'=true:=by rw[<-hMR];exact jC hv1 rfl
     have HMM:=hid hMR;rw[hMR]at hB;clear hMR HA;go_upto_region 17 with(fail)
     have hS:Mod (fun q=>q=b2) wb' wb'.drew/\wb'.drew.heap[b2]?=some (.cells MR 163 (0,0)):=⟨(Mod.refl _ _).drew,hB⟩
     refine wpRP [(0,0),(1,0),(2,1),(3,2)] [3] (fun w'=>Mod (fun q=>q=b2) wb' w'/\w'.heap[b2]?=some (.cells MR 163 (0,0))) hS ?_;simp only[stz]
     refine wpLA 163 b2 0 MR (fun w' hS=>CellsAt.whole hS.2) underlying163 39 hsz ?_;simp only[nmz]
     refine wpLA 255 b3 0 #[.int .i64 0,.int .i64 0] (fun w' hS=>CellsAt.whole (hS.1.objB (by omega) hC)) underlying255 2 rfl ?_;simp only[nmz]
     refine qN rfl (fun K hK=>?_);refine qH 163 _ _ b2 0 MR (by rfl) (by rfl) (by rfl) hone 39 (by kernel_rfl) hsz _ _ hS.2 (by omega) (fun wc hBc hmc=>?_)
     rw[qF (by rfl)]at hBc;have hSc:Mod (fun q=>q=b2) wb' wc:=hS.1.trans hmc (fun _ _ h=>h);refine hK _ _ ⟨hSc,hBc⟩ ?_;clear hK K;try simp only[nmz]
     refine zP rfl (fun K hK=>?_)
     refine qH 255 _ _ b3 0 #[.int .i64 0,.int .i64 0] (by rfl) (by rfl) (by rfl) (by simp[Value.oneCell']) 2 (by kernel_rfl) rfl _ _ (hSc.objB (by omega) hC) (by simp) (fun wd hCd hmd=>?_)
     rw[qF (by rfl)]at hCd;have hBd:=hmd.objB (by omega) hBc;refine hK _ _ ?_;clear hK K;simp only[stz]
     have HRd:=hid ((HR.out.keepN hall (Nat.le_refl _) hSc (by omega)).keepN hall (Nat.le_refl _) hmd (by omega))
     have HGd:=hid ((hg0.keep hSc (fun q hq e=>by
      have:=hvn q hq;have e':q=b2:=e
      omega)).keep hmd (fun q hq e=>by
      have:=hvn q hq;have e':q=b3:=e
      omega))
     have hsz2:(prog.info? 163).map (·.size)=some MR.size:=by rw[hsz];kernel_rfl
     clear hS hSc hmc hmd hBc hB hC hg0 HR;go_wp2
     refine bodyPost_ret (xI (P:=prog) (ty:=163) (tz:=255) rfl _ _ b2 b3 _ _ _ _ _ _ _ _ (by rfl) hBd (by rfl) hCd underlying163 rfl hsz2 underlying255 rfl (by kernel_rfl)) rfl ?_
     rw[HE.out];exact⟨HRd.out,_,0,0,rfl,by simp,by simp,hdl,_,_,HMM.out.symm,HGd.out,Gat.nil _ _ _ _ _⟩
   ·skip
    go_upto_region 5 with(fail);refine wpR [3,1,3,3,3,1,3,3] (by rfl) (by rfl) ?_;simp only[stz];refine wpXd (v:=(.int .i64 4)) 3 b2 0 hck underlying3 trivial ?_
    try simp only[nmz]
    refine qS _ _ _ _ _ _ _ _ rfl rfl rfl rfl rfl true (by decide) ?_;simp only[stz];refine wpXd (v:=(.int .i64 4)) 3 b2 0 hck underlying3 trivial ?_;try simp only[nmz]
    refine qS _ _ _ _ _ _ _ _ rfl rfl rfl rfl rfl false (by decide) ?_;simp only[stz]
    have hsz0:(zA 4 [] descZ (.slice none 0 0) (.slice none 0 0)).size=39:=zM hzi;go_upto_region 7 with(fail);refine wpR [3,1,1,3,1] (by rfl) (by rfl) ?_
    simp only[stz];refine wpXd (v:=(.pointer (some ⟨rb,0,none⟩))) 304 b1 0 (cell0 HA.out) underlying304 trivial ?_;try simp only[nmz]
    refine wpDo rfl ?_
    refine qB (qC 241 [.tmp 31,.const (.int .i64 4096)] _ rfl _ func241 rfl (by kernel_rfl) [.pointer (some ⟨rb,0,none⟩),.int .i64 (4096:Nat)] rfl _) (HT2.out _ HR.out) ?_
    rintro e w4 ⟨hr,rfl⟩;replace HA:=hid (RdS.obj hr ⟨by omega,by omega⟩ HA.out);replace hB:=RdS.obj hr ⟨by omega,by omega⟩ hB
    replace hC:=RdS.obj hr ⟨by omega,by omega⟩ hC;replace HR:=hid (HR.out.trans hr);clear hr;refine⟨_,rfl,?_⟩;simp only[stz];refine wpDo rfl ?_
    refine qV 9 _ _ b2 1 (.string ⟨t.toArray⟩) (by rfl) (by rfl) (by rfl) rfl (by kernel_rfl) _ _ hB (by omega) (fun w5 hB5 hm5=>?_);rw[manRow_put1]at hB5
    replace hB:=hB5;replace HA:=hid (hm5.objB (by omega) HA.out);replace hC:=hm5.objB (by omega) hC;replace HR:=hid (HR.out.keepN hall (Nat.le_refl _) hm5 (by omega))
    clear hm5 hB5;simp only[stz];clear hsz0 hck;have hsz0:(zA 4 t descZ (.slice none 0 0) (.slice none 0 0)).size=39:=zM hzi
    have hck:w5.cell? ⟨b2,0,none⟩=some (.int .i64 4):=by rw[cell_of_row _ _ _ _ _ _ hB];rfl
    have hr0:=HMR.out;rw[if_neg (by omega)]at hr0;simp only[show ¬((4:Nat)=3) by omega,if_false]at hr0;replace HMR:=hid hr0;clear hr0;have hdl:=hzi
    go_upto_region 9 with(fail);refine wpR [3,1,3] (by rfl) (by rfl) ?_;simp only[stz];refine wpXd (v:=(.int .i64 4)) 3 b2 0 hck underlying3 trivial ?_;try simp only[nmz]
    refine qE (v:=?_) rfl (fun w'=>?_) ?_;rotate_left;·(go_simp;try with_reducible rfl)
    simp only[stz];clear hck hsz0;have hszr:(zA 4 t descZ (.slice none 0 0) (.slice none 0 0)).size=39:=zM hdl
    obtain⟨r,hr1,hr2,hrc⟩:=HL.out _ _ (RdS.keepS HR.out hall (S:=NoB) (w2:=w5.drew) ((Mod.refl _ _).drew) (fun _ h=>h.elim))
    obtain⟨⟨n,s5⟩,hn⟩:∃n,rNumL b s3=n:=⟨_,rfl⟩
    have HNC:Hid (∀w',RdS w w' rb wb bv b s3->Calls prog 240 #[.pointer (some ⟨rb,0,none⟩)] w' (NumR w' rb wb bv b n s5)):=hid (fun w' hw'=>by
     have:=HN.out w' _ hw'
     rwa[hn]at this)
    have hnb:=(rNumL_ok (b:=b) (s:=s3)).2.1;rw[hn]at hnb
    dsimp only at hnb
    have hr0:=HMR.out;simp only[hn]at hr0;replace HMR:=hid hr0;clear hr0 hn;go_upto_region 12 with(fail);have hS:Mod NoB w5 w5.drew:=(Mod.refl _ _).drew
    refine wpRP [(0,3),(1,0),(2,3),(3,0),(4,1),(5,3),(6,3)] [] (fun w'=>Mod NoB w5 w') hS ?_;simp only[stz]
    refine wpLd (v:=(.int .i64 b.length)) 3 b1 1 (fun w' hS=>hS.cell id (cell1 HA.out)) underlying3 ?_;simp only[stz]
    refine wpLd 304 b1 0 (fun w' hS=>hS.cell id (cell0 HA.out)) underlying304 ?_;simp only[nmz];refine qN rfl (fun K hK=>?_)
    refine qB (qC 243 [.tmp 45] _ rfl _ func243 rfl (by kernel_rfl) [.pointer (some ⟨rb,0,none⟩)] rfl _) (hrc) ?_;rintro e w8 ⟨rfl,hm8⟩;have hS8:=hS.trans0 hm8
    refine⟨_,rfl,hK _ _ hS8 ?_⟩;clear hK K;try simp only[nmz]
    refine yB _ _ _ _ ((b.length:Nat):Int) r rfl rfl rfl rfl (by omega) (by omega) ?_;simp only[stz];replace HA:=hid (hS8.obj id HA.out);replace hB:=hS8.obj id hB
    replace hC:=hS8.obj id hC;replace HR:=hid (HR.out.keepS hall hS8 (fun _ h=>h.elim));clear hS hS8 hm8 hrc;go_upto_region 13 with(fail)
    refine wpR [3,1,1,3] (by rfl) (by rfl) ?_;simp only[stz];refine wpXd (v:=(.pointer (some ⟨rb,0,none⟩))) 304 b1 0 (cell0 HA.out) underlying304 trivial ?_
    try simp only[nmz]
    refine wpDo rfl ?_;refine qB (qC 240 [.tmp 49] _ rfl _ func240 rfl (by kernel_rfl) [.pointer (some ⟨rb,0,none⟩)] rfl _) (HNC.out _ HR.out) ?_
    rintro e w9 ⟨rfl,hr⟩;replace HA:=hid (RdS.obj hr ⟨by omega,by omega⟩ HA.out);replace hB:=RdS.obj hr ⟨by omega,by omega⟩ hB
    replace hC:=RdS.obj hr ⟨by omega,by omega⟩ hC;replace HR:=hid (HR.out.trans hr);clear hr;refine⟨_,rfl,?_⟩;simp only[stz]
    by_cases hmost:8<n
    ·have hmz:(n:Int)>8:=by omega
     have hr0:=HMR.out;rw[if_pos hmost]at hr0;have HE:=hid hr0;clear hr0
     have hsz:(zA 4 t descZ (.slice none 0 0) (.slice none 0 0)).size=39:=zM (by first|exact xF|assumption)
     have hone:∀c∈zA 4 t descZ (.slice none 0 0) (.slice none 0 0),c.oneCell'=true:=jC rfl rfl;go_upto_region 15 with(fail)
     refine wpR [1,3,0,1,1] (by rfl) (by rfl) ?_;simp only[stz]
     refine wpXA 163 b2 0 (zA 4 t descZ (.slice none 0 0) (.slice none 0 0)) (CellsAt.whole hB) underlying163 39 hsz trivial ?_;simp only[stz]
     refine qM rfl (fun w' hS=>qO 255 [(0,_),(1,_)] [(0,.int .i64 4),(1,.int .i64 (b.length-r))] _ (by rfl) (by rfl) (built_fault 4 (b.length-r))) ?_
     simp only[nmz];refine wpDo rfl ?_
     refine qH 163 _ _ b2 0 (zA 4 t descZ (.slice none 0 0) (.slice none 0 0)) (by rfl) (by rfl) (by rfl) hone 39 (by kernel_rfl) hsz _ _ hB (by omega) (fun wf hBf hmf=>?_)
     rw[qF (by rfl)]at hBf;have hCf:=hmf.objB (by omega) hC;have HRf:=hid (HR.out.keepN hall (Nat.le_refl _) hmf (by omega));clear hmf hB hC;try simp only[nmz]
     refine wpDo rfl ?_
     refine qH 255 _ _ b3 0 #[.int .i64 4,.int .i64 (b.length-r)] (by rfl) (by rfl) (by rfl) (by simp[Value.oneCell']) 2 (by kernel_rfl) rfl _ _ hCf (by simp) (fun wg hCg hmg=>?_)
     rw[qF (by rfl)]at hCg;have hBg:=hmg.objB (by omega) hBf;have HRg:=hid (HRf.out.keepN hall (Nat.le_refl _) hmg (by omega));clear hmg hBf hCf;simp only[stz]
     have hsz2:(prog.info? 163).map (·.size)=some (zA 4 t descZ (.slice none 0 0) (.slice none 0 0)).size:=by rw[hsz];kernel_rfl
     clear HR HA;go_wp2
     refine bodyPost_ret (xI (P:=prog) (ty:=163) (tz:=255) rfl _ _ b2 b3 _ _ _ _ _ _ _ _ (by rfl) hBg (by rfl) hCg underlying163 rfl hsz2 underlying255 rfl (by kernel_rfl)) rfl ?_
     rw[HE.out];exact⟨HRg.out,_,4,_,rfl,by simp,by simp,hdl,_,_,rfl,Gat.nil _ _ _ _ _,Gat.nil _ _ _ _ _⟩
    ·have hmz:¬(n:Int)>8:=by omega
     have hr0:=HMR.out;rw[if_neg hmost]at hr0;have HE0:=hid hr0;clear hr0 HMR;have hmn:=HM.out _ _ n (by omega) HR.out;have HC9:=hid hC
     obtain⟨l,hl⟩:∃l,xO b n s5=l:=⟨_,rfl⟩;rw[hl]at hmn;have hr0:=HE0.out;rw[hl]at hr0;have HE:=hid hr0;clear hl hr0 HE0;go_upto_region 16 with(fail)
     refine wpR [3,3,1,1,1,3,1] (by rfl) (by rfl) ?_;simp only[stz]
     refine wpXA 307 b1 0 #[.pointer (some ⟨rb,0,none⟩),.int .i64 b.length] (CellsAt.whole HA.out) underlying307 2 rfl trivial ?_;try simp only[nmz]
     refine wpX rfl (exec_bindFunc 242 [.tmp 59] (by rfl) [.agg #[.pointer (some ⟨rb,0,none⟩),.int .i64 b.length]] (by rfl)) trivial ?_;try simp only[nmz]
     refine wpDo rfl ?_
     refine qB (qC 244 [.tmp 58,.tmp 60] _ rfl _ func244 rfl (by kernel_rfl) [.int .i64 n,.func (.func 242) #[.agg #[.pointer (some ⟨rb,0,none⟩),.int .i64 b.length]] #[]] rfl _) (hmn) ?_
     rintro e wa ⟨hr,v,rfl,hg⟩;have hws:=HR.out.2.size;replace HA:=hid (RdS.obj hr ⟨by omega,by omega⟩ HA.out);replace hB:=RdS.obj hr ⟨by omega,by omega⟩ hB
     replace hC:=RdS.obj hr ⟨by omega,by omega⟩ hC;have hw9s:b3<w9.heap.size:=(Array.getElem?_eq_some_iff.1 (show w9.heap[b3]?=some _ from HC9.out)).1
     replace HR:=hid (HR.out.trans hr);have hvn:∀q,v.ownBlock=some q->b3<q:=fun q hq=>Nat.lt_of_lt_of_le hw9s (hg.lt hq).1
     have hv1:v.oneCell'=true:=yC hg;have hg0:GatD w.heap.size wa v l.1:=hg.base hws;clear hr hg;refine⟨_,rfl,?_⟩;simp only[stz];refine wpDo rfl ?_
     refine qV 161 _ _ b2 38 v (by rfl) (by rfl) (by rfl) hv1 (by kernel_rfl) _ _ hB (by omega) (fun wb' hBb hmb=>?_);rw[manRow_put38 hdl]at hBb;replace hB:=hBb
     replace hC:=hmb.objB (by omega) hC;replace HR:=hid (HR.out.keepN hall (Nat.le_refl _) hmb (by omega))
     replace hg0:=hg0.keep hmb (fun q hq e=>by
      have:=hvn q hq;have e':q=b2:=e
      omega)
     clear hmb hBb;simp only[stz];obtain⟨MR,hMR⟩:∃MR,zA 4 t descZ (.slice none 0 0) v=MR:=⟨_,rfl⟩;have hsz:MR.size=39:=by rw[<-hMR];exact zM hdl
     have hone:∀c∈MR,c.oneCell'=true:=by rw[<-hMR];exact jC rfl hv1
     have HMM:=hid hMR;rw[hMR]at hB;clear hMR HA;go_upto_region 17 with(fail)
     have hS:Mod (fun q=>q=b2) wb' wb'.drew/\wb'.drew.heap[b2]?=some (.cells MR 163 (0,0)):=⟨(Mod.refl _ _).drew,hB⟩
     refine wpRP [(0,0),(1,0),(2,1),(3,2)] [3] (fun w'=>Mod (fun q=>q=b2) wb' w'/\w'.heap[b2]?=some (.cells MR 163 (0,0))) hS ?_;simp only[stz]
     refine wpLA 163 b2 0 MR (fun w' hS=>CellsAt.whole hS.2) underlying163 39 hsz ?_;simp only[nmz]
     refine wpLA 255 b3 0 #[.int .i64 0,.int .i64 0] (fun w' hS=>CellsAt.whole (hS.1.objB (by omega) hC)) underlying255 2 rfl ?_;simp only[nmz]
     refine qN rfl (fun K hK=>?_);refine qH 163 _ _ b2 0 MR (by rfl) (by rfl) (by rfl) hone 39 (by kernel_rfl) hsz _ _ hS.2 (by omega) (fun wc hBc hmc=>?_)
     rw[qF (by rfl)]at hBc;have hSc:Mod (fun q=>q=b2) wb' wc:=hS.1.trans hmc (fun _ _ h=>h);refine hK _ _ ⟨hSc,hBc⟩ ?_;clear hK K;try simp only[nmz]
     refine zP rfl (fun K hK=>?_)
     refine qH 255 _ _ b3 0 #[.int .i64 0,.int .i64 0] (by rfl) (by rfl) (by rfl) (by simp[Value.oneCell']) 2 (by kernel_rfl) rfl _ _ (hSc.objB (by omega) hC) (by simp) (fun wd hCd hmd=>?_)
     rw[qF (by rfl)]at hCd;have hBd:=hmd.objB (by omega) hBc;refine hK _ _ ?_;clear hK K;simp only[stz]
     have HRd:=hid ((HR.out.keepN hall (Nat.le_refl _) hSc (by omega)).keepN hall (Nat.le_refl _) hmd (by omega))
     have HGd:=hid ((hg0.keep hSc (fun q hq e=>by
      have:=hvn q hq;have e':q=b2:=e
      omega)).keep hmd (fun q hq e=>by
      have:=hvn q hq;have e':q=b3:=e
      omega))
     have hsz2:(prog.info? 163).map (·.size)=some MR.size:=by rw[hsz];kernel_rfl
     clear hS hSc hmc hmd hBc hB hC hg0 HR;go_wp2
     refine bodyPost_ret (xI (P:=prog) (ty:=163) (tz:=255) rfl _ _ b2 b3 _ _ _ _ _ _ _ _ (by rfl) hBd (by rfl) hCd underlying163 rfl hsz2 underlying255 rfl (by kernel_rfl)) rfl ?_
     rw[HE.out];exact⟨HRd.out,_,0,0,rfl,by simp,by simp,hdl,_,_,HMM.out.symm,Gat.nil _ _ _ _ _,HGd.out⟩
end
section
variable{w:World}{o:Oper}{a:Act}
theorem exec_eql_flt(x y:Operand)(yt:TypeId)(m n:Int)(ho:o.op=.binOp .eql 255 x y yt)(hx:a.eval x=.agg #[.int .i64 m,.int .i64 n])(hy:a.eval y=.agg #[.int .i64 0,.int .i64 0])(r:Bool)(hr:(decide (m=0)&&decide (n=0))=r):(execOp a.eval o).run prog w=.ok (.value (.bool r)) w:=by
 subst hr;have h1:=run_eqGuard_agg (P:=prog) w .eql 255 x y #[.int .i64 m,.int .i64 n] #[.int .i64 0,.int .i64 0] eqGuardType255;unfold execOp
 simp only[ho,hx,hy,Sem.run_bind,h1,Result.andThen_ok]
 go_simp
 by_cases h1:m=0<;>by_cases h2:n=0<;>simp[h1,h2]
theorem exec_neq_flt(x y:Operand)(yt:TypeId)(m n:Int)(ho:o.op=.binOp .neq 255 x y yt)(hx:a.eval x=.agg #[.int .i64 m,.int .i64 n])(hy:a.eval y=.agg #[.int .i64 0,.int .i64 0])(r:Bool)(hr:(!(decide (m=0)&&decide (n=0)))=r):(execOp a.eval o).run prog w=.ok (.value (.bool r)) w:=by
 subst hr;have h1:=run_eqGuard_agg (P:=prog) w .neq 255 x y #[.int .i64 m,.int .i64 n] #[.int .i64 0,.int .i64 0] eqGuardType255;unfold execOp
 simp only[ho,hx,hy,Sem.run_bind,h1,Result.andThen_ok]
 go_simp
 by_cases h1:m=0<;>by_cases h2:n=0<;>simp[h1,h2]
end
section
variable{w:World}{rb wb:Nat}{bv:Value}{b:List UInt8}{a:Nat}{e p:Int}
theorem mFailed_any(h:RdI w rb wb bv b a e p)(size:Int):Calls prog 213 #[.agg #[.pointer (some ⟨rb,0,none⟩),.int .i64 size]] w (FailedR w b a e):=by
 have H:=hid h;have HE:=hid (show ∀(w':World),RdI w' rb wb bv b a e p->Calls prog 245 #[.pointer (some ⟨rb,0,none⟩)] w' (EndR w' b a e p)from fun w' h'=>rEnd_any h')
 have HL:=hid (show ∃r:Int,∀(w':World),RdI w' rb wb bv b a e p->Calls prog 243 #[.pointer (some ⟨rb,0,none⟩)] w' (RetM (.int .i64 r) w')from⟨_,fun w' h'=>rRest_any h'⟩)
 clear h;go_enter func213,ntmps213;go_upto_region 0 with(fail);refine wpR [1,1,3] (by rfl) (by rfl) ?_;simp only[stz];refine wpDo rfl ?_
 refine zW 307 _ _ (by rfl) (by rfl) (fun w1 hB1 hm1 hs1=>?_)
 replace hB1:w1.heap[w.heap.size]?=some (.cells #[.pointer (some ⟨rb,0,none⟩),.int .i64 size] 307 (0,0)):=hB1;try simp only[nmz]
 refine wpDo rfl ?_;refine qR 255 _ (by rfl) fltZ (fun w2 hB2 hm2 hs2=>?_);replace hB2:w2.heap[w1.heap.size]?=some (.cells #[.int .i64 0,.int .i64 0] 255 (0,0)):=hB2
 simp only[stz];have hA:=hm2.obj id hB1;have HM2:=hid (hm1.trans0 hm2);have hb12:w.heap.size<w1.heap.size:=hs1;generalize hb1:w.heap.size=b1 at*
 generalize hb2:w1.heap.size=b2 at*;clear hm1 hm2 hB1;go_upto_region 1 with(fail);refine wpR [3,1,1,1,1] (by rfl) (by rfl) ?_;simp only[stz]
 refine wpXd (v:=(.pointer (some ⟨rb,0,none⟩))) 304 b1 0 (cell0 hA) underlying304 trivial ?_;try simp only[nmz]
 refine wpDo rfl ?_;refine qB (qC 245 [.tmp 6] _ rfl _ func245 rfl (by kernel_rfl) [.pointer (some ⟨rb,0,none⟩)] rfl _) (HE.out _ (H.out.keep0 HM2.out)) ?_
 rintro e w3 ⟨hm3,er,at_,rfl,hz1,hz2⟩;refine⟨_,rfl,?_⟩;try simp only[nmz]
 refine wpDo rfl ?_;refine qR 255 _ (by rfl) fltZ (fun w4 hB4 hm4 hs4=>?_);replace hB4:w4.heap[w3.heap.size]?=some (.cells #[.int .i64 0,.int .i64 0] 255 (0,0)):=hB4
 try simp only[nmz]
 refine wpDo rfl ?_
 refine qH 255 _ _ w3.heap.size 0 #[.int .i64 er,.int .i64 at_] (by rfl) (by rfl) (by rfl) (by simp[Value.oneCell']) 2 (by kernel_rfl) rfl _ _ hB4 (by simp) (fun w5 hB5 hm5=>?_)
 rw[qF (by rfl)]at hB5;simp only[stz]
 have h25:b2<w3.heap.size:=by
  have:=hm3.size;have h3:=(Array.getElem?_eq_some_iff.1 hB2).1;omega
 have hm25:Mod NoB w2 w5:=(hm3.trans0 hm4).transB hm5 (by have:=hm3.size;omega);have HM5:=hid (HM2.out.trans0 hm25);have hA5:=hm25.obj id hA;have hC5:=hm25.obj id hB2
 have HZ:=hid (show(er=0↔e=0/\a=b.length)/\(er=0->at_=0)from⟨hz1,hz2⟩);generalize hb4:w3.heap.size=b4 at*;clear hm3 hm4 hm5 hm25 hA hB2 hB4 hz1 hz2
 obtain⟨r,hr⟩:=HL.out;have HR:=hid hr;clear hr HL;go_upto_region 2 with(fail);have hS:Mod (fun k=>k=b2) w5 w5.drew:=(Mod.refl _ _).drew
 have h4l:b4<w5.heap.size:=(Array.getElem?_eq_some_iff.1 hB5).1
 by_cases her:er=0
 ·subst her
  have hC0:=(show w5.drew.heap[b2]?=_ from hC5)
  refine wpRP [(0,0),(1,3),(2,0),(3,3),(4,3),(5,3),(6,0),(7,1),(8,3),(9,3),(10,1),(11,3)] [] (fun w'=>Mod (fun k=>k=b2) w5 w') hS ?_;simp only[stz]
  refine wpLA 255 b4 0 #[.int .i64 0,.int .i64 at_] (fun w' hS=>CellsAt.whole (hS.objB (by omega) hB5)) underlying255 2 rfl ?_;simp only[stz]
  refine wpLd (v:=(.int .i64 0)) 33 b4 0 (fun w' hS=>hS.cell (fun e=>by have e':b4=b2:=e;omega) (cell0 hB5)) underlying33 ?_;simp only[nmz]
  refine qS _ _ _ _ _ _ _ _ rfl rfl rfl rfl rfl false (by decide) ?_;simp only[stz];refine xW rfl hS ?_;simp only[stz];refine qN rfl (fun K hK=>?_)
  refine qH 255 _ _ b2 0 #[.int .i64 0,.int .i64 at_] (by rfl) (by rfl) (by rfl) (by simp[Value.oneCell']) 2 (by kernel_rfl) rfl _ _ hC0 (by simp) (fun w6 hB6 hm6=>?_)
  rw[qF (by rfl)]at hB6;have hS8:Mod (fun k=>k=b2) w5 w6:=hS.trans hm6 (fun _ _ h=>h);refine hK _ _ hS8 ?_;clear hK K;simp only[stz]
  have HM6:=hid (HM5.out.transB hS8 (by omega));clear hS hS8 hm6 hB5 hA5 hC5 hC0;go_wp2
  refine bodyPost_ret (xH (P:=prog) (ty:=255) rfl _ _ b2 _ _ _ _ (by rfl) hB6 underlying255 rfl (by kernel_rfl)) rfl ?_
  exact⟨HM6.out,0,at_,false,rfl,by simpa using HZ.out.1,by simpa using HZ.out.2,by simp⟩
 ·have hez:¬er=0:=her
  have hC0:=(show w5.drew.heap[b2]?=_ from hC5)
  refine wpRP [(0,0),(1,3),(2,0),(3,3),(4,3),(5,3),(6,0),(7,1),(8,3),(9,3),(10,1),(11,3)] [] (fun w'=>Mod (fun k=>k=b2) w5 w') hS ?_;simp only[stz]
  refine wpLA 255 b4 0 #[.int .i64 er,.int .i64 at_] (fun w' hS=>CellsAt.whole (hS.objB (by omega) hB5)) underlying255 2 rfl ?_;simp only[stz]
  refine wpLd (v:=(.int .i64 er)) 33 b4 0 (fun w' hS=>hS.cell (fun e=>by have e':b4=b2:=e;omega) (cell0 hB5)) underlying33 ?_;simp only[nmz]
  refine qS _ _ _ _ _ _ _ _ rfl rfl rfl rfl rfl true (decide_eq_true hez) ?_;simp only[stz]
  refine wpLd 304 b1 0 (fun w' hS=>hS.cell (fun e=>by have e':b1=b2:=e;omega) (cell0 hA5)) underlying304 ?_;simp only[nmz];refine qN rfl (fun K hK=>?_)
  refine qB (qC 243 [.tmp 14] _ rfl _ func243 rfl (by kernel_rfl) [.pointer (some ⟨rb,0,none⟩)] rfl _) (HR.out _ (H.out.keep0 (HM5.out.transB hS (by omega)))) ?_
  rintro e w7 ⟨rfl,hm7⟩;have hS7:Mod (fun k=>k=b2) w5 w7:=hS.trans hm7 (fun _ _ h=>h.elim);have hC7:=hm7.obj id hC0;refine⟨_,rfl,hK _ _ hS7 ?_⟩;clear hK K
  try simp only[nmz]
  refine qS _ _ _ _ _ _ _ _ rfl rfl rfl rfl rfl (decide (r=0)) rfl ?_;simp only[stz];refine qN rfl (fun K hK=>?_)
  refine qH 255 _ _ b2 0 #[.int .i64 er,.int .i64 at_] (by rfl) (by rfl) (by rfl) (by simp[Value.oneCell']) 2 (by kernel_rfl) rfl _ _ hC7 (by simp) (fun w6 hB6 hm6=>?_)
  rw[qF (by rfl)]at hB6;have hS8:Mod (fun k=>k=b2) w5 w6:=hS7.trans hm6 (fun _ _ h=>h);refine hK _ _ hS8 ?_;clear hK K;simp only[stz]
  have HM6:=hid (HM5.out.transB hS8 (by omega));clear hS hS7 hS8 hm6 hm7 hB5 hA5 hC5 hC0 hC7;go_wp2
  refine bodyPost_ret (xH (P:=prog) (ty:=255) rfl _ _ b2 _ _ _ _ (by rfl) hB6 underlying255 rfl (by kernel_rfl)) rfl ?_
  exact⟨HM6.out,er,at_,decide (r=0),rfl,HZ.out.1,HZ.out.2,fun _=>her⟩
end
section
variable{w:World}{b:List UInt8}
def DecR(w:World)(b:List UInt8):Ending->World->Prop:=fun x w'=>Mod NoB w w'/\∃(cs:Array Value)(er at_:Int),x=.returned (.tuple #[.agg cs,.agg #[.int .i64 er,.int .i64 at_]])/\(er=0↔(decL b).isSome=true)/\ManC w.heap.size w' cs ((decL b).getD manZ)
theorem built_mreader(rb:Nat)(n:Int):prog.built 307 [(0,.pointer (some ⟨rb,0,none⟩)),(1,.int .i64 n)]=some #[.pointer (some ⟨rb,0,none⟩),.int .i64 n]:=by
 have z:(prog.info? 307).bind (·.zero)=some (.agg #[.pointer none,.int .i64 0]):=by kernel_rfl
 have p:xT prog 307=some [(0,1),(1,1)]:=by kernel_rfl
 rw[zS z p,zK (off:=0) (size:=1) rfl (by rfl) (by simp),zK (off:=1) (size:=1) rfl (by rfl) (by simp[zF,Value.cells]),xU]
 rfl
theorem mreader_i:(prog.info? 307).bind (·.zero)=some (.agg #[.pointer none,.int .i64 0]):=by kernel_rfl
theorem zero_man:prog.built 163 []=some (zA 0 [] descZ (.slice none 0 0) (.slice none 0 0)):=by kernel_rfl
theorem zero_flt:prog.built 255 []=some #[.int .i64 0,.int .i64 0]:=by kernel_rfl
theorem mDecode_any{own:Bool}{G:Nat->Prop}{v:Value}(h:Sl own w G 1 ByteC v b)(hl:b.length<=4096):Calls prog 158 #[v] w (DecR w b):=by
 obtain⟨ad,cap,rfl,-,-⟩:=Sl.at h;have H:=hid h;have hlz:¬((b.length:Nat):Int)>4096:=by omega
 have HDL:Hid (decL b=if(manR b).2.2=true/\(manR b).2.1=some b.length then some (manR b).1 else none):=hid (by unfold decL;simp only[hl,true_and])
 obtain⟨⟨m,s,ok⟩,hmr⟩:∃r,manR b=r:=⟨_,rfl⟩;rw[hmr]at HDL;have HMR:=hid hmr;clear h hmr;go_enter func158,ntmps158;go_upto_region 0 with(fail)
 refine wpR [1,1] (by rfl) (by rfl) ?_;simp only[stz];refine wpDo rfl ?_;refine qR 163 _ (by rfl) manZ_i (fun w1 hB1 hm1 hs1=>?_)
 replace hB1:w1.heap[w.heap.size]?=some (.cells (zA 0 [] descZ (.slice none 0 0) (.slice none 0 0)) 163 (0,0)):=hB1;try simp only[nmz]
 refine wpDo rfl ?_;refine qR 255 _ (by rfl) fltZ (fun w2 hB2 hm2 hs2=>?_);replace hB2:w2.heap[w1.heap.size]?=some (.cells #[.int .i64 0,.int .i64 0] 255 (0,0)):=hB2
 simp only[stz];have hB1':=hm2.obj id hB1;have HM2:=hid (hm1.trans0 hm2);have hb23:w.heap.size<w1.heap.size:=hs1;have hbs2:w1.heap.size<w2.heap.size:=hs2
 have hwb2:w.heap.size<=w.heap.size:=Nat.le_refl _;generalize hb2:w.heap.size=b2 at*;generalize hb3:w1.heap.size=b3 at*;have hB2x:=hB2;clear hm1 hm2 hB1 hB2
 go_upto_region 3 with(fail);refine wpR [3,1,3,3,0,1,1] (by rfl) (by rfl) ?_;simp only[stz];refine wpDo rfl ?_
 refine qB (qC 211 [.tmp 14] _ rfl _ func211 rfl (by kernel_rfl) [.slice ad b.length cap] rfl _) (rNew_any (H.out.keep0 HM2.out) hl) ?_
 rintro e w3 ⟨rb,wb,bv,rfl,hrd,hm3,hrn⟩;refine⟨_,rfl,?_⟩;simp only[stz];refine zD _ _ _ _ _ rfl rfl rfl (by kernel_rfl) ?_;simp only[nmz]
 refine qM rfl (fun w' hS=>qO 307 [(0,_),(1,_)] [(0,.pointer (some ⟨rb,0,none⟩)),(1,.int .i64 b.length)] _ (by rfl) (by rfl) (built_mreader rb b.length)) ?_
 simp only[nmz];refine wpDo rfl ?_;refine qR 307 _ (by rfl) mreader_i (fun w4 hB4 hm4 hs4=>?_)
 replace hB4:w4.heap[w3.heap.size]?=some (.cells #[.pointer none,.int .i64 0] 307 (0,0)):=hB4;try simp only[nmz]
 refine wpDo rfl ?_
 refine qH 307 _ _ w3.heap.size 0 #[.pointer (some ⟨rb,0,none⟩),.int .i64 b.length] (by rfl) (by rfl) (by rfl) (by simp[Value.oneCell']) 2 (by kernel_rfl) rfl _ _ hB4 (by simp) (fun w5 hB5 hm5=>?_)
 rw[qF (by rfl)]at hB5;simp only[stz];have hs3:=hm3.size;have hm25:Mod NoB w2 w5:=(hm3.trans0 hm4).transB hm5 hs3;have hB2:=hm25.obj id hB1'
 have hC2:=hm25.obj id hB2x;have HM5:=hid (HM2.out.trans0 hm25);have hall:=hrd.all;have hrd5:=(hrd.keep0 hm4).keepN hall hm5 (Nat.le_refl _);have hst5:=hrd5.stay
 have hman:=mManifest_any hrd5;have h34:w3.heap.size<w5.heap.size:=(Array.getElem?_eq_some_iff.1 hB5).1
 replace hrn:∀k,k=rb\/k=wb\/bv.ownBlock=some k->b3<k/\k<w3.heap.size:=fun k hk=>by
  have:=hrn k hk;have:=hall k hk;omega
 have h3l:b3<w3.heap.size:=by omega
 generalize hb4:w3.heap.size=b4 at*;rw[HMR.out]at hman;clear hm3 hm4 hm5 hm25 hB1' hB4 hB2x hrd hst5;go_upto_region 4 with(fail)
 refine wpR [1,1,3,3,3,1,1,1,1] (by rfl) (by rfl) ?_;simp only[stz]
 refine wpXA 307 b4 0 #[.pointer (some ⟨rb,0,none⟩),.int .i64 b.length] (CellsAt.whole hB5) underlying307 2 rfl trivial ?_;try simp only[nmz]
 refine wpDo rfl ?_;refine qB (qC 212 [.tmp 20] _ rfl _ func212 rfl (by kernel_rfl) [.agg #[.pointer (some ⟨rb,0,none⟩),.int .i64 b.length]] rfl _) (hman) ?_
 rintro e w6 ⟨hr6,cs,er,at_,rfl,he1,he2,hmc⟩;have hB26:=hr6.obj ⟨fun e=>by have:=hrn rb (.inl rfl);omega,fun e=>by have:=hrn wb (.inr (.inl rfl));omega⟩ hB2
 have hC26:=hr6.obj ⟨fun e=>by have:=hrn rb (.inl rfl);omega,fun e=>by have:=hrn wb (.inr (.inl rfl));omega⟩ hC2
 have hB56:=hr6.obj ⟨fun e=>by have:=hrn rb (.inl rfl);omega,fun e=>by have:=hrn wb (.inr (.inl rfl));omega⟩ hB5
 have hm06:Mod NoB w w6:=HM5.out.trans hr6.2 (fun k hk e=>by
  have e':k=rb\/k=wb:=e
  rcases e' with rfl|rfl
  ·have:=hrn k (.inl rfl);omega
  ·have:=hrn k (.inr (.inl rfl));omega)
 have hcs:=hmc.size;have hone:=hmc.one;have h56:=hr6.2.size;obtain⟨⟨a6,e6,p6,hrd6,hst6⟩,-⟩:=hr6
 have hmc0:ManC b2 w6 cs m:=by
  obtain⟨q0,lv,sv,q1,q2,q3⟩:=hmc;exact⟨q0,lv,sv,q1,q2.base (by omega),q3.base (by omega)⟩
 have hmcs:∀(S:Nat->Prop)(w':World),Mod S w6 w'->(∀k,S k->w6.heap.size<=k\/k<=b4)->ManC b2 w' cs m:=fun S w' hmm hS=>by
  obtain⟨q0,lv,sv,q1,q2,q3⟩:=hmc;refine⟨q0,lv,sv,q1,(q2.keep hmm (fun k hk e=>?_)).base (by omega),(q3.keep hmm (fun k hk e=>?_)).base (by omega)⟩
  ·have:=q2.lt hk;have:=hS k e;omega
  ·have:=q3.lt hk;have:=hS k e;omega
 have HMC:=hid hmcs;clear hmc hmc0 hmcs;refine⟨_,rfl,?_⟩;simp only[stz];refine qE (v:=?_) rfl (fun w'=>?_) ?_;rotate_left;·(go_simp;try with_reducible rfl)
 simp only[nmz];refine qE (v:=?_) rfl (fun w'=>?_) ?_;rotate_left;·(go_simp;try with_reducible rfl)
 simp only[nmz];refine wpDo rfl ?_;refine qR 163 _ (by rfl) manZ_i (fun w7 hB7 hm7 hs7=>?_)
 replace hB7:w7.heap[w6.heap.size]?=some (.cells (zA 0 [] descZ (.slice none 0 0) (.slice none 0 0)) 163 (0,0)):=hB7;try simp only[nmz]
 refine wpDo rfl ?_;refine qR 255 _ (by rfl) fltZ (fun w8 hB8 hm8 hs8=>?_);replace hB8:w8.heap[w7.heap.size]?=some (.cells #[.int .i64 0,.int .i64 0] 255 (0,0)):=hB8
 try simp only[nmz]
 refine wpDo rfl ?_
 refine qH 163 _ _ w6.heap.size 0 cs (by rfl) (by rfl) (by rfl) hone 39 (by kernel_rfl) hcs _ _ (hm8.obj id hB7) (by rw[hcs];exact Nat.le_of_eq (zM xF).symm) (fun w9 hB9 hm9=>?_)
 rw[qF (by rw[hcs];exact(zM xF).symm)]at hB9;have hB8':=hm9.objB (by omega) hB8;try simp only[nmz]
 refine wpDo rfl ?_
 refine qH 255 _ _ w7.heap.size 0 #[.int .i64 er,.int .i64 at_] (by rfl) (by rfl) (by rfl) (by simp[Value.oneCell']) 2 (by kernel_rfl) rfl _ _ hB8' (by simp) (fun wa hBa hma=>?_)
 rw[qF (by rfl)]at hBa;have hB9':=hma.objB (by omega) hB9;simp only[stz]
 have hm6a:Mod NoB w6 wa:=((hm7.trans0 hm8).transB hm9 (Nat.le_refl _)).transB hma (by omega);have HMa:=hid (hm06.trans0 hm6a);have hB2a:=hm6a.obj id hB26
 have hC2a:=hm6a.obj id hC26;have hB5a:=hm6a.obj id hB56;have hrda:=hrd6.keep0 hm6a;have h6a:=hm6a.size;have hfl:=mFailed_any hrda b.length
 have h67:w6.heap.size<w7.heap.size:=hs7;have hb4l:b4<w6.heap.size:=by omega
 have h7a:w7.heap.size<wa.heap.size:=(Array.getElem?_eq_some_iff.1 hBa).1
 replace HMC:Hid (∀(S:Nat->Prop)(w':World),Mod S wa w'->(∀k,S k->w6.heap.size<=k\/k<=b4)->ManC b2 w' cs m):=hid (fun S w' hmm hS=>HMC.out S w' ((hm6a.mono (fun _ _ h=>h.elim)).trans hmm (fun _ _ h=>h)) hS)
 have HST:=hid hst6;generalize hb5:w6.heap.size=b5 at*;generalize hb6:w7.heap.size=b6 at*
 clear hm06 hm6a hm7 hm8 hm9 hma hB26 hC26 hB56 hB7 hB8 hB8' hB9 hrd6 hrd5 hman hst6 HM5 HM2;go_upto_region 5 with(fail);refine wpR [1,1,3,3,3,1,1,3] (by rfl) (by rfl) ?_
 simp only[stz];refine wpXA 307 b4 0 #[.pointer (some ⟨rb,0,none⟩),.int .i64 b.length] (CellsAt.whole hB5a) underlying307 2 rfl trivial ?_;try simp only[nmz]
 refine wpDo rfl ?_;refine qB (qC 213 [.tmp 25] _ rfl _ func213 rfl (by kernel_rfl) [.agg #[.pointer (some ⟨rb,0,none⟩),.int .i64 b.length]] rfl _) (hfl) ?_
 rintro e wc ⟨hmc,er2,at2,is,rfl,hg1,hg2,hg3⟩;refine⟨_,rfl,?_⟩;simp only[stz]
 refine qE (v:=?_) rfl (fun w'=>?_) ?_;rotate_left;·(go_simp;try with_reducible rfl)
 simp only[nmz];refine qE (v:=?_) rfl (fun w'=>?_) ?_;rotate_left;·(go_simp;try with_reducible rfl)
 simp only[nmz];refine wpDo rfl ?_;refine qR 255 _ (by rfl) fltZ (fun wd hBd hmd hsd=>?_)
 replace hBd:wd.heap[wc.heap.size]?=some (.cells #[.int .i64 0,.int .i64 0] 255 (0,0)):=hBd;try simp only[nmz]
 refine wpDo rfl ?_
 refine qH 255 _ _ wc.heap.size 0 #[.int .i64 er2,.int .i64 at2] (by rfl) (by rfl) (by rfl) (by simp[Value.oneCell']) 2 (by kernel_rfl) rfl _ _ hBd (by simp) (fun we hBe hme=>?_)
 rw[qF (by rfl)]at hBe;simp only[stz];have hac:=hmc.size;have hmae:Mod NoB wa we:=(hmc.trans0 hmd).transB hme hac;have HMe:=hid (HMa.out.trans0 hmae)
 have hB2e:=hmae.obj id hB2a;have hC2e:=hmae.obj id hC2a;have hB9e:=hmae.obj id hB9';have hBae:=hmae.obj id hBa
 replace HMC:Hid (∀(S:Nat->Prop)(w':World),Mod S we w'->(∀k,S k->b5<=k\/k<=b4)->ManC b2 w' cs m):=hid (fun S w' hmm hS=>HMC.out S w' ((hmae.mono (fun _ _ h=>h.elim)).trans hmm (fun _ _ h=>h)) hS)
 have hgst:er2=0↔s=some b.length:=by
  have hst:stOf a6 e6=s:=HST.out;rw[hg1,<-hst];unfold stOf
  by_cases h6:e6=0
  ·simp[h6]
  ·simp[h6]
 have h67c:b6<wc.heap.size:=by omega
 generalize hb7:wc.heap.size=b7 at*;clear hmc hmd hme hmae hBd hB2a hC2a hB9' hBa hB5a hfl hrda hg1 HMa HST
 cases is with
 |true=>
  have hne:=hg3 rfl;have hno:¬(ok=true/\s=some b.length):=fun hq=>hne (hgst.2 hq.2);go_upto_region 7 with(fail);refine wpR [1,1] (by rfl) (by rfl) ?_;simp only[stz]
  refine wpXA 255 b7 0 #[.int .i64 er2,.int .i64 at2] (CellsAt.whole hBe) underlying255 2 rfl trivial ?_;try simp only[nmz]
  refine wpDo rfl ?_
  refine qH 255 _ _ b6 0 #[.int .i64 er2,.int .i64 at2] (by rfl) (by rfl) (by rfl) (by simp[Value.oneCell']) 2 (by kernel_rfl) rfl _ _ hBae (by simp) (fun wf hBz hmz=>?_)
  rw[qF (by rfl)]at hBz;have HMf:=hid (HMe.out.transB hmz (by omega));have hB2f:=hmz.objB (by omega) hB2e;have hC2f:=hmz.objB (by omega) hC2e
  have hB9f:=hmz.objB (by omega) hB9e
  have HMCf:Hid (∀(S:Nat->Prop)(w':World),Mod S wf w'->(∀k,S k->b5<=k\/k<=b4)->ManC b2 w' cs m):=hid (fun S w' hmm hS=>HMC.out (fun k=>k=b6\/S k) w' ((hmz.mono (fun _ _ h=>.inl h)).trans hmm (fun _ _ h=>.inr h)) (fun k hk=>hk.elim (fun e=>.inl (by omega)) (hS k)))
  clear hmz hBae hB2e hC2e hB9e HMe HMC;simp only[stz];go_upto_region 10 with(fail);refine wpR [1,0,0] (by rfl) (by rfl) ?_;simp only[stz]
  refine wpXA 255 b6 0 #[.int .i64 er2,.int .i64 at2] (CellsAt.whole hBz) underlying255 2 rfl trivial ?_;try simp only[nmz]
  refine qM rfl (fun w' hS=>qO 255 [] [] _ (by rfl) (by rfl) zero_flt) ?_;simp only[nmz]
  refine qM rfl (fun w' hS=>exec_neq_flt _ _ _ er2 at2 (by rfl) (by rfl) (by rfl) true (by simp[hne])) ?_;simp only[stz];go_upto_region 11 with(fail)
  have hzs:(zA 0 [] descZ (.slice none 0 0) (.slice none 0 0)).size=39:=zM xF
  have hzo:∀c∈zA 0 [] descZ (.slice none 0 0) (.slice none 0 0),c.oneCell'=true:=jC rfl rfl;have hS:Mod (fun k=>k=b2) wf wf.drew:=(Mod.refl _ _).drew
  have hB2d:wf.drew.heap[b2]?=some (.cells (zA 0 [] descZ (.slice none 0 0) (.slice none 0 0)) 163 (0,0)):=hB2f
  refine wpRP [(0,0),(1,0),(2,1),(3,2)] [3] (fun w'=>Mod (fun k=>k=b2) wf w') hS ?_;simp only[stz]
  refine qM rfl (fun w' hS=>qO 163 [] [] _ (by rfl) (by rfl) zero_man) ?_;simp only[nmz]
  refine wpLA 255 b6 0 #[.int .i64 er2,.int .i64 at2] (fun w' hS=>CellsAt.whole (hS.objB (by omega) hBz)) underlying255 2 rfl ?_;simp only[nmz]
  refine qN rfl (fun K hK=>?_)
  refine qH 163 _ _ b2 0 (zA 0 [] descZ (.slice none 0 0) (.slice none 0 0)) (by rfl) (by rfl) (by rfl) hzo 39 (by kernel_rfl) hzs _ _ hB2d (by omega) (fun wg hBg hmg=>?_)
  rw[qF (by rfl)]at hBg;have hSg:Mod (fun k=>k=b2) wf wg:=hS.trans hmg (fun _ _ h=>h);refine hK _ _ hSg ?_;clear hK K;try simp only[nmz]
  refine zP rfl (fun K hK=>?_)
  refine qH 255 _ _ b3 0 #[.int .i64 er2,.int .i64 at2] (by rfl) (by rfl) (by rfl) (by simp[Value.oneCell']) 2 (by kernel_rfl) rfl _ _ (hSg.objB (by omega) hC2f) (by simp) (fun wh hCh hmh=>?_)
  rw[qF (by rfl)]at hCh;have hBh:=hmh.objB (by omega) hBg;refine hK _ _ ?_;clear hK K;simp only[stz]
  have HMh:=hid ((HMf.out.transB hSg (by omega)).transB hmh (by omega))
  have hsz2:(prog.info? 163).map (·.size)=some (zA 0 [] descZ (.slice none 0 0) (.slice none 0 0)).size:=by rw[hzs];kernel_rfl
  clear hS hSg hmg hmh hBg hB2d hBz hB2f hC2f hB9f HMf HMCf;go_wp2
  refine bodyPost_ret (xI (P:=prog) (ty:=163) (tz:=255) rfl _ _ b2 b3 _ _ _ _ _ _ _ _ (by rfl) hBh (by rfl) hCh underlying163 rfl hsz2 underlying255 rfl (by kernel_rfl)) rfl ?_
  have hdn:decL b=none:=by rw[HDL.out,if_neg hno]
  rw[show DecR w b=fun x w'=>Mod NoB w w'/\∃(cs:Array Value)(er at_:Int),x=.returned (.tuple #[.agg cs,.agg #[.int .i64 er,.int .i64 at_]])/\(er=0↔(decL b).isSome=true)/\ManC w.heap.size w' cs ((decL b).getD manZ)from rfl,hdn]
  exact⟨HMh.out,_,er2,at2,rfl,by simp[hne],xF,_,_,rfl,Gat.nil _ _ _ _ _,Gat.nil _ _ _ _ _⟩
 |false=>
  by_cases h1:er=0
  ·subst h1
   obtain rfl:=he2 rfl;have hok:ok=true:=he1.1 rfl;go_upto_region 8 with(fail);refine wpR [1,0,0] (by rfl) (by rfl) ?_;simp only[stz]
   refine wpXA 255 b6 0 #[.int .i64 0,.int .i64 0] (CellsAt.whole hBae) underlying255 2 rfl trivial ?_;try simp only[nmz]
   refine qM rfl (fun w' hS=>qO 255 [] [] _ (by rfl) (by rfl) zero_flt) ?_;simp only[nmz]
   refine qM rfl (fun w' hS=>exec_eql_flt _ _ _ 0 0 (by rfl) (by rfl) (by rfl) true (by simp)) ?_;simp only[stz];go_upto_region 9 with(fail)
   refine wpR [1,1] (by rfl) (by rfl) ?_;simp only[stz];refine wpXA 255 b7 0 #[.int .i64 er2,.int .i64 at2] (CellsAt.whole hBe) underlying255 2 rfl trivial ?_
   try simp only[nmz]
   refine wpDo rfl ?_
   refine qH 255 _ _ b6 0 #[.int .i64 er2,.int .i64 at2] (by rfl) (by rfl) (by rfl) (by simp[Value.oneCell']) 2 (by kernel_rfl) rfl _ _ hBae (by simp) (fun wf hBz hmz=>?_)
   rw[qF (by rfl)]at hBz;have HMf:=hid (HMe.out.transB hmz (by omega));have hB2f:=hmz.objB (by omega) hB2e;have hC2f:=hmz.objB (by omega) hC2e
   have hB9f:=hmz.objB (by omega) hB9e
   have HMCf:Hid (∀(S:Nat->Prop)(w':World),Mod S wf w'->(∀k,S k->b5<=k\/k<=b4)->ManC b2 w' cs m):=hid (fun S w' hmm hS=>HMC.out (fun k=>k=b6\/S k) w' ((hmz.mono (fun _ _ h=>.inl h)).trans hmm (fun _ _ h=>.inr h)) (fun k hk=>hk.elim (fun e=>.inl (by omega)) (hS k)))
   clear hmz hBae hB2e hC2e hB9e HMe HMC;simp only[stz]
   by_cases h2:er2=0
   ·subst h2
    obtain rfl:=hg2 rfl;have hyes:ok=true/\s=some b.length:=⟨hok,hgst.1 rfl⟩;go_upto_region 10 with(fail);refine wpR [1,0,0] (by rfl) (by rfl) ?_;simp only[stz]
    refine wpXA 255 b6 0 #[.int .i64 0,.int .i64 0] (CellsAt.whole hBz) underlying255 2 rfl trivial ?_;try simp only[nmz]
    refine qM rfl (fun w' hS=>qO 255 [] [] _ (by rfl) (by rfl) zero_flt) ?_;simp only[nmz]
    refine qM rfl (fun w' hS=>exec_neq_flt _ _ _ 0 0 (by rfl) (by rfl) (by rfl) false (by simp)) ?_;simp only[stz];go_upto_region 12 with(fail)
    have hzs:(zA 0 [] descZ (.slice none 0 0) (.slice none 0 0)).size=39:=zM xF;have hS:Mod (fun k=>k=b2) wf wf.drew:=(Mod.refl _ _).drew
    have hB2d:wf.drew.heap[b2]?=some (.cells (zA 0 [] descZ (.slice none 0 0) (.slice none 0 0)) 163 (0,0)):=hB2f
    refine wpRP [(0,0),(1,0),(2,1),(3,2)] [3] (fun w'=>Mod (fun k=>k=b2) wf w') hS ?_;simp only[stz]
    refine wpLA 163 b5 0 cs (fun w' hS=>CellsAt.whole (hS.objB (by omega) hB9f)) underlying163 39 hcs ?_;simp only[nmz]
    refine wpLA 255 b6 0 #[.int .i64 0,.int .i64 0] (fun w' hS=>CellsAt.whole (hS.objB (by omega) hBz)) underlying255 2 rfl ?_;simp only[nmz]
    refine qN rfl (fun K hK=>?_);refine qH 163 _ _ b2 0 cs (by rfl) (by rfl) (by rfl) hone 39 (by kernel_rfl) hcs _ _ hB2d (by omega) (fun wg hBg hmg=>?_)
    rw[qF (by rw[hcs,hzs])]at hBg;have hSg:Mod (fun k=>k=b2) wf wg:=hS.trans hmg (fun _ _ h=>h);refine hK _ _ hSg ?_;clear hK K;try simp only[nmz]
    refine zP rfl (fun K hK=>?_)
    refine qH 255 _ _ b3 0 #[.int .i64 0,.int .i64 0] (by rfl) (by rfl) (by rfl) (by simp[Value.oneCell']) 2 (by kernel_rfl) rfl _ _ (hSg.objB (by omega) hC2f) (by simp) (fun wh hCh hmh=>?_)
    rw[qF (by rfl)]at hCh;have hBh:=hmh.objB (by omega) hBg;refine hK _ _ ?_;clear hK K;simp only[stz]
    have HMh:=hid ((HMf.out.transB hSg (by omega)).transB hmh (by omega))
    have HMCh:=hid (HMCf.out (fun k=>k=b2\/k=b3) wh ((hSg.mono (fun _ _ h=>.inl h)).trans hmh (fun _ _ h=>.inr h)) (fun k hk=>.inr (by omega)))
    have hsz2:(prog.info? 163).map (·.size)=some cs.size:=by rw[hcs];kernel_rfl
    clear hS hSg hmg hmh hBg hB2d hBz hB2f hC2f hB9f HMf HMCf;go_wp2
    refine bodyPost_ret (xI (P:=prog) (ty:=163) (tz:=255) rfl _ _ b2 b3 _ _ _ _ _ _ _ _ (by rfl) hBh (by rfl) hCh underlying163 rfl hsz2 underlying255 rfl (by kernel_rfl)) rfl ?_
    have hdn:decL b=some m:=by rw[HDL.out,if_pos hyes]
    rw[show DecR w b=fun x w'=>Mod NoB w w'/\∃(cs:Array Value)(er at_:Int),x=.returned (.tuple #[.agg cs,.agg #[.int .i64 er,.int .i64 at_]])/\(er=0↔(decL b).isSome=true)/\ManC w.heap.size w' cs ((decL b).getD manZ)from rfl,hdn]
    exact⟨HMh.out,_,0,0,rfl,by simp,by rw[hb2];exact HMCh.out⟩
   ·have hne:=h2
    have hno:¬(ok=true/\s=some b.length):=fun hq=>hne (hgst.2 hq.2);go_upto_region 10 with(fail);refine wpR [1,0,0] (by rfl) (by rfl) ?_;simp only[stz]
    refine wpXA 255 b6 0 #[.int .i64 er2,.int .i64 at2] (CellsAt.whole hBz) underlying255 2 rfl trivial ?_;try simp only[nmz]
    refine qM rfl (fun w' hS=>qO 255 [] [] _ (by rfl) (by rfl) zero_flt) ?_;simp only[nmz]
    refine qM rfl (fun w' hS=>exec_neq_flt _ _ _ er2 at2 (by rfl) (by rfl) (by rfl) true (by simp[hne])) ?_;simp only[stz];go_upto_region 11 with(fail)
    have hzs:(zA 0 [] descZ (.slice none 0 0) (.slice none 0 0)).size=39:=zM xF
    have hzo:∀c∈zA 0 [] descZ (.slice none 0 0) (.slice none 0 0),c.oneCell'=true:=jC rfl rfl
    have hS:Mod (fun k=>k=b2) wf wf.drew:=(Mod.refl _ _).drew
    have hB2d:wf.drew.heap[b2]?=some (.cells (zA 0 [] descZ (.slice none 0 0) (.slice none 0 0)) 163 (0,0)):=hB2f
    refine wpRP [(0,0),(1,0),(2,1),(3,2)] [3] (fun w'=>Mod (fun k=>k=b2) wf w') hS ?_;simp only[stz]
    refine qM rfl (fun w' hS=>qO 163 [] [] _ (by rfl) (by rfl) zero_man) ?_;simp only[nmz]
    refine wpLA 255 b6 0 #[.int .i64 er2,.int .i64 at2] (fun w' hS=>CellsAt.whole (hS.objB (by omega) hBz)) underlying255 2 rfl ?_;simp only[nmz]
    refine qN rfl (fun K hK=>?_)
    refine qH 163 _ _ b2 0 (zA 0 [] descZ (.slice none 0 0) (.slice none 0 0)) (by rfl) (by rfl) (by rfl) hzo 39 (by kernel_rfl) hzs _ _ hB2d (by omega) (fun wg hBg hmg=>?_)
    rw[qF (by rfl)]at hBg;have hSg:Mod (fun k=>k=b2) wf wg:=hS.trans hmg (fun _ _ h=>h);refine hK _ _ hSg ?_;clear hK K;try simp only[nmz]
    refine zP rfl (fun K hK=>?_)
    refine qH 255 _ _ b3 0 #[.int .i64 er2,.int .i64 at2] (by rfl) (by rfl) (by rfl) (by simp[Value.oneCell']) 2 (by kernel_rfl) rfl _ _ (hSg.objB (by omega) hC2f) (by simp) (fun wh hCh hmh=>?_)
    rw[qF (by rfl)]at hCh;have hBh:=hmh.objB (by omega) hBg;refine hK _ _ ?_;clear hK K;simp only[stz]
    have HMh:=hid ((HMf.out.transB hSg (by omega)).transB hmh (by omega))
    have hsz2:(prog.info? 163).map (·.size)=some (zA 0 [] descZ (.slice none 0 0) (.slice none 0 0)).size:=by rw[hzs];kernel_rfl
    clear hS hSg hmg hmh hBg hB2d hBz hB2f hC2f hB9f HMf HMCf;go_wp2
    refine bodyPost_ret (xI (P:=prog) (ty:=163) (tz:=255) rfl _ _ b2 b3 _ _ _ _ _ _ _ _ (by rfl) hBh (by rfl) hCh underlying163 rfl hsz2 underlying255 rfl (by kernel_rfl)) rfl ?_
    have hdn:decL b=none:=by rw[HDL.out,if_neg hno]
    rw[show DecR w b=fun x w'=>Mod NoB w w'/\∃(cs:Array Value)(er at_:Int),x=.returned (.tuple #[.agg cs,.agg #[.int .i64 er,.int .i64 at_]])/\(er=0↔(decL b).isSome=true)/\ManC w.heap.size w' cs ((decL b).getD manZ)from rfl,hdn]
    exact⟨HMh.out,_,er2,at2,rfl,by simp[hne],xF,_,_,rfl,Gat.nil _ _ _ _ _,Gat.nil _ _ _ _ _⟩
  ·have hne:=h1
   have hno:¬(ok=true/\s=some b.length):=fun hq=>hne (he1.2 hq.1);go_upto_region 8 with(fail);refine wpR [1,0,0] (by rfl) (by rfl) ?_;simp only[stz]
   refine wpXA 255 b6 0 #[.int .i64 er,.int .i64 at_] (CellsAt.whole hBae) underlying255 2 rfl trivial ?_;try simp only[nmz]
   refine qM rfl (fun w' hS=>qO 255 [] [] _ (by rfl) (by rfl) zero_flt) ?_;simp only[nmz]
   refine qM rfl (fun w' hS=>exec_eql_flt _ _ _ er at_ (by rfl) (by rfl) (by rfl) false (by simp[hne])) ?_;simp only[stz];have hBz:=hBae;have HMf:=HMe
   have hB2f:=hB2e;have hC2f:=hC2e;have hB9f:=hB9e;have HMCf:=HMC;clear hBae hB2e hC2e hB9e;go_upto_region 10 with(fail);refine wpR [1,0,0] (by rfl) (by rfl) ?_
   simp only[stz];refine wpXA 255 b6 0 #[.int .i64 er,.int .i64 at_] (CellsAt.whole hBz) underlying255 2 rfl trivial ?_;try simp only[nmz]
   refine qM rfl (fun w' hS=>qO 255 [] [] _ (by rfl) (by rfl) zero_flt) ?_;simp only[nmz]
   refine qM rfl (fun w' hS=>exec_neq_flt _ _ _ er at_ (by rfl) (by rfl) (by rfl) true (by simp[hne])) ?_;simp only[stz];go_upto_region 11 with(fail)
   have hzs:(zA 0 [] descZ (.slice none 0 0) (.slice none 0 0)).size=39:=zM xF
   have hzo:∀c∈zA 0 [] descZ (.slice none 0 0) (.slice none 0 0),c.oneCell'=true:=jC rfl rfl;have hS:Mod (fun k=>k=b2) we we.drew:=(Mod.refl _ _).drew
   have hB2d:we.drew.heap[b2]?=some (.cells (zA 0 [] descZ (.slice none 0 0) (.slice none 0 0)) 163 (0,0)):=hB2f
   refine wpRP [(0,0),(1,0),(2,1),(3,2)] [3] (fun w'=>Mod (fun k=>k=b2) we w') hS ?_;simp only[stz]
   refine qM rfl (fun w' hS=>qO 163 [] [] _ (by rfl) (by rfl) zero_man) ?_;simp only[nmz]
   refine wpLA 255 b6 0 #[.int .i64 er,.int .i64 at_] (fun w' hS=>CellsAt.whole (hS.objB (by omega) hBz)) underlying255 2 rfl ?_;simp only[nmz]
   refine qN rfl (fun K hK=>?_)
   refine qH 163 _ _ b2 0 (zA 0 [] descZ (.slice none 0 0) (.slice none 0 0)) (by rfl) (by rfl) (by rfl) hzo 39 (by kernel_rfl) hzs _ _ hB2d (by omega) (fun wg hBg hmg=>?_)
   rw[qF (by rfl)]at hBg;have hSg:Mod (fun k=>k=b2) we wg:=hS.trans hmg (fun _ _ h=>h);refine hK _ _ hSg ?_;clear hK K;try simp only[nmz]
   refine zP rfl (fun K hK=>?_)
   refine qH 255 _ _ b3 0 #[.int .i64 er,.int .i64 at_] (by rfl) (by rfl) (by rfl) (by simp[Value.oneCell']) 2 (by kernel_rfl) rfl _ _ (hSg.objB (by omega) hC2f) (by simp) (fun wh hCh hmh=>?_)
   rw[qF (by rfl)]at hCh;have hBh:=hmh.objB (by omega) hBg;refine hK _ _ ?_;clear hK K;simp only[stz]
   have HMh:=hid ((HMf.out.transB hSg (by omega)).transB hmh (by omega))
   have hsz2:(prog.info? 163).map (·.size)=some (zA 0 [] descZ (.slice none 0 0) (.slice none 0 0)).size:=by rw[hzs];kernel_rfl
   clear hS hSg hmg hmh hBg hB2d hBz hB2f hC2f hB9f HMf HMCf;go_wp2
   refine bodyPost_ret (xI (P:=prog) (ty:=163) (tz:=255) rfl _ _ b2 b3 _ _ _ _ _ _ _ _ (by rfl) hBh (by rfl) hCh underlying163 rfl hsz2 underlying255 rfl (by kernel_rfl)) rfl ?_
   have hdn:decL b=none:=by rw[HDL.out,if_neg hno]
   rw[show DecR w b=fun x w'=>Mod NoB w w'/\∃(cs:Array Value)(er at_:Int),x=.returned (.tuple #[.agg cs,.agg #[.int .i64 er,.int .i64 at_]])/\(er=0↔(decL b).isSome=true)/\ManC w.heap.size w' cs ((decL b).getD manZ)from rfl,hdn]
   exact⟨HMh.out,_,er,at_,rfl,by simp[hne],xF,_,_,rfl,Gat.nil _ _ _ _ _,Gat.nil _ _ _ _ _⟩
end
theorem decL_len{b:List UInt8}{m:ManL}(h:decL b=some m):m.layers.length<=16/\m.subs.length<=16/\(m.kind=3\/m.kind=4):=by
 unfold decL at h
 split at h
 ·rename_i hc
  have hm:=Option.some.inj h;subst hm;obtain⟨-,h2,-⟩:=hc
  revert h2
  unfold manR
  dsimp only
  generalize (rNumL b (some 0))=f
  split
  ·simp
  ·generalize rNumL b f.2=k
   split
   ·simp
   ·rename_i hk4
    generalize rBytesL b 4096 k.2=t
    by_cases hk:k.1=3
    ·simp only[hk,if_true]
     split
     ·simp
     ·intro _
      refine⟨by rw[rDescsL_len];omega,by simp,.inl rfl⟩
    ·simp only[hk,if_false]
     split
     ·simp
     ·intro _
      refine⟨by simp,by rw[rDescsL_len];omega,.inr (by show k.1=4;omega)⟩
 ·cases h
def DescsR(w:World)(l:List DescL):Ending->World->Prop:=fun x w'=>Mod NoB w w'/\∃v,x=.returned v/\GatD w.heap.size w' v l
theorem man_kind(k:Nat)(t:List UInt8)(d:DescL)(lv sv:Value):(zA k t d lv sv)[0]?=some (.int .i64 k):=by simp[zA]
theorem man_37{k:Nat}{t:List UInt8}{d:DescL}{lv sv:Value}(h:d.id.length=32):(zA k t d lv sv)[37]?=some lv:=by
 have h1:=descL_len h;rw[<-Array.getElem?_toList];simp only[zA,List.getElem?_cons_succ];rw[List.getElem?_append_right (by omega),h1]
 rfl
theorem man_38{k:Nat}{t:List UInt8}{d:DescL}{lv sv:Value}(h:d.id.length=32):(zA k t d lv sv)[38]?=some sv:=by
 have h1:=descL_len h;rw[<-Array.getElem?_toList];simp only[zA,List.getElem?_cons_succ];rw[List.getElem?_append_right (by omega),h1]
 rfl
theorem man_config{k:Nat}{t:List UInt8}{d:DescL}{lv sv:Value}(h:d.id.length=32):∀j,j<(qW d).size->(zA k t d lv sv)[2+j]?=(qW d)[j]?:=by
 intro j hj;have h1:=descL_len h;have h2:(qW d).size=35:=zQ h;rw[<-Array.getElem?_toList,<-Array.getElem?_toList,show 2+j=j+1+1 by omega]
 simp only[zA,List.getElem?_cons_succ];rw[List.getElem?_append_left (by omega)]
section
variable{w:World}{base:Nat}{cs:Array Value}{m:ManL}
theorem mDescs_any(h:ManC base w cs m)(hl:m.layers.length<=16/\m.subs.length<=16):Calls prog 159 #[.agg cs] w (DescsR w (xX m)):=by
 obtain⟨hid,lv,sv,rfl,hlv,hsv⟩:=h;obtain⟨hl1,hl2⟩:=hl;have HL:=Lib.hid hlv;have HS:=Lib.hid hsv
 have hlk:∀q,lv.ownBlock=some q->q<w.heap.size:=fun q hq=>(hlv.lt hq).2;have hsk:∀q,sv.ownBlock=some q->q<w.heap.size:=fun q hq=>(hsv.lt hq).2
 have hl1c:lv.oneCell'=true:=yC hlv;have hs1c:sv.oneCell'=true:=yC hsv;obtain⟨adl,cpl,rfl⟩:=hlv.slice;obtain⟨ads,cps,rfl⟩:=hsv.slice
 have hmk:=man_kind m.kind m.title m.config (.slice adl m.layers.length cpl) (.slice ads m.subs.length cps)
 have hm37:=man_37 (k:=m.kind) (t:=m.title) (lv:=.slice adl m.layers.length cpl) (sv:=.slice ads m.subs.length cps) hid
 have hm38:=man_38 (k:=m.kind) (t:=m.title) (lv:=.slice adl m.layers.length cpl) (sv:=.slice ads m.subs.length cps) hid
 have hmcf:=man_config (k:=m.kind) (t:=m.title) (lv:=.slice adl m.layers.length cpl) (sv:=.slice ads m.subs.length cps) hid
 have hds:(qW m.config).size=35:=zQ hid
 obtain⟨cs,hcs⟩:∃cs,zA m.kind m.title m.config (.slice adl m.layers.length cpl) (.slice ads m.subs.length cps)=cs:=⟨_,rfl⟩;rw[hcs]at hmk hm37 hm38 hmcf |-
 have HDE:=Lib.hid (descE_eq hid);clear hcs hlv hsv;go_enter func159,ntmps159;go_upto_region 0 with(fail);refine wpR [1,3] (by rfl) (by rfl) ?_;simp only[stz]
 refine wpDo rfl ?_;refine zW 163 _ _ (by rfl) (by rfl) (fun w1 hB1 hm1 hs1=>?_);replace hB1:w1.heap[w.heap.size]?=some (.cells cs 163 (0,0)):=hB1;simp only[stz]
 have hck:w1.cell? ⟨w.heap.size,0,none⟩=some (.int .i64 m.kind):=by rw[cell_of_row _ _ _ _ _ _ hB1];exact hmk
 have hc37:w1.cell? ⟨w.heap.size,37,none⟩=some (.slice adl m.layers.length cpl):=by rw[cell_of_row _ _ _ _ _ _ hB1];exact hm37
 have hc38:w1.cell? ⟨w.heap.size,38,none⟩=some (.slice ads m.subs.length cps):=by rw[cell_of_row _ _ _ _ _ _ hB1];exact hm38
 have hcc:CellsAt w1 w.heap.size 2 (qW m.config):=CellsAt.of_obj hB1 hmcf;have HM1:=Lib.hid hm1;replace HL:=Lib.hid (HL.out.keep0 hm1)
 replace HS:=Lib.hid (HS.out.keep0 hm1);have hs1':w.heap.size<w1.heap.size:=hs1;generalize hb1:w.heap.size=b1 at*;clear hm1 hB1 hmk hm37 hm38 hmcf
 by_cases hk3:m.kind=3
 ·have hkz:(m.kind:Int)=3:=by omega
  have hdl:xX m=[m.config]++m.layers++m.subs:=by unfold xX;rw[if_pos hk3]
  have HDL:=Lib.hid hdl;clear hdl;go_upto_region 1 with(fail);refine wpR [3,1,3] (by rfl) (by rfl) ?_;simp only[stz]
  refine wpXd (v:=(.int .i64 m.kind)) 3 b1 0 hck underlying3 trivial ?_;try simp only[nmz]
  refine qE (v:=?_) rfl (fun w'=>?_) ?_;rotate_left;·(go_simp;try with_reducible rfl)
  simp only[stz];go_upto_region 2 with(fail);refine wpR [3,3,1,1,1,3] (by rfl) (by rfl) ?_;simp only[stz]
  refine wpXA 46 b1 2 (qW m.config) hcc underlying46 35 hds trivial ?_;try simp only[nmz]
  refine wpDo rfl ?_
  refine qY 161 46 _ (.agg (qW m.config)) (.agg (qW descZ)) 35 (by rfl) (by rfl) underlying161 (by kernel_rfl) (by omega) (by omega) hds (fun w3 hB3 hm3 hs3=>?_)
  have hsrc:=src_lit (enc:=descE) (e:=46) (x:=m.config) descE_len (by rw[HDE.out];exact hB3);have h3s:=hm3.size;try simp only[nmz]
  refine wpDo rfl ?_
  refine wp_gat descE _ _ 161 46 (.agg (qW descZ)) 35 64 (by rfl) underlying161 desc_i desc_zs (by omega) descE_one w3.heap.size _ [] (by rfl) (Gat.nil _ _ _ _ _) _ [m.config] (by rfl) hsrc (by unfold maxLen;simp) (by simp) (Nat.le_refl _) (fun v4 w4 hg4 hm4=>?_)
  have hm4':Mod NoB w3 w4:=hm4.mono (fun k hk e=>by cases e);rw[List.nil_append]at hg4;simp only[stz];have hm14:=hm3.trans0 hm4';have h34:=hm4'.size
  have HM4:=Lib.hid (HM1.out.trans0 hm14);replace HL:=Lib.hid (HL.out.keep0 hm14);replace HS:=Lib.hid (HS.out.keep0 hm14);replace hc37:=hm14.cell id hc37
  replace hc38:=hm14.cell id hc38;have HG2:=Lib.hid hg4
  have hv2:∀q,v4.ownBlock=some q->b1<q/\q<w4.heap.size:=fun q hq=>by
   have:=hg4.lt hq;omega
  have hv1c:v4.oneCell'=true:=yC hg4;have h14s:=hm14.size;clear hm3 hm4 hm4' hm14 hB3 hsrc hg4 hck hcc;go_upto_region 3 with(fail)
  have hS:Mod (fun q=>b1<q) w4 w4.drew:=(Mod.refl _ _).drew;have hg4d:=HG2.out.keep0 (Mod.refl NoB w4).drew
  refine wpRP [(0,3),(1,3),(2,0),(4,3),(5,0),(3,1),(6,1),(7,3)] [] (fun w'=>Mod (fun q=>b1<q) w4 w') hS ?_;simp only[stz]
  refine wpLd 161 b1 37 (fun w' hS=>hS.cell (fun e=>Nat.lt_irrefl _ e) hc37) underlying161 ?_;simp only[stz]
  refine wpLd 161 b1 38 (fun w' hS=>hS.cell (fun e=>Nat.lt_irrefl _ e) hc38) underlying161 ?_;simp only[nmz];refine qN rfl (fun K hK=>?_)
  refine wp_gat descE _ _ 161 46 (.agg (qW descZ)) 35 64 (by rfl) underlying161 desc_i desc_zs (by omega) descE_one w3.heap.size _ [m.config] (by rfl) hg4d _ m.layers (by rfl) (HL.out.keep hS (fun q hq e=>by have:=hlk q hq;have e':b1<q:=e;omega)).src (by unfold maxLen;simp;omega) (by simp;omega) (by have:=hS.size;omega) (fun v5 w5 hg5 hm5=>?_)
  have hS5:Mod (fun q=>v4.ownBlock=some q) w4 w5:=(show Mod (fun q=>v4.ownBlock=some q) w4 w4.drew from(Mod.refl _ _).drew).trans hm5 (fun _ _ h=>h)
  have hS5b:Mod (fun q=>b1<q) w4 w5:=hS5.mono (fun k _ e=>(hv2 k e).1);refine hK _ _ hS5b ?_;clear hK K;try simp only[nmz]
  refine qN rfl (fun K hK=>?_)
  refine wp_gat descE _ _ 161 46 (.agg (qW descZ)) 35 64 (by rfl) underlying161 desc_i desc_zs (by omega) descE_one w3.heap.size _ ([m.config]++m.layers) (by rfl) hg5 _ m.subs (by rfl) (HS.out.keep hS5 (fun q hq e=>by have:=hsk q hq;have:=hv2 q e;omega)).src (by unfold maxLen;simp;omega) (by simp;omega) (by have:=hS5.size;omega) (fun v6 w6 hg6 hm6=>?_)
  have hm46:Mod NoB w w6:=(HM4.out.trans hS5 (fun k hk e=>by have:=hv2 k e;omega)).trans hm6 (fun k hk e=>by have:=hg5.lt e;omega)
  have hS6b:Mod (fun q=>b1<q) w4 w6:=hS5b.trans hm6 (fun k _ e=>by have:=hg5.lt e;omega)
  have HR:Hid (DescsR w (xX m) (.returned v6) w6):=Lib.hid ⟨hm46,v6,rfl,by rw[HDL.out];exact hg6.base (by omega)⟩;refine hK _ _ hS6b ?_
  clear hm46 hg5 hg6 hm5 hm6 hS5 hS5b hS6b;clear hK K;simp only[stz];clear hS hg4d hc37 hc38;go_wp2;go_ret;exact HR.out
 ·have hkz:¬(m.kind:Int)=3:=by omega
  have hdl:xX m=m.layers++m.subs:=by unfold xX;rw[if_neg hk3];rfl
  have HDL:=Lib.hid hdl;clear hdl;go_upto_region 1 with(fail);refine wpR [3,1,3] (by rfl) (by rfl) ?_;simp only[stz]
  refine wpXd (v:=(.int .i64 m.kind)) 3 b1 0 hck underlying3 trivial ?_;try simp only[nmz]
  refine qE (v:=?_) rfl (fun w'=>?_) ?_;rotate_left;·(go_simp;try with_reducible rfl)
  simp only[stz];clear hck hcc;go_upto_region 3 with(fail);have hS:Mod (fun q=>b1<q) w1 w1.drew:=(Mod.refl _ _).drew
  refine wpRP [(0,3),(1,3),(2,0),(4,3),(5,0),(3,1),(6,1),(7,3)] [] (fun w'=>Mod (fun q=>b1<q) w1 w') hS ?_;simp only[stz]
  refine wpLd 161 b1 37 (fun w' hS=>hS.cell (fun e=>Nat.lt_irrefl _ e) hc37) underlying161 ?_;simp only[stz]
  refine wpLd 161 b1 38 (fun w' hS=>hS.cell (fun e=>Nat.lt_irrefl _ e) hc38) underlying161 ?_;simp only[nmz];refine qN rfl (fun K hK=>?_)
  refine wp_gat descE _ _ 161 46 (.agg (qW descZ)) 35 64 (by rfl) underlying161 desc_i desc_zs (by omega) descE_one w1.heap.size _ [] (by rfl) (Gat.nil _ _ _ _ _) _ m.layers (by rfl) (HL.out.keep hS (fun q hq e=>by have:=hlk q hq;have e':b1<q:=e;omega)).src (by unfold maxLen;simp;omega) (by simp;omega) hS.size (fun v5 w5 hg5 hm5=>?_)
  rw[List.nil_append]at hg5;have hS5:Mod NoB w1 w5:=(show Mod NoB w1 w1.drew from(Mod.refl _ _).drew).trans hm5 (fun k hk e=>by cases e)
  have hS5b:Mod (fun q=>b1<q) w1 w5:=hS5.mono (fun k _ e=>e.elim);refine hK _ _ hS5b ?_;clear hK K;try simp only[nmz]
  refine qN rfl (fun K hK=>?_)
  refine wp_gat descE _ _ 161 46 (.agg (qW descZ)) 35 64 (by rfl) underlying161 desc_i desc_zs (by omega) descE_one w1.heap.size _ m.layers (by rfl) hg5 _ m.subs (by rfl) (HS.out.keep0 hS5).src (by unfold maxLen;omega) (by omega) hS5.size (fun v6 w6 hg6 hm6=>?_)
  have hm46:Mod NoB w w6:=(HM1.out.trans0 hS5).trans hm6 (fun k hk e=>by have:=hg5.lt e;omega)
  have hS6b:Mod (fun q=>b1<q) w1 w6:=hS5b.trans hm6 (fun k _ e=>by have:=hg5.lt e;omega)
  have HR:Hid (DescsR w (xX m) (.returned v6) w6):=Lib.hid ⟨hm46,v6,rfl,by rw[HDL.out];exact hg6.base (by omega)⟩;refine hK _ _ hS6b ?_
  clear hm46 hg5 hg6 hm5 hm6 hS5 hS5b hS6b;clear hK K;simp only[stz];clear hS hc37 hc38;go_wp2;go_ret;exact HR.out
end
theorem cmarkZ:(prog.info? 152).bind (·.zero)=some (.agg #[.int .i64 0]):=by kernel_rfl
theorem built_cmark(n:Int):prog.built 152 [(0,.int .i64 n)]=some #[.int .i64 n]:=by
 have p:xT prog 152=some [(0,1)]:=by kernel_rfl
 rw[zS cmarkZ p,zK (off:=0) (size:=1) rfl (by rfl) (by simp),xU]
 rfl
theorem built_cmark0:prog.built 152 []=some #[.int .i64 0]:=by kernel_rfl
def marksV(all:Marks):List (List UInt8×Value):=all.map fun p=>(p.1,linkV ((p.2:Nat):Int))
abbrev MarksAt(w:World)(mb:Nat)(all:Marks):Prop:=MapIs idV IdOk w mb (marksV all)
theorem marks_get(id:List UInt8)(all:Marks):getL id (marksV all)=(getL id all).map fun k=>linkV ((k:Nat):Int):=getL_map (fun k:Nat=>linkV (k:Int)) id all
theorem marks_put(id:List UInt8)(k:Nat)(all:Marks):putL id (linkV ((k:Nat):Int)) (marksV all)=marksV (putL id k all):=putL_map (fun k:Nat=>linkV (k:Int)) id k all
def RisingR(w:World)(l:List (List UInt8)):Ending->World->Prop:=fun e w'=>Mod NoB w w'/\∃v ids,e=.returned v/\GatI w.heap.size w' v ids/\ids.Pairwise (fun a b=>a<b)/\ids.Perm l/\∀x∈ids,x.length=32
theorem rising_of{w w1 w':World}{v:Value}{ks:List IdS}{l:List (List UInt8)}(hS:(ks.map (·.1)).Perm l)(hnd:l.Nodup)(hm1:Mod NoB w w1)(hm:Mod NoB w1 w')(hrow:w'.ownsRow w1.heap.size 24 32 v ks.length ((yO ks).flatMap idLS)):RisingR w l (.returned v) w':=by
 have hl:(yO ks).length=ks.length:=(sortIS_perm ks).length_eq
 have hkn:ks.Nodup:=by
  have:(ks.map (·.1)).Nodup:=hS.nodup_iff.2 hnd;exact(List.pairwise_map.1 this).imp fun hne e=>hne (by rw[e])
 refine⟨hm1.trans0 hm,v,(yO ks).map (·.1),rfl,?_,?_,?_,?_⟩
 ·have h1:GatI w1.heap.size w' v ((yO ks).map (·.1)):=by
   unfold GatI Gat;rw[List.length_map,hl,<-idLS_flat];exact hrow
  exact h1.base hm1.size
 ·exact List.pairwise_map.2 (sortIS_sorted hkn)
 ·exact((sortIS_perm ks).map _).trans hS
 ·intro x hx
  obtain⟨k,_,rfl⟩:=List.mem_map.1 hx;exact k.2
theorem clRising_any{w:World}{mb:Nat}{l:List (List UInt8×Value)}(hM:MapIs idV IdOk w mb l)(hlen:l.length<=65536):Calls prog 84 #[.map (some mb)] w (RisingR w (l.map (·.1))):=by
 have hm1:=qZ w (.cells #[.map (some mb)] 144);have hB:=heap_alloc_new w (.cells #[.map (some mb)] 144);have hk:=keysC_any w mb;have hnd:=hM.nd
 obtain⟨w1,hw1⟩:∃w1,w.alloc (.cells #[.map (some mb)] 144)=w1:=⟨_,rfl⟩;rw[hw1]at hm1 hB;simp only[hw1]at hk
 have hst:=keysC_stops 2 (by omega) w1 w.heap.size mb l hB (hM.keep0 hm1)
 have hso:=sortedI_of (n:=3) (by omega) 216 #[.pointer (some ⟨w.heap.size,0,none⟩)] (enters_of func216 (by kernel_rfl) rfl) _ _ l.length hlen w1 hst (fun ks h=>by have:=h.length_eq;simp at this;omega)
 clear hst hw1 hB;go_enter func84,ntmps84;go_upto_region 1 with(fail);refine wpR [3,1,1,3] (by rfl) (by rfl) ?_;simp only[stz];refine wpDo rfl ?_
 refine qB (qC 161 [.tmp 3] _ rfl _ func161 rfl (by kernel_rfl) [.map (some mb)] rfl _) (hk) ?_;rintro e wa ⟨rfl,hw⟩;obtain rfl:=hw.symm;refine⟨_,rfl,?_⟩
 try simp only[nmz]
 refine wpDo rfl ?_
 refine qB (qC 160 [.tmp 4,.func 35] _ rfl _ func160 rfl (by kernel_rfl) [.func (.func 216) #[] #[.pointer (some ⟨w.heap.size,0,none⟩)],.func (.func 35) #[] #[]] rfl _) hso ?_
 rintro e w3 ⟨v,ks,rfl,hS,hm3,hrow⟩;have HR:=hid (rising_of hS hnd hm1 hm3 hrow);clear hS hm3 hrow;refine⟨_,rfl,?_⟩;simp only[stz];go_wp2;go_ret;exact HR.out
theorem swRising_any{w:World}{mb:Nat}{l:List (List UInt8×Value)}(hM:MapIs idV IdOk w mb l)(hlen:l.length<=65536):Calls prog 118 #[.map (some mb)] w (RisingR w (l.map (·.1))):=by
 have hm1:=qZ w (.cells #[.map (some mb)] 200);have hB:=heap_alloc_new w (.cells #[.map (some mb)] 200);have hk:=keysW_any w mb;have hnd:=hM.nd
 obtain⟨w1,hw1⟩:∃w1,w.alloc (.cells #[.map (some mb)] 200)=w1:=⟨_,rfl⟩;rw[hw1]at hm1 hB;simp only[hw1]at hk
 have hst:=keysW_stops 2 (by omega) w1 w.heap.size mb l hB (hM.keep0 hm1)
 have hso:=sortedI_of (n:=3) (by omega) 230 #[.pointer (some ⟨w.heap.size,0,none⟩)] (enters_of func230 (by kernel_rfl) rfl) _ _ l.length hlen w1 hst (fun ks h=>by have:=h.length_eq;simp at this;omega)
 clear hst hw1 hB;go_enter func118,ntmps118;go_upto_region 1 with(fail);refine wpR [3,1,1,3] (by rfl) (by rfl) ?_;simp only[stz];refine wpDo rfl ?_
 refine qB (qC 193 [.tmp 3] _ rfl _ func193 rfl (by kernel_rfl) [.map (some mb)] rfl _) (hk) ?_;rintro e wa ⟨rfl,hw⟩;obtain rfl:=hw.symm;refine⟨_,rfl,?_⟩
 try simp only[nmz]
 refine wpDo rfl ?_
 refine qB (qC 160 [.tmp 4,.func 35] _ rfl _ func160 rfl (by kernel_rfl) [.func (.func 230) #[] #[.pointer (some ⟨w.heap.size,0,none⟩)],.func (.func 35) #[] #[]] rfl _) hso ?_
 rintro e w3 ⟨v,ks,rfl,hS,hm3,hrow⟩;have HR:=hid (rising_of hS hnd hm1 hm3 hrow);clear hS hm3 hrow;refine⟨_,rfl,?_⟩;simp only[stz];go_wp2;go_ret;exact HR.out
section
variable{w:World}{bs ms wd:Nat}{room:Int}{bl:List Blb}
theorem clNone_any(h:StInv w bs ms wd room bl):Calls prog 86 #[.pointer (some ⟨bs,0,none⟩)] w (RetE (.bool false) w):=by
 have hw:=bWidth_any h;have hz:¬(wd:Int)=0:=by have:=h.wok;omega
 clear h;go_enter func86,ntmps86;go_wp2_with (go_at_call 124;refine hw.mono ?_;rintro _ w1 ⟨rfl,hw1⟩;obtain rfl:=hw1.symm);go_ret;have hz2:¬wd=0:=by omega
 exact⟨by simp[hz2],rfl⟩
end
instance:Inhabited DescL:=⟨descZ⟩
def ReachR(w:World)(mb:Nat)(all:Marks):Ending->World->Prop:=fun e w'=>e=.returned (.tuple #[])/\MarksAt w' mb all/\Mod (fun k=>k=mb) w w'
def foldM(c:BlobM)(f depth:Nat)(ds:List DescL)(all:Marks):Marks:=ds.foldl (fun all d=>if yP d then yL c f d.id (depth+1) all else leafM all d.id) all
theorem foldM_succ(c:BlobM)(f depth:Nat)(ds:List DescL)(all:Marks)(k:Nat)(hk:k<ds.length):foldM c f depth (ds.take (k+1)) all=if yP ds[k]then yL c f ds[k].id (depth+1) (foldM c f depth (ds.take k) all)else leafM (foldM c f depth (ds.take k) all) ds[k].id:=by
 unfold foldM;rw[List.take_succ_eq_append_getElem hk,List.foldl_append]
 rfl
def ReachRel(w0:World)(mb:Nat)(c:BlobM)(f depth:Nat)(ds:List DescL)(all:Marks)(i:Value)(w:World):Prop:=∃k:Nat,k<=ds.length/\i=.int .i64 k/\MarksAt w mb (foldM c f depth (ds.take k) all)/\Mod (fun q=>q=mb) w0 w
theorem descRow_at1{m:Nat}{x:List UInt8}{n:Nat}{p:List UInt8}:∀j,j<(qA x).size->(xV m x n p)[1+j]?=(qA x)[j]?:=by
 intro j hj;rw[qD]at hj;rw[<-Array.getElem?_toList,<-Array.getElem?_toList,Nat.add_comm];simp only[xV,List.getElem?_cons_succ,qA]
 rw[List.getElem?_append_left (by simpa using hj)]
theorem wasM_eq(all:Marks)(id:List UInt8)(depth:Nat):wasM all id depth=((getL id all).isSome&&(decide (0<(getL id all).getD 0)&&decide ((getL id all).getD 0<=depth))):=by
 unfold wasM
 cases getL id all<;>simp
theorem mark_look(id:List UInt8)(all:Marks):(if true=true then Value.tuple #[(getL id (marksV all)).getD (linkV 0),.bool (getL id (marksV all)).isSome]else(getL id (marksV all)).getD (linkV 0))=.tuple #[linkV ((((getL id all).getD 0:Nat)):Int),.bool (getL id all).isSome]:=by
 rw[if_pos rfl,marks_get]
 cases getL id all<;>rfl
theorem linkV_one(n:Int):∀c∈(#[.int .i64 n]:Array Value),c.oneCell'=true:=by simp[Value.oneCell']
section
variable{bs ms wd:Nat}{room:Int}{bl:List Blb}{mb:Nat}
theorem StInv.keepM{w w':World}(h:StInv w bs ms wd room bl)(hmb:¬SFoot bs ms bl mb)(hm:Mod (fun k=>k=mb) w w'):StInv w' bs ms wd room bl:=h.keep hm (fun k hk e=>hmb (by have e':k=mb:=e;rw[<-e'];exact hk))
theorem clReach_any(hmb:¬SFoot bs ms bl mb):∀(f:Nat)(id:List UInt8)(depth:Nat)(all:Marks)(w:World),id.length=32->0<depth->depth+f=6->0<f->StInv w bs ms wd room bl->MarksAt w mb all->
 Calls prog 87 #[.pointer (some ⟨bs,0,none⟩),.agg (qA id),.int .i64 depth,.map (some mb)] w (ReachR w mb (yL (cont bl) f id depth all))
 |0,_,_,_,_,_,_,_,h,_,_=>by omega
 |f+1,di,depth,all,w,hid,hd0,hdf,_,hst,hM=>by
  have ih:=clReach_any hmb f;have IH:=Lib.hid ih;have hic:(qA di).size=32:=by rw[qD,hid]
  have H:=Lib.hid hst;have HM:=Lib.hid hM;have hmbl:mb<w.heap.size:=hM.lt;have HW:=Lib.hid (wasM_eq all di depth);have HLK:=Lib.hid (mark_look di all)
  obtain⟨kk,hkk⟩:∃q,(getL di all).getD 0=q:=⟨_,rfl⟩;obtain⟨is,his⟩:∃q,(getL di all).isSome=q:=⟨_,rfl⟩;rw[hkk,his]at HW HLK
  have hwas:∃q,wasM all di depth=q:=⟨_,rfl⟩;obtain⟨was,hwas⟩:=hwas;rw[hwas]at HW;have HWAS:=Lib.hid hwas;have hdz:depth<=5:=by omega
  clear hst hM hkk his hwas ih;go_enter func87,ntmps87;go_upto_region 0 with(fail);refine wpR [1] (by rfl) (by rfl) ?_;simp only[stz];refine wpDo rfl ?_
  refine zW 24 _ _ (by rfl) (by rfl) (fun w1 hB1 hm1 hs1=>?_);replace hB1:w1.heap[w.heap.size]?=some (.cells (qA di) 24 (0,0)):=hB1;simp only[stz]
  have HM1:=Lib.hid (HM.out.keep0 hm1);have hm1s:w.heap.size<w1.heap.size:=hs1;generalize hb5:w.heap.size=b5 at*;go_upto_region 1 with(fail)
  refine wpR [3,1,1,3,3,3,1,1,3] (by rfl) (by rfl) ?_;simp only[stz];refine wpXA 24 b5 0 (qA di) (CellsAt.whole hB1) underlying24 32 hic trivial ?_;try simp only[nmz]
  refine wpX rfl (yQ keyT_id HM1.out di hid 144 152 underlying144 (linkV 0) cmarkZ _ _ true (by rfl) (by rfl) (by rfl) _ HLK.out) trivial ?_;simp only[stz]
  refine qE (v:=?_) rfl (fun w'=>?_) ?_;rotate_left;·(go_simp;try with_reducible rfl)
  simp only[nmz];refine qE (v:=?_) rfl (fun w'=>?_) ?_;rotate_left;·(go_simp;try with_reducible rfl)
  simp only[nmz];refine wpDo rfl ?_;refine qR 152 _ (by rfl) cmarkZ (fun w2 hB2 hm2 hs2=>?_)
  replace hB2:w2.heap[w1.heap.size]?=some (.cells #[.int .i64 0] 152 (0,0)):=hB2;try simp only[nmz]
  refine wpDo rfl ?_;refine qH 152 _ _ w1.heap.size 0 #[.int .i64 kk] (by rfl) (by rfl) (by rfl) (linkV_one _) 1 (by kernel_rfl) rfl _ _ hB2 (by simp) (fun w3 hB3 hm3=>?_)
  rw[qF (by rfl)]at hB3;simp only[stz];have hm13:Mod NoB w1 w3:=hm2.transB hm3 (Nat.le_refl _);have HB1:=Lib.hid (hm13.obj id hB1)
  have hck:w3.cell? ⟨w1.heap.size,0,none⟩=some (.int .i64 kk):=by simp[World.cell?,hB3]
  have HM03:=Lib.hid (hm1.trans0 hm13);replace HM1:=Lib.hid (HM1.out.keep0 hm13);generalize hb8:w1.heap.size=b8 at*;clear hm1 hm13 hm2 hm3 hB1 hB2 hB3 hs1 hs2
  go_upto_region 2 with(fail)
  go_cut [35] (fun s wx=>s=.bool was/\wx=w3)
  case first=>
   have hw:=HW.out
   cases is with
   |false=>
    obtain rfl:was=false:=by simpa using hw
    clear hw;refine wpR [3,3,3,0,3,3,3,3,0,3,3,3] (by rfl) (by rfl) ?_;simp only[stz];go_wp2
    go_meet
    case rel=>exact⟨rfl,rfl⟩
   |true=>
    by_cases hk0:0<kk
    ·have hz:(kk:Int)>0:=by omega
     by_cases hkd:kk<=depth
     ·have hz2:(kk:Int)<=(depth:Int):=by omega
      obtain rfl:was=true:=by simpa[hk0,hkd]using hw
      clear hw;refine wpR [3,3,3,1,3,3,3,3,1,3,3,3] (by rfl) (by rfl) ?_;simp only[stz];refine wpXd (v:=(.int .i64 kk)) 3 b8 0 hck underlying3 trivial ?_
      try simp only[nmz]
      refine qS _ _ _ _ _ _ _ _ rfl rfl rfl rfl rfl true (decide_eq_true hz) ?_;simp only[stz];refine wpXd (v:=(.int .i64 kk)) 3 b8 0 hck underlying3 trivial ?_
      simp only[stz];refine qS _ _ _ _ _ _ _ _ rfl rfl rfl rfl rfl true (decide_eq_true hz2) ?_;simp only[stz];go_wp2
      go_meet
      case rel=>exact⟨rfl,rfl⟩
     ·have hz2:¬(kk:Int)<=(depth:Int):=by omega
      obtain rfl:was=false:=by simpa[hk0,hkd]using hw
      clear hw;refine wpR [3,3,3,1,3,3,3,3,1,3,3,3] (by rfl) (by rfl) ?_;simp only[stz];refine wpXd (v:=(.int .i64 kk)) 3 b8 0 hck underlying3 trivial ?_
      try simp only[nmz]
      refine qS _ _ _ _ _ _ _ _ rfl rfl rfl rfl rfl true (decide_eq_true hz) ?_;simp only[stz];refine wpXd (v:=(.int .i64 kk)) 3 b8 0 hck underlying3 trivial ?_
      simp only[stz];refine qS _ _ _ _ _ _ _ _ rfl rfl rfl rfl rfl false (decide_eq_false hz2) ?_;simp only[stz];go_wp2
      go_meet
      case rel=>exact⟨rfl,rfl⟩
    ·have hz:¬(kk:Int)>0:=by omega
     obtain rfl:was=false:=by simpa[hk0]using hw
     clear hw;refine wpR [3,3,3,1,3,3,3,3,0,3,3,3] (by rfl) (by rfl) ?_;simp only[stz];refine wpXd (v:=(.int .i64 kk)) 3 b8 0 hck underlying3 trivial ?_
     try simp only[nmz]
     refine qS _ _ _ _ _ _ _ _ rfl rfl rfl rfl rfl false (decide_eq_false hz) ?_;simp only[stz];go_wp2
     go_meet
     case rel=>exact⟨rfl,rfl⟩
  case rest=>
   obtain⟨rfl,hw⟩:=hcut;obtain rfl:=hw.symm;clear HW hck HLK
   cases was with
   |true=>
    have HF:Hid (ReachR w mb (yL (cont bl) (f+1) di depth all) (.returned (.tuple #[])) w3):=Lib.hid ⟨rfl,by unfold yL;rw[if_pos HWAS.out];exact HM1.out,HM03.out.mono (fun _ _ h=>h.elim)⟩
    go_wp2
    go_end0
    exact HF.out
   |false=>
    have HRE:Hid (yL (cont bl) (f+1) di depth all=if 4<depth then putL di depth all else match yW (cont bl) di with|none=>putL di depth all|some ds=>foldM (cont bl) f depth ds (putL di depth all)):=Lib.hid (by
     unfold yL;rw[if_neg (by rw[HWAS.out];simp)]
     rfl)
    have hb1c:=HB1.out;go_upto_region 3 with(fail);refine wpR [3,1,3,0,1] (by rfl) (by rfl) ?_;simp only[stz]
    refine wpXA 24 b5 0 (qA di) (CellsAt.whole hb1c) underlying24 32 hic trivial ?_;simp only[stz]
    refine qM rfl (fun w' hS=>qO 152 [(0,_)] [(0,.int .i64 depth)] _ (by rfl) (by rfl) (built_cmark depth)) ?_;simp only[nmz];refine wpDo rfl ?_
    refine wp_putL keyT_id HM1.out di hid 144 152 underlying144 _ _ _ (linkV depth) (by rfl) (by rfl) (by rfl) (by rfl) (fun w4 hM4 hm4=>?_);rw[marks_put]at hM4
    have HM4:=Lib.hid hM4;simp only[stz];have hm04:Mod (fun k=>k=mb) w w4:=(HM03.out.mono (fun _ _ h=>h.elim)).trans hm4 (fun _ _ h=>h)
    have H4:=Lib.hid (H.out.keepM hmb hm04);have hb14:=hm4.objB (b:=b5) (by omega) hb1c;have HM04:=Lib.hid hm04;obtain⟨all1,hall1⟩:∃q,putL di depth all=q:=⟨_,rfl⟩
    rw[hall1]at HM4 HRE;have hget:=bGet_any H4.out di hid;clear hM4 hm4 hm04 hb1c hall1;obtain⟨r,hr⟩:∃q,getL di (cont bl)=q:=⟨_,rfl⟩;rw[hr]at hget
    have HGR:=Lib.hid hr;clear hr
    cases r with
    |none=>
     have HF0:Hid (yL (cont bl) (f+1) di depth all=all1):=Lib.hid (by
      rw[HRE.out];have:yW (cont bl) di=none:=by unfold yW;rw[HGR.out]
      rw[this]
      split<;>rfl)
     go_upto_region 4 with(fail);refine wpR [3,1,1,3,3,3,3,3] (by rfl) (by rfl) ?_;simp only[stz]
     refine wpXA 24 b5 0 (qA di) (CellsAt.whole hb14) underlying24 32 hic trivial ?_;try simp only[nmz]
     refine wpDo rfl ?_;refine qB (qC 33 [.tmp 41,.tmp 42] _ rfl _ func33 rfl (by kernel_rfl) [.pointer (some ⟨bs,0,none⟩),.agg (qA di)] rfl _) (hget) ?_
     rintro e w5 ⟨hm5,rfl⟩;refine⟨_,rfl,?_⟩;simp only[stz];refine qE (v:=?_) rfl (fun w'=>?_) ?_;rotate_left;·(go_simp;try with_reducible rfl)
     simp only[nmz];refine qE (v:=?_) rfl (fun w'=>?_) ?_;rotate_left;·(go_simp;try with_reducible rfl)
     simp only[stz];go_upto_region 5 with(fail);refine wpR [3,1,3,3,3,1,1,1,1] (by rfl) (by rfl) ?_;simp only[stz];refine wpDo rfl ?_
     refine qB (qC 158 [.tmp 47] _ rfl _ func158 rfl (by kernel_rfl) [.slice none 0 0] rfl _) (mDecode_any (b:=[]) (Sl.nil true w5 (fun _=>True) 1 ByteC) (by simp)) ?_
     rintro e w6 ⟨hm6,cs,er,at_,rfl,her,hmc⟩;have hcs:=hmc.size;have hone:=hmc.one;refine⟨_,rfl,?_⟩;simp only[stz]
     refine qE (v:=?_) rfl (fun w'=>?_) ?_;rotate_left;·(go_simp;try with_reducible rfl)
     simp only[nmz];refine qE (v:=?_) rfl (fun w'=>?_) ?_;rotate_left;·(go_simp;try with_reducible rfl)
     simp only[nmz];refine wpDo rfl ?_;refine qR 163 _ (by rfl) manZ_i (fun w7 hB7 hm7 hs7=>?_)
     replace hB7:w7.heap[w6.heap.size]?=some (.cells (zA 0 [] descZ (.slice none 0 0) (.slice none 0 0)) 163 (0,0)):=hB7;try simp only[nmz]
     refine wpDo rfl ?_;refine qR 255 _ (by rfl) fltZ (fun w8 hB8 hm8 hs8=>?_)
     replace hB8:w8.heap[w7.heap.size]?=some (.cells #[.int .i64 0,.int .i64 0] 255 (0,0)):=hB8;try simp only[nmz]
     refine wpDo rfl ?_
     refine qH 163 _ _ w6.heap.size 0 cs (by rfl) (by rfl) (by rfl) hone 39 (by kernel_rfl) hcs _ _ (hm8.obj id hB7) (by rw[hcs];exact Nat.le_of_eq (zM xF).symm) (fun w9 hB9 hm9=>?_)
     have hB8':=hm9.objB (by omega) hB8;try simp only[nmz]
     refine wpDo rfl ?_
     refine qH 255 _ _ w7.heap.size 0 #[.int .i64 er,.int .i64 at_] (by rfl) (by rfl) (by rfl) (by simp[Value.oneCell']) 2 (by kernel_rfl) rfl _ _ hB8' (by simp) (fun wa hBa hma=>?_)
     simp only[stz]
     have hm4a:Mod NoB w4 wa:=((((hm5.trans0 hm6).trans0 hm7).trans0 hm8).transB hm9 (by have:=hm5.size;have:=hm6.size;omega)).transB hma (by have:=hm5.size;have:=hm6.size;have:=hm7.size;omega)
     have HF:Hid (ReachR w mb (yL (cont bl) (f+1) di depth all) (.returned (.tuple #[])) wa):=Lib.hid ⟨rfl,by rw[HF0.out];exact HM4.out.keep0 hm4a,HM04.out.trans hm4a (fun _ _ h=>h.elim)⟩
     clear hm5 hm6 hm7 hm8 hm9 hma hm4a hB7 hB8 hB8' hB9 hBa hmc hb14;go_upto_region 6 with(fail);refine wpR [3,3,3,3,0,3,3,3,3,3,3] (by rfl) (by rfl) ?_;simp only[stz]
     try refine xK _ _ false (by rfl) (by rfl) (by rfl) ?_
     try simp only[stz]
     go_wp2
     go_end0
     exact HF.out
    |some m=>
     have hml:m.length<=4096:=by
      have h1:=HGR.out;rw[getB]at h1
      cases hf:findB di bl with
      |none=>rw[hf]at h1;cases h1
      |some b=>
       rw[hf]at h1;simp only[Option.map_some,Option.some.injEq]at h1;rw[<-h1];exact H.out.sz b (findB_some hf).1
     have HDO:Hid (yW (cont bl) di=(decL m).map xX):=Lib.hid (by unfold yW;rw[HGR.out]);go_upto_region 4 with(fail)
     refine wpR [3,1,1,3,3,3,3,3] (by rfl) (by rfl) ?_;simp only[stz];refine wpXA 24 b5 0 (qA di) (CellsAt.whole hb14) underlying24 32 hic trivial ?_
     try simp only[nmz]
     refine wpDo rfl ?_;refine qB (qC 33 [.tmp 41,.tmp 42] _ rfl _ func33 rfl (by kernel_rfl) [.pointer (some ⟨bs,0,none⟩),.agg (qA di)] rfl _) (hget) ?_
     rintro e w5 ⟨hm5,bv,rfl,hbv⟩;refine⟨_,rfl,?_⟩;simp only[stz];refine qE (v:=?_) rfl (fun w'=>?_) ?_;rotate_left;·(go_simp;try with_reducible rfl)
     simp only[nmz];refine qE (v:=?_) rfl (fun w'=>?_) ?_;rotate_left;·(go_simp;try with_reducible rfl)
     simp only[stz];go_upto_region 5 with(fail);refine wpR [3,1,3,3,3,1,1,1,1] (by rfl) (by rfl) ?_;simp only[stz];refine wpDo rfl ?_
     refine qB (qC 158 [.tmp 47] _ rfl _ func158 rfl (by kernel_rfl) [bv] rfl _) (mDecode_any (Bts.sl hbv) hml) ?_;rintro e w6 ⟨hm6,cs,er,at_,rfl,her,hmc⟩
     have hcs:=hmc.size;have hone:=hmc.one;refine⟨_,rfl,?_⟩;simp only[stz];refine qE (v:=?_) rfl (fun w'=>?_) ?_;rotate_left;·(go_simp;try with_reducible rfl)
     simp only[nmz];refine qE (v:=?_) rfl (fun w'=>?_) ?_;rotate_left;·(go_simp;try with_reducible rfl)
     simp only[nmz];refine wpDo rfl ?_;refine qR 163 _ (by rfl) manZ_i (fun w7 hB7 hm7 hs7=>?_)
     replace hB7:w7.heap[w6.heap.size]?=some (.cells (zA 0 [] descZ (.slice none 0 0) (.slice none 0 0)) 163 (0,0)):=hB7;try simp only[nmz]
     refine wpDo rfl ?_;refine qR 255 _ (by rfl) fltZ (fun w8 hB8 hm8 hs8=>?_)
     replace hB8:w8.heap[w7.heap.size]?=some (.cells #[.int .i64 0,.int .i64 0] 255 (0,0)):=hB8;try simp only[nmz]
     refine wpDo rfl ?_
     refine qH 163 _ _ w6.heap.size 0 cs (by rfl) (by rfl) (by rfl) hone 39 (by kernel_rfl) hcs _ _ (hm8.obj id hB7) (by rw[hcs];exact Nat.le_of_eq (zM xF).symm) (fun w9 hB9 hm9=>?_)
     rw[qF (by rw[hcs];exact(zM xF).symm)]at hB9;have hB8':=hm9.objB (by omega) hB8;try simp only[nmz]
     refine wpDo rfl ?_
     refine qH 255 _ _ w7.heap.size 0 #[.int .i64 er,.int .i64 at_] (by rfl) (by rfl) (by rfl) (by simp[Value.oneCell']) 2 (by kernel_rfl) rfl _ _ hB8' (by simp) (fun wa hBa hma=>?_)
     rw[qF (by rfl)]at hBa;have hB9':=hma.objB (by omega) hB9;simp only[stz];have h56:=hm5.size;have h66:=hm6.size;have h67:=hm7.size
     have hm6a:Mod NoB w6 wa:=((hm7.trans0 hm8).transB hm9 (Nat.le_refl _)).transB hma (by omega);have hm4a:Mod NoB w4 wa:=(hm5.trans0 hm6).trans0 hm6a
     have HMC:=Lib.hid (hmc.keep0 hm6a);have hce:wa.cell? ⟨w7.heap.size,0,none⟩=some (.int .i64 er):=by simp[World.cell?,hBa]
     have HER:=Lib.hid her;have HMa:=Lib.hid (HM4.out.keep0 hm4a);have H4a:=Lib.hid (H4.out.keep0 hm4a)
     have HM0a:Hid (Mod (fun k=>k=mb) w wa):=Lib.hid (HM04.out.trans hm4a (fun _ _ h=>h.elim));generalize hb13:w7.heap.size=b13 at*
     generalize hb12:w6.heap.size=b12 at*;clear hm5 hm6 hm7 hm8 hm9 hma hm4a hm6a hB7 hB8 hB8' hB9 hBa hmc hb14 her hbv
     by_cases hez:er=0
     rotate_left
     ·have hF0:yL (cont bl) (f+1) di depth all=all1:=by
       rw[HRE.out,HDO.out]
       have:decL m=none:=by
        cases hd:decL m with
        |none=>rfl
        |some q=>exact absurd (HER.out.2 (by rw[hd];rfl)) hez
       rw[this]
       simp
      have HF:Hid (ReachR w mb (yL (cont bl) (f+1) di depth all) (.returned (.tuple #[])) wa):=Lib.hid ⟨rfl,by rw[hF0];exact HMa.out,HM0a.out⟩;clear hF0
      go_upto_region 6 with(fail);refine wpR [3,3,3,3,1,3,3,3,3,3,3] (by rfl) (by rfl) ?_;simp only[stz]
      try refine xK _ _ true (by rfl) (by rfl) (by rfl) ?_
      try simp only[stz]
      refine wpXd (v:=(.int .i64 er)) 33 b13 0 hce underlying33 trivial ?_;try simp only[nmz]
      refine qS _ _ _ _ _ _ _ _ rfl rfl rfl rfl rfl true (decide_eq_true hez) ?_;simp only[stz];go_wp2
      go_end0
      exact HF.out
     ·subst hez
      obtain⟨M,hM⟩:∃M,decL m=some M:=Option.isSome_iff_exists.1 (HER.out.1 rfl);have hmc:=HMC.out;rw[hM]at hmc;replace hmc:ManC w5.heap.size wa cs M:=hmc
      by_cases hd4:4<depth
      ·have hz4:(depth:Int)>4:=by omega
       have HF:Hid (ReachR w mb (yL (cont bl) (f+1) di depth all) (.returned (.tuple #[])) wa):=Lib.hid ⟨rfl,by rw[HRE.out,if_pos hd4];exact HMa.out,HM0a.out⟩
       clear hmc;go_upto_region 6 with(fail);refine wpR [3,3,3,3,1,3,3,3,3,3,3] (by rfl) (by rfl) ?_;simp only[stz]
       try refine xK _ _ true (by rfl) (by rfl) (by rfl) ?_
       try simp only[stz]
       refine wpXd (v:=(.int .i64 0)) 33 b13 0 hce underlying33 trivial ?_;try simp only[nmz]
       refine qS _ _ _ _ _ _ _ _ rfl rfl rfl rfl rfl false (by decide) ?_;simp only[stz];refine qS _ _ _ _ _ _ _ _ rfl rfl rfl rfl rfl true (decide_eq_true hz4) ?_
       simp only[stz];go_wp2
       go_end0
       exact HF.out
      ·have hz4:¬(depth:Int)>4:=by omega
       have hlens:=decL_len hM;have hids:=decL_ids hM
       have hR0:yL (cont bl) (f+1) di depth all=foldM (cont bl) f depth (xX M) all1:=by
        rw[HRE.out,if_neg hd4,HDO.out,hM]
        rfl
       have HR0:=Lib.hid hR0;have hdc:=mDescs_any hmc ⟨hlens.1,hlens.2.1⟩
       have hdl:(xX M).length<=33:=by
        unfold xX;simp only[List.length_append]
        split<;>simp<;>omega
       have HIDS:=Lib.hid hids;obtain⟨ds,hds⟩:∃ds,xX M=ds:=⟨_,rfl⟩;rw[hds]at hdc HR0 HIDS hdl;clear hR0 hlens hids hmc HMC hM hds HRE HDO HER
       go_upto_region 6 with(fail);refine wpR [3,3,3,3,1,3,3,3,3,3,3] (by rfl) (by rfl) ?_;simp only[stz]
       try refine xK _ _ true (by rfl) (by rfl) (by rfl) ?_
       try simp only[stz]
       refine wpXd (v:=(.int .i64 0)) 33 b13 0 hce underlying33 trivial ?_;try simp only[nmz]
       refine qS _ _ _ _ _ _ _ _ rfl rfl rfl rfl rfl false (by decide) ?_;simp only[stz];refine qS _ _ _ _ _ _ _ _ rfl rfl rfl rfl rfl false (decide_eq_false hz4) ?_
       simp only[stz];clear hce;go_upto_region 7 with(fail);refine wpR [1,1,3,3] (by rfl) (by rfl) ?_;simp only[stz]
       refine wpXA 163 b12 0 cs (CellsAt.whole hB9') underlying163 39 hcs trivial ?_;try simp only[nmz]
       refine wpDo rfl ?_;refine qB (qC 159 [.tmp 62] _ rfl _ func159 rfl (by kernel_rfl) [.agg cs] rfl _) hdc ?_;rintro e wb ⟨hmb',dv,rfl,hgd⟩
       have HGD:=Lib.hid hgd;obtain⟨dad,dcap,rfl⟩:=hgd.slice;clear hgd;refine⟨_,rfl,?_⟩;try simp only[nmz]
       refine zD _ _ _ _ _ rfl rfl rfl (by kernel_rfl) ?_;simp only[stz]
       have HRL:Hid (ReachRel wb mb (cont bl) f depth ds all1 (.int .i64 (0:Nat)) wb):=Lib.hid ⟨0,Nat.zero_le _,rfl,HMa.out.keep0 hmb',Mod.refl _ _⟩
       have H4b:=Lib.hid (H4a.out.keep0 hmb');have HM0b:Hid (Mod (fun k=>k=mb) w wb):=Lib.hid (HM0a.out.trans hmb' (fun _ _ h=>h.elim))
       have hmbb:mb<wa.heap.size:=HMa.out.lt;have hwab:wa.heap.size<=wb.heap.size:=hmb'.size
       have hgl:∀q,(Value.slice dad ds.length dcap).ownBlock=some q->q≠mb:=fun q hq=>by
        have:=(HGD.out.lt hq).1;omega
       clear hmb' hB9' hdc;go_wp2
       go_loopw [65] (ReachRel wb mb (cont bl) f depth ds all1) (fun i _=>ds.length-(intOf i).toNat)
       case atStart=>exact HRL.out
       case round=>
        rename World=>wr
        obtain⟨k,hk,rfl,hMr,hmr⟩:=hrel;have HMR:=Lib.hid hMr;have HmR:=Lib.hid hmr;have hmbr:mb<wr.heap.size:=hMr.lt
        by_cases hlt:k<ds.length
        ·have hzk:(k:Int)<(ds.length:Nat):=by omega
         have hgr:GatD wa.heap.size wr (.slice dad ds.length dcap) ds:=HGD.out.keep hmr (fun q hq e=>hgl q hq e)
         obtain⟨g,cap',cur,hq,hgc,hcc,hsz,-,-⟩:=hgr.at descE_len k hlt
         cases hq
         have hfs:=foldM_succ (cont bl) f depth ds all1 k hlt;have hdid:=HIDS.out ds[k] (List.getElem_mem _);generalize ds[k]=d at*;rw[descE_eq hdid]at hcc
         have hdsz:(qW d).size=35:=zQ hdid;have hdic:(qA d.id).size=32:=by rw[qD,hdid]
         have hdone:∀c∈qW d,c.oneCell'=true:=descRow_one _ _ _ _;have HFS:=Lib.hid hfs;clear hfs hMr hmr hgr;go_upto_region 9 with(fail)
         refine wpR [3,1,1,1] (by rfl) (by rfl) ?_;simp only[stz];refine qQ _ _ _ _ _ _ _ _ _ rfl rfl rfl rfl underlying161 (n:=35) (by kernel_rfl) hlt ?_
         simp only[nmz];refine wpXA 46 g (k*35) (qW d) hcc underlying46 35 hdsz trivial ?_;try simp only[nmz]
         refine wpDo rfl ?_;refine qR 46 _ (by rfl) descZ_i (fun wc hBc hmc hsc=>?_)
         replace hBc:wc.heap[wr.heap.size]?=some (.cells (qW descZ) 46 (0,0)):=hBc;try simp only[nmz]
         refine wpDo rfl ?_
         refine qH 46 _ _ wr.heap.size 0 (qW d) (by rfl) (by rfl) (by rfl) hdone 35 (by kernel_rfl) hdsz _ _ hBc (by rw[hdsz];exact Nat.le_of_eq (zQ xF).symm) (fun wd' hBd hmd=>?_)
         rw[qF (by rw[hdsz];exact(zQ xF).symm)]at hBd;simp only[stz];have hmrd:Mod NoB wr wd':=hmc.transB hmd (Nat.le_refl _)
         have hcm:wd'.cell? ⟨wr.heap.size,0,none⟩=some (.int .i64 d.media):=by rw[cell_of_row _ _ _ _ _ _ hBd];rfl
         have hci:CellsAt wd' wr.heap.size 1 (qA d.id):=CellsAt.of_obj hBd descRow_at1;replace HMR:=Lib.hid (HMR.out.keep0 hmrd)
         replace HmR:Hid (Mod (fun q=>q=mb) wb wd'):=Lib.hid (HmR.out.trans hmrd (fun _ _ h=>h.elim));have Hd:=Lib.hid (H4b.out.keepM hmb HmR.out)
         have hmbd:mb<wd'.heap.size:=HMR.out.lt;generalize hb15:wr.heap.size=b15 at*;clear hmc hmd hmrd hBc hBd hcc hgc hsz;go_upto_region 10 with(fail)
         go_cut [76] (fun s wx=>s=.bool (yP d)/\wx=wd')
         case first=>
          by_cases h3:d.media=3
          ·have hz3:(d.media:Int)=3:=by omega
           have ht:yP d=true:=by simp[yP,h3]
           refine wpR [3,1,3,3,3,0,3,3] (by rfl) (by rfl) ?_;simp only[stz];refine wpXd (v:=(.int .i64 d.media)) 3 b15 0 hcm underlying3 trivial ?_;try simp only[nmz]
           refine qS _ _ _ _ _ _ _ _ rfl rfl rfl rfl rfl true (decide_eq_true hz3) ?_;simp only[stz];go_wp2
           go_meet
           case rel=>exact⟨by rw[ht],rfl⟩
          ·have hz3:¬(d.media:Int)=3:=by omega
           by_cases h4:d.media=4
           ·have hz4':(d.media:Int)=4:=by omega
            have ht:yP d=true:=by simp[yP,h4]
            refine wpR [3,1,3,3,3,1,3,3] (by rfl) (by rfl) ?_;simp only[stz];refine wpXd (v:=(.int .i64 d.media)) 3 b15 0 hcm underlying3 trivial ?_
            try simp only[nmz]
            refine qS _ _ _ _ _ _ _ _ rfl rfl rfl rfl rfl false (decide_eq_false hz3) ?_;simp only[stz]
            refine wpXd (v:=(.int .i64 d.media)) 3 b15 0 hcm underlying3 trivial ?_;try simp only[nmz]
            refine qS _ _ _ _ _ _ _ _ rfl rfl rfl rfl rfl true (decide_eq_true hz4') ?_;simp only[stz];go_wp2
            go_meet
            case rel=>exact⟨by rw[ht],rfl⟩
           ·have hz4':¬(d.media:Int)=4:=by omega
            have ht:yP d=false:=by simp[yP,h3,h4]
            refine wpR [3,1,3,3,3,1,3,3] (by rfl) (by rfl) ?_;simp only[stz];refine wpXd (v:=(.int .i64 d.media)) 3 b15 0 hcm underlying3 trivial ?_
            try simp only[nmz]
            refine qS _ _ _ _ _ _ _ _ rfl rfl rfl rfl rfl false (decide_eq_false hz3) ?_;simp only[stz]
            refine wpXd (v:=(.int .i64 d.media)) 3 b15 0 hcm underlying3 trivial ?_;try simp only[nmz]
            refine qS _ _ _ _ _ _ _ _ rfl rfl rfl rfl rfl false (decide_eq_false hz4') ?_;simp only[stz];go_wp2
            go_meet
            case rel=>exact⟨by rw[ht],rfl⟩
         case rest=>
          obtain⟨rfl,hw⟩:=hcut;obtain rfl:=hw.symm;clear hcm;obtain⟨tr,htr⟩:∃q,yP d=q:=⟨_,rfl⟩;rw[htr]at HFS |-;clear htr
          cases tr with
          |true=>
           have hrec:=IH.out d.id (depth+1) _ _ hdid (by omega) (by omega) (by omega) Hd.out HMR.out;go_upto_region 11 with(fail)
           refine wpR [3,3,1,3,3,3,1] (by rfl) (by rfl) ?_;simp only[stz];refine wpXA 24 b15 1 (qA d.id) hci underlying24 32 hdic trivial ?_;simp only[stz]
           refine zR _ _ _ _ (depth:Int) 1 ((depth+1:Nat):Int) rfl rfl rfl rfl (by omega) (by omega) (by omega) ?_;simp only[stz];refine wpDo rfl ?_
           refine qB (qC 87 [.tmp 77,.tmp 79,.tmp 81,.tmp 82] _ rfl _ func87 rfl (by kernel_rfl) [.pointer (some ⟨bs,0,none⟩),.agg (qA d.id),.int .i64 ((depth+1:Nat):Int),.map (some mb)] rfl _) (hrec) ?_
           rintro e we ⟨rfl,hMe,hme⟩
           have HR:Hid (ReachRel wb mb (cont bl) f depth ds all1 (.int .i64 ((k+1:Nat):Int)) we):=Lib.hid ⟨k+1,by omega,rfl,by rw[HFS.out];exact hMe,HmR.out.trans hme (fun _ _ h=>h)⟩
           refine⟨_,rfl,?_⟩;simp only[stz];clear hMe hme hci hrec;go_wp2
           go_roundw
           case rel=>exact HR.out
           case measure=>simp[intOf];omega
          |false=>
           have HLK:=Lib.hid (mark_look d.id (foldM (cont bl) f depth (ds.take k) all1))
           obtain⟨kk2,hkk2⟩:∃q,(getL d.id (foldM (cont bl) f depth (ds.take k) all1)).getD 0=q:=⟨_,rfl⟩
           obtain⟨is2,his2⟩:∃q,(getL d.id (foldM (cont bl) f depth (ds.take k) all1)).isSome=q:=⟨_,rfl⟩;rw[hkk2,his2]at HLK;have HIS2:=Lib.hid his2
           clear hkk2 his2;go_upto_region 12 with(fail);refine wpR [3,3,1,1,3,3,3,1,1,3] (by rfl) (by rfl) ?_;simp only[stz]
           refine wpXA 24 b15 1 (qA d.id) hci underlying24 32 hdic trivial ?_;try simp only[nmz]
           refine wpX rfl (yQ keyT_id HMR.out d.id hdid 144 152 underlying144 (linkV 0) cmarkZ _ _ true (by rfl) (by rfl) (by rfl) _ HLK.out) trivial ?_;simp only[stz]
           refine qE (v:=?_) rfl (fun w'=>?_) ?_;rotate_left;·(go_simp;try with_reducible rfl)
           simp only[nmz];refine qE (v:=?_) rfl (fun w'=>?_) ?_;rotate_left;·(go_simp;try with_reducible rfl)
           simp only[nmz];refine wpDo rfl ?_;refine qR 152 _ (by rfl) cmarkZ (fun we hBe hme hse=>?_)
           replace hBe:we.heap[wd'.heap.size]?=some (.cells #[.int .i64 0] 152 (0,0)):=hBe;try simp only[nmz]
           refine wpDo rfl ?_
           refine qH 152 _ _ wd'.heap.size 0 #[.int .i64 kk2] (by rfl) (by rfl) (by rfl) (linkV_one _) 1 (by kernel_rfl) rfl _ _ hBe (by simp) (fun wf hBf hmf=>?_)
           simp only[stz];have hmdf:Mod NoB wd' wf:=hme.transB hmf (Nat.le_refl _);have hcf:=hci.keep hmdf id;have HMf:=Lib.hid (HMR.out.keep0 hmdf)
           have HmF:Hid (Mod (fun q=>q=mb) wb wf):=Lib.hid (HmR.out.trans hmdf (fun _ _ h=>h.elim));clear hme hmf hmdf hBe hBf hse hci
           cases is2 with
           |true=>
            have HR:Hid (ReachRel wb mb (cont bl) f depth ds all1 (.int .i64 ((k+1:Nat):Int)) wf):=Lib.hid ⟨k+1,by omega,rfl,by rw[HFS.out];simp only[Bool.false_eq_true,if_false];unfold leafM;rw[if_pos HIS2.out];exact HMf.out,HmF.out⟩
            clear hcf;go_wp2
            go_roundw
            case rel=>exact HR.out
            case measure=>simp[intOf];omega
           |false=>
            go_upto_region 14 with(fail);refine wpR [3,3,1,0,1] (by rfl) (by rfl) ?_;simp only[stz];refine wpXA 24 b15 1 (qA d.id) hcf underlying24 32 hdic trivial ?_
            try simp only[nmz]
            refine qM rfl (fun w' hS=>qO 152 [] [] _ (by rfl) (by rfl) built_cmark0) ?_;simp only[nmz];refine qN rfl (fun K hK=>?_)
            refine wp_putL keyT_id HMf.out d.id hdid 144 152 underlying144 _ _ _ (linkV ((0:Nat):Int)) (by rfl) (by rfl) (by rfl) (by rfl) (fun wg hMg hmg=>?_)
            rw[marks_put]at hMg
            have HR:Hid (ReachRel wb mb (cont bl) f depth ds all1 (.int .i64 ((k+1:Nat):Int)) wg):=Lib.hid ⟨k+1,by omega,rfl,by rw[HFS.out];simp only[Bool.false_eq_true,if_false];unfold leafM;rw[if_neg (by rw[HIS2.out];simp)];exact hMg,HmF.out.trans hmg (fun _ _ h=>h)⟩
            refine hK _ _ trivial ?_;clear hMg hmg;clear hK K;simp only[stz];clear hcf;go_wp2
            go_roundw
            case rel=>exact HR.out
            case measure=>simp[intOf];omega
        ·have hzk:¬(k:Int)<(ds.length:Nat):=by omega
         obtain rfl:k=ds.length:=by omega
         have HF:Hid (ReachR w mb (yL (cont bl) (f+1) di depth all) (.returned (.tuple #[])) wr):=Lib.hid ⟨rfl,by
          rw[HR0.out];have h1:=HMR.out;rw[List.take_length]at h1
          exact h1,HM0b.out.trans HmR.out (fun _ _ h=>h)⟩
         clear hMr hmr;go_wp2
         go_end0
         exact HF.out
end
end
section
open Go.RowKit Go.Proofs.Tryz Go.Lib
def KC(W W':World):Prop:=Mod (fun k=>∀o,W.heap[k]?=some o->o.isCells=false) W W'
theorem KC.refl(W:World):KC W W:=Mod.refl _ W
theorem KC.obj{W W':World}(h:KC W W'){k:Nat}{o:Obj}(ho:W.heap[k]?=some o)(hc:o.isCells=true):W'.heap[k]?=some o:=
 Mod.obj h (fun hs=>by rw[hs o ho]at hc;cases hc) ho
theorem KC.trans{A B C:World}(h:KC A B)(k:KC B C):KC A C:=
 Mod.trans h k (fun i _ hs o ho=>by
  cases hc:o.isCells with
  |false=>rfl
  |true=>rw[<-hs o (h.obj ho hc),hc])
theorem KC.of_mod{S:Nat->Prop}{W W':World}(h:Mod S W W')(hS:∀k o,S k->W.heap[k]?=some o->o.isCells=false):KC W W':=
 h.mono fun k _ hk o ho=>hS k o hk ho
theorem KC.of0{W W':World}(h:Mod NoB W W'):KC W W':=KC.of_mod h fun _ _ h=>h.elim
theorem KC.putObj{W:World}{l:Nat}{o:Obj}(o':Obj)(h:W.heap[l]?=some o)(hc:o.isCells=false):KC W (W.putObj l o'):=
 KC.of_mod (S:=fun k=>k=l) ((Mod.refl _ W).grown (grownBy_putObj' W l o') (fun k e _=>by cases e;rfl)) (fun k o1 e ho=>by
  have e:k=l:=e
  subst e;rw[h]at ho;cases ho;exact hc)
theorem KC.mod0{W W':World}(h:KC W W'):Mod (fun k=>∀o,W.heap[k]?=some o->o.isCells=false) W W':=h
theorem KC.cell{W W':World}(h:KC W W'){p:Addr}{v:Value}(hc:W.cell? p=some v):W'.cell? p=some v:=by
 obtain⟨o,ho,hk⟩:=cells_of_cell hc;exact(World.cell?_of_block ((h.obj ho hk).trans ho.symm)).trans hc
theorem KC.cells{W W':World}(h:KC W W'){b o:Nat}{cs:Array Value}(hc:CellsAt W b o cs):CellsAt W' b o cs:=fun i hx=>by
 have e:cs[i]?=some cs[i]:=Array.getElem?_eq_getElem hx;rw[e];exact h.cell ((hc i hx).trans e)
def Gives(P:Program){α:Type}(gf:Nat)(lb:Array Value)(encs:α->Array Value)(xs:List α)(w:World):Prop:=
 ∀(l:Nat)(J:List α->World->Prop)(W:World),Mod NoB w W->OwnFrom W.heap.size J->
  (∀pre x rest W1,xs=pre++x::rest->J pre W1->YieldAt Fence.wide 0 P l (encs x) W1 fun e W'=>e=.returned (.bool true)/\J (pre++[x]) W'/\KC W1 W'/\KeepsFrom W.heap.size W1 W')->
  J [] W->Calls P gf (#[.func (.yield l) #[] #[]]++lb) W fun e W'=>(∃v,e=.returned v)/\J xs W'
theorem OwnFrom.up{β:Type}{B B':Nat}{I:β->World->Prop}(h:OwnFrom B I)(hB:B<=B'):OwnFrom B' I:=
 fun s W W' row hs hg hr=>h s W W' row hs hg (fun r e=>⟨Nat.le_trans hB (hr r e).1,(hr r e).2⟩)
theorem OwnFrom.mod0{β:Type}{I:β->World->Prop}{B:Nat}(h:OwnFrom B I){s:β}{W W':World}(hs:I s W)(hm:Mod NoB W W'):I s W':=
 h s W W' none hs hm.grownNone (fun r e=>by cases e)
theorem yield0{m m':Nat}{P:Program}{l:Nat}{args:Array Value}{W:World}{R:Ending->World->Prop}(h:YieldAt Fence.wide m P l args W R):YieldAt Fence.wide m' P l args W R:=by
 obtain⟨fn,tmps,assign,body,hy,hR⟩:=h;exact⟨fn,tmps,assign,body,hy,hR.1,fun c cs _=>hR.2 c cs (room_wide _)⟩
theorem yield_round{m l₀:Nat}{P:Program}{l:Nat}{args:Array Value}{W:World}{R:Ending->World->Prop}(h:YieldAt Fence.wide m P l args W R):YieldAt (Fence.wide.inRound l₀) m P l args W R:=h
theorem wpIn_rangeFunc_giv{P:Program}{n:Nat}{α:Type}{g:Operand}{ps:Array Tmp}{assign body:Code}{Q:Exit->Act->World->Prop}{a:Act}{w:World}{gf:Nat}{lb:Array Value}(hg:a.eval g=.func (.func gf) #[] lb)
 (eg:∀args w,(callFunc gf args).run P w=.ok (.enter gf args) w){encs:α->Array Value}{xs:List α}{w0:World}(hseq:Gives P gf lb encs xs w0)(hb0:Mod NoB w0 w)(hps:∀x,(encs x).size=ps.size)
 (I:List α->World->Prop)(hI:OwnFrom w.heap.size I)(h0:I [] w)(Ax:α->Act->World->Prop)(hAx:∀x a',OwnFrom w.heap.size (fun(_:Unit) W=>Ax x a' W))
 (hassign:∀(l:Nat)(pre:List α)(x:α)(rest:List α)(W:World)(K:Act->World->Prop),xs=pre++x::rest->I pre W->(∀a' W',KeepsFrom w.heap.size W W'->KC W W'->I pre W'->Ax x a' W'->K a' W')->
  assign.wpIn (Fence.wide.inRound l) 0 P (Exit.then K (fun _ _ _=>False)) { tmps:=(ps.zip (encs x)).foldl (fun t (p,v)=>t.setIfInBounds p v) a.tmps,defers:=[] } W)
 (hbody:∀(l:Nat)(pre:List α)(x:α)(rest:List α)(a':Act)(W:World),xs=pre++x::rest->I pre W->Ax x a' W->
  body.wpIn (Fence.wide.inRound l) 0 P (Exit.then (fun _ W'=>KeepsFrom w.heap.size W W'/\KC W W'/\I (pre++[x]) W') (fun _ _ _=>False)) a' W)
 (hdone:∀(D:Nat)(W:World),w.heap.size<=D->I xs W->W.heap[D]?=some (.deferred (some []))->Q .normal { a with defers:={ target:=.collected D,args:=#[] }::a.defers } W):
 (Code.rangeFunc g ps assign body).wpIn Fence.wide n P Q a w:=by
 refine wpIn_rangeFunc ?_;intro fn hfn;rw[show Fence.wide.round=none from rfl]
 obtain⟨rec,hrec⟩:∃rec:LoopState->Loop,rec=fun st=>{ state:=st,pending:=none,fn,tmps:=a.tmps,params:=ps,assign,body,defers:=w.heap.size }:=⟨_,rfl⟩
 obtain⟨W1,hW1⟩:∃W1,(w.alloc (.deferred (some []))).alloc (.loop (rec .ready))=W1:=⟨_,rfl⟩;have hs1:W1.heap.size=w.heap.size+2:=by rw[<-hW1];simp
 have hL1:W1.heap[w.heap.size+1]?=some (.loop (rec .ready)):=by
  rw[<-hW1];have:=World.alloc_heap_new (w.alloc (.deferred (some []))) (.loop (rec .ready));rwa[World.size_alloc]at this
 have hK1:W1.heap[w.heap.size]?=some (.deferred (some [])):=by
  rw[<-hW1];exact(Below.heap_alloc _ _ _ (by simp)).trans (World.alloc_heap_new w _)
 have hI1:I [] W1:=by rw[<-hW1];exact hI.alloc _ (hI.alloc _ h0)
 have hb1:Mod NoB w0 W1:=by rw[<-hW1];exact(hb0.alloc _).alloc _
 refine⟨w.heap.size+1,[{ target:=.collected w.heap.size,args:=#[] }],W1,{ target:=.fn (.func gf) lb,args:=#[.func (.yield (w.heap.size+1)) #[] #[]] },W1,gf,
  #[.func (.yield (w.heap.size+1)) #[] #[]]++lb,W1,?_,?_,?_,?_,fun h=>(by simp[Fence.wide]at h),?_⟩
 ·rw[<-hW1,hrec];exact run_enterLoop_outer _ _ _ _ _
 ·simp only[resolve,hg]
  simp[go_sem]
 ·intro f' _;trivial
 ·simp[invoke,go_sem,eg]
 ·have hold:∀{A B:World}{row:Option Nat}{k:Nat}{o:Obj},A.grownBy B row->(∀r,row=some r->W1.heap.size<=r/\∃o:Obj,A.heap[r]?=some o/\o.isCells=false)->k<W1.heap.size->A.heap[k]?=some o->B.heap[k]?=some o:=
   fun hg hr hk ho=>(hg.block _ (Array.getElem?_eq_some_iff.1 ho).1 (fun e=>by have:=(hr _ e.symm).1;omega)).trans ho
  have hcalls:=hseq (w.heap.size+1) (fun pre W=>I pre W/\W.heap[w.heap.size+1]?=some (.loop (rec .ready))/\W.heap[w.heap.size]?=some (.deferred (some []))) W1 hb1
   (fun s A B row hs hg' hr=>⟨hI s A B row hs.1 hg' (fun r e=>⟨by have:=(hr r e).1;omega,(hr r e).2⟩),hold hg' hr (by omega) hs.2.1,hold hg' hr (by omega) hs.2.2⟩)
   ?_ ⟨hI1,hL1,hK1⟩
  ·refine(callsIn_wide.2 hcalls).mono ?_
   rintro e W2 ⟨⟨v,rfl⟩,hi,hl,hk⟩
   exact⟨none,_,by have:=run_endLoop (P:=P) hl (by rw[hrec];simp);rw[hrec]at this;exact this,hdone _ _ (Nat.le_refl _) (hI.putObj _ hi (by omega) hl rfl) ((World.putObj_heap_other (by omega)).trans hk)⟩
  ·rintro pre x rest W hxs ⟨hi,hl,hk⟩
   have hlt:w.heap.size+1<W.heap.size:=(Array.getElem?_eq_some_iff.1 hl).1;have hy:=run_yield (P:=P) (args:=encs x) hl (by rw[hrec];exact hps x);rw[hrec]at hy
   refine⟨fn,_,assign,body,hy,roundIn_of_wpIn hfn (hassign _ pre x rest W _ hxs hi ?_)⟩;clear hy;intro a' Wa hkfa hkca hia hax;have hla:=hkfa.same _ _ (by omega) hl rfl
   have hka:=hkfa.same _ _ (Nat.le_refl _) hk rfl;have hlta:w.heap.size+1<Wa.heap.size:=(Array.getElem?_eq_some_iff.1 hla).1
   refine⟨_,run_beginRound hla (by rw[hrec]),?_⟩;obtain⟨Wb,hWb⟩:∃Wb,Wa.putObj (w.heap.size+1) (.loop { rec .ready with state:=.busy })=Wb:=⟨_,rfl⟩
   have hlb:Wb.heap[w.heap.size+1]?=some (.loop { rec .ready with state:=.busy }):=by rw[<-hWb];exact World.putObj_heap_same hlta
   have hkb:Wb.heap[w.heap.size]?=some (.deferred (some [])):=by rw[<-hWb];exact(World.putObj_heap_other (by omega)).trans hka
   have hcb:KC Wa Wb:=by rw[<-hWb];exact KC.putObj _ hla rfl
   have hfb:KeepsFrom W1.heap.size Wa Wb:=by
    rw[<-hWb];exact KeepsFrom.of_grownBy (grownBy_putObj' Wa _ _) (fun j e=>by cases e;omega)
   have hib:I pre Wb:=by rw[<-hWb];exact hI.putObj _ hia (by omega) hla rfl
   have haxb:Ax x a' Wb:=by rw[<-hWb];exact(hAx x a').putObj (s:=()) _ hax (by omega) hla rfl
   rw[hWb];refine wpIn_mono (hbody _ pre x rest a' _ hxs hib haxb) ?_;rintro e a3 W3 hp
   cases e with
   |normal=>
    obtain⟨hk3,hc3,hi3⟩:=hp;have hl3:=hk3.same _ _ (by omega) hlb rfl;have hq3:=hk3.same _ _ (Nat.le_refl _) hkb rfl;have hr:=run_endRound (P:=P) none hl3
    rw[hrec]at hr hl3
    refine⟨_,_,hr,rfl,⟨hI.putObj _ hi3 (by omega) hl3 rfl,?_,(World.putObj_heap_other (by omega)).trans hq3⟩,((hkca.trans hcb).trans hc3).trans (KC.putObj _ hl3 rfl),?_⟩
    ·rw[hrec];exact World.putObj_heap_same (Array.getElem?_eq_some_iff.1 hl3).1
    ·refine KeepsFrom.trans (KeepsFrom.trans (KeepsFrom.trans ?_ hfb) ?_) (KeepsFrom.of_grownBy (grownBy_putObj' W3 _ _) (fun j e=>by cases e;omega))
     ·exact⟨hkfa.size,fun k o hb ho hc=>hkfa.same k o (by omega) ho hc⟩
     ·exact⟨hk3.size,fun k o hb ho hc=>hk3.same k o (by omega) ho hc⟩
   |_=>exact hp.elim
end
section
open Go.RowKit Go.Shelf Go.Proofs.Tryz Go.Lib
theorem valuesI_any(w:World)(ad:Option Addr)(n cap:Nat):Calls prog 119 #[.slice ad n cap] w fun e w'=>e=.returned (.func (.func 194) #[] #[.pointer (some ⟨w.heap.size,0,none⟩)])/\w'=w.alloc (.cells #[.slice ad n cap] 25):=by
 have hmf:=xD;go_enter func119,ntmps119;go_wp2;go_ret;exact⟨rfl,rfl⟩
def ValRel(ids:List (List UInt8))(J:List (List UInt8)->World->Prop)(W0:World)(i:Value)(w:World):Prop:=
 ∃k:Nat,k<=ids.length/\i=.int .i64 k/\J (ids.take k) w/\KC W0 w
theorem take_split{α:Type}{l:List α}{k:Nat}(hk:k<l.length):l=l.take k++l[k]::l.drop (k+1):=by
 rw[List.getElem_cons_drop hk,List.take_append_drop]
theorem take_snoc{α:Type}{l:List α}{k:Nat}(hk:k<l.length):l.take k++[l[k]]=l.take (k+1):=(List.take_succ_eq_append_getElem hk).symm
theorem valuesI_gives{w:World}{B:Nat}{own:Bool}{G:Nat->Prop}{v:Value}{ids:List (List UInt8)}(hB:w.heap[B]?=some (.cells #[v] 25 (0,0)))(hv:Sl own w G 32 IdC v ids):
 Gives prog 194 #[.pointer (some ⟨B,0,none⟩)] (fun x=>#[idV x]) ids w:=by
 intro y J W hW hJ hY h0;have hBW:=hW.obj id hB;obtain⟨ad,cap,rfl,hle,hat⟩:=Sl.at (hv.keep0 hW);have HAT:=hid hat
 have hcB:W.cell? ⟨B,0,none⟩=some (.slice ad ids.length cap):=by simp[World.cell?,hBW]
 have HR0:Hid (ValRel ids J W (.int .i64 (0:Nat)) W):=hid ⟨0,Nat.zero_le _,rfl,by rw[List.take_zero];exact h0,KC.refl _⟩;clear hB hv hat h0 hW;go_enter func194,ntmps194
 go_upto_region 0 with(fail);refine wpR [1,3,3] (by rfl) (by rfl) ?_;simp only[stz];refine wpXd 25 B 0 hcB underlying25 trivial ?_;try simp only[nmz]
 refine zD _ _ _ _ _ rfl rfl rfl (by kernel_rfl) ?_;simp only[stz];clear hcB hBW;go_wp2
 go_loopw [7] (ValRel ids J W) (fun i _=>ids.length-(intOf i).toNat)
 case atStart=>exact HR0.out
 case round=>
  rename World=>wr
  obtain⟨k,hk,rfl,hJr,hkc⟩:=hrel
  by_cases hlt:k<ids.length
  ·have hz:(k:Int)<(ids.length:Nat):=by omega
   obtain⟨b,off,rfl,-,-,hcc⟩:=HAT.out k hlt;obtain⟨cs,-,⟨rfl,hx32⟩,hcA⟩:=hcc k hlt;have hsp:=take_split hlt;have hsn:=take_snoc hlt;generalize ids[k]=x at*
   have hic:(qA x).size=32:=by rw[qD,hx32]
   have hcr:=hkc.cells hcA;have HSP:=hid hsp;have HSN:=hid hsn;clear hsp hsn hcc hcA;go_upto_region 2 with(fail);refine wpR [3,1,1,1] (by rfl) (by rfl) ?_;simp only[stz]
   refine qQ _ _ _ _ _ _ _ _ _ rfl rfl rfl rfl underlying25 (n:=32) (by kernel_rfl) hlt ?_;simp only[nmz]
   refine wpXA 24 b (off+k*32) (qA x) hcr underlying24 32 hic trivial ?_;try simp only[nmz]
   refine wpDo rfl ?_;refine qR 24 _ (by rfl) idZ (fun w2 hB2 hm2 hs2=>?_)
   replace hB2:w2.heap[wr.heap.size]?=some (.cells (qA (List.replicate 32 0)) 24 (0,0)):=hB2;try simp only[nmz]
   refine wpDo rfl ?_
   refine qH 24 _ _ wr.heap.size 0 (qA x) (by rfl) (by rfl) (by rfl) (qT _) 32 (by kernel_rfl) hic _ _ hB2 (by rw[hic,qD];simp) (fun w3 hB3 hm3=>?_)
   rw[qF (by rw[hic,qD];simp)]at hB3;simp only[stz];have hmr3:Mod NoB wr w3:=hm2.transB hm3 (Nat.le_refl _);have hJ3:=OwnFrom.mod0 hJ hJr hmr3
   have hk3:=hkc.trans (KC.of0 hmr3);have hYk:=hY _ x _ w3 HSP.out hJ3;have hca:CellsAt w3 wr.heap.size 0 (qA x):=CellsAt.whole hB3
   generalize hb7:wr.heap.size=b7 at*;clear hkc hm2 hm3 hmr3 hB2 hcr hs2 hJr hJ3 hB3;go_upto_region 3 with(fail);refine(wpIn_wide (n:=1)).1 (wpIn_region_lit ?_)
   refine wpListIn_plain rfl fun K hK=>zH (fun c h=>by cases h) ?_;refine zO (exec_move _ (by rfl)) ?_;refine hK _ _ ?_;clear hK K
   refine wpListIn_plain rfl fun K hK=>zH (fun c h=>by cases h) ?_
   refine zO (zI 24 _ (by rfl) b7 0 (by rfl) (qA x) hca _ underlying24 rfl 32 (by kernel_rfl) hic) ?_;refine hK _ _ ?_;clear hK K
   refine wpListIn_plain rfl fun K hK=>jJ (l:=y) _ _ _ (by rfl) (by rfl) (idV x) (by rfl) hYk (fun e' w5 he'=>?_);obtain⟨rfl,hJ5,hk5,-⟩:=he';refine⟨_,rfl,?_⟩
   refine hK _ _ ?_;clear hK K;refine wpListIn_plain rfl fun K hK=>zH (fun c h=>by cases h) ?_;refine zO (jR _ _ true (by rfl) (by rfl)) ?_;refine hK _ _ ?_
   clear hK K;simp only[nmz];refine wpListIn_nil ?_
   have HR:Hid (ValRel ids J W (.int .i64 ((k+1:Nat):Int)) w5):=hid ⟨k+1,by omega,rfl,by rw[<-HSN.out];exact hJ5,hk3.trans hk5⟩;clear hk3 hk5 hJ5 hYk hca;go_wp2
   go_roundw
   case rel=>exact HR.out
   case measure=>simp[intOf];omega
  ·have hz:¬(k:Int)<(ids.length:Nat):=by omega
   obtain rfl:k=ids.length:=by omega
   rw[List.take_length]at hJr;have HJ:=hid hJr;clear hJr;go_wp2
   go_end0
   exact⟨⟨_,rfl⟩,HJ.out⟩
def addsL(ids:List (List UInt8))(all:List (List UInt8×Value)):List (List UInt8×Value):=ids.foldl (fun a x=>putL x (.agg #[]) a) all
theorem addsL_snoc(ids:List (List UInt8))(x:List UInt8)(all:List (List UInt8×Value)):addsL (ids++[x]) all=putL x (.agg #[]) (addsL ids all):=by simp[addsL]
theorem built_wmark:prog.built 216 []=some #[]:=by kernel_rfl
def AddI(w:World)(mb:Nat)(all:List (List UInt8×Value))(pre:List (List UInt8))(W:World):Prop:=
 MapIs idV IdOk W mb (addsL pre all)/\Mod (fun k=>k=mb) w W/\W.heap[w.heap.size]?=some (.cells #[.map (some mb)] 200 (0,0))
theorem addI_own{w:World}{mb:Nat}{all:List (List UInt8×Value)}(hmb:mb<w.heap.size):OwnFrom (w.heap.size+1) (AddI w mb all):=by
 intro s A B row hs hg hr;obtain⟨h1,h2,h3⟩:=hs;have hm:Mod (fun k=>some k=row) A B:=Mod.of_grown hg fun r e=>e.symm
 refine⟨h1.keep hm (fun e=>by have:=(hr _ e.symm).1;omega),h2.trans hm (fun k hk e=>by have:=(hr k e.symm).1;omega),hm.obj (fun e=>by have:=(hr _ e.symm).1;omega) h3⟩
def AddAx(mb:Nat)(fv:Value)(Bs:Nat)(x:List UInt8)(a:Act)(w:World):Prop:=
 ∃Bx,Bs<Bx/\w.heap[Bx]?=some (.cells (qA x) 24 (0,0))/\a={ tmps:=#[.map (some mb),fv,.pointer (some ⟨Bs,0,none⟩),undef,.map none,.pointer (some ⟨Bx,0,none⟩),fv,idV x,undef,undef,undef,undef],defers:=[] }
theorem swAdd_any{w:World}{mb gf:Nat}{lb:Array Value}{ids:List (List UInt8)}{all:List (List UInt8×Value)}(eg:∀args w,(callFunc gf args).run prog w=.ok (.enter gf args) w)(hG:Gives prog gf lb (fun x=>#[idV x]) ids w)
 (hok:∀x∈ids,x.length=32)(hM:MapIs idV IdOk w mb all):
 Calls prog 115 #[.map (some mb),.func (.func gf) #[] lb] w fun e w'=>e=.returned (.map (some mb))/\MapIs idV IdOk w' mb (addsL ids all)/\Mod (fun k=>k=mb) w w':=by
 have hmb:=hM.lt;refine(callsIn_wide (n:=3)).1 (callsIn_of_wp_marks func115 rfl trivial ?_ rfl)
 simp only[ntmps115,List.size_toArray,List.length_cons,List.length_nil,Nat.reduceAdd,Nat.reduceSub,Array.replicate_succ,Array.replicate_zero,List.push_toArray,List.append_toArray,List.nil_append,List.cons_append]
 gi_wp2
 have hm0:=qZ w (.cells #[.map (some mb)] 200);have hv0:=heap_alloc_new w (.cells #[.map (some mb)] 200)
 have hs0:(w.alloc (.cells #[.map (some mb)] 200)).heap.size=w.heap.size+1:=by simp
 have hh0:AddI w mb all [] (w.alloc (.cells #[.map (some mb)] 200)):=⟨hM.keep0 hm0,hm0.mono (fun _ _ h=>h.elim),hv0⟩
 generalize w.alloc (.cells #[.map (some mb)] 200)=W0 at*
 refine wpIn_rangeFunc_giv (gf:=gf) (lb:=lb) (by rfl) eg hG hm0 (fun _=>rfl)
  (AddI w mb all) (by rw[hs0];exact addI_own hmb) hh0
  (AddAx mb (.func (.func gf) #[] lb) w.heap.size)
  (fun x a' s A B row hs hg hr=>by
   obtain⟨Bx,hlt,h1,rfl⟩:=hs;refine⟨Bx,hlt,(hg.block Bx (Array.getElem?_eq_some_iff.1 h1).1 (fun e=>?_)).trans h1,rfl⟩;obtain⟨_,o,ho,hc⟩:=hr Bx e.symm
   rw[h1]at ho;cases ho;cases hc)
  ?assign ?body ?done
 case assign=>
  rintro l pre x rest W K hxs ⟨hMW,hmW,hbW⟩ hK0;have hx32:x.length=32:=hok x (by rw[hxs];simp);have hic:(qA x).size=32:=by rw[qD,hx32]
  simp only[List.zip_toArray,List.zip_cons_cons,List.zip_nil_right,List.foldl_toArray',List.foldl_cons,List.foldl_nil,List.setIfInBounds_toArray,ss,sz]
  refine wpIn_region_lit ?_;refine qX rfl rfl fun K hK=>?_;refine qR 24 _ (by rfl) idZ (fun w3 hB3 hm3 hs3=>?_)
  replace hB3:w3.heap[W.heap.size]?=some (.cells (qA (List.replicate 32 0)) 24 (0,0)):=hB3;refine hK _ _ ?_;clear hK K;refine qX rfl rfl fun K hK=>?_
  refine qH 24 _ _ W.heap.size 0 (qA x) (by rfl) (by rfl) (by rfl) (qT x) 32 (by kernel_rfl) hic _ _ hB3 (by rw[hic,qD];simp) (fun w4 hB4 hm4=>?_)
  have hm24:Mod NoB W w4:=hm3.transB hm4 (Nat.le_refl _);rw[qF (by rw[hic,qD];simp)]at hB4;refine hK _ _ ?_;clear hK K;refine wpListIn_nil ?_
  have hlt:=(Array.getElem?_eq_some_iff.1 hbW).1
  refine hK0 _ _ (hm24.keepsOthers0.from _) (KC.of0 hm24) ⟨hMW.keep0 hm24,hmW.trans hm24 (fun _ _ h=>h.elim),hm24.obj id hbW⟩ ⟨W.heap.size,hlt,hB4,rfl⟩
 case body=>
  rintro l pre x rest a' W hxs ⟨hMW,hmW,hbW⟩ ⟨Bx,hBs,hBx,rfl⟩;have hx32:x.length=32:=hok x (by rw[hxs];simp)
  have hic:(qA x).size=32:=by rw[qD,hx32]
  have hca:CellsAt W Bx 0 (qA x):=CellsAt.whole hBx;have hcb:W.cell? ⟨w.heap.size,0,none⟩=some (.map (some mb)):=by simp[World.cell?,hbW]
  refine wpIn_block ?_;refine wpIn_region_lit ?_;refine qX rfl rfl fun K hK=>?_
  refine zO (zE 200 _ (by rfl) w.heap.size 0 (by rfl) _ hcb _ underlying200 rfl) ?_;refine hK _ _ ?_;clear hK K;refine qX rfl rfl fun K hK=>?_
  refine zO (zI 24 _ (by rfl) Bx 0 (by rfl) (qA x) hca _ underlying24 rfl 32 (by kernel_rfl) hic) ?_;refine hK _ _ ?_;clear hK K;simp only[nmz]
  refine qX rfl rfl fun K hK=>?_;refine zO (qO 216 [] [] _ (by rfl) (by rfl) built_wmark) ?_;refine hK _ _ ?_;clear hK K;simp only[nmz]
  refine qX rfl rfl fun K hK=>?_;refine wp_putL keyT_id hMW x hx32 200 216 underlying200 _ _ _ (.agg #[]) (by rfl) (by rfl) (by rfl) (by rfl) (fun w4 hM4 hm4=>?_)
  refine hK _ _ ?_;clear hK K;refine wpListIn_nil ?_
  have hmapb:∃es clk,W.heap[mb]?=some (.map es clk):=by
   obtain⟨⟨es,clk,h1,_⟩,_⟩:=hMW;exact⟨es,clk,h1⟩
  obtain⟨es,clk,hmo⟩:=hmapb;refine⟨?_,KC.of_mod hm4 (fun k o e ho=>?_),?_,?_,?_⟩
  ·exact KeepsFrom.of_grownBy hm4.grownAt (fun j e=>by cases e;omega)
  ·have e:k=mb:=e
   subst e;rw[hmo]at ho;cases ho;rfl
  ·rw[addsL_snoc];exact hM4
  ·exact hmW.trans hm4 (fun _ _ h=>h)
  ·exact hm4.obj (fun e=>by have e:w.heap.size=mb:=e;omega) hbW
 case done=>
  rintro D W hD ⟨hMW,hmW,hbW⟩ hK;have hcb:W.cell? ⟨w.heap.size,0,none⟩=some (.map (some mb)):=by simp[World.cell?,hbW]
  gi_wp2
  refine⟨by simp,.inl ⟨_,_,rfl,run_takeDeferred hK,?_⟩⟩;refine⟨_,results_tmp rfl _ _ _,rfl,?_,?_⟩
  ·refine hMW.keep ((Mod.refl (fun k=>k=D) W).grown (grownBy_putObj' W D _) (fun k e _=>by cases e;rfl)) (fun e=>by have e:mb=D:=e;omega)
  ·refine hmW.trans ((Mod.refl (fun k=>k=D) W).grown (grownBy_putObj' W D _) (fun k e _=>by cases e;rfl)) (fun k hk e=>by have e:k=D:=e;omega)
theorem Sl.kc{α:Type}{w w':World}{G:Nat->Prop}{sz:Nat}{R R':Array Value->α->Prop}{v:Value}{l:List α}(h:Sl false w G sz R v l)(hm:KC w w')(hR:∀cs x,R cs x->R' cs x):Sl false w' G sz R' v l:=by
 obtain⟨a,cap,hv,hl,hc,h⟩:=h;refine⟨a,cap,hv,hl,hc,fun hne=>?_⟩;obtain⟨b,off,ha,hG,-,hi⟩:=h hne
 refine⟨b,off,ha,hG,fun e=>(by cases e),fun i hlt=>?_⟩;obtain⟨cs,h1,h2,h3⟩:=hi i hlt;exact⟨cs,h1,hR _ _ h2,hm.cells h3⟩
abbrev AnyB:Nat->Prop:=fun _=>True
abbrev HeldL:=(Int×Int)×List UInt8
def xM(h:HeldL):Array Value:=#[.int .i64 h.1.1,.int .i64 h.1.2]++qA h.2
def HeldC(cs:Array Value)(h:HeldL):Prop:=cs=xM h/\h.2.length=32
theorem heldCells_one(h:HeldL):∀c∈xM h,c.oneCell'=true:=by
 intro c hc;simp only[xM,Array.mem_append]at hc
 rcases hc with hc|hc
 ·simp at hc;rcases hc with rfl|rfl<;>rfl
 ·exact qT _ c hc
theorem jP{h:HeldL}(hh:h.2.length=32):(xM h).size=34:=by simp[xM,qD,hh]
abbrev RowX:=Value×List HeldL
def RowAt(w:World)(x:RowX):Prop:=Sl false w AnyB 34 HeldC x.1 x.2
theorem RowAt.kc{w w':World}{x:RowX}(h:RowAt w x)(hm:KC w w'):RowAt w' x:=Sl.kc h hm fun _ _ h=>h
theorem RowAt.one{w:World}{x:RowX}(h:RowAt w x):x.1.oneCell'=true:=Sl.one h
structure TagX where
 name:ByteArray
 row:RowX
structure RepX where
 name:ByteArray
 tv:Value
 tags:List TagX
 man:RowX
def TagC(w:World)(cs:Array Value)(t:TagX):Prop:=cs=#[.string t.name,t.row.1]/\RowAt w t.row
structure RepAt(w:World)(r:RepX):Prop where
 tags:Sl false w AnyB 2 (TagC w) r.tv r.tags
 man:RowAt w r.man
def RepC(w:World)(cs:Array Value)(r:RepX):Prop:=cs=#[.string r.name,r.tv,r.man.1]/\RepAt w r
theorem RepAt.kc{w w':World}{r:RepX}(h:RepAt w r)(hm:KC w w'):RepAt w' r:=⟨Sl.kc h.tags hm fun _ _ h=>⟨h.1,h.2.kc hm⟩,h.man.kc hm⟩
abbrev RepsAt(w:World)(v:Value)(l:List RepX):Prop:=Sl false w AnyB 3 (RepC w) v l
theorem xN{w w':World}{v:Value}{l:List RepX}(h:RepsAt w v l)(hm:KC w w'):RepsAt w' v l:=Sl.kc h hm fun _ _ h=>⟨h.1,h.2.kc hm⟩
def repRows(r:RepX):List RowX:=r.tags.map (·.row)++[r.man]
def rowsX(l:List RepX):List RowX:=l.flatMap repRows
theorem rowsX_app(a b:List RepX):rowsX (a++b)=rowsX a++rowsX b:=List.flatMap_append
theorem rowsX_cons(r:RepX)(b:List RepX):rowsX (r::b)=(r.tags.map (·.row)++[r.man])++rowsX b:=List.flatMap_cons
theorem rowsX_tag(l:List RepX)(k:Nat)(hk:k<l.length)(m:Nat)(hm:m<l[k].tags.length):∃rest,rowsX l=(rowsX (l.take k)++(l[k].tags.take m).map (·.row))++l[k].tags[m].row::rest:=by
 have h1:=congrArg rowsX (take_split hk);have h2:=congrArg (List.map (·.row)) (take_split hm);rw[rowsX_app,rowsX_cons]at h1;rw[List.map_append,List.map_cons]at h2
 refine⟨(l[k].tags.drop (m+1)).map (·.row)++[l[k].man]++rowsX (l.drop (k+1)),?_⟩;rw[h1,h2];simp only[List.append_assoc,List.cons_append]
theorem rowsX_man(l:List RepX)(k:Nat)(hk:k<l.length):∃rest,rowsX l=(rowsX (l.take k)++l[k].tags.map (·.row))++l[k].man::rest:=by
 have h1:=congrArg rowsX (take_split hk);rw[rowsX_app,rowsX_cons]at h1;refine⟨rowsX (l.drop (k+1)),?_⟩;rw[h1]
 simp only[List.append_assoc,List.cons_append,List.nil_append]
theorem rowsX_succ(l:List RepX)(k:Nat)(hk:k<l.length):rowsX (l.take (k+1))=(rowsX (l.take k)++l[k].tags.map (·.row))++[l[k].man]:=by
 have h1:=congrArg rowsX (List.take_succ_eq_append_getElem hk);rw[rowsX_app,rowsX_cons]at h1;rw[h1];simp only[List.append_assoc,rowsX,List.flatMap_nil,List.append_nil]
theorem tableZ:(prog.info? 71).bind (·.zero)=some (.agg #[.slice none 0 0,.slice none 0 0]):=by kernel_rfl
theorem swRts_any(w:World)(vv rv:Value)(h1:vv.oneCell'=true)(h2:rv.oneCell'=true):Calls prog 117 #[.agg #[vv,rv]] w fun e w'=>e=.returned (.func (.func 192) #[] #[.pointer (some ⟨w.heap.size,0,none⟩)])/\w'=w.alloc (.cells #[vv,rv] 71):=by
 have hmf:=xD;go_enter func117,ntmps117;go_wp2;go_ret;exact⟨rfl,rfl⟩
theorem swIds_any(w:World)(f:Fn)(lb:Array Value):Calls prog 116 #[.func f #[] lb] w fun e w'=>e=.returned (.func (.func 191) #[] #[.pointer (some ⟨w.heap.size,0,none⟩)])/\w'=w.alloc (.cells #[.func f #[] lb] 206):=by
 have hmf:=xD;go_enter func116,ntmps116;go_wp2;go_ret;exact⟨rfl,rfl⟩
theorem exec_fieldAddr{P:Program}{o:Oper}{a:Act}{w:World}(s:TypeId)(x:Operand)(f k b off:Nat)(ho:o.op=.fieldAddr s x f)(hx:a.eval x=.pointer (some ⟨b,off,none⟩))(hk:qU P s f=some k):(execOp a.eval o).run P w=.ok (.value (.pointer (some ⟨b,off+k,none⟩))) w:=by
 unfold execOp;simp only[ho,hx,Sem.run_bind,run_fieldAt hk,Result.andThen_ok,Sem.run_pure]
theorem repZ:(prog.info? 186).bind (·.zero)=some (.agg #[.string ⟨#[]⟩,.slice none 0 0,.slice none 0 0]):=by kernel_rfl
theorem tagZ:(prog.info? 188).bind (·.zero)=some (.agg #[.string ⟨#[]⟩,.slice none 0 0]):=by kernel_rfl
def RtsRel(reps:List RepX)(J:List RowX->World->Prop)(W0:World)(i:Value)(w:World):Prop:=
 ∃k:Nat,k<=reps.length/\i=.int .i64 k/\J (rowsX (reps.take k)) w/\KC W0 w
def TgsRel(pre:List RowX)(tags:List TagX)(J:List RowX->World->Prop)(W0:World)(i:Value)(w:World):Prop:=
 ∃m:Nat,m<=tags.length/\i=.int .i64 m/\J (pre++(tags.take m).map (·.row)) w/\KC W0 w
theorem swRts_gives{w:World}{B:Nat}{vv rv:Value}{reps:List RepX}(hB:w.heap[B]?=some (.cells #[vv,rv] 71 (0,0)))(hv:RepsAt w rv reps):
 Gives prog 192 #[.pointer (some ⟨B,0,none⟩)] (fun x:RowX=>#[x.1]) (rowsX reps) w:=by
 intro y J W hW hJ hY h0;have hBW:=hW.obj id hB;have hvW:RepsAt W rv reps:=xN hv (KC.of0 hW);have hone:=Sl.one hv;obtain⟨ad,cap,rfl,hle,hat⟩:=Sl.at hvW
 have HAT:=hid hat;have hcB:W.cell? ⟨B,0+1,none⟩=some (.slice ad reps.length cap):=by simp[World.cell?,hBW]
 have HR0:Hid (RtsRel reps J W (.int .i64 (0:Nat)) W):=hid ⟨0,Nat.zero_le _,rfl,by rw[List.take_zero];exact h0,KC.refl _⟩;clear hB hv hat h0 hW hvW hone
 go_enter func192,ntmps192;go_upto_region 0 with(fail);refine wpR [3,1,3,3] (by rfl) (by rfl) ?_;simp only[stz];refine wpXd 69 B (0+1) hcB underlying69 trivial ?_
 try simp only[nmz]
 refine zD _ _ _ _ _ rfl rfl rfl (by kernel_rfl) ?_;simp only[stz];clear hcB hBW;go_wp2
 go_loopw [10] (RtsRel reps J W) (fun i _=>reps.length-(intOf i).toNat)
 case atStart=>exact HR0.out
 case round=>
  rename World=>wr
  obtain⟨k,hk,rfl,hJr,hkc⟩:=hrel
  by_cases hlt:k<reps.length
  ·have hz:(k:Int)<(reps.length:Nat):=by omega
   obtain⟨b,off,rfl,-,-,hcc⟩:=HAT.out k hlt;obtain⟨cs,-,⟨rfl,hra⟩,hcA⟩:=hcc k hlt;have hsm:=rowsX_man reps k hlt;have hst:=rowsX_tag reps k hlt
   have hsn:=rowsX_succ reps k hlt;generalize reps[k]=x at*;have hic:(#[Value.string x.name,x.tv,x.man.1]:Array Value).size=3:=rfl
   have h1x:∀c∈(#[Value.string x.name,x.tv,x.man.1]:Array Value),c.oneCell'=true:=by
    intro c hc
    simp at hc
    rcases hc with rfl|rfl|rfl
    ·rfl
    ·exact Sl.one hra.tags
    ·exact hra.man.one
   have hcr:=hkc.cells hcA;have HRA:=hid hra;have HSM:=hid hsm;have HST:=hid hst;have HSN:=hid hsn;clear hsm hst hsn hcc hcA hra;go_upto_region 2 with(fail)
   refine wpR [3,1,1,1] (by rfl) (by rfl) ?_;simp only[stz];refine qQ _ _ _ _ _ _ _ _ _ rfl rfl rfl rfl underlying69 (n:=3) (by kernel_rfl) hlt ?_;simp only[nmz]
   refine wpXA 186 b (off+k*3) #[Value.string x.name,x.tv,x.man.1] hcr underlying186 3 hic trivial ?_;try simp only[nmz]
   refine wpDo rfl ?_;refine qR 186 _ (by rfl) repZ (fun w2 hB2 hm2 hs2=>?_)
   replace hB2:w2.heap[wr.heap.size]?=some (.cells #[.string ⟨#[]⟩,.slice none 0 0,.slice none 0 0] 186 (0,0)):=hB2;try simp only[nmz]
   refine wpDo rfl ?_
   refine qH 186 _ _ wr.heap.size 0 #[Value.string x.name,x.tv,x.man.1] (by rfl) (by rfl) (by rfl) h1x 3 (by kernel_rfl) hic _ _ hB2 (by simp) (fun w3 hB3 hm3=>?_)
   rw[qF (by simp)]at hB3;simp only[stz];have hmr3:Mod NoB wr w3:=hm2.transB hm3 (Nat.le_refl _);have hJ3:=OwnFrom.mod0 hJ hJr hmr3
   have hk3:=hkc.trans (KC.of0 hmr3);have hra3:=HRA.out.kc hk3;generalize hb7:wr.heap.size=b7 at*;obtain⟨ta,tcap,htv,htle,htat⟩:=Sl.at hra3.tags
   have HTAT:=hid htat;have HMAN:=hid hra3.man;have hcT:w3.cell? ⟨b7,0+1,none⟩=some (.slice ta x.tags.length tcap):=by rw[<-htv];simp[World.cell?,hB3]
   have hcM:w3.cell? ⟨b7,0+2,none⟩=some x.man.1:=by simp[World.cell?,hB3]
   have hmn1:=hra3.man.one;have HT0:Hid (TgsRel (rowsX (reps.take k)) x.tags J w3 (.int .i64 (0:Nat)) w3):=hid ⟨0,Nat.zero_le _,rfl,by simpa using hJ3,KC.refl _⟩
   have HK3:=hid hk3;clear hkc hm2 hm3 hmr3 hB2 hcr hs2 hJr hJ3 hB3 htat hra3 h1x htv hk3;go_upto_region 3 with(fail);refine wpR [3,1,3,3] (by rfl) (by rfl) ?_
   simp only[stz];refine wpXd 183 b7 (0+1) hcT underlying183 trivial ?_;try simp only[nmz]
   refine zD _ _ _ _ _ rfl rfl rfl (by kernel_rfl) ?_;simp only[stz];clear hcT;go_wp2
   go_loopw [17] (TgsRel (rowsX (reps.take k)) x.tags J w3) (fun i _=>x.tags.length-(intOf i).toNat)
   case atStart=>exact HT0.out
   case round=>
    rename World=>wq
    obtain⟨m,hmle,rfl,hJq,hkq⟩:=hrel
    by_cases hltm:m<x.tags.length
    ·have hzm:(m:Int)<(x.tags.length:Nat):=by omega
     obtain⟨tb,toff,rfl,-,-,htcc⟩:=HTAT.out m hltm;obtain⟨cs,-,⟨rfl,hta⟩,htA⟩:=htcc m hltm;obtain⟨rest,hsp⟩:=HST.out m hltm
     have hsn:(x.tags.take m).map (·.row)++[x.tags[m].row]=(x.tags.take (m+1)).map (·.row):=by have h9:=congrArg (List.map (·.row)) (take_snoc hltm);rw[List.map_append]at h9;exact h9
     generalize x.tags[m]=t at*;have hict:(#[Value.string t.name,t.row.1]:Array Value).size=2:=rfl
     have h1t:∀c∈(#[Value.string t.name,t.row.1]:Array Value),c.oneCell'=true:=by
      intro c hc
      simp at hc
      rcases hc with rfl|rfl
      ·rfl
      ·exact hta.one
     have h1r:=hta.one;have hctr:=hkq.cells htA;have HSP:=hid hsp;have HSQ:=hid hsn;clear hsp hsn htcc htA hta;go_upto_region 5 with(fail)
     refine wpR [3,1,1,1] (by rfl) (by rfl) ?_;simp only[stz];refine qQ _ _ _ _ _ _ _ _ _ rfl rfl rfl rfl underlying183 (n:=2) (by kernel_rfl) hltm ?_
     simp only[nmz];refine wpXA 188 tb (toff+m*2) #[Value.string t.name,t.row.1] hctr underlying188 2 hict trivial ?_;try simp only[nmz]
     refine wpDo rfl ?_;refine qR 188 _ (by rfl) tagZ (fun w2 hB2 hm2 hs2=>?_)
     replace hB2:w2.heap[wq.heap.size]?=some (.cells #[.string ⟨#[]⟩,.slice none 0 0] 188 (0,0)):=hB2;try simp only[nmz]
     refine wpDo rfl ?_
     refine qH 188 _ _ wq.heap.size 0 #[Value.string t.name,t.row.1] (by rfl) (by rfl) (by rfl) h1t 2 (by kernel_rfl) hict _ _ hB2 (by simp) (fun w4 hB4 hm4=>?_)
     rw[qF (by simp)]at hB4;simp only[stz];have hmr4:Mod NoB wq w4:=hm2.transB hm4 (Nat.le_refl _);have hJ4:=OwnFrom.mod0 hJ hJq hmr4
     have hk4:=hkq.trans (KC.of0 hmr4);have hYk:=hY _ t.row _ w4 HSP.out hJ4;have hcR:w4.cell? ⟨wq.heap.size,0+1,none⟩=some t.row.1:=by simp[World.cell?,hB4]
     generalize hb9:wq.heap.size=b9 at*;clear hkq hm2 hm4 hmr4 hB2 hctr hs2 hJq hJ4 hB4 h1t;go_upto_region 6 with(fail);refine(wpIn_wide (n:=1)).1 (wpIn_region_lit ?_)
     refine wpListIn_plain rfl fun K hK=>zH (fun c h=>by cases h) ?_;refine zO (exec_move _ (by rfl)) ?_;refine hK _ _ ?_;clear hK K
     refine wpListIn_plain rfl fun K hK=>zH (fun c h=>by cases h) ?_;refine zO (exec_fieldAddr 188 _ 1 1 b9 0 (by rfl) (by rfl) (by kernel_rfl)) ?_
     refine hK _ _ ?_;clear hK K;simp only[nmz];refine wpListIn_plain rfl fun K hK=>zH (fun c h=>by cases h) ?_
     refine zO (zE 184 _ (by rfl) b9 (0+1) (by rfl) _ hcR _ underlying184 rfl) ?_;refine hK _ _ ?_;clear hK K
     refine wpListIn_plain rfl fun K hK=>jJ (l:=y) _ _ _ (by rfl) (by rfl) t.row.1 (by rfl) hYk (fun e' w5 he'=>?_);obtain⟨rfl,hJ5,hk5,-⟩:=he'
     refine⟨_,rfl,?_⟩;refine hK _ _ ?_;clear hK K;refine wpListIn_plain rfl fun K hK=>zH (fun c h=>by cases h) ?_
     refine zO (jR _ _ true (by rfl) (by rfl)) ?_;refine hK _ _ ?_;clear hK K;simp only[nmz];refine wpListIn_nil ?_
     have HQ:Hid (TgsRel (rowsX (reps.take k)) x.tags J w3 (.int .i64 ((m+1:Nat):Int)) w5):=hid ⟨m+1,by omega,rfl,by rw[<-HSQ.out,<-List.append_assoc];exact hJ5,hk4.trans hk5⟩
     clear hk4 hk5 hJ5 hYk hcR;go_wp2
     go_roundw
     case rel=>exact HQ.out
     case measure=>simp[intOf];omega
    ·have hzm:¬(m:Int)<(x.tags.length:Nat):=by omega
     obtain rfl:m=x.tags.length:=by omega
     rw[List.take_length]at hJq;obtain⟨rest,hsp⟩:=HSM.out;have hYk:=hY _ x.man _ wq hsp hJq;have hcQ:=hkq.cell hcM;have hkk:=HK3.out.trans hkq;clear hsp hJq hkq
     go_upto_region 8 with(fail);refine(wpIn_wide (n:=1)).1 (wpIn_region_lit ?_);refine wpListIn_plain rfl fun K hK=>zH (fun c h=>by cases h) ?_
     refine zO (exec_move _ (by rfl)) ?_;refine hK _ _ ?_;clear hK K;refine wpListIn_plain rfl fun K hK=>zH (fun c h=>by cases h) ?_
     refine zO (exec_fieldAddr 186 _ 2 2 b7 0 (by rfl) (by rfl) (by kernel_rfl)) ?_;refine hK _ _ ?_;clear hK K;simp only[nmz]
     refine wpListIn_plain rfl fun K hK=>zH (fun c h=>by cases h) ?_;refine zO (zE 184 _ (by rfl) b7 (0+2) (by rfl) _ hcQ _ underlying184 rfl) ?_
     refine hK _ _ ?_;clear hK K;refine wpListIn_plain rfl fun K hK=>jJ (l:=y) _ _ _ (by rfl) (by rfl) x.man.1 (by rfl) hYk (fun e' w5 he'=>?_)
     obtain⟨rfl,hJ5,hk5,-⟩:=he';refine⟨_,rfl,?_⟩;refine hK _ _ ?_;clear hK K;refine wpListIn_plain rfl fun K hK=>zH (fun c h=>by cases h) ?_
     refine zO (jR _ _ true (by rfl) (by rfl)) ?_;refine hK _ _ ?_;clear hK K;simp only[nmz];refine wpListIn_nil ?_
     have HR:Hid (RtsRel reps J W (.int .i64 ((k+1:Nat):Int)) w5):=hid ⟨k+1,by omega,rfl,by rw[HSN.out];exact hJ5,hkk.trans hk5⟩;clear hkk hk5 hJ5 hYk hcQ;go_wp2
     go_roundw
     case rel=>exact HR.out
     case measure=>simp[intOf];omega
  ·have hz:¬(k:Int)<(reps.length:Nat):=by omega
   obtain rfl:k=reps.length:=by omega
   rw[List.take_length]at hJr;have HJ:=hid hJr;clear hJr;go_wp2
   go_end0
   exact⟨⟨_,rfl⟩,HJ.out⟩
attribute [local go_sem] Oper.semAt_some
theorem exec_assign{P:Program}{o:Oper}{a:Act}{w:World}(x:Operand)(ho:o.op=.assign x):(execOp a.eval o).run P w=.ok (.value (a.eval x)) w:=by
 unfold execOp;simp only[ho];rfl
theorem exec_indexAddr{P:Program}{o:Oper}{a:Act}{w:World}(t:TypeId)(x y:Operand)(e:TypeId)(b off len cap n i:Nat)(ho:o.op=.indexAddr t x y)(hx:a.eval x=.slice (some ⟨b,off,none⟩) len cap)(hy:a.eval y=.int .i64 i)(hu:P.underlying t=some (.slice e))
 (hi:(P.info? e).map (·.size)=some n)(hlt:i<len):(execOp a.eval o).run P w=.ok (.value (.pointer (some ⟨b,off+i*n,none⟩))) w:=by
 unfold execOp;simp only[ho,hx,hy,Sem.run_bind,run_indexAt_slice hu hi hlt,Result.andThen_ok,Sem.run_pure]
theorem heldZ:(prog.info? 211).bind (·.zero)=some (.agg (xM ((0,0),List.replicate 32 0))):=by kernel_rfl
def yE(rows:List RowX):List (List UInt8):=rows.flatMap fun r=>r.2.map (·.2)
def IdsI(J:List (List UInt8)->World->Prop)(W0:World)(pre:List RowX)(W:World):Prop:=J (yE pre) W/\KC W0 W
theorem KC.own{β:Type}(W0:World)(B:Nat):OwnFrom B (fun(_:β) W=>KC W0 W):=fun s A C row hs hg hr=>
 hs.trans (KC.of_mod (Mod.of_grown hg fun r e=>e.symm) (S:=fun k=>some k=row) (fun k o e ho=>by
  obtain⟨_,o',ho',hc⟩:=hr k e.symm
  rw[ho]at ho';cases ho';exact hc))
def IdsAx(y B Bs:Nat)(fv:Value)(x:RowX)(a:Act)(_:World):Prop:=
 a={ tmps:=#[.func (.yield y) #[] #[],.pointer (some ⟨B,0,none⟩),.pointer (some ⟨Bs,0,none⟩),x.1,undef,undef,fv,x.1,undef,undef,undef,undef,undef,undef,undef,undef,undef,undef,undef,undef],defers:=[] }
theorem wpIn_yieldR{P:Program}{n l₀:Nat}{o:Oper}{a:Act}{w:World}{K:Act->World->Prop}{Q:Exit->Act->World->Prop}{l:Nat}{R:Ending->World->Prop}(x y:Operand)(ts:Array TypeId)(ho:o.op=.call { callee:=.value x,args:=#[y],argTypes:=ts })(hx:a.eval x=.func (.yield l) #[] #[])(v:Value)(hv:a.eval y=v)
 (hy:YieldAt Fence.wide 0 P l #[v] w R)(hR:∀e w',R e w'->∃v,e=.returned v/\K (a.put o.dst v) w'):o.wpIn (Fence.wide.inRound l₀) n P a w K Q:=by
 subst hv;obtain⟨fn,tmps,assign,body,hrun,hround⟩:=yield_round (l₀:=l₀) (yield0 (m':=n-1) hy);unfold Oper.wpIn;refine⟨fun _ _=>trivial,?_⟩
 rw[Oper.semAt_eq _ _ _ (fun c h=>by rw[ho]at h;cases h)]
 have e:(execOp a.eval o).run P w=.ok (.round l fn tmps assign body) w:=by
  unfold execOp
  simp[ho,resolve,hx,Deferred.ofValue,invoke,hrun]
 rw[e];refine⟨fun h=>by simp[Fence.wide]at h,hround.mono fun e w' he=>?_⟩;obtain⟨v,rfl,hk⟩:=hR e w' he;exact hk
def HlsRel(pre:List (List UInt8))(hs:List HeldL)(J:List (List UInt8)->World->Prop)(B:Nat)(W0:World)(i:Value)(w:World):Prop:=
 ∃k:Nat,k<=hs.length/\i=.int .i64 k/\J (pre++(hs.take k).map (·.2)) w/\KC W0 w/\KeepsFrom B W0 w
theorem rowIds_app(a b:List RowX):yE (a++b)=yE a++yE b:=List.flatMap_append
theorem rowIds_cons(r:RowX)(b:List RowX):yE (r::b)=r.2.map (·.2)++yE b:=List.flatMap_cons
theorem rowIds_split{rows pre rest:List RowX}{v:Value}{hs:List HeldL}(h:rows=pre++(v,hs)::rest)(k:Nat)(hk:k<hs.length):∃r,yE rows=(yE pre++(hs.take k).map (·.2))++hs[k].2::r:=by
 have h2:=congrArg (List.map (·.2)) (take_split hk);rw[List.map_append,List.map_cons]at h2;refine⟨(hs.drop (k+1)).map (·.2)++yE rest,?_⟩
 rw[h,rowIds_app,rowIds_cons]
 show yE pre++(hs.map (·.2)++yE rest)=_
 rw[h2];simp only[List.append_assoc,List.cons_append]
theorem swIds_gives{w:World}{B gf:Nat}{lb:Array Value}{rows:List RowX}(eg:∀args w,(callFunc gf args).run prog w=.ok (.enter gf args) w)(hB:w.heap[B]?=some (.cells #[.func (.func gf) #[] lb] 206 (0,0)))
 (hG:Gives prog gf lb (fun x:RowX=>#[x.1]) rows w)(hrows:∀r∈rows,RowAt w r):
 Gives prog 191 #[.pointer (some ⟨B,0,none⟩)] (fun x=>#[idV x]) (yE rows) w:=by
 intro y J W hW hJ hY h0;have hBW:=hW.obj id hB;have hcB:W.cell? ⟨B,0,none⟩=some (.func (.func gf) #[] lb):=by simp[World.cell?,hBW]
 refine(callsIn_wide (n:=3)).1 (callsIn_of_wp_marks func191 rfl trivial ?_ rfl)
 simp only[ntmps191,List.size_toArray,List.length_cons,List.length_nil,Nat.reduceAdd,Nat.reduceSub,Array.replicate_succ,Array.replicate_zero,List.push_toArray,List.append_toArray,List.nil_append,List.cons_append]
 have hm0:=qZ W (.cells #[.func (.yield y) #[] #[]] 44);have hv0:=heap_alloc_new W (.cells #[.func (.yield y) #[] #[]] 44)
 have hs0:(W.alloc (.cells #[.func (.yield y) #[] #[]] 44)).heap.size=W.heap.size+1:=by simp
 have hcB0:(W.alloc (.cells #[.func (.yield y) #[] #[]] 44)).cell? ⟨B,0,none⟩=some (.func (.func gf) #[] lb):=(KC.of0 hm0).cell hcB
 gi_wp2
 generalize W.alloc (.cells #[.func (.yield y) #[] #[]] 44)=W0 at*
 refine wpIn_rangeFunc_giv (gf:=gf) (lb:=lb) (by rfl) eg hG (hW.trans0 hm0) (fun _=>rfl)
  (IdsI J W0) ?own ⟨OwnFrom.mod0 hJ h0 hm0,KC.refl _⟩
  (IdsAx y B W.heap.size (.func (.func gf) #[] lb))
  (fun x a' s A C row hs hg hr=>hs)
  ?assign ?body ?done
 case own=>
  intro s A C row hs hg hr;exact⟨hJ _ A C row hs.1 hg (fun r e=>⟨by have:=(hr r e).1;omega,(hr r e).2⟩),KC.own (β:=Unit) W0 _ () A C row hs.2 hg hr⟩
 case assign=>
  rintro l pre x rest Wc K hxs hI hK0
  simp only[List.zip_toArray,List.zip_cons_cons,List.zip_nil_right,List.foldl_toArray',List.foldl_cons,List.foldl_nil,List.setIfInBounds_toArray,ss,sz]
  refine wpIn_region_lit ?_;refine qX rfl rfl fun K hK=>?_;refine zO (exec_assign _ (by rfl)) ?_;refine hK _ _ ?_;clear hK K;refine wpListIn_nil ?_
  exact hK0 _ _ (KeepsFrom.refl _ _) (KC.refl _) hI rfl
 case body=>
  rintro l pre x rest a' Wc hxs ⟨hJc,hkc⟩ rfl;have hrc:RowAt Wc x:=(hrows x (by rw[hxs];simp)).kc (((KC.of0 hW).trans (KC.of0 hm0)).trans hkc);obtain⟨v,hs⟩:=x
  replace hrc:Sl false Wc AnyB 34 HeldC v hs:=hrc;obtain⟨ad,cap,rfl,hle,hat⟩:=Sl.at hrc;have HAT:=hid hat;have hcY:=hkc.obj hv0 rfl
  have HR0:Hid (HlsRel (yE pre) hs J W0.heap.size Wc (.int .i64 (0:Nat)) Wc):=hid ⟨0,Nat.zero_le _,rfl,by simpa using hJc,KC.refl _,KeepsFrom.refl _ _⟩
  have HSP:=hid (rowIds_split hxs);clear hat hrc hW hBW hcB hG hrows hcB0 hB
  gi_wp2
  gi_loopw [10] (HlsRel (yE pre) hs J W0.heap.size Wc) (fun i _=>hs.length-(intOf i).toNat)
  case atStart=>exact HR0.out
  case round=>
   rename World=>wr
   obtain⟨k,hk,rfl,hJr,hkr,hfr⟩:=hrel
   by_cases hlt:k<hs.length
   ·have hz:(k:Int)<(hs.length:Nat):=by omega
    obtain⟨b,off,rfl,-,-,hcc⟩:=HAT.out k hlt;obtain⟨cs,-,⟨rfl,hx32⟩,hcA⟩:=hcc k hlt;obtain⟨rest',hsp⟩:=HSP.out k hlt
    have hsn:(hs.take k).map (·.2)++[hs[k].2]=(hs.take (k+1)).map (·.2):=by have h9:=congrArg (List.map (·.2)) (take_snoc hlt);rw[List.map_append]at h9;exact h9
    generalize hs[k]=h at*;have hic:(xM h).size=34:=jP hx32;have hidc:(qA h.2).size=32:=by rw[qD,hx32]
    have hcr:=hkr.cells hcA;have HSN:=hid hsn;have HSQ:=hid hsp;clear hsp hsn hcc hcA
    gi_upto_region 5 with(fail)
    refine wpIn_region_lit ?_;refine qX rfl rfl fun K hK=>?_
    refine zO (exec_indexAddr 184 _ _ 211 b off hs.length cap 34 k (by rfl) (by rfl) (by rfl) underlying184 (by kernel_rfl) hlt) ?_;refine hK _ _ ?_;clear hK K;simp only[nmz]
    refine qX rfl rfl fun K hK=>?_;refine zO (zI 211 _ (by rfl) b (off+k*34) (by rfl) (xM h) hcr _ underlying211 rfl 34 (by kernel_rfl) hic) ?_
    refine hK _ _ ?_;clear hK K;simp only[nmz];refine qX rfl rfl fun K hK=>?_;refine qR 211 _ (by rfl) heldZ (fun w2 hB2 hm2 hs2=>?_)
    replace hB2:w2.heap[wr.heap.size]?=some (.cells (xM ((0,0),List.replicate 32 0)) 211 (0,0)):=hB2;refine hK _ _ ?_;clear hK K;simp only[nmz]
    refine qX rfl rfl fun K hK=>?_
    refine qH 211 _ _ wr.heap.size 0 (xM h) (by rfl) (by rfl) (by rfl) (heldCells_one _) 34 (by kernel_rfl) hic _ _ hB2 (by rw[hic,jP (by simp)];omega) (fun w3 hB3 hm3=>?_)
    rw[qF (by rw[hic,jP (by simp)])]at hB3;refine hK _ _ ?_;clear hK K;refine wpListIn_nil ?_;have hmr3:Mod NoB wr w3:=hm2.transB hm3 (Nat.le_refl _)
    have hJ3:=OwnFrom.mod0 hJ hJr hmr3;have hk3:=hkr.trans (KC.of0 hmr3);have hf3:KeepsFrom W0.heap.size Wc w3:=hfr.trans (hmr3.keepsOthers0.from _)
    have hYk:=hY _ h.2 _ w3 HSQ.out hJ3;have hcY3:w3.cell? ⟨W.heap.size,0,none⟩=some (.func (.yield y) #[] #[]):=by simp[World.cell?,hk3.obj hcY rfl]
    have hcI:CellsAt w3 wr.heap.size (0+2) (qA h.2):=CellsAt.of_obj hB3 fun j hj=>by
     show(#[Value.int .i64 h.1.1,Value.int .i64 h.1.2]++qA h.2)[0+2+j]?=_
     rw[Array.getElem?_append_right (by simp)]
     simp
    generalize hb7:wr.heap.size=b7 at*;clear hkr hm2 hm3 hmr3 hB2 hcr hs2 hJr hJ3 hB3 hfr
    gi_upto_region 6 with(fail)
    refine wpIn_region_lit ?_;refine qX rfl rfl fun K hK=>?_;refine zO (zE 44 _ (by rfl) W.heap.size 0 (by rfl) _ hcY3 _ underlying44 rfl) ?_
    refine hK _ _ ?_;clear hK K;refine qX rfl rfl fun K hK=>?_;refine zO (exec_fieldAddr 211 _ 1 2 b7 0 (by rfl) (by rfl) (by kernel_rfl)) ?_;refine hK _ _ ?_
    clear hK K;simp only[nmz];refine qX rfl rfl fun K hK=>?_
    refine zO (zI 24 _ (by rfl) b7 (0+2) (by rfl) (qA h.2) hcI _ underlying24 rfl 32 (by kernel_rfl) hidc) ?_;refine hK _ _ ?_;clear hK K;simp only[nmz]
    refine wpListIn_plain rfl fun K hK=>wpIn_yieldR (l:=y) _ _ _ (by rfl) (by rfl) (idV h.2) (by rfl) hYk (fun e' w5 he'=>?_);obtain⟨rfl,hJ5,hk5,hf5⟩:=he'
    refine⟨_,rfl,?_⟩;refine hK _ _ ?_;clear hK K;refine qX rfl rfl fun K hK=>?_;refine zO (jR _ _ true (by rfl) (by rfl)) ?_;refine hK _ _ ?_;clear hK K
    simp only[nmz];refine wpListIn_nil ?_
    have HR:Hid (HlsRel (yE pre) hs J W0.heap.size Wc (.int .i64 ((k+1:Nat):Int)) w5):=hid ⟨k+1,by omega,rfl,by rw[<-HSN.out,<-List.append_assoc];exact hJ5,hk3.trans hk5,hf3.trans ⟨hf5.size,fun j o hb ho hc=>hf5.same j o (by omega) ho hc⟩⟩
    clear hk3 hk5 hJ5 hYk hcY3 hcI hf3 hf5
    gi_wp2
    go_roundw
    case rel=>exact HR.out
    case measure=>simp[intOf];omega
   ·have hz:¬(k:Int)<(hs.length:Nat):=by omega
    obtain rfl:k=hs.length:=by omega
    rw[List.take_length]at hJr
    have HF:Hid (KeepsFrom W0.heap.size Wc wr/\KC Wc wr/\IdsI J W0 (pre++[(Value.slice ad hs.length cap,hs)]) wr):=hid ⟨hfr,hkr,by rw[rowIds_app,rowIds_cons];simpa[yE]using hJr,hkc.trans hkr⟩
    clear hJr hkr hfr
    gi_wp2
    have h9:=HF.out;rw[hs0]at h9;exact h9
 case done=>
  rintro D Wc hD ⟨hJc,hkc⟩ hK
  have hJd:J (yE rows) (Wc.putObj D (.deferred none)):=hJ _ Wc _ (some D) hJc (grownBy_putObj' Wc D _) (fun r e=>by cases e;exact⟨by omega,_,hK,rfl⟩)
  have HJ:=hid hJd;clear hJd hJc
  gi_wp2
  refine⟨by simp,.inl ⟨_,_,rfl,run_takeDeferred hK,?_⟩⟩;exact⟨_,results_none rfl _ _ _,⟨_,rfl⟩,HJ.out⟩
end
section
open Go.RowKit Go.Shelf Go.Proofs.Tryz Go.Lib
theorem addsL_mem(ids:List (List UInt8)):∀(all:List (List UInt8×Value))(x:List UInt8),x∈(addsL ids all).map (·.1)↔x∈ids\/x∈all.map (·.1):=by
 induction ids with
 |nil=>intro all x;simp[addsL]
 |cons y ids ih=>
  intro all x
  show x∈(addsL ids (putL y (.agg #[]) all)).map (·.1)↔_
  rw[ih,keys_put]
  by_cases hy:y∈all.map (·.1)
  ·rw[if_pos hy,List.mem_cons]
   constructor
   ·rintro(h|h)
    ·exact .inl (.inr h)
    ·exact .inr h
   ·rintro((rfl|h)|h)
    ·exact .inr hy
    ·exact .inl h
    ·exact .inr h
  ·rw[if_neg hy,List.mem_cons,List.mem_append,List.mem_singleton]
   constructor
   ·rintro(h|h|h)
    ·exact .inl (.inr h)
    ·exact .inr h
    ·exact .inl (.inl h)
   ·rintro((h|h)|h)
    ·exact .inr (.inr h)
    ·exact .inl h
    ·exact .inr (.inl h)
theorem addsL_len(ids:List (List UInt8)):∀(all:List (List UInt8×Value)),(addsL ids all).length<=ids.length+all.length:=by
 induction ids with
 |nil=>intro all;simp[addsL]
 |cons y ids ih=>
  intro all;have h1:=ih (putL y (.agg #[]) all);have h2:(putL y (.agg #[]) all).length<=all.length+1:=by rw[length_put];split<;>omega
  show(addsL ids (putL y (.agg #[]) all)).length<=_
  simp only[List.length_cons];omega
def SetOf(l out:List (List UInt8)):Prop:=out.Pairwise (fun a b=>a<b)/\∀x,x∈out↔x∈l
def SetR(w:World)(l:List (List UInt8)):Ending->World->Prop:=fun e w'=>Mod NoB w w'/\∃v out,e=.returned v/\GatI w.heap.size w' v out/\SetOf l out/\∀x∈out,x.length=32
theorem rowIds_ok{w:World}{rows:List RowX}(h:∀r∈rows,RowAt w r):∀x∈yE rows,x.length=32:=by
 intro x hx;obtain⟨r,hr,hx⟩:=List.mem_flatMap.1 hx;obtain⟨y,hy,rfl⟩:=List.mem_map.1 hx;obtain⟨a,cap,_,_,hat⟩:=Sl.at (h r hr)
 obtain⟨i,hi,rfl⟩:=List.getElem_of_mem hy;obtain⟨b,off,_,_,_,hc⟩:=hat i hi;obtain⟨cs,_,⟨_,h2⟩,_⟩:=hc i hi;exact h2
theorem rows_at{w:World}{v:Value}{reps:List RepX}(h:RepsAt w v reps):∀r∈rowsX reps,RowAt w r:=by
 intro r hr;obtain⟨p,hp,hr⟩:=List.mem_flatMap.1 hr;obtain⟨a,cap,_,_,hat⟩:=Sl.at h;obtain⟨i,hi,rfl⟩:=List.getElem_of_mem hp;obtain⟨b,off,_,_,_,hc⟩:=hat i hi
 obtain⟨cs,_,⟨_,h2⟩,_⟩:=hc i hi
 rcases List.mem_append.1 hr with hr|hr
 ·obtain⟨t,ht,rfl⟩:=List.mem_map.1 hr
  obtain⟨ta,tcap,_,_,htat⟩:=Sl.at h2.tags;obtain⟨j,hj,rfl⟩:=List.getElem_of_mem ht;obtain⟨tb,toff,_,_,_,htc⟩:=htat j hj;obtain⟨tcs,_,⟨_,h3⟩,_⟩:=htc j hj
  exact h3
 ·rw[List.mem_singleton]at hr
  subst hr;exact h2.man
abbrev rootsX(reps:List RepX):List (List UInt8):=yE (rowsX reps)
theorem swRoots_any{w:World}{vv rv:Value}{reps:List RepX}(h1:vv.oneCell'=true)(hv:RepsAt w rv reps)(hn:(rootsX reps).length<=65536):Calls prog 47 #[.agg #[vv,rv]] w (SetR w (rootsX reps)):=by
 have hmm:= @run_makeMap prog;have h2:=Sl.one hv;have hm1:=qZ w (.cells #[vv,rv] 71);have hB1:=heap_alloc_new w (.cells #[vv,rv] 71)
 obtain⟨w1,hw1⟩:∃w1,w.alloc (.cells #[vv,rv] 71)=w1:=⟨_,rfl⟩;rw[hw1]at hm1 hB1;have hs1:w1.heap.size=w.heap.size+1:=by rw[<-hw1];simp
 have hm2:=hm1.trans0 (qZ w1 (.map #[] 0));have hM2:=heap_alloc_new w1 (.map #[] 0);have hk2:KC w1 (w1.alloc (.map #[] 0)):=KC.of0 (qZ w1 _)
 obtain⟨w2,hw2⟩:∃w2,w1.alloc (.map #[] 0)=w2:=⟨_,rfl⟩;rw[hw2]at hm2 hM2 hk2;have hs2:w2.heap.size=w1.heap.size+1:=by rw[<-hw2];simp
 have hB2:=hk2.obj hB1 rfl;have hc3:=swRts_any w2 vv rv h1 h2;have hm3:=qZ w2 (.cells #[vv,rv] 71);have hB3:=heap_alloc_new w2 (.cells #[vv,rv] 71)
 obtain⟨w3,hw3⟩:∃w3,w2.alloc (.cells #[vv,rv] 71)=w3:=⟨_,rfl⟩;rw[hw3]at hm3 hB3;simp only[hw3]at hc3;have hv3:=xN hv (KC.of0 (hm2.trans0 hm3))
 have hg3:=swRts_gives hB3 hv3;have hc4:=swIds_any w3 (.func 192) #[.pointer (some ⟨w2.heap.size,0,none⟩)]
 have hm4:=qZ w3 (.cells #[.func (.func 192) #[] #[.pointer (some ⟨w2.heap.size,0,none⟩)]] 206)
 have hB4:=heap_alloc_new w3 (.cells #[.func (.func 192) #[] #[.pointer (some ⟨w2.heap.size,0,none⟩)]] 206)
 obtain⟨w4,hw4⟩:∃w4,w3.alloc (.cells #[.func (.func 192) #[] #[.pointer (some ⟨w2.heap.size,0,none⟩)]] 206)=w4:=⟨_,rfl⟩;rw[hw4]at hm4 hB4;simp only[hw4]at hc4
 have hv4:=xN hv3 (KC.of0 hm4)
 have hg4:Gives prog 192 #[.pointer (some ⟨w2.heap.size,0,none⟩)] (fun x:RowX=>#[x.1]) (rowsX reps) w4:=swRts_gives (hm4.obj id hB3) hv4;have hrows:=rows_at hv4
 have hg5:=swIds_gives (enters_of func192 (by kernel_rfl) rfl) hB4 hg4 hrows;have hmap4:MapIs idV IdOk w4 w1.heap.size []:=(MapIs.made hM2).keep0 (hm3.trans0 hm4)
 have hc5:=swAdd_any (enters_of func191 (by kernel_rfl) rfl) hg5 (rowIds_ok hrows) hmap4;have hm04:=hm2.trans0 (hm3.trans0 hm4)
 have hnl:(addsL (yE (rowsX reps)) []).length<=65536:=by have h9:=addsL_len (yE (rowsX reps)) [];have h8:(yE (rowsX reps)).length<=65536:=hn;simp only[List.length_nil]at h9;omega
 have hcT:CellsAt w2 w.heap.size 0 #[vv,rv]:=CellsAt.whole hB2;clear hg5 hrows hg4 hv4 hB4 hg3 hv3 hB3 hmap4 hk2 hM2 hB1 hv hB2 hw3 hw4;go_enter func47,ntmps47
 go_upto_region 1 with(fail)
 try rw[hw1]
 clear hw1;refine wpR [1,1,1,1,1,1,3] (by rfl) (by rfl) ?_;simp only[stz];refine qN rfl (fun K hK=>?_);unfold Oper.wp execOp
 simp only[Array.map_empty,Option.map_none,Sem.run_bind,hmm,Result.andThen_ok,Sem.run_pure]
 try rw[hw2]
 refine hK _ _ trivial ?_;clear hK K;try simp only[nmz]
 refine wpXA 71 w.heap.size 0 #[vv,rv] hcT underlying71 2 rfl trivial ?_;try simp only[nmz]
 refine wpDo rfl ?_;refine qB (qC 117 [.tmp 4] _ rfl _ func117 rfl (by kernel_rfl) [.agg #[vv,rv]] rfl _) (hc3) ?_;rintro e wa ⟨rfl,hw⟩;obtain rfl:=hw.symm
 refine⟨_,rfl,?_⟩;try simp only[nmz]
 refine wpDo rfl ?_;refine qB (qC 116 [.tmp 5] _ rfl _ func116 rfl (by kernel_rfl) [.func (.func 192) #[] #[.pointer (some ⟨w2.heap.size,0,none⟩)]] rfl _) (hc4) ?_
 rintro e wb ⟨rfl,hw⟩;obtain rfl:=hw.symm;refine⟨_,rfl,?_⟩;try simp only[nmz]
 refine wpDo rfl ?_
 refine qB (qC 115 [.tmp 3,.tmp 6] _ rfl _ func115 rfl (by kernel_rfl) [.map (some w1.heap.size),.func (.func 191) #[] #[.pointer (some ⟨w3.heap.size,0,none⟩)]] rfl _) (hc5) ?_
 rintro e w5 ⟨rfl,hM5,hm5⟩;have hc6:=swRising_any hM5 hnl;refine⟨_,rfl,?_⟩;try simp only[nmz]
 refine wpDo rfl ?_;refine qB (qC 118 [.tmp 7] _ rfl _ func118 rfl (by kernel_rfl) [.map (some w1.heap.size)] rfl _) (hc6) ?_
 rintro e w6 ⟨hm6,v6,out,he6,hg6,hs6,hp6,hl6⟩;subst he6
 have HF:Hid (SetR w (rootsX reps) (.returned v6) w6):=hid ⟨(hm04.trans hm5 (fun k hk e=>by have e:k=w1.heap.size:=e;omega)).trans0 hm6,v6,out,rfl,hg6.base (by have:=hm04.size;have:=hm5.size;omega),⟨hs6,fun x=>by rw[hp6.mem_iff,addsL_mem];simp⟩,hl6⟩
 refine⟨_,rfl,?_⟩;simp only[stz];clear hm5 hm6 hg6 hs6 hp6 hl6 hM5 hc6 hm04 hc5 hc4 hc3 hm4 hm3 hm2 hm1;go_wp2;go_ret;exact HF.out
theorem run_clos{P:Program}{o:Oper}{a:Act}{w:World}(x y:Operand)(ts:Array TypeId)(gf:Nat)(lb:Array Value)(ho:o.op=.call { callee:=.value x,args:=#[y],argTypes:=ts })(hx:a.eval x=.func (.func gf) #[] lb)(v:Value)(hv:a.eval y=v)
 (eg:∀args w,(callFunc gf args).run P w=.ok (.enter gf args) w):(execOp a.eval o).run P w=.ok (.enter gf (#[v]++lb)) w:=by
 subst hv;unfold execOp
 simp[ho,resolve,hx,Deferred.ofValue,invoke,eg]
theorem wmarkZ:(prog.info? 216).bind (·.zero)=some (.agg #[]):=by kernel_rfl
def DelR(w:World)(b:Bool):Ending->World->Prop:=fun e w'=>e=.returned (.bool b)/\Mod NoB w w'
def Marked(l:List (List UInt8×Value)):Prop:=∀p∈l,p.2=.agg #[]
theorem addsL_marked(ids:List (List UInt8)):∀(all:List (List UInt8×Value)),Marked all->Marked (addsL ids all):=by
 induction ids with
 |nil=>intro all h;exact h
 |cons y ids ih=>
  intro all h;refine ih _ fun p hp=>?_;replace hp:p∈putL y (.agg #[]) all:=hp
  cases hg:idxL y all 0 with
  |none=>
   obtain⟨_,h2,_⟩:=idxL_none hg;rw[h2,List.mem_append,List.mem_singleton]at hp
   rcases hp with hp|rfl
   ·exact h p hp
   ·rfl
  |some q=>
   obtain⟨_,_,_,h2,_⟩:=idxL_some hg;rw[h2]at hp
   rcases List.mem_or_eq_of_mem_set hp with hp|rfl
   ·exact h p hp
   ·rfl
theorem swKept_any{w:World}{kb mb:Nat}{l:List (List UInt8×Value)}(hK:w.heap[kb]?=some (.cells #[.map (some mb)] 200 (0,0)))(hM:MapIs idV IdOk w mb l)(hl:Marked l)(x:List UInt8)(hx:x.length=32):
 Calls prog 126 (#[idV x]++#[.pointer (some ⟨kb,0,none⟩)]) w (DelR w (decide (x∈l.map (·.1)))):=by
 have hic:(qA x).size=32:=by rw[qD,hx]
 have hcb:w.cell? ⟨kb,0,none⟩=some (.map (some mb)):=by simp[World.cell?,hK]
 have hb:(getL x l).isSome=decide (x∈l.map (·.1)):=by
  cases hg:getL x l with
  |none=>simp[getL_none.1 hg]
  |some v=>simp only[Option.isSome_some];rw[eq_comm,decide_eq_true_iff];exact List.mem_map.2 ⟨_,jK hg,rfl⟩
 have hv:(getL x l).getD (.agg #[])=.agg #[]:=by
  cases hg:getL x l with
  |none=>rfl
  |some v=>exact hl _ (jK hg)
 have hlk:(if true then Value.tuple #[(getL x l).getD (.agg #[]),.bool (getL x l).isSome]else(getL x l).getD (.agg #[]))=.tuple #[.agg #[],.bool (decide (x∈l.map (·.1)))]:=by rw[if_pos rfl,hv,hb]
 generalize decide (x∈l.map (·.1))=b at*;have HLK:=hid hlk;clear hb hv hlk hl
 rw[show #[idV x]++#[.pointer (some ⟨kb,0,none⟩)]=#[.agg (qA x),.pointer (some ⟨kb,0,none⟩)]from rfl];go_enter func126,ntmps126
 have hm1:=qZ w (.cells (qA x) 24);have hB1:=heap_alloc_new w (.cells (qA x) 24);go_upto_region 1 with(fail)
 generalize w.alloc (.cells (qA x) 24)=w1 at*;have hcb1:=(KC.of0 hm1).cell hcb;have hM1:=hM.keep0 hm1
 have hca:CellsAt w1 w.heap.size 0 (qA x):=CellsAt.whole hB1;refine wpR [1,1,1,3,3,3,1,1,3] (by rfl) (by rfl) ?_;simp only[stz]
 refine wpXd 200 kb 0 hcb1 underlying200 trivial ?_;try simp only[nmz]
 refine wpXA 24 w.heap.size 0 (qA x) hca underlying24 32 hic trivial ?_;try simp only[nmz]
 refine wpX rfl (yQ keyT_id hM1 x hx 200 216 underlying200 (.agg #[]) wmarkZ _ _ true (by rfl) (by rfl) (by rfl) _ HLK.out) trivial ?_;simp only[stz]
 refine qE rfl (fun w'=>qL _ 0 #[.agg #[],.bool b] rfl rfl (.agg #[]) rfl) ?_;simp only[nmz]
 refine qE rfl (fun w'=>qL _ 1 #[.agg #[],.bool b] rfl rfl (.bool b) rfl) ?_;simp only[nmz];refine wpDo rfl ?_
 refine qR 216 _ (by rfl) wmarkZ (fun w3 hB3 hm3 hs3=>?_);replace hB3:w3.heap[w1.heap.size]?=some (.cells #[] 216 (0,0)):=hB3;try simp only[nmz]
 refine wpDo rfl ?_;refine qH 216 _ _ w1.heap.size 0 #[] (by rfl) (by rfl) (by rfl) (by simp) 0 (by kernel_rfl) rfl _ _ hB3 (by simp) (fun w4 hB4 hm4=>?_)
 have hS4:Mod NoB w1 w4:=hm3.transB hm4 (Nat.le_refl _);simp only[stz];have HF:=hid (hm1.trans0 hS4);clear hS4 hm1 hm3 hm4 hB1 hB3 hB4 hca;go_wp2;go_ret;exact⟨rfl,HF.out⟩
def FindR(w:World)(ids:List (List UInt8))(del:List UInt8->Bool):Ending->World->Prop:=fun e w'=>Mod NoB w w'/\
 ((e=.returned (.int .i64 (-1))/\∀x∈ids,del x=false)\/(∃pre x rest,ids=pre++x::rest/\e=.returned (.int .i64 (pre.length:Nat))/\del x=true/\∀y∈pre,del y=false))
def DelsOn(gf:Nat)(lb:Array Value)(del:List UInt8->Bool)(S:Nat->Prop)(w:World):Prop:=∀(x:List UInt8)(W:World),x.length=32->Mod S w W->Calls prog gf (#[idV x]++lb) W (DelR W (del x))
def FindRel(w0:World)(ids:List (List UInt8))(del:List UInt8->Bool)(i:Value)(w:World):Prop:=∃k:Nat,k<=ids.length/\i=.int .i64 k/\Mod NoB w0 w/\∀y∈ids.take k,del y=false
section
variable{w:World}{base gf:Nat}{lb:Array Value}{v:Value}{ids:List (List UInt8)}{del:List UInt8->Bool}
theorem indexI_any(eg:∀args w,(callFunc gf args).run prog w=.ok (.enter gf args) w)(hv:GatI base w v ids)(h32:∀x∈ids,x.length=32)(hdel:DelsOn gf lb del NoB w):
 Calls prog 197 #[v,.func (.func gf) #[] lb] w (FindR w ids del):=by
 obtain⟨ad,cap,hve⟩:=hv.slice
 have hmx:ids.length<=9223372036854775807:=by
  rcases hv.2 with⟨_,h0⟩|⟨g,c,cur,_,_,_,hc,hm,_⟩
  ·omega
  ·unfold maxLen at hm;omega
 have HV:=hid hv;have HR0:Hid (FindRel w ids del (.int .i64 (0:Nat)) w):=hid ⟨0,Nat.zero_le _,rfl,Mod.refl _ _,by simp⟩;have HD:=hid hdel;clear hv hdel;rw[hve]
 rw[hve]at HV;clear hve;go_enter func197,ntmps197;go_wp2
 go_loopw [8] (FindRel w ids del) (fun i _=>ids.length-(intOf i).toNat)
 case atStart=>exact HR0.out
 case round=>
  rename World=>wr
  obtain⟨k,hk,rfl,hmr,hpre⟩:=hrel
  by_cases hlt:k<ids.length
  ·have hz:(k:Int)<(ids.length:Nat):=by omega
   obtain⟨g,cap',cur,hce,hg,hcA,-,-,-⟩:=Gat.at (HV.out.keep0 hmr) idE_len k hlt;have hx32:=h32 _ (List.getElem_mem hlt);have hsp:=take_split hlt
   have hsn:=take_snoc hlt;rw[idE_eq hx32]at hcA;generalize ids[k]=x at*
   cases hce
   have hic:(qA x).size=32:=by rw[qD,hx32]
   have hcall:=HD.out x wr hx32 hmr;generalize hb:del x=b at*;have HSP:=hid hsp;have HSN:=hid hsn;have HP:=hid hpre;have HB:=hid hb;clear hsp hsn hpre hb
   go_upto_region 4 with(fail);refine wpR [3,3,3,3,1,1] (by rfl) (by rfl) ?_;simp only[stz]
   refine qQ _ _ _ _ _ _ _ _ _ rfl rfl rfl rfl underlying25 (n:=32) (by kernel_rfl) hlt ?_;simp only[nmz]
   refine wpXA 24 g (k*32) (qA x) hcA underlying24 32 hic trivial ?_;try simp only[nmz]
   refine wpDo rfl ?_;refine qB (run_clos _ _ _ gf lb (by rfl) (by rfl) (idV x) (by rfl) eg) hcall ?_;rintro e w5 ⟨rfl,hm5⟩;refine⟨_,rfl,?_⟩;simp only[stz]
   have HM:=hid (hmr.trans0 hm5);clear hmr hm5 hcA hg hcall
   cases b with
   |true=>
    go_wp2;go_ret;refine⟨HM.out,.inr ⟨ids.take k,x,ids.drop (k+1),HSP.out,?_,HB.out,HP.out⟩⟩
    have h9:(ids.take k).length=k:=by rw[List.length_take,Nat.min_eq_left hk]
    rw[h9]
    rfl
   |false=>
    have HR:Hid (FindRel w ids del (.int .i64 ((k+1:Nat):Int)) w5):=hid ⟨k+1,by omega,rfl,HM.out,fun y hy=>by
     rw[<-HSN.out,List.mem_append,List.mem_singleton]at hy
     rcases hy with hy|rfl
     ·exact HP.out y hy
     ·exact HB.out⟩
    clear HM HP;go_wp2
    go_roundw
    case rel=>exact HR.out
    case measure=>simp[intOf];omega
  ·have hz:¬(k:Int)<(ids.length:Nat):=by omega
   obtain rfl:k=ids.length:=by omega
   have HF:Hid (FindR w ids del (.returned (.int .i64 (-1))) wr):=hid ⟨hmr,.inl ⟨rfl,by rw[List.take_length]at hpre;exact hpre⟩⟩;clear hmr hpre;go_wp2;go_ret;exact HF.out
end
theorem id_zero:(prog.info? 24).bind (·.zero)=some (.agg (Array.replicate 32 (byteV 0))):=by kernel_rfl
section
variable{P:Program}{o:Oper}{a:Act}{w:World}{K:Act->World->Prop}{Q:Exit->Act->World->Prop}
theorem wp_clearIds(t e:TypeId)(x:Operand)(b off n c:Nat)(ho:o.op=.call { callee:=.builtin .clear,args:=#[x],argTypes:=#[t] })(hx:a.eval x=.slice (some ⟨b,off,none⟩) (n+1) c)(ht:P.underlying t=some (.slice e))(hz:(P.info? e).bind (·.zero)=some (.agg (Array.replicate 32 (byteV 0))))
 (cur:Array Value)(T:TypeId)(hb:w.heap[b]?=some (.cells cur T (0,0)))(hoff:off+(n+1)*32<=cur.size)
 (h:∀w',w'.heap[b]?=some (.cells (zF cur off (Array.replicate ((n+1)*32) (byteV 0))) T (0,0))->Mod (fun k=>k=b) w w'->K (a.put o.dst (.tuple #[])) w'):o.wp P a w K Q:=by
 have hzv:(zeroValue e).run P w=.ok (.agg (Array.replicate 32 (byteV 0))) w:=by
  cases hi:P.info? e with
  |none=>simp[hi]at hz
  |some i=>simp[hi]at hz;simp[zeroValue,typeInfo,hi,hz]
 have hzc:(Builtin.zeroCells (Value.agg (Array.replicate 32 (byteV 0))).cells (n+1)).toList=List.replicate ((n+1)*32) (byteV 0):=by
  have h32:(Value.agg (Array.replicate 32 (byteV 0))).cells=Array.replicate 32 (byteV 0):=rfl;rw[h32];unfold Builtin.zeroCells
  apply List.ext_getElem
  ·simp
  ·intro i h1 h2
   have h3:i%32<32:=Nat.mod_lt _ (by omega)
   simp[getElem!_pos,h3]
 have hst:=run_storeCells_at P b off T (List.replicate ((n+1)*32) (byteV 0)) 0 cur w hb (by simpa using hoff) (fun v hv=>by rw[List.eq_of_mem_replicate hv];rfl)
 simp only[Nat.add_zero,List.length_replicate]at hst
 have he:(cur.toList.take off++List.replicate ((n+1)*32) (byteV 0)++cur.toList.drop (off+(n+1)*32)).toArray=zF cur off (Array.replicate ((n+1)*32) (byteV 0)):=by
  unfold zF
  simp
 rw[he]at hst;unfold Oper.wp execOp
 have hr:(Builtin.clear_ #[t] o.type #[.slice (some ⟨b,off,none⟩) (n+1) c]).run P w=.ok (.tuple #[]) (w.setRow b (zF cur off (Array.replicate ((n+1)*32) (byteV 0)))):=by
  simp[Builtin.clear_,run_underlying ht,hzv,hzc,hst]
 simp[ho,hx,resolve,invoke,builtin,hr]
 exact h _ (setRow_heap w b cur _ T _ hb) ⟨rfl,rfl,rfl,by simp,fun k _ hk=>setRow_other w b k _ (fun e=>hk e)⟩
end
theorem gat_cut{base:Nat}{w w':World}{g n cap i:Nat}{cur cs:Array Value}{l:List (List UInt8)}(h:GatI base w (.slice (some ⟨g,0,none⟩) n cap) l)(hg:w.heap[g]?=some (.cells cur 24 (0,0)))(hi:i<=l.length)(hsz:i*32+cs.size<=cur.size)
 (hg':w'.heap[g]?=some (.cells (zF cur (i*32) cs) 24 (0,0))):GatI base w' (.slice (some ⟨g,0,none⟩) i cap) (l.take i):=by
 rcases h.2 with⟨h1,_⟩|⟨g2,c,cur2,h1,hb,hg2,hc,hm,hcs,ht⟩
 ·cases h1
 ·have hlt:(l.take i).length=i:=by rw[List.length_take,Nat.min_eq_left hi]
  cases h1
  rw[hg]at hg2
  cases hg2
  have hft:(l.take i).flatMap idE=(l.flatMap idE).take (i*32):=(flat_take idE_len l i hi).symm;have hmul:i*32<=l.length*32:=Nat.mul_le_mul_right _ hi
  have hlen:=len_enc idE_len (l.take i);unfold GatI Gat
  refine⟨hlen,.inr ⟨g,cap,zF cur (i*32) cs,by rw[hlt],hb,hg',by omega,hm,by rw[yJ hsz];exact hcs,?_⟩⟩
  have h2:(zF cur (i*32) cs).toList.take (i*32)=cur.toList.take (i*32):=by
   unfold zF;have h4:cur.toList.length=cur.size:=Array.length_toList;have h3:(cur.toList.take (i*32)).length=i*32:=by rw[List.length_take];omega
   simp only[List.append_assoc];rw[List.take_append_of_le_length (by omega),List.take_of_length_le (by omega)]
  rw[hlt,h2,hft,<-ht,List.take_take,Nat.min_eq_left hmul]
def DelsR(w:World)(base:Nat)(v:Value)(l:List (List UInt8)):Ending->World->Prop:=fun e w'=>Mod (fun q=>v.ownBlock=some q) w w'/\∃v',e=.returned v'/\GatI base w' v' l/\v'.ownBlock=v.ownBlock
structure DelAt(w0:World)(base:Nat)(v:Value)(ids:List (List UInt8))(del:List UInt8->Bool)(ni nj:Nat)(l:List (List UInt8))(w:World):Prop where
 row:GatI base w v l
 len:l.length=ids.length
 lt:ni<nj
 le:nj<=ids.length
 took:l.take ni=(ids.take nj).filter fun x=> !del x
 left:l.drop nj=ids.drop nj
 mod:Mod (fun q=>v.ownBlock=some q) w0 w
def DelRel(w0:World)(base:Nat)(v:Value)(ids:List (List UInt8))(del:List UInt8->Bool)(i j:Value)(w:World):Prop:=∃ni nj l,i=.int .i64 (ni:Nat)/\j=.int .i64 (nj:Nat)/\DelAt w0 base v ids del ni nj l w
theorem DelAt.skip{w0 w w':World}{base ni nj:Nat}{v:Value}{ids l:List (List UInt8)}{del:List UInt8->Bool}(h:DelAt w0 base v ids del ni nj l w)(hlt:nj<ids.length)(hd:del ids[nj]=true)(hm:Mod NoB w w'):DelAt w0 base v ids del ni (nj+1) l w':=
 ⟨h.row.keep0 hm,h.len,by have:=h.lt;omega,hlt,by rw[h.took,<-take_snoc hlt,List.filter_append];simp[hd],by rw[<-List.drop_drop,h.left,List.drop_drop],h.mod.trans hm (fun _ _ h=>h.elim)⟩
theorem DelAt.keep{w0 w w':World}{base ni nj:Nat}{v:Value}{ids l:List (List UInt8)}{del:List UInt8->Bool}(h:DelAt w0 base v ids del ni nj l w)(hlt:nj<ids.length)(hd:del ids[nj]=false)(hr:GatI base w' v (l.set ni ids[nj]))(hm:Mod (fun q=>v.ownBlock=some q) w0 w'):DelAt w0 base v ids del (ni+1) (nj+1) (l.set ni ids[nj]) w':=by
 have h1:=h.lt;have h2:=h.len;refine⟨hr,by rw[List.length_set,h2],by omega,hlt,?_,?_,hm⟩
 ·rw[List.take_succ_eq_append_getElem (by rw[List.length_set];omega),List.take_set_of_le (Nat.le_refl _),h.took,<-take_snoc hlt,List.filter_append]
  simp[hd]
 ·rw[List.drop_set_of_lt (by omega),<-List.drop_drop,h.left,List.drop_drop]
def FindP(ids:List (List UInt8))(del:List UInt8->Bool)(r:Int):Prop:=(r=-1/\∀x∈ids,del x=false)\/(∃pre x rest,ids=pre++x::rest/\r=(pre.length:Nat)/\del x=true/\∀y∈pre,del y=false)
theorem filter_none{α:Type}{l:List α}{del:α->Bool}(h:∀y∈l,del y=false):(l.filter fun x=> !del x)=l:=List.filter_eq_self.2 fun y hy=>by simp[h y hy]
section
variable{w:World}{base gf:Nat}{lb:Array Value}{v:Value}{ids:List (List UInt8)}{del:List UInt8->Bool}
theorem deleteI_any(eg:∀args w,(callFunc gf args).run prog w=.ok (.enter gf args) w)(hv:GatI base w v ids)(h32:∀x∈ids,x.length=32)(hdel:DelsOn gf lb del (fun q=>v.ownBlock=some q) w):
 Calls prog 125 #[v,.func (.func gf) #[] lb] w (DelsR w base v (ids.filter fun x=> !del x)):=by
 have hfind:=indexI_any eg hv h32 (fun x W hx hm=>hdel x W hx (hm.mono (fun _ _ h=>h.elim)));obtain⟨ad,cap,hve⟩:=hv.slice
 have hmx:ids.length<=9223372036854775807:=by
  rcases hv.2 with⟨_,h0⟩|⟨g,c,cur,_,_,_,hc,hm,_⟩
  ·omega
  ·unfold maxLen at hm;omega
 have HV:=hid hv;have HD:=hid hdel;have HVE:=hid hve;clear hv hdel
 replace hfind:=hfind.mono (R':=fun e w'=>∃r:Int,e=.returned (.int .i64 r)/\FindP ids del r/\Mod NoB w w') (by
  rintro e w' ⟨hm,⟨rfl,h⟩|⟨pre,x,rest,h1,rfl,h2⟩⟩
  ·exact⟨-1,rfl,.inl ⟨rfl,h⟩,hm⟩
  ·exact⟨_,rfl,.inr ⟨pre,x,rest,h1,rfl,h2⟩,hm⟩)
 rw[hve]at HV hfind
 suffices hsuf:Calls prog 125 #[.slice ad ids.length cap,.func (.func gf) #[] lb] w (DelsR w base v (ids.filter fun x=> !del x)) by rw[hve];rw[hve]at hsuf;exact hsuf
 clear hve;go_enter func125,ntmps125;go_upto_region 1 with(fail);refine wpR [3,3,1,3] (by rfl) (by rfl) ?_;simp only[stz];refine wpDo rfl ?_
 refine qB (qC 197 [.tmp 8,.tmp 9] _ rfl _ func197 rfl (by kernel_rfl) [.slice ad ids.length cap,.func (.func gf) #[] lb] rfl _) (hfind) ?_
 rintro e w2 ⟨r,rfl,hfp,hm2⟩;refine⟨_,rfl,?_⟩;simp only[stz];clear hfind
 rcases hfp with⟨rfl,hall⟩|⟨pre,x,rest,hids,rfl,hx,hpre⟩
 ·have HF:Hid (DelsR w base v (ids.filter fun x=> !del x) (.returned (.slice ad ids.length cap)) w2):=hid ⟨hm2.mono (fun _ _ h=>h.elim),_,rfl,by rw[filter_none hall];exact HV.out.keep0 hm2,by rw[HVE.out]⟩
  clear hall hm2;go_wp2;go_ret;exact HF.out
 have hpl:pre.length<ids.length:=by rw[hids];simp
 have h0:DelAt w base v ids del pre.length (pre.length+1) ids w2:=by
  refine⟨by rw[HVE.out];exact HV.out.keep0 hm2,rfl,by omega,hpl,?_,rfl,hm2.mono (fun _ _ h=>h.elim)⟩;have e1:ids.take pre.length=pre:=by rw[hids,List.take_left]
  have e2:ids.take (pre.length+1)=pre++[x]:=by rw[hids,List.take_append,List.take_of_length_le (by omega)];simp
  rw[e1,e2,List.filter_append,filter_none hpre]
  simp[hx]
 have HR0:Hid (DelRel w base v ids del (.int .i64 (pre.length:Nat)) (.int .i64 ((pre.length+1:Nat):Int)) w2):=hid ⟨_,_,ids,rfl,rfl,h0⟩
 generalize pre.length=k0 at*;have hk1:((k0:Nat):Int)≠-1:=by omega
 clear h0 hids hx hpre hm2;go_wp2
 go_loopw [5,6] (DelRel w base v ids del) (fun _ j _=>ids.length-(intOf j).toNat)
 case atStart=>exact HR0.out
 case round=>
  rename World=>wr
  obtain⟨ni,nj,l,rfl,rfl,hda⟩:=hrel;have HDA:=hid hda;have hij:=hda.lt;have hjn:=hda.le;have hln:=hda.len
  by_cases hlt:nj<ids.length
  ·have hz:(nj:Int)<(ids.length:Nat):=by omega
   have hrow:=hda.row;rw[HVE.out]at hrow;obtain⟨g,cap',cur,hce,hg,hcA,-,-,-⟩:=Gat.at hrow idE_len nj (by omega)
   obtain⟨rfl,rfl⟩:ad=some ⟨g,0,none⟩/\cap=cap':=by injection hce with e1 e2 e3;exact⟨e1,e3⟩
   have hx32:=h32 _ (List.getElem_mem hlt)
   have hlx:l[nj]'(by omega)=ids[nj]:=by
    have h1:=List.getElem_drop (xs:=l) (i:=nj) (j:=0) (h:=by simp;omega);have h2:=List.getElem_drop (xs:=ids) (i:=nj) (j:=0) (h:=by simp;omega)
    simp only[Nat.add_zero]at h1 h2;rw[<-h1,<-h2]
    congr 1
    exact hda.left
   rw[hlx,idE_eq hx32]at hcA;have hskip:=fun(w':World) hd hm=>hda.skip (w':=w') hlt hd hm;have hkeep:=fun(w':World) hd hr hm=>hda.keep (w':=w') hlt hd hr hm
   generalize ids[nj]=x at*;have hic:(qA x).size=32:=by rw[qD,hx32]
   have HSK:=hid hskip;have HKP:=hid hkeep;have hmr:=hda.mod;clear hskip hkeep hlx hce hda hrow;go_upto_region 7 with(fail)
   refine wpR [3,3,3,1,1,1] (by rfl) (by rfl) ?_;simp only[stz];refine qQ _ _ _ _ _ _ _ _ _ rfl rfl rfl rfl underlying25 (n:=32) (by kernel_rfl) hlt ?_
   simp only[nmz];refine wpXA 24 g (nj*32) (qA x) hcA underlying24 32 hic trivial ?_;try simp only[nmz]
   refine wpDo rfl ?_;refine qR 24 _ (by rfl) idZ (fun w3 hB3 hm3 hs3=>?_)
   replace hB3:w3.heap[wr.heap.size]?=some (.cells (qA (List.replicate 32 0)) 24 (0,0)):=hB3;try simp only[nmz]
   refine wpDo rfl ?_
   refine qH 24 _ _ wr.heap.size 0 (qA x) (by rfl) (by rfl) (by rfl) (qT _) 32 (by kernel_rfl) hic _ _ hB3 (by rw[hic,qD];simp) (fun w4 hB4 hm4=>?_)
   rw[qF (by rw[hic,qD];simp)]at hB4;simp only[stz];have hmr4:Mod NoB wr w4:=hm3.transB hm4 (Nat.le_refl _);generalize hb7:wr.heap.size=b7 at*
   have hgb:g<b7:=by rw[<-hb7];exact(Array.getElem?_eq_some_iff.1 hg).1
   have hcall:=HD.out x w4 hx32 (by rw[HVE.out]at hmr |-;exact hmr.trans hmr4 (fun _ _ h=>h.elim));generalize hbb:del x=bb at*;have HBB:=hid hbb
   have hg4:=hmr4.obj id hg;clear hm3 hm4 hB3 hs3 hbb hcA;go_upto_region 8 with(fail);refine wpR [3,1,1,3] (by rfl) (by rfl) ?_;simp only[stz]
   refine wpXA 24 b7 0 (qA x) (CellsAt.whole hB4) underlying24 32 hic trivial ?_;try simp only[nmz]
   refine wpDo rfl ?_;refine qB (run_clos _ _ _ gf lb (by rfl) (by rfl) (idV x) (by rfl) eg) hcall ?_;rintro e w5 ⟨rfl,hm5⟩;refine⟨_,rfl,?_⟩;try simp only[stz]
   try refine xK _ _ _ rfl rfl rfl ?_
   try simp only[stz]
   have hmr5:=hmr4.trans0 hm5;have hB5:=hm5.obj id hB4;have hg5:=hm5.obj id hg4;clear hcall hB4 hg4
   cases bb with
   |true=>
    have HR:Hid (DelRel w base v ids del (.int .i64 (ni:Nat)) (.int .i64 ((nj+1:Nat):Int)) w5):=hid ⟨_,_,l,rfl,rfl,HSK.out w5 rfl hmr5⟩
    clear hmr4 hmr5 hm5 hB5 hg5 hg hmr;go_wp2
    go_roundw
    case rel=>exact HR.out
    case measure=>simp[intOf];omega
   |false=>
    have hrow5:=HDA.out.row;rw[HVE.out]at hrow5;obtain⟨g2,cap2,cur2,hce2,hg2,-,hsz2,-,hput⟩:=Gat.at (hrow5.keep0 hmr5) idE_len ni (by omega)
    obtain rfl:g=g2:=by injection hce2 with e1 e2 e3;injection e1 with e1;injection e1
    have hput':=fun(w6:World)(h:w6.heap[g]?=some (.cells (zF cur2 (ni*32) (qA x)) 24 (0,0)))=>hput x w6 (by rw[idE_eq hx32];exact h)
    have HPUT:=hid hput';clear hput hput' hrow5;go_upto_region 9 with(fail);refine wpR [3,3,1,3,1] (by rfl) (by rfl) ?_;simp only[stz]
    refine wpXA 24 b7 0 (qA x) (CellsAt.whole hB5) underlying24 32 hic trivial ?_;try simp only[nmz]
    refine qQ _ _ _ _ _ _ _ _ _ rfl rfl rfl rfl underlying25 (n:=32) (by kernel_rfl) (by omega) ?_;simp only[nmz];refine wpDo rfl ?_
    refine qH 24 _ _ g (ni*32) (qA x) (by rfl) (by rfl) (by rfl) (qT _) 32 (by kernel_rfl) hic _ _ hg2 (by rw[hic];exact hsz2) (fun w6 hB6 hm6=>?_)
    simp only[stz]
    have HR:Hid (DelRel w base v ids del (.int .i64 ((ni+1:Nat):Int)) (.int .i64 ((nj+1:Nat):Int)) w6):=hid ⟨_,_,l.set ni x,rfl,rfl,HKP.out w6 rfl (by rw[HVE.out];exact HPUT.out w6 hB6) ((hmr.trans hmr5 (fun _ _ h=>h.elim)).trans hm6 (fun k _ e=>by rw[HVE.out,show k=g from e];rfl))⟩
    clear hmr4 hmr5 hm5 hB5 hg5 hg hmr hB6 hm6 hg2;go_wp2
    go_roundw
    case rel=>exact HR.out
    case measure=>simp[intOf];omega
  ·have hz:¬(nj:Int)<(ids.length:Nat):=by omega
   obtain rfl:nj=ids.length:=by omega
   have hrow:=hda.row;rw[HVE.out]at hrow;obtain⟨g,cap',cur,hce,hg,-,-,-,-⟩:=Gat.at hrow idE_len ni (by omega)
   obtain⟨rfl,rfl⟩:ad=some ⟨g,0,none⟩/\cap=cap':=by injection hce with e1 e2 e3;exact⟨e1,e3⟩
   obtain⟨hcs,hncap⟩:cur.size=cap*32/\ids.length<=cap:=by
    rcases hrow.2 with⟨h1,_⟩|⟨g2,c,cur2,h1,_,hg2,hc,_,hcs,_⟩
    ·cases h1
    ·injection h1 with e1 e2 e3
     injection e1 with e1;injection e1 with e1;subst e1 e3;rw[hg]at hg2
     cases hg2
     exact⟨hcs,by omega⟩
   obtain⟨m,hm⟩:∃m,ids.length-ni=m+1:=⟨ids.length-ni-1,by omega⟩
   have hsl:sliced (some ⟨g,0,none⟩) ni ids.length cap 32=.slice (some ⟨g,ni*32,none⟩) (m+1) (cap-ni):=by
    unfold sliced;rw[if_neg (by omega),hm]
    simp[jQ]
   have hst:sliced (some ⟨g,0,none⟩) 0 ni cap 32=.slice (some ⟨g,0,none⟩) ni cap:=by
    simp only[sliced,Option.map_some,jQ,Nat.zero_mul,Nat.add_zero,Nat.sub_zero,ite_self]
   have htk:=hda.took;rw[List.take_length]at htk;have hmr:=hda.mod;have HSL:=hid hsl;have HST:=hid hst;clear hsl hst hce hda;go_upto_region 11 with(fail)
   refine wpR [3,3,3,1] (by rfl) (by rfl) ?_;simp only[stz];refine wpPi_sliceFrom 25 24 _ _ _ _ _ ni 32 rfl rfl rfl rfl underlying25 (by kernel_rfl) (by omega) ?_
   simp only[nmz];refine wpDo rfl ?_;rw[HSL.out]
   refine wp_clearIds 25 24 _ g (ni*32) m (cap-ni) (by rfl) (by rfl) underlying25 id_zero _ _ hg (by omega) (fun w3 hB3 hm3=>?_);simp only[stz]
   have hcut:=gat_cut (i:=ni) hrow hg (by omega) (by rw[Array.size_replicate];omega) hB3;rw[htk]at hcut
   have HF:Hid (DelsR w base v (ids.filter fun x=> !del x) (.returned (sliced (some ⟨g,0,none⟩) 0 ni cap 32)) w3):=hid ⟨hmr.trans hm3 (fun k _ e=>by rw[HVE.out,show k=g from e];rfl),_,rfl,by rw[HST.out];exact hcut,by rw[HST.out,HVE.out];rfl⟩
   clear hcut hB3 hm3 hg hmr hrow htk;go_upto_region 12 with(fail);refine wpR [3,3,3,3] (by rfl) (by rfl) ?_;simp only[stz]
   refine wpPi_sliceTo 25 24 _ _ _ _ _ ni 32 rfl rfl rfl rfl underlying25 (by kernel_rfl) (by omega) ?_;simp only[stz];go_wp2;go_ret;have h9:=HF.out;rw[HST.out]at h9;exact h9
end
def emptyW(w:World):World:={ w with heap:=#[] }
theorem emptyW_mod(w:World):Mod NoB (emptyW w) w:=⟨rfl,rfl,rfl,by simp[emptyW],fun k hk _=>by simp[emptyW]at hk⟩
theorem LkAt.bare{w0 w:World}{p:Value}{limit:Int}{l:LinkL}{F:Nat->Prop}(h:LkAt w0 w p limit l F):LkAt (emptyW w) w p limit l F:=⟨emptyW_mod w,h.ok,fun k _=>by simp[emptyW],h.lt⟩
structure House where
 bs:Nat
 ms:Nat
 wd:Nat
 room:Int
 q:Value
 limit:Int
def HsAt(w:World)(h:House)(c:BlobL)(l:LinkL)(Ft:Nat->Prop):Prop:=
 ∃bl F,StInv w h.bs h.ms h.wd h.room bl/\cont bl=c/\LkAt (emptyW w) w h.q h.limit l F/\(∀k,SFoot h.bs h.ms bl k->¬F k)/\(∀k,SFoot h.bs h.ms bl k->Ft k)/\(∀k,F k->Ft k)/\∀k,Ft k->k<w.heap.size
def HStep(w:World)(h:House)(Ft:Nat->Prop)(w':World)(c':BlobL)(l':LinkL):Prop:=∃Ft',HsAt w' h c' l' Ft'/\Mod Ft w w'/\∀k,Ft' k->Ft k\/New w w' k
section
variable{w w':World}{h:House}{c c':BlobL}{l l':LinkL}{Ft:Nat->Prop}
theorem HsAt.lt(H:HsAt w h c l Ft):∀k,Ft k->k<w.heap.size:=by
 obtain⟨_,_,_,_,_,_,_,_,h⟩:=H;exact h
theorem HsAt.keep{S:Nat->Prop}(H:HsAt w h c l Ft)(hm:Mod S w w')(hS:∀k,Ft k->¬S k):HsAt w' h c l Ft:=by
 obtain⟨bl,F,h1,h2,h3,h4,h5,h6,h7⟩:=H
 exact⟨bl,F,h1.keep hm (fun k hk=>hS k (h5 k hk)),h2,(h3.keep hm (fun k hk=>hS k (h6 k hk)) (fun k hk=>by simp[emptyW]at hk)).bare,h4,h5,h6,fun k hk=>Nat.lt_of_lt_of_le (h7 k hk) hm.size⟩
theorem HsAt.keep0(H:HsAt w h c l Ft)(hm:Mod NoB w w'):HsAt w' h c l Ft:=H.keep hm fun _ _=>id
theorem HStep.of0(H:HsAt w h c l Ft)(hm:Mod NoB w w'):HStep w h Ft w' c l:=⟨Ft,H.keep0 hm,hm.mono (fun _ _ h=>h.elim),fun _ hk=>.inl hk⟩
theorem HStep.trans{w1:World}{c1:BlobL}{l1:LinkL}(h1:HStep w h Ft w1 c1 l1)(h2:∀F1,HsAt w1 h c1 l1 F1->HStep w1 h F1 w' c' l'):HStep w h Ft w' c' l':=by
 obtain⟨F1,a1,b1,d1⟩:=h1;obtain⟨F2,a2,b2,d2⟩:=h2 F1 a1;refine⟨F2,a2,b1.trans b2 (fun k hk hf=>(d1 k hf).elim id (fun hn=>by have:=hn.1;omega)),fun k hk=>?_⟩
 rcases d2 k hk with h|h
 ·rcases d1 k h with h|h
  ·exact .inl h
  ·exact .inr ⟨h.1,Nat.lt_of_lt_of_le h.2 b2.size⟩
 ·exact .inr ⟨Nat.le_trans b1.size h.1,h.2⟩
theorem HsAt.nd(H:HsAt w h c l Ft):(c.map (·.1)).Nodup:=by
 obtain⟨bl,F,h1,rfl,_⟩:=H;exact h1.nd
theorem HsAt.small(H:HsAt w h c l Ft):(∀p∈c,p.1.length=32/\p.2.length<=4096)/\c.length<=10000/\l.length<=65536:=by
 obtain⟨bl,F,h1,rfl,h3,_⟩:=H;refine⟨fun p hp=>?_,by simpa[cont]using h1.few,h3.facts.2.2.2.2.2⟩;obtain⟨b,hb,rfl⟩:=List.mem_map.1 hp
 exact⟨h1.ok b hb,h1.sz b hb⟩
theorem HsAt.drop(H:HsAt w h c l Ft)(di:List UInt8)(hd:di.length=32):Calls prog 30 #[.pointer (some ⟨h.bs,0,none⟩),.agg (qA di)] w (fun e w'=>∃v,e=.returned v/\HStep w h Ft w' (delL di c) l):=by
 obtain⟨bl,F,h1,rfl,h3,h4,h5,h6,h7⟩:=H;refine(bDrop_any h1 di hd).mono ?_;rintro e w' ⟨rfl,bl',k1,k2,k3,k4⟩
 have hF:∀k,F k->¬(k=h.bs\/k=h.ms):=fun k hk e=>h4 k (e.elim (fun e=>.inl e) (fun e=>.inr (.inl e))) hk
 refine⟨_,rfl,fun k=>Ft k\/New w w' k,⟨bl',F,k1,k2,(h3.keep k3 hF (fun k hk=>by simp[emptyW]at hk)).bare,fun k hk hf=>?_,fun k hk=>(k4 k hk).imp (h5 k) id,fun k hk=>.inl (h6 k hk),fun k hk=>hk.elim (fun hk=>Nat.lt_of_lt_of_le (h7 k hk) k3.size) (fun hk=>hk.2)⟩,k3.mono (fun k _ e=>h5 k (e.elim (fun e=>.inl e) (fun e=>.inr (.inl e)))),fun k hk=>hk⟩
 rcases k4 k hk with hk|hk
 ·exact h4 k hk hf
 ·have:=h3.lt k hf
  have:=hk.1;omega
theorem HsAt.forget(H:HsAt w h c l Ft)(x:List UInt8)(hx:x.length=32):Calls prog 127 #[h.q,.agg (qA x)] w (fun e w'=>e=.returned (.int .i64 (yU l x))/\HStep w h Ft w' c (forgetL l x)):=by
 obtain⟨bl,F,h1,rfl,h3,h4,h5,h6,h7⟩:=H;refine(forget_at h3 x hx).mono ?_;rintro e w' ⟨rfl,F',k1,k2,k3⟩
 refine⟨rfl,fun k=>Ft k\/New w w' k,⟨bl,F',h1.keep k2 (fun k hk hf=>h4 k hk hf),rfl,k1.bare,fun k hk hf=>?_,fun k hk=>.inl (h5 k hk),fun k hk=>(k3 k hk).imp (h6 k) id,fun k hk=>hk.elim (fun hk=>Nat.lt_of_lt_of_le (h7 k hk) k2.size) (fun hk=>hk.2)⟩,k2.mono (fun k _ e=>h6 k e),fun k hk=>hk⟩
 rcases k3 k hf with hf|hf
 ·exact h4 k hk hf
 ·have:=h1.lt k hk
  have:=hf.1;omega
theorem HsAt.size(H:HsAt w h c l Ft)(di:List UInt8)(hd:di.length=32):Calls prog 91 #[.pointer (some ⟨h.bs,0,none⟩),.agg (qA di)] w (SizeR w (getL di c)):=by
 obtain⟨bl,F,h1,rfl,_⟩:=H;exact bSize_any h1 di hd
theorem HsAt.ids(H:HsAt w h c l Ft):Calls prog 38 #[.pointer (some ⟨h.bs,0,none⟩)] w (IDsR w c):=by
 obtain⟨bl,F,h1,rfl,_⟩:=H;exact bIDs_any h1
theorem HsAt.width(H:HsAt w h c l Ft):Calls prog 124 #[.pointer (some ⟨h.bs,0,none⟩)] w (RetE (.int .i64 h.wd) w):=by
 obtain⟨bl,F,h1,rfl,_⟩:=H;exact bWidth_any h1
theorem nameB_none:nameB ⟨#[]⟩=false:=by decide+kernel
theorem HsAt.none(H:HsAt w h c l Ft):Calls prog 123 #[h.q,.string ⟨#[]⟩,.agg (qA (List.replicate 32 0)),.int .i64 0] w (fun e w'=>(∃er:Int,er≠1/\e=.returned (.tuple #[.bool false,.int .i64 er]))/\HStep w h Ft w' c l):=by
 obtain⟨bl,F,h1,rfl,h3,h4,h5,h6,h7⟩:=H;refine(link_at h3 (⟨#[]⟩,List.replicate 32 0) (by simp[KeyOk]) (Nat.zero_le _) 0).mono ?_
 have ha:(addE true h.limit l (⟨#[]⟩,List.replicate 32 0) 0).1=false/\(addE true h.limit l (⟨#[]⟩,List.replicate 32 0) 0).2≠1:=by
  unfold addE;rw[nameB_none]
  simp
 rintro e w' ⟨rfl,F',k1,k2,k3⟩;rw[addL,ha.1]at k1
 refine⟨⟨_,ha.2,by rw[ha.1]⟩,fun k=>Ft k\/New w w' k,⟨bl,F',h1.keep k2 (fun k hk hf=>h4 k hk hf),rfl,k1.bare,fun k hk hf=>?_,fun k hk=>.inl (h5 k hk),fun k hk=>(k3 k hk).imp (h6 k) id,fun k hk=>hk.elim (fun hk=>Nat.lt_of_lt_of_le (h7 k hk) k2.size) (fun hk=>hk.2)⟩,k2.mono (fun k _ e=>h6 k e),fun k hk=>hk⟩
 rcases k3 k hf with hf|hf
 ·exact h4 k hk hf
 ·have:=h1.lt k hk
  have:=hf.1;omega
end
end
end Go.Proofs.YtjeonjoifjbohaaGreat
