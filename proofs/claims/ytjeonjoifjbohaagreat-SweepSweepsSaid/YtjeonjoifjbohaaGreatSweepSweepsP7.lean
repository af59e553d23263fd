/- What the statement SweepSweeps needs, part 7. -/
import Derived.Lib.RuneCountTail
import Derived.Laws.Slices
import Derived.Test.YtjeonjoifjbohaaGreatSweepSweepsP6
set_option linter.unusedVariables false
set_option linter.unusedSimpArgs false
set_option linter.unnecessarySimpa false
set_option linter.unusedSectionVars false
set_option maxRecDepth 10000
set_option maxHeartbeats 8000000
namespace Go.Proofs.YtjeonjoifjbohaaGreat
section
open Go.RowKit Go.Proofs.Tryz Go.Lib
def posL(k:Key):LinkL->Nat
 | []=>0
 |p::l=>if cmpK p.1 k<0 then posL k l+1 else 0
abbrev SortedL(r:LinkL):Prop:=r.Pairwise fun p q=>ltK p.1 q.1
theorem posL_le(k:Key):∀r:LinkL,posL k r<=r.length
 | []=>by simp[posL]
 |p::r=>by
  have:=posL_le k r;simp only[posL,List.length_cons]
  split<;>omega
theorem posL_lt(k:Key):∀(r:LinkL)(i:Nat)(h:i<r.length),i<posL k r->cmpK r[i].1 k<0
 |p::r,i,h,hi=>by
  simp only[posL]at hi
  split at hi
  ·rename_i hp
   cases i with
   |zero=>exact hp
   |succ i=>exact posL_lt k r i (by simpa using h) (by omega)
  ·omega
theorem posL_ge(k:Key):∀(r:LinkL)(h:posL k r<r.length),¬cmpK r[posL k r].1 k<0
 |p::r,h=>by
  by_cases hp:cmpK p.1 k<0
  ·have e:posL k (p::r)=posL k r+1:=by simp[posL,hp]
   have h':posL k r<r.length:=by rw[e]at h;simpa using h
   have:=posL_ge k r h'
   simpa only[e,List.getElem_cons_succ]using this
  ·have e:posL k (p::r)=0:=by simp[posL,hp]
   simpa only[e,List.getElem_cons_zero]using hp
theorem posL_eq{k:Key}{r:LinkL}{i:Nat}(hi:i<=r.length)(h1:∀j (h:j<r.length),j<i->cmpK r[j].1 k<0)(h2:∀h:i<r.length,¬cmpK r[i].1 k<0):posL k r=i:=by
 rcases Nat.lt_trichotomy (posL k r) i with h|h|h
 ·exact absurd (h1 _ (by omega) h) (posL_ge k r (by omega))
 ·exact h
 ·have:=posL_le k r
  exact absurd (posL_lt k r i (by omega) h) (h2 (by omega))
theorem SortedL.nodup{r:LinkL}(h:SortedL r):(r.map (·.1)).Nodup:=by
 rw[List.nodup_iff_pairwise_ne,List.pairwise_map];exact h.imp fun{a b} hab (e:a.1=b.1)=>ltK_irrefl b.1 (by rw[e]at hab;exact hab)
def isL(k:Key)(r:LinkL):Bool:=match r[posL k r]? with|some p=>decide (p.1=k)|none=>false
theorem SortedL.at{r:LinkL}(h:SortedL r)(k:Key):∀x,getL k r=some x↔r[posL k r]?=some (k,x):=by
 intro x
 constructor
 ·intro hg
  obtain⟨i,hi,e⟩:=List.getElem_of_mem (yC hg)
  have hp:posL k r=i:=by
   refine posL_eq (by omega) (fun j hj hji=>?_) (fun _=>?_)
   ·have:=List.pairwise_iff_getElem.1 h j i hj hi hji
    rw[cmpK_neg];rw[e]at this;exact this
   ·rw[cmpK_neg,e];exact ltK_irrefl _
  rw[hp,List.getElem?_eq_getElem hi,e]
 ·intro hg
  exact getL_of_mem h.nodup (List.mem_of_getElem? hg)
theorem SortedL.isSome{r:LinkL}(h:SortedL r)(k:Key):isL k r=(getL k r).isSome:=by
 unfold isL
 cases hq:r[posL k r]? with
 |none=>
  cases hg:getL k r with
  |none=>rfl
  |some x=>rw[(h.at k x).1 hg]at hq;cases hq
 |some p=>
  by_cases hp:p.1=k
  ·have:r[posL k r]?=some (k,p.2):=by rw[hq,<-hp]
   rw[(h.at k p.2).2 this];simp[hp]
  ·cases hg:getL k r with
   |none=>simp[hp]
   |some x=>rw[(h.at k x).1 hg]at hq;cases hq;exact absurd rfl hp
def insL(k:Key)(x:Int)(r:LinkL):LinkL:=r.take (posL k r)++(k,x)::r.drop (posL k r)
theorem SortedL.ins{r:LinkL}(h:SortedL r){k:Key}(x:Int)(hg:getL k r=none):SortedL (insL k x r):=by
 have hk:=getL_none.1 hg;have h1:SortedL (r.take (posL k r)):=h.sublist (List.take_sublist _ _);have h2:SortedL (r.drop (posL k r)):=h.sublist (List.drop_sublist _ _)
 have ha:∀p∈r.take (posL k r),ltK p.1 k:=fun p hp=>by
  obtain⟨i,hi,e⟩:=List.getElem_of_mem hp;have hi':i<posL k r/\i<r.length:=by simp at hi;omega
  rw[List.getElem_take]at e;rw[<-e,<-cmpK_neg];exact posL_lt k r i hi'.2 hi'.1
 have hb:∀p∈r.drop (posL k r),ltK k p.1:=fun p hp=>by
  obtain⟨i,hi,e⟩:=List.getElem_of_mem hp;have hi':posL k r+i<r.length:=by simp at hi;omega
  rw[List.getElem_drop]at e;have hp0:posL k r<r.length:=by omega
  have h0:=posL_ge k r hp0;rw[cmpK_neg]at h0;have hne:r[posL k r].1≠k:=fun e=>hk (e▸List.mem_map.2 ⟨_,List.getElem_mem hp0,rfl⟩)
  have h3:ltK k r[posL k r].1:=by
   rcases ltK_tri r[posL k r].1 k with h|h|h
   ·exact absurd h h0
   ·exact absurd h hne
   ·exact h
  rw[<-e]
  rcases Nat.eq_zero_or_pos i with rfl|hi0
  ·exact h3
  ·exact ltK_trans h3 (List.pairwise_iff_getElem.1 h (posL k r) (posL k r+i) hp0 hi' (by omega))
 show List.Pairwise _ (r.take (posL k r)++(k,x)::r.drop (posL k r))
 rw[List.pairwise_append,List.pairwise_cons];refine⟨h1,⟨hb,h2⟩,fun p hp q hq=>?_⟩
 rcases List.mem_cons.1 hq with rfl|hq
 ·exact ha p hp
 ·exact ltK_trans (ha p hp) (hb q hq)
theorem ins_perm(k:Key)(x:Int)(r:LinkL):(insL k x r).Perm (r++[(k,x)]):=by
 unfold insL;refine List.perm_middle.trans ?_;rw[List.take_append_drop];exact(List.perm_append_singleton _ _).symm
structure RefOf(r l:LinkL):Prop where
 sorted:SortedL r
 perm:r.Perm l
theorem useOf_perm{r l:LinkL}(h:r.Perm l)(n:ByteArray):useOf r n=useOf l n:=by
 induction h with
 |nil=>rfl
 |cons x _ ih=>simp only[useOf,ih]
 |swap x y l=>simp only[useOf];omega
 |trans _ _ h1 h2=>rw[h1,h2]
theorem cntOf_perm{r l:LinkL}(h:r.Perm l)(n:ByteArray):cntOf r n=cntOf l n:=by
 induction h with
 |nil=>rfl
 |cons x _ ih=>simp only[cntOf,ih]
 |swap x y l=>simp only[cntOf];omega
 |trans _ _ h1 h2=>rw[h1,h2]
theorem RefOf.nodup{r l:LinkL}(h:RefOf r l):(l.map (·.1)).Nodup:=(h.perm.map _).nodup_iff.1 h.sorted.nodup
theorem RefOf.get{r l:LinkL}(h:RefOf r l)(k:Key):getL k r=getL k l:=by
 have hm:∀x,getL k r=some x↔getL k l=some x:=fun x=>
  ⟨fun hg=>getL_of_mem h.nodup (h.perm.mem_iff.1 (yC hg)),fun hg=>getL_of_mem h.sorted.nodup (h.perm.mem_iff.2 (yC hg))⟩
 cases hr:getL k r with
 |some x=>exact((hm x).1 hr).symm
 |none=>
  cases hl:getL k l with
  |none=>rfl
  |some x=>rw[(hm x).2 hl]at hr;cases hr
theorem RefOf.addE{r l:LinkL}(h:RefOf r l)(asked:Bool)(limit:Int)(k:Key)(x:Int):addE asked limit r k x=addE asked limit l k x:=by
 unfold Go.Proofs.YtjeonjoifjbohaaGreat.addE;rw[h.get k,useOf_perm h.perm,h.perm.length_eq]
def addR(asked:Bool)(limit:Int)(r:LinkL)(k:Key)(x:Int):LinkL:=if(addE asked limit r k x).1 then insL k x r else r
theorem addE_none{asked:Bool}{limit:Int}{l:LinkL}{k:Key}{x:Int}(h:(addE asked limit l k x).1=true):getL k l=none:=by
 unfold Go.Proofs.YtjeonjoifjbohaaGreat.addE at h
 split at h
 ·split at h
  ·cases h
  ·cases hg:getL k l with
   |none=>rfl
   |some old=>rw[hg]at h;simp only at h;split at h<;>cases h
 ·cases h
theorem RefOf.add{r l:LinkL}(h:RefOf r l)(asked:Bool)(limit:Int)(k:Key)(x:Int):RefOf (addR asked limit r k x) (addL asked limit l k x):=by
 unfold addR addL;rw[h.addE]
 split
 ·rename_i hb
  have hg:=addE_none hb;exact⟨h.sorted.ins x ((h.get k).trans hg),(ins_perm k x r).trans (h.perm.append_right _)⟩
 ·exact h
theorem RefOf.filter{r l:LinkL}(h:RefOf r l)(f:Key×Int->Bool):RefOf (r.filter f) (l.filter f):=⟨h.sorted.filter _,h.perm.filter _⟩
theorem RefOf.forget{r l:LinkL}(h:RefOf r l)(x:List UInt8):RefOf (xX r x) (xX l x)/\xQ r x=xQ l x:=⟨h.filter _,(h.perm.filter _).length_eq⟩
def useUpto(r:LinkL)(n:ByteArray)(i:Nat):Int:=useOf (r.take i) n
theorem useUpto_succ{r:LinkL}{n:ByteArray}{i:Nat}(h:i<r.length):useUpto r n (i+1)=useUpto r n i+(if r[i].1.1=n then r[i].2 else 0):=by
 unfold useUpto;rw[List.take_succ_eq_append_getElem h,useOf_append]
 simp[useOf]
def idsR(r:LinkL)(n:ByteArray):List (List UInt8):=(r.filter fun p=>decide (p.1.1=n)).map (·.1.2)
theorem idsR_succ{r:LinkL}{n:ByteArray}{i:Nat}(h:i<r.length):idsR (r.take (i+1)) n=if r[i].1.1=n then idsR (r.take i) n++[r[i].1.2]else idsR (r.take i) n:=by
 unfold idsR;rw[List.take_succ_eq_append_getElem h,List.filter_append,List.map_append]
 split<;>rename_i hn<;>simp[hn]
theorem RefOf.ids{r l:LinkL}(h:RefOf r l)(n:ByteArray):IDsOf l n (idsR r n):=by
 refine⟨?_,fun x=>?_⟩
 ·unfold idsR
  rw[List.pairwise_map];refine(h.sorted.filter _).imp_of_mem fun{p q} hp hq hpq=>?_;have h1:=of_decide_eq_true (List.mem_filter.1 hp).2
  have h2:=of_decide_eq_true (List.mem_filter.1 hq).2
  rcases hpq with h3|h3
  ·rw[h1,h2]at h3;exact absurd h3 (List.lt_irrefl _)
  ·exact h3.2
 ·unfold idsR
  rw[<-(h.perm.map (·.1)).mem_iff];simp only[List.mem_map,List.mem_filter,decide_eq_true_eq]
  constructor
  ·rintro⟨p,⟨h1,h2⟩,rfl⟩;exact⟨p,h1,by rw[<-h2]⟩
  ·rintro⟨p,h1,h2⟩;exact⟨p,⟨h1,by rw[h2]⟩,by rw[h2]⟩
def jO(r:LinkL):Nat->List ByteArray
 |0=>[]
 |n+1=>match r[n]? with
  |none=>jO r n
  |some p=>if n=0\/(r[n-1]?).map (·.1.1)≠some p.1.1 then jO r n++[p.1.1]else jO r n
theorem reposR_len(r:LinkL):∀n,(jO r n).length<=n
 |0=>by simp[jO]
 |n+1=>by
  have:=reposR_len r n;unfold jO
  split
  ·omega
  ·split
   ·simp;omega
   ·omega
theorem ltK_repo{p q:Key}(h:ltK p q):p.1.data.toList<q.1.data.toList\/p.1=q.1:=h.imp id (·.1)
theorem reposR_inv{r:LinkL}(h:SortedL r):∀n,n<=r.length->(jO r n).Pairwise (fun a b=>a.data.toList<b.data.toList)/\(∀x,x∈jO r n↔∃i,∃h:i<r.length,i<n/\r[i].1.1=x)
 |0,_=>⟨by simp[jO],fun x=>by simp[jO]⟩
 |n+1,hn=>by
  obtain⟨h1,h2⟩:=reposR_inv h n (by omega);have hlt:n<r.length:=by omega
  have e:r[n]?=some r[n]:=List.getElem?_eq_getElem hlt;unfold jO;rw[e]
  simp only
  by_cases hc:n=0\/(r[n-1]?).map (·.1.1)≠some r[n].1.1
  ·rw[if_pos hc]
   have hless:∀x∈jO r n,x.data.toList<r[n].1.1.data.toList:=fun x hx=>by
    obtain⟨i,hi,hin,rfl⟩:=(h2 x).1 hx;have hn0:0<n:=by omega
    have hp:n-1<r.length:=by omega
    have hne:r[n-1].1.1≠r[n].1.1:=by
     rcases hc with hc|hc
     ·omega
     ·rw[List.getElem?_eq_getElem hp]at hc
      simpa using hc
    have hl:r[n-1].1.1.data.toList<r[n].1.1.data.toList:=(ltK_repo (List.pairwise_iff_getElem.1 h (n-1) n hp hlt (by omega))).resolve_right hne
    by_cases hin':i=n-1
    ·subst hin';exact hl
    ·rcases ltK_repo (List.pairwise_iff_getElem.1 h i (n-1) hi hp (by omega))with h3|h3
     ·exact List.lt_trans h3 hl
     ·rw[h3];exact hl
   refine⟨?_,fun x=>?_⟩
   ·rw[List.pairwise_append]
    exact⟨h1,by simp,fun a ha b hb=>by simp at hb;rw[hb];exact hless a ha⟩
   ·rw[List.mem_append,h2,List.mem_singleton]
    constructor
    ·rintro(⟨i,hi,h3,h4⟩|h3)
     ·exact⟨i,hi,by omega,h4⟩
     ·exact⟨n,hlt,by omega,h3.symm⟩
    ·rintro⟨i,hi,h3,h4⟩
     by_cases hin:i=n
     ·subst hin;exact .inr h4.symm
     ·exact .inl ⟨i,hi,by omega,h4⟩
  ·rw[if_neg hc]
   refine⟨h1,fun x=>?_⟩;have hn0:n≠0:=fun e=>hc (.inl e);have hp:n-1<r.length:=by omega
   have he:r[n-1].1.1=r[n].1.1:=by
    have h3:¬(r[n-1]?).map (·.1.1)≠some r[n].1.1:=fun h=>hc (.inr h);rw[List.getElem?_eq_getElem hp]at h3
    simpa using h3
   rw[h2]
   constructor
   ·rintro⟨i,hi,h3,h4⟩;exact⟨i,hi,by omega,h4⟩
   ·rintro⟨i,hi,h3,h4⟩
    by_cases hin:i=n
    ·subst hin;exact⟨i-1,hp,by omega,he.trans h4⟩
    ·exact⟨i,hi,by omega,h4⟩
theorem RefOf.repos{r l:LinkL}(h:RefOf r l):ReposOf l (jO r r.length):=by
 obtain⟨h1,h2⟩:=reposR_inv h.sorted r.length (Nat.le_refl _);refine⟨h1,fun x=>?_⟩;rw[h2,<-cntOf_perm h.perm]
 constructor
 ·rintro⟨i,hi,_,rfl⟩;exact cntOf_of_mem (List.getElem_mem hi)
 ·intro hc
  obtain⟨p,hp,rfl⟩:=cntOf_pos hc;obtain⟨i,hi,rfl⟩:=List.getElem_of_mem hp;exact⟨i,hi,hi,rfl⟩
def backB(s:ByteArray)(pos k:Nat):Int:=if k<=pos then((s.get! (pos-k)).toNat:Int)else 47
def goesB(last ahead c:Int):Bool:=
 if wordB c then true else if last=47\/last=46 then false else if wordB last then decide (c=46\/c=95\/c=45\/c=47)else if last=95 then decide (c=95/\ahead≠95)else decide (c=45)
def refRun(s:ByteArray):Nat->Nat->Int->Bool
 |0,_,_=>true
 |f+1,pos,parts=>if pos<s.size then
  if goesB (backB s pos 1) (backB s pos 2) (Utf8.decode s pos).1&&decide ((if((Utf8.decode s pos).1:Int)=47 then parts+1 else parts)<=8)then refRun s f (pos+(Utf8.decode s pos).2) (if((Utf8.decode s pos).1:Int)=47 then parts+1 else parts)else false
  else true
def refNameB(s:ByteArray):Bool:=decide (s.size<=128)&&(refRun s s.size 0 1&&(decide (s.size≠0)&&wordB (backB s s.size 1)))
theorem decode_low(s:ByteArray)(i:Nat)(h:(Utf8.decode s i).1<128):Utf8.decode s i=((s.get! i).toNat,1):=by
 unfold Utf8.decode at h |-;simp only[Nat.add_zero,Utf8.runeError]at h |-
 split
 ·rfl
 ·rename_i h0
  simp only[h0,if_false]at h
  split at h
  ·split at h
   ·omega
   ·simp only at h;omega
  ·split at h
   ·split at h
    ·rename_i h1;simp only[Bool.and_eq_true,decide_eq_true_eq]at h1;omega
    ·simp only at h;omega
   ·split at h
    ·split at h
     ·rename_i h1;simp only[Bool.and_eq_true,decide_eq_true_eq]at h1;omega
     ·simp only at h;omega
    ·simp only at h;omega
structure NRel(s:ByteArray)(pos:Nat)(k:Kd)(n parts:Int):Prop where
 parts:parts=8-n
 left:0<=n/\n<=7
 kind:match k with
  | .word=>backB s pos 1=47\/backB s pos 1=46\/(backB s pos 1=95/\backB s pos 2=95)
  | .inside=>wordB (backB s pos 1)=true
  | .second=>backB s pos 1=95/\backB s pos 2≠95
  | .dashes=>backB s pos 1=45
theorem wordB_iff(c:Int):wordB c=true↔(97<=c/\c<=122)\/(48<=c/\c<=57):=by simp[wordB]
theorem wordB_not(c:Int):wordB c=false↔¬((97<=c/\c<=122)\/(48<=c/\c<=57)):=by rw[<-wordB_iff];simp
theorem backB_one{s:ByteArray}{pos:Nat}:backB s (pos+1) 1=((s.get! pos).toNat:Int):=by simp[backB]
theorem backB_two{s:ByteArray}{pos:Nat}:backB s (pos+1) 2=backB s pos 1:=by
 unfold backB
 rcases Nat.eq_zero_or_pos pos with rfl|h
 ·simp
 ·rw[if_pos (by omega),if_pos (by omega),show pos+1-2=pos-1 by omega]
theorem goes_none{s:ByteArray}{pos:Nat}{k:Kd}{n parts c:Int}(h:NRel s pos k n parts)(hs:stepS k n c=none):(goesB (backB s pos 1) (backB s pos 2) c&&decide ((if c=47 then parts+1 else parts)<=8))=false:=by
 have hp:=h.parts;have hl:=h.left;have hk:=h.kind
 have hw:wordB c=false:=by
  cases hc:wordB c with
  |false=>rfl
  |true=>cases k<;>simp[stepS,stepW,hc]at hs<;>(repeat' split at hs)<;>simp_all
 have hw':=(wordB_not c).1 hw
 cases k with
 |word=>
  simp only at hk
  have:goesB (backB s pos 1) (backB s pos 2) c=false:=by
   unfold goesB;rw[if_neg (by simp[hw])]
   rcases hk with hk|hk|⟨hk,hk2⟩
   ·rw[if_pos (.inl hk)]
   ·rw[if_pos (.inr hk)]
   ·rw[hk,hk2];simp[wordB]
  simp[this]
 |inside=>
  simp only at hk;have hk':=(wordB_iff _).1 hk;simp only[stepS]at hs;unfold goesB;rw[if_neg (by simp[hw]),if_neg (by omega),if_pos hk]
  split at hs
  ·cases hs
  ·split at hs
   ·cases hs
   ·split at hs
    ·cases hs
    ·split at hs
     ·cases hs
     ·rename_i h1 h2 h3 h4
      by_cases h47:c=47
      ·have:¬0<n:=fun h=>h1 ⟨h47,h⟩
       rw[if_pos h47];simp only[Bool.and_eq_false_iff,decide_eq_false_iff_not];right;omega
      ·simp[h47,h2,h3,h4]
 |second=>
  simp only at hk;simp only[stepS]at hs;unfold goesB;rw[if_neg (by simp[hw]),if_neg (by omega),if_neg (by rw[hk.1];simp[wordB]),if_pos hk.1]
  split at hs
  ·cases hs
  ·rename_i h1;simp[h1]
 |dashes=>
  simp only at hk;simp only[stepS]at hs;unfold goesB;rw[if_neg (by simp[hw]),if_neg (by omega),if_neg (by rw[hk];simp[wordB]),if_neg (by omega)]
  split at hs
  ·cases hs
  ·rename_i h1;simp[h1]
theorem goes_some{s:ByteArray}{pos:Nat}{k:Kd}{n parts c:Int}{r:Kd×Int}(h:NRel s pos k n parts)(hc:c=((s.get! pos).toNat:Int))(hs:stepS k n c=some r):
 (goesB (backB s pos 1) (backB s pos 2) c&&decide ((if c=47 then parts+1 else parts)<=8))=true/\NRel s (pos+1) r.1 r.2 (if c=47 then parts+1 else parts):=by
 have hp:=h.parts;have hl:=h.left;have hk:=h.kind;have hb1:backB s (pos+1) 1=c:=by rw[backB_one,hc]
 have hb2:backB s (pos+1) 2=backB s pos 1:=backB_two
 have hword:wordB c=true->r=(.inside,n)->(goesB (backB s pos 1) (backB s pos 2) c&&decide ((if c=47 then parts+1 else parts)<=8))=true/\NRel s (pos+1) r.1 r.2 (if c=47 then parts+1 else parts):=by
  intro hw hr;have hw':=(wordB_iff c).1 hw;have h47:c≠47:=by omega
  subst hr;refine⟨?_,?_⟩
  ·unfold goesB;rw[if_pos hw];simp[h47];omega
  ·rw[if_neg h47];exact⟨hp,hl,by simp only;rw[hb1];exact hw⟩
 have hstep:stepW n c=some r->(goesB (backB s pos 1) (backB s pos 2) c&&decide ((if c=47 then parts+1 else parts)<=8))=true/\NRel s (pos+1) r.1 r.2 (if c=47 then parts+1 else parts):=by
  intro h1;unfold stepW at h1
  split at h1
  ·rename_i hw;exact hword hw (Option.some.inj h1).symm
  ·cases h1
 cases k with
 |word=>exact hstep hs
 |inside=>
  simp only at hk;have hk':=(wordB_iff _).1 hk
  have hgo:¬wordB c=true->goesB (backB s pos 1) (backB s pos 2) c=decide (c=46\/c=95\/c=45\/c=47):=by
   intro hw;unfold goesB;rw[if_neg hw,if_neg (by omega),if_pos hk]
  simp only[stepS]at hs
  split at hs
  ·rename_i h1
   obtain rfl:=Option.some.inj hs;refine⟨?_,?_⟩
   ·rw[hgo (by rw[h1.1];simp[wordB]),if_pos h1.1];simp[h1.1];omega
   ·rw[if_pos h1.1];exact⟨by simp only;omega,by simp only;omega,by simp only;rw[hb1];exact .inl h1.1⟩
  ·split at hs
   ·rename_i h1
    obtain rfl:=Option.some.inj hs;refine⟨?_,?_⟩
    ·rw[hgo (by rw[h1];simp[wordB]),if_neg (by omega)];simp[h1];omega
    ·rw[if_neg (by omega)];exact⟨hp,hl,by simp only;rw[hb1];exact .inr (.inl h1)⟩
   ·split at hs
    ·rename_i h1
     obtain rfl:=Option.some.inj hs;refine⟨?_,?_⟩
     ·rw[hgo (by rw[h1];simp[wordB]),if_neg (by omega)];simp[h1];omega
     ·rw[if_neg (by omega)];exact⟨hp,hl,by simp only;rw[hb1,hb2];exact⟨h1,by omega⟩⟩
    ·split at hs
     ·rename_i h1
      obtain rfl:=Option.some.inj hs;refine⟨?_,?_⟩
      ·rw[hgo (by rw[h1];simp[wordB]),if_neg (by omega)];simp[h1];omega
      ·rw[if_neg (by omega)];exact⟨hp,hl,by simp only;rw[hb1];exact h1⟩
     ·exact hstep hs
 |second=>
  simp only at hk;simp only[stepS]at hs
  split at hs
  ·rename_i h1
   obtain rfl:=Option.some.inj hs;refine⟨?_,?_⟩
   ·unfold goesB
    rw[if_neg (by rw[h1];simp[wordB]),if_neg (by omega),if_neg (by rw[hk.1];simp[wordB]),if_pos hk.1,if_neg (by omega)]
    simp[h1,hk.2];omega
   ·rw[if_neg (by omega)];exact⟨hp,hl,by simp only;rw[hb1,hb2];exact .inr (.inr ⟨h1,hk.1⟩)⟩
  ·exact hstep hs
 |dashes=>
  simp only at hk;simp only[stepS]at hs
  split at hs
  ·rename_i h1
   obtain rfl:=Option.some.inj hs;refine⟨?_,?_⟩
   ·unfold goesB
    rw[if_neg (by rw[h1];simp[wordB]),if_neg (by omega),if_neg (by rw[hk];simp[wordB]),if_neg (by omega),if_neg (by omega)]
    simp[h1];omega
   ·rw[if_neg (by omega)];exact⟨hp,hl,by simp only;rw[hb1];exact h1⟩
  ·exact hstep hs
theorem stepS_ascii{k:Kd}{n:Int}{c:Nat}{r:Kd×Int}(h:stepS k n c=some r):c<128:=by
 have hw:stepW n c=some r->c<128:=by
  intro h1;unfold stepW at h1
  split at h1
  ·rename_i hw;have:=(wordB_iff _).1 hw;omega
  ·cases h1
 cases k<;>simp only[stepS]at h
 ·exact hw h
 ·split at h
  ·omega
  ·split at h
   ·omega
   ·split at h
    ·omega
    ·split at h
     ·omega
     ·exact hw h
 ·split at h
  ·omega
  ·exact hw h
 ·split at h
  ·omega
  ·exact hw h
theorem refRun_eq(s:ByteArray):∀(f pos:Nat)(k:Kd)(n parts:Int),NRel s pos k n parts->pos<=s.size->s.size-pos<=f->(refRun s f pos parts&&wordB (backB s s.size 1))=endsB (nameRun s f pos k n):=by
 have hend:∀(k:Kd)(n parts:Int),NRel s s.size k n parts->wordB (backB s s.size 1)=kdEnds k:=by
  intro k n parts h;have hk:=h.kind
  cases k with
  |word=>simp only at hk;rcases hk with hk|hk|⟨hk,_⟩<;>rw[hk]<;>rfl
  |inside=>exact hk
  |second=>simp only at hk;rw[hk.1];rfl
  |dashes=>simp only at hk;rw[hk];rfl
 intro f
 induction f with
 |zero=>
  intro pos k n parts h hp hf;obtain rfl:pos=s.size:=by omega
  simp[refRun,nameRun,endsB,hend k n parts h]
 |succ f ih=>
  intro pos k n parts h hp hf
  by_cases hlt:pos<s.size
  ·rw[nameRun_step s f pos k n hlt]
   simp only[refRun,if_pos hlt]
   cases hs:stepS k n ((Utf8.decode s pos).1:Int)with
   |none=>
    have:=goes_none h hs;rw[this];simp[endsB]
   |some r=>
    have hd:=decode_low s pos (stepS_ascii hs);rw[hd]at hs |-;obtain⟨h1,h2⟩:=goes_some h rfl hs;simp only at h1 h2 |-;rw[h1,if_pos rfl]
    exact ih (pos+1) r.1 r.2 _ h2 (by omega) (by omega)
  ·obtain rfl:pos=s.size:=by omega
   rw[nameRun_end s _ _ k n hlt]
   simp[refRun,endsB,hend k n parts h]
theorem refName_eq(s:ByteArray):refNameB s=nameB s:=by
 unfold refNameB nameB
 congr 1
 have h0:NRel s 0 .word 7 1:=⟨by omega,by omega,by simp[backB]⟩;rw[<-refRun_eq s s.size 0 .word 7 1 h0 (by omega) (by omega)]
 by_cases h:s.size=0
 ·have:wordB (backB s s.size 1)=false:=by rw[h];rfl
  rw[this];simp
 ·simp[h]
theorem head_size{s:ByteArray}{n:Nat}(h:n<=s.size):(s.extract 0 n).size=n:=by
 rw[Lib.size_eq,Lib.extract_data,List.length_take,List.length_drop,<-Lib.size_eq];omega
theorem head_get{s:ByteArray}{n j:Nat}(h:j<n):(s.extract 0 n).get! j=s.get! j:=by
 rw[<-Lib.getD_get!',<-Lib.getD_get!',Lib.extract_data]
 simp[List.getD,List.getElem?_take,h]
theorem head_back{s:ByteArray}{n k:Nat}(h:n<=s.size)(hk:1<=k):backB (s.extract 0 n) (s.extract 0 n).size k=backB s n k:=by
 unfold backB;rw[head_size h]
 split
 ·rw[head_get (by omega)]
 ·rfl
theorem backB_byte(s:ByteArray)(n k:Nat):0<=backB s n k/\backB s n k<=255:=by
 unfold backB
 split
 ·have:=(s.get! (n-k)).toNat_lt;omega
 ·omega
theorem get_bang{s:ByteArray}{i:Nat}(h:i<s.size):s.get! i=s[i]:=by
 cases s with
 |mk d=>
  show d[i]! =d[i]
  rw[getElem!_pos d i h]
theorem exec_index_str{P:Program}{w:World}{o:Oper}{a:Act}(t:TypeId)(x y:Operand)(s:ByteArray)(i:Nat)(ho:o.op=.index t x y)(hx:a.eval x=.string s)(hy:a.eval y=.int .i64 (i:Int))(ht:P.underlying t=some .string)(h:i<s.size)
 (v:Int)(hv:((s.get! i).toNat:Int)=v):(execOp a.eval o).run P w=.ok (.value (.int .u8 v)) w:=by
 subst hv;unfold execOp;simp only[ho,hx,hy];have h1:=run_index_string (P:=P) w t s .i64 (i:Int) ht;rw[dif_pos (by omega)]at h1;rw[Sem.run_bind,h1,get_bang h]
 rfl
theorem exec_head_str{P:Program}{w:World}{o:Oper}{a:Act}(t:TypeId)(x y:Operand)(s:ByteArray)(i:Nat)(ho:o.op=.slice t x none (some y) none)(hx:a.eval x=.string s)(hy:a.eval y=.int .i64 (i:Int))(ht:P.underlying t=some .string)(h:i<=s.size):
 (execOp a.eval o).run P w=.ok (.value (.string (s.extract 0 i))) w:=by
 unfold execOp;simp only[ho,hx,hy,Option.map_none,Option.map_some];have h1:=run_slice_string_h (P:=P) w t s ht .i64 (i:Int) (by omega) (by omega)
 have h2:=run_sliceAt_string (P:=P) w t (.string s) none (some (.int .i64 (i:Int))) none ht
 simp only[Sem.run_bind,h2,h1,Result.andThen_ok,Sem.run_pure,Int.toNat_natCast]
theorem exec_conv_rune{P:Program}{w:World}{o:Oper}{a:Act}(t u:TypeId)(x:Operand)(n:Int)(ho:o.op=.convert t u x)(hx:a.eval x=.int .u8 n)(ht:(P.underlying t).isSome=true)(hu:P.underlying u=some (.int .i32))(h:0<=n/\n<=255):
 (execOp a.eval o).run P w=.ok (.value (.int .i32 n)) w:=by
 unfold execOp;simp only[ho,hx];have hk:P.intKind u=.i32:=by simp[Program.intKind,hu]
 have h1:=run_convert_int (P:=P) w t u .u8 n ht (by rw[hk];exact hu);rw[hk]at h1
 have h2:IntKind.i32.wrap n=n:=by simp[IntKind.wrap,IntKind.bits,IntKind.signed];omega
 rw[h2]at h1;rw[Sem.run_bind,h1]
 rfl
theorem refLow_any(c:Int)(w:World):Calls prog 261 #[.int .i32 c] w (RetE (.bool (wordB c)) w):=by
 go_enter func261,ntmps261
 by_cases h1:97<=c<;>by_cases h2:c<=122<;>by_cases h3:48<=c<;>by_cases h4:c<=57
 all_goals
  go_wp2;go_ret;exact⟨xL (by simp[wordB,h1,h2,h3,h4]),rfl⟩
theorem refEnds_any(e p:Int)(w:World):Calls prog 259 #[.int .i64 e,.int .i64 p] w (RetM (.agg #[.int .i64 e,.int .i64 p]) w):=by
 go_enter func259,ntmps259;go_upto_region 0 with(fail);refine wpR [1] ?_;simp only[stz]
 refine wpD (qN 255 (.agg #[.int .i64 0,.int .i64 0]) (by rfl) (by kernel_rfl) (fun w1 hB1 hm1 hs1=>?_))
 replace hB1:w1.heap[w.heap.size]?=some (.cells #[.int .i64 0,.int .i64 0] 255 (0,0)):=hB1;simp only[stz];go_upto_region 1 with(fail);refine wpR [3,3,3,1] ?_
 simp only[stz];refine qC (v:=?_) rfl (fun w'=>?_) ?_;rotate_left;·(go_simp;try with_reducible rfl)
 simp only[nmz]
 refine wpD (qF 255 _ _ w.heap.size 0 #[.int .i64 e,.int .i64 p] (by rfl) (by rfl) (by rfl) (by simp[Value.oneCell']) 2 (by kernel_rfl) rfl _ _ hB1 (by simp) (fun w2 hB2 hm2=>?_))
 simp only[stz];go_wp2;refine bodyPost_ret (results_cell_row rfl _ _ w.heap.size _ _ _ _ (by rfl) hB2 underlying255 rfl (by kernel_rfl)) rfl ?_
 exact⟨rfl,hm1.transB hm2 (Nat.le_refl _)⟩
theorem refGoes_any(b:ByteArray)(c:Int)(w:World)(hb:b.size<=1000000):Calls prog 260 #[.string b,.int .i32 c] w (RetE (.bool (goesB (backB b b.size 1) (backB b b.size 2) c)) w):=by
 obtain⟨L,hL⟩:∃L,backB b b.size 1=L:=⟨_,rfl⟩;obtain⟨A,hA⟩:∃A,backB b b.size 2=A:=⟨_,rfl⟩;have hLb:=backB_byte b b.size 1;rw[hL]at hLb;rw[hL,hA]
 have hL0:¬(0:Int)<(b.size:Int)->L=47:=fun h=>by rw[<-hL];unfold backB;rw[if_neg (by omega)]
 have hL1:0<b.size->((b.get! (b.size-1)).toNat:Int)=L:=fun h=>by rw[<-hL];unfold backB;rw[if_pos (by omega)]
 have hA0:¬(1:Int)<(b.size:Int)->A=47:=fun h=>by rw[<-hA];unfold backB;rw[if_neg (by omega)]
 have hA1:1<b.size->((b.get! (b.size-2)).toNat:Int)=A:=fun h=>by rw[<-hA];unfold backB;rw[if_pos (by omega)]
 clear hL hA;go_enter func260,ntmps260
 go_upto_if 11 with(fail)
 go_cut [6] (fun l wx=>l=.int .u8 L/\wx=w)
 case first=>
  by_cases h0:(0:Int)<(b.size:Int)
  ·have h1:b.size-1<b.size:=by omega
   go_upto_region 4 with(fail);refine wpR [3,3,3,0,3] ?_;simp only[stz]
   refine zJ _ _ _ _ (b.size:Int) 1 ((b.size-1:Nat):Int) rfl rfl rfl rfl (by omega) (by omega) (by omega) ?_;simp only[nmz]
   refine qG rfl (fun w' hS=>exec_index_str 9 _ _ b (b.size-1) rfl rfl rfl underlying9 h1 L (hL1 (by omega))) ?_;simp only[stz];go_wp2
   go_meet
   case rel=>exact⟨rfl,rfl⟩
  ·go_wp2
   go_meet
   case rel=>exact⟨by rw[hL0 h0],rfl⟩
 case rest=>
  obtain⟨rfl,hw⟩:=hcut;obtain rfl:=hw.symm
  go_upto_if 17 with(fail)
  go_cut [7] (fun l wx=>l=.int .u8 A/\wx=w)
  case first=>
   by_cases h0:(1:Int)<(b.size:Int)
   ·have h1:b.size-2<b.size:=by omega
    go_upto_region 6 with(fail);refine wpR [3,3,3,0,3] ?_;simp only[stz]
    refine zJ _ _ _ _ (b.size:Int) 2 ((b.size-2:Nat):Int) rfl rfl rfl rfl (by omega) (by omega) (by omega) ?_;simp only[nmz]
    refine qG rfl (fun w' hS=>exec_index_str 9 _ _ b (b.size-2) rfl rfl rfl underlying9 h1 A (hA1 (by omega))) ?_;simp only[stz];go_wp2
    go_meet
    case rel=>exact⟨rfl,rfl⟩
   ·go_wp2
    go_meet
    case rel=>exact⟨by rw[hA0 h0],rfl⟩
  case rest=>
   obtain⟨rfl,hw⟩:=hcut;obtain rfl:=hw.symm
   by_cases hc:wordB c=true
   ·go_wp2_with (go_at_call 261;refine(refLow_any c _).mono ?_;rintro _ wq ⟨rfl,hw⟩;obtain rfl:=hw.symm;rw[hc])
    go_ret;exact⟨xL (by simp[goesB,hc]),rfl⟩
   have hc':wordB c=false:=by simpa using hc
   by_cases h1:L=47
   ·go_wp2_with (go_at_call 261;refine(refLow_any c _).mono ?_;rintro _ wq ⟨rfl,hw⟩;obtain rfl:=hw.symm;rw[hc'])
    go_ret;exact⟨xL (by simp[goesB,hc',h1]),rfl⟩
   by_cases h2:L=46
   ·go_wp2_with (go_at_call 261;refine(refLow_any c _).mono ?_;rintro _ wq ⟨rfl,hw⟩;obtain rfl:=hw.symm;rw[hc'])
    go_ret;exact⟨xL (by simp[goesB,hc',h2]),rfl⟩
   obtain⟨t,ht⟩:∃t,wordB L=t:=⟨_,rfl⟩;have HT:=hid ht;clear ht
   go_upto_region 9 with(go_at_call 261;refine(refLow_any c _).mono ?_;rintro _ wq ⟨rfl,hw⟩;obtain rfl:=hw.symm;rw[hc']);refine wpR [3,3,3,3,3,3,3] ?_
   simp only[stz];refine qK _ _ _ _ _ _ _ _ rfl rfl rfl rfl rfl false (decide_eq_false h1) ?_;simp only[stz]
   refine qK _ _ _ _ _ _ _ _ rfl rfl rfl rfl rfl false (decide_eq_false h2) ?_;simp only[stz];go_upto_region 11 with(fail);refine wpR [3,0,1,3] ?_;simp only[stz]
   refine qG rfl (fun w' hS=>exec_conv_rune 5 21 _ L rfl rfl (by kernel_rfl) underlying21 hLb) ?_;simp only[nmz];refine wpDo rfl ?_
   go_wp2_with (go_at_call 261;refine(refLow_any L _).mono ?_;rintro _ wq ⟨rfl,hw⟩;obtain rfl:=hw.symm;rw[HT.out]);simp only[stz]
   cases t
   ·have ht:=HT.out
    clear HT;have h95:wordB 95=false:=rfl
    by_cases h3:L=95
    ·by_cases h4:c=95
     ·by_cases h5:A=95
      ·go_wp2
       go_ret;exact⟨xL (by simp[goesB,hc',h1,h2,h95,h3,h4,h5]),rfl⟩
      ·go_wp2
       go_ret;exact⟨xL (by simp[goesB,hc',h1,h2,h95,h3,h4,h5]),rfl⟩
     ·go_wp2
      go_ret;exact⟨xL (by simp[goesB,hc',h1,h2,h95,h3,h4]),rfl⟩
    ·by_cases h4:c=45
     ·go_wp2
      go_ret;exact⟨xL (by simp[goesB,hc',h1,h2,ht,h3,h4]),rfl⟩
     ·go_wp2
      go_ret;exact⟨xL (by simp[goesB,hc',h1,h2,ht,h3,h4]),rfl⟩
   ·have ht:=HT.out
    clear HT
    by_cases h3:c=46<;>by_cases h4:c=95<;>by_cases h5:c=45<;>by_cases h6:c=47
    all_goals
     go_wp2;go_ret;exact⟨xL (by simp[goesB,hc',h1,h2,ht,h3,h4,h5,h6]),rfl⟩
def RefRel(s:ByteArray)(r:Bool)(rb it:Nat)(w0:World)(v:Value)(w:World):Prop:=
 ∃f pos,∃parts:Int,v=.int .i64 parts/\w.heap[it]?=some (.stringIter s pos)/\r=refRun s f pos parts/\s.size<=pos+f/\(0<=parts/\parts<=8)/\Mod NoB w0 w/\w.heap[rb]?=some (.cells #[.int .i64 0,.int .i64 0] 255 (0,0))
theorem refRepo_any(s:ByteArray)(w:World)(hs:s.size<=maxLen):Calls prog 229 #[.string s] w (FaultR (refNameB s) w):=by
 unfold maxLen at hs;obtain⟨t,ht⟩:∃t,refNameB s=t:=⟨_,rfl⟩;rw[ht];have HT:=hid ht;clear ht;go_enter func229,ntmps229;go_upto_region 0 with(fail);refine wpR [1] ?_
 simp only[stz];refine wpD (qN 255 (.agg #[.int .i64 0,.int .i64 0]) (by rfl) (by kernel_rfl) (fun w1 hB1 hm1 hs1=>?_))
 replace hB1:w1.heap[w.heap.size]?=some (.cells #[.int .i64 0,.int .i64 0] 255 (0,0)):=hB1;simp only[stz]
 by_cases hlen:s.size<=128
 ·have hz:¬(128:Int)<(s.size:Int):=by omega
  go_upto_region 4 with(fail);refine wpR [3,1] ?_;simp only[stz];refine wpD (wp_rangeS 9 _ s (by rfl) (by rfl) underlying9 (fun w2 hB2 hm2 hs2=>?_))
  replace hB1:=hm2.obj id hB1;simp only[stz];obtain⟨r,hr⟩:∃r,refRun s s.size 0 1=r:=⟨_,rfl⟩
  have hst:RefRel s r w.heap.size w1.heap.size w (.int .i64 1) w2:=
   ⟨s.size,0,1,rfl,hB2,hr.symm,by omega,by omega,hm1.trans0 hm2,hB1⟩
  have hft:t=(r&&(decide (s.size≠0)&&wordB (backB s s.size 1))):=by rw[<-HT.out,<-hr];unfold refNameB;rw[decide_eq_true hlen];rfl
  have HFT:=hid hft;clear hB1 hB2 hm1 hm2 hs2 hft HT hr hz;go_wp2
  go_loopw [3] (RefRel s r w.heap.size w1.heap.size w) (fun _ wx=>leftOf w1.heap.size wx)
  case atStart=>exact hst
  case round=>
   rename World=>wr
   clear hst;obtain⟨f,pos,parts,rfl,hit,hr,hf,hpt,hM,hrb⟩:=hrel
   by_cases hp:pos<s.size
   ·obtain⟨f,rfl⟩:∃f',f=f'+1:=⟨f-1,by omega⟩
    go_upto_region 5 with(fail);refine wpR [1,3] ?_;simp only[stz];refine wpD (wp_nextS _ w1.heap.size s pos (by rfl) (by rfl) hit hp (fun w3 hit3 hm3 hs3=>?_))
    try simp only[nmz]
    refine qC (v:=?_) rfl (fun w'=>?_) ?_;rotate_left;·(go_simp;try with_reducible rfl)
    simp only[stz];replace hrb:=hm3.obj (b:=w.heap.size) (by omega) hrb;have hM3:Mod NoB w w3:=hM.transB hm3 (by omega);have hpos:=decode_pos s pos
    have hgo:s.size-(pos+(Utf8.decode s pos).2)<leftOf w1.heap.size wr:=by rw[leftOf_eq hit];omega
    simp only[refRun,if_pos hp]at hr;generalize hcc:(Utf8.decode s pos).1=c at*;generalize hww:(Utf8.decode s pos).2=wd at*;have hg:=refGoes_any (s.extract 0 pos) c
    rw[head_back (by omega) (by omega),head_back (by omega) (by omega),head_size (by omega)]at hg
    obtain⟨g,hgg⟩:∃g,goesB (backB s pos 1) (backB s pos 2) c=g:=⟨_,rfl⟩;obtain⟨q,hq⟩:∃q:Int,(if(c:Int)=47 then parts+1 else parts)=q:=⟨_,rfl⟩
    rw[hgg]at hg;rw[hgg,hq]at hr;have hqb:0<=q/\q<=9:=by rw[<-hq];split<;>omega
    have HR:=hid hr;have HG:=hid hgo;have HS:=hid hs3;have HGO:=hid hg;clear hr hcc hww hgo hs3 hit hgg hg
    go_upto_if 17 with(fail)
    go_cut [3] (fun v wx=>v=.int .i64 q/\wx=w3)
    case first=>
     by_cases h47:(c:Int)=47
     ·rw[if_pos h47]at hq
      go_wp2
      go_meet
      case rel=>exact⟨by rw[<-hq],rfl⟩
     ·rw[if_neg h47]at hq
      go_wp2
      go_meet
      case rel=>exact⟨by rw[<-hq],rfl⟩
    case rest=>
     obtain⟨rfl,hw⟩:=hcut;obtain rfl:=hw.symm;clear hq
     cases g
     ·go_upto_region 9 with(fail)
      refine wpR [3,3,0,3,1,3,3,3,3,3] ?_;simp only[stz];refine qG rfl (fun w' hS=>exec_head_str 9 _ _ s pos rfl rfl rfl underlying9 (by omega)) ?_
      simp only[stz];refine wpDo rfl ?_;go_wp2_with (go_at_call 260;refine(HGO.out _ (by omega)).mono ?_;rintro _ wq ⟨rfl,hw⟩;obtain rfl:=hw.symm);try simp only[stz]
      try refine zM _ _ _ rfl rfl rfl ?_
      try simp only[stz]
      go_upto_region 10 with(fail);refine wpR [3,1,1] ?_;simp only[stz];refine wpDo rfl ?_
      go_wp2_with (go_at_call 259;refine(refEnds_any 7 pos _).mono ?_;rintro _ w4 ⟨rfl,hm4⟩);replace hrb:=hm4.obj id hrb;try simp only[nmz]
      refine wpD (qF 255 _ _ w.heap.size 0 #[.int .i64 7,.int .i64 pos] (by rfl) (by rfl) (by rfl) (by simp[Value.oneCell']) 2 (by kernel_rfl) rfl _ _ hrb (by simp) (fun w5 hrb5 hm5=>?_))
      simp only[stz];go_wp2;refine bodyPost_ret (results_cell_row rfl _ _ w.heap.size _ _ _ _ (by rfl) hrb5 underlying255 rfl (by kernel_rfl)) rfl ?_;rw[HFT.out,HR.out]
      exact⟨7,pos,rfl,by simp,(hM3.trans0 hm4).transB hm5 (Nat.le_refl _)⟩
     ·by_cases hq8:8<q
      ·go_upto_region 9 with(fail)
       refine wpR [3,3,0,3,1,3,3,3,3,3] ?_;simp only[stz];refine qG rfl (fun w' hS=>exec_head_str 9 _ _ s pos rfl rfl rfl underlying9 (by omega)) ?_
       simp only[stz];refine wpDo rfl ?_;go_wp2_with (go_at_call 260;refine(HGO.out _ (by omega)).mono ?_;rintro _ wq ⟨rfl,hw⟩;obtain rfl:=hw.symm);try simp only[stz]
       try refine zM _ _ _ rfl rfl rfl ?_
       try simp only[stz]
       refine qK _ _ _ _ _ _ _ _ rfl rfl rfl rfl rfl true (decide_eq_true hq8) ?_;simp only[stz];go_upto_region 10 with(fail);refine wpR [3,1,1] ?_;simp only[stz]
       refine wpDo rfl ?_;go_wp2_with (go_at_call 259;refine(refEnds_any 7 pos _).mono ?_;rintro _ w4 ⟨rfl,hm4⟩);replace hrb:=hm4.obj id hrb;try simp only[nmz]
       refine wpD (qF 255 _ _ w.heap.size 0 #[.int .i64 7,.int .i64 pos] (by rfl) (by rfl) (by rfl) (by simp[Value.oneCell']) 2 (by kernel_rfl) rfl _ _ hrb (by simp) (fun w5 hrb5 hm5=>?_))
       simp only[stz];go_wp2;refine bodyPost_ret (results_cell_row rfl _ _ w.heap.size _ _ _ _ (by rfl) hrb5 underlying255 rfl (by kernel_rfl)) rfl ?_;rw[HFT.out,HR.out]
       have hd:decide (q<=8)=false:=decide_eq_false (by omega);exact⟨7,pos,rfl,by simp[hd],(hM3.trans0 hm4).transB hm5 (Nat.le_refl _)⟩
      ·have hd:decide (q<=8)=true:=decide_eq_true (by omega)
       go_upto_region 9 with(fail);refine wpR [3,3,0,3,1,3,3,3,3,3] ?_;simp only[stz]
       refine qG rfl (fun w' hS=>exec_head_str 9 _ _ s pos rfl rfl rfl underlying9 (by omega)) ?_;simp only[stz];refine wpDo rfl ?_
       go_wp2_with (go_at_call 260;refine(HGO.out _ (by omega)).mono ?_;rintro _ wq ⟨rfl,hw⟩;obtain rfl:=hw.symm);try simp only[stz]
       try refine zM _ _ _ rfl rfl rfl ?_
       try simp only[stz]
       refine qK _ _ _ _ _ _ _ _ rfl rfl rfl rfl rfl false (decide_eq_false (by omega)) ?_;simp only[stz]
       have hr2:r=refRun s f (pos+wd) q:=by have h:=HR.out;rw[hd]at h;simpa using h
       have HR2:=hid hr2;clear hr2 hd;go_wp2
       go_roundw
       case rel=>exact⟨f,pos+wd,q,rfl,hit3,HR2.out,by omega,by omega,hM3,hrb⟩
       case measure=>rw[leftOf_eq hit3];exact HG.out
   ·have hrt:r=true:=by rw[hr];cases f<;>simp[refRun,hp]
    have hft:t=(decide (s.size≠0)&&wordB (backB s s.size 1)):=by rw[HFT.out,hrt];rfl
    have HF:=hid hft;clear hr hrt hft HFT hf;go_upto_region 5 with(fail);refine wpR [1,3] ?_;simp only[stz]
    refine wpD (wp_nextS_end _ w1.heap.size s pos (by rfl) (by rfl) hit hp ?_);try simp only[nmz]
    refine qC (v:=?_) rfl (fun w'=>?_) ?_;rotate_left;·(go_simp;try with_reducible rfl)
    simp only[stz];go_upto_region 11 with(fail)
    by_cases h0:s.size=0
    ·have hse:s=⟨#[]⟩:=by
      cases s with
      |mk d=>have:d=#[]:=Array.eq_empty_of_size_eq_zero h0;rw[this]
     have hd:decide (s=⟨#[]⟩)=true:=decide_eq_true hse;have hft:t=false:=by rw[HF.out,h0];rfl
     refine wpR [3,0,3,3,3,3,3,3,3,1,3,3] ?_;simp only[stz];refine qG rfl (fun w' hS=>zY _ _ _ _ rfl _ _ rfl rfl true hd) ?_;simp only[stz]
     refine zO rfl trivial ?_;simp only[stz];clear hse hd h0;go_upto_region 12 with(fail);refine wpR [3,3,1,1] ?_;simp only[stz]
     refine wpPi_lenS _ _ s rfl rfl rfl underlying9 ?_;simp only[nmz];refine wpDo rfl ?_
     go_wp2_with (go_at_call 259;refine(refEnds_any 7 s.size _).mono ?_;rintro _ w4 ⟨rfl,hm4⟩);replace hrb:=hm4.obj id hrb;try simp only[nmz]
     refine wpD (qF 255 _ _ w.heap.size 0 #[.int .i64 7,.int .i64 s.size] (by rfl) (by rfl) (by rfl) (by simp[Value.oneCell']) 2 (by kernel_rfl) rfl _ _ hrb (by simp) (fun w5 hrb5 hm5=>?_))
     simp only[stz];go_wp2;refine bodyPost_ret (results_cell_row rfl _ _ w.heap.size _ _ _ _ (by rfl) hrb5 underlying255 rfl (by kernel_rfl)) rfl ?_;rw[hft]
     exact⟨7,s.size,rfl,by simp,(hM.trans0 hm4).transB hm5 (Nat.le_refl _)⟩
    ·have hse:s≠⟨#[]⟩:=fun e=>h0 (by rw[e];rfl)
     have hd:decide (s=⟨#[]⟩)=false:=decide_eq_false hse;obtain⟨L,hL⟩:∃L,backB s s.size 1=L:=⟨_,rfl⟩;have hLb:=backB_byte s s.size 1
     have hget:((s.get! (s.size-1)).toNat:Int)=L:=by rw[<-hL];unfold backB;rw[if_pos (by omega)]
     obtain⟨u,hu⟩:∃u,wordB L=u:=⟨_,rfl⟩;have hft:t=u:=by rw[HF.out,hL,hu,decide_eq_true h0];rfl
     rw[hL]at hLb;have HU:=hid hu;have HT:=hid hft;have h1:s.size-1<s.size:=by omega
     have h63:s.size<=1000000:=by omega
     clear hse hL hu hft HF hs;refine wpR [3,0,3,3,3,3,3,0,0,1,3,3] ?_;simp only[stz]
     refine qG rfl (fun w' hS=>zY _ _ _ _ rfl _ _ rfl rfl false hd) ?_;simp only[stz];refine wpPi_lenS _ _ s rfl rfl rfl underlying9 ?_;simp only[nmz]
     refine zJ _ _ _ _ (s.size:Int) 1 ((s.size-1:Nat):Int) rfl rfl rfl rfl (by omega) (by omega) (by omega) ?_;simp only[nmz]
     refine qG rfl (fun w' hS=>exec_index_str 9 _ _ s (s.size-1) rfl rfl rfl underlying9 h1 L hget) ?_;simp only[nmz]
     refine qG rfl (fun w' hS=>exec_conv_rune 5 21 _ L rfl rfl (by kernel_rfl) underlying21 hLb) ?_;simp only[nmz];refine wpDo rfl ?_
     go_wp2_with (go_at_call 261;refine(refLow_any L _).mono ?_;rintro _ wq ⟨rfl,hw⟩;obtain rfl:=hw.symm;rw[HU.out]);try simp only[stz]
     try refine zM _ _ _ rfl rfl rfl ?_
     try simp only[stz]
     clear hd hget HU
     cases u
     ·go_upto_region 12 with(fail)
      refine wpR [3,3,1,1] ?_;simp only[stz];refine wpPi_lenS _ _ s rfl rfl rfl underlying9 ?_;simp only[nmz];refine wpDo rfl ?_
      go_wp2_with (go_at_call 259;refine(refEnds_any 7 s.size _).mono ?_;rintro _ w4 ⟨rfl,hm4⟩);replace hrb:=hm4.obj id hrb;try simp only[nmz]
      refine wpD (qF 255 _ _ w.heap.size 0 #[.int .i64 7,.int .i64 s.size] (by rfl) (by rfl) (by rfl) (by simp[Value.oneCell']) 2 (by kernel_rfl) rfl _ _ hrb (by simp) (fun w5 hrb5 hm5=>?_))
      simp only[stz];go_wp2;refine bodyPost_ret (results_cell_row rfl _ _ w.heap.size _ _ _ _ (by rfl) hrb5 underlying255 rfl (by kernel_rfl)) rfl ?_;rw[HT.out]
      exact⟨7,s.size,rfl,by simp,(hM.trans0 hm4).transB hm5 (Nat.le_refl _)⟩
     ·go_upto_region 13 with(fail)
      refine wpR [3,1] ?_;simp only[stz];refine qC (v:=?_) rfl (fun w'=>?_) ?_;rotate_left;·(go_simp;try with_reducible rfl)
      simp only[nmz]
      refine wpD (qF 255 _ _ w.heap.size 0 #[.int .i64 0,.int .i64 0] (by rfl) (by rfl) (by rfl) (by simp[Value.oneCell']) 2 (by kernel_rfl) rfl _ _ hrb (by simp) (fun w5 hrb5 hm5=>?_))
      simp only[stz];go_wp2;refine bodyPost_ret (results_cell_row rfl _ _ w.heap.size _ _ _ _ (by rfl) hrb5 underlying255 rfl (by kernel_rfl)) rfl ?_;rw[HT.out]
      exact⟨0,0,rfl,by simp,hM.transB hm5 (Nat.le_refl _)⟩
 ·have hz:(128:Int)<(s.size:Int):=by omega
  have hf:t=false:=by rw[<-HT.out];unfold refNameB;rw[decide_eq_false hlen];rfl
  have HF:=hid hf;clear hf HT;go_upto_region 2 with(fail);refine wpR [1,1] ?_;simp only[stz];refine wpDo rfl ?_
  go_wp2_with (go_at_call 259;refine(refEnds_any 4 128 _).mono ?_;rintro _ w4 ⟨rfl,hm4⟩);replace hB1:=hm4.obj id hB1;try simp only[nmz]
  refine wpD (qF 255 _ _ w.heap.size 0 #[.int .i64 4,.int .i64 128] (by rfl) (by rfl) (by rfl) (by simp[Value.oneCell']) 2 (by kernel_rfl) rfl _ _ hB1 (by simp) (fun w5 hrb5 hm5=>?_))
  simp only[stz];go_wp2;refine bodyPost_ret (results_cell_row rfl _ _ w.heap.size _ _ _ _ (by rfl) hrb5 underlying255 rfl (by kernel_rfl)) rfl ?_;rw[HF.out]
  exact⟨4,128,rfl,by simp,(hm1.trans0 hm4).transB hm5 (Nat.le_refl _)⟩
theorem refNamed_any(s:ByteArray)(w:World)(hs:s.size<=maxLen):Calls prog 190 #[.string s] w (RetM (.bool (nameB s)) w):=by
 rw[<-refName_eq];obtain⟨t,ht⟩:∃t,refNameB s=t:=⟨_,rfl⟩;rw[ht];have HT:=hid ht;clear ht;go_enter func190,ntmps190;go_upto_region 1 with(fail)
 refine wpR [3,1,1,1] ?_;simp only[stz];refine wpDo rfl ?_
 go_wp2_with (go_at_call 229;refine(refRepo_any s _ hs).mono ?_;rintro _ w1 ⟨x,at',rfl,hx,hm⟩;rw[HT.out]at hx);try simp only[nmz]
 refine wpD (qN 255 (.agg #[.int .i64 0,.int .i64 0]) (by rfl) (by kernel_rfl) (fun w3 hB3 hm3 hs3=>?_))
 replace hB3:w3.heap[w1.heap.size]?=some (.cells #[.int .i64 0,.int .i64 0] 255 (0,0)):=hB3;try simp only[nmz]
 refine wpD (qF 255 _ _ w1.heap.size 0 #[.int .i64 x,.int .i64 at'] (by rfl) (by rfl) (by rfl) (by simp[Value.oneCell']) 2 (by kernel_rfl) rfl _ _ hB3 (by simp) (fun w4 hB4 hm4=>?_))
 simp only[stz];have hc:w4.cell? ⟨w1.heap.size,0,none⟩=some (.int .i64 x):=by rw[cell_of_row _ _ _ _ _ _ hB4];rfl
 have hM4:Mod NoB w w4:=(hm.trans0 hm3).transB hm4 (by have:=hm.size;omega);go_upto_region 2 with(fail);obtain⟨e,he⟩:∃e,cmpB .eql x 0=e:=⟨_,rfl⟩;have HE:=hid he
 clear he;refine wpR [3,1,3,3] ?_;simp only[stz];refine wpXd 33 w1.heap.size 0 hc underlying33 trivial ?_;try simp only[nmz]
 refine qK _ _ _ _ _ _ _ _ rfl rfl rfl rfl rfl e HE.out ?_;simp only[stz];go_wp2;go_ret;refine⟨xL ?_,hM4⟩;have h:=HE.out
 cases t
 ·simp only[Bool.false_eq_true,if_false]at hx
  rw[<-h];simp[cmpB,hx]
 ·simp only[if_true]at hx
  rw[<-h];simp[cmpB,hx.1]
def zU(p:Key×Int):Array Value:=#[.string p.1.1]++qA p.1.2++#[.int .i64 p.2]
def EntC(cs:Array Value)(p:Key×Int):Prop:=cs=zU p/\KeyOk p.1
def entL(p:Key×Int):List Value:=(zU p).toList
theorem xC{p:Key×Int}(h:KeyOk p.1):(zU p).size=34:=by unfold zU;have h:p.1.2.length=32:=h;simp[qB,h]
theorem entCells_at(p:Key×Int):(zU p)[0]?=some (.string p.1.1):=by
 unfold zU;rw[Array.getElem?_append_left (by simp;omega),Array.getElem?_append_left (by simp)];rfl
theorem entCells_id{p:Key×Int}(h:KeyOk p.1):(∀j,j<(qA p.1.2).size->(zU p)[1+j]?=(qA p.1.2)[j]?)/\(zU p)[33]?=some (.int .i64 p.2):=by
 have h:p.1.2.length=32:=h
 constructor
 ·intro j hj
  have hj':j<32:=by rw[qB]at hj;omega
  unfold zU;rw[Array.getElem?_append_left (by simp[qB];omega),Array.getElem?_append_right (by simp)]
  simp
 ·unfold zU
  rw[Array.getElem?_append_right (by simp[qB,h])]
  simp[qB,h]
structure RAt(w0 w:World)(q:Value)(limit:Int)(r:LinkL)(R:Nat->Prop):Prop where
 mod:Mod NoB w0 w
 ok:∃b v,q=.pointer (some ⟨b,0,none⟩)/\w.heap[b]?=some (.cells #[.int .i64 limit,v] 233 (0,0))/\w.ownsRow w0.heap.size 235 34 v r.length (r.flatMap entL)/\R b/\∀g,v.ownBlock=some g->R g/\g≠b
 keys:∀p∈r,KeyOk p.1
 few:r.length<=65536
 vals:∀p∈r,0<=p.2/\p.2<=4096
 old:∀k,R k->w0.heap.size<=k
 lt:∀k,R k->k<w.heap.size
def RfStep(w0 w:World)(q:Value)(limit:Int)(R:Nat->Prop)(w':World)(r:LinkL):Prop:=∃R',RAt w0 w' q limit r R'/\Mod R w w'/\∀k,R' k->R k\/New w w' k
section
variable{w0 w w':World}{q:Value}{limit:Int}{r r':LinkL}{R:Nat->Prop}
theorem owns_keep{S:Nat->Prop}{base e size n:Nat}{v:Value}{xs:List Value}(h:w.ownsRow base e size v n xs)(hm:Mod S w w')(hS:∀g,v.ownBlock=some g->¬S g):w'.ownsRow base e size v n xs:=by
 refine⟨h.1,?_⟩
 rcases h.2 with h|⟨g,cap,cur,rfl,hb,hg,h1,h2,h3,h4⟩
 ·exact .inl h
 ·exact .inr ⟨g,cap,cur,rfl,hb,hm.obj (hS g rfl) hg,h1,h2,h3,h4⟩
theorem RAt.keep{S:Nat->Prop}(h:RAt w0 w q limit r R)(hm:Mod S w w')(hS:∀k,R k->¬S k)(hS0:∀k,k<w0.heap.size->¬S k):RAt w0 w' q limit r R:=by
 obtain⟨hM,⟨b,v,rfl,hb,ho,hR,hg⟩,hk,hf,hv,hold,hlt⟩:=h
 exact⟨hM.trans hm (fun k hk hs=>hS0 k hk hs),⟨b,v,rfl,hm.obj (hS b hR) hb,owns_keep ho hm (fun g h=>hS g (hg g h).1),hR,hg⟩,hk,hf,hv,hold,fun k hk=>Nat.lt_of_lt_of_le (hlt k hk) hm.size⟩
theorem RAt.keep0(h:RAt w0 w q limit r R)(hm:Mod NoB w w'):RAt w0 w' q limit r R:=h.keep hm (fun _ _=>id) (fun _ _=>id)
theorem RAt.step(h:RAt w0 w q limit r R)(hm:Mod NoB w w'):RfStep w0 w q limit R w' r:=⟨R,h.keep0 hm,hm.mono (fun _ _ h=>False.elim h),fun k hk=>.inl hk⟩
theorem flat_ents(r:LinkL):r.flatMap entL=(r.map zU).flatMap Array.toList:=by rw[List.flatMap_map];rfl
theorem RAt.read(h:RAt w0 w q limit r R):∃b a cap,q=.pointer (some ⟨b,0,none⟩)/\w.cell? ⟨b,0,none⟩=some (.int .i64 limit)/\w.cell? ⟨b,1,none⟩=some (.slice a r.length cap)/\r.length<=cap/\
 (∀i,i<r.length->∃g off,a=some ⟨g,off,none⟩/\∀i (h:i<r.length),CellsAt w g (off+i*34) (zU r[i])):=by
 obtain⟨hM,⟨b,v,rfl,hb,ho,hR,hg⟩,hk,hf,hv,hold,hlt⟩:=h
 have hsl:=Sl.of_owns (R:=EntC) (l:=r) ho (flat_ents r) (fun c hc=>by obtain⟨p,hp,rfl⟩:=List.mem_map.1 hc;exact xC (hk p hp)) ⟨by simp,fun i h1 h2=>⟨by simp,hk _ (List.getElem_mem _)⟩⟩ rfl
 obtain⟨a,cap,rfl,hl,hc,hat⟩:=hsl;refine⟨b,a,cap,rfl,by rw[cell_of_row _ _ _ _ _ _ hb];rfl,by rw[cell_of_row _ _ _ _ _ _ hb];rfl,hl,fun i hi=>?_⟩
 obtain⟨g,off,ha,_,_,hc⟩:=hat (by rintro rfl;simp at hi);refine⟨g,off,ha,fun j hj=>?_⟩;obtain⟨cs,_,⟨rfl,_⟩,h⟩:=hc j hj;exact h
end
theorem refZ:(prog.info? 233).bind (·.zero)=some (.agg #[.int .i64 0,.slice none 0 0]):=by kernel_rfl
theorem refP:xV prog 233=some [(0,1),(1,1)]:=by kernel_rfl
theorem built_ref(n:Int):prog.built 233 [(0,.int .i64 n)]=some #[.int .i64 n,.slice none 0 0]:=by
 rw[zP refZ refP,zC (off:=0) (size:=1) rfl rfl (by simp),xY]
 rfl
theorem refNew_at(n:Int)(w0:World)(hn:0<=n/\n<=1099511627776)(w:World)(hM:Mod NoB w0 w):Calls prog 111 #[.int .i64 n] w fun e w'=>∃b R,e=.returned (.tuple #[.pointer (some ⟨b,0,none⟩),.int .i64 0])/\RAt w0 w' (.pointer (some ⟨b,0,none⟩)) n [] R/\Mod NoB w w'/\∀k,R k->w.heap.size<=k:=by
 have h1:¬n<0:=by omega
 have h2:¬(1099511627776:Int)<n:=by omega
 go_enter func111,ntmps111;go_upto_region 3 with(fail);refine wpR [3,1,1,3,3] ?_;simp only[stz]
 refine wpX rfl (qO 233 [(0,_)] [(0,.int .i64 n)] _ (by rfl) (by rfl) (built_ref n)) trivial ?_;try simp only[nmz]
 refine wpD (zL 233 _ _ (by rfl) (by rfl) (fun w1 hB1 hm1 hs1=>?_));replace hB1:w1.heap[w.heap.size]?=some (.cells #[.int .i64 n,.slice none 0 0] 233 (0,0)):=hB1
 simp only[stz];go_wp2;go_ret2;have h0:=hM.size
 refine⟨w.heap.size,rfl,fun k=>k=w.heap.size,⟨hM.trans0 hm1,⟨_,_,rfl,hB1,⟨rfl,.inl ⟨rfl,rfl⟩⟩,rfl,fun g h=>(nomatch h)⟩,fun p hp=>(nomatch hp),by simp,fun p hp=>(nomatch hp),fun k hk=>?_,fun k hk=>?_⟩,hm1,fun k hk=>?_⟩
 ·rw[show k=w.heap.size from hk];exact h0
 ·rw[show k=w.heap.size from hk];exact hs1
 ·rw[show k=w.heap.size from hk];exact Nat.le_refl _
section
variable{w0 w:World}{q:Value}{limit:Int}{r:LinkL}{R:Nat->Prop}
def AtRel(r:LinkL)(k:Key)(w0:World)(v:Value)(w:World):Prop:=∃n:Nat,n<=r.length/\v=.int .i64 n/\(∀j (h:j<r.length),j<n->cmpK r[j].1 k<0)/\Mod NoB w0 w
theorem cmpK_of(a b:Key):decide (cmpK a b<0)=(Op.bytesLess a.1.toList b.1.toList||(decide (a.1=b.1)&&decide (cmpI a.2 b.2<0))):=by
 rw[toL,toL,Bool.eq_iff_iff,decide_eq_true_iff];simp only[Bool.or_eq_true,Bool.and_eq_true,decide_eq_true_eq]
 have hb:Op.bytesLess a.1.data.toList b.1.data.toList=true↔cmpI a.1.data.toList b.1.data.toList<0:=by
  rw[cmpI_bytes]
  cases Op.bytesLess a.1.data.toList b.1.data.toList
  ·simp only[Bool.false_eq_true,if_false,false_iff];split<;>omega
  ·simp
 rw[hb];unfold cmpK orI
 split
 ·rename_i h
  constructor
  ·exact .inl
  ·rintro(h1|⟨h1,_⟩)
   ·exact h1
   ·rw[h1]at h;exact absurd ((cmpI_zero _ _).2 rfl) h
 ·rename_i h
  have h:cmpI a.1.data.toList b.1.data.toList=0:=Decidable.byContradiction fun hn=>h hn;have e:=ba_ext ((cmpI_zero _ _).1 h)
  constructor
  ·intro h1;exact .inr ⟨e,h1⟩
  ·rintro(h1|⟨_,h1⟩)
   ·omega
   ·exact h1
theorem refAt_any(h:RAt w0 w q limit r R)(k:Key)(hk:KeyOk k):Calls prog 189 #[q,.string k.1,.agg (qA k.2)] w (RetM (.tuple #[.int .i64 (posL k r),.bool (isL k r)]) w):=by
 obtain⟨b,ra,rc,rfl,hlim,hLc,hlc,hat⟩:=h.read;have hkeys:=h.keys;have hfew:=h.few;have HA:=hid hat;have HK:=hid hkeys;have hk32:k.2.length=32:=hk
 clear hat hkeys hlim h;go_enter func189,ntmps189;go_upto_region 0 with(fail);refine wpR [1,3,3] ?_;simp only[stz]
 refine wpD (zL 24 _ _ (by rfl) (by rfl) (fun w1 hB1 hm1 hs1=>?_));replace hB1:w1.heap[w.heap.size]?=some (.cells (qA k.2) 24 (0,0)):=hB1;simp only[stz]
 have hLc:=hm1.cell id hLc;have hbx:CellsAt w1 w.heap.size 0 (qA k.2):=CellsAt.whole hB1;have HM1:=hid hm1;clear hB1 hm1 hs1;go_wp2
 go_loopw [8] (AtRel r k w1) (fun i _=>r.length-(intOf i).toNat)
 case atStart=>exact⟨0,by omega,rfl,fun j _ hj=>by omega,Mod.refl _ _⟩
 case round=>
  rename World=>wr
  obtain⟨n,hn,rfl,hpre,hM⟩:=hrel;go_upto_region 2 with(fail);have hS:Mod NoB w1 wr.drew:=hM.drew
  by_cases hlt:n<r.length
  ·have hz:(n:Int)<(r.length:Int):=by omega
   obtain⟨g,off,rfl,hcells⟩:=HA.out n hlt;have hc:=(hcells n hlt).keep HM1.out id;have hkn:=HK.out r[n] (List.getElem_mem hlt)
   have hnext:cmpK r[n].1 k<0->∀j (h:j<r.length),j<n+1->cmpK r[j].1 k<0:=fun h1 j hj hj1=>by
    rcases Nat.lt_or_ge j n with h2|h2
    ·exact hpre j hj h2
    ·have:j=n:=by omega
     subst this;exact h1
   have hstop:¬cmpK r[n].1 k<0->posL k r=n:=fun h1=>posL_eq (by omega) hpre (fun _=>h1)
   have hisl:posL k r=n->isL k r=decide (r[n].1=k):=fun e=>by unfold isL;rw[e,List.getElem?_eq_getElem hlt]
   have hcmp:=cmpK_of r[n].1 k;clear hpre;generalize r[n]=p at*;have hc0:=hc.cell (entCells_at p);have hids:p.1.2.length=32:=hkn
   have hcid:CellsAt w1 g (off+n*34+1) (qA p.1.2):=fun j hj=>by
    have h1:=(entCells_id hkn).1 j hj;have hj2:1+j<(zU p).size:=by rw[xC hkn];rw[qB,hids]at hj;omega
    rw[<-h1,<-hc (1+j) hj2,Nat.add_assoc]
   obtain⟨t1,ht1⟩:∃t,Op.bytesLess p.1.1.toList k.1.toList=t:=⟨_,rfl⟩;obtain⟨t2,ht2⟩:∃t,decide (p.1.1=k.1)=t:=⟨_,rfl⟩
   obtain⟨t3,ht3⟩:∃t,decide (cmpI p.1.2 k.2<0)=t:=⟨_,rfl⟩;have ht3':cmpB .lss (cmpI p.1.2 k.2) 0=t3:=ht3;rw[ht1,ht2,ht3]at hcmp
   have HC:=hid hcmp;have HT1:=hid ht1;have HT2:=hid ht2;have HT3:=hid ht3';have HNX:=hid hnext;have HST:=hid hstop;have HIS:=hid hisl
   clear hcmp ht1 ht2 ht3 ht3' hnext hstop hisl hc HA HK hcells
   cases t1
   ·cases t2
    ·have hi1:decide (p.1=k)=false:=decide_eq_false fun e=>of_decide_eq_false HT2.out (by rw[e])
     refine wpRZ [3,3,3,3,0,3,3,3,3,3,3,0,3,3,3,0,3,0,3,3,3,3,0,3,3,3,0,3,0,3,3,3,3,0,3,3,3,0,0,1,3,3,3,3] [] (fun w'=>Mod NoB w1 w') hS ?_
     simp only[stz];refine wpLd 231 b 1 (fun w' hS=>hS.cell id hLc) underlying231 ?_;simp only[nmz];refine wpPL ?_;simp only[nmz]
     refine qK _ _ _ _ _ _ _ _ rfl rfl rfl rfl rfl true (decide_eq_true hz) ?_;simp only[stz];refine wpLd 231 b 1 (fun w' hS=>hS.cell id hLc) underlying231 ?_
     simp only[stz];refine wpPI underlying231 34 hlt ?_;simp only[stz];refine wpLd 9 g (off+n*34) (fun w' hS=>hS.cell id hc0) underlying9 ?_;simp only[stz]
     refine qG rfl (fun w' hS=>exec_lss_str _ _ _ _ rfl _ _ rfl rfl false HT1.out) ?_;simp only[stz];refine wpLd 231 b 1 (fun w' hS=>hS.cell id hLc) underlying231 ?_
     simp only[stz];refine wpPI underlying231 34 hlt ?_;simp only[stz];refine wpLd 9 g (off+n*34) (fun w' hS=>hS.cell id hc0) underlying9 ?_;simp only[stz]
     refine qG rfl (fun w' hS=>zY _ _ _ _ rfl _ _ rfl rfl false HT2.out) ?_;simp only[stz];refine zO rfl hS ?_;simp only[stz]
     have HI:=hid ((HIS.out (HST.out (by have h9:=of_decide_eq_false (HC.out.trans (by rfl):decide (cmpK p.1 k<0)=false);omega))).trans hi1);clear hi1
     have hp0:=HST.out (by have h9:=of_decide_eq_false (HC.out.trans (by rfl):decide (cmpK p.1 k<0)=false);omega);have HP:=hid hp0;clear hp0;have hM2:=hS
     go_upto_region 4 with(fail);have hS:Mod NoB w1 wr.drew.drew:=hM2.drew
     refine wpRZ [3,3,3,3,3,0,3,3,3,3,3,3,0,3,3,3,0,3,0,3,3,3,3,3,0,3,3,3,0,0,3,3,3,3] [] (fun w'=>Mod NoB w1 w') hS ?_;simp only[stz]
     refine wpLd 231 b 1 (fun w' hS=>hS.cell id hLc) underlying231 ?_;simp only[nmz];refine wpPL ?_;simp only[nmz]
     refine qK _ _ _ _ _ _ _ _ rfl rfl rfl rfl rfl true (decide_eq_true hz) ?_;simp only[stz];refine wpLd 231 b 1 (fun w' hS=>hS.cell id hLc) underlying231 ?_
     simp only[stz];refine wpPI underlying231 34 hlt ?_;simp only[stz];refine wpLd 9 g (off+n*34) (fun w' hS=>hS.cell id hc0) underlying9 ?_;simp only[stz]
     refine qG rfl (fun w' hS=>zY _ _ _ _ rfl _ _ rfl rfl false HT2.out) ?_;simp only[stz];have hM3:=HM1.out.trans0 hS;clear hM hM2 hS hc0 hcid;go_wp2
     go_ret2;rw[HP.out,HI.out];exact⟨rfl,hM3⟩
    ·cases t3
     ·obtain⟨t4,ht4⟩:∃t,decide (p.1.2=k.2)=t:=⟨_,rfl⟩
      have hi1:decide (p.1=k)=t4:=by
       rw[<-ht4,decide_eq_decide];exact⟨fun e=>by rw[e],fun e=>Prod.ext (of_decide_eq_true HT2.out) e⟩
      have HT4:=hid ht4;clear ht4
      refine wpRZ [3,3,3,3,0,3,3,3,3,3,3,0,3,3,3,0,3,0,3,3,3,3,0,3,3,3,0,3,0,3,3,3,3,0,3,3,3,0,0,1,3,3,3,3] [] (fun w'=>Mod NoB w1 w') hS ?_
      simp only[stz];refine wpLd 231 b 1 (fun w' hS=>hS.cell id hLc) underlying231 ?_;simp only[nmz];refine wpPL ?_;simp only[nmz]
      refine qK _ _ _ _ _ _ _ _ rfl rfl rfl rfl rfl true (decide_eq_true hz) ?_;simp only[stz];refine wpLd 231 b 1 (fun w' hS=>hS.cell id hLc) underlying231 ?_
      simp only[stz];refine wpPI underlying231 34 hlt ?_;simp only[stz];refine wpLd 9 g (off+n*34) (fun w' hS=>hS.cell id hc0) underlying9 ?_;simp only[stz]
      refine qG rfl (fun w' hS=>exec_lss_str _ _ _ _ rfl _ _ rfl rfl false HT1.out) ?_;simp only[stz];refine wpLd 231 b 1 (fun w' hS=>hS.cell id hLc) underlying231 ?_
      simp only[stz];refine wpPI underlying231 34 hlt ?_;simp only[stz];refine wpLd 9 g (off+n*34) (fun w' hS=>hS.cell id hc0) underlying9 ?_;simp only[stz]
      refine qG rfl (fun w' hS=>zY _ _ _ _ rfl _ _ rfl rfl true HT2.out) ?_;simp only[stz];refine wpLd 231 b 1 (fun w' hS=>hS.cell id hLc) underlying231 ?_
      simp only[stz];refine wpPI underlying231 34 hlt ?_;simp only[stz]
      refine wpLA 24 g (off+n*34+1) (qA p.1.2) (fun w' hS=>hcid.keep hS id) underlying24 32 (by rw[qB];exact hids) ?_;simp only[nmz]
      refine wpLA 24 w.heap.size 0 (qA k.2) (fun w' hS=>hbx.keep hS id) underlying24 32 (by rw[qB];exact hk32) ?_;simp only[nmz]
      refine qL rfl (fun K hK=>?_);go_wp2_with (go_at_call 195;refine(refCompare_any p.1.2 k.2 hids hk32 _).mono ?_;rintro _ w5 ⟨rfl,hm5⟩);have hS5:=hS.trans0 hm5
      refine hK _ _ hS5 ?_;clear hK K;try simp only[nmz]
      refine qK _ _ _ _ _ _ _ _ rfl rfl rfl rfl rfl false HT3.out ?_;simp only[stz]
      have HI:=hid ((HIS.out (HST.out (by have h9:=of_decide_eq_false (HC.out.trans (by rfl):decide (cmpK p.1 k<0)=false);omega))).trans hi1);clear hi1
      have hp0:=HST.out (by have h9:=of_decide_eq_false (HC.out.trans (by rfl):decide (cmpK p.1 k<0)=false);omega);have HP:=hid hp0;clear hp0;have hM2:=hS5
      go_upto_region 4 with(fail);have hS:Mod NoB w1 w5.drew:=hM2.drew
      refine wpRZ [3,3,3,3,3,0,3,3,3,3,3,3,0,3,3,3,0,3,0,3,3,3,3,3,0,3,3,3,0,0,0,3,3,3] [] (fun w'=>Mod NoB w1 w') hS ?_;simp only[stz]
      refine wpLd 231 b 1 (fun w' hS=>hS.cell id hLc) underlying231 ?_;simp only[nmz];refine wpPL ?_;simp only[nmz]
      refine qK _ _ _ _ _ _ _ _ rfl rfl rfl rfl rfl true (decide_eq_true hz) ?_;simp only[stz];refine wpLd 231 b 1 (fun w' hS=>hS.cell id hLc) underlying231 ?_
      simp only[stz];refine wpPI underlying231 34 hlt ?_;simp only[stz];refine wpLd 9 g (off+n*34) (fun w' hS=>hS.cell id hc0) underlying9 ?_;simp only[stz]
      refine qG rfl (fun w' hS=>zY _ _ _ _ rfl _ _ rfl rfl true HT2.out) ?_;simp only[stz];refine wpLd 231 b 1 (fun w' hS=>hS.cell id hLc) underlying231 ?_
      simp only[stz];refine wpPI underlying231 34 hlt ?_;simp only[stz]
      refine wpLA 24 g (off+n*34+1) (qA p.1.2) (fun w' hS=>hcid.keep hS id) underlying24 32 (by rw[qB];exact hids) ?_;simp only[nmz]
      refine wpLA 24 w.heap.size 0 (qA k.2) (fun w' hS=>hbx.keep hS id) underlying24 32 (by rw[qB];exact hk32) ?_;simp only[nmz]
      refine qG rfl (fun w' hS=>exec_eql_id _ _ _ _ rfl _ _ rfl rfl 32 5 underlying24 underlying5 (by kernel_rfl) (by kernel_rfl) hids hk32 t4 HT4.out) ?_
      simp only[stz];have hM3:=HM1.out.trans0 hS;clear hM hM2 hS hc0 hcid;go_wp2;go_ret2;rw[HP.out,HI.out];exact⟨rfl,hM3⟩
     ·clear HIS HST
      refine wpRZ [3,3,3,3,0,3,3,3,3,3,3,0,3,3,3,0,3,0,3,3,3,3,0,3,3,3,0,3,0,3,3,3,3,0,3,3,3,0,0,1,3,3,3,3] [] (fun w'=>Mod NoB w1 w') hS ?_
      simp only[stz];refine wpLd 231 b 1 (fun w' hS=>hS.cell id hLc) underlying231 ?_;simp only[nmz];refine wpPL ?_;simp only[nmz]
      refine qK _ _ _ _ _ _ _ _ rfl rfl rfl rfl rfl true (decide_eq_true hz) ?_;simp only[stz];refine wpLd 231 b 1 (fun w' hS=>hS.cell id hLc) underlying231 ?_
      simp only[stz];refine wpPI underlying231 34 hlt ?_;simp only[stz];refine wpLd 9 g (off+n*34) (fun w' hS=>hS.cell id hc0) underlying9 ?_;simp only[stz]
      refine qG rfl (fun w' hS=>exec_lss_str _ _ _ _ rfl _ _ rfl rfl false HT1.out) ?_;simp only[stz];refine wpLd 231 b 1 (fun w' hS=>hS.cell id hLc) underlying231 ?_
      simp only[stz];refine wpPI underlying231 34 hlt ?_;simp only[stz];refine wpLd 9 g (off+n*34) (fun w' hS=>hS.cell id hc0) underlying9 ?_;simp only[stz]
      refine qG rfl (fun w' hS=>zY _ _ _ _ rfl _ _ rfl rfl true HT2.out) ?_;simp only[stz];refine wpLd 231 b 1 (fun w' hS=>hS.cell id hLc) underlying231 ?_
      simp only[stz];refine wpPI underlying231 34 hlt ?_;simp only[stz]
      refine wpLA 24 g (off+n*34+1) (qA p.1.2) (fun w' hS=>hcid.keep hS id) underlying24 32 (by rw[qB];exact hids) ?_;simp only[nmz]
      refine wpLA 24 w.heap.size 0 (qA k.2) (fun w' hS=>hbx.keep hS id) underlying24 32 (by rw[qB];exact hk32) ?_;simp only[nmz]
      refine qL rfl (fun K hK=>?_);go_wp2_with (go_at_call 195;refine(refCompare_any p.1.2 k.2 hids hk32 _).mono ?_;rintro _ w5 ⟨rfl,hm5⟩);have hS5:=hS.trans0 hm5
      refine hK _ _ hS5 ?_;clear hK K;try simp only[nmz]
      refine qK _ _ _ _ _ _ _ _ rfl rfl rfl rfl rfl true HT3.out ?_;simp only[stz]
      have hnx:=HNX.out (of_decide_eq_true (HC.out.trans (by rfl):decide (cmpK p.1 k<0)=true));have HNX2:=hid hnx;clear hnx;have hM2:=hS5;clear hM hS hc0 hcid;go_wp2
      go_roundw
      case rel=>exact⟨n+1,by omega,by go_num,HNX2.out,hM2⟩
      case measure=>simp[intOf];omega
   ·clear HIS HST
    refine wpRZ [3,3,3,3,0,3,3,3,3,3,3,0,3,3,3,0,3,0,3,3,3,3,0,3,3,3,0,3,3,3,3,3,3,0,3,3,3,0,0,1,3,3,3,3] [] (fun w'=>Mod NoB w1 w') hS ?_
    simp only[stz];refine wpLd 231 b 1 (fun w' hS=>hS.cell id hLc) underlying231 ?_;simp only[nmz];refine wpPL ?_;simp only[nmz]
    refine qK _ _ _ _ _ _ _ _ rfl rfl rfl rfl rfl true (decide_eq_true hz) ?_;simp only[stz];refine wpLd 231 b 1 (fun w' hS=>hS.cell id hLc) underlying231 ?_
    simp only[stz];refine wpPI underlying231 34 hlt ?_;simp only[stz];refine wpLd 9 g (off+n*34) (fun w' hS=>hS.cell id hc0) underlying9 ?_;simp only[stz]
    refine qG rfl (fun w' hS=>exec_lss_str _ _ _ _ rfl _ _ rfl rfl true HT1.out) ?_;simp only[nmz];refine jN _ rfl rfl ?_;simp only[nmz]
    refine qT rfl (qT rfl (qT rfl ?_));simp only[nmz];refine xR rfl (qT rfl (qT rfl ?_));simp only[nmz]
    refine qT rfl (xR rfl (qT rfl ?_));simp only[nmz];refine qT rfl (qT rfl (qT rfl ?_));simp only[nmz]
    refine qT rfl (qT rfl (xR rfl ?_));simp only[nmz];refine qT rfl (qT rfl (qT rfl ?_));simp only[nmz]
    refine xR rfl (xR rfl ?_);simp only[nmz];refine zO rfl hS ?_;simp only[nmz];refine qT rfl (qT rfl ?_);simp only[nmz]
    refine wpPi_pick _ _ _ _ rfl rfl rfl ?_;simp only[nmz];refine wpPi_pick _ _ _ _ rfl rfl rfl ?_;simp only[nmz];refine wpPi_nil ?_
    have hnx:=HNX.out (of_decide_eq_true (HC.out.trans (by rfl):decide (cmpK p.1 k<0)=true));have HNX2:=hid hnx;clear hnx;have hM2:=hS;clear hM hS hc0 hcid;go_wp2
    go_roundw
    case rel=>exact⟨n+1,by omega,by go_num,HNX2.out,hM2⟩
    case measure=>simp[intOf];omega
  ·have hz:¬(n:Int)<(r.length:Int):=by omega
   have hp0:posL k r=n:=posL_eq (by omega) hpre (fun h=>absurd h hlt);have hi0:isL k r=false:=by unfold isL;rw[hp0,List.getElem?_eq_none (by omega)]
   have HP:=hid hp0;have HI:=hid hi0;clear hp0 hi0 hpre HA HK
   refine wpRZ [3,3,3,3,0,3,3,3,3,3,3,0,3,3,3,0,3,3,3,3,3,3,0,3,3,3,0,3,3,3,3,3,3,0,3,3,3,0,0,1,3,3,3,3] [] (fun w'=>Mod NoB w1 w') hS ?_
   simp only[stz];refine wpLd 231 b 1 (fun w' hS=>hS.cell id hLc) underlying231 ?_;simp only[nmz];refine wpPL ?_;simp only[nmz]
   refine qK _ _ _ _ _ _ _ _ rfl rfl rfl rfl rfl false (decide_eq_false hz) ?_;simp only[nmz];refine jN _ rfl rfl ?_;simp only[nmz]
   refine qT rfl (qT rfl (qT rfl ?_));simp only[nmz];refine xR rfl (qT rfl (qT rfl ?_));simp only[nmz]
   refine qT rfl (xR rfl (qT rfl ?_));simp only[nmz];refine qT rfl (qT rfl (qT rfl ?_));simp only[nmz]
   refine qT rfl (qT rfl (xR rfl ?_));simp only[nmz];refine qT rfl (qT rfl (qT rfl ?_));simp only[nmz]
   refine xR rfl (qT rfl (qT rfl ?_));simp only[nmz];refine qT rfl (qT rfl (qT rfl ?_));simp only[nmz]
   refine qT rfl (xR rfl (qT rfl ?_));simp only[nmz];refine qT rfl (qT rfl (xR rfl ?_));simp only[nmz];refine xR rfl ?_
   simp only[nmz];refine zO rfl hS ?_;simp only[nmz];refine qT rfl (qT rfl (qT rfl ?_));simp only[nmz];refine wpPi_pick _ _ _ _ rfl rfl rfl ?_
   simp only[nmz];refine wpPi_nil ?_;have hM2:=hS;go_upto_region 4 with(fail);have hS:Mod NoB w1 wr.drew.drew:=hM2.drew
   refine wpRZ [3,3,3,3,3,0,3,3,3,3,3,3,0,3,3,3,0,3,3,3,3,3,3,3,0,3,3,3,0,0,3,3,3,3] [] (fun w'=>Mod NoB w1 w') hS ?_;simp only[stz]
   refine wpLd 231 b 1 (fun w' hS=>hS.cell id hLc) underlying231 ?_;simp only[nmz];refine wpPL ?_;simp only[nmz]
   refine qK _ _ _ _ _ _ _ _ rfl rfl rfl rfl rfl false (decide_eq_false hz) ?_;simp only[stz];have hM3:=HM1.out.trans0 hS;clear hM hM2 hS;go_wp2;go_ret2
   rw[HP.out,HI.out];exact⟨rfl,hM3⟩
theorem RAt.useB(h:RAt w0 w q limit r R)(n:ByteArray)(i:Nat):0<=useUpto r n i/\useUpto r n i<=268435456:=by
 have h1:=useOf_le (r.take i) n (fun p hp=>h.vals p (List.mem_of_mem_take hp));have h2:(r.take i).length<=65536:=by have:=h.few;simp;omega
 unfold useUpto;omega
def UseRel(r:LinkL)(n:ByteArray)(w0:World)(v i:Value)(w:World):Prop:=∃j:Nat,j<=r.length/\i=.int .i64 j/\v=.int .i64 (useUpto r n j)/\Mod NoB w0 w
theorem refUse_any(h:RAt w0 w q limit r R)(n:ByteArray):Calls prog 70 #[q,.string n] w (RetM (.int .i64 (useOf r n)) w):=by
 obtain⟨b,ra,rc,rfl,hlim,hLc,hlc,hat⟩:=h.read;have huse:=h.useB n;have hfew:=h.few;have hkeys:=h.keys;have hvals:=h.vals
 have HA:=hid hat;have HU:=hid huse;have HKY:=hid hkeys;have HV:=hid hvals;clear hat hlim h huse hkeys hvals;go_enter func70,ntmps70;go_wp2
 go_loopw [5,6] (UseRel r n w) (fun _ i _=>r.length-(intOf i).toNat)
 case atStart=>exact⟨0,by omega,rfl,by simp[useUpto,useOf],Mod.refl _ _⟩
 case round=>
  rename World=>wr
  obtain⟨i,hi,rfl,rfl,hM⟩:=hrel;go_upto_region 3 with(fail);have hLc':=hM.cell id hLc
  by_cases hlt:i<r.length
  ·have hz:(i:Int)<(r.length:Int):=by omega
   obtain⟨g,off,rfl,hcells⟩:=HA.out i hlt;have hc:=(hcells i hlt).keep hM id;have hkn:=HKY.out r[i] (List.getElem_mem hlt);have hv:=HV.out r[i] (List.getElem_mem hlt)
   have hsucc:=useUpto_succ (n:=n) hlt;have hu:=HU.out i;generalize r[i]=p at*;have hc0:=hc.cell (entCells_at p);have hcs:=hc.cell (entCells_id hkn).2
   obtain⟨t,ht⟩:∃t,decide (p.1.1=n)=t:=⟨_,rfl⟩;have HT:=hid ht;have HSU:=hid hsucc;clear ht hsucc hc hcells hkn;refine wpR [3,3,3,3,1,3,3] ?_
   simp only[stz];refine wpXd 231 b 1 hLc' underlying231 trivial ?_;try simp only[nmz]
   refine wpPL ?_;simp only[nmz];refine qK _ _ _ _ _ _ _ _ rfl rfl rfl rfl rfl true (decide_eq_true hz) ?_;simp only[stz];go_upto_region 5 with(fail)
   refine wpR [3,3,3,1,3,3,3,1,3,0] ?_;simp only[stz];refine wpXd 231 b 1 hLc' underlying231 trivial ?_;simp only[stz];refine wpPI underlying231 34 hlt ?_
   simp only[stz];refine wpXd 9 g (off+i*34) hc0 underlying9 trivial ?_;simp only[stz];refine qG rfl (fun w' hS=>zY _ _ _ _ rfl _ _ rfl rfl t HT.out) ?_
   simp only[stz]
   cases t
   ·have e:¬p.1.1=n:=of_decide_eq_false HT.out
    go_wp2
    go_roundw
    case rel=>exact⟨i+1,by omega,by go_num,by rw[HSU.out,if_neg e,Int.add_zero],hM⟩
    case measure=>simp[intOf];omega
   ·have e:p.1.1=n:=of_decide_eq_true HT.out
    go_upto_region 6 with(fail);refine wpR [3,3,3,3,1,3,3,3,1,3,3] ?_;simp only[stz];refine wpXd 231 b 1 hLc' underlying231 trivial ?_;simp only[stz]
    refine wpPI underlying231 34 hlt ?_;simp only[stz];refine wpXd 3 g (off+i*34+33) hcs underlying3 trivial ?_;try simp only[nmz]
    refine wpPi_add _ _ _ _ (useUpto r n i) p.2 rfl rfl rfl rfl (by omega) (by omega) ?_;simp only[stz];have HE:=hid e;clear e;go_wp2
    go_roundw
    case rel=>exact⟨i+1,by omega,by go_num,by rw[HSU.out,if_pos HE.out],hM⟩
    case measure=>simp[intOf];omega
  ·have hz:¬(i:Int)<(r.length:Int):=by omega
   have e:useUpto r n i=useOf r n:=by unfold useUpto;rw[List.take_of_length_le (by omega)]
   rw[e];refine wpR [3,3,3,3,1,3,3] ?_;simp only[stz];refine wpXd 231 b 1 hLc' underlying231 trivial ?_;try simp only[nmz]
   refine wpPL ?_;simp only[nmz];refine qK _ _ _ _ _ _ _ _ rfl rfl rfl rfl rfl false (decide_eq_false hz) ?_;simp only[stz];clear e;go_wp2;go_ret;exact⟨rfl,hM⟩
end
theorem string_i:(prog.info? 9).map (fun i=>(i.zero,i.size,i.bytes))=some (some (.string ⟨#[]⟩),1,16):=by kernel_rfl
theorem entry_i:(prog.info? 235).map (fun i=>(i.zero,i.size,i.bytes))=some (some (.agg (zU ((⟨#[]⟩,List.replicate 32 0),0))),34,56):=by kernel_rfl
theorem strs_flat(xs:List ByteArray):xs.map Value.string=(xs.map fun x=>#[Value.string x]).flatMap Array.toList:=by
 induction xs with
 |nil=>rfl
 |cons x xs ih=>rw[List.map_cons,List.map_cons,List.flatMap_cons,ih];rfl
theorem sl_strs{w:World}{base:Nat}{v:Value}{xs:List ByteArray}(h:w.ownsRow base 9 1 v xs.length (xs.map Value.string)):Sl true w (fun k=>base<=k/\k<w.heap.size/\v.ownBlock=some k) 1 StrC v xs:=
 Sl.of_owns h (strs_flat xs) (fun c hc=>by obtain⟨x,_,rfl⟩:=List.mem_map.1 hc;rfl) ⟨by simp,fun i h1 h2=>by simp[StrC]⟩ rfl
section
variable{w0 w:World}{q:Value}{limit:Int}{r:LinkL}{R:Nat->Prop}
theorem idsR_len(r:LinkL)(n:ByteArray)(i:Nat):(idsR (r.take i) n).length<=r.length:=by
 unfold idsR;rw[List.length_map];exact Nat.le_trans (List.length_filter_le _ _) (by simp;omega)
def RIdsRel(r:LinkL)(n:ByteArray)(w0:World)(v i:Value)(w:World):Prop:=∃j:Nat,j<=r.length/\i=.int .i64 j/\IdAcc w0.heap.size (idsR (r.take j) n) v w/\Mod NoB w0 w
theorem refIDs_any(h:RAt w0 w q limit r R)(n:ByteArray):Calls prog 72 #[q,.string n] w (RetN w fun v w'=>(∀x∈idsR r n,x.length=32)/\Sl true w' (New w w') 32 IdC v (idsR r n)):=by
 obtain⟨b,ra,rc,rfl,hlim,hLc,hlc,hat⟩:=h.read;have hfew:=h.few;have hkeys:=h.keys;have HA:=hid hat;have HKY:=hid hkeys;clear hat hlim h hkeys
 go_enter func72,ntmps72;go_wp2
 go_loopw [5,6] (RIdsRel r n w) (fun _ i _=>r.length-(intOf i).toNat)
 case atStart=>exact⟨0,by omega,rfl,⟨by simp[idsR],⟨rfl,.inl ⟨rfl,rfl⟩⟩⟩,Mod.refl _ _⟩
 case round=>
  rename World=>wr
  obtain⟨i,hi,rfl,hacc,hM⟩:=hrel;go_upto_region 3 with(fail);have hLc':=hM.cell id hLc
  by_cases hlt:i<r.length
  ·have hz:(i:Int)<(r.length:Int):=by omega
   obtain⟨g,off,rfl,hcells⟩:=HA.out i hlt;have hc:=(hcells i hlt).keep hM id;have hkn:=HKY.out r[i] (List.getElem_mem hlt);have hsucc:=idsR_succ (n:=n) hlt
   have hlen:=idsR_len r n i;generalize r[i]=p at*;have hids:p.1.2.length=32:=hkn;have hc0:=hc.cell (entCells_at p)
   have hcid:CellsAt wr g (off+i*34+1) (qA p.1.2):=fun j hj=>by
    have h1:=(entCells_id hkn).1 j hj;have hj2:1+j<(zU p).size:=by rw[xC hkn];rw[qB,hids]at hj;omega
    rw[<-h1,<-hc (1+j) hj2,Nat.add_assoc]
   obtain⟨t,ht⟩:∃t,decide (p.1.1=n)=t:=⟨_,rfl⟩;have HT:=hid ht;have HSU:=hid hsucc;clear ht hsucc hc hcells;refine wpR [3,3,3,3,1,3,3] ?_;simp only[stz]
   refine wpXd 231 b 1 hLc' underlying231 trivial ?_;try simp only[nmz]
   refine wpPL ?_;simp only[nmz];refine qK _ _ _ _ _ _ _ _ rfl rfl rfl rfl rfl true (decide_eq_true hz) ?_;simp only[stz];go_upto_region 5 with(fail)
   refine wpR [3,3,3,1,3,3,3,1,3,0] ?_;simp only[stz];refine wpXd 231 b 1 hLc' underlying231 trivial ?_;simp only[stz];refine wpPI underlying231 34 hlt ?_
   simp only[stz];refine wpXd 9 g (off+i*34) hc0 underlying9 trivial ?_;simp only[stz];refine qG rfl (fun w' hS=>zY _ _ _ _ rfl _ _ rfl rfl t HT.out) ?_
   simp only[stz]
   cases t
   ·have e:¬p.1.1=n:=of_decide_eq_false HT.out
    go_wp2
    go_roundw
    case rel=>exact⟨i+1,by omega,by go_num,by rw[HSU.out,if_neg e];exact hacc,hM⟩
    case measure=>simp[intOf];omega
   ·have e:p.1.1=n:=of_decide_eq_true HT.out
    go_upto_region 6 with(fail);refine wpR [3,3,3,3,1,3,3,3,1,1,1,3] ?_;simp only[stz];refine wpXd 231 b 1 hLc' underlying231 trivial ?_;simp only[stz]
    refine wpPI underlying231 34 hlt ?_;simp only[stz];refine wpXA 24 g (off+i*34+1) (qA p.1.2) hcid underlying24 32 (by rw[qB];exact hids) trivial ?_
    try simp only[nmz]
    refine wpDo rfl ?_
    refine qQ 25 24 _ (.agg (qA p.1.2)) (.agg (qA (List.replicate 32 0))) 32 (by rfl) (by rfl) underlying25 (by kernel_rfl) (by omega) (by omega) (by rw[show(Value.agg (qA p.1.2)).cells=qA p.1.2 from rfl,qB];exact hids) (fun w6 hB6 hm6 hs6=>?_)
    replace hB6:w6.heap[wr.heap.size]?=some (.cells (qA p.1.2) 24 (0,0)):=hB6;try simp only[nmz]
    refine wpDo rfl ?_;have hrow6:=zE hacc.2 hm6 (fun _ _=>id);have hs6':=hm6.size;have hMs:=hM.size
    refine xJ _ _ 25 24 (.agg (qA (List.replicate 32 0))) 32 32 (by rfl) underlying25 id_i (by kernel_rfl) (by omega) w.heap.size _ _ _ (by rfl) hrow6 (.slice (some ⟨wr.heap.size,0,none⟩) 1 1) 1 (idL p.1.2) (by rfl) ⟨by rw[idL_len hids],_,_,rfl,fun _=>⟨wr.heap.size,0,rfl,fun j y hj=>?_⟩⟩ (idL_one _) (by unfold maxLen;omega) (by omega) (by omega) (fun v' w7 hrow7 hg7 hv7=>?_)
    ·have:(qA p.1.2)[j]?=some y:=by simpa[idL]using hj
     exact(CellsAt.whole hB6).cell this
    simp only[stz];have hM6:=hM.trans0 hm6;have hm7:Mod (fun j=>Value.ownBlock _=some j) w6 w7:=(Mod.refl _ _).grown hg7 (fun k hk _=>hk)
    have hM7:Mod NoB w w7:=hM6.trans hm7 (fun k hk e=>by have:=(hacc.2.lt k e).1;omega)
    have HR:Hid (RIdsRel r n w v' (.int .i64 ((i:Int)+1)) w7):=⟨i+1,by omega,by go_num,by
     rw[HSU.out,if_pos e];refine⟨fun x hx=>?_,by simpa using hrow7⟩
     rcases List.mem_append.1 hx with hx|hx
     ·exact hacc.1 x hx
     ·simp at hx;rw[hx];exact hids,hM7⟩
    clear hM7 hm7 hrow7 hg7 hv7 hacc hM6 hM e;go_wp2
    go_roundw
    case rel=>exact HR.out
    case measure=>simp[intOf];omega
  ·have hz:¬(i:Int)<(r.length:Int):=by omega
   rw[List.take_of_length_le (by omega)]at hacc;have hd:=hacc.done;have hi:=hacc.1;have HD:=hid hd;have HI:=hid hi;clear hd hi hacc;refine wpR [3,3,3,3,1,3,3] ?_
   simp only[stz];refine wpXd 231 b 1 hLc' underlying231 trivial ?_;try simp only[nmz]
   refine wpPL ?_;simp only[nmz];refine qK _ _ _ _ _ _ _ _ rfl rfl rfl rfl rfl false (decide_eq_false hz) ?_;simp only[stz];go_wp2;go_ret
   exact⟨_,rfl,hM,HI.out,HD.out.mono (fun k hk=>⟨hk.1,hk.2.1⟩) (fun _ _ h=>h)⟩
def RReposRel(r:LinkL)(w0:World)(v i:Value)(w:World):Prop:=∃j:Nat,j<=r.length/\i=.int .i64 j/\w.ownsRow w0.heap.size 9 1 v (jO r j).length ((jO r j).map Value.string)/\Mod NoB w0 w
theorem refRepos_any(h:RAt w0 w q limit r R):Calls prog 67 #[q] w (RetN w fun v w'=>Sl true w' (New w w') 1 StrC v (jO r r.length)):=by
 obtain⟨b,ra,rc,rfl,hlim,hLc,hlc,hat⟩:=h.read;have hfew:=h.few;have hkeys:=h.keys;have HA:=hid hat;have HKY:=hid hkeys;clear hat hlim h hkeys
 go_enter func67,ntmps67;go_wp2
 go_loopw [3,4] (RReposRel r w) (fun _ i _=>r.length-(intOf i).toNat)
 case atStart=>exact⟨0,by omega,rfl,⟨rfl,.inl ⟨rfl,rfl⟩⟩,Mod.refl _ _⟩
 case round=>
  rename World=>wr
  obtain⟨i,hi,rfl,hacc,hM⟩:=hrel;go_upto_region 3 with(fail);have hLc':=hM.cell id hLc
  by_cases hlt:i<r.length
  ·have hz:(i:Int)<(r.length:Int):=by omega
   obtain⟨g,off,rfl,hcells⟩:=HA.out i hlt;have hc0:=((hcells i hlt).keep hM id).cell (entCells_at r[i]);have hlen:=reposR_len r i
   obtain⟨t,ht⟩:∃t,decide (i=0\/(r[i-1]?).map (·.1.1)≠some r[i].1.1)=t:=⟨_,rfl⟩
   have hsucc:jO r (i+1)=if t then jO r i++[r[i].1.1]else jO r i:=by
    rw[<-ht,jO,List.getElem?_eq_getElem hlt];simp only[decide_eq_true_eq]
   have hprev:0<i->∃y,wr.cell? ⟨g,off+(i-1)*34,none⟩=some (.string y)/\decide (r[i].1.1≠y)=t:=fun h0=>by
    have hp:i-1<r.length:=by omega
    refine⟨r[i-1].1.1,((hcells (i-1) hp).keep hM id).cell (entCells_at r[i-1]),?_⟩;rw[<-ht,decide_eq_decide,List.getElem?_eq_getElem hp]
    simp only[Option.map_some,ne_eq,Option.some.injEq]
    constructor
    ·intro h1;exact .inr fun h2=>h1 h2.symm
    ·rintro(h1|h1)
     ·omega
     ·exact fun h2=>h1 h2.symm
   have ht0:i=0->t=true:=fun h0=>by rw[<-ht];simp[h0]
   generalize r[i].1.1=y at*;have HSU:=hid hsucc;have HPV:=hid hprev;have HT0:=hid ht0;clear ht hsucc hprev ht0 hcells;refine wpR [3,3,3,3,1,3,3] ?_
   simp only[stz];refine wpXd 231 b 1 hLc' underlying231 trivial ?_;try simp only[nmz]
   refine wpPL ?_;simp only[nmz];refine qK _ _ _ _ _ _ _ _ rfl rfl rfl rfl rfl true (decide_eq_true hz) ?_;simp only[stz];go_upto_region 5 with(fail)
   have hS:Mod NoB wr wr.drew:=(Mod.refl _ _).drew
   by_cases h0:i=0
   ·obtain rfl:t=true:=HT0.out h0
    have hz0:(i:Int)=0:=by omega
    refine wpRZ [3,3,3,3,3,3,0,3,3,3,0,3,3,3,0,3,3,3,3,0,3,3] [] (fun w'=>Mod NoB wr w') hS ?_;simp only[stz]
    refine qK _ _ _ _ _ _ _ _ rfl rfl rfl rfl rfl true (decide_eq_true hz0) ?_;simp only[stz];replace hM:=hM.trans0 hS;replace hLc':=hS.cell id hLc'
    replace hc0:=hS.cell id hc0;replace hacc:=zE hacc hS (fun _ _=>id);clear hS hz0 h0;generalize wr.drew=wy at*;go_upto_region 6 with(fail)
    refine wpR [3,3,3,3,1,3,3,3,1,1,1,3] ?_;simp only[stz];refine wpXd 231 b 1 hLc' underlying231 trivial ?_;simp only[stz];refine wpPI underlying231 34 hlt ?_
    simp only[stz];refine wpXd 9 g (off+i*34) hc0 underlying9 trivial ?_;try simp only[nmz]
    refine wpD (qQ 127 9 _ (.string y) (.string ⟨#[]⟩) 1 (by rfl) (by rfl) underlying127 (by kernel_rfl) (by omega) (by omega) (by rfl) (fun w6 hB6 hm6 hs6=>?_))
    replace hB6:w6.heap[wy.heap.size]?=some (.cells #[.string y] 9 (0,0)):=hB6;try simp only[nmz]
    refine wpDo rfl ?_;have hrow6:=zE hacc hm6 (fun _ _=>id);have hs6':=hm6.size;have hMs:=hM.size
    refine xJ _ _ 127 9 (.string ⟨#[]⟩) 1 16 (by rfl) underlying127 string_i (by kernel_rfl) (by omega) w.heap.size _ _ _ (by rfl) hrow6 (.slice (some ⟨wy.heap.size,0,none⟩) 1 1) 1 [.string y] (by rfl) ⟨rfl,_,_,rfl,fun _=>⟨wy.heap.size,0,rfl,fun j z hj=>?_⟩⟩ (by simp[Value.oneCell']) (by unfold maxLen;omega) (by omega) (by omega) (fun v' w7 hrow7 hg7 hv7=>?_)
    ·rw[cell_of_row _ _ _ _ _ _ hB6,Nat.zero_add];simpa using hj
    simp only[stz];have hM6:=hM.trans0 hm6;have hm7:Mod (fun j=>Value.ownBlock _=some j) w6 w7:=(Mod.refl _ _).grown hg7 (fun k hk _=>hk)
    have hM7:Mod NoB w w7:=hM6.trans hm7 (fun k hk e=>by have:=(hacc.lt k e).1;omega)
    have HR:Hid (RReposRel r w v' (.int .i64 ((i:Int)+1)) w7):=⟨i+1,by omega,by go_num,by rw[HSU.out];simpa using hrow7,hM7⟩
    clear hM7 hm7 hrow7 hg7 hv7 hacc hM6 hM;go_wp2
    go_roundw
    case rel=>exact HR.out
    case measure=>simp[intOf];omega
   ·obtain⟨x,hx,hxt⟩:=HPV.out (by omega)
    have hz0:¬(i:Int)=0:=by omega
    have hlt1:i-1<r.length:=by omega
    have HXT:=hid hxt;clear hxt;refine wpRZ [3,3,3,3,3,3,0,3,3,3,0,3,3,3,0,3,3,3,3,0,0,3] [] (fun w'=>Mod NoB wr w') hS ?_;simp only[stz]
    refine qK _ _ _ _ _ _ _ _ rfl rfl rfl rfl rfl false (decide_eq_false hz0) ?_;simp only[stz];refine wpLd 231 b 1 (fun w' hS=>hS.cell id hLc') underlying231 ?_
    simp only[stz];refine wpPI underlying231 34 hlt ?_;simp only[stz];refine wpLd 9 g (off+i*34) (fun w' hS=>hS.cell id hc0) underlying9 ?_;simp only[stz]
    refine wpLd 231 b 1 (fun w' hS=>hS.cell id hLc') underlying231 ?_;simp only[stz]
    refine zJ _ _ _ _ (i:Int) 1 ((i-1:Nat):Int) rfl rfl rfl rfl (by omega) (by omega) (by omega) ?_;simp only[nmz];refine wpPI underlying231 34 hlt1 ?_
    simp only[stz];refine wpLd 9 g (off+(i-1)*34) (fun w' hS=>hS.cell id hx) underlying9 ?_;simp only[nmz]
    refine qG rfl (fun w' hS=>exec_neq_str _ _ _ _ rfl _ _ rfl rfl t HXT.out) ?_;simp only[stz];replace hM:=hM.trans0 hS;replace hLc':=hS.cell id hLc'
    replace hc0:=hS.cell id hc0;replace hacc:=zE hacc hS (fun _ _=>id);clear hS hz0 h0 hx HXT;generalize wr.drew=wy at*
    cases t
    ·go_wp2
     go_roundw
     case rel=>exact⟨i+1,by omega,by go_num,by rw[HSU.out];exact hacc,hM⟩
     case measure=>simp[intOf];omega
    ·go_upto_region 6 with(fail)
     refine wpR [3,3,3,3,1,3,3,3,1,1,1,3] ?_;simp only[stz];refine wpXd 231 b 1 hLc' underlying231 trivial ?_;simp only[stz];refine wpPI underlying231 34 hlt ?_
     simp only[stz];refine wpXd 9 g (off+i*34) hc0 underlying9 trivial ?_;try simp only[nmz]
     refine wpD (qQ 127 9 _ (.string y) (.string ⟨#[]⟩) 1 (by rfl) (by rfl) underlying127 (by kernel_rfl) (by omega) (by omega) (by rfl) (fun w6 hB6 hm6 hs6=>?_))
     replace hB6:w6.heap[wy.heap.size]?=some (.cells #[.string y] 9 (0,0)):=hB6;try simp only[nmz]
     refine wpDo rfl ?_;have hrow6:=zE hacc hm6 (fun _ _=>id);have hs6':=hm6.size;have hMs:=hM.size
     refine xJ _ _ 127 9 (.string ⟨#[]⟩) 1 16 (by rfl) underlying127 string_i (by kernel_rfl) (by omega) w.heap.size _ _ _ (by rfl) hrow6 (.slice (some ⟨wy.heap.size,0,none⟩) 1 1) 1 [.string y] (by rfl) ⟨rfl,_,_,rfl,fun _=>⟨wy.heap.size,0,rfl,fun j z hj=>?_⟩⟩ (by simp[Value.oneCell']) (by unfold maxLen;omega) (by omega) (by omega) (fun v' w7 hrow7 hg7 hv7=>?_)
     ·rw[cell_of_row _ _ _ _ _ _ hB6,Nat.zero_add];simpa using hj
     simp only[stz];have hM6:=hM.trans0 hm6;have hm7:Mod (fun j=>Value.ownBlock _=some j) w6 w7:=(Mod.refl _ _).grown hg7 (fun k hk _=>hk)
     have hM7:Mod NoB w w7:=hM6.trans hm7 (fun k hk e=>by have:=(hacc.lt k e).1;omega)
     have HR:Hid (RReposRel r w v' (.int .i64 ((i:Int)+1)) w7):=⟨i+1,by omega,by go_num,by rw[HSU.out];simpa using hrow7,hM7⟩
     clear hM7 hm7 hrow7 hg7 hv7 hacc hM6 hM;go_wp2
     go_roundw
     case rel=>exact HR.out
     case measure=>simp[intOf];omega
  ·have hz:¬(i:Int)<(r.length:Int):=by omega
   obtain rfl:i=r.length:=by omega
   have hd:=sl_strs hacc;have HD:=hid hd;clear hd hacc;refine wpR [3,3,3,3,1,3,3] ?_;simp only[stz];refine wpXd 231 b 1 hLc' underlying231 trivial ?_;try simp only[nmz]
   refine wpPL ?_;simp only[nmz];refine qK _ _ _ _ _ _ _ _ rfl rfl rfl rfl rfl false (decide_eq_false hz) ?_;simp only[stz];go_wp2;go_ret
   exact⟨_,rfl,hM,HD.out.mono (fun k hk=>⟨hk.1,hk.2.1⟩) (fun _ _ h=>h)⟩
end
theorem ent_take:∀{r:LinkL}{i:Nat},(∀p∈r,KeyOk p.1)->(r.flatMap entL).take (i*34)=(r.take i).flatMap entL
 | [],i,_=>by simp
 |p::r,0,_=>by simp
 |p::r,i+1,h=>by
  have hp:(entL p).length=34:=by have:=xC (h p (by simp));simpa[entL]using this
  rw[List.take_succ_cons,List.flatMap_cons,List.flatMap_cons,Nat.succ_mul,List.take_append,hp]
  rw[List.take_of_length_le (by omega),show i*34+34-34=i*34 by omega,ent_take (fun q hq=>h q (by simp[hq]))]
theorem ent_drop:∀{r:LinkL}{i:Nat},(∀p∈r,KeyOk p.1)->(r.flatMap entL).drop (i*34)=(r.drop i).flatMap entL
 | [],i,_=>by simp
 |p::r,0,_=>by simp
 |p::r,i+1,h=>by
  have hp:(entL p).length=34:=by have:=xC (h p (by simp));simpa[entL]using this
  rw[List.drop_succ_cons,List.flatMap_cons,Nat.succ_mul,List.drop_append,hp]
  rw[List.drop_of_length_le (by omega),show i*34+34-34=i*34 by omega,ent_drop (fun q hq=>h q (by simp[hq])),List.nil_append]
theorem entL_one(p:Key×Int):∀c∈entL p,c.oneCell'=true:=by
 intro c hc;simp only[entL,zU,Array.toList_append,List.mem_append]at hc
 rcases hc with(hc|hc)|hc
 ·simp at hc;subst hc;rfl
 ·exact qP p.1.2 c (by simpa using hc)
 ·simp at hc;subst hc;rfl
theorem ents_one(r:LinkL):∀c∈r.flatMap entL,c.oneCell'=true:=fun c hc=>by
 obtain⟨p,_,hp⟩:=List.mem_flatMap.1 hc;exact entL_one p c hp
theorem forget_length(r:LinkL)(x:List UInt8):r.length=xQ r x+(xX r x).length:=by
 unfold xQ xX
 show List.length (r:List (Key×Int))=_
 induction (r:List (Key×Int))with
 |nil=>rfl
 |cons p r ih=>
  rw[List.filter_cons,List.filter_cons]
  by_cases h:p.1.2=x
  ·rw[if_pos (by simp[h]),if_neg (by simp[h]),List.length_cons,List.length_cons,ih];omega
  ·rw[if_neg (by simp[h]),if_pos (by simp[h]),List.length_cons,List.length_cons,ih];omega
section
variable{w0 w w6 w7:World}{b:Nat}{v:Value}{limit:Int}{r r':LinkL}{R:Nat->Prop}
theorem RfStep.mk(h:RAt w0 w (.pointer (some ⟨b,0,none⟩)) limit r R)(hb:R b)(ho:w6.ownsRow w0.heap.size 235 34 v r'.length (r'.flatMap entL))(hg:∀g,v.ownBlock=some g->(R g\/New w w6 g)/\g≠b)
 (hm6:Mod (fun k=>R k/\k≠b) w w6)(hB:w7.heap[b]?=some (.cells #[.int .i64 limit,v] 233 (0,0)))(hm7:Mod (fun k=>k=b) w6 w7)
 (hk:∀p∈r',KeyOk p.1)(hf:r'.length<=65536)(hv:∀p∈r',0<=p.2/\p.2<=4096):RfStep w0 w (.pointer (some ⟨b,0,none⟩)) limit R w7 r':=by
 have hs7:=hm7.size;have hM:Mod R w w7:=hm6.mono (S':=R) (fun _ _ h=>h.1) |>.trans hm7 (fun k _ e=>by rw[show k=b from e];exact hb)
 refine⟨fun k=>R k\/New w w7 k,⟨h.mod.trans hM (fun k hk hs=>by have:=h.old k hs;omega),⟨b,v,rfl,hB,owns_keep ho hm7 (fun g e=>(hg g e).2),.inl hb,fun g e=>⟨(hg g e).1.imp id fun hn=>⟨hn.1,Nat.lt_of_lt_of_le hn.2 hs7⟩,(hg g e).2⟩⟩,hk,hf,hv,fun k hk=>?_,fun k hk=>?_⟩,hM,fun k hk=>hk⟩
 ·rcases hk with hk|hk
  ·exact h.old k hk
  ·have h1:=hk.1;have h2:=h.mod.size;omega
 ·rcases hk with hk|hk
  ·exact Nat.lt_of_lt_of_le (h.lt k hk) hM.size
  ·exact hk.2
end
theorem entZ:(prog.info? 235).bind (·.zero)=some (.agg (zU ((⟨#[]⟩,List.replicate 32 0),0))):=by kernel_rfl
theorem entP:xV prog 235=some [(0,1),(1,32),(33,1)]:=by kernel_rfl
theorem fill_ent(z:Array Value)(hz:z.size=34)(s:ByteArray)(x:List UInt8)(hx:x.length=32)(n:Int):
 Instr.fill ([(0,1),(1,32),(33,1)].toArray[·]?) z [(0,.string s),(1,.agg (qA x)),(2,.int .i64 n)]=some (#[.string s]++qA x++#[.int .i64 n]):=by
 have c1:(Value.string s).cells=#[.string s]:=rfl;have c2:(Value.agg (qA x)).cells=qA x:=rfl;have c3:(Value.int .i64 n).cells=#[.int .i64 n]:=rfl
 have s2:(qA x).size=32:=by rw[qB,hx]
 have s1:(qY z 0 #[.string s]).size=34:=by rw[yH (by simp;omega)];exact hz
 have s3:(qY (qY z 0 #[.string s]) 1 (qA x)).size=34:=by rw[yH (by rw[s1,s2];omega)];exact s1
 rw[zC (off:=0) (size:=1) rfl (by rw[c1];rfl) (by omega),c1,zC (off:=1) (size:=32) rfl (by rw[c2,s2]) (by omega),c2,zC (off:=33) (size:=1) rfl (by rw[c3];rfl) (by omega),c3,xY]
 congr 1
 apply Array.toList_inj.1
 have hZ:z.toList.length=34:=by simpa using hz
 have h2:(qA x).toList.length=32:=by simpa using s2
 have e:∀(a:Array Value)(o:Nat)(c:Array Value),(qY a o c).toList=a.toList.take o++c.toList++a.toList.drop (o+c.size):=fun _ _ _=>rfl
 rw[e,e,e,s2,Array.toList_append,Array.toList_append];generalize z.toList=Z at*;generalize (qA x).toList=I at*
 simp[List.take_append,List.drop_append,hZ,h2]
theorem built_ent{p:Key×Int}(h:KeyOk p.1):prog.built 235 [(0,.string p.1.1),(1,.agg (qA p.1.2)),(2,.int .i64 p.2)]=some (zU p):=by
 rw[zP entZ entP];exact fill_ent _ (by kernel_rfl) _ _ h _
theorem owns_slice{w:World}{base e sz n:Nat}{v:Value}{xs:List Value}(h:w.ownsRow base e sz v n xs):∃a cap,v=.slice a n cap:=by
 rcases h.2 with⟨rfl,rfl⟩|⟨g,cap,cur,rfl,_⟩
 ·exact⟨_,_,rfl⟩
 ·exact⟨_,_,rfl⟩
section
variable{w0 w:World}{q:Value}{limit:Int}{r:LinkL}{R:Nat->Prop}
theorem RAt.own(h:RAt w0 w q limit r R):∃b a cap,q=.pointer (some ⟨b,0,none⟩)/\w.heap[b]?=some (.cells #[.int .i64 limit,.slice a r.length cap] 233 (0,0))/\w.ownsRow w0.heap.size 235 34 (.slice a r.length cap) r.length (r.flatMap entL)/\R b/\(∀g,(Value.slice a r.length cap).ownBlock=some g->R g/\g≠b)/\r.length<=cap/\∀x,a=some x->∃g o,x=⟨g,o,none⟩:=by
 obtain⟨hM,⟨b,v,rfl,hb,ho,hR,hg⟩,hk,hf,hv,hold,hlt⟩:=h
 rcases id ho.2 with⟨rfl,h2⟩|⟨g,cap,cur,rfl,h1,h2,h3,h4⟩
 ·have e:r.length=0:=h2
  refine⟨b,none,0,rfl,by rw[e];exact hb,by rw[e]at ho |-;exact ho,hR,fun g h=>(nomatch h),by omega,fun x h=>(nomatch h)⟩
 ·exact⟨b,some ⟨g,0,none⟩,cap,rfl,hb,ho,hR,hg,h3,fun x h=>⟨g,0,by cases h;rfl⟩⟩
def FgtRel(r:LinkL)(x:List UInt8)(w0:World)(v i:Value)(w:World):Prop:=∃j:Nat,j<=r.length/\i=.int .i64 j/\w.ownsRow w0.heap.size 235 34 v (xX (r.take j) x).length ((xX (r.take j) x).flatMap entL)/\Mod NoB w0 w
theorem forget_take{r:LinkL}{x:List UInt8}{i:Nat}(h:i<r.length):xX (r.take (i+1)) x=if r[i].1.2=x then xX (r.take i) x else xX (r.take i) x++[r[i]]:=by
 unfold xX;rw[List.take_succ_eq_append_getElem h,List.filter_append]
 split<;>rename_i hn<;>simp[hn]
theorem refForget_at(h:RAt w0 w q limit r R)(x:List UInt8)(hx:x.length=32):Calls prog 140 #[q,.agg (qA x)] w (fun e w'=>e=.returned (.int .i64 (xQ r x))/\RfStep w0 w q limit R w' (xX r x)):=by
 have h0:=hid h;obtain⟨b,ra,rc,rfl,hbb,hown,hRb,hgb,hlc,-⟩:=h.own;obtain⟨_,_,_,e1,hlim,hLc,-,hat⟩:=h.read
 cases e1
 have hfew:=h.few;have hkeys:=h.keys;have hLb:w.cell? ⟨b,1,none⟩=some (.slice ra r.length rc):=by rw[cell_of_row _ _ _ _ _ _ hbb];rfl
 rw[hLb]at hLc
 cases hLc
 have HA:=hid hat;have HKY:=hid hkeys;have HG:=hid hgb;clear hat hlim h hkeys hgb hown;go_enter func140,ntmps140;go_upto_region 0 with(fail);refine wpR [1,3] ?_
 simp only[stz];refine wpD (zL 24 _ _ (by rfl) (by rfl) (fun w1 hB1 hm1 hs1=>?_));replace hB1:w1.heap[w.heap.size]?=some (.cells (qA x) 24 (0,0)):=hB1
 simp only[stz];have hLc:=hm1.cell id hLb;go_wp2
 go_loopw [5,6] (FgtRel r x w1) (fun _ i _=>r.length-(intOf i).toNat)
 case atStart=>exact⟨0,by omega,rfl,⟨rfl,.inl ⟨rfl,rfl⟩⟩,Mod.refl _ _⟩
 case round=>
  rename World=>wr
  obtain⟨i,hi,rfl,hacc,hM⟩:=hrel;go_upto_region 3 with(fail);have hLc':=hM.cell id hLc;have hbx:CellsAt wr w.heap.size 0 (qA x):=(CellsAt.whole hB1).keep hM id
  by_cases hlt:i<r.length
  ·have hz:(i:Int)<(r.length:Int):=by omega
   obtain⟨g,off,rfl,hcells⟩:=HA.out i hlt;have hc:=((hcells i hlt).keep hm1 id).keep hM id;have hkn:=HKY.out r[i] (List.getElem_mem hlt)
   have hsucc:=forget_take (x:=x) hlt;have hlen:(xX (r.take i) x).length<=r.length:=Nat.le_trans (List.length_filter_le _ _) (by simp;omega);generalize r[i]=p at*
   have hids:p.1.2.length=32:=hkn
   have hcid:CellsAt wr g (off+i*34+1) (qA p.1.2):=fun j hj=>by
    have h1:=(entCells_id hkn).1 j hj;have hj2:1+j<(zU p).size:=by rw[xC hkn];rw[qB,hids]at hj;omega
    rw[<-h1,<-hc (1+j) hj2,Nat.add_assoc]
   have HSU:=hid hsucc;clear hsucc hcells;refine wpR [3,3,3,3,1,3,3] ?_;simp only[stz];refine wpXd 231 b 1 hLc' underlying231 trivial ?_;try simp only[nmz]
   refine wpPL ?_;simp only[nmz];refine qK _ _ _ _ _ _ _ _ rfl rfl rfl rfl rfl true (decide_eq_true hz) ?_;simp only[stz];go_upto_region 5 with(fail)
   have hS:Mod NoB wr wr.drew:=(Mod.refl _ _).drew;obtain⟨t,ht⟩:∃t,decide (p.1.2≠x)=t:=⟨_,rfl⟩;have HT:=hid ht;clear ht
   refine wpRZ [3,3,3,0,3,3,3,0,0,0] [] (fun w'=>Mod NoB wr w') hS ?_;simp only[stz];refine wpLd 231 b 1 (fun w' hS=>hS.cell id hLc') underlying231 ?_;simp only[stz]
   refine wpPI underlying231 34 hlt ?_;simp only[stz]
   refine wpLA 24 g (off+i*34+1) (qA p.1.2) (fun w' hS=>hcid.keep hS id) underlying24 32 (by rw[qB];exact hids) ?_;simp only[nmz]
   refine wpLA 24 w.heap.size 0 (qA x) (fun w' hS=>hbx.keep hS id) underlying24 32 (by rw[qB];exact hx) ?_;simp only[nmz]
   refine qG rfl (fun w' hS=>exec_neq_id _ _ _ _ rfl _ _ rfl rfl 32 5 underlying24 underlying5 (by kernel_rfl) (by kernel_rfl) hids hx t HT.out) ?_;simp only[stz]
   replace hM:=hM.trans0 hS;replace hLc':=hS.cell id hLc';replace hc:=hc.keep hS id;replace hacc:=zE hacc hS (fun _ _=>id);clear hS hcid hbx
   generalize wr.drew=wy at*
   cases t
   ·have e:p.1.2=x:=by have:=of_decide_eq_false HT.out;simpa using this
    go_wp2
    go_roundw
    case rel=>exact⟨i+1,by omega,by go_num,by rw[HSU.out,if_pos e];exact hacc,hM⟩
    case measure=>simp[intOf];omega
   ·have e:¬p.1.2=x:=of_decide_eq_true HT.out
    go_upto_region 6 with(fail);refine wpR [3,3,3,3,1,3,3,1,1,1,3] ?_;simp only[stz];refine wpXd 231 b 1 hLc' underlying231 trivial ?_;simp only[stz]
    refine wpPI underlying231 34 hlt ?_;simp only[nmz];refine wpXA 235 g (off+i*34) (zU p) hc underlying235 34 (xC hkn) trivial ?_;try simp only[nmz]
    refine wpD (qQ 231 235 _ (.agg (zU p)) (.agg (zU ((⟨#[]⟩,List.replicate 32 0),0))) 34 (by rfl) (by rfl) underlying231 (by kernel_rfl) (by omega) (by omega) (xC hkn) (fun w6 hB6 hm6 hs6=>?_))
    replace hB6:w6.heap[wy.heap.size]?=some (.cells (zU p) 235 (0,0)):=hB6;try simp only[nmz]
    refine wpDo rfl ?_;have hrow6:=zE hacc hm6 (fun _ _=>id);have hs6':=hm6.size;have hMs:=hM.size
    refine xJ _ _ 231 235 (.agg (zU ((⟨#[]⟩,List.replicate 32 0),0))) 34 56 (by rfl) underlying231 entry_i (by kernel_rfl) (by omega) w1.heap.size _ _ _ (by rfl) hrow6 (.slice (some ⟨wy.heap.size,0,none⟩) 1 1) 1 (entL p) (by rfl) ⟨by simp[entL,xC hkn],_,_,rfl,fun _=>⟨wy.heap.size,0,rfl,fun j z hj=>?_⟩⟩ (entL_one p) (by unfold maxLen;omega) (by omega) (by omega) (fun v' w7 hrow7 hg7 hv7=>?_)
    ·have:(zU p)[j]?=some z:=by simpa[entL]using hj
     exact(CellsAt.whole hB6).cell this
    simp only[stz];have hM6:=hM.trans0 hm6;have hm7:Mod (fun j=>Value.ownBlock _=some j) w6 w7:=(Mod.refl _ _).grown hg7 (fun k hk _=>hk)
    have hM7:Mod NoB w1 w7:=hM6.trans hm7 (fun k hk e=>by have:=(hacc.lt k e).1;omega)
    have HR:Hid (FgtRel r x w1 v' (.int .i64 ((i:Int)+1)) w7):=⟨i+1,by omega,by go_num,by rw[HSU.out,if_neg e];simpa using hrow7,hM7⟩
    clear hM7 hm7 hrow7 hg7 hv7 hacc hM6 hM e;go_wp2
    go_roundw
    case rel=>exact HR.out
    case measure=>simp[intOf];omega
  ·have hz:¬(i:Int)<(r.length:Int):=by omega
   rw[List.take_of_length_le (by omega)]at hacc;have hflen:=forget_length r x;have hM1:=hm1.trans0 hM;have hbr:=hM1.obj id hbb
   have hn:(r.length:Int)-((xX r x).length:Int)=(xQ r x:Int):=by omega
   have hk':∀p∈xX r x,KeyOk p.1:=fun p hp=>h0.out.keys p (List.mem_filter.1 hp).1
   have hv':∀p∈xX r x,0<=p.2/\p.2<=4096:=fun p hp=>h0.out.vals p (List.mem_filter.1 hp).1;have HKV:=hid (And.intro hk' hv');clear hk' hv'
   obtain⟨rl,hrl⟩:∃rl,xX r x=rl:=⟨_,rfl⟩;obtain⟨fn,hfn⟩:∃fn,xQ r x=fn:=⟨_,rfl⟩;rw[hrl]at hacc hn hflen HKV;rw[hfn]at hn hflen
   have HRL:=hid hrl;have HFN:=hid hfn;clear hrl hfn;obtain⟨va,vc,rfl⟩:=owns_slice hacc;have HN:=hid hn;clear hn;refine wpR [3,3,3,3,1,3,3] ?_;simp only[stz]
   refine wpXd 231 b 1 hLc' underlying231 trivial ?_;try simp only[nmz]
   refine wpPL ?_;simp only[nmz];refine qK _ _ _ _ _ _ _ _ rfl rfl rfl rfl rfl false (decide_eq_false hz) ?_;simp only[stz];go_upto_region 7 with(fail)
   refine wpR [3,3,3,1,3,3,3,3,3] ?_;simp only[stz];refine wpXd 231 b 1 hLc' underlying231 trivial ?_;try simp only[nmz]
   refine wpPL ?_;simp only[stz];refine wpPL ?_;simp only[nmz]
   refine zJ _ _ _ _ (r.length:Int) (rl.length:Int) (fn:Int) rfl rfl rfl rfl HN.out (by omega) (by omega) ?_;simp only[stz];go_upto_region 8 with(fail)
   refine wpR [3,3,3,3,1] ?_;simp only[stz]
   refine wpD (qR 231 _ _ b 1 (.slice va rl.length vc) (by rfl) (by rfl) (by rfl) rfl (by kernel_rfl) _ _ hbr (by simp) (fun w7 hB7 hm7=>?_));simp only[stz]
   have hs1:=hm1.size
   have HR:Hid (RfStep w0 w (.pointer (some ⟨b,0,none⟩)) limit R w7 rl):=RfStep.mk h0.out hRb (jF hacc (Nat.le_trans h0.out.mod.size hs1)) (fun g e=>by
    have h1:=hacc.lt g e;have h2:=h0.out.lt b hRb
    exact⟨.inr ⟨by omega,h1.2⟩,by omega⟩) (hM1.mono (fun _ _ h=>h.elim)) (by simpa using hB7) hm7 HKV.out.1 (by omega) HKV.out.2
   clear hacc hM hM1 hbr hB7 hm7 hLc' hbx hLb hLc hbb;go_wp2;go_ret;rw[HRL.out,HFN.out];exact⟨rfl,HR.out⟩
end
section
variable{w0 w:World}{q:Value}{limit:Int}{r:LinkL}{R:Nat->Prop}
end
section
variable{w0 w:World}{q:Value}{limit:Int}{r:LinkL}{R:Nat->Prop}
def RAddR(asked:Bool)(w0 w:World)(q:Value)(limit:Int)(r:LinkL)(R:Nat->Prop)(k:Key)(size:Int):Ending->World->Prop:=fun e w'=>
 e=.returned (.tuple #[.bool (addE asked limit r k size).1,.int .i64 (addE asked limit r k size).2])/\RfStep w0 w q limit R w' (addR asked limit r k size)
theorem addE_bad{asked:Bool}{l:LinkL}{k:Key}{size:Int}(h:nameB k.1=false):addE asked limit l k size=(false,7):=by unfold addE;rw[h];rfl
theorem addE_range{asked:Bool}{l:LinkL}{k:Key}{size:Int}(h:nameB k.1=true)(h2:size<0\/4096<size):addE asked limit l k size=(false,3):=by unfold addE;rw[h,if_pos rfl,if_pos h2]
theorem addE_some{asked:Bool}{l:LinkL}{k:Key}{size old:Int}(h:nameB k.1=true)(h2:¬(size<0\/4096<size))(hg:getL k l=some old):addE asked limit l k size=if old=size then(false,0)else(false,17):=by unfold addE;rw[h,if_pos rfl,if_neg h2,hg]
theorem addE_new{asked:Bool}{l:LinkL}{k:Key}{size:Int}(h:nameB k.1=true)(h2:¬(size<0\/4096<size))(hg:getL k l=none):addE asked limit l k size=if holdB asked limit (useOf l k.1) size then(if 65536<=l.length then(false,10)else(true,0))else(false,11):=by unfold addE;rw[h,if_pos rfl,if_neg h2,hg]
theorem RAddR.same{asked:Bool}{k:Key}{size:Int}{b:Bool}{n:Int}{w':World}(h:RAt w0 w q limit r R)(hm:Mod NoB w w')(he:addE asked limit r k size=(false,n))(hb:b=false):RAddR asked w0 w q limit r R k size (.returned (.tuple #[.bool b,.int .i64 n])) w':=by
 subst hb;refine⟨by rw[he],?_⟩;have:addR asked limit r k size=r:=by unfold addR;rw[he];rfl
 rw[this];exact h.step hm
theorem refAdd_at(h:RAt w0 w q limit r R)(hs:SortedL r)(k:Key)(hk:KeyOk k)(hsz:k.1.size<=maxLen)(size:Int)(asked:Bool):Calls prog 112 #[q,.string k.1,.agg (qA k.2),.int .i64 size,.bool asked] w (RAddR asked w0 w q limit r R k size):=by
 have hk32:k.2.length=32:=hk;have h0:=hid h;obtain⟨b,ra,rc,rfl,hbb,hown,hRb,hgb,hlc,hra⟩:=h.own;obtain⟨_,_,_,e1,hlim,hLc,-,hrd⟩:=h.read
 cases e1
 have hat:=fun w' (hm:Mod NoB w w')=>refAt_any (h.keep0 hm) k hk;have huse:=fun w' (hm:Mod NoB w w')=>refUse_any (h.keep0 hm) k.1;have hub:=useOf_le r k.1 h.vals
 rw[hs.isSome]at hat;have hgat:=hs.at k;have hR:addR asked limit r k size=if(addE asked limit r k size).1 then insL k size r else r:=rfl
 have hple:=posL_le k r;have hins:insL k size r=r.take (posL k r)++(k,size)::r.drop (posL k r):=rfl;obtain⟨i,hi⟩:∃i,posL k r=i:=⟨_,rfl⟩
 rw[hi]at hat hgat hple hins;have hLb:w.cell? ⟨b,1,none⟩=some (.slice ra r.length rc):=by rw[cell_of_row _ _ _ _ _ _ hbb];rfl
 rw[hLb]at hLc
 cases hLc
 have hfew:=h.few;have hkeys:=h.keys;have hvals:=h.vals;have hrold:w0.heap.size<=w.heap.size:=h.mod.size
 have HR:=hid hR;have HG:=hid hgb;have HRA:=hid hra;have HKY:=hid hkeys;have HIN:=hid hins;have HGA:=hid hgat;have HRD:=hid hrd;have HV:=hid hvals
 clear hi hR hgb hra hkeys h hs hins hgat hrd hvals;go_enter func112,ntmps112;go_upto_region 0 with(fail);refine wpR [1,3,3] ?_;simp only[stz]
 refine wpD (zL 24 _ _ (by rfl) (by rfl) (fun w1 hB1 hm1 hs1=>?_));replace hB1:w1.heap[w.heap.size]?=some (.cells (qA k.2) 24 (0,0)):=hB1;simp only[stz]
 go_upto_region 1 with(fail);refine wpR [3,3,1,1,3,3,3,3,3] ?_;simp only[stz]
 refine wpXA 24 w.heap.size 0 (qA k.2) (CellsAt.whole hB1) underlying24 32 (by rw[qB];exact hk32) trivial ?_;try simp only[nmz]
 refine wpDo rfl ?_;go_wp2_with (go_at_call 189;refine(hat _ hm1).mono ?_;rintro _ w2 ⟨rfl,hm2⟩);simp only[stz]
 refine qC (v:=?_) rfl (fun w'=>?_) ?_;rotate_left;·(go_simp;try with_reducible rfl)
 simp only[nmz];refine qC (v:=?_) rfl (fun w'=>?_) ?_;rotate_left;·(go_simp;try with_reducible rfl)
 simp only[stz];have hM:=hm1.trans0 hm2;have hB1:=hm2.obj id hB1;clear hm1 hm2 hs1 hat;obtain⟨nm,hnm⟩:∃t,nameB k.1=t:=⟨_,rfl⟩;have HNM:=hid hnm;clear hnm
 go_upto_region 2 with(fail);refine wpR [3,1,3,3] ?_;simp only[stz];refine wpDo rfl ?_
 go_wp2_with (go_at_call 190;refine(refNamed_any k.1 _ hsz).mono ?_;rintro _ w3 ⟨rfl,hm3⟩;rw[HNM.out]);try simp only[stz]
 try refine zM _ _ _ rfl rfl rfl ?_
 try simp only[stz]
 have hM:=hM.trans0 hm3;have hB1:=hm3.obj id hB1;clear hm3
 cases nm
 ·have he:addE asked limit r k size=(false,7):=addE_bad HNM.out
  have HR2:Hid (RAddR asked w0 w _ limit r R k size _ w3):=RAddR.same h0.out hM he rfl;clear hM hB1 hown hbb he hLb hlim;go_wp2
  all_goals
   go_ret2;exact HR2.out
 by_cases hbad:size<0\/4096<size
 ·have he:addE asked limit r k size=(false,3):=addE_range HNM.out hbad
  have HR2:Hid (RAddR asked w0 w _ limit r R k size _ w3):=RAddR.same h0.out hM he rfl;clear hM hB1 hown hbb he hLb hlim
  rcases hbad with hb|hb
  ·go_wp2
   go_ret2;exact HR2.out
  ·have hb2:¬size<0:=by omega
   go_wp2;go_ret2;exact HR2.out
 have hb1:¬size<0:=by omega
 have hb2:¬4096<size:=by omega
 have HBAD:=hid hbad;clear hbad;go_upto_region 6 with(fail)
 cases hg:getL k r with
 |some old=>
  have hE2:=addE_some (limit:=limit) (asked:=asked) HNM.out HBAD.out hg;have hq:=(HGA.out old).1 hg;obtain⟨hlt,hp⟩:=List.getElem?_eq_some_iff.1 hq
  obtain⟨g,off,rfl,hcells⟩:=HRD.out i hlt;have hc:=hcells i hlt;rw[hp]at hc;have hcs:=(hc.keep hM id).cell (entCells_id (p:=(k,old)) hk).2;have hLc:=hM.cell id hLb
  have hlim2:=hM.cell id hlim;rw[hg]at*;clear hq hp hc hcells hg hown hbb;obtain⟨t,ht⟩:∃t,cmpB .neq old size=t:=⟨_,rfl⟩;have HT:=hid ht;clear ht
  refine wpR [3,3,3,3,3,1,3,3,3,1,3,3,3,3] ?_;simp only[stz];refine wpXd 231 b 1 hLc underlying231 trivial ?_;simp only[stz];refine wpPI underlying231 34 hlt ?_
  simp only[stz];refine wpXd 3 g (off+i*34+33) hcs underlying3 trivial ?_;simp only[stz];refine qK _ _ _ _ _ _ _ _ rfl rfl rfl rfl rfl t HT.out ?_;simp only[stz]
  cases t
  ·have e:old=size:=by have:=HT.out;simpa[cmpB]using this
   rw[if_pos e]at hE2;have HR2:Hid (RAddR asked w0 w _ limit r R k size _ w3):=RAddR.same h0.out hM hE2 rfl;clear hM hB1 hE2 hLb hlim hLc hlim2 hcs e HT;go_wp2
   all_goals
    go_ret2;exact HR2.out
  ·have e:¬old=size:=by have:=HT.out;simpa[cmpB]using this
   rw[if_neg e]at hE2;have HR2:Hid (RAddR asked w0 w _ limit r R k size _ w3):=RAddR.same h0.out hM hE2 rfl;clear hM hB1 hE2 hLb hlim hLc hlim2 hcs e HT;go_wp2
   all_goals
    go_ret2;exact HR2.out
 |none=>
  have hE2:=addE_new (limit:=limit) (asked:=asked) HNM.out HBAD.out hg;have hLc:=hM.cell id hLb;have hlim2:=hM.cell id hlim;have hbb2:=hM.obj id hbb
  have hown2:=owns_keep hown hM (fun _ _=>id);have hub2:0<=useOf r k.1/\useOf r k.1<=268435456:=by omega
  have HGN:=hid hg;clear hg hown hbb hub;refine wpR [3,3,3,3,3,0,3,3,3,0,3,3,3,3] ?_;simp only[zz2];refine jN _ rfl rfl ?_;simp only[nmz]
  refine jN _ rfl rfl ?_;simp only[nmz]
  refine qT rfl (qT rfl (qT rfl (xR rfl (qT rfl (qT rfl (qT rfl (xR rfl ?_)))))));simp only[nmz]
  refine qT rfl (qT rfl ?_);simp only[nmz];refine wpPi_pick _ _ _ _ rfl rfl rfl ?_;simp only[nmz];refine yR _ rfl rfl ?_;simp only[nmz];refine wpPi_nil ?_
  go_upto_region 10 with(fail);obtain⟨hd,hhd⟩:∃t,holdB asked limit (useOf r k.1) size=t:=⟨_,rfl⟩;rw[hhd]at hE2
  have hrest:∀wy:World,Mod NoB w wy->True:=fun _ _=>trivial;clear hrest
  go_cut [48] (fun v wx=>v=.bool (!hd)/\Mod NoB w3 wx)
  case first=>
   have hS:Mod NoB w3 w3.drew:=(Mod.refl _ _).drew
   cases asked
   ·obtain rfl:hd=true:=by rw[<-hhd];rfl
    refine wpRP [(0,3),(1,3),(2,3),(3,3),(5,3),(7,3),(8,3),(9,3),(10,0),(4,1),(6,3),(11,3),(12,3),(13,3)] [] (fun w'=>Mod NoB w3 w') hS ?_
    simp only[stz];refine zO rfl hS ?_;simp only[stz];clear hhd huse;go_wp2
    go_meet
    case rel=>exact⟨rfl,hS⟩
   ·have hcmp:cmpB .gtr (useOf r k.1+size) limit= !hd:=by
     rw[<-hhd];simp only[cmpB,holdB,Bool.not_true,Bool.false_or]
     by_cases hle:useOf r k.1+size<=limit
     ·rw[decide_eq_true hle,decide_eq_false (by omega)];rfl
     ·rw[decide_eq_false hle,decide_eq_true (by omega)];rfl
    generalize useOf r k.1=u at*;have HC:=hid hcmp;clear hcmp
    refine wpRP [(0,3),(1,3),(2,3),(3,3),(5,3),(7,3),(8,3),(9,3),(10,0),(4,1),(6,3),(11,3),(12,3),(13,3)] [] (fun w'=>Mod NoB w3 w') hS ?_
    simp only[stz];refine wpLd 3 b 0 (fun w' hS=>hS.cell id hlim2) underlying3 ?_;simp only[nmz];refine qL rfl (fun K hK=>?_)
    go_wp2_with (go_at_call 70;refine(huse _ (hM.trans0 hS)).mono ?_;rintro _ w4 ⟨rfl,hm4⟩);replace hS:=hS.trans0 hm4;refine hK _ _ hS ?_;clear hK K;try simp only[nmz]
    refine zF _ _ _ _ u size (u+size) rfl rfl rfl rfl rfl (by omega) (by omega) ?_;simp only[nmz];refine qK _ _ _ _ _ _ _ _ rfl rfl rfl rfl rfl (!hd) HC.out ?_
    simp only[stz];clear hhd huse;go_wp2
    go_meet
    case rel=>exact⟨rfl,hS⟩
  case rest=>
   obtain⟨rfl,hm4⟩:=hcut
   rename World=>w4
   have hM4:=hM.trans0 hm4;have hLc4:=hm4.cell id hLc;have hB14:=hm4.obj id hB1;have hbb4:=hm4.obj id hbb2;have hown4:=owns_keep hown2 hm4 (fun _ _=>id)
   clear hM hLc hlim2 hB1 hbb2 hown2 hm4 hLb hlim hhd huse
   cases hd
   ·rw[if_neg (by simp)]at hE2
    have HR2:Hid (RAddR asked w0 w _ limit r R k size _ w4):=RAddR.same h0.out hM4 hE2 rfl;clear hM4 hE2 hLc4 hB14 hbb4 hown4;go_wp2
    all_goals
     go_ret2;exact HR2.out
   ·rw[if_pos rfl]at hE2
    go_upto_region 12 with(fail)
    by_cases hfull:65536<=r.length
    ·rw[if_pos hfull]at hE2
     have hz:(65536:Int)<=(r.length:Int):=by omega
     have HR2:Hid (RAddR asked w0 w _ limit r R k size _ w4):=RAddR.same h0.out hM4 hE2 rfl;refine wpR [3,3,3,1,3,3,3] ?_;simp only[stz]
     refine wpXd 231 b 1 hLc4 underlying231 trivial ?_;try simp only[nmz]
     refine wpPL ?_;simp only[nmz];refine qK _ _ _ _ _ _ _ _ rfl rfl rfl rfl rfl true (decide_eq_true hz) ?_;simp only[stz];clear hM4 hE2 hLc4 hB14 hbb4 hown4;go_wp2
     all_goals
      go_ret2;exact HR2.out
    ·rw[if_neg hfull]at hE2
     have hz:¬(65536:Int)<=(r.length:Int):=by omega
     refine wpR [3,3,3,1,3,3,3] ?_;simp only[stz];refine wpXd 231 b 1 hLc4 underlying231 trivial ?_;try simp only[nmz]
     refine wpPL ?_;simp only[nmz];refine qK _ _ _ _ _ _ _ _ rfl rfl rfl rfl rfl false (decide_eq_false hz) ?_;simp only[stz];have hcap:i<=rc:=by omega
     have hM5:=hM4.drew;have hsd:w4.drew.heap.size=w4.heap.size:=rfl;have hown5:=owns_keep (w':=w4.drew) hown4 (Mod.refl NoB _).drew (fun _ _=>id)
     have hbb5:w4.drew.heap[b]?=_:=hbb4;have hsz5:=hM5.size;have hblt:b<w.heap.size:=h0.out.lt b hRb;have hkr:KeyOk (k,size).1:=hk;have HE2:=hid hE2
     clear hE2 hown4 hbb4 hM4;go_upto_region 14 with(fail)
     have hS:w4.drew.cell? ⟨b,1,none⟩=some (.slice ra r.length rc)/\CellsAt w4.drew w.heap.size 0 (qA k.2):=⟨hLc4,CellsAt.whole hB14⟩
     have hbxlt:=(Array.getElem?_eq_some_iff.1 hB14).1;clear hB14 hLc4
     refine wpRP [(0,3),(1,3),(2,3),(3,3),(4,0),(5,3),(6,3),(7,3),(8,0),(9,3),(10,0),(12,3),(13,3),(14,3),(15,0),(16,3),(17,3),(11,1),(18,1),(19,1),(20,3),(21,3),(22,2)] [22] (fun w'=>w'.cell? ⟨b,1,none⟩=some (.slice ra r.length rc)/\CellsAt w' w.heap.size 0 (qA k.2)) hS ?_
     simp only[stz];refine wpLd 231 b 1 (fun w' hS=>hS.1) underlying231 ?_;simp only[stz]
     refine jC 231 235 _ _ _ _ _ _ 34 rfl rfl rfl rfl underlying231 (by kernel_rfl) hcap ?_;simp only[stz]
     refine wpLA 24 w.heap.size 0 (qA k.2) (fun w' hS=>hS.2) underlying24 32 (by rw[qB];exact hk32) ?_;simp only[stz]
     refine qG rfl (fun w' hS=>qO 235 [(0,_),(1,_),(2,_)] [(0,.string k.1),(1,.agg (qA k.2)),(2,.int .i64 size)] (zU (k,size)) (by rfl) (by rfl) (built_ent (p:=(k,size)) hk)) ?_
     simp only[stz];refine wpLd 231 b 1 (fun w' hS=>hS.1) underlying231 ?_;simp only[stz]
     refine yX 231 235 _ _ _ _ _ _ 34 rfl rfl rfl rfl underlying231 (by kernel_rfl) hple ?_;simp only[nmz];refine qL rfl (fun K hK=>?_)
     refine qQ 231 235 _ (.agg (zU (k,size))) (.agg (zU ((⟨#[]⟩,List.replicate 32 0),0))) 34 (by rfl) (by rfl) underlying231 (by kernel_rfl) (by omega) (by omega) (xC hkr) (fun w6 hB6 hm6 hs6=>?_)
     replace hB6:w6.heap[w4.heap.size]?=some (.cells (zU (k,size)) 235 (0,0)):=hB6;replace hS:=And.intro (hm6.cell id hS.1) (hS.2.keep hm6 id)
     have hown6:=owns_keep hown5 hm6 (fun _ _=>id);have hbb6:=hm6.obj id hbb5;have hsz6:=hm6.size;refine hK _ _ hS ?_;clear hK K;try simp only[nmz]
     refine qL rfl (fun K hK=>?_)
     have hnew:w6.ownsRow w.heap.size 235 34 (.slice (some ⟨w4.heap.size,0,none⟩) 1 1) 1 (entL (k,size)):=⟨by simp[entL,xC hkr],.inr ⟨w4.heap.size,1,_,rfl,by omega,hB6,Nat.le_refl _,by unfold maxLen;omega,by rw[xC hkr],by rw[List.take_of_length_le (by simp[xC hkr])];rfl⟩⟩
     refine xJ _ _ 231 235 (.agg (zU ((⟨#[]⟩,List.replicate 32 0),0))) 34 56 (by rfl) underlying231 entry_i (by kernel_rfl) (by omega) w.heap.size _ _ _ (by rfl) hnew _ (r.length-i) _ (by rfl) ((owns_src hown6).drop hple hlc) (fun c hc=>ents_one r c (List.mem_of_mem_drop hc)) (by unfold maxLen;omega) (by omega) (by omega) (fun v7 w7 hrow7 hg7 hv7=>?_)
     have hm7:Mod (fun j=>some w4.heap.size=some j) w6 w7:=(Mod.refl _ _).grown hg7 (fun j hj _=>hj)
     have hm7':Mod NoB w4.drew w7:=hm6.trans hm7 (fun j hj e=>by cases e;omega)
     replace hS:=And.intro (hm7.cell (fun e=>by cases e;omega) hS.1) (hS.2.keep hm7 (fun e=>by have e2:=Option.some.inj e;omega))
     have hown7:=owns_keep hown6 hm7 (fun g e e2=>by cases e2;have:=h0.out.lt _ (HG.out _ e).1;omega);have hbb7:=hm7.obj (fun e=>by cases e;omega) hbb6
     have hsz7:=hm7.size;refine hK _ _ hS ?_;clear hK K;try simp only[nmz]
     refine qL rfl (fun K hK=>?_);have hto:=owns_to hown7 hple
     refine xJ _ _ 231 235 (.agg (zU ((⟨#[]⟩,List.replicate 32 0),0))) 34 56 (by rfl) underlying231 entry_i (by kernel_rfl) (by omega) w0.heap.size _ _ _ (by rfl) hto.1 _ (1+(r.length-i)) _ (by rfl) (owns_src hrow7) (fun c hc=>by
      rcases List.mem_append.1 hc with hc|hc
      ·exact entL_one _ c hc
      ·exact ents_one r c (List.mem_of_mem_drop hc)) (by unfold maxLen;omega) (by omega) (by omega) (fun v8 w8 hrow8 hg8 hv8=>?_)
     rw[hto.2]at hg8 hv8;have hmo:Mod (fun k=>(Value.slice ra r.length rc).ownBlock=some k) w7 w8:=(Mod.refl _ _).grown hg8 (fun k hk _=>hk)
     have hnb:(Value.slice ra r.length rc).ownBlock≠some b:=fun e=>(HG.out b e).2 rfl
     have hnx:(Value.slice ra r.length rc).ownBlock≠some w.heap.size:=fun e=>by have:=h0.out.lt _ (HG.out _ e).1;omega
     have hb8:=hmo.obj hnb hbb7;replace hS:=And.intro (hmo.cell hnb hS.1) (hS.2.keep hmo hnx);refine hK _ _ hS ?_;clear hK K;simp only[stz]
     refine zD rfl (fun K hK=>?_);refine qR 231 _ _ b 1 v8 (by rfl) (by rfl) (by rfl) (xW hrow8) (by kernel_rfl) _ _ hb8 (by simp) (fun w9 hB9 hm9=>?_)
     refine hK _ _ ?_;clear hK K;simp only[stz];have hM7:Mod NoB w w7:=hM5.trans0 hm7'
     have hM8:Mod (fun k=>R k/\k≠b) w w8:=(hM7.mono (S':=fun k=>R k/\k≠b) (fun _ _ h=>h.elim)).trans hmo (fun k hk e=>HG.out k e)
     have hflat:(r.flatMap entL).take (i*34)++(entL (k,size)++(r.flatMap entL).drop (i*34))=(insL k size r).flatMap entL:=by
      rw[ent_take HKY.out,ent_drop HKY.out,HIN.out,List.flatMap_append,List.flatMap_cons]
     have hlen:i+(1+(r.length-i))=(insL k size r).length:=by rw[HIN.out];simp;omega
     rw[hflat,hlen]at hrow8
     have hmem:∀p∈insL k size r,p=(k,size)\/p∈r:=fun p hp=>by
      have:=(ins_perm k size r).mem_iff.1 hp
      rcases List.mem_append.1 this with h1|h1
      ·exact .inr h1
      ·exact .inl (by simpa using h1)
     have HR2:Hid (RAddR asked w0 w (.pointer (some ⟨b,0,none⟩)) limit r R k size (.returned (.tuple #[.bool true,.int .i64 0])) w9):=by
      refine⟨by rw[HE2.out],?_⟩;rw[HR.out,HE2.out,if_pos rfl]
      refine RfStep.mk h0.out hRb hrow8 (fun g e=>?_) hM8 (by simpa using hB9) hm9 (fun p hp=>?_) (by omega) (fun p hp=>?_)
      ·have h1:=hrow8.lt g e
       rcases hv8 with hv|hv
       ·exact⟨.inl (HG.out g (hv▸e)).1,(HG.out g (hv▸e)).2⟩
       ·rw[hv]at e;cases e;exact⟨.inr ⟨hM7.size,h1.2⟩,by omega⟩
      ·rcases hmem p hp with rfl|h1
       ·exact hk
       ·exact HKY.out p h1
      ·rcases hmem p hp with rfl|h1
       ·exact⟨by omega,by omega⟩
       ·exact HV.out p h1
     clear hM7 hM8 hflat hlen hrow8 hmem hm7' hm7 hmo hB9 hm9 hS hown5 hown6 hown7 hbb5 hbb6 hbb7 hb8 hg7 hg8 hv7 hv8 hto hnew hrow7 hB6 hm6 hM5 hsd hnb hnx hz hfull hbxlt hblt hcap hsz5 hsz6 hsz7 hs6 hkr hlc hple hrold hsz hub2 hfew
     go_wp2
     all_goals
      go_ret2;exact HR2.out
end
end
section
open Go.RowKit Go.Shelf Go.Proofs.Tryz Go.Lib
end
section
open Go.Proofs.Tryz Go.Lib
end
section
open Go.RowKit Go.Proofs.Tryz Go.Lib
structure LeftOf(c:BlobL)(l:LinkL)(marks gone:List (List UInt8))(s:SwS):Prop where
 nd:(s.1.map (·.1)).Nodup
 get:∀x,getL x s.1=if x∈gone then none else getL x c
 lk:s.2.1=l.filter (fun p=> !decide (p.1.2∈gone))
 len:s.1.length+gone.length=c.length
 used:usedL s.1+s.2.2.1=usedL c
 sum:s.2.2.2=(gone.map (xQ l)).sum
 gnd:gone.Nodup
 mem:∀x,x∈gone↔(getL x c).isSome=true/\x∉marks
section
variable{c:BlobL}{l:LinkL}{marks gone:List (List UInt8)}{s:SwS}(H:LeftOf c l marks gone s)
include H
end
end
section
open Go.RowKit Go.Shelf Go.Proofs.Tryz Go.Lib
abbrev ptrB(b:Nat):Value:=.pointer (some ⟨b,0,none⟩)
def DsAt(w0 w:World)(q8 rq wd:Nat)(c:BlobL)(l:LinkL)(Ft:Nat->Prop):Prop:=∃(r:R8L)(R RL:Nat->Prop),R8At w q8 wd r R/\contR r=c/\RAt w0 w (ptrB rq) 1099511627776 l RL/\(∀k,R k->¬RL k)/\(∀k,R k->Ft k)/\(∀k,RL k->Ft k)/\∀k,Ft k->w0.heap.size<=k/\k<w.heap.size
def DStep(w0 w:World)(q8 rq wd:Nat)(Ft:Nat->Prop)(w':World)(c':BlobL)(l':LinkL):Prop:=∃F',DsAt w0 w' q8 rq wd c' l' F'/\Mod Ft w w'/\∀k,F' k->Ft k\/New w w' k
section
variable{w0 w w':World}{q8 rq wd:Nat}{c c':BlobL}{l l':LinkL}{Ft:Nat->Prop}
theorem DsAt.mod(h:DsAt w0 w q8 rq wd c l Ft):Mod NoB w0 w:=by
 obtain⟨_,_,_,_,_,h,_⟩:=h;exact h.mod
theorem DsAt.lt(h:DsAt w0 w q8 rq wd c l Ft):∀k,Ft k->w0.heap.size<=k/\k<w.heap.size:=by
 obtain⟨_,_,_,_,_,_,_,_,_,h⟩:=h;exact h
theorem DsAt.keep{S:Nat->Prop}(h:DsAt w0 w q8 rq wd c l Ft)(hm:Mod S w w')(hS:∀k,Ft k->¬S k)(hS0:∀k,k<w0.heap.size->¬S k):DsAt w0 w' q8 rq wd c l Ft:=by
 obtain⟨r,R,RL,h1,h2,h3,h4,h5,h6,h7⟩:=h
 exact⟨r,R,RL,h1.keep hm (fun k hk=>hS k (h5 k hk)),h2,h3.keep hm (fun k hk=>hS k (h6 k hk)) hS0,h4,h5,h6,fun k hk=>⟨(h7 k hk).1,Nat.lt_of_lt_of_le (h7 k hk).2 hm.size⟩⟩
theorem DsAt.keep0(h:DsAt w0 w q8 rq wd c l Ft)(hm:Mod NoB w w'):DsAt w0 w' q8 rq wd c l Ft:=h.keep hm (fun _ _=>id) (fun _ _=>id)
theorem ds_step8{r':R8L}{R RL:Nat->Prop}(h3:RAt w0 w (ptrB rq) 1099511627776 l RL)(h4:∀k,R k->¬RL k)(h5:∀k,R k->Ft k)(h6:∀k,RL k->Ft k)(h7:∀k,Ft k->w0.heap.size<=k/\k<w.heap.size)(hs:R8Step w q8 wd R w' r'):DStep w0 w q8 rq wd Ft w' (contR r') l:=by
 obtain⟨R',k1,k2,k3⟩:=hs;have hold:=h3.mod.size
 refine⟨fun k=>Ft k\/New w w' k,⟨r',R',RL,k1,rfl,h3.keep k2 (fun k hk hR=>h4 k hR hk) (fun k hk hR=>by have:=(h7 k (h5 k hR)).1;omega),fun k hk hL=>?_,fun k hk=>(k3 k hk).imp (h5 k) id,fun k hk=>.inl (h6 k hk),fun k hk=>?_⟩,k2.mono (fun k _ h=>h5 k h),fun k hk=>hk⟩
 ·rcases k3 k hk with h|h
  ·exact h4 k h hL
  ·have:=(h7 k (h6 k hL)).2;have:=h.1;omega
 ·rcases hk with hk|hk
  ·exact⟨(h7 k hk).1,Nat.lt_of_lt_of_le (h7 k hk).2 k2.size⟩
  ·exact⟨Nat.le_trans hold hk.1,hk.2⟩
theorem ds_stepL{r:R8L}{R RL:Nat->Prop}(h1:R8At w q8 wd r R)(h3:RAt w0 w (ptrB rq) 1099511627776 l RL)(h4:∀k,R k->¬RL k)(h5:∀k,R k->Ft k)(h6:∀k,RL k->Ft k)(h7:∀k,Ft k->w0.heap.size<=k/\k<w.heap.size)(hs:RfStep w0 w (ptrB rq) 1099511627776 RL w' l'):DStep w0 w q8 rq wd Ft w' (contR r) l':=by
 obtain⟨RL',k1,k2,k3⟩:=hs;have hold:=h3.mod.size
 refine⟨fun k=>Ft k\/New w w' k,⟨r,R,RL',h1.keep k2 (fun k hk hR=>h4 k hk hR),rfl,k1,fun k hk hL=>?_,fun k hk=>.inl (h5 k hk),fun k hk=>(k3 k hk).imp (h6 k) id,fun k hk=>?_⟩,k2.mono (fun k _ h=>h6 k h),fun k hk=>hk⟩
 ·rcases k3 k hL with h|h
  ·exact h4 k hk h
  ·have:=(h7 k (h5 k hk)).2;have:=h.1;omega
 ·rcases hk with hk|hk
  ·exact⟨(h7 k hk).1,Nat.lt_of_lt_of_le (h7 k hk).2 k2.size⟩
  ·exact⟨Nat.le_trans hold hk.1,hk.2⟩
theorem DsAt.put(h:DsAt w0 w q8 rq wd c l Ft)(hs:SortedB c){own:Bool}{G:Nat->Prop}{v:Value}{m:List UInt8}(hv:Sl own w G 1 ByteC v m)(hm:m.length<=4096)(hfew:c.length<=1000):
 Calls prog 81 #[ptrB q8,.agg (qA (ofI wd m)),v] w (fun e w'=>(∃v,e=.returned v)/\DStep w0 w q8 rq wd Ft w' (putR (ofI wd m) m c) l):=by
 obtain⟨r,R,RL,h1,rfl,h3,h4,h5,h6,h7⟩:=h;refine(r8Put_any h1 (contR_sort.1 hs) hv hm (by rw[contR_len]at hfew;exact hfew)).mono ?_;rintro e w' ⟨h8,r',h9,h10⟩
 rw[<-h10];exact⟨h8,ds_step8 h3 h4 h5 h6 h7 h9⟩
theorem DsAt.size(h:DsAt w0 w q8 rq wd c l Ft)(hs:SortedB c){k:List UInt8}(hk:k.length=32):Calls prog 138 #[ptrB q8,.agg (qA k)] w (R8SizeR w c k):=by
 obtain⟨r,R,RL,h1,rfl,_⟩:=h;exact r8Size_any h1 (contR_sort.1 hs) hk
theorem DsAt.drop(h:DsAt w0 w q8 rq wd c l Ft)(hs:SortedB c){k:List UInt8}(hk:k.length=32):Calls prog 139 #[ptrB q8,.agg (qA k)] w (fun e w'=>e=.returned (.bool (getL k c).isSome)/\DStep w0 w q8 rq wd Ft w' (c.filter fun p=>decide (p.1≠k)) l):=by
 obtain⟨r,R,RL,h1,rfl,h3,h4,h5,h6,h7⟩:=h;refine(r8Drop_any h1 (contR_sort.1 hs) hk).mono ?_;rintro e w' ⟨h8,h9⟩;rw[<-contR_filter]
 exact⟨h8,ds_step8 h3 h4 h5 h6 h7 h9⟩
theorem DsAt.ids(h:DsAt w0 w q8 rq wd c l Ft):Calls prog 64 #[ptrB q8] w (R8IDsR w c):=by
 obtain⟨r,R,RL,h1,rfl,_⟩:=h;exact r8IDs_any h1
theorem DsAt.forget(h:DsAt w0 w q8 rq wd c l Ft){x:List UInt8}(hx:x.length=32):Calls prog 140 #[ptrB rq,.agg (qA x)] w (fun e w'=>e=.returned (.int .i64 (xQ l x))/\DStep w0 w q8 rq wd Ft w' c (xX l x)):=by
 obtain⟨r,R,RL,h1,rfl,h3,h4,h5,h6,h7⟩:=h;exact(refForget_at h3 x hx).mono fun e w' h=>⟨h.1,ds_stepL h1 h3 h4 h5 h6 h7 h.2⟩
theorem DsAt.add(h:DsAt w0 w q8 rq wd c l Ft)(hs:SortedL l)(k:Key)(hk:KeyOk k)(hsz:k.1.size<=maxLen)(size:Int):Calls prog 112 #[ptrB rq,.string k.1,.agg (qA k.2),.int .i64 size,.bool false] w (fun e w'=>(∃v,e=.returned v)/\DStep w0 w q8 rq wd Ft w' c (addR false 1099511627776 l k size)):=by
 obtain⟨r,R,RL,h1,rfl,h3,h4,h5,h6,h7⟩:=h;exact(refAdd_at h3 hs k hk hsz size false).mono fun e w' h=>⟨⟨_,h.1⟩,ds_stepL h1 h3 h4 h5 h6 h7 h.2⟩
theorem DsAt.use(h:DsAt w0 w q8 rq wd c l Ft)(n:ByteArray):Calls prog 70 #[ptrB rq,.string n] w (RetM (.int .i64 (useOf l n)) w):=by
 obtain⟨r,R,RL,h1,rfl,h3,_⟩:=h;exact refUse_any h3 n
theorem DsAt.lids(h:DsAt w0 w q8 rq wd c l Ft)(n:ByteArray):Calls prog 72 #[ptrB rq,.string n] w (RetN w fun v w'=>(∀x∈idsR l n,x.length=32)/\Sl true w' (New w w') 32 IdC v (idsR l n)):=by
 obtain⟨r,R,RL,h1,rfl,h3,_⟩:=h;exact refIDs_any h3 n
theorem DsAt.repos(h:DsAt w0 w q8 rq wd c l Ft):Calls prog 67 #[ptrB rq] w (RetN w fun v w'=>Sl true w' (New w w') 1 StrC v (jO l l.length)):=by
 obtain⟨r,R,RL,h1,rfl,h3,_⟩:=h;exact refRepos_any h3
end
def rlayZ(wd:Nat)(L:List (List UInt8))(l:LinkL)(a b:Int):LinkL:=
 let m:=L.getD (pickZ b L.length).toNat []
 addR false 1099511627776 l (repoZ a,ofI wd m) m.length
def rlOf(wd:Nat)(L:List (List UInt8))(K:List Int)(j:Nat):LinkL:=(List.range j).foldl (fun l i=>rlayZ wd L l (K.getD (2*i) 0) (K.getD (2*i+1) 0)) []
theorem rlOf_snoc(wd:Nat)(L:List (List UInt8))(K:List Int)(j:Nat):rlOf wd L K (j+1)=rlayZ wd L (rlOf wd L K j) (K.getD (2*j) 0) (K.getD (2*j+1) 0):=by
 unfold rlOf;rw[List.range_succ,List.foldl_append]
 rfl
theorem rlOf_ref(wd:Nat)(L:List (List UInt8))(K:List Int):∀j,RefOf (rlOf wd L K j) (lOf wd L K j)
 |0=>⟨.nil,.refl _⟩
 |j+1=>by
  rw[rlOf_snoc,lOf_snoc];exact(rlOf_ref wd L K j).add false 1099511627776 _ _
theorem rOf_len(wd:Nat)(L:List (List UInt8)):(rOf wd L).length<=L.length:=by
 rw[(rOf_ref wd L).perm.length_eq];have:=cOf_len wd L [];unfold cOf
 simpa using this
theorem RAt.base{w0 w1 w:World}{q:Value}{limit:Int}{r:LinkL}{R:Nat->Prop}(hm:Mod NoB w0 w1)(h:RAt w1 w q limit r R):RAt w0 w q limit r R:=by
 obtain⟨h1,⟨b,v,h2,h3,h4,h5⟩,h6,h7,h8,h9,h10⟩:=h
 exact⟨hm.trans0 h1,⟨b,v,h2,h3,jF h4 hm.size,h5⟩,h6,h7,h8,fun k hk=>Nat.le_trans hm.size (h9 k hk),h10⟩
theorem DsAt.base{w0 w1 w:World}{q8 rq wd:Nat}{c:BlobL}{l:LinkL}{Ft:Nat->Prop}(hm:Mod NoB w0 w1)(h:DsAt w1 w q8 rq wd c l Ft):DsAt w0 w q8 rq wd c l Ft:=by
 obtain⟨r,R,RL,h1,h2,h3,h4,h5,h6,h7⟩:=h;exact⟨r,R,RL,h1,h2,h3.base hm,h4,h5,h6,fun k hk=>⟨Nat.le_trans hm.size (h7 k hk).1,(h7 k hk).2⟩⟩
theorem DStep.to{w0 w w':World}{q8 rq wd:Nat}{c':BlobL}{l':LinkL}{Ft:Nat->Prop}(h:DStep w0 w q8 rq wd Ft w' c' l'):∃F',DsAt w0 w' q8 rq wd c' l' F':=by
 obtain⟨F',h1,_⟩:=h;exact⟨F',h1⟩
def OursR(w:World)(wd:Nat)(L:List (List UInt8))(K:List Int):Ending->World->Prop:=fun e w'=>
 ∃q8 rq,e=.returned (.tuple #[ptrB q8,ptrB rq])/\∃Ft,DsAt w w' q8 rq wd (rOf wd L) (rlOf wd L K (laysN L K)) Ft
def OurRel1(w1:World)(q8 rq wd:Nat)(L:List (List UInt8))(i:Value)(w:World):Prop:=∃k:Nat,k<=L.length/\i=.int .i64 k/\∃Ft,DsAt w1 w q8 rq wd (rOf wd (L.take k)) [] Ft
def OurRel2(w1:World)(q8 rq wd:Nat)(L:List (List UInt8))(K:List Int)(i:Value)(w:World):Prop:=∃j n:Nat,n=2*j/\j<=laysN L K/\i=.int .i64 (n:Nat)/\∃Ft,DsAt w1 w q8 rq wd (rOf wd L) (rlOf wd L K j) Ft
theorem ours27_any{w:World}{wd:Int}(hwd:I64 wd){lv kv:Value}{L:List (List UInt8)}{KK:List Int}(hlv:LsAt w lv L)(hkv:Sl false w AnyB 1 IntC kv KK)(hL:L.length<=1000)(hL2:∀b∈L,b.length<=4096)(hkl:KK.length<=1000)(hK2:∀x∈KK,I64 x):
 Calls prog 44 #[.agg #[.int .i64 wd,lv,kv]] w (OursR w (widZ wd) L KK):=by
 have hwz:=widZ_ok wd;have hwid:=fun w'=>width_any wd hwd lv kv (Sl.one hlv) (Sl.one hkv) w';have hl1:=Sl.one hlv;have hk1:=Sl.one hkv
 obtain⟨lad,lcap,hle,-,-⟩:=Sl.at hlv;obtain⟨kad,kcap,hke,-,-⟩:=Sl.at hkv;have HLV:=hid hlv;have HKV:=hid hkv;clear hlv hkv;rw[hle]at HLV hwid hl1
 rw[hke]at HKV hwid hk1;subst hle hke;generalize hwn:widZ wd=wn at*;clear hwn;go_enter func44,ntmps44;go_upto_region 0 with(fail);refine wpR [1,3,3] ?_;simp only[stz]
 refine wpD (zL 68 _ _ (by rfl) (by rfl) (fun w1 hB1 hm1 hs1=>?_))
 replace hB1:w1.heap[w.heap.size]?=some (.cells #[.int .i64 wd,.slice lad L.length lcap,.slice kad KK.length kcap] 68 (0,0)):=hB1;simp only[stz]
 have HLV1:=hid (yE HLV.out hm1);have HKV1:=hid (HKV.out.keep0 hm1)
 have hcH:CellsAt w1 w.heap.size 0 #[.int .i64 wd,.slice lad L.length lcap,.slice kad KK.length kcap]:=CellsAt.whole hB1;have hnew:=fun w'=>r8New_any wn hwz w'
 go_upto_region 1 with(fail);refine wpR [1,1,1,3,3,3,3,3] ?_;simp only[stz]
 refine wpXA 68 w.heap.size 0 #[.int .i64 wd,.slice lad L.length lcap,.slice kad KK.length kcap] hcH underlying68 3 rfl trivial ?_;try simp only[nmz]
 refine wpD (wpCM func108 (hwid _) fun w2 hm2=>?_);try simp only[nmz]
 refine wpD (wpC func80 (hnew _) ?_);rintro e w3 ⟨q8,R8,rfl,hst3,hm3,hsf3⟩;refine⟨_,rfl,?_⟩;simp only[stz]
 refine qC rfl (fun w'=>qJ _ 0 #[.pointer (some ⟨q8,0,none⟩),.int .i64 0] rfl rfl (.pointer (some ⟨q8,0,none⟩)) rfl) ?_;simp only[nmz]
 refine qC rfl (fun w'=>qJ _ 1 #[.pointer (some ⟨q8,0,none⟩),.int .i64 0] rfl rfl (.int .i64 0) rfl) ?_;simp only[stz]
 have hqn:=refNew_at 1099511627776 w1 (by omega) w3 (hm2.trans0 hm3);go_upto_region 2 with(fail);refine wpR [1,3,3,3,3,3] ?_;simp only[stz]
 refine wpD (wpC func111 (hqn) ?_);rintro e w4 ⟨rq,RL,rfl,hlk4,hm4,hF4⟩;refine⟨_,rfl,?_⟩;simp only[stz]
 refine qC rfl (fun w'=>qJ _ 0 #[.pointer (some ⟨rq,0,none⟩),.int .i64 0] rfl rfl (.pointer (some ⟨rq,0,none⟩)) rfl) ?_;simp only[nmz]
 refine qC rfl (fun w'=>qJ _ 1 #[.pointer (some ⟨rq,0,none⟩),.int .i64 0] rfl rfl (.int .i64 0) rfl) ?_;simp only[stz]
 have hm14:=hm2.trans0 (hm3.trans0 hm4)
 have hH0:∃Ft,DsAt w1 w4 q8 rq wn (rOf wn (L.take 0)) [] Ft:=by
  refine⟨fun k=>R8 k\/RL k,[],R8,RL,hst3.keep0 hm4,rfl,hlk4,fun k hk hf=>?_,fun k hk=>.inl hk,fun k hk=>.inr hk,fun k hk=>?_⟩
  ·have h1:=hst3.lt k hk
   have h2:=hF4 k hf;omega
  ·rcases hk with hk|hk
   ·have h1:=hsf3 k hk
    have h2:=hst3.lt k hk;have h3:=hm2.size;have h4:=hm4.size;omega
   ·exact⟨hlk4.old k hk,hlk4.lt k hk⟩
 have HR0:Hid (OurRel1 w1 q8 rq wn L (.int .i64 (0:Nat)) w4):=hid ⟨0,Nat.zero_le _,rfl,hH0⟩;have hbH:=hB1;clear hH0 hst3 hm3 hsf3 hqn hlk4 hm4 hF4 hm2 hcH hnew hB1 hm14
 have hs1':w.heap.size<w1.heap.size:=hs1;generalize hhb2:w.heap.size=hb at*;go_wp2
 go_loopw [8] (OurRel1 w1 q8 rq wn L) (fun i _=>L.length-(intOf i).toNat)
 case atStart=>exact HR0.out
 case round=>
  rename World=>wr
  obtain⟨k,hk,rfl,Ft,hat⟩:=hrel;have hmr:=hat.mod;have hFn:=fun q hq=>(hat.lt q hq).1;have hbr:=hmr.obj id hbH
  have hcl:wr.cell? ⟨hb,1,none⟩=some (.slice lad L.length lcap):=by simp[World.cell?,hbr]
  have hcl0:wr.cell? ⟨hb,0+1,none⟩=some (.slice lad L.length lcap):=hcl
  by_cases hlt:k<L.length
  ·have hz:(k:Int)<(L.length:Nat):=by omega
   obtain⟨_,_,hae,-,hatL⟩:=(yE HLV1.out hmr).at;injection hae with hae1 hae2 hae3;subst hae1 hae3;obtain⟨b,off,rfl,-,-,hcc⟩:=hatL k hlt
   obtain⟨cs,-,⟨vk,rfl,hvk⟩,hcA⟩:=hcc k hlt;have hck:=CellsAt.one.1 hcA;have hbw:b<w1.heap.size:=sl_lt HLV1.out hlt;have hmk:=hL2 _ (List.getElem_mem hlt)
   have hsn:=rOf_snoc wn L k hlt;have hcn:(rOf wn (L.take k)).length<=1000:=Nat.le_trans (rOf_len wn (L.take k)) (by simp;omega);have hso:=(rOf_ref wn (L.take k)).sorted
   generalize L[k]=m at*;obtain⟨va,vc,hve,-,-⟩:=Sl.at hvk;have HVK:=hid hvk;rw[hve]at HVK hck;have HSN:=hid hsn
   have hrc:CellsAt wr hb 0 #[.int .i64 wd,.slice (some ⟨b,off,none⟩) L.length lcap,.slice kad KK.length kcap]:=CellsAt.whole hbr
   have href:=fun w' (hm:Mod NoB wr w')=>refOf_any (HVK.out.keep0 hm) (by omega) wn hwz.1 hwz.2;have hdi:(ofI wn m).length=32:=ofI_len hwz.2
   have hic:(qA (ofI wn m)).size=32:=by rw[qB,hdi]
   clear hsn hatL hcc hcA hae2 hve hvk;go_upto_region 6 with(fail)
   go_cut [9] (fun s wx=>IdBox wr (ofI wn m) s wx)
   case first=>
    have hS:Mod NoB wr wr.drew:=(Mod.refl _ _).drew;have hT:Mod NoB wr wr.drew:=(Mod.refl _ _).drew
    refine yV [(0,3),(1,0),(2,3),(3,3),(4,0),(5,0)] 7 [(13,3)] [] (fun w'=>Mod NoB wr w') #[true,true,true,true,true,true,false,false,false,false,false,false,false,false] (by kernel_rfl) (by kernel_rfl) (by kernel_rfl) (by kernel_rfl) (by kernel_rfl) (fun _ _ _ _ hd h=>⟨hd.trans h.1,h.2⟩) hS ?_
    simp only[stz];refine wpLd 22 hb (0+1) (fun w' hS=>hS.cell id hcl0) underlying22 ?_;simp only[stz];refine wpPI underlying22 1 hlt ?_;simp only[nmz]
    refine wpLd 53 b (off+k*1) (fun w' hS=>hS.cell id hck) underlying53 ?_;simp only[nmz]
    refine wpLA 68 hb 0 #[.int .i64 wd,.slice (some ⟨b,off,none⟩) L.length lcap,.slice kad KK.length kcap] (fun w' hS=>hrc.keep hS id) underlying68 3 rfl ?_;simp only[stz]
    refine qU [6,11] (by kernel_rfl) ?_;simp only[zz3,false_implies,implies_true];refine⟨?_,?_⟩
    ·intro K hK
     simp only[zz5];refine wpC func108 (hwid _) ?_;rintro e w5 ⟨rfl,hm5⟩
     try replace hB4:=hm5.obj id hB4
     replace hT:=hT.trans0 hm5;clear hm5;refine⟨_,rfl,hK _ _ hT ?_⟩;clear hK K;try simp only[nmz]
     refine qU [7,11] (by kernel_rfl) ?_;simp only[zz3,false_implies,implies_true];refine⟨?_,?_⟩
     ·intro K hK
      simp only[zz5];refine wpC func79 (href _ hT) ?_;rintro e w6 ⟨rfl,hm6⟩
      try replace hB4:=hm6.obj id hB4
      replace hT:=hT.trans0 hm6;clear hm6;refine⟨_,rfl,hK _ _ hT ?_⟩;clear hK K;try simp only[nmz]
      refine zB 8 (.tuple #[.agg (qA (ofI wn m)),.int .i64 0]) (by kernel_rfl) (fun _ _ _ _ hd h=>⟨hd.trans h.1,h.2⟩) (fun w'=>by simp only[zz5];exact jX _ rfl (.tuple #[.agg (qA (ofI wn m)),.int .i64 0]) rfl) hT ?_
      simp only[zz5];try simp only[nmz]
      refine zB 9 (.agg (qA (ofI wn m))) (by kernel_rfl) (fun _ _ _ _ hd h=>⟨hd.trans h.1,h.2⟩) (fun w'=>by simp only[zz5];exact qJ _ 0 #[.agg (qA (ofI wn m)),.int .i64 0] rfl rfl (.agg (qA (ofI wn m))) rfl) hT ?_
      simp only[zz5];try simp only[nmz]
      refine zB 10 (.int .i64 0) (by kernel_rfl) (fun _ _ _ _ hd h=>⟨hd.trans h.1,h.2⟩) (fun w'=>by simp only[zz5];exact qJ _ 1 #[.agg (qA (ofI wn m)),.int .i64 0] rfl rfl (.int .i64 0) rfl) hT ?_
      simp only[zz5];try simp only[nmz]
      refine qU [11] (by kernel_rfl) ?_;simp only[zz3,false_implies,implies_true];intro K hK;simp only[zz5]
      refine yL 24 _ (by rfl) idZ (fun b9 w7 hbe hB4 hm7 hs7=>?_);replace hB4:w7.heap[b9]?=some (.cells (qA (List.replicate 32 0)) 24 (0,0)):=hB4
      have hbn:wr.heap.size<=b9:=by rw[hbe];exact hT.size
      replace hT:=hT.trans0 hm7;clear hm7 hbe hs7;refine hK _ _ hT ?_;clear hK K;try simp only[nmz]
      refine qU [12] (by kernel_rfl) ?_;simp only[zz3,false_implies,implies_true];intro K hK;simp only[zz5]
      refine qF 24 _ _ b9 0 (qA (ofI wn m)) (by rfl) (by rfl) (by rfl) (qP _) 32 (by kernel_rfl) hic _ _ hB4 (by rw[hic,qB];simp) (fun w8 hB8 hm8=>?_)
      rw[qD (by rw[hic,qB];rfl)]at hB8;replace hT:Mod NoB wr w8:=hT.transB hm8 hbn;clear hB4 hm8;have hB4:=hB8;clear hB8;refine hK _ _ hT ?_
      clear hK K;try simp only[nmz]
      refine xK ?_;try simp only[zz4]
      simp only[stz];go_wp2
      go_meet
      case rel=>exact⟨b9,rfl,hbn,hB4,hT⟩
     ·intro K hK
      simp only[zz5];refine yL 24 _ (by rfl) idZ (fun b9 w7 hbe hB4 hm7 hs7=>?_)
      replace hB4:w7.heap[b9]?=some (.cells (qA (List.replicate 32 0)) 24 (0,0)):=hB4;have hbn:wr.heap.size<=b9:=by rw[hbe];exact hT.size
      replace hT:=hT.trans0 hm7;clear hm7 hbe hs7;refine hK _ _ hT ?_;clear hK K;try simp only[nmz]
      refine qU [7] (by kernel_rfl) ?_;simp only[zz3,false_implies,implies_true];intro K hK;simp only[zz5];refine wpC func79 (href _ hT) ?_;rintro e w6 ⟨rfl,hm6⟩
      try replace hB4:=hm6.obj id hB4
      replace hT:=hT.trans0 hm6;clear hm6;refine⟨_,rfl,hK _ _ hT ?_⟩;clear hK K;try simp only[nmz]
      refine zB 8 (.tuple #[.agg (qA (ofI wn m)),.int .i64 0]) (by kernel_rfl) (fun _ _ _ _ hd h=>⟨hd.trans h.1,h.2⟩) (fun w'=>by simp only[zz5];exact jX _ rfl (.tuple #[.agg (qA (ofI wn m)),.int .i64 0]) rfl) hT ?_
      simp only[zz5];try simp only[nmz]
      refine zB 9 (.agg (qA (ofI wn m))) (by kernel_rfl) (fun _ _ _ _ hd h=>⟨hd.trans h.1,h.2⟩) (fun w'=>by simp only[zz5];exact qJ _ 0 #[.agg (qA (ofI wn m)),.int .i64 0] rfl rfl (.agg (qA (ofI wn m))) rfl) hT ?_
      simp only[zz5];try simp only[nmz]
      refine zB 10 (.int .i64 0) (by kernel_rfl) (fun _ _ _ _ hd h=>⟨hd.trans h.1,h.2⟩) (fun w'=>by simp only[zz5];exact qJ _ 1 #[.agg (qA (ofI wn m)),.int .i64 0] rfl rfl (.int .i64 0) rfl) hT ?_
      simp only[zz5];try simp only[nmz]
      refine qU [12] (by kernel_rfl) ?_;simp only[zz3,false_implies,implies_true];intro K hK;simp only[zz5]
      refine qF 24 _ _ b9 0 (qA (ofI wn m)) (by rfl) (by rfl) (by rfl) (qP _) 32 (by kernel_rfl) hic _ _ hB4 (by rw[hic,qB];simp) (fun w8 hB8 hm8=>?_)
      rw[qD (by rw[hic,qB];rfl)]at hB8;replace hT:Mod NoB wr w8:=hT.transB hm8 hbn;clear hB4 hm8;have hB4:=hB8;clear hB8;refine hK _ _ hT ?_
      clear hK K;try simp only[nmz]
      refine xK ?_;try simp only[zz4]
      simp only[stz];go_wp2
      go_meet
      case rel=>exact⟨b9,rfl,hbn,hB4,hT⟩
    ·intro K hK
     simp only[zz5];refine yL 24 _ (by rfl) idZ (fun b9 w7 hbe hB4 hm7 hs7=>?_)
     replace hB4:w7.heap[b9]?=some (.cells (qA (List.replicate 32 0)) 24 (0,0)):=hB4;have hbn:wr.heap.size<=b9:=by rw[hbe];exact hT.size
     replace hT:=hT.trans0 hm7;clear hm7 hbe hs7;refine hK _ _ hT ?_;clear hK K;try simp only[nmz]
     refine qU [6] (by kernel_rfl) ?_;simp only[zz3,false_implies,implies_true];intro K hK;simp only[zz5];refine wpC func108 (hwid _) ?_;rintro e w5 ⟨rfl,hm5⟩
     try replace hB4:=hm5.obj id hB4
     replace hT:=hT.trans0 hm5;clear hm5;refine⟨_,rfl,hK _ _ hT ?_⟩;clear hK K;try simp only[nmz]
     refine qU [7] (by kernel_rfl) ?_;simp only[zz3,false_implies,implies_true];intro K hK;simp only[zz5];refine wpC func79 (href _ hT) ?_;rintro e w6 ⟨rfl,hm6⟩
     try replace hB4:=hm6.obj id hB4
     replace hT:=hT.trans0 hm6;clear hm6;refine⟨_,rfl,hK _ _ hT ?_⟩;clear hK K;try simp only[nmz]
     refine zB 8 (.tuple #[.agg (qA (ofI wn m)),.int .i64 0]) (by kernel_rfl) (fun _ _ _ _ hd h=>⟨hd.trans h.1,h.2⟩) (fun w'=>by simp only[zz5];exact jX _ rfl (.tuple #[.agg (qA (ofI wn m)),.int .i64 0]) rfl) hT ?_
     simp only[zz5];try simp only[nmz]
     refine zB 9 (.agg (qA (ofI wn m))) (by kernel_rfl) (fun _ _ _ _ hd h=>⟨hd.trans h.1,h.2⟩) (fun w'=>by simp only[zz5];exact qJ _ 0 #[.agg (qA (ofI wn m)),.int .i64 0] rfl rfl (.agg (qA (ofI wn m))) rfl) hT ?_
     simp only[zz5];try simp only[nmz]
     refine zB 10 (.int .i64 0) (by kernel_rfl) (fun _ _ _ _ hd h=>⟨hd.trans h.1,h.2⟩) (fun w'=>by simp only[zz5];exact qJ _ 1 #[.agg (qA (ofI wn m)),.int .i64 0] rfl rfl (.int .i64 0) rfl) hT ?_
     simp only[zz5];try simp only[nmz]
     refine qU [12] (by kernel_rfl) ?_;simp only[zz3,false_implies,implies_true];intro K hK;simp only[zz5]
     refine qF 24 _ _ b9 0 (qA (ofI wn m)) (by rfl) (by rfl) (by rfl) (qP _) 32 (by kernel_rfl) hic _ _ hB4 (by rw[hic,qB];simp) (fun w8 hB8 hm8=>?_)
     rw[qD (by rw[hic,qB];rfl)]at hB8;replace hT:Mod NoB wr w8:=hT.transB hm8 hbn;clear hB4 hm8;have hB4:=hB8;clear hB8;refine hK _ _ hT ?_
     clear hK K;try simp only[nmz]
     refine xK ?_;try simp only[zz4]
     simp only[stz];go_wp2
     go_meet
     case rel=>exact⟨b9,rfl,hbn,hB4,hT⟩
   case rest=>
    rename World=>w8
    obtain⟨ib,rfl,hib,hB8,hS8⟩:=hcut;have hib8:ib<w8.heap.size:=(Array.getElem?_eq_some_iff.1 hB8).1;have hat8:=hat.keep0 hS8
    have hlt8:=fun q hq=>(hat.lt q hq).2;have hput:=fun(w':World)(hm:Mod NoB w8 w')=>(hat8.keep0 hm).put hso (HVK.out.keep0 (hS8.trans0 hm)) hmk hcn
    have hcl8:=hS8.cell id hcl0;have hck8:=hS8.cell id hck;have hci8:CellsAt w8 ib 0 (qA (ofI wn m)):=CellsAt.whole hB8;have hm18:=hmr.trans0 hS8
    clear href hrc hbr hcl hcl0 hck hB8;go_upto_region 7 with(fail);have hnF:¬Ft ib:=fun e=>by have:=hlt8 _ e;omega
    have hS:CellsAt w8.drew ib 0 (qA (ofI wn m))/\w8.drew.cell? ⟨hb,0+1,none⟩=some (.slice (some ⟨b,off,none⟩) L.length lcap)/\w8.drew.cell? ⟨b,off+k*1,none⟩=some (.slice va m.length vc)/\Mod Ft w8 w8.drew:=⟨hci8,hcl8,hck8,(Mod.refl _ _).drew⟩
    have hfin:=hput w8.drew ((Mod.refl _ _).drew);have hhb1:hb<w1.heap.size:=hs1';have hb1:b<w1.heap.size:=hbw
    have hnH:¬Ft hb:=fun e=>by have:=hFn _ e;omega
    have hnb:¬Ft b:=fun e=>by have:=hFn _ e;omega
    refine wpRZ [3,0,3,0,3,3,0,1] [] (fun w'=>CellsAt w' ib 0 (qA (ofI wn m))/\w'.cell? ⟨hb,0+1,none⟩=some (.slice (some ⟨b,off,none⟩) L.length lcap)/\w'.cell? ⟨b,off+k*1,none⟩=some (.slice va m.length vc)/\Mod Ft w8 w') hS ?_
    simp only[stz];refine wpLA 24 ib 0 (qA (ofI wn m)) (fun w' hS=>hS.1) underlying24 32 hic ?_;simp only[stz]
    refine wpLd 22 hb (0+1) (fun w' hS=>hS.2.1) underlying22 ?_;simp only[stz];refine wpPI underlying22 1 hlt ?_;simp only[nmz]
    refine wpLd 53 b (off+k*1) (fun w' hS=>hS.2.2.1) underlying53 ?_;simp only[nmz];refine qL rfl (fun K hK=>?_);refine wpC func81 (hfin) ?_
    rintro e w9 ⟨⟨v9,rfl⟩,hst9⟩;have hmd:Mod Ft w8.drew w9:=by obtain⟨_,_,h2,_⟩:=hst9;exact h2
    have hS9:CellsAt w9 ib 0 (qA (ofI wn m))/\w9.cell? ⟨hb,0+1,none⟩=some (.slice (some ⟨b,off,none⟩) L.length lcap)/\w9.cell? ⟨b,off+k*1,none⟩=some (.slice va m.length vc)/\Mod Ft w8 w9:=⟨hci8.keep hmd hnF,hmd.cell hnH hcl8,hmd.cell hnb hck8,hS.2.2.2.trans hmd (fun _ _ h=>h)⟩
    have hns9:=hst9.to;have HR:Hid (OurRel1 w1 q8 rq wn L (.int .i64 ((k+1:Nat):Int)) w9):=hid ⟨k+1,by omega,rfl,by rw[HSN.out];exact hns9⟩
    refine⟨_,rfl,hK _ _ hS9 ?_⟩;clear hK K;simp only[stz];clear hS hS9 hmd hst9 hfin hput hci8 hcl8 hck8 hat8;go_wp2
    go_roundw
    case rel=>exact HR.out
    case measure=>simp[intOf];omega
  ·have hz:¬(k:Int)<(L.length:Nat):=by omega
   obtain rfl:k=L.length:=by omega
   rw[List.take_length]at hat;have HR0:Hid (OurRel2 w1 q8 rq wn L KK (.int .i64 (0:Nat)) wr):=hid ⟨0,0,rfl,Nat.zero_le _,rfl,Ft,hat⟩;clear hat hFn hmr hbr hcl0;go_wp2
   clear hcl
   go_loopw [11] (OurRel2 w1 q8 rq wn L KK) (fun i _=>KK.length+1-(intOf i).toNat)
   case atStart=>exact HR0.out
   case round=>
    rename World=>wr
    obtain⟨j,n,hn,hj,rfl,Ft,hat⟩:=hrel;have hmr:=hat.mod;have hFn:=fun q hq=>(hat.lt q hq).1;have HN:=hid hn;have HJ:=hid hj;have hbr:=hmr.obj id hbH
    have hcl:wr.cell? ⟨hb,1,none⟩=some (.slice lad L.length lcap):=by simp[World.cell?,hbr]
    have hcl0:wr.cell? ⟨hb,0+1,none⟩=some (.slice lad L.length lcap):=hcl
    have hck:wr.cell? ⟨hb,2,none⟩=some (.slice kad KK.length kcap):=by simp[World.cell?,hbr]
    have hck0:wr.cell? ⟨hb,0+2,none⟩=some (.slice kad KK.length kcap):=hck
    have hHc:CellsAt wr hb 0 #[.int .i64 wd,.slice lad L.length lcap,.slice kad KK.length kcap]:=CellsAt.whole hbr;clear hn hj
    by_cases hlt:n+1<KK.length
    ·have hz:(n:Int)+1<(KK.length:Nat):=by omega
     by_cases hL0:0<L.length
     ·have hz0:(L.length:Int)>0:=by omega
      obtain⟨_,_,hae,-,hatK⟩:=(HKV1.out.keep0 hmr).at;injection hae with hae1 hae2 hae3;subst hae1 hae3;obtain⟨kb,koff,rfl,-,-,hkc⟩:=hatK n (by omega)
      obtain⟨cs,-,rfl,hk0A⟩:=hkc n (by omega);obtain⟨cs,-,rfl,hk1A⟩:=hkc (n+1) hlt;have hk0c:=CellsAt.one.1 hk0A;have hk1c:=CellsAt.one.1 hk1A
      have hi0:=hK2 _ (List.getElem_mem (show n<KK.length by omega));have hi1:=hK2 _ (List.getElem_mem hlt);have hlo:=rlOf_snoc wn L KK j;rw[<-HN.out]at hlo
      have hg0:KK.getD n 0=KK[n]:=by rw[List.getD_eq_getElem?_getD,List.getElem?_eq_getElem (by omega)];rfl
      have hg1:KK.getD (n+1) 0=KK[n+1]:=by rw[List.getD_eq_getElem?_getD,List.getElem?_eq_getElem hlt];rfl
      rw[hg0,hg1]at hlo;generalize KK[n]=x0 at*;generalize KK[n+1]=x1 at*;have hpl:=pickZ_lt x1 L.length (by omega)
      have hpk:=fun w'=>pick_any x1 L.length hi1 (by omega) w';unfold rlayZ at hlo;obtain⟨p,hp⟩:∃p:Nat,pickZ x1 L.length=p:=⟨(pickZ x1 L.length).toNat,by omega⟩
      rw[hp]at hpl hlo;simp only[hp]at hpk;have hpL:p<L.length:=by omega
      have hgm:L.getD (p:Int).toNat []=L[p]:=by rw[Int.toNat_natCast,List.getD_eq_getElem?_getD,List.getElem?_eq_getElem hpL];rfl
      simp only[hgm]at hlo;obtain⟨_,_,hae,-,hatL⟩:=(yE HLV1.out hmr).at;injection hae with hae1 hae2' hae3;subst hae1 hae3
      obtain⟨b,off,rfl,-,-,hcc⟩:=hatL p hpL;obtain⟨cs,-,⟨vk,rfl,hvk⟩,hcA⟩:=hcc p hpL;have hcb:=CellsAt.one.1 hcA;have hmk:=hL2 _ (List.getElem_mem hpL)
      generalize L[p]=m at*;obtain⟨va,vc,hve,-,-⟩:=Sl.at hvk;have HVK:=hid hvk;rw[hve]at HVK hcb;have HLO:=hid hlo
      have hbw:kb<w1.heap.size:=sl_lt HKV1.out (show n<KK.length by omega);clear hlo hatK hkc hk0A hk1A hae2 hae2' hatL hcc hcA hve hvk hp hpl hg0 hg1 hgm
      go_upto_region 11 with(fail);have hS:Mod NoB wr wr.drew:=(Mod.refl _ _).drew
      refine wpRZ [3,0,3,0,3,3,3,0,3,0,3,1,3,0,3] [] (fun w'=>Mod NoB wr w') hS ?_;simp only[stz]
      refine wpLd 22 hb (0+1) (fun w' hS=>hS.cell id hcl0) underlying22 ?_;simp only[stz];refine wpLd 64 hb (0+2) (fun w' hS=>hS.cell id hck0) underlying64 ?_
      simp only[stz];refine zF _ _ _ _ (n:Int) 1 ((n+1:Nat):Int) rfl rfl rfl rfl (by omega) (by omega) (by omega) ?_;simp only[nmz]
      refine wpPI underlying64 1 hlt ?_;simp only[nmz];refine wpLd 3 kb (koff+(n+1)*1) (fun w' hS=>hS.cell id hk1c) underlying3 ?_;simp only[stz]
      refine wpLd 22 hb (0+1) (fun w' hS=>hS.cell id hcl0) underlying22 ?_;simp only[nmz];refine wpPL ?_;simp only[nmz];refine qL rfl (fun K hK=>?_)
      refine wpC func17 (hpk _) ?_;rintro e w2 ⟨rfl,hw2⟩;obtain rfl:=hw2.symm;refine⟨_,rfl,hK _ _ hS ?_⟩;clear hK K;try simp only[nmz]
      refine wpPI underlying22 1 hpL ?_;simp only[nmz];refine wpLd 53 b (off+p*1) (fun w' hS=>hS.cell id hcb) underlying53 ?_;simp only[stz];have hm1c:=hmr.trans0 hS
      have hat1:=hat.keep0 hS;have hHc1:=hHc.keep hS id;have hk0c1:=hS.cell id hk0c;have hck1:=hS.cell id hck0;have HVK1:=hid (HVK.out.keep0 hS)
      generalize wr.drew=wq at*;have href:=fun w' (hm:Mod NoB wq w')=>refOf_any (HVK1.out.keep0 hm) (by omega) wn hwz.1 hwz.2
      have hdi:(ofI wn m).length=32:=ofI_len hwz.2;have hic:(qA (ofI wn m)).size=32:=by rw[qB,hdi]
      clear hcl hcl0 hck hck0 hbr hHc hk0c hk1c hcb HVK hS hpk hat hmr hw2;go_upto_region 12 with(fail);refine wpR [3,1,1,1,3,3,3,1,1,3] ?_;simp only[stz]
      refine wpXA 68 hb 0 #[.int .i64 wd,.slice (some ⟨b,off,none⟩) L.length lcap,.slice (some ⟨kb,koff,none⟩) KK.length kcap] hHc1 underlying68 3 rfl trivial ?_
      try simp only[nmz]
      refine wpD (wpCM func108 (hwid _) fun w5 hm5=>?_);try simp only[nmz]
      refine wpD (wpCM func79 (href _ hm5) fun w6 hm6=>?_);simp only[stz]
      refine qC rfl (fun w'=>qJ _ 0 #[.agg (qA (ofI wn m)),.int .i64 0] rfl rfl (.agg (qA (ofI wn m))) rfl) ?_;simp only[nmz]
      refine qC rfl (fun w'=>qJ _ 1 #[.agg (qA (ofI wn m)),.int .i64 0] rfl rfl (.int .i64 0) rfl) ?_;simp only[nmz]
      refine wpD (qN 24 _ (by rfl) idZ (fun w7 hB7 hm7 hs7=>?_));replace hB7:w7.heap[w6.heap.size]?=some (.cells (qA (List.replicate 32 0)) 24 (0,0)):=hB7
      try simp only[nmz]
      refine wpD (qF 24 _ _ w6.heap.size 0 (qA (ofI wn m)) (by rfl) (by rfl) (by rfl) (qP _) 32 (by kernel_rfl) hic _ _ hB7 (by rw[hic,qB];simp) (fun w8 hB8 hm8=>?_))
      rw[qD (by rw[hic,qB];simp)]at hB8;simp only[stz];have hS6:Mod NoB wq w6:=hm5.trans0 hm6
      have hS8:Mod NoB wq w8:=(hS6.trans0 hm7).transB hm8 hS6.size;have hib6:=hS6.size;have hib8:w6.heap.size<w8.heap.size:=(Array.getElem?_eq_some_iff.1 hB8).1
      generalize hib:w6.heap.size=ib at*;have hat8:=hat1.keep0 hS8;have hlt1:=fun q hq=>(hat1.lt q hq).2
      have hlay:=fun(w':World)(hm:Mod NoB w8 w')=>(hat8.keep0 hm).add (rlOf_ref wn L KK j).sorted (repoZ x0,ofI wn m) hdi (repoZ_size x0) (m.length:Nat)
      simp only[<-HLO.out]at hlay;have hci8:CellsAt w8 ib 0 (qA (ofI wn m)):=CellsAt.whole hB8;have hk08:=hS8.cell id hk0c1;have hck8:=hS8.cell id hck1
      have hm18:=hm1c.trans0 hS8;have hrep:=fun w'=>repo_any x0 hi0 w';clear hS6 hS8 hm5 hm6 hm7 hm8 hB7 hs7 href hHc1 hB8 hat1 hk0c1 hck1;go_upto_region 13 with(fail)
      have hnF:¬Ft ib:=fun e=>by have:=hlt1 _ e;omega
      have hnH:¬Ft hb:=fun e=>by have:=hFn _ e;omega
      have hnb:¬Ft kb:=fun e=>by have:=hFn _ e;omega
      have hS:CellsAt w8.drew ib 0 (qA (ofI wn m))/\w8.drew.cell? ⟨hb,0+2,none⟩=some (.slice (some ⟨kb,koff,none⟩) KK.length kcap)/\w8.drew.cell? ⟨kb,koff+n*1,none⟩=some (.int .i64 x0)/\Mod Ft w8 w8.drew:=⟨hci8,hck8,hk08,(Mod.refl _ _).drew⟩
      have hnlt:n<KK.length:=by omega
      refine wpRP [(0,3),(1,3),(2,0),(3,3),(4,3),(5,0),(7,0),(8,3),(9,3),(6,1),(10,1)] [] (fun w'=>CellsAt w' ib 0 (qA (ofI wn m))/\w'.cell? ⟨hb,0+2,none⟩=some (.slice (some ⟨kb,koff,none⟩) KK.length kcap)/\w'.cell? ⟨kb,koff+n*1,none⟩=some (.int .i64 x0)/\Mod Ft w8 w') hS ?_
      simp only[stz];refine wpLd 64 hb (0+2) (fun w' hS=>hS.2.1) underlying64 ?_;simp only[stz];refine wpPI underlying64 1 hnlt ?_;simp only[nmz]
      refine wpLd 3 kb (koff+n*1) (fun w' hS=>hS.2.2.1) underlying3 ?_;simp only[nmz];refine wpLA 24 ib 0 (qA (ofI wn m)) (fun w' hS=>hS.1) underlying24 32 hic ?_
      simp only[stz];refine wpPL ?_;simp only[nmz];refine qL rfl (fun K hK=>?_);refine wpC func69 (hrep _) ?_;rintro e w9 ⟨rfl,hm9⟩
      have hm89:Mod NoB w8 w9:=((Mod.refl NoB w8).drew).trans0 hm9
      have hS9:CellsAt w9 ib 0 (qA (ofI wn m))/\w9.cell? ⟨hb,0+2,none⟩=some (.slice (some ⟨kb,koff,none⟩) KK.length kcap)/\w9.cell? ⟨kb,koff+n*1,none⟩=some (.int .i64 x0)/\Mod Ft w8 w9:=⟨hci8.keep hm89 id,hm89.cell id hck8,hm89.cell id hk08,hm89.mono (fun _ _ h=>h.elim)⟩
      have hfin:=hlay w9 hm89;refine⟨_,rfl,hK _ _ hS9 ?_⟩;clear hK K;try simp only[nmz]
      refine qL rfl (fun K hK=>?_);refine wpC func112 (hfin) ?_;rintro e w10 ⟨⟨v10,rfl⟩,hst10⟩;have hmd:Mod Ft w9 w10:=by obtain⟨_,_,h2,_⟩:=hst10;exact h2
      have hS10:CellsAt w10 ib 0 (qA (ofI wn m))/\w10.cell? ⟨hb,0+2,none⟩=some (.slice (some ⟨kb,koff,none⟩) KK.length kcap)/\w10.cell? ⟨kb,koff+n*1,none⟩=some (.int .i64 x0)/\Mod Ft w8 w10:=⟨hS9.1.keep hmd hnF,hmd.cell hnH hS9.2.1,hmd.cell hnb hS9.2.2.1,hS9.2.2.2.trans hmd (fun _ _ h=>h)⟩
      have hns:=hst10.to
      have HR:Hid (OurRel2 w1 q8 rq wn L KK (.int .i64 ((n+2:Nat):Int)) w10):=hid ⟨j+1,n+2,by have:=HN.out;omega,laysN_lt HN.out hlt hL0,rfl,hns⟩
      refine⟨_,rfl,hK _ _ hS10 ?_⟩;clear hK K;simp only[stz];clear hS hS9 hS10 hmd hst10 hns hfin hlay hm9 hm89 hat8 hci8 hk08 hck8 hm18 hrep;go_wp2
      go_roundw
      case rel=>exact HR.out
      case measure=>simp[intOf];omega
     ·have hz0:¬(L.length:Int)>0:=by omega
      have hjl:j=laysN L KK:=by
       have h1:=HJ.out;have h2:L=[]:=List.eq_nil_of_length_eq_zero (by omega);unfold laysN at h1 |-;rw[if_pos h2]at h1 |-;omega
      have HF:Hid (OursR w wn L KK (.returned (.tuple #[ptrB q8,ptrB rq])) wr):=hid ⟨q8,rq,rfl,Ft,by rw[<-hjl];exact hat.base hm1⟩;clear hat hFn hmr hbr hHc hcl0 hck0
      go_wp2;go_ret2;exact HF.out
    ·have hz:¬(n:Int)+1<(KK.length:Nat):=by omega
     have hnb:n<=1000:=by
      have h1:=HJ.out;have h3:=HN.out;unfold laysN at h1
      split at h1<;>omega
     have hjl:j=laysN L KK:=by
      have h1:=HJ.out;have h3:=HN.out;unfold laysN at h1 |-
      split at h1
      ·rename_i h2
       rw[if_pos h2];omega
      ·rename_i h2
       rw[if_neg h2];omega
     have HF:Hid (OursR w wn L KK (.returned (.tuple #[ptrB q8,ptrB rq])) wr):=hid ⟨q8,rq,rfl,Ft,by rw[<-hjl];exact hat.base hm1⟩;clear hat hFn hmr hbr hHc hcl0 hck0
     go_wp2;go_ret2;exact HF.out
end
section
open Go.RowKit Go.Proofs.Tryz Go.Lib
theorem exec_eql_dot{w:World}{o:Oper}{a:Act}(x y:Operand)(yt:TypeId)(ho:o.op=.binOp .eql 113 x y yt)(m n p q:Int)
 (hx:a.eval x=.agg #[.int .i64 m,.int .i64 n])(hy:a.eval y=.agg #[.int .i64 p,.int .i64 q])(b:Bool)(hb:decide (m=p/\n=q)=b):(execOp a.eval o).run prog w=.ok (.value (.bool b)) w:=by
 subst hb
 have h:(binOp .eql 113 (.agg #[.int .i64 m,.int .i64 n]) (.agg #[.int .i64 p,.int .i64 q])).run prog w=.ok (.bool (decide (m=p/\n=q))) w:=by
  go_simp
  by_cases h1:m=p<;>by_cases h2:n=q<;>simp[h1,h2]
 have h1:=run_eqGuard_agg (P:=prog) w .eql 113 x y #[.int .i64 m,.int .i64 n] #[.int .i64 p,.int .i64 q] (by kernel_rfl);unfold execOp
 simp only[ho,hx,hy,Sem.run_bind,h1,Result.andThen_ok,h,Sem.run_pure]
theorem evCells_set2(e:Evt)(dv rv v:Value):(xI e dv rv).setIfInBounds 2 v=xI e v rv:=by
 apply Array.toList_inj.1;simp[xI]
theorem evCells_set38(e:Evt)(dv rv v:Value)(h:e.id.length=32):(xI e dv rv).setIfInBounds 38 v=xI e dv v:=by
 apply Array.toList_inj.1;simp[xI,qA,h,List.set_append]
theorem EvR.one{own:Bool}{w:World}{G:Nat->Prop}{cs:Array Value}{e:Evt}(h:EvR own w G cs e):∀c∈cs,c.oneCell'=true:=by
 obtain⟨dv,rv,rfl,hi,h1,h2,_⟩:=h;exact evCells_one h1.one h2.one
theorem EvR.size{own:Bool}{w:World}{G:Nat->Prop}{cs:Array Value}{e:Evt}(h:EvR own w G cs e):cs.size=39:=by
 obtain⟨dv,rv,rfl,hi,_⟩:=h;exact(zI e dv rv hi).size
theorem sameInts_any(o o':Bool)(G G':Nat->Prop)(va vb:Value)(la lb:List Int)(w:World)(ha:Sl o w G 1 IntC va la)(hb:Sl o' w G' 1 IntC vb lb):
 Calls prog 121 #[va,vb] w (RetM (.bool (decide (la=lb))) w):=by
 obtain⟨aa,ca,rfl,hla,ha⟩:=ha.at;obtain⟨ab,cb,rfl,hlb,hb⟩:=hb.at
 by_cases hlen:la.length=lb.length
 ·have e1:((la.length:Int)==(lb.length:Int))=true:=by simp[hlen]
  have H:=hid hlen;have HA:=hid ha;have HB:=hid hb;clear hlen ha hb;go_enter func121,ntmps121;go_wp2
  go_loopw [5,6] (SameRel la lb w) (fun _ i _=>la.length-(intOf i).toNat)
  case atStart=>exact⟨0,by omega,rfl,by rw[pre_zero],Mod.refl _ _⟩
  case round=>
   obtain⟨k,hk,rfl,rfl,hm⟩:=hrel
   rename_i wr
   by_cases hs:pre k la lb=true
   ·by_cases hlt:k<la.length
    ·have hlt':k<lb.length:=by rw[<-H.out];exact hlt
     obtain⟨ba,oa,rfl,-,-,hca⟩:=HA.out k hlt;obtain⟨bb,ob,rfl,-,-,hcb⟩:=HB.out k hlt';obtain⟨_,-,rfl,hca⟩:=hca k hlt;obtain⟨_,-,rfl,hcb⟩:=hcb k hlt'
     have h1:wr.cell? ⟨ba,oa+k,none⟩=some (.int .i64 la[k]):=by have:=CellsAt.one.1 (hca.keep hm id);simpa using this
     have h2:wr.cell? ⟨bb,ob+k,none⟩=some (.int .i64 lb[k]):=by have:=CellsAt.one.1 (hcb.keep hm id);simpa using this
     clear hca hcb;have hps:=hid (pre_succ hlt hlt' hs);go_wp2_with fail
     go_quiet (fail)
     go_wp2
     go_roundw
     case rel=>exact⟨k+1,by omega,by go_num,by rw[hps.out];rfl,hm.drewN _⟩
     case measure=>simp[intOf];omega
    ·go_wp2
     go_ret;exact⟨by rw[<-pre_full H.out (Nat.le_of_not_lt hlt),hs];rfl,hm⟩
   ·have hs':pre k la lb=false:=by simpa using hs
    have hps:=hid (pre_false hs');clear hs;go_wp2;go_ret;exact⟨by rw[hps.out];rfl,hm⟩
 ·have e1:((la.length:Int)==(lb.length:Int))=false:=by simp;omega
  have hps:=hid (decide_eq_false (show ¬la=lb by rintro rfl;exact hlen rfl));clear hlen;go_enter func121,ntmps121;go_wp2;refine wp_loop_once ?_;go_wp2;go_ret
  exact⟨by rw[hps.out];rfl,Mod.refl _ _⟩
theorem sameEvent_eq(o o':Bool)(G G':Nat->Prop)(ca cb:Array Value)(e:Evt)(w:World)(ha:EvR o w G ca e)(hb:EvR o' w G' cb e):
 Calls prog 61 #[.agg ca,.agg cb] w (RetM (.bool true) w):=by
 obtain⟨dv1,rv1,hca,hi1,hd1,hr1,-,-⟩:=ha;obtain⟨dv2,rv2,hcb,hi2,hd2,hr2,-,-⟩:=hb;have cA:=zI e dv1 rv1 hi1;rw[<-hca]at cA;clear hca
 have cB:=zI e dv2 rv2 hi2;rw[<-hcb]at cB;clear hcb;go_enter func61,ntmps61;go_upto_region 1 with(fail)
 have hM:Mod NoB w ((w.alloc (.cells ca 115)).alloc (.cells cb 115)):=((Mod.refl _ _).alloc _).alloc _
 have hA:=CellsAt.whole (heap_alloc2_old w (.cells ca 115) (.cells cb 115));have hB:=CellsAt.whole (heap_alloc2_new w (.cells ca 115) (.cells cb 115))
 generalize ((w.alloc (.cells ca 115)).alloc (.cells cb 115))=W at hM hA hB |-;replace hd1:=hd1.keep hM (fun _ _=>id) (fun _ _ h=>h)
 replace hd2:=hd2.keep hM (fun _ _=>id) (fun _ _ h=>h);replace hr1:=hr1.keep hM (fun _ _=>id) (fun _ _ h=>h);replace hr2:=hr2.keep hM (fun _ _=>id) (fun _ _ h=>h)
 have hAd:=hA.part (i:=0) (j:=2) (by rw[cA.size];omega);have hBd:=hB.part (i:=0) (j:=2) (by rw[cB.size];omega)
 have hAi:=hA.part (i:=6) (j:=38) (by rw[cA.size];omega);have hBi:=hB.part (i:=6) (j:=38) (by rw[cB.size];omega)
 rw[cA.dot]at hAd;rw[cB.dot]at hBd;rw[cA.id]at hAi;rw[cB.id]at hBi;have hS:Mod NoB W W:=Mod.refl _ _
 refine wp_region_seq [3,0,3,0,0,3,3,0,3,0,1,3,3,3,0,3,0,0,3,3,3,0,3,0,0,3,3,3,0,3,0,0,3,3,3,0,3,0,0,3,3,3,0,3,0,1,3,3] (fun w'=>Mod NoB W w') (by rfl) (by rfl) hS ?_
 simp only[stz];refine qG rfl (fun w' hS=>zK _ _ rfl _ _ rfl _ (hAd.keep hS id) _ underlying113 rfl 2 (by kernel_rfl) rfl) ?_;simp only[stz]
 refine qG rfl (fun w' hS=>zK _ _ rfl _ _ rfl _ (hBd.keep hS id) _ underlying113 rfl 2 (by kernel_rfl) rfl) ?_;simp only[nmz]
 refine qG rfl (fun w' hS=>exec_eql_dot _ _ _ rfl _ _ _ _ rfl rfl true (decide_eq_true ⟨rfl,rfl⟩)) ?_;simp only[stz]
 refine qG rfl (fun w' hS=>zA _ _ rfl _ _ rfl _ (hS.cell id (hA.cell cA.c2)) _ underlying64 rfl) ?_;simp only[stz]
 refine qG rfl (fun w' hS=>zA _ _ rfl _ _ rfl _ (hS.cell id (hB.cell cB.c2)) _ underlying64 rfl) ?_;simp only[nmz];refine qL rfl (fun K hK=>?_)
 refine wpC func121 (sameInts_any _ _ _ _ _ _ _ _ _ (hd1.keep0 hS) (hd2.keep0 hS)) ?_;rintro e' w1 ⟨rfl,hm1⟩;replace hS:=hS.trans0 hm1;rw[decide_eq_true rfl]
 refine⟨_,rfl,hK _ _ hS ?_⟩;clear hK K hm1;simp only[stz];refine qG rfl (fun w' hS=>zA _ _ rfl _ _ rfl _ (hS.cell id (hA.cell cA.c3)) _ underlying3 rfl) ?_
 simp only[stz];refine qG rfl (fun w' hS=>zA _ _ rfl _ _ rfl _ (hS.cell id (hB.cell cB.c3)) _ underlying3 rfl) ?_;simp only[nmz]
 refine qG rfl (fun w' hS=>exec_eql_int 3 _ _ _ rfl .i64 _ _ rfl rfl true (decide_eq_true rfl)) ?_;simp only[stz]
 refine qG rfl (fun w' hS=>zA _ _ rfl _ _ rfl _ (hS.cell id (hA.cell cA.c4)) _ underlying9 rfl) ?_;simp only[stz]
 refine qG rfl (fun w' hS=>zA _ _ rfl _ _ rfl _ (hS.cell id (hB.cell cB.c4)) _ underlying9 rfl) ?_;simp only[nmz]
 refine qG rfl (fun w' hS=>zY _ _ _ _ rfl _ _ rfl rfl true (decide_eq_true rfl)) ?_;simp only[stz]
 refine qG rfl (fun w' hS=>zA _ _ rfl _ _ rfl _ (hS.cell id (hA.cell cA.c5)) _ underlying9 rfl) ?_;simp only[stz]
 refine qG rfl (fun w' hS=>zA _ _ rfl _ _ rfl _ (hS.cell id (hB.cell cB.c5)) _ underlying9 rfl) ?_;simp only[nmz]
 refine qG rfl (fun w' hS=>zY _ _ _ _ rfl _ _ rfl rfl true (decide_eq_true rfl)) ?_;simp only[stz]
 refine qG rfl (fun w' hS=>zK _ _ rfl _ _ rfl _ (hAi.keep hS id) _ underlying24 rfl 32 (by kernel_rfl) (by rw[qB,hi1])) ?_;simp only[stz]
 refine qG rfl (fun w' hS=>zK _ _ rfl _ _ rfl _ (hBi.keep hS id) _ underlying24 rfl 32 (by kernel_rfl) (by rw[qB,hi2])) ?_;simp only[nmz]
 refine qG rfl (fun w' hS=>exec_eql_id _ _ _ _ rfl _ _ rfl rfl 32 5 underlying24 underlying5 (by kernel_rfl) (by kernel_rfl) hi1 hi2 true (decide_eq_true rfl)) ?_
 simp only[stz];refine qG rfl (fun w' hS=>zA _ _ rfl _ _ rfl _ (hS.cell id (hA.cell cA.c38)) _ underlying25 rfl) ?_;simp only[stz]
 refine qG rfl (fun w' hS=>zA _ _ rfl _ _ rfl _ (hS.cell id (hB.cell cB.c38)) _ underlying25 rfl) ?_;simp only[nmz];refine qL rfl (fun K hK=>?_)
 refine wpC func24 (yA _ _ _ _ _ _ _ _ _ (hr1.keep0 hS) (hr2.keep0 hS)) ?_;rintro e' w1 ⟨rfl,hm1⟩;replace hS:=hS.trans0 hm1;rw[decide_eq_true rfl]
 refine⟨_,rfl,hK _ _ hS ?_⟩;clear hK K hm1;simp only[stz];go_wp2;go_ret;exact⟨rfl,Mod.trans hM hS (fun _ _ h=>h)⟩
def SameRelE(n:Nat)(w0:World)(s i:Value)(w:World):Prop:=∃k:Nat,k<=n/\i=.int .i64 k/\s=.bool true/\Mod NoB w0 w
theorem sameEvents_eq(o o':Bool)(E G E' G':Nat->Prop)(va vb:Value)(l:List Evt)(w:World)(ha:Sl o w E 39 (EvR o w G) va l)(hb:Sl o' w E' 39 (EvR o' w G') vb l):
 Calls prog 52 #[va,vb] w (RetM (.bool true) w):=by
 obtain⟨aa,ca,rfl,hla,ha⟩:=ha.at;obtain⟨ab,cb,rfl,hlb,hb⟩:=hb.at;have e1:((l.length:Int)==(l.length:Int))=true:=by simp
 have HA:=hid ha;have HB:=hid hb;clear ha hb;go_enter func52,ntmps52;go_wp2
 go_loopw [5,6] (SameRelE l.length w) (fun _ i _=>l.length-(intOf i).toNat)
 case atStart=>exact⟨0,by omega,rfl,rfl,Mod.refl _ _⟩
 case round=>
  obtain⟨k,hk,rfl,rfl,hm⟩:=hrel
  rename_i wr
  by_cases hlt:k<l.length
  ·obtain⟨ba,oa,rfl,-,-,hca⟩:=HA.out k hlt
   obtain⟨bb,ob,rfl,-,-,hcb⟩:=HB.out k hlt;obtain⟨c1,hcs1,hca0,hca⟩:=hca k hlt;obtain⟨c2,hcs2,hcb0,hcb⟩:=hcb k hlt
   have HS1:=hid hcs1;have HS2:=hid hcs2;clear hcs1 hcs2;clear HA HB;go_wp2_with fail;have hS:=hm.drew
   refine wpRZ [3,3,3,0,3,3,3,0,1,3] [] (fun w'=>Mod NoB w w') hS ?_;simp only[stz];refine wpPI underlying72 39 hlt ?_;simp only[nmz]
   refine qG rfl (fun w' hS=>zK _ _ rfl _ _ rfl _ (hca.keep hS id) _ underlying115 rfl 39 (by kernel_rfl) HS1.out) ?_;simp only[stz]
   refine wpPI underlying72 39 hlt ?_;simp only[nmz]
   refine qG rfl (fun w' hS=>zK _ _ rfl _ _ rfl _ (hcb.keep hS id) _ underlying115 rfl 39 (by kernel_rfl) HS2.out) ?_;simp only[nmz]
   refine qL rfl (fun K hK=>?_);refine wpC func61 (sameEvent_eq _ _ _ _ _ _ _ _ (hca0.keep0 hS) (hcb0.keep0 hS)) ?_;rintro e' w1 ⟨rfl,hm1⟩;replace hS:=hS.trans0 hm1
   refine⟨_,rfl,hK _ _ hS ?_⟩;clear hK K hm1 hm;simp only[stz];go_wp2
   go_roundw
   case rel=>exact⟨k+1,by omega,by go_num,rfl,hS⟩
   case measure=>simp[intOf];omega
  ·go_wp2
   go_ret;exact⟨rfl,hm⟩
def DotC(cs:Array Value)(x:Int×Int):Prop:=cs=#[.int .i64 x.1,.int .i64 x.2]
theorem sameDots_any(o o':Bool)(G G':Nat->Prop)(va vb:Value)(la lb:List (Int×Int))(w:World)(ha:Sl o w G 2 DotC va la)(hb:Sl o' w G' 2 DotC vb lb):
 Calls prog 58 #[va,vb] w (RetM (.bool (decide (la=lb))) w):=by
 obtain⟨aa,ca,rfl,hla,ha⟩:=ha.at;obtain⟨ab,cb,rfl,hlb,hb⟩:=hb.at
 by_cases hlen:la.length=lb.length
 ·have e1:((la.length:Int)==(lb.length:Int))=true:=by simp[hlen]
  have H:=hid hlen;have HA:=hid ha;have HB:=hid hb;clear hlen ha hb;go_enter func58,ntmps58;go_wp2
  go_loopw [5,6] (SameRel la lb w) (fun _ i _=>la.length-(intOf i).toNat)
  case atStart=>exact⟨0,by omega,rfl,by rw[pre_zero],Mod.refl _ _⟩
  case round=>
   obtain⟨k,hk,rfl,rfl,hm⟩:=hrel
   rename_i wr
   by_cases hs:pre k la lb=true
   ·by_cases hlt:k<la.length
    ·have hlt':k<lb.length:=by rw[<-H.out];exact hlt
     obtain⟨ba,oa,rfl,-,-,hca⟩:=HA.out k hlt;obtain⟨bb,ob,rfl,-,-,hcb⟩:=HB.out k hlt';obtain⟨_,-,rfl,hca⟩:=hca k hlt;obtain⟨_,-,rfl,hcb⟩:=hcb k hlt'
     have hps:=hid (pre_succ hlt hlt' hs)
     have hdd:decide ((la[k]).1=(lb[k]).1/\(la[k]).2=(lb[k]).2)=decide (la[k]=lb[k]):=by rw[decide_eq_decide];exact Prod.ext_iff.symm
     have HDD:=hid hdd;clear HA HB hdd;go_wp2_with fail;have hS:=hm.drew;refine wpRZ [3,3,3,0,3,3,3,0,0,3] [] (fun w'=>Mod NoB w w') hS ?_;simp only[stz]
     refine wpPI underlying116 2 hlt ?_;simp only[nmz]
     refine qG rfl (fun w' hS=>zK _ _ rfl _ _ rfl _ (hca.keep hS id) _ underlying113 rfl 2 (by kernel_rfl) rfl) ?_;simp only[stz]
     refine wpPI underlying116 2 hlt' ?_;simp only[nmz]
     refine qG rfl (fun w' hS=>zK _ _ rfl _ _ rfl _ (hcb.keep hS id) _ underlying113 rfl 2 (by kernel_rfl) rfl) ?_;simp only[nmz]
     refine qG rfl (fun w' hS=>exec_eql_dot _ _ _ rfl _ _ _ _ rfl rfl _ HDD.out) ?_;simp only[stz];go_wp2
     go_roundw
     case rel=>exact⟨k+1,by omega,by go_num,by rw[hps.out],hS⟩
     case measure=>simp[intOf];omega
    ·go_wp2
     go_ret;exact⟨by rw[<-pre_full H.out (Nat.le_of_not_lt hlt),hs];rfl,hm⟩
   ·have hs':pre k la lb=false:=by simpa using hs
    have hps:=hid (pre_false hs');clear hs;go_wp2;go_ret;exact⟨by rw[hps.out];rfl,hm⟩
 ·have e1:((la.length:Int)==(lb.length:Int))=false:=by simp;omega
  have hps:=hid (decide_eq_false (show ¬la=lb by rintro rfl;exact hlen rfl));clear hlen;go_enter func58,ntmps58;go_wp2;refine wp_loop_once ?_;go_wp2;go_ret
  exact⟨by rw[hps.out];rfl,Mod.refl _ _⟩
theorem Sl.inside{α:Type}{own:Bool}{w:World}{G:Nat->Prop}{sz:Nat}{R:Array Value->α->Prop}{v:Value}{l:List α}(h:Sl own w G sz R v l)(hz:0<sz):Sl own w (fun k=>k<w.heap.size) sz R v l:=by
 obtain⟨ad,cap,e,h1,h2,h3⟩:=h;refine⟨ad,cap,e,h1,h2,fun hne=>?_⟩;obtain⟨b,off,ha,hG,ho,hc⟩:=h3 hne;refine⟨b,off,ha,?_,ho,hc⟩
 cases l with
 |nil=>exact absurd rfl hne
 |cons x l=>
  obtain⟨cs,hs,_,hcs⟩:=hc 0 (by simp);have h0:=hcs 0 (by omega);rw[Array.getElem?_eq_getElem (by omega:0<cs.size)]at h0;exact block_lt_of_cell h0
def evt0:Evt:=⟨0,0,[],0,ByteArray.empty,ByteArray.empty,List.replicate 32 0,[]⟩
def evZero:Value:=.agg (xI evt0 (.slice none 0 0) (.slice none 0 0))
theorem infoEvV:(prog.info? 115).map (fun i=>(i.zero,i.size,i.bytes))=some (some evZero,39,136):=by kernel_rfl
theorem zeroEvV:(prog.info? 115).bind (·.zero)=some evZero:=by kernel_rfl
def intInfoV:Value:=.int .i64 0
def idInfoV:Value:=.agg (Array.replicate 32 (.int .u8 0))
theorem infoIntV:(prog.info? 3).map (fun i=>(i.zero,i.size,i.bytes))=some (some intInfoV,1,8):=by kernel_rfl
theorem infoIdV:(prog.info? 24).map (fun i=>(i.zero,i.size,i.bytes))=some (some idInfoV,32,32):=by kernel_rfl
theorem copyInts_any(own:Bool)(G:Nat->Prop)(v:Value)(l:List Int)(w:World)(hl:Sl own w G 1 IntC v l)(hlen:l.length<=1048576):
 Calls prog 113 #[v] w (RetN w fun v' w'=>Sl true w' (New w w') 1 IntC v' l):=by
 obtain⟨css,hall,hsz,hsrc⟩:=hl.src (by omega);go_enter func113,ntmps113;go_upto_region 1 with(fail);refine wpR [1,3,1,3] ?_;simp only[stz]
 refine wpD (xA 64 3 (by rfl) underlying64 (by kernel_rfl) (fun w1 hb hm hs=>?_));simp only[stz]
 refine wpD (xJ _ _ 64 3 intInfoV 1 8 (by rfl) underlying64 infoIntV (by rfl) (by omega) w.heap.size _ 0 [] (by rfl) (yN _ hb (Nat.le_refl _)) _ l.length (css.flatMap Array.toList) (by rfl) (?_:Src w1 1 _ l.length (css.flatMap Array.toList)) (all2_one hall fun _ _=>intC_one) (by unfold maxLen;omega) (by omega) (by omega) (fun v' w2 hown hgrow _=>?_))
 ·obtain⟨h1,ad,c,h2,h3⟩:=hsrc
  refine⟨h1,ad,c,h2,fun hne=>?_⟩;obtain⟨b,off,h4,h5⟩:=h3 hne;exact⟨b,off,h4,fun j x hx=>hm.cell id (h5 j x hx)⟩
 simp only[stz];go_wp2;go_ret;have hm2:Mod NoB w w2:=hm.grown hgrow (fun k hk hlt=>by simp[Value.ownBlock]at hk;omega);refine⟨_,rfl,hm2,?_⟩
 have:=Sl.of_owns hown (by simp) hsz hall (by simp);exact this.mono (fun k hk=>⟨hk.1,hk.2.1⟩) fun _ _ h=>h
theorem cloneInts_any(own:Bool)(G:Nat->Prop)(v:Value)(l:List Int)(w:World)(hl:Sl own w G 1 IntC v l)(hlen:l.length<=1048576):
 Calls prog 129 #[v] w (RetN w fun v' w'=>Sl true w' (New w w') 1 IntC v' l):=by
 obtain⟨css,hall,hsz,hsrc⟩:=hl.src (by omega)
 by_cases hnil:∃n c,v=.slice none n c
 ·obtain⟨n,c,rfl⟩:=hnil
  have h0:l=[]/\n=0:=by
   obtain⟨h1,ad,c',h2,h3⟩:=hsrc
   cases h2
   by_cases hne:l.length=0
   ·exact⟨List.eq_nil_of_length_eq_zero hne,hne⟩
   ·obtain⟨b,off,h4,_⟩:=h3 hne
    cases h4
  obtain⟨rfl,rfl⟩:=h0;have he:=fun w=>Lib.run_eql_slice_nil (P:=prog) w 64 3 none 0 c 0 0 underlying64;go_enter func129,ntmps129;go_wp2;go_ret
  exact⟨_,rfl,Mod.refl _ _,Sl.nil _ _ _ _ _⟩
 have hsome:∃a0 n c,v=.slice (some a0) n c:=by
  obtain⟨h1,ad,c',h2,h3⟩:=hsrc
  cases ad with
  |none=>exact absurd ⟨_,_,h2⟩ hnil
  |some a0=>exact⟨a0,_,_,h2⟩
 obtain⟨a0,n0,c0,rfl⟩:=hsome;have he:=fun w=>Lib.run_eql_slice_nil (P:=prog) w 64 3 (some a0) n0 c0 0 0 underlying64;go_enter func129,ntmps129
 go_upto_region 3 with(fail);refine wpR [1,3,1,3] ?_;simp only[stz];refine wpD (xA 64 3 (by rfl) underlying64 (by kernel_rfl) (fun w1 hb hm hs=>?_))
 simp only[stz]
 refine wpD (xJ _ _ 64 3 intInfoV 1 8 (by rfl) underlying64 infoIntV (by rfl) (by omega) w.heap.size _ 0 [] (by rfl) (yN _ hb (Nat.le_refl _)) _ l.length (css.flatMap Array.toList) (by rfl) (?_:Src w1 1 _ l.length (css.flatMap Array.toList)) (all2_one hall fun _ _=>intC_one) (by unfold maxLen;omega) (by omega) (by omega) (fun v' w2 hown hgrow _=>?_))
 ·obtain⟨h1,ad,c,h2,h3⟩:=hsrc
  refine⟨h1,ad,c,h2,fun hne=>?_⟩;obtain⟨b,off,h4,h5⟩:=h3 hne;exact⟨b,off,h4,fun j x hx=>hm.cell id (h5 j x hx)⟩
 simp only[stz];go_wp2;go_ret;have hm2:Mod NoB w w2:=hm.grown hgrow (fun k hk hlt=>by simp[Value.ownBlock]at hk;omega);refine⟨_,rfl,hm2,?_⟩
 have:=Sl.of_owns hown (by simp) hsz hall (by simp);exact this.mono (fun k hk=>⟨hk.1,hk.2.1⟩) fun _ _ h=>h
theorem cloneIDs_any(own:Bool)(G:Nat->Prop)(v:Value)(l:List (List UInt8))(w:World)(hl:Sl own w G 32 IdC v l)(hlen:l.length<=1048576):
 Calls prog 130 #[v] w (RetN w fun v' w'=>Sl true w' (New w w') 32 IdC v' l):=by
 obtain⟨css,hall,hsz,hsrc⟩:=hl.src (by omega)
 by_cases hnil:∃n c,v=.slice none n c
 ·obtain⟨n,c,rfl⟩:=hnil
  have h0:l=[]/\n=0:=by
   obtain⟨h1,ad,c',h2,h3⟩:=hsrc
   cases h2
   by_cases hne:l.length=0
   ·exact⟨List.eq_nil_of_length_eq_zero hne,hne⟩
   ·obtain⟨b,off,h4,_⟩:=h3 hne
    cases h4
  obtain⟨rfl,rfl⟩:=h0;have he:=fun w=>Lib.run_eql_slice_nil (P:=prog) w 25 24 none 0 c 0 0 underlying25;go_enter func130,ntmps130;go_wp2;go_ret
  exact⟨_,rfl,Mod.refl _ _,Sl.nil _ _ _ _ _⟩
 have hsome:∃a0 n c,v=.slice (some a0) n c:=by
  obtain⟨h1,ad,c',h2,h3⟩:=hsrc
  cases ad with
  |none=>exact absurd ⟨_,_,h2⟩ hnil
  |some a0=>exact⟨a0,_,_,h2⟩
 obtain⟨a0,n0,c0,rfl⟩:=hsome;have he:=fun w=>Lib.run_eql_slice_nil (P:=prog) w 25 24 (some a0) n0 c0 0 0 underlying25;go_enter func130,ntmps130
 go_upto_region 3 with(fail);refine wpR [1,3,1,3] ?_;simp only[stz];refine wpD (xA 25 24 (by rfl) underlying25 (by kernel_rfl) (fun w1 hb hm hs=>?_))
 simp only[stz]
 refine wpD (xJ _ _ 25 24 idInfoV 32 32 (by rfl) underlying25 infoIdV (by rfl) (by omega) w.heap.size _ 0 [] (by rfl) (yN _ hb (Nat.le_refl _)) _ l.length (css.flatMap Array.toList) (by rfl) (?_:Src w1 32 _ l.length (css.flatMap Array.toList)) (all2_one hall fun _ _=>idC_one) (by unfold maxLen;omega) (by omega) (by omega) (fun v' w2 hown hgrow _=>?_))
 ·obtain⟨h1,ad,c,h2,h3⟩:=hsrc
  refine⟨h1,ad,c,h2,fun hne=>?_⟩;obtain⟨b,off,h4,h5⟩:=h3 hne;exact⟨b,off,h4,fun j x hx=>hm.cell id (h5 j x hx)⟩
 simp only[stz];go_wp2;go_ret;have hm2:Mod NoB w w2:=hm.grown hgrow (fun k hk hlt=>by simp[Value.ownBlock]at hk;omega);refine⟨_,rfl,hm2,?_⟩
 have:=Sl.of_owns hown (by simp) hsz hall (by simp);exact this.mono (fun k hk=>⟨hk.1,hk.2.1⟩) fun _ _ h=>h
def EvOk(e:Evt):Prop:=e.deps.length<=1048576/\e.refs.length<=1048576
theorem copyEvent_any(own:Bool)(G:Nat->Prop)(cs:Array Value)(e:Evt)(w:World)(he:EvR own w G cs e)(hok:EvOk e):
 Calls prog 114 #[.agg cs] w (RetN w fun v' w'=>∃cs',v'=.agg cs'/\EvR true w' (New w w') cs' e):=by
 obtain⟨dv,rv,hca,hi,hd,hr,hsz⟩:=he;have cA:=zI e dv rv hi;rw[<-hca]at cA;go_enter func114,ntmps114;go_upto_region 0 with(fail);refine wpR [1,1] ?_
 simp only[stz];refine wpD (zL 115 _ _ (by rfl) (by rfl) (fun w1 hB0 hM hs1=>?_));replace hB0:w1.heap[w.heap.size]?=some (.cells cs 115 (0,0)):=hB0;try simp only[nmz]
 refine wpD (qN 115 evZero (by rfl) zeroEvV (fun w2 hB1 hm2 hs2=>?_));replace hB0:=hm2.obj id hB0;replace hM:=hM.trans hm2 (fun _ _ h=>h);clear hm2;simp only[stz]
 go_upto_region 1 with(fail);refine wpR [3,1,1,3,1] ?_;simp only[stz];refine wpXd (v:=dv) 64 w.heap.size 2 ((CellsAt.whole hB0).cell cA.c2) underlying64 trivial ?_
 try simp only[nmz]
 refine wpDo rfl ?_;go_wp2_with (go_at_call 113;refine(copyInts_any own G _ _ _ (hd.keep hM (fun _ _=>id) (fun _ _ h=>h)) hok.1).mono ?_;rintro _ w3 ⟨dv',rfl,hm3,hd'⟩)
 replace hB0:=hm3.obj id hB0;replace hB1:=hm3.obj id hB1;replace hM:=hM.trans hm3 (fun _ _ h=>h);have hs3:=hm3.size;clear hm3;simp only[stz]
 refine wpD (qR 64 _ _ w.heap.size 2 dv' (by rfl) (by rfl) (by rfl) hd'.one (by kernel_rfl) _ _ hB0 (by rw[cA.size];omega) (fun w4 hB0' hm4=>?_));clear hB0
 replace hB1:=hm4.obj (show ¬w1.heap.size=w.heap.size by omega) hB1;replace hM:=hM.trans hm4 (fun k hk e=>by have:k=w.heap.size:=e;omega)
 replace hd':=hd'.keep hm4 (fun k hk e=>by have h1:k=w.heap.size:=e;have:=hk.1;omega) (fun _ _ h=>h);have hs4:=hm4.size;clear hm4;simp only[stz]
 rw[hca,evCells_set2,]at hB0';have cB:=zI e dv' rv hi;go_upto_region 2 with(fail)
 obtain⟨css,hall,hcsz,hsrc⟩:=(hr.keep hM (fun _ _=>id) (fun _ _ h=>h)).src (by omega);refine wpR [1,3,1,1,3,1] ?_;simp only[stz]
 refine wpD (xA 25 24 (by rfl) underlying25 (by kernel_rfl) (fun w5 hb hm5 hs5=>?_));replace hB0':=hm5.obj id hB0';replace hB1:=hm5.obj id hB1
 replace hM:=hM.trans hm5 (fun _ _ h=>h);replace hd':=hd'.keep hm5 (fun _ _=>id) (fun _ _ h=>h);simp only[stz]
 refine wpXd (v:=rv) 25 w.heap.size 38 ((CellsAt.whole hB0').cell cB.c38) underlying25 trivial ?_;try simp only[nmz]
 refine wpD (xJ _ _ 25 24 idInfoV 32 32 (by rfl) underlying25 infoIdV (by rfl) (by omega) w4.heap.size _ 0 [] (by rfl) (yN _ hb (Nat.le_refl _)) _ e.refs.length (css.flatMap Array.toList) (by rfl) (?_:Src w5 32 rv e.refs.length (css.flatMap Array.toList)) (all2_one hall fun _ _=>idC_one) (by have:=hok.2;unfold maxLen;omega) (by have:=hok.2;omega) (by omega) (fun rv' w6 hown hgrow _=>?_))
 ·obtain⟨h1,ad,c,h2,h3⟩:=hsrc
  refine⟨h1,ad,c,h2,fun hne=>?_⟩;obtain⟨b,off,h4,h5⟩:=h3 hne;exact⟨b,off,h4,fun j x hx=>hm5.cell id (h5 j x hx)⟩
 have hm6:Mod (fun k=>k=w4.heap.size) w5 w6:=(Mod.refl _ _).grown hgrow (fun k hk _=>by simp[Value.ownBlock]at hk;omega)
 replace hB0':=hm6.obj (show ¬w.heap.size=w4.heap.size by omega) hB0';replace hB1:=hm6.obj (show ¬w1.heap.size=w4.heap.size by omega) hB1
 replace hM:=hM.trans hm6 (fun k hk e=>by have h1:k=w4.heap.size:=e;omega)
 replace hd':=hd'.keep hm6 (fun k hk e=>by have h1:k=w4.heap.size:=e;have:=hk.2;omega) (fun _ _ h=>h)
 have hr':=(Sl.of_owns hown (by simp) hcsz hall (by simp)).mono (G':=New w4 w6) (fun k hk=>⟨hk.1,hk.2.1⟩) (fun _ _ h=>h);have hs6:=hm6.size;clear hm6 hgrow hown
 simp only[stz];refine wpD (qR 25 _ _ w.heap.size 38 rv' (by rfl) (by rfl) (by rfl) hr'.one (by kernel_rfl) _ _ hB0' (by rw[cB.size];omega) (fun w7 hB0 hm7=>?_))
 clear hB0';replace hB1:=hm7.obj (show ¬w1.heap.size=w.heap.size by omega) hB1;replace hM:=hM.trans hm7 (fun k hk e=>by have:k=w.heap.size:=e;omega)
 replace hd':=hd'.keep hm7 (fun k hk e=>by have h1:k=w.heap.size:=e;have:=hk.1;omega) (fun _ _ h=>h)
 replace hr':=hr'.keep hm7 (fun k hk e=>by have h1:k=w.heap.size:=e;have:=hk.1;omega) (fun _ _ h=>h);have hs7:=hm7.size;clear hm7;simp only[stz]
 rw[evCells_set38 _ _ _ _ hi]at hB0;have cC:=zI e dv' rv' hi;go_upto_region 3 with(fail);refine wpR [1,1] ?_;simp only[stz]
 refine wpXA 115 w.heap.size 0 _ (CellsAt.whole hB0) underlying115 39 cC.size trivial ?_;try simp only[nmz]
 refine wpD (qF 115 _ _ w1.heap.size 0 (xI e dv' rv') (by rfl) (by rfl) (by rfl) (evCells_one hd'.one hr'.one) 39 (by kernel_rfl) cC.size _ _ hB1 (by rw[cC.size];exact Nat.le_refl 39) (fun w8 hB1' hm8=>?_))
 rw[qD (by rw[cC.size];rfl)]at hB1';clear hB1;replace hM:=hM.trans hm8 (fun k hk e=>by have:k=w1.heap.size:=e;omega)
 replace hd':=hd'.keep hm8 (fun k hk e=>by have h1:k=w1.heap.size:=e;have:=hk.1;omega) (fun _ _ h=>h)
 replace hr':=hr'.keep hm8 (fun k hk e=>by have h1:k=w1.heap.size:=e;have:=hk.1;omega) (fun _ _ h=>h);have hs8:=hm8.size;clear hm8;simp only[stz];go_wp2
 refine bodyPost_ret (results_cell_row rfl _ _ w1.heap.size _ _ _ _ (by rfl) hB1' underlying115 rfl (by rw[cC.size];kernel_rfl)) rfl ?_
 refine⟨_,rfl,hM,_,rfl,dv',rv',rfl,hi,hd'.mono (fun k hk=>⟨?_,?_⟩) (fun _ _ h=>h),hr'.mono (fun k hk=>⟨?_,?_⟩) (fun _ _ h=>h),hsz⟩
 all_goals (have h1:=hk.1;have h2:=hk.2;omega)
def Inn(Z:Nat->Prop)(base:Nat)(v:Value)(w:World):Nat->Prop:=fun k=>base<=k/\k<w.heap.size/\v.ownBlock≠some k/\¬Z k
def EvGs(Z:Nat->Prop)(base:Nat)(w:World)(v:Value)(l:List Evt):Prop:=
 ∃css,w.ownsRow base 115 39 v l.length (css.flatMap Array.toList)/\(∀c∈css,c.size=39)/\All2 (EvR true w (Inn Z base v w)) css l
section
variable{Z:Nat->Prop}{base:Nat}{l:List Evt}{v:Value}{w w':World}
theorem EvGs.nil(Z:Nat->Prop)(base:Nat)(w:World):EvGs Z base w (.slice none 0 0) []:=⟨[],World.ownsRow_nil _ _ _ _,by simp,by simpa using All2.nil⟩
theorem EvGs.keep{S:Nat->Prop}(h:EvGs Z base w v l)(hm:Mod S w w')(hr:∀k,v.ownBlock=some k->¬S k)(hS:∀k,Inn Z base v w k->¬S k):EvGs Z base w' v l:=by
 obtain⟨css,h1,h2,h3⟩:=h;exact⟨css,zE h1 hm hr,h2,h3.imp fun _ _ h=>(h.keep hm hS).mono fun k hk=>⟨hk.1,Nat.lt_of_lt_of_le hk.2.1 hm.size,hk.2.2⟩⟩
theorem EvGs.keep0(h:EvGs Z base w v l)(hm:Mod NoB w w'):EvGs Z base w' v l:=h.keep hm (fun _ _=>id) (fun _ _=>id)
theorem EvGs.lt(h:EvGs Z base w v l){q:Nat}(hq:v.ownBlock=some q):base<=q/\q<w.heap.size:=by
 obtain⟨css,h1,-⟩:=h;exact h1.lt q hq
theorem EvGs.one(h:EvGs Z base w v l):v.oneCell'=true:=by
 obtain⟨css,h1,-⟩:=h;exact xW h1
theorem EvGs.sl(h:EvGs Z base w v l):Sl true w (fun k=>base<=k/\k<w.heap.size/\v.ownBlock=some k) 39 (EvR true w (Inn Z base v w)) v l:=by
 obtain⟨css,h1,h2,h3⟩:=h;exact Sl.of_owns h1 rfl h2 h3 rfl
theorem EvGs.slb(h:EvGs Z base w v l):Sl true w (fun k=>base<=k/\k<w.heap.size) 39 (EvR true w (fun k=>base<=k/\k<w.heap.size)) v l:=
 h.sl.mono (fun _ h=>⟨h.1,h.2.1⟩) (fun _ _ h=>h.mono fun _ h=>⟨h.1,h.2.1⟩)
theorem EvGs.based{b':Nat}(h:EvGs Z base w v l)(hb:b'<=base):EvGs Z b' w v l:=by
 obtain⟨css,h1,h2,h3⟩:=h;exact⟨css,jF h1 hb,h2,h3.imp fun _ _ h=>h.mono fun k hk=>⟨Nat.le_trans hb hk.1,hk.2⟩⟩
theorem wp_evs{o:Oper}{a:Act}{K:Act->World->Prop}{Q:Exit->Act->World->Prop}(s x:Operand)(ho:o.op=.call { callee:=.builtin .append,args:=#[s,x],argTypes:=#[72,72] })
 (hs:a.eval s=v)(hg:EvGs Z base w v l)(b:Nat)(cs:Array Value)(e:Evt)(hx:a.eval x=.slice (some ⟨b,0,none⟩) 1 1)(hb:w.heap[b]?=some (.cells cs 115 (0,0)))(hy:EvR true w (Inn Z base v w) cs e)
 (hlen:l.length<=1048576)(hbase:base<=w.heap.size)
 (h:∀v' w',EvGs Z base w' v' (l++[e])->(v'.ownBlock=v.ownBlock\/v'.ownBlock=some w.heap.size)->Mod (fun q=>v.ownBlock=some q) w w'->K (a.put o.dst v') w'):o.wp prog a w K Q:=by
 obtain⟨css,h1,h2,h3⟩:=hg
 refine xJ s x 72 115 evZero 39 136 ho underlying72 infoEvV (by rfl) (by omega) base v l.length (css.flatMap Array.toList) hs h1 _ 1 cs.toList hx
  (⟨by simp[hy.size],_,_,rfl,fun _=>⟨_,_,rfl,fun j x hx=>by rw[Nat.zero_add,cell_of_row w b _ _ _ _ hb];simpa using hx⟩⟩:Src w 39 _ 1 cs.toList)
  (fun c hc=>hy.one c (by simpa using hc)) (by unfold maxLen;omega) (by omega) hbase (fun v1 w3 hown hgrow hvv=>?_)
 have hm:Mod (fun k=>v.ownBlock=some k) w w3:=(Mod.refl _ _).grown hgrow (fun k hk _=>hk)
 have up:∀x y,EvR true w (Inn Z base v w) x y->EvR true w3 (Inn Z base v1 w3) x y:=fun x y h=>
  (h.keep hm (fun k hk=>hk.2.2.1)).mono fun k hk=>⟨hk.1,Nat.lt_of_lt_of_le hk.2.1 hm.size,by
   rcases hvv with hv|hv<;>rw[hv]
   ·exact hk.2.2.1
   ·have:=hk.2.1;intro e;cases e;omega,hk.2.2.2⟩
 refine h v1 w3 ⟨css++[cs],by simpa using hown,fun c hc'=>?_,(h3.imp up).snoc (up _ _ hy)⟩ hvv hm
 rcases List.mem_append.1 hc' with h|h
 ·exact h2 c h
 ·have:c=cs:=by simpa using h
  rw[this];exact hy.size
end
def dotEnc(d:Int×Int):List Value:=[.int .i64 d.1,.int .i64 d.2]
theorem dotEnc_len:∀d,(dotEnc d).length=2:=fun _=>rfl
theorem dotEnc_one:∀d,∀c∈dotEnc d,c.oneCell'=true:=by
 intro d c hc;simp only[dotEnc,List.mem_cons,List.not_mem_nil,or_false]at hc
 rcases hc with rfl|rfl<;>rfl
theorem dot_i:(prog.info? 113).map (fun i=>(i.zero,i.size,i.bytes))=some (some (.agg #[.int .i64 0,.int .i64 0]),2,16):=by kernel_rfl
abbrev DotGs(base:Nat)(w:World)(v:Value)(l:List (Int×Int)):Prop:=Gat dotEnc 113 2 base w v l
theorem DotGs.sl{base:Nat}{w:World}{v:Value}{l:List (Int×Int)}(h:DotGs base w v l):Sl true w (fun q=>base<=q/\q<w.heap.size/\v.ownBlock=some q) 2 DotC v l:=
 (Gat.sl h dotEnc_len).mono (fun _ h=>h) (fun _ _ h=>h)
theorem wp_dots{o:Oper}{a:Act}{w:World}{K:Act->World->Prop}{Q:Exit->Act->World->Prop}(s x:Operand)(ho:o.op=.call { callee:=.builtin .append,args:=#[s,x],argTypes:=#[116,116] })
 {base:Nat}{v:Value}{l:List (Int×Int)}(hs:a.eval s=v)(hg:DotGs base w v l)(b:Nat)(d:Int×Int)(hx:a.eval x=.slice (some ⟨b,0,none⟩) 1 1)(hb:w.heap[b]?=some (.cells (dotEnc d).toArray 113 (0,0)))
 (hlen:l.length<=1048576)(hbase:base<=w.heap.size)
 (h:∀v' w',DotGs base w' v' (l++[d])->(v'.ownBlock=v.ownBlock\/v'.ownBlock=some w.heap.size)->Mod (fun q=>v.ownBlock=some q) w w'->K (a.put o.dst v') w'):o.wp prog a w K Q:=by
 refine xJ s x 116 113 (.agg #[.int .i64 0,.int .i64 0]) 2 16 ho underlying116 dot_i (by rfl) (by omega) base v l.length _ hs hg _ 1 _ hx (src_lit dotEnc_len hb) (fun c hc=>?_) (by unfold maxLen;omega) (by omega) hbase (fun v' w' ho' hg hv=>?_)
 ·obtain⟨y,_,hy⟩:=List.mem_flatMap.1 hc
  exact dotEnc_one y c hy
 ·refine h v' w' ?_ hv ((Mod.refl _ _).grown hg (fun k e _=>e))
  show w'.ownsRow base 113 2 v' (l++[d]).length ((l++[d]).flatMap dotEnc)
  rw[List.length_append,List.flatMap_append];exact ho'
def HasRelR(w0:World)(l:List (List UInt8))(x:List UInt8)(i:Value)(w:World):Prop:=∃k:Nat,k<=l.length/\i=.int .i64 k/\(∀j (h:j<l.length),j<k->l[j]≠x)/\Mod NoB w0 w
theorem r27has_any{own:Bool}{G:Nat->Prop}{w:World}{v:Value}{l:List (List UInt8)}{x:List UInt8}(hl:Sl own w G 32 IdC v l)(hx:x.length=32):Calls prog 137 #[v,.agg (qA x)] w (RetM (.bool (decide (x∈l))) w):=by
 obtain⟨ad,cap,rfl,hlm,-⟩:=Sl.at hl;have hic:(qA x).size=32:=by rw[qB,hx]
 have HL:=hid hl;clear hl;obtain⟨r,hr⟩:∃r,decide (x∈l)=r:=⟨_,rfl⟩;have HR:=hid hr;rw[hr];clear hr;go_enter func137,ntmps137;go_upto_region 0 with(fail)
 refine wpR [1,3] ?_;simp only[stz];refine wpD (zL 24 _ _ (by rfl) (by rfl) (fun w1 hB1 hm1 hs1=>?_))
 replace hB1:w1.heap[w.heap.size]?=some (.cells (qA x) 24 (0,0)):=hB1;simp only[stz];have hl1:=HL.out.keep0 hm1
 have hc1:CellsAt w1 w.heap.size 0 (qA x):=CellsAt.whole hB1;have HL1:=hid hl1;have hm01:=hid hm1;generalize w.heap.size=b0 at*;clear hl1 hB1 hs1 hm1;go_wp2
 go_loopw [5] (HasRelR w1 l x) (fun i _=>l.length-(intOf i).toNat)
 case atStart=>exact⟨0,Nat.zero_le _,rfl,fun j h hj=>absurd hj (Nat.not_lt_zero _),Mod.refl _ _⟩
 case round=>
  rename World=>wr
  obtain⟨k,hk,rfl,hall,hmr⟩:=hrel
  by_cases hlt:k<l.length
  ·have hz:(k:Int)<(l.length:Nat):=by omega
   obtain⟨_,_,hae,-,hat⟩:=(HL1.out.keep0 hmr).at;injection hae with hae1 hae2 hae3;subst hae1 hae3;obtain⟨b,off,rfl,-,-,hcc⟩:=hat k hlt
   obtain⟨cs,-,⟨rfl,hy32⟩,hcA⟩:=hcc k hlt;have hyi:(qA l[k]).size=32:=by rw[qB,hy32]
   have hcx:=hc1.keep hmr id
   by_cases heq:l[k]=x
   ·have HD:Hid (decide (l[k]=x)=true):=hid (decide_eq_true heq)
    have HRT:Hid (r=true):=hid (by rw[<-HR.out];exact decide_eq_true (heq▸List.getElem_mem hlt));clear hat hcc hae2 hall heq;go_upto_region 4 with(fail)
    have hS:Mod NoB wr wr.drew:=(Mod.refl _ _).drew;refine wpRZ [3,3,3,0,0,0] [] (fun w'=>Mod NoB wr w') hS ?_;simp only[stz];refine wpPI underlying25 32 hlt ?_
    simp only[nmz];refine qG rfl (fun w' hS=>zK 24 _ rfl _ _ rfl _ (hcA.keep hS id) _ underlying24 rfl 32 (by kernel_rfl) hyi) ?_;simp only[nmz]
    refine qG rfl (fun w' hS=>zK 24 _ rfl _ _ rfl _ (hcx.keep hS id) _ underlying24 rfl 32 (by kernel_rfl) hic) ?_;simp only[nmz]
    refine qG rfl (fun w' hS=>exec_eql_id _ _ _ _ rfl _ _ rfl rfl 32 5 underlying24 underlying5 (by kernel_rfl) (by kernel_rfl) hy32 hx true HD.out) ?_;simp only[stz]
    go_wp2;go_ret;exact⟨by rw[HRT.out];rfl,hm01.out.trans0 (hmr.trans0 hS)⟩
   ·have HD:Hid (decide (l[k]=x)=false):=hid (decide_eq_false heq)
    have HA:Hid (∀j (h:j<l.length),j<k+1->l[j]≠x):=hid (fun j h hj=>by
     rcases Nat.lt_or_ge j k with h1|h1
     ·exact hall j h h1
     ·have e:j=k:=by omega
      subst e;exact heq)
    clear hat hcc hae2 hall heq;go_upto_region 4 with(fail);have hS:Mod NoB wr wr.drew:=(Mod.refl _ _).drew;refine wpRZ [3,3,3,0,0,0] [] (fun w'=>Mod NoB wr w') hS ?_
    simp only[stz];refine wpPI underlying25 32 hlt ?_;simp only[nmz]
    refine qG rfl (fun w' hS=>zK 24 _ rfl _ _ rfl _ (hcA.keep hS id) _ underlying24 rfl 32 (by kernel_rfl) hyi) ?_;simp only[nmz]
    refine qG rfl (fun w' hS=>zK 24 _ rfl _ _ rfl _ (hcx.keep hS id) _ underlying24 rfl 32 (by kernel_rfl) hic) ?_;simp only[nmz]
    refine qG rfl (fun w' hS=>exec_eql_id _ _ _ _ rfl _ _ rfl rfl 32 5 underlying24 underlying5 (by kernel_rfl) (by kernel_rfl) hy32 hx false HD.out) ?_;simp only[stz]
    have HQ:Hid (HasRelR w1 l x (.int .i64 ((k+1:Nat):Int)) wr.drew):=hid ⟨k+1,by omega,rfl,HA.out,hmr.drew⟩;clear hS hmr hcA hcx;go_wp2
    go_roundw
    case rel=>exact HQ.out
    case measure=>simp[intOf];omega
  ·have hz:¬(k:Int)<(l.length:Nat):=by omega
   have HRF:Hid (r=false):=hid (by
    rw[<-HR.out];refine decide_eq_false fun h=>?_;obtain⟨j,hj,e⟩:=List.getElem_of_mem h
    exact hall j hj (by omega) e)
   clear hall;go_wp2;go_ret;exact⟨by rw[HRF.out];rfl,hm01.out.trans0 hmr⟩
end
section
open Go.RowKit Go.Shelf Go.Proofs.Tryz Go.Lib
theorem DsAt.small{w0 w:World}{q8 rq wd:Nat}{c:BlobL}{l:LinkL}{Ft:Nat->Prop}(h:DsAt w0 w q8 rq wd c l Ft):(∀p∈c,p.1.length=32/\p.2.length<=4096)/\c.length<=10000/\l.length<=65536:=by
 obtain⟨r,R,RL,h1,rfl,h3,_⟩:=h;refine⟨fun p hp=>?_,by rw[contR_len];exact h1.few,h3.few⟩;obtain⟨x,hx,rfl⟩:=List.mem_map.1 hp;exact⟨h1.ids x hx,h1.sz x hx⟩
theorem goneL_snoc(ids marks:List (List UInt8))(n:Nat)(hn:n<ids.length):goneL (ids.take (n+1)) marks=goneL (ids.take n) marks++if ids[n]∈marks then []else [ids[n]]:=by
 unfold goneL;rw[List.take_succ_eq_append_getElem hn,List.filter_append]
 by_cases h:ids[n]∈marks<;>simp[h]
theorem forgetN_le(l:LinkL)(x:List UInt8):xQ l x<=l.length:=List.length_filter_le _ _
def RswRel(W0 w3:World)(q8 rq wd:Nat)(c:BlobL)(l:LinkL)(Ft:Nat->Prop)(ids marks:List (List UInt8))(b7:Nat)(i:Value)(w:World):Prop:=∃n:Nat,n<=ids.length/\i=.int .i64 n/\∃s bv cN lN F,swRun (goneL (ids.take n) marks) c l=s/\DsAt W0 w q8 rq wd cN lN F/\Ref8 cN s.1/\RefOf lN s.2.1/\
 Mod (fun k=>Ft k\/k=b7) w3 w/\(∀k,F k->Ft k\/New w3 w k)/\w.heap[b7]?=some (.cells (qM bv s.2.2.1 s.2.2.2) 104 (0,0))/\GatI w3.heap.size w bv (goneL (ids.take n) marks)/\(∀q,bv.ownBlock=some q->¬F q)/\s.2.2.1<=n*4096/\s.2.2.2<=n*65536
def RswR(W0 w:World)(q8 rq wd:Nat)(c:BlobL)(l:LinkL)(Ft:Nat->Prop)(ids marks:List (List UInt8)):Ending->World->Prop:=fun e w'=>∃s bv cN lN F,swRun (goneL ids marks) c l=s/\e=.returned (.agg (qM bv s.2.2.1 s.2.2.2))/\DsAt W0 w' q8 rq wd cN lN F/\Ref8 cN s.1/\RefOf lN s.2.1/\
 Mod Ft w w'/\(∀k,F k->Ft k\/New w w' k)/\GatI w.heap.size w' bv (goneL ids marks)/\∀q,bv.ownBlock=some q->¬F q
theorem r27Sweep_any{W0 w:World}{q8 rq wd:Nat}{cR c:BlobL}{lR l:LinkL}{Ft:Nat->Prop}(H:DsAt W0 w q8 rq wd cR lR Ft)(h8:Ref8 cR c)(hl:RefOf lR l)(hfew:cR.length<=1000){own:Bool}{G:Nat->Prop}{v:Value}{marks:List (List UInt8)}(hv:Sl own w G 32 IdC v marks)(hG:∀k,G k->¬Ft k/\k<w.heap.size):
 Calls prog 63 #[ptrB q8,ptrB rq,v] w (RswR W0 w q8 rq wd c l Ft (cR.map (·.1)) marks):=by
 obtain⟨vad,vcap,rfl,-,-⟩:=Sl.at hv;have HH:=hid H;have HV:=hid hv
 have hi32:∀x∈cR.map (·.1),x.length=32:=fun x hx=>by
  obtain⟨p,hp,rfl⟩:=List.mem_map.1 hx;exact(H.small.1 p hp).1
 have hlen:(cR.map (·.1)).length<=1000:=by rw[List.length_map];exact hfew
 have hlt:=H.lt;have hidF:=H.ids;clear H hv;go_enter func63,ntmps63;go_upto_region 0 with(fail);refine wpR [1] ?_;simp only[stz]
 refine wpD (qN 104 _ (by rfl) sweptZ (fun w1 hB1 hm1 hs1=>?_))
 replace hB1:w1.heap[w.heap.size]?=some (.cells #[.slice none 0 0,.int .i64 0,.int .i64 0] 104 (0,0)):=hB1;simp only[stz];go_upto_region 1 with(fail);refine wpR [1] ?_
 simp only[stz];refine wpD (qN 104 _ (by rfl) sweptZ (fun w2 hB2 hm2 hs2=>?_))
 replace hB2:w2.heap[w1.heap.size]?=some (.cells #[.slice none 0 0,.int .i64 0,.int .i64 0] 104 (0,0)):=hB2;simp only[stz];have hids:=(HH.out.keep0 (hm1.trans0 hm2)).ids
 have l6:w.heap.size<w1.heap.size:=hs1;have l7:w1.heap.size<w2.heap.size:=hs2;have hB62:=hm2.obj id hB1;generalize hb6:w.heap.size=b6 at*
 generalize hb7:w1.heap.size=b7 at*;go_upto_region 2 with(fail);refine wpR [3,1,3] ?_;simp only[stz];refine wpD (wpC func64 (hids) ?_);rintro e w3 ⟨hm3,v8,he3,hg3⟩
 subst he3;refine⟨_,rfl,?_⟩;simp only[stz];have hm02:=hm1.trans0 hm2;have hm03:=hm02.trans0 hm3;have H3:=HH.out.keep0 hm03;have hB63:=hm3.obj id hB62
 have hB73:=hm3.obj id hB2;have s23:=hm3.size;obtain⟨iad,icap,rfl⟩:=hg3.slice;have hF6:¬Ft b6:=fun e=>by have:=(hlt _ e).2;omega
 have hF7:¬Ft b7:=fun e=>by have:=(hlt _ e).2;omega
 have hgB:∀q,(Value.slice iad (cR.map (·.1)).length icap).ownBlock=some q->w2.heap.size<=q/\q<w3.heap.size:=fun q hq=>Gat.lt hg3 hq
 have HR0:Hid (RswRel W0 w3 q8 rq wd c l Ft (cR.map (·.1)) marks b7 (.int .i64 (0:Nat)) w3):=hid ⟨0,Nat.zero_le _,rfl,(c,l,0,0),.slice none 0 0,cR,lR,Ft,rfl,H3,h8,hl,Mod.refl _ _,fun k hk=>.inl hk,hB73,Gat.nil _ _ _ _ _,fun q hq=>(nomatch hq),Nat.le_refl _,Nat.le_refl _⟩
 generalize hids':cR.map (·.1)=ids at*;have HIDS:=hid hids';have HI:=hid hi32;have HG3:=hid hg3;have HGB:=hid hgB;have HM03:=hid hm03;have HGm:=hid hG
 have HLT:=hid hlt;clear hm1 hm2 hm3 hm02 hm03 hB1 hB2 hB62 hB73 hs1 hs2 hids hidF H3 hg3 hgB hi32 hids' hG hlt;go_wp2
 go_loopw [9] (RswRel W0 w3 q8 rq wd c l Ft ids marks b7) (fun i _=>ids.length-(intOf i).toNat)
 case atStart=>exact HR0.out
 case round=>
  rename World=>wr
  obtain⟨n,hn,rfl,s,bv,cN,lN,F,hrun,hat,h8n,hln,hmr,hsub,hbox,hrow,hbF,hb1,hn1⟩:=hrel
  have hFw:∀k,F k->k<w3.heap.size->Ft k:=fun k hk hlt=>(hsub k hk).resolve_right (fun h=>by have:=h.1;omega)
  by_cases hlt:n<ids.length
  ·have hz:(n:Int)<(ids.length:Nat):=by omega
   obtain⟨g,cp,cur,hve,hgo,hcA,-⟩:=Gat.at HG3.out jM n hlt;injection hve with hv1 hv2 hv3;subst hv1;have hg23:=HGB.out g rfl
   have hgF:¬Ft g:=fun e=>by have h1:=(HLT.out _ e).2;have h2:=HM03.out.size;have:=hg23.1;omega
   have hx32:=HI.out _ (List.getElem_mem hlt);rw[idE_eq hx32]at hcA;have hgs:=goneL_snoc ids marks n hlt;generalize ids[n]=x at*
   have hic:(qA x).size=32:=by rw[qB,hx32]
   have hcr:=hcA.keep hmr (fun e=>e.elim hgF (fun e=>by have:=hg23.1;omega))
   have hhas:=r27has_any ((HV.out.keep0 HM03.out).keep hmr (fun k hk e=>e.elim (HGm.out k hk).1 (fun e=>by have:=(HGm.out k hk).2;omega)) (fun _ _ h=>h)) hx32
   have HGS:=hid hgs;have HRUN:=hid hrun;clear hgs hgo hcA hrun
   by_cases hmk:x∈marks
   ·rw[decide_eq_true hmk]at hhas
    have hgs2:=HGS.out;rw[if_pos hmk,List.append_nil]at hgs2;have HGS2:=hid hgs2;clear hgs2;go_upto_region 6 with(fail);refine wpR [3,3,3,3,1,1] ?_;simp only[stz]
    refine wpPI underlying25 32 hlt ?_;simp only[nmz];refine wpXA 24 g (n*32) (qA x) hcr underlying24 32 hic trivial ?_;try simp only[nmz]
    refine wpD (wpCM func137 (hhas) fun w4 hm4=>?_);simp only[stz]
    have HR:Hid (RswRel W0 w3 q8 rq wd c l Ft ids marks b7 (.int .i64 ((n+1:Nat):Int)) w4):=hid ⟨n+1,by omega,rfl,s,bv,cN,lN,F,by rw[HGS2.out];exact HRUN.out,hat.keep0 hm4,h8n,hln,hmr.trans hm4 (fun _ _ h=>h.elim),fun k hk=>(hsub k hk).imp id (fun h=>⟨h.1,Nat.lt_of_lt_of_le h.2 hm4.size⟩),hm4.obj id hbox,by rw[HGS2.out];exact hrow.keep0 hm4,hbF,Nat.le_trans hb1 (Nat.mul_le_mul_right _ (Nat.le_succ n)),Nat.le_trans hn1 (Nat.mul_le_mul_right _ (Nat.le_succ n))⟩
    clear hat h8n hln hmr hsub hbox hrow hbF hb1 hn1 hhas hcr hm4 hFw;go_wp2
    go_roundw
    case rel=>exact HR.out
    case measure=>simp[intOf];omega
   ·rw[decide_eq_false hmk]at hhas
    have hgs2:=HGS.out;rw[if_neg hmk]at hgs2;have HGS2:=hid hgs2;clear hgs2;go_upto_region 6 with(fail);refine wpR [3,3,3,3,1,1] ?_;simp only[stz]
    refine wpPI underlying25 32 hlt ?_;simp only[nmz];refine wpXA 24 g (n*32) (qA x) hcr underlying24 32 hic trivial ?_;try simp only[nmz]
    refine wpD (wpCM func137 (hhas) fun w4 hm4=>?_);simp only[stz];have hat4:=hat.keep0 hm4;have hcr4:=hcr.keep hm4 id;have hbox4:=hm4.obj id hbox
    have hrow4:=hrow.keep0 hm4;have hsz:=hat4.size h8n.sorted hx32;unfold R8SizeR at hsz;rw[h8n.get x]at hsz
    obtain⟨m,hm⟩:∃m,((getL x s.1).getD []).length=m:=⟨_,rfl⟩;obtain⟨mo,hmo⟩:∃mo,(getL x s.1).isSome=mo:=⟨_,rfl⟩
    have hm4096:m<=4096:=by
     rw[<-hm,<-h8n.get x]
     cases hgx:getL x cN with
     |none=>simp
     |some b=>exact(hat4.small.1 _ (yC hgx)).2
    rw[hm,hmo]at hsz;have HMM:=hid hm;have hF7n:¬F b7:=fun e=>hF7 (hFw b7 e (by omega));have hgFn:¬F g:=fun e=>hgF (hFw g e hg23.2);have sr3:=hmr.size
    clear hm hmo hat hbox hrow hcr hhas;go_upto_region 7 with(fail);refine wpR [3,3,3,3,1,1,3,3,3,3,3] ?_;simp only[stz];refine wpPI underlying25 32 hlt ?_
    simp only[nmz];refine wpXA 24 g (n*32) (qA x) hcr4 underlying24 32 hic trivial ?_;try simp only[nmz]
    refine wpD (wpCM func138 (hsz) fun w5 hm5=>?_);simp only[stz]
    refine qC rfl (fun w'=>qJ _ 0 #[.int .i64 (m:Nat),.bool mo] rfl rfl (.int .i64 (m:Nat)) rfl) ?_;simp only[nmz]
    refine qC rfl (fun w'=>qJ _ 1 #[.int .i64 (m:Nat),.bool mo] rfl rfl (.bool mo) rfl) ?_;simp only[stz];have hat5:=hat4.keep0 hm5
    have hcr5:=hcr4.keep hm5 id;have hbox5:=hm5.obj id hbox4;have hrow5:=hrow4.keep0 hm5;have hdr:=hat5.drop h8n.sorted hx32
    have hmr5:=(hmr.trans hm4 (fun _ _ h=>h.elim)).trans hm5 (fun _ _ h=>h.elim);have s45:=hm4.size;have s55:=hm5.size;clear hsz hat4 hcr4 hbox4 hrow4 hm4 hm5 hmr
    go_upto_region 8 with(fail);refine wpR [3,3,3,3,1,1] ?_;simp only[stz];refine wpPI underlying25 32 hlt ?_;simp only[nmz]
    refine wpXA 24 g (n*32) (qA x) hcr5 underlying24 32 hic trivial ?_;try simp only[nmz]
    refine wpD (wpC func139 (hdr) ?_);rintro e w6 ⟨rfl,F6,hat6,hm6,hs6⟩;refine⟨_,rfl,?_⟩;simp only[stz]
    have hbw:∀q,bv.ownBlock=some q->w3.heap.size<=q/\q<w5.heap.size:=fun q hq=>Gat.lt hrow5 hq;have hcr6:=hcr5.keep hm6 hgFn;have hbox6:=hm6.obj hF7n hbox5
    have hrow6:=hrow5.keep hm6 hbF;have h86:=h8n.del x;have hsub6:∀k,F6 k->F k\/New w5 w6 k:=hs6;have hb76:w.heap.size<=b6:=by omega
    have hF76:¬F6 b7:=fun e=>(hs6 b7 e).elim hF7n (fun h=>by have:=h.1;omega)
    have hgF6:¬F6 g:=fun e=>(hs6 g e).elim hgFn (fun h=>by have:=h.1;have:=hg23.2;omega)
    have hbF6:∀q,bv.ownBlock=some q->¬F6 q:=fun q hq e=>(hs6 q e).elim (hbF q hq) (fun h=>by have:=h.1;have:=(hbw q hq).2;omega)
    have hmr6:Mod (fun k=>Ft k\/k=b7) w3 w6:=hmr5.trans hm6 (fun k hk e=>.inl (hFw k e hk))
    have hc0:w6.cell? ⟨b7,0,none⟩=some bv:=by rw[cell_of_row _ _ _ _ _ _ hbox6];rfl
    have s56:=hm6.size;have hlt6:=hat6.lt
    have hglen:(goneL (ids.take n) marks).length<=1000:=by
     have h1:(goneL (ids.take n) marks).length<=(ids.take n).length:=List.length_filter_le _ _;rw[List.length_take]at h1;omega
    generalize hgn:goneL (ids.take n) marks=gn at*;obtain⟨bad,bcap,rfl⟩:=hrow6.slice
    have hbne:¬(Value.slice bad gn.length bcap).ownBlock=some b7:=fun e=>by have:=(hbw b7 e).1;omega
    have hgne:¬(Value.slice bad gn.length bcap).ownBlock=some g:=fun e=>by have:=(hbw g e).1;have:=hg23.2;omega
    clear hdr hat5 hcr5 hbox5 hrow5 hm6 hmr5 hs6 hgn;go_upto_region 9 with(fail)
    have hS:w6.drew.cell? ⟨b7,0,none⟩=some (.slice bad gn.length bcap)/\CellsAt w6.drew g (n*32) (qA x):=⟨hc0,hcr6⟩
    have hT:Mod NoB w6 w6.drew:=(Mod.refl _ _).drew
    refine wpRZ [3,0,3,3,3,0,1,1,3,2] [9] (fun w'=>w'.cell? ⟨b7,0,none⟩=some (.slice bad gn.length bcap)/\CellsAt w' g (n*32) (qA x)) hS ?_;simp only[stz]
    refine wpLd 25 b7 0 (fun w' hS=>hS.1) underlying25 ?_;simp only[stz];refine wpPI underlying25 32 hlt ?_;simp only[nmz]
    refine wpLA 24 g (n*32) (qA x) (fun w' hS=>hS.2) underlying24 32 hic ?_;simp only[nmz];refine qL rfl (fun K hK=>?_)
    refine qQ 25 24 _ (.agg (qA x)) (.agg (qA (List.replicate 32 0))) 32 (by rfl) (by rfl) underlying25 (by kernel_rfl) (by omega) (by omega) hic (fun w7 hB7 hm7 hs7=>?_)
    have hsrc:=src_lit (enc:=idE) (e:=24) (x:=x) jM (by rw[idE_eq hx32];exact hB7);have hT7:=hT.trans0 hm7
    replace hS:=And.intro (hm7.cell id hS.1) (hS.2.keep hm7 id);refine hK _ _ hS ?_;clear hK K;try simp only[nmz]
    refine qL rfl (fun K hK=>?_)
    refine wp_gatV idE _ _ 25 24 (.agg (qA (List.replicate 32 0))) 32 32 (by rfl) underlying25 id_i (by kernel_rfl) (by omega) idE_one w3.heap.size _ gn (by rfl) (hrow6.keep0 hT7) _ [x] (by rfl) hsrc (by unfold maxLen;simp;omega) (by simp;omega) (by have:=hT7.size;omega) (fun v8 w8 hg8 hm8 hvv8=>?_)
    have hbox8:=hm8.obj hbne (hT7.obj id hbox6);have hcr8:=(hcr6.keep hT7 id).keep hm8 hgne;replace hS:=And.intro (hm8.cell hbne hS.1) (hS.2.keep hm8 hgne)
    refine hK _ _ hS ?_;clear hK K;simp only[stz];refine zD rfl (fun K hK=>?_)
    refine qR 25 _ _ b7 0 v8 (by rfl) (by rfl) (by rfl) (xW hg8) (by kernel_rfl) _ _ hbox8 (by simp[qM]) (fun w9 hB9 hm9=>?_)
    replace hB9:w9.heap[b7]?=some (.cells (qM v8 s.2.2.1 s.2.2.2) 104 (0,0)):=hB9;refine hK _ _ ?_;clear hK K;simp only[stz]
    have hm89:Mod (fun k=>(Value.slice bad gn.length bcap).ownBlock=some k\/k=b7) w6 w9:=((hT7.mono (fun _ _ h=>h.elim)).trans hm8 (fun _ _ h=>.inl h)).trans hm9 (fun _ _ h=>.inr h)
    have hat9:DsAt W0 w9 q8 rq wd _ lN F6:=hat6.keep hm89 (fun k hk e=>e.elim (fun e=>hbF6 k e hk) (fun e=>hF76 (e▸hk))) (fun k hk e=>by
     have h0:=hat6.mod.size;have h1:=HH.out.mod.size
     rcases e with e|e
     ·have:=(hbw k e).1;omega
     ·omega)
    have hcr9:=hcr8.keep hm9 (fun e=>by have e:g=b7:=e;have:=hg23.1;omega)
    have hmr9:Mod (fun k=>Ft k\/k=b7) w3 w9:=hmr6.trans hm89 (fun k hk e=>e.elim (fun e=>by have:=(hbw k e).1;omega) .inr)
    have hg9:GatI w3.heap.size w9 v8 (gn++[x]):=hg8.keep hm9 (fun q hq e=>by have e:q=b7:=e;have:=(hg8.lt hq).1;omega)
    have hc1:w9.cell? ⟨b7,1,none⟩=some (.int .i64 (s.2.2.1:Nat)):=by rw[cell_of_row _ _ _ _ _ _ hB9];rfl
    have hc2:w9.cell? ⟨b7,2,none⟩=some (.int .i64 (s.2.2.2:Nat)):=by rw[cell_of_row _ _ _ _ _ _ hB9];rfl
    have hlb:s.2.2.1<=4096000:=Nat.le_trans hb1 (Nat.mul_le_mul_right 4096 (show n<=1000 by omega))
    have hln9:s.2.2.2<=65536000:=Nat.le_trans hn1 (Nat.mul_le_mul_right 65536 (show n<=1000 by omega));have hfo:=forgetN_le lN x;have hlN:=hat9.small.2.2
    have hbF9:∀q,v8.ownBlock=some q->w3.heap.size<=q/\q<w8.heap.size:=fun q hq=>Gat.lt hg8 hq
    have hv86:∀q,v8.ownBlock=some q->¬F6 q:=fun q hq e=>by
     rcases hvv8 with h|h
     ·exact hbF6 q (by rw[<-h];exact hq) e
     ·rw[h]at hq
      have e2:=Option.some.inj hq;have h1:=(hlt6 q e).2;have h2:=hT7.size;omega
    have s89:=hm9.size;have HS1:Hid (s.2.2.1+m=(swStep s x).2.2.1):=hid (by rw[<-HMM.out];rfl);obtain⟨z1,hz1⟩:∃z,s.2.2.1=z:=⟨_,rfl⟩
    obtain⟨z2,hz2⟩:∃z,s.2.2.2=z:=⟨_,rfl⟩;rw[hz1]at hB9 hc1 hlb HS1 hb1;rw[hz2]at hB9 hc2 hln9 hn1;have HZ2:=hid hz2
    clear hz1 hz2 hS hT hT7 hm7 hm8 hm9 hB7 hsrc hbox8 hcr8 hc0 hcr6 hbox6 hrow6 hmr6 hat6 hg8;go_upto_region 10 with(fail);refine wpR [3,1,3,3,3,1] ?_;simp only[stz]
    refine wpXd (v:=(.int .i64 (z1:Nat))) 3 b7 1 hc1 underlying3 trivial ?_;simp only[stz]
    refine zF _ _ _ _ (z1:Int) (m:Int) ((z1+m:Nat):Int) rfl rfl rfl rfl (by omega) (by omega) (by omega) ?_;simp only[stz]
    refine wpD (qR 3 _ _ b7 1 (.int .i64 ((z1+m:Nat):Int)) (by rfl) (by rfl) (by rfl) rfl (by kernel_rfl) _ _ hB9 (by simp[qM]) (fun wa hBa hma=>?_))
    replace hBa:wa.heap[b7]?=some (.cells (qM v8 (z1+m) z2) 104 (0,0)):=hBa;simp only[stz]
    have hata:=hat9.keep hma (fun k hk e=>hF76 (by rw[<-show k=b7 from e];exact hk)) (fun k hk e=>by have e:k=b7:=e;have h1:=HH.out.mod.size;omega)
    have hcra:=hcr9.keep hma (fun e=>by have e:g=b7:=e;have:=hg23.1;omega);have hmra:Mod (fun k=>Ft k\/k=b7) w3 wa:=hmr9.trans hma (fun _ _ h=>.inr h)
    have hga:GatI w3.heap.size wa v8 (gn++[x]):=hg9.keep hma (fun q hq e=>by have e:q=b7:=e;have:=(hbF9 q hq).1;omega)
    have hca2:wa.cell? ⟨b7,2,none⟩=some (.int .i64 (z2:Nat)):=by rw[cell_of_row _ _ _ _ _ _ hBa];rfl
    have hfg:=fun w' (hm':Mod NoB wa w')=>(hata.keep0 hm').forget hx32;have s9a:=hma.size;have s69:=hm89.size;clear hat9 hcr9 hmr9 hg9 hma hB9 hc1 hc2 hm89
    go_upto_region 11 with(fail);have hS:wa.drew.cell? ⟨b7,2,none⟩=some (.int .i64 (z2:Nat))/\CellsAt wa.drew g (n*32) (qA x):=⟨hca2,hcra⟩
    have hTd:Mod NoB wa wa.drew:=(Mod.refl _ _).drew
    refine wpRZ [3,0,3,3,3,3,0,1,3,3,2] [10] (fun w'=>w'.cell? ⟨b7,2,none⟩=some (.int .i64 (z2:Nat))/\CellsAt w' g (n*32) (qA x)) hS ?_;simp only[stz]
    refine wpLd 3 b7 2 (fun w' hS=>hS.1) underlying3 ?_;simp only[stz];refine wpPI underlying25 32 hlt ?_;simp only[nmz]
    refine wpLA 24 g (n*32) (qA x) (fun w' hS=>hS.2) underlying24 32 hic ?_;simp only[nmz];refine qL rfl (fun K hK=>?_);refine wpC func140 (hfg _ hTd) ?_
    rintro e wb ⟨rfl,Fb,hatb,hmb,hsb⟩;have hBb:=hmb.obj hF76 (hTd.obj id hBa);replace hS:=And.intro (hmb.cell hF76 hS.1) (hS.2.keep hmb hgF6);refine⟨_,rfl,hK _ _ hS ?_⟩
    clear hK K;try simp only[nmz]
    refine zF _ _ _ _ (z2:Int) ((xQ lN x:Nat):Int) ((z2+xQ lN x:Nat):Int) rfl rfl rfl rfl (by omega) (by omega) (by omega) ?_;simp only[stz]
    refine zD rfl (fun K hK=>?_)
    refine qR 3 _ _ b7 2 (.int .i64 ((z2+xQ lN x:Nat):Int)) (by rfl) (by rfl) (by rfl) rfl (by kernel_rfl) _ _ hBb (by simp[qM]) (fun wc hBc hmc=>?_)
    replace hBc:wc.heap[b7]?=some (.cells (qM v8 (z1+m) (z2+xQ lN x)) 104 (0,0)):=hBc;refine hK _ _ ?_;clear hK K;simp only[stz]
    have hFb7:¬Fb b7:=fun e=>(hsb b7 e).elim hF76 (fun h=>by have h1:=h.1;have h2:wa.drew.heap.size=wa.heap.size:=rfl;omega)
    have hatc:=hatb.keep hmc (fun k hk e=>hFb7 (by rw[<-show k=b7 from e];exact hk)) (fun k hk e=>by have e:k=b7:=e;have h1:=HH.out.mod.size;omega)
    have hmrc:Mod (fun k=>Ft k\/k=b7) w3 wc:=((hmra.trans hTd (fun _ _ h=>h.elim)).trans hmb (fun k hk e=>(hsub6 k e).elim (fun e=>.inl (hFw k e hk)) (fun h=>by have:=h.1;omega))).trans hmc (fun _ _ h=>.inr h)
    have hgb:GatI w3.heap.size wc v8 (gn++[x]):=((hga.keep0 hTd).keep hmb (fun q hq e=>hv86 q hq e)).keep hmc (fun q hq e=>by have e:q=b7:=e;have:=(hbF9 q hq).1;omega)
    have sbc:=hmb.size;have scc:=hmc.size;have hsd:wa.drew.heap.size=wa.heap.size:=rfl
    have HR:Hid (RswRel W0 w3 q8 rq wd c l Ft ids marks b7 (.int .i64 ((n+1:Nat):Int)) wc):=hid ⟨n+1,by omega,rfl,swStep s x,v8,_,_,Fb,by rw[HGS2.out,swRun_snoc,HRUN.out],hatc,h86,(hln.forget x).1,hmrc,fun k hk=>?fsub,by rw[<-HS1.out];rw[show(swStep s x).2.2.2=z2+xQ lN x by show s.2.2.2+xQ s.2.1 x=_;rw[HZ2.out,(hln.forget x).2]];exact hBc,by rw[HGS2.out];exact hgb,fun q hq e=>?fown,by rw[<-HS1.out];omega,by rw[show(swStep s x).2.2.2=z2+xQ lN x by show s.2.2.2+xQ s.2.1 x=_;rw[HZ2.out,(hln.forget x).2]];omega⟩
    case fsub=>
     rcases hsb k hk with h|h
     ·rcases hsub6 k h with h|h
      ·rcases hsub k h with h|h
       ·exact .inl h
       ·exact .inr ⟨h.1,by have:=h.2;omega⟩
      ·exact .inr ⟨by have:=h.1;omega,by have:=h.2;omega⟩
     ·exact .inr ⟨by have:=h.1;omega,by have:=h.2;omega⟩
    case fown=>
     rcases hsb q e with h|h
     ·exact hv86 q hq h
     ·have:=h.1;have:=(hbF9 q hq).2;omega
    clear hS hTd hmb hmc hatb hatc hmrc hgb hga hata hcra hmra hBa hBb hBc hca2 hfg h86 hln hsb;go_wp2
    go_roundw
    case rel=>exact HR.out
    case measure=>simp[intOf];omega
  ·have hz:¬(n:Int)<(ids.length:Nat):=by omega
   obtain rfl:n=ids.length:=by omega
   rw[List.take_length]at hrun hrow;have hB6r:=hmr.obj (fun e=>e.elim hF6 (fun e=>by omega)) hB63
   have hbw:∀q,bv.ownBlock=some q->w3.heap.size<=q/\q<wr.heap.size:=fun q hq=>Gat.lt hrow hq
   have hone:∀c∈qM bv s.2.2.1 s.2.2.2,c.oneCell'=true:=by
    intro c hc;simp[qM]at hc;rcases hc with rfl|rfl|rfl<;>first|rfl|exact xW hrow
   have hcb:CellsAt wr b7 0 (qM bv s.2.2.1 s.2.2.2):=CellsAt.whole hbox;have hF6n:¬F b6:=fun e=>hF6 (hFw b6 e (by omega));have s03:=HM03.out.size
   have sr3:=hmr.size;have hW0:=HH.out.mod.size;have hb6w:w.heap.size<=b6:=by omega
   have HRUN:=hid hrun;clear hrun;go_upto_region 12 with(fail);refine wpR [1,1] ?_;simp only[stz]
   refine wpXA 104 b7 0 (qM bv s.2.2.1 s.2.2.2) hcb underlying104 3 rfl trivial ?_;try simp only[nmz]
   refine wpD (qF 104 _ _ b6 0 (qM bv s.2.2.1 s.2.2.2) (by rfl) (by rfl) (by rfl) hone 3 (by kernel_rfl) rfl _ _ hB6r (by simp[qM]) (fun w4 hB4 hm4=>?_))
   rw[qD (by simp[qM])]at hB4;simp only[stz]
   have hat4:=hat.keep hm4 (fun k hk e=>hF6n (by rw[<-show k=b6 from e];exact hk)) (fun k hk e=>by have e:k=b6:=e;omega)
   have hmf:Mod Ft w w4:=((HM03.out.mono (S':=Ft) (fun _ _ h=>h.elim)).trans hmr (fun k hk e=>e.elim id (fun e=>by omega))).trans hm4 (fun k hk e=>by have e:k=b6:=e;omega)
   have s4:=hm4.size
   have HF:Hid (RswR W0 w q8 rq wd c l Ft ids marks (.returned (.agg (qM bv s.2.2.1 s.2.2.2))) w4):=hid ⟨s,bv,cN,lN,F,HRUN.out,rfl,hat4,h8n,hln,hmf,fun k hk=>(hsub k hk).imp id (fun h=>⟨by have:=h.1;omega,by have:=h.2;omega⟩),(hrow.keep hm4 (fun q hq e=>by have e:q=b6:=e;have:=(hbw q hq).1;omega)).base (by omega),hbF⟩
   clear hat hmr hsub hbox hrow hcb hB6r hat4 hmf hm4 h8n hln hbF;go_wp2
   refine bodyPost_ret (results_row1 (P:=prog) (ty:=104) rfl _ _ b6 _ _ _ _ (by rfl) hB4 underlying104 rfl (by kernel_rfl)) rfl ?_;rw[HIDS.out];exact HF.out
end
section
open Go.Proofs.Tryz Go.Lib
def atV(v:List Int)(r:Int):Int:=if r<1\/(v.length:Int)<r then 0 else max (v.getD (r-1).toNat 0) 0
def hasV(v:List Int)(r n:Int):Bool:=decide (1<=r/\1<=n/\n<=atV v r)
theorem atV_out{v:List Int}{r:Int}(h:(v.length:Int)<r):atV v r=0:=by
 unfold atV;rw[if_pos (.inr h)]
def keptE(v:List Int)(l:List Evt):List Evt:=l.filter fun e=> !hasV v e.r e.n
def goneE(v:List Int)(l:List Evt):List (Int×Int):=(l.filter fun e=>hasV v e.r e.n).map fun e=>(e.r,e.n)
theorem keptE_snoc(v:List Int)(l:List Evt)(e:Evt):keptE v (l++[e])=keptE v l++(if hasV v e.r e.n then []else [e]):=by
 unfold keptE;rw[List.filter_append]
 cases h:hasV v e.r e.n<;>simp[h]
theorem goneE_snoc(v:List Int)(l:List Evt)(e:Evt):goneE v (l++[e])=goneE v l++(if hasV v e.r e.n then [(e.r,e.n)]else []):=by
 unfold goneE;rw[List.filter_append,List.map_append]
 cases h:hasV v e.r e.n<;>simp[h]
end
end Go.Proofs.YtjeonjoifjbohaaGreat
