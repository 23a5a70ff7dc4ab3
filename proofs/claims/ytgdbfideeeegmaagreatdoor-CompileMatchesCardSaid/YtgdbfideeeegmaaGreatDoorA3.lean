/- Contracts of functions; conditions: those each theorem names. -/
import Derived.Laws.StructEq
import Derived.Test.YtgdbfideeeegmaaGreatDoorRows
import Derived.Test.YtgdbfideeeegmaaGreatDoorA2
set_option linter.unusedSectionVars false
set_option linter.unusedSimpArgs false
set_option linter.unusedVariables false
set_option linter.unnecessarySimpa false
set_option maxHeartbeats 8000000
set_option maxRecDepth 20000
namespace Go.Lx
open Go.RowKit
def Rx.wf:Rx→Bool
 | .iG a b| .iR a b=>a.wf&&b.wf
 | .ahead a| .behind a=>a.plain
 |t=>t.plain
def Rx.op:Rx→Nat
 | .none=>1| .empty=>2| .letter _ _=>3| .iG _ _=>4| .iR _ _=>5| .and _ _=>6| .not _=>7| .star _=>8| .ahead _=>9| .behind _=>10
def kU (ls:List Lf) (b x:List Nat):List Lf:=b.foldl (fun ls k=>ls.set k {lf ls k with fo:=(lf ls k).fo++x}) ls
structure BR where
 ls:List Lf
 fi:List Nat
 la:List Nat
noncomputable def eZ (v:Nat):Rx→Lf
 | .ahead a=>⟨9,minOf v (iV (fM a) fun _=>true),[],false⟩
 | .behind a=>⟨10,minOf v (iV (fun _=>true) (fM a)),[],false⟩
 |t=>⟨0,minOf v (fM t),[],false⟩
noncomputable def aM (v:Nat):Rx→List Lf→BR
 | .iG a b,ls=>⟨kU (aM v b (aM v a ls).ls).ls (aM v a ls).la (aM v b (aM v a ls).ls).fi,(aM v a ls).fi,(aM v b (aM v a ls).ls).la⟩
 | .iR a b,ls=>⟨(aM v b (aM v a ls).ls).ls,(aM v a ls).fi++(aM v b (aM v a ls).ls).fi,(aM v a ls).la++(aM v b (aM v a ls).ls).la⟩
 |t,ls=>⟨ls++[eZ v t],[ls.length],[ls.length]⟩
def okB (v:Nat):Rx→Nat→Prop
 | .iG a b,B=>okB v a B∧okB v b B
 | .iR a b,B=>okB v a B∧okB v b B
 | .ahead a,B=>kZ v a B∧Cy (minOf v (fM a)) (gg (v:Int) true) (eE (minOf v (fM a))) B
 | .behind a,B=>kZ v a B∧Cy (gg (v:Int) true) (minOf v (fM a)) (eE (gg (v:Int) true)) B
 |t,B=>kZ v t B
def Rx.lv:Rx→Nat
 | .iG a b| .iR a b=>a.lv+b.lv
 |_=>1
theorem sO: ∀(b x:List Nat) (ls:List Lf),(kU ls b x).length=ls.length
 | [],x,ls=>rfl
 |k::b,x,ls=>by
  show(kU (ls.set k _) b x).length=_
  rw[sO b x,eI]
theorem eC (v:Nat): ∀(t:Rx) (ls:List Lf),(aM v t ls).ls.length=ls.length+t.lv
 | .iG a b,ls=>by show(kU _ _ _).length=_;rw[sO,eC v b,eC v a,Nat.add_assoc];rfl
 | .iR a b,ls=>by show(aM v b _).ls.length=_;rw[eC v b,eC v a,Nat.add_assoc];rfl
 | .none,ls=>by simp[aM,Rx.lv]
 | .empty,ls=>by simp[aM,Rx.lv]
 | .letter p n,ls=>by simp[aM,Rx.lv]
 | .and a b,ls=>by simp[aM,Rx.lv]
 | .not a,ls=>by simp[aM,Rx.lv]
 | .star a,ls=>by simp[aM,Rx.lv]
 | .ahead a,ls=>by simp[aM,Rx.lv]
 | .behind a,ls=>by simp[aM,Rx.lv]
theorem gO (v:Nat): ∀(t:Rx) (ls:List Lf),(∀k∈(aM v t ls).fi,ls.length≤k∧k<ls.length+t.lv)∧(∀k∈(aM v t ls).la,ls.length≤k∧k<ls.length+t.lv)∧(aM v t ls).fi.length≤t.lv∧(aM v t ls).la.length≤t.lv
 | .iG a b,ls=>by
  obtain⟨h1,_,h3,_⟩:=gO v a ls
  obtain⟨_,h2,_,h4⟩:=gO v b (aM v a ls).ls
  rw[eC]at h2
  refine⟨fun k hk=>?_,fun k hk=>?_,?_,?_⟩
  ·have:=h1 k hk;show _∧k<ls.length+(a.lv+b.lv);omega
  ·have:=h2 k hk;show _∧k<ls.length+(a.lv+b.lv);omega
  ·show(aM v a ls).fi.length≤a.lv+b.lv;omega
  ·show(aM v b (aM v a ls).ls).la.length≤a.lv+b.lv;omega
 | .iR a b,ls=>by
  obtain⟨h1,h5,h3,h6⟩:=gO v a ls
  obtain⟨h7,h2,h8,h4⟩:=gO v b (aM v a ls).ls
  rw[eC]at h2 h7
  refine⟨fun k hk=>?_,fun k hk=>?_,?_,?_⟩
  ·show _∧k<ls.length+(a.lv+b.lv)
   rcases List.mem_append.1 hk with hk|hk
   ·have:=h1 k hk;omega
   ·have:=h7 k hk;omega
  ·show _∧k<ls.length+(a.lv+b.lv)
   rcases List.mem_append.1 hk with hk|hk
   ·have:=h5 k hk;omega
   ·have:=h2 k hk;omega
  ·show(_++_:List Nat).length≤a.lv+b.lv;rw[aJ];omega
  ·show(_++_:List Nat).length≤a.lv+b.lv;rw[aJ];omega
 | .none,ls=>by simp[aM,Rx.lv]
 | .empty,ls=>by simp[aM,Rx.lv]
 | .letter p n,ls=>by simp[aM,Rx.lv]
 | .and a b,ls=>by simp[aM,Rx.lv]
 | .not a,ls=>by simp[aM,Rx.lv]
 | .star a,ls=>by simp[aM,Rx.lv]
 | .ahead a,ls=>by simp[aM,Rx.lv]
 | .behind a,ls=>by simp[aM,Rx.lv]
def fB (ls:List Lf) (ks:List LK):List Rec:=(ls.zip ks).map fun p=>⟨p.2.b,p.2.c,p.1.fo.map fun y:Nat=>(y:Int)⟩
def ik (II Bo I:TypeId) (ls:List Lf) (ks:List LK):List Item:=(ls.zip ks).map fun p=>dI II Bo I p.1.d p.2.k
theorem KB {ls:List Lf} {ks:List LK} (h:ks.length=ls.length):(fB ls ks).length=ls.length:=by unfold fB;rw[ai,List.length_zip,h,Nat.min_self]
theorem OK {ls:List Lf} {ks:List LK} (h:ks.length=ls.length) {k:Nat} (hk:k<ls.length):(ls.zip ks)[k]? =some (lf ls k,lk ks k):=by
 rw[ak (by rw[List.length_zip];omega),List.getElem_zip,wj hk]
 show some (ls[k],ks[k]'_)=some (ls[k],ks.getD k default)
 rw[au,ak (by omega)];rfl
theorem EI {ls:List Lf} {ks:List LK} (h:ks.length=ls.length) {k:Nat} (hk:k<ls.length):(fB ls ks)[k]? =some ⟨(lk ks k).b,(lk ks k).c,(lf ls k).fo.map fun y:Nat=>(y:Int)⟩:=by
 unfold fB;rw[bl,OK h hk];rfl
theorem uc {ls:List Lf} {ks:List LK} (h:ks.length=ls.length) (l:Lf) (k:LK):fB (ls++[l]) (ks++[k])=fB ls ks++[⟨k.b,k.c,l.fo.map fun y:Nat=>(y:Int)⟩]:=by
 unfold fB;rw[List.zip_append h.symm,bm];rfl
theorem wl {II Bo I:TypeId} {ls:List Lf} {ks:List LK} (h:ks.length=ls.length) (l:Lf) (k:LK):ik II Bo I (ls++[l]) (ks++[k])=ik II Bo I ls ks++[dI II Bo I l.d k.k]:=by
 unfold ik;rw[List.zip_append h.symm,bm];rfl
theorem sd {ls:List Lf} {ks:List LK} (h:ks.length=ls.length) (l:Lf) (k:LK):dA (ls++[l]) (ks++[k])=dA ls ks++lK l k:=by
 unfold dA;rw[List.zip_append h.symm,List.flatMap_append];simp
theorem G8: ∀ {ls:List Lf} {ks:List LK} {k:Nat} (hk:ks.length=ls.length) (h:k<ls.length) (b':Option Addr) (c':Nat) (x:List Nat),
  dA (ls.set k {lf ls k with fo:=x}) (ks.set k {lk ks k with b:=b',c:=c'})=(dA ls ks).set (k*7+5) (.slice b' x.length c'):=by
 intro ls
 induction ls with
 |nil=>intro ks k _ h;simp at h
 |cons l ls ih=>
  intro ks k hk h b' c' x
  cases ks with
  |nil=>simp at hk
  |cons q ks=>
   cases k with
   |zero=>rfl
   |succ k=>
    show lK l q++dA (ls.set k {lf ls k with fo:=x}) (ks.set k {lk ks k with b:=b',c:=c'})=(lK l q++dA ls ks).set ((k+1)*7+5) _
    have h7:(lK l q).length=7:=rfl
    rw[ih (by simpa using hk) (by simpa using h),List.set_append_right _ _ (by rw[h7];omega),show(k+1)*7+5-(lK l q).length=k*7+5 by rw[h7];omega]
theorem KA: ∀ {ls:List Lf} {ks:List LK} {k:Nat} (hk:ks.length=ls.length) (h:k<ls.length) (b':Option Addr) (c':Nat) (x:List Nat),
  fB (ls.set k {lf ls k with fo:=x}) (ks.set k {lk ks k with b:=b',c:=c'})=(fB ls ks).set k ⟨b',c',x.map fun y:Nat=>(y:Int)⟩:=by
 intro ls
 induction ls with
 |nil=>intro ks k _ h;simp at h
 |cons l ls ih=>
  intro ks k hk h b' c' x
  cases ks with
  |nil=>simp at hk
  |cons q ks=>
   cases k with
   |zero=>rfl
   |succ k=>
    show(⟨q.b,q.c,_⟩:Rec)::fB (ls.set k {lf ls k with fo:=x}) (ks.set k {lk ks k with b:=b',c:=c'})=(_::fB ls ks).set (k+1) _
    rw[ih (by simpa using hk) (by simpa using h)];rfl
theorem Om {II Bo I:TypeId}: ∀ {ls:List Lf} {ks:List LK} {k:Nat} (hk:ks.length=ls.length) (h:k<ls.length) (b':Option Addr) (c':Nat) (x:List Nat),
  ik II Bo I (ls.set k {lf ls k with fo:=x}) (ks.set k {lk ks k with b:=b',c:=c'})=ik II Bo I ls ks:=by
 intro ls
 induction ls with
 |nil=>intro ks k _ h;simp at h
 |cons l ls ih=>
  intro ks k hk h b' c' x
  cases ks with
  |nil=>simp at hk
  |cons q ks=>
   cases k with
   |zero=>rfl
   |succ k=>
    show dI II Bo I l.d q.k::ik II Bo I (ls.set k {lf ls k with fo:=x}) (ks.set k {lk ks k with b:=b',c:=c'})=dI II Bo I l.d q.k::ik II Bo I ls ks
    rw[ih (by simpa using hk) (by simpa using h)]
theorem EL: ∀ {ls:List Lf} {ks:List LK} {k:Nat} (hk:ks.length=ls.length) (h:k<ls.length),
  dA (ls.set k {lf ls k with la:=true}) ks=(dA ls ks).set (k*7+6) (.bool true):=by
 intro ls
 induction ls with
 |nil=>intro ks k _ h;simp at h
 |cons l ls ih=>
  intro ks k hk h
  cases ks with
  |nil=>simp at hk
  |cons q ks=>
   cases k with
   |zero=>rfl
   |succ k=>
    show lK l q++dA (ls.set k {lf ls k with la:=true}) ks=(lK l q++dA ls ks).set ((k+1)*7+6) _
    have h7:(lK l q).length=7:=rfl
    rw[ih (by simpa using hk) (by simpa using h),List.set_append_right _ _ (by rw[h7];omega),show(k+1)*7+6-(lK l q).length=k*7+6 by rw[h7];omega]
theorem G_: ∀ {ls:List Lf} {ks:List LK} {k:Nat} (hk:ks.length=ls.length) (h:k<ls.length),fB (ls.set k {lf ls k with la:=true}) ks=fB ls ks:=by
 intro ls
 induction ls with
 |nil=>intro ks k _ h;simp at h
 |cons l ls ih=>
  intro ks k hk h
  cases ks with
  |nil=>simp at hk
  |cons q ks=>
   cases k with
   |zero=>rfl
   |succ k=>
    show(⟨q.b,q.c,_⟩:Rec)::fB (ls.set k {lf ls k with la:=true}) ks=_::fB ls ks
    rw[ih (by simpa using hk) (by simpa using h)]
theorem KD {II Bo I:TypeId}: ∀ {ls:List Lf} {ks:List LK} {k:Nat} (hk:ks.length=ls.length) (h:k<ls.length),ik II Bo I (ls.set k {lf ls k with la:=true}) ks=ik II Bo I ls ks:=by
 intro ls
 induction ls with
 |nil=>intro ks k _ h;simp at h
 |cons l ls ih=>
  intro ks k hk h
  cases ks with
  |nil=>simp at hk
  |cons q ks=>
   cases k with
   |zero=>rfl
   |succ k=>
    show dI II Bo I l.d q.k::ik II Bo I (ls.set k {lf ls k with la:=true}) ks=dI II Bo I l.d q.k::ik II Bo I ls ks
    rw[ih (by simpa using hk) (by simpa using h)]
theorem G9 {ls:List Lf} {b x:List Nat} {i:Nat} (h:i<b.length):kU ls (b.take (i+1)) x=(kU ls (b.take i) x).set b[i] {lf (kU ls (b.take i) x) b[i]with fo:=(lf (kU ls (b.take i) x) b[i]).fo++x}:=by
 unfold kU;rw[aC h,cT];rfl
theorem wo {E:TypeId}: ∀ {qs:List Rec} {c:Nat} (h:c<qs.length),(cw E qs).Perm (qs[c].qW E::cw E (qs.eraseIdx c))
 |q::qs,0,_=>by simp
 |q::qs,c+1,h=>by
  have ih:=wo (E:=E) (qs:=qs) (c:=c) (by simpa using h)
  simp only[cw,cJ,List.eraseIdx_cons_succ,List.getElem_cons_succ]at ih⊢
  exact(ih.cons _).trans (List.Perm.swap _ _ _)
theorem Ol {E:TypeId} {qs:List Rec} {c:Nat} {q:Rec} (h:qs[c]? =some q) (X Y:List Item):Sub (q.qW E::(X++(cw E (qs.eraseIdx c)++Y))) (X++(cw E qs++Y)):=by
 obtain⟨hc,rfl⟩:=List.getElem?_eq_some_iff.1 h
 refine⟨X++(cw E qs++Y),?_,aP _⟩
 refine((List.perm_middle (a:=qs[c].qW E) (l₁:=X)).symm).trans (List.Perm.append_left X ?_)
 exact((wo hc).symm.append_right Y)
theorem Sa {E:TypeId} {qs:List Rec} {c:Nat} (h:c<qs.length) (X Y:List Item) (q:Rec):Sub (X++(cw E (qs.set c q)++Y)) (q.qW E::(X++(cw E (qs.eraseIdx c)++Y))):=by
 have h1:=wo (E:=E) (qs:=qs.set c q) (c:=c) (by simpa using h)
 rw[List.getElem_set_self,List.eraseIdx_set_eq]at h1
 refine⟨_,?_,aP _⟩
 exact((h1.append_right Y).append_left X).trans (List.perm_middle (a:=q.qW E) (l₁:=X))
theorem dT.post {P:Program} {base:World} {tm:Value} {f:FuncId} {args:List Value} {O:List Item} {R R':Value→List Item→Prop} {Z:Prop} (h:dT P base tm f args O R Z) (hr: ∀v O',R v O'→ ∃O2,Sub O2 O'∧R' v O2):dT P base tm f args O R' Z:=fun w M hI=>
 (h w M hI).mono fun e w' h9=>h9.imp (fun⟨v,O',he,oM,hv⟩=>by
  obtain⟨O2,hs,h2⟩:=hr v O' hv
  exact⟨v,O2,he,oM.lz hs.tP,h2⟩) id
theorem se (A B X Y:List Item) (c d:Item) (h:Sub (A++[c,d]) B):Sub (A++((X++[c])++(Y++[d]))) (B++(X++Y)):=by
 obtain⟨l,h1,h2⟩:=h
 refine⟨l++(X++Y),?_,h2.append (aP _)⟩
 refine List.Perm.trans ?_ (h1.append_right (X++Y))
 rw[aV A]
 refine List.Perm.append_left A ?_
 rw[aV X]
 refine(List.perm_append_comm_assoc X [c] (Y++[d])).trans ?_
 show(c::(X++(Y++[d]))).Perm (c::d::(X++Y))
 refine List.Perm.cons c ?_
 rw[←aV]
 exact List.perm_append_comm
theorem ud (E:TypeId) (qs:List Rec) (q:Rec):cw E (qs++[q])=cw E qs++[q.qW E]:=bm
theorem zw: ∀(b x:List Nat) (ls:List Lf) (M:Nat),(∀l∈ls,l.fo.length≤M)→ ∀l∈kU ls b x,l.fo.length≤M+b.length*x.length
 | [],x,ls,M,h,l,hl=>by have:=h l hl;simpa using this
 |k::b,x,ls,M,h,l,hl=>by
  have h2: ∀l∈ls.set k {lf ls k with fo:=(lf ls k).fo++x},l.fo.length≤M+x.length:=fun l hl=>by
   by_cases hk:k<ls.length
   ·rcases List.mem_or_eq_of_mem_set hl with hl|rfl
    ·have:=h l hl;omega
    ·have:=h _ (kX hk);rw[aJ];omega
   ·rw[List.set_eq_of_length_le (by omega)]at hl;have:=h l hl;omega
  have:=zw b x _ _ h2 l hl
  rw[bQ,Nat.succ_mul];omega
theorem zy (a b:Nat):(a+b)*(a+b)=a*a+b*b+2*(a*b):=by
 rw[Nat.add_mul,Nat.mul_add,Nat.mul_add,Nat.mul_comm b a];omega
theorem sR (v:Nat): ∀(t:Rx) (ls:List Lf) (N:Nat),(∀l∈ls,l.fo.length≤N)→ ∀l∈(aM v t ls).ls,l.fo.length≤N+t.lv*t.lv:=by
 have leaf: ∀(ls:List Lf) (N:Nat) (q:Lf),q.fo=[]→(∀l∈ls,l.fo.length≤N)→ ∀l∈ls++[q],l.fo.length≤N+1*1:=fun ls N q hq h l hl=>by
  rcases List.mem_append.1 hl with hl|hl
  ·have:=h l hl;omega
  ·rw[List.mem_singleton.1 hl,hq];exact bj _
 intro t
 induction t with
 |iG a b ln mi=>
  intro ls N h l hl
  have h1:=mi _ _ (ln ls N h)
  have h2:=zw _ (aM v b (aM v a ls).ls).fi _ _ h1 l hl
  have h3:=(gO v a ls).2.2.2
  have h4:=(gO v b (aM v a ls).ls).2.2.1
  have h5:(aM v a ls).la.length*(aM v b (aM v a ls).ls).fi.length≤a.lv*b.lv:=Nat.mul_le_mul h3 h4
  show _≤N+(a.lv+b.lv)*(a.lv+b.lv)
  rw[zy];omega
 |iR a b ln mi=>
  intro ls N h l hl
  have h1:=mi _ _ (ln ls N h) l hl
  show _≤N+(a.lv+b.lv)*(a.lv+b.lv)
  rw[zy];omega
 |none=>exact fun ls N h=>leaf ls N _ F h
 |empty=>exact fun ls N h=>leaf ls N _ F h
 |letter p n=>exact fun ls N h=>leaf ls N _ F h
 |and a b _ _=>exact fun ls N h=>leaf ls N _ F h
 |not a _=>exact fun ls N h=>leaf ls N _ F h
 |star a _=>exact fun ls N h=>leaf ls N _ F h
 |ahead a _=>exact fun ls N h=>leaf ls N _ F h
 |behind a _=>exact fun ls N h=>leaf ls N _ F h
def ub (ls:List Lf) (t:Rx):Prop:= ∃N,(∀l∈ls,l.fo.length≤N)∧N+t.lv*t.lv≤100000
theorem ub.left {ls:List Lf} {a b:Rx} (h: ∃N,(∀l∈ls,l.fo.length≤N)∧N+(a.lv+b.lv)*(a.lv+b.lv)≤100000):ub ls a:=by
 obtain⟨N,h1,h2⟩:=h;rw[zy]at h2;exact⟨N,h1,by omega⟩
theorem ub.right {v:Nat} {ls:List Lf} {a b:Rx} (h: ∃N,(∀l∈ls,l.fo.length≤N)∧N+(a.lv+b.lv)*(a.lv+b.lv)≤100000):ub (aM v a ls).ls b:=by
 obtain⟨N,h1,h2⟩:=h;rw[zy]at h2;exact⟨_,sR v a ls N h1,by omega⟩
theorem G7 {v:Nat} {ls:List Lf} {a b:Rx} (h: ∃N,(∀l∈ls,l.fo.length≤N)∧N+(a.lv+b.lv)*(a.lv+b.lv)≤100000) {y:List Nat} (hy:y.length≤a.lv) {k:Nat} (hk:k<(kU (aM v b (aM v a ls).ls).ls y (aM v b (aM v a ls).ls).fi).length):(lf (kU (aM v b (aM v a ls).ls).ls y (aM v b (aM v a ls).ls).fi) k).fo.length≤100000:=by
 obtain⟨N,h1,h2⟩:=h
 rw[zy]at h2
 have h3:=zw y (aM v b (aM v a ls).ls).fi _ _ (sR v b _ _ (sR v a ls N h1)) _ (kX hk)
 have h4:=(gO v b (aM v a ls).ls).2.2.1
 have h5:y.length*(aM v b (aM v a ls).ls).fi.length≤a.lv*b.lv:=Nat.mul_le_mul hy h4
 omega
instance:Nonempty St:=⟨⟨[],[]⟩⟩
def jj (x:ei):Bool:=decide (x.op=9)||decide (x.op=10)
def ny (ls:List Lf) (la:List Nat):List Lf:=la.foldl (fun ls k=>ls.set k {lf ls k with la:=true}) ls
theorem sP: ∀(la:List Nat) (ls:List Lf),(ny ls la).length=ls.length
 | [],ls=>rfl
 |k::la,ls=>by
  show(ny (ls.set k _) la).length=_
  rw[sP la,eI]
theorem Ha {ls:List Lf} {la:List Nat} {i:Nat} (h:i<la.length):ny ls (la.take (i+1))=(ny ls (la.take i)).set la[i] {lf (ny ls (la.take i)) la[i]with la:=true}:=by
 unfold ny;rw[aC h,cT];rfl
noncomputable def jN (v:Nat) (t:Rx):List Lf:=ny (aM v t []).ls (aM v t []).la
noncomputable def Kj (v:Nat) (t:Rx):List Nat:=(aM v t []).fi
noncomputable def Yn (v:Nat) (t:Rx):Lg:=fun u=>qt (u.foldl (jJ (jN v t)) (iz (jN v t) (Kj v t)))
def VI (v:Nat) (t:Rx) (B:Nat):Prop:=Ih (Cw (lm (jN v t)) St.key (jJ (jN v t))) (2^v) (iz (jN v t) (Kj v t)).key B
def okC (v:Nat) (t:Rx) (B:Nat):Prop:=okB v t B∧VI v t B
theorem vj (v:Nat) (t:Rx):(jN v t).length=t.lv:=by unfold jN;rw[sP,eC];simp
theorem x0 {v:Nat} {t:Rx}: ∀k∈Kj v t,k<(jN v t).length:=fun k hk=>by
 have:=(gO v t []).1 k hk;rw[vj];simpa using this.2
theorem Ow {v:Nat} {t:Rx} (hG:iW (jN v t) v) {u:List Nat} (hu: ∀x∈u,x<2^v):Ko (lm (jN v t)) St.key qt (u.foldl (Cw (lm (jN v t)) St.key (jJ (jN v t))) (iz (jN v t) (Kj v t)).key)=Yn v t u:=
 CS (EK hG) (qx hG x0) hu
theorem l_.of {w base:World} {O:List Item} (hI:Inv base O w) {ob:Nat} {lb:Option Addr} {lc:Nat} {cv fv:Value} {ls:List Lf} {ks:List LK} {OL LT:TypeId} (hk:ks.length=ls.length)
  (h1:eu ob (.cells [cv,.slice lb ls.length lc,fv].toArray OL (0,0))∈O) (h2:az lb lc LT 7 (dA ls ks)∈O) {II Bo I:TypeId} (h3: ∀it∈cw I (fB ls ks),it∈O) (h4: ∀it∈ik II Bo I ls ks,it∈O):l_ w ob lb lc cv fv ls ks:=by
 refine⟨hI.lj h1,hI.ij h2,hk,fun k rI=>?_,fun k rI=>?_⟩
 ·have hz:=bT (OK hk rI)
  exact hI.at (k:=(lk ks k).k) (h4 _ (List.mem_map.2 ⟨_,hz,F⟩))
 ·have hr:=bT (EI hk rI)
  have h5:=hI.ij (h3 _ (List.mem_map.2 ⟨_,hr,F⟩))
  rw[gN]at h5;exact h5
theorem lL {v B:Nat} {M:c_} {p:Lg} (h:fV (v:Int) B M p) (hB:B≤4096):fV (v:Int) B (minOf v p) p:=by rw[←iC h hB];exact h
theorem CP {v:Nat} {a:c_} (h:a.vars=(v:Int)):eE a=2^v:=by unfold eE;rw[h];rfl
theorem lw {v B:Nat} (hv:v≤6) (hB:B≤4096) {a b:c_} {p q:Lg} {n m:Nat} (ha:HasL (v:Int) n a p) (hb:HasL (v:Int) m b q) (h:Cy a b (eE a) B):fV (v:Int) B (minOf v (iV p q)) (iV p q):=by
 rw[show Cy a b (eE a) B=Cy a b (2^v) B by rw[CP ha.vars]]at h
 obtain⟨M,hM⟩:=ID (fin:=Ko (GC a b) Bw (VZ b)) hv hB h
 refine lL (M:=M) (hM.to fun u hu=>?_) hB
 rw[El ha.valid hb.valid (by rw[ha.vars,hb.vars]) (fun x hx=>by rw[CP ha.vars];simpa using hu x hx)]
 exact qv (fun w hw=>ha.jf w hw) (fun w hw=>hb.jf w hw) hu
theorem ES {v B:Nat} (hv:v≤6) (hB:B≤4096) {a:c_} {p:Lg} {n:Nat} (ha:HasL (v:Int) n a p) (h:GL a (eE a) B):fV (v:Int) B (minOf v (rM p)) (rM p):=by
 rw[show GL a (eE a) B=GL a (2^v) B by rw[CP ha.vars]]at h
 obtain⟨M,hM⟩:=ID (fin:=Ko (GS a) De (RV a)) hv hB h
 refine lL (M:=M) (hM.to fun u hu=>?_) hB
 rw[Bx ha.valid (fun x hx=>by rw[CP ha.vars];simpa using hu x hx)]
 exact xf (fun w hw=>ha.jf w hw) hu
theorem dw {v B:Nat} (hv:v≤6) (hB:B≤4096): ∀ {t:Rx},t.plain=true→kZ v t B→fV (v:Int) B (minOf v (fM t)) (fM t)
 | .none,_,h=>lL (NR hv h) hB
 | .empty,_,h=>by
  have h1:=(oU (gl 0 0) hv (bj 1)).qJ
  exact lL (M:=jD (GN v 0 (gl 0 0))) ⟨h1.toHasL.le h,h1.min⟩ hB
 | .letter p n,_,h=>by
  have h1:=(oU (gl p n) hv (aI 1)).qJ
  exact lL (M:=jD (GN v 1 (gl p n))) ⟨h1.toHasL.le h,h1.min⟩ hB
 | .iG a b,hp,h=>by
  simp only[Rx.plain,ar]at hp
  exact lw hv hB (dw hv hB hp.1 h.1).toHasL (dw hv hB hp.2 h.2.1).toHasL h.2.2
 | .iR a b,hp,h=>by
  simp only[Rx.plain,ar]at hp
  exact lL (opM (dw hv hB hp.1 h.1) (dw hv hB hp.2 h.2.1) h.2.2.1 h.2.2.2) hB
 | .and a b,hp,h=>by
  simp only[Rx.plain,ar]at hp
  exact lL (opM (dw hv hB hp.1 h.1) (dw hv hB hp.2 h.2.1) h.2.2.1 h.2.2.2) hB
 | .not a,hp,h=>lL (notM (dw hv hB (t:=a) hp h.1).toHasL h.2) hB
 | .star a,hp,h=>ES hv hB (dw hv hB (t:=a) hp h.1).toHasL h.2
 | .ahead a,hp,h=>absurd hp (by simp[Rx.plain])
 | .behind a,hp,h=>absurd hp (by simp[Rx.plain])
theorem OM {v B:Nat} (hv:v≤6) (hB:B≤4096): ∀ {t:Rx},t.wf=true→okB v t B→(∀a b,t≠.iG a b)→(∀a b,t≠.iR a b)→ ∃p,fV (v:Int) B (eZ v t).d p
 | .none,hw,h,_,_=>⟨_,dw hv hB (t:=.none) hw h⟩
 | .empty,hw,h,_,_=>⟨_,dw hv hB (t:=.empty) hw h⟩
 | .letter p n,hw,h,_,_=>⟨_,dw hv hB (t:=.letter p n) hw h⟩
 | .and a b,hw,h,_,_=>⟨_,dw hv hB (t:=.and a b) hw h⟩
 | .not a,hw,h,_,_=>⟨_,dw hv hB (t:=.not a) hw h⟩
 | .star a,hw,h,_,_=>⟨_,dw hv hB (t:=.star a) hw h⟩
 | .iG a b,_,_,h,_=>absurd F (h a b)
 | .iR a b,_,_,_,h=>absurd F (h a b)
 | .ahead a,hw,h,_,_=>⟨_,lw hv hB (dw hv hB (t:=a) hw h.1).toHasL (fw hv) h.2⟩
 | .behind a,hw,h,_,_=>⟨_,lw hv hB (fw hv) (dw hv hB (t:=a) hw h.1).toHasL h.2⟩
def xl (v B:Nat) (l:Lf):Prop:=(∃p,fV (v:Int) B l.d p)∧(l.op=0∨l.op=9∨l.op=10)
def ON (ls:List Lf):Prop:= ∀k,k<ls.length→ ∀j∈(lf ls k).fo,k<j∧j<ls.length
theorem CQ {ls:List Lf} {k i:Nat} {q:Lf} (hk:k<ls.length):lf (ls.set k q) i=if i=k then q else lf ls i:=by
 unfold lf
 rw[au,au]
 by_cases e:i=k
 ·subst e;rw[List.getElem?_set_self hk,aB F];rfl
 ·rw[List.getElem?_set_ne (fun h=>e h.symm),aq e]
theorem IE {v B:Nat}: ∀(b x:List Nat) (ls:List Lf),(∀l∈ls,xl v B l)→ON ls→(∀k∈b,k<ls.length∧ ∀j∈x,k<j∧j<ls.length)→(∀l∈kU ls b x,xl v B l)∧ON (kU ls b x)
 | [],x,ls,h1,h2,_=>⟨h1,h2⟩
 |k::b,x,ls,h1,h2,h3=>by
  obtain⟨hk,hj⟩:=h3 k (by simp)
  refine IE b x (ls.set k {lf ls k with fo:=(lf ls k).fo++x}) (fun l hl=>?_) (fun i hi j s_=>?_) (fun k2 qU=>?_)
  ·rcases List.mem_or_eq_of_mem_set hl with hl|rfl
   ·exact h1 l hl
   ·have h9:=h1 _ (kX hk);exact⟨h9.1,h9.2⟩
  ·rw[eI]at hi⊢
   rw[CQ hk]at s_
   split at s_
   ·rename_i e
    subst e
    rcases List.mem_append.1 s_ with h|h
    ·exact h2 i hk j h
    ·exact hj j h
   ·exact h2 i hi j s_
  ·rw[eI];exact h3 k2 (by simp[qU])
theorem ON.snoc {ls:List Lf} {q:Lf} (h:ON ls) (hq:q.fo=[]):ON (ls++[q]):=fun k hk j hj=>by
 rw[aJ,List.length_singleton]at hk⊢
 unfold lf at hj
 rw[au]at hj
 by_cases e:k<ls.length
 ·rw[bG e]at hj
  have:=h k e j (by unfold lf;rw[au];exact hj)
  omega
 ·rw[bZ (by omega),show k-ls.length=0 by omega]at hj
  simp[hq]at hj
theorem OP {v B:Nat} (hv:v≤6) (hB:B≤4096): ∀(t:Rx) (ls:List Lf),t.wf=true→okB v t B→(∀l∈ls,xl v B l)→ON ls→(∀l∈(aM v t ls).ls,xl v B l)∧ON (aM v t ls).ls:=by
 have leaf: ∀(t:Rx) (ls:List Lf),t.wf=true→okB v t B→(∀a b,t≠.iG a b)→(∀a b,t≠.iR a b)→(eZ v t).fo=[]→((eZ v t).op=0∨(eZ v t).op=9∨(eZ v t).op=10)→(∀l∈ls,xl v B l)→ON ls→(∀l∈ls++[eZ v t],xl v B l)∧ON (ls++[eZ v t]):=fun t ls hw ho n1 n2 hf Ky h1 h2=>by
  refine⟨fun l hl=>?_,h2.snoc hf⟩
  rcases List.mem_append.1 hl with hl|hl
  ·exact h1 l hl
  ·rw[List.mem_singleton.1 hl];exact⟨OM hv hB hw ho n1 n2,Ky⟩
 intro t
 induction t with
 |iG a b ln mi=>
  intro ls hw ho h1 h2
  simp only[Rx.wf,ar]at hw
  obtain⟨a1,a2⟩:=ln ls hw.1 ho.1 h1 h2
  obtain⟨b1,b2⟩:=mi _ hw.2 ho.2 a1 a2
  refine IE _ _ _ b1 b2 fun k hk=>?_
  have k1:=(gO v a ls).2.1 k hk
  have Nf:=eC v a ls
  have hl2:=eC v b (aM v a ls).ls
  refine⟨by omega,fun j hj=>?_⟩
  have k2:=(gO v b (aM v a ls).ls).1 j hj
  omega
 |iR a b ln mi=>
  intro ls hw ho h1 h2
  simp only[Rx.wf,ar]at hw
  obtain⟨a1,a2⟩:=ln ls hw.1 ho.1 h1 h2
  exact mi _ hw.2 ho.2 a1 a2
 |none=>exact fun ls hw ho=>leaf .none ls hw ho (by simp) (by simp) F (.inl F)
 |empty=>exact fun ls hw ho=>leaf .empty ls hw ho (by simp) (by simp) F (.inl F)
 |letter p n=>exact fun ls hw ho=>leaf (.letter p n) ls hw ho (by simp) (by simp) F (.inl F)
 |and a b _ _=>exact fun ls hw ho=>leaf (.and a b) ls hw ho (by simp) (by simp) F (.inl F)
 |not a _=>exact fun ls hw ho=>leaf (.not a) ls hw ho (by simp) (by simp) F (.inl F)
 |star a _=>exact fun ls hw ho=>leaf (.star a) ls hw ho (by simp) (by simp) F (.inl F)
 |ahead a _=>exact fun ls hw ho=>leaf (.ahead a) ls hw ho (by simp) (by simp) F (.inr (.inl F))
 |behind a _=>exact fun ls hw ho=>leaf (.behind a) ls hw ho (by simp) (by simp) F (.inr (.inr F))
theorem IF {v B:Nat}: ∀(la:List Nat) (ls:List Lf),(∀l∈ls,xl v B l∧l.fo.length≤1000000)→ON ls→(∀k∈la,k<ls.length)→(∀l∈ny ls la,xl v B l∧l.fo.length≤1000000)∧ON (ny ls la)
 | [],ls,h1,h2,_=>⟨h1,h2⟩
 |k::la,ls,h1,h2,h3=>by
  have hk:=h3 k (by simp)
  refine IF la (ls.set k {lf ls k with la:=true}) (fun l hl=>?_) (fun i hi j hj=>?_) (fun k2 qU=>by rw[eI];exact h3 k2 (by simp[qU]))
  ·rcases List.mem_or_eq_of_mem_set hl with hl|rfl
   ·exact h1 l hl
   ·have h9:=h1 _ (kX hk);exact⟨⟨h9.1.1,h9.1.2⟩,h9.2⟩
  ·rw[eI]at hi⊢
   rw[CQ hk]at hj
   split at hj
   ·rename_i e;subst e;exact h2 i hk j hj
   ·exact h2 i hi j hj
theorem Cn {v B:Nat} (hv:v≤6) (hB:B≤4096) {t:Rx} (hw:t.wf=true) (Kz:t.lv≤12) (h:okB v t B):iW (jN v t) v:=by
 obtain⟨h1,h2⟩:=OP hv hB t [] hw h (fun l hl=>by simp at hl) (fun k hk=>by simp at hk)
 have h3:=sR v t [] 0 (fun l hl=>by simp at hl)
 have h4:t.lv*t.lv≤144:=Nat.mul_le_mul Kz Kz
 obtain⟨h5,h6⟩:=IF (v:=v) (B:=B) (aM v t []).la (aM v t []).ls (fun l hl=>⟨h1 l hl,by have:=h3 l hl;omega⟩) h2 (fun k hk=>by
  have:=(gO v t []).2.1 k hk;rw[eC];exact this.2)
 refine⟨by rw[vj];exact Kz,fun l hl=>?_,fun l hl=>?_,fun l hl=>(h5 l hl).1.2,fun k hk j hj=>h6 k hk j hj,fun l hl=>(h5 l hl).2⟩
 ·obtain⟨p,hp⟩:=(h5 l hl).1.1;exact hp.valid
 ·obtain⟨p,hp⟩:=(h5 l hl).1.1;exact hp.vars
section
variable (ls:List Lf)
def KO (bh:List Nat) (u:List Nat):List Nat:=u.foldl (jq ls) bh
inductive Way (Ss:Unit):Bool→List Nat→Nat→List Nat→Prop
 |ahead {bh k v}:(lf ls k).op=9→dR (lf ls k).d (runN (lf ls k).d (lf ls k).d.start.toNat v)=true→Way Ss false bh k v→Way Ss true bh k v
 |behind {bh k v}:(lf ls k).op=10→dR (lf ls k).d (bh.getD k 0)=true→Way Ss false bh k v→Way Ss true bh k v
 |plain {bh k u v}:(lf ls k).op≠9→(lf ls k).op≠10→dR (lf ls k).d (runN (lf ls k).d (lf ls k).d.start.toNat u)=true→Way Ss false (KO ls bh u) k v→Way Ss true bh k (u++v)
 |last {bh k}:(lf ls k).la=true→Way Ss false bh k []
 |fol {bh k j v}:j∈(lf ls k).fo→Way Ss true bh j v→Way Ss false bh k v
def KP (o:List Ob) (v:List Nat):Prop:= ∀p∈o,dR (lf ls p.1).d (runN (lf ls p.1).d p.2 v)=true
def KQ (bh:List Nat) (v:List Nat) (c:Cf):Prop:=KP ls c.o v∧((c.k= -1∧v=[])∨ ∃k:Nat,c.k=(k:Int)∧ ∃u v2,u≠ []∧v=u++v2∧dR (lf ls k).d (runN (lf ls k).d c.s u)=true∧Way ls () false (KO ls bh u) k v2)
def Su (vs k q:Nat):Prop:= ∃u,iS (vs:Int) u∧q=runN (lf ls k).d (lf ls k).d.start.toNat u
def AN (vs:Nat):Prop:= ∀k,k<ls.length→(lf ls k).op=9→ ∀u v,iS (vs:Int) u→iS (vs:Int) v→dR (lf ls k).d (runN (lf ls k).d (lf ls k).d.start.toNat u)=true→dR (lf ls k).d (runN (lf ls k).d (lf ls k).d.start.toNat (u++v))=true
variable {ls}
theorem I0 {vs:Nat} (hA:AN ls vs) {o:List Ob} {x:Ob} {v:List Nat} (hv:iS (vs:Int) v) (hk:x.1<ls.length) (ho:(lf ls x.1).op=9) (hx:Su ls vs x.1 x.2):KP ls (ow ls o x) v↔KP ls o v∧dR (lf ls x.1).d (runN (lf ls x.1).d x.2 v)=true:=by
 unfold ow
 split
 ·rename_i h
  obtain⟨u,hu,e⟩:=hx
  refine⟨fun h1=>⟨h1,?_⟩,fun h1=>h1.1⟩
  rw[e]at h⊢
  have:=hA _ hk ho u v hu hv h
  unfold runN at this⊢;rwa[cT]at this
 ·constructor
  ·exact fun h1=>⟨fun p hp=>h1 p (aH _ hp),h1 x (ah _ (List.mem_singleton.2 F))⟩
  ·rintro⟨h1,h2⟩ p hp
   rcases List.mem_append.1 hp with hp|hp
   ·exact h1 p hp
   ·rw[List.mem_singleton.1 hp];exact h2
def Hi (vs:Nat) (o:List Ob):Prop:= ∀p∈o,p.1<ls.length∧(lf ls p.1).op=9∧Su ls vs p.1 p.2∧dR (lf ls p.1).d p.2=false
theorem I1 {vs:Nat} {o:List Ob} {x:Ob} (h:Hi (ls:=ls) vs o) (hk:x.1<ls.length) (ho:(lf ls x.1).op=9) (hx:Su ls vs x.1 x.2):Hi (ls:=ls) vs (ow ls o x):=by
 unfold ow
 split
 ·exact h
 ·rename_i hf
  intro p hp
  rcases List.mem_append.1 hp with hp|hp
  ·exact h p hp
  ·rw[List.mem_singleton.1 hp];exact⟨hk,ho,hx,by simpa using hf⟩
theorem E3 {vs:Nat} (hG:iW ls vs) (hA:AN ls vs) {x:Nat} (hx:x<2^vs) {v:List Nat} (hv:iS (vs:Int) v): ∀(o o1:List Ob),Hi (ls:=ls) vs o→Hi (ls:=ls) vs o1→(KP ls (o.foldl (fun o p=>ow ls o (p.1,fm (lf ls p.1).d p.2 x)) o1) v↔KP ls o1 v∧KP ls o (x::v))∧Hi (ls:=ls) vs (o.foldl (fun o p=>ow ls o (p.1,fm (lf ls p.1).d p.2 x)) o1)
 | [],o1,_,h1=>⟨⟨fun h=>⟨h,fun p hp=>by simp at hp⟩,fun h=>h.1⟩,h1⟩
 |p::o,o1,h,h1=>by
  obtain⟨k1,k2,k3,_⟩:=h p (by simp)
  have vh:Su ls vs p.1 (fm (lf ls p.1).d p.2 x):=by
   obtain⟨u,hu,e⟩:=k3
   refine⟨u++[x],fun y hy=>?_,by rw[e,e8]⟩
   rcases List.mem_append.1 hy with hy|hy
   ·exact hu y hy
   ·rw[List.mem_singleton.1 hy];simpa using hx
  have h2:=I1 (x:=(p.1,fm (lf ls p.1).d p.2 x)) h1 k1 k2 vh
  obtain⟨h3,h4⟩:=E3 hG hA hx hv o _ (fun q hq=>h q (by simp[hq])) h2
  refine⟨?_,h4⟩
  rw[cU,h3,I0 (x:=(p.1,fm (lf ls p.1).d p.2 x)) hA hv k1 k2 vh]
  constructor
  ·rintro⟨⟨a,b⟩,c⟩
   refine⟨a,fun q hq=>?_⟩
   rcases List.mem_cons.1 hq with rfl|hq
   ·exact b
   ·exact c q hq
  ·rintro⟨a,b⟩
   exact⟨⟨a,b p (by simp)⟩,fun q hq=>b q (by simp[hq])⟩
theorem O6 {α:Type} {p:α→Prop} {a b:List α}:(∃c,c∈a++b∧p c)↔(∃c,c∈a∧p c)∨ ∃c,c∈b∧p c:=by
 constructor
 ·rintro⟨c,hc,h⟩
  exact(List.mem_append.1 hc).elim (fun h1=>.inl ⟨c,h1,h⟩) fun h1=>.inr ⟨c,h1,h⟩
 ·rintro(⟨c,hc,h⟩|⟨c,hc,h⟩)
  ·exact⟨c,aH _ hc,h⟩
  ·exact⟨c,ah _ hc,h⟩
theorem BL {bh:List Nat} {k:Nat} {v:List Nat}:Way ls () false bh k v↔((lf ls k).la=true∧v=[])∨ ∃j,j∈(lf ls k).fo∧Way ls () true bh j v:=by
 constructor
 ·intro h
  cases h with
  |last h=>exact .inl ⟨h,F⟩
  |fol h1 h2=>exact .inr ⟨_,h1,h2⟩
 ·rintro(⟨h,rfl⟩|⟨j,h1,h2⟩)
  ·exact .last h
  ·exact .fol h1 h2
mutual
theorem nR {vs:Nat} (hG:iW ls vs) (hA:AN ls vs) {bh v:List Nat} (hv:iS (vs:Int) v): ∀(f:Nat) {k:Nat} {o:List Ob},k<ls.length→2*(ls.length-k)≤f→Hi (ls:=ls) vs o→((∃c,c∈fL ls f bh k o∧KQ ls bh v c)↔KP ls o v∧Way ls () true bh k v)∧ ∀c∈fL ls f bh k o,Hi (ls:=ls) vs c.o
 |0,k,o,hk,hf,_=>absurd hf (by omega)
 |f+1,k,o,hk,hf,ho=>by
  have hs:Su ls vs k (lf ls k).d.start.toNat:=⟨[],fun y hy=>by simp at hy,F⟩
  unfold fL
  split
  ·rename_i h9
   have h1:=I1 (x:=(k,(lf ls k).d.start.toNat)) ho hk h9 hs
   obtain⟨h2,h3⟩:=sX hG hA hv f (k:=k) hk (by omega) h1
   refine⟨?_,h3⟩
   rw[h2,I0 (x:=(k,(lf ls k).d.start.toNat)) hA hv hk h9 hs]
   constructor
   ·rintro⟨⟨a,b⟩,c⟩;exact⟨a,.ahead h9 b c⟩
   ·rintro⟨a,b⟩
    cases b with
    |ahead _ h4 h5=>exact⟨⟨a,h4⟩,h5⟩
    |behind h4=>omega
    |plain h4=>exact absurd h9 h4
  ·rename_i h9
   split
   ·rename_i xG
    split
    ·rename_i hb
     obtain⟨h2,h3⟩:=sX hG hA hv f (k:=k) hk (by omega) ho
     refine⟨?_,h3⟩
     rw[h2]
     constructor
     ·rintro⟨a,c⟩;exact⟨a,.behind xG hb c⟩
     ·rintro⟨a,b⟩
      cases b with
      |ahead h4=>exact absurd h4 h9
      |behind _ h4 h5=>exact⟨a,h5⟩
      |plain _ h4=>exact absurd xG h4
    ·rename_i hb
     refine⟨⟨fun⟨c,hc,_⟩=>by simp at hc,fun⟨a,b⟩=>?_⟩,fun c hc=>by simp at hc⟩
     cases b with
     |ahead h4=>exact absurd h4 h9
     |behind _ h4 h5=>exact absurd h4 hb
     |plain _ h4=>exact absurd xG h4
   ·rename_i xG
    have hl:=sX hG hA (bh:=bh) hv f (k:=k) hk (by omega) ho
    refine⟨?_,fun c hc=>?_⟩
    ·have e:(∃c,c∈(⟨(k:Int),(lf ls k).d.start.toNat,o⟩:Cf)::(if dR (lf ls k).d (lf ls k).d.start.toNat=true then gm ls f bh k o else[])∧KQ ls bh v c)↔KQ ls bh v ⟨(k:Int),(lf ls k).d.start.toNat,o⟩∨(dR (lf ls k).d (lf ls k).d.start.toNat=true∧KP ls o v∧Way ls () false bh k v):=by
      rw[←hl.1]
      constructor
      ·rintro⟨c,hc,h⟩
       rcases List.mem_cons.1 hc with rfl|hc
       ·exact .inl h
       ·split at hc
        ·exact .inr ⟨by assumption,c,hc,h⟩
        ·simp at hc
      ·rintro(h|⟨h1,c,hc,h⟩)
       ·exact⟨_,List.mem_cons_self,h⟩
       ·exact⟨c,List.mem_cons_of_mem _ (by rw[aB h1];exact hc),h⟩
     rw[e]
     constructor
     ·rintro(⟨h1,⟨h2,_⟩|⟨k2,h2,u,v2,h3,rfl,h4,h5⟩⟩|⟨h1,h2,h3⟩)
      ·have h2:(k:Int)= -1:=h2;omega
      ·have h2:(k:Int)=(k2:Int):=h2
       have:k2=k:=by omega
       subst this
       exact⟨h1,.plain h9 xG h4 h5⟩
      ·exact⟨h2,Way.plain (u:=[]) h9 xG h1 h3⟩
     ·rintro⟨h1,h2⟩
      cases h2 with
      |ahead h4=>exact absurd h4 h9
      |behind h4=>exact absurd h4 xG
      | @plain _ _ u v2 _ _ h4 h5=>
       by_cases hu:u=[]
       ·subst hu;exact .inr ⟨h4,h1,h5⟩
       ·exact .inl ⟨h1,.inr ⟨k,F,u,v2,hu,F,h4,h5⟩⟩
    ·rcases List.mem_cons.1 hc with rfl|hc
     ·exact ho
     ·split at hc
      ·exact hl.2 c hc
      ·simp at hc
theorem sX {vs:Nat} (hG:iW ls vs) (hA:AN ls vs) {bh v:List Nat} (hv:iS (vs:Int) v): ∀(f:Nat) {k:Nat} {o:List Ob},k<ls.length→2*(ls.length-k)≤f+1→Hi (ls:=ls) vs o→((∃c,c∈gm ls f bh k o∧KQ ls bh v c)↔KP ls o v∧Way ls () false bh k v)∧ ∀c∈gm ls f bh k o,Hi (ls:=ls) vs c.o
 |0,k,o,hk,hf,_=>absurd hf (by omega)
 |f+1,k,o,hk,hf,ho=>by
  have hj: ∀j,j∈(lf ls k).fo→j<ls.length∧2*(ls.length-j)≤f:=fun j hj=>by
   have:=hG.fo k hk j hj;omega
  unfold gm
  refine⟨?_,fun c hc=>?_⟩
  ·rw[O6,BL]
   have e1:(∃c,c∈((lf ls k).fo.flatMap fun j=>fL ls f bh j o)∧KQ ls bh v c)↔ ∃j,j∈(lf ls k).fo∧KP ls o v∧Way ls () true bh j v:=by
    constructor
    ·rintro⟨c,hc,h⟩
     obtain⟨j,h1,h2⟩:=List.mem_flatMap.1 hc
     exact⟨j,h1,(nR hG hA hv f (hj j h1).1 (hj j h1).2 ho).1.1 ⟨c,h2,h⟩⟩
    ·rintro⟨j,h1,h2⟩
     obtain⟨c,h3,h4⟩:=(nR hG hA hv f (hj j h1).1 (hj j h1).2 ho).1.2 h2
     exact⟨c,List.mem_flatMap.2 ⟨j,h1,h3⟩,h4⟩
   have e2:(∃c,c∈(if(lf ls k).la=true then[(⟨-1,0,o⟩:Cf)]else[])∧KQ ls bh v c)↔(lf ls k).la=true∧KP ls o v∧v=[]:=by
    constructor
    ·rintro⟨c,hc,h⟩
     split at hc
     ·rename_i hl
      rw[List.mem_singleton.1 hc]at h
      obtain⟨h1,⟨_,h2⟩|⟨k2,h2,_⟩⟩:=h
      ·exact⟨hl,h1,h2⟩
      ·have h2:(-1:Int)=(k2:Int):=h2;omega
     ·simp at hc
    ·rintro⟨hl,h1,h2⟩
     exact⟨⟨-1,0,o⟩,by rw[aB hl];exact List.mem_singleton.2 F,h1,.inl ⟨F,h2⟩⟩
   rw[e1,e2]
   constructor
   ·rintro(⟨j,h1,h2,h3⟩|⟨h1,h2,h3⟩)
    ·exact⟨h2,.inr ⟨j,h1,h3⟩⟩
    ·exact⟨h2,.inl ⟨h1,h3⟩⟩
   ·rintro⟨h2,⟨h1,h3⟩|⟨j,h1,h3⟩⟩
    ·exact .inr ⟨h1,h2,h3⟩
    ·exact .inl ⟨j,h1,h2,h3⟩
  ·rcases List.mem_append.1 hc with hc|hc
   ·obtain⟨j,h1,h2⟩:=List.mem_flatMap.1 hc
    exact(nR hG hA hv f (hj j h1).1 (hj j h1).2 ho).2 c h2
   ·split at hc
    ·rw[List.mem_singleton.1 hc];exact ho
    ·simp at hc
end
structure KR (ls:List Lf) (vs:Nat) (s:St):Prop where
 ob: ∀c∈s.cf,Hi (ls:=ls) vs c.o
 ua: ∀c∈s.cf,jT ls c
theorem zQ {vs:Nat} (hG:iW ls vs) (hA:AN ls vs) {bh v:List Nat} {x:Nat} (hx:x<2^vs) (hv:iS (vs:Int) v) {c:Cf} (hg:jT ls c) (ho:Hi (ls:=ls) vs c.o):((∃d,d∈iD ls (jq ls bh x) x c∧KQ ls (jq ls bh x) v d)↔KQ ls bh (x::v) c)∧ ∀d∈iD ls (jq ls bh x) x c,Hi (ls:=ls) vs d.o:=by
 rcases hg with⟨h1,_,_⟩|⟨k,h1,hk,hs,_⟩
 ·unfold iD
  rw[aB (by omega)]
  refine⟨⟨fun⟨d,hd,_⟩=>by simp at hd,fun h=>?_⟩,fun d hd=>by simp at hd⟩
  obtain⟨_,⟨_,h2⟩|⟨k2,h2,_⟩⟩:=h
  ·cases h2
  ·omega
 ·obtain⟨h2,h3⟩:=E3 hG hA hx hv c.o [] ho (fun p hp=>by simp at hp)
  have h2:KP ls (me ls c.o x) v↔KP ls c.o (x::v):=h2.trans ⟨fun h=>h.2,fun h=>⟨fun p hp=>by simp at hp,h⟩⟩
  have h3:Hi (ls:=ls) vs (me ls c.o x):=h3
  have hl:=sX hG hA (bh:=jq ls bh x) hv (2*ls.length) (k:=k) hk (by omega) h3
  unfold iD
  rw[aq (by omega),h1,Int.toNat_natCast]
  refine⟨?_,fun d hd=>?_⟩
  ·constructor
   ·rintro⟨d,hd,h⟩
    rcases List.mem_cons.1 hd with rfl|hd
    ·obtain⟨h4,⟨h5,_⟩|⟨k2,h5,u,v2,h6,h7,h8,h9⟩⟩:=h
     ·have h5:(k:Int)= -1:=h5;omega
     ·have h5:(k:Int)=(k2:Int):=h5
      have:k2=k:=by omega
      subst this
      exact⟨h2.1 h4,.inr ⟨k2,h1,x::u,v2,by simp,by rw[h7];rfl,h8,h9⟩⟩
    ·split at hd
     ·rename_i hf
      obtain⟨h4,h5⟩:=hl.1.1 ⟨d,hd,h⟩
      exact⟨h2.1 h4,.inr ⟨k,h1,[x],v,by simp,F,hf,h5⟩⟩
     ·simp at hd
   ·rintro⟨h4,⟨_,h5⟩|⟨k2,h5,u,v2,h6,h7,h8,h9⟩⟩
    ·cases h5
    ·have:k2=k:=by omega
     subst this
     cases u with
     |nil=>exact absurd F h6
     |cons y u=>
      simp only[cN,List.cons.injEq]at h7
      obtain⟨rfl,rfl⟩:=h7
      by_cases hu:u=[]
      ·subst hu
       obtain⟨d,hd,h⟩:=hl.1.2 ⟨h2.2 h4,h9⟩
       have h8:dR (lf ls k2).d (fm (lf ls k2).d c.s x)=true:=h8
       exact⟨d,List.mem_cons_of_mem _ (by rw[aB h8];exact hd),h⟩
      ·exact⟨_,List.mem_cons_self,h2.2 h4,.inr ⟨k2,F,u,v2,hu,F,h8,h9⟩⟩
  ·rcases List.mem_cons.1 hd with rfl|hd
   ·exact h3
   ·split at hd
    ·exact hl.2 d hd
    ·simp at hd
theorem E4 {vs:Nat} (hG:iW ls vs) (hA:AN ls vs) {s:St} (hs:KR ls vs s) {x:Nat} (hx:x<2^vs):KR ls vs (jJ ls s x)∧ ∀v,iS (vs:Int) v→((∃c,c∈(jJ ls s x).cf∧KQ ls (jJ ls s x).bh v c)↔ ∃c,c∈s.cf∧KQ ls s.bh (x::v) c):=by
 have hm: ∀c,c∈(jJ ls s x).cf↔ ∃y,y∈s.cf∧c∈iD ls (jq ls s.bh x) x y:=fun c=>by
  show c∈((s.cf.flatMap (iD ls (jq ls s.bh x) x)).foldl add [])↔_
  rw[et,List.mem_flatMap]
  exact⟨fun h=>h.elim (fun h=>by simp at h) id,.inr⟩
 refine⟨⟨fun c hc=>?_,fun c hc=>?_⟩,fun v hv=>?_⟩
 ·obtain⟨y,hy,hc⟩:=(hm c).1 hc
  exact(zQ hG hA (bh:=s.bh) (v:=[]) hx (fun x hx=>by simp at hx) (hs.ua y hy) (hs.ob y hy)).2 c hc
 ·obtain⟨y,hy,hc⟩:=(hm c).1 hc
  exact zJ hG hx (hs.ua y hy) c hc
 ·constructor
  ·rintro⟨c,hc,h⟩
   obtain⟨y,hy,hc⟩:=(hm c).1 hc
   exact⟨y,hy,(zQ hG hA hx hv (hs.ua y hy) (hs.ob y hy)).1.1 ⟨c,hc,h⟩⟩
  ·rintro⟨y,hy,h⟩
   obtain⟨c,hc,h⟩:=(zQ hG hA hx hv (hs.ua y hy) (hs.ob y hy)).1.2 h
   exact⟨c,(hm c).2 ⟨y,hy,hc⟩,h⟩
theorem Sv {vs:Nat} {s:St} (hs:KR ls vs s):qt s=true↔ ∃c,c∈s.cf∧KQ ls s.bh [] c:=by
 unfold qt
 rw[df]
 constructor
 ·rintro⟨c,hc,h⟩
  rw[ar,cj,List.isEmpty_iff]at h
  refine⟨c,hc,fun p hp=>by rw[h.2]at hp;simp at hp,.inl ⟨?_,F⟩⟩
  rcases hs.ua c hc with⟨h1,_⟩|⟨k,h1,_⟩
  ·exact h1
  ·omega
 ·rintro⟨c,hc,h1,⟨h2,_⟩|⟨k,_,u,v2,h3,h4,_⟩⟩
  ·refine⟨c,hc,?_⟩
   rw[ar,cj,List.isEmpty_iff]
   refine⟨by omega,?_⟩
   cases ho:c.o with
   |nil=>rfl
   |cons p o=>
    have h5:=h1 p (by rw[ho];simp)
    have h6:=(hs.ob c hc p (by rw[ho];simp)).2.2.2
    have h5:dR (lf ls p.1).d p.2=true:=h5
    rw[h6]at h5;cases h5
  ·exact absurd (List.append_eq_nil_iff.1 h4.symm).1 h3
theorem BM {vs:Nat} (hG:iW ls vs) (hA:AN ls vs) {first:List Nat} (hf: ∀k∈first,k<ls.length):KR ls vs (iz ls first)∧ ∀v,iS (vs:Int) v→((∃c,c∈(iz ls first).cf∧KQ ls (iz ls first).bh v c)↔ ∃k,k∈first∧Way ls () true (iz ls first).bh k v):=by
 have hm: ∀c,c∈(iz ls first).cf↔ ∃k,k∈first∧c∈fL ls (2*ls.length) (ls.map fun l=>l.d.start.toNat) k []:=fun c=>by
  show c∈((first.flatMap fun k=>fL ls (2*ls.length) (ls.map fun l=>l.d.start.toNat) k []).foldl add [])↔_
  rw[et,List.mem_flatMap]
  exact⟨fun h=>h.elim (fun h=>by simp at h) id,.inr⟩
 have hn:Hi (ls:=ls) vs []:=fun p hp=>by simp at hp
 refine⟨⟨fun c hc=>?_,fun c hc=>(qx hG hf).cf c hc⟩,fun v hv=>?_⟩
 ·obtain⟨k,hk,hc⟩:=(hm c).1 hc
  exact(nR hG hA (v:=[]) (fun x hx=>by simp at hx) (2*ls.length) (hf k hk) (by omega) hn).2 c hc
 ·constructor
  ·rintro⟨c,hc,h⟩
   obtain⟨k,hk,hc⟩:=(hm c).1 hc
   exact⟨k,hk,((nR hG hA hv (2*ls.length) (hf k hk) (by omega) hn).1.1 ⟨c,hc,h⟩).2⟩
  ·rintro⟨k,hk,h⟩
   obtain⟨c,hc,h⟩:=(nR hG hA hv (2*ls.length) (hf k hk) (by omega) hn).1.2 ⟨fun p hp=>by simp at hp,h⟩
   exact⟨c,(hm c).2 ⟨k,hk,hc⟩,h⟩
theorem E5 {vs:Nat} (hG:iW ls vs) (hA:AN ls vs) {first:List Nat} (hf: ∀k∈first,k<ls.length) {w:List Nat} (hw:iS (vs:Int) w):qt (w.foldl (jJ ls) (iz ls first))=true↔ ∃k,k∈first∧Way ls () true (ls.map fun l=>l.d.start.toNat) k w:=by
 have run: ∀(u:List Nat) {s:St},KR ls vs s→iS (vs:Int) u→(qt (u.foldl (jJ ls) s)=true↔ ∃c,c∈s.cf∧KQ ls s.bh u c):=by
  intro u
  induction u with
  |nil=>exact fun hs _=>Sv hs
  |cons x u ih=>
   intro s hs hu
   have hx:x<2^vs:=by have:=hu x (by simp);simpa using this
   obtain⟨h1,h2⟩:=E4 hG hA hs hx
   rw[cU,ih h1 (fun y hy=>hu y (by simp[hy]))]
   exact h2 u fun y hy=>hu y (by simp[hy])
 obtain⟨h1,h2⟩:=BM hG hA hf
 rw[run w h1 hw]
 exact h2 w hw
end
structure En where
 c:Nat
 n:Nat
 r:Nat
 f:Nat
def En.to (e:En) (s x:Nat):Nat:=(e.r>>>(4*(e.c*s+x)))%16
def En.fi (e:En) (s:Nat):Bool:=e.f.testBit s
theorem En.I9 (e:En) (s x:Nat):e.to s x<16:=Nat.mod_lt _ (by decide)
structure Mc where
 c:Nat
 s0:Nat
 st:Nat→Nat→Nat
 fi:Nat→Bool
def Mc.run (m:Mc) (s:Nat) (w:List Nat):Nat:=w.foldl m.st s
def En.mc (e:En):Mc:=⟨e.c,0,e.to,e.fi⟩
def vv (v:Nat) (m:Mc) (p:Lg):Prop:= ∃h:Nat→Nat,(∀x,x<2^v→h x<m.c)∧ ∀w,iS (v:Int) w→p w=m.fi (m.run m.s0 (w.map h))
def fo {α:Type} (n:Nat) (k:Nat→α):α:=Nat.rec (motive:=fun _=>α) (k 0) (fun m _=>k (Nat.succ m)) n
theorem Fi {α:Type} (n:Nat) (k:Nat→α):fo n k=k n:=by cases n<;>rfl
def vw (n:Nat) (p:Nat→Bool):Bool:=Nat.rec (motive:=fun _=>Bool) true (fun k ih=>cond (p k) ih false) n
theorem kL {p:Nat→Bool}: ∀ {n:Nat},vw n p=true↔ ∀k,k<n→p k=true
 |0=>⟨fun _ k hk=>absurd hk (by omega),fun _=>rfl⟩
 |n+1=>by
  have ih:=kL (p:=p) (n:=n)
  have e:vw (n+1) p=cond (p n) (vw n p) false:=rfl
  rw[e]
  cases h:p n with
  |false=>exact⟨fun h2=>Bool.noConfusion h2,fun h2=>by rw[h2 n (by omega)]at h;cases h⟩
  |true=>
   show vw n p=true↔_
   rw[ih]
   exact⟨fun h2 k hk=>(Nat.lt_succ_iff_lt_or_eq.1 hk).elim (h2 k) fun e=>e▸h,fun h2 k hk=>h2 k (by omega)⟩
noncomputable def AP (l:List Nat) (x:Nat):Bool:=List.rec (motive:=fun _=>Bool) false (fun y _ ih=>cond (Nat.beq x y) true ih) l
theorem sq {x:Nat}: ∀ {l:List Nat},AP l x=true↔x∈l
 | []=>by simp[AP]
 |y::l=>by
  have ih:=sq (x:=x) (l:=l)
  have e:AP (y::l) x=cond (Nat.beq x y) true (AP l x):=rfl
  rw[e]
  cases h:Nat.beq x y with
  |true=>have:=Nat.eq_of_beq_eq_true h;subst this;simp
  |false=>
   have h2:x≠y:=Nat.ne_of_beq_eq_false h
   show AP l x=true↔_
   rw[ih];simp[h2]
noncomputable def zY (l:List Nat) (p:Nat→Bool):Bool:=List.rec (motive:=fun _=>Bool) true (fun y _ ih=>cond (p y) ih false) l
theorem wB {p:Nat→Bool}: ∀ {l:List Nat},zY l p=true↔ ∀x∈l,p x=true
 | []=>by simp[zY]
 |y::l=>by
  have ih:=wB (p:=p) (l:=l)
  have e:zY (y::l) p=cond (p y) (zY l p) false:=rfl
  rw[e]
  cases h:p y with
  |false=>simp[h]
  |true=>show zY l p=true↔_;rw[ih];simp[h]
noncomputable def Pq (c:Nat) (st:Nat→Nat→Nat) (n:Nat):List Nat→List Nat→List Nat:=
 Nat.rec (motive:=fun _=>List Nat→List Nat→List Nat) (fun _ seen=>seen) (fun _ ih todo seen=>
  List.rec (motive:=fun _=>List Nat) seen (fun s rest _=>
   (Nat.rec (motive:=fun _=>List Nat→List Nat→List Nat) (fun t sn=>ih t sn) (fun x k t sn=>fo (st s x) fun y=>cond (AP sn y) (k t sn) (k (y::t) (y::sn))) c:List Nat→List Nat→List Nat) rest seen) todo) n
noncomputable def Yy (m:Mc) (e:En) (g:Nat) (L:List Nat):Bool:=
 AP L (m.s0*16)&&zY L fun p=>((m.fi (p/16)==e.fi (p%16))&&vw m.c fun x=>fo (m.st (p/16) x*16+e.to (p%16) ((g>>>(4*x))%16)) (AP L))
theorem SE {m:Mc} {e:En} {g:Nat} {L:List Nat} (h:Yy m e g L=true): ∀ {w:List Nat} {s t:Nat},t<16→s*16+t∈L→(∀x∈w,x<m.c)→m.fi (m.run s w)=e.fi (e.mc.run t (w.map fun x=>(g>>>(4*x))%16)):=by
 unfold Yy at h
 rw[ar,wB]at h
 intro w
 induction w with
 |nil=>
  intro s t ht hm _
  have h2:=h.2 _ hm
  rw[ar]at h2
  have h3:=h2.1
  rw[show(s*16+t)/16=s by omega,show(s*16+t)%16=t by omega]at h3
  exact eq_of_beq h3
 |cons x w ih=>
  intro s t ht hm hw
  have h2:=h.2 _ hm
  rw[ar,kL]at h2
  have h3:=h2.2 x (hw x (by simp))
  rw[Fi,sq,show(s*16+t)/16=s by omega,show(s*16+t)%16=t by omega]at h3
  exact ih (e.I9 _ _) h3 fun y hy=>hw y (by simp[hy])
theorem I_ {v:Nat} {m:Mc} {e:En} {g:Nat} {L:List Nat} {p:Lg} (h:Yy m e g L=true) (hg: ∀x,x<m.c→(g>>>(4*x))%16<e.c) (hr:vv v m p):vv v e.mc p:=by
 obtain⟨k,h1,h2⟩:=hr
 refine⟨fun x=>(g>>>(4*k x))%16,fun x hx=>hg _ (h1 x hx),fun w hw=>?_⟩
 have h0:m.s0*16+0∈L:=by
  unfold Yy at h;rw[ar]at h;exact sq.1 h.1
 rw[h2 w hw,SE h (by decide) h0 (fun x hx=>by obtain⟨y,hy,rfl⟩:=List.mem_map.1 hx;exact h1 y (by simpa using hw y hy)),List.map_map]
 rfl
def zZ (a:En):Mc:=⟨a.c,0,a.to,fun s=>!a.fi s⟩
def mm (o:Bool→Bool→Bool) (a b:En):Mc:=⟨a.c*b.c,0,fun s z=>a.to (s/16) (z/b.c)*16+b.to (s%16) (z%b.c),fun s=>o (a.fi (s/16)) (b.fi (s%16))⟩
def Xw (b:En) (m y:Nat):Nat:=Nat.rec (motive:=fun _=>Nat) 0 (fun k ih=>ih|||cond (m.testBit k) (2^b.to k y) 0) 16
def Xx (a:En) (p m:Nat):Nat:=p+16*(m|||(a.fi p).toNat)
def pS (a b:En):Mc:=⟨a.c*b.c,Xx a 0 0,fun s z=>fo (a.to (s%16) (z/b.c)) fun p=>Xx a p (Xw b (s/16) (z%b.c)),fun s=>!Nat.beq ((s/16)&&&b.f) 0⟩
def oC (a:En):Mc:=⟨a.c,65537,fun s z=>fo (Xw a s z) fun m=>m|||(!Nat.beq (m&&&a.f) 0).toNat,fun s=>s.testBit 16||!Nat.beq (s&&&a.f) 0⟩
theorem Ja {v:Nat} {a:En} {p:Lg} (h:vv v a.mc p):vv v (zZ a) (fun u=>!p u):=by
 obtain⟨k,h1,h2⟩:=h
 exact⟨k,h1,fun w hw=>by show(!p w)=_;rw[h2 w hw];rfl⟩
theorem z_ {x y a b:Nat} (hx:x<a) (hy:y<b):x*b+y<a*b:=by
 have:=Nat.mul_le_mul_right b (show x+1≤a by omega)
 rw[Nat.add_mul]at this;omega
theorem vx {x y b:Nat} (hy:y<b):(x*b+y)/b=x∧(x*b+y)%b=y:=by
 have hb:0<b:=by omega
 refine⟨?_,?_⟩
 ·rw[Nat.mul_comm,Nat.mul_add_div hb,Nat.div_eq_of_lt hy];omega
 ·rw[Nat.mul_comm,Nat.mul_add_mod,Nat.mod_eq_of_lt hy]
theorem Pr (o:Bool→Bool→Bool) (a b:En) (h k:Nat→Nat): ∀(w:List Nat) {s t:Nat},(∀x∈w,k x<b.c)→t<16→(mm o a b).run (s*16+t) (w.map fun x=>h x*b.c+k x)=a.mc.run s (w.map h)*16+b.mc.run t (w.map k)∧b.mc.run t (w.map k)<16
 | [],s,t,_,ht=>⟨F,ht⟩
 |x::w,s,t,hk,ht=>by
  have:=Pr o a b h k w (s:=a.to s (h x)) (t:=b.to t (k x)) (fun y hy=>hk y (by simp[hy])) (b.I9 _ _)
  obtain⟨e1,e2⟩:=vx (x:=h x) (hk x (by simp))
  have e:(mm o a b).st (s*16+t) (h x*b.c+k x)=a.to s (h x)*16+b.to t (k x):=by
   show a.to ((s*16+t)/16) _*16+b.to ((s*16+t)%16) _=_
   rw[e1,e2,show(s*16+t)/16=s by omega,show(s*16+t)%16=t by omega]
  unfold Mc.run at this⊢
  rw[cJ,cU,e]
  exact this
theorem sr {v:Nat} {a b:En} {p q:Lg} (o:Bool→Bool→Bool) (ha:vv v a.mc p) (hb:vv v b.mc q):vv v (mm o a b) (fun u=>o (p u) (q u)):=by
 obtain⟨h,h1,h2⟩:=ha
 obtain⟨k,k1,k2⟩:=hb
 refine⟨fun x=>h x*b.c+k x,fun x hx=>z_ (h1 x hx) (k1 x hx),fun w hw=>?_⟩
 have:=Pr o a b h k w (s:=0) (t:=0) (fun x hx=>k1 x (by simpa using hw x hx)) (by decide)
 show o (p w) (q w)=o (a.fi ((mm o a b).run 0 _/16)) (b.fi ((mm o a b).run 0 _%16))
 have e:(mm o a b).run 0 (w.map fun x=>h x*b.c+k x)=a.mc.run 0 (w.map h)*16+b.mc.run 0 (w.map k):=this.1
 rw[e,show(a.mc.run 0 (w.map h)*16+b.mc.run 0 (w.map k))/16=a.mc.run 0 (w.map h) by have:=this.2;omega,show(a.mc.run 0 (w.map h)*16+b.mc.run 0 (w.map k))%16=b.mc.run 0 (w.map k) by have:=this.2;omega,h2 w hw,k2 w hw]
 rfl
theorem Jb (b:En) (m y t:Nat): ∀n,(Nat.rec (motive:=fun _=>Nat) 0 (fun k ih=>ih|||cond (m.testBit k) (2^b.to k y) 0) n:Nat).testBit t=true↔ ∃q,q<n∧m.testBit q=true∧b.to q y=t
 |0=>by
  show(0:Nat).testBit t=true↔_
  simp
 |n+1=>by
  have ih:=Jb b m y t n
  show((Nat.rec (motive:=fun _=>Nat) 0 (fun k ih=>ih|||cond (m.testBit k) (2^b.to k y) 0) n:Nat)|||cond (m.testBit n) (2^b.to n y) 0).testBit t=true↔_
  rw[Nat.testBit_or,Bool.or_eq_true,ih]
  constructor
  ·rintro(⟨q,h1,h2⟩|h)
   ·exact⟨q,by omega,h2⟩
   ·cases hm:m.testBit n with
    |false=>rw[hm]at h;simp at h
    |true=>
     rw[hm]at h
     have h:(2^b.to n y).testBit t=true:=h
     rw[Nat.testBit_two_pow]at h
     exact⟨n,by omega,hm,by simpa using h⟩
  ·rintro⟨q,h1,h2,h3⟩
   rcases Nat.lt_succ_iff_lt_or_eq.1 h1 with c|rfl
   ·exact .inl ⟨q,c,h2,h3⟩
   ·refine .inr ?_
    rw[h2]
    show(2^b.to q y).testBit t=true
    rw[Nat.testBit_two_pow];simpa using h3
theorem C1 {b:En} {m y t:Nat}:(Xw b m y).testBit t=true↔ ∃q,q<16∧m.testBit q=true∧b.to q y=t:=Jb b m y t 16
theorem qF (c:Bool) (t:Nat):c.toNat.testBit t=true↔c=true∧t=0:=by
 cases c with
 |false=>simp
 |true=>
  show(2^0).testBit t=true↔_
  rw[Nat.testBit_two_pow];simp[eq_comm]
theorem Aa {m f:Nat}:(!Nat.beq (m&&&f) 0)=true↔ ∃q,m.testBit q=true∧f.testBit q=true:=by
 rw[Bool.not_eq_true']
 constructor
 ·intro h
  have h2:m&&&f≠0:=Nat.ne_of_beq_eq_false h
  obtain⟨q,hq⟩:=Nat.exists_testBit_of_ne_zero h2
  rw[Nat.testBit_and,ar]at hq
  exact⟨q,hq⟩
 ·rintro⟨q,h1,h2⟩
  cases hb:Nat.beq (m&&&f) 0 with
  |false=>rfl
  |true=>
   have h3:=Nat.eq_of_beq_eq_true hb
   have h4:(m&&&f).testBit q=true:=by rw[Nat.testBit_and,h1,h2];rfl
   rw[h3]at h4;simp at h4
theorem lr (m:Mc) (s:Nat) (w:List Nat) (x:Nat):m.run s (w++[x])=m.st (m.run s w) x:=by unfold Mc.run;rw[cT];rfl
theorem BQ (e:En): ∀ {w:List Nat},e.mc.run 0 w<16:=by
 intro w
 rcases List.eq_nil_or_concat w with rfl|⟨u,x,rfl⟩
 ·exact Nat.zero_lt_succ _
 ·rw[List.concat_eq_append,lr];exact e.I9 _ _
theorem um {α:Type} {w u t:List α} {x:α} (h:w++[x]=u++t):(t=[]∧u=w++[x])∨ ∃t',t=t'++[x]∧w=u++t':=by
 rcases List.eq_nil_or_concat t with rfl|⟨t',y,rfl⟩
 ·exact .inl ⟨F,by simpa using h.symm⟩
 ·rw[List.concat_eq_append,←aV]at h
  have:=List.append_inj' h F
  refine .inr ⟨t',?_,this.1⟩
  rw[List.concat_eq_append,List.singleton_inj.1 this.2]
theorem Fj {a b:En} {h k:Nat→Nat}: ∀(n:Nat) {w:List Nat},w.length=n→(∀x∈w,k x<b.c)→ ∃m,(pS a b).run (pS a b).s0 (w.map fun x=>h x*b.c+k x)=a.mc.run 0 (w.map h)+16*m∧ ∀q,m.testBit q=true↔ ∃u t,w=u++t∧a.fi (a.mc.run 0 (u.map h))=true∧b.mc.run 0 (t.map k)=q
 |0,w,hl,_=>by
  have:=List.length_eq_zero_iff.1 hl
  subst this
  refine⟨0|||(a.fi 0).toNat,F,fun q=>?_⟩
  rw[Nat.zero_or,qF]
  constructor
  ·rintro⟨h1,rfl⟩;exact⟨[],[],F,h1,F⟩
  ·rintro⟨u,t,e,h1,h2⟩
   have:=List.append_eq_nil_iff.1 e.symm
   obtain⟨rfl,rfl⟩:=this
   exact⟨h1,h2.symm⟩
 |n+1,w,hl,hk=>by
  rcases List.eq_nil_or_concat w with rfl|⟨w,x,rfl⟩
  ·cases hl
  rw[List.concat_eq_append]at hl hk⊢
  obtain⟨m,h1,h2⟩:=Fj (a:=a) (b:=b) (h:=h) (k:=k) n (w:=w) (by simpa using hl) (fun y hy=>hk y (by simp[hy]))
  obtain⟨e1,e2⟩:=vx (x:=h x) (hk x (by simp))
  have gQ:=BQ a (w:=w.map h)
  obtain⟨P,hP⟩: ∃P,P=a.to (a.mc.run 0 (w.map h)) (h x):=⟨_,F⟩
  have e3:a.mc.run 0 ((w++[x]).map h)=P:=by rw[bm,List.map_singleton,lr,hP];rfl
  refine⟨Xw b m (k x)|||(a.fi P).toNat,?_,fun q=>?_⟩
  ·rw[e3,bm,List.map_singleton,lr,h1]
   show fo (a.to ((_+16*m)%16) _) (fun p=>Xx a p (Xw b ((_+16*m)/16) _))=_
   rw[Fi,e1,e2,show(a.mc.run 0 (w.map h)+16*m)%16=a.mc.run 0 (w.map h) by omega,show(a.mc.run 0 (w.map h)+16*m)/16=m by omega,←hP]
   rfl
  ·rw[Nat.testBit_or,Bool.or_eq_true,C1,qF]
   constructor
   ·rintro(⟨r,_,hr,rfl⟩|⟨hf,rfl⟩)
    ·obtain⟨u,t,rfl,h3,h4⟩:=(h2 r).1 hr
     refine⟨u,t++[x],by simp,h3,?_⟩
     rw[bm,List.map_singleton,lr,h4];rfl
    ·exact⟨w++[x],[],by simp,by rw[e3];exact hf,F⟩
   ·rintro⟨u,t,e,h3,h4⟩
    rcases um e with⟨rfl,rfl⟩|⟨t',rfl,rfl⟩
    ·rw[e3]at h3;exact .inr ⟨h3,h4.symm⟩
    ·refine .inl ⟨b.mc.run 0 (t'.map k),BQ b,(h2 _).2 ⟨u,t',F,h3,F⟩,?_⟩
     rw[←h4,bm,List.map_singleton,lr];rfl
theorem Jc {v:Nat} {a b:En} {p q:Lg} (ha:vv v a.mc p) (hb:vv v b.mc q):vv v (pS a b) (iV p q):=by
 obtain⟨h,h1,h2⟩:=ha
 obtain⟨k,k1,k2⟩:=hb
 refine⟨fun x=>h x*b.c+k x,fun x hx=>z_ (h1 x hx) (k1 x hx),fun w hw=>?_⟩
 obtain⟨m,e1,e2⟩:=Fj (a:=a) (b:=b) (h:=h) (k:=k) _ (w:=w) F (fun x hx=>k1 x (by simpa using hw x hx))
 rw[dN,e1]
 have gQ:=BQ a (w:=w.map h)
 show _↔(!Nat.beq ((a.mc.run 0 (w.map h)+16*m)/16&&&b.f) 0)=true
 rw[show(a.mc.run 0 (w.map h)+16*m)/16=m by omega,Aa,ir]
 constructor
 ·rintro⟨x,y,rfl,hx,hy⟩
  rw[h2 x (fun z hz=>hw z (by simp[hz]))]at hx
  rw[k2 y (fun z hz=>hw z (by simp[hz]))]at hy
  exact⟨_,(e2 _).2 ⟨x,y,F,hx,F⟩,hy⟩
 ·rintro⟨r,hr,hf⟩
  obtain⟨x,y,rfl,hx,rfl⟩:=(e2 r).1 hr
  refine⟨x,y,F,?_,?_⟩
  ·rw[h2 x (fun z hz=>hw z (by simp[hz]))];exact hx
  ·rw[k2 y (fun z hz=>hw z (by simp[hz]))];exact hf
theorem BS {a:En} {h:Nat→Nat}: ∀(n:Nat) {w:List Nat},w.length=n→(((oC a).run 65537 (w.map h)).testBit 16=true↔w=[])∧ ∀q,q<16→(((oC a).run 65537 (w.map h)).testBit q=true↔ ∃u t,w=u++t∧jh (fun z=>a.fi (a.mc.run 0 (z.map h))) u∧a.mc.run 0 (t.map h)=q)
 |0,w,hl=>by
  have:=List.length_eq_zero_iff.1 hl
  subst this
  refine⟨by simp[Mc.run];decide,fun q hq=>?_⟩
  have e:(65537:Nat)=2^16|||2^0:=by decide
  show(65537:Nat).testBit q=true↔_
  rw[e,Nat.testBit_or,Nat.testBit_two_pow,Nat.testBit_two_pow]
  simp only[Bool.or_eq_true,cj]
  constructor
  ·rintro(rfl|rfl)
   ·omega
   ·exact⟨[],[],F,.nil,F⟩
  ·rintro⟨u,t,e,h1,h2⟩
   obtain⟨rfl,rfl⟩:=List.append_eq_nil_iff.1 e.symm
   exact .inr h2
 |n+1,w,hl=>by
  rcases List.eq_nil_or_concat w with rfl|⟨w,x,rfl⟩
  ·cases hl
  rw[List.concat_eq_append]at hl⊢
  obtain⟨_,h2⟩:=BS (a:=a) (h:=h) n (w:=w) (by simpa using hl)
  obtain⟨m,hm⟩: ∃m,m=Xw a ((oC a).run 65537 (w.map h)) (h x):=⟨_,F⟩
  have e1:(oC a).run 65537 ((w++[x]).map h)=m|||(!Nat.beq (m&&&a.f) 0).toNat:=by
   rw[bm,List.map_singleton,lr]
   show fo (Xw a ((oC a).run 65537 (w.map h)) (h x)) (fun m=>m|||(!Nat.beq (m&&&a.f) 0).toNat)=_
   rw[Fi,←hm]
  have hb: ∀q,m.testBit q=true↔ ∃u t,w=u++t∧jh (fun z=>a.fi (a.mc.run 0 (z.map h))) u∧a.mc.run 0 ((t++[x]).map h)=q:=fun q=>by
   rw[hm,C1]
   constructor
   ·rintro⟨r,hr,h3,rfl⟩
    obtain⟨u,t,rfl,h4,h5⟩:=(h2 r hr).1 h3
    refine⟨u,t,F,h4,?_⟩
    rw[bm,List.map_singleton,lr,h5];rfl
   ·rintro⟨u,t,rfl,h4,h5⟩
    refine⟨a.mc.run 0 (t.map h),BQ a,(h2 _ (BQ a)).2 ⟨u,t,F,h4,F⟩,?_⟩
    rw[←h5,bm,List.map_singleton,lr];rfl
  have hs:(!Nat.beq (m&&&a.f) 0)=true↔jh (fun z=>a.fi (a.mc.run 0 (z.map h))) (w++[x]):=by
   rw[Aa]
   constructor
   ·rintro⟨q,h3,h4⟩
    obtain⟨u,t,rfl,h5,rfl⟩:=(hb q).1 h3
    rw[aV];exact h5.snoc h4
   ·intro hs
    obtain⟨u,t,e,h5,h6,h7⟩:=hs.last (by simp)
    rcases um e with⟨rfl,_⟩|⟨t',rfl,rfl⟩
    ·exact absurd F h7
    ·exact⟨_,(hb _).2 ⟨u,t',F,h5,F⟩,h6⟩
  rw[e1]
  refine⟨?_,fun q hq=>?_⟩
  ·rw[Nat.testBit_or,Bool.or_eq_true,qF,hm,C1]
   constructor
   ·rintro(⟨r,_,_,h3⟩|⟨_,h3⟩)
    ·have:=a.I9 r (h x);omega
    ·omega
   ·intro h3;simp at h3
  ·rw[Nat.testBit_or,Bool.or_eq_true,qF,hs,hb]
   constructor
   ·rintro(⟨u,t,rfl,h3,h4⟩|⟨h3,rfl⟩)
    ·exact⟨u,t++[x],by simp,h3,h4⟩
    ·exact⟨w++[x],[],by simp,h3,F⟩
   ·rintro⟨u,t,e,h3,h4⟩
    rcases um e with⟨rfl,rfl⟩|⟨t',rfl,rfl⟩
    ·exact .inr ⟨h3,h4.symm⟩
    ·exact .inl ⟨u,t',F,h3,h4⟩
theorem jh.congr {p q:Lg} {v:Int} (h: ∀w,iS v w→p w=q w): ∀ {w:List Nat},iS v w→jh p w→jh q w:=by
 intro w hw hs
 induction hs with
 |nil=>exact .nil
 |tP h1 _ ih=>exact .tP (by rw[←h _ (fun z hz=>hw z (by simp[hz]))];exact h1) (ih fun z hz=>hw z (by simp[hz]))
theorem Fk {v:Nat} {a:En} (hf:a.f<65536) {p:Lg} (ha:vv v a.mc p):vv v (oC a) (rM p):=by
 obtain⟨h,h1,h2⟩:=ha
 refine⟨h,h1,fun w hw=>?_⟩
 obtain⟨e1,e2⟩:=BS (a:=a) (h:=h) _ (w:=w) F
 have oG: ∀q,a.f.testBit q=true→q<16:=fun q hq=>by
  rcases Nat.lt_or_ge q 16 with c|c
  ·exact c
  ·rw[Nat.testBit_lt_two_pow (eQ hf (ck (by decide) c:(2^16:Nat)≤2^q))]at hq;cases hq
 rw[dN,sK]
 show _↔(((oC a).run 65537 (w.map h)).testBit 16||!Nat.beq ((oC a).run 65537 (w.map h)&&&a.f) 0)=true
 rw[Bool.or_eq_true,e1,Aa]
 constructor
 ·intro hs
  by_cases hn:w=[]
  ·exact .inl hn
  ·obtain⟨u,t,rfl,h3,h4,_⟩:=(jh.congr (fun u hu=>h2 u hu) hw hs).last hn
   exact .inr ⟨_,(e2 _ (BQ a)).2 ⟨u,t,F,h3,F⟩,h4⟩
 ·rintro(rfl|⟨q,h3,h4⟩)
  ·exact .nil
  ·obtain⟨u,t,rfl,h5,rfl⟩:=(e2 q (oG q h4)).1 h3
   exact jh.congr (fun u hu=>(h2 u hu).symm) hw (h5.snoc h4)
theorem uo {v:Nat} (hv:v≤6) {m:Mc} {p:Lg} (hr:vv v m p) {L:List Nat} (h0:m.s0∈L) (hc: ∀s∈L,∀x,x<m.c→m.st s x∈L) (hn:L.length≤4096): ∃D,HasL (v:Int) L.length D p:=by
 obtain⟨h,h1,h2⟩:=hr
 have hp:0<L.length:=List.length_pos_of_mem h0
 have hl:(2:Nat)^((v:Int)).toNat=2^v:=by simp
 obtain⟨D,hD⟩: ∃D:c_,D=⟨(v:Int),((ix m.s0 L:Nat):Int),L.map (fun s=>(List.range (2^v)).map fun x=>((ix (m.st s (h x)) L:Nat):Int)),L.map m.fi⟩:=⟨_,F⟩
 have rn:D.next=L.map (fun s=>(List.range (2^v)).map fun x=>((ix (m.st s (h x)) L:Nat):Int)):=by rw[hD]
 have iH:D.next.length=L.length:=by rw[rn,ai]
 have hix:=tB h0
 have nm:Valid D:=by
  refine⟨⟨by rw[hD];exact Int.natCast_nonneg _,by rw[hD];show(v:Int)≤6;omega,by rw[iH];exact hp,by rw[iH,hD];simp,by rw[hD];exact Int.natCast_nonneg _,by rw[iH,hD];show((ix m.s0 L:Nat):Int)<_;omega,fun r hr=>?_,fun r hr x hx=>?_⟩,by rw[iH];exact hn⟩
  ·rw[rn]at hr
   obtain⟨s,_,rfl⟩:=List.mem_map.1 hr
   rw[hD];simp
  ·rw[rn]at hr
   obtain⟨s,hs,rfl⟩:=List.mem_map.1 hr
   obtain⟨y,hy,rfl⟩:=List.mem_map.1 hx
   have:=tB (hc s hs (h y) (h1 y (List.mem_range.1 hy)))
   exact⟨Int.natCast_nonneg _,by rw[iH];omega⟩
 refine⟨D,nm,by rw[iH];exact aI _,by rw[hD],fun w hw=>?_⟩
 have run: ∀(u:List Nat) {s:Nat},s∈L→iS (v:Int) u→runN D (ix s L) u=ix (m.run s (u.map h)) L∧m.run s (u.map h)∈L:=by
  intro u
  induction u with
  |nil=>exact fun hs _=>⟨F,hs⟩
  |cons x u ih=>
   intro s hs hu
   have hx:x<2^v:=by have:=hu x (by simp);rwa[hl]at this
   have hm:=hc s hs (h x) (h1 x hx)
   have ht:fm D (ix s L) x=ix (m.st s (h x)) L:=by
    unfold fm
    simp only[rn,au,bl,qB hs,Option.map_some,Option.getD_some,List.getElem?_range hx,Int.toNat_natCast]
   have:=ih hm fun y hy=>hu y (by simp[hy])
   unfold runN Mc.run at this⊢
   rw[cJ,cU,cU,ht]
   exact this
 obtain⟨e1,e2⟩:=run w h0 hw
 unfold jf
 have e0:D.start.toNat=ix m.s0 L:=by rw[hD];rfl
 rw[e0,e1,h2 w hw]
 unfold dR
 have e3:D.aT=L.map m.fi:=by rw[hD]
 rw[e3,au,bl,qB e2]
 rfl
def aeR:List En:=[⟨1,1,0x0,0⟩,⟨1,2,0x11,1⟩,⟨2,3,0x222221,2⟩,⟨1,1,0x0,1⟩,⟨1,2,0x11,2⟩,⟨2,3,0x222221,5⟩,⟨2,2,0x1110,1⟩,⟨2,2,0x1110,2⟩,⟨4,4,0x2222222232322211,8⟩,⟨2,3,0x222221,3⟩,⟨4,4,0x2222222232322211,7⟩,⟨2,3,0x222221,4⟩,⟨2,3,0x222121,5⟩,⟨4,3,0x222220202211,1⟩,⟨2,3,0x221121,2⟩,⟨2,4,0x33223321,8⟩,⟨4,5,0x44444444222243432211,18⟩,⟨4,3,0x222221212211,2⟩,⟨2,3,0x111121,3⟩,⟨3,4,0x333333331321,7⟩,⟨2,3,0x111121,4⟩,⟨2,2,0x1010,2⟩,⟨2,3,0x212111,4⟩,⟨4,5,0x43434343444444444321,10⟩,⟨4,4,0x3333333332103210,6⟩,⟨2,3,0x222121,2⟩,⟨4,3,0x222220202211,6⟩,⟨2,3,0x221121,5⟩,⟨2,4,0x33223321,7⟩,⟨4,5,0x44444444222243432211,13⟩,⟨4,3,0x222221212211,5⟩,⟨3,4,0x333333331321,8⟩,⟨2,2,0x1010,1⟩,⟨2,3,0x212111,3⟩,⟨4,5,0x43434343444444444321,21⟩,⟨4,4,0x3333333332103210,9⟩,⟨2,3,0x221121,3⟩,⟨2,4,0x33223321,9⟩,⟨3,5,0x333333222433221,11⟩,⟨3,3,0x222211221,3⟩,⟨2,3,0x212111,5⟩,⟨3,4,0x331333331321,3⟩,⟨3,3,0x222210210,1⟩,⟨4,4,0x3333222231312211,8⟩,⟨8,5,0x2222222242424242222222223322332222221111,16⟩,⟨4,4,0x2222222232322211,10⟩,⟨4,4,0x2222222232322211,9⟩,⟨3,4,0x323222323321,6⟩,⟨8,5,0x4444444442424242444444444242424244332211,6⟩,⟨1,3,0x221,4⟩,⟨4,3,0x222221212100,3⟩,⟨4,4,0x3333323233113210,7⟩,⟨3,4,0x323222323321,9⟩,⟨3,4,0x333322322321,5⟩,⟨4,3,0x212121211100,4⟩,⟨4,5,0x44444444434343434321,10⟩,⟨2,3,0x221121,4⟩,⟨2,4,0x33223321,6⟩,⟨3,5,0x333333222433221,20⟩,⟨3,3,0x222211221,4⟩,⟨2,3,0x212111,2⟩,⟨3,4,0x331333331321,12⟩,⟨3,3,0x222210210,6⟩,⟨4,4,0x3333222231312211,7⟩,⟨8,5,0x2222222242424242222222223322332222221111,15⟩,⟨4,4,0x2222222232322211,5⟩,⟨4,4,0x2222222232322211,6⟩,⟨8,5,0x4444444442424242444444444242424244332211,25⟩,⟨1,3,0x221,3⟩,⟨4,3,0x222221212100,4⟩,⟨4,4,0x3333323233113210,8⟩,⟨3,4,0x333322322321,10⟩,⟨4,3,0x212121211100,3⟩,⟨4,5,0x44444444434343434321,21⟩,⟨4,4,0x3333222230302211,5⟩,⟨3,4,0x333333331321,9⟩,⟨4,4,0x3030022000003210,5⟩,⟨4,4,0x3333222231312211,9⟩,⟨8,4,0x20202020222222223322332222221111,1⟩,⟨3,3,0x222201221,3⟩,⟨3,3,0x212111210,3⟩,⟨8,4,0x33333333303030303021110033221100,3⟩,⟨1,3,0x221,5⟩,⟨4,4,0x3232323222112211,9⟩,⟨3,3,0x222220210,1⟩,⟨8,6,0x444444444444444454545454222222224433443322221111,26⟩,⟨4,5,0x44444444222243432211,16⟩,⟨4,5,0x44444343222243432211,18⟩,⟨8,4,0x21212121222222223322332222221111,2⟩,⟨4,4,0x3333222232322211,8⟩,⟨4,5,0x44444444222232322211,16⟩,⟨8,6,0x555555555555555554545454222222223322332222221111,40⟩,⟨8,4,0x32323232222222223322332222221111,8⟩,⟨4,5,0x33333333222243432211,10⟩,⟨6,5,0x222222232232222222432432222111,26⟩,⟨4,4,0x3131222231312211,8⟩,⟨4,5,0x43434343222233332211,16⟩,⟨8,7,0x65656565656565656666666666666666222222226543654322221111,40⟩,⟨8,5,0x2222222243214321222222224321432122221111,24⟩,⟨4,5,0x44444444222243432211,19⟩,⟨4,3,0x222221212211,3⟩,⟨2,3,0x111121,5⟩,⟨4,5,0x43434343444444444321,11⟩,⟨4,4,0x3333333332103210,5⟩,⟨2,3,0x111121,2⟩,⟨3,4,0x323222323321,7⟩,⟨8,6,0x443344334444444454545454444444445454545444332211,39⟩,⟨3,4,0x333333111321,6⟩,⟨4,5,0x44441111444411114321,6⟩,⟨6,6,0x555555555555333333333333545454332211,38⟩,⟨6,4,0x333333333333313131332211,6⟩,⟨3,3,0x221221211,2⟩,⟨4,3,0x212121212211,2⟩,⟨6,5,0x444242444444444242444444432211,6⟩,⟨6,5,0x444444434231444444434231432211,6⟩,⟨4,4,0x3120110031201100,12⟩,⟨2,3,0x222111,4⟩,⟨4,5,0x42312211423122111111,24⟩,⟨8,7,0x54635463443344334433443354635463444444445454545444332211,96⟩,⟨8,8,0x3333333373737373736251403322110033333333737373737362514033221100,240⟩,⟨3,3,0x222222210,3⟩,⟨8,6,0x444444444444444454545454444422225454222244332211,39⟩,⟨3,3,0x222211210,2⟩,⟨2,3,0x222210,4⟩,⟨3,3,0x222221211,3⟩,⟨8,7,0x44444444444444444433443344334433645364536453645344332211,42⟩,⟨4,4,0x3232323222222211,8⟩,⟨4,5,0x43434343442244224321,10⟩,⟨8,5,0x4444444444444444404040404040404044332211,10⟩,⟨4,5,0x22222222212121214321,10⟩,⟨6,7,0x666666666666656565656565656521656521654321,42⟩,⟨4,4,0x1111313111112211,8⟩]
def nl (i:Nat):En:=aeR.getD i ⟨0,0,0,0⟩
def K1:List (List Nat):=[[],[0,1,2],[1,3,4,5,6],[0,1,2,3,4,5,6,7,8,9],[0,1,2,3,4,5,6,7,9,10,11,12,13,14,15,16,17,18,19,20,21,22,23,24],[0,1,2,3,4,5,6,7,8,9,11,12,13,14,15,16,17,18,19,20,21,22,23,24,25,26,27,28,29,30,31,32,33,34,35,36,37,38,39,40,41,42,43,44,45,46,47,48,49,50,51,52,53,54,55],[0,1,2,3,4,5,6,7,8,9,10,11,12,13,14,15,16,17,18,19,20,21,22,23,24,25,26,27,28,29,30,31,32,33,34,35,36,37,38,39,40,41,42,43,45,46,47,49,50,51,52,53,54,55,56,57,58,59,60,61,62,63,64,65,66,67,68,69,70,71,72,73,74,75,76,77,78,79,80,81,82,83,84,85,86,87,88,89,90,91,92,93,94,95,96,97,98,99,100,101,102,103,104,105,106,107,108,109,110,111,112,113,114,115,116,117,118,119,120,121,122,123,124,125,126,127,128,129,130,131]]
def un2:List (List Nat):=[[3,4,4101],[1,1,4102]]
def un3:List (List Nat):=[[4,0,1,4098,4103],[1,3,3,4101,4102]]
def ca3:List (List (List Nat)):=[[[0,0,0],[0,1,4098],[0,4098,2294024]]]
def or3:List (List (List Nat)):=[[[0,1,4098],[1,1,4105],[4098,4105,1048578]]]
def an3:List (List (List Nat)):=[[[0,0,0],[0,1,0],[0,0,1118210]]]
def un4:List (List Nat):=[[3,4,4101,0,1,4098,4103,4102,3280906,4107],[1,1,4102,3,3,4101,4102,4108,2294029,4102]]
def ca4:List (List (List Nat)):=[[[0,0,0,0,0],[1,3,4,4101,4102],[4098,4110,4111,3280912,3280913]],[[0,1,4098],[0,3,277],[0,4,278],[0,4101,3280919],[0,4102,3277080]]]
def or4:List (List (List Nat)):=[[[1,3,4,4101,4102],[1,3,3,4101,4102],[4105,3,4,65554,2101267]]]
def an4:List (List (List Nat)):=[[[0,0,0,0,0],[1,1,0,1,1],[0,4098,4098,4116,1118210]]]
def un5:List (List Nat):=[[3,4,4101,0,1,4098,4103,4102,4107,3280904,4105,4121,3280922,4123,4124,3280925,3280926,4116,135199,4114,4128,4129,3280930,3280931],[1,1,4102,3,3,4101,4102,4108,4102,3,4101,4108,3280909,4132,4133,1179686,2162727,4114,65542,262,288,4136,2101289,2097450]]
def ca5:List (List (List Nat)):=[[[0,0,0,0,0,0,0,0,0,0],[0,1,4098,3,4,4101,4102,4103,3280904,4105],[0,4098,2294024,4110,4111,3280912,3280913,3280939,362758025772,2294061]],[[1,3,4,4101,4102],[3,3,4,3,3],[4,4,49,4,4],[4101,3,4,1118213,4114],[4102,3,4,65554,3280946]],[[0,0,0],[0,1,4098],[0,4098,2294024],[0,3,277],[0,4,278],[0,4101,3280919],[0,4102,3277080],[0,4103,2294070],[0,3280904,443541553452],[0,4105,3280951]]]
def or5:List (List (List Nat)):=[[[0,1,4098,3,4,4101,4102,4103,3280904,4105],[1,1,4105,3,3,4101,4102,4108,3280942,4105],[4098,4105,1048578,3,4,65554,2101267,1183791,443541553456,1048585]],[[1,3,3,4101,4102],[3,3,3,3,3],[3,3,4,3,3],[4101,3,3,1118213,4114],[4102,3,3,65554,3280947]]]
def an5:List (List (List Nat)):=[[[0,0,0,0,0,0,0,0,0,0],[0,1,0,1,0,1,1,0,0,1],[0,0,1118210,4098,4098,4116,1118210,4116,0,1118210]],[[1,1,0,1,1],[1,3,4,4101,4102],[0,4,4,4107,4121],[1,4101,4107,1048581,1183796],[1,4102,4121,2232373,1118214]]]
def un6:List (List Nat):=[[3,4,4101,0,1,4098,4103,4102,3280906,4107,4105,4121,3280922,4123,4124,3280925,3280926,4116,135199,4114,4128,4129,3280930,3280931,4108,3280909,4110,4111,3280912,3280913,135187,4117,4118,3280919,3280920,4152,4153,135226,135227,4156,135229,135230,3280959,508218708032,3280961,3280962,135220,508218708035,68,3280965,3280966,135215,135239,3280968,3280969],[1,1,4102,3,3,4101,4102,4108,2294029,4102,4101,4108,3280909,4132,4133,1179686,2162727,4114,65542,262,288,4136,2101289,2097450,4102,3,4123,3,3280970,3280926,135243,4128,3,205132,3280931,4132,4133,135206,135207,4136,135209,135210,3280973,443541553486,1179727,2294029,135248,508216488529,82,1048582,1048582,135220,135221,3280979,2101332]]
def ca6:List (List (List Nat)):=[[[0,0,0,0,0,0,0,0,0,0,0,0,0,0,0,0,0,0,0,0,0,0,0,0],[0,1,4098,3,4,4101,4102,4103,4105,3280906,4107,4108,3280909,4110,4111,3280912,3280913,4114,135187,4116,4117,4118,3280919,3280920],[0,4098,2294024,4110,4111,3280912,3280913,3280939,2294061,508218708053,3280982,3280983,362758025816,2294105,2294106,362758025819,298080871260,3280989,893395294,3280904,3280991,3280992,508218708065,375341129826]],[[0,1,4098,3,4,4101,4102,4103,3280904,4105],[0,3,277,3,4,3,3,4103,1061491,3],[0,4,278,4,49,4,4,4212,1061493,4],[0,4101,3280919,3,4,1118213,4114,1052679,508218708086,4114],[0,4102,3277080,3,4,65554,3280946,1052679,508216488567,2162808]],[[0,0,0,0,0],[1,3,4,4101,4102],[4098,4110,4111,3280912,3280913],[3,3,4,3,3],[4,4,49,4,4],[4101,3,4,1118213,4114],[4102,3,4,65554,3280946],[4103,4103,4219,1114119,1114119],[3280904,3280985,3280986,508218708059,443541553500],[4105,3,4,65554,2101372]],[[0,0,0],[0,1,4098],[0,4098,2294024],[0,3,277],[0,4,278],[0,4101,3280919],[0,4102,3277080],[0,4103,2294070],[0,4105,3280951],[0,3280906,504192114813],[0,4107,2294142],[0,4108,3281023],[0,3280909,504192114816],[0,4110,2294111],[0,4111,2294112],[0,3280912,508218708065],[0,3280913,374837805666],[0,4114,3281025],[0,135187,1412567170],[0,4116,2294147],[0,4117,2294131],[0,4118,2294133],[0,3280919,443541553526],[0,3280920,443541553527]]]
def or6:List (List (List Nat)):=[[[0,1,4098,3,4,4101,4102,4103,4105,3280906,4107,4108,3280909,4110,4111,3280912,3280913,4114,135187,4116,4117,4118,3280919,3280920],[1,1,4105,3,3,4101,4102,4108,4105,3280906,4101,4108,3280909,4132,4133,3280995,3280996,4114,135187,4197,288,4136,3280998,3277159],[4098,4105,1048578,3,4,65554,2101267,1183791,1048585,215020081162,65640,1183849,443541553514,2101355,3281004,361048969325,361048969326,1048594,553717779,65538,131439,2294128,353264341105,352257704306]],[[1,1,4105,3,3,4101,4102,4108,3280942,4105],[3,3,3,3,3,3,3,3,3,3],[4,3,4,3,4,3,3,4,4,3],[4101,4101,4114,3,3,1118213,4114,1118213,73299656709,4114],[4102,4102,2162707,3,3,65554,3280947,1183824,508218708089,2162707]]]
def an6:List (List (List Nat)):=[[[0,0,0,0,0,0,0,0,0,0,0,0,0,0,0,0,0,0,0,0,0,0,0,0],[0,1,0,1,0,1,1,0,1,1,0,1,1,0,0,0,0,1,1,0,0,0,0,0],[0,0,1118210,4098,4098,4116,1118210,4116,1118210,73299656706,4116,4116,0,1118210,0,73300770818,73300770818,1118210,286326786,4116,4116,0,73300709378,69652]],[[0,1,0,1,0,1,1,0,0,1],[0,1,4098,3,4,4101,4102,4103,3280904,4105],[0,0,4098,4,4,4107,4121,4103,3280904,4098],[0,1,65556,4101,4107,1048581,1183796,2101279,215020081160,65637],[0,1,1118210,4102,4121,2232373,1118214,2232442,146602594312,1118217]]]
def QE (k:Nat) (e:En):Prop:= ∃i∈K1.getD k [],e=nl i
def aeT (k i:Nat):Bool:=(K1.getD k []).contains i
noncomputable def okT (k:Nat) (m:Mc) (ct:Nat):Bool:=
 aeT k (ct%256)&&(vw m.c (fun x=>Nat.blt (((ct/256)>>>(4*x))%16) (nl (ct%256)).c)&&Yy m (nl (ct%256)) (ct/256) (Pq m.c (fun s x=>m.st (s/16) x*16+(nl (ct%256)).to (s%16) (((ct/256)>>>(4*x))%16)) 40 [m.s0*16] [m.s0*16]))
def Hp {α β:Type} (p:α→β→Bool):List α→List β→Bool
 | [],_=>true
 |x::l,y::m=>p x y&&Hp p l m
 |_::_,[]=>false
theorem vy {α β:Type} {p:α→β→Bool}: ∀ {l:List α} {m:List β},Hp p l m=true→ ∀x∈l,∃y,p x y=true
 | [],_,_,x,hx=>by simp at hx
 |_::_,[],h,_,_=>by simp[Hp]at h
 |a::l,y::m,h,x,hx=>by
  simp only[Hp,ar]at h
  rcases List.mem_cons.1 hx with rfl|hx
  ·exact⟨y,h.1⟩
  ·exact vy h.2 x hx
theorem Jd {v k:Nat} {m:Mc} {p:Lg} {ct:Nat} (h:okT k m ct=true) (hr:vv v m p): ∃e,QE k e∧vv v e.mc p:=by
 unfold okT at h
 rw[ar,ar,kL]at h
 refine⟨nl (ct%256),⟨_,?_,F⟩,I_ h.2.2 (fun x hx=>by have:=h.2.1 x hx;exact Nat.le_of_ble_eq_true this) hr⟩
 exact List.contains_iff_mem.1 h.1
noncomputable def K2 (k:Nat) (f:En→Mc) (cs:List Nat):Bool:=Hp (fun i ct=>okT (k+1) (f (nl i)) ct) (K1.getD k []) cs
noncomputable def xt (i j:Nat) (f:En→En→Mc) (cs:List (List Nat)):Bool:=Hp (fun x row=>Hp (fun y ct=>okT (i+j+1) (f (nl x) (nl y)) ct) (K1.getD j []) row) (K1.getD i []) cs
theorem Je {v k:Nat} {f:En→Mc} {cs:List Nat} (h:K2 k f cs=true) {e:En} (he:QE k e) {p:Lg} (hr:vv v (f e) p): ∃e,QE (k+1) e∧vv v e.mc p:=by
 obtain⟨i,hi,rfl⟩:=he
 obtain⟨ct,h1⟩:=vy h i hi
 exact Jd h1 hr
theorem vz {v i j:Nat} {f:En→En→Mc} {cs:List (List Nat)} (h:xt i j f cs=true) {a b:En} (ha:QE i a) (hb:QE j b) {p:Lg} (hr:vv v (f a b) p): ∃e,QE (i+j+1) e∧vv v e.mc p:=by
 obtain⟨x,hx,rfl⟩:=ha
 obtain⟨y,hy,rfl⟩:=hb
 obtain⟨row,h1⟩:=vy h x hx
 obtain⟨ct,h2⟩:=vy h1 y hy
 exact Jd h2 hr
set_option maxRecDepth 100000
theorem tn2:K2 1 zZ (un2.getD 0 [])=true:=by kernel_rfl
theorem ts2:K2 1 oC (un2.getD 1 [])=true:=by kernel_rfl
theorem tn3:K2 2 zZ (un3.getD 0 [])=true:=by kernel_rfl
theorem ts3:K2 2 oC (un3.getD 1 [])=true:=by kernel_rfl
theorem aeU:xt 1 1 pS (ca3.getD 0 [])=true:=by kernel_rfl
theorem aeV:xt 1 1 (mm or) (or3.getD 0 [])=true:=by kernel_rfl
theorem aeW:xt 1 1 (mm and) (an3.getD 0 [])=true:=by kernel_rfl
theorem tn4:K2 3 zZ (un4.getD 0 [])=true:=by kernel_rfl
theorem ts4:K2 3 oC (un4.getD 1 [])=true:=by kernel_rfl
theorem aeX:xt 1 2 pS (ca4.getD 0 [])=true:=by kernel_rfl
theorem aeY:xt 1 2 (mm or) (or4.getD 0 [])=true:=by kernel_rfl
theorem aeZ:xt 1 2 (mm and) (an4.getD 0 [])=true:=by kernel_rfl
theorem ae0:xt 2 1 pS (ca4.getD 1 [])=true:=by kernel_rfl
theorem tn5:K2 4 zZ (un5.getD 0 [])=true:=by kernel_rfl
theorem ts5:K2 4 oC (un5.getD 1 [])=true:=by kernel_rfl
theorem ae1:xt 1 3 pS (ca5.getD 0 [])=true:=by kernel_rfl
theorem ae2:xt 1 3 (mm or) (or5.getD 0 [])=true:=by kernel_rfl
theorem ae3:xt 1 3 (mm and) (an5.getD 0 [])=true:=by kernel_rfl
theorem ae4:xt 2 2 pS (ca5.getD 1 [])=true:=by kernel_rfl
theorem ae5:xt 2 2 (mm or) (or5.getD 1 [])=true:=by kernel_rfl
theorem ae6:xt 2 2 (mm and) (an5.getD 1 [])=true:=by kernel_rfl
theorem ae7:xt 3 1 pS (ca5.getD 2 [])=true:=by kernel_rfl
theorem tn6:K2 5 zZ (un6.getD 0 [])=true:=by kernel_rfl
theorem ts6:K2 5 oC (un6.getD 1 [])=true:=by kernel_rfl
theorem ae8:xt 1 4 pS (ca6.getD 0 [])=true:=by kernel_rfl
theorem ae9:xt 1 4 (mm or) (or6.getD 0 [])=true:=by kernel_rfl
theorem ae_:xt 1 4 (mm and) (an6.getD 0 [])=true:=by kernel_rfl
theorem afa:xt 2 3 pS (ca6.getD 1 [])=true:=by kernel_rfl
theorem afb:xt 2 3 (mm or) (or6.getD 1 [])=true:=by kernel_rfl
theorem afc:xt 2 3 (mm and) (an6.getD 1 [])=true:=by kernel_rfl
theorem afd:xt 3 2 pS (ca6.getD 2 [])=true:=by kernel_rfl
theorem afe:xt 4 1 pS (ca6.getD 3 [])=true:=by kernel_rfl
theorem tcA {i j:Nat} (hi:1≤i) (hj:1≤j) (h:i+j≤5): ∃cs,xt i j pS cs=true:=by
 rcases(show(i=1∧j=1)∨(i=1∧j=2)∨(i=2∧j=1)∨(i=1∧j=3)∨(i=2∧j=2)∨(i=3∧j=1)∨(i=1∧j=4)∨(i=2∧j=3)∨(i=3∧j=2)∨(i=4∧j=1) by omega)with⟨rfl,rfl⟩|⟨rfl,rfl⟩|⟨rfl,rfl⟩|⟨rfl,rfl⟩|⟨rfl,rfl⟩|⟨rfl,rfl⟩|⟨rfl,rfl⟩|⟨rfl,rfl⟩|⟨rfl,rfl⟩|⟨rfl,rfl⟩
 ·exact⟨_,aeU⟩
 ·exact⟨_,aeX⟩
 ·exact⟨_,ae0⟩
 ·exact⟨_,ae1⟩
 ·exact⟨_,ae4⟩
 ·exact⟨_,ae7⟩
 ·exact⟨_,ae8⟩
 ·exact⟨_,afa⟩
 ·exact⟨_,afd⟩
 ·exact⟨_,afe⟩
theorem toA {i j:Nat} (hi:1≤i) (hj:1≤j) (F3:i≤j) (h:i+j≤5): ∃cs,xt i j (mm or) cs=true:=by
 rcases(show(i=1∧j=1)∨(i=1∧j=2)∨(i=1∧j=3)∨(i=2∧j=2)∨(i=1∧j=4)∨(i=2∧j=3) by omega)with⟨rfl,rfl⟩|⟨rfl,rfl⟩|⟨rfl,rfl⟩|⟨rfl,rfl⟩|⟨rfl,rfl⟩|⟨rfl,rfl⟩
 ·exact⟨_,aeV⟩
 ·exact⟨_,aeY⟩
 ·exact⟨_,ae2⟩
 ·exact⟨_,ae5⟩
 ·exact⟨_,ae9⟩
 ·exact⟨_,afb⟩
theorem taA {i j:Nat} (hi:1≤i) (hj:1≤j) (F3:i≤j) (h:i+j≤5): ∃cs,xt i j (mm and) cs=true:=by
 rcases(show(i=1∧j=1)∨(i=1∧j=2)∨(i=1∧j=3)∨(i=2∧j=2)∨(i=1∧j=4)∨(i=2∧j=3) by omega)with⟨rfl,rfl⟩|⟨rfl,rfl⟩|⟨rfl,rfl⟩|⟨rfl,rfl⟩|⟨rfl,rfl⟩|⟨rfl,rfl⟩
 ·exact⟨_,aeW⟩
 ·exact⟨_,aeZ⟩
 ·exact⟨_,ae3⟩
 ·exact⟨_,ae6⟩
 ·exact⟨_,ae_⟩
 ·exact⟨_,afc⟩
theorem tnA {k:Nat} (hk:1≤k) (h:k≤5): ∃cs,K2 k zZ cs=true:=by
 rcases(show k=1∨k=2∨k=3∨k=4∨k=5 by omega)with rfl|rfl|rfl|rfl|rfl
 ·exact⟨_,tn2⟩
 ·exact⟨_,tn3⟩
 ·exact⟨_,tn4⟩
 ·exact⟨_,tn5⟩
 ·exact⟨_,tn6⟩
theorem tsA {k:Nat} (hk:1≤k) (h:k≤5): ∃cs,K2 k oC cs=true:=by
 rcases(show k=1∨k=2∨k=3∨k=4∨k=5 by omega)with rfl|rfl|rfl|rfl|rfl
 ·exact⟨_,ts2⟩
 ·exact⟨_,ts3⟩
 ·exact⟨_,ts4⟩
 ·exact⟨_,ts5⟩
 ·exact⟨_,ts6⟩
def ul (k:Nat):Nat:=[0,3,3,4,5,5,8,11].getD k 0
theorem abL:((List.range 7).all fun k=>(K1.getD k []).all fun i=>Nat.blt (nl i).f 65536&&(Nat.ble (nl i).n (ul k)&&(Nat.blt 0 (nl i).n&&vw (nl i).n fun s=>vw (nl i).c fun x=>Nat.blt ((nl i).to s x) (nl i).n)))=true:=by kernel_rfl
theorem wC {k:Nat} {e:En} (h:QE k e) (hk:k≤6):e.f<65536∧e.n≤ul k∧0<e.n∧ ∀s,s<e.n→ ∀x,x<e.c→e.to s x<e.n:=by
 obtain⟨i,hi,rfl⟩:=h
 have h1:=List.all_eq_true.1 (List.all_eq_true.1 abL k (List.mem_range.2 (by omega))) i hi
 rw[ar,ar,ar,kL]at h1
 exact⟨Nat.le_of_ble_eq_true h1.1,Nat.le_of_ble_eq_true h1.2.1,Nat.le_of_ble_eq_true h1.2.2.1,fun s hs x hx=>Nat.le_of_ble_eq_true (kL.1 (h1.2.2.2 s hs) x hx)⟩
theorem Jf {v:Nat} (hv:v≤6) {e:En} {p:Lg} (hr:vv v e.mc p) {n:Nat} (hn:e.n≤n) (h1:n≤4096) (h0:0<e.n) (hc: ∀s,s<e.n→ ∀x,x<e.c→e.to s x<e.n): ∃D,HasL (v:Int) n D p:=by
 obtain⟨D,hD⟩:=uo hv hr (L:=List.range e.n) (List.mem_range.2 h0) (fun s hs x hx=>List.mem_range.2 (hc s (List.mem_range.1 hs) x hx)) (by simp;omega)
 exact⟨D,hD.le (bE hD.len (by simpa using hn))⟩
theorem Ps {v:Nat}:vv v (nl 0).mc (fM .none):=⟨fun _=>0,fun _ _=>(by decide:0<(nl 0).c),fun w _=>(Nat.zero_testBit _).symm⟩
theorem K3 {v:Nat}:vv v (nl 1).mc (fM .empty):=by
 refine⟨fun _=>0,fun _ _=>(by decide:0<(nl 1).c),fun w _=>?_⟩
 have t0:(nl 1).to 0 0=1:=by decide
 have t1:(nl 1).to 1 0=1:=by decide
 have f0:(nl 1).fi 0=true:=by decide
 have f1:(nl 1).fi 1=false:=by decide
 cases w with
 |nil=>exact f0.symm
 |cons x w=>
  have: ∀w:List Nat,(nl 1).mc.run 1 (w.map fun _=>0)=1:=by
   intro w
   induction w with
   |nil=>rfl
   |cons x w ih=>
    show(nl 1).mc.run ((nl 1).to 1 0) (w.map fun _=>0)=1
    rw[t1];exact ih
  show _=(nl 1).fi ((nl 1).mc.run ((nl 1).to 0 0) (w.map fun _=>0))
  rw[t0,this,f1]
  rfl
theorem Hq {v p n:Nat}:vv v (nl 2).mc (fM (.letter p n)):=by
 have t0: ∀c:Bool,(nl 2).to 0 (cond c 0 1)=cond c 1 2:=by decide
 have t1: ∀c:Bool,(nl 2).to 1 (cond c 0 1)=2:=by decide
 have t2: ∀c:Bool,(nl 2).to 2 (cond c 0 1)=2:=by decide
 have f0:(nl 2).fi 0=false:=by decide
 have f1: ∀c:Bool,(nl 2).fi (cond c 1 2)=c:=by decide
 have f2:(nl 2).fi 2=false:=by decide
 have hc: ∀c:Bool,cond c 0 1<(nl 2).c:=by decide
 refine⟨fun x=>cond (gl p n x) 0 1,fun x _=>hc _,fun w _=>?_⟩
 have h2: ∀w:List Nat,(nl 2).mc.run 2 (w.map fun x=>cond (gl p n x) 0 1)=2:=by
  intro w
  induction w with
  |nil=>rfl
  |cons x w ih=>
   show(nl 2).mc.run ((nl 2).to 2 (cond (gl p n x) 0 1)) _=2
   rw[t2];exact ih
 show Kq 1 (gl p n) w=_
 cases w with
 |nil=>
  have e:Kq 1 (gl p n) []=false:=by simp[Kq]
  rw[e,gM]
  exact f0.symm
 |cons x w=>
  cases w with
  |nil=>
   show Kq 1 (gl p n) [x]=(nl 2).fi ((nl 2).to 0 (cond (gl p n x) 0 1))
   rw[t0,f1]
   simp[Kq]
  |cons y w=>
   show _=(nl 2).fi ((nl 2).mc.run ((nl 2).to ((nl 2).to 0 (cond (gl p n x) 0 1)) (cond (gl p n y) 0 1)) (w.map fun x=>cond (gl p n x) 0 1))
   have t3:(nl 2).to (cond (gl p n x) 1 2) (cond (gl p n y) 0 1)=2:=by
    cases gl p n x
    ·exact t2 _
    ·exact t1 _
   rw[t0,t3,h2,f2]
   simp[Kq]
def Rx.sz:Rx→Nat
 | .iG a b| .iR a b| .and a b=>a.sz+b.sz+1
 | .not a| .star a| .ahead a| .behind a=>a.sz+1
 |_=>1
theorem Rx.ft: ∀t:Rx,1≤t.sz
 | .none| .empty| .letter _ _=>aI _
 | .iG a b| .iR a b| .and a b=>bK _
 | .not a| .star a| .ahead a| .behind a=>bK _
theorem vv.to {v:Nat} {m:Mc} {p q:Lg} (h:vv v m p) (hq: ∀w,p w=q w):vv v m q:=by
 obtain⟨k,h1,h2⟩:=h
 exact⟨k,h1,fun w hw=>by rw[←hq];exact h2 w hw⟩
theorem iI {v:Nat}: ∀(t:Rx),t.plain=true→t.sz≤6→ ∃e,QE t.sz e∧vv v e.mc (fM t)
 | .none,_,_=>⟨_,⟨0,(by decide:0∈K1.getD 1 []),F⟩,Ps⟩
 | .empty,_,_=>⟨_,⟨1,(by decide:1∈K1.getD 1 []),F⟩,K3⟩
 | .letter p n,_,_=>⟨_,⟨2,(by decide:2∈K1.getD 1 []),F⟩,Hq⟩
 | .not a,hp,hs=>by
  have hs:a.sz+1≤6:=hs
  obtain⟨e,h1,h2⟩:=iI (v:=v) a hp (by omega)
  obtain⟨cs,hc⟩:=tnA a.ft (by omega)
  exact Je hc h1 (Ja h2)
 | .star a,hp,hs=>by
  have hs:a.sz+1≤6:=hs
  obtain⟨e,h1,h2⟩:=iI (v:=v) a hp (by omega)
  obtain⟨cs,hc⟩:=tsA a.ft (by omega)
  exact Je hc h1 (Fk (wC h1 (by omega)).1 h2)
 | .iG a b,hp,hs=>by
  have hs:a.sz+b.sz+1≤6:=hs
  simp only[Rx.plain,ar]at hp
  obtain⟨e,h1,h2⟩:=iI (v:=v) a hp.1 (by omega)
  obtain⟨f,k1,k2⟩:=iI (v:=v) b hp.2 (by omega)
  obtain⟨cs,hc⟩:=tcA a.ft b.ft (by omega)
  exact vz hc h1 k1 (Jc h2 k2)
 | .iR a b,hp,hs=>by
  have hs:a.sz+b.sz+1≤6:=hs
  simp only[Rx.plain,ar]at hp
  obtain⟨e,h1,h2⟩:=iI (v:=v) a hp.1 (by omega)
  obtain⟨f,k1,k2⟩:=iI (v:=v) b hp.2 (by omega)
  rcases Nat.le_total a.sz b.sz with c|c
  ·obtain⟨cs,hc⟩:=toA a.ft b.ft c (by omega)
   exact vz hc h1 k1 (sr or h2 k2)
  ·obtain⟨cs,hc⟩:=toA b.ft a.ft c (by omega)
   have:=vz hc k1 h1 ((sr or k2 h2).to (q:=fM (.iR a b)) fun w=>Bool.or_comm _ _)
   rwa[show b.sz+a.sz+1=(Rx.iR a b).sz by show _=a.sz+b.sz+1;omega]at this
 | .and a b,hp,hs=>by
  have hs:a.sz+b.sz+1≤6:=hs
  simp only[Rx.plain,ar]at hp
  obtain⟨e,h1,h2⟩:=iI (v:=v) a hp.1 (by omega)
  obtain⟨f,k1,k2⟩:=iI (v:=v) b hp.2 (by omega)
  rcases Nat.le_total a.sz b.sz with c|c
  ·obtain⟨cs,hc⟩:=taA a.ft b.ft c (by omega)
   exact vz hc h1 k1 (sr and h2 k2)
  ·obtain⟨cs,hc⟩:=taA b.ft a.ft c (by omega)
   have:=vz hc k1 h1 ((sr and k2 h2).to (q:=fM (.and a b)) fun w=>Bool.and_comm _ _)
   rwa[show b.sz+a.sz+1=(Rx.and a b).sz by show _=a.sz+b.sz+1;omega]at this
 | .ahead a,hp,_=>absurd hp (by simp[Rx.plain])
 | .behind a,hp,_=>absurd hp (by simp[Rx.plain])
theorem SF {v:Nat} (hv:v≤6) {t:Rx} (hp:t.plain=true) (hs:t.sz≤6): ∃D,HasL (v:Int) (ul t.sz) D (fM t):=by
 obtain⟨e,h1,h2⟩:=iI (v:=v) t hp hs
 obtain⟨_,h3,h4,h5⟩:=wC h1 hs
 refine Jf hv h2 h3 ?_ h4 h5
 have: ∀k,k≤6→ul k≤4096:=by decide
 exact this _ hs
theorem fV.w5 {v:Nat} {B n:Nat} {M D:c_} {p:Lg} (h:fV (v:Int) B M p) (hD:HasL (v:Int) n D p):M.next.length≤n:=by
 have h1:=hD.qJ
 rw[fV.ext h h1 fun _ _=>rfl];exact h1.len
def ng:Nat→List (List Nat)
 |0=>[[]]
 |n+1=>ng n++(ng n).map (· ++[n])
theorem wD: ∀n,(ng n).length=2^n
 |0=>rfl
 |n+1=>by
  show(ng n++(ng n).map (· ++[n])).length=_
  rw[aJ,ai,wD n,Nat.pow_succ];omega
theorem BT (p:Nat→Bool): ∀n,(List.range n).filter p∈ng n
 |0=>by simp[ng]
 |n+1=>by
  rw[List.range_succ,List.filter_append]
  show _∈ng n++(ng n).map (· ++[n])
  have ih:=BT p n
  cases h:p n with
  |true=>rw[show[n].filter p=[n] by simp[h]];exact List.mem_append.2 (.inr (List.mem_map.2 ⟨_,ih,F⟩))
  |false=>rw[show[n].filter p=[] by simp[h],dp];exact List.mem_append.2 (.inl ih)
theorem pT: ∀ {n:Nat} {l:List Nat},l∈ng n→l.Pairwise (· < ·)∧ ∀x∈l,x<n
 |0,l,h=>by simp[ng]at h;subst h;exact⟨List.Pairwise.nil,fun x hx=>by simp at hx⟩
 |n+1,l,h=>by
  rcases List.mem_append.1 (show l∈ng n++(ng n).map (· ++[n])from h)with h|h
  ·have:=pT h;exact⟨this.1,fun x hx=>by have:=this.2 x hx;omega⟩
  ·obtain⟨m,hm,rfl⟩:=List.mem_map.1 h
   have:=pT hm
   refine⟨List.pairwise_append.2 ⟨this.1,List.pairwise_singleton _ _,fun x hx y hy=>?_⟩,fun x hx=>?_⟩
   ·rw[List.mem_singleton.1 hy];exact this.2 x hx
   ·rcases List.mem_append.1 hx with hx|hx
    ·have:=this.2 x hx;omega
    ·rw[List.mem_singleton.1 hx];omega
theorem wE {n:Nat} {l:List Nat} (h1:l.Pairwise (· < ·)) (h2: ∀x∈l,x<n):l∈ng n:=by
 have:l=(List.range n).filter (fun x=>l.contains x):=zL h1 (List.Pairwise.filter _ List.pairwise_lt_range) fun y=>by
  simp only[List.mem_filter,fE,List.contains_iff_mem]
  exact⟨fun h=>⟨h2 y h,h⟩,fun h=>h.2⟩
 rw[this];exact BT _ _
theorem Jg {α:Type} [Nonempty α] {G:α→Prop} {kf:α→Key} {nx:α→Nat→α} {fn:α→Bool} {L:Nat} (h:Sh G kf nx fn L) {s:α} (hs:G s) (Q:List α) (hQ: ∀q,q∈Q↔G q) {B:Nat} (hB:Q.length≤B):Ih (Cw G kf nx) L (kf s) B:=by
 refine⟨Q.map kf,⟨List.mem_map.2 ⟨s,(hQ s).2 hs,F⟩,fun k hk x hx=>?_⟩,by simpa using hB⟩
 obtain⟨q,hq,rfl⟩:=List.mem_map.1 hk
 rw[tX h ((hQ q).1 hq) hx]
 exact List.mem_map.2 ⟨_,(hQ _).2 (h.FR q x ((hQ q).1 hq) hx),F⟩
theorem lu {a b:c_} (ha:Valid a) (hb:Valid b) {B:Nat} (h:a.next.length*2^b.next.length≤B):Cy a b (eE a) B:=by
 refine Jg (Iq ha hb) (.start ha.toVal hb.toVal) ((List.range a.next.length).flatMap fun s=>(ng b.next.length).map fun l=>(s,l)) (fun q=>?_) ?_
 ·simp only[List.mem_flatMap,fE,i_]
  constructor
  ·rintro⟨s,hs,l,hl,rfl⟩;exact⟨hs,(pT hl).1,(pT hl).2⟩
  ·rintro⟨h1,h2,h3⟩;exact⟨q.1,h1,q.2,wE h2 h3,F⟩
 ·rw[List.length_flatMap]
  simp only[ai,wD]
  rw[show(fun _:Nat=>2^b.next.length)=Function.const Nat (2^b.next.length)from F,List.map_const,List.sum_replicate_nat,iE]
  exact h
theorem u4 {a:c_} (ha:Valid a) {B:Nat} (h:2^(a.next.length+1)≤B):GL a (eE a) B:=by
 refine Jg (Cz ha) (.start ha.toVal) ((ng a.next.length).map (fun l=>(true,l))++(ng a.next.length).map (fun l=>(false,l))) (fun q=>?_) ?_
 ·simp only[iv,i_]
  constructor
  ·rintro(⟨l,hl,rfl⟩|⟨l,hl,rfl⟩)<;>exact⟨(pT hl).1,(pT hl).2⟩
  ·rintro⟨h1,h2⟩
   obtain⟨f,l⟩:=q
   cases f with
   |true=>exact .inl ⟨l,wE h1 h2,F⟩
   |false=>exact .inr ⟨l,wE h1 h2,F⟩
 ·rw[aJ,ai,ai,wD]
  rw[Nat.pow_succ]at h;omega
theorem HasL.KV {v:Int} {n:Nat} {d:c_} {p:Lg} (h:HasL v n d p):HasL v d.next.length d p:=⟨h.valid,aI _,h.vars,h.jf⟩
theorem C0 {f:Bool→Bool→Bool} {a b:c_} (ha:Valid a) (hb:Valid b) (hv:a.vars=b.vars) {B:Nat} (hB:B≤4096) (h:a.next.length*b.next.length≤B):Xm f a b B:=by
 refine⟨bE (sA (k8 ha.toVal hb.toVal hv)) (by rw[kx];omega),bE (HI ha.toVal hb.toVal hv (by omega)) h⟩
section
variable {P:Program} {base:World} {O:List Item} {ρ:Env} {dst:Option Nat} {t:TypeId} {p:String} {af:Array Edge} {g:Option (Nat×Bool)}
theorem Hf {T E:TypeId} {z:Value} {h_:Nat} (hu:P.underlying T=some (.array 2 E)) (hE:P.underlying E=some (.int .i64)) (hi:gj P E z 1 h_) (n:Nat) (a b c d:Int) (w:World):
  (Op.equalIn (n+2) T (.agg #[.int .i64 a,.int .i64 b]) (.agg #[.int .i64 c,.int .i64 d])).run P w=.ok (decide (a=c∧b=d)) w:=by
 have hs: ∀w,(Go.sizeOf E).run P w=.ok 1 w:=fun w=>cr hi w
 have he: ∀(u v:Int) w,(Op.equalIn (n+1) E (.int .i64 u) (.int .i64 v)).run P w=.ok (u==v) w:=fun u v w=>run_equalIn_int w n E .i64 .i64 u v hE
 have Ve: ∀w,(isAgg E).run P w=.ok false w:=fun w=>by simp[isAgg,bL hE]
 rw[Op.equalIn]
 generalize hq:Op.equalIn (n+1) E=q at he
 simp only[Sem.run_bind,bL hu,Result.andThen_ok,hs]
 by_cases h1:a=c
 ·by_cases h2:b=d
  ·subst h1 h2
   simp[List.range',part,he,Ve,hs,hq]
  ·subst h1
   simp[List.range',part,he,Ve,hs,h2,hq]
 ·simp[List.range',part,he,Ve,hs,h1,hq]
theorem Kv {x y:Operand} {T U E:TypeId} {a b c d:Int} {z:Value} {h_:Nat} (hu:P.underlying T=some (.array 2 E)) (hE:P.underlying E=some (.int .i64)) (hi:gj P E z 1 h_) (hm:P.eqGuardType P.depth T=false)
  (hx:ev ρ x=.agg #[.int .i64 a,.int .i64 b]) (hy:ev ρ y=.agg #[.int .i64 c,.int .i64 d]):QT P base ⟨dst,.binOp .eql T x y U,t,p,af,g⟩ ρ O (.bool (decide (a=c∧b=d))):=fun w _=>by
 have h:=Hf hu hE hi 9998 a b c d w
 simp[execOp,hx,hy,run_eqGuard_agg w .eql T x y _ _ hm,run_eql_struct,h]
theorem zm {x:Operand} {T E:TypeId} {b m h_:Nat} {z:Value} (hu:P.underlying T=some (.array m E)) (hi:gj P E z 1 h_) (hx:ev ρ x=.pointer (some ⟨b,0,none⟩)) (h0:1≤m):
  QT P base ⟨dst,.slice T x none none none,t,p,af,g⟩ ρ O (.slice (some ⟨b,0,none⟩) m m):=fun w hI=>by
 simp[execOp,Instr.sliceAt,Instr.sureAddr,hx,bL hu,cr hi,Instr.sliceBounds,sC]
end
theorem RY {n:Nat} (h:n<18446744073709551616):IntKind.u64.wrap (n:Int)=(n:Int):=by simp[IntKind.wrap,IntKind.bits,IntKind.signed];omega
end Go.Lx

namespace Go.Lx
open Go.RowKit
section
variable {P:Program} {base:World} {n:Nat} {ops:Array Oper} {ds:List Deferred} {M:List Item} {Qf:Exit→Act→World→Prop} {ρ:Env} {O:List Item} {l:List Oper}
def TG (P:Program) (base:World) (n:Nat) (ops:Array Oper) (ds:List Deferred) (M:List Item) (Qf:Exit→Act→World→Prop) (l:List Oper) (ρ:Env) (O:List Item):Prop:=
 ∀a w,Ag n ds a ρ→Inv base (O++M) w→wpListIn (Fr none) 0 P ops Qf l a w
theorem TG.region {id:Nat} {l:List Oper} {a:Act} {w:World} (h:TG P base n l.toArray ds M Qf l ρ O) (ha:Ag n ds a ρ) (hI:Inv base (O++M) w):(Code.region id l.toArray false).wpIn (Fr none) 0 P Qf a w:=wpIn_region_lit (h a w ha hI)
theorem TG.nil (h: ∀a w,Ag n ds a ρ→Inv base (O++M) w→Qf .normal a w):TG P base n ops ds M Qf [] ρ O:=fun a w ha hI=>wpListIn_nil (h a w ha hI)
theorem gZ {o:Oper} (hg:o.guard=none) (h:LT P none base n o ρ O (fun iA O'=>TG P base n ops ds M Qf l iA O')):TG P base n ops ds M Qf (o::l) ρ O:=
 fun a w ha hI=>wpListIn_plain hg fun next fN=>h a w M ds ha hI next _ fun a' _ _ w' h1 h2 h3=>fN a' w' (h3 a' w' h1 h2)
theorem eD {d:Nat} {op:Op} {t:TypeId} {p:String} {af:Array Edge} {v:Value} (h:QT P base ⟨some d,op,t,p,af,none⟩ ρ O v) (hk:TG P base n ops ds M Qf l (kz ρ d v) O) (hn:Nat.blt d n=true:=by rfl):TG P base n ops ds M Qf (⟨some d,op,t,p,af,none⟩::l) ρ O:=
 gZ F (eV F hn h hk)
theorem TG.defer {t:TypeId} {p:String} {af:Array Edge} {yF:Array TypeId} {x:Operand} {f:FuncId} {gU:Array Value} (hx:ev ρ x=.func (.func f) #[] gU)
  (hk:TG P base n ops ({target:=.fn (.func f) gU,args:= #[]}::ds) M Qf l ρ O):TG P base n ops ds M Qf (⟨none,.defer ⟨.value x,#[],yF⟩,t,p,af,none⟩::l) ρ O:=fun a w ha hI=>
 wpListIn_plain F fun next fN=>by
  refine⟨fun _ _=>trivial,?_⟩
  have hr:(Oper.semAt (Fr none).round a.eval ⟨none,.defer ⟨.value x,#[],yF⟩,t,p,af,none⟩).run P w=.ok (.defer {target:=.fn (.func f) gU,args:= #[]}) w:=by
   rw[ha.eval]
   rw[show(Fr none).round=none from F,Oper.semAt_none]
   simp[execOp,resolve,Deferred.ofValue,hx]
  rw[hr,Oper.uponIn_defer]
  refine fN _ _ (hk _ _ ⟨fun t=>?_,?_,?_⟩ hI)
  ·exact ha.tmp t
  ·exact ha.size
  ·show _::a.defers=_;rw[ha.defers]
theorem nJ {o:Oper} {j tj:Nat} {want:Bool} (hg:o.guard=some (j,want)) (hj:(ops[j]?).bind (·.dst)=some tj) (hw:ρ tj=.bool want)
  (h:LT P none base n o ρ O (fun iA O'=>TG P base n ops ds M Qf l iA O')):TG P base n ops ds M Qf (o::l) ρ O:=by
 intro a w ha hi
 refine wpListIn_step fun next fN=>?_
 have hy:=kC (ops:=ops) ha hj
 rw[hw]at hy
 have rj:Region.wanted o (yielded ops a.tmps)=true:=by unfold Region.wanted;rw[hg];simp[hy,FT]
 rw[aB rj]
 exact h a w M ds ha hi next _ fun a' _ _ w' h1 h2 h3=>fN a' w' (h3 a' w' h1 h2)
theorem xk {d:Nat} {op:Op} {t:TypeId} {p:String} {af:Array Edge} {j tj:Nat} {want:Bool} (hj:(ops[j]?).bind (·.dst)=some tj) (hw:(FT (ρ tj)==some want)=false) (hk:TG P base n ops ds M Qf l (kz ρ d undef) O) (hn:Nat.blt d n=true:=by rfl):
  TG P base n ops ds M Qf (⟨some d,op,t,p,af,some (j,want)⟩::l) ρ O:=by
 intro a w ha hi
 refine wpListIn_step fun next fN=>?_
 have hy:=kC (ops:=ops) ha hj
 have rj:Region.wanted ⟨some d,op,t,p,af,some (j,want)⟩ (yielded ops a.tmps)=false:=by unfold Region.wanted;simp only[hy];exact hw
 rw[rj]
 exact⟨fun _ _=>trivial,fN _ _ (hk _ _ (ha.put hn undef) hi)⟩
theorem He {d:Nat} {t:TypeId} {p:String} {af:Array Edge} {f:FuncId} {fn:Func} {tm:Value} {args:List Operand} {yF:Array TypeId} {vs:List Value} {R:Value→List Item→Prop} {Z:Prop} (he:Enters P f fn)
  (hc: ∀w,Inv base (O++M) w→dT P w tm f vs [] R Z) (ha:HQ ρ args=vs) (hz: ∀a w,Ag n ds a ρ→Inv base (O++M) w→Z→Qf (.panic [{v:=tm,recovered:=false}]) a w) (h: ∀v N,R v N→TG P base n ops ds M Qf l (kz ρ d v) (N++O)) (hn:Nat.blt d n=true:=by rfl):
  TG P base n ops ds M Qf (⟨some d,.call ⟨.value (.func f),args.toArray,yF⟩,t,p,af,none⟩::l) ρ O:=by
 subst ha
 intro a w ha hi
 refine wpListIn_plain F fun next fN=>?_
 have uI: ¬fn.name= "runtime.NumGoroutine" :=by simpa using he.2.1
 obtain⟨bd,Q0⟩:=Option.isSome_iff_exists.1 he.2.2
 have hr:(execOp a.eval ⟨some d,.call ⟨.value (.func f),args.toArray,yF⟩,t,p,af,none⟩).run P w=.ok (.enter f (HQ ρ args).toArray) w:=by
  rw[ha.eval,tS]
  simp[lW,ev,Deferred.ofValue,invoke,callFunc,he.1,uI,Q0]
 refine mL (by intro c e;cases e) ?_
 rw[hr,Oper.uponIn_enter]
 refine⟨fun e=>by simp[Fr,Fence.wide]at e,n6 (Calls.mono (hc w hi w [] (Inv.refl w)) ?_)⟩
 rintro e w' (⟨v,O',rfl,oM,hR⟩|⟨rfl,oM,hZ⟩)
 ·refine fN _ _ (h v O' hR _ _ (ha.put hn v) ?_)
  have:=hi.call oM
  simpa[aV]using this
 ·refine hz _ _ ha ?_ hZ
  have:=hi.call oM
  simpa using this
end
end Go.Lx

namespace Go.Proofs.YtgdbfideeeegmaaGreatDoor
open Go.Lx Go.RowKit _root_.Go.Proofs.Tryz
theorem mixed:Tryz.prog.follows .mixedOrders=true:=by kernel_rfl
theorem bM:gj prog 3 (.int .i64 0) 1 8:=by unfold gj;kernel_rfl
theorem gq:gj prog 4 (.bool false) 1 1:=by unfold gj;kernel_rfl
theorem eN:gj prog 5 (.int .u8 0) 1 1:=by unfold gj;kernel_rfl
theorem GA:gj prog 9 (.string ByteArray.empty) 1 16:=by unfold gj;kernel_rfl
theorem fx:gj prog 22 ((.slice none 0 0)) 1 24:=by unfold gj;kernel_rfl
theorem e7:gj prog 23 ((.slice none 0 0)) 1 24:=by unfold gj;kernel_rfl
theorem bY:gj prog 25 ((.agg #[(.int .i64 0),(.int .i64 0),(.slice none 0 0),(.slice none 0 0)])) 4 64:=by unfold gj;kernel_rfl
theorem jS:gj prog 27 (.int .i64 0) 1 8:=by unfold gj;kernel_rfl
theorem iK:gj prog 32 ((.slice none 0 0)) 1 24:=by unfold gj;kernel_rfl
theorem eo:gj prog 56 ((.slice none 0 0)) 1 24:=by unfold gj;kernel_rfl
theorem oT:gj prog 67 (.int .u8 0) 1 1:=by unfold gj;kernel_rfl
theorem dv:gj prog 69 ((.agg #[(.int .u8 0),(.slice none 0 0)])) 2 32:=by unfold gj;kernel_rfl
theorem cR:gj prog 72 ((.agg #[(.int .u8 0),(.int .u8 0),(.int .u8 0),(.int .i64 0),(.int .i64 0)])) 5 24:=by unfold gj;kernel_rfl
theorem pG:gj prog 75 ((.slice none 0 0)) 1 24:=by unfold gj;kernel_rfl
theorem pL:gj prog 79 (.pointer none) 1 8:=by unfold gj;kernel_rfl
theorem abj:gj prog 81 ((.agg #[(.slice none 0 0),(.int .i64 0),(.int .i64 0)])) 3 40:=by unfold gj;kernel_rfl
theorem oY:gj prog 91 ((.slice none 0 0)) 1 24:=by unfold gj;kernel_rfl
theorem mw:gj prog 96 ((.agg #[(.int .i64 0),(.string ByteArray.empty),(.string ByteArray.empty),(.string ByteArray.empty)])) 4 56:=by unfold gj;kernel_rfl
theorem gY:gj prog 112 ((.slice none 0 0)) 1 24:=by unfold gj;kernel_rfl
theorem WU:gj prog 114 ((.agg #[(.pointer none),(.slice none 0 0),(.slice none 0 0)])) 3 56:=by unfold gj;kernel_rfl
theorem fG:gj prog 118 ((.agg #[(.int .u8 0),(.int .i64 0),(.int .i64 0),(.slice none 0 0),(.slice none 0 0),(.slice none 0 0),(.bool false)])) 7 104:=by unfold gj;kernel_rfl
theorem rY:gj prog 120 ((.slice none 0 0)) 1 24:=by unfold gj;kernel_rfl
theorem lC:gj prog 122 ((.agg #[(.slice none 0 0),(.slice none 0 0)])) 2 48:=by unfold gj;kernel_rfl
theorem jX:gj prog 129 ((.agg #[(.int .u8 0),(.int .u8 0)])) 2 2:=by unfold gj;kernel_rfl
theorem OD:gj prog 140 (.nilFunc) 1 8:=by unfold gj;kernel_rfl
theorem W1:gj prog 146 ((.agg #[(.int .i64 0),(.int .i64 0),(.slice none 0 0),(.slice none 0 0)])) 4 64:=by unfold gj;kernel_rfl
theorem VF:gj prog 149 ((.agg #[(.string ByteArray.empty),(.int .i64 0),(.slice none 0 0),(.int .i64 0)])) 4 56:=by unfold gj;kernel_rfl
theorem vY:gj prog 153 ((.agg #[(.int .i64 0),(.int .i64 0)])) 2 16:=by unfold gj;kernel_rfl
theorem CL:gj prog 160 (.map none) 1 8:=by unfold gj;kernel_rfl
theorem Cp:gj prog 163 ((.agg #[])) 0 0:=by unfold gj;kernel_rfl
theorem CC:gj prog 167 ((.slice none 0 0)) 1 24:=by unfold gj;kernel_rfl
theorem jY:gj prog 169 ((.agg #[(.int .i64 0),(.int .i64 0),(.slice none 0 0)])) 3 40:=by unfold gj;kernel_rfl
theorem iu:gj prog 173 ((.agg #[(.int .i64 0),(.int .i64 0)])) 2 16:=by unfold gj;kernel_rfl
theorem OE:gj prog 180 (.nilFunc) 1 8:=by unfold gj;kernel_rfl
theorem mJ:gj prog 208 ((.agg #[(.int .i64 0),(.slice none 0 0)])) 2 32:=by unfold gj;kernel_rfl
theorem Ny:gj prog 209 (.nilFunc) 1 8:=by unfold gj;kernel_rfl
theorem CM:gj prog 227 (.pointer none) 1 8:=by unfold gj;kernel_rfl
theorem jk:gj prog 234 ((.agg #[(.int .i64 0),(.int .i64 0)])) 2 16:=by unfold gj;kernel_rfl
theorem sg:gj prog 235 ((.slice none 0 0)) 1 24:=by unfold gj;kernel_rfl
theorem CN:gj prog 236 (.map none) 1 8:=by unfold gj;kernel_rfl
theorem Hd:gj prog 238 ((.agg #[(.int .i64 0),(.int .i64 0),(.slice none 0 0),(.slice none 0 0),(.int .i64 0),(.int .i64 0),(.slice none 0 0),(.slice none 0 0),(.slice none 0 0),(.map none)])) 10 160:=by unfold gj;kernel_rfl
theorem W2:gj prog 260 ((.agg #[(.int .u8 0),(.int .u8 0),(.int .u8 0),(.int .u8 0),(.int .u8 0),(.int .u8 0),(.int .u8 0),(.int .u8 0),(.int .u8 0),(.int .u8 0),(.int .u8 0),(.int .u8 0),(.int .u8 0),(.int .u8 0),(.int .u8 0),(.int .u8 0),(.int .u8 0),(.int .u8 0),(.int .u8 0),(.int .u8 0),(.int .u8 0),(.int .u8 0),(.int .u8 0),(.int .u8 0)])) 24 24:=by unfold gj;kernel_rfl
theorem kg:rr prog 25 [(0,1),(1,1),(2,1),(3,1)]:=⟨_,underlying25,fun w=>by simp[cr bM,cr fx,cr e7]⟩
theorem rE:rr prog 69 [(0,1),(1,1)]:=⟨_,underlying69,fun w=>by simp[cr iK,cr oT]⟩
theorem oe:rr prog 72 [(0,1),(1,1),(2,1),(3,1),(4,1)]:=⟨_,underlying72,fun w=>by simp[cr bM,cr eN]⟩
theorem W3:rr prog 81 [(0,1),(1,1),(2,1)]:=⟨_,underlying81,fun w=>by simp[cr bM,cr iK]⟩
theorem ue:rr prog 96 [(0,1),(1,1),(2,1),(3,1)]:=⟨_,underlying96,fun w=>by simp[cr bM,cr GA]⟩
theorem Sb:rr prog 114 [(0,1),(1,1),(2,1)]:=⟨_,underlying114,fun w=>by simp[cr eo,cr pL,cr gY]⟩
theorem CH:rr prog 118 [(0,1),(1,4),(5,1),(6,1)]:=⟨_,underlying118,fun w=>by simp[cr gq,cr eN,cr bY,cr eo]⟩
theorem Iw:rr prog 122 [(0,1),(1,1)]:=⟨_,underlying122,fun w=>by simp[cr eo,cr rY]⟩
theorem uV:rr prog 129 [(0,1),(1,1)]:=⟨_,underlying129,fun w=>by simp[cr eN]⟩
theorem Sf:rr prog 146 [(0,4)]:=⟨_,underlying146,fun w=>by simp[cr bY]⟩
theorem Rl:rr prog 149 [(0,1),(1,1),(2,1),(3,1)]:=⟨_,underlying149,fun w=>by simp[cr bM,cr GA,cr jS,cr iK]⟩
theorem xW:rr prog 163 []:=⟨_,underlying163,fun w=>by simp[]⟩
theorem CE:rr prog 169 [(0,1),(1,1),(2,1)]:=⟨_,underlying169,fun w=>by simp[cr bM,cr CC]⟩
theorem Ip:rr prog 208 [(0,1),(1,1)]:=⟨_,underlying208,fun w=>by simp[cr bM,cr eo]⟩
theorem IB:rr prog 234 [(0,1),(1,1)]:=⟨_,underlying234,fun w=>by simp[cr bM]⟩
theorem CO:rr prog 238 [(0,4),(4,4),(8,1),(9,1)]:=⟨_,underlying238,fun w=>by simp[cr bY,cr sg,cr CN]⟩
theorem abk:Lx.Enters prog 10 f10:=⟨func10,by kernel_rfl,F⟩
theorem sh:Lx.Enters prog 11 f11:=⟨func11,by kernel_rfl,F⟩
theorem ZV:Lx.Enters prog 14 f14:=⟨func14,by kernel_rfl,F⟩
theorem TN:Lx.Enters prog 15 f15:=⟨func15,by kernel_rfl,F⟩
theorem TM:Lx.Enters prog 16 f16:=⟨func16,by kernel_rfl,F⟩
theorem abl:Lx.Enters prog 18 f18:=⟨func18,by kernel_rfl,F⟩
theorem H9:Lx.Enters prog 19 f19:=⟨func19,by kernel_rfl,F⟩
theorem abm:Lx.Enters prog 20 f20:=⟨func20,by kernel_rfl,F⟩
theorem abn:Lx.Enters prog 21 f21:=⟨func21,by kernel_rfl,F⟩
theorem M3:Lx.Enters prog 22 f22:=⟨func22,by kernel_rfl,F⟩
theorem Bs:Lx.Enters prog 23 f23:=⟨func23,by kernel_rfl,F⟩
theorem abo:Lx.Enters prog 24 f24:=⟨func24,by kernel_rfl,F⟩
theorem abp:Lx.Enters prog 28 f28:=⟨func28,by kernel_rfl,F⟩
theorem M9:Lx.Enters prog 29 f29:=⟨func29,by kernel_rfl,F⟩
theorem Th:Lx.Enters prog 30 f30:=⟨func30,by kernel_rfl,F⟩
theorem L6:Lx.Enters prog 31 f31:=⟨func31,by kernel_rfl,F⟩
theorem M8:Lx.Enters prog 32 f32:=⟨func32,by kernel_rfl,F⟩
theorem DR:Lx.Enters prog 39 f39:=⟨func39,by kernel_rfl,F⟩
theorem MS:Lx.Enters prog 40 f40:=⟨func40,by kernel_rfl,F⟩
theorem TC:Lx.Enters prog 41 f41:=⟨func41,by kernel_rfl,F⟩
theorem Zt:Lx.Enters prog 42 f42:=⟨func42,by kernel_rfl,F⟩
theorem Ul:Lx.Enters prog 43 f43:=⟨func43,by kernel_rfl,F⟩
theorem Um:Lx.Enters prog 44 f44:=⟨func44,by kernel_rfl,F⟩
theorem OF:Lx.Enters prog 45 f45:=⟨func45,by kernel_rfl,F⟩
theorem abq:Lx.Enters prog 46 f46:=⟨func46,by kernel_rfl,F⟩
theorem abr:Lx.Enters prog 47 f47:=⟨func47,by kernel_rfl,F⟩
theorem EP:Lx.Enters prog 48 f48:=⟨func48,by kernel_rfl,F⟩
theorem IC:Lx.Enters prog 49 f49:=⟨func49,by kernel_rfl,F⟩
theorem Un:Lx.Enters prog 50 f50:=⟨func50,by kernel_rfl,F⟩
theorem Uo:Lx.Enters prog 51 f51:=⟨func51,by kernel_rfl,F⟩
theorem abt:Lx.Enters prog 52 f52:=⟨func52,by kernel_rfl,F⟩
theorem Up:Lx.Enters prog 53 f53:=⟨func53,by kernel_rfl,F⟩
theorem abh:Lx.Enters prog 54 f54:=⟨func54,by kernel_rfl,F⟩
theorem Iy:Lx.Enters prog 56 f56:=⟨func56,by kernel_rfl,F⟩
theorem abu:Lx.Enters prog 58 f58:=⟨func58,by kernel_rfl,F⟩
theorem ZF:Lx.Enters prog 59 f59:=⟨func59,by kernel_rfl,F⟩
theorem Zl:Lx.Enters prog 67 f67:=⟨func67,by kernel_rfl,F⟩
theorem MH:Lx.Enters prog 68 f68:=⟨func68,by kernel_rfl,F⟩
theorem abv:Lx.Enters prog 69 f69:=⟨func69,by kernel_rfl,F⟩
theorem Uk:Lx.Enters prog 70 f70:=⟨func70,by kernel_rfl,F⟩
theorem Uj:Lx.Enters prog 71 f71:=⟨func71,by kernel_rfl,F⟩
theorem qN:Lx.Enters prog 72 f72:=⟨func72,by kernel_rfl,F⟩
theorem EG:Lx.Enters prog 73 f73:=⟨func73,by kernel_rfl,F⟩
theorem aba:Lx.Enters prog 74 f74:=⟨func74,by kernel_rfl,F⟩
theorem aa9:Lx.Enters prog 75 f75:=⟨func75,by kernel_rfl,F⟩
theorem aa0:Lx.Enters prog 76 f76:=⟨func76,by kernel_rfl,F⟩
theorem aa4:Lx.Enters prog 77 f77:=⟨func77,by kernel_rfl,F⟩
theorem aa2:Lx.Enters prog 78 f78:=⟨func78,by kernel_rfl,F⟩
theorem abw:Lx.Enters prog 79 f79:=⟨func79,by kernel_rfl,F⟩
theorem abx:Lx.Enters prog 80 f80:=⟨func80,by kernel_rfl,F⟩
theorem Uq:Lx.Enters prog 81 f81:=⟨func81,by kernel_rfl,F⟩
theorem Ur:Lx.Enters prog 82 f82:=⟨func82,by kernel_rfl,F⟩
theorem xj:Lx.Enters prog 83 f83:=⟨func83,by kernel_rfl,F⟩
theorem aby:Lx.Enters prog 84 f84:=⟨func84,by kernel_rfl,F⟩
theorem OG:Lx.Enters prog 85 f85:=⟨func85,by kernel_rfl,F⟩
theorem abz:Lx.Enters prog 86 f86:=⟨func86,by kernel_rfl,F⟩
theorem Us:Lx.Enters prog 87 f87:=⟨func87,by kernel_rfl,F⟩
theorem abA:Lx.Enters prog 88 f88:=⟨func88,by kernel_rfl,F⟩
theorem abd:Lx.Enters prog 89 f89:=⟨func89,by kernel_rfl,F⟩
theorem OC:Lx.Enters prog 90 f90:=⟨func90,by kernel_rfl,F⟩
theorem Ut:Lx.Enters prog 91 f91:=⟨func91,by kernel_rfl,F⟩
theorem Uu:Lx.Enters prog 94 f94:=⟨func94,by kernel_rfl,F⟩
theorem abB:Lx.Enters prog 95 f95:=⟨func95,by kernel_rfl,F⟩
theorem D4:Lx.Enters prog 96 f96:=⟨func96,by kernel_rfl,F⟩
theorem Wp:Lx.Enters prog 100 f100:=⟨func100,by kernel_rfl,F⟩
theorem tV:Lx.Enters prog 101 f101:=⟨func101,by kernel_rfl,F⟩
theorem NP:Lx.Enters prog 102 f102:=⟨func102,by kernel_rfl,F⟩
theorem GW:Lx.Enters prog 103 f103:=⟨func103,by kernel_rfl,F⟩
theorem NJ:Lx.Enters prog 104 f104:=⟨func104,by kernel_rfl,F⟩
theorem Wi:Lx.Enters prog 105 f105:=⟨func105,by kernel_rfl,F⟩
theorem Wm:Lx.Enters prog 106 f106:=⟨func106,by kernel_rfl,F⟩
theorem Wn:Lx.Enters prog 107 f107:=⟨func107,by kernel_rfl,F⟩
theorem GQ:Lx.Enters prog 108 f108:=⟨func108,by kernel_rfl,F⟩
theorem N_:Lx.Enters prog 109 f109:=⟨func109,by kernel_rfl,F⟩
theorem GY:Lx.Enters prog 110 f110:=⟨func110,by kernel_rfl,F⟩
theorem WP:Lx.Enters prog 111 f111:=⟨func111,by kernel_rfl,F⟩
theorem we:Lx.Enters prog 112 f112:=⟨func112,by kernel_rfl,F⟩
theorem Oc:Lx.Enters prog 113 f113:=⟨func113,by kernel_rfl,F⟩
theorem G1:Lx.Enters prog 114 f114:=⟨func114,by kernel_rfl,F⟩
theorem CF:Lx.Enters prog 115 f115:=⟨func115,by kernel_rfl,F⟩
theorem N2:Lx.Enters prog 116 f116:=⟨func116,by kernel_rfl,F⟩
theorem WN:Lx.Enters prog 117 f117:=⟨func117,by kernel_rfl,F⟩
theorem W4:Lx.Enters prog 118 f118:=⟨func118,by kernel_rfl,F⟩
theorem W5:Lx.Enters prog 119 f119:=⟨func119,by kernel_rfl,F⟩
theorem OH:Lx.Enters prog 120 f120:=⟨func120,by kernel_rfl,F⟩
theorem UX:Lx.Enters prog 121 f121:=⟨func121,by kernel_rfl,F⟩
theorem UY:Lx.Enters prog 122 f122:=⟨func122,by kernel_rfl,F⟩
theorem W6:Lx.Enters prog 124 f124:=⟨func124,by kernel_rfl,F⟩
theorem W7:Lx.Enters prog 125 f125:=⟨func125,by kernel_rfl,F⟩
theorem W8:Lx.Enters prog 126 f126:=⟨func126,by kernel_rfl,F⟩
theorem WX:Lx.Enters prog 127 f127:=⟨func127,by kernel_rfl,F⟩
theorem W9:Lx.Enters prog 128 f128:=⟨func128,by kernel_rfl,F⟩
theorem l6:Lx.Enters prog 132 f132:=⟨func132,by kernel_rfl,F⟩
theorem Cl:Lx.Enters prog 133 f133:=⟨func133,by kernel_rfl,F⟩
theorem Vv:Lx.Enters prog 134 f134:=⟨func134,by kernel_rfl,F⟩
theorem Vw:Lx.Enters prog 135 f135:=⟨func135,by kernel_rfl,F⟩
theorem GV:Lx.Enters prog 138 f138:=⟨func138,by kernel_rfl,F⟩
theorem W_:Lx.Enters prog 139 f139:=⟨func139,by kernel_rfl,F⟩
theorem Wh:Lx.Enters prog 140 f140:=⟨func140,by kernel_rfl,F⟩
theorem Wg:Lx.Enters prog 141 f141:=⟨func141,by kernel_rfl,F⟩
theorem Wa:Lx.Enters prog 142 f142:=⟨func142,by kernel_rfl,F⟩
theorem Wc:Lx.Enters prog 143 f143:=⟨func143,by kernel_rfl,F⟩
theorem Nv:Lx.Enters prog 144 f144:=⟨func144,by kernel_rfl,F⟩
theorem V9:Lx.Enters prog 145 f145:=⟨func145,by kernel_rfl,F⟩
theorem Nh:Lx.Enters prog 146 f146:=⟨func146,by kernel_rfl,F⟩
theorem GK:Lx.Enters prog 147 f147:=⟨func147,by kernel_rfl,F⟩
theorem Cv:Lx.Enters prog 148 f148:=⟨func148,by kernel_rfl,F⟩
theorem Nt:Lx.Enters prog 149 f149:=⟨func149,by kernel_rfl,F⟩
theorem Wf:Lx.Enters prog 150 f150:=⟨func150,by kernel_rfl,F⟩
theorem Xa:Lx.Enters prog 151 f151:=⟨func151,by kernel_rfl,F⟩
theorem Xb:Lx.Enters prog 152 f152:=⟨func152,by kernel_rfl,F⟩
theorem Nw:Lx.Enters prog 153 f153:=⟨func153,by kernel_rfl,F⟩
theorem V6:Lx.Enters prog 154 f154:=⟨func154,by kernel_rfl,F⟩
theorem V0:Lx.Enters prog 155 f155:=⟨func155,by kernel_rfl,F⟩
theorem V1:Lx.Enters prog 156 f156:=⟨func156,by kernel_rfl,F⟩
theorem V3:Lx.Enters prog 157 f157:=⟨func157,by kernel_rfl,F⟩
theorem Wz:Lx.Enters prog 159 f159:=⟨func159,by kernel_rfl,F⟩
theorem Co:Lx.Enters prog 160 f160:=⟨func160,by kernel_rfl,F⟩
theorem WD:Lx.Enters prog 161 f161:=⟨func161,by kernel_rfl,F⟩
theorem N7:Lx.Enters prog 162 f162:=⟨func162,by kernel_rfl,F⟩
theorem WE:Lx.Enters prog 163 f163:=⟨func163,by kernel_rfl,F⟩
theorem Ww:Lx.Enters prog 164 f164:=⟨func164,by kernel_rfl,F⟩
theorem Wv:Lx.Enters prog 165 f165:=⟨func165,by kernel_rfl,F⟩
theorem Wr:Lx.Enters prog 166 f166:=⟨func166,by kernel_rfl,F⟩
theorem Wo:Lx.Enters prog 167 f167:=⟨func167,by kernel_rfl,F⟩
theorem Xc:Lx.Enters prog 168 f168:=⟨func168,by kernel_rfl,F⟩
theorem Xd:Lx.Enters prog 170 f170:=⟨func170,by kernel_rfl,F⟩
theorem WW:Lx.Enters prog 171 f171:=⟨func171,by kernel_rfl,F⟩
theorem Ck:Lx.Enters prog 189 f189:=⟨func189,by kernel_rfl,F⟩
theorem OI:Lx.Enters prog 190 f190:=⟨func190,by kernel_rfl,F⟩
theorem Xe:Lx.Enters prog 191 f191:=⟨func191,by kernel_rfl,F⟩
theorem VQ:Lx.Enters prog 192 f192:=⟨func192,by kernel_rfl,F⟩
theorem VR:Lx.Enters prog 193 f193:=⟨func193,by kernel_rfl,F⟩
theorem GD:Lx.Enters prog 194 f194:=⟨func194,by kernel_rfl,F⟩
theorem VP:Lx.Enters prog 195 f195:=⟨func195,by kernel_rfl,F⟩
theorem VO:Lx.Enters prog 196 f196:=⟨func196,by kernel_rfl,F⟩
theorem VS:Lx.Enters prog 197 f197:=⟨func197,by kernel_rfl,F⟩
theorem VT:Lx.Enters prog 198 f198:=⟨func198,by kernel_rfl,F⟩
theorem Nb:Lx.Enters prog 210 f210:=⟨func210,by kernel_rfl,F⟩
theorem WC:Lx.Enters prog 211 f211:=⟨func211,by kernel_rfl,F⟩
theorem WA:Lx.Enters prog 212 f212:=⟨func212,by kernel_rfl,F⟩
theorem Wu:Lx.Enters prog 213 f213:=⟨func213,by kernel_rfl,F⟩
theorem Xf:Lx.Enters prog 214 f214:=⟨func214,by kernel_rfl,F⟩
theorem Xg:Lx.Enters prog 215 f215:=⟨func215,by kernel_rfl,F⟩
theorem Xh:Lx.Enters prog 216 f216:=⟨func216,by kernel_rfl,F⟩
theorem Xi:Lx.Enters prog 218 f218:=⟨func218,by kernel_rfl,F⟩
theorem Xj:Lx.Enters prog 219 f219:=⟨func219,by kernel_rfl,F⟩
theorem Na:Lx.Enters prog 231 f231:=⟨func231,by kernel_rfl,F⟩
theorem Wx:Lx.Enters prog 232 f232:=⟨func232,by kernel_rfl,F⟩
theorem N3:Lx.Enters prog 240 f240:=⟨func240,by kernel_rfl,F⟩
theorem KG (w:World) (b1 b2:Option Addr) (c1 c2:Nat) (xs ys:List Int) (h1:Sl w b1 (ints xs)) (h2:Sl w b2 (ints ys)) (hb:xs.length<9223372036854775807):
  cB prog 69 [(.slice b1 xs.length c1),(.slice b2 ys.length c2)] w fun v N=>v=.bool (decide (xs=ys))∧N=[]:=by
 refine aA func69 F ntmps69 F ?_
 refine aQ (aS (bq (ay (cL underlying56) (ay (cL underlying56) (aX d_ (aL F (fun hc=>?_) (fun hc=>?_)))))))
 ·have mu:xs.length≠ys.length:=by omega
  have iH:xs.length≠ys.length:=by omega
  refine aQ (aj (cM ?_))
  refine aF (.bool false) results69 F ?_
  exact⟨am Value.bool (a8 (fun e=>iH (by rw[e]))).symm,F⟩
 have w6: ¬xs.length≠ys.length:=by omega
 have iH:xs.length=ys.length:=by omega
 refine aE (br (aQ (aj (aK ?_))))
 refine dU (fun(k:Nat) ρ O=>O=[]∧k≤xs.length∧xs.take k=ys.take k∧dh [(0,(.slice b1 xs.length c1)),(1,(.slice b2 ys.length c2)),(5,vI (k:Int))] ρ) (fun k=>xs.length-k) 0 ?_ ?_
 ·exact⟨F,bj _,F,⟨F,F,F,trivial⟩⟩
 rintro k ρ O ⟨rfl,hk,he,hH⟩
 obtain⟨gv,rfl⟩:=hH.elim
 clear hH
 refine br (a7 (ay (cL underlying56) (aX cV (aL F (fun hc=>?_) (fun hc=>?_)))))
 ·have oL:k<xs.length:=by omega
  have gQ:k<xs.length:=by omega
  have mH:k<ys.length:=by omega
  obtain⟨kb1,ko1,rfl⟩:=h1.addr (i:=k) (by simpa using gQ)
  obtain⟨kb2,ko2,rfl⟩:=h2.addr (i:=k) (by simpa using mH)
  refine aE (br (aK (br ?_)))
  refine fW [(0,0),(1,0),(2,0),(3,0),(4,0),(5,0),(6,0),(7,0),(8,0)] ?_
  refine ap F aw (ap F aw (ap F (Be underlying56 bM F F gQ) (ap F (nM underlying3 F F h1 (gL gQ)) (ap F aw (ap F aw (ap F (Be underlying56 bM F F mH) (ap F (nM underlying3 F F h2 (gL mH)) (ap F d_ ?_))))))))
  refine cy ?_
  refine aL (p:= ¬xs[k]=ys[k]) F (fun hc=>?_) (fun hc=>?_)
  ·refine br ?_
   refine a_ (aj (cM ?_))
   refine aF (.bool false) results69 F ?_
   exact⟨am Value.bool (a8 (fun e=>hc (by subst e;rfl))).symm,F⟩
  refine aE (a_ (ay (lF F F (by omega)) (aj ?_)))
  refine⟨k+1,by omega,F,by omega,?_,⟨F,F,F,trivial⟩⟩
  rw[aC gQ,aC mH,he]
  exact am _ (am (fun z=>[z]) (Classical.not_not.1 hc))
 have pk: ¬k<xs.length:=by omega
 refine cD ?_
 refine aQ (aj (cM ?_))
 refine aF (.bool true) results69 F ?_
 exact⟨am Value.bool (aZ (show xs=ys by rw[bt (by omega),bt (by omega)]at he;exact he)).symm,F⟩
theorem zz (w:World) (b1 b2:Option Addr) (c1 c2:Nat) (xs ys:List Bool) (h1:Sl w b1 (cO xs)) (h2:Sl w b2 (cO ys)) (hb:xs.length<9223372036854775807):
  cB prog 44 [(.slice b1 xs.length c1),(.slice b2 ys.length c2)] w fun v N=>v=.bool (decide (xs=ys))∧N=[]:=by
 refine aA func44 F ntmps44 F ?_
 refine aQ (aS (bq (ay (cL underlying23) (ay (cL underlying23) (aX d_ (aL F (fun hc=>?_) (fun hc=>?_)))))))
 ·have mu:xs.length≠ys.length:=by omega
  have iH:xs.length≠ys.length:=by omega
  refine aQ (aj (cM ?_))
  refine aF (.bool false) results44 F ?_
  exact⟨am Value.bool (a8 (fun e=>iH (by rw[e]))).symm,F⟩
 have w6: ¬xs.length≠ys.length:=by omega
 have iH:xs.length=ys.length:=by omega
 refine aE (br (aQ (aj (aK ?_))))
 refine dU (fun(k:Nat) ρ O=>O=[]∧k≤xs.length∧xs.take k=ys.take k∧dh [(0,(.slice b1 xs.length c1)),(1,(.slice b2 ys.length c2)),(5,vI (k:Int))] ρ) (fun k=>xs.length-k) 0 ?_ ?_
 ·exact⟨F,bj _,F,⟨F,F,F,trivial⟩⟩
 rintro k ρ O ⟨rfl,hk,he,hH⟩
 obtain⟨gv,rfl⟩:=hH.elim
 clear hH
 refine br (a7 (ay (cL underlying23) (aX cV (aL F (fun hc=>?_) (fun hc=>?_)))))
 ·have oL:k<xs.length:=by omega
  have gQ:k<xs.length:=by omega
  have mH:k<ys.length:=by omega
  obtain⟨kb1,ko1,rfl⟩:=h1.addr (i:=k) (by simpa using gQ)
  obtain⟨kb2,ko2,rfl⟩:=h2.addr (i:=k) (by simpa using mH)
  refine aE (br (aK (br ?_)))
  refine fW [(0,0),(1,0),(2,0),(3,0),(4,0),(5,0),(6,0),(7,0),(8,0)] ?_
  refine ap F aw (ap F aw (ap F (Be underlying23 gq F F gQ) (ap F (nM underlying4 F F h1 (j9 gQ)) (ap F aw (ap F aw (ap F (Be underlying23 gq F F mH) (ap F (nM underlying4 F F h2 (j9 mH)) (ap F (Mh underlying4 F F) ?_))))))))
  refine cy ?_
  refine aL (p:= ¬xs[k]=ys[k]) (am Value.bool (by cases xs[k]<;>cases ys[k]<;>rfl)) (fun hc=>?_) (fun hc=>?_)
  ·refine br ?_
   refine a_ (aj (cM ?_))
   refine aF (.bool false) results44 F ?_
   exact⟨am Value.bool (a8 (fun e=>hc (by subst e;rfl))).symm,F⟩
  refine aE (a_ (ay (lF F F (by omega)) (aj ?_)))
  refine⟨k+1,by omega,F,by omega,?_,⟨F,F,F,trivial⟩⟩
  rw[aC gQ,aC mH,he]
  exact am _ (am (fun z=>[z]) (Classical.not_not.1 hc))
 have pk: ¬k<xs.length:=by omega
 refine cD ?_
 refine aQ (aj (cM ?_))
 refine aF (.bool true) results44 F ?_
 exact⟨am Value.bool (aZ (show xs=ys by rw[bt (by omega),bt (by omega)]at he;exact he)).symm,F⟩
theorem BF (w:World) (b1 b2:Option Addr) (c1 c2:Nat) (vs us:List Value) (rs ss:List (List Int)) (h1:Sl w b1 vs) (hr1:ru w vs rs) (h2:Sl w b2 us) (Od:ru w us ss) (hb:rs.length<9223372036854775807) (uv: ∀r∈rs,r.length<9223372036854775807):
  cB prog 43 [.slice b1 rs.length c1,.slice b2 ss.length c2] w fun v N=>v=.bool (decide (rs=ss))∧N=[]:=by
 refine aA func43 F ntmps43 F ?_
 refine aQ (aS (bq (ay (cL underlying22) (ay (cL underlying22) (aX d_ (aL F (fun hc=>?_) (fun hc=>?_)))))))
 ·have mu:rs.length≠ss.length:=by omega
  have iH:rs.length≠ss.length:=by omega
  refine aQ (aj (cM ?_))
  refine aF (.bool false) results43 F ?_
  exact⟨am Value.bool (a8 (fun e=>iH (by rw[e]))).symm,F⟩
 have w6: ¬rs.length≠ss.length:=by omega
 have iH:rs.length=ss.length:=by omega
 refine aE (br (aQ (aj (aK ?_))))
 refine dU (fun(k:Nat) ρ O=>O=[]∧k≤rs.length∧rs.take k=ss.take k∧dh [(0,(.slice b1 rs.length c1)),(1,(.slice b2 ss.length c2)),(5,vI (k:Int))] ρ) (fun k=>rs.length-k) 0 ?_ ?_
 ·exact⟨F,bj _,F,⟨F,F,F,trivial⟩⟩
 rintro k ρ O ⟨rfl,hk,he,hH⟩
 obtain⟨gv,rfl⟩:=hH.elim
 clear hH
 refine br (a7 (ay (cL underlying22) (aX cV (aL F (fun hc=>?_) (fun hc=>?_)))))
 ·have oL:k<rs.length:=by omega
  have gQ:k<rs.length:=by omega
  have mH:k<ss.length:=by omega
  obtain⟨YM,YN,g1,s1⟩:=hr1.get gQ
  obtain⟨vb2,vc2,g2,s2⟩:=Od.get mH
  obtain⟨kb1,ko1,rfl⟩:=h1.addr (i:=k) (by rw[hr1.1];exact gQ)
  obtain⟨kb2,ko2,rfl⟩:=h2.addr (i:=k) (by rw[Od.1];exact mH)
  refine aE (br (aK (br ?_)))
  refine fW [(0,0),(1,0),(2,0),(3,0),(4,0),(5,0),(6,0),(7,0),(8,2),(9,2)] ?_
  refine ap F aw (ap F aw (ap F (Be underlying22 eo F F gQ) (ap F (nM underlying56 F F h1 g1) (ap F aw (ap F aw (ap F (Be underlying22 eo F F mH) (ap F (nM underlying56 F F h2 g2) ?_)))))))
  have rS:=fun(w1:World) (hI:Inv w [] w1)=>KG w1 YM vb2 YN vc2 rs[k] ss[k] (hI.sl s1) (hI.sl s2) (uv _ (av gQ))
  refine cA F F (eh abv (aO rS) ?_)
  clear rS
  rintro v O' ⟨N,rfl,rfl,rfl⟩
  refine cA F F (eV F F g_ ?_)
  refine cy ?_
  refine aL (p:= ¬rs[k]=ss[k]) (am Value.bool (by simp)) (fun hc=>?_) (fun hc=>?_)
  ·refine br ?_
   refine a_ (aj (cM ?_))
   refine aF (.bool false) results43 F ?_
   exact⟨am Value.bool (a8 (fun e=>hc (by subst e;rfl))).symm,F⟩
  refine aE (a_ (ay (lF F F (by omega)) (aj ?_)))
  refine⟨k+1,by omega,F,by omega,?_,⟨F,F,F,trivial⟩⟩
  rw[aC gQ,aC mH,he]
  exact am _ (am (fun z=>[z]) (Classical.not_not.1 hc))
 have pk: ¬k<rs.length:=by omega
 refine cD ?_
 refine aQ (aj (cM ?_))
 refine aF (.bool true) results43 F ?_
 exact⟨am Value.bool (aZ (show rs=ss by rw[bt (by omega),bt (by omega)]at he;exact he)).symm,F⟩
theorem Di (w:World) (d e:c_) (FN FO FP p8:Option Addr) (JB JC JD qV:Nat) (vs us:List Value) (h1:jg w d FN vs FP) (h2:jg w e FO us p8) (hb:d.next.length<9223372036854775807) (uv: ∀r∈d.next,r.length<9223372036854775807) (wM:d.aT.length<9223372036854775807):
  cB prog 16 [.agg (fe d FN JB FP JD).toArray,.agg (fe e FO JC p8 qV).toArray] w fun v N=>v=.bool (decide (d=e))∧True:=by
 refine aA func16 F ntmps16 F ?_
 refine aQ (ax (ef [(vI d.vars),(vI d.start),(.slice FN d.next.length JB),(.slice FP d.aT.length JD)] (fun b1=>?_)))
 refine ax (ef [(vI e.vars),(vI e.start),(.slice FO e.next.length JC),(.slice p8 e.aT.length qV)] (fun b2=>?_))
 refine aj (aG (bu underlying25 bM) (ae (bF 1 underlying3) (ae (bu underlying25 bM) (ae (bF 0 underlying3) ?_))))
 by_cases e1:d.vars=e.vars
 ·refine ae (bn bN e1) ?_
  refine aN (ao (bu underlying25 bM) (ao (bF 1 underlying3) (ao (bu underlying25 bM) (ao (bF 0 underlying3) ?_))))
  by_cases e2:d.start=e.start
  ·refine ao (bn bN e2) ?_
   refine ae bw (aN (ao (bu underlying25 fx) (ao (bF 1 underlying22) (ao (bu underlying25 fx) (ao (bF 0 underlying22) ?_)))))
   by_cases e3:d.next=e.next
   ·let eH:List Lx.Item:=[oI b2 25 [(vI e.vars),(vI e.start),(.slice FO e.next.length JC),(.slice p8 e.aT.length qV)],oI b1 25 [(vI d.vars),(vI d.start),(.slice FN d.next.length JB),(.slice FP d.aT.length JD)]]
    have OQ:=fun(w1:World) (hI:Inv w eH w1)=>BF w1 FN FO JB JC vs us d.next e.next (hI.sl h1.outer) (hI.rows h1.rows) (hI.sl h2.outer) (hI.rows h2.rows) hb uv
    refine gF F F F (eh Ul (aO OQ) ?_)
    clear OQ
    rintro v O' ⟨N,rfl,rfl,rfl⟩
    rw[aZ e3]
    refine ae bw (aN (ao (bu underlying25 e7) (ao (bF 1 underlying23) (ao (bu underlying25 e7) (ao (bF 0 underlying23) ?_)))))
    by_cases e4:d.aT=e.aT
    ·have uZ:=fun(w1:World) (hI:Inv w eH w1)=>zz w1 FP p8 JD qV d.aT e.aT (hI.sl h1.aT) (hI.sl h2.aT) wM
     refine gF F F F (eh Um (aO uZ) ?_)
     clear uZ
     rintro v O' ⟨N,rfl,rfl,rfl⟩
     rw[aZ e4]
     refine ae bw (aj (cM ?_))
     refine aF (.bool true) results16 F ?_
     refine⟨am Value.bool (aZ ?_).symm,trivial⟩
     cases d;cases e;simp only at e1 e2 e3 e4;rw[e1,e2,e3,e4]
    have uZ:=fun(w1:World) (hI:Inv w [oI b2 25 [(vI e.vars),(vI e.start),(.slice FO e.next.length JC),(.slice p8 e.aT.length qV)],oI b1 25 [(vI d.vars),(vI d.start),(.slice FN d.next.length JB),(.slice FP d.aT.length JD)]] w1)=>zz w1 FP p8 JD qV d.aT e.aT (hI.sl h1.aT) (hI.sl h2.aT) wM
    refine gF F F F (eh Um (aO uZ) ?_)
    clear uZ
    rintro v O' ⟨N,rfl,rfl,rfl⟩
    rw[a8 e4]
    refine ae bw (aj (cM ?_))
    refine aF (.bool false) results16 F ?_
    exact⟨am Value.bool (a8 (fun q=>e4 (am c_.aT q))).symm,trivial⟩
   have OQ:=fun(w1:World) (hI:Inv w [oI b2 25 [(vI e.vars),(vI e.start),(.slice FO e.next.length JC),(.slice p8 e.aT.length qV)],oI b1 25 [(vI d.vars),(vI d.start),(.slice FN d.next.length JB),(.slice FP d.aT.length JD)]] w1)=>BF w1 FN FO JB JC vs us d.next e.next (hI.sl h1.outer) (hI.rows h1.rows) (hI.sl h2.outer) (hI.rows h2.rows) hb uv
   refine gF F F F (eh Ul (aO OQ) ?_)
   clear OQ
   rintro v O' ⟨N,rfl,rfl,rfl⟩
   rw[a8 e3]
   refine ae bw (aN (cY (du (ae bU (aj (cM ?_))))))
   refine aF (.bool false) results16 F ?_
   exact⟨am Value.bool (a8 (fun q=>e3 (am c_.next q))).symm,trivial⟩
  refine ao (aY bN e2) (ae bw (aN (cY (du (ae bU (aN ?_))))))
  refine cY (du (ae bU (aj (cM ?_))))
  refine aF (.bool false) results16 F ?_
  exact⟨am Value.bool (a8 (fun q=>e2 (am c_.start q))).symm,trivial⟩
 refine ae (aY bN e1) (aN (cY (du (ae bU (aN (cY ?_))))))
 refine du (ae bU (aN (cY (cK ?_))))
 refine cK (ae bU (aj (cM ?_)))
 refine aF (.bool false) results16 F ?_
 exact⟨am Value.bool (a8 (fun q=>e1 (am c_.vars q))).symm,trivial⟩
end Go.Proofs.YtgdbfideeeegmaaGreatDoor

