/- Contracts of functions of the program, and what they answer. Conditions: those each theorem names. -/
import Derived.Test.YtgdbfideeeegmaaGreatDoorA5
import Derived.Test.YtgdbfideeeegmaaGreatDoorA2
import Derived.Test.YtgdbfideeeegmaaGreatDoorA3
import Derived.Test.YtgdbfideeeegmaaGreatDoorA1
import Derived.Test.YtgdbfideeeegmaaGreatDoorA0
set_option linter.unusedSectionVars false
set_option linter.unusedSimpArgs false
set_option linter.unusedVariables false
set_option linter.unnecessarySimpa false
set_option maxHeartbeats 8000000
set_option maxRecDepth 20000
namespace Go.Lx
open Go.RowKit
def Rx.wf:Rx→Bool
 | .gZ a b| .iv a b=>a.wf&&b.wf
 | .ahead a| .behind a=>a.plain
 |t=>t.plain
def Rx.op:Rx→Nat
 | .none=>1| .empty=>2| .letter _ _=>3| .gZ _ _=>4| .iv _ _=>5| .and _ _=>6| .not _=>7| .star _=>8| .ahead _=>9| .behind _=>10
def jY (ls:List Lf) (b x:List Nat):List Lf:=b.foldl (fun ls k=>ls.set k {lf ls k with fo:=(lf ls k).fo++x}) ls
structure BR where
 ls:List Lf
 fi:List Nat
 la:List Nat
noncomputable def j3 (v:Nat):Rx→Lf
 | .ahead a=>⟨9,minOf v (je (gB a) fun _=>true),[],false⟩
 | .behind a=>⟨10,minOf v (je (fun _=>true) (gB a)),[],false⟩
 |t=>⟨0,minOf v (gB t),[],false⟩
noncomputable def aR (v:Nat):Rx→List Lf→BR
 | .gZ a b,ls=>⟨jY (aR v b (aR v a ls).ls).ls (aR v a ls).la (aR v b (aR v a ls).ls).fi,(aR v a ls).fi,(aR v b (aR v a ls).ls).la⟩
 | .iv a b,ls=>⟨(aR v b (aR v a ls).ls).ls,(aR v a ls).fi++(aR v b (aR v a ls).ls).fi,(aR v a ls).la++(aR v b (aR v a ls).ls).la⟩
 |t,ls=>⟨ls++[j3 v t],[ls.length],[ls.length]⟩
def okB (v:Nat):Rx→Nat→Prop
 | .gZ a b,B=>okB v a B∧okB v b B
 | .iv a b,B=>okB v a B∧okB v b B
 | .ahead a,B=>kQ v a B∧AS (minOf v (gB a)) (fJ (v:Int) true) (eh (minOf v (gB a))) B
 | .behind a,B=>kQ v a B∧AS (fJ (v:Int) true) (minOf v (gB a)) (eh (fJ (v:Int) true)) B
 |t,B=>kQ v t B
def Rx.lv:Rx→Nat
 | .gZ a b| .iv a b=>a.lv+b.lv
 |_=>1
theorem ri: ∀(b x:List Nat) (ls:List Lf),(jY ls b x).length=ls.length
 | [],x,ls=>rfl
 |k::b,x,ls=>by
  show(jY (ls.set k _) b x).length=_
  rw[ri b x,eD]
theorem dY (v:Nat): ∀(t:Rx) (ls:List Lf),(aR v t ls).ls.length=ls.length+t.lv
 | .gZ a b,ls=>by show(jY _ _ _).length=_;rw[ri,dY v b,dY v a,Nat.add_assoc];rfl
 | .iv a b,ls=>by show(aR v b _).ls.length=_;rw[dY v b,dY v a,Nat.add_assoc];rfl
 | .none,ls=>by simp[aR,Rx.lv]
 | .empty,ls=>by simp[aR,Rx.lv]
 | .letter p n,ls=>by simp[aR,Rx.lv]
 | .and a b,ls=>by simp[aR,Rx.lv]
 | .not a,ls=>by simp[aR,Rx.lv]
 | .star a,ls=>by simp[aR,Rx.lv]
 | .ahead a,ls=>by simp[aR,Rx.lv]
 | .behind a,ls=>by simp[aR,Rx.lv]
theorem gm (v:Nat): ∀(t:Rx) (ls:List Lf),(∀k∈(aR v t ls).fi,ls.length≤k∧k<ls.length+t.lv)∧(∀k∈(aR v t ls).la,ls.length≤k∧k<ls.length+t.lv)∧(aR v t ls).fi.length≤t.lv∧(aR v t ls).la.length≤t.lv
 | .gZ a b,ls=>by
  obtain⟨h1,_,h3,_⟩:=gm v a ls
  obtain⟨_,h2,_,h4⟩:=gm v b (aR v a ls).ls
  rw[dY]at h2
  refine⟨fun k hk=>?_,fun k hk=>?_,?_,?_⟩
  ·have:=h1 k hk;show _∧k<ls.length+(a.lv+b.lv);omega
  ·have:=h2 k hk;show _∧k<ls.length+(a.lv+b.lv);omega
  ·show(aR v a ls).fi.length≤a.lv+b.lv;omega
  ·show(aR v b (aR v a ls).ls).la.length≤a.lv+b.lv;omega
 | .iv a b,ls=>by
  obtain⟨h1,h5,h3,h6⟩:=gm v a ls
  obtain⟨h7,h2,h8,h4⟩:=gm v b (aR v a ls).ls
  rw[dY]at h2 h7
  refine⟨fun k hk=>?_,fun k hk=>?_,?_,?_⟩
  ·show _∧k<ls.length+(a.lv+b.lv)
   rcases List.mem_append.1 hk with hk|hk
   ·have:=h1 k hk;omega
   ·have:=h7 k hk;omega
  ·show _∧k<ls.length+(a.lv+b.lv)
   rcases List.mem_append.1 hk with hk|hk
   ·have:=h5 k hk;omega
   ·have:=h2 k hk;omega
  ·show(_++_:List Nat).length≤a.lv+b.lv;rw[aw];omega
  ·show(_++_:List Nat).length≤a.lv+b.lv;rw[aw];omega
 | .none,ls=>by simp[aR,Rx.lv]
 | .empty,ls=>by simp[aR,Rx.lv]
 | .letter p n,ls=>by simp[aR,Rx.lv]
 | .and a b,ls=>by simp[aR,Rx.lv]
 | .not a,ls=>by simp[aR,Rx.lv]
 | .star a,ls=>by simp[aR,Rx.lv]
 | .ahead a,ls=>by simp[aR,Rx.lv]
 | .behind a,ls=>by simp[aR,Rx.lv]
def eU (ls:List Lf) (ks:List LK):List Rec:=(ls.zip ks).map fun p=>⟨p.2.b,p.2.c,p.1.fo.map fun y:Nat=>(y:Int)⟩
def gJ (II Bo I:TypeId) (ls:List Lf) (ks:List LK):List Item:=(ls.zip ks).map fun p=>dI II Bo I p.1.d p.2.k
theorem H4 {ls:List Lf} {ks:List LK} (h:ks.length=ls.length):(eU ls ks).length=ls.length:=by unfold eU;rw[ar,List.length_zip,h,Nat.min_self]
theorem Lw {ls:List Lf} {ks:List LK} (h:ks.length=ls.length) {k:Nat} (hk:k<ls.length):(ls.zip ks)[k]? =some (lf ls k,lk ks k):=by
 rw[ap (by rw[List.length_zip];omega),List.getElem_zip,uC hk]
 show some (ls[k],ks[k]'_)=some (ls[k],ks.getD k default)
 rw[av,ap (by omega)];rfl
theorem C3 {ls:List Lf} {ks:List LK} (h:ks.length=ls.length) {k:Nat} (hk:k<ls.length):(eU ls ks)[k]? =some ⟨(lk ks k).b,(lk ks k).c,(lf ls k).fo.map fun y:Nat=>(y:Int)⟩:=by
 unfold eU;rw[bq,Lw h hk];rfl
theorem sx {ls:List Lf} {ks:List LK} (h:ks.length=ls.length) (l:Lf) (k:LK):eU (ls++[l]) (ks++[k])=eU ls ks++[⟨k.b,k.c,l.fo.map fun y:Nat=>(y:Int)⟩]:=by
 unfold eU;rw[List.zip_append h.symm,bm];rfl
theorem uE {II Bo I:TypeId} {ls:List Lf} {ks:List LK} (h:ks.length=ls.length) (l:Lf) (k:LK):gJ II Bo I (ls++[l]) (ks++[k])=gJ II Bo I ls ks++[dI II Bo I l.d k.k]:=by
 unfold gJ;rw[List.zip_append h.symm,bm];rfl
theorem qO {ls:List Lf} {ks:List LK} (h:ks.length=ls.length) (l:Lf) (k:LK):dj (ls++[l]) (ks++[k])=dj ls ks++kI l k:=by
 unfold dj;rw[List.zip_append h.symm,List.flatMap_append];simp
theorem ET: ∀ {ls:List Lf} {ks:List LK} {k:Nat} (hk:ks.length=ls.length) (h:k<ls.length) (b':Option Addr) (c':Nat) (x:List Nat),
  dj (ls.set k {lf ls k with fo:=x}) (ks.set k {lk ks k with b:=b',c:=c'})=(dj ls ks).set (k*7+5) (.slice b' x.length c'):=by
 intro ls
 induction ls with
 |nil=>intro ks k _ h;simp at h
 |cons l ls ih=>
  intro ks k hk h b' c' x
  cases ks with
  |nil=>simp at hk
  |cons q ks=>
   cases k with
   |zero=>rfl
   |succ k=>
    show kI l q++dj (ls.set k {lf ls k with fo:=x}) (ks.set k {lk ks k with b:=b',c:=c'})=(kI l q++dj ls ks).set ((k+1)*7+5) _
    have h7:(kI l q).length=7:=rfl
    rw[ih (by simpa using hk) (by simpa using h),List.set_append_right _ _ (by rw[h7];omega),show(k+1)*7+5-(kI l q).length=k*7+5 by rw[h7];omega]
theorem H3: ∀ {ls:List Lf} {ks:List LK} {k:Nat} (hk:ks.length=ls.length) (h:k<ls.length) (b':Option Addr) (c':Nat) (x:List Nat),
  eU (ls.set k {lf ls k with fo:=x}) (ks.set k {lk ks k with b:=b',c:=c'})=(eU ls ks).set k ⟨b',c',x.map fun y:Nat=>(y:Int)⟩:=by
 intro ls
 induction ls with
 |nil=>intro ks k _ h;simp at h
 |cons l ls ih=>
  intro ks k hk h b' c' x
  cases ks with
  |nil=>simp at hk
  |cons q ks=>
   cases k with
   |zero=>rfl
   |succ k=>
    show(⟨q.b,q.c,_⟩:Rec)::eU (ls.set k {lf ls k with fo:=x}) (ks.set k {lk ks k with b:=b',c:=c'})=(_::eU ls ks).set (k+1) _
    rw[ih (by simpa using hk) (by simpa using h)];rfl
theorem Lb {II Bo I:TypeId}: ∀ {ls:List Lf} {ks:List LK} {k:Nat} (hk:ks.length=ls.length) (h:k<ls.length) (b':Option Addr) (c':Nat) (x:List Nat),
  gJ II Bo I (ls.set k {lf ls k with fo:=x}) (ks.set k {lk ks k with b:=b',c:=c'})=gJ II Bo I ls ks:=by
 intro ls
 induction ls with
 |nil=>intro ks k _ h;simp at h
 |cons l ls ih=>
  intro ks k hk h b' c' x
  cases ks with
  |nil=>simp at hk
  |cons q ks=>
   cases k with
   |zero=>rfl
   |succ k=>
    show dI II Bo I l.d q.k::gJ II Bo I (ls.set k {lf ls k with fo:=x}) (ks.set k {lk ks k with b:=b',c:=c'})=dI II Bo I l.d q.k::gJ II Bo I ls ks
    rw[ih (by simpa using hk) (by simpa using h)]
theorem C5: ∀ {ls:List Lf} {ks:List LK} {k:Nat} (hk:ks.length=ls.length) (h:k<ls.length),
  dj (ls.set k {lf ls k with la:=true}) ks=(dj ls ks).set (k*7+6) (.bool true):=by
 intro ls
 induction ls with
 |nil=>intro ks k _ h;simp at h
 |cons l ls ih=>
  intro ks k hk h
  cases ks with
  |nil=>simp at hk
  |cons q ks=>
   cases k with
   |zero=>rfl
   |succ k=>
    show kI l q++dj (ls.set k {lf ls k with la:=true}) ks=(kI l q++dj ls ks).set ((k+1)*7+6) _
    have h7:(kI l q).length=7:=rfl
    rw[ih (by simpa using hk) (by simpa using h),List.set_append_right _ _ (by rw[h7];omega),show(k+1)*7+6-(kI l q).length=k*7+6 by rw[h7];omega]
theorem EV: ∀ {ls:List Lf} {ks:List LK} {k:Nat} (hk:ks.length=ls.length) (h:k<ls.length),eU (ls.set k {lf ls k with la:=true}) ks=eU ls ks:=by
 intro ls
 induction ls with
 |nil=>intro ks k _ h;simp at h
 |cons l ls ih=>
  intro ks k hk h
  cases ks with
  |nil=>simp at hk
  |cons q ks=>
   cases k with
   |zero=>rfl
   |succ k=>
    show(⟨q.b,q.c,_⟩:Rec)::eU (ls.set k {lf ls k with la:=true}) ks=_::eU ls ks
    rw[ih (by simpa using hk) (by simpa using h)]
theorem H6 {II Bo I:TypeId}: ∀ {ls:List Lf} {ks:List LK} {k:Nat} (hk:ks.length=ls.length) (h:k<ls.length),gJ II Bo I (ls.set k {lf ls k with la:=true}) ks=gJ II Bo I ls ks:=by
 intro ls
 induction ls with
 |nil=>intro ks k _ h;simp at h
 |cons l ls ih=>
  intro ks k hk h
  cases ks with
  |nil=>simp at hk
  |cons q ks=>
   cases k with
   |zero=>rfl
   |succ k=>
    show dI II Bo I l.d q.k::gJ II Bo I (ls.set k {lf ls k with la:=true}) ks=dI II Bo I l.d q.k::gJ II Bo I ls ks
    rw[ih (by simpa using hk) (by simpa using h)]
theorem EU {ls:List Lf} {b x:List Nat} {i:Nat} (h:i<b.length):jY ls (b.take (i+1)) x=(jY ls (b.take i) x).set b[i] {lf (jY ls (b.take i) x) b[i]with fo:=(lf (jY ls (b.take i) x) b[i]).fo++x}:=by
 unfold jY;rw[aH h,cO];rfl
theorem uG {E:TypeId}: ∀ {qs:List Rec} {c:Nat} (h:c<qs.length),(cd E qs).Perm (qs[c].sQ E::cd E (qs.eraseIdx c))
 |q::qs,0,_=>by simp
 |q::qs,c+1,h=>by
  have ih:=uG (E:=E) (qs:=qs) (c:=c) (by simpa using h)
  simp only[cd,cJ,List.eraseIdx_cons_succ,List.getElem_cons_succ]at ih⊢
  exact(ih.cons _).trans (List.Perm.swap _ _ _)
theorem La {E:TypeId} {qs:List Rec} {c:Nat} {q:Rec} (h:qs[c]? =some q) (X Y:List Item):Sub (q.sQ E::(X++(cd E (qs.eraseIdx c)++Y))) (X++(cd E qs++Y)):=by
 obtain⟨hc,rfl⟩:=List.getElem?_eq_some_iff.1 h
 refine⟨X++(cd E qs++Y),?_,aZ _⟩
 refine((List.perm_middle (a:=qs[c].sQ E) (l₁:=X)).symm).trans (List.Perm.append_left X ?_)
 exact((uG hc).symm.append_right Y)
theorem OJ {E:TypeId} {qs:List Rec} {c:Nat} (h:c<qs.length) (X Y:List Item) (q:Rec):Sub (X++(cd E (qs.set c q)++Y)) (q.sQ E::(X++(cd E (qs.eraseIdx c)++Y))):=by
 have h1:=uG (E:=E) (qs:=qs.set c q) (c:=c) (by simpa using h)
 rw[List.getElem_set_self,List.eraseIdx_set_eq]at h1
 refine⟨_,?_,aZ _⟩
 exact((h1.append_right Y).append_left X).trans (List.perm_middle (a:=q.sQ E) (l₁:=X))
theorem dB.post {P:Program} {base:World} {tm:Value} {f:FuncId} {args:List Value} {O:List Item} {R R':Value→List Item→Prop} {Z:Prop} (h:dB P base tm f args O R Z) (hr: ∀v O',R v O'→ ∃O2,Sub O2 O'∧R' v O2):dB P base tm f args O R' Z:=fun w M hI=>
 (h w M hI).mono fun e w' h9=>h9.imp (fun⟨v,O',he,n5,hv⟩=>by
  obtain⟨O2,hs,h2⟩:=hr v O' hv
  exact⟨v,O2,he,n5.kn hs.pG,h2⟩) id
theorem qP (A B X Y:List Item) (c d:Item) (h:Sub (A++[c,d]) B):Sub (A++((X++[c])++(Y++[d]))) (B++(X++Y)):=by
 obtain⟨l,h1,h2⟩:=h
 refine⟨l++(X++Y),?_,h2.append (aZ _)⟩
 refine List.Perm.trans ?_ (h1.append_right (X++Y))
 rw[aI A]
 refine List.Perm.append_left A ?_
 rw[aI X]
 refine(List.perm_append_comm_assoc X [c] (Y++[d])).trans ?_
 show(c::(X++(Y++[d]))).Perm (c::d::(X++Y))
 refine List.Perm.cons c ?_
 rw[←aI]
 exact List.perm_append_comm
theorem sy (E:TypeId) (qs:List Rec) (q:Rec):cd E (qs++[q])=cd E qs++[q.sQ E]:=bm
theorem xL: ∀(b x:List Nat) (ls:List Lf) (M:Nat),(∀l∈ls,l.fo.length≤M)→ ∀l∈jY ls b x,l.fo.length≤M+b.length*x.length
 | [],x,ls,M,h,l,hl=>by have:=h l hl;simpa using this
 |k::b,x,ls,M,h,l,hl=>by
  have h2: ∀l∈ls.set k {lf ls k with fo:=(lf ls k).fo++x},l.fo.length≤M+x.length:=fun l hl=>by
   by_cases hk:k<ls.length
   ·rcases List.mem_or_eq_of_mem_set hl with hl|rfl
    ·have:=h l hl;omega
    ·have:=h _ (ky hk);rw[aw];omega
   ·rw[List.set_eq_of_length_le (by omega)]at hl;have:=h l hl;omega
  have:=xL b x _ _ h2 l hl
  rw[bo,Nat.succ_mul];omega
theorem xM (a b:Nat):(a+b)*(a+b)=a*a+b*b+2*(a*b):=by
 rw[Nat.add_mul,Nat.mul_add,Nat.mul_add,Nat.mul_comm b a];omega
theorem rn (v:Nat): ∀(t:Rx) (ls:List Lf) (N:Nat),(∀l∈ls,l.fo.length≤N)→ ∀l∈(aR v t ls).ls,l.fo.length≤N+t.lv*t.lv:=by
 have leaf: ∀(ls:List Lf) (N:Nat) (q:Lf),q.fo=[]→(∀l∈ls,l.fo.length≤N)→ ∀l∈ls++[q],l.fo.length≤N+1*1:=fun ls N q hq h l hl=>by
  rcases List.mem_append.1 hl with hl|hl
  ·have:=h l hl;omega
  ·rw[List.mem_singleton.1 hl,hq];exact bn _
 intro t
 induction t with
 |gZ a b jl lS=>
  intro ls N h l hl
  have h1:=lS _ _ (jl ls N h)
  have h2:=xL _ (aR v b (aR v a ls).ls).fi _ _ h1 l hl
  have h3:=(gm v a ls).2.2.2
  have h4:=(gm v b (aR v a ls).ls).2.2.1
  have h5:(aR v a ls).la.length*(aR v b (aR v a ls).ls).fi.length≤a.lv*b.lv:=Nat.mul_le_mul h3 h4
  show _≤N+(a.lv+b.lv)*(a.lv+b.lv)
  rw[xM];omega
 |iv a b jl lS=>
  intro ls N h l hl
  have h1:=lS _ _ (jl ls N h) l hl
  show _≤N+(a.lv+b.lv)*(a.lv+b.lv)
  rw[xM];omega
 |none=>exact fun ls N h=>leaf ls N _ F h
 |empty=>exact fun ls N h=>leaf ls N _ F h
 |letter p n=>exact fun ls N h=>leaf ls N _ F h
 |and a b _ _=>exact fun ls N h=>leaf ls N _ F h
 |not a _=>exact fun ls N h=>leaf ls N _ F h
 |star a _=>exact fun ls N h=>leaf ls N _ F h
 |ahead a _=>exact fun ls N h=>leaf ls N _ F h
 |behind a _=>exact fun ls N h=>leaf ls N _ F h
def sw (ls:List Lf) (t:Rx):Prop:= ∃N,(∀l∈ls,l.fo.length≤N)∧N+t.lv*t.lv≤100000
theorem sw.left {ls:List Lf} {a b:Rx} (h: ∃N,(∀l∈ls,l.fo.length≤N)∧N+(a.lv+b.lv)*(a.lv+b.lv)≤100000):sw ls a:=by
 obtain⟨N,h1,h2⟩:=h;rw[xM]at h2;exact⟨N,h1,by omega⟩
theorem sw.right {v:Nat} {ls:List Lf} {a b:Rx} (h: ∃N,(∀l∈ls,l.fo.length≤N)∧N+(a.lv+b.lv)*(a.lv+b.lv)≤100000):sw (aR v a ls).ls b:=by
 obtain⟨N,h1,h2⟩:=h;rw[xM]at h2;exact⟨_,rn v a ls N h1,by omega⟩
theorem ES {v:Nat} {ls:List Lf} {a b:Rx} (h: ∃N,(∀l∈ls,l.fo.length≤N)∧N+(a.lv+b.lv)*(a.lv+b.lv)≤100000) {y:List Nat} (hy:y.length≤a.lv) {k:Nat} (hk:k<(jY (aR v b (aR v a ls).ls).ls y (aR v b (aR v a ls).ls).fi).length):(lf (jY (aR v b (aR v a ls).ls).ls y (aR v b (aR v a ls).ls).fi) k).fo.length≤100000:=by
 obtain⟨N,h1,h2⟩:=h
 rw[xM]at h2
 have h3:=xL y (aR v b (aR v a ls).ls).fi _ _ (rn v b _ _ (rn v a ls N h1)) _ (ky hk)
 have h4:=(gm v b (aR v a ls).ls).2.2.1
 have h5:y.length*(aR v b (aR v a ls).ls).fi.length≤a.lv*b.lv:=Nat.mul_le_mul hy h4
 omega
end Go.Lx

namespace Go.Lx
open Go.RowKit
instance:Nonempty St:=⟨⟨[],[]⟩⟩
def lm (x:dK):Bool:=decide (x.op=9)||decide (x.op=10)
def my (ls:List Lf) (la:List Nat):List Lf:=la.foldl (fun ls k=>ls.set k {lf ls k with la:=true}) ls
theorem rk: ∀(la:List Nat) (ls:List Lf),(my ls la).length=ls.length
 | [],ls=>rfl
 |k::la,ls=>by
  show(my (ls.set k _) la).length=_
  rw[rk la,eD]
theorem EW {ls:List Lf} {la:List Nat} {i:Nat} (h:i<la.length):my ls (la.take (i+1))=(my ls (la.take i)).set la[i] {lf (my ls (la.take i)) la[i]with la:=true}:=by
 unfold my;rw[aH h,cO];rfl
noncomputable def mr (v:Nat) (t:Rx):List Lf:=my (aR v t []).ls (aR v t []).la
noncomputable def HN (v:Nat) (t:Rx):List Nat:=(aR v t []).fi
noncomputable def Ut (v:Nat) (t:Rx):Lg:=fun u=>pt (u.foldl (j9 (mr v t)) (jo (mr v t) (HN v t)))
def R8 (v:Nat) (t:Rx) (B:Nat):Prop:=HQ (By (ln (mr v t)) St.key (j9 (mr v t))) (2^v) (jo (mr v t) (HN v t)).key B
def okC (v:Nat) (t:Rx) (B:Nat):Prop:=okB v t B∧R8 v t B
theorem xN (v:Nat) (t:Rx):(mr v t).length=t.lv:=by unfold mr;rw[rk,dY];simp
theorem A4 {v:Nat} {t:Rx}: ∀k∈HN v t,k<(mr v t).length:=fun k hk=>by
 have:=(gm v t []).1 k hk;rw[xN];simpa using this.2
theorem Li {v:Nat} {t:Rx} (hG:iw (mr v t) v) {u:List Nat} (hu: ∀x∈u,x<2^v):HT (ln (mr v t)) St.key pt (u.foldl (By (ln (mr v t)) St.key (j9 (mr v t))) (jo (mr v t) (HN v t)).key)=Ut v t u:=
 Bb (Gb hG) (sA hG A4) hu
theorem ll.of {w base:World} {O:List Item} (hI:Inv base O w) {ob:Nat} {lb:Option Addr} {lc:Nat} {cv fv:Value} {ls:List Lf} {ks:List LK} {OL LT:TypeId} (hk:ks.length=ls.length)
  (h1:dF ob (.cells [cv,.slice lb ls.length lc,fv].toArray OL (0,0))∈O) (h2:aq lb lc LT 7 (dj ls ks)∈O) {II Bo I:TypeId} (h3: ∀it∈cd I (eU ls ks),it∈O) (h4: ∀it∈gJ II Bo I ls ks,it∈O):ll w ob lb lc cv fv ls ks:=by
 refine⟨hI.j_ h1,hI.ii h2,hk,fun k u_=>?_,fun k u_=>?_⟩
 ·have hz:=bQ (Lw hk u_)
  exact hI.at (k:=(lk ks k).k) (h4 _ (List.mem_map.2 ⟨_,hz,F⟩))
 ·have hr:=bQ (C3 hk u_)
  have h5:=hI.ii (h3 _ (List.mem_map.2 ⟨_,hr,F⟩))
  rw[gl]at h5;exact h5
end Go.Lx

namespace Go.Lx
open Go.RowKit
theorem kJ {v B:Nat} {M:cU} {p:Lg} (h:fM (v:Int) B M p) (hB:B≤4096):fM (v:Int) B (minOf v p) p:=by rw[←gX h hB];exact h
theorem A_ {v:Nat} {a:cU} (h:a.vars=(v:Int)):eh a=2^v:=by unfold eh;rw[h];rfl
theorem lg {v B:Nat} (hv:v≤6) (hB:B≤4096) {a b:cU} {p q:Lg} {n m:Nat} (ha:HasL (v:Int) n a p) (hb:HasL (v:Int) m b q) (h:AS a b (eh a) B):fM (v:Int) B (minOf v (je p q)) (je p q):=by
 rw[show AS a b (eh a) B=AS a b (2^v) B by rw[A_ ha.vars]]at h
 obtain⟨M,hM⟩:=Ge (fin:=HT (GC a b) zI (Sp b)) hv hB h
 refine kJ (M:=M) (hM.to fun u hu=>?_) hB
 rw[CH ha.valid hb.valid (by rw[ha.vars,hb.vars]) (fun x hx=>by rw[A_ ha.vars];simpa using hu x hx)]
 exact pv (fun w hw=>ha.iM w hw) (fun w hw=>hb.iM w hw) hu
theorem C9 {v B:Nat} (hv:v≤6) (hB:B≤4096) {a:cU} {p:Lg} {n:Nat} (ha:HasL (v:Int) n a p) (h:Ew a (eh a) B):fM (v:Int) B (minOf v (pK p)) (pK p):=by
 rw[show Ew a (eh a) B=Ew a (2^v) B by rw[A_ ha.vars]]at h
 obtain⟨M,hM⟩:=Ge (fin:=HT (GS a) Bz (Ou a)) hv hB h
 refine kJ (M:=M) (hM.to fun u hu=>?_) hB
 rw[zJ ha.valid (fun x hx=>by rw[A_ ha.vars];simpa using hu x hx)]
 exact vl (fun w hw=>ha.iM w hw) hu
theorem ek {v B:Nat} (hv:v≤6) (hB:B≤4096): ∀ {t:Rx},t.plain=true→kQ v t B→fM (v:Int) B (minOf v (gB t)) (gB t)
 | .none,_,h=>kJ (KM hv h) hB
 | .empty,_,h=>by
  have h1:=(wg (gO 0 0) hv (bn 1)).uW
  exact kJ (M:=js (Ey v 0 (gO 0 0))) ⟨h1.toHasL.le h,h1.min⟩ hB
 | .letter p n,_,h=>by
  have h1:=(wg (gO p n) hv (bF 1)).uW
  exact kJ (M:=js (Ey v 1 (gO p n))) ⟨h1.toHasL.le h,h1.min⟩ hB
 | .gZ a b,hp,h=>by
  simp only[Rx.plain,aJ]at hp
  exact lg hv hB (ek hv hB hp.1 h.1).toHasL (ek hv hB hp.2 h.2.1).toHasL h.2.2
 | .iv a b,hp,h=>by
  simp only[Rx.plain,aJ]at hp
  exact kJ (YH (ek hv hB hp.1 h.1) (ek hv hB hp.2 h.2.1) h.2.2.1 h.2.2.2) hB
 | .and a b,hp,h=>by
  simp only[Rx.plain,aJ]at hp
  exact kJ (YH (ek hv hB hp.1 h.1) (ek hv hB hp.2 h.2.1) h.2.2.1 h.2.2.2) hB
 | .not a,hp,h=>kJ (notM (ek hv hB (t:=a) hp h.1).toHasL h.2) hB
 | .star a,hp,h=>C9 hv hB (ek hv hB (t:=a) hp h.1).toHasL h.2
 | .ahead a,hp,h=>absurd hp (by simp[Rx.plain])
 | .behind a,hp,h=>absurd hp (by simp[Rx.plain])
theorem Ly {v B:Nat} (hv:v≤6) (hB:B≤4096): ∀ {t:Rx},t.wf=true→okB v t B→(∀a b,t≠.gZ a b)→(∀a b,t≠.iv a b)→ ∃p,fM (v:Int) B (j3 v t).d p
 | .none,hw,h,_,_=>⟨_,ek hv hB (t:=.none) hw h⟩
 | .empty,hw,h,_,_=>⟨_,ek hv hB (t:=.empty) hw h⟩
 | .letter p n,hw,h,_,_=>⟨_,ek hv hB (t:=.letter p n) hw h⟩
 | .and a b,hw,h,_,_=>⟨_,ek hv hB (t:=.and a b) hw h⟩
 | .not a,hw,h,_,_=>⟨_,ek hv hB (t:=.not a) hw h⟩
 | .star a,hw,h,_,_=>⟨_,ek hv hB (t:=.star a) hw h⟩
 | .gZ a b,_,_,h,_=>absurd F (h a b)
 | .iv a b,_,_,_,h=>absurd F (h a b)
 | .ahead a,hw,h,_,_=>⟨_,lg hv hB (ek hv hB (t:=a) hw h.1).toHasL (fN hv) h.2⟩
 | .behind a,hw,h,_,_=>⟨_,lg hv hB (fN hv) (ek hv hB (t:=a) hw h.1).toHasL h.2⟩
def vu (v B:Nat) (l:Lf):Prop:=(∃p,fM (v:Int) B l.d p)∧(l.op=0∨l.op=9∨l.op=10)
def LA (ls:List Lf):Prop:= ∀k,k<ls.length→ ∀j∈(lf ls k).fo,k<j∧j<ls.length
theorem Ba {ls:List Lf} {k i:Nat} {q:Lf} (hk:k<ls.length):lf (ls.set k q) i=if i=k then q else lf ls i:=by
 unfold lf
 rw[av,av]
 by_cases e:i=k
 ·subst e;rw[List.getElem?_set_self hk,aO F];rfl
 ·rw[List.getElem?_set_ne (fun h=>e h.symm),az e]
theorem Gf {v B:Nat}: ∀(b x:List Nat) (ls:List Lf),(∀l∈ls,vu v B l)→LA ls→(∀k∈b,k<ls.length∧ ∀j∈x,k<j∧j<ls.length)→(∀l∈jY ls b x,vu v B l)∧LA (jY ls b x)
 | [],x,ls,h1,h2,_=>⟨h1,h2⟩
 |k::b,x,ls,h1,h2,h3=>by
  obtain⟨hk,hj⟩:=h3 k (by simp)
  refine Gf b x (ls.set k {lf ls k with fo:=(lf ls k).fo++x}) (fun l hl=>?_) (fun i hi j si=>?_) (fun k2 pQ=>?_)
  ·rcases List.mem_or_eq_of_mem_set hl with hl|rfl
   ·exact h1 l hl
   ·have h9:=h1 _ (ky hk);exact⟨h9.1,h9.2⟩
  ·rw[eD]at hi⊢
   rw[Ba hk]at si
   split at si
   ·rename_i e
    subst e
    rcases List.mem_append.1 si with h|h
    ·exact h2 i hk j h
    ·exact hj j h
   ·exact h2 i hi j si
  ·rw[eD];exact h3 k2 (by simp[pQ])
theorem LA.snoc {ls:List Lf} {q:Lf} (h:LA ls) (hq:q.fo=[]):LA (ls++[q]):=fun k hk j hj=>by
 rw[aw,List.length_singleton]at hk⊢
 unfold lf at hj
 rw[av]at hj
 by_cases e:k<ls.length
 ·rw[bH e]at hj
  have:=h k e j (by unfold lf;rw[av];exact hj)
  omega
 ·rw[bT (by omega),show k-ls.length=0 by omega]at hj
  simp[hq]at hj
theorem LB {v B:Nat} (hv:v≤6) (hB:B≤4096): ∀(t:Rx) (ls:List Lf),t.wf=true→okB v t B→(∀l∈ls,vu v B l)→LA ls→(∀l∈(aR v t ls).ls,vu v B l)∧LA (aR v t ls).ls:=by
 have leaf: ∀(t:Rx) (ls:List Lf),t.wf=true→okB v t B→(∀a b,t≠.gZ a b)→(∀a b,t≠.iv a b)→(j3 v t).fo=[]→((j3 v t).op=0∨(j3 v t).op=9∨(j3 v t).op=10)→(∀l∈ls,vu v B l)→LA ls→(∀l∈ls++[j3 v t],vu v B l)∧LA (ls++[j3 v t]):=fun t ls hw ho n1 n2 hf H2 h1 h2=>by
  refine⟨fun l hl=>?_,h2.snoc hf⟩
  rcases List.mem_append.1 hl with hl|hl
  ·exact h1 l hl
  ·rw[List.mem_singleton.1 hl];exact⟨Ly hv hB hw ho n1 n2,H2⟩
 intro t
 induction t with
 |gZ a b jl lS=>
  intro ls hw ho h1 h2
  simp only[Rx.wf,aJ]at hw
  obtain⟨a1,a2⟩:=jl ls hw.1 ho.1 h1 h2
  obtain⟨b1,b2⟩:=lS _ hw.2 ho.2 a1 a2
  refine Gf _ _ _ b1 b2 fun k hk=>?_
  have k1:=(gm v a ls).2.1 k hk
  have Kg:=dY v a ls
  have YN:=dY v b (aR v a ls).ls
  refine⟨by omega,fun j hj=>?_⟩
  have k2:=(gm v b (aR v a ls).ls).1 j hj
  omega
 |iv a b jl lS=>
  intro ls hw ho h1 h2
  simp only[Rx.wf,aJ]at hw
  obtain⟨a1,a2⟩:=jl ls hw.1 ho.1 h1 h2
  exact lS _ hw.2 ho.2 a1 a2
 |none=>exact fun ls hw ho=>leaf .none ls hw ho (by simp) (by simp) F (.inl F)
 |empty=>exact fun ls hw ho=>leaf .empty ls hw ho (by simp) (by simp) F (.inl F)
 |letter p n=>exact fun ls hw ho=>leaf (.letter p n) ls hw ho (by simp) (by simp) F (.inl F)
 |and a b _ _=>exact fun ls hw ho=>leaf (.and a b) ls hw ho (by simp) (by simp) F (.inl F)
 |not a _=>exact fun ls hw ho=>leaf (.not a) ls hw ho (by simp) (by simp) F (.inl F)
 |star a _=>exact fun ls hw ho=>leaf (.star a) ls hw ho (by simp) (by simp) F (.inl F)
 |ahead a _=>exact fun ls hw ho=>leaf (.ahead a) ls hw ho (by simp) (by simp) F (.inr (.inl F))
 |behind a _=>exact fun ls hw ho=>leaf (.behind a) ls hw ho (by simp) (by simp) F (.inr (.inr F))
theorem Gg {v B:Nat}: ∀(la:List Nat) (ls:List Lf),(∀l∈ls,vu v B l∧l.fo.length≤1000000)→LA ls→(∀k∈la,k<ls.length)→(∀l∈my ls la,vu v B l∧l.fo.length≤1000000)∧LA (my ls la)
 | [],ls,h1,h2,_=>⟨h1,h2⟩
 |k::la,ls,h1,h2,h3=>by
  have hk:=h3 k (by simp)
  refine Gg la (ls.set k {lf ls k with la:=true}) (fun l hl=>?_) (fun i hi j hj=>?_) (fun k2 pQ=>by rw[eD];exact h3 k2 (by simp[pQ]))
  ·rcases List.mem_or_eq_of_mem_set hl with hl|rfl
   ·exact h1 l hl
   ·have h9:=h1 _ (ky hk);exact⟨⟨h9.1.1,h9.1.2⟩,h9.2⟩
  ·rw[eD]at hi⊢
   rw[Ba hk]at hj
   split at hj
   ·rename_i e;subst e;exact h2 i hk j hj
   ·exact h2 i hi j hj
theorem Ek {v B:Nat} (hv:v≤6) (hB:B≤4096) {t:Rx} (hw:t.wf=true) (IV:t.lv≤12) (h:okB v t B):iw (mr v t) v:=by
 obtain⟨h1,h2⟩:=LB hv hB t [] hw h (fun l hl=>by simp at hl) (fun k hk=>by simp at hk)
 have h3:=rn v t [] 0 (fun l hl=>by simp at hl)
 have h4:t.lv*t.lv≤144:=Nat.mul_le_mul IV IV
 obtain⟨h5,h6⟩:=Gg (v:=v) (B:=B) (aR v t []).la (aR v t []).ls (fun l hl=>⟨h1 l hl,by have:=h3 l hl;omega⟩) h2 (fun k hk=>by
  have:=(gm v t []).2.1 k hk;rw[dY];exact this.2)
 refine⟨by rw[xN];exact IV,fun l hl=>?_,fun l hl=>?_,fun l hl=>(h5 l hl).1.2,fun k hk j hj=>h6 k hk j hj,fun l hl=>(h5 l hl).2⟩
 ·obtain⟨p,hp⟩:=(h5 l hl).1.1;exact hp.valid
 ·obtain⟨p,hp⟩:=(h5 l hl).1.1;exact hp.vars
end Go.Lx

namespace Go.Lx
open Go.RowKit
section
variable (ls:List Lf)
def Ig (bh:List Nat) (u:List Nat):List Nat:=u.foldl (jv ls) bh
inductive Way (O4:Unit):Bool→List Nat→Nat→List Nat→Prop
 |ahead {bh k v}:(lf ls k).op=9→dr (lf ls k).d (runN (lf ls k).d (lf ls k).d.start.toNat v)=true→Way O4 false bh k v→Way O4 true bh k v
 |behind {bh k v}:(lf ls k).op=10→dr (lf ls k).d (bh.getD k 0)=true→Way O4 false bh k v→Way O4 true bh k v
 |plain {bh k u v}:(lf ls k).op≠9→(lf ls k).op≠10→dr (lf ls k).d (runN (lf ls k).d (lf ls k).d.start.toNat u)=true→Way O4 false (Ig ls bh u) k v→Way O4 true bh k (u++v)
 |last {bh k}:(lf ls k).la=true→Way O4 false bh k []
 |YL {bh k j v}:j∈(lf ls k).fo→Way O4 true bh j v→Way O4 false bh k v
def Ih (o:List Ob) (v:List Nat):Prop:= ∀p∈o,dr (lf ls p.1).d (runN (lf ls p.1).d p.2 v)=true
def Ii (bh:List Nat) (v:List Nat) (c:Cf):Prop:=Ih ls c.o v∧((c.k= -1∧v=[])∨ ∃k:Nat,c.k=(k:Int)∧ ∃u v2,u≠ []∧v=u++v2∧dr (lf ls k).d (runN (lf ls k).d c.s u)=true∧Way ls () false (Ig ls bh u) k v2)
def XL (vs k q:Nat):Prop:= ∃u,kO (vs:Int) u∧q=runN (lf ls k).d (lf ls k).d.start.toNat u
def Bh (vs:Nat):Prop:= ∀k,k<ls.length→(lf ls k).op=9→ ∀u v,kO (vs:Int) u→kO (vs:Int) v→dr (lf ls k).d (runN (lf ls k).d (lf ls k).d.start.toNat u)=true→dr (lf ls k).d (runN (lf ls k).d (lf ls k).d.start.toNat (u++v))=true
variable {ls}
theorem GA {vs:Nat} (hA:Bh ls vs) {o:List Ob} {x:Ob} {v:List Nat} (hv:kO (vs:Int) v) (hk:x.1<ls.length) (ho:(lf ls x.1).op=9) (hx:XL ls vs x.1 x.2):Ih ls (oH ls o x) v↔Ih ls o v∧dr (lf ls x.1).d (runN (lf ls x.1).d x.2 v)=true:=by
 unfold oH
 split
 ·rename_i h
  obtain⟨u,hu,e⟩:=hx
  refine⟨fun h1=>⟨h1,?_⟩,fun h1=>h1.1⟩
  rw[e]at h⊢
  have:=hA _ hk ho u v hu hv h
  unfold runN at this⊢;rwa[cO]at this
 ·constructor
  ·exact fun h1=>⟨fun p hp=>h1 p (aT _ hp),h1 x (am _ (List.mem_singleton.2 F))⟩
  ·rintro⟨h1,h2⟩ p hp
   rcases List.mem_append.1 hp with hp|hp
   ·exact h1 p hp
   ·rw[List.mem_singleton.1 hp];exact h2
def GB (vs:Nat) (o:List Ob):Prop:= ∀p∈o,p.1<ls.length∧(lf ls p.1).op=9∧XL ls vs p.1 p.2∧dr (lf ls p.1).d p.2=false
theorem GD {vs:Nat} {o:List Ob} {x:Ob} (h:GB (ls:=ls) vs o) (hk:x.1<ls.length) (ho:(lf ls x.1).op=9) (hx:XL ls vs x.1 x.2):GB (ls:=ls) vs (oH ls o x):=by
 unfold oH
 split
 ·exact h
 ·rename_i hf
  intro p hp
  rcases List.mem_append.1 hp with hp|hp
  ·exact h p hp
  ·rw[List.mem_singleton.1 hp];exact⟨hk,ho,hx,by simpa using hf⟩
theorem Dh {vs:Nat} (hG:iw ls vs) (hA:Bh ls vs) {x:Nat} (hx:x<2^vs) {v:List Nat} (hv:kO (vs:Int) v): ∀(o o1:List Ob),GB (ls:=ls) vs o→GB (ls:=ls) vs o1→(Ih ls (o.foldl (fun o p=>oH ls o (p.1,fm (lf ls p.1).d p.2 x)) o1) v↔Ih ls o1 v∧Ih ls o (x::v))∧GB (ls:=ls) vs (o.foldl (fun o p=>oH ls o (p.1,fm (lf ls p.1).d p.2 x)) o1)
 | [],o1,_,h1=>⟨⟨fun h=>⟨h,fun p hp=>by simp at hp⟩,fun h=>h.1⟩,h1⟩
 |p::o,o1,h,h1=>by
  obtain⟨k1,k2,k3,_⟩:=h p (by simp)
  have tH:XL ls vs p.1 (fm (lf ls p.1).d p.2 x):=by
   obtain⟨u,hu,e⟩:=k3
   refine⟨u++[x],fun y hy=>?_,by rw[e,fG]⟩
   rcases List.mem_append.1 hy with hy|hy
   ·exact hu y hy
   ·rw[List.mem_singleton.1 hy];simpa using hx
  have h2:=GD (x:=(p.1,fm (lf ls p.1).d p.2 x)) h1 k1 k2 tH
  obtain⟨h3,h4⟩:=Dh hG hA hx hv o _ (fun q hq=>h q (by simp[hq])) h2
  refine⟨?_,h4⟩
  rw[cS,h3,GA (x:=(p.1,fm (lf ls p.1).d p.2 x)) hA hv k1 k2 tH]
  constructor
  ·rintro⟨⟨a,b⟩,c⟩
   refine⟨a,fun q hq=>?_⟩
   rcases List.mem_cons.1 hq with rfl|hq
   ·exact b
   ·exact c q hq
  ·rintro⟨a,b⟩
   exact⟨⟨a,b p (by simp)⟩,fun q hq=>b q (by simp[hq])⟩
theorem LR {α:Type} {p:α→Prop} {a b:List α}:(∃c,c∈a++b∧p c)↔(∃c,c∈a∧p c)∨ ∃c,c∈b∧p c:=by
 constructor
 ·rintro⟨c,hc,h⟩
  exact(List.mem_append.1 hc).elim (fun h1=>.inl ⟨c,h1,h⟩) fun h1=>.inr ⟨c,h1,h⟩
 ·rintro(⟨c,hc,h⟩|⟨c,hc,h⟩)
  ·exact⟨c,aT _ hc,h⟩
  ·exact⟨c,am _ hc,h⟩
theorem zX {bh:List Nat} {k:Nat} {v:List Nat}:Way ls () false bh k v↔((lf ls k).la=true∧v=[])∨ ∃j,j∈(lf ls k).fo∧Way ls () true bh j v:=by
 constructor
 ·intro h
  cases h with
  |last h=>exact .inl ⟨h,F⟩
  |YL h1 h2=>exact .inr ⟨_,h1,h2⟩
 ·rintro(⟨h,rfl⟩|⟨j,h1,h2⟩)
  ·exact .last h
  ·exact .YL h1 h2
mutual
theorem mV {vs:Nat} (hG:iw ls vs) (hA:Bh ls vs) {bh v:List Nat} (hv:kO (vs:Int) v): ∀(f:Nat) {k:Nat} {o:List Ob},k<ls.length→2*(ls.length-k)≤f→GB (ls:=ls) vs o→((∃c,c∈fK ls f bh k o∧Ii ls bh v c)↔Ih ls o v∧Way ls () true bh k v)∧ ∀c∈fK ls f bh k o,GB (ls:=ls) vs c.o
 |0,k,o,hk,hf,_=>absurd hf (by omega)
 |f+1,k,o,hk,hf,ho=>by
  have hs:XL ls vs k (lf ls k).d.start.toNat:=⟨[],fun y hy=>by simp at hy,F⟩
  unfold fK
  split
  ·rename_i h9
   have h1:=GD (x:=(k,(lf ls k).d.start.toNat)) ho hk h9 hs
   obtain⟨h2,h3⟩:=rz hG hA hv f (k:=k) hk (by omega) h1
   refine⟨?_,h3⟩
   rw[h2,GA (x:=(k,(lf ls k).d.start.toNat)) hA hv hk h9 hs]
   constructor
   ·rintro⟨⟨a,b⟩,c⟩;exact⟨a,.ahead h9 b c⟩
   ·rintro⟨a,b⟩
    cases b with
    |ahead _ h4 h5=>exact⟨⟨a,h4⟩,h5⟩
    |behind h4=>omega
    |plain h4=>exact absurd h9 h4
  ·rename_i h9
   split
   ·rename_i EO
    split
    ·rename_i hb
     obtain⟨h2,h3⟩:=rz hG hA hv f (k:=k) hk (by omega) ho
     refine⟨?_,h3⟩
     rw[h2]
     constructor
     ·rintro⟨a,c⟩;exact⟨a,.behind EO hb c⟩
     ·rintro⟨a,b⟩
      cases b with
      |ahead h4=>exact absurd h4 h9
      |behind _ h4 h5=>exact⟨a,h5⟩
      |plain _ h4=>exact absurd EO h4
    ·rename_i hb
     refine⟨⟨fun⟨c,hc,_⟩=>by simp at hc,fun⟨a,b⟩=>?_⟩,fun c hc=>by simp at hc⟩
     cases b with
     |ahead h4=>exact absurd h4 h9
     |behind _ h4 h5=>exact absurd h4 hb
     |plain _ h4=>exact absurd EO h4
   ·rename_i EO
    have hl:=rz hG hA (bh:=bh) hv f (k:=k) hk (by omega) ho
    refine⟨?_,fun c hc=>?_⟩
    ·have e:(∃c,c∈(⟨(k:Int),(lf ls k).d.start.toNat,o⟩:Cf)::(if dr (lf ls k).d (lf ls k).d.start.toNat=true then gy ls f bh k o else[])∧Ii ls bh v c)↔Ii ls bh v ⟨(k:Int),(lf ls k).d.start.toNat,o⟩∨(dr (lf ls k).d (lf ls k).d.start.toNat=true∧Ih ls o v∧Way ls () false bh k v):=by
      rw[←hl.1]
      constructor
      ·rintro⟨c,hc,h⟩
       rcases List.mem_cons.1 hc with rfl|hc
       ·exact .inl h
       ·split at hc
        ·exact .inr ⟨by assumption,c,hc,h⟩
        ·simp at hc
      ·rintro(h|⟨h1,c,hc,h⟩)
       ·exact⟨_,List.mem_cons_self,h⟩
       ·exact⟨c,List.mem_cons_of_mem _ (by rw[aO h1];exact hc),h⟩
     rw[e]
     constructor
     ·rintro(⟨h1,⟨h2,_⟩|⟨k2,h2,u,v2,h3,rfl,h4,h5⟩⟩|⟨h1,h2,h3⟩)
      ·have h2:(k:Int)= -1:=h2;omega
      ·have h2:(k:Int)=(k2:Int):=h2
       have:k2=k:=by omega
       subst this
       exact⟨h1,.plain h9 EO h4 h5⟩
      ·exact⟨h2,Way.plain (u:=[]) h9 EO h1 h3⟩
     ·rintro⟨h1,h2⟩
      cases h2 with
      |ahead h4=>exact absurd h4 h9
      |behind h4=>exact absurd h4 EO
      | @plain _ _ u v2 _ _ h4 h5=>
       by_cases hu:u=[]
       ·subst hu;exact .inr ⟨h4,h1,h5⟩
       ·exact .inl ⟨h1,.inr ⟨k,F,u,v2,hu,F,h4,h5⟩⟩
    ·rcases List.mem_cons.1 hc with rfl|hc
     ·exact ho
     ·split at hc
      ·exact hl.2 c hc
      ·simp at hc
theorem rz {vs:Nat} (hG:iw ls vs) (hA:Bh ls vs) {bh v:List Nat} (hv:kO (vs:Int) v): ∀(f:Nat) {k:Nat} {o:List Ob},k<ls.length→2*(ls.length-k)≤f+1→GB (ls:=ls) vs o→((∃c,c∈gy ls f bh k o∧Ii ls bh v c)↔Ih ls o v∧Way ls () false bh k v)∧ ∀c∈gy ls f bh k o,GB (ls:=ls) vs c.o
 |0,k,o,hk,hf,_=>absurd hf (by omega)
 |f+1,k,o,hk,hf,ho=>by
  have hj: ∀j,j∈(lf ls k).fo→j<ls.length∧2*(ls.length-j)≤f:=fun j hj=>by
   have:=hG.fo k hk j hj;omega
  unfold gy
  refine⟨?_,fun c hc=>?_⟩
  ·rw[LR,zX]
   have e1:(∃c,c∈((lf ls k).fo.flatMap fun j=>fK ls f bh j o)∧Ii ls bh v c)↔ ∃j,j∈(lf ls k).fo∧Ih ls o v∧Way ls () true bh j v:=by
    constructor
    ·rintro⟨c,hc,h⟩
     obtain⟨j,h1,h2⟩:=List.mem_flatMap.1 hc
     exact⟨j,h1,(mV hG hA hv f (hj j h1).1 (hj j h1).2 ho).1.1 ⟨c,h2,h⟩⟩
    ·rintro⟨j,h1,h2⟩
     obtain⟨c,h3,h4⟩:=(mV hG hA hv f (hj j h1).1 (hj j h1).2 ho).1.2 h2
     exact⟨c,List.mem_flatMap.2 ⟨j,h1,h3⟩,h4⟩
   have e2:(∃c,c∈(if(lf ls k).la=true then[(⟨-1,0,o⟩:Cf)]else[])∧Ii ls bh v c)↔(lf ls k).la=true∧Ih ls o v∧v=[]:=by
    constructor
    ·rintro⟨c,hc,h⟩
     split at hc
     ·rename_i hl
      rw[List.mem_singleton.1 hc]at h
      obtain⟨h1,⟨_,h2⟩|⟨k2,h2,_⟩⟩:=h
      ·exact⟨hl,h1,h2⟩
      ·have h2:(-1:Int)=(k2:Int):=h2;omega
     ·simp at hc
    ·rintro⟨hl,h1,h2⟩
     exact⟨⟨-1,0,o⟩,by rw[aO hl];exact List.mem_singleton.2 F,h1,.inl ⟨F,h2⟩⟩
   rw[e1,e2]
   constructor
   ·rintro(⟨j,h1,h2,h3⟩|⟨h1,h2,h3⟩)
    ·exact⟨h2,.inr ⟨j,h1,h3⟩⟩
    ·exact⟨h2,.inl ⟨h1,h3⟩⟩
   ·rintro⟨h2,⟨h1,h3⟩|⟨j,h1,h3⟩⟩
    ·exact .inr ⟨h1,h2,h3⟩
    ·exact .inl ⟨j,h1,h2,h3⟩
  ·rcases List.mem_append.1 hc with hc|hc
   ·obtain⟨j,h1,h2⟩:=List.mem_flatMap.1 hc
    exact(mV hG hA hv f (hj j h1).1 (hj j h1).2 ho).2 c h2
   ·split at hc
    ·rw[List.mem_singleton.1 hc];exact ho
    ·simp at hc
end
structure LU (ls:List Lf) (vs:Nat) (s:St):Prop where
 ob: ∀c∈s.cf,GB (ls:=ls) vs c.o
 yL: ∀c∈s.cf,jk ls c
theorem xY {vs:Nat} (hG:iw ls vs) (hA:Bh ls vs) {bh v:List Nat} {x:Nat} (hx:x<2^vs) (hv:kO (vs:Int) v) {c:Cf} (hg:jk ls c) (ho:GB (ls:=ls) vs c.o):((∃d,d∈iQ ls (jv ls bh x) x c∧Ii ls (jv ls bh x) v d)↔Ii ls bh (x::v) c)∧ ∀d∈iQ ls (jv ls bh x) x c,GB (ls:=ls) vs d.o:=by
 rcases hg with⟨h1,_,_⟩|⟨k,h1,hk,hs,_⟩
 ·unfold iQ
  rw[aO (by omega)]
  refine⟨⟨fun⟨d,hd,_⟩=>by simp at hd,fun h=>?_⟩,fun d hd=>by simp at hd⟩
  obtain⟨_,⟨_,h2⟩|⟨k2,h2,_⟩⟩:=h
  ·cases h2
  ·omega
 ·obtain⟨h2,h3⟩:=Dh hG hA hx hv c.o [] ho (fun p hp=>by simp at hp)
  have h2:Ih ls (mh ls c.o x) v↔Ih ls c.o (x::v):=h2.trans ⟨fun h=>h.2,fun h=>⟨fun p hp=>by simp at hp,h⟩⟩
  have h3:GB (ls:=ls) vs (mh ls c.o x):=h3
  have hl:=rz hG hA (bh:=jv ls bh x) hv (2*ls.length) (k:=k) hk (by omega) h3
  unfold iQ
  rw[az (by omega),h1,Int.toNat_natCast]
  refine⟨?_,fun d hd=>?_⟩
  ·constructor
   ·rintro⟨d,hd,h⟩
    rcases List.mem_cons.1 hd with rfl|hd
    ·obtain⟨h4,⟨h5,_⟩|⟨k2,h5,u,v2,h6,h7,h8,h9⟩⟩:=h
     ·have h5:(k:Int)= -1:=h5;omega
     ·have h5:(k:Int)=(k2:Int):=h5
      have:k2=k:=by omega
      subst this
      exact⟨h2.1 h4,.inr ⟨k2,h1,x::u,v2,by simp,by rw[h7];rfl,h8,h9⟩⟩
    ·split at hd
     ·rename_i hf
      obtain⟨h4,h5⟩:=hl.1.1 ⟨d,hd,h⟩
      exact⟨h2.1 h4,.inr ⟨k,h1,[x],v,by simp,F,hf,h5⟩⟩
     ·simp at hd
   ·rintro⟨h4,⟨_,h5⟩|⟨k2,h5,u,v2,h6,h7,h8,h9⟩⟩
    ·cases h5
    ·have:k2=k:=by omega
     subst this
     cases u with
     |nil=>exact absurd F h6
     |cons y u=>
      simp only[cI,List.cons.injEq]at h7
      obtain⟨rfl,rfl⟩:=h7
      by_cases hu:u=[]
      ·subst hu
       obtain⟨d,hd,h⟩:=hl.1.2 ⟨h2.2 h4,h9⟩
       have h8:dr (lf ls k2).d (fm (lf ls k2).d c.s x)=true:=h8
       exact⟨d,List.mem_cons_of_mem _ (by rw[aO h8];exact hd),h⟩
      ·exact⟨_,List.mem_cons_self,h2.2 h4,.inr ⟨k2,F,u,v2,hu,F,h8,h9⟩⟩
  ·rcases List.mem_cons.1 hd with rfl|hd
   ·exact h3
   ·split at hd
    ·exact hl.2 d hd
    ·simp at hd
theorem LV {vs:Nat} (hG:iw ls vs) (hA:Bh ls vs) {s:St} (hs:LU ls vs s) {x:Nat} (hx:x<2^vs):LU ls vs (j9 ls s x)∧ ∀v,kO (vs:Int) v→((∃c,c∈(j9 ls s x).cf∧Ii ls (j9 ls s x).bh v c)↔ ∃c,c∈s.cf∧Ii ls s.bh (x::v) c):=by
 have hm: ∀c,c∈(j9 ls s x).cf↔ ∃y,y∈s.cf∧c∈iQ ls (jv ls s.bh x) x y:=fun c=>by
  show c∈((s.cf.flatMap (iQ ls (jv ls s.bh x) x)).foldl add [])↔_
  rw[eC,List.mem_flatMap]
  exact⟨fun h=>h.elim (fun h=>by simp at h) id,.inr⟩
 refine⟨⟨fun c hc=>?_,fun c hc=>?_⟩,fun v hv=>?_⟩
 ·obtain⟨y,hy,hc⟩:=(hm c).1 hc
  exact(xY hG hA (bh:=s.bh) (v:=[]) hx (fun x hx=>by simp at hx) (hs.yL y hy) (hs.ob y hy)).2 c hc
 ·obtain⟨y,hy,hc⟩:=(hm c).1 hc
  exact xT hG hx (hs.yL y hy) c hc
 ·constructor
  ·rintro⟨c,hc,h⟩
   obtain⟨y,hy,hc⟩:=(hm c).1 hc
   exact⟨y,hy,(xY hG hA hx hv (hs.yL y hy) (hs.ob y hy)).1.1 ⟨c,hc,h⟩⟩
  ·rintro⟨y,hy,h⟩
   obtain⟨c,hc,h⟩:=(xY hG hA hx hv (hs.yL y hy) (hs.ob y hy)).1.2 h
   exact⟨c,(hm c).2 ⟨y,hy,hc⟩,h⟩
theorem O5 {vs:Nat} {s:St} (hs:LU ls vs s):pt s=true↔ ∃c,c∈s.cf∧Ii ls s.bh [] c:=by
 unfold pt
 rw[dc]
 constructor
 ·rintro⟨c,hc,h⟩
  rw[aJ,cD,List.isEmpty_iff]at h
  refine⟨c,hc,fun p hp=>by rw[h.2]at hp;simp at hp,.inl ⟨?_,F⟩⟩
  rcases hs.yL c hc with⟨h1,_⟩|⟨k,h1,_⟩
  ·exact h1
  ·omega
 ·rintro⟨c,hc,h1,⟨h2,_⟩|⟨k,_,u,v2,h3,h4,_⟩⟩
  ·refine⟨c,hc,?_⟩
   rw[aJ,cD,List.isEmpty_iff]
   refine⟨by omega,?_⟩
   cases ho:c.o with
   |nil=>rfl
   |cons p o=>
    have h5:=h1 p (by rw[ho];simp)
    have h6:=(hs.ob c hc p (by rw[ho];simp)).2.2.2
    have h5:dr (lf ls p.1).d p.2=true:=h5
    rw[h6]at h5;cases h5
  ·exact absurd (List.append_eq_nil_iff.1 h4.symm).1 h3
theorem Ij {vs:Nat} (hG:iw ls vs) (hA:Bh ls vs) {first:List Nat} (hf: ∀k∈first,k<ls.length):LU ls vs (jo ls first)∧ ∀v,kO (vs:Int) v→((∃c,c∈(jo ls first).cf∧Ii ls (jo ls first).bh v c)↔ ∃k,k∈first∧Way ls () true (jo ls first).bh k v):=by
 have hm: ∀c,c∈(jo ls first).cf↔ ∃k,k∈first∧c∈fK ls (2*ls.length) (ls.map fun l=>l.d.start.toNat) k []:=fun c=>by
  show c∈((first.flatMap fun k=>fK ls (2*ls.length) (ls.map fun l=>l.d.start.toNat) k []).foldl add [])↔_
  rw[eC,List.mem_flatMap]
  exact⟨fun h=>h.elim (fun h=>by simp at h) id,.inr⟩
 have hn:GB (ls:=ls) vs []:=fun p hp=>by simp at hp
 refine⟨⟨fun c hc=>?_,fun c hc=>(sA hG hf).cf c hc⟩,fun v hv=>?_⟩
 ·obtain⟨k,hk,hc⟩:=(hm c).1 hc
  exact(mV hG hA (v:=[]) (fun x hx=>by simp at hx) (2*ls.length) (hf k hk) (by omega) hn).2 c hc
 ·constructor
  ·rintro⟨c,hc,h⟩
   obtain⟨k,hk,hc⟩:=(hm c).1 hc
   exact⟨k,hk,((mV hG hA hv (2*ls.length) (hf k hk) (by omega) hn).1.1 ⟨c,hc,h⟩).2⟩
  ·rintro⟨k,hk,h⟩
   obtain⟨c,hc,h⟩:=(mV hG hA hv (2*ls.length) (hf k hk) (by omega) hn).1.2 ⟨fun p hp=>by simp at hp,h⟩
   exact⟨c,(hm c).2 ⟨k,hk,hc⟩,h⟩
theorem Di {vs:Nat} (hG:iw ls vs) (hA:Bh ls vs) {first:List Nat} (hf: ∀k∈first,k<ls.length) {w:List Nat} (hw:kO (vs:Int) w):pt (w.foldl (j9 ls) (jo ls first))=true↔ ∃k,k∈first∧Way ls () true (ls.map fun l=>l.d.start.toNat) k w:=by
 have run: ∀(u:List Nat) {s:St},LU ls vs s→kO (vs:Int) u→(pt (u.foldl (j9 ls) s)=true↔ ∃c,c∈s.cf∧Ii ls s.bh u c):=by
  intro u
  induction u with
  |nil=>exact fun hs _=>O5 hs
  |cons x u ih=>
   intro s hs hu
   have hx:x<2^vs:=by have:=hu x (by simp);simpa using this
   obtain⟨h1,h2⟩:=LV hG hA hs hx
   rw[cS,ih h1 (fun y hy=>hu y (by simp[hy]))]
   exact h2 u fun y hy=>hu y (by simp[hy])
 obtain⟨h1,h2⟩:=Ij hG hA hf
 rw[run w h1 hw]
 exact h2 w hw
end
end Go.Lx

namespace Go.Lx
open Go.RowKit
structure En where
 c:Nat
 n:Nat
 r:Nat
 f:Nat
def En.to (e:En) (s x:Nat):Nat:=(e.r>>>(4*(e.c*s+x)))%16
def En.fi (e:En) (s:Nat):Bool:=e.f.testBit s
theorem En.GM (e:En) (s x:Nat):e.to s x<16:=Nat.mod_lt _ (by decide)
structure Mc where
 c:Nat
 s0:Nat
 st:Nat→Nat→Nat
 fi:Nat→Bool
def Mc.run (m:Mc) (s:Nat) (w:List Nat):Nat:=w.foldl m.st s
def En.mc (e:En):Mc:=⟨e.c,0,e.to,e.fi⟩
def uN (v:Nat) (m:Mc) (p:Lg):Prop:= ∃h:Nat→Nat,(∀x,x<2^v→h x<m.c)∧ ∀w,kO (v:Int) w→p w=m.fi (m.run m.s0 (w.map h))
def fo {α:Type} (n:Nat) (k:Nat→α):α:=Nat.rec (motive:=fun _=>α) (k 0) (fun m _=>k (Nat.succ m)) n
theorem Mg {α:Type} (n:Nat) (k:Nat→α):fo n k=k n:=by cases n<;>rfl
def Ds (n:Nat) (p:Nat→Bool):Bool:=Nat.rec (motive:=fun _=>Bool) true (fun k ih=>cond (p k) ih false) n
theorem qT {p:Nat→Bool}: ∀ {n:Nat},Ds n p=true↔ ∀k,k<n→p k=true
 |0=>⟨fun _ k hk=>absurd hk (by omega),fun _=>rfl⟩
 |n+1=>by
  have ih:=qT (p:=p) (n:=n)
  have e:Ds (n+1) p=cond (p n) (Ds n p) false:=rfl
  rw[e]
  cases h:p n with
  |false=>exact⟨fun h2=>Bool.noConfusion h2,fun h2=>by rw[h2 n (by omega)]at h;cases h⟩
  |true=>
   show Ds n p=true↔_
   rw[ih]
   exact⟨fun h2 k hk=>(Nat.lt_succ_iff_lt_or_eq.1 hk).elim (h2 k) fun e=>e▸h,fun h2 k hk=>h2 k (by omega)⟩
noncomputable def Dt (l:List Nat) (x:Nat):Bool:=List.rec (motive:=fun _=>Bool) false (fun y _ ih=>cond (Nat.beq x y) true ih) l
theorem x7 {x:Nat}: ∀ {l:List Nat},Dt l x=true↔x∈l
 | []=>by simp[Dt]
 |y::l=>by
  have ih:=x7 (x:=x) (l:=l)
  have e:Dt (y::l) x=cond (Nat.beq x y) true (Dt l x):=rfl
  rw[e]
  cases h:Nat.beq x y with
  |true=>have:=Nat.eq_of_beq_eq_true h;subst this;simp
  |false=>
   have h2:x≠y:=Nat.ne_of_beq_eq_false h
   show Dt l x=true↔_
   rw[ih];simp[h2]
noncomputable def Ab (l:List Nat) (p:Nat→Bool):Bool:=List.rec (motive:=fun _=>Bool) true (fun y _ ih=>cond (p y) ih false) l
theorem Ac {p:Nat→Bool}: ∀ {l:List Nat},Ab l p=true↔ ∀x∈l,p x=true
 | []=>by simp[Ab]
 |y::l=>by
  have ih:=Ac (p:=p) (l:=l)
  have e:Ab (y::l) p=cond (p y) (Ab l p) false:=rfl
  rw[e]
  cases h:p y with
  |false=>simp[h]
  |true=>show Ab l p=true↔_;rw[ih];simp[h]
noncomputable def aav (c:Nat) (st:Nat→Nat→Nat) (n:Nat):List Nat→List Nat→List Nat:=
 Nat.rec (motive:=fun _=>List Nat→List Nat→List Nat) (fun _ seen=>seen) (fun _ ih todo seen=>
  List.rec (motive:=fun _=>List Nat) seen (fun s rest _=>
   (Nat.rec (motive:=fun _=>List Nat→List Nat→List Nat) (fun t sn=>ih t sn) (fun x k t sn=>fo (st s x) fun y=>cond (Dt sn y) (k t sn) (k (y::t) (y::sn))) c:List Nat→List Nat→List Nat) rest seen) todo) n
noncomputable def XQ (m:Mc) (e:En) (g:Nat) (L:List Nat):Bool:=
 Dt L (m.s0*16)&&Ab L fun p=>((m.fi (p/16)==e.fi (p%16))&&Ds m.c fun x=>fo (m.st (p/16) x*16+e.to (p%16) ((g>>>(4*x))%16)) (Dt L))
theorem Pf {m:Mc} {e:En} {g:Nat} {L:List Nat} (h:XQ m e g L=true): ∀ {w:List Nat} {s t:Nat},t<16→s*16+t∈L→(∀x∈w,x<m.c)→m.fi (m.run s w)=e.fi (e.mc.run t (w.map fun x=>(g>>>(4*x))%16)):=by
 unfold XQ at h
 rw[aJ,Ac]at h
 intro w
 induction w with
 |nil=>
  intro s t ht hm _
  have h2:=h.2 _ hm
  rw[aJ]at h2
  have h3:=h2.1
  rw[show(s*16+t)/16=s by omega,show(s*16+t)%16=t by omega]at h3
  exact eq_of_beq h3
 |cons x w ih=>
  intro s t ht hm hw
  have h2:=h.2 _ hm
  rw[aJ,qT]at h2
  have h3:=h2.2 x (hw x (by simp))
  rw[Mg,x7,show(s*16+t)/16=s by omega,show(s*16+t)%16=t by omega]at h3
  exact ih (e.GM _ _) h3 fun y hy=>hw y (by simp[hy])
theorem Pg {v:Nat} {m:Mc} {e:En} {g:Nat} {L:List Nat} {p:Lg} (h:XQ m e g L=true) (hg: ∀x,x<m.c→(g>>>(4*x))%16<e.c) (hr:uN v m p):uN v e.mc p:=by
 obtain⟨k,h1,h2⟩:=hr
 refine⟨fun x=>(g>>>(4*k x))%16,fun x hx=>hg _ (h1 x hx),fun w hw=>?_⟩
 have h0:m.s0*16+0∈L:=by
  unfold XQ at h;rw[aJ]at h;exact x7.1 h.1
 rw[h2 w hw,Pf h (by decide) h0 (fun x hx=>by obtain⟨y,hy,rfl⟩:=List.mem_map.1 hx;exact h1 y (by simpa using hw y hy)),List.map_map]
 rfl
def x8 (a:En):Mc:=⟨a.c,0,a.to,fun s=>!a.fi s⟩
def oP (o:Bool→Bool→Bool) (a b:En):Mc:=⟨a.c*b.c,0,fun s z=>a.to (s/16) (z/b.c)*16+b.to (s%16) (z%b.c),fun s=>o (a.fi (s/16)) (b.fi (s%16))⟩
def TZ (b:En) (m y:Nat):Nat:=Nat.rec (motive:=fun _=>Nat) 0 (fun k ih=>ih|||cond (m.testBit k) (2^b.to k y) 0) 16
def T1 (a:En) (p m:Nat):Nat:=p+16*(m|||(a.fi p).toNat)
def tQ (a b:En):Mc:=⟨a.c*b.c,T1 a 0 0,fun s z=>fo (a.to (s%16) (z/b.c)) fun p=>T1 a p (TZ b (s/16) (z%b.c)),fun s=>!Nat.beq ((s/16)&&&b.f) 0⟩
def nT (a:En):Mc:=⟨a.c,65537,fun s z=>fo (TZ a s z) fun m=>m|||(!Nat.beq (m&&&a.f) 0).toNat,fun s=>s.testBit 16||!Nat.beq (s&&&a.f) 0⟩
theorem Ph {v:Nat} {a:En} {p:Lg} (h:uN v a.mc p):uN v (x8 a) (fun u=>!p u):=by
 obtain⟨k,h1,h2⟩:=h
 exact⟨k,h1,fun w hw=>by show(!p w)=_;rw[h2 w hw];rfl⟩
theorem x9 {x y a b:Nat} (hx:x<a) (hy:y<b):x*b+y<a*b:=by
 have:=Nat.mul_le_mul_right b (show x+1≤a by omega)
 rw[Nat.add_mul]at this;omega
theorem tR {x y b:Nat} (hy:y<b):(x*b+y)/b=x∧(x*b+y)%b=y:=by
 have hb:0<b:=by omega
 refine⟨?_,?_⟩
 ·rw[Nat.mul_comm,Nat.mul_add_div hb,Nat.div_eq_of_lt hy];omega
 ·rw[Nat.mul_comm,Nat.mul_add_mod,Nat.mod_eq_of_lt hy]
theorem Mh (o:Bool→Bool→Bool) (a b:En) (h k:Nat→Nat): ∀(w:List Nat) {s t:Nat},(∀x∈w,k x<b.c)→t<16→(oP o a b).run (s*16+t) (w.map fun x=>h x*b.c+k x)=a.mc.run s (w.map h)*16+b.mc.run t (w.map k)∧b.mc.run t (w.map k)<16
 | [],s,t,_,ht=>⟨F,ht⟩
 |x::w,s,t,hk,ht=>by
  have:=Mh o a b h k w (s:=a.to s (h x)) (t:=b.to t (k x)) (fun y hy=>hk y (by simp[hy])) (b.GM _ _)
  obtain⟨e1,e2⟩:=tR (x:=h x) (hk x (by simp))
  have e:(oP o a b).st (s*16+t) (h x*b.c+k x)=a.to s (h x)*16+b.to t (k x):=by
   show a.to ((s*16+t)/16) _*16+b.to ((s*16+t)%16) _=_
   rw[e1,e2,show(s*16+t)/16=s by omega,show(s*16+t)%16=t by omega]
  unfold Mc.run at this⊢
  rw[cJ,cS,e]
  exact this
theorem Bj {v:Nat} {a b:En} {p q:Lg} (o:Bool→Bool→Bool) (ha:uN v a.mc p) (hb:uN v b.mc q):uN v (oP o a b) (fun u=>o (p u) (q u)):=by
 obtain⟨h,h1,h2⟩:=ha
 obtain⟨k,k1,k2⟩:=hb
 refine⟨fun x=>h x*b.c+k x,fun x hx=>x9 (h1 x hx) (k1 x hx),fun w hw=>?_⟩
 have:=Mh o a b h k w (s:=0) (t:=0) (fun x hx=>k1 x (by simpa using hw x hx)) (by decide)
 show o (p w) (q w)=o (a.fi ((oP o a b).run 0 _/16)) (b.fi ((oP o a b).run 0 _%16))
 have e:(oP o a b).run 0 (w.map fun x=>h x*b.c+k x)=a.mc.run 0 (w.map h)*16+b.mc.run 0 (w.map k):=this.1
 rw[e,show(a.mc.run 0 (w.map h)*16+b.mc.run 0 (w.map k))/16=a.mc.run 0 (w.map h) by have:=this.2;omega,show(a.mc.run 0 (w.map h)*16+b.mc.run 0 (w.map k))%16=b.mc.run 0 (w.map k) by have:=this.2;omega,h2 w hw,k2 w hw]
 rfl
theorem GN (b:En) (m y t:Nat): ∀n,(Nat.rec (motive:=fun _=>Nat) 0 (fun k ih=>ih|||cond (m.testBit k) (2^b.to k y) 0) n:Nat).testBit t=true↔ ∃q,q<n∧m.testBit q=true∧b.to q y=t
 |0=>by
  show(0:Nat).testBit t=true↔_
  simp
 |n+1=>by
  have ih:=GN b m y t n
  show((Nat.rec (motive:=fun _=>Nat) 0 (fun k ih=>ih|||cond (m.testBit k) (2^b.to k y) 0) n:Nat)|||cond (m.testBit n) (2^b.to n y) 0).testBit t=true↔_
  rw[Nat.testBit_or,Bool.or_eq_true,ih]
  constructor
  ·rintro(⟨q,h1,h2⟩|h)
   ·exact⟨q,by omega,h2⟩
   ·cases hm:m.testBit n with
    |false=>rw[hm]at h;simp at h
    |true=>
     rw[hm]at h
     have h:(2^b.to n y).testBit t=true:=h
     rw[Nat.testBit_two_pow]at h
     exact⟨n,by omega,hm,by simpa using h⟩
  ·rintro⟨q,h1,h2,h3⟩
   rcases Nat.lt_succ_iff_lt_or_eq.1 h1 with c|rfl
   ·exact .inl ⟨q,c,h2,h3⟩
   ·refine .inr ?_
    rw[h2]
    show(2^b.to q y).testBit t=true
    rw[Nat.testBit_two_pow];simpa using h3
theorem Bk {b:En} {m y t:Nat}:(TZ b m y).testBit t=true↔ ∃q,q<16∧m.testBit q=true∧b.to q y=t:=GN b m y t 16
theorem pF (c:Bool) (t:Nat):c.toNat.testBit t=true↔c=true∧t=0:=by
 cases c with
 |false=>simp
 |true=>
  show(2^0).testBit t=true↔_
  rw[Nat.testBit_two_pow];simp[eq_comm]
theorem x_ {m f:Nat}:(!Nat.beq (m&&&f) 0)=true↔ ∃q,m.testBit q=true∧f.testBit q=true:=by
 rw[Bool.not_eq_true']
 constructor
 ·intro h
  have h2:m&&&f≠0:=Nat.ne_of_beq_eq_false h
  obtain⟨q,hq⟩:=Nat.exists_testBit_of_ne_zero h2
  rw[Nat.testBit_and,aJ]at hq
  exact⟨q,hq⟩
 ·rintro⟨q,h1,h2⟩
  cases hb:Nat.beq (m&&&f) 0 with
  |false=>rfl
  |true=>
   have h3:=Nat.eq_of_beq_eq_true hb
   have h4:(m&&&f).testBit q=true:=by rw[Nat.testBit_and,h1,h2];rfl
   rw[h3]at h4;simp at h4
theorem mi (m:Mc) (s:Nat) (w:List Nat) (x:Nat):m.run s (w++[x])=m.st (m.run s w) x:=by unfold Mc.run;rw[cO];rfl
theorem Ad (e:En): ∀ {w:List Nat},e.mc.run 0 w<16:=by
 intro w
 rcases List.eq_nil_or_concat w with rfl|⟨u,x,rfl⟩
 ·exact Nat.zero_lt_succ _
 ·rw[List.concat_eq_append,mi];exact e.GM _ _
theorem sK {α:Type} {w u t:List α} {x:α} (h:w++[x]=u++t):(t=[]∧u=w++[x])∨ ∃t',t=t'++[x]∧w=u++t':=by
 rcases List.eq_nil_or_concat t with rfl|⟨t',y,rfl⟩
 ·exact .inl ⟨F,by simpa using h.symm⟩
 ·rw[List.concat_eq_append,←aI]at h
  have:=List.append_inj' h F
  refine .inr ⟨t',?_,this.1⟩
  rw[List.concat_eq_append,List.singleton_inj.1 this.2]
theorem Du {a b:En} {h k:Nat→Nat}: ∀(n:Nat) {w:List Nat},w.length=n→(∀x∈w,k x<b.c)→ ∃m,(tQ a b).run (tQ a b).s0 (w.map fun x=>h x*b.c+k x)=a.mc.run 0 (w.map h)+16*m∧ ∀q,m.testBit q=true↔ ∃u t,w=u++t∧a.fi (a.mc.run 0 (u.map h))=true∧b.mc.run 0 (t.map k)=q
 |0,w,hl,_=>by
  have:=List.length_eq_zero_iff.1 hl
  subst this
  refine⟨0|||(a.fi 0).toNat,F,fun q=>?_⟩
  rw[Nat.zero_or,pF]
  constructor
  ·rintro⟨h1,rfl⟩;exact⟨[],[],F,h1,F⟩
  ·rintro⟨u,t,e,h1,h2⟩
   have:=List.append_eq_nil_iff.1 e.symm
   obtain⟨rfl,rfl⟩:=this
   exact⟨h1,h2.symm⟩
 |n+1,w,hl,hk=>by
  rcases List.eq_nil_or_concat w with rfl|⟨w,x,rfl⟩
  ·cases hl
  rw[List.concat_eq_append]at hl hk⊢
  obtain⟨m,h1,h2⟩:=Du (a:=a) (b:=b) (h:=h) (k:=k) n (w:=w) (by simpa using hl) (fun y hy=>hk y (by simp[hy]))
  obtain⟨e1,e2⟩:=tR (x:=h x) (hk x (by simp))
  have gn:=Ad a (w:=w.map h)
  obtain⟨P,hP⟩: ∃P,P=a.to (a.mc.run 0 (w.map h)) (h x):=⟨_,F⟩
  have e3:a.mc.run 0 ((w++[x]).map h)=P:=by rw[bm,List.map_singleton,mi,hP];rfl
  refine⟨TZ b m (k x)|||(a.fi P).toNat,?_,fun q=>?_⟩
  ·rw[e3,bm,List.map_singleton,mi,h1]
   show fo (a.to ((_+16*m)%16) _) (fun p=>T1 a p (TZ b ((_+16*m)/16) _))=_
   rw[Mg,e1,e2,show(a.mc.run 0 (w.map h)+16*m)%16=a.mc.run 0 (w.map h) by omega,show(a.mc.run 0 (w.map h)+16*m)/16=m by omega,←hP]
   rfl
  ·rw[Nat.testBit_or,Bool.or_eq_true,Bk,pF]
   constructor
   ·rintro(⟨r,_,hr,rfl⟩|⟨hf,rfl⟩)
    ·obtain⟨u,t,rfl,h3,h4⟩:=(h2 r).1 hr
     refine⟨u,t++[x],by simp,h3,?_⟩
     rw[bm,List.map_singleton,mi,h4];rfl
    ·exact⟨w++[x],[],by simp,by rw[e3];exact hf,F⟩
   ·rintro⟨u,t,e,h3,h4⟩
    rcases sK e with⟨rfl,rfl⟩|⟨t',rfl,rfl⟩
    ·rw[e3]at h3;exact .inr ⟨h3,h4.symm⟩
    ·refine .inl ⟨b.mc.run 0 (t'.map k),Ad b,(h2 _).2 ⟨u,t',F,h3,F⟩,?_⟩
     rw[←h4,bm,List.map_singleton,mi];rfl
theorem Pj {v:Nat} {a b:En} {p q:Lg} (ha:uN v a.mc p) (hb:uN v b.mc q):uN v (tQ a b) (je p q):=by
 obtain⟨h,h1,h2⟩:=ha
 obtain⟨k,k1,k2⟩:=hb
 refine⟨fun x=>h x*b.c+k x,fun x hx=>x9 (h1 x hx) (k1 x hx),fun w hw=>?_⟩
 obtain⟨m,e1,e2⟩:=Du (a:=a) (b:=b) (h:=h) (k:=k) _ (w:=w) F (fun x hx=>k1 x (by simpa using hw x hx))
 rw[eo,e1]
 have gn:=Ad a (w:=w.map h)
 show _↔(!Nat.beq ((a.mc.run 0 (w.map h)+16*m)/16&&&b.f) 0)=true
 rw[show(a.mc.run 0 (w.map h)+16*m)/16=m by omega,x_,i_]
 constructor
 ·rintro⟨x,y,rfl,hx,hy⟩
  rw[h2 x (fun z hz=>hw z (by simp[hz]))]at hx
  rw[k2 y (fun z hz=>hw z (by simp[hz]))]at hy
  exact⟨_,(e2 _).2 ⟨x,y,F,hx,F⟩,hy⟩
 ·rintro⟨r,hr,hf⟩
  obtain⟨x,y,rfl,hx,rfl⟩:=(e2 r).1 hr
  refine⟨x,y,F,?_,?_⟩
  ·rw[h2 x (fun z hz=>hw z (by simp[hz]))];exact hx
  ·rw[k2 y (fun z hz=>hw z (by simp[hz]))];exact hf
theorem Ae {a:En} {h:Nat→Nat}: ∀(n:Nat) {w:List Nat},w.length=n→(((nT a).run 65537 (w.map h)).testBit 16=true↔w=[])∧ ∀q,q<16→(((nT a).run 65537 (w.map h)).testBit q=true↔ ∃u t,w=u++t∧iI (fun z=>a.fi (a.mc.run 0 (z.map h))) u∧a.mc.run 0 (t.map h)=q)
 |0,w,hl=>by
  have:=List.length_eq_zero_iff.1 hl
  subst this
  refine⟨by simp[Mc.run];decide,fun q hq=>?_⟩
  have e:(65537:Nat)=2^16|||2^0:=by decide
  show(65537:Nat).testBit q=true↔_
  rw[e,Nat.testBit_or,Nat.testBit_two_pow,Nat.testBit_two_pow]
  simp only[Bool.or_eq_true,cD]
  constructor
  ·rintro(rfl|rfl)
   ·omega
   ·exact⟨[],[],F,.nil,F⟩
  ·rintro⟨u,t,e,h1,h2⟩
   obtain⟨rfl,rfl⟩:=List.append_eq_nil_iff.1 e.symm
   exact .inr h2
 |n+1,w,hl=>by
  rcases List.eq_nil_or_concat w with rfl|⟨w,x,rfl⟩
  ·cases hl
  rw[List.concat_eq_append]at hl⊢
  obtain⟨_,h2⟩:=Ae (a:=a) (h:=h) n (w:=w) (by simpa using hl)
  obtain⟨m,hm⟩: ∃m,m=TZ a ((nT a).run 65537 (w.map h)) (h x):=⟨_,F⟩
  have e1:(nT a).run 65537 ((w++[x]).map h)=m|||(!Nat.beq (m&&&a.f) 0).toNat:=by
   rw[bm,List.map_singleton,mi]
   show fo (TZ a ((nT a).run 65537 (w.map h)) (h x)) (fun m=>m|||(!Nat.beq (m&&&a.f) 0).toNat)=_
   rw[Mg,←hm]
  have hb: ∀q,m.testBit q=true↔ ∃u t,w=u++t∧iI (fun z=>a.fi (a.mc.run 0 (z.map h))) u∧a.mc.run 0 ((t++[x]).map h)=q:=fun q=>by
   rw[hm,Bk]
   constructor
   ·rintro⟨r,hr,h3,rfl⟩
    obtain⟨u,t,rfl,h4,h5⟩:=(h2 r hr).1 h3
    refine⟨u,t,F,h4,?_⟩
    rw[bm,List.map_singleton,mi,h5];rfl
   ·rintro⟨u,t,rfl,h4,h5⟩
    refine⟨a.mc.run 0 (t.map h),Ad a,(h2 _ (Ad a)).2 ⟨u,t,F,h4,F⟩,?_⟩
    rw[←h5,bm,List.map_singleton,mi];rfl
  have hs:(!Nat.beq (m&&&a.f) 0)=true↔iI (fun z=>a.fi (a.mc.run 0 (z.map h))) (w++[x]):=by
   rw[x_]
   constructor
   ·rintro⟨q,h3,h4⟩
    obtain⟨u,t,rfl,h5,rfl⟩:=(hb q).1 h3
    rw[aI];exact h5.snoc h4
   ·intro hs
    obtain⟨u,t,e,h5,h6,h7⟩:=hs.last (by simp)
    rcases sK e with⟨rfl,_⟩|⟨t',rfl,rfl⟩
    ·exact absurd F h7
    ·exact⟨_,(hb _).2 ⟨u,t',F,h5,F⟩,h6⟩
  rw[e1]
  refine⟨?_,fun q hq=>?_⟩
  ·rw[Nat.testBit_or,Bool.or_eq_true,pF,hm,Bk]
   constructor
   ·rintro(⟨r,_,_,h3⟩|⟨_,h3⟩)
    ·have:=a.GM r (h x);omega
    ·omega
   ·intro h3;simp at h3
  ·rw[Nat.testBit_or,Bool.or_eq_true,pF,hs,hb]
   constructor
   ·rintro(⟨u,t,rfl,h3,h4⟩|⟨h3,rfl⟩)
    ·exact⟨u,t++[x],by simp,h3,h4⟩
    ·exact⟨w++[x],[],by simp,h3,F⟩
   ·rintro⟨u,t,e,h3,h4⟩
    rcases sK e with⟨rfl,rfl⟩|⟨t',rfl,rfl⟩
    ·exact .inr ⟨h3,h4.symm⟩
    ·exact .inl ⟨u,t',F,h3,h4⟩
theorem iI.congr {p q:Lg} {v:Int} (h: ∀w,kO v w→p w=q w): ∀ {w:List Nat},kO v w→iI p w→iI q w:=by
 intro w hw hs
 induction hs with
 |nil=>exact .nil
 |pG h1 _ ih=>exact .pG (by rw[←h _ (fun z hz=>hw z (by simp[hz]))];exact h1) (ih fun z hz=>hw z (by simp[hz]))
theorem Mi {v:Nat} {a:En} (hf:a.f<65536) {p:Lg} (ha:uN v a.mc p):uN v (nT a) (pK p):=by
 obtain⟨h,h1,h2⟩:=ha
 refine⟨h,h1,fun w hw=>?_⟩
 obtain⟨e1,e2⟩:=Ae (a:=a) (h:=h) _ (w:=w) F
 have rL: ∀q,a.f.testBit q=true→q<16:=fun q hq=>by
  rcases Nat.lt_or_ge q 16 with c|c
  ·exact c
  ·rw[Nat.testBit_lt_two_pow (eQ hf (cF (by decide) c:(2^16:Nat)≤2^q))]at hq;cases hq
 rw[eo,oF]
 show _↔(((nT a).run 65537 (w.map h)).testBit 16||!Nat.beq ((nT a).run 65537 (w.map h)&&&a.f) 0)=true
 rw[Bool.or_eq_true,e1,x_]
 constructor
 ·intro hs
  by_cases hn:w=[]
  ·exact .inl hn
  ·obtain⟨u,t,rfl,h3,h4,_⟩:=(iI.congr (fun u hu=>h2 u hu) hw hs).last hn
   exact .inr ⟨_,(e2 _ (Ad a)).2 ⟨u,t,F,h3,F⟩,h4⟩
 ·rintro(rfl|⟨q,h3,h4⟩)
  ·exact .nil
  ·obtain⟨u,t,rfl,h5,rfl⟩:=(e2 q (rL q h4)).1 h3
   exact iI.congr (fun u hu=>(h2 u hu).symm) hw (h5.snoc h4)
end Go.Lx

namespace Go.Lx
open Go.RowKit
theorem Fa {v:Nat} (hv:v≤6) {m:Mc} {p:Lg} (hr:uN v m p) {L:List Nat} (h0:m.s0∈L) (hc: ∀s∈L,∀x,x<m.c→m.st s x∈L) (hn:L.length≤4096): ∃D,HasL (v:Int) L.length D p:=by
 obtain⟨h,h1,h2⟩:=hr
 have hp:0<L.length:=List.length_pos_of_mem h0
 have hl:(2:Nat)^((v:Int)).toNat=2^v:=by simp
 obtain⟨D,hD⟩: ∃D:cU,D=⟨(v:Int),((ix m.s0 L:Nat):Int),L.map (fun s=>(List.range (2^v)).map fun x=>((ix (m.st s (h x)) L:Nat):Int)),L.map m.fi⟩:=⟨_,F⟩
 have sf:D.next=L.map (fun s=>(List.range (2^v)).map fun x=>((ix (m.st s (h x)) L:Nat):Int)):=by rw[hD]
 have iA:D.next.length=L.length:=by rw[sf,ar]
 have hix:=rO h0
 have mA:Valid D:=by
  refine⟨⟨by rw[hD];exact Int.natCast_nonneg _,by rw[hD];show(v:Int)≤6;omega,by rw[iA];exact hp,by rw[iA,hD];simp,by rw[hD];exact Int.natCast_nonneg _,by rw[iA,hD];show((ix m.s0 L:Nat):Int)<_;omega,fun r hr=>?_,fun r hr x hx=>?_⟩,by rw[iA];exact hn⟩
  ·rw[sf]at hr
   obtain⟨s,_,rfl⟩:=List.mem_map.1 hr
   rw[hD];simp
  ·rw[sf]at hr
   obtain⟨s,hs,rfl⟩:=List.mem_map.1 hr
   obtain⟨y,hy,rfl⟩:=List.mem_map.1 hx
   have:=rO (hc s hs (h y) (h1 y (List.mem_range.1 hy)))
   exact⟨Int.natCast_nonneg _,by rw[iA];omega⟩
 refine⟨D,mA,by rw[iA];exact bF _,by rw[hD],fun w hw=>?_⟩
 have run: ∀(u:List Nat) {s:Nat},s∈L→kO (v:Int) u→runN D (ix s L) u=ix (m.run s (u.map h)) L∧m.run s (u.map h)∈L:=by
  intro u
  induction u with
  |nil=>exact fun hs _=>⟨F,hs⟩
  |cons x u ih=>
   intro s hs hu
   have hx:x<2^v:=by have:=hu x (by simp);rwa[hl]at this
   have hm:=hc s hs (h x) (h1 x hx)
   have ht:fm D (ix s L) x=ix (m.st s (h x)) L:=by
    unfold fm
    simp only[sf,av,bq,pC hs,Option.map_some,Option.getD_some,List.getElem?_range hx,Int.toNat_natCast]
   have:=ih hm fun y hy=>hu y (by simp[hy])
   unfold runN Mc.run at this⊢
   rw[cJ,cS,cS,ht]
   exact this
 obtain⟨e1,e2⟩:=run w h0 hw
 unfold iM
 have e0:D.start.toNat=ix m.s0 L:=by rw[hD];rfl
 rw[e0,e1,h2 w hw]
 unfold dr
 have e3:D.aY=L.map m.fi:=by rw[hD]
 rw[e3,av,bq,pC e2]
 rfl
def aaw:List En:=[⟨1,1,0x0,0⟩,⟨1,2,0x11,1⟩,⟨2,3,0x222221,2⟩,⟨1,1,0x0,1⟩,⟨1,2,0x11,2⟩,⟨2,3,0x222221,5⟩,⟨2,2,0x1110,1⟩,⟨2,2,0x1110,2⟩,⟨4,4,0x2222222232322211,8⟩,⟨2,3,0x222221,3⟩,⟨4,4,0x2222222232322211,7⟩,⟨2,3,0x222221,4⟩,⟨2,3,0x222121,5⟩,⟨4,3,0x222220202211,1⟩,⟨2,3,0x221121,2⟩,⟨2,4,0x33223321,8⟩,⟨4,5,0x44444444222243432211,18⟩,⟨4,3,0x222221212211,2⟩,⟨2,3,0x111121,3⟩,⟨3,4,0x333333331321,7⟩,⟨2,3,0x111121,4⟩,⟨2,2,0x1010,2⟩,⟨2,3,0x212111,4⟩,⟨4,5,0x43434343444444444321,10⟩,⟨4,4,0x3333333332103210,6⟩,⟨2,3,0x222121,2⟩,⟨4,3,0x222220202211,6⟩,⟨2,3,0x221121,5⟩,⟨2,4,0x33223321,7⟩,⟨4,5,0x44444444222243432211,13⟩,⟨4,3,0x222221212211,5⟩,⟨3,4,0x333333331321,8⟩,⟨2,2,0x1010,1⟩,⟨2,3,0x212111,3⟩,⟨4,5,0x43434343444444444321,21⟩,⟨4,4,0x3333333332103210,9⟩,⟨2,3,0x221121,3⟩,⟨2,4,0x33223321,9⟩,⟨3,5,0x333333222433221,11⟩,⟨3,3,0x222211221,3⟩,⟨2,3,0x212111,5⟩,⟨3,4,0x331333331321,3⟩,⟨3,3,0x222210210,1⟩,⟨4,4,0x3333222231312211,8⟩,⟨8,5,0x2222222242424242222222223322332222221111,16⟩,⟨4,4,0x2222222232322211,10⟩,⟨4,4,0x2222222232322211,9⟩,⟨3,4,0x323222323321,6⟩,⟨8,5,0x4444444442424242444444444242424244332211,6⟩,⟨1,3,0x221,4⟩,⟨4,3,0x222221212100,3⟩,⟨4,4,0x3333323233113210,7⟩,⟨3,4,0x323222323321,9⟩,⟨3,4,0x333322322321,5⟩,⟨4,3,0x212121211100,4⟩,⟨4,5,0x44444444434343434321,10⟩,⟨2,3,0x221121,4⟩,⟨2,4,0x33223321,6⟩,⟨3,5,0x333333222433221,20⟩,⟨3,3,0x222211221,4⟩,⟨2,3,0x212111,2⟩,⟨3,4,0x331333331321,12⟩,⟨3,3,0x222210210,6⟩,⟨4,4,0x3333222231312211,7⟩,⟨8,5,0x2222222242424242222222223322332222221111,15⟩,⟨4,4,0x2222222232322211,5⟩,⟨4,4,0x2222222232322211,6⟩,⟨8,5,0x4444444442424242444444444242424244332211,25⟩,⟨1,3,0x221,3⟩,⟨4,3,0x222221212100,4⟩,⟨4,4,0x3333323233113210,8⟩,⟨3,4,0x333322322321,10⟩,⟨4,3,0x212121211100,3⟩,⟨4,5,0x44444444434343434321,21⟩,⟨4,4,0x3333222230302211,5⟩,⟨3,4,0x333333331321,9⟩,⟨4,4,0x3030022000003210,5⟩,⟨4,4,0x3333222231312211,9⟩,⟨8,4,0x20202020222222223322332222221111,1⟩,⟨3,3,0x222201221,3⟩,⟨3,3,0x212111210,3⟩,⟨8,4,0x33333333303030303021110033221100,3⟩,⟨1,3,0x221,5⟩,⟨4,4,0x3232323222112211,9⟩,⟨3,3,0x222220210,1⟩,⟨8,6,0x444444444444444454545454222222224433443322221111,26⟩,⟨4,5,0x44444444222243432211,16⟩,⟨4,5,0x44444343222243432211,18⟩,⟨8,4,0x21212121222222223322332222221111,2⟩,⟨4,4,0x3333222232322211,8⟩,⟨4,5,0x44444444222232322211,16⟩,⟨8,6,0x555555555555555554545454222222223322332222221111,40⟩,⟨8,4,0x32323232222222223322332222221111,8⟩,⟨4,5,0x33333333222243432211,10⟩,⟨6,5,0x222222232232222222432432222111,26⟩,⟨4,4,0x3131222231312211,8⟩,⟨4,5,0x43434343222233332211,16⟩,⟨8,7,0x65656565656565656666666666666666222222226543654322221111,40⟩,⟨8,5,0x2222222243214321222222224321432122221111,24⟩,⟨4,5,0x44444444222243432211,19⟩,⟨4,3,0x222221212211,3⟩,⟨2,3,0x111121,5⟩,⟨4,5,0x43434343444444444321,11⟩,⟨4,4,0x3333333332103210,5⟩,⟨2,3,0x111121,2⟩,⟨3,4,0x323222323321,7⟩,⟨8,6,0x443344334444444454545454444444445454545444332211,39⟩,⟨3,4,0x333333111321,6⟩,⟨4,5,0x44441111444411114321,6⟩,⟨6,6,0x555555555555333333333333545454332211,38⟩,⟨6,4,0x333333333333313131332211,6⟩,⟨3,3,0x221221211,2⟩,⟨4,3,0x212121212211,2⟩,⟨6,5,0x444242444444444242444444432211,6⟩,⟨6,5,0x444444434231444444434231432211,6⟩,⟨4,4,0x3120110031201100,12⟩,⟨2,3,0x222111,4⟩,⟨4,5,0x42312211423122111111,24⟩,⟨8,7,0x54635463443344334433443354635463444444445454545444332211,96⟩,⟨8,8,0x3333333373737373736251403322110033333333737373737362514033221100,240⟩,⟨3,3,0x222222210,3⟩,⟨8,6,0x444444444444444454545454444422225454222244332211,39⟩,⟨3,3,0x222211210,2⟩,⟨2,3,0x222210,4⟩,⟨3,3,0x222221211,3⟩,⟨8,7,0x44444444444444444433443344334433645364536453645344332211,42⟩,⟨4,4,0x3232323222222211,8⟩,⟨4,5,0x43434343442244224321,10⟩,⟨8,5,0x4444444444444444404040404040404044332211,10⟩,⟨4,5,0x22222222212121214321,10⟩,⟨6,7,0x666666666666656565656565656521656521654321,42⟩,⟨4,4,0x1111313111112211,8⟩]
def nw (i:Nat):En:=aaw.getD i ⟨0,0,0,0⟩
def Pk:List (List Nat):=[[],[0,1,2],[1,3,4,5,6],[0,1,2,3,4,5,6,7,8,9],[0,1,2,3,4,5,6,7,9,10,11,12,13,14,15,16,17,18,19,20,21,22,23,24],[0,1,2,3,4,5,6,7,8,9,11,12,13,14,15,16,17,18,19,20,21,22,23,24,25,26,27,28,29,30,31,32,33,34,35,36,37,38,39,40,41,42,43,44,45,46,47,48,49,50,51,52,53,54,55],[0,1,2,3,4,5,6,7,8,9,10,11,12,13,14,15,16,17,18,19,20,21,22,23,24,25,26,27,28,29,30,31,32,33,34,35,36,37,38,39,40,41,42,43,45,46,47,49,50,51,52,53,54,55,56,57,58,59,60,61,62,63,64,65,66,67,68,69,70,71,72,73,74,75,76,77,78,79,80,81,82,83,84,85,86,87,88,89,90,91,92,93,94,95,96,97,98,99,100,101,102,103,104,105,106,107,108,109,110,111,112,113,114,115,116,117,118,119,120,121,122,123,124,125,126,127,128,129,130,131]]
def un2:List (List Nat):=[[3,4,4101],[1,1,4102]]
def un3:List (List Nat):=[[4,0,1,4098,4103],[1,3,3,4101,4102]]
def ca3:List (List (List Nat)):=[[[0,0,0],[0,1,4098],[0,4098,2294024]]]
def or3:List (List (List Nat)):=[[[0,1,4098],[1,1,4105],[4098,4105,1048578]]]
def an3:List (List (List Nat)):=[[[0,0,0],[0,1,0],[0,0,1118210]]]
def un4:List (List Nat):=[[3,4,4101,0,1,4098,4103,4102,3280906,4107],[1,1,4102,3,3,4101,4102,4108,2294029,4102]]
def ca4:List (List (List Nat)):=[[[0,0,0,0,0],[1,3,4,4101,4102],[4098,4110,4111,3280912,3280913]],[[0,1,4098],[0,3,277],[0,4,278],[0,4101,3280919],[0,4102,3277080]]]
def or4:List (List (List Nat)):=[[[1,3,4,4101,4102],[1,3,3,4101,4102],[4105,3,4,65554,2101267]]]
def an4:List (List (List Nat)):=[[[0,0,0,0,0],[1,1,0,1,1],[0,4098,4098,4116,1118210]]]
def un5:List (List Nat):=[[3,4,4101,0,1,4098,4103,4102,4107,3280904,4105,4121,3280922,4123,4124,3280925,3280926,4116,135199,4114,4128,4129,3280930,3280931],[1,1,4102,3,3,4101,4102,4108,4102,3,4101,4108,3280909,4132,4133,1179686,2162727,4114,65542,262,288,4136,2101289,2097450]]
def ca5:List (List (List Nat)):=[[[0,0,0,0,0,0,0,0,0,0],[0,1,4098,3,4,4101,4102,4103,3280904,4105],[0,4098,2294024,4110,4111,3280912,3280913,3280939,362758025772,2294061]],[[1,3,4,4101,4102],[3,3,4,3,3],[4,4,49,4,4],[4101,3,4,1118213,4114],[4102,3,4,65554,3280946]],[[0,0,0],[0,1,4098],[0,4098,2294024],[0,3,277],[0,4,278],[0,4101,3280919],[0,4102,3277080],[0,4103,2294070],[0,3280904,443541553452],[0,4105,3280951]]]
def or5:List (List (List Nat)):=[[[0,1,4098,3,4,4101,4102,4103,3280904,4105],[1,1,4105,3,3,4101,4102,4108,3280942,4105],[4098,4105,1048578,3,4,65554,2101267,1183791,443541553456,1048585]],[[1,3,3,4101,4102],[3,3,3,3,3],[3,3,4,3,3],[4101,3,3,1118213,4114],[4102,3,3,65554,3280947]]]
def an5:List (List (List Nat)):=[[[0,0,0,0,0,0,0,0,0,0],[0,1,0,1,0,1,1,0,0,1],[0,0,1118210,4098,4098,4116,1118210,4116,0,1118210]],[[1,1,0,1,1],[1,3,4,4101,4102],[0,4,4,4107,4121],[1,4101,4107,1048581,1183796],[1,4102,4121,2232373,1118214]]]
def un6:List (List Nat):=[[3,4,4101,0,1,4098,4103,4102,3280906,4107,4105,4121,3280922,4123,4124,3280925,3280926,4116,135199,4114,4128,4129,3280930,3280931,4108,3280909,4110,4111,3280912,3280913,135187,4117,4118,3280919,3280920,4152,4153,135226,135227,4156,135229,135230,3280959,508218708032,3280961,3280962,135220,508218708035,68,3280965,3280966,135215,135239,3280968,3280969],[1,1,4102,3,3,4101,4102,4108,2294029,4102,4101,4108,3280909,4132,4133,1179686,2162727,4114,65542,262,288,4136,2101289,2097450,4102,3,4123,3,3280970,3280926,135243,4128,3,205132,3280931,4132,4133,135206,135207,4136,135209,135210,3280973,443541553486,1179727,2294029,135248,508216488529,82,1048582,1048582,135220,135221,3280979,2101332]]
def YX:List (List (List Nat)):=[[[0,0,0,0,0,0,0,0,0,0,0,0,0,0,0,0,0,0,0,0,0,0,0,0],[0,1,4098,3,4,4101,4102,4103,4105,3280906,4107,4108,3280909,4110,4111,3280912,3280913,4114,135187,4116,4117,4118,3280919,3280920],[0,4098,2294024,4110,4111,3280912,3280913,3280939,2294061,508218708053,3280982,3280983,362758025816,2294105,2294106,362758025819,298080871260,3280989,893395294,3280904,3280991,3280992,508218708065,375341129826]],[[0,1,4098,3,4,4101,4102,4103,3280904,4105],[0,3,277,3,4,3,3,4103,1061491,3],[0,4,278,4,49,4,4,4212,1061493,4],[0,4101,3280919,3,4,1118213,4114,1052679,508218708086,4114],[0,4102,3277080,3,4,65554,3280946,1052679,508216488567,2162808]],[[0,0,0,0,0],[1,3,4,4101,4102],[4098,4110,4111,3280912,3280913],[3,3,4,3,3],[4,4,49,4,4],[4101,3,4,1118213,4114],[4102,3,4,65554,3280946],[4103,4103,4219,1114119,1114119],[3280904,3280985,3280986,508218708059,443541553500],[4105,3,4,65554,2101372]],[[0,0,0],[0,1,4098],[0,4098,2294024],[0,3,277],[0,4,278],[0,4101,3280919],[0,4102,3277080],[0,4103,2294070],[0,4105,3280951],[0,3280906,504192114813],[0,4107,2294142],[0,4108,3281023],[0,3280909,504192114816],[0,4110,2294111],[0,4111,2294112],[0,3280912,508218708065],[0,3280913,374837805666],[0,4114,3281025],[0,135187,1412567170],[0,4116,2294147],[0,4117,2294131],[0,4118,2294133],[0,3280919,443541553526],[0,3280920,443541553527]]]
def or6:List (List (List Nat)):=[[[0,1,4098,3,4,4101,4102,4103,4105,3280906,4107,4108,3280909,4110,4111,3280912,3280913,4114,135187,4116,4117,4118,3280919,3280920],[1,1,4105,3,3,4101,4102,4108,4105,3280906,4101,4108,3280909,4132,4133,3280995,3280996,4114,135187,4197,288,4136,3280998,3277159],[4098,4105,1048578,3,4,65554,2101267,1183791,1048585,215020081162,65640,1183849,443541553514,2101355,3281004,361048969325,361048969326,1048594,553717779,65538,131439,2294128,353264341105,352257704306]],[[1,1,4105,3,3,4101,4102,4108,3280942,4105],[3,3,3,3,3,3,3,3,3,3],[4,3,4,3,4,3,3,4,4,3],[4101,4101,4114,3,3,1118213,4114,1118213,73299656709,4114],[4102,4102,2162707,3,3,65554,3280947,1183824,508218708089,2162707]]]
def an6:List (List (List Nat)):=[[[0,0,0,0,0,0,0,0,0,0,0,0,0,0,0,0,0,0,0,0,0,0,0,0],[0,1,0,1,0,1,1,0,1,1,0,1,1,0,0,0,0,1,1,0,0,0,0,0],[0,0,1118210,4098,4098,4116,1118210,4116,1118210,73299656706,4116,4116,0,1118210,0,73300770818,73300770818,1118210,286326786,4116,4116,0,73300709378,69652]],[[0,1,0,1,0,1,1,0,0,1],[0,1,4098,3,4,4101,4102,4103,3280904,4105],[0,0,4098,4,4,4107,4121,4103,3280904,4098],[0,1,65556,4101,4107,1048581,1183796,2101279,215020081160,65637],[0,1,1118210,4102,4121,2232373,1118214,2232442,146602594312,1118217]]]
def Q7 (k:Nat) (e:En):Prop:= ∃i∈Pk.getD k [],e=nw i
def aay (k i:Nat):Bool:=(Pk.getD k []).contains i
noncomputable def YY (k:Nat) (m:Mc) (ct:Nat):Bool:=
 aay k (ct%256)&&(Ds m.c (fun x=>Nat.blt (((ct/256)>>>(4*x))%16) (nw (ct%256)).c)&&XQ m (nw (ct%256)) (ct/256) (aav m.c (fun s x=>m.st (s/16) x*16+(nw (ct%256)).to (s%16) (((ct/256)>>>(4*x))%16)) 40 [m.s0*16] [m.s0*16]))
def Fb {α β:Type} (p:α→β→Bool):List α→List β→Bool
 | [],_=>true
 |x::l,y::m=>p x y&&Fb p l m
 |_::_,[]=>false
theorem tS {α β:Type} {p:α→β→Bool}: ∀ {l:List α} {m:List β},Fb p l m=true→ ∀x∈l,∃y,p x y=true
 | [],_,_,x,hx=>by simp at hx
 |_::_,[],h,_,_=>by simp[Fb]at h
 |a::l,y::m,h,x,hx=>by
  simp only[Fb,aJ]at h
  rcases List.mem_cons.1 hx with rfl|hx
  ·exact⟨y,h.1⟩
  ·exact tS h.2 x hx
theorem GO {v k:Nat} {m:Mc} {p:Lg} {ct:Nat} (h:YY k m ct=true) (hr:uN v m p): ∃e,Q7 k e∧uN v e.mc p:=by
 unfold YY at h
 rw[aJ,aJ,qT]at h
 refine⟨nw (ct%256),⟨_,?_,F⟩,Pg h.2.2 (fun x hx=>by have:=h.2.1 x hx;exact Nat.le_of_ble_eq_true this) hr⟩
 exact List.contains_iff_mem.1 h.1
noncomputable def Iu (k:Nat) (f:En→Mc) (cs:List Nat):Bool:=Fb (fun i ct=>YY (k+1) (f (nw i)) ct) (Pk.getD k []) cs
noncomputable def vB (i j:Nat) (f:En→En→Mc) (cs:List (List Nat)):Bool:=Fb (fun x row=>Fb (fun y ct=>YY (i+j+1) (f (nw x) (nw y)) ct) (Pk.getD j []) row) (Pk.getD i []) cs
theorem GP {v k:Nat} {f:En→Mc} {cs:List Nat} (h:Iu k f cs=true) {e:En} (he:Q7 k e) {p:Lg} (hr:uN v (f e) p): ∃e,Q7 (k+1) e∧uN v e.mc p:=by
 obtain⟨i,hi,rfl⟩:=he
 obtain⟨ct,h1⟩:=tS h i hi
 exact GO h1 hr
theorem tT {v i j:Nat} {f:En→En→Mc} {cs:List (List Nat)} (h:vB i j f cs=true) {a b:En} (ha:Q7 i a) (hb:Q7 j b) {p:Lg} (hr:uN v (f a b) p): ∃e,Q7 (i+j+1) e∧uN v e.mc p:=by
 obtain⟨x,hx,rfl⟩:=ha
 obtain⟨y,hy,rfl⟩:=hb
 obtain⟨row,h1⟩:=tS h x hx
 obtain⟨ct,h2⟩:=tS h1 y hy
 exact GO h2 hr
set_option maxRecDepth 100000
theorem tn2:Iu 1 x8 (un2.getD 0 [])=true:=by kernel_rfl
theorem ts2:Iu 1 nT (un2.getD 1 [])=true:=by kernel_rfl
theorem tn3:Iu 2 x8 (un3.getD 0 [])=true:=by kernel_rfl
theorem ts3:Iu 2 nT (un3.getD 1 [])=true:=by kernel_rfl
theorem aaz:vB 1 1 tQ (ca3.getD 0 [])=true:=by kernel_rfl
theorem aaA:vB 1 1 (oP or) (or3.getD 0 [])=true:=by kernel_rfl
theorem aaB:vB 1 1 (oP and) (an3.getD 0 [])=true:=by kernel_rfl
theorem tn4:Iu 3 x8 (un4.getD 0 [])=true:=by kernel_rfl
theorem ts4:Iu 3 nT (un4.getD 1 [])=true:=by kernel_rfl
theorem aaC:vB 1 2 tQ (ca4.getD 0 [])=true:=by kernel_rfl
theorem aaD:vB 1 2 (oP or) (or4.getD 0 [])=true:=by kernel_rfl
theorem aaE:vB 1 2 (oP and) (an4.getD 0 [])=true:=by kernel_rfl
theorem aaF:vB 2 1 tQ (ca4.getD 1 [])=true:=by kernel_rfl
theorem tn5:Iu 4 x8 (un5.getD 0 [])=true:=by kernel_rfl
theorem ts5:Iu 4 nT (un5.getD 1 [])=true:=by kernel_rfl
theorem aaG:vB 1 3 tQ (ca5.getD 0 [])=true:=by kernel_rfl
theorem aaH:vB 1 3 (oP or) (or5.getD 0 [])=true:=by kernel_rfl
theorem aaI:vB 1 3 (oP and) (an5.getD 0 [])=true:=by kernel_rfl
theorem aaJ:vB 2 2 tQ (ca5.getD 1 [])=true:=by kernel_rfl
theorem aaK:vB 2 2 (oP or) (or5.getD 1 [])=true:=by kernel_rfl
theorem aaL:vB 2 2 (oP and) (an5.getD 1 [])=true:=by kernel_rfl
theorem aaM:vB 3 1 tQ (ca5.getD 2 [])=true:=by kernel_rfl
theorem tn6:Iu 5 x8 (un6.getD 0 [])=true:=by kernel_rfl
theorem ts6:Iu 5 nT (un6.getD 1 [])=true:=by kernel_rfl
theorem aaN:vB 1 4 tQ (YX.getD 0 [])=true:=by kernel_rfl
theorem aaO:vB 1 4 (oP or) (or6.getD 0 [])=true:=by kernel_rfl
theorem aaP:vB 1 4 (oP and) (an6.getD 0 [])=true:=by kernel_rfl
theorem aaQ:vB 2 3 tQ (YX.getD 1 [])=true:=by kernel_rfl
theorem aaR:vB 2 3 (oP or) (or6.getD 1 [])=true:=by kernel_rfl
theorem aaS:vB 2 3 (oP and) (an6.getD 1 [])=true:=by kernel_rfl
theorem aaT:vB 3 2 tQ (YX.getD 2 [])=true:=by kernel_rfl
theorem aaU:vB 4 1 tQ (YX.getD 3 [])=true:=by kernel_rfl
theorem tcA {i j:Nat} (hi:1≤i) (hj:1≤j) (h:i+j≤5): ∃cs,vB i j tQ cs=true:=by
 rcases(show(i=1∧j=1)∨(i=1∧j=2)∨(i=2∧j=1)∨(i=1∧j=3)∨(i=2∧j=2)∨(i=3∧j=1)∨(i=1∧j=4)∨(i=2∧j=3)∨(i=3∧j=2)∨(i=4∧j=1) by omega)with⟨rfl,rfl⟩|⟨rfl,rfl⟩|⟨rfl,rfl⟩|⟨rfl,rfl⟩|⟨rfl,rfl⟩|⟨rfl,rfl⟩|⟨rfl,rfl⟩|⟨rfl,rfl⟩|⟨rfl,rfl⟩|⟨rfl,rfl⟩
 ·exact⟨_,aaz⟩
 ·exact⟨_,aaC⟩
 ·exact⟨_,aaF⟩
 ·exact⟨_,aaG⟩
 ·exact⟨_,aaJ⟩
 ·exact⟨_,aaM⟩
 ·exact⟨_,aaN⟩
 ·exact⟨_,aaQ⟩
 ·exact⟨_,aaT⟩
 ·exact⟨_,aaU⟩
theorem toA {i j:Nat} (hi:1≤i) (hj:1≤j) (YU:i≤j) (h:i+j≤5): ∃cs,vB i j (oP or) cs=true:=by
 rcases(show(i=1∧j=1)∨(i=1∧j=2)∨(i=1∧j=3)∨(i=2∧j=2)∨(i=1∧j=4)∨(i=2∧j=3) by omega)with⟨rfl,rfl⟩|⟨rfl,rfl⟩|⟨rfl,rfl⟩|⟨rfl,rfl⟩|⟨rfl,rfl⟩|⟨rfl,rfl⟩
 ·exact⟨_,aaA⟩
 ·exact⟨_,aaD⟩
 ·exact⟨_,aaH⟩
 ·exact⟨_,aaK⟩
 ·exact⟨_,aaO⟩
 ·exact⟨_,aaR⟩
theorem taA {i j:Nat} (hi:1≤i) (hj:1≤j) (YU:i≤j) (h:i+j≤5): ∃cs,vB i j (oP and) cs=true:=by
 rcases(show(i=1∧j=1)∨(i=1∧j=2)∨(i=1∧j=3)∨(i=2∧j=2)∨(i=1∧j=4)∨(i=2∧j=3) by omega)with⟨rfl,rfl⟩|⟨rfl,rfl⟩|⟨rfl,rfl⟩|⟨rfl,rfl⟩|⟨rfl,rfl⟩|⟨rfl,rfl⟩
 ·exact⟨_,aaB⟩
 ·exact⟨_,aaE⟩
 ·exact⟨_,aaI⟩
 ·exact⟨_,aaL⟩
 ·exact⟨_,aaP⟩
 ·exact⟨_,aaS⟩
theorem tnA {k:Nat} (hk:1≤k) (h:k≤5): ∃cs,Iu k x8 cs=true:=by
 rcases(show k=1∨k=2∨k=3∨k=4∨k=5 by omega)with rfl|rfl|rfl|rfl|rfl
 ·exact⟨_,tn2⟩
 ·exact⟨_,tn3⟩
 ·exact⟨_,tn4⟩
 ·exact⟨_,tn5⟩
 ·exact⟨_,tn6⟩
theorem tsA {k:Nat} (hk:1≤k) (h:k≤5): ∃cs,Iu k nT cs=true:=by
 rcases(show k=1∨k=2∨k=3∨k=4∨k=5 by omega)with rfl|rfl|rfl|rfl|rfl
 ·exact⟨_,ts2⟩
 ·exact⟨_,ts3⟩
 ·exact⟨_,ts4⟩
 ·exact⟨_,ts5⟩
 ·exact⟨_,ts6⟩
def Iv (k:Nat):Nat:=[0,3,3,4,5,5,8,11].getD k 0
theorem XR:((List.range 7).all fun k=>(Pk.getD k []).all fun i=>Nat.blt (nw i).f 65536&&(Nat.ble (nw i).n (Iv k)&&(Nat.blt 0 (nw i).n&&Ds (nw i).n fun s=>Ds (nw i).c fun x=>Nat.blt ((nw i).to s x) (nw i).n)))=true:=by kernel_rfl
theorem Mj {k:Nat} {e:En} (h:Q7 k e) (hk:k≤6):e.f<65536∧e.n≤Iv k∧0<e.n∧ ∀s,s<e.n→ ∀x,x<e.c→e.to s x<e.n:=by
 obtain⟨i,hi,rfl⟩:=h
 have h1:=List.all_eq_true.1 (List.all_eq_true.1 XR k (List.mem_range.2 (by omega))) i hi
 rw[aJ,aJ,aJ,qT]at h1
 exact⟨Nat.le_of_ble_eq_true h1.1,Nat.le_of_ble_eq_true h1.2.1,Nat.le_of_ble_eq_true h1.2.2.1,fun s hs x hx=>Nat.le_of_ble_eq_true (qT.1 (h1.2.2.2 s hs) x hx)⟩
theorem Pm {v:Nat} (hv:v≤6) {e:En} {p:Lg} (hr:uN v e.mc p) {n:Nat} (hn:e.n≤n) (h1:n≤4096) (h0:0<e.n) (hc: ∀s,s<e.n→ ∀x,x<e.c→e.to s x<e.n): ∃D,HasL (v:Int) n D p:=by
 obtain⟨D,hD⟩:=Fa hv hr (L:=List.range e.n) (List.mem_range.2 h0) (fun s hs x hx=>List.mem_range.2 (hc s (List.mem_range.1 hs) x hx)) (by simp;omega)
 exact⟨D,hD.le (cn hD.len (by simpa using hn))⟩
theorem Ml {v:Nat}:uN v (nw 0).mc (gB .none):=⟨fun _=>0,fun _ _=>(by decide:0<(nw 0).c),fun w _=>(Nat.zero_testBit _).symm⟩
theorem Iw {v:Nat}:uN v (nw 1).mc (gB .empty):=by
 refine⟨fun _=>0,fun _ _=>(by decide:0<(nw 1).c),fun w _=>?_⟩
 have t0:(nw 1).to 0 0=1:=by decide
 have t1:(nw 1).to 1 0=1:=by decide
 have f0:(nw 1).fi 0=true:=by decide
 have f1:(nw 1).fi 1=false:=by decide
 cases w with
 |nil=>exact f0.symm
 |cons x w=>
  have: ∀w:List Nat,(nw 1).mc.run 1 (w.map fun _=>0)=1:=by
   intro w
   induction w with
   |nil=>rfl
   |cons x w ih=>
    show(nw 1).mc.run ((nw 1).to 1 0) (w.map fun _=>0)=1
    rw[t1];exact ih
  show _=(nw 1).fi ((nw 1).mc.run ((nw 1).to 0 0) (w.map fun _=>0))
  rw[t0,this,f1]
  rfl
theorem Fc {v p n:Nat}:uN v (nw 2).mc (gB (.letter p n)):=by
 have t0: ∀c:Bool,(nw 2).to 0 (cond c 0 1)=cond c 1 2:=by decide
 have t1: ∀c:Bool,(nw 2).to 1 (cond c 0 1)=2:=by decide
 have t2: ∀c:Bool,(nw 2).to 2 (cond c 0 1)=2:=by decide
 have f0:(nw 2).fi 0=false:=by decide
 have f1: ∀c:Bool,(nw 2).fi (cond c 1 2)=c:=by decide
 have f2:(nw 2).fi 2=false:=by decide
 have hc: ∀c:Bool,cond c 0 1<(nw 2).c:=by decide
 refine⟨fun x=>cond (gO p n x) 0 1,fun x _=>hc _,fun w _=>?_⟩
 have h2: ∀w:List Nat,(nw 2).mc.run 2 (w.map fun x=>cond (gO p n x) 0 1)=2:=by
  intro w
  induction w with
  |nil=>rfl
  |cons x w ih=>
   show(nw 2).mc.run ((nw 2).to 2 (cond (gO p n x) 0 1)) _=2
   rw[t2];exact ih
 show DN 1 (gO p n) w=_
 cases w with
 |nil=>
  have e:DN 1 (gO p n) []=false:=by simp[DN]
  rw[e,fQ]
  exact f0.symm
 |cons x w=>
  cases w with
  |nil=>
   show DN 1 (gO p n) [x]=(nw 2).fi ((nw 2).to 0 (cond (gO p n x) 0 1))
   rw[t0,f1]
   simp[DN]
  |cons y w=>
   show _=(nw 2).fi ((nw 2).mc.run ((nw 2).to ((nw 2).to 0 (cond (gO p n x) 0 1)) (cond (gO p n y) 0 1)) (w.map fun x=>cond (gO p n x) 0 1))
   have t3:(nw 2).to (cond (gO p n x) 1 2) (cond (gO p n y) 0 1)=2:=by
    cases gO p n x
    ·exact t2 _
    ·exact t1 _
   rw[t0,t3,h2,f2]
   simp[DN]
def Rx.sz:Rx→Nat
 | .gZ a b| .iv a b| .and a b=>a.sz+b.sz+1
 | .not a| .star a| .ahead a| .behind a=>a.sz+1
 |_=>1
theorem Rx.dN: ∀t:Rx,1≤t.sz
 | .none| .empty| .letter _ _=>bF _
 | .gZ a b| .iv a b| .and a b=>br _
 | .not a| .star a| .ahead a| .behind a=>br _
theorem uN.to {v:Nat} {m:Mc} {p q:Lg} (h:uN v m p) (hq: ∀w,p w=q w):uN v m q:=by
 obtain⟨k,h1,h2⟩:=h
 exact⟨k,h1,fun w hw=>by rw[←hq];exact h2 w hw⟩
theorem mO {v:Nat}: ∀(t:Rx),t.plain=true→t.sz≤6→ ∃e,Q7 t.sz e∧uN v e.mc (gB t)
 | .none,_,_=>⟨_,⟨0,(by decide:0∈Pk.getD 1 []),F⟩,Ml⟩
 | .empty,_,_=>⟨_,⟨1,(by decide:1∈Pk.getD 1 []),F⟩,Iw⟩
 | .letter p n,_,_=>⟨_,⟨2,(by decide:2∈Pk.getD 1 []),F⟩,Fc⟩
 | .not a,hp,hs=>by
  have hs:a.sz+1≤6:=hs
  obtain⟨e,h1,h2⟩:=mO (v:=v) a hp (by omega)
  obtain⟨cs,hc⟩:=tnA a.dN (by omega)
  exact GP hc h1 (Ph h2)
 | .star a,hp,hs=>by
  have hs:a.sz+1≤6:=hs
  obtain⟨e,h1,h2⟩:=mO (v:=v) a hp (by omega)
  obtain⟨cs,hc⟩:=tsA a.dN (by omega)
  exact GP hc h1 (Mi (Mj h1 (by omega)).1 h2)
 | .gZ a b,hp,hs=>by
  have hs:a.sz+b.sz+1≤6:=hs
  simp only[Rx.plain,aJ]at hp
  obtain⟨e,h1,h2⟩:=mO (v:=v) a hp.1 (by omega)
  obtain⟨f,k1,k2⟩:=mO (v:=v) b hp.2 (by omega)
  obtain⟨cs,hc⟩:=tcA a.dN b.dN (by omega)
  exact tT hc h1 k1 (Pj h2 k2)
 | .iv a b,hp,hs=>by
  have hs:a.sz+b.sz+1≤6:=hs
  simp only[Rx.plain,aJ]at hp
  obtain⟨e,h1,h2⟩:=mO (v:=v) a hp.1 (by omega)
  obtain⟨f,k1,k2⟩:=mO (v:=v) b hp.2 (by omega)
  rcases Nat.le_total a.sz b.sz with c|c
  ·obtain⟨cs,hc⟩:=toA a.dN b.dN c (by omega)
   exact tT hc h1 k1 (Bj or h2 k2)
  ·obtain⟨cs,hc⟩:=toA b.dN a.dN c (by omega)
   have:=tT hc k1 h1 ((Bj or k2 h2).to (q:=gB (.iv a b)) fun w=>Bool.or_comm _ _)
   rwa[show b.sz+a.sz+1=(Rx.iv a b).sz by show _=a.sz+b.sz+1;omega]at this
 | .and a b,hp,hs=>by
  have hs:a.sz+b.sz+1≤6:=hs
  simp only[Rx.plain,aJ]at hp
  obtain⟨e,h1,h2⟩:=mO (v:=v) a hp.1 (by omega)
  obtain⟨f,k1,k2⟩:=mO (v:=v) b hp.2 (by omega)
  rcases Nat.le_total a.sz b.sz with c|c
  ·obtain⟨cs,hc⟩:=taA a.dN b.dN c (by omega)
   exact tT hc h1 k1 (Bj and h2 k2)
  ·obtain⟨cs,hc⟩:=taA b.dN a.dN c (by omega)
   have:=tT hc k1 h1 ((Bj and k2 h2).to (q:=gB (.and a b)) fun w=>Bool.and_comm _ _)
   rwa[show b.sz+a.sz+1=(Rx.and a b).sz by show _=a.sz+b.sz+1;omega]at this
 | .ahead a,hp,_=>absurd hp (by simp[Rx.plain])
 | .behind a,hp,_=>absurd hp (by simp[Rx.plain])
theorem Pn {v:Nat} (hv:v≤6) {t:Rx} (hp:t.plain=true) (hs:t.sz≤6): ∃D,HasL (v:Int) (Iv t.sz) D (gB t):=by
 obtain⟨e,h1,h2⟩:=mO (v:=v) t hp hs
 obtain⟨_,h3,h4,h5⟩:=Mj h1 hs
 refine Pm hv h2 h3 ?_ h4 h5
 have: ∀k,k≤6→Iv k≤4096:=by decide
 exact this _ hs
theorem fM.zG {v:Nat} {B n:Nat} {M D:cU} {p:Lg} (h:fM (v:Int) B M p) (hD:HasL (v:Int) n D p):M.next.length≤n:=by
 have h1:=hD.uW
 rw[fM.ext h h1 fun _ _=>rfl];exact h1.len
end Go.Lx

namespace Go.Lx
open Go.RowKit
def mj:Nat→List (List Nat)
 |0=>[[]]
 |n+1=>mj n++(mj n).map (· ++[n])
theorem uO: ∀n,(mj n).length=2^n
 |0=>rfl
 |n+1=>by
  show(mj n++(mj n).map (· ++[n])).length=_
  rw[aw,ar,uO n,Nat.pow_succ];omega
theorem Af (p:Nat→Bool): ∀n,(List.range n).filter p∈mj n
 |0=>by simp[mj]
 |n+1=>by
  rw[List.range_succ,List.filter_append]
  show _∈mj n++(mj n).map (· ++[n])
  have ih:=Af p n
  cases h:p n with
  |true=>rw[show[n].filter p=[n] by simp[h]];exact List.mem_append.2 (.inr (List.mem_map.2 ⟨_,ih,F⟩))
  |false=>rw[show[n].filter p=[] by simp[h],c7];exact List.mem_append.2 (.inl ih)
theorem oQ: ∀ {n:Nat} {l:List Nat},l∈mj n→l.Pairwise (· < ·)∧ ∀x∈l,x<n
 |0,l,h=>by simp[mj]at h;subst h;exact⟨List.Pairwise.nil,fun x hx=>by simp at hx⟩
 |n+1,l,h=>by
  rcases List.mem_append.1 (show l∈mj n++(mj n).map (· ++[n])from h)with h|h
  ·have:=oQ h;exact⟨this.1,fun x hx=>by have:=this.2 x hx;omega⟩
  ·obtain⟨m,hm,rfl⟩:=List.mem_map.1 h
   have:=oQ hm
   refine⟨List.pairwise_append.2 ⟨this.1,List.pairwise_singleton _ _,fun x hx y hy=>?_⟩,fun x hx=>?_⟩
   ·rw[List.mem_singleton.1 hy];exact this.2 x hx
   ·rcases List.mem_append.1 hx with hx|hx
    ·have:=this.2 x hx;omega
    ·rw[List.mem_singleton.1 hx];omega
theorem uP {n:Nat} {l:List Nat} (h1:l.Pairwise (· < ·)) (h2: ∀x∈l,x<n):l∈mj n:=by
 have:l=(List.range n).filter (fun x=>l.contains x):=xV h1 (List.Pairwise.filter _ List.pairwise_lt_range) fun y=>by
  simp only[List.mem_filter,eY,List.contains_iff_mem]
  exact⟨fun h=>⟨h2 y h,h⟩,fun h=>h.2⟩
 rw[this];exact Af _ _
theorem GQ {α:Type} [Nonempty α] {G:α→Prop} {kf:α→Key} {nx:α→Nat→α} {fn:α→Bool} {L:Nat} (h:OS G kf nx fn L) {s:α} (hs:G s) (Q:List α) (hQ: ∀q,q∈Q↔G q) {B:Nat} (hB:Q.length≤B):HQ (By G kf nx) L (kf s) B:=by
 refine⟨Q.map kf,⟨List.mem_map.2 ⟨s,(hQ s).2 hs,F⟩,fun k hk x hx=>?_⟩,by simpa using hB⟩
 obtain⟨q,hq,rfl⟩:=List.mem_map.1 hk
 rw[uy h ((hQ q).1 hq) hx]
 exact List.mem_map.2 ⟨_,(hQ _).2 (h.W4 q x ((hQ q).1 hq) hx),F⟩
theorem pr {a b:cU} (ha:Valid a) (hb:Valid b) {B:Nat} (h:a.next.length*2^b.next.length≤B):AS a b (eh a) B:=by
 refine GQ (F5 ha hb) (.start ha.toVal hb.toVal) ((List.range a.next.length).flatMap fun s=>(mj b.next.length).map fun l=>(s,l)) (fun q=>?_) ?_
 ·simp only[List.mem_flatMap,eY,iu]
  constructor
  ·rintro⟨s,hs,l,hl,rfl⟩;exact⟨hs,(oQ hl).1,(oQ hl).2⟩
  ·rintro⟨h1,h2,h3⟩;exact⟨q.1,h1,q.2,uP h2 h3,F⟩
 ·rw[List.length_flatMap]
  simp only[ar,uO]
  rw[show(fun _:Nat=>2^b.next.length)=Function.const Nat (2^b.next.length)from F,List.map_const,List.sum_replicate_nat,List.length_range]
  exact h
theorem Cq {a:cU} (ha:Valid a) {B:Nat} (h:2^(a.next.length+1)≤B):Ew a (eh a) B:=by
 refine GQ (AT ha) (.start ha.toVal) ((mj a.next.length).map (fun l=>(true,l))++(mj a.next.length).map (fun l=>(false,l))) (fun q=>?_) ?_
 ·simp only[gR,iu]
  constructor
  ·rintro(⟨l,hl,rfl⟩|⟨l,hl,rfl⟩)<;>exact⟨(oQ hl).1,(oQ hl).2⟩
  ·rintro⟨h1,h2⟩
   obtain⟨f,l⟩:=q
   cases f with
   |true=>exact .inl ⟨l,uP h1 h2,F⟩
   |false=>exact .inr ⟨l,uP h1 h2,F⟩
 ·rw[aw,ar,ar,uO]
  rw[Nat.pow_succ]at h;omega
theorem HasL.Po {v:Int} {n:Nat} {d:cU} {p:Lg} (h:HasL v n d p):HasL v d.next.length d p:=⟨h.valid,bF _,h.vars,h.iM⟩
end Go.Lx

namespace Go.Proofs.YtgdbfideeeegmaaGreatDoor
open Go.Lx Go.RowKit _root_.Go.Proofs.Tryz
theorem gh.u8 {P:Program} {kt:TypeId} {k:IntKind} (hu:P.underlying kt=some (.int k)):gh P kt (fun a:Nat=>Value.int .u8 (a:Int)) where
 check:=fun e a w=>by
  show(Instr.checkKey e (9999+1) kt _).run P w=_
  rw[Instr.checkKey]
  simp[bG hu,str]
 find:=fun es ks a w h=>by
  have key: ∀(es:List MapEntry) (ks:List Nat) (i:Nat),es.map (·.key)=ks.map (fun a:Nat=>Value.int .u8 (a:Int))→Instr.findNow (.int k) (.int .u8 (a:Int)) es i=some (lC a ks es i):=by
   intro es
   induction es with
   |nil=>intro ks i h;cases ks<;>simp_all[Instr.findNow,lC]
   |cons e es ih=>
    intro ks i h
    cases ks with
    |nil=>simp at h
    |cons b ks=>
     simp only[cJ,List.cons.injEq]at h
     simp only[Instr.findNow,h.1,Instr.sameNow,if_true,lC]
     by_cases e:a=b
     ·simp[e]
     ·have:((a:Int)==(b:Int))=false:=by rw[beq_eq_false_iff_ne];omega
      simp[this,e,ih ks (i+1) h.2]
  simp[Instr.findKey,bG hu,key es ks 0 h]
def iq:Nat→List UInt8×List UInt8×List UInt8
 |4=>([40],[46],[41])|5=>([40],[124],[41])|6=>([40],[38],[41])|7=>([40,126],[],[41])|8=>([40],[],[42,41])|9=>([40,62],[],[41])|10=>([40,60],[],[41])|_=>([],[],[])
def dH (n:Nat):Nat:=if n=4∨n=5∨n=6 then 2 else if n=7∨n=8∨n=9∨n=10 then 1 else 0
def C6 (n:Nat):Value:=.agg #[vI (dH n:Int),str (iq n).1,str (iq n).2.1,str (iq n).2.2]
abbrev gT (m:Nat):Lx.Item:=dz (fun a:Nat=>Value.int .u8 (a:Int)) C6 m [(4,4),(5,5),(6,6),(7,7),(8,8),(9,9),(10,10)]
theorem mK (n:Nat):((l8 n [(4,4),(5,5),(6,6),(7,7),(8,8),(9,9),(10,10)]).map C6).getD (.agg #[vI 0,str [],str [],str []])=C6 n:=by
 by_cases h:4≤n∧n≤10
 ·obtain⟨h1,h2⟩:=h
  have:n=4∨n=5∨n=6∨n=7∨n=8∨n=9∨n=10:=by omega
  rcases this with rfl|rfl|rfl|rfl|rfl|rfl|rfl<;>rfl
 ·have h4:n≠4:=by omega
  have h5:n≠5:=by omega
  have h6:n≠6:=by omega
  have h7:n≠7:=by omega
  have h8:n≠8:=by omega
  have h9:n≠9:=by omega
  have EO:n≠10:=by omega
  have hx:iq n=([],[],[]):=by unfold iq;split<;>first|omega|rfl
  have hc:dH n=0:=by unfold dH;rw[az (by omega),az (by omega)]
  unfold C6;rw[hx,hc]
  simp[l8,h4,h5,h6,h7,h8,h9,EO]
def pj (v p n:Nat):Nat:=if 2^v≤(p|||n)then 7 else if p&&&n≠0 then 2 else 0
def gf (v:Nat) (x:dK):Nat:=if x.op<1∨10<x.op then 6 else if(x.op≠3∧(x.p|||x.n)≠0)∨(dH x.op<1∧x.a≠0)∨(dH x.op<2∧x.b≠0)then 2 else if x.op=3 then pj v x.p x.n else 0
theorem jP (w:World) [dE Tryz.prog w]:
  cH Tryz.prog 56 [] w fun v N=> ∃m,v=.map (some m)∧N=[gT m]:=by
 refine aF func56 F ntmps56 F ?_
 refine ai (aj F (ae (ai (ao F (lM (fun a:Nat=>Value.int .u8 (a:Int)) C6 (fun m1=>?_))))))
 refine ad (cE (cs:=[vI 2,(str [40]),(str [46]),(str [41])]) sB jZ (by kernel_rfl)) (ao F (fY (a:=(4:Nat)) (v:=(4:Nat)) 0 rB (gh.u8 fA) F F F F (by decide) ?_))
 refine ad (cE (cs:=[vI 2,(str [40]),(str [124]),(str [41])]) sB jZ (by kernel_rfl)) (ao F (fY (a:=(5:Nat)) (v:=(5:Nat)) 0 rB (gh.u8 fA) F F F F (by decide) ?_))
 refine ad (cE (cs:=[vI 2,(str [40]),(str [38]),(str [41])]) sB jZ (by kernel_rfl)) (ao F (fY (a:=(6:Nat)) (v:=(6:Nat)) 0 rB (gh.u8 fA) F F F F (by decide) ?_))
 refine ad (cE (cs:=[vI 1,(str [40,126]),(str []),(str [41])]) sB jZ (by kernel_rfl)) (ao F (fY (a:=(7:Nat)) (v:=(7:Nat)) 0 rB (gh.u8 fA) F F F F (by decide) ?_))
 refine ad (cE (cs:=[vI 1,(str [40]),(str []),(str [42,41])]) sB jZ (by kernel_rfl)) (ao F (fY (a:=(8:Nat)) (v:=(8:Nat)) 0 rB (gh.u8 fA) F F F F (by decide) ?_))
 refine ad (cE (cs:=[vI 1,(str [40,62]),(str []),(str [41])]) sB jZ (by kernel_rfl)) (ao F (fY (a:=(9:Nat)) (v:=(9:Nat)) 0 rB (gh.u8 fA) F F F F (by decide) ?_))
 refine ad (cE (cs:=[vI 1,(str [40,60]),(str []),(str [41])]) sB jZ (by kernel_rfl)) (ao F (fY (a:=(10:Nat)) (v:=(10:Nat)) 0 rB (gh.u8 fA) F F F F (by decide) ?_))
 refine ah F (aj F (ae (aK (aA ?_))))
 refine aS (.map (some m1)) Tryz.results56 F ?_
 exact⟨[gT m1],Sub.rf,m1,F,F⟩
theorem ir (w:World) [dE Tryz.prog w] (p n v:Nat) (hp:p<256) (hn:n<256) (hv:v≤6):
  cH Tryz.prog 171 [.agg #[v8 p,v8 n],vN v] w fun r N=>r=vI (pj v p n:Int)∧N=[]:=by
 refine aF func171 F ntmps171 F ?_
 have Re:2^v≤2^6:=cF (by decide) hv
 have hor:(p|||n)<2^8:=Nat.or_lt_two_pow hp hn
 refine ai (ao F (dG (cs:=[v8 p,v8 n]) F F (fun nY=>?_)))
 refine aj F (ae (aM (aU (aM (ai (ah F (ad (aB (cT F F) (ak (by omega))) (ah F (aG F F (aN F) (aG F F (aB (iy F F) (ak (by omega))) (ad (cg F F) (aj F (ae (a6 F ?_))))))))))))))
 refine fD [(0,0),(1,0),(2,0),(3,0),(4,0),(5,0),(6,0),(7,0),(8,0),(9,0)] ?_
 refine au F (a_ ld F du F F) (au F (bi 0 fA F F F F) (au F (a_ ld F du F F) (au F (bi 0 fA F F F F) (au F (RD (a:=p) (b:=n) .u8 F F (by simp only[IntKind.bits];omega) (by simp only[IntKind.bits];omega)) (au F (fX fA dP F (gS (by omega))) (au F (aN F) (au F (nU (v:=v) F F (by omega)) (au F (lB F F) (au F (cx F) ?_)))))))))
 refine cw ?_
 refine aP F (fun hc=>?_) (fun hc=>?_)
 ·have Zo:p|||n≥2^v:=by omega
  refine ai (aj F (ae (aK (aA ?_))))
  refine aS (vI 7) Tryz.results171 F ?_
  exact⟨[],Sub.z,by unfold pj;rw[aO (by omega)];rfl,F⟩
 have Zp: ¬p|||n≥2^v:=by omega
 refine ai (ad (a_ ld F du F F) (ad (bi 0 fA F F F F) (ad (a_ ld F du F F) (ad (bi 0 fA F F F F) (ad (FD (a:=p) (b:=n) .u8 F F (by show _<256;omega) (by show _<256;omega)) (ad (dQ F F) (aj F (ae (aP F (fun hc=>?_) (fun hc=>?_))))))))))
 ·have uY:p&&&n≠0:=by omega
  refine ai (aj F (ae (aK (aA ?_))))
  refine aS (vI 2) Tryz.results171 F ?_
  exact⟨[],Sub.z,by unfold pj;rw[az (by omega),aO (by omega)];rfl,F⟩
 have wK: ¬p&&&n≠0:=by omega
 refine aE (ai (aj F (ae (aK (aA ?_)))))
 refine aS (vI 0) Tryz.results171 F ?_
 exact⟨[],Sub.z,by unfold pj;rw[az (by omega),az (by omega)];rfl,F⟩
end Go.Proofs.YtgdbfideeeegmaaGreatDoor

