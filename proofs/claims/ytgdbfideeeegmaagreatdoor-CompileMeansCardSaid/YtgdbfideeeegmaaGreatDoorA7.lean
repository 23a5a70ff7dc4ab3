/- Contracts of functions; conditions: those each theorem names. -/
import Derived.ChangeKeysEq
import Derived.Test.YtgdbfideeeegmaaGreatDoorA6
set_option linter.unusedSectionVars false
set_option linter.unusedSimpArgs false
set_option linter.unusedVariables false
set_option linter.unnecessarySimpa false
set_option maxHeartbeats 8000000
set_option maxRecDepth 20000
namespace Go.Lx
open Go.RowKit
def uP {α:Type}:List α→List (List α)
 | []=>[]
 |a::l=>uP l++([a]::(uP l).map (a:: ·))
theorem Be {α:Type}: ∀l:List α,(uP l).length+1=2^l.length
 | []=>rfl
 |a::l=>by
  have:=Be l
  show(uP l++([a]::(uP l).map (a:: ·))).length+1=2^(l.length+1)
  rw[aP,bG,ar,Nat.pow_succ];omega
theorem Bf {α:Type} (p:α→Bool): ∀l:List α,l.filter p=[]∨l.filter p∈uP l
 | []=>.inl F
 |a::l=>by
  have ih:=Bf p l
  show _∨_∈uP l++([a]::(uP l).map (a:: ·))
  rw[List.filter_cons]
  split
  ·refine .inr (ao _ ?_)
   rcases ih with ih|ih
   ·rw[ih];exact List.mem_cons_self
   ·exact List.mem_cons_of_mem _ (List.mem_map_of_mem ih)
  ·exact ih.imp id fun h=>aO _ h
section
variable (mS mO mB:Nat→List Nat)
def vM:Nat→List (List Ob)
 |0=>[[]]
 |k+1=>vM k++(vM k).flatMap fun o=>(mO k).map fun s=>o++[(k,s)]
def zh:Nat→List Cf
 |0=>[]
 |k+1=>zh k++(vM mO k).flatMap fun o=>(mS k).map fun s=>⟨(k:Int),s,o⟩
def W3:Nat→List (List Nat)
 |0=>[[]]
 |k+1=>(W3 k).flatMap fun b=>(mB k).map fun s=>b++[s]
theorem GL {α β:Type} (l:List α) (m:List Nat) (f:α→Nat→β):(l.flatMap fun o=>m.map fun s=>f o s).length=l.length*m.length:=by
 induction l with
 |nil=>simp
 |cons a l ih=>rw[List.flatMap_cons,aP,ar,ih,bG,Nat.succ_mul];omega
def prO:Nat→Nat
 |0=>1
 |k+1=>prO k*((mO k).length+1)
def prS:Nat→Nat
 |0=>0
 |k+1=>prS k+prO mO k*(mS k).length
def Ts:Nat→Nat
 |0=>1
 |k+1=>Ts k*(mB k).length
theorem EZ: ∀k,(vM mO k).length=prO mO k
 |0=>rfl
 |k+1=>by
  show(vM mO k++_).length=prO mO k*_
  rw[aP,GL,EZ k,Nat.mul_succ];omega
theorem E0: ∀k,(zh mS mO k).length=prS mS mO k
 |0=>rfl
 |k+1=>by
  show(zh mS mO k++_).length=prS mS mO k+_
  rw[aP,GL,EZ,E0 k]
theorem Iy: ∀k,(W3 mB k).length=Ts mB k
 |0=>rfl
 |k+1=>by
  show(List.flatMap _ _).length=Ts mB k*_
  rw[GL,Iy k]
variable {mS mO mB}
theorem vO {m k:Nat} (h:m≤k) {o:List Ob} (ho:o∈vM mO m):o∈vM mO k:=by
 induction h with
 |refl=>exact ho
 |step _ ih=>exact aO _ ih
theorem Ko {m k:Nat} (h:m≤k) {o:List Ob} (ho:o∈vM mO m) {s:Nat} (hs:s∈mO k):o++[(k,s)]∈vM mO (k+1):=
 ao _ (List.mem_flatMap.2 ⟨o,vO h ho,List.mem_map.2 ⟨s,hs,F⟩⟩)
theorem E3 {n:Nat} {s:Nat} {o:List Ob}: ∀ {k:Nat},n<k→s∈mS n→o∈vM mO n→(⟨(n:Int),s,o⟩:Cf)∈zh mS mO k
 |0,h,_,_=>absurd h (by omega)
 |k+1,h,hs,ho=>by
  show _∈zh mS mO k++_
  rcases Nat.lt_or_ge n k with c|c
  ·exact aO _ (E3 c hs ho)
  ·have e:n=k:=by omega
   subst e
   exact ao _ (List.mem_flatMap.2 ⟨o,ho,List.mem_map.2 ⟨s,hs,F⟩⟩)
theorem Iz {f:Nat→Nat}: ∀ {n:Nat},(∀k,k<n→f k∈mB k)→(List.range n).map f∈W3 mB n
 |0,_=>List.mem_singleton.2 F
 |n+1,h=>by
  rw[List.range_succ,bj]
  exact List.mem_flatMap.2 ⟨_,Iz fun k hk=>h k (by omega),List.mem_map.2 ⟨f n,h n (by omega),F⟩⟩
end
section
variable {ls:List Lf} {vs:Nat}
def PlC (ls:List Lf) (vs:Nat) (c:Cf):Prop:= ∀k:Nat,c.k=(k:Int)→(lf ls k).op≠9∧(lf ls k).op≠10∧Rb ls vs k c.s
mutual
theorem E4 {bh:List Nat}: ∀(f:Nat) {k:Nat} {o:List Ob},∀c∈fw ls f bh k o,PlC ls vs c
 |0,k,o,c,hc=>by simp[fw]at hc
 |f+1,k,o,c,hc=>by
  unfold fw at hc
  split at hc
  ·exact uQ f c hc
  ·split at hc
   ·split at hc
    ·exact uQ f c hc
    ·simp at hc
   ·rename_i h9 wU
    rcases List.mem_cons.1 hc with rfl|hc
    ·intro j hj
     have hj:(k:Int)=(j:Int):=hj
     have e:j=k:=by omega
     subst e
     exact⟨h9,wU,[],fun x hx=>by simp at hx,F⟩
    ·split at hc
     ·exact uQ f c hc
     ·simp at hc
theorem uQ {bh:List Nat}: ∀(f:Nat) {k:Nat} {o:List Ob},∀c∈fX ls f bh k o,PlC ls vs c
 |0,k,o,c,hc=>by simp[fX]at hc
 |f+1,k,o,c,hc=>by
  unfold fX at hc
  rcases List.mem_append.1 hc with hc|hc
  ·obtain⟨j,_,hc⟩:=List.mem_flatMap.1 hc
   exact E4 f c hc
  ·split at hc
   ·rw[List.mem_singleton.1 hc]
    intro j hj
    have hj:(-1:Int)=(j:Int):=hj
    omega
   ·simp at hc
end
def Pp (ls:List Lf) (x:Nat) (c:Cf):Cf:=⟨c.k,eS (lf ls c.k.toNat).d c.s x,lG ls c.o x⟩
def opn (ls:List Lf) (bh:List Nat) (c:Cf):List Cf:=c::(if dF (lf ls c.k.toNat).d c.s=true then fX ls (2*ls.length) bh c.k.toNat c.o else[])
theorem E5 {bh:List Nat} {x:Nat} {c:Cf} (h:0≤c.k):gZ ls bh x c=opn ls bh (Pp ls x c):=by
 unfold gZ;rw[aA (by omega)];rfl
theorem OI {bh:List Nat} {x:Nat} {c:Cf} (h:c.k<0):gZ ls bh x c=[]:=by
 unfold gZ;rw[aJ h]
def RS (ls:List Lf) (b:List Nat) (M:List Cf):St:=⟨b,(M.flatMap (opn ls b)).foldl add []⟩
theorem uR {s:St} {x:Nat} {c:Cf}:c∈(jj ls s x).cf↔ ∃y,y∈s.cf∧0≤y.k∧c∈opn ls (iQ ls s.bh x) (Pp ls x y):=by
 show c∈((s.cf.flatMap (gZ ls (iQ ls s.bh x) x)).foldl add [])↔_
 rw[d_,List.mem_flatMap]
 constructor
 ·rintro(h|⟨y,hy,h⟩)
  ·simp at h
  ·by_cases c0:y.k<0
   ·rw[OI c0]at h;simp at h
   ·have c1:0≤y.k:=by omega
    rw[E5 c1]at h;exact⟨y,hy,c1,h⟩
 ·rintro⟨y,hy,c0,h⟩
  exact .inr ⟨y,hy,by rw[E5 c0];exact h⟩
theorem IA {mO:Nat→List Nat} (hO: ∀k q x,k<ls.length→(lf ls k).op=9→Rb ls vs k q→dF (lf ls k).d q=false→x<2^vs→dF (lf ls k).d (eS (lf ls k).d q x)=false→eS (lf ls k).d q x∈mO k) {x:Nat} (hx:x<2^vs): ∀ {o o1:List Ob} {m k:Nat},o1∈vM mO m→o.Pairwise (fun p q=>p.1<q.1)→(∀p∈o,m≤p.1∧p.1<k)→m≤k→Gs (ls:=ls) vs o→o.foldl (fun o p=>nR ls o (p.1,eS (lf ls p.1).d p.2 x)) o1∈vM mO k
 | [],o1,m,k,h1,_,_,hm,_=>vO hm h1
 |p::o,o1,m,k,h1,h2,h3,hm,hA=>by
  rw[cP]
  have hp:=h3 p (by simp)
  obtain⟨a1,a2,a3,a4⟩:=hA p (by simp)
  have h4:nR ls o1 (p.1,eS (lf ls p.1).d p.2 x)∈vM mO (p.1+1):=by
   unfold nR
   split
   ·exact vO (Nat.le_succ_of_le hp.1) h1
   ·rename_i hf
    exact Ko hp.1 h1 (hO _ _ _ a1 a2 a3 a4 hx (by simpa using hf))
  refine IA hO hx h4 (List.pairwise_cons.1 h2).2 (fun q hq=>?_) (by omega) (fun q hq=>hA q (by simp[hq]))
  have:=(List.pairwise_cons.1 h2).1 q hq
  have h5:=h3 q (by simp[hq])
  exact⟨by omega,h5.2⟩
structure Kp (ls:List Lf) (vs:Nat) (P:Prop) (s:St):Prop where
 sZ:kE ls s
 way:JV ls vs s
 pl: ∀c∈s.cf,PlC ls vs c
 pos:(∃c,c∈s.cf∧0≤c.k)↔P
theorem RT (hG:iB ls vs) (hA:zY ls vs) {first:List Nat} (hf: ∀k∈first,k<ls.length) (mS mO mB:Nat→List Nat)
  (hS: ∀k q x,k<ls.length→(lf ls k).op≠9→(lf ls k).op≠10→Rb ls vs k q→x<2^vs→eS (lf ls k).d q x∈mS k)
  (hO: ∀k q x,k<ls.length→(lf ls k).op=9→Rb ls vs k q→dF (lf ls k).d q=false→x<2^vs→dF (lf ls k).d (eS (lf ls k).d q x)=false→eS (lf ls k).d q x∈mO k)
  (hB: ∀k,k<ls.length→(if(lf ls k).op=10 then∀q,q<(lf ls k).d.next.length→q∈mB k else 0∈mB k))
  {B:Nat} (h1:Ts mB ls.length*2^prS mS mO ls.length≤B) (h2:Ts mB ls.length+1≤B):Ho (BP (kE ls) St.key (jj ls)) (2^vs) (gW ls first).key B:=by
 obtain⟨P,hP⟩: ∃P:Prop,P= ∃c,c∈(gW ls first).cf∧0≤c.k:=⟨_,F⟩
 have hm0: ∀c,c∈(gW ls first).cf→ ∃k,k∈first∧c∈fw ls (2*ls.length) (ls.map fun l=>l.d.start.toNat) k []:=fun c hc=>by
  have hc:c∈((first.flatMap fun k=>fw ls (2*ls.length) (ls.map fun l=>l.d.start.toNat) k []).foldl add []):=hc
  rw[d_,List.mem_flatMap]at hc
  exact hc.elim (fun h=>by simp at h) id
 have G8:Kp ls vs P (gW ls first):=⟨pV hG hf,(A0 hG hA hf).1,fun c hc=>by obtain⟨k,_,hc⟩:=hm0 c hc;exact E4 _ c hc,by rw[hP]⟩
 obtain⟨LM,hLM⟩: ∃LM:List (List Cf),LM= @ite _ P (Classical.propDecidable _) (uP (zh mS mO ls.length)) [[]]:=⟨_,F⟩
 have step: ∀s,Kp ls vs P s→ ∀x,x<2^vs→Kp ls vs P (jj ls s x)∧ ∃b∈W3 mB ls.length,∃M∈LM,(jj ls s x).key=(RS ls b M).key:=fun s hs x hx=>by
  have hg:=pg hG hs.sZ hx
  have hR:Kp ls vs P (jj ls s x):=by
   refine⟨hg,(Es hG hA hs.way hx).1,fun c hc=>?_,?_⟩
   ·obtain⟨y,hy,Fg,hc⟩:=uR.1 hc
    rcases List.mem_cons.1 hc with rfl|hc
    ·intro k hk
     obtain⟨k1,k2,u,hu,e⟩:=hs.pl y hy k hk
     have hk:y.k=(k:Int):=hk
     refine⟨k1,k2,u++[x],fun z hz=>?_,?_⟩
     ·rcases List.mem_append.1 hz with hz|hz
      ·exact hu z hz
      ·rw[List.mem_singleton.1 hz];simpa using hx
     ·show eS (lf ls y.k.toNat).d y.s x=_
      rw[eQ,←e,hk,Int.toNat_natCast]
    ·split at hc
     ·exact uQ _ c hc
     ·simp at hc
   ·rw[←hs.pos]
    constructor
    ·rintro⟨c,hc,_⟩
     obtain⟨y,hy,Fg,_⟩:=uR.1 hc
     exact⟨y,hy,Fg⟩
    ·rintro⟨y,hy,Fg⟩
     exact⟨Pp ls x y,uR.2 ⟨y,hy,Fg,List.mem_cons_self⟩,Fg⟩
  have hU: ∀y,y∈s.cf→0≤y.k→Pp ls x y∈zh mS mO ls.length:=fun y hy Fg=>by
   rcases hs.sZ.cf y hy with⟨e,_⟩|⟨k,e,hk,hq,ho⟩
   ·omega
   ·obtain⟨k1,k2,k3⟩:=hs.pl y hy k e
    have e2:Pp ls x y=⟨(k:Int),eS (lf ls k).d y.s x,lG ls y.o x⟩:=by unfold Pp;rw[e,Int.toNat_natCast]
    rw[e2]
    exact E3 hk (hS k y.s x hk k1 k2 k3 hx) (IA hO hx (m:=0) (List.mem_singleton.2 F) ho.1 (fun p hp=>⟨bl _,(ho.2 p hp).1⟩) (bl _) (hs.way.ob y hy))
  refine⟨hR,iQ ls s.bh x,Iz fun k hk=>?_,(zh mS mO ls.length).filter (fun c=> @decide (∃y,y∈s.cf∧0≤y.k∧Pp ls x y=c) (Classical.propDecidable _)),?_,?_⟩
  ·have:=hB k hk
   split at this
   ·rename_i wU
    rw[aJ wU]
    exact this _ ((hG.kp hk).toVal.gT (hs.sZ.bh.lt k hk) (by rw[hG.vars _ (kq hk)];exact hx)).1
   ·rename_i wU
    rw[aA wU];exact this
  ·rw[hLM]
   by_cases hp:P
   ·rw[aJ hp]
    refine(Bf _ _).resolve_left fun e=>?_
    obtain⟨y,hy,Fg⟩:=hs.pos.2 hp
    have:Pp ls x y∈(zh mS mO ls.length).filter (fun c=> @decide (∃y,y∈s.cf∧0≤y.k∧Pp ls x y=c) (Classical.propDecidable _)):=List.mem_filter.2 ⟨hU y hy Fg,(@decide_eq_true_iff _ (Classical.propDecidable _)).2 ⟨y,hy,Fg,F⟩⟩
    rw[e]at this;simp at this
   ·rw[aA hp,da,List.filter_eq_nil_iff]
    intro c _ h
    obtain⟨y,hy,Fg,_⟩:=(@decide_eq_true_iff _ (Classical.propDecidable _)).1 h
    exact hp (hs.pos.1 ⟨y,hy,Fg⟩)
  ·have he: ∀c,c∈(jj ls s x).cf↔c∈(RS ls (iQ ls s.bh x) ((zh mS mO ls.length).filter (fun c=> @decide (∃y,y∈s.cf∧0≤y.k∧Pp ls x y=c) (Classical.propDecidable _)))).cf:=fun c=>by
    rw[uR]
    show _↔c∈((List.flatMap _ _).foldl add [])
    rw[d_,List.mem_flatMap]
    constructor
    ·rintro⟨y,hy,Fg,h⟩
     exact .inr ⟨_,List.mem_filter.2 ⟨hU y hy Fg,(@decide_eq_true_iff _ (Classical.propDecidable _)).2 ⟨y,hy,Fg,F⟩⟩,h⟩
    ·rintro(h|⟨d,hd,h⟩)
     ·simp at h
     ·obtain⟨y,hy,Fg,rfl⟩:=(@decide_eq_true_iff _ (Classical.propDecidable _)).1 (List.mem_filter.1 hd).2
      exact⟨y,hy,Fg,h⟩
   exact yL hg ⟨hg.bh,ni _ _ List.nodup_nil,fun c hc=>hg.cf c ((he c).2 hc)⟩ F he
 obtain⟨C,hC⟩: ∃C:List Key,C=((gW ls first).key::(W3 mB ls.length).flatMap fun b=>LM.map fun M=>(RS ls b M).key).filter fun k=> @decide (∃s,Kp ls vs P s∧s.key=k) (Classical.propDecidable _):=⟨_,F⟩
 have sd: ∀k,k∈C↔(k∈(gW ls first).key::(W3 mB ls.length).flatMap fun b=>LM.map fun M=>(RS ls b M).key)∧ ∃s,Kp ls vs P s∧s.key=k:=fun k=>by
  rw[hC,List.mem_filter]
  exact and_congr Iff.rfl (@decide_eq_true_iff _ (Classical.propDecidable _))
 refine⟨C,⟨(sd _).2 ⟨List.mem_cons_self,_,G8,F⟩,fun k hk x hx=>?_⟩,?_⟩
 ·obtain⟨_,s,hs,rfl⟩:=(sd _).1 hk
  obtain⟨h3,b,hb,M,hM,e⟩:=step s hs x hx
  rw[sV (Ea hG) hs.sZ hx]
  exact(sd _).2 ⟨List.mem_cons_of_mem _ (List.mem_flatMap.2 ⟨b,hb,List.mem_map.2 ⟨M,hM,e.symm⟩⟩),_,h3,F⟩
 ·have hl:C.length≤(W3 mB ls.length).length*LM.length+1:=by
   rw[hC]
   refine bo (List.length_filter_le _ _) ?_
   rw[bG]
   have: ∀l:List (List Nat),(l.flatMap fun b=>LM.map fun M=>(RS ls b M).key).length=l.length*LM.length:=fun l=>by
    induction l with
    |nil=>simp
    |cons a l ih=>rw[List.flatMap_cons,aP,ar,ih,bG,Nat.succ_mul];omega
   rw[this];exact aS _
  refine bo hl ?_
  rw[Iy,hLM]
  by_cases hp:P
  ·rw[aJ hp]
   have h3:=Be (zh mS mO ls.length)
   rw[E0]at h3
   rw[←h3,Nat.mul_succ]at h1
   rcases Nat.eq_zero_or_pos (Ts mB ls.length)with c|c
   ·rw[c,Nat.zero_mul];omega
   ·omega
  ·rw[aA hp];show Ts mB ls.length*1+1≤B;omega
end
theorem IB {d:cV} (hv:Val d) (hm:jm d=d) {w:List Nat} (hw:Wd d w):runN d d.start.toNat w=ix (jM d (runN d d.start.toNat w)) (order (pA d)):=by
 have hq:=oL hv
 have h1:=A4 hq (vB hq) w hw
 rw[ED hq,p7,EB hv (ei hv) w hw]at h1
 have e:eo (pA d)=d:=hm
 have e0:d.start.toNat=0:=by rw[←hm];rfl
 rw[e,e0]at h1
 rw[e0];exact h1
theorem RU {d:cV} (hv:Val d) (hm:jm d=d) {u w:List Nat} (hu:Wd d u) (hw:Wd d w) (h: ∀z,Wd d z→dF d (runN d d.start.toNat (u++z))=dF d (runN d d.start.toNat (w++z))):runN d d.start.toNat u=runN d d.start.toNat w:=by
 have e:jM d (runN d d.start.toNat u)=jM d (runN d d.start.toNat w):=
  (nv hv (jI hv (ei hv) u hu) (jI hv (ei hv) w hw)).2 fun z hz pL=>pL (by
   have:=h z hz
   unfold runN at this⊢
   rwa[cO,cO]at this)
 rw[IB hv hm hu,IB hv hm hw,e]
theorem IC {v B:Nat} {d:cV} {p:Lg} (h:fQ (v:Int) B d p) (P:List Nat→Prop) (g:List Nat→Nat) (V:List Nat) (h1: ∀u,iv (v:Int) u→P u→g u∈V)
  (h2: ∀u w,iv (v:Int) u→iv (v:Int) w→P u→P w→g u=g w→ ∀z,iv (v:Int) z→p (u++z)=p (w++z)): ∃L:List Nat,L.length≤V.length∧ ∀u,iv (v:Int) u→P u→runN d d.start.toNat u∈L:=by
 classical
 refine⟨V.map fun t=>if c: ∃u,iv (v:Int) u∧P u∧g u=t then runN d d.start.toNat (Classical.choose c)else 0,by simp,fun u hu hp=>List.mem_map.2 ⟨g u,h1 u hu hp,?_⟩⟩
 have c: ∃w,iv (v:Int) w∧P w∧g w=g u:=⟨u,hu,hp,F⟩
 rw[dif_pos c]
 obtain⟨k1,k2,k3⟩:=Classical.choose_spec c
 refine RU h.valid.toVal h.min (h.wd.2 k1) (h.wd.2 hu) fun z hz=>?_
 have hz:=h.wd.1 hz
 have a: ∀ {a b:List Nat},iv (v:Int) a→iv (v:Int) b→iv (v:Int) (a++b):=fun ha hb x hx=>(List.mem_append.1 hx).elim (ha x) (hb x)
 have e1:=h.iH _ (a k1 hz)
 have e2:=h.iH _ (a hu hz)
 unfold iH at e1 e2
 rw[e1,e2]
 exact h2 _ _ k1 hu k2 hp k3 z hz
def mvE (e:En):List Nat:=(List.range e.n).filter fun t=>(List.range e.n).any fun s=>(List.range e.c).any fun x=>Nat.beq (e.to s x) t
def mvF (e:En):List Nat:=cond (e.fi 0) [] ((List.range e.n).filter fun t=>!e.fi t&&(List.range e.n).any fun s=>!e.fi s&&(List.range e.c).any fun x=>Nat.beq (e.to s x) t)
def bS (k:Nat):Nat:=[0,2,2,3,4,4,8].getD k 4096
def bO (k:Nat):Nat:=[0,1,0,2,2,3,4].getD k 4096
set_option maxRecDepth 100000 in
theorem OJ:((List.range 7).all fun k=>(J5.getD k []).all fun i=>Nat.ble (mvE (mK i)).length (bS k)&&Nat.ble (mvF (mK i)).length (bO k))=true:=by kernel_rfl
theorem OK {e:En} (h0:0<e.n) (hc: ∀s,s<e.n→ ∀x,x<e.c→e.to s x<e.n) {w:List Nat} (hw: ∀x∈w,x<e.c):e.mc.run 0 w<e.n:=by
 have: ∀(w:List Nat) {s:Nat},s<e.n→(∀x∈w,x<e.c)→e.mc.run s w<e.n:=by
  intro w
  induction w with
  |nil=>exact fun h _=>h
  |cons x w ih=>exact fun h hw=>ih (hc _ h x (hw x (by simp))) fun y hy=>hw y (by simp[hy])
 exact this w h0 hw
theorem GM (m:Mc) (s:Nat) (u w:List Nat):m.run s (u++w)=m.run (m.run s u) w:=cO
theorem ID {α:Type} {u:List α} (h:u≠ []): ∃a x,u=a++[x]:=by
 rcases List.eq_nil_or_concat u with c|⟨a,x,e⟩
 ·exact absurd c h
 ·exact⟨a,x,by rw[e,List.concat_eq_append]⟩
theorem zk {v:Int} {a b:List Nat} (h:iv v (a++b)):iv v a∧iv v b:=⟨fun x hx=>h x (aO _ hx),fun x hx=>h x (ao _ hx)⟩
theorem xu {v:Nat} {u:List Nat} {x:Nat} (hu:iv (v:Int) u) (hx:x<2^v):iv (v:Int) (u++[x]):=fun y hy=>by
 rcases List.mem_append.1 hy with hy|hy
 ·exact hu y hy
 ·rw[List.mem_singleton.1 hy];simpa using hx
theorem OM {v B:Nat} {t:Rx} (hp:t.plain=true) (hs:t.sz≤6) {d:cV} (h:fQ (v:Int) B d (fx t)): ∃L:List Nat,L.length≤bS t.sz∧ ∀u x,iv (v:Int) u→x<2^v→eS d (runN d d.start.toNat u) x∈L:=by
 obtain⟨e,h1,h2⟩:=ii (v:=v) t hp hs
 obtain⟨_,_,h4,h5⟩:=vE h1 hs
 obtain⟨g,g1,g2⟩:=h2
 have hg: ∀ {u:List Nat},iv (v:Int) u→ ∀x∈u.map g,x<e.c:=fun hu x hx=>by
  obtain⟨y,hy,rfl⟩:=List.mem_map.1 hx
  exact g1 y (by simpa using hu y hy)
 refine Exists.elim (IC h (fun u=>u≠ []) (fun u=>e.mc.run 0 (u.map g)) (mvE e) (fun u hu pL=>?_) (fun u w hu hw _ _ Kv z hz=>?_)) fun L hLm=>?_
 ·obtain⟨a,x,rfl⟩:=ID pL
  have ha:=(zk hu).1
  have hx:=hg hu
  have hr:=OK h4 h5 (hg ha)
  have hxc:g x<e.c:=hx (g x) (by simp)
  unfold mvE
  rw[bj,List.mem_filter,e_]
  have e3:e.mc.run 0 (a.map g++[x].map g)=e.to (e.mc.run 0 (a.map g)) (g x):=kH e.mc 0 (a.map g) (g x)
  rw[e3]
  refine⟨h5 _ hr _ hxc,?_⟩
  rw[cY]
  exact⟨_,List.mem_range.2 hr,List.any_eq_true.2 ⟨_,List.mem_range.2 hxc,Nat.beq_refl _⟩⟩
 ·have a: ∀ {a b:List Nat},iv (v:Int) a→iv (v:Int) b→iv (v:Int) (a++b):=fun ha hb x hx=>(List.mem_append.1 hx).elim (ha x) (hb x)
  rw[g2 _ (a hu hz),g2 _ (a hw hz)]
  have Kv:e.mc.run 0 (u.map g)=e.mc.run 0 (w.map g):=Kv
  show e.mc.fi (e.mc.run 0 _)=e.mc.fi (e.mc.run 0 _)
  rw[bj,bj,GM,GM,Kv]
 ·obtain⟨hL,hm⟩:=hLm
  refine⟨L,bo hL ?_,fun u x hu hx=>?_⟩
  ·obtain⟨i,hi,rfl⟩:=h1
   have h6:=List.all_eq_true.1 (List.all_eq_true.1 OJ t.sz (List.mem_range.2 (by omega))) i hi
   rw[ay]at h6
   exact Nat.le_of_ble_eq_true h6.1
  ·have:=hm (u++[x]) (xu hu hx) (by simp)
   rwa[eQ]at this
theorem ON {v B:Nat} {t:Rx} (hp:t.plain=true) (hs:t.sz≤6) {d:cV} (h:fQ (v:Int) B d (iA (fx t) fun _=>true)):
  ∃L:List Nat,L.length≤bO t.sz∧ ∀u x,iv (v:Int) u→x<2^v→dF d (eS d (runN d d.start.toNat u) x)=false→eS d (runN d d.start.toNat u) x∈L:=by
 obtain⟨e,h1,h2⟩:=ii (v:=v) t hp hs
 obtain⟨_,_,h4,h5⟩:=vE h1 hs
 obtain⟨g,g1,g2⟩:=h2
 have hg: ∀ {u:List Nat},iv (v:Int) u→ ∀x∈u.map g,x<e.c:=fun hu x hx=>by
  obtain⟨y,hy,rfl⟩:=List.mem_map.1 hx
  exact g1 y (by simpa using hu y hy)
 have E8: ∀ {u a b:List Nat},iA (fx t) (fun _=>true) u=false→iv (v:Int) u→u=a++b→e.fi (e.mc.run 0 (a.map g))=false:=fun {u a b} hu hw he=>by
  subst he
  have h6:=g2 a (zk hw).1
  cases hf:e.fi (e.mc.run 0 (a.map g))with
  |false=>rfl
  |true=>
   have h6:fx t a=e.fi (e.mc.run 0 (a.map g)):=h6
   rw[hf]at h6
   rw[gN.2 ⟨a,b,F,h6,F⟩]at hu;cases hu
 refine Exists.elim (IC h (fun u=>u≠ []∧iA (fx t) (fun _=>true) u=false) (fun u=>e.mc.run 0 (u.map g)) (mvF e) (fun u hu pL=>?_) (fun u w hu hw hpu hpw Kv z hz=>?_)) fun L hLm=>?_
 ·obtain⟨pL,hn⟩:=pL
  obtain⟨a,x,rfl⟩:=ID pL
  have ha:=(zk hu).1
  have hx:=hg hu
  have hr:=OK h4 h5 (hg ha)
  have hxc:g x<e.c:=hx (g x) (by simp)
  have f0:e.fi 0=false:=E8 (a:=[]) (b:=a++[x]) hn hu F
  have fa:=E8 (a:=a) (b:=[x]) hn hu F
  have fu:=E8 (a:=a++[x]) (b:=[]) hn hu (by simp)
  unfold mvF
  rw[f0]
  show _∈List.filter _ _
  rw[bj]at fu⊢
  rw[List.mem_filter,e_]
  have e3:e.mc.run 0 (a.map g++[x].map g)=e.to (e.mc.run 0 (a.map g)) (g x):=kH e.mc 0 (a.map g) (g x)
  rw[e3]at fu⊢
  refine⟨h5 _ hr _ hxc,?_⟩
  rw[fu]
  show List.any _ _=true
  rw[cY]
  refine⟨_,List.mem_range.2 hr,?_⟩
  rw[fa]
  exact List.any_eq_true.2 ⟨_,List.mem_range.2 hxc,Nat.beq_refl _⟩
 ·have half: ∀u w,iv (v:Int) u→iv (v:Int) w→iA (fx t) (fun _=>true) u=false→e.mc.run 0 (u.map g)=e.mc.run 0 (w.map g)→iA (fx t) (fun _=>true) (u++z)=true→iA (fx t) (fun _=>true) (w++z)=true:=fun u w hu hw hn Kv hc=>by
   obtain⟨a,b,he,ha,_⟩:=gN.1 hc
   rcases List.append_eq_append_iff.1 he with⟨c,rfl,rfl⟩|⟨c,rfl,rfl⟩
   ·refine gN.2 ⟨w++c,b,by simp,?_,F⟩
    have qN:iv (v:Int) c:=(zk hz).1
    have aa: ∀ {a b:List Nat},iv (v:Int) a→iv (v:Int) b→iv (v:Int) (a++b):=fun ha hb x hx=>(List.mem_append.1 hx).elim (ha x) (hb x)
    rw[g2 _ (aa hu qN)]at ha
    rw[g2 _ (aa hw qN)]
    rw[bj,GM]at ha⊢
    have Kv:e.mc.run e.mc.s0 (u.map g)=e.mc.run e.mc.s0 (w.map g):=Kv
    rw[←Kv];exact ha
   ·have:=E8 (a:=a) (b:=c) hn hu F
    have h6:fx t a=e.fi (e.mc.run 0 (a.map g)):=g2 a (zk hu).1
    rw[h6,this]at ha;cases ha
  rw[dB]
  exact⟨half u w hu hw hpu.2 Kv,half w u hw hu hpw.2 Kv.symm⟩
 ·obtain⟨hL,hm⟩:=hLm
  refine⟨L,bo hL ?_,fun u x hu hx hf=>?_⟩
  ·obtain⟨i,hi,rfl⟩:=h1
   have h6:=List.all_eq_true.1 (List.all_eq_true.1 OJ t.sz (List.mem_range.2 (by omega))) i hi
   rw[ay]at h6
   exact Nat.le_of_ble_eq_true h6.2
  ·have hw:=xu hu hx
   have h6:=h.iH _ hw
   unfold iH at h6
   rw[eQ,hf]at h6
   have:=hm (u++[x]) hw ⟨by simp,h6.symm⟩
   rwa[eQ]at this
end Go.Lx

namespace Go.Proofs.YtgdbfideeeegmaaGreatDoor
open Go.Lx Go.RowKit _root_.Go.Proofs.Tryz
theorem QZ (w:World) [dA prog w] (eb:Option Addr) (ec:Nat) (e:List eC) (hE:Sl w eb (bQ e)) (uV:e.length≤64) (mw: ∀x∈e,x.p<256∧x.n<256) (v:Nat) (hv:v≤6):
  cn prog 89 [.slice eb e.length ec,vN v] w fun r N=> ∃(b:Option Addr) (c er:Nat) (fs:List Nat),r=.tuple #[.slice b fs.length c,vI (er:Int)]∧N=[av b c 3 1 (bW fs)]∧((ki v e=.error er∧er≠0)∨(ki v e=.ok fs∧er=0∧fs.length=e.length)):=by
 refine(gn 3 1 (QX w eb ec e hE uV mw v hv)).post ?_
 rintro r O' ⟨O2,rfl,⟨n,h1,rfl,rfl⟩|⟨fs,b,c,h1,rfl,rfl⟩⟩
 ·exact⟨_,Sub.rf,none,0,n,[],F,F,.inl ⟨h1,B4 h1⟩⟩
 ·obtain⟨gs,h2,h3,_,_⟩:=pQ h1 e.length (aS _)
  rw[List.take_length]at h2
  rw[h2]at h1
  injection h1 with h1
  subst h1
  exact⟨_,aG [1],b,c,0,gs,by rw[h3];rfl,F,.inr ⟨h2,F,h3⟩⟩
theorem VH (w:World) [dA prog w] (eb:Option Addr) (ec:Nat) (e:List eC) (hE:Sl w eb (bQ e)) (uV:e.length<4611686018427387904) (mw: ∀x∈e,x.p<256∧x.n<256) (vars:Int):
  cn prog 54 [.slice eb e.length ec,vI vars] w fun r N=> ∃b n c,r=.tuple #[.slice b n c,vI (iz vars e:Int)]∧N=[]:=by
 refine aE func54 F ntmps54 F ?_
 let fe:Value:=(.slice eb e.length ec)
 refine aj (aq (dE (cs:=[fe]) (fun z1=>?_)))
 refine ak F (ak F (ah (aR (aV (aj (ai F (ae cU ?_)))))))
 by_cases Fs:vars<0
 ·refine ae (aC aI (ax Fs)) ?_
  refine aQ (aQ (ae cm (ak F (ah ?_))))
  refine b_ ?_
  refine aj (ak F (ak F (ah (aM (aB ?_)))))
  refine de nS (vI 7) results54 F F ?_
  have e9:iz vars e=7:=by unfold iz;rw[aJ (by omega)]
  exact⟨[],Sub.z,none,0,0,(by first|(rw[e9];done)|(rw[e9];rfl)),F⟩
 refine ae (aC aI (am Fs)) (aF aI (aF ij (ae bX (ak F (ah (aZ F (fun hc=>?_) (fun hc=>?_)))))))
 ·have VI:vars<0∨6<vars:=by omega
  refine aj (ak F (ak F (ah (aM (aB ?_)))))
  refine de nS (vI 7) results54 F F ?_
  have e9:iz vars e=7:=by unfold iz;rw[aJ (by omega)]
  exact⟨[],Sub.z,none,0,0,(by first|(rw[e9];done)|(rw[e9];rfl)),F⟩
 have VI: ¬(vars<0∨6<vars):=by omega
 obtain⟨v,hvv⟩: ∃v:Nat,vars=(v:Int):=⟨vars.toNat,by omega⟩
 have Kt:v≤6:=by omega
 have hvn:vars.toNat=v:=by omega
 refine aj (ae (bq 0 dR) (ae (cQ dR) (ae bK (ak F (ah (aZ F (fun hc=>?_) (fun hc=>?_)))))))
 ·have DV:e.length=0:=by omega
  have I3:e.length=0:=by omega
  refine aj (ak F (ak F (ah (aM (aB ?_)))))
  refine de nS (vI 3) results54 F F ?_
  have e9:iz vars e=3:=by unfold iz;rw[aA VI,aJ I3]
  exact⟨[],Sub.z,none,0,0,(by first|(rw[e9];done)|(rw[e9];rfl)),F⟩
 have ZE: ¬e.length=0:=by omega
 have I3: ¬e.length=0:=by omega
 refine aj (ae (bq 0 dR) (ae (cQ dR) (ae ij (ak F (ah (aZ F (fun hc=>?_) (fun hc=>?_)))))))
 ·have AN:e.length>64:=by omega
  have FL:64<e.length:=by omega
  refine aj (ak F (ak F (ah (aM (aB ?_)))))
  refine de nS (vI 4) results54 F F ?_
  have e9:iz vars e=4:=by unfold iz;rw[aA VI,aA I3,aJ FL]
  exact⟨[],Sub.z,none,0,0,(by first|(rw[e9];done)|(rw[e9];rfl)),F⟩
 have ZN: ¬e.length>64:=by omega
 have FL: ¬64<e.length:=by omega
 refine aL (aj (ae (bq 0 dR) (ae (bL aI (v':=vN v) (by show Value.int .i64 vars=_;rw[hvv])) ?_)))
 have uc:=fun(w1:World) (hI:Inv w [oI z1 32 [fe]] w1)=>(haveI:=ef hI;QZ w1 eb ec e (hI.sl hE) (by omega) mw v Kt)
 refine aq (bm aao (aX uc) ?_)
 clear uc
 rintro vr O' ⟨N,rfl,b,c,er,fs,rfl,rfl,SJ⟩
 refine ai F (ae (bI (vs:=_)) (ae (bI (vs:=_)) (ak F (ak F (ah (aR (aj (ai F (ae dW (ah (aZ F (fun hc=>?_) (fun hc=>?_))))))))))))
 ·have afP:er≠0:=by omega
  have her:er≠0:=by omega
  have hbe:ki v e=.error er:=SJ.elim (fun h=>h.1) (fun h=>absurd h.2.1 her)
  refine aj (ai F (ak F (ak F (ah (aM (aB ?_))))))
  refine de nS (vN er) results54 F F ?_
  have e9:iz vars e=er:=by unfold iz;rw[aA VI,aA I3,aA FL,hvn,hbe]
  exact⟨[],Sub.z,none,0,0,(by first|(rw[e9];done)|(rw[e9];rfl)),F⟩
 have afQ: ¬er≠0:=by omega
 have her:er=0:=by omega
 obtain⟨hbo,_,ug⟩:=SJ.resolve_left (fun h=>h.2 her)
 refine aL (aR (aj (ai F (ae (bq 1 dR) (ae (cQ dR) (ae (bL (fI F F (by omega)) (v':=vN (e.length-1)) (au (Value.int .i64) (by omega))) (ae (dX (i:=(e.length-1)) cL bF F F (dT (mG 0)) (by omega) (by rw[ar];omega)) (ae (cS ey F F (dT (mG 0)) (me (show e.length-1<fs.length by omega))) (ae dW (ah (aZ F (fun hc=>?_) (fun hc=>?_))))))))))))
 ·have yu:(fs.getD (e.length-1) 0)≠0:=by omega
  have Uo:fs.getD (e.length-1) 0≠0:=by omega
  refine aj (ak F (ak F (ah (aM (aB ?_)))))
  refine de nS (vI 2) results54 F F ?_
  have e9:iz vars e=2:=by unfold iz;rw[aA VI,aA I3,aA FL,hvn,hbo];show(if _ then _ else _)=_;first|(rw[aJ Uo];done)|(rw[aA Uo,aA hvm];done)
  exact⟨[],Sub.z,none,0,0,(by first|(rw[e9];done)|(rw[e9];rfl)),F⟩
 have SK: ¬(fs.getD (e.length-1) 0)≠0:=by omega
 have Uo: ¬fs.getD (e.length-1) 0≠0:=by omega
 refine aL (aj (aq (bs Np (fun z2=>?_))))
 let eh:Value:=(.func (.func 90) #[] #[(.pointer (aD z1)),(.pointer (aD z2))])
 refine ah (aj (ae (dx) (aq (cq (vs:=[eh]) 0 Np ?_))))
 refine ah (aR (aj (ae (bq 0 Nl) (ae (bq 2 dR) (ae (cQ dR) (ae (bL (fI F F (by omega)) (v':=vN (e.length-1)) (au (Value.int .i64) (by omega))) ?_))))))
 have aap:=(cW (base:=w) (O:=[oI z2 140 [eh],av b c 3 1 (bW fs),oI z1 32 [fe]]) fun w1 hI=>haveI:=ef hI;haveI:=ef hI;bU (first:=[]) (args:=[vN (e.length-1),.bool true]) (fG:=[(dJ (aD z1) 0),(dJ (aD z2) 0)]) No (VG w1 eb ec e (hI.sl hE) z1 z2 (hI.gS (mG 2)) (hI.gS (mG 0)) (o8 hbo) e.length (e.length-1) (by omega) (by omega) true))
 refine aq (eu aap F F ?_)
 clear aap
 rintro vr O' ⟨N,rfl,rfl,rfl⟩
 refine ae iV (ah (T.cond F (fun hc=>?_) (fun hc=>?_)))
 ·have hvm: ¬nL e e.length (e.length-1) true=true:=by simpa using hc
  refine aj (ak F (ak F (ah (aM (aB ?_)))))
  refine de nS (vI 2) results54 F F ?_
  have e9:iz vars e=2:=by unfold iz;rw[aA VI,aA I3,aA FL,hvn,hbo];show(if _ then _ else _)=_;first|(rw[aJ Uo];done)|(rw[aA Uo,aA hvm];done)
  exact⟨[],Sub.z,none,0,0,(by first|(rw[e9];done)|(rw[e9];rfl)),F⟩
 have hvm:nL e e.length (e.length-1) true=true:=by simpa using hc
 refine aL (aj (ai F (ak F (ak F (ah (aM (aB ?_)))))))
 refine de (.slice b fs.length c) (vI 0) results54 F F ?_
 have e9:iz vars e=0:=by unfold iz;rw[aA VI,aA I3,aA FL,hvn,hbo];show(if _ then _ else _)=_;rw[aA Uo,aJ hvm]
 exact⟨[],Sub.z,b,fs.length,c,(by first|(rw[e9];done)|(rw[e9];rfl)),F⟩
theorem ux (w:World) [dA prog w] (eb:Option Addr) (ec:Nat) (e:List eC) (hE:Sl w eb (bQ e)) (uV:e.length<4611686018427387904) (mw: ∀x∈e,x.p<256∧x.n<256) (vars:Int):
  cn prog 28 [.slice eb e.length ec,vI vars] w fun r N=>r=vI (iz vars e:Int)∧N=[]:=by
 refine aE func28 F ntmps28 F ?_
 refine aj (ak F (ah (aj (ai F (ai F ?_)))))
 have lB:=fun(w1:World) (hI:Inv w [] w1)=>(haveI:=ef hI;VH w1 eb ec e (hI.sl hE) uV mw vars)
 refine aq (bm aaq (aX lB) ?_)
 clear lB
 rintro vr O' ⟨N,rfl,b,n,c,rfl,rfl⟩
 refine ai F (ae (bI (vs:=_)) (ae (bI (vs:=_)) (ak F (ak F (ah (aj (ai F (ak F (ah (aM (aB ?_)))))))))))
 refine aT (vI (iz vars e:Int)) results28 F ?_
 exact⟨[],Sub.z,F,F⟩
def ui (e:List eC):Rx:=iE e e.length (e.length-1)
noncomputable def nM (v:Nat) (e:List eC):Lg:=if e.any iR=true then Xj v (ui e)else fx (ui e)
def BG (v:Nat) (e:List eC) (B:Nat):Prop:=if e.any iR=true then okC v (ui e) B else kv v (ui e) B
theorem nf {vars:Int} {e:List eC} (h:iz vars e=0):0≤vars∧vars≤6∧0<e.length∧e.length≤64∧ ∃fs,ki vars.toNat e=.ok fs∧fs.getD (e.length-1) 0=0∧nL e e.length (e.length-1) true=true:=by
 unfold iz at h
 split at h
 ·omega
 ·split at h
  ·omega
  ·split at h
   ·omega
   ·cases hb:ki vars.toNat e with
    |error n=>simp only[hb]at h;exact absurd h (B4 hb)
    |ok fs=>
     simp only[hb]at h
     split at h
     ·omega
     ·split at h
      ·rename_i h1 h2 h3 h4 h5
       exact⟨by omega,by omega,by omega,by omega,fs,F,by omega,h5⟩
      ·omega
set_option maxRecDepth 20000 in
theorem L1 (base:World) [dA prog base] (eb:Option Addr) (ec:Nat) (e:List eC) (hE:Sl base eb (bQ e)) (uV:e.length<4611686018427387904) (mw: ∀x∈e,x.p<256∧x.n<256) (vars lP:Int) (I0:e.any iR=true→e.length≤24) {K:Nat} (hK1:K<137438953472) (B3: ∀cb,VB cb eb e.length ec vars.toNat lP.toNat e)
  (hK:iz vars e=0→e.any iR=true→okB vars.toNat (ui e) lP.toNat→qR (jn vars.toNat (ui e)) K):
  cj prog base 19 [.slice eb e.length ec,.int .i64 vars,.int .i64 lP] [] (FrR (iz vars e) lP (fun M=>fQ vars lP.toNat M (nM vars.toNat e)∧BG vars.toNat e lP.toNat) (¬BG vars.toNat e lP.toNat)):=by
 refine S_ base eb e.length ec vars (iz vars e) lP _ _ (fun w1 _ hI=>ux w1 eb ec e (hI.sl hE) uV mw vars) ?_
 intro h0 I5 Fz w8 _ cb hI e7
 obtain⟨h1,h2,h3,h4,fs,h5,h6,h7⟩:=nf h0
 obtain⟨v,rfl⟩: ∃v:Nat,vars=(v:Int):=⟨vars.toNat,by omega⟩
 obtain⟨B,rfl⟩: ∃B:Nat,lP=(B:Int):=⟨lP.toNat,by omega⟩
 simp only[Int.toNat_natCast]at*
 have Cz:ut e (ui e) (e.length-1):=kK h5 mw e.length (e.length-1) (by omega) (by omega)
 by_cases hl:e.any iR=true
 ·have hw:(ui e).wf=true:=(pX h5 e.length (e.length-1) (by omega) (by omega)).2 h7
  have JE:(ui e).lv≤12:=by
   have:=xl h5 e.length (e.length-1) (by omega) (by omega)
   have:=I0 hl
   unfold ui;omega
  refine(Nj w8 cb eb e.length ec v B e7 (by omega) (by omega) (by omega) e (hI.sl hE) F h3 h4 (ui e) Cz (B3 cb) hl hw JE hK1 (fun ho=>BH (by omega) (by omega) hw JE ho) (fun ho=>hK h0 hl ho)).mono ?_ ?_
  ·rintro r O' ⟨M,k,rfl,rfl,hM,hO⟩
   exact⟨M,k,F,F,by unfold nM;rw[aJ hl];exact hM,by unfold BG;rw[aJ hl];exact hO⟩
  ·intro hz;unfold BG;rw[aJ hl];exact hz
 ·have hlf:e.any iR=false:=by simpa using hl
  have hp:(ui e).plain=true:=nU h5 (fun x hx=>by
   have:=List.any_eq_false.1 hlf x hx
   unfold iR at this
   simp only[Bool.or_eq_true,bT]at this
   omega) e.length (e.length-1) (by omega) (by omega)
  refine(JH w8 cb eb e.length ec v B e7 (by omega) (by omega) (by omega) e (hI.sl hE) F h3 h4 (ui e) Cz (B3 cb).pl hlf hp).mono ?_ ?_
  ·rintro r O' ⟨M,k,rfl,rfl,hM,hO⟩
   exact⟨M,k,F,F,by unfold nM;rw[aA hl];exact hM,by unfold BG;rw[aA hl];exact hO⟩
  ·intro hz;unfold BG;rw[aA hl];exact hz
def FrU (E:Nat) (lP:Int) (G:cV→Prop) (Z:Prop) (D:cV) (er:Nat):Prop:=
 (E≠0∧er=E∧D=CG)∨(E=0∧ ¬(1≤lP∧lP≤4096)∧er=1∧D=CG)∨(E=0∧(1≤lP∧lP≤4096)∧((er=0∧G D)∨(er=10∧D=CG∧Z)))
theorem Hi {base:World} {eb:Option Addr} {ec E n:Nat} {vars lP:Int} {G:cV→Prop} {Z:Prop} (h:cj prog base 19 [.slice eb n ec,.int .i64 vars,.int .i64 lP] [] (FrR E lP G Z)):
  cn prog 19 [.slice eb n ec,.int .i64 vars,.int .i64 lP] base fun v N=> ∃D k er,v=.tuple #[dV D k,.int .i64 ((er:Nat):Int)]∧N=[dI 56 4 3 D k]∧FrU E lP G Z D er:=by
 refine(Bk 56 4 3 h).post ?_
 rintro v O' ⟨O2,rfl,h⟩
 rcases h with⟨h1,rfl,rfl⟩|⟨h1,h2,rfl,rfl⟩|⟨h1,h2,⟨M,k,rfl,rfl,hG⟩|⟨rfl,rfl,hZ⟩⟩
 ·exact⟨_,Sub.rf,CG,Xz,E,F,F,.inl ⟨h1,F,F⟩⟩
 ·exact⟨_,Sub.rf,CG,Xz,1,F,F,.inr (.inl ⟨h1,h2,F,F⟩)⟩
 ·exact⟨_,aG [1],M,k,0,F,F,.inr (.inr ⟨h1,h2,.inl ⟨F,hG⟩⟩)⟩
 ·exact⟨_,Sub.rf,CG,Xz,10,F,F,.inr (.inr ⟨h1,h2,.inr ⟨F,F,hZ⟩⟩)⟩
theorem aaK (base:World) [dA prog base] (eb:Option Addr) (ec:Nat) (e:List eC) (hE:Sl base eb (bQ e)) (uV:e.length<4611686018427387904) (mw: ∀x∈e,x.p<256∧x.n<256) (vars lP:Int) (I0:e.any iR=true→e.length≤24):
  cn prog 19 [.slice eb e.length ec,.int .i64 vars,.int .i64 lP] base fun v N=> ∃D k er,v=.tuple #[dV D k,.int .i64 ((er:Nat):Int)]∧N=[dI 56 4 3 D k]∧FrU (iz vars e) lP (fun M=>fQ vars lP.toNat M (nM vars.toNat e)∧BG vars.toNat e lP.toNat) (¬BG vars.toNat e lP.toNat) D er:=by
 by_cases hb:1≤lP∧lP≤4096
 ·refine Hi (L1 base eb ec e hE uV mw vars lP I0 (K:=137438953471) (by omega) (fun _=>VB.of F) fun h0 hl ho=>?_)
  obtain⟨h1,h2,h3,h4,fs,h5,h6,h7⟩:=nf h0
  have h8:=xo h5 e.length (e.length-1) (by omega) (by omega)
  have h9:=I0 hl
  exact Ro (B:=lP.toNat) (by omega) (by omega) ((pX h5 e.length (e.length-1) (by omega) (by omega)).2 h7) ho (by show(iE e e.length (e.length-1)).sz≤24;omega)
 ·refine(Hi (S_ base eb e.length ec vars (iz vars e) lP _ _ (fun w1 _ hI=>ux w1 eb ec e (hI.sl hE) uV mw vars) fun h0 I5 Fz=>absurd ⟨I5,Fz⟩ hb))
deriving instance DecidableEq for eC
theorem rz {P:Program} {d:Nat} {xs ys:Array Value} {f:Field} {fs:List Field} {a b:Value} {r r2:Bool} {w:World} (hn:f.name≠ "_") (he:P.plainKey f.type=true) (ha:xs[f.offset]? =some a) (hb:ys[f.offset]? =some b)
  (hr:(Op.equalIn d f.type a b).run P w=.ok r w) (h2:(Op.eqFields d xs ys fs).run P w=.ok r2 w):(Op.eqFields d xs ys (f::fs)).run P w=.ok (r&&r2) w:=by
 simp only[Op.eqFields,aJ hn,Sem.run_bind,run_part_plain w he ha,run_part_plain w he hb,hr,Result.andThen_ok,Sem.run_ite]
 cases r<;>simp[h2]
theorem aaT (x y:eC) (w:World):(Op.equalIn 10000 72 (.agg x.cells.toArray) (.agg y.cells.toArray)).run prog w=.ok (decide (x=y)) w:=by
 have hf:Tryz.prog.fieldsOf 72= #[⟨"Op",5,0,false, "", "",0⟩,⟨"Pos",5,1,false, "", "",1⟩,⟨"Neg",5,2,false, "", "",2⟩,⟨"A",3,3,false, "", "",8⟩,⟨"B",3,4,false, "", "",16⟩]:=by
  unfold Program.fieldsOf;rw[dt]
 rw[run_equalIn_agg w 9999 72 _ _ (by rw[hf];exact dt) (by kernel_rfl),hf]
 have hu8:Tryz.prog.underlying 5=some (.int .u8):=gH
 have hi:Tryz.prog.underlying 3=some (.int .i64):=ey
 have p5:Tryz.prog.plainKey 5=true:=by unfold Program.plainKey;rw[hu8]
 have p3:Tryz.prog.plainKey 3=true:=by unfold Program.plainKey;rw[hi]
 have e5: ∀(u v:Int) w,(Op.equalIn 9999 5 (.int .u8 u) (.int .u8 v)).run prog w=.ok (u==v) w:=fun u v w=>run_equalIn_int w 9998 5 .u8 .u8 u v hu8
 have e3: ∀(u v:Int) w,(Op.equalIn 9999 3 (.int .i64 u) (.int .i64 v)).run prog w=.ok (u==v) w:=fun u v w=>run_equalIn_int w 9998 3 .i64 .i64 u v hi
 clear hf
 generalize 9999=q at e5 e3⊢
 obtain⟨o,p,n,a,b⟩:=x
 obtain⟨o2,p2,n2,a2,b2⟩:=y
 refine Eq.trans (rz (by simp) p5 F F (e5 _ _ w) (rz (by simp) p5 F F (e5 _ _ w) (rz (by simp) p5 F F (e5 _ _ w) (rz (by simp) p3 F F (e3 _ _ w) (rz (by simp) p3 F F (e3 _ _ w) F))))) ?_
 refine au (fun r=>Result.ok r w) ?_
 rw[dB];simp;omega
section
variable {base:World} {ρ:Env} {O:List Lx.Item} {dst:Option Nat} {t:TypeId} {p:String} {af:Array Edge} {g:Option (Nat×Bool)}
theorem Ee {x y:Operand} {u v:eC} {U:TypeId} (hx:ev ρ x=.agg u.cells.toArray) (hy:ev ρ y=.agg v.cells.toArray):
  QT prog base ⟨dst,.binOp .neq 72 x y U,t,p,af,g⟩ ρ O (.bool (!decide (u=v))):=fun w _=>by
 have h:=aaT u v w
 have hm:Tryz.prog.eqGuardType Tryz.prog.depth 72=false:=by kernel_rfl
 simp[execOp,hx,hy,run_eqGuard_agg w .neq 72 x y _ _ hm,run_neq_struct,h]
end
theorem Qm (w:World) [dA prog w] (xb yb:Option Addr) (xc yc:Nat) (xs ys:List eC) (hX:Sl w xb (bQ xs)) (hY:Sl w yb (bQ ys)) (hb:xs.length<4611686018427387904):
  cn prog 15 [.slice xb xs.length xc,.slice yb ys.length yc] w fun v N=>v=.bool (decide (xs=ys))∧N=[]:=by
 refine aE func15 F ntmps15 F ?_
 refine aj (ak F (ah (aR (aj (ai F (ae (cQ dR) (ai F (ae (cQ dR) (ae dW (ah (aZ F (fun hc=>?_) (fun hc=>?_))))))))))))
 ·have lC:xs.length≠ys.length:=by omega
  have ig:xs.length≠ys.length:=by omega
  refine aj (ak F (ah (aM ?_)))
  refine aT (.bool false) results15 F ?_
  exact⟨au Value.bool (am (fun e=>ig (by rw[e]))).symm,F⟩
 have uo: ¬xs.length≠ys.length:=by omega
 have ig:xs.length=ys.length:=by omega
 refine aL (aR (aj (ak F (ah (aV ?_)))))
 refine ek (fun(k:Nat) ρ O=>O=[]∧k≤xs.length∧xs.take k=ys.take k∧df [(0,(.slice xb xs.length xc)),(1,(.slice yb ys.length yc)),(5,vN k)] ρ) (fun k=>xs.length-k) 0 ?_ ?_
 ·exact⟨F,bl _,F,⟨F,F,F,trivial⟩⟩
 rintro k ρ O ⟨rfl,hk,he,hH⟩
 obtain⟨gA,rfl⟩:=hH.elim
 clear hH
 refine aR (aj (ai F (ai F (ae (cQ dR) (ae cU (ah (aZ F (fun hc=>?_) (fun hc=>?_))))))))
 ·have o_:k<xs.length:=by omega
  have gw:k<xs.length:=by omega
  have l9:k<ys.length:=by omega
  refine aL (aR (aV (aR ?_)))
  refine fS [(0,0),(1,0),(2,0),(3,0),(4,0),(5,0),(6,0),(7,0),(8,0)] ?_
  refine aw F aI (aw F aI (aw F (eA (i:=k) dR cJ F F (aK hX) gw (by rw[cB];omega)) (aw F (eW (vs:=xs[k].cl) dt F cJ F F (bu _) (aK hX) (fW (ap gw))) ?_)))
  refine aw F aI (aw F aI (aw F (eA (i:=k) dR cJ F F (aK hY) l9 (by rw[cB];omega)) (aw F (eW (vs:=ys[k].cl) dt F cJ F F (bu _) (aK hY) (fW (ap l9))) ?_)))
  refine aw F (Ee (u:=xs[k]) (v:=ys[k]) F F) ?_
  refine cA ?_
  refine T.cond F (fun hc=>?_) (fun hc=>?_)
  ·refine aR ?_
   refine bg (ak F (ah (aM ?_)))
   refine aT (.bool false) results15 F ?_
   exact⟨au Value.bool (am (fun e=>(by simp at hc;exact hc:xs[k]≠ys[k]) (by subst e;rfl))).symm,F⟩
  refine aL (bg (ai F (ae (dr (a:=k) (b:=1) F F (by omega)) (ak F (ah ?_)))))
  refine⟨k+1,by omega,F,by omega,?_,⟨F,F,F,trivial⟩⟩
  rw[aH gw,aH l9,he]
  exact au _ (au (fun z=>[z]) (by simpa using hc))
 have wq: ¬k<xs.length:=by omega
 refine cG ?_
 refine aj (ak F (ah (aM ?_)))
 refine aT (.bool true) results15 F ?_
 exact⟨au Value.bool (ax (show xs=ys by rw[br (by omega),br (by omega)]at he;exact he)).symm,F⟩
theorem PM (w:World) [dA prog w] (xb yb:Option Addr) (xc yc:Nat) (xs ys:List eC) (hX:Sl w xb (bQ xs)) (hY:Sl w yb (bQ ys)) (hb:xs.length<4611686018427387904):
  cn prog 67 [.slice xb xs.length xc,.slice yb ys.length yc] w fun v N=>v=.bool (decide (xs=ys))∧N=[]:=by
 refine aE func67 F ntmps67 F ?_
 refine aj (ak F (ah (aR (aj (ai F (ae (cQ dR) (ai F (ae (cQ dR) (ae dW (ah (aZ F (fun hc=>?_) (fun hc=>?_))))))))))))
 ·have lC:xs.length≠ys.length:=by omega
  have ig:xs.length≠ys.length:=by omega
  refine aj (ak F (ah (aM ?_)))
  refine aT (.bool false) results67 F ?_
  exact⟨au Value.bool (am (fun e=>ig (by rw[e]))).symm,F⟩
 have uo: ¬xs.length≠ys.length:=by omega
 have ig:xs.length=ys.length:=by omega
 refine aL (aR (aj (ai F (ae (cQ dR) (ai F (ah (aV ?_)))))))
 refine ek (fun(k:Nat) ρ O=>O=[]∧k≤xs.length∧xs.take k=ys.take k∧df [(0,(.slice xb xs.length xc)),(1,(.slice yb ys.length yc)),(12,vI (xs.length:Int)),(13,vN k)] ρ) (fun k=>xs.length-k) 0 ?_ ?_
 ·exact⟨F,bl _,F,⟨F,F,F,F,trivial⟩⟩
 rintro k ρ O ⟨rfl,hk,he,hH⟩
 obtain⟨gA,rfl⟩:=hH.elim
 clear hH
 refine aj (ae cU (ah (aR (aZ F (fun hc=>?_) (fun hc=>?_)))))
 ·have o_:k<xs.length:=by omega
  have gw:k<xs.length:=by omega
  have l9:k<ys.length:=by omega
  refine aL (aR (aV (aj (ai F (ak F (ah (aR ?_)))))))
  refine fS [(0,0),(1,0),(2,0),(3,0),(4,0),(5,0),(6,0),(7,0),(8,0)] ?_
  refine aw F aI (aw F aI (aw F (eA (i:=k) dR cJ F F (aK hX) gw (by rw[cB];omega)) (aw F (eW (vs:=xs[k].cl) dt F cJ F F (bu _) (aK hX) (fW (ap gw))) ?_)))
  refine aw F aI (aw F aI (aw F (eA (i:=k) dR cJ F F (aK hY) l9 (by rw[cB];omega)) (aw F (eW (vs:=ys[k].cl) dt F cJ F F (bu _) (aK hY) (fW (ap l9))) ?_)))
  refine aw F (Ee (u:=xs[k]) (v:=ys[k]) F F) ?_
  refine cA ?_
  refine T.cond F (fun hc=>?_) (fun hc=>?_)
  ·refine aR ?_
   refine bg (ak F (ah (aM ?_)))
   refine aT (.bool false) results67 F ?_
   exact⟨au Value.bool (am (fun e=>(by simp at hc;exact hc:xs[k]≠ys[k]) (by subst e;rfl))).symm,F⟩
  refine aL (bg (ae (dr (a:=k) (b:=1) F F (by omega)) (ai F (ah ?_))))
  refine⟨k+1,by omega,F,by omega,?_,⟨F,F,F,F,trivial⟩⟩
  rw[aH gw,aH l9,he]
  exact au _ (au (fun z=>[z]) (by simpa using hc))
 have wq: ¬k<xs.length:=by omega
 refine cG ?_
 refine aj (ak F (ah (aM ?_)))
 refine aT (.bool true) results67 F ?_
 exact⟨au Value.bool (ax (show xs=ys by rw[br (by omega),br (by omega)]at he;exact he)).symm,F⟩
theorem aaU (w:World) [dA prog w] (b:Option Addr) (n c:Nat):cn prog 18 [.slice b n c] w fun v N=>v=.bool (decide ((24:Int)<(n:Int)))∧N=[]:=by
 refine aE func18 F ntmps18 F ?_
 refine aj (ak F (ah (aj (ai F (ae (cQ dR) (ae ij (ak F (ah (aM ?_)))))))))
 refine aT (.bool (decide ((n:Int)>24))) results18 F ?_
 exact⟨F,F⟩
end Go.Proofs.YtgdbfideeeegmaaGreatDoor

namespace Go.Lx
open Go.RowKit Go.Proofs.YtgdbfideeeegmaaGreatDoor
def post:Rx→Nat→List eC
 | .none,_=>[⟨1,0,0,0,0⟩]
 | .empty,_=>[⟨2,0,0,0,0⟩]
 | .letter p n,_=>[⟨3,p,n,0,0⟩]
 | .ie a b,s=>post a s++(post b (s+a.sz)++[⟨4,0,0,((s+a.sz:Nat):Int)-1,((s+a.sz+b.sz:Nat):Int)-1⟩])
 | .iu a b,s=>post a s++(post b (s+a.sz)++[⟨5,0,0,((s+a.sz:Nat):Int)-1,((s+a.sz+b.sz:Nat):Int)-1⟩])
 | .and a b,s=>post a s++(post b (s+a.sz)++[⟨6,0,0,((s+a.sz:Nat):Int)-1,((s+a.sz+b.sz:Nat):Int)-1⟩])
 | .not a,s=>post a s++[⟨7,0,0,((s+a.sz:Nat):Int)-1,0⟩]
 | .star a,s=>post a s++[⟨8,0,0,((s+a.sz:Nat):Int)-1,0⟩]
 | .ahead a,s=>post a s++[⟨9,0,0,((s+a.sz:Nat):Int)-1,0⟩]
 | .behind a,s=>post a s++[⟨10,0,0,((s+a.sz:Nat):Int)-1,0⟩]
theorem ut.Tn {e:List eC} {t:Rx} {i:Nat} (h:ut e t i): ∃x,e[i]? =some x∧x.op=t.op:=by
 cases t<;>first|exact⟨_,h,F⟩|exact⟨_,h.1,F⟩|(obtain⟨j,k,h,_,_⟩:=h;exact⟨_,h,F⟩)|(obtain⟨j,h,_⟩:=h;exact⟨_,h,F⟩)
theorem ut.sx {e:List eC} {t u:Rx} {i:Nat} (h:ut e t i) (h2:ut e u i):t.op=u.op:=by
 obtain⟨x,h3,h4⟩:=h.Tn
 obtain⟨y,h5,h6⟩:=h2.Tn
 rw[h3]at h5
 rw[←h4,←h6,db h5]
theorem y7 {e:List eC}: ∀ {t u:Rx} {i:Nat},ut e t i→ut e u i→t=u:=by
 intro t
 induction t with
 |none=>
  intro u i h h2
  have e0:=h.sx h2
  cases u with
  |none=>rfl
  |_=>simp[Rx.op]at e0
 |empty=>
  intro u i h h2
  have e0:=h.sx h2
  cases u with
  |empty=>rfl
  |_=>simp[Rx.op]at e0
 |letter p n=>
  intro u i h h2
  have e0:=h.sx h2
  cases u with
  |letter p' n'=>
   obtain⟨_,e1,e2,_⟩:=eC.mk.inj (db (h.1.symm.trans h2.1))
   rw[e1,e2]
  |_=>simp[Rx.op]at e0
 |ie a b kF lL=>
  intro u i h h2
  have e0:=h.sx h2
  cases u with
  |ie a' b'=>
   obtain⟨j,k,h,ha,hb⟩:=h
   obtain⟨j',k',h3,FB,zm⟩:=h2
   obtain⟨_,_,_,e1,e2⟩:=eC.mk.inj (db (h.symm.trans h3))
   obtain rfl:j=j':=by omega
   obtain rfl:k=k':=by omega
   rw[kF ha FB,lL hb zm]
  |_=>simp[Rx.op]at e0
 |iu a b kF lL=>
  intro u i h h2
  have e0:=h.sx h2
  cases u with
  |iu a' b'=>
   obtain⟨j,k,h,ha,hb⟩:=h
   obtain⟨j',k',h3,FB,zm⟩:=h2
   obtain⟨_,_,_,e1,e2⟩:=eC.mk.inj (db (h.symm.trans h3))
   obtain rfl:j=j':=by omega
   obtain rfl:k=k':=by omega
   rw[kF ha FB,lL hb zm]
  |_=>simp[Rx.op]at e0
 |and a b kF lL=>
  intro u i h h2
  have e0:=h.sx h2
  cases u with
  |and a' b'=>
   obtain⟨j,k,h,ha,hb⟩:=h
   obtain⟨j',k',h3,FB,zm⟩:=h2
   obtain⟨_,_,_,e1,e2⟩:=eC.mk.inj (db (h.symm.trans h3))
   obtain rfl:j=j':=by omega
   obtain rfl:k=k':=by omega
   rw[kF ha FB,lL hb zm]
  |_=>simp[Rx.op]at e0
 |not a kF=>
  intro u i h h2
  have e0:=h.sx h2
  cases u with
  |not a'=>
   obtain⟨j,h,ha⟩:=h
   obtain⟨j',h3,FB⟩:=h2
   obtain⟨_,_,_,e1,_⟩:=eC.mk.inj (db (h.symm.trans h3))
   obtain rfl:j=j':=by omega
   rw[kF ha FB]
  |_=>simp[Rx.op]at e0
 |star a kF=>
  intro u i h h2
  have e0:=h.sx h2
  cases u with
  |star a'=>
   obtain⟨j,h,ha⟩:=h
   obtain⟨j',h3,FB⟩:=h2
   obtain⟨_,_,_,e1,_⟩:=eC.mk.inj (db (h.symm.trans h3))
   obtain rfl:j=j':=by omega
   rw[kF ha FB]
  |_=>simp[Rx.op]at e0
 |ahead a kF=>
  intro u i h h2
  have e0:=h.sx h2
  cases u with
  |ahead a'=>
   obtain⟨j,h,ha⟩:=h
   obtain⟨j',h3,FB⟩:=h2
   obtain⟨_,_,_,e1,_⟩:=eC.mk.inj (db (h.symm.trans h3))
   obtain rfl:j=j':=by omega
   rw[kF ha FB]
  |_=>simp[Rx.op]at e0
 |behind a kF=>
  intro u i h h2
  have e0:=h.sx h2
  cases u with
  |behind a'=>
   obtain⟨j,h,ha⟩:=h
   obtain⟨j',h3,FB⟩:=h2
   obtain⟨_,_,_,e1,_⟩:=eC.mk.inj (db (h.symm.trans h3))
   obtain rfl:j=j':=by omega
   rw[kF ha FB]
  |_=>simp[Rx.op]at e0
theorem mF {w:List Nat}: ∀ {t:Rx} (_:t.plain=true) {i j:Nat},rp w t i j=(decide (i≤j∧j≤w.length)&&fx t ((w.drop i).take (j-i)))
 | .ie a b,h,i,j=>by
  simp only[Rx.plain,ay]at h
  simp only[rp]
  rw[dB,cY,ay,bT]
  show _↔_∧iA (fx a) (fx b) _=true
  rw[gN]
  constructor
  ·rintro⟨k,hk,h1⟩
   rw[ay,mF h.1,mF h.2,ay,ay,bT,bT]at h1
   obtain⟨⟨⟨c1,c2⟩,c3⟩,⟨c4,c5⟩,c6⟩:=h1
   refine⟨⟨by omega,c5⟩,_,_,?_,c3,c6⟩
   rw[show j-i=(k-i)+(j-k) by omega,List.take_add,List.drop_drop,show i+(k-i)=k by omega]
  ·rintro⟨⟨c1,c2⟩,x,y,e,h1,h2⟩
   have hl:x.length+y.length=j-i:=by
    have:=au List.length e
    rw[cw,List.length_drop,aP]at this
    omega
   refine⟨i+x.length,List.mem_range.2 (by omega),?_⟩
   have hx:(w.drop i).take x.length=x:=by
    have:=au (List.take x.length) e
    rwa[List.take_take,Nat.min_eq_left (by omega),List.take_left]at this
   have hy:(w.drop (i+x.length)).take y.length=y:=by
    have:=au (List.drop x.length) e
    rwa[List.drop_take,List.drop_drop,List.drop_left,show j-i-x.length=y.length by omega]at this
   rw[ay,mF h.1,mF h.2,ay,ay,bT,bT]
   exact⟨⟨⟨by omega,by omega⟩,by rw[show i+x.length-i=x.length by omega,hx];exact h1⟩,⟨by omega,c2⟩,by rw[show j-(i+x.length)=y.length by omega,hy];exact h2⟩
 | .iu a b,h,i,j=>by
  simp only[Rx.plain,ay]at h
  simp only[rp]
  rw[mF h.1,mF h.2]
  show _=(_&&(fx a _||fx b _))
  rw[Bool.and_or_distrib_left]
 | .none,_,_,_| .empty,_,_,_| .letter _ _,_,_,_| .and _ _,_,_,_| .not _,_,_,_| .star _,_,_,_=>rfl
 | .ahead a,h,_,_| .behind a,h,_,_=>absurd h (by simp[Rx.plain])
theorem Oq {vars:Int} {B:Nat} {e:List eC} (hB:B≤4096) (h0:iz vars e=0) (ho:BG vars.toNat e B) (I0:e.length≤24) {w:List Nat} (hw:iv vars w):nM vars.toNat e w=rp w (ui e) 0 w.length:=by
 obtain⟨h1,h2,h3,h4,fs,h5,h6,h7⟩:=nf h0
 have I4:iv ((vars.toNat:Nat):Int) w:=by rw[cM h1];exact hw
 unfold nM
 unfold BG at ho
 by_cases hl:e.any iR=true
 ·rw[aJ hl]at ho⊢
  refine Wv (by omega) hB ((pX h5 e.length (e.length-1) (by omega) (by omega)).2 h7) ?_ ho.1 I4
  have:=xl h5 e.length (e.length-1) (by omega) (by omega)
  show(iE e e.length (e.length-1)).lv≤12
  omega
 ·rw[aA hl]
  have hp:(ui e).plain=true:=nU h5 (fun x hx=>by
   have:=List.any_eq_false.1 (show e.any iR=false by simpa using hl) x hx
   unfold iR at this
   simp only[Bool.or_eq_true,bT]at this
   omega) e.length (e.length-1) (by omega) (by omega)
  rw[mF hp,ax ⟨bl _,aS _⟩]
  simp
def jA (lo hi:Nat) (p:Nat→Bool):Bool:=(List.range (hi+1-lo)).any fun k=>p (lo+k)
theorem lJ {lo hi:Nat} {p:Nat→Bool}:jA lo hi p=true↔ ∃k,lo≤k∧k≤hi∧p k=true:=by
 unfold jA
 rw[cY]
 constructor
 ·rintro⟨k,hk,h⟩;have:=List.mem_range.1 hk;exact⟨lo+k,by omega,by omega,h⟩
 ·rintro⟨k,h1,h2,h3⟩;exact⟨k-lo,List.mem_range.2 (by omega),by rw[show lo+(k-lo)=k by omega];exact h3⟩
theorem y9 {lo hi:Nat} {p:Nat→Bool} (h:hi<lo):jA lo hi p=false:=by
 unfold jA;rw[show hi+1-lo=0 by omega];rfl
theorem Bd {lo hi:Nat} {p:Nat→Bool} (h:lo≤hi):jA lo hi p=(p lo||jA (lo+1) hi p):=by
 rw[dB,Bool.or_eq_true,lJ,lJ]
 constructor
 ·rintro⟨k,h1,h2,h3⟩
  rcases Nat.lt_or_ge lo k with c|c
  ·exact .inr ⟨k,c,h2,h3⟩
  ·have:k=lo:=by omega
   subst this;exact .inl h3
 ·rintro(h1|⟨k,h1,h2,h3⟩)
  ·exact⟨lo,aS _,h,h1⟩
  ·exact⟨k,by omega,h2,h3⟩
theorem mf {lo hi:Nat} {p q:Nat→Bool} (h: ∀k,lo≤k→k≤hi→p k=q k):jA lo hi p=jA lo hi q:=by
 rw[dB,lJ,lJ]
 exact⟨fun⟨k,h1,h2,h3⟩=>⟨k,h1,h2,by rw[←h k h1 h2];exact h3⟩,fun⟨k,h1,h2,h3⟩=>⟨k,h1,h2,by rw[h k h1 h2];exact h3⟩⟩
def Xx (A:Nat→Nat→Bool):Nat→Nat→Nat→Bool
 |0,i,j=>decide (i=j)
 |f+1,i,j=>decide (i=j)||jA (i+1) j fun k=>A i k&&Xx A f k j
def n_ (w:List Nat):Rx→Nat→Nat→Bool
 | .none,_,_=>false
 | .empty,i,j=>decide (i=j)
 | .letter p n,i,j=>decide (j=i+1)&&fY p n (w.getD i 0)
 | .ie a b,i,j=>jA i j fun k=>n_ w a i k&&n_ w b k j
 | .iu a b,i,j=>n_ w a i j||n_ w b i j
 | .and a b,i,j=>n_ w a i j&&n_ w b i j
 | .not a,i,j=>!n_ w a i j
 | .star a,i,j=>Xx (n_ w a) (j-i) i j
 | .ahead a,i,j=>decide (i=j)&&jA i w.length fun k=>n_ w a i k
 | .behind a,i,j=>decide (i=j)&&jA 0 i fun k=>n_ w a k i
theorem y_ {A:Nat→Nat→Bool}: ∀(f g:Nat) {i j:Nat},j-i≤f→j-i≤g→Xx A f i j=Xx A g i j
 |0,0,_,_,_,_=>rfl
 |0,g+1,i,j,hf,_=>by
  show decide (i=j)=(decide (i=j)||_)
  rw[y9 (by omega),Bool.or_false]
 |f+1,0,i,j,_,hg=>by
  show(decide (i=j)||_)=decide (i=j)
  rw[y9 (by omega),Bool.or_false]
 |f+1,g+1,i,j,hf,hg=>by
  show(decide (i=j)||_)=(decide (i=j)||_)
  rw[mf fun k h1 h2=>by rw[y_ f g (by omega) (by omega)]]
theorem Iu {w:List Nat} {a:Rx} {i j:Nat}:n_ w (.star a) i j=(decide (i=j)||jA (i+1) j fun k=>n_ w a i k&&n_ w (.star a) k j):=by
 show Xx _ _ _ _=_
 rw[y_ (j-i) (j-i+1) (aS _) (by omega)]
 show(decide (i=j)||_)=_
 congr 1
 exact mf fun k h1 h2=>by
  show(_&&_)=(_&&Xx _ _ _ _)
  rw[y_ (j-i) (j-k) (by omega) (aS _)]
def iG (w:List Nat) (i j:Nat):List Nat:=(w.drop i).take (j-i)
theorem nw {w:List Nat} {i j:Nat} (hi:i≤j) (hj:j≤w.length):(iG w i j).length=j-i:=by unfold iG;rw[cw,List.length_drop];omega
theorem pr {w:List Nat} {i k j:Nat} (h1:i≤k) (h2:k≤j):iG w i j=iG w i k++iG w k j:=by
 unfold iG
 rw[show j-i=(k-i)+(j-k) by omega,List.take_add,List.drop_drop,show i+(k-i)=k by omega]
theorem oA {w:List Nat} {i j:Nat} (hi:i≤j) (hj:j≤w.length) {x y:List Nat} (h:iG w i j=x++y):i+x.length≤j∧x=iG w i (i+x.length)∧y=iG w (i+x.length) j:=by
 have hl:=au List.length h
 rw[nw hi hj,aP]at hl
 have h2:=pr (w:=w) (i:=i) (k:=i+x.length) (j:=j) (by omega) (by omega)
 rw[h2]at h
 have:=List.append_inj h (by rw[nw (by omega) (by omega)];omega)
 exact⟨by omega,this.1.symm,this.2.symm⟩
theorem h_ {w:List Nat}: ∀ {t:Rx} (_:t.plain=true) {i j:Nat} (_:i≤j) (_:j≤w.length),n_ w t i j=fx t (iG w i j)
 | .none,_,_,_,_,_=>rfl
 | .empty,_,i,j,hi,hj=>by
  show decide (i=j)=((iG w i j).length==0&&(iG w i j).all (fY 0 0))
  have hl:=nw hi hj
  rw[hl]
  by_cases e:i=j
  ·subst e
   have:iG w i i=[]:=List.eq_nil_of_length_eq_zero (by rw[hl];omega)
   rw[this];simp
  ·rw[am e,show(j-i==0)=false by rw[beq_eq_false_iff_ne];omega];rfl
 | .letter p n,_,i,j,hi,hj=>by
  show(decide (j=i+1)&&fY p n (w.getD i 0))=((iG w i j).length==1&&(iG w i j).all (fY p n))
  have hl:=nw hi hj
  rw[hl]
  by_cases e:j=i+1
  ·subst e
   have:iG w i (i+1)=[w.getD i 0]:=by
    unfold iG
    rw[show i+1-i=1 by omega,List.drop_eq_getElem_cons (by omega),az,ap (by omega)];rfl
   rw[this,show i+1-i=1 by omega];simp
  ·rw[am e,show(j-i==1)=false by rw[beq_eq_false_iff_ne];omega];rfl
 | .ie a b,h,i,j,hi,hj=>by
  simp only[Rx.plain,ay]at h
  show jA i j _=iA (fx a) (fx b) _
  rw[dB,lJ,gN]
  constructor
  ·rintro⟨k,h1,h2,h3⟩
   rw[ay,h_ h.1 h1 (by omega),h_ h.2 h2 hj]at h3
   exact⟨_,_,pr h1 h2,h3.1,h3.2⟩
  ·rintro⟨x,y,e,h1,h2⟩
   obtain⟨k1,k2,k3⟩:=oA hi hj e
   refine⟨i+x.length,by omega,k1,?_⟩
   rw[ay,h_ h.1 (by omega) (by omega),h_ h.2 k1 hj,←k2,←k3]
   exact⟨h1,h2⟩
 | .iu a b,h,i,j,hi,hj=>by
  simp only[Rx.plain,ay]at h
  show(n_ w a i j||n_ w b i j)=(fx a _||fx b _)
  rw[h_ h.1 hi hj,h_ h.2 hi hj]
 | .and a b,h,i,j,hi,hj=>by
  simp only[Rx.plain,ay]at h
  show(n_ w a i j&&n_ w b i j)=(fx a _&&fx b _)
  rw[h_ h.1 hi hj,h_ h.2 hi hj]
 | .not a,h,i,j,hi,hj=>by
  show(!n_ w a i j)=!fx a _
  rw[h_ (t:=a) h hi hj]
 | .star a,h,i,j,hi,hj=>by
  have hs: ∀(n i:Nat),j-i=n→i≤j→(n_ w (.star a) i j=true↔iJ (fx a) (iG w i j)):=by
   intro n
   induction n using Nat.strongRecOn with
   |ind n ih=>
    intro i hn hi
    rw[Iu,Bool.or_eq_true,bT,lJ]
    constructor
    ·rintro(e|⟨k,h1,h2,h3⟩)
     ·subst e
      have:iG w i i=[]:=List.eq_nil_of_length_eq_zero (by rw[nw hi hj];omega)
      rw[this];exact .nil
     ·rw[ay,h_ (t:=a) h (by omega) (by omega)]at h3
      rw[pr (k:=k) (by omega) h2]
      exact .sJ h3.1 ((ih (j-k) (by omega) k F h2).1 h3.2)
    ·intro hs
     by_cases e:i=j
     ·exact .inl e
     ·refine .inr ?_
      have key: ∀ {u:List Nat},iJ (fx a) u→u≠ []→ ∃x y,u=x++y∧x≠ []∧fx a x=true∧iJ (fx a) y:=fun {u} hu=>by
       induction hu with
       |nil=>exact fun h=>absurd F h
       | @sJ x y h1 h2 ih2=>
        intro pL
        by_cases hx:x=[]
        ·subst hx;exact ih2 (by simpa using pL)
        ·exact⟨x,y,F,hx,h1,h2⟩
      obtain⟨x,y,e2,hx,h1,h2⟩:=key hs (fun e3=>by have:=nw hi hj;rw[e3]at this;simp at this;omega)
      obtain⟨k1,k2,k3⟩:=oA hi hj e2
      have hl:0<x.length:=List.length_pos_iff.2 hx
      refine⟨i+x.length,by omega,k1,?_⟩
      rw[ay,h_ (t:=a) h (by omega) (by omega),←k2]
      exact⟨h1,(ih (j-(i+x.length)) (by omega) _ F k1).2 (by rw[←k3];exact h2)⟩
  show _=qQ (fx a) _
  rw[dB,hs (j-i) i F hi,rO]
 | .ahead a,h,_,_,_,_| .behind a,h,_,_,_,_=>absurd h (by simp[Rx.plain])
theorem abf {w:List Nat}: ∀ {t:Rx} (_:t.wf=true) {i j:Nat} (_:i≤j) (_:j≤w.length),n_ w t i j=rp w t i j:=by
 have pl: ∀ {t:Rx},t.plain=true→ ∀ {i j:Nat},i≤j→j≤w.length→n_ w t i j=rp w t i j:=fun {t} h {i j} hi hj=>by
  rw[mF h,h_ h hi hj,ax ⟨hi,hj⟩];rfl
 have bd: ∀ {t:Rx} {i j:Nat},rp w t i j=true→i≤j∧j≤w.length:=fun {t}=>by
  induction t with
  |ie a b kF lL=>
   intro i j h
   simp only[rp]at h
   obtain⟨k,_,hk⟩:=List.any_eq_true.1 h
   rw[ay]at hk
   have:=kF hk.1;have:=lL hk.2
   omega
  |iu a b kF lL=>
   intro i j h
   simp only[rp]at h
   rw[Bool.or_eq_true]at h
   exact h.elim kF lL
  |ahead a _=>
   intro i j h
   simp only[rp]at h
   rw[ay,bT]at h
   omega
  |behind a _=>
   intro i j h
   simp only[rp]at h
   rw[ay,bT]at h
   omega
  |none|empty|letter|and|not|star=>
   intro i j h
   simp only[rp]at h
   rw[ay,bT]at h
   exact h.1
 intro t
 induction t with
 |ie a b kF lL=>
  intro hw i j hi hj
  simp only[Rx.wf,ay]at hw
  show jA i j _=List.any _ _
  rw[dB,lJ,cY]
  constructor
  ·rintro⟨k,h1,h2,h3⟩
   rw[kF hw.1 h1 (by omega),lL hw.2 h2 hj]at h3
   exact⟨k,List.mem_range.2 (by omega),h3⟩
  ·rintro⟨k,hk,h3⟩
   have h4:=h3
   rw[ay]at h4
   have h1:=(bd h4.1).1
   have h2:=(bd h4.2).1
   refine⟨k,h1,h2,?_⟩
   rw[kF hw.1 h1 (by omega),lL hw.2 h2 hj];exact h3
 |iu a b kF lL=>
  intro hw i j hi hj
  simp only[Rx.wf,ay]at hw
  show(n_ w a i j||n_ w b i j)=(rp w a i j||rp w b i j)
  rw[kF hw.1 hi hj,lL hw.2 hi hj]
 |ahead a _=>
  intro hw i j hi hj
  have hw:a.plain=true:=hw
  show(decide (i=j)&&jA i w.length _)=(decide (i=j∧i≤w.length)&&iA _ _ _)
  rw[dB,ay,ay,bT,bT,lJ,gN]
  have hd:w.drop i=iG w i w.length:=by unfold iG;rw[br (by simp)]
  rw[hd]
  constructor
  ·rintro⟨h0,k,h1,h2,h3⟩
   rw[h_ hw h1 h2]at h3
   exact⟨⟨h0,by omega⟩,_,_,pr h1 h2,h3,F⟩
  ·rintro⟨⟨h0,h1⟩,x,y,e,h2,_⟩
   obtain⟨k1,k2,_⟩:=oA h1 (aS _) e
   exact⟨h0,i+x.length,by omega,k1,by rw[h_ hw (by omega) k1,←k2];exact h2⟩
 |behind a _=>
  intro hw i j hi hj
  have hw:a.plain=true:=hw
  show(decide (i=j)&&jA 0 i _)=(decide (i=j∧i≤w.length)&&iA _ _ _)
  rw[dB,ay,ay,bT,bT,lJ,gN]
  have hd:w.take i=iG w 0 i:=by unfold iG;rw[List.drop_zero,Nat.sub_zero]
  rw[hd]
  constructor
  ·rintro⟨h0,k,h1,h2,h3⟩
   rw[h_ hw h2 (by omega)]at h3
   exact⟨⟨h0,by omega⟩,_,_,pr h1 h2,F,h3⟩
  ·rintro⟨⟨h0,h1⟩,x,y,e,_,h2⟩
   obtain⟨k1,k2,k3⟩:=oA (bl _) h1 e
   exact⟨h0,0+x.length,by omega,k1,by rw[h_ hw k1 (by omega),←k3];exact h2⟩
 |none=>exact fun hw {i j} hi hj=>pl (t:=.none) hw hi hj
 |empty=>exact fun hw {i j} hi hj=>pl (t:=.empty) hw hi hj
 |letter p n=>exact fun hw {i j} hi hj=>pl (t:=.letter p n) hw hi hj
 |and a b _ _=>exact fun hw {i j} hi hj=>pl (t:=.and a b) hw hi hj
 |not a _=>exact fun hw {i j} hi hj=>pl (t:=.not a) hw hi hj
 |star a _=>exact fun hw {i j} hi hj=>pl (t:=.star a) hw hi hj
theorem zg {E:TypeId}: ∀ {qs:List kj} {c:Nat} (h:c<qs.length),(io E qs).Perm (qs[c].qt E::io E (qs.eraseIdx c))
 |q::qs,0,_=>by simp
 |q::qs,c+1,h=>by
  have ih:=zg (E:=E) (qs:=qs) (c:=c) (by simpa using h)
  simp only[io,cD,List.eraseIdx_cons_succ,List.getElem_cons_succ]at ih⊢
  exact(ih.cons _).trans (List.Perm.swap _ _ _)
theorem RB {E:TypeId} {qs:List kj} {c:Nat} (h:c<qs.length) {X:List Item}:av qs[c].b qs[c].c E 1 (cI qs[c].xs)∈X++io E qs:=ao _ (List.mem_map.2 ⟨qs[c],aN h,F⟩)
theorem vL {qs:List kj} {c:Nat} (h:c<qs.length):(iX qs)[c]? =some (.slice qs[c].b qs[c].xs.length qs[c].c):=by simp[h,kj.val]
theorem GJ {qs:List kj} {c:Nat} (h:c<qs.length) {xs:List Bool} (hl:xs.length=qs[c].xs.length):iX (qs.set c ⟨qs[c].b,qs[c].c,xs⟩)=iX qs:=by
 apply List.ext_getElem?
 intro i
 rw[bi,bi,List.getElem?_set]
 split
 ·rename_i e;subst e
  rw[ap h]
  show some (Value.slice qs[c].b xs.length qs[c].c)=some (Value.slice qs[c].b qs[c].xs.length qs[c].c)
  rw[hl]
 ·rfl
def gB (qs:List kj) (a b:Nat):Bool:=(qs[a]?.map kj.xs|>.getD []).getD b false
structure Ki (n:Nat) (qs:List kj):Prop where
 len:qs.length=n
 row: ∀q∈qs,q.xs.length=n
theorem abg {qs:List kj} {a b:Nat} (ha:a<qs.length) (hb:b<qs[a].xs.length):gB qs a b=qs[a].xs[b]:=by
 unfold gB
 rw[ap ha]
 show qs[a].xs.getD b false=_
 rw[az,ap hb];rfl
theorem EV {qs:List kj} {a b:Nat} (ha:a<qs.length) (hb:b<qs[a].xs.length):(cI qs[a].xs)[b]? =some (.bool (gB qs a b)):=by
 rw[abg ha hb,bi,ap hb];rfl
theorem WT {qs:List kj} {i j:Nat} (hi:i<qs.length) (hj:j<qs[i].xs.length) (v:Bool) (a b:Nat):gB (qs.set i ⟨qs[i].b,qs[i].c,qs[i].xs.set j v⟩) a b=if a=i∧b=j then v else gB qs a b:=by
 unfold gB
 rw[List.getElem?_set]
 by_cases ha:a=i
 ·subst ha
  rw[aJ F,aJ hi,ap hi]
  show(qs[a].xs.set j v).getD b false=if a=a∧b=j then v else qs[a].xs.getD b false
  rw[az,List.getElem?_set,az]
  by_cases hb:b=j
  ·subst hb;rw[aJ F,aJ hj,aJ ⟨F,F⟩];rfl
  ·rw[aA (fun e=>hb e.symm),aA (fun e=>hb e.2)]
 ·rw[aA (fun e=>ha e.symm),aA (fun e=>ha e.1)]
theorem Ki.set {n:Nat} {qs:List kj} (h:Ki n qs) {i:Nat} (hi:i<qs.length) {xs:List Bool} (hl:xs.length=n):Ki n (qs.set i ⟨qs[i].b,qs[i].c,xs⟩):=
 ⟨by rw[eE];exact h.len,fun q hq=>by
  rcases List.mem_or_eq_of_mem_set hq with hq|rfl
  ·exact h.row q hq
  ·exact hl⟩
structure TR where
 b:Option Addr
 c:Nat
 qs:List kj
def TR.val (t:TR):Value:=.slice t.b t.qs.length t.c
abbrev mH (ts:List TR):List Value:=ts.map TR.val
def TR.cg (L E:TypeId) (t:TR):List Item:=av t.b t.c L 1 (iX t.qs)::io E t.qs
def nl (L E:TypeId) (ts:List TR):List Item:=ts.flatMap (TR.cg L E)
def tA (w:World) (t:TR):Prop:=Sl w t.b (iX t.qs)∧ ∀q∈t.qs,Sl w q.b (cI q.xs)
theorem tA.at {base w:World} {O:List Item} {t:TR} (hI:Inv base O w) (h:tA base t):tA w t:=⟨hI.sl h.1,fun q hq=>hI.sl (h.2 q hq)⟩
theorem tA.of {base w:World} {O:List Item} {t:TR} {L E:TypeId} (hI:Inv base O w) (h: ∀it∈t.cg L E,it∈O):tA w t:=
 ⟨hI.gV (h _ List.mem_cons_self),fun q hq=>hI.gV (T:=E) (c:=q.c) (k:=1) (h _ (List.mem_cons_of_mem _ (List.mem_map.2 ⟨q,hq,F⟩)))⟩
theorem Kj {L E:TypeId} (ts:List TR) (t:TR):nl L E (ts++[t])=nl L E ts++t.cg L E:=by simp[nl]
theorem EW {L E:TypeId} {ts:List TR} {t:TR} (h:t∈ts): ∀it∈t.cg L E,it∈nl L E ts:=fun it hi=>List.mem_flatMap.2 ⟨t,h,hi⟩
def uO (w:List Nat) (x:eC) (A B T:Nat→Nat→Bool) (i j:Nat):Bool:=
 if x.op=2 then decide (i=j)else if x.op=3 then decide (j=i+1)&&fY x.p x.n (w.getD i 0)
 else if x.op=4 then jA i j fun k=>A i k&&B k j else if x.op=5 then A i j||B i j else if x.op=6 then A i j&&B i j
 else if x.op=7 then !A i j else if x.op=8 then decide (i=j)||jA (i+1) j fun k=>A i k&&T k j
 else if x.op=9 then decide (i=j)&&jA i w.length fun k=>A i k else if x.op=10 then decide (i=j)&&jA 0 i fun k=>A k i else false
def EX (n:Nat) (M:Nat→Nat→Bool) (r j:Nat) (qs:List kj):Prop:= ∀a b,a≤b→b<n→(r≤a∨(a+1=r∧b<j))→gB qs a b=M a b
theorem EX.step {n:Nat} {M:Nat→Nat→Bool} {r j:Nat} {qs:List kj} (h:EX n M r j qs) (hr:r-1<qs.length) (h1:1≤r) (hj:j<qs[r-1].xs.length) {v:Bool} (hv:v=M (r-1) j):EX n M r (j+1) (qs.set (r-1) ⟨qs[r-1].b,qs[r-1].c,qs[r-1].xs.set j v⟩):=fun a b h2 h3 h4=>by
 rw[WT hr hj]
 by_cases e:a=r-1∧b=j
 ·rw[aJ e,hv,e.1,e.2]
 ·rw[aA e]
  exact h a b h2 h3 (by omega)
theorem EX.row {n:Nat} {M:Nat→Nat→Bool} {r:Nat} {qs:List kj} (h:EX n M r n qs) (h1:1≤r):EX n M (r-1) (r-1-1) qs:=fun a b h2 h3 h4=>h a b h2 h3 (by omega)
def RC (n:Nat) (t:TR) (M:Nat→Nat→Bool):Prop:=Ki n t.qs∧ ∀a b,a≤b→b<n→gB t.qs a b=M a b
def To (e:List eC) (k:Nat):Rx:=iE e e.length k
theorem RJ {e:List eC} {u:List Nat} {x:eC} {k:Nat} (hx:e[k]? =some x) {A B T:Nat→Nat→Bool} {t:Rx} (h:ut e t k)
  (hA: ∀(ta:Rx) (ja:Nat),ut e ta ja→x.a=(ja:Int)→4≤x.op→ ∀i j,i≤j→j≤u.length→A i j=n_ u ta i j)
  (hB: ∀(tb:Rx) (jb:Nat),ut e tb jb→x.b=(jb:Int)→(x.op=4∨x.op=5∨x.op=6)→ ∀i j,i≤j→j≤u.length→B i j=n_ u tb i j)
  {i j:Nat} (KD:i≤j) (hj:j≤u.length) (hT: ∀k,i<k→k≤j→T k j=n_ u t k j):uO u x A B T i j=n_ u t i j:=by
 have inj: ∀ {y:eC},e[k]? =some y→x=y:=fun h=>db (hx.symm.trans h)
 cases t with
 |none=>obtain rfl:=inj h;rfl
 |empty=>obtain rfl:=inj h;rfl
 |letter p n=>obtain rfl:=inj h.1;rfl
 |ie a b=>
  obtain⟨ja,jb,h1,h2,h3⟩:=h
  obtain rfl:=inj h1
  show(jA i j fun k=>A i k&&B k j)=jA i j fun k=>n_ u a i k&&n_ u b k j
  exact mf fun k h4 h5=>by rw[hA a ja h2 F (aS 4) i k h4 (by omega),hB b jb h3 F (.inl F) k j h5 hj]
 |iu a b=>
  obtain⟨ja,jb,h1,h2,h3⟩:=h
  obtain rfl:=inj h1
  show(A i j||B i j)=(n_ u a i j||n_ u b i j)
  rw[hA a ja h2 F (by show 4≤5;decide) i j KD hj,hB b jb h3 F (.inr (.inl F)) i j KD hj]
 |and a b=>
  obtain⟨ja,jb,h1,h2,h3⟩:=h
  obtain rfl:=inj h1
  show(A i j&&B i j)=(n_ u a i j&&n_ u b i j)
  rw[hA a ja h2 F (by show 4≤6;decide) i j KD hj,hB b jb h3 F (.inr (.inr F)) i j KD hj]
 |not a=>
  obtain⟨ja,h1,h2⟩:=h
  obtain rfl:=inj h1
  show(!A i j)=!n_ u a i j
  rw[hA a ja h2 F (by show 4≤7;decide) i j KD hj]
 |star a=>
  obtain⟨ja,h1,h2⟩:=h
  obtain rfl:=inj h1
  rw[Iu]
  show(decide (i=j)||jA (i+1) j fun k=>A i k&&T k j)=_
  congr 1
  exact mf fun k h4 h5=>by rw[hA a ja h2 F (by show 4≤8;decide) i k (by omega) (by omega),hT k (by omega) h5]
 |ahead a=>
  obtain⟨ja,h1,h2⟩:=h
  obtain rfl:=inj h1
  show(decide (i=j)&&jA i u.length fun k=>A i k)=(decide (i=j)&&jA i u.length fun k=>n_ u a i k)
  congr 1
  exact mf fun k h4 h5=>hA a ja h2 F (by show 4≤9;decide) i k h4 h5
 |behind a=>
  obtain⟨ja,h1,h2⟩:=h
  obtain rfl:=inj h1
  show(decide (i=j)&&jA 0 i fun k=>A k i)=(decide (i=j)&&jA 0 i fun k=>n_ u a k i)
  congr 1
  exact mf fun k h4 h5=>hA a ja h2 F (by show 4≤10;decide) k i h5 (by omega)
structure Oz (e:List eC):Prop where
 at_: ∀k,k<e.length→ut e (To e k) k
 kid: ∀k (h:k<e.length),∃ja jb:Nat,e[k].a=(ja:Int)∧e[k].b=(jb:Int)∧(4≤e[k].op→ja<k)∧((e[k].op=4∨e[k].op=5∨e[k].op=6)→jb<k)
 byte: ∀x∈e,x.p<256∧x.n<256
theorem abm {vars:Int} {e:List eC} (h0:iz vars e=0) (mw: ∀x∈e,x.p<256∧x.n<256):Oz e:=by
 obtain⟨h1,h2,h3,h4,fs,h5,h6,h7⟩:=nf h0
 refine⟨fun k hk=>kK h5 mw e.length k hk hk,fun k hk=>?_,mw⟩
 obtain⟨g1,g2⟩:=o8 h5 k hk
 obtain⟨s1,s2,s3,s4,s5⟩:=kg (oq h5 hk)
 have Xi: ∀o,o≤10→((1≤dU o↔4≤o)∧(2≤dU o↔(o=4∨o=5∨o=6))):=by decide
 obtain⟨c1,c2⟩:=Xi _ s2
 obtain⟨ja,ea,la⟩: ∃ja:Nat,e[k].a=(ja:Int)∧(4≤e[k].op→ja<k):=by
  by_cases c:1≤dU e[k].op
  ·obtain⟨j,hj,hl⟩:=g1 c
   exact⟨j,hj,fun _=>hl⟩
  ·exact⟨0,s4 (by omega),fun h=>absurd (c1.2 h) c⟩
 obtain⟨jb,eb,lb⟩: ∃jb:Nat,e[k].b=(jb:Int)∧((e[k].op=4∨e[k].op=5∨e[k].op=6)→jb<k):=by
  by_cases c:2≤dU e[k].op
  ·obtain⟨j,hj,hl⟩:=g2 c
   exact⟨j,hj,fun _=>hl⟩
  ·exact⟨0,s5 (by omega),fun h=>absurd (c2.2 h) c⟩
 exact⟨ja,jb,ea,eb,la,lb⟩
def OA (e:List eC) (u:List Nat) (ts:List TR):Prop:= ∀(k:Nat) (t:TR),ts[k]? =some t→RC (u.length+1) t (n_ u (To e k))
theorem OA.snoc {e:List eC} {u:List Nat} {ts:List TR} (h:OA e u ts) {t:TR} (ht:RC (u.length+1) t (n_ u (To e ts.length))):OA e u (ts++[t]):=fun k t2 h2=>by
 rcases Nat.lt_or_ge k ts.length with c|c
 ·rw[bE c]at h2;exact h k t2 h2
 ·rw[bM c]at h2
  have:k=ts.length:=by
   rcases Nat.lt_or_ge (k-ts.length) 1 with d|d
   ·omega
   ·rw[bY (by simpa using d)]at h2;cases h2
  subst this
  rw[fL]at h2
  injection h2 with h2
  rw[←h2];exact ht
theorem RK {e:List eC} (hT:Oz e) {u:List Nat} {ts:List TR} (lj:OA e u ts) {k:Nat} (hk:k<e.length) {x:eC} (hx:e[k]? =some x) {ja jb:Nat} (ea:x.a=(ja:Int)) (eb:x.b=(jb:Int)) {TA TB:TR} (hA:4≤x.op→ts[ja]? =some TA) (hB:(x.op=4∨x.op=5∨x.op=6)→ts[jb]? =some TB)
  {T:Nat→Nat→Bool} {i j:Nat} (KD:i≤j) (hj:j≤u.length) (hO: ∀a,i<a→a≤j→T a j=n_ u (To e k) a j):uO u x (gB TA.qs) (gB TB.qs) T i j=n_ u (To e k) i j:=by
 refine RJ hx (hT.at_ k hk) (fun ta ja2 Cz e2 h4 a b h1 h2=>?_) (fun tb UJ Cz e2 h4 a b h1 h2=>?_) KD hj hO
 ·have:ja2=ja:=by omega
  subst this
  rw[(lj _ _ (hA h4)).2 a b h1 (by omega),y7 Cz (hT.at_ ja2 Cz.lt)]
 ·have:UJ=jb:=by omega
  subst this
  rw[(lj _ _ (hB h4)).2 a b h1 (by omega),y7 Cz (hT.at_ UJ Cz.lt)]
theorem OC {L E:TypeId} {ts:List TR} {t:TR} (h:t∈ts) (X:List Item):Sub (t.cg L E) (X++nl L E ts):=by
 obtain⟨a,b,rfl⟩:=List.append_of_mem h
 have:nl L E (a++t::b)=nl L E a++(t.cg L E++nl L E b):=by simp[nl]
 rw[this]
 exact ck (((List.sublist_append_left _ _).trans (List.sublist_append_right _ _)).trans (List.sublist_append_right _ _))
theorem tB {E:TypeId} {qs:List kj} {c:Nat} (h:c<qs.length) (X Y:List Item):(X++(io E qs++Y)).Perm (qs[c].qt E::(X++(io E (qs.eraseIdx c)++Y))):=
 (((zg h).append_right Y).append_left X).trans List.perm_middle
theorem Kl {E:TypeId} {qs:List kj} {c:Nat} (h:c<qs.length) (X Y:List Item):Sub (av qs[c].b qs[c].c E 1 (cI qs[c].xs)::(X++(io E (qs.eraseIdx c)++Y))) (X++(io E qs++Y)):=
 ⟨X++(io E qs++Y),(tB h X Y).symm,aY _⟩
theorem OD {E:TypeId} {qs:List kj} {c:Nat} (h:c<qs.length) (X Y:List Item) (q:kj):Sub (X++(io E (qs.set c q)++Y)) (av q.b q.c E 1 (cI q.xs)::(X++(io E (qs.eraseIdx c)++Y))):=by
 have h1:=tB (E:=E) (qs:=qs.set c q) (c:=c) (by simpa using h) X Y
 rw[List.getElem_set_self,List.eraseIdx_set_eq]at h1
 exact⟨_,h1,aY _⟩
theorem OE (R H:Item) (B Y:List Item):Sub ([R]++(Y++H::B)) ([R,H]++(B++Y)):=
 ⟨R::H::(B++Y),(show(Y++H::B).Perm (H::B++Y)from List.perm_append_comm).cons R,aY _⟩
theorem Rw {d:cV} {vars:Int} {B:Nat} {p:Lg} (h:fQ vars B d p) (l:List Nat):kO d l=if 64<l.length then 4 else if l.any (fun x=>decide (2^vars.toNat≤x))=true then 1 else 0:=by
 unfold kO
 rw[aA (by rw[eF.2 h.valid];decide),h.vars]
abbrev PP:=Nat×List eC
def eB (s:Nat) (x:eC):eC:=if x.op=7∨x.op=8 then {x with a:=x.a+s}else if x.op=4∨x.op=5∨x.op=6 then {x with a:=x.a+s,b:=x.b+s}else x
theorem C4 (x:eC):eB 0 x=x:=by
 unfold eB
 split
 ·simp
 ·split<;>simp
def Ja (op:Nat) (out:List eC):PP:=if 64<out.length then(3,[])else(0,out)
def qH (op:Nat) (a:PP):PP:=if a.1=3 then(3,[])else Ja op (a.2++[⟨op,0,0,(a.2.length:Int)-1,0⟩])
def oT (op:Nat) (a b:PP):PP:=if a.1=3∨b.1=3 then(3,[])else Ja op (a.2++b.2.map (eB a.2.length)++[⟨op,0,0,(a.2.length:Int)-1,((a.2.length+b.2.length:Nat):Int)-1⟩])
def By (a b:PP):PP:=if a.1=1 then b else if b.1=1∨(a.1≠3∧a.2=b.2)then a else oT 5 a b
def C5 (a b:PP):PP:=if a.1=1∨b.1=2 then a else if b.1=1∨a.1=2 then b else oT 4 a b
def Az (a:PP):PP:=if a.1=1∨a.1=2 then(2,[⟨2,0,0,0,0⟩])else qH 8 a
structure zN (n:Nat) (x:eC):Prop where
 op:1≤x.op∧x.op≤8
 p:x.p<256
 nn:x.n<256
 a0:0≤x.a
 a1:x.a<n
 b0:0≤x.b
 b1:x.b<n
theorem zN.mono {n m:Nat} {x:eC} (h:zN n x) (hm:n≤m):zN m x:=⟨h.op,h.p,h.nn,h.a0,by have:=h.a1;omega,h.b0,by have:=h.b1;omega⟩
structure fN (a:PP):Prop where
 k:a.1≤3
 len:a.2.length≤64
 nil:a.1=3→a.2=[]
 ne:a.1≠3→a.2≠ []
 pc: ∀x∈a.2,zN a.2.length x
theorem fN.one {k o p n:Nat} (hk:k≤2) (ho:1≤o∧o≤8) (hp:p<256) (hn:n<256):fN (k,[⟨o,p,n,0,0⟩]):=
 ⟨bo hk (by decide),by simp,fun h=>absurd (show k=3 from h) (by omega),fun _=>by simp,fun x hx=>by rw[List.mem_singleton.1 hx];exact⟨ho,hp,hn,Int.le_refl _,Int.zero_lt_one,Int.le_refl _,Int.zero_lt_one⟩⟩
theorem fN.T9:fN (3,[]):=⟨by decide,by simp,fun _=>rfl,fun h=>absurd F h,fun x hx=>by simp at hx⟩
theorem AA {op:Nat} {out:List eC} (pL:out≠ []) (h: ∀x∈out,zN out.length x):fN (Ja op out):=by
 unfold Ja
 split
 ·exact .T9
 ·rename_i hl
  exact⟨bl _,by show out.length≤64;omega,fun h=>absurd (show 0=3 from h) (by decide),fun _=>pL,h⟩
theorem fN.pos {a:PP} (h:fN a) (h3:a.1≠3):0<a.2.length:=List.length_pos_iff.2 (h.ne h3)
theorem FD {op:Nat} (ho:1≤op∧op≤8) {a:PP} (ha:fN a):fN (qH op a):=by
 unfold qH
 split
 ·exact .T9
 ·rename_i h3
  have h0:=ha.pos h3
  refine AA (by simp) fun x hx=>?_
  rw[aP,List.length_singleton]
  rcases List.mem_append.1 hx with hx|hx
  ·exact(ha.pc x hx).mono (by omega)
  ·rw[List.mem_singleton.1 hx];exact⟨ho,by show 0<256;omega,by show 0<256;omega,by show 0≤(a.2.length:Int)-1;omega,by show(a.2.length:Int)-1<_;omega,Int.le_refl _,by show(0:Int)<_;omega⟩
theorem T_ {s n:Nat} {x:eC} (h:zN n x):zN (s+n) (eB s x):=by
 obtain⟨h1,h2,h3,h4,h5,h6,h7⟩:=h
 unfold eB
 split
 ·exact⟨h1,h2,h3,by show 0≤x.a+s;omega,by show x.a+s<_;omega,h6,by show x.b<_;omega⟩
 ·split
  ·exact⟨h1,h2,h3,by show 0≤x.a+s;omega,by show x.a+s<_;omega,by show 0≤x.b+s;omega,by show x.b+s<_;omega⟩
  ·exact⟨h1,h2,h3,h4,by omega,h6,by omega⟩
theorem x4 {op:Nat} (ho:1≤op∧op≤8) {a b:PP} (ha:fN a) (hb:fN b):fN (oT op a b):=by
 unfold oT
 split
 ·exact .T9
 ·rename_i h3
  have h0:=ha.pos (fun e=>h3 (.inl e))
  have h1:=hb.pos (fun e=>h3 (.inr e))
  refine AA (by simp) fun x hx=>?_
  rw[aP,aP,ar,List.length_singleton]
  rcases List.mem_append.1 hx with hx|hx
  ·rcases List.mem_append.1 hx with hx|hx
   ·exact(ha.pc x hx).mono (by omega)
   ·obtain⟨y,hy,rfl⟩:=List.mem_map.1 hx
    exact(T_ (hb.pc y hy)).mono (by omega)
  ·rw[List.mem_singleton.1 hx];exact⟨ho,by show 0<256;omega,by show 0<256;omega,by show 0≤(a.2.length:Int)-1;omega,by show(a.2.length:Int)-1<_;omega,by show(0:Int)≤((a.2.length+b.2.length:Nat):Int)-1;omega,by show((a.2.length+b.2.length:Nat):Int)-1<_;omega⟩
theorem u7 {a b:PP} (ha:fN a) (hb:fN b):fN (By a b):=by
 unfold By
 split
 ·exact hb
 ·split
  ·exact ha
  ·exact x4 (by decide) ha hb
theorem rK {a b:PP} (ha:fN a) (hb:fN b):fN (C5 a b):=by
 unfold C5
 split
 ·exact ha
 ·split
  ·exact hb
  ·exact x4 (by decide) ha hb
theorem x5 {a:PP} (ha:fN a):fN (Az a):=by
 unfold Az
 split
 ·exact .one (by decide) (by decide) (by decide) (by decide)
 ·exact FD (by decide) ha
structure ER where
 b:Option Addr
 c:Nat
 e:List eC
def ER.qt (T:TypeId) (r:ER):Item:=av r.b r.c T 5 (bQ r.e)
def dy (T:TypeId) (p:List ER):List Item:=p.map (ER.qt T)
def gm (p:List ER) (r:ER):Prop:=r∈p∨r.e=[]
theorem gm.sl {T:TypeId} {w base:World} {O:List Item} {p:List ER} {r:ER} (hI:Inv base O w) (hO: ∀it∈dy T p,it∈O) (h:gm p r):Sl w r.b (bQ r.e):=by
 rcases h with h|h
 ·exact hI.gV (hO _ (List.mem_map.2 ⟨r,h,F⟩))
 ·rw[h];exact fun i hi=>absurd hi (by simp[bQ])
theorem gm.mono {p q:List ER} {r:ER} (h:gm p r) (hq: ∀x∈p,x∈q):gm q r:=h.elim (fun h=>.inl (hq _ h)) .inr
theorem qI (T:TypeId) (p q:List ER):dy T (p++q)=dy T p++dy T q:=bj
structure PR where
 k:Nat
 r:ER
instance:Inhabited PR:=⟨⟨0,none,0,[]⟩⟩
def PR.pp (x:PR):PP:=(x.k,x.r.e)
abbrev PR.cells (x:PR):List Value:=[.int .u8 (x.k:Int),.slice x.r.b x.r.e.length x.r.c]
abbrev PR.val (x:PR):Value:=.agg #[.int .u8 (x.k:Int),.slice x.r.b x.r.e.length x.r.c]
def eL (l:List PR):List Value:=l.flatMap PR.cells
theorem ik (l:List PR):(eL l).length=l.length*2:=by
 induction l with
 |nil=>rfl
 |cons p l ih=>simp only[eL,List.flatMap_cons,aP,bG,dl]at ih⊢;rw[ih];omega
theorem om {l:List PR}: ∀ {i:Nat} (hi:i<l.length) (j:Nat) (h:j<l[i].cells.length),(eL l)[i*2+j]? =some l[i].cells[j]:=by
 induction l with
 |nil=>intro i hi;simp at hi
 |cons p l ih=>
  intro i hi j hj
  show(p.cells++eL l)[i*2+j]? =_
  cases i with
  |zero=>rw[Nat.zero_mul,Nat.zero_add,bE (show j<p.cells.length from hj)];exact ap hj
  |succ i=>
   have h3:p.cells.length=2:=rfl
   rw[bM (by rw[h3];omega),show(i+1)*2+j-p.cells.length=i*2+j by rw[h3];omega]
   exact ih (by simpa using hi) j hj
theorem tW (l:List PR) (c:PR):eL (l++[c])=eL l++c.cells:=by simp[eL]
def Xf (T:TypeId) (a:List PR) (pp:PP) (v:Value) (N:List Item):Prop:= ∃(q:List ER) (c:PR),v=c.val∧N=dy T q∧c.pp=pp∧(gm q c.r∨ ∃x∈a,c.r=x.r)
theorem l8 (a b:List eC):bQ (a++b)=bQ a++bQ b:=List.flatMap_append
end Go.Lx

namespace Go.Proofs.YtgdbfideeeegmaaGreatDoor
open Go.Lx Go.RowKit _root_.Go.Proofs.Tryz
def Ct (w:World) (v:Value) (n:Nat) (p:Nat→Nat→Bool):Prop:= ∀(w1:World) [dA prog w1],Inv w [] w1→ ∀i j:Nat,i<n→j<n→eH prog w1 v [vI (i:Int),vI (j:Int)] [] (fun r O'=>r=.bool (p i j)∧O'=[])
theorem Ct.at {base w:World} {O:List Lx.Item} {v:Value} {n:Nat} {p:Nat→Nat→Bool} (hI:Inv base O w) (h:Ct base v n p):Ct w v n p:=fun w1 _ kY=>h w1 (by simpa using hI.lK.call kY)
theorem Iv (w:World) [dA prog w] (t:TR) (h:tA w t) (n:Nat) (hM:Ki n t.qs) (i j:Nat) (hi:i<n) (hj:j<n):
  cn prog 172 [t.val,vN i,vN j] w fun v N=>v=.bool (gB t.qs i j)∧N=[]:=by
 refine aE func172 F ntmps172 F ?_
 have WU:i<t.qs.length:=by rw[hM.len];exact hi
 have hjq:j<t.qs[i].xs.length:=by rw[hM.row _ (aN WU)];exact hj
 refine aj (ak F (ah (aj (ai F (ai F (ae (dX (i:=i) oz dH F F (aK h.1) WU (by rw[ar];exact WU)) (ae (cS eI F F (aK h.1) (vL WU)) (ai F (ae (dX (i:=j) eI fC F F (aK (h.2 _ (aN WU))) hjq (by rw[ar];exact hjq)) (ae (cS BB F F (aK (h.2 _ (aN WU))) (EV WU hjq)) (ak F (ah (aM (aB ?_))))))))))))))
 refine aT (.bool (gB t.qs i j)) results172 F ?_
 exact⟨[],Sub.z,F,F⟩
set_option maxRecDepth 20000 in
theorem sy (w:World) [dA prog w] (t:TR) (h:tA w t) (n:Nat) (hM:Ki n t.qs):Ct w (.func (.func 172) #[t.val] #[]) n (gB t.qs):=fun w1 _ hI i j hi hj=>
 bU (first:=[t.val]) (args:=[vI (i:Int),vI (j:Int)]) (fG:=[]) Nv (Iv w1 t (h.at hI) n hM i j hi hj)
theorem Iw (w:World) [dA prog w] (lo hi:Nat) (hhi:hi<1000000) (fv:Value) (p:Nat→Bool) (hf: ∀(w1:World) [dA prog w1],Inv w [] w1→ ∀k:Nat,lo≤k→k≤hi→eH prog w1 fv [vI (k:Int)] [] (fun r O'=>r=.bool (p k)∧O'=[])):
  cn prog 176 [vN lo,vN hi,fv] w fun v N=>v=.bool (jA lo hi p)∧N=[]:=by
 refine aE func176 F ntmps176 F ?_
 refine aj (ak F (ah (aR (aj (ai F (ak F (ah (aV ?_))))))))
 refine ek (fun(k:Nat) ρ O=>O=[]∧lo≤k∧jA lo hi p=jA k hi p∧df [(0,vN lo),(1,vN hi),(2,fv),(7,vN k)] ρ) (fun k=>hi+1-k) lo ?_ ?_
 ·exact⟨F,aS _,F,⟨F,F,F,F,trivial⟩⟩
 rintro k ρ O ⟨rfl,hk,lN,hH⟩
 obtain⟨gA,rfl⟩:=hH.elim
 clear hH
 refine aR (aj (ai F (ai F (ae GY (ah (aZ F (fun hc=>?_) (fun hc=>?_)))))))
 ·have agw:k≤hi:=by omega
  have hkh:k≤hi:=by omega
  refine aL (aR (aV (aj (ai F (ai F ?_)))))
  have o9:=(cW (base:=w) (O:=[]) fun w1 hI=>haveI:=ef hI;haveI:=ef hI;hf w1 hI.lK k hk hkh)
  refine aq (eu o9 F F ?_)
  clear o9
  rintro vr O' ⟨N,rfl,rfl,rfl⟩
  refine ah (T.cond F (fun hc=>?_) (fun hc=>?_))
  ·refine aR ?_
   refine bg (ak F (ah (aM (aB ?_))))
   refine aT (.bool true) results176 F ?_
   exact⟨[],Sub.z,au Value.bool (by rw[lN,Bd hkh,hc,Bool.true_or]),F⟩
  refine aL (bg (ai F (ae (dr (a:=k) (b:=1) F F (by omega)) (ak F (ah ?_)))))
  exact⟨k+1,by omega,F,by omega,by rw[lN,Bd hkh,hc,Bool.false_or],⟨F,F,F,F,trivial⟩⟩
 have agx: ¬k≤hi:=by omega
 refine cG ?_
 refine aj (ak F (ah (aM (aB ?_))))
 refine aT (.bool false) results176 F ?_
 exact⟨[],Sub.z,au Value.bool (by rw[lN,y9 (by omega)]),F⟩
theorem abh (w:World) [dA prog w] (n:Nat) (hn:n≤1000) (fa:Value) (pa:Nat→Nat→Bool) (ha:Ct w fa n pa) (za:Nat) (mM:Sl w (aD za) [fa]) (fb:Value) (pb:Nat→Nat→Bool) (hb:Ct w fb n pb) (zb:Nat) (zy:Sl w (aD zb) [fb]) (i j:Nat) (hi:i<n) (hj:j<n) (k:Nat) (hk:k<n) (zi:Nat) (WV:Sl w (aD zi) [vN i]) (zj:Nat) (hzj:Sl w (aD zj) [vN j]):
  cn prog 177 [vN k,(dJ (aD za) 0),(dJ (aD zi) 0),(dJ (aD zb) 0),(dJ (aD zj) 0)] w fun v N=>v=.bool (pa i k&&pb k j)∧N=[]:=by
 refine aE func177 F ntmps177 F ?_
 refine aj (ak F (ah (aj (ae (cS rA F F (aK mM) F) (ae (cS ey F F (aK WV) F) (ai F ?_))))))
 have lB:=(cW (base:=w) (O:=[]) fun w1 hI=>haveI:=ef hI;haveI:=ef hI;ha w1 hI.lK i k hi hk)
 refine aq (eu lB F F ?_)
 clear lB
 rintro vr O' ⟨N,rfl,rfl,rfl⟩
 by_cases h9:pa i k=true
 ·refine ae (aC aI (h9)) ?_
  refine aF (cS rA F F (aK zy) F) (aF aI (aF (cS ey F F (aK hzj) F) ?_))
  have um:=(cW (base:=w) (O:=[]) fun w1 hI=>haveI:=ef hI;haveI:=ef hI;hb w1 hI.lK k j hk hj)
  refine gk F F F (eu um F F ?_)
  clear um
  rintro vr O' ⟨N,rfl,rfl,rfl⟩
  refine ae cm (ak F (ah (aM (aB ?_))))
  refine aT (.bool (pb k j)) results177 F ?_
  exact⟨[],Sub.z,au Value.bool (by first|(rw[h9];rfl)|(rw[Bool.eq_false_iff.2 h9];rfl)|rfl),F⟩
 refine ae (aC aI (Bool.eq_false_iff.2 h9)) (aQ (aQ (aQ (aQ (ae bX (ak F (ah (aM (aB ?_)))))))))
 refine aT (.bool false) results177 F ?_
 exact⟨[],Sub.z,au Value.bool (by first|(rw[h9];rfl)|(rw[Bool.eq_false_iff.2 h9];rfl)|rfl),F⟩
theorem WW (w:World) [dA prog w] (n:Nat) (hn:n≤1000) (fa:Value) (pa:Nat→Nat→Bool) (ha:Ct w fa n pa) (za:Nat) (mM:Sl w (aD za) [fa]) (t:TR) (hT:tA w t) (hM:Ki n t.qs) (zo:Nat) (hzo:Sl w (aD zo) [t.val]) (i j:Nat) (hi:i<n) (hj:j<n) (k:Nat) (hk:k<n) (zi:Nat) (WV:Sl w (aD zi) [vN i]) (zj:Nat) (hzj:Sl w (aD zj) [vN j]):
  cn prog 182 [vN k,(dJ (aD za) 0),(dJ (aD zi) 0),(dJ (aD zo) 0),(dJ (aD zj) 0)] w fun v N=>v=.bool (pa i k&&gB t.qs k j)∧N=[]:=by
 refine aE func182 F ntmps182 F ?_
 refine aj (ak F (ah (aj (ae (cS rA F F (aK mM) F) (ae (cS ey F F (aK WV) F) (ai F ?_))))))
 have lB:=(cW (base:=w) (O:=[]) fun w1 hI=>haveI:=ef hI;haveI:=ef hI;ha w1 hI.lK i k hi hk)
 refine aq (eu lB F F ?_)
 clear lB
 rintro vr O' ⟨N,rfl,rfl,rfl⟩
 by_cases h9:pa i k=true
 ·refine ae (aC aI (h9)) ?_
  refine aF (cS oz F F (aK hzo) F) (aF aI (aF (cS ey F F (aK hzj) F) ?_))
  refine gk F F F (bm Nv (aX fun w1 hI=>(haveI:=ef hI;Iv w1 t (hT.at hI) n hM k j hk hj)) ?_)
  rintro vr O' ⟨N,rfl,rfl,rfl⟩
  refine ae cm (ak F (ah (aM (aB ?_))))
  refine aT (.bool (gB t.qs k j)) results182 F ?_
  exact⟨[],Sub.z,au Value.bool (by first|(rw[h9];rfl)|(rw[Bool.eq_false_iff.2 h9];rfl)|rfl),F⟩
 refine ae (aC aI (Bool.eq_false_iff.2 h9)) (aQ (aQ (aQ (aQ (ae bX (ak F (ah (aM (aB ?_)))))))))
 refine aT (.bool false) results182 F ?_
 exact⟨[],Sub.z,au Value.bool (by first|(rw[h9];rfl)|(rw[Bool.eq_false_iff.2 h9];rfl)|rfl),F⟩
theorem RD (w:World) [dA prog w] (n:Nat) (hn:n≤1000) (fa:Value) (pa:Nat→Nat→Bool) (ha:Ct w fa n pa) (za:Nat) (mM:Sl w (aD za) [fa]) (i:Nat) (hi:i<n) (k:Nat) (hk:k<n) (zi:Nat) (WV:Sl w (aD zi) [vN i]):
  cn prog 184 [vN k,(dJ (aD za) 0),(dJ (aD zi) 0)] w fun v N=>v=.bool (pa i k)∧N=[]:=by
 refine aE func184 F ntmps184 F ?_
 refine aj (ak F (ah (aj (ae (cS rA F F (aK mM) F) (ae (cS ey F F (aK WV) F) (ai F ?_))))))
 have AH:=(cW (base:=w) (O:=[]) fun w1 hI=>haveI:=ef hI;haveI:=ef hI;ha w1 hI.lK i k hi hk)
 refine aq (eu AH F F ?_)
 clear AH
 rintro vr O' ⟨N,rfl,rfl,rfl⟩
 refine ak F (ah (aM (aB ?_)))
 refine aT (.bool (pa i k)) results184 F ?_
 exact⟨[],Sub.z,F,F⟩
theorem Oy (w:World) [dA prog w] (n:Nat) (hn:n≤1000) (fa:Value) (pa:Nat→Nat→Bool) (ha:Ct w fa n pa) (za:Nat) (mM:Sl w (aD za) [fa]) (i:Nat) (hi:i<n) (k:Nat) (hk:k<n) (zi:Nat) (WV:Sl w (aD zi) [vN i]):
  cn prog 186 [vN k,(dJ (aD za) 0),(dJ (aD zi) 0)] w fun v N=>v=.bool (pa k i)∧N=[]:=by
 refine aE func186 F ntmps186 F ?_
 refine aj (ak F (ah (aj (ae (cS rA F F (aK mM) F) (ai F (ae (cS ey F F (aK WV) F) ?_))))))
 have AH:=(cW (base:=w) (O:=[]) fun w1 hI=>haveI:=ef hI;haveI:=ef hI;ha w1 hI.lK k i hk hi)
 refine aq (eu AH F F ?_)
 clear AH
 rintro vr O' ⟨N,rfl,rfl,rfl⟩
 refine ak F (ah (aM (aB ?_)))
 refine aT (.bool (pa k i)) results186 F ?_
 exact⟨[],Sub.z,F,F⟩
theorem WX (w:World) [dA prog w] (i j:Nat):
  cn prog 173 [vN i,vN j] w fun v N=>v=.bool (decide (i=j))∧N=[]:=by
 refine aE func173 F ntmps173 F ?_
 refine aj (ak F (ah (aj (ai F (ai F (ae bK (ak F (ah (aM (aB ?_))))))))))
 refine aT (.bool (decide (((i:Nat):Int)=((j:Nat):Int)))) results173 F ?_
 exact⟨[],Sub.z,au Value.bool (decide_eq_decide.2 (by omega)),F⟩
theorem abi (w:World) [dA prog w] (i j:Nat):
  cn prog 187 [vN i,vN j] w fun v N=>v=.bool false∧N=[]:=by
 refine aE func187 F ntmps187 F ?_
 refine aj (ak F (ah (aj (ak F (ah (aM (aB ?_)))))))
 refine aT (.bool false) results187 F ?_
 exact⟨[],Sub.z,F,F⟩
theorem aeC (w:World) [dA prog w] (n:Nat) (hn:n≤1000) (fa:Value) (pa:Nat→Nat→Bool) (ha:Ct w fa n pa) (za:Nat) (mM:Sl w (aD za) [fa]) (fb:Value) (pb:Nat→Nat→Bool) (hb:Ct w fb n pb) (zb:Nat) (zy:Sl w (aD zb) [fb]) (i j:Nat) (hi:i<n) (hj:j<n):
  cn prog 178 [vN i,vN j,(dJ (aD za) 0),(dJ (aD zb) 0)] w fun v N=>v=.bool (pa i j||pb i j)∧N=[]:=by
 refine aE func178 F ntmps178 F ?_
 refine aj (ak F (ah (aj (ae (cS rA F F (aK mM) F) (ai F (ai F ?_))))))
 have lB:=(cW (base:=w) (O:=[]) fun w1 hI=>haveI:=ef hI;haveI:=ef hI;ha w1 hI.lK i j hi hj)
 refine aq (eu lB F F ?_)
 clear lB
 rintro vr O' ⟨N,rfl,rfl,rfl⟩
 by_cases h9:pa i j=true
 ·refine ae (aC aI (h9)) ?_
  refine aQ (aQ (aQ (aQ (ae cm (ak F (ah (aM (aB ?_))))))))
  refine aT (.bool true) results178 F ?_
  exact⟨[],Sub.z,au Value.bool (by first|(rw[h9];rfl)|(rw[Bool.eq_false_iff.2 h9];rfl)|rfl),F⟩
 refine ae (aC aI (Bool.eq_false_iff.2 h9)) (aF (cS rA F F (aK zy) F) (aF aI (aF aI ?_)))
 have um:=(cW (base:=w) (O:=[]) fun w1 hI=>haveI:=ef hI;haveI:=ef hI;hb w1 hI.lK i j hi hj)
 refine gk F F F (eu um F F ?_)
 clear um
 rintro vr O' ⟨N,rfl,rfl,rfl⟩
 refine ae bX (ak F (ah (aM (aB ?_))))
 refine aT (.bool (pb i j)) results178 F ?_
 exact⟨[],Sub.z,au Value.bool (by first|(rw[h9];rfl)|(rw[Bool.eq_false_iff.2 h9];rfl)|rfl),F⟩
theorem aeD (w:World) [dA prog w] (n:Nat) (hn:n≤1000) (fa:Value) (pa:Nat→Nat→Bool) (ha:Ct w fa n pa) (za:Nat) (mM:Sl w (aD za) [fa]) (fb:Value) (pb:Nat→Nat→Bool) (hb:Ct w fb n pb) (zb:Nat) (zy:Sl w (aD zb) [fb]) (i j:Nat) (hi:i<n) (hj:j<n):
  cn prog 179 [vN i,vN j,(dJ (aD za) 0),(dJ (aD zb) 0)] w fun v N=>v=.bool (pa i j&&pb i j)∧N=[]:=by
 refine aE func179 F ntmps179 F ?_
 refine aj (ak F (ah (aj (ae (cS rA F F (aK mM) F) (ai F (ai F ?_))))))
 have lB:=(cW (base:=w) (O:=[]) fun w1 hI=>haveI:=ef hI;haveI:=ef hI;ha w1 hI.lK i j hi hj)
 refine aq (eu lB F F ?_)
 clear lB
 rintro vr O' ⟨N,rfl,rfl,rfl⟩
 by_cases h9:pa i j=true
 ·refine ae (aC aI (h9)) ?_
  refine aF (cS rA F F (aK zy) F) (aF aI (aF aI ?_))
  have um:=(cW (base:=w) (O:=[]) fun w1 hI=>haveI:=ef hI;haveI:=ef hI;hb w1 hI.lK i j hi hj)
  refine gk F F F (eu um F F ?_)
  clear um
  rintro vr O' ⟨N,rfl,rfl,rfl⟩
  refine ae cm (ak F (ah (aM (aB ?_))))
  refine aT (.bool (pb i j)) results179 F ?_
  exact⟨[],Sub.z,au Value.bool (by first|(rw[h9];rfl)|(rw[Bool.eq_false_iff.2 h9];rfl)|rfl),F⟩
 refine ae (aC aI (Bool.eq_false_iff.2 h9)) (aQ (aQ (aQ (aQ (ae bX (ak F (ah (aM (aB ?_)))))))))
 refine aT (.bool false) results179 F ?_
 exact⟨[],Sub.z,au Value.bool (by first|(rw[h9];rfl)|(rw[Bool.eq_false_iff.2 h9];rfl)|rfl),F⟩
theorem aeE (w:World) [dA prog w] (n:Nat) (hn:n≤1000) (fa:Value) (pa:Nat→Nat→Bool) (ha:Ct w fa n pa) (za:Nat) (mM:Sl w (aD za) [fa]) (i j:Nat) (hi:i<n) (hj:j<n):
  cn prog 180 [vN i,vN j,(dJ (aD za) 0)] w fun v N=>v=.bool (!pa i j)∧N=[]:=by
 refine aE func180 F ntmps180 F ?_
 refine aj (ak F (ah (aj (ae (cS rA F F (aK mM) F) (ai F (ai F ?_))))))
 have qj:=(cW (base:=w) (O:=[]) fun w1 hI=>haveI:=ef hI;haveI:=ef hI;ha w1 hI.lK i j hi hj)
 refine aq (eu qj F F ?_)
 clear qj
 rintro vr O' ⟨N,rfl,rfl,rfl⟩
 refine ae iV (ak F (ah (aM (aB ?_))))
 refine aT (.bool (!(pa i j))) results180 F ?_
 exact⟨[],Sub.z,F,F⟩
theorem aeF (w:World) [dA prog w] (n:Nat) (hn:n≤1000) (fa:Value) (pa:Nat→Nat→Bool) (ha:Ct w fa n pa) (za:Nat) (mM:Sl w (aD za) [fa]) (fb:Value) (pb:Nat→Nat→Bool) (hb:Ct w fb n pb) (zb:Nat) (zy:Sl w (aD zb) [fb]) (i j:Nat) (hi:i<n) (hj:j<n):
  cn prog 175 [vN i,vN j,(dJ (aD za) 0),(dJ (aD zb) 0)] w fun v N=>v=.bool (jA i j fun k=>pa i k&&pb k j)∧N=[]:=by
 refine aE func175 F ntmps175 F ?_
 refine aj (aq (dE (cs:=[(vN i)]) (fun z1=>?_)))
 refine aq (dE (cs:=[(vN j)]) (fun z2=>?_))
 refine ak F (ah (aj (ae (bq 1 ey) (ae (bq 0 ey) (ae (dx) (aq (bm B9 (aX fun w1 hI=>(haveI:=ef hI;Iw w1 i j (by omega) (.func (.func 177) #[] #[(dJ (aD za) 0),(dJ (aD z1) 0),(dJ (aD zb) 0),(dJ (aD z2) 0)]) (fun k=>pa i k&&pb k j) (fun w2 _ kY k h1 h2=>bU (first:=[]) (args:=[vN k]) (fG:=[(dJ (aD za) 0),(dJ (aD z1) 0),(dJ (aD zb) 0),(dJ (aD z2) 0)]) V0 (abh w2 n hn fa pa ((ha.at hI).at kY) za (kY.sl (hI.sl mM)) fb pb ((hb.at hI).at kY) zb (kY.sl (hI.sl zy)) i j hi hj k (by omega) z1 (kY.sl (hI.gS (mG 1))) z2 (kY.sl (hI.gS (mG 0))))))) ?_)))))))
 rintro vr O' ⟨N,rfl,rfl,rfl⟩
 refine ak F (ah (aM (aB ?_)))
 refine aT (.bool (jA i j fun k=>pa i k&&pb k j)) results175 F ?_
 exact⟨[],Sub.z,F,F⟩
theorem abj (w:World) [dA prog w] (n:Nat) (hn:n≤1000) (fa:Value) (pa:Nat→Nat→Bool) (ha:Ct w fa n pa) (za:Nat) (mM:Sl w (aD za) [fa]) (t:TR) (hT:tA w t) (hM:Ki n t.qs) (zo:Nat) (hzo:Sl w (aD zo) [t.val]) (i j:Nat) (hi:i<n) (hj:j<n):
  cn prog 181 [vN i,vN j,(dJ (aD za) 0),(dJ (aD zo) 0)] w fun v N=>v=.bool (decide (i=j)||jA (i+1) j fun k=>pa i k&&gB t.qs k j)∧N=[]:=by
 refine aE func181 F ntmps181 F ?_
 refine aj (aq (dE (cs:=[(vN i)]) (fun z1=>?_)))
 refine aq (dE (cs:=[(vN j)]) (fun z2=>?_))
 refine ak F (ah (aj (ae (bq 1 ey) (ae (bq 0 ey) (ae bK ?_)))))
 by_cases h9:((i:Nat):Int)=((j:Nat):Int)
 ·refine ae (aC aI (ax h9)) ?_
  refine aQ (aQ (aQ (aQ (aQ (ae cm (ak F (ah (aM (aB ?_)))))))))
  refine aT (.bool true) results181 F ?_
  exact⟨[],Sub.z,au Value.bool (by first|(rw[ax (show i=j by omega)];rfl)|(rw[am (show¬(i=j) by omega)];rfl)),F⟩
 refine ae (aC aI (am h9)) (aF (bq 1 ey) (aF (dr (a:=i) (b:=1) F F (by omega)) (aF (bq 0 ey) (aF (dx) ?_))))
 refine gk F F F (bm B9 (aX fun w1 hI=>(haveI:=ef hI;Iw w1 (i+1) j (by omega) (.func (.func 182) #[] #[(dJ (aD za) 0),(dJ (aD z1) 0),(dJ (aD zo) 0),(dJ (aD z2) 0)]) (fun k=>pa i k&&gB t.qs k j) (fun w2 _ kY k h1 h2=>bU (first:=[]) (args:=[vN k]) (fG:=[(dJ (aD za) 0),(dJ (aD z1) 0),(dJ (aD zo) 0),(dJ (aD z2) 0)]) V5 (WW w2 n hn fa pa ((ha.at hI).at kY) za (kY.sl (hI.sl mM)) t ((hT.at hI).at kY) hM zo (kY.sl (hI.sl hzo)) i j hi hj k (by omega) z1 (kY.sl (hI.gS (mG 1))) z2 (kY.sl (hI.gS (mG 0))))))) ?_)
 rintro vr O' ⟨N,rfl,rfl,rfl⟩
 refine ae bX (ak F (ah (aM (aB ?_))))
 refine aT (.bool (jA (i+1) j fun k=>pa i k&&gB t.qs k j)) results181 F ?_
 exact⟨[],Sub.z,au Value.bool (by first|(rw[ax (show i=j by omega)];rfl)|(rw[am (show¬(i=j) by omega)];rfl)),F⟩
theorem WY (w:World) [dA prog w] (n:Nat) (hn:n≤1000) (fa:Value) (pa:Nat→Nat→Bool) (ha:Ct w fa n pa) (za:Nat) (mM:Sl w (aD za) [fa]) (wb:Option Addr) (wc m:Nat) (hm:m<n) (zw:Nat) (hzw:Sl w (aD zw) [.slice wb m wc]) (i j:Nat) (hi:i<n) (hj:j<n):
  cn prog 183 [vN i,vN j,(dJ (aD zw) 0),(dJ (aD za) 0)] w fun v N=>v=.bool (decide (i=j)&&jA i m fun k=>pa i k)∧N=[]:=by
 refine aE func183 F ntmps183 F ?_
 refine aj (aq (dE (cs:=[(vN i)]) (fun z1=>?_)))
 refine ak F (ah (aj (ae (bq 0 ey) (ai F (ae bK ?_)))))
 by_cases h9:((i:Nat):Int)=((j:Nat):Int)
 ·refine ae (aC aI (ax h9)) ?_
  refine aF (bq 0 ey) (aF (cS kC F F (aK hzw) F) (aF (cQ kC) (aF (dx) ?_)))
  refine gk F F F (bm B9 (aX fun w1 hI=>(haveI:=ef hI;Iw w1 i m (by omega) (.func (.func 184) #[] #[(dJ (aD za) 0),(dJ (aD z1) 0)]) (fun k=>pa i k) (fun w2 _ kY k h1 h2=>bU (first:=[]) (args:=[vN k]) (fG:=[(dJ (aD za) 0),(dJ (aD z1) 0)]) V7 (RD w2 n hn fa pa ((ha.at hI).at kY) za (kY.sl (hI.sl mM)) i hi k (by omega) z1 (kY.sl (hI.gS (mG 0))))))) ?_)
  rintro vr O' ⟨N,rfl,rfl,rfl⟩
  refine ae cm (ak F (ah (aM (aB ?_))))
  refine aT (.bool (jA i m fun k=>pa i k)) results183 F ?_
  exact⟨[],Sub.z,au Value.bool (by first|(rw[ax (show i=j by omega)];rfl)|(rw[am (show¬(i=j) by omega)];rfl)),F⟩
 refine ae (aC aI (am h9)) (aQ (aQ (aQ (aQ (aQ (ae bX (ak F (ah (aM (aB ?_))))))))))
 refine aT (.bool false) results183 F ?_
 exact⟨[],Sub.z,au Value.bool (by first|(rw[ax (show i=j by omega)];rfl)|(rw[am (show¬(i=j) by omega)];rfl)),F⟩
theorem RE (w:World) [dA prog w] (n:Nat) (hn:n≤1000) (fa:Value) (pa:Nat→Nat→Bool) (ha:Ct w fa n pa) (za:Nat) (mM:Sl w (aD za) [fa]) (i j:Nat) (hi:i<n) (hj:j<n):
  cn prog 185 [vN i,vN j,(dJ (aD za) 0)] w fun v N=>v=.bool (decide (i=j)&&jA 0 i fun k=>pa k i)∧N=[]:=by
 refine aE func185 F ntmps185 F ?_
 refine aj (aq (dE (cs:=[(vN i)]) (fun z1=>?_)))
 refine ak F (ah (aj (ae (bq 0 ey) (ai F (ae bK ?_)))))
 by_cases h9:((i:Nat):Int)=((j:Nat):Int)
 ·refine ae (aC aI (ax h9)) ?_
  refine aF (bq 0 ey) (aF (dx) ?_)
  refine gk F F F (bm B9 (aX fun w1 hI=>(haveI:=ef hI;Iw w1 0 i (by omega) (.func (.func 186) #[] #[(dJ (aD za) 0),(dJ (aD z1) 0)]) (fun k=>pa k i) (fun w2 _ kY k h1 h2=>bU (first:=[]) (args:=[vN k]) (fG:=[(dJ (aD za) 0),(dJ (aD z1) 0)]) V9 (Oy w2 n hn fa pa ((ha.at hI).at kY) za (kY.sl (hI.sl mM)) i hi k (by omega) z1 (kY.sl (hI.gS (mG 0))))))) ?_)
  rintro vr O' ⟨N,rfl,rfl,rfl⟩
  refine ae cm (ak F (ah (aM (aB ?_))))
  refine aT (.bool (jA 0 i fun k=>pa k i)) results185 F ?_
  exact⟨[],Sub.z,au Value.bool (by first|(rw[ax (show i=j by omega)];rfl)|(rw[am (show¬(i=j) by omega)];rfl)),F⟩
 refine ae (aC aI (am h9)) (aQ (aQ (aQ (ae bX (ak F (ah (aM (aB ?_))))))))
 refine aT (.bool false) results185 F ?_
 exact⟨[],Sub.z,au Value.bool (by first|(rw[ax (show i=j by omega)];rfl)|(rw[am (show¬(i=j) by omega)];rfl)),F⟩
abbrev by8 (u:List Nat):List Value:=pD u
theorem WZ {u:List Nat} {i:Nat} (h:i<u.length):(by8 u)[i]? =some (v8 (u.getD i 0)):=by
 rw[bi,ap h,az,ap h];rfl
theorem RG (w:World) [dA prog w] (x:eC) (hxp:x.p<256) (hxn:x.n<256) (zp:Nat) (hzp:Sl w (aD zp) x.cl) (u:List Nat) (wb:Option Addr) (wc:Nat) (hW:Sl w wb (by8 u)) (Tm: ∀i,i<u.length→u.getD i 0<256) (zw:Nat) (hzw:Sl w (aD zw) [.slice wb u.length wc]) (i j:Nat) (hj:j≤u.length) (aiX:i<1000000):
  cn prog 174 [vN i,vN j,(dJ (aD zp) 0),(dJ (aD zw) 0)] w fun v N=>v=.bool (decide (j=i+1)&&fY x.p x.n (u.getD i 0))∧N=[]:=by
 refine aE func174 F ntmps174 F ?_
 have RH:j=i+1→i<u.length:=fun h=>by omega
 refine aj (ak F (ah (aR ?_)))
 refine fS [(0,0),(1,0),(2,0),(3,0),(4,0),(5,0),(6,0),(7,0),(8,0),(9,0),(10,0),(11,0),(12,0),(13,0),(14,2),(15,2),(16,2)] ?_
 refine aw F aI (aw F aI (aw F (dr (a:=i) (b:=1) F F (by omega)) (aw F bK ?_)))
 by_cases h9:((j:Nat):Int)=((i:Nat):Int)+1
 ·refine aw F (aC aI (ax h9)) ?_
  refine bn F F F (cz dt F eD F F (aK hzp) (by first|omega|(simp;done)|(simp;omega)|(simp_all;done)|(simp_all;omega))) ?_
  refine bn F F F (cS gH F F (aK hzp) F) ?_
  refine bn F F F (cz dt F eD F F (aK hzp) (by first|omega|(simp;done)|(simp;omega)|(simp_all;done)|(simp_all;omega))) ?_
  refine bn F F F (cS gH F F (aK hzp) F) ?_
  refine bn F F F (cT (cs:=[v8 x.p,v8 x.n]) rN ji (by kernel_rfl)) ?_
  refine bn F F F (cS kC F F (aK hzw) F) ?_
  refine bn F F F aI ?_
  refine bn F F F (dX (i:=i) kC eD F F (aK hW) (RH (by omega)) (by rw[ar];exact(RH (by omega)))) ?_
  refine bn F F F (cS gH F F (aK hW) (WZ (RH (by omega)))) ?_
  refine pK F F F F (bm MF (aX fun w1 hI=>(haveI:=ef hI;Zo w1 x.p x.n (u.getD i 0) hxp hxn (Tm i (RH (by omega))))) ?_)
  rintro vr O' ⟨N,rfl,rfl,rfl⟩
  refine cy F F (eK F F cm ?_)
  refine cy F F (eK F F cx ?_)
  refine cA ?_
  refine aM (aB ?_)
  refine aT (.bool (fY x.p x.n (u.getD i 0))) results174 F ?_
  exact⟨[],Sub.z,au Value.bool (by first|(rw[ax (show j=i+1 by omega)];rfl)|(rw[am (show¬(j=i+1) by omega)];rfl)),F⟩
 refine aw F (aC aI (am h9)) (bH F F F (bH F F F (bH F F F (bH F F F (bH F F F (bH F F F (bH F F F ?_)))))))
 refine bH F F F (bH F F F ?_)
 refine tR (by decide) F F F F F ?_
 refine cy F F (eK F F bX ?_)
 refine cy F F (eK F F cx ?_)
 refine cA ?_
 refine aM (aB ?_)
 refine aT (.bool false) results174 F ?_
 exact⟨[],Sub.z,au Value.bool (by first|(rw[ax (show j=i+1 by omega)];rfl)|(rw[am (show¬(j=i+1) by omega)];rfl)),F⟩
def ju (op z4 z6 z7 z9 zX:Nat):Value:=
 if op=2 then .func (.func 173) #[] #[]else if op=3 then .func (.func 174) #[] #[.pointer (aD z4),.pointer (aD z7)]else if op=4 then .func (.func 175) #[] #[.pointer (aD z9),.pointer (aD zX)]else if op=5 then .func (.func 178) #[] #[.pointer (aD z9),.pointer (aD zX)]else if op=6 then .func (.func 179) #[] #[.pointer (aD z9),.pointer (aD zX)]else if op=7 then .func (.func 180) #[] #[.pointer (aD z9)]else if op=8 then .func (.func 181) #[] #[.pointer (aD z9),.pointer (aD z6)]else if op=9 then .func (.func 183) #[] #[.pointer (aD z7),.pointer (aD z9)]else if op=10 then .func (.func 185) #[] #[.pointer (aD z9)]else .func (.func 187) #[] #[]
theorem Kk (w:World) [dA prog w] (op p n ja jb:Nat) (ts:List TR) (ab:Option Addr) (ac:Nat) (hA:Sl w ab (mH ts)) (o TA TB:TR) (wb:Option Addr) (wc m:Nat) (Tp:4≤op→ts[ja]? =some TA) (Tq:(op=4∨op=5∨op=6)→ts[jb]? =some TB):
  cn prog 130 [(.agg #[v8 op,v8 p,v8 n,vN ja,vN jb]),.slice ab ts.length ac,o.val,.slice wb m wc] w fun v N=> ∃z4 z6 z7 z9 zX fa fb,v=ju op z4 z6 z7 z9 zX∧N=[oI z4 72 [v8 op,v8 p,v8 n,vN ja,vN jb],oI z6 142 [(.slice o.b o.qs.length o.c)],oI z7 43 [(.slice wb m wc)],oI z9 186 [fa],oI zX 186 [fb]]∧(4≤op→fa=(.func (.func 172) #[TA.val] #[]))∧((op=4∨op=5∨op=6)→fb=(.func (.func 172) #[TB.val] #[])):=by
 refine aE func130 F ntmps130 F ?_
 let fA:List Value:=[v8 op,v8 p,v8 n,vN ja,vN jb]
 refine aj (aq (dE (cs:=fA) (fun z1=>?_)))
 let gP:Value:=(.slice o.b o.qs.length o.c)
 refine aq (dE (cs:=[gP]) (fun z2=>?_))
 let RI:Value:=(.slice wb m wc)
 refine aq (dE (cs:=[RI]) (fun z3=>?_))
 refine ak F (ah (aj (aq (bs vp (fun z4=>?_)))))
 refine aq (bs vp (fun z5=>?_))
 refine ah ?_
 let eh:Lx.Item:=oI z2 142 [(.slice o.b o.qs.length o.c)]
 let fe:Lx.Item:=oI z3 43 [(.slice wb m wc)]
 let jy:Value:=(.pointer (aD z4))
 let iI:Value:=(.pointer (aD z5))
 let pv:Value:=(.pointer (aD z3))
 let oE:Value:=(.pointer (aD z1))
 let lV:Value:=(.pointer (aD z2))
 let jN:Value:=(.slice ab ts.length ac)
 refine fg (fun ρ O=> ∃fa:Value,Sub [oI z5 186 [.nilFunc],oI z4 186 [fa],fe,eh,oI z1 72 fA] O∧(4≤op→fa=(.func (.func 172) #[TA.val] #[]))∧df [(0,(.agg fA.toArray)),(1,jN),(2,gP),(3,RI),(4,oE),(6,lV),(7,pv),(8,.nilFunc),(9,jy),(10,iI)] ρ) ?_ ?_
 ·refine aR ?_
  refine bg (ae (bt dt eD) (ae (bq 4 gH) (ae kV (ah (aZ F (fun hc=>?_) (fun hc=>?_))))))
  ·have k8:op≥4:=by omega
   refine bg ?_
   refine ai F (ae (bt dt bF) (ae (bq 4 ey) (ae (dX (i:=ja) y8 td F F (aK hA) (List.getElem?_eq_some_iff.1 (Tp (by omega))).1 (by rw[ar];exact(List.getElem?_eq_some_iff.1 (Tp (by omega))).1)) ?_)))
   refine ae (cS oz F F (aK hA) (show(mH ts)[ja]? =some TA.val by rw[bi,Tp (by omega)];rfl)) (ae (dx) ?_)
   refine aq (cq (vs:=[(.func (.func 172) #[(.slice TA.b TA.qs.length TA.c)] #[])]) 1 vp ?_)
   refine ah ?_
   exact⟨(.func (.func 172) #[(.slice TA.b TA.qs.length TA.c)] #[]),(by exact Sub.rf),(fun _=>rfl),(.of F)⟩
  have Dr: ¬op≥4:=by omega
  refine aL ?_
  exact⟨.nilFunc,(by exact Sub.rf),(fun h9=>absurd h9 (by omega)),(.of F)⟩
 rintro ρ O ⟨fa,hS,yA,hH⟩
 obtain⟨gA,rfl⟩:=hH.elim
 clear hH
 refine dc hS ?_
 let fh:Lx.Item:=oI z4 186 [fa]
 refine fg (fun ρ O=> ∃fb:Value,Sub [oI z5 186 [fb],fh,fe,eh,oI z1 72 fA] O∧((op=4∨op=5∨op=6)→fb=(.func (.func 172) #[TB.val] #[]))∧df [(0,(.agg fA.toArray)),(1,jN),(2,gP),(3,RI),(4,oE),(6,lV),(7,pv),(8,.nilFunc),(9,jy),(10,iI)] ρ) ?_ ?_
 ·refine fg (fun ρ O=>Sub [oI z5 186 [.nilFunc],fh,fe,eh,oI z1 72 fA] O∧df [(0,(.agg fA.toArray)),(1,jN),(2,gP),(3,RI),(4,oE),(6,lV),(7,pv),(8,.nilFunc),(9,jy),(10,iI),(32,.bool (decide (op=4∨op=5∨op=6)))] ρ) ?_ ?_
  ·refine bg ?_
   refine ae (bt dt eD) (ae (bq 4 gH) (ae bK ?_))
   by_cases h4:((op:Nat):Int)=4
   ·refine ae (aC aI (ax h4)) ?_
    refine aQ (aQ (aQ (ae cm (ai F (aQ (aQ (aQ (ae cm ?_))))))))
    refine ah ?_
    exact⟨(by exact Sub.rf),⟨F,F,F,F,F,F,F,F,F,F,(au Value.bool (ax (show op=4∨op=5∨op=6 by omega)).symm),trivial⟩⟩
   refine ae (aC aI (am h4)) (aF (bt dt eD) (aF (bq 4 gH) (aF bK (ae bX ?_))))
   by_cases h5:((op:Nat):Int)=5
   ·refine ae (aC aI (ax h5)) ?_
    refine aQ (aQ (aQ (ae cm (ah ?_))))
    exact⟨(by exact Sub.rf),⟨F,F,F,F,F,F,F,F,F,F,(au Value.bool (ax (show op=4∨op=5∨op=6 by omega)).symm),trivial⟩⟩
   refine ae (aC aI (am h5)) (aF (bt dt eD) (aF (bq 4 gH) (aF bK (ae bX (ah ?_)))))
   exact⟨(by exact Sub.rf),⟨F,F,F,F,F,F,F,F,F,F,(au Value.bool (decide_eq_decide.2 (by omega))),trivial⟩⟩
  rintro ρ O ⟨hS,hH⟩
  obtain⟨gA,rfl⟩:=hH.elim
  clear hH
  refine dc hS ?_
  refine aZ F (fun hc=>?_) (fun hc=>?_)
  ·refine bg ?_
   refine ai F (ae (bt dt bF) (ae (bq 4 ey) (ae (dX (i:=jb) y8 td F F (aK hA) (List.getElem?_eq_some_iff.1 (Tq (by omega))).1 (by rw[ar];exact(List.getElem?_eq_some_iff.1 (Tq (by omega))).1)) ?_)))
   refine ae (cS oz F F (aK hA) (show(mH ts)[jb]? =some TB.val by rw[bi,Tq (by omega)];rfl)) (ae (dx) ?_)
   refine aq (cq (vs:=[(.func (.func 172) #[(.slice TB.b TB.qs.length TB.c)] #[])]) 0 vp ?_)
   refine ah ?_
   exact⟨(.func (.func 172) #[(.slice TB.b TB.qs.length TB.c)] #[]),(by exact Sub.rf),(fun _=>rfl),(.of F)⟩
  refine aL ?_
  exact⟨.nilFunc,(by exact Sub.rf),(fun h9=>absurd h9 (by omega)),(.of F)⟩
 rintro ρ O ⟨fb,hS,qf,hH⟩
 obtain⟨gA,rfl⟩:=hH.elim
 clear hH
 refine dc hS ?_
 refine aR (aj (ae (bt dt eD) (ae (bq 4 gH) (ah (aV (aj (ae bK (ak F (ah (aZ F (fun hc=>?_) (fun hc=>?_)))))))))))
 ·have we:op=2:=by omega
  refine aj (ak F (ah (aM (aB ?_))))
  refine aT (.func (.func 173) #[] #[]) results130 F ?_
  let jX:Lx.Item:=oI z5 186 [fb]
  exact⟨[oI z1 72 fA,eh,fe,fh,jX],(by exact Sub.dP [jX,fh,fe,eh] _ (.dP [jX,fh,fe] _ (.dP [jX,fh] _ (.dP [jX] _ (.k .z))))),z1,z2,z3,z4,z5,fa,fb,by unfold ju;rw[aJ (show op=2 by omega)],F,yA,qf⟩
 have Se: ¬op=2:=by omega
 refine aj (ae bK (ak F (ah (aZ F (fun hc=>?_) (fun hc=>?_)))))
 ·have tZ:op=3:=by omega
  refine aj (ae (dx) (ak F (ah (aM (aB ?_)))))
  refine aT (.func (.func 174) #[] #[oE,pv]) results130 F ?_
  let kn:Lx.Item:=oI z5 186 [fb]
  exact⟨[oI z1 72 fA,eh,fe,fh,kn],(by exact Sub.dP [kn,fh,fe,eh] _ (.dP [kn,fh,fe] _ (.dP [kn,fh] _ (.dP [kn] _ (.k .z))))),z1,z2,z3,z4,z5,fa,fb,by unfold ju;rw[aA (show¬op=2 by omega),aJ (show op=3 by omega)],F,yA,qf⟩
 have vZ: ¬op=3:=by omega
 refine aj (ae bK (ak F (ah (aZ F (fun hc=>?_) (fun hc=>?_)))))
 ·have agy:op=4:=by omega
  refine aj (ae (dx) (ak F (ah (aM (aB ?_)))))
  refine aT (.func (.func 175) #[] #[jy,iI]) results130 F ?_
  let lm:Lx.Item:=oI z5 186 [fb]
  exact⟨[oI z1 72 fA,eh,fe,fh,lm],(by exact Sub.dP [lm,fh,fe,eh] _ (.dP [lm,fh,fe] _ (.dP [lm,fh] _ (.dP [lm] _ (.k .z))))),z1,z2,z3,z4,z5,fa,fb,by unfold ju;rw[aA (show¬op=2 by omega),aA (show¬op=3 by omega),aJ (show op=4 by omega)],F,yA,qf⟩
 have agz: ¬op=4:=by omega
 refine aj (ae bK (ak F (ah (aZ F (fun hc=>?_) (fun hc=>?_)))))
 ·have Oo:op=5:=by omega
  refine aj (ae (dx) (ak F (ah (aM (aB ?_)))))
  refine aT (.func (.func 178) #[] #[jy,iI]) results130 F ?_
  let sQ:Lx.Item:=oI z5 186 [fb]
  exact⟨[oI z1 72 fA,eh,fe,fh,sQ],(by exact Sub.dP [sQ,fh,fe,eh] _ (.dP [sQ,fh,fe] _ (.dP [sQ,fh] _ (.dP [sQ] _ (.k .z))))),z1,z2,z3,z4,z5,fa,fb,by unfold ju;rw[aA (show¬op=2 by omega),aA (show¬op=3 by omega),aA (show¬op=4 by omega),aJ (show op=5 by omega)],F,yA,qf⟩
 have aba: ¬op=5:=by omega
 refine aj (ae bK (ak F (ah (aZ F (fun hc=>?_) (fun hc=>?_)))))
 ·have KY:op=6:=by omega
  refine aj (ae (dx) (ak F (ah (aM (aB ?_)))))
  refine aT (.func (.func 179) #[] #[jy,iI]) results130 F ?_
  let se:Lx.Item:=oI z5 186 [fb]
  exact⟨[oI z1 72 fA,eh,fe,fh,se],(by exact Sub.dP [se,fh,fe,eh] _ (.dP [se,fh,fe] _ (.dP [se,fh] _ (.dP [se] _ (.k .z))))),z1,z2,z3,z4,z5,fa,fb,by unfold ju;rw[aA (show¬op=2 by omega),aA (show¬op=3 by omega),aA (show¬op=4 by omega),aA (show¬op=5 by omega),aJ (show op=6 by omega)],F,yA,qf⟩
 have CJ: ¬op=6:=by omega
 refine aj (ae bK (ak F (ah (aZ F (fun hc=>?_) (fun hc=>?_)))))
 ·have agA:op=7:=by omega
  refine aj (ae (dx) (ak F (ah (aM (aB ?_)))))
  refine aT (.func (.func 180) #[] #[jy]) results130 F ?_
  let qM:Lx.Item:=oI z5 186 [fb]
  exact⟨[oI z1 72 fA,eh,fe,fh,qM],(by exact Sub.dP [qM,fh,fe,eh] _ (.dP [qM,fh,fe] _ (.dP [qM,fh] _ (.dP [qM] _ (.k .z))))),z1,z2,z3,z4,z5,fa,fb,by unfold ju;rw[aA (show¬op=2 by omega),aA (show¬op=3 by omega),aA (show¬op=4 by omega),aA (show¬op=5 by omega),aA (show¬op=6 by omega),aJ (show op=7 by omega)],F,yA,qf⟩
 have agB: ¬op=7:=by omega
 refine aj (ae bK (ak F (ah (aZ F (fun hc=>?_) (fun hc=>?_)))))
 ·have Dj:op=8:=by omega
  refine aj (ae (dx) (ak F (ah (aM (aB ?_)))))
  refine aT (.func (.func 181) #[] #[jy,lV]) results130 F ?_
  let wP:Lx.Item:=oI z5 186 [fb]
  exact⟨[oI z1 72 fA,eh,fe,fh,wP],(by exact Sub.dP [wP,fh,fe,eh] _ (.dP [wP,fh,fe] _ (.dP [wP,fh] _ (.dP [wP] _ (.k .z))))),z1,z2,z3,z4,z5,fa,fb,by unfold ju;rw[aA (show¬op=2 by omega),aA (show¬op=3 by omega),aA (show¬op=4 by omega),aA (show¬op=5 by omega),aA (show¬op=6 by omega),aA (show¬op=7 by omega),aJ (show op=8 by omega)],F,yA,qf⟩
 have Ye: ¬op=8:=by omega
 refine aj (ae bK (ak F (ah (aZ F (fun hc=>?_) (fun hc=>?_)))))
 ·have agC:op=9:=by omega
  refine aj (ae (dx) (ak F (ah (aM (aB ?_)))))
  refine aT (.func (.func 183) #[] #[pv,jy]) results130 F ?_
  let wQ:Lx.Item:=oI z5 186 [fb]
  exact⟨[oI z1 72 fA,eh,fe,fh,wQ],(by exact Sub.dP [wQ,fh,fe,eh] _ (.dP [wQ,fh,fe] _ (.dP [wQ,fh] _ (.dP [wQ] _ (.k .z))))),z1,z2,z3,z4,z5,fa,fb,by unfold ju;rw[aA (show¬op=2 by omega),aA (show¬op=3 by omega),aA (show¬op=4 by omega),aA (show¬op=5 by omega),aA (show¬op=6 by omega),aA (show¬op=7 by omega),aA (show¬op=8 by omega),aJ (show op=9 by omega)],F,yA,qf⟩
 have agD: ¬op=9:=by omega
 refine aj (ae bK (ak F (ah (aZ F (fun hc=>?_) (fun hc=>?_)))))
 ·have Yc:op=10:=by omega
  refine aj (ae (dx) (ak F (ah (aM (aB ?_)))))
  refine aT (.func (.func 185) #[] #[jy]) results130 F ?_
  let x9:Lx.Item:=oI z5 186 [fb]
  exact⟨[oI z1 72 fA,eh,fe,fh,x9],(by exact Sub.dP [x9,fh,fe,eh] _ (.dP [x9,fh,fe] _ (.dP [x9,fh] _ (.dP [x9] _ (.k .z))))),z1,z2,z3,z4,z5,fa,fb,by unfold ju;rw[aA (show¬op=2 by omega),aA (show¬op=3 by omega),aA (show¬op=4 by omega),aA (show¬op=5 by omega),aA (show¬op=6 by omega),aA (show¬op=7 by omega),aA (show¬op=8 by omega),aA (show¬op=9 by omega),aJ (show op=10 by omega)],F,yA,qf⟩
 have Yd: ¬op=10:=by omega
 refine aL (aj (ak F (ah (aM (aB ?_)))))
 refine aT (.func (.func 187) #[] #[]) results130 F ?_
 let Co:Lx.Item:=oI z5 186 [fb]
 exact⟨[oI z1 72 fA,eh,fe,fh,Co],(by exact Sub.dP [Co,fh,fe,eh] _ (.dP [Co,fh,fe] _ (.dP [Co,fh] _ (.dP [Co] _ (.k .z))))),z1,z2,z3,z4,z5,fa,fb,by unfold ju;rw[aA (show¬op=2 by omega),aA (show¬op=3 by omega),aA (show¬op=4 by omega),aA (show¬op=5 by omega),aA (show¬op=6 by omega),aA (show¬op=7 by omega),aA (show¬op=8 by omega),aA (show¬op=9 by omega),aA (show¬op=10 by omega)],F,yA,qf⟩
set_option maxRecDepth 20000 in
theorem abk (w:World) [dA prog w] (op p n ja jb:Nat) (hp:p<256) (hn:n<256) (N:Nat) (hN:N≤1000) (TA TB o:TR) (fa fb:Value) (yA:4≤op→fa=(.func (.func 172) #[TA.val] #[])) (qf:(op=4∨op=5∨op=6)→fb=(.func (.func 172) #[TB.val] #[])) (z4 z6 z7 z9 zX:Nat) (u:List Nat) (wb:Option Addr) (wc:Nat) (hz4:Sl w (aD z4) [v8 op,v8 p,v8 n,vN ja,vN jb]) (hz6:Sl w (aD z6) [o.val]) (hz7:Sl w (aD z7) [.slice wb u.length wc]) (Jq:Sl w (aD z9) [fa]) (hzX:Sl w (aD zX) [fb]) (hW:Sl w wb (by8 u)) (hub: ∀i,i<u.length→u.getD i 0<256) (hu:u.length<N)
  (hA:4≤op→tA w TA∧Ki N TA.qs) (hB:(op=4∨op=5∨op=6)→tA w TB∧Ki N TB.qs) (hO:tA w o∧Ki N o.qs) (i j:Nat) (hi:i<N) (hj:j<N) (hju:j≤u.length):
  eH prog w (ju op z4 z6 z7 z9 zX) [vN i,vN j] [] (fun r O'=>r=.bool (uO u ⟨op,p,n,(ja:Int),(jb:Int)⟩ (gB TA.qs) (gB TB.qs) (gB o.qs) i j)∧O'=[]):=by
 unfold ju uO
 by_cases c2:op=2
 ·rw[aJ c2,aJ c2]
  exact bU (first:=[]) (args:=[vN i,vN j]) (fG:=[]) VX (WX w i j)
 rw[aA c2,aA c2]
 by_cases c3:op=3
 ·rw[aJ c3,aJ c3]
  exact bU (first:=[]) (args:=[vN i,vN j]) (fG:=[.pointer (aD z4),.pointer (aD z7)]) VY (RG w ⟨op,p,n,(ja:Int),(jb:Int)⟩ hp hn z4 hz4 u wb wc hW hub z7 hz7 i j hju (by omega))
 rw[aA c3,aA c3]
 by_cases c4:op=4
 ·rw[aJ c4,aJ c4]
  obtain rfl:=yA (by omega)
  obtain rfl:=qf (by omega)
  exact bU (first:=[]) (args:=[vN i,vN j]) (fG:=[.pointer (aD z9),.pointer (aD zX)]) VZ (aeF w N hN _ (gB TA.qs) (sy w TA (hA (by omega)).1 N (hA (by omega)).2) z9 Jq _ (gB TB.qs) (sy w TB (hB (by omega)).1 N (hB (by omega)).2) zX hzX i j hi hj)
 rw[aA c4,aA c4]
 by_cases c5:op=5
 ·rw[aJ c5,aJ c5]
  obtain rfl:=yA (by omega)
  obtain rfl:=qf (by omega)
  exact bU (first:=[]) (args:=[vN i,vN j]) (fG:=[.pointer (aD z9),.pointer (aD zX)]) V1 (aeC w N hN _ (gB TA.qs) (sy w TA (hA (by omega)).1 N (hA (by omega)).2) z9 Jq _ (gB TB.qs) (sy w TB (hB (by omega)).1 N (hB (by omega)).2) zX hzX i j hi hj)
 rw[aA c5,aA c5]
 by_cases c6:op=6
 ·rw[aJ c6,aJ c6]
  obtain rfl:=yA (by omega)
  obtain rfl:=qf (by omega)
  exact bU (first:=[]) (args:=[vN i,vN j]) (fG:=[.pointer (aD z9),.pointer (aD zX)]) V2 (aeD w N hN _ (gB TA.qs) (sy w TA (hA (by omega)).1 N (hA (by omega)).2) z9 Jq _ (gB TB.qs) (sy w TB (hB (by omega)).1 N (hB (by omega)).2) zX hzX i j hi hj)
 rw[aA c6,aA c6]
 by_cases c7:op=7
 ·rw[aJ c7,aJ c7]
  obtain rfl:=yA (by omega)
  exact bU (first:=[]) (args:=[vN i,vN j]) (fG:=[.pointer (aD z9)]) V3 (aeE w N hN _ (gB TA.qs) (sy w TA (hA (by omega)).1 N (hA (by omega)).2) z9 Jq i j hi hj)
 rw[aA c7,aA c7]
 by_cases c8:op=8
 ·rw[aJ c8,aJ c8]
  obtain rfl:=yA (by omega)
  exact bU (first:=[]) (args:=[vN i,vN j]) (fG:=[.pointer (aD z9),.pointer (aD z6)]) V4 (abj w N hN _ (gB TA.qs) (sy w TA (hA (by omega)).1 N (hA (by omega)).2) z9 Jq o hO.1 hO.2 z6 hz6 i j hi hj)
 rw[aA c8,aA c8]
 by_cases c9:op=9
 ·rw[aJ c9,aJ c9]
  obtain rfl:=yA (by omega)
  exact bU (first:=[]) (args:=[vN i,vN j]) (fG:=[.pointer (aD z7),.pointer (aD z9)]) V6 (WY w N hN _ (gB TA.qs) (sy w TA (hA (by omega)).1 N (hA (by omega)).2) z9 Jq wb wc u.length hu z7 hz7 i j hi hj)
 rw[aA c9,aA c9]
 by_cases Tg:op=10
 ·rw[aJ Tg,aJ Tg]
  obtain rfl:=yA (by omega)
  exact bU (first:=[]) (args:=[vN i,vN j]) (fG:=[.pointer (aD z9)]) V8 (RE w N hN _ (gB TA.qs) (sy w TA (hA (by omega)).1 N (hA (by omega)).2) z9 Jq i j hi hj)
 rw[aA Tg,aA Tg]
 exact bU (first:=[]) (args:=[vN i,vN j]) (fG:=[]) V_ (abi w i j)
theorem W0 (w:World) [dA prog w] (n:Nat) (hn:n≤1000):
  cn prog 129 [vN n] w fun v N=> ∃t:TR,v=t.val∧N=t.cg 23 4∧Ki n t.qs:=by
 refine aE func129 F ntmps129 F ?_
 refine aj (ak F (ah (aj (ai F (aq (cX (m:=n) oz dH F F (by omega) (by omega) (fun z1=>?_)))))))
 refine ak F (ah (aR (aj (ai F (ae (cQ oz) (ai F (ah (aV ?_))))))))
 refine ek (fun(s:Nat) ρ O=> ∃(qs:List kj),O=([av (aD z1) n 23 1 ((iX qs)++(List.replicate (n-s) nS))]++(io 4 qs))∧s≤n∧qs.length=s∧(∀q∈qs,q.xs.length=n)∧df [(0,vN n),(2,nS),(3,(.slice (aD z1) n n)),(8,vI (n:Int)),(9,vN s)] ρ) (fun s=>n-s) 0 ?_ ?_
 ·exact⟨[],F,bl _,F,(fun q hq=>by simp at hq),(.of F)⟩
 rintro s ρ O ⟨qs,rfl,hs9,Jh,hqr,hH⟩
 obtain⟨gA,rfl⟩:=hH.elim
 clear hH
 refine aj (ae cU (ah (aR (aZ F (fun hc=>?_) (fun hc=>?_)))))
 ·have lC:s<n:=by omega
  have qT:s<n:=by omega
  refine aL (aR (aV (aj (ai F (ak F (ah (bg (ai F (ai F (ai F (aq (cX (m:=n) eI fC F F (by omega) (by omega) (fun zX=>?_)))))))))))))
  refine ae (dX (i:=s) oz dH F F (dT (mG 1)) qT (by simp;omega)) (aq (n7 (j:=s) (v:=(.slice (aD zX) n n)) (vs:=[(.slice (aD zX) n n)]) (cs:=(iX qs)++(List.replicate (n-s) nS)) 1 dH F F F F F (by simp) F (by first|(simp;omega)|(simp_all;omega)) ?_))
  refine dM (O':=([av (aD zX) n 4 1 (List.replicate n (.bool false)),av (aD z1) n 23 1 ((iX qs)++((.slice (aD zX) n n)::(List.replicate (n-(s+1)) nS)))]++(io 4 qs))) (by rw[show eZ ((iX qs)++(List.replicate (n-s) nS)) s [(.slice (aD zX) n n)]=(iX qs)++((.slice (aD zX) n n)::(List.replicate (n-(s+1)) nS))from by rw[←NQ (by simpa using Jh) qT];simp[eZ]];exact ck (aY _)) ?_
  have hR:av (aD zX) n 4 1 (List.replicate n (.bool false))=kj.qt 4 ⟨(aD zX),n,List.replicate n false⟩:=by simp[kj.qt]
  refine dM (O':=[av (aD z1) n 23 1 ((iX qs)++((.slice (aD zX) n n)::(List.replicate (n-(s+1)) nS)))]++(io 4 (qs++[⟨(aD zX),n,List.replicate n false⟩]))) (by rw[hR];exact Sub.wM [] (by intro a;simp only[cg,io,oI,jU,jV,eZ,cF,du,c_,a6,bj,cD,fV,nF,nE,Br,vI,nS,aD]<;>omega)) ?_
  refine ah (bg (ae (dr (a:=s) (b:=1) F F (by omega)) (ai F (ah ?_))))
  exact⟨s+1,by omega,qs++[⟨(aD zX),n,List.replicate n false⟩],by simp[kj.val],by omega,by simp[Jh],(fun q hq=>by
   rcases List.mem_append.1 hq with hq|hq
   ·exact hqr q hq
   ·rw[List.mem_singleton.1 hq];simp),(.of F)⟩
 have uo: ¬s<n:=by omega
 refine cG ?_
 refine aj (ai F (ak F (ah (aM (aB ?_)))))
 refine aT (.slice (aD z1) n n) results129 F ?_
 have Qz:s=n:=by omega
 have hR0:(iX qs)++(List.replicate (n-s) nS)=iX qs:=by rw[show n-s=0 by omega];simp
 rw[hR0]
 exact⟨[av (aD z1) n 23 1 (iX qs)]++io 4 qs,(by exact Sub.rf),⟨(aD z1),n,qs⟩,by show _=Value.slice _ qs.length _;rw[show qs.length=n by omega],F,⟨by show qs.length=n;omega,hqr⟩⟩
theorem abl (w:World) [dA prog w] (n:Nat):
  cn prog 131 [vN n] w fun v N=> ∃xb:Nat,v=(.func (.func 188) #[] #[(.pointer (aD xb))])∧N=[oI xb 3 [vN n]]:=by
 refine aE func131 F ntmps131 F ?_
 refine aj (aq (dE (cs:=[(vN n)]) (fun n5=>?_)))
 refine ak F (ah (aj (ae (dx) (ak F (ah (aM ?_))))))
 refine aT (.func (.func 188) #[] #[(.pointer (aD n5))]) results131 F ?_
 exact⟨n5,F,F⟩
theorem aeK (base:World) [dA prog base] (xb n:Nat) (hn:n≤1000) (yv:Value) (J:Nat→Nat→List Lx.Item→Prop)
  (hs: ∀(r:Nat) (O:List Lx.Item),1≤r→J r n O→J (r-1) (r-1-1) O)
  (hy: ∀(r j:Nat) (O:List Lx.Item),1≤r→r≤n→r≤j+1→j<n→J r j O→eH prog base yv [vN (r-1),vN j] O (fun v O'=>v=.bool true∧J r (j+1) O')) (O:List Lx.Item) (h0:J n (n-1) O):
  cj prog base 188 [yv,.pointer (aD xb)] ([oI xb 3 [vN n]]++O) (fun _ O'=>J 0 0 O'):=by
 refine aE func188 F ntmps188 F ?_
 refine aj (ae (bq 0 ey) (ae (bL (fI F F (by omega)) (v':=vI ((n:Int)-1)) F) (ak F (ah (aV ?_)))))
 let eh:List Lx.Item:=[oI xb 3 [vN n]]
 refine ek (fun(r:Nat) ρ O=> ∃(O1:List Lx.Item),O=(eh++O1)∧r≤n∧J r (r-1) O1∧df [(0,yv),(1,(.pointer (aD xb))),(3,vI ((r:Int)-1))] ρ) (fun r=>r) n ?_ ?_
 ·exact⟨O,F,aS _,h0,⟨F,F,F,trivial⟩⟩
 rintro r ρ O ⟨O1,rfl,hrn,hJ,hH⟩
 obtain⟨gA,rfl⟩:=hH.elim
 clear hH
 refine aR (aj (ai F (ae kV (ah (aZ (p:=1≤r) (au Value.bool (decide_eq_decide.2 (by omega))) (fun hc=>?_) (fun hc=>?_))))))
 ·have hr1:1≤r:=hc
  refine aL (aR (aV (aj (ae (bL aI (v':=vN (r-1)) (au (Value.int .i64) (by omega))) (ak F (ah (aV ?_)))))))
  refine ek (fun(j:Nat) ρ O=> ∃(O2:List Lx.Item),O=(eh++O2)∧r≤j+1∧j≤n∧J r j O2∧df [(0,yv),(1,(.pointer (aD xb))),(3,vI ((r:Int)-1)),(4,vN j)] ρ) (fun j=>n-j) (r-1) ?_ ?_
  ·exact⟨O1,F,by omega,by omega,hJ,⟨F,F,F,F,trivial⟩⟩
  rintro j ρ O ⟨O2,rfl,hrj,hjn,Pk,hH⟩
  obtain⟨gA,rfl⟩:=hH.elim
  clear hH
  refine aR (aj (ai F (ae (bq 0 ey) (ae cU (ah (aZ F (fun hc=>?_) (fun hc=>?_)))))))
  ·have o_:j<n:=by omega
   have aeL:j<n:=by omega
   refine aL (aR (aV (aj (ai F (ae (bL aI (v':=vN (r-1)) (au (Value.int .i64) (by omega))) (ai F ?_))))))
   have mx:=eH.under (B:=eh) (O:=(eh++O2)) (hy r j O2 hr1 hrn hrj aeL Pk) (gq [])
   refine aq (eu mx F F ?_)
   clear mx
   rintro vr O' ⟨A1,rfl,rfl,hJ3⟩
   refine dM (O':=(eh++A1)) (gq []) ?_
   refine ae iV (ah (a8 (aL (bg (ai F (ae (dr (a:=j) (b:=1) F F (by omega)) (ak F (ah ?_))))))))
   exact⟨j+1,by omega,A1,F,by omega,by omega,hJ3,⟨F,F,F,F,trivial⟩⟩
  have wq: ¬j<n:=by omega
  refine cG ?_
  refine bg (ai F (ae (bL (fI F F (by omega)) (v':=vI (((r-1:Nat):Int)-1)) (au (Value.int .i64) (by omega))) (ak F (ah ?_))))
  exact⟨r-1,by omega,O2,F,by omega,(by rw[show j=n by omega]at Pk;exact hs r O2 hr1 Pk),⟨F,F,F,trivial⟩⟩
 have FP:r=0:=by omega
 refine cG ?_
 refine aB ?_
 refine rG.zero results188 ?_
 subst FP
 exact⟨O1,gq eh,hJ⟩
theorem Km (op z4 z6 z7 z9 zX:Nat):([ju op z4 z6 z7 z9 zX].all fF)=true:=by
 unfold ju
 repeat' split
 all_goals rfl
theorem EY (op z4 z6 z7 z9 zX:Nat):(ju op z4 z6 z7 z9 zX).cells= #[ju op z4 z6 z7 z9 zX]:=by
 unfold ju
 repeat' split
 all_goals rfl
theorem abn (w:World) [dA prog w] (eb:Option Addr) (ec:Nat) (e:List eC) (hE:Sl w eb (bQ e)) (hT:Oz e) (Ks:0<e.length) (uV:e.length≤1000) (u:List Nat) (wb:Option Addr) (wc:Nat) (hW:Sl w wb (pD u)) (hub: ∀i,i<u.length→u.getD i 0<256) (hul:u.length≤900):
  cn prog 93 [.slice eb e.length ec,.slice wb u.length wc] w fun v N=> ∃t:TR,v=t.val∧N=t.cg 23 4∧RC (u.length+1) t (n_ u (To e (e.length-1))):=by
 refine aE func93 F ntmps93 F ?_
 refine aj (ak F (ah (aj (ak F (ah (aR (aj (ai F (ae (cQ dR) (ai F (ah (aV (T.fq 142 1 ?_)))))))))))))
 refine ek (fun(k:Nat) ρ O=> ∃(ab:Option Addr) (ac:Nat) (ts:List TR),O=([av ab ac 142 1 (mH ts)]++(nl 23 4 ts))∧k≤e.length∧ts.length=k∧OA e u ts∧df [(0,(.slice eb e.length ec)),(1,(.slice wb u.length wc)),(4,nS),(5,(.slice ab ts.length ac)),(12,(.slice eb e.length ec)),(13,vI (e.length:Int)),(14,vN k)] ρ) (fun k=>e.length-k) 0 ?_ ?_
 ·exact⟨none,0,[],F,bl _,F,(fun k t h=>by simp at h),(.of F)⟩
 rintro k ρ O ⟨ab,ac,ts,rfl,hk,L9,lj,hH⟩
 obtain⟨gA,rfl⟩:=hH.elim
 clear hH
 refine aj (ae cU (ah (aR (aZ F (fun hc=>?_) (fun hc=>?_)))))
 ·have oN:k<e.length:=by omega
  have qj:k<e.length:=by omega
  obtain⟨ja,jb,hja,hjb,RL,RM⟩:=hT.kid k qj
  obtain⟨op,p,n,BN⟩: ∃op p n,e[k]=⟨op,p,n,(ja:Int),(jb:Int)⟩:=⟨e[k].op,e[k].p,e[k].n,by rw[←hja,←hjb]⟩
  obtain⟨hp,hn⟩:=hT.byte _ (aN qj)
  rw[BN]at RL RM hp hn
  have RL:4≤op→ja<k:=RL
  have RM:(op=4∨op=5∨op=6)→jb<k:=RM
  have hp:p<256:=hp
  have hn:n<256:=hn
  obtain⟨TA,Tp⟩: ∃TA,4≤op→ts[ja]? =some TA:=by
   by_cases c:4≤op
   ·exact⟨ts[ja]'(by have:=RL c;omega),fun _=>ap _⟩
   ·exact⟨⟨none,0,[]⟩,fun h=>absurd h c⟩
  obtain⟨TB,Tq⟩: ∃TB,(op=4∨op=5∨op=6)→ts[jb]? =some TB:=by
   by_cases c:op=4∨op=5∨op=6
   ·exact⟨ts[jb]'(by have:=RM c;omega),fun _=>ap _⟩
   ·exact⟨⟨none,0,[]⟩,fun h=>absurd h c⟩
  refine aL (aR (aV (aj (ae (eA (i:=k) dR cJ F F (aK hE) qj (by rw[cB];omega)) (ae (eW (vs:=[v8 op,v8 p,v8 n,vN ja,vN jb]) dt F cJ F F (bu _) (aK hE) (by have h9:=kP qj;rw[BN]at h9;exact h9)) (aq (bs cJ (fun z1=>?_))))))))
  refine aq (cq (vs:=[v8 op,v8 p,v8 n,vN ja,vN jb]) 0 cJ ?_)
  refine ah (aj (ai F (ae (cQ kC) (ae (dr (a:=u.length) (b:=1) F F (by omega)) (aq (bm VQ (aX fun w1 hI=>(haveI:=ef hI;W0 w1 (u.length+1) (by omega))) ?_))))))
  rintro vr O' ⟨N,rfl,o,rfl,rfl,hSq⟩
  have O_:=hSq.len
  refine dM (O':=([av o.b o.c 23 1 (iX o.qs),oI z1 72 [v8 op,v8 p,v8 n,vN ja,vN jb],av ab ac 142 1 (mH ts)]++((io 4 o.qs)++(nl 23 4 ts)))) (by exact fK [av o.b o.c 23 1 (iX o.qs)] _ (io 4 o.qs) (nl 23 4 ts)) ?_
  refine aq (bs td (fun z2=>?_))
  refine aq (cq (vs:=[(.slice o.b o.qs.length o.c)]) 0 td ?_)
  refine ah (aj (ae (eN 2 dt cJ) (ai F (ae (bq 0 oz) (ai F (aq (bm VR (aX fun w1 hI=>(haveI:=ef hI;Kk w1 op p n ja jb ts ab ac (hI.gV (mG 3)) o TA TB wb wc u.length Tp Tq)) ?_)))))))
  rintro vr O' ⟨N,rfl,z4,z6,z7,z9,zX,fa,fb,rfl,rfl,yA,qf⟩
  refine aq (bs vp (fun z3=>?_))
  refine aq (u6 (v:=(ju op z4 z6 z7 z9 zX)) (vs:=[(ju op z4 z6 z7 z9 zX)]) 0 vp F F (EY op z4 z6 z7 z9 zX) F (Km op z4 z6 z7 z9 zX) F (by simp[eZ]) ?_)
  refine ah (aR (aj (ae (bq 6 oz) (ae (cQ oz) (aq (bm VS (aX fun w1 hI=>(haveI:=ef hI;abl w1 o.qs.length)) ?_))))))
  rintro vr O' ⟨N,rfl,xb,rfl,rfl⟩
  refine ah (aV ?_)
  refine T.rangeFunc (first:=[]) (fG:=[(.pointer (aD xb))]) F Wa (fun yl yq Ww=>?_)
  let fe:Lx.Item:=oI z6 142 [(.slice o.b o.qs.length o.c)]
  let fh:Lx.Item:=oI z2 142 [(.slice o.b o.qs.length o.c)]
  let jy:List Value:=[(.slice wb u.length wc)]
  refine cj.mono (cj.sub (O':=oI xb 3 [vN o.qs.length]::(dY yl (lp yq none)::([oI z3 186 [(ju op z4 z6 z7 z9 zX)],oI z4 72 [v8 op,v8 p,v8 n,vN ja,vN jb],fe,oI z7 43 jy,oI z9 186 [fa],oI zX 186 [fb],fh,av o.b o.c 23 1 (iX o.qs),oI z1 72 [v8 op,v8 p,v8 n,vN ja,vN jb],av ab ac 142 1 (mH ts)]++((io 4 o.qs)++(nl 23 4 ts))))) (by exact Sub.dP [dY yl (lp yq none)] _ (.k (.k (.k (.k (.k (.k (.k (.k (.k (.k (.k .rf)))))))))))) (aeK w xb o.qs.length (by omega) (.func (.yield yl) #[] #[]) (fun r9 j9 O=> ∃(qs:List kj),O=dY yl (lp yq none)::([oI z3 186 [(ju op z4 z6 z7 z9 zX)],oI z4 72 [v8 op,v8 p,v8 n,vN ja,vN jb],fe,oI z7 43 jy,oI z9 186 [fa],oI zX 186 [fb],fh,av o.b o.c 23 1 (iX qs),oI z1 72 [v8 op,v8 p,v8 n,vN ja,vN jb],av ab ac 142 1 (mH ts)]++((io 4 qs)++(nl 23 4 ts)))∧Ki (u.length+1) qs∧EX (u.length+1) (n_ u (To e k)) r9 j9 qs) (fun r9 O9 h1 hJ9=>by
    obtain⟨qs,rfl,aeM,hO9⟩:=hJ9
    exact⟨qs,F,aeM,EX.row (by rw[O_]at hO9;exact hO9) h1⟩) ?_ _ ?_)) ?_
  ·intro r9 j9 O h1r hrN hrj hjN hJ
   obtain⟨qs,rfl,GK,hOw⟩:=hJ
   refine eH.yield Ww F F ?_
   have hqn:=GK.len
   have RN:r9-1<qs.length:=by omega
   have qy:=GK.row _ (aN RN)
   have Bp:j9<qs[r9-1].xs.length:=by omega
   have hqo:qs.length=o.qs.length:=by omega
   refine aj (ak F (ah (bg (ak F (ah (aV ?_))))))
   let fA:List Lx.Item:=[oI z3 186 [(ju op z4 z6 z7 z9 zX)],oI z4 72 [v8 op,v8 p,v8 n,vN ja,vN jb],fe,oI z7 43 [(.slice wb u.length wc)],oI z9 186 [fa],oI zX 186 [fb],oI z2 142 [(.slice o.b o.qs.length o.c)],av o.b o.c 23 1 (iX qs),oI z1 72 [v8 op,v8 p,v8 n,vN ja,vN jb],av ab ac 142 1 (mH ts)]
   refine dc (Kl RN fA (nl 23 4 ts)) ?_
   refine fS [(0,0),(1,0),(2,0),(3,0),(4,0),(5,0),(6,0),(7,0),(8,1),(9,0),(10,2)] ?_
   refine aw F (bq 7 oz) (aw F aI (aw F (dX (i:=(r9-1)) oz dH F F (dT (mG 8)) (by omega) (by rw[ar];exact RN)) (aw F (cS eI F F (dT (mG 8)) (vL RN)) (aw F aI (aw F (bq 1 rA) (aw F aI (aw F aI ?_)))))))
   have nK:=(cW (base:=w) (O:=([av (qs[r9-1].b) (qs[r9-1].c) 4 1 (cI qs[r9-1].xs),oI z3 186 [(ju op z4 z6 z7 z9 zX)],oI z4 72 [v8 op,v8 p,v8 n,vN ja,vN jb],fe,oI z7 43 jy,oI z9 186 [fa],oI zX 186 [fb],fh,av o.b o.c 23 1 (iX qs),oI z1 72 [v8 op,v8 p,v8 n,vN ja,vN jb],av ab ac 142 1 (mH ts)]++((io 4 (qs.eraseIdx (r9-1)))++(nl 23 4 ts)))) fun w1 hI=>haveI:=ef hI;haveI:=ef hI;abk w1 op p n ja jb hp hn (u.length+1) (by omega) TA TB ⟨o.b,o.c,qs⟩ fa fb yA qf z4 z6 z7 z9 zX u wb wc (hI.gS (mG 2)) (by have h9:=(hI.gS (mG 3));rw[←hqo]at h9;exact h9) (hI.gS (mG 4)) (hI.gS (mG 5)) (hI.gS (mG 6)) (hI.sl hW) hub (by omega) (fun h=>⟨tA.of (L:=23) (E:=4) hI (fun it h9=>ao _ (ao _ (EW (bJ (Tp h)) it h9))),(lj _ _ (Tp h)).1⟩) (fun h=>⟨tA.of (L:=23) (E:=4) hI (fun it h9=>ao _ (ao _ (EW (bJ (Tq h)) it h9))),(lj _ _ (Tq h)).1⟩) ⟨tA.of (t:=⟨o.b,o.c,qs⟩) (L:=23) (E:=4) hI (fun it h9=>(List.mem_cons.1 h9).elim (fun e9=>by rw[e9];exact bJ (i:=8) F) (fun h9=>(tB RN fA (nl 23 4 ts)).mem_iff.1 (ao _ (aO _ h9)))),GK⟩ (r9-1) j9 (by omega) (by omega) (by omega))
   refine cH F F (eu nK F F ?_)
   clear nK
   rintro vr O' ⟨N,rfl,rfl,rfl⟩
   refine⟨by exact Sub.rf,?_⟩
   refine aw F (dX (i:=j9) eI fC F F (dT (mG 0)) Bp (by rw[ar];exact Bp)) ?_
   refine cy F F (n7 (j:=j9) (v:=.bool (uO u ⟨op,p,n,(ja:Int),(jb:Int)⟩ (gB TA.qs) (gB TB.qs) (gB qs) (r9-1) j9)) (vs:=[(.bool (uO u ⟨op,p,n,(ja:Int),(jb:Int)⟩ (gB TA.qs) (gB TB.qs) (gB qs) (r9-1) j9))]) (cs:=cI qs[r9-1].xs) 0 fC F F F F F (by simp) F (by rw[ar];exact Bp) ?_)
   let eh:List Lx.Item:=[av (qs[r9-1].b) (qs[r9-1].c) 4 1 (cI (qs[r9-1].xs.set j9 (uO u ⟨op,p,n,(ja:Int),(jb:Int)⟩ (gB TA.qs) (gB TB.qs) (gB qs) (r9-1) j9))),oI z3 186 [(ju op z4 z6 z7 z9 zX)],oI z4 72 [v8 op,v8 p,v8 n,vN ja,vN jb],oI z6 142 [(.slice o.b o.qs.length o.c)],oI z7 43 [(.slice wb u.length wc)],oI z9 186 [fa],oI zX 186 [fb],oI z2 142 [(.slice o.b o.qs.length o.c)],av o.b o.c 23 1 (iX qs),oI z1 72 [v8 op,v8 p,v8 n,vN ja,vN jb],av ab ac 142 1 (mH ts)]
   refine eR (O':=(eh++((io 4 (qs.eraseIdx (r9-1)))++(nl 23 4 ts)))) (by rw[show eZ (cI qs[r9-1].xs) j9 [(.bool (uO u ⟨op,p,n,(ja:Int),(jb:Int)⟩ (gB TA.qs) (gB TB.qs) (gB qs) (r9-1) j9))]=cI (qs[r9-1].xs.set j9 (uO u ⟨op,p,n,(ja:Int),(jb:Int)⟩ (gB TA.qs) (gB TB.qs) (gB qs) (r9-1) j9))from(by simp[eZ])];exact ck (aY _)) ?_
   refine eR (O':=eh++((io 4 (qs.eraseIdx (r9-1)))++(nl 23 4 ts))) (by exact Sub.rf) ?_
   refine eR (O':=fA++((io 4 (qs.set (r9-1) ⟨qs[r9-1].b,qs[r9-1].c,qs[r9-1].xs.set j9 (uO u ⟨op,p,n,(ja:Int),(jb:Int)⟩ (gB TA.qs) (gB TB.qs) (gB qs) (r9-1) j9)⟩))++(nl 23 4 ts))) (OD RN fA (nl 23 4 ts) ⟨qs[r9-1].b,qs[r9-1].c,qs[r9-1].xs.set j9 (uO u ⟨op,p,n,(ja:Int),(jb:Int)⟩ (gB TA.qs) (gB TB.qs) (gB qs) (r9-1) j9)⟩) ?_
   refine eR (O':=[oI z3 186 [(ju op z4 z6 z7 z9 zX)],oI z4 72 [v8 op,v8 p,v8 n,vN ja,vN jb],fe,oI z7 43 jy,oI z9 186 [fa],oI zX 186 [fb],fh,av o.b o.c 23 1 (iX (qs.set (r9-1) ⟨qs[r9-1].b,qs[r9-1].c,qs[r9-1].xs.set j9 (uO u ⟨op,p,n,(ja:Int),(jb:Int)⟩ (gB TA.qs) (gB TB.qs) (gB qs) (r9-1) j9)⟩)),oI z1 72 [v8 op,v8 p,v8 n,vN ja,vN jb],av ab ac 142 1 (mH ts)]++((io 4 (qs.set (r9-1) ⟨qs[r9-1].b,qs[r9-1].c,qs[r9-1].xs.set j9 (uO u ⟨op,p,n,(ja:Int),(jb:Int)⟩ (gB TA.qs) (gB TB.qs) (gB qs) (r9-1) j9)⟩))++(nl 23 4 ts))) (by rw[GJ RN (by simp)];exact Sub.rf) ?_
   refine cA ?_
   exact⟨F,qs.set (r9-1) ⟨qs[r9-1].b,qs[r9-1].c,qs[r9-1].xs.set j9 (uO u ⟨op,p,n,(ja:Int),(jb:Int)⟩ (gB TA.qs) (gB TB.qs) (gB qs) (r9-1) j9)⟩,F,GK.set RN (by simp;omega),hOw.step RN h1r Bp (RK hT lj qj (by rw[ap qj,BN]) F F Tp Tq (by omega) (by omega) (fun a h1 h2=>hOw a j9 h2 (by omega) (.inl (by omega))))⟩
  ·exact⟨o.qs,F,hSq,fun a b h2 h3 h4=>by omega⟩
  rintro v O' ⟨qs,rfl,GK,hOw⟩
  refine⟨none,_,F,?_⟩
  have aeN:qs.length=o.qs.length:=by rw[GK.len,O_]
  refine bg (ai F (ae (bq 6 oz) (aq (cR (v:=(.slice o.b o.qs.length o.c)) y8 td F F F (fun z4=>?_)))))
  refine aq (dq 10 y8 y8 td F F F F (by rw[ar,Nat.mul_one]) (by decide) (Src.row (j:=0) F (by simp)) (by simp[fF]) (by omega) (by decide) (by decide) (fun z5 Jv=>?_))
  refine ak F ?_
  refine dM (O':=[av z5 Jv 142 1 ((mH ts)++[(.slice o.b o.qs.length o.c)]),av o.b o.c 23 1 (iX qs)]++((io 4 qs)++(nl 23 4 ts))) (by exact Sub.d (.d (.d (.d (.d (.d (.d (.d (.dP [av o.b o.c 23 1 (iX qs),oI z1 72 [v8 op,v8 p,v8 n,vN ja,vN jb]] _ (.k (.d .rf))))))))))) ?_
  refine dM (O':=[av z5 Jv 142 1 (mH (ts++[⟨o.b,o.c,qs⟩]))]++(nl 23 4 (ts++[⟨o.b,o.c,qs⟩]))) (by
   rw[Kj,show mH (ts++[⟨o.b,o.c,qs⟩])=(mH ts)++[(.slice o.b o.qs.length o.c)] by rw[←aeN];simp[TR.val]]
   exact OE _ _ _ _) ?_
  refine ah (bg (ae (dr (a:=k) (b:=1) F F (by omega)) (ai F (ah ?_))))
  have hl9:(ts++[(⟨o.b,o.c,qs⟩:TR)]).length=ts.length+1:=by simp
  exact⟨k+1,by omega,z5,Jv,ts++[⟨o.b,o.c,qs⟩],F,by omega,by omega,lj.snoc (by rw[L9];exact⟨GK,fun a b h1 h2=>hOw a b h1 h2 (.inl (bl _))⟩),⟨F,F,F,(au (fun n9:Nat=>Value.slice z5 n9 Jv) hl9.symm),F,F,F,trivial⟩⟩
 have GV: ¬k<e.length:=by omega
 refine cG ?_
 refine aR ?_
 obtain⟨t,ht⟩: ∃t,ts[ts.length-1]? =some t:=⟨_,ap (by omega)⟩
 refine bg (ai F (ai F (ae (cQ y8) (ae (bL (fI F F (by omega)) (v':=vN (ts.length-1)) (au (Value.int .i64) (by omega))) ?_))))
 refine ae (dX (i:=(ts.length-1)) y8 td F F (dT (mG 0)) (List.getElem?_eq_some_iff.1 ht).1 (by rw[ar];exact(List.getElem?_eq_some_iff.1 ht).1)) (ae (cS oz F F (dT (mG 0)) (show(mH ts)[ts.length-1]? =some t.val by rw[bi,ht];rfl)) (ak F ?_))
 refine ah (aM (aB ?_))
 refine aT (.slice t.b t.qs.length t.c) results93 F ?_
 exact⟨t.cg 23 4,OC (bJ ht) [av ab ac 142 1 (mH ts)],t,F,F,by have h9:=lj _ _ ht;rw[show ts.length-1=e.length-1 by omega]at h9;exact h9⟩
def Po (vars:Int) (l:List Nat):Nat:=if 64<l.length then 4 else if l.any (fun x=>decide (2^vars.toNat≤x))=true then 1 else 0
def mE (vars:Int) (e:List eC) (l:List Nat):Nat:=if iz vars e≠0 then iz vars e else Po vars l
def mV (vars:Int) (e:List eC) (l:List Nat):Bool:=if mE vars e l=0 then n_ l (ui e) 0 l.length else false
theorem RP {vars:Int} {e:List eC} {l:List Nat} (h:mE vars e l=0):iz vars e=0∧l.length≤64∧l.any (fun x=>decide (2^vars.toNat≤x))=false:=by
 unfold mE at h
 split at h
 ·rename_i c;exact absurd h c
 ·rename_i c
  unfold Po at h
  split at h
  ·cases h
  ·split at h
   ·cases h
   ·rename_i c2 c3
    exact⟨by omega,by omega,by simpa using c3⟩
theorem Ix (w:World) [dA prog w] (vars:Int) (Fs:0≤vars) (Kt:vars≤6) (zv:Nat) (Xy:Sl w (aD zv) [vI vars]) (x:Nat) (hx:x<256):
  cn prog 92 [v8 x,(dJ (aD zv) 0)] w fun v N=>v=.bool (decide (2^vars.toNat≤x))∧N=[]:=by
 refine aE func92 F ntmps92 F ?_
 refine aj (ak F (ah (aj (ai F (ae (fU gH ey F (gD ⟨by omega,by omega⟩)) (ae (cS ey F F (aK Xy) F) (ae (nA (v:=vars.toNat) F (by show Value.int _ vars=_;rw[cM Fs]) (by omega)) (ae kV (ak F (ah (aM (aB ?_))))))))))))
 refine aT (.bool (decide (((x:Nat):Int)≥(((2^vars.toNat):Nat):Int)))) results92 F ?_
 exact⟨[],Sub.z,au Value.bool (decide_eq_decide.2 (by omega)),F⟩
theorem OF (w:World) [dA prog w] (eb:Option Addr) (ec:Nat) (e:List eC) (hE:Sl w eb (bQ e)) (uV:e.length<4611686018427387904) (mw: ∀x∈e,x.p<256∧x.n<256) (vars:Int) (wb:Option Addr) (wc:Nat) (l:List Nat) (hW:Sl w wb (pD l)) (Kn:l.length<9223372036854775807) (Cn: ∀x∈l,x<256) (h9:mE vars e l≠0):
  cn prog 57 [(.slice eb e.length ec),vI vars,(.slice wb l.length wc)] w fun v N=>v=.tuple #[nS,vN (mE vars e l)]∧N=[]:=by
 refine aE func57 F ntmps57 F ?_
 refine aj (aq (dE (cs:=[(vI vars)]) (fun z1=>?_)))
 refine ak F (ak F (ah (aR (aj (ai F (ae (bq 0 ey) (aq (bm HF (aX fun w1 hI=>(haveI:=ef hI;ux w1 eb ec e (hI.sl hE) uV mw vars)) ?_))))))))
 rintro vr O' ⟨N,rfl,rfl,rfl⟩
 refine ak F (ah (aj (ai F (ae dW (ah (aZ F (fun hc=>?_) (fun hc=>?_)))))))
 ·have k8:(iz vars e)≠0:=by omega
  refine aj (ai F (ak F (ak F (ah (aM (aB ?_))))))
  refine de nS (vN (iz vars e)) results57 F F ?_
  exact⟨[],Sub.z,by unfold mE;rw[aJ (by omega)],F⟩
 have Dr: ¬(iz vars e)≠0:=by omega
 refine aL (aR (aV (aR ?_)))
 have h0:iz vars e=0:=by omega
 obtain⟨Fs,Kt,Ks,aeO,_⟩:=nf h0
 refine bg (ai F (ae (cQ kC) (ae ij (ak F (ah (aZ F (fun hc=>?_) (fun hc=>?_)))))))
 ·have oN:l.length>64:=by omega
  refine aj (ak F (ak F (ah (aM (aB ?_)))))
  refine de nS (vI 4) results57 F F ?_
  exact⟨[],Sub.z,by unfold mE Po;rw[aA (by omega),aJ (by omega)];rfl,F⟩
 have GV: ¬l.length>64:=by omega
 refine aR ?_
 have h19:(l.any fun x=>decide (2^vars.toNat≤x))=true:=by
  cases hb:(l.any fun x=>decide (2^vars.toNat≤x))with
  |true=>rfl
  |false=>exact absurd (show mE vars e l=0 by unfold mE Po;rw[aA (by omega),aA (by omega),hb];rfl) h9
 refine bg (ai F (ae (dx) ?_))
 refine aq (bm HG (aX fun w1 hI=>(haveI:=ef hI;(show cn _ _ _ _ (fun v N=>v=Value.bool true∧N=[])from by
   have h8:=nk w1 wb wc l (hI.sl hW) Kn (.func (.func 92) #[] #[(dJ (aD z1) 0)]) (fun x=>decide (2^vars.toNat≤x)) [] (fun x hx=>bU (first:=[]) (args:=[v8 x]) (fG:=[(dJ (aD z1) 0)]) S8 (Ix w1 vars Fs Kt z1 (hI.gS (mG 0)) x (Cn x hx)))
   rw[h19]at h8
   exact h8))) ?_)
 rintro vr O' ⟨N,rfl,rfl,rfl⟩
 refine ak F (ah ?_)
 refine b_ ?_
 refine aj (ak F (ak F (ah (aM (aB ?_)))))
 refine de nS (vI 1) results57 F F ?_
 exact⟨[],Sub.z,by unfold mE Po;rw[aA (by omega),aA (by omega),aJ h19];rfl,F⟩
theorem RQ (w:World) [dA prog w] (eb:Option Addr) (ec:Nat) (e:List eC) (hE:Sl w eb (bQ e)) (uV:e.length<4611686018427387904) (mw: ∀x∈e,x.p<256∧x.n<256) (vars:Int) (wb:Option Addr) (wc:Nat) (l:List Nat) (hW:Sl w wb (pD l)) (Kn:l.length<9223372036854775807) (Cn: ∀x∈l,x<256) (h9:mE vars e l=0):
  cn prog 57 [(.slice eb e.length ec),vI vars,(.slice wb l.length wc)] w fun v N=> ∃t:TR,v=.tuple #[t.val,vI 0]∧N=t.cg 23 4∧RC (l.length+1) t (n_ l (To e (e.length-1))):=by
 refine aE func57 F ntmps57 F ?_
 obtain⟨z1,z2,z3⟩:=RP h9
 refine aj (aq (dE (cs:=[(vI vars)]) (fun z1=>?_)))
 refine ak F (ak F (ah (aR (aj (ai F (ae (bq 0 ey) (aq (bm HF (aX fun w1 hI=>(haveI:=ef hI;ux w1 eb ec e (hI.sl hE) uV mw vars)) ?_))))))))
 rintro vr O' ⟨N,rfl,rfl,rfl⟩
 refine ak F (ah (aj (ai F (ae (aC dW (am (by omega))) (ah (a8 (aL (aR (aV (aR ?_))))))))))
 have h0:iz vars e=0:=by omega
 obtain⟨Fs,Kt,Ks,aeO,_⟩:=nf h0
 refine bg (ai F (ae (cQ kC) (ae (aC ij (am (by omega))) (ak F (ah (a8 (aj (ai F (ae (dx) ?_)))))))))
 refine aq (bm HG (aX fun w1 hI=>(haveI:=ef hI;(show cn _ _ _ _ (fun v N=>v=Value.bool false∧N=[])from by
   have h8:=nk w1 wb wc l (hI.sl hW) Kn (.func (.func 92) #[] #[(dJ (aD z1) 0)]) (fun x=>decide (2^vars.toNat≤x)) [] (fun x hx=>bU (first:=[]) (args:=[v8 x]) (fG:=[(dJ (aD z1) 0)]) S8 (Ix w1 vars Fs Kt z1 (hI.gS (mG 0)) x (Cn x hx)))
   rw[z3]at h8
   exact h8))) ?_)
 rintro vr O' ⟨N,rfl,rfl,rfl⟩
 refine ak F (ah (a8 (aL (aj (ai F (ai F (aq (bm aaA (aX fun w1 hI=>(haveI:=ef hI;abn w1 eb ec e (hI.sl hE) (abm h0 mw) Ks (by omega) l wb wc (hI.sl hW) (fun i hi=>by rw[az,ap hi];exact Cn _ (aN hi)) (by omega))) ?_))))))))
 rintro vr O' ⟨N,rfl,t,rfl,rfl,hM⟩
 refine dM (O':=([av t.b t.c 23 1 (iX t.qs),oI z1 3 [(vI vars)]]++(io 4 t.qs))) (by exact gy [av t.b t.c 23 1 (iX t.qs)] _ (io 4 t.qs)) ?_
 refine ak F (ak F (ah (aM (aB ?_))))
 refine de (.slice t.b t.qs.length t.c) (vI 0) results57 F F ?_
 exact⟨t.cg 23 4,(by exact Sub.k (.d .rf)),t,F,F,hM⟩
theorem OG (w:World) [dA prog w] (eb:Option Addr) (ec:Nat) (e:List eC) (hE:Sl w eb (bQ e)) (uV:e.length<4611686018427387904) (mw: ∀x∈e,x.p<256∧x.n<256) (vars:Int) (wb:Option Addr) (wc:Nat) (l:List Nat) (hW:Sl w wb (pD l)) (Kn:l.length<9223372036854775807) (Cn: ∀x∈l,x<256) (h9:mE vars e l≠0):
  cn prog 27 [(.slice eb e.length ec),vI vars,(.slice wb l.length wc)] w fun v N=>v=.tuple #[.bool (mV vars e l),vN (mE vars e l)]∧N=[]:=by
 refine aE func27 F ntmps27 F ?_
 refine aj (ak F (ak F (ah (aj (ai F (ai F (ai F (aq (bm S5 (aX fun w1 hI=>(haveI:=ef hI;OF w1 eb ec e (hI.sl hE) uV mw vars wb wc l (hI.sl hW) Kn Cn h9)) ?_)))))))))
 rintro vr O' ⟨N,rfl,rfl,rfl⟩
 refine ai F (ae (bI (vs:=_)) (ae (bI (vs:=_)) (ak F (ak F (ah (aR (aj (ai F (ae (aC dW (ax (by omega))) (ah ?_))))))))))
 refine b_ ?_
 refine aj (ai F (ak F (ak F (ah (aM (aB ?_))))))
 refine de (.bool false) (vN (mE vars e l)) results27 F F ?_
 exact⟨[],Sub.z,by unfold mV;rw[aA h9],F⟩
theorem Tr {E:TypeId} {qs:List kj} {c:Nat} (h:c<qs.length) (X:List Lx.Item):av qs[c].b qs[c].c E 1 (cI qs[c].xs)∈X++io E qs:=RB h
theorem RR (w:World) [dA prog w] (eb:Option Addr) (ec:Nat) (e:List eC) (hE:Sl w eb (bQ e)) (uV:e.length<4611686018427387904) (mw: ∀x∈e,x.p<256∧x.n<256) (vars:Int) (wb:Option Addr) (wc:Nat) (l:List Nat) (hW:Sl w wb (pD l)) (Kn:l.length<9223372036854775807) (Cn: ∀x∈l,x<256) (h9:mE vars e l=0):
  cn prog 27 [(.slice eb e.length ec),vI vars,(.slice wb l.length wc)] w fun v N=>v=.tuple #[.bool (mV vars e l),vN (mE vars e l)]∧N=[]:=by
 refine aE func27 F ntmps27 F ?_
 refine aj (ak F (ak F (ah (aj (ai F (ai F (ai F (aq (bm S5 (aX fun w1 hI=>(haveI:=ef hI;RQ w1 eb ec e (hI.sl hE) uV mw vars wb wc l (hI.sl hW) Kn Cn h9)) ?_)))))))))
 rintro vr O' ⟨N,rfl,t,rfl,rfl,hM⟩
 have ig:=hM.1.len
 have W1:0<t.qs.length:=by omega
 have qy:=hM.1.row _ (aN W1)
 have hnt:l.length<t.qs[0].xs.length:=by omega
 refine dM (O':=([av t.b t.c 23 1 (iX t.qs)]++(io 4 t.qs))) (by exact gy [av t.b t.c 23 1 (iX t.qs)] _ (io 4 t.qs)) ?_
 refine ai F (ae (bI (vs:=_)) (ae (bI (vs:=_)) (ak F (ak F (ah (aR (aj (ai F (ae dW (ah (a8 (aL (aj (ai F (ae (dX (i:=0) aex dH F F (dT (mG 0)) W1 (by rw[ar];exact W1)) (ae (cS eI F F (dT (mG 0)) (vL W1)) (ai F ?_)))))))))))))))))
 refine ae (cQ kC) (ae (dX (i:=l.length) eI fC F F (fun w9 hI9=>hI9.gV (Tr (E:=4) W1 _)) hnt (by rw[ar];exact hnt)) (ae (cS BB F F (fun w9 hI9=>hI9.gV (Tr (E:=4) W1 _)) (EV W1 hnt)) (ak F (ak F (ah (aM (aB ?_)))))))
 refine de (.bool (gB t.qs 0 l.length)) (vI 0) results27 F F ?_
 exact⟨[],Sub.z,by unfold mV;rw[aJ h9,h9,hM.2 0 l.length (bl _) (by omega)];rfl,F⟩
theorem WH (w:World) [dA prog w] (eb:Option Addr) (ec:Nat) (e:List eC) (hE:Sl w eb (bQ e)) (uV:e.length<4611686018427387904) (mw: ∀x∈e,x.p<256∧x.n<256) (vars:Int) (wb:Option Addr) (wc:Nat) (l:List Nat) (hW:Sl w wb (pD l)) (Kn:l.length<9223372036854775807) (Cn: ∀x∈l,x<256):
  cn prog 27 [(.slice eb e.length ec),vI vars,(.slice wb l.length wc)] w fun v N=>v=.tuple #[.bool (mV vars e l),vN (mE vars e l)]∧N=[]:=by
 by_cases h9:mE vars e l=0
 ·exact RR w eb ec e hE uV mw vars wb wc l hW Kn Cn h9
 ·exact OG w eb ec e hE uV mw vars wb wc l hW Kn Cn h9
end Go.Proofs.YtgdbfideeeegmaaGreatDoor

