/- Contracts of functions of the program, and what they answer. Conditions: those each theorem names. -/
import Derived.Test.YtgdbfideeeegmaaGreatDoorA6
import Derived.Deep.Slices
import Derived.Test.YtgdbfideeeegmaaGreatDoorA2
import Derived.Test.YtgdbfideeeegmaaGreatDoorCards
import Derived.Test.YtgdbfideeeegmaaGreatDoorTie
import Derived.WalkKit
import Derived.ProofKit
import Derived.OpenShut
import Derived.Deep.DeepHandedRow
import Derived.Lib.LaidTab
import Derived.Test.YtgdbfideeeegmaaGreatDoorA3
import Derived.Test.YtgdbfideeeegmaaGreatDoorA1
set_option linter.unusedSectionVars false
set_option linter.unusedSimpArgs false
set_option linter.unusedVariables false
set_option linter.unnecessarySimpa false
set_option maxHeartbeats 8000000
set_option maxRecDepth 20000
namespace Go.Lx
open Go.RowKit
theorem pR: ∀ {l m:List Nat},l.map (fun y:Nat=>(y:Int))=m.map (fun y:Nat=>(y:Int))→l=m
 | [],[],_=>rfl
 | [],_::_,h=>by simp at h
 |_::_,[],h=>by simp at h
 |x::l,y::m,h=>by
  simp only[List.map_cons,List.cons.injEq]at h
  rw[pR h.2,show x=y by omega]
section
variable {α:Type} [Nonempty α] (G:α→Prop) (kf:α→Key) (nx:α→Nat→α) (fn:α→Bool)
noncomputable def zI (k:Key) (x:Nat):Key:=kf (nx (Classical.epsilon fun a=>G a∧kf a=k) x)
noncomputable def FM (k:Key):Bool:=fn (Classical.epsilon fun a=>G a∧kf a=k)
structure LY (L:Nat):Prop where
 Em: ∀a b x,G a→G b→kf a=kf b→x<L→kf (nx a x)=kf (nx b x)
 V6: ∀a b,G a→G b→kf a=kf b→fn a=fn b
 My: ∀a x,G a→x<L→G (nx a x)
variable {G kf nx fn}
theorem sT {L:Nat} (h:LY G kf nx fn L) {a:α} (ha:G a) {x:Nat} (hx:x<L):zI G kf nx (kf a) x=kf (nx a x):=by
 have:=Classical.epsilon_spec (p:=fun b=>G b∧kf b=kf a) ⟨a,ha,F⟩
 exact h.Em _ _ x this.1 ha this.2 hx
theorem yW {L:Nat} (h:LY G kf nx fn L) {a:α} (ha:G a):FM G kf fn (kf a)=fn a:=by
 have:=Classical.epsilon_spec (p:=fun b=>G b∧kf b=kf a) ⟨a,ha,F⟩
 exact h.V6 _ _ this.1 ha this.2
theorem ED {L:Nat} (h:LY G kf nx fn L): ∀(u:List Nat) {a:α},G a→(∀x∈u,x<L)→u.foldl (zI G kf nx) (kf a)=kf (u.foldl nx a)∧G (u.foldl nx a)
 | [],a,ha,_=>⟨F,ha⟩
 |x::u,a,ha,hu=>by
  have hx:=hu x (by simp)
  rw[List.foldl_cons,sT h ha hx]
  exact ED h u (h.My a x ha hx) fun y hy=>hu y (by simp[hy])
theorem zn {L:Nat} (h:LY G kf nx fn L) {a:α} (ha:G a) {u:List Nat} (hu: ∀x∈u,x<L):FM G kf fn (u.foldl (zI G kf nx) (kf a))=fn (u.foldl nx a):=by
 obtain⟨h1,h2⟩:=ED h u ha hu
 rw[h1,yW h h2]
end
abbrev Lg:=List Nat→Bool
def nI (p q:Lg):Lg:=fun w=>(List.range (w.length+1)).any fun i=>p (w.take i)&&q (w.drop i)
def ww (p:Lg):Nat→Lg
 |0,w=>w.isEmpty
 |n+1,w=>w.isEmpty||(List.range w.length).any fun i=>p (w.take (i+1))&&ww p n (w.drop (i+1))
def rV (p:Lg):Lg:=fun w=>ww p w.length w
theorem kC {p q:Lg} {w:List Nat}:nI p q w=true↔ ∃x y,w=x++y∧p x=true∧q y=true:=by
 unfold nI
 simp only[List.any_eq_true,List.mem_range,Bool.and_eq_true]
 constructor
 ·rintro⟨i,_,h1,h2⟩;exact⟨_,_,(List.take_append_drop i w).symm,h1,h2⟩
 ·rintro⟨x,y,rfl,h1,h2⟩;exact⟨x.length,by simp;omega,by simpa using h1,by simpa using h2⟩
inductive jH (p:Lg):List Nat→Prop
 |nil:jH p []
 |sw {x y:List Nat}:p x=true→jH p y→jH p (x++y)
theorem jH.snoc {p:Lg} {x y:List Nat} (h:jH p x) (hy:p y=true):jH p (x++y):=by
 induction h with
 |nil=>simpa using jH.sw hy .nil
 |sw h1 _ ih=>rw[List.append_assoc];exact .sw h1 ih
theorem jH.last {p:Lg} {w:List Nat} (h:jH p w):w≠ []→ ∃x y,w=x++y∧jH p x∧p y=true∧y≠ []:=by
 induction h with
 |nil=>exact fun h=>absurd F h
 | @sw x y h1 h2 ih=>
  intro hw
  by_cases hy:y=[]
  ·subst hy
   refine⟨[],x,by simp,.nil,h1,?_⟩
   rintro rfl;exact hw F
  ·obtain⟨a,b,e,h3,h4,h5⟩:=ih hy
   exact⟨x++a,b,by rw[e,List.append_assoc],.sw h1 h3,h4,h5⟩
theorem s5 {p:Lg}: ∀(n:Nat) (w:List Nat),w.length≤n→(ww p n w=true↔jH p w)
 |0,w,h=>by
  have:w=[]:=List.length_eq_zero_iff.1 (by omega)
  subst this;simp[ww,jH.nil]
 |n+1,w,h=>by
  unfold ww
  simp only[Bool.or_eq_true,List.isEmpty_iff,List.any_eq_true,List.mem_range,Bool.and_eq_true]
  constructor
  ·rintro(rfl|⟨i,hi,h1,h2⟩)
   ·exact .nil
   ·rw[←List.take_append_drop (i+1) w]
    exact .sw h1 ((s5 n _ (by simp;omega)).1 h2)
  ·intro hs
   have key: ∀w,jH p w→w≠ []→ ∃x y,w=x++y∧x≠ []∧p x=true∧jH p y:=by
    intro w hw
    induction hw with
    |nil=>exact fun h=>absurd F h
    | @sw x y h1 h2 ih=>
     intro rB
     by_cases hx:x=[]
     ·subst hx;exact ih rB
     ·exact⟨x,y,F,hx,h1,h2⟩
   by_cases hw:w=[]
   ·exact .inl hw
   ·obtain⟨x,y,rfl,hx,h1,h2⟩:=key w hs hw
    have Cn:=List.length_pos_iff.2 hx
    refine .inr ⟨x.length-1,by simp;omega,?_,?_⟩
    ·rw[show x.length-1+1=x.length by omega];simpa using h1
    ·rw[show x.length-1+1=x.length by omega]
     simpa using(s5 n y (by simp at h;omega)).2 h2
theorem xR {p:Lg} {w:List Nat}:rV p w=true↔jH p w:=s5 _ _ (Nat.le_refl _)
section
variable (a b:bY)
def tF (s:Nat) (l:List Nat):List Nat:=if dK a s then yM b.next.length l b.start.toNat else l
def Gr (q:Nat×List Nat) (x:Nat):Nat×List Nat:=(dJ a q.1 x,tF a b (dJ a q.1 x) (eD b q.2 x))
def Lu:Nat×List Nat:=(a.start.toNat,tF a b a.start.toNat [])
def Pn (q:Nat×List Nat):Bool:=q.2.any (dK b)
def xW (q:Nat×List Nat):Key:=gB ((q.1:Int)::q.2.map fun y:Nat=>(y:Int))
structure GC (q:Nat×List Nat):Prop where
 s:q.1<a.next.length
 Pq:q.2.Pairwise (· < ·)
 lt: ∀t∈q.2,t<b.next.length
abbrev yX (L B:Nat):Prop:=CT (zI (GC a b) xW (Gr a b)) L (xW (Lu a b)) B
variable {a b}
theorem lP {n:Nat} (h:n<1000000):lg (n:Int):=.inr ⟨by omega,by omega⟩
theorem EE (hn:a.next.length≤4096) (hm:b.next.length≤4096) {q:Nat×List Nat} (h:GC a b q): ∀n∈((q.1:Int)::q.2.map fun y:Nat=>(y:Int)),lg n:=fun n hn=>by
 rcases List.mem_cons.1 hn with rfl|hn
 ·exact lP (by have:=h.s;omega)
 ·obtain⟨y,hy,rfl⟩:=List.mem_map.1 hn
  exact lP (by have:=h.lt y hy;omega)
theorem EF (hn:a.next.length≤4096) (hm:b.next.length≤4096) {q r:Nat×List Nat} (hq:GC a b q) (hr:GC a b r) (h:xW q=xW r):q=r:=by
 have:=wv (EE hn hm hq) (EE hn hm hr) h
 simp only[List.cons.injEq]at this
 have h2:q.2=r.2:=pR this.2
 exact Prod.ext (by omega) h2
theorem Jf (hb:Val b) {s:Nat} {l:List Nat} (ha:l.Pairwise (· < ·)) (hl: ∀t∈l,t<b.next.length):(tF a b s l).Pairwise (· < ·)∧ ∀t∈tF a b s l,t<b.next.length:=by
 unfold tF
 split
 ·exact⟨nk _ _,fun t ht=>(pm.1 ht).1⟩
 ·exact⟨ha,hl⟩
theorem lQ (d:bY) (l:List Nat) (x:Nat):(eD d l x).Pairwise (· < ·)∧ ∀t∈eD d l x,t<d.next.length:=⟨nk _ _,fun t ht=>(pm.1 ht).1⟩
theorem EG (hb:Val b) {s:Nat} {l:List Nat} (hl: ∀t∈l,t<b.next.length) {t:Nat}:t∈tF a b s l↔t∈l∨(dK a s=true∧t=b.start.toNat):=by
 unfold tF
 split
 ·rename_i h;rw[uG hl (dH hb)];simp[h]
 ·rename_i h;simp[h]
theorem GC.len {q:Nat×List Nat} (h:GC a b q) (hn:b.next.length≤4096):q.2.length≤4096:=Nat.le_trans (dR (h.Pq.imp fun h=>Nat.ne_of_lt h) h.lt) hn
theorem GC.start (ha:Val a) (hb:Val b):GC a b (Lu a b):=by
 have:=Jf (a:=a) (s:=a.start.toNat) hb (l:=[]) List.Pairwise.nil (by simp)
 exact⟨dH ha,this.1,this.2⟩
theorem GC.next (ha:Val a) (hb:Val b) {q:Nat×List Nat} (h:GC a b q) {x:Nat} (hx:x<cJ a):GC a b (Gr a b q x):=by
 have h2:=lQ b q.2 x
 have:=Jf (a:=a) (s:=dJ a q.1 x) hb h2.1 h2.2
 exact⟨(ha.fB h.s hx).1,this.1,this.2⟩
theorem Ej (ha:Valid a) (hb:Valid b):LY (GC a b) xW (Gr a b) (Pn b) (cJ a):=
 ⟨fun q r x hq hr h _=>by rw[EF ha.n4 hb.n4 hq hr h],fun q r hq hr h=>by rw[EF ha.n4 hb.n4 hq hr h],fun q x h hx=>h.next ha.toVal hb.toVal hx⟩
theorem BA {α:Type} {p:List α→Prop} (h0:p []) (h1: ∀u x,p u→p (u++[x])): ∀u,p u:=fun u=>by
 have: ∀n (u:List α),u.length=n→p u:=by
  intro n
  induction n with
  |zero=>exact fun u hu=>(List.length_eq_zero_iff.1 hu)▸h0
  |succ n ih=>
   intro u hu
   have rB:u≠ []:=by rintro rfl;simp at hu
   rw[←List.dropLast_concat_getLast rB]
   exact h1 _ _ (ih _ (by simp[hu]))
 exact this _ u F
theorem LZ (ha:Val a) (hb:Val b) (hv:a.vars=b.vars): ∀(u:List Nat),(∀x∈u,x<cJ a)→(u.foldl (Gr a b) (Lu a b)).1=runN a a.start.toNat u∧ ∀t,t∈(u.foldl (Gr a b) (Lu a b)).2↔ ∃x y,u=x++y∧h_ a x=true∧runN b b.start.toNat y=t:=by
 have Xv:cJ b=cJ a:=by unfold cJ;rw[hv]
 apply BA
 ·intro _
  refine⟨F,fun t=>?_⟩
  show t∈tF a b a.start.toNat []↔_
  rw[EG hb (by simp)]
  constructor
  ·rintro(h|⟨h,rfl⟩)
   ·cases h
   ·exact⟨[],[],F,h,F⟩
  ·rintro⟨x,y,e,h,rfl⟩
   obtain⟨rfl,rfl⟩:=List.append_eq_nil_iff.1 e.symm
   exact .inr ⟨h,F⟩
 ·intro u z ih hu
  have Kh: ∀x∈u,x<cJ a:=fun x hx=>hu x (by simp[hx])
  have hz:z<cJ a:=hu z (by simp)
  obtain⟨h1,h2⟩:=ih Kh
  rw[List.foldl_append,List.foldl_cons,List.foldl_nil]
  have hG:GC a b (u.foldl (Gr a b) (Lu a b)):=by
   have: ∀(u:List Nat) (q:Nat×List Nat),GC a b q→(∀x∈u,x<cJ a)→GC a b (u.foldl (Gr a b) q):=by
    intro u
    induction u with
    |nil=>exact fun q h _=>h
    |cons x u ih=>exact fun q h hx=>ih _ (h.next ha hb (hx x (by simp))) fun y hy=>hx y (by simp[hy])
   exact this u _ (.start ha hb) Kh
  refine⟨by rw[eJ,←h1];rfl,fun t=>?_⟩
  show t∈tF a b (dJ a (u.foldl (Gr a b) (Lu a b)).1 z) (eD b (u.foldl (Gr a b) (Lu a b)).2 z)↔_
  rw[EG hb (lQ b _ z).2,pS hb hG.lt (by have:=hz;rw[←Xv]at this;exact this),h1,←eJ]
  constructor
  ·rintro(⟨s,hs,rfl⟩|⟨h,rfl⟩)
   ·obtain⟨x,y,rfl,hx,rfl⟩:=(h2 s).1 hs
    exact⟨x,y++[z],by rw[List.append_assoc],hx,eJ _ _ _ _⟩
   ·exact⟨u++[z],[],by simp,h,F⟩
  ·rintro⟨x,y,e,hx,rfl⟩
   by_cases hy:y=[]
   ·subst hy
    simp only[List.append_nil]at e;subst e
    exact .inr ⟨hx,F⟩
   ·have e2:=List.dropLast_concat_getLast hy
    rw[←e2,←List.append_assoc]at e
    obtain⟨e3,e4⟩:=List.append_inj' e F
    simp only[List.cons.injEq,and_true]at e4
    refine .inl ⟨runN b b.start.toNat y.dropLast,(h2 _).2 ⟨x,y.dropLast,e3,hx,F⟩,?_⟩
    rw[e4,←eJ,e2]
theorem Bd (ha:Valid a) (hb:Valid b) (hv:a.vars=b.vars) {u:List Nat} (hu: ∀x∈u,x<cJ a):FM (GC a b) xW (Pn b) (u.foldl (zI (GC a b) xW (Gr a b)) (xW (Lu a b)))=nI (h_ a) (h_ b) u:=by
 rw[zn (Ej ha hb) (.start ha.toVal hb.toVal) hu]
 obtain⟨_,h2⟩:=LZ ha.toVal hb.toVal hv u hu
 rw[Bool.eq_iff_iff,kC]
 unfold Pn
 rw[List.any_eq_true]
 constructor
 ·rintro⟨t,ht,hf⟩
  obtain⟨x,y,rfl,hx,rfl⟩:=(h2 t).1 ht
  exact⟨x,y,F,hx,hf⟩
 ·rintro⟨x,y,rfl,hx,hf⟩
  exact⟨_,(h2 _).2 ⟨x,y,F,hx,F⟩,hf⟩
end
section
variable (a:bY)
def sa (q:Bool×List Nat) (x:Nat):Bool×List Nat:=(false,if(eD a q.2 x).any (dK a)then yM a.next.length (eD a q.2 x) a.start.toNat else eD a q.2 x)
def CY:Bool×List Nat:=(true,[a.start.toNat])
def LA (q:Bool×List Nat):Bool:=q.1||q.2.any (dK a)
def ig (q:Bool×List Nat):List Int:=if q.1 then-1::q.2.map (fun y:Nat=>(y:Int))else q.2.map (fun y:Nat=>(y:Int))
def zJ (q:Bool×List Nat):Key:=gB (ig q)
structure GS (q:Bool×List Nat):Prop where
 Pq:q.2.Pairwise (· < ·)
 lt: ∀t∈q.2,t<a.next.length
abbrev CX (L B:Nat):Prop:=CT (zI (GS a) zJ (sa a)) L (zJ (CY a)) B
variable {a}
theorem vZ (hn:a.next.length≤4096) {q:Bool×List Nat} (h:GS a q): ∀n∈ig q,lg n:=fun n hn=>by
 have h2: ∀n∈q.2.map (fun y:Nat=>(y:Int)),lg n:=fun n hn=>by
  obtain⟨y,hy,rfl⟩:=List.mem_map.1 hn
  exact lP (by have:=h.lt y hy;omega)
 unfold ig at hn
 split at hn
 ·rcases List.mem_cons.1 hn with rfl|hn
  ·exact .inl F
  ·exact h2 n hn
 ·exact h2 n hn
theorem EH (hn:a.next.length≤4096) {q r:Bool×List Nat} (hq:GS a q) (hr:GS a r) (h:zJ q=zJ r):q=r:=by
 have:=wv (vZ hn hq) (vZ hn hr) h
 obtain⟨f,l⟩:=q
 obtain⟨g,m⟩:=r
 unfold ig at this
 have hi: ∀ {l m:List Nat},l.map (fun y:Nat=>(y:Int))=m.map (fun y:Nat=>(y:Int))→l=m:=fun h=>pR h
 cases f<;>cases g<;>simp only[if_true,Bool.false_eq_true,if_false,List.cons.injEq,true_and]at this
 ·rw[hi this]
 ·cases l with
  |nil=>simp at this
  |cons y l=>simp only[List.map_cons,List.cons.injEq]at this;omega
 ·cases m with
  |nil=>simp at this
  |cons y l=>simp only[List.map_cons,List.cons.injEq]at this;omega
 ·rw[hi this]
theorem GS.start (ha:Val a):GS a (CY a):=⟨by simp[CY],fun t ht=>by simp[CY]at ht;subst ht;exact dH ha⟩
theorem GS.next {q:Bool×List Nat} (x:Nat):GS a (sa a q x):=by
 unfold sa
 refine⟨?_,?_⟩<;>dsimp only<;>split
 ·exact nk _ _
 ·exact(lQ a _ x).1
 ·exact fun t ht=>(pm.1 ht).1
 ·exact(lQ a _ x).2
theorem yY (ha:Valid a):LY (GS a) zJ (sa a) (LA a) (cJ a):=
 ⟨fun q r x hq hr h _=>by rw[EH ha.n4 hq hr h],fun q r hq hr h=>by rw[EH ha.n4 hq hr h],fun q x h hx=>GS.next x⟩
theorem Jg (ha:Val a): ∀(u:List Nat),(∀x∈u,x<cJ a)→((u.foldl (sa a) (CY a)).1=u.isEmpty)∧ ∀t,t∈(u.foldl (sa a) (CY a)).2↔ ∃x y,u=x++y∧jH (h_ a) x∧runN a a.start.toNat y=t:=by
 apply BA
 ·intro _
  refine⟨F,fun t=>?_⟩
  show t∈[a.start.toNat]↔_
  rw[List.mem_singleton]
  constructor
  ·rintro rfl;exact⟨[],[],F,.nil,F⟩
  ·rintro⟨x,y,e,h,rfl⟩
   obtain⟨rfl,rfl⟩:=List.append_eq_nil_iff.1 e.symm
   rfl
 ·intro u z ih hu
  have Kh: ∀x∈u,x<cJ a:=fun x hx=>hu x (by simp[hx])
  have hz:z<cJ a:=hu z (by simp)
  obtain⟨_,h2⟩:=ih Kh
  have hG:GS a (u.foldl (sa a) (CY a)):=by
   have: ∀(u:List Nat) (q:Bool×List Nat),GS a q→GS a (u.foldl (sa a) q):=by
    intro u
    induction u with
    |nil=>exact fun q h=>h
    |cons x u ih=>exact fun q h=>ih _ (GS.next x)
   exact this u _ (.start ha)
  rw[List.foldl_append,List.foldl_cons,List.foldl_nil]
  refine⟨by simp[sa],fun t=>?_⟩
  have hm: ∀t,t∈eD a (u.foldl (sa a) (CY a)).2 z↔ ∃x y,u=x++y∧jH (h_ a) x∧runN a a.start.toNat (y++[z])=t:=fun t=>by
   rw[pS ha hG.lt hz]
   constructor
   ·rintro⟨s,hs,rfl⟩
    obtain⟨x,y,e,hx,rfl⟩:=(h2 s).1 hs
    exact⟨x,y,e,hx,eJ _ _ _ _⟩
   ·rintro⟨x,y,e,hx,rfl⟩
    exact⟨_,(h2 _).2 ⟨x,y,e,hx,F⟩,(eJ _ _ _ _).symm⟩
  have jN:(eD a (u.foldl (sa a) (CY a)).2 z).any (dK a)=true↔jH (h_ a) (u++[z]):=by
   rw[List.any_eq_true]
   constructor
   ·rintro⟨t,ht,hf⟩
    obtain⟨x,y,rfl,hx,rfl⟩:=(hm t).1 ht
    rw[List.append_assoc];exact hx.snoc hf
   ·intro h
    obtain⟨x,y,e,hx,hy,rB⟩:=h.last (by simp)
    have e2:=List.dropLast_concat_getLast rB
    rw[←e2,←List.append_assoc]at e
    obtain⟨e3,e4⟩:=List.append_inj' e F
    simp only[List.cons.injEq,and_true]at e4
    refine⟨_,(hm _).2 ⟨x,y.dropLast,e3,hx,F⟩,?_⟩
    rw[e4,e2];exact hy
  show t∈(if(eD a (u.foldl (sa a) (CY a)).2 z).any (dK a)then yM a.next.length (eD a (u.foldl (sa a) (CY a)).2 z) a.start.toNat else eD a (u.foldl (sa a) (CY a)).2 z)↔_
  have NR: ∀ {x y:List Nat},u++[z]=x++y→y≠ []→ ∃y',y=y'++[z]∧u=x++y':=fun {x y} e rB=>by
   have e2:=List.dropLast_concat_getLast rB
   rw[←e2,←List.append_assoc]at e
   obtain⟨e3,e4⟩:=List.append_inj' e F
   simp only[List.cons.injEq,and_true]at e4
   exact⟨y.dropLast,by rw[e4,e2],e3⟩
  by_cases hA:(eD a (u.foldl (sa a) (CY a)).2 z).any (dK a)=true
  ·rw[if_pos hA,uG (lQ a _ z).2 (dH ha),hm]
   constructor
   ·rintro(⟨x,y,e,hx,h⟩|rfl)
    ·exact⟨x,y++[z],by rw[e,List.append_assoc],hx,h⟩
    ·exact⟨u++[z],[],by simp,jN.1 hA,F⟩
   ·rintro⟨x,y,e,hx,h⟩
    by_cases hy:y=[]
    ·subst hy;exact .inr h.symm
    ·obtain⟨y',rfl,e3⟩:=NR e hy
     exact .inl ⟨x,y',e3,hx,h⟩
  ·rw[if_neg hA,hm]
   constructor
   ·rintro⟨x,y,e,hx,h⟩
    exact⟨x,y++[z],by rw[e,List.append_assoc],hx,h⟩
   ·rintro⟨x,y,e,hx,h⟩
    by_cases hy:y=[]
    ·subst hy
     simp only[List.append_nil]at e;subst e
     exact absurd (jN.2 hx) hA
    ·obtain⟨y',rfl,e3⟩:=NR e hy
     exact⟨x,y',e3,hx,h⟩
theorem xX (ha:Valid a) {u:List Nat} (hu: ∀x∈u,x<cJ a):FM (GS a) zJ (LA a) (u.foldl (zI (GS a) zJ (sa a)) (zJ (CY a)))=rV (h_ a) u:=by
 rw[zn (yY ha) (.start ha.toVal) hu]
 obtain⟨h1,h2⟩:=Jg ha.toVal u hu
 rw[Bool.eq_iff_iff,xR]
 unfold LA
 rw[Bool.or_eq_true,h1,List.isEmpty_iff,List.any_eq_true]
 constructor
 ·rintro(rfl|⟨t,ht,hf⟩)
  ·exact .nil
  ·obtain⟨x,y,rfl,hx,rfl⟩:=(h2 t).1 ht
   exact hx.snoc hf
 ·intro h
  by_cases Kh:u=[]
  ·exact .inl Kh
  ·obtain⟨x,y,rfl,hx,hy,_⟩:=h.last Kh
   exact .inr ⟨_,(h2 _).2 ⟨x,y,F,hx,F⟩,hy⟩
end
end Go.Lx

namespace Go.Lx
open Go.RowKit
def gM (p n x:Nat):Bool:=decide (x&&&p=p∧x&&&n=0)
def PE (n:Nat) (h:Nat→Bool):Lg:=fun u=>u.length==n&&u.all h
def Nv (n:Nat) (h:Nat→Bool) (s x:Nat):Int:=if s<n∧h x=true then((s+1:Nat):Int)else((n+1:Nat):Int)
def tG (L n:Nat) (h:Nat→Bool) (s:Nat):List Int:=(List.range L).map (Nv n h s)
def CZ (v n:Nat) (h:Nat→Bool):bY:=⟨v,0,(List.range (n+2)).map (tG (2^v) n h),(List.replicate (n+2) false).set n true⟩
theorem FY {v n:Nat} (h:Nat→Bool) (hv:v≤6) (hn:n≤1):Valid (CZ v n h):=by
 have n0:(CZ v n h).next.length=n+2:=by show((List.range (n+2)).map _).length=_;simp
 refine⟨{v0:=Int.natCast_nonneg _,v6:=by show(v:Int)≤6;omega,n0:=by omega,fin:=by rw[n0];show((List.replicate (n+2) false).set n true).length=_;simp,s0:=Int.le_refl _,s1:=by rw[n0];show(0:Int)<_;omega,len:=?_,ok:=?_},by omega⟩
 ·intro r hr
  obtain⟨s,_,rfl⟩:=List.mem_map.1 (show r∈(List.range (n+2)).map _ from hr)
  show((List.range (2^v)).map _).length=2^((v:Int).toNat)
  simp
 ·intro r hr x hx
  rw[n0]
  obtain⟨s,hs,rfl⟩:=List.mem_map.1 (show r∈(List.range (n+2)).map _ from hr)
  obtain⟨y,_,rfl⟩:=List.mem_map.1 (show x∈(List.range (2^v)).map _ from hx)
  unfold Nv
  split<;>omega
theorem QE {v n:Nat} {h:Nat→Bool} {s x:Nat} (hs:s<n+2) (hx:x<2^v):dJ (CZ v n h) s x=if s<n∧h x=true then s+1 else n+1:=by
 have h1:(CZ v n h).next[s]? =some (tG (2^v) n h s):=by show((List.range (n+2)).map _)[s]? =_;rw[List.getElem?_map,List.getElem?_range hs];rfl
 have h2:(tG (2^v) n h s)[x]? =some (Nv n h s x):=by unfold tG;rw[List.getElem?_map,List.getElem?_range hx];rfl
 unfold dJ
 simp only[List.getD_eq_getElem?_getD,h1,Option.getD_some,h2]
 unfold Nv
 split<;>exact Int.toNat_natCast _
theorem zp {v n:Nat} {h:Nat→Bool}: ∀(u:List Nat) (s:Nat),s≤n+1→(∀x∈u,x<2^v)→runN (CZ v n h) s u=if s+u.length≤n∧u.all h=true then s+u.length else if u=[]then s else n+1
 | [],s,hs,_=>by
  simp only[List.length_nil,Nat.add_zero,List.all_nil]
  show s=_
  split<;>rfl
 |x::u,s,hs,hu=>by
  have VP: ∀y∈u,y<2^v:=fun y hy=>hu y (by simp[hy])
  unfold runN
  rw[List.foldl_cons,QE (by omega) (hu x (by simp))]
  by_cases hh:s<n∧h x=true
  ·rw[if_pos hh]
   have h1:=zp (h:=h) (n:=n) u (s+1) (by omega) VP
   unfold runN at h1
   rw[h1]
   simp only[List.length_cons,List.all_cons,hh.2,Bool.true_and,reduceCtorEq,if_false]
   have e:s+1+u.length=s+(u.length+1):=by omega
   rw[e]
   by_cases Kh:u=[]
   ·subst Kh
    simp only[List.length_nil,List.all_nil,Nat.zero_add]
    rw[if_pos ⟨by omega,trivial⟩,if_pos ⟨by omega,trivial⟩]
   ·rw[if_neg Kh]
  ·rw[if_neg hh]
   have h1:=zp (h:=h) (n:=n) u (n+1) (by omega) VP
   unfold runN at h1
   rw[h1]
   simp only[List.length_cons,List.all_cons,reduceCtorEq,if_false]
   rw[if_neg (show¬(n+1+u.length≤n∧u.all h=true)from fun h9=>by omega),if_neg (show¬(s+(u.length+1)≤n∧(h x&&u.all h)=true)from fun h9=>hh ⟨by omega,(Bool.and_eq_true_iff.1 h9.2).1⟩)]
   split<;>rfl
theorem uA {v n:Nat} (h:Nat→Bool) (hv:v≤6) (hn:n≤1):HasL (v:Int) 3 (CZ v n h) (PE n h):=by
 have n0:(CZ v n h).next.length=n+2:=by show((List.range (n+2)).map _).length=_;simp
 refine⟨FY h hv hn,by omega,F,fun u hu=>?_⟩
 have VP: ∀x∈u,x<2^v:=fun x hx=>by simpa using hu x hx
 unfold h_ dK PE
 show((List.replicate (n+2) false).set n true).getD (runN (CZ v n h) 0 u) false=_
 rw[zp u 0 (by omega) VP,Nat.zero_add]
 have hf: ∀k,k≤n+1→((List.replicate (n+2) false).set n true).getD k false=decide (k=n):=fun k hk=>by
  rw[List.getD_eq_getElem?_getD]
  by_cases e:k=n
  ·subst e;rw[List.getElem?_set_self (by simp)];simp
  ·rw[List.getElem?_set_ne (fun h=>e h.symm),List.getElem?_replicate];simp[e];split<;>rfl
 by_cases c1:u.length≤n∧u.all h=true
 ·rw[if_pos c1,hf _ (by omega),c1.2,Bool.and_true]
  by_cases e:u.length=n<;>simp[e]
 ·rw[if_neg c1]
  by_cases e:u=[]
  ·subst e;exact absurd ⟨by simp,by simp⟩ c1
  ·rw[if_neg e,hf _ (by omega)]
   rw[decide_eq_false (by omega)]
   symm
   rw[Bool.and_eq_false_iff]
   by_cases e2:u.length=n
   ·exact .inr (by cases h9:u.all h with|false=>rfl|true=>exact absurd ⟨by omega,h9⟩ c1)
   ·exact .inl (by simp[e2])
theorem iL {v:Nat} (hv:v≤6):HasL (v:Int) 1 (fZ (v:Int) true) (fun _=>true):=
 ⟨uN (by omega) (by omega) true,by show[_].length≤1;simp,F,fun w hw=>GF (by omega) (by omega) true hw⟩
end Go.Lx

namespace Go.Lx
open Go.RowKit
inductive Rx where
 |none|empty
 |letter (p n:Nat)
 |kQ (a b:Rx)|uE (a b:Rx)|and (a b:Rx)
 |not (a:Rx)|star (a:Rx)|ahead (a:Rx)|behind (a:Rx)
structure dE where
 op:Nat
 p:Nat
 n:Nat
 a:Int
 b:Int
def dE.cells (x:dE):List Value:=[.int .u8 (x.op:Int),.int .u8 (x.p:Int),.int .u8 (x.n:Int),.int .i64 x.a,.int .i64 x.b]
abbrev dE.cl (x:dE):List Value:=[.int .u8 (x.op:Int),.int .u8 (x.p:Int),.int .u8 (x.n:Int),.int .i64 x.a,.int .i64 x.b]
abbrev dE.ag (x:dE):Value:=.agg #[.int .u8 (x.op:Int),.int .u8 (x.p:Int),.int .u8 (x.n:Int),.int .i64 x.a,.int .i64 x.b]
def aT (e:List dE):List Value:=e.flatMap dE.cells
theorem bF (e:List dE):(aT e).length=e.length*5:=by
 induction e with
 |nil=>rfl
 |cons x e ih=>simp only[aT,List.flatMap_cons,List.length_append,List.length_cons]at ih⊢;rw[ih];simp[dE.cells];omega
theorem lI {e:List dE}: ∀ {i:Nat} (hi:i<e.length) (j:Nat) (h:j<e[i].cells.length),(aT e)[i*5+j]? =some e[i].cells[j]:=by
 induction e with
 |nil=>intro i hi;simp at hi
 |cons x e ih=>
  intro i hi j hj
  simp only[aT,List.flatMap_cons]
  cases i with
  |zero=>rw[Nat.zero_mul,Nat.zero_add,List.getElem?_append_left (show j<x.cells.length from hj)];exact List.getElem?_eq_getElem hj
  |succ i=>
   have h5:x.cells.length=5:=rfl
   rw[List.getElem?_append_right (by rw[h5];omega),show(i+1)*5+j-x.cells.length=i*5+j by rw[h5];omega]
   exact ih (by simpa using hi) j hj
def B_ (e:List dE):Rx→Nat→Prop
 | .none,i=>e[i]? =some ⟨1,0,0,0,0⟩
 | .empty,i=>e[i]? =some ⟨2,0,0,0,0⟩
 | .letter p n,i=>e[i]? =some ⟨3,p,n,0,0⟩∧p<256∧n<256
 | .kQ a b,i=> ∃j k:Nat,e[i]? =some ⟨4,0,0,(j:Int),(k:Int)⟩∧B_ e a j∧B_ e b k
 | .uE a b,i=> ∃j k:Nat,e[i]? =some ⟨5,0,0,(j:Int),(k:Int)⟩∧B_ e a j∧B_ e b k
 | .and a b,i=> ∃j k:Nat,e[i]? =some ⟨6,0,0,(j:Int),(k:Int)⟩∧B_ e a j∧B_ e b k
 | .not a,i=> ∃j:Nat,e[i]? =some ⟨7,0,0,(j:Int),0⟩∧B_ e a j
 | .star a,i=> ∃j:Nat,e[i]? =some ⟨8,0,0,(j:Int),0⟩∧B_ e a j
 | .ahead a,i=> ∃j:Nat,e[i]? =some ⟨9,0,0,(j:Int),0⟩∧B_ e a j
 | .behind a,i=> ∃j:Nat,e[i]? =some ⟨10,0,0,(j:Int),0⟩∧B_ e a j
theorem kF {e:List dE} {i:Nat} {x:dE} (h:e[i]? =some x): ∃hi:i<e.length,e[i]=x:=by
 obtain⟨hi,h⟩:=List.getElem?_eq_some_iff.1 h;exact⟨hi,h⟩
def Rx.plain:Rx→Bool
 | .ahead _| .behind _=>false
 | .kQ a b| .uE a b| .and a b=>a.plain&&b.plain
 | .not a| .star a=>a.plain
 |_=>true
def jz:Rx→Lg
 | .none=>fun _=>false
 | .empty=>PE 0 (gM 0 0)
 | .letter p n=>PE 1 (gM p n)
 | .kQ a b=>nI (jz a) (jz b)
 | .uE a b=>fun u=>jz a u||jz b u
 | .and a b=>fun u=>jz a u&&jz b u
 | .not a=>fun u=>!jz a u
 | .star a=>rV (jz a)
 | .ahead a=>jz a
 | .behind a=>jz a
instance:Nonempty bY:=⟨J0⟩
noncomputable def minOf (v:Nat) (p:Lg):bY:=Classical.epsilon fun M=>fm (v:Int) 4096 M p
theorem jI {v B:Nat} {M:bY} {p:Lg} (h:fm (v:Int) B M p) (hB:B≤4096):M=minOf v p:=by
 have h2:fm (v:Int) 4096 M p:=⟨h.toHasL.le (Nat.le_trans h.len hB),h.min⟩
 have h3:=Classical.epsilon_spec (p:=fun M=>fm (v:Int) 4096 M p) ⟨M,h2⟩
 exact fm.ext h2 h3 fun _ _=>rfl
def UW (f:Bool→Bool→Bool) (a b:bY) (B:Nat):Prop:=(order (jk f a b)).length≤4096∧(JZ f a b).next.length≤B
def mx (v:Nat):Rx→Nat→Prop
 | .none,B=>(E8 (fZ (v:Int) true)).next.length≤B
 | .empty,B=>(fY (CZ v 0 (gM 0 0))).next.length≤B
 | .letter p n,B=>(fY (CZ v 1 (gM p n))).next.length≤B
 | .kQ a b,B=>mx v a B∧mx v b B∧yX (minOf v (jz a)) (minOf v (jz b)) (cJ (minOf v (jz a))) B
 | .uE a b,B=>mx v a B∧mx v b B∧UW Zw (minOf v (jz a)) (minOf v (jz b)) B
 | .and a b,B=>mx v a B∧mx v b B∧UW V3 (minOf v (jz a)) (minOf v (jz b)) B
 | .not a,B=>mx v a B∧(E8 (minOf v (jz a))).next.length≤B
 | .star a,B=>mx v a B∧CX (minOf v (jz a)) (cJ (minOf v (jz a))) B
 | .ahead a,B=>mx v a B
 | .behind a,B=>mx v a B
theorem notM {v:Int} {B C:Nat} {M:bY} {p:Lg} (h:HasL v B M p) (hl:(E8 M).next.length≤C):fm v C (E8 M) (fun u=>!p u):=by
 have hv:=h.valid.toVal
 have h1:=uW (f:=Rt) h h (N:=M.next.length) (uO hv hv F hv F (NX.refl M) (NX.refl M)) h.valid.n4
 exact⟨h1.toHasL.le hl,h1.min⟩
theorem QD {v B:Nat} (hv:v≤6) (hl:(E8 (fZ (v:Int) true)).next.length≤B):fm (v:Int) B (E8 (fZ (v:Int) true)) (jz .none):=notM (iL hv) hl
theorem YZ {f:Bool→Bool→Bool} {v:Int} {B C:Nat} {a b:bY} {p q:Lg} (ha:fm v B a p) (hb:fm v B b q) (ho:(order (jk f a b)).length≤4096) (hl:(JZ f a b).next.length≤C):fm v C (JZ f a b) (fun u=>f (p u) (q u)):=by
 have h1:=uW (f:=f) ha.toHasL hb.toHasL ho (Nat.le_refl _)
 exact⟨h1.toHasL.le hl,h1.min⟩
theorem qn.take {v:Int} {w:List Nat} (h:qn v w) (n:Nat):qn v (w.take n):=fun x hx=>h x (List.mem_of_mem_take hx)
theorem qn.drop {v:Int} {w:List Nat} (h:qn v w) (n:Nat):qn v (w.drop n):=fun x hx=>h x (List.mem_of_mem_drop hx)
theorem wx {α:Type} {l:List α} {f g:α→Bool} (h: ∀x∈l,f x=g x):l.any f=l.any g:=by
 induction l with
 |nil=>rfl
 |cons x l ih=>rw[List.any_cons,List.any_cons,h x (by simp),ih fun y hy=>h y (by simp[hy])]
theorem qQ {v:Int} {p q p' q':Lg} (hp: ∀w,qn v w→p w=p' w) (hq: ∀w,qn v w→q w=q' w) {w:List Nat} (hw:qn v w):nI p q w=nI p' q' w:=
 wx fun i _=>by rw[hp _ (hw.take i),hq _ (hw.drop i)]
theorem tT {v:Int} {p p':Lg} (hp: ∀w,qn v w→p w=p' w): ∀(n:Nat) {w:List Nat},qn v w→ww p n w=ww p' n w
 |0,w,_=>rfl
 |n+1,w,hw=>by
  show(w.isEmpty||_)=(w.isEmpty||_)
  congr 1
  exact wx fun i _=>by rw[hp _ (hw.take _),tT hp n (hw.drop _)]
theorem tI {v:Int} {p p':Lg} (hp: ∀w,qn v w→p w=p' w) {w:List Nat} (hw:qn v w):rV p w=rV p' w:=tT hp _ hw
theorem fm.to {v:Int} {B:Nat} {M:bY} {p q:Lg} (h:fm v B M p) (hq: ∀w,qn v w→p w=q w):fm v B M q:=
 ⟨⟨h.valid,h.len,h.vars,fun u hu=>by rw[h.h_ u hu];exact hq u hu⟩,h.min⟩
theorem fp {e:List dE} {i:Nat} {x:dE} (h:e[i]? =some x): ∀j (hj:j<x.cells.length),(aT e)[i*5+j]? =some x.cells[j]:=fun j hj=>by
 obtain⟨hi,rfl⟩:=kF h
 exact lI hi j hj
end Go.Lx

namespace Go.Lx
open Go.RowKit Go.ChangeShapes Go.WideShapes Go.Deep
section
variable {H:Type} {enc:TypeId×Value→H} {P:Program}
end
end Go.Lx

namespace Go.Proofs.YtgdbfideeeegmaaGreatDoor
open Go.ChangeShapes Go.WideShapes Go.ChangeAt Go.RowKit Go.Lx _root_.Go.Proofs.Tryz
set_option maxRecDepth 100000
theorem own:ownKnob Tryz.prog.godebug=none:=by kernel_rfl
theorem laidOut:laidOutB Tryz.prog=true:=by kernel_rfl
theorem Km:Tryz.prog.readableRec 25=true:=by kernel_rfl
theorem V5:25<Tryz.prog.types.size:=of_decide_eq_true (by kernel_rfl)
theorem La:Tryz.prog.cellsOf 25=4:=by kernel_rfl
theorem Lb:Tryz.prog.cellsOf 3=1:=by kernel_rfl
theorem Lc:Tryz.prog.cellsOf 22=1:=by kernel_rfl
theorem Ld:Tryz.prog.cellsOf 56=1:=by kernel_rfl
theorem Le:Tryz.prog.cellsOf 23=1:=by kernel_rfl
theorem Lh:Tryz.prog.cellsOf 4=1:=by kernel_rfl
theorem Li:0<Tryz.prog.bytesOf 56:=of_decide_eq_true (by kernel_rfl)
theorem Lj:0<Tryz.prog.bytesOf 3:=of_decide_eq_true (by kernel_rfl)
theorem Lk:0<Tryz.prog.bytesOf 4:=of_decide_eq_true (by kernel_rfl)
theorem Rw {H:Type} {enc:TypeId×Value→H} {W:World} {v:Value} {d:DataW H} {p:List MemPlace} (hw: ∀m∈d.weights Tryz.prog 25,m≤reachBytes) (h:DataW.Trod enc Tryz.prog W 0 (fun _=>true) true 25 v d p): ∃D nb fb nc fc vs,zP Tryz.prog W v D nb fb nc fc vs:=
 GP underlying25 La F F F F F F F F underlying3 underlying22 underlying56 underlying23 underlying4 Lb Lc Ld Le Lh Li Lj Lk hw h
def HX (cs:Array Value):Obj→Obj
 | .cells _ t frozen=>.cells cs t frozen
 |o=>o
noncomputable def sA (os:Os):World:=
 {World.holding Tryz.prog os ⟨#[],#[],[]⟩with heap:=((((World.holding Tryz.prog os ⟨#[],#[],[]⟩).heap.modify 0 (HX #[.int .u64 1,.int .u64 10,.int .u64 100,.int .u64 1000,.int .u64 10000,.int .u64 100000,.int .u64 1000000,.int .u64 10000000,.int .u64 100000000,.int .u64 1000000000,.int .u64 10000000000,.int .u64 100000000000,.int .u64 1000000000000,.int .u64 10000000000000,.int .u64 100000000000000,.int .u64 1000000000000000,.int .u64 10000000000000000,.int .u64 100000000000000000,.int .u64 1000000000000000000,.int .u64 10000000000000000000])).modify 1 (HX #[.int .u8 0,.int .u8 1,.int .u8 28,.int .u8 2,.int .u8 29,.int .u8 14,.int .u8 24,.int .u8 3,.int .u8 30,.int .u8 22,.int .u8 20,.int .u8 15,.int .u8 25,.int .u8 17,.int .u8 4,.int .u8 8,.int .u8 31,.int .u8 27,.int .u8 13,.int .u8 23,.int .u8 21,.int .u8 19,.int .u8 16,.int .u8 7,.int .u8 26,.int .u8 12,.int .u8 18,.int .u8 6,.int .u8 11,.int .u8 5,.int .u8 10,.int .u8 9])).modify 2 (HX #[.int .u8 0,.int .u8 1,.int .u8 56,.int .u8 2,.int .u8 57,.int .u8 49,.int .u8 28,.int .u8 3,.int .u8 61,.int .u8 58,.int .u8 42,.int .u8 50,.int .u8 38,.int .u8 29,.int .u8 17,.int .u8 4,.int .u8 62,.int .u8 47,.int .u8 59,.int .u8 36,.int .u8 45,.int .u8 43,.int .u8 51,.int .u8 22,.int .u8 53,.int .u8 39,.int .u8 33,.int .u8 30,.int .u8 24,.int .u8 18,.int .u8 12,.int .u8 5,.int .u8 63,.int .u8 55,.int .u8 48,.int .u8 27,.int .u8 60,.int .u8 41,.int .u8 37,.int .u8 16,.int .u8 46,.int .u8 35,.int .u8 44,.int .u8 21,.int .u8 52,.int .u8 32,.int .u8 23,.int .u8 11,.int .u8 54,.int .u8 26,.int .u8 40,.int .u8 15,.int .u8 34,.int .u8 20,.int .u8 31,.int .u8 10,.int .u8 25,.int .u8 14,.int .u8 19,.int .u8 9,.int .u8 13,.int .u8 8,.int .u8 7,.int .u8 6]))}
theorem Rz {W:World} (hL:laidMetH Tryz.prog [("math/bits.deBruijn32tab",Rows.laid_math_bits_deBruijn32tab),("math/bits.deBruijn64tab",Rows.laid_math_bits_deBruijn64tab),("internal/strconv.uint64pow10",Rows.laid_internal_strconv_uint64pow10)] W):cG Tryz.prog W:=by
 have h:laidMet Tryz.prog [("math/bits.deBruijn32tab",Rows.laid_math_bits_deBruijn32tab),("math/bits.deBruijn64tab",Rows.laid_math_bits_deBruijn64tab),("internal/strconv.uint64pow10",Rows.laid_internal_strconv_uint64pow10)] W:=hL
 obtain⟨ps,h,_⟩:=h
 have hz:=h
 obtain⟨_,h⟩:=mL h
 obtain⟨_,h⟩:=mL h
 obtain⟨_,hz⟩:=mL hz
 exact cG.of (qd (g:=0) (t:=282) (e:=256) (n:=20) (by kernel_rfl) (by kernel_rfl) (by kernel_rfl) underlying282 underlying256 (by kernel_rfl) (by kernel_rfl) h) (.inr (qd (g:=2) (t:=298) (e:=5) (n:=64) (by kernel_rfl) (by kernel_rfl) (by kernel_rfl) underlying298 underlying5 (by kernel_rfl) (by kernel_rfl) hz))
end Go.Proofs.YtgdbfideeeegmaaGreatDoor

namespace Go.Lx
open Go.RowKit
theorem Fy {P:Program} {r:Option Nat} {base:World} {n:Nat} {c:Code} {Q:ju} {ρ:Env} {O:List Item} (O':List Item) (L:List (Nat×Value)) (e:O=O') (h:bZ L ρ) (k: ∀eP,T P r base n c Q (Af L eP) O'):T P r base n c Q ρ O:=by
 obtain⟨eP,rfl⟩:=h.elim
 subst e
 exact k eP
theorem mn {P:Program} {r:Option Nat} {base:World} {n m:Nat} {c:Code} {Q:ju} {ρ:Env} {O:List Item} (O':List Item) (L:List (Nat×Value)) (e:O=O') (h:bZ L ρ) (k: ∀eP,MN P r base n c Q m (Af L eP) O'):MN P r base n c Q m ρ O:=by
 obtain⟨eP,rfl⟩:=h.elim
 subst e
 exact k eP
section
variable {P:Program} {base:World} {ρ:Env} {O:List Item} {dst:Option Nat} {t:TypeId} {p:String} {af:Array Edge} {g:Option (Nat×Bool)}
end
end Go.Lx

namespace Go.Lx
open Go.RowKit
def dq (P:Program) (base:World) (tm:Value) (f:FuncId) (args:List Value) (O:List Item) (R:Value→List Item→Prop) (Z:Prop):Prop:=
 ∀w M,Inv base (O++M) w→Calls P f args.toArray w fun e w'=>(∃v O',e=.returned v∧Inv base (O'++M) w'∧R v O')∨(e=.panicked [{v:=tm,recovered:=false}]∧Inv base M w'∧Z)
theorem dq.mono {P:Program} {base:World} {tm:Value} {f:FuncId} {args:List Value} {O:List Item} {R R':Value→List Item→Prop} {Z Z':Prop} (h:dq P base tm f args O R Z) (hr: ∀v O',R v O'→R' v O') (hz:Z→Z'):dq P base tm f args O R' Z':=
 fun w M hI=>(h w M hI).mono fun _ _ h=>h.imp (fun⟨v,O',h1,h2,h3⟩=>⟨v,O',h1,h2,hr v O' h3⟩) (fun⟨h1,h2,h3⟩=>⟨h1,h2,hz h3⟩)
theorem dq.under {P:Program} {base:World} {tm:Value} {f:FuncId} {args:List Value} {A B O:List Item} {R:Value→List Item→Prop} {Z:Prop} (h:dq P base tm f args A R Z) (hs:Sub (A++B) O):dq P base tm f args O (fun v O'=> ∃A',O'=A'++B∧R v A') Z:=
 fun w M hI=>(h w (B++M) (by have:=hI.jf hs.sw;rwa[List.append_assoc]at this)).mono fun _ _ h=>h.imp (fun⟨v,A',h1,h2,h3⟩=>⟨v,A'++B,h1,by rwa[List.append_assoc],A',F,h3⟩) (fun⟨h1,h2,h3⟩=>⟨h1,h2.jf ⟨M,List.Perm.refl _,List.sublist_append_right B M⟩,h3⟩)
theorem dq.pure {P:Program} {base:World} {tm:Value} {f:FuncId} {args:List Value} {O:List Item} {R:Value→List Item→Prop} {Z:Prop} (h: ∀w,Inv base O w→dq P w tm f args [] R Z):dq P base tm f args O (fun v O'=> ∃N,O'=N++O∧R v N) Z:=
 fun w M hI=>(h w hI.left w [] (Inv.refl w)).mono fun _ _ h=>h.imp (fun⟨v,N,h1,h2,h3⟩=>⟨v,N++O,h1,by
  have:=hI.call h2
  simpa[List.append_assoc]using this,N,F,h3⟩) (fun⟨h1,h2,h3⟩=>⟨h1,by
  have:=hI.call h2
  exact this.jf ⟨M,List.Perm.refl _,by simp⟩,h3⟩)
theorem bw.dt {P:Program} {base:World} {f:FuncId} {args:List Value} {O:List Item} {R:Value→List Item→Prop} (E:TypeId) (k:Nat) (h:bw P base f args (ak none 0 E k []::O) R):bw P base f args O R:=
 fun w M hI=>h w M (Inv.dt hI E k)
theorem Inv.iX {base w:World} {O:List Item} (hI:Inv base O w) {b:Nat} {cs:List Value} {T:TypeId} (h:da b (.cells cs.toArray T (0,0))∈O):Sl w (aD b) cs:=fun i hi=>by
 have hb:w.heap[b]? =some (.cells cs.toArray T (0,0)):=hI.holds _ h
 exact⟨⟨b,0,none⟩,F,F,by simp[World.cell?,hb,hi]⟩
theorem cF {P:Program} {base:World} {O:List Item} {fv:Value} {args:List Value} {R:Value→List Item→Prop} (h: ∀w,Inv base O w→dW P w fv args [] R):dW P base fv args O (fun v O'=> ∃N,O'=N++O∧R v N):=fun w M hI=>by
 have h1:=h w hI.left w [] (Inv.refl w)
 have key: ∀w' N,Inv w (N++[]) w'→Inv base (N++O++M) w':=fun w' N h2=>by
  have:=hI.call h2
  simpa[List.append_assoc]using this
 revert h1
 cases(jC fv args.toArray).run P w with
 |halt e w=>exact id
 |ok y w=>
  cases y<;>first
   |exact id
   |exact fun h=>Calls.mono h fun _ _ ⟨v,N,h1,h2,h3⟩=>⟨v,N++O,h1,key _ N h2,N,F,h3⟩
   |exact fun h=>RoundIn.mono h fun _ _ ⟨v,N,h1,h2,h3⟩=>⟨v,N++O,h1,key _ N h2,N,F,h3⟩
section
variable {P:Program} {r:Option Nat} {base:World} {n:Nat} {Q:ju} {ρ:Env} {O S S2:List Item} {tail cx:List Nat} {ops:Array Oper} {K:Env→List Item→Prop} {X:PX}
def Mf (X:PX) (P:Program) (r:Option Nat) (base:World) (n:Nat) (o:Oper) (ρ:Env) (O:List Item) (K:Env→List Item→Prop):Prop:=
 ∀a w M ds,Ag n ds a ρ→Inv base (O++M) w→ ∀(next:Act→World→Prop) (Qx:Exit→Act→World→Prop),
  (∀a' fP O' w',Ag n ds a' fP→Inv base (O'++M) w'→K fP O'→next a' w')→(∀c w',X c→Inv base M w'→Qx (.panic c) a w')→o.wpIn (Fr r) 0 P a w next Qx
theorem dP {l:List Oper} {o:Oper} (hg:o.guard=none) (h:Mf X P r base n o ρ O (fun fP O'=>TO X P r base n ops l K fP O')):TO X P r base n ops (o::l) K ρ O:=
 fun Q a w M D hk ha hi=>wpListIn_plain hg fun next dU=>h a w _ _ ha hi next _ (fun a' _ _ w' h1 h2 h3=>dU a' w' (h3 Q a' w' M D hk h1 h2)) fun c w' hx hI=>⟨ρ,[],D,ha,hI,hk.2 c ρ hx⟩
theorem wJ {fa:Nat} {listed:Array Bool} (i:Nat) {o:Oper} (hi:ops[i]? =some o) (hg:o.guard=none) (hr:Region.ready .any ops listed=[i])
  (h:Mf X P r base n o ρ O (fun fP O'=>(i∈tail∨Sub S O')∧(i∈cx∨Sub S2 O')∧RO X P r base n ops S tail S2 cx fa (listed.setIfInBounds i true) K fP O')):RO X P r base n ops S tail S2 cx (fa+1) listed K ρ O:=by
 intro Q a w M D hq hp ha hI mj hS
 refine⟨fun h0=>(by rw[hr]at h0;cases h0),fun j hj=>?_⟩
 rw[hr]at hj
 obtain rfl:j=i:=by simpa using hj
 have uV:j∈Region.ready .any ops listed:=by rw[hr];simp
 have eU:j<listed.size:=by
  have:=(mem_ready.1 uV).1
  rcases Nat.lt_or_ge j listed.size with h'|h'
  ·exact h'
  ·simp[Array.getElem?_eq_none h']at this
 unfold wpOpIn
 simp only[hi]
 rw[if_pos (by simp[Region.wanted,hg])]
 refine h a w _ _ ha hI _ _ (fun a' fP O' w' h1 h2 h3=>?_) fun c w' hx hI=>⟨ρ,[],D,ha,hI,hp.ZL c ρ hx⟩
 have p_: ∀(tl:List Nat) (Z:List Item),(j∈tl∨Sub Z O')→(tl.any fun b=>(listed.setIfInBounds j true).getD b false)=true∨Inv base Z w':=fun tl Z h3=>by
  rcases h3 with h4|h4
  ·refine .inl (List.any_eq_true.2 ⟨j,h4,?_⟩)
   simp[eU]
  ·exact .inr (h2.left.jf h4)
 have ox:gG base S tail S2 cx (listed.setIfInBounds j true) w':=⟨h2.lY,p_ _ _ h3.1,p_ _ _ h3.2.1⟩
 exact⟨ox,h3.2.2 Q a' w' M D hq hp h1 h2 (gO mj uV) ox⟩
theorem Mf.mono {o:Oper} {K':Env→List Item→Prop} (h:Mf X P r base n o ρ O K) (hk: ∀fP O',K fP O'→K' fP O'):Mf X P r base n o ρ O K':=
 fun a w M ds ha hI next Qx dU hx=>h a w M ds ha hI next Qx (fun a' fP O' w' h1 h2 h3=>dU a' fP O' w' h1 h2 (hk _ _ h3)) hx
theorem lR {l:List (Nat×Nat)} {i:Nat} {o:Oper} (hi:ops[i]? =some o) (hg:o.guard=none)
  (h:Mf X P r base n o ρ O (fun fP O'=>Sub S O'∧DO X P r base n ops S tail [] cx l K fP O')):DO X P r base n ops S tail [] cx ((i,1)::l) K ρ O:=fun hs jT hl listed hb=>by
 simp only[iv,Bool.and_eq_true,beq_iff_eq]at hb
 refine wJ i hi hg hb.1 (h.mono fun fP O' h3=>⟨.inr h3.1,.inr (a_ (List.nil_sublist _)),h3.2 hs jT (fun q hq=>hl q (List.mem_cons_of_mem _ hq)) _ hb.2⟩)
theorem C2 {l:List (Nat×Nat)} {i:Nat} {o:Oper} (hi:ops[i]? =some o) (hg:o.guard=none)
  (h:Mf X P r base n o ρ O (fun fP O'=>DO X P r base n ops S tail S2 cx l K fP O')):DO X P r base n ops S tail S2 cx ((i,2)::l) K ρ O:=fun hs jT hl listed hb=>by
 simp only[iv,Bool.and_eq_true,beq_iff_eq]at hb
 refine wJ i hi hg hb.1 (h.mono fun fP O' h3=>⟨.inl ((hl (i,2) (by simp)).1.1 F),.inl ((hl (i,2) (by simp)).2.1 (.inl F)),h3 hs jT (fun q hq=>hl q (List.mem_cons_of_mem _ hq)) _ hb.2⟩)
theorem fA {d:Nat} {t:TypeId} {p:String} {af:Array Edge} {g:Option (Nat×Bool)} {f:FuncId} {fn:Func} {tm:Value} {args:List Operand} {wW:Array TypeId} {vs:List Value} {R:Value→List Item→Prop} {Z:Prop} (he:Enters P f fn)
  (hc:dq P base tm f vs O R Z) (ha:Ff ρ args=vs) (hz:Z→X [{v:=tm,recovered:=false}]) (h: ∀v O',R v O'→K (np ρ d v) O') (hn:Nat.blt d n=true:=by rfl):
  Mf X P r base n ⟨some d,.call ⟨.value (.func f),args.toArray,wW⟩,t,p,af,g⟩ ρ O K:=by
 subst ha
 intro a w M ds ha hi next Qx dU hx
 have rz: ¬fn.name= "runtime.NumGoroutine" :=by simpa using he.2.1
 obtain⟨bd,Kx⟩:=Option.isSome_iff_exists.1 he.2.2
 have hr:(execOp a.eval ⟨some d,.call ⟨.value (.func f),args.toArray,wW⟩,t,p,af,g⟩).run P w=.ok (.enter f (Ff ρ args).toArray) w:=by
  rw[ha.eval,qz]
  simp[jC,ev,Deferred.ofValue,invoke,callFunc,he.1,rz,Kx]
 refine j9 (by intro c e;cases e) ?_
 rw[hr,Oper.uponIn_enter]
 refine⟨fun e=>by simp[Fr,Fence.wide]at e,lC (Calls.mono (hc w M hi) ?_)⟩
 rintro e w' (⟨v,O',rfl,mh,hR⟩|⟨rfl,mh,hZ⟩)
 ·exact dU _ _ _ _ (ha.put hn v) mh (h v O' hR)
 ·exact hx _ _ (hz hZ) mh
theorem r8 {dst:Option Nat} {t:TypeId} {p:String} {af:Array Edge} {g:Option (Nat×Bool)} {x:Operand} {T:TypeId} {u:Value} (hx:ev ρ x=.iface T u) (h:X [{v:=.iface T u,recovered:=false}]):Mf X P r base n ⟨dst,.panic x,t,p,af,g⟩ ρ O K:=by
 intro a w M ds ha hi next Qx dU hq
 refine j9 (by intro c e;cases e) ?_
 have hr:(execOp a.eval ⟨dst,.panic x,t,p,af,g⟩).run P w=.halt (.panic (.iface T u)) w:=by
  rw[ha.eval];simp[execOp,hx,Instr.panic]
 rw[hr,Oper.uponIn_panic]
 exact hq _ _ h (hi.jf ⟨M,List.Perm.refl _,List.sublist_append_right O M⟩)
theorem nf {dst:Option Nat} {t:TypeId} {p:String} {af:Array Edge} {g:Option (Nat×Bool)} {x:Operand} {T:TypeId} {fs:Array Field} {v:Value} (hu:P.underlying T=some (.struct fs)) (hx:ev ρ x=v):QT P base ⟨dst,.makeInterface T x,t,p,af,g⟩ ρ O (.iface T v):=fun w _=>by
 simp[execOp,hx,Instr.makeInterface,aV hu]
theorem Tt {dst:Option Nat} {t:TypeId} {p:String} {af:Array Edge} {g:Option (Nat×Bool)} {x:Operand} {T:TypeId} {k:IntKind} {a:Int} (hx:ev ρ x=.int k a):QT P base ⟨dst,.unOp .neg T x,t,p,af,g⟩ ρ O (.int k (k.wrap (-a))):=fun w _=>by
 simp[execOp,hx,Op.unary,Op.intArith]
theorem If (i:Nat) {t:TypeId} {p:String} {af:Array Edge} {g:Option (Nat×Bool)} {x:Operand} {T E:TypeId} {b o m c lo fx:Nat} {cs:List Value} {z:Value} (hu:P.underlying T=some (.slice E)) (hi:eS P E z 1 fx) (hz:z.cells= #[z]) (VL:dD z=true)
  (hx:ev ρ x=.slice (Al (some ⟨b,o,none⟩) c lo 1) (m-lo) (c-lo)) (hlo:lo<m) (hm:m≤c) (hO:O[i]? =some (ak (some ⟨b,o,none⟩) c E 1 cs)) (h:K ρ (O.set i (ak (some ⟨b,o,none⟩) c E 1 (cs.take lo)))):
  LT P r base n ⟨none,.call ⟨.builtin .clear,#[x],#[T]⟩,t,p,af,g⟩ ρ O K:=by
 intro a w M ds ha hI next Qx dU
 obtain⟨_,full,hb,h1,h2,h3⟩:=hI.row (lB hO)
 obtain⟨fl,rfl⟩: ∃fl:List Value,full=fl.toArray:=⟨full.toList,by simp⟩
 simp only[Nat.mul_one,List.size_toArray]at h1 h2
 have hs:Al (some ⟨b,o,none⟩) c lo 1=some ⟨b,o+lo,none⟩:=by
  unfold Al;rw[if_neg (by omega),Option.map_some,Nat.mul_one,pE]
 have Zf:(Builtin.zeroCells z.cells (m-lo)).toList=List.replicate (m-lo) z:=by
  have:=pD z (m-lo)
  rw[hz];simp only[Builtin.zeroCells]
  simpa using congrArg Array.toList this
 have G4:=jB (P:=P) (b:=b) (o:=o+lo) (T:=E) (List.replicate (m-lo) z) fl 0 w hb (by simp;omega) (by simp[VL])
 have hr:(execOp a.eval ⟨none,.call ⟨.builtin .clear,#[x],#[T]⟩,t,p,af,g⟩).run P w=.ok (.value (.tuple #[])) (iI w b (.cells (dl fl (o+lo) (List.replicate (m-lo) z)).toArray E (0,0))):=by
  rw[ha.eval]
  obtain⟨k,hk⟩: ∃k,m-lo=k+1:=⟨m-lo-1,by omega⟩
  rw[hk]at Zf G4 hx⊢
  simp only[Nat.add_zero]at G4
  simp[execOp,resolve,hx,hs,invoke,builtin,Builtin.clear_,aV hu,fC hi,Zf,G4]
 refine j9 (by intro c e;cases e) ?_
 rw[hr]
 refine dU _ _ _ _ ha ?_ h
 rw[←nz hO]
 refine hI.setRow (lB hO) (by simp;omega) (by simp[gv];omega) fun j hj=>?_
 have qB:j<lo∧j<cs.length:=by simp at hj;omega
 have:=h3 j qB.2
 simp only[List.getElem?_toArray]at this⊢
 rw[lA _ _ _ _ (by simp;omega),if_neg (by omega),this]
 simp
def U3 (P:Program) (base:World) (fn:Func) (tm:Value) (R:Value→List Item→Prop) (Z:Prop):ju
 | .normal,ρ,O=>qb P base fn ρ O R
 | .ret,ρ,O=>qb P base fn ρ O R
 | .panic c,_,_=>c=[{v:=tm,recovered:=false}]∧Z
 |_,_,_=>False
theorem qk {fn:Func} {tmps:Array Value} {M O':List Item} {c:List PanicEntry} {Rx:Ending→World→Prop} (h: ∀w,Inv base (O'++M) w→Rx (.panicked c) w):
  ∀(D:List Nat) (w:World),Inv base (O'++(mI D++M)) w→LeavesInM Fence.wide 0 P fn tmps Rx (mD D) (.panicking c) w
 | [],w,hI=>h w hI
 |b::D,w,hI=>by
  have mh:Inv base (O'++tp b::(mI D++M)) w:=hI
  have hb:w.heap[b]? =some (.deferred (some [])):=mh.holds (tp b) (by simp)
  refine⟨by simp,.inl ⟨b,w.putObj b (.deferred none),F,run_takeDeferred hb,qk h D _ ?_⟩⟩
  have:=Inv.step (N:=[]) (w':=w.putObj b (.deferred none)) mh F F F (by simp) (fun k _ hk=>World.putObj_heap_other (fun e=>hk (by simp[tp,da,e]))) (by simp) (by simp) (by simp)
  simpa using this
theorem dA {f:FuncId} {fn:Func} {tm:Value} {c:Code} {args:List Value} {R:Value→List Item→Prop} {Z:Prop} (hf:P.funcs[f]? =some fn) (hb:fn.body=some c) (hn:fn.ntmps=n) (hl:Nat.ble args.length n=true)
  (h:T P none base n c (U3 P base fn tm R Z) (entry args) O):dq P base tm f args O R Z:=by
 have hl:=Nat.le_of_ble_eq_true hl
 intro w M hI
 rw[←callsIn_wide (n:=0)]
 refine callsIn_of_wp_marks hf hb trivial (wpIn_mono (h _ w M [] trivial ⟨?_,?_,F⟩ hI) ?_)
 ·intro t
  show(args.toArray++Array.replicate (fn.ntmps-args.toArray.size) undef).getD t undef=args.getD t undef
  rw[Array.getD_eq_getD_getElem?,List.getD_eq_getElem?_getD]
  by_cases h:t<args.length
  ·rw[Array.getElem?_append_left (by simpa using h)];simp
  ·rw[Array.getElem?_append_right (by simpa using h)]
   have:args[t]? =none:=by simp;omega
   rw[this,Array.getElem?_replicate]
   split<;>rfl
 ·simp;omega
 ·have key: ∀(a':Act) (w':World) (fP:Env) (O':List Item) (D:List Nat),Ag n (mD D) a' fP→Inv base (O'++(mI D++M)) w'→qb P base fn fP O' R→
    LeavesInM Fence.wide 0 P fn a'.tmps (fun e Ks=>(∃v O',e=.returned v∧Inv base (O'++M) Ks∧R v O')∨(e=.panicked [{v:=tm,recovered:=false}]∧Inv base M Ks∧Z)) a'.defers .returning w':=by
   intro a' w' fP O' D h1 h2 h3
   obtain⟨v,wM,wU,hR,hr⟩:=h3.ex
   rw[h1.defers]
   exact nB (fun w hI=>⟨v,hr w a'.tmps hI.left h1.tmp,.inl ⟨v,wM,F,hI.jf wU.sw,hR⟩⟩) D w' h2
  rintro e a' w' ⟨fP,O',D,h1,h2,h3⟩
  cases e with
  |normal=>exact key a' w' fP O' D h1 h2 h3
  |ret=>exact key a' w' fP O' D h1 h2 h3
  |panic ch=>
   obtain⟨rfl,hz⟩:=h3
   show LeavesInM Fence.wide 0 P fn a'.tmps _ a'.defers _ w'
   rw[h1.defers]
   exact qk (O':=O') (fun w hI=>.inr ⟨F,hI.jf ⟨M,List.Perm.refl _,List.sublist_append_right O' M⟩,hz⟩) D w' h2
  |_=>exact h3.elim
end
end Go.Lx

namespace Go.Proofs.YtgdbfideeeegmaaGreatDoor
open Go.Lx Go.RowKit _root_.Go.Proofs.Tryz
theorem e8.u8 {P:Program} {kt:TypeId} {k:IntKind} (hu:P.underlying kt=some (.int k)):e8 P kt (fun a:Nat=>Value.int .u8 (a:Int)) where
 check:=fun e a w=>by
  show(Instr.checkKey e (9999+1) kt _).run P w=_
  rw[Instr.checkKey]
  simp[aV hu,str]
 find:=fun es ks a w h=>by
  have key: ∀(es:List MapEntry) (ks:List Nat) (i:Nat),es.map (·.key)=ks.map (fun a:Nat=>Value.int .u8 (a:Int))→Instr.findNow (.int k) (.int .u8 (a:Int)) es i=some (mS a ks es i):=by
   intro es
   induction es with
   |nil=>intro ks i h;cases ks<;>simp_all[Instr.findNow,mS]
   |cons e es ih=>
    intro ks i h
    cases ks with
    |nil=>simp at h
    |cons b ks=>
     simp only[List.map_cons,List.cons.injEq]at h
     simp only[Instr.findNow,h.1,Instr.sameNow,if_true,mS]
     by_cases e:a=b
     ·simp[e]
     ·have:((a:Int)==(b:Int))=false:=by rw[beq_eq_false_iff_ne];omega
      simp[this,e,ih ks (i+1) h.2]
  simp[Instr.findKey,aV hu,key es ks 0 h]
def g_:Nat→List UInt8×List UInt8×List UInt8
 |4=>([40],[46],[41])|5=>([40],[124],[41])|6=>([40],[38],[41])|7=>([40,126],[],[41])|8=>([40],[],[42,41])|9=>([40,62],[],[41])|10=>([40,60],[],[41])|_=>([],[],[])
def cT (n:Nat):Nat:=if n=4∨n=5∨n=6 then 2 else if n=7∨n=8∨n=9∨n=10 then 1 else 0
def Bu (n:Nat):Value:=.agg #[vI (cT n:Int),str (g_ n).1,str (g_ n).2.1,str (g_ n).2.2]
abbrev Bv (m:Nat):Lx.Item:=df (fun a:Nat=>Value.int .u8 (a:Int)) Bu m [(4,4),(5,5),(6,6),(7,7),(8,8),(9,9),(10,10)]
theorem sf (n:Nat):((kw n [(4,4),(5,5),(6,6),(7,7),(8,8),(9,9),(10,10)]).map Bu).getD (.agg #[vI 0,str [],str [],str []])=Bu n:=by
 by_cases h:4≤n∧n≤10
 ·obtain⟨h1,h2⟩:=h
  have:n=4∨n=5∨n=6∨n=7∨n=8∨n=9∨n=10:=by omega
  rcases this with rfl|rfl|rfl|rfl|rfl|rfl|rfl<;>rfl
 ·have h4:n≠4:=by omega
  have h5:n≠5:=by omega
  have h6:n≠6:=by omega
  have h7:n≠7:=by omega
  have h8:n≠8:=by omega
  have h9:n≠9:=by omega
  have Q4:n≠10:=by omega
  have hx:g_ n=([],[],[]):=by unfold g_;split<;>first|omega|rfl
  have hc:cT n=0:=by unfold cT;rw[if_neg (by omega),if_neg (by omega)]
  unfold Bu;rw[hx,hc]
  simp[kw,h4,h5,h6,h7,h8,h9,Q4]
def nG (v p n:Nat):Nat:=if 2^v≤(p|||n)then 7 else if p&&&n≠0 then 2 else 0
def gi (v:Nat) (x:dE):Nat:=if x.op<1∨10<x.op then 6 else if(x.op≠3∧(x.p|||x.n)≠0)∨(cT x.op<1∧x.a≠0)∨(cT x.op<2∧x.b≠0)then 2 else if x.op=3 then nG v x.p x.n else 0
theorem nQ (w:World) [cG Tryz.prog w]:
  bs Tryz.prog 56 [] w fun v N=> ∃m,v=.map (some m)∧N=[Bv m]:=by
 refine av func56 F ntmps56 F ?_
 refine ai (TO.qa F (ae (ai (aj F (lj (fun a:Nat=>Value.int .u8 (a:Int)) Bu (fun m1=>?_))))))
 refine ad (bE (cs:=[vI 2,(str [40]),(str [46]),(str [41])]) qT jS (by kernel_rfl)) (aj F (fD (a:=(4:Nat)) (v:=(4:Nat)) 0 uq (e8.u8 eC) F F F F (by decide) ?_))
 refine ad (bE (cs:=[vI 2,(str [40]),(str [124]),(str [41])]) qT jS (by kernel_rfl)) (aj F (fD (a:=(5:Nat)) (v:=(5:Nat)) 0 uq (e8.u8 eC) F F F F (by decide) ?_))
 refine ad (bE (cs:=[vI 2,(str [40]),(str [38]),(str [41])]) qT jS (by kernel_rfl)) (aj F (fD (a:=(6:Nat)) (v:=(6:Nat)) 0 uq (e8.u8 eC) F F F F (by decide) ?_))
 refine ad (bE (cs:=[vI 1,(str [40,126]),(str []),(str [41])]) qT jS (by kernel_rfl)) (aj F (fD (a:=(7:Nat)) (v:=(7:Nat)) 0 uq (e8.u8 eC) F F F F (by decide) ?_))
 refine ad (bE (cs:=[vI 1,(str [40]),(str []),(str [42,41])]) qT jS (by kernel_rfl)) (aj F (fD (a:=(8:Nat)) (v:=(8:Nat)) 0 uq (e8.u8 eC) F F F F (by decide) ?_))
 refine ad (bE (cs:=[vI 1,(str [40,62]),(str []),(str [41])]) qT jS (by kernel_rfl)) (aj F (fD (a:=(9:Nat)) (v:=(9:Nat)) 0 uq (e8.u8 eC) F F F F (by decide) ?_))
 refine ad (bE (cs:=[vI 1,(str [40,60]),(str []),(str [41])]) qT jS (by kernel_rfl)) (aj F (fD (a:=(10:Nat)) (v:=(10:Nat)) 0 uq (e8.u8 eC) F F F F (by decide) ?_))
 refine ah F (TO.qa F (ae (az (ao ?_))))
 refine aG (.map (some m1)) Tryz.results56 F ?_
 exact⟨[Bv m1],Sub.rf,m1,F,F⟩
theorem gk (w:World) [cG Tryz.prog w] (p n v:Nat) (hp:p<256) (hn:n<256) (hv:v≤6):
  bs Tryz.prog 171 [.agg #[v8 p,v8 n],vN v] w fun r N=>r=vI (nG v p n:Int)∧N=[]:=by
 refine av func171 F ntmps171 F ?_
 have N1:2^v≤2^6:=Nat.pow_le_pow_right (by decide) hv
 have hor:(p|||n)<2^8:=Nat.or_lt_two_pow hp hn
 refine ai (aj F (cL (cs:=[v8 p,v8 n]) F F (fun uz=>?_)))
 refine TO.qa F (ae (ax (aC (ax (ai (ah F (ad (ar (bI F F) (decide_eq_false (by omega))) (ah F (ap F F (aF F) (ap F F (ar (fw F F) (decide_eq_false (by omega))) (ad (aZ F F) (TO.qa F (ae (aL F ?_))))))))))))))
 refine dO [(0,0),(1,0),(2,0),(3,0),(4,0),(5,0),(6,0),(7,0),(8,0),(9,0)] ?_
 refine am F (aJ jG F cP F F) (am F (aO 0 eC F F F F) (am F (aJ jG F cP F F) (am F (aO 0 eC F F F F) (am F (Ou (a:=p) (b:=n) .u8 F F (by simp only[IntKind.bits];omega) (by simp only[IntKind.bits];omega)) (am F (ef eC dh F (eZ (by omega))) (am F (aF F) (am F (mJ (v:=v) F F (by omega)) (am F (gW F F) (am F (cD F) ?_)))))))))
 refine bu ?_
 refine aw F (fun hc=>?_) (fun hc=>?_)
 ·have WC:p|||n≥2^v:=by omega
  refine ai (TO.qa F (ae (az (ao ?_))))
  refine aG (vI 7) Tryz.results171 F ?_
  exact⟨[],Sub.z,by unfold nG;rw[if_pos (by omega)];rfl,F⟩
 have WD: ¬p|||n≥2^v:=by omega
 refine ai (ad (aJ jG F cP F F) (ad (aO 0 eC F F F F) (ad (aJ jG F cP F F) (ad (aO 0 eC F F F F) (ad (DL (a:=p) (b:=n) .u8 F F (by show _<256;omega) (by show _<256;omega)) (ad (cS F F) (TO.qa F (ae (aw F (fun hc=>?_) (fun hc=>?_))))))))))
 ·have jA:p&&&n≠0:=by omega
  refine ai (TO.qa F (ae (az (ao ?_))))
  refine aG (vI 2) Tryz.results171 F ?_
  exact⟨[],Sub.z,by unfold nG;rw[if_neg (by omega),if_pos (by omega)];rfl,F⟩
 have nW: ¬p&&&n≠0:=by omega
 refine aq (ai (TO.qa F (ae (az (ao ?_)))))
 refine aG (vI 0) Tryz.results171 F ?_
 exact⟨[],Sub.z,by unfold nG;rw[if_neg (by omega),if_neg (by omega)];rfl,F⟩
end Go.Proofs.YtgdbfideeeegmaaGreatDoor

namespace Go.Proofs.YtgdbfideeeegmaaGreatDoor
open Go.Lx Go.RowKit _root_.Go.Proofs.Tryz
theorem Qj (w:World) [cG Tryz.prog w] (x:dE) (v:Nat) (hp:x.p<256) (hn:x.n<256) (hv:v≤6):
  bs Tryz.prog 127 [x.ag,vN v] w fun r N=>r=vI (gi v x:Int)∧N=[]:=by
 refine av func127 F ntmps127 F ?_
 have hor:(x.p|||x.n)<2^8:=Nat.or_lt_two_pow hp hn
 refine ai (aj F (cL (cs:=x.cl) F F (fun z1=>?_)))
 refine TO.qa F (ae ?_)
 refine fg (fun ρ O=> ∃(m zo:Nat),O=[Bv m,oI zo 96 [vN (cT x.op),str (g_ x.op).1,str (g_ x.op).2.1,str (g_ x.op).2.2],oI z1 72 x.cl]∧bZ [(0,x.ag),(1,vN v),(2,(.pointer (aD z1))),(4,vI 0),(5,(.pointer (aD zo)))] ρ) ?_ ?_
 ·refine oy [oI z1 72 x.cl] 6 mixed F (by exact Sub.rf) (fun _ _ _ _ h=>h) ?_
  refine cA 1 F (by kernel_rfl) (aJ bK F cP F F) ?_
  refine cA 2 F (by kernel_rfl) (aO 0 eC F F F F) ?_
  have Hs:=fun(w1:World) (hI:Inv w [oI z1 72 x.cl] w1)=>(haveI:=dp hI;nQ w1)
  refine aN [0,4] (by kernel_rfl) F ⟨⟨_,F,F,aI Ev (aE Hs) F ?_⟩,⟨_,F,F,aR jS F (fun zo=>⟨by exact Sub.d (.k .z),?_⟩)⟩,trivial⟩
  ·clear Hs
   rintro vr O' ⟨N,rfl,m,rfl,rfl⟩
   refine⟨by exact Sub.d (.k .z),?_⟩
   refine aN [3,4] (by kernel_rfl) F ⟨⟨_,F,F,dG F F (a8 (oC (a:=x.op) uq jS (e8.u8 eC) F F (mG 0 F)) (v':=(.agg #[vN (cT x.op),str (g_ x.op).1,str (g_ x.op).2.1,str (g_ x.op).2.2])) (sf x.op)) ⟨by exact Sub.d (.k .z),?_⟩⟩,⟨_,F,F,aR jS F (fun zo=>⟨by exact Sub.d (.d (.k .z)),?_⟩)⟩,trivial⟩
   ·refine aN [4] (by kernel_rfl) F ⟨⟨_,F,F,aR jS F (fun zo=>⟨by exact Sub.d (.d (.k .z)),?_⟩)⟩,trivial⟩
    refine aN [5] (by kernel_rfl) F ⟨⟨_,F,F,bj (vs:=[vN (cT x.op),str (g_ x.op).1,str (g_ x.op).2.1,str (g_ x.op).2.2]) 0 jS F F F F ⟨by exact Sub.d (.d (.k .z)),?_⟩⟩,trivial⟩
    exact cH (by kernel_rfl) ⟨m,zo,F,(.of F)⟩ (by exact Sub.dL [oI zo 96 [vN (cT x.op),str (g_ x.op).1,str (g_ x.op).2.1,str (g_ x.op).2.2]] _ (.k (.k .z)))
   refine aN [3] (by kernel_rfl) F ⟨⟨_,F,F,dG F F (a8 (oC (a:=x.op) uq jS (e8.u8 eC) F F (mG 1 F)) (v':=(.agg #[vN (cT x.op),str (g_ x.op).1,str (g_ x.op).2.1,str (g_ x.op).2.2])) (sf x.op)) ⟨by exact Sub.d (.d (.k .z)),?_⟩⟩,trivial⟩
   refine aN [5] (by kernel_rfl) F ⟨⟨_,F,F,bj (vs:=[vN (cT x.op),str (g_ x.op).1,str (g_ x.op).2.1,str (g_ x.op).2.2]) 0 jS F F F F ⟨by exact Sub.d (.d (.k .z)),?_⟩⟩,trivial⟩
   exact cH (by kernel_rfl) ⟨m,zo,F,(.of F)⟩ (by exact Sub.dL [oI zo 96 [vN (cT x.op),str (g_ x.op).1,str (g_ x.op).2.1,str (g_ x.op).2.2]] _ (.k (.k .z)))
  refine aN [0] (by kernel_rfl) F ⟨⟨_,F,F,aI Ev (aW nQ) F ?_⟩,trivial⟩
  rintro vr O' ⟨N,rfl,m,rfl,rfl⟩
  refine⟨by exact Sub.d (.d (.k .z)),?_⟩
  refine aN [3] (by kernel_rfl) F ⟨⟨_,F,F,dG F F (a8 (oC (a:=x.op) uq jS (e8.u8 eC) F F (mG 0 F)) (v':=(.agg #[vN (cT x.op),str (g_ x.op).1,str (g_ x.op).2.1,str (g_ x.op).2.2])) (sf x.op)) ⟨by exact Sub.d (.d (.k .z)),?_⟩⟩,trivial⟩
  refine aN [5] (by kernel_rfl) F ⟨⟨_,F,F,bj (vs:=[vN (cT x.op),str (g_ x.op).1,str (g_ x.op).2.1,str (g_ x.op).2.2]) 1 jS F F F F ⟨by exact Sub.d (.d (.k .z)),?_⟩⟩,trivial⟩
  exact cH (by kernel_rfl) ⟨m,zo,F,(.of F)⟩ (by exact Sub.rf)
 rintro ρ O ⟨m,zo,rfl,hH⟩
 obtain⟨eP,rfl⟩:=hH.elim
 clear hH
 refine ax (aC (ai (ad (aJ bK F cP F F) (ad (aO 2 eC F F F F) (ad (bI F F) ?_)))))
 by_cases h1:((x.op:Nat):Int)<1
 ·refine ad (ar (aF F) (decide_eq_true h1)) ?_
  refine ay F F (ay F F (ay F F (ad (bt F F) (TO.qa F (ae ?_)))))
  refine bg F ?_
  refine ai (TO.qa F (ae (az (ao ?_))))
  refine aG (vI 6) Tryz.results127 F ?_
  exact⟨[],Sub.z,by unfold gi;rw[if_pos (by omega)];rfl,F⟩
 refine ad (ar (aF F) (decide_eq_false h1)) (ap F F (aJ bK F cP F F) (ap F F (aO 2 eC F F F F) (ap F F (fw F F) (ad (aZ F F) (TO.qa F (ae (aw F (fun hc=>?_) (fun hc=>?_))))))))
 ·have jQ:x.op>10:=by omega
  refine ai (TO.qa F (ae (az (ao ?_))))
  refine aG (vI 6) Tryz.results127 F ?_
  exact⟨[],Sub.z,by unfold gi;rw[if_pos (by omega)];rfl,F⟩
 have tx: ¬x.op>10:=by omega
 refine ax (ai (ad (aJ bK F cP F F) (ad (aO 2 eC F F F F) (ad (cS F F) ?_))))
 by_cases h3:((x.op:Nat):Int)≠3
 ·refine ad (ar (aF F) (decide_eq_true h3)) ?_
  refine ap F F (aJ bK F cP F F) (ap F F (aO 2 eC F F F F) (ap F F (aJ bK F cP F F) (ap F F (aO 2 eC F F F F) (ap F F (Ou (a:=x.p) (b:=x.n) .u8 F F (by simp only[IntKind.bits];omega) (by simp only[IntKind.bits];omega)) (ap F F (cS F F) (ad (bt F F) (TO.qa F (ae (aw F (fun hc=>?_) (fun hc=>?_))))))))))
  ·have Nt:x.p|||x.n≠0:=by omega
   refine aq (aw F (fun hc=>?_) (fun hc=>?_))
   ·have Nt:x.p|||x.n≠0:=by omega
    refine ai (TO.qa F (ae (az (ao ?_))))
    refine aG (vI 2) Tryz.results127 F ?_
    exact⟨[],Sub.z,by unfold gi;rw[if_neg (by omega),if_pos (by omega)];rfl,F⟩
   have Nu: ¬x.p|||x.n≠0:=by omega
   refine ai (ad (aJ bK F cP F F) (ad (aO 2 eC F F F F) (ad (bo F F) (TO.qa F (ae (aw F (fun hc=>?_) (fun hc=>?_)))))))
   ·have mv:x.op=3:=by omega
    refine ai (ad (aJ bK F cP F F) (ad (aO 2 eC F F F F) (ad (aJ bK F cP F F) (ad (aO 2 eC F F F F) (ad (bE (cs:=[v8 x.p,v8 x.n]) gT eX (by kernel_rfl)) (ah F (aj F (aI lV (aE fun w1 hI=>(haveI:=dp hI;gk w1 x.p x.n v hp hn hv)) F ?_))))))))
    rintro vr O' ⟨N,rfl,rfl,rfl⟩
    refine TO.qa F (ae (az (ao ?_)))
    refine aG (vI (nG v x.p x.n:Int)) Tryz.results127 F ?_
    exact⟨[],Sub.z,by unfold gi;rw[if_neg (by omega),if_neg (by omega),if_pos (by omega)],F⟩
   have mw: ¬x.op=3:=by omega
   refine aq (ai (TO.qa F (ae (az (ao ?_)))))
   refine aG (vI 0) Tryz.results127 F ?_
   exact⟨[],Sub.z,by unfold gi;rw[if_neg (by omega),if_neg (by omega),if_neg (by omega)];rfl,F⟩
  have Nu: ¬x.p|||x.n≠0:=by omega
  refine ai (ad (aJ Bw F aM F F) (ad (aO 1 dh F F F F) (ad (bI F F) ?_)))
  by_cases rL:((cT x.op:Nat):Int)<1
  ·refine ad (ar (aF F) (decide_eq_true rL)) ?_
   refine ap F F (aJ bK F aM F F) (ap F F (aO 2 dh F F F F) (ap F F (cS F F) (ad (bt F F) (TO.qa F (ae (aw F (fun hc=>?_) (fun hc=>?_)))))))
   ·refine aq ?_
    refine aw F (fun hc=>?_) (fun hc=>?_)
    ·refine ax ?_
     refine aH (TO.qa F (ae (az (ao ?_))))
     refine aG (vI 2) Tryz.results127 F ?_
     exact⟨[],Sub.z,by unfold gi;rw[if_neg (by omega),if_pos (by omega)];rfl,F⟩
    refine ai (ad (aJ bK F cP F F) (ad (aO 2 eC F F F F) (ad (bo F F) (TO.qa F (ae (aw F (fun hc=>?_) (fun hc=>?_)))))))
    ·have mv:x.op=3:=by omega
     refine ai (ad (aJ bK F cP F F) (ad (aO 2 eC F F F F) (ad (aJ bK F cP F F) (ad (aO 2 eC F F F F) (ad (bE (cs:=[v8 x.p,v8 x.n]) gT eX (by kernel_rfl)) (ah F (aj F (aI lV (aE fun w1 hI=>(haveI:=dp hI;gk w1 x.p x.n v hp hn hv)) F ?_))))))))
     rintro vr O' ⟨N,rfl,rfl,rfl⟩
     refine TO.qa F (ae (az (ao ?_)))
     refine aG (vI (nG v x.p x.n:Int)) Tryz.results127 F ?_
     exact⟨[],Sub.z,by unfold gi;rw[if_neg (by omega),if_neg (by omega),if_pos (by omega)],F⟩
    have mw: ¬x.op=3:=by omega
    refine aq (ai (TO.qa F (ae (az (ao ?_)))))
    refine aG (vI 0) Tryz.results127 F ?_
    exact⟨[],Sub.z,by unfold gi;rw[if_neg (by omega),if_neg (by omega),if_neg (by omega)];rfl,F⟩
   refine aH (ad (aJ Bw F aM F F) (ad (aO 1 dh F F F F) (ad (bI F F) ?_)))
   by_cases n_:((cT x.op:Nat):Int)<2
   ·refine ad (ar (aF F) (decide_eq_true n_)) ?_
    refine ap F F (aJ bK F aM F F) (ap F F (aO 2 dh F F F F) (ap F F (cS F F) (ad (bt F F) (TO.qa F (ae (aw F (fun hc=>?_) (fun hc=>?_)))))))
    ·refine ax ?_
     refine aH (TO.qa F (ae (az (ao ?_))))
     refine aG (vI 2) Tryz.results127 F ?_
     exact⟨[],Sub.z,by unfold gi;rw[if_neg (by omega),if_pos (by omega)];rfl,F⟩
    refine ai (ad (aJ bK F cP F F) (ad (aO 2 eC F F F F) (ad (bo F F) (TO.qa F (ae (aw F (fun hc=>?_) (fun hc=>?_)))))))
    ·have mv:x.op=3:=by omega
     refine ai (ad (aJ bK F cP F F) (ad (aO 2 eC F F F F) (ad (aJ bK F cP F F) (ad (aO 2 eC F F F F) (ad (bE (cs:=[v8 x.p,v8 x.n]) gT eX (by kernel_rfl)) (ah F (aj F (aI lV (aE fun w1 hI=>(haveI:=dp hI;gk w1 x.p x.n v hp hn hv)) F ?_))))))))
     rintro vr O' ⟨N,rfl,rfl,rfl⟩
     refine TO.qa F (ae (az (ao ?_)))
     refine aG (vI (nG v x.p x.n:Int)) Tryz.results127 F ?_
     exact⟨[],Sub.z,by unfold gi;rw[if_neg (by omega),if_neg (by omega),if_pos (by omega)],F⟩
    have mw: ¬x.op=3:=by omega
    refine aq (ai (TO.qa F (ae (az (ao ?_)))))
    refine aG (vI 0) Tryz.results127 F ?_
    exact⟨[],Sub.z,by unfold gi;rw[if_neg (by omega),if_neg (by omega),if_neg (by omega)];rfl,F⟩
   refine ad (ar (aF F) (decide_eq_false n_)) (ay F F (ay F F (ay F F (ad (aZ F F) (TO.qa F (ae (aL F (ai ?_))))))))
   refine ad (aJ bK F cP F F) (ad (aO 2 eC F F F F) (ad (bo F F) (TO.qa F (ae (aw F (fun hc=>?_) (fun hc=>?_))))))
   ·have mv:x.op=3:=by omega
    refine ai (ad (aJ bK F cP F F) (ad (aO 2 eC F F F F) (ad (aJ bK F cP F F) (ad (aO 2 eC F F F F) (ad (bE (cs:=[v8 x.p,v8 x.n]) gT eX (by kernel_rfl)) (ah F (aj F (aI lV (aE fun w1 hI=>(haveI:=dp hI;gk w1 x.p x.n v hp hn hv)) F ?_))))))))
    rintro vr O' ⟨N,rfl,rfl,rfl⟩
    refine TO.qa F (ae (az (ao ?_)))
    refine aG (vI (nG v x.p x.n:Int)) Tryz.results127 F ?_
    exact⟨[],Sub.z,by unfold gi;rw[if_neg (by omega),if_neg (by omega),if_pos (by omega)],F⟩
   have mw: ¬x.op=3:=by omega
   refine aq (ai (TO.qa F (ae (az (ao ?_)))))
   refine aG (vI 0) Tryz.results127 F ?_
   exact⟨[],Sub.z,by unfold gi;rw[if_neg (by omega),if_neg (by omega),if_neg (by omega)];rfl,F⟩
  refine ad (ar (aF F) (decide_eq_false rL)) (ay F F (ay F F (ay F F (ad (aZ F F) (TO.qa F (ae (aL F (aH ?_))))))))
  refine ad (aJ Bw F aM F F) (ad (aO 1 dh F F F F) (ad (bI F F) ?_))
  by_cases n_:((cT x.op:Nat):Int)<2
  ·refine ad (ar (aF F) (decide_eq_true n_)) ?_
   refine ap F F (aJ bK F aM F F) (ap F F (aO 2 dh F F F F) (ap F F (cS F F) (ad (bt F F) (TO.qa F (ae (aw F (fun hc=>?_) (fun hc=>?_)))))))
   ·refine ax ?_
    refine aH (TO.qa F (ae (az (ao ?_))))
    refine aG (vI 2) Tryz.results127 F ?_
    exact⟨[],Sub.z,by unfold gi;rw[if_neg (by omega),if_pos (by omega)];rfl,F⟩
   refine ai (ad (aJ bK F cP F F) (ad (aO 2 eC F F F F) (ad (bo F F) (TO.qa F (ae (aw F (fun hc=>?_) (fun hc=>?_)))))))
   ·have mv:x.op=3:=by omega
    refine ai (ad (aJ bK F cP F F) (ad (aO 2 eC F F F F) (ad (aJ bK F cP F F) (ad (aO 2 eC F F F F) (ad (bE (cs:=[v8 x.p,v8 x.n]) gT eX (by kernel_rfl)) (ah F (aj F (aI lV (aE fun w1 hI=>(haveI:=dp hI;gk w1 x.p x.n v hp hn hv)) F ?_))))))))
    rintro vr O' ⟨N,rfl,rfl,rfl⟩
    refine TO.qa F (ae (az (ao ?_)))
    refine aG (vI (nG v x.p x.n:Int)) Tryz.results127 F ?_
    exact⟨[],Sub.z,by unfold gi;rw[if_neg (by omega),if_neg (by omega),if_pos (by omega)],F⟩
   have mw: ¬x.op=3:=by omega
   refine aq (ai (TO.qa F (ae (az (ao ?_)))))
   refine aG (vI 0) Tryz.results127 F ?_
   exact⟨[],Sub.z,by unfold gi;rw[if_neg (by omega),if_neg (by omega),if_neg (by omega)];rfl,F⟩
  refine ad (ar (aF F) (decide_eq_false n_)) (ay F F (ay F F (ay F F (ad (aZ F F) (TO.qa F (ae (aL F (ai ?_))))))))
  refine ad (aJ bK F cP F F) (ad (aO 2 eC F F F F) (ad (bo F F) (TO.qa F (ae (aw F (fun hc=>?_) (fun hc=>?_))))))
  ·have mv:x.op=3:=by omega
   refine ai (ad (aJ bK F cP F F) (ad (aO 2 eC F F F F) (ad (aJ bK F cP F F) (ad (aO 2 eC F F F F) (ad (bE (cs:=[v8 x.p,v8 x.n]) gT eX (by kernel_rfl)) (ah F (aj F (aI lV (aE fun w1 hI=>(haveI:=dp hI;gk w1 x.p x.n v hp hn hv)) F ?_))))))))
   rintro vr O' ⟨N,rfl,rfl,rfl⟩
   refine TO.qa F (ae (az (ao ?_)))
   refine aG (vI (nG v x.p x.n:Int)) Tryz.results127 F ?_
   exact⟨[],Sub.z,by unfold gi;rw[if_neg (by omega),if_neg (by omega),if_pos (by omega)],F⟩
  have mw: ¬x.op=3:=by omega
  refine aq (ai (TO.qa F (ae (az (ao ?_)))))
  refine aG (vI 0) Tryz.results127 F ?_
  exact⟨[],Sub.z,by unfold gi;rw[if_neg (by omega),if_neg (by omega),if_neg (by omega)];rfl,F⟩
 refine ad (ar (aF F) (decide_eq_false h3)) (ay F F (ay F F (ay F F (ay F F (ay F F (ay F F (ad (aZ F F) (TO.qa F ?_))))))))
 refine ae (aL F (ai (ad (aJ Bw F aM F F) (ad (aO 1 dh F F F F) (ad (bI F F) ?_)))))
 by_cases rL:((cT x.op:Nat):Int)<1
 ·refine ad (ar (aF F) (decide_eq_true rL)) ?_
  refine ap F F (aJ bK F aM F F) (ap F F (aO 2 dh F F F F) (ap F F (cS F F) (ad (bt F F) (TO.qa F (ae (aw F (fun hc=>?_) (fun hc=>?_)))))))
  ·refine aq ?_
   refine aw F (fun hc=>?_) (fun hc=>?_)
   ·refine ax ?_
    refine aH (TO.qa F (ae (az (ao ?_))))
    refine aG (vI 2) Tryz.results127 F ?_
    exact⟨[],Sub.z,by unfold gi;rw[if_neg (by omega),if_pos (by omega)];rfl,F⟩
   refine ai (ad (aJ bK F cP F F) (ad (aO 2 eC F F F F) (ad (bo F F) (TO.qa F (ae (aw F (fun hc=>?_) (fun hc=>?_)))))))
   ·have mv:x.op=3:=by omega
    refine ai (ad (aJ bK F cP F F) (ad (aO 2 eC F F F F) (ad (aJ bK F cP F F) (ad (aO 2 eC F F F F) (ad (bE (cs:=[v8 x.p,v8 x.n]) gT eX (by kernel_rfl)) (ah F (aj F (aI lV (aE fun w1 hI=>(haveI:=dp hI;gk w1 x.p x.n v hp hn hv)) F ?_))))))))
    rintro vr O' ⟨N,rfl,rfl,rfl⟩
    refine TO.qa F (ae (az (ao ?_)))
    refine aG (vI (nG v x.p x.n:Int)) Tryz.results127 F ?_
    exact⟨[],Sub.z,by unfold gi;rw[if_neg (by omega),if_neg (by omega),if_pos (by omega)],F⟩
   have mw: ¬x.op=3:=by omega
   refine aq (ai (TO.qa F (ae (az (ao ?_)))))
   refine aG (vI 0) Tryz.results127 F ?_
   exact⟨[],Sub.z,by unfold gi;rw[if_neg (by omega),if_neg (by omega),if_neg (by omega)];rfl,F⟩
  refine aH (ad (aJ Bw F aM F F) (ad (aO 1 dh F F F F) (ad (bI F F) ?_)))
  by_cases n_:((cT x.op:Nat):Int)<2
  ·refine ad (ar (aF F) (decide_eq_true n_)) ?_
   refine ap F F (aJ bK F aM F F) (ap F F (aO 2 dh F F F F) (ap F F (cS F F) (ad (bt F F) (TO.qa F (ae (aw F (fun hc=>?_) (fun hc=>?_)))))))
   ·refine ax ?_
    refine aH (TO.qa F (ae (az (ao ?_))))
    refine aG (vI 2) Tryz.results127 F ?_
    exact⟨[],Sub.z,by unfold gi;rw[if_neg (by omega),if_pos (by omega)];rfl,F⟩
   refine ai (ad (aJ bK F cP F F) (ad (aO 2 eC F F F F) (ad (bo F F) (TO.qa F (ae (aw F (fun hc=>?_) (fun hc=>?_)))))))
   ·have mv:x.op=3:=by omega
    refine ai (ad (aJ bK F cP F F) (ad (aO 2 eC F F F F) (ad (aJ bK F cP F F) (ad (aO 2 eC F F F F) (ad (bE (cs:=[v8 x.p,v8 x.n]) gT eX (by kernel_rfl)) (ah F (aj F (aI lV (aE fun w1 hI=>(haveI:=dp hI;gk w1 x.p x.n v hp hn hv)) F ?_))))))))
    rintro vr O' ⟨N,rfl,rfl,rfl⟩
    refine TO.qa F (ae (az (ao ?_)))
    refine aG (vI (nG v x.p x.n:Int)) Tryz.results127 F ?_
    exact⟨[],Sub.z,by unfold gi;rw[if_neg (by omega),if_neg (by omega),if_pos (by omega)],F⟩
   have mw: ¬x.op=3:=by omega
   refine aq (ai (TO.qa F (ae (az (ao ?_)))))
   refine aG (vI 0) Tryz.results127 F ?_
   exact⟨[],Sub.z,by unfold gi;rw[if_neg (by omega),if_neg (by omega),if_neg (by omega)];rfl,F⟩
  refine ad (ar (aF F) (decide_eq_false n_)) (ay F F (ay F F (ay F F (ad (aZ F F) (TO.qa F (ae (aL F (ai ?_))))))))
  refine ad (aJ bK F cP F F) (ad (aO 2 eC F F F F) (ad (bo F F) (TO.qa F (ae (aw F (fun hc=>?_) (fun hc=>?_))))))
  ·have mv:x.op=3:=by omega
   refine ai (ad (aJ bK F cP F F) (ad (aO 2 eC F F F F) (ad (aJ bK F cP F F) (ad (aO 2 eC F F F F) (ad (bE (cs:=[v8 x.p,v8 x.n]) gT eX (by kernel_rfl)) (ah F (aj F (aI lV (aE fun w1 hI=>(haveI:=dp hI;gk w1 x.p x.n v hp hn hv)) F ?_))))))))
   rintro vr O' ⟨N,rfl,rfl,rfl⟩
   refine TO.qa F (ae (az (ao ?_)))
   refine aG (vI (nG v x.p x.n:Int)) Tryz.results127 F ?_
   exact⟨[],Sub.z,by unfold gi;rw[if_neg (by omega),if_neg (by omega),if_pos (by omega)],F⟩
  have mw: ¬x.op=3:=by omega
  refine aq (ai (TO.qa F (ae (az (ao ?_)))))
  refine aG (vI 0) Tryz.results127 F ?_
  exact⟨[],Sub.z,by unfold gi;rw[if_neg (by omega),if_neg (by omega),if_neg (by omega)];rfl,F⟩
 refine ad (ar (aF F) (decide_eq_false rL)) (ay F F (ay F F (ay F F (ad (aZ F F) (TO.qa F (ae (aL F (aH ?_))))))))
 refine ad (aJ Bw F aM F F) (ad (aO 1 dh F F F F) (ad (bI F F) ?_))
 by_cases n_:((cT x.op:Nat):Int)<2
 ·refine ad (ar (aF F) (decide_eq_true n_)) ?_
  refine ap F F (aJ bK F aM F F) (ap F F (aO 2 dh F F F F) (ap F F (cS F F) (ad (bt F F) (TO.qa F (ae (aw F (fun hc=>?_) (fun hc=>?_)))))))
  ·refine ax ?_
   refine aH (TO.qa F (ae (az (ao ?_))))
   refine aG (vI 2) Tryz.results127 F ?_
   exact⟨[],Sub.z,by unfold gi;rw[if_neg (by omega),if_pos (by omega)];rfl,F⟩
  refine ai (ad (aJ bK F cP F F) (ad (aO 2 eC F F F F) (ad (bo F F) (TO.qa F (ae (aw F (fun hc=>?_) (fun hc=>?_)))))))
  ·have mv:x.op=3:=by omega
   refine ai (ad (aJ bK F cP F F) (ad (aO 2 eC F F F F) (ad (aJ bK F cP F F) (ad (aO 2 eC F F F F) (ad (bE (cs:=[v8 x.p,v8 x.n]) gT eX (by kernel_rfl)) (ah F (aj F (aI lV (aE fun w1 hI=>(haveI:=dp hI;gk w1 x.p x.n v hp hn hv)) F ?_))))))))
   rintro vr O' ⟨N,rfl,rfl,rfl⟩
   refine TO.qa F (ae (az (ao ?_)))
   refine aG (vI (nG v x.p x.n:Int)) Tryz.results127 F ?_
   exact⟨[],Sub.z,by unfold gi;rw[if_neg (by omega),if_neg (by omega),if_pos (by omega)],F⟩
  have mw: ¬x.op=3:=by omega
  refine aq (ai (TO.qa F (ae (az (ao ?_)))))
  refine aG (vI 0) Tryz.results127 F ?_
  exact⟨[],Sub.z,by unfold gi;rw[if_neg (by omega),if_neg (by omega),if_neg (by omega)];rfl,F⟩
 refine ad (ar (aF F) (decide_eq_false n_)) (ay F F (ay F F (ay F F (ad (aZ F F) (TO.qa F (ae (aL F (ai ?_))))))))
 refine ad (aJ bK F cP F F) (ad (aO 2 eC F F F F) (ad (bo F F) (TO.qa F (ae (aw F (fun hc=>?_) (fun hc=>?_))))))
 ·have mv:x.op=3:=by omega
  refine ai (ad (aJ bK F cP F F) (ad (aO 2 eC F F F F) (ad (aJ bK F cP F F) (ad (aO 2 eC F F F F) (ad (bE (cs:=[v8 x.p,v8 x.n]) gT eX (by kernel_rfl)) (ah F (aj F (aI lV (aE fun w1 hI=>(haveI:=dp hI;gk w1 x.p x.n v hp hn hv)) F ?_))))))))
  rintro vr O' ⟨N,rfl,rfl,rfl⟩
  refine TO.qa F (ae (az (ao ?_)))
  refine aG (vI (nG v x.p x.n:Int)) Tryz.results127 F ?_
  exact⟨[],Sub.z,by unfold gi;rw[if_neg (by omega),if_neg (by omega),if_pos (by omega)],F⟩
 have mw: ¬x.op=3:=by omega
 refine aq (ai (TO.qa F (ae (az (ao ?_)))))
 refine aG (vI 0) Tryz.results127 F ?_
 exact⟨[],Sub.z,by unfold gi;rw[if_neg (by omega),if_neg (by omega),if_neg (by omega)];rfl,F⟩
end Go.Proofs.YtgdbfideeeegmaaGreatDoor

namespace Go.Lx
open Go.RowKit Go.Proofs.YtgdbfideeeegmaaGreatDoor
def fW (v:Nat) (fs:List Nat) (x:dE):Except Nat Nat:=
 if gi v x≠0 then .error (gi v x)
 else if cT x.op=1 then(if fs.length=0∨x.a≠(fs.length:Int)-1 then .error 8 else .ok (fs.getD (fs.length-1) 0))
 else if cT x.op=2 then(if fs.length=0∨x.b≠(fs.length:Int)-1∨fs.getD (fs.length-1) 0=0∨x.a≠(fs.getD (fs.length-1) 0:Int)-1 then .error 8 else .ok (fs.getD x.a.toNat 0))
 else .ok fs.length
def sg (v:Nat) (h_:Except Nat (List Nat)) (x:dE):Except Nat (List Nat):=
 match h_ with
 | .error n=>.error n
 | .ok fs=>match fW v fs x with
  | .error n=>.error n
  | .ok b=>.ok (fs++[b])
def iV (v:Nat) (e:List dE):Except Nat (List Nat):=e.foldl (sg v) (.ok [])
theorem ya (v:Nat) {e:List dE} {i:Nat} (h:i<e.length):iV v (e.take (i+1))=sg v (iV v (e.take i)) e[i]:=by
 unfold iV;rw[List.take_succ_eq_append_getElem h,List.foldl_append];rfl
theorem sh (v n:Nat): ∀(e:List dE),e.foldl (sg v) (.error n)=.error n
 | []=>rfl
 |x::e=>by rw[List.foldl_cons];exact sh v n e
theorem Je {v n:Nat} {e:List dE} {i:Nat} (h:iV v (e.take i)=.error n):iV v e=.error n:=by
 conv=>lhs;rw[←List.take_append_drop i e]
 unfold iV at h⊢;rw[List.foldl_append,h,sh]
theorem iF {v n:Nat} {e:List dE} {fs:List Nat} {i:Nat} (hi:i<e.length) (hf:iV v (e.take i)=.ok fs) (hs:fW v fs e[i]=.error n):iV v e=.error n:=by
 refine Je (i:=i+1) ?_
 rw[ya v hi,hf];unfold sg;simp only[hs]
theorem pj {v b:Nat} {e:List dE} {fs:List Nat} {i:Nat} (hi:i<e.length) (hf:iV v (e.take i)=.ok fs) (hs:fW v fs e[i]=.ok b):iV v (e.take (i+1))=.ok (fs++[b]):=by
 rw[ya v hi,hf];unfold sg;simp only[hs]
theorem pO {fs:List Nat} {i b:Nat} (hl:fs.length=i) (h: ∀j,j<i→fs.getD j 0≤j) (hb:b≤i): ∀j,j<i+1→(fs++[b]).getD j 0≤j:=fun j hj=>by
 by_cases e:j=i
 ·subst e;rw[List.getD_eq_getElem?_getD,List.getElem?_append_right (by omega),hl,Nat.sub_self];exact hb
 ·have:=h j (by omega)
  rw[List.getD_eq_getElem?_getD]at this⊢
  rw[List.getElem?_append_left (by omega)];exact this
def lH (e:List dE):Nat→Nat→Bool→Bool
 |0,_,_=>true
 |f+1,i,fr=>
  if((e.getD i ⟨0,0,0,0,0⟩).op=9∨(e.getD i ⟨0,0,0,0,0⟩).op=10)∧fr=false then false
  else(decide (cT (e.getD i ⟨0,0,0,0,0⟩).op<1)||lH e f (e.getD i ⟨0,0,0,0,0⟩).a.toNat (fr&&decide ((e.getD i ⟨0,0,0,0,0⟩).op=4∨(e.getD i ⟨0,0,0,0,0⟩).op=5)))&&
   (decide (cT (e.getD i ⟨0,0,0,0,0⟩).op<2)||lH e f (e.getD i ⟨0,0,0,0,0⟩).b.toNat (fr&&decide ((e.getD i ⟨0,0,0,0,0⟩).op=4∨(e.getD i ⟨0,0,0,0,0⟩).op=5)))
theorem pk {e:List dE} {i:Nat} (h:i<e.length):e.getD i ⟨0,0,0,0,0⟩=e[i]:=by rw[List.getD_eq_getElem?_getD,List.getElem?_eq_getElem h];rfl
theorem ld {e:List dE} {f i:Nat} {fr:Bool} (h:i<e.length):lH e (f+1) i fr=if(e[i].op=9∨e[i].op=10)∧fr=false then false else(decide (cT e[i].op<1)||lH e f e[i].a.toNat (fr&&decide (e[i].op=4∨e[i].op=5)))&&(decide (cT e[i].op<2)||lH e f e[i].b.toNat (fr&&decide (e[i].op=4∨e[i].op=5))):=by
 rw[lH,pk h]
end Go.Lx

namespace Go.Lx
open Go.RowKit
structure Lf where
 op:Nat
 d:bY
 fo:List Nat
 la:Bool
instance:Inhabited Lf:=⟨⟨0,J0,[],false⟩⟩
abbrev Ob:=Nat×Nat
structure Cf where
 k:Int
 s:Nat
 o:List Ob
deriving DecidableEq
def qS (o:List Ob):List Int:=o.flatMap fun p=>[(p.1:Int),(p.2:Int)]
def Cf.nums (c:Cf):List Int:=c.k::(c.s:Int)::qS c.o
def Cf.key (c:Cf):Key:=gB c.nums
structure St where
 bh:List Nat
 cf:List Cf
def uF (x y:Key):Bool:=decide (x≤y)
def St.key (s:St):Key:=gB (s.bh.map fun y:Nat=>(y:Int))++((s.cf.map Cf.key).mergeSort uF).flatMap (fun k=>124::k)
theorem EI: ∀ {o p:List Ob},qS o=qS p→o=p
 | [],[],_=>rfl
 | [],(a,b)::p,h=>by simp[qS]at h
 |(a,b)::o,[],h=>by simp[qS]at h
 |(a,b)::o,(c,d)::p,h=>by
  simp only[qS,List.flatMap_cons,List.cons_append,List.nil_append,List.cons.injEq]at h
  rw[EI (o:=o) (p:=p) h.2.2,show a=c by omega,show b=d by omega]
theorem Jh {a b:Cf} (h:a.nums=b.nums):a=b:=by
 obtain⟨k,s,o⟩:=a
 obtain⟨k2,s2,o2⟩:=b
 simp only[Cf.nums,List.cons.injEq]at h
 obtain⟨h1,h2,h3⟩:=h
 rw[h1,show s=s2 by omega,EI h3]
theorem Iu (o:List Ob) (p:Ob):qS (o++[p])=qS o++[(p.1:Int),(p.2:Int)]:=by simp[qS]
theorem El (o:List Ob):(qS o).length=o.length*2:=by
 induction o with
 |nil=>rfl
 |cons p o ih=>simp only[qS,List.flatMap_cons,List.length_append,List.length_cons,List.length_nil]at ih⊢;omega
section
variable (ls:List Lf)
abbrev lf (k:Nat):Lf:=ls.getD k default
def sd (o:List Ob) (x:Ob):List Ob:=if dK (lf ls x.1).d x.2=true then o else o++[x]
mutual
def ft:Nat→List Nat→Nat→List Ob→List Cf
 |0,_,_,_=>[]
 |f+1,bh,k,o=>
  if(lf ls k).op=9 then fQ f bh k (sd ls o (k,(lf ls k).d.start.toNat))
  else if(lf ls k).op=10 then(if dK (lf ls k).d (bh.getD k 0)=true then fQ f bh k o else[])
  else⟨(k:Int),(lf ls k).d.start.toNat,o⟩::(if dK (lf ls k).d (lf ls k).d.start.toNat=true then fQ f bh k o else[])
def fQ:Nat→List Nat→Nat→List Ob→List Cf
 |0,_,_,_=>[]
 |f+1,bh,k,o=>((lf ls k).fo.flatMap fun j=>ft f bh j o)++(if(lf ls k).la=true then[⟨-1,0,o⟩]else[])
end
def lT (o:List Ob) (x:Nat):List Ob:=o.foldl (fun o p=>sd ls o (p.1,dJ (lf ls p.1).d p.2 x)) []
def iN (bh:List Nat) (x:Nat) (c:Cf):List Cf:=
 if c.k<0 then[]else
  ⟨c.k,dJ (lf ls c.k.toNat).d c.s x,lT ls c.o x⟩::(if dK (lf ls c.k.toNat).d (dJ (lf ls c.k.toNat).d c.s x)=true then fQ ls (2*ls.length) bh c.k.toNat (lT ls c.o x)else[])
def kY (bh:List Nat) (x:Nat):List Nat:=(List.range ls.length).map fun k=>if(lf ls k).op=10 then dJ (lf ls k).d (bh.getD k 0) x else 0
def j4 (first:List Nat):St:=⟨ls.map fun l=>l.d.start.toNat,(first.flatMap fun k=>ft ls (2*ls.length) (ls.map fun l=>l.d.start.toNat) k []).foldl add []⟩
def lL (s:St) (x:Nat):St:=⟨kY ls s.bh x,(s.cf.flatMap (iN ls (kY ls s.bh x) x)).foldl add []⟩
def qL (s:St):Bool:=s.cf.any fun c=>decide (c.k<0)&&c.o.isEmpty
structure gU (vs:Nat):Prop where
 len:ls.length≤12
 val: ∀l∈ls,Valid l.d
 vars: ∀l∈ls,l.d.vars=(vs:Int)
 op: ∀l∈ls,l.op=0∨l.op=9∨l.op=10
 fo: ∀k,k<ls.length→ ∀j∈(lf ls k).fo,k<j∧j<ls.length
 fol: ∀l∈ls,l.fo.length≤1000000
def eE (k:Nat) (o:List Ob):Prop:=o.Pairwise (fun p q=>p.1<q.1)∧ ∀p∈o,p.1<k∧p.2<(lf ls p.1).d.next.length
def im (c:Cf):Prop:=(c.k= -1∧c.s=0∧eE ls ls.length c.o)∨ ∃k:Nat,c.k=(k:Int)∧k<ls.length∧c.s<(lf ls k).d.next.length∧eE ls k c.o
structure n6 (bh:List Nat):Prop where
 len:bh.length=ls.length
 lt: ∀k,k<ls.length→bh.getD k 0<(lf ls k).d.next.length
structure jL (s:St):Prop where
 bh:n6 ls s.bh
 nd:s.cf.Nodup
 cf: ∀c∈s.cf,im ls c
def p7 (K:Nat):Prop:= ∀l:List Cf,l.Nodup→(∀c∈l,im ls c)→l.length≤K
variable {ls}
theorem jj {k:Nat} (h:k<ls.length):lf ls k∈ls:=by
 unfold lf;rw[List.getD_eq_getElem?_getD,List.getElem?_eq_getElem h];exact List.getElem_mem h
theorem C_ {k:Nat} (h:k<ls.length):lf ls k=ls[k]:=by
 unfold lf;rw[List.getD_eq_getElem?_getD,List.getElem?_eq_getElem h];rfl
theorem gU.iZ {vs:Nat} (h:gU ls vs) {k:Nat} (hk:k<ls.length):Valid (lf ls k).d:=h.val _ (jj hk)
theorem eE.nil {k:Nat}:eE ls k []:=⟨List.Pairwise.nil,fun p hp=>by simp at hp⟩
theorem eE.mono {k m:Nat} {o:List Ob} (h:eE ls k o) (hm:k≤m):eE ls m o:=⟨h.1,fun p hp=>⟨by have:=(h.2 p hp).1;omega,(h.2 p hp).2⟩⟩
theorem QF: ∀ {o:List Ob} {k:Nat},o.Pairwise (fun p q=>p.1<q.1)→(∀p∈o,p.1<k)→o.length≤k:=fun {o k} h1 h2=>by
 have h3:(o.map Prod.fst).Nodup:=by
  rw[List.nodup_iff_pairwise_ne]
  exact List.pairwise_map.2 (h1.imp fun h=>Nat.ne_of_lt h)
 have:=dR h3 (n:=k) fun x hx=>by obtain⟨p,hp,rfl⟩:=List.mem_map.1 hx;exact h2 p hp
 simpa using this
theorem eE.len {k:Nat} {o:List Ob} (h:eE ls k o):o.length≤k:=QF h.1 fun p hp=>(h.2 p hp).1
theorem sW {k:Nat} {o:List Ob} {x:Ob} (h:eE ls k o) (hk:k≤x.1) (hx:x.2<(lf ls x.1).d.next.length):eE ls (x.1+1) (sd ls o x):=by
 unfold sd
 split
 ·exact h.mono (by omega)
 ·refine⟨List.pairwise_append.2 ⟨h.1,List.pairwise_singleton _ _,fun p hp q hq=>?_⟩,fun p hp=>?_⟩
  ·rw[List.mem_singleton.1 hq];exact Nat.lt_of_lt_of_le (h.2 p hp).1 hk
  ·rcases List.mem_append.1 hp with hp|hp
   ·exact⟨by have:=(h.2 p hp).1;omega,(h.2 p hp).2⟩
   ·rw[List.mem_singleton.1 hp];exact⟨by omega,hx⟩
theorem sX {vs:Nat} (hG:gU ls vs) {x:Nat} (hx:x<2^vs): ∀ {o o1:List Ob} {m k:Nat},k≤ls.length→eE ls m o1→o.Pairwise (fun p q=>p.1<q.1)→(∀p∈o,m≤p.1∧p.1<k∧p.2<(lf ls p.1).d.next.length)→m≤k→eE ls k (o.foldl (fun o p=>sd ls o (p.1,dJ (lf ls p.1).d p.2 x)) o1)
 | [],o1,m,k,_,h1,_,_,hm=>h1.mono hm
 |p::o,o1,m,k,hk,h1,h2,h3,hm=>by
  rw[List.foldl_cons]
  have hp:=h3 p (by simp)
  have Cb:p.1<ls.length:=by omega
  have oX:dJ (lf ls p.1).d p.2 x<(lf ls p.1).d.next.length:=((hG.iZ Cb).toVal.fB hp.2.2 (by rw[hG.vars _ (jj Cb)];exact hx)).1
  have h4:=sW (x:=(p.1,dJ (lf ls p.1).d p.2 x)) h1 hp.1 oX
  refine sX hG hx hk h4 (List.pairwise_cons.1 h2).2 (fun q hq=>?_) (by show p.1+1≤k;omega)
  have:=(List.pairwise_cons.1 h2).1 q hq
  have h5:=h3 q (by simp[hq])
  exact⟨by show p.1+1≤q.1;omega,h5.2⟩
theorem wg {vs:Nat} (hG:gU ls vs) {x:Nat} (hx:x<2^vs) {k:Nat} {o:List Ob} (hk:k≤ls.length) (h:eE ls k o):eE ls k (lT ls o x):=
 sX hG hx hk (m:=0) .nil h.1 (fun p hp=>⟨Nat.zero_le _,h.2 p hp⟩) (Nat.zero_le _)
mutual
theorem tS {vs:Nat} (hG:gU ls vs) {bh:List Nat}: ∀(f:Nat) {k:Nat} {o:List Ob},k<ls.length→eE ls k o→ ∀c∈ft ls f bh k o,im ls c
 |0,k,o,_,_,c,hc=>by simp[ft]at hc
 |f+1,k,o,hk,ho,c,hc=>by
  have hs:=dH (hG.iZ hk).toVal
  have Y2:eE ls (k+1) o:=ho.mono (by omega)
  unfold ft at hc
  split at hc
  ·exact mB hG f hk (sW (x:=(k,_)) ho (Nat.le_refl _) hs) c hc
  ·split at hc
   ·split at hc
    ·exact mB hG f hk Y2 c hc
    ·simp at hc
   ·rcases List.mem_cons.1 hc with rfl|hc
    ·exact .inr ⟨k,F,hk,hs,ho⟩
    ·split at hc
     ·exact mB hG f hk Y2 c hc
     ·simp at hc
theorem mB {vs:Nat} (hG:gU ls vs) {bh:List Nat}: ∀(f:Nat) {k:Nat} {o:List Ob},k<ls.length→eE ls (k+1) o→ ∀c∈fQ ls f bh k o,im ls c
 |0,k,o,_,_,c,hc=>by simp[fQ]at hc
 |f+1,k,o,hk,ho,c,hc=>by
  unfold fQ at hc
  rcases List.mem_append.1 hc with hc|hc
  ·obtain⟨j,hj,hc⟩:=List.mem_flatMap.1 hc
   have:=hG.fo k hk j hj
   exact tS hG f this.2 (ho.mono (by omega)) c hc
  ·split at hc
   ·rw[List.mem_singleton.1 hc];exact .inl ⟨F,F,ho.mono (by omega)⟩
   ·simp at hc
end
theorem nR: ∀(l ks:List Cf),ks.Nodup→(l.foldl add ks).Nodup
 | [],ks,h=>h
 |k::l,ks,h=>nR l _ (lr h)
theorem pg {vs:Nat} (hG:gU ls vs):n6 ls (ls.map fun l=>l.d.start.toNat):=
 ⟨by simp,fun k hk=>by rw[List.getD_eq_getElem?_getD,List.getElem?_map,List.getElem?_eq_getElem hk];rw[C_ hk];exact dH (hG.val _ (List.getElem_mem hk)).toVal⟩
theorem we {vs:Nat} (hG:gU ls vs) {bh:List Nat} (hb:n6 ls bh) {x:Nat} (hx:x<2^vs):n6 ls (kY ls bh x):=
 ⟨by simp[kY],fun k hk=>by
  unfold kY
  rw[List.getD_eq_getElem?_getD,List.getElem?_map,List.getElem?_range hk]
  show(if _ then _ else _)<_
  split
  ·exact((hG.iZ hk).toVal.fB (hb.lt k hk) (by rw[hG.vars _ (jj hk)];exact hx)).1
  ·exact(hG.iZ hk).n0⟩
theorem wl {vs:Nat} (hG:gU ls vs) {first:List Nat} (hf: ∀k∈first,k<ls.length):jL ls (j4 ls first):=by
 refine⟨pg hG,nR _ _ List.nodup_nil,fun c hc=>?_⟩
 rcases(dj _ _).1 hc with hc|hc
 ·simp at hc
 ·obtain⟨k,hk,hc⟩:=List.mem_flatMap.1 hc
  exact tS hG _ (hf k hk) .nil c hc
theorem Dl {vs:Nat} (hG:gU ls vs) {bh:List Nat} {x:Nat} (hx:x<2^vs) {c:Cf} (h:im ls c): ∀d∈iN ls bh x c,im ls d:=fun d hd=>by
 rcases h with⟨h1,_,_⟩|⟨k,h1,hk,hs,ho⟩
 ·unfold iN at hd;rw[if_pos (by omega)]at hd;simp at hd
 ·unfold iN at hd
  rw[if_neg (by omega),h1]at hd
  have rh:=wg hG hx (Nat.le_of_lt hk) ho
  have oX:dJ (lf ls k).d c.s x<(lf ls k).d.next.length:=((hG.iZ hk).toVal.fB hs (by rw[hG.vars _ (jj hk)];exact hx)).1
  rcases List.mem_cons.1 hd with rfl|hd
  ·exact .inr ⟨k,F,hk,oX,rh⟩
  ·split at hd
   ·exact mB hG _ hk (rh.mono (by omega)) d hd
   ·simp at hd
theorem pN {vs:Nat} (hG:gU ls vs) {s:St} (h:jL ls s) {x:Nat} (hx:x<2^vs):jL ls (lL ls s x):=by
 refine⟨we hG h.bh hx,nR _ _ List.nodup_nil,fun c hc=>?_⟩
 rcases(dj _ _).1 hc with hc|hc
 ·simp at hc
 ·obtain⟨y,hy,hc⟩:=List.mem_flatMap.1 hc
  exact Dl hG hx (h.cf y hy) c hc
theorem eE.num {vs:Nat} (hG:gU ls vs) {k:Nat} {o:List Ob} (hk:k≤ls.length) (h:eE ls k o): ∀n∈qS o,lg n:=fun n hn=>by
 obtain⟨p,hp,hn⟩:=List.mem_flatMap.1 hn
 have h1:=h.2 p hp
 have:=hG.len;have:=(hG.iZ (show p.1<ls.length by omega)).n4
 simp only[List.mem_cons,List.not_mem_nil,or_false]at hn
 rcases hn with rfl|rfl<;>exact .inr ⟨by omega,by omega⟩
theorem im.num {vs:Nat} (hG:gU ls vs) {c:Cf} (h:im ls c): ∀n∈c.nums,lg n:=fun n hn=>by
 have:=hG.len
 unfold Cf.nums at hn
 rcases h with⟨h1,h2,h3⟩|⟨k,h1,hk,h2,h3⟩
 ·rw[h1,h2]at hn
  rcases List.mem_cons.1 hn with rfl|hn
  ·exact .inl F
  ·rcases List.mem_cons.1 hn with rfl|hn
   ·exact .inr ⟨by omega,by omega⟩
   ·exact h3.num hG (Nat.le_refl _) n hn
 ·have:=(hG.iZ hk).n4
  rw[h1]at hn
  rcases List.mem_cons.1 hn with rfl|hn
  ·exact .inr ⟨by omega,by omega⟩
  ·rcases List.mem_cons.1 hn with rfl|hn
   ·exact .inr ⟨by omega,by omega⟩
   ·exact h3.num hG (Nat.le_of_lt hk) n hn
theorem im.PN {vs:Nat} (hG:gU ls vs) {c:Cf} (h:im ls c):c.o.length≤64:=by
 have:=hG.len
 rcases h with⟨_,_,h3⟩|⟨k,_,hk,_,h3⟩
 ·have:=h3.len;omega
 ·have:=h3.len;omega
theorem key_inj {vs:Nat} (hG:gU ls vs) {c d:Cf} (hc:im ls c) (hd:im ls d) (h:c.key=d.key):c=d:=
 Jh (wv (hc.num hG) (hd.num hG) h)
end
end Go.Lx

namespace Go.Lx
open Go.RowKit
section
variable {P:Program} {base:World} {O:List Item} {ρ:Env} {dst:Option Nat} {t:TypeId} {p:String} {af:Array Edge} {g:Option (Nat×Bool)}
theorem Iv {x y:Operand} {T U:TypeId} {a b:List UInt8} (hx:ev ρ x=str a) (hy:ev ρ y=str b):QT P base ⟨dst,.binOp .eql T x y U,t,p,af,g⟩ ρ O (.bool (decide (a=b))):=fun w _=>by
 simp[execOp,hx,hy,eqGuard,binOp,str,Op.stringOp]
 by_cases e:a=b
 ·subst e;simp
 ·simp[e]
end
structure OB where
 b:Option Addr
 c:Nat
 o:List Ob
def OB.val (r:OB):Value:=.slice r.b r.o.length r.c
def ei (o:List Ob):List Value:=o.flatMap fun p=>[.int .i64 (p.1:Int),.int .i64 (p.2:Int)]
def OB.lZ (T:TypeId) (r:OB):Item:=ak r.b r.c T 2 (ei r.o)
def eR (T:TypeId) (p:List OB):List Item:=p.map (OB.lZ T)
def kG (p:List OB) (r:OB):Prop:=r∈p∨r.o=[]
theorem iE (o:List Ob):(ei o).length=o.length*2:=by
 induction o with
 |nil=>rfl
 |cons p o ih=>simp only[ei,List.flatMap_cons,List.length_append,List.length_cons,List.length_nil]at ih⊢;omega
def yd (p:Ob):List Value:=[.int .i64 (p.1:Int),.int .i64 (p.2:Int)]
theorem lS {o:List Ob}: ∀ {i:Nat} (hi:i<o.length) (j:Nat) (h:j<(yd o[i]).length),(ei o)[i*2+j]? =some (yd o[i])[j]:=by
 induction o with
 |nil=>intro i hi;simp at hi
 |cons p o ih=>
  intro i hi j hj
  show(yd p++ei o)[i*2+j]? =_
  cases i with
  |zero=>rw[Nat.zero_mul,Nat.zero_add,List.getElem?_append_left (show j<(yd p).length from hj)];exact List.getElem?_eq_getElem hj
  |succ i=>
   have h2:(yd p).length=2:=rfl
   rw[List.getElem?_append_right (by rw[h2];omega),show(i+1)*2+j-(yd p).length=i*2+j by rw[h2];omega]
   exact ih (by simpa using hi) j hj
theorem tK (o:List Ob) (p:Ob):ei (o++[p])=ei o++[.int .i64 (p.1:Int),.int .i64 (p.2:Int)]:=by simp[ei]
structure CR where
 k:Int
 s:Nat
 r:OB
def CR.cf (c:CR):Cf:=⟨c.k,c.s,c.r.o⟩
def CR.cells (c:CR):List Value:=[.int .i64 c.k,.int .i64 (c.s:Int),.slice c.r.b c.r.o.length c.r.c]
def cz (l:List CR):List Value:=l.flatMap CR.cells
theorem nO (l:List CR):(cz l).length=l.length*3:=by
 induction l with
 |nil=>rfl
 |cons p l ih=>simp only[cz,List.flatMap_cons,List.length_append,List.length_cons]at ih⊢;rw[ih];simp[CR.cells];omega
theorem qR {l:List CR}: ∀ {i:Nat} (hi:i<l.length) (j:Nat) (h:j<l[i].cells.length),(cz l)[i*3+j]? =some l[i].cells[j]:=by
 induction l with
 |nil=>intro i hi;simp at hi
 |cons p l ih=>
  intro i hi j hj
  show(p.cells++cz l)[i*3+j]? =_
  cases i with
  |zero=>rw[Nat.zero_mul,Nat.zero_add,List.getElem?_append_left (show j<p.cells.length from hj)];exact List.getElem?_eq_getElem hj
  |succ i=>
   have h3:p.cells.length=3:=rfl
   rw[List.getElem?_append_right (by rw[h3];omega),show(i+1)*3+j-p.cells.length=i*3+j by rw[h3];omega]
   exact ih (by simpa using hi) j hj
theorem Bj (l:List CR) (c:CR):cz (l++[c])=cz l++c.cells:=by simp[cz]
def xf (l:List CR) (c:CR):List CR:=if c.cf∈l.map CR.cf then l else l++[c]
theorem En (l:List CR) (c:CR):(xf l c).map CR.cf=add (l.map CR.cf) c.cf:=by
 unfold xf add;split<;>simp
theorem kG.sl {T:TypeId} {w base:World} {O:List Item} {p:List OB} {r:OB} (hI:Inv base O w) (hO: ∀it∈eR T p,it∈O) (h:kG p r):Sl w r.b (ei r.o):=by
 rcases h with h|h
 ·exact hI.eV (hO _ (List.mem_map.2 ⟨r,h,F⟩))
 ·rw[h];exact fun i hi=>absurd hi (by simp[ei])
theorem kG.mono {p q:List OB} {r:OB} (h:kG p r) (hq: ∀x∈p,x∈q):kG q r:=h.elim (fun h=>.inl (hq _ h)) .inr
structure LK where
 k:DK
 b:Option Addr
 c:Nat
instance:Inhabited LK:=⟨⟨⟨none,0,none,0,[]⟩,none,0⟩⟩
def js (l:Lf) (k:LK):List Value:=[.int .u8 (l.op:Int)]++dC l.d k.k++[.slice k.b l.fo.length k.c,.bool l.la]
def cI (ls:List Lf) (ks:List LK):List Value:=(ls.zip ks).flatMap fun p=>js p.1 p.2
abbrev lk (ks:List LK) (k:Nat):LK:=ks.getD k default
theorem v_: ∀ {ls:List Lf} {ks:List LK} {i:Nat} (hk:ks.length=ls.length) (hi:i<ls.length) (j:Nat) (h:j<(js (lf ls i) (lk ks i)).length),(cI ls ks)[i*7+j]? =some (js (lf ls i) (lk ks i))[j]:=by
 intro ls
 induction ls with
 |nil=>intro ks i _ hi;simp at hi
 |cons l ls ih=>
  intro ks i hk hi j hj
  cases ks with
  |nil=>simp at hk
  |cons k ks=>
   show(js l k++cI ls ks)[i*7+j]? =_
   cases i with
   |zero=>rw[Nat.zero_mul,Nat.zero_add,List.getElem?_append_left (show j<(js l k).length from hj)];exact List.getElem?_eq_getElem hj
   |succ i=>
    have h7:(js l k).length=7:=rfl
    rw[List.getElem?_append_right (by rw[h7];omega),show(i+1)*7+j-(js l k).length=i*7+j by rw[h7];omega]
    exact ih (by simpa using hk) (by simpa using hi) j hj
theorem cX {ls:List Lf} {ks:List LK} (hk:ks.length=ls.length):(cI ls ks).length=ls.length*7:=by
 have: ∀(z:List (Lf×LK)),(z.flatMap fun p=>js p.1 p.2).length=z.length*7:=by
  intro z
  induction z with
  |nil=>rfl
  |cons p z ih=>rw[List.flatMap_cons,List.length_append,ih,show(js p.1 p.2).length=7 from F,List.length_cons];omega
 unfold cI;rw[this,List.length_zip,hk,Nat.min_self]
structure jK (w:World) (ob:Nat) (lb:Option Addr) (lc:Nat) (cv fv:Value) (ls:List Lf) (ks:List LK):Prop where
 bx:Sl w (some ⟨ob,0,none⟩) [cv,.slice lb ls.length lc,fv]
 rw:Sl w lb (cI ls ks)
 kl:ks.length=ls.length
 dk: ∀k,k<ls.length→At w (lf ls k).d (lk ks k).k
 fo: ∀k,k<ls.length→Sl w (lk ks k).b (aQ (lf ls k).fo)
theorem Inv.out {base w:World} {O:List Item} (hI:Inv base O w) {ob:Nat} {lb:Option Addr} {lc:Nat} {cv fv:Value} {ls:List Lf} {ks:List LK} (h:jK base ob lb lc cv fv ls ks):jK w ob lb lc cv fv ls ks:=
 ⟨hI.sl h.bx,hI.sl h.rw,h.kl,fun k hk=>hI.oH (h.dk k hk),fun k hk=>hI.sl (h.fo k hk)⟩
theorem Bm (T:TypeId) (p q:List OB):eR T (p++q)=eR T p++eR T q:=List.map_append
structure jO (ls:List Lf) (l:List CR) (p:List OB):Prop where
 LC: ∀y∈l,im ls y.cf
 nd:(l.map CR.cf).Nodup
 IC: ∀y∈l,kG p y.r
theorem jO.mono {ls:List Lf} {l:List CR} {p q:List OB} (h:jO ls l p) (hq: ∀x∈p,x∈q):jO ls l q:=⟨h.LC,h.nd,fun y hy=>(h.IC y hy).mono hq⟩
theorem jO.len {ls:List Lf} {l:List CR} {p:List OB} (h:jO ls l p) {K:Nat} (hK:p7 ls K):l.length≤K:=by
 have:=hK (l.map CR.cf) h.nd fun c hc=>by obtain⟨y,hy,rfl⟩:=List.mem_map.1 hc;exact h.LC y hy
 simpa using this
theorem jO.add {ls:List Lf} {l:List CR} {p:List OB} (h:jO ls l p) {x:CR} (hx:im ls x.cf) (hp:kG p x.r):jO ls (xf l x) p:=by
 have hm: ∀y∈xf l x,y∈l∨y=x:=fun y hy=>by
  unfold xf at hy;split at hy
  ·exact .inl hy
  ·simpa using hy
 refine⟨fun y hy=>(hm y hy).elim (h.LC y) (fun e=>e▸hx),by rw[En];exact lr h.nd,fun y hy=>(hm y hy).elim (h.IC y) (fun e=>e▸hp)⟩
theorem bw.post {P:Program} {base:World} {f:FuncId} {args:List Value} {O:List Item} {R R':Value→List Item→Prop} (h:bw P base f args O R) (hr: ∀v O',R v O'→ ∃O2,Sub O2 O'∧R' v O2):bw P base f args O R':=fun w M hI=>
 (h w M hI).mono fun e w' ⟨v,O',he,mh,hv⟩=>by
  obtain⟨O2,hs,h2⟩:=hr v O' hv
  exact⟨v,O2,he,mh.jf hs.sw,h2⟩
theorem pe (A B C X:List Item) (h:Sub (A++B) C):Sub ((A++X)++B) (C++X):=by
 obtain⟨l,h1,h2⟩:=h
 refine⟨l++X,?_,h2.append (List.Sublist.refl _)⟩
 refine List.Perm.trans ?_ (h1.append_right X)
 rw[List.append_assoc,List.append_assoc]
 exact List.Perm.append_left A List.perm_append_comm
theorem pf (A B X:List Item):Sub ((A++B)++X) ((A++X)++B):=by
 refine⟨_,?_,List.Sublist.refl _⟩
 rw[List.append_assoc,List.append_assoc]
 exact List.Perm.append_left A List.perm_append_comm
end Go.Lx

namespace Go.Proofs.YtgdbfideeeegmaaGreatDoor
open Go.Lx Go.RowKit _root_.Go.Proofs.Tryz
theorem Tr (base:World) [cG Tryz.prog base] (b:Option Addr) (c m:Nat) (l:List UInt8) (hl:l.length=m) (hm:m≤900000):
  bw Tryz.prog base 210 [.slice b m c,vI (-1),vI 10] [ak b c 5 1 (cd l)] (fun v O'=> ∃b' c',v=.slice b' (m+(ji (-1)).length) c'∧O'=[ak b' c' 5 1 (cd (l++ji (-1)))]):=by
 refine av func210 F ntmps210 F ?_
 refine ai (TO.qa F (ae (ai (ah F (ad (GW uT2 Ts F) (TO.qa F (ae (ax (ai (ah F (ad (bI F F) (ae ?_))))))))))))
 refine bg F ?_
 refine ai (ah F (aj F (bN (v:=.int .u8 45) lM cP F F F (fun uz=>?_))))
 refine aj F (bX 1 lM lM cP F F F F (by simp[hl]) (by decide) (Src.row (j:=0) F (by simp)) (by simp[dD]) (by omega) (by decide) (by decide) (fun Gq c3=>?_))
 refine TO.qa F (ae (aH (ah F (ad (Tt F) (TO.qa F (ae (ai (ah F (ah F (ah F ?_))))))))))
 have lJ:=(bw.sub (O':=[ak Gq c3 5 1 (cd (l++[45]))]) (O:=[ak (aD uz) 1 5 1 [.int .u8 45],ak Gq c3 5 1 ((cd l)++[.int .u8 45])]) (by rw[show cd (l++[45])=cd l++[Value.int .u8 45]from List.map_append];exact(by exact Sub.d (.k .z))) (A4 base Gq c3 0 (m+1) 1 (l++[45]) (by simp[hl]) (by decide) (by omega)))
 refine aj F (aI HY lJ F ?_)
 clear lJ
 rintro vr O' ⟨b9,c9,rfl,rfl⟩
 refine TO.qa F (ae (az ?_))
 refine aG (.slice b9 (m+1+(Lib.decDigits 1).length) c9) Tryz.results210 F ?_
 exact⟨b9,c9,by simp[ji,Lib.decDigits,Nat.add_assoc],by simp[ji,Lib.decDigits]⟩
theorem W2 (base:World) [cG Tryz.prog base] (b:Option Addr) (c m:Nat) (l:List UInt8) (hl:l.length=m) (hm:m≤900000):
  bw Tryz.prog base 160 [.slice b m c,vI (-1),vI 10] [ak b c 5 1 (cd l)] (fun v O'=> ∃b' c',v=.slice b' (m+(ji (-1)).length) c'∧O'=[ak b' c' 5 1 (cd (l++ji (-1)))]):=by
 refine av func160 F ntmps160 F ?_
 refine ai (TO.qa F (ae (ai (ah F (ah F (ah F ?_))))))
 have lK:=Tr base b c m l hl hm
 refine aj F (aI HZ lK F ?_)
 clear lK
 rintro vr O' ⟨b2,c2,rfl,rfl⟩
 refine TO.qa F (ae (az ?_))
 refine aG (.slice b2 (m+(ji (-1)).length) c2) Tryz.results160 F ?_
 exact⟨b2,c2,F,F⟩
theorem Tu (base:World) [cG Tryz.prog base] (b:Option Addr) (c m:Nat) (l:List UInt8) (n:Int) (hl:l.length=m) (hn:lg n) (hm:m≤900000):
  bw Tryz.prog base 160 [.slice b m c,vI n,vI 10] [ak b c 5 1 (cd l)] (fun v O'=> ∃b' c',v=.slice b' (m+(ji (n)).length) c'∧O'=[ak b' c' 5 1 (cd (l++ji (n)))]):=by
 by_cases h:n= -1
 ·subst h;exact W2 base b c m l hl hm
 ·rcases hn with hn|⟨h0,h1⟩
  ·contradiction
  ·obtain⟨k,rfl⟩:=Int.eq_ofNat_of_zero_le h0
   have h9:=Pc base b c 0 m k l hl (by omega) (by omega)
   unfold ji;rw[if_neg h];exact h9
theorem Nj (base:World) [cG Tryz.prog base] (b lb:Option Addr) (c m lc:Nat) (xs:List UInt8) (l:List Int) (hx:xs.length=m) (hL:Sl base lb (ints l)) (hn: ∀n∈l,lg n) (hm:m+13*l.length≤800000):
  bw Tryz.prog base 112 [.slice b m c,.slice lb l.length lc] [ak b c 5 1 (cd xs)] (fun v O'=> ∃b' c',v=.slice b' (m+(gB l).length) c'∧O'=[ak b' c' 5 1 (cd (xs++gB l))]):=by
 refine av func112 F ntmps112 F ?_
 refine ai (TO.qa F (ae (ax (ai (ah F (ad (bL bT F) (ah F (ae (aC ?_)))))))))
 refine cE (fun(i:Nat) ρ O=> ∃(jb:Option Addr) (jc:Nat),O=[ak jb jc 5 1 (cd (xs++gB (l.take i)))]∧i≤l.length∧bZ [(0,(.slice jb (m+(gB (l.take i)).length) jc)),(1,(.slice lb l.length lc)),(4,nS),(7,(.slice lb l.length lc)),(8,vI (l.length:Int)),(9,vN i)] ρ) (fun i=>l.length-i) 0 ?_ ?_
 ·exact⟨b,c,by simp[gB],Nat.zero_le _,⟨(by show Value.slice b m c=_;simp[gB]),F,F,F,F,F,trivial⟩⟩
 rintro i ρ O ⟨jb,jc,rfl,hi,hH⟩
 obtain⟨eP,rfl⟩:=hH.elim
 clear hH
 have H0:=nK (l:=l.take i) fun n h=>hn n (List.mem_of_mem_take h)
 have eU:=List.length_take_le i l
 refine ai (ad (bI F F) (ae (ax (aw F (fun hc=>?_) (fun hc=>?_)))))
 ·have jQ:i<l.length:=by omega
  have hdl:=oY (hn _ (List.getElem_mem jQ))
  refine aq (ax (aC (ai (ad (cq (i:=i) bT aM F F (aB hL)) (ad (bS dh F F (aB hL) d_) (TO.qa F (ae (aH (ah F (ah F ?_))))))))))
  have H1:=Tu base jb jc (m+(gB (l.take i)).length) (xs++gB (l.take i)) l[i] (by simp[hx]) (hn _ (List.getElem_mem jQ)) (by omega)
  refine aj F (aI yL H1 F ?_)
  clear H1
  rintro vr O' ⟨b2,c2,rfl,rfl⟩
  refine aj F (bN (v:=.int .u8 32) lM cP F F F (fun uz=>?_))
  refine aj F (bX 1 lM lM cP F F F F (by simp[hx,Nat.add_assoc]) (by decide) (Src.row (j:=0) F (by simp)) (by simp[dD]) (by have:=oY (hn _ (List.getElem_mem jQ));omega) (by decide) (by decide) (fun Gq c3=>?_))
  refine TO.qa F (ae (aH (ad (cj (a:=i) (b:=1) F F (by omega)) (ah F (ae ?_)))))
  have e9:=A5 jQ
  exact⟨i+1,by omega,[ak Gq c3 5 1 ((cd (xs++gB (l.take i)++ji l[i]))++[.int .u8 32])],(by exact Sub.d (.k .z)),Gq,c3,by rw[e9,←List.append_assoc,←List.append_assoc,show cd (xs++gB (l.take i)++ji l[i]++[32])=cd (xs++gB (l.take i)++ji l[i])++[Value.int .u8 32]from List.map_append],by omega,⟨(congrArg (fun n9=>Value.slice Gq n9 c3) (show m+(gB (l.take i)).length+(ji l[i]).length+1=m+(gB (l.take (i+1))).length by rw[e9];simp only[List.length_append,List.length_cons,List.length_nil,Nat.add_assoc])),F,F,F,F,F,trivial⟩⟩
 have tx: ¬i<l.length:=by omega
 refine bn ?_
 refine ai (ah F (TO.qa F (ae (az ?_))))
 refine aG (.slice jb (m+(gB (l.take i)).length) jc) Tryz.results112 F ?_
 have sO:i=l.length:=by omega
 subst sO
 rw[List.take_length]
 exact⟨jb,jc,F,F⟩
theorem rZ (w:World) [cG Tryz.prog w] (cb:Nat) (eb:Option Addr) (en ec vs B:Nat) (hc:Sl w (aD cb) [.slice eb en ec,vI (vs:Int),vI (B:Int)]) (d:bY) (k:DK) (e:Int):
  dq Tryz.prog w (.iface 163 (.agg #[])) 101 [(du (aD cb) 0),dV d k,vI e] [] (fun v N=>v=dV d k∧N=[]∧e=0∧d.next.length≤B) (¬(e=0∧d.next.length≤B)):=by
 refine dA func101 F ntmps101 F ?_
 refine ai (aj F (cL (cs:=(dC d k)) F F (fun uz=>?_)))
 refine aj F (aR aX F (fun Gq=>?_))
 refine ae (ax (ax ?_))
 refine dO [(0,0),(1,0),(2,0),(3,0),(4,0),(5,0),(6,0),(7,0),(8,0),(9,0),(10,0),(11,0)] ?_
 refine am F (aF F) ?_
 by_cases he:e≠0
 ·refine am F (ar (cS F F) (decide_eq_true he)) ?_
  refine am F (aF F) (be F F F (be F F F (be F F F (be F F F (be F F F (be F F F (be F F F ?_)))))))
  refine be F F F (am F (bt F F) ?_)
  refine bu ?_
  refine bg F ?_
  refine aH (ad (bE r5 vT F) (ad (nf A6 F) ?_))
  exact dP F (r8 F (fun _=>⟨F,fun h9=>by omega⟩))
 refine am F (ar (cS F F) (decide_eq_false he)) (am F (aF F) ?_)
 refine aS F F F (aJ cy F cU F F) ?_
 refine aS F F F (aO 1 dB F F F F) ?_
 refine aS F F F (bL dB F) ?_
 refine aS F F F (aF F) ?_
 refine aS F F F (aP F) ?_
 refine aS F F F (bG kR F aM F F (aB hc) (by first|omega|(simp;done)|(simp;omega)|(simp_all;done)|(simp_all;omega))) ?_
 refine aS F F F (bS dh F F (aB hc) F) ?_
 refine aS F F F (fw F F) ?_
 refine am F (aZ F F) ?_
 refine bu ?_
 refine aw F (fun hc=>?_) (fun hc=>?_)
 ·have MC:d.next.length>B:=by omega
  refine aH (ad (bE r5 vT F) (ad (nf A6 F) ?_))
  exact dP F (r8 F (fun _=>⟨F,fun h9=>by omega⟩))
 have xo: ¬d.next.length>B:=by omega
 have Aa:d.next.length≤B:=by omega
 refine aq (ai (ad (cN 1 cy F aX F F F) (aj F (bj (vs:=(dC d k)) 0 aX F F F F ?_))))
 refine ae (az (ao ?_))
 refine bf (i:=0) Tryz.results101 cy F aX F F F ?_
 exact⟨[],Sub.z,F,F,by omega,Aa⟩
end Go.Proofs.YtgdbfideeeegmaaGreatDoor

