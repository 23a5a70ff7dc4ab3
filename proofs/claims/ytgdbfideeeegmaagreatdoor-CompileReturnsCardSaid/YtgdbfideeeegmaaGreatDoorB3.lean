/- Contracts of functions of the program, and what they answer. Conditions: those each theorem names. -/
import Derived.Test.YtgdbfideeeegmaaGreatDoorB2
import Derived.Test.YtgdbfideeeegmaaGreatDoorA9
import Derived.Test.YtgdbfideeeegmaaGreatDoorA2
import Derived.Test.YtgdbfideeeegmaaGreatDoorA5
import Derived.Test.YtgdbfideeeegmaaGreatDoorB0
import Derived.Test.YtgdbfideeeegmaaGreatDoorA7
import Derived.Test.YtgdbfideeeegmaaGreatDoorA0
set_option linter.unusedSectionVars false
set_option linter.unusedSimpArgs false
set_option linter.unusedVariables false
set_option linter.unnecessarySimpa false
set_option maxHeartbeats 8000000
set_option maxRecDepth 20000
namespace Go.Lx
open Go.RowKit
structure En where
 c:Nat
 n:Nat
 r:Nat
 f:Nat
def En.to (e:En) (s x:Nat):Nat:=(e.r>>>(4*(e.c*s+x)))%16
def En.fi (e:En) (s:Nat):Bool:=e.f.testBit s
theorem En.Gu (e:En) (s x:Nat):e.to s x<16:=Nat.mod_lt _ (by decide)
structure Mc where
 c:Nat
 s0:Nat
 st:Nat→Nat→Nat
 fi:Nat→Bool
def Mc.run (m:Mc) (s:Nat) (w:List Nat):Nat:=w.foldl m.st s
def En.mc (e:En):Mc:=⟨e.c,0,e.to,e.fi⟩
def tL (v:Nat) (m:Mc) (p:Lg):Prop:= ∃h:Nat→Nat,(∀x,x<2^v→h x<m.c)∧ ∀w,jn (v:Int) w→p w=m.fi (m.run m.s0 (w.map h))
def fo {α:Type} (n:Nat) (k:Nat→α):α:=Nat.rec (motive:=fun _=>α) (k 0) (fun m _=>k (Nat.succ m)) n
theorem Dd {α:Type} (n:Nat) (k:Nat→α):fo n k=k n:=by cases n<;>rfl
def vW (n:Nat) (p:Nat→Bool):Bool:=Nat.rec (motive:=fun _=>Bool) true (fun k ih=>cond (p k) ih false) n
theorem kY {p:Nat→Bool}: ∀ {n:Nat},vW n p=true↔ ∀k,k<n→p k=true
 |0=>⟨fun _ k hk=>absurd hk (by omega),fun _=>rfl⟩
 |n+1=>by
  have ih:=kY (p:=p) (n:=n)
  have e:vW (n+1) p=cond (p n) (vW n p) false:=rfl
  rw[e]
  cases h:p n with
  |false=>exact⟨fun h2=>Bool.noConfusion h2,fun h2=>by rw[h2 n (by omega)]at h;cases h⟩
  |true=>
   show vW n p=true↔_
   rw[ih]
   exact⟨fun h2 k hk=>(Nat.lt_succ_iff_lt_or_eq.1 hk).elim (h2 k) fun e=>e▸h,fun h2 k hk=>h2 k (by omega)⟩
noncomputable def yO (l:List Nat) (x:Nat):Bool:=List.rec (motive:=fun _=>Bool) false (fun y _ ih=>cond (Nat.beq x y) true ih) l
theorem qQ {x:Nat}: ∀ {l:List Nat},yO l x=true↔x∈l
 | []=>by simp[yO]
 |y::l=>by
  have ih:=qQ (x:=x) (l:=l)
  have e:yO (y::l) x=cond (Nat.beq x y) true (yO l x):=rfl
  rw[e]
  cases h:Nat.beq x y with
  |true=>have:=Nat.eq_of_beq_eq_true h;subst this;simp
  |false=>
   have h2:x≠y:=Nat.ne_of_beq_eq_false h
   show yO l x=true↔_
   rw[ih];simp[h2]
noncomputable def x9 (l:List Nat) (p:Nat→Bool):Bool:=List.rec (motive:=fun _=>Bool) true (fun y _ ih=>cond (p y) ih false) l
theorem uL {p:Nat→Bool}: ∀ {l:List Nat},x9 l p=true↔ ∀x∈l,p x=true
 | []=>by simp[x9]
 |y::l=>by
  have ih:=uL (p:=p) (l:=l)
  have e:x9 (y::l) p=cond (p y) (x9 l p) false:=rfl
  rw[e]
  cases h:p y with
  |false=>simp[h]
  |true=>show x9 l p=true↔_;rw[ih];simp[h]
noncomputable def LR (c:Nat) (st:Nat→Nat→Nat) (n:Nat):List Nat→List Nat→List Nat:=
 Nat.rec (motive:=fun _=>List Nat→List Nat→List Nat) (fun _ seen=>seen) (fun _ ih todo seen=>
  List.rec (motive:=fun _=>List Nat) seen (fun s rest _=>
   (Nat.rec (motive:=fun _=>List Nat→List Nat→List Nat) (fun t sn=>ih t sn) (fun x k t sn=>fo (st s x) fun y=>cond (yO sn y) (k t sn) (k (y::t) (y::sn))) c:List Nat→List Nat→List Nat) rest seen) todo) n
noncomputable def Ub (m:Mc) (e:En) (g:Nat) (L:List Nat):Bool:=
 yO L (m.s0*16)&&x9 L fun p=>((m.fi (p/16)==e.fi (p%16))&&vW m.c fun x=>fo (m.st (p/16) x*16+e.to (p%16) ((g>>>(4*x))%16)) (yO L))
theorem OK {m:Mc} {e:En} {g:Nat} {L:List Nat} (h:Ub m e g L=true): ∀ {w:List Nat} {s t:Nat},t<16→s*16+t∈L→(∀x∈w,x<m.c)→m.fi (m.run s w)=e.fi (e.mc.run t (w.map fun x=>(g>>>(4*x))%16)):=by
 unfold Ub at h
 rw[aM,uL]at h
 intro w
 induction w with
 |nil=>
  intro s t ht hm _
  have h2:=h.2 _ hm
  rw[aM]at h2
  have h3:=h2.1
  rw[show(s*16+t)/16=s by omega,show(s*16+t)%16=t by omega]at h3
  exact eq_of_beq h3
 |cons x w ih=>
  intro s t ht hm hw
  have h2:=h.2 _ hm
  rw[aM,kY]at h2
  have h3:=h2.2 x (hw x (by simp))
  rw[Dd,qQ,show(s*16+t)/16=s by omega,show(s*16+t)%16=t by omega]at h3
  exact ih (e.Gu _ _) h3 fun y hy=>hw y (by simp[hy])
theorem Gv {v:Nat} {m:Mc} {e:En} {g:Nat} {L:List Nat} {p:Lg} (h:Ub m e g L=true) (hg: ∀x,x<m.c→(g>>>(4*x))%16<e.c) (hr:tL v m p):tL v e.mc p:=by
 obtain⟨k,h1,h2⟩:=hr
 refine⟨fun x=>(g>>>(4*k x))%16,fun x hx=>hg _ (h1 x hx),fun w hw=>?_⟩
 have h0:m.s0*16+0∈L:=by
  unfold Ub at h;rw[aM]at h;exact qQ.1 h.1
 rw[h2 w hw,OK h (by decide) h0 (fun x hx=>by obtain⟨y,hy,rfl⟩:=List.mem_map.1 hx;exact h1 y (by simpa using hw y hy)),List.map_map]
 rfl
def x_ (a:En):Mc:=⟨a.c,0,a.to,fun s=>!a.fi s⟩
def lh (o:Bool→Bool→Bool) (a b:En):Mc:=⟨a.c*b.c,0,fun s z=>a.to (s/16) (z/b.c)*16+b.to (s%16) (z%b.c),fun s=>o (a.fi (s/16)) (b.fi (s%16))⟩
def Tn (b:En) (m y:Nat):Nat:=Nat.rec (motive:=fun _=>Nat) 0 (fun k ih=>ih|||cond (m.testBit k) (2^b.to k y) 0) 16
def To (a:En) (p m:Nat):Nat:=p+16*(m|||(a.fi p).toNat)
def oH (a b:En):Mc:=⟨a.c*b.c,To a 0 0,fun s z=>fo (a.to (s%16) (z/b.c)) fun p=>To a p (Tn b (s/16) (z%b.c)),fun s=>!Nat.beq ((s/16)&&&b.f) 0⟩
def np (a:En):Mc:=⟨a.c,65537,fun s z=>fo (Tn a s z) fun m=>m|||(!Nat.beq (m&&&a.f) 0).toNat,fun s=>s.testBit 16||!Nat.beq (s&&&a.f) 0⟩
theorem Gw {v:Nat} {a:En} {p:Lg} (h:tL v a.mc p):tL v (x_ a) (fun u=>!p u):=by
 obtain⟨k,h1,h2⟩:=h
 exact⟨k,h1,fun w hw=>by show(!p w)=_;rw[h2 w hw];rfl⟩
theorem ya {x y a b:Nat} (hx:x<a) (hy:y<b):x*b+y<a*b:=by
 have:=Nat.mul_le_mul_right b (show x+1≤a by omega)
 rw[Nat.add_mul]at this;omega
theorem tM {x y b:Nat} (hy:y<b):(x*b+y)/b=x∧(x*b+y)%b=y:=by
 have hb:0<b:=by omega
 refine⟨?_,?_⟩
 ·rw[Nat.mul_comm,Nat.mul_add_div hb,Nat.div_eq_of_lt hy];omega
 ·rw[Nat.mul_comm,Nat.mul_add_mod,Nat.mod_eq_of_lt hy]
theorem LU (o:Bool→Bool→Bool) (a b:En) (h k:Nat→Nat): ∀(w:List Nat) {s t:Nat},(∀x∈w,k x<b.c)→t<16→(lh o a b).run (s*16+t) (w.map fun x=>h x*b.c+k x)=a.mc.run s (w.map h)*16+b.mc.run t (w.map k)∧b.mc.run t (w.map k)<16
 | [],s,t,_,ht=>⟨F,ht⟩
 |x::w,s,t,hk,ht=>by
  have:=LU o a b h k w (s:=a.to s (h x)) (t:=b.to t (k x)) (fun y hy=>hk y (by simp[hy])) (b.Gu _ _)
  obtain⟨e1,e2⟩:=tM (x:=h x) (hk x (by simp))
  have e:(lh o a b).st (s*16+t) (h x*b.c+k x)=a.to s (h x)*16+b.to t (k x):=by
   show a.to ((s*16+t)/16) _*16+b.to ((s*16+t)%16) _=_
   rw[e1,e2,show(s*16+t)/16=s by omega,show(s*16+t)%16=t by omega]
  unfold Mc.run at this⊢
  rw[cD,cV,e]
  exact this
theorem qR {v:Nat} {a b:En} {p q:Lg} (o:Bool→Bool→Bool) (ha:tL v a.mc p) (hb:tL v b.mc q):tL v (lh o a b) (fun u=>o (p u) (q u)):=by
 obtain⟨h,h1,h2⟩:=ha
 obtain⟨k,k1,k2⟩:=hb
 refine⟨fun x=>h x*b.c+k x,fun x hx=>ya (h1 x hx) (k1 x hx),fun w hw=>?_⟩
 have:=LU o a b h k w (s:=0) (t:=0) (fun x hx=>k1 x (by simpa using hw x hx)) (by decide)
 show o (p w) (q w)=o (a.fi ((lh o a b).run 0 _/16)) (b.fi ((lh o a b).run 0 _%16))
 have e:(lh o a b).run 0 (w.map fun x=>h x*b.c+k x)=a.mc.run 0 (w.map h)*16+b.mc.run 0 (w.map k):=this.1
 rw[e,show(a.mc.run 0 (w.map h)*16+b.mc.run 0 (w.map k))/16=a.mc.run 0 (w.map h) by have:=this.2;omega,show(a.mc.run 0 (w.map h)*16+b.mc.run 0 (w.map k))%16=b.mc.run 0 (w.map k) by have:=this.2;omega,h2 w hw,k2 w hw]
 rfl
theorem Gx (b:En) (m y t:Nat): ∀n,(Nat.rec (motive:=fun _=>Nat) 0 (fun k ih=>ih|||cond (m.testBit k) (2^b.to k y) 0) n:Nat).testBit t=true↔ ∃q,q<n∧m.testBit q=true∧b.to q y=t
 |0=>by
  show(0:Nat).testBit t=true↔_
  simp
 |n+1=>by
  have ih:=Gx b m y t n
  show((Nat.rec (motive:=fun _=>Nat) 0 (fun k ih=>ih|||cond (m.testBit k) (2^b.to k y) 0) n:Nat)|||cond (m.testBit n) (2^b.to n y) 0).testBit t=true↔_
  rw[Nat.testBit_or,Bool.or_eq_true,ih]
  constructor
  ·rintro(⟨q,h1,h2⟩|h)
   ·exact⟨q,by omega,h2⟩
   ·cases hm:m.testBit n with
    |false=>rw[hm]at h;simp at h
    |true=>
     rw[hm]at h
     have h:(2^b.to n y).testBit t=true:=h
     rw[Nat.testBit_two_pow]at h
     exact⟨n,by omega,hm,by simpa using h⟩
  ·rintro⟨q,h1,h2,h3⟩
   rcases Nat.lt_succ_iff_lt_or_eq.1 h1 with c|rfl
   ·exact .inl ⟨q,c,h2,h3⟩
   ·refine .inr ?_
    rw[h2]
    show(2^b.to q y).testBit t=true
    rw[Nat.testBit_two_pow];simpa using h3
theorem A5 {b:En} {m y t:Nat}:(Tn b m y).testBit t=true↔ ∃q,q<16∧m.testBit q=true∧b.to q y=t:=Gx b m y t 16
theorem pv (c:Bool) (t:Nat):c.toNat.testBit t=true↔c=true∧t=0:=by
 cases c with
 |false=>simp
 |true=>
  show(2^0).testBit t=true↔_
  rw[Nat.testBit_two_pow];simp[eq_comm]
theorem yd {m f:Nat}:(!Nat.beq (m&&&f) 0)=true↔ ∃q,m.testBit q=true∧f.testBit q=true:=by
 rw[Bool.not_eq_true']
 constructor
 ·intro h
  have h2:m&&&f≠0:=Nat.ne_of_beq_eq_false h
  obtain⟨q,hq⟩:=Nat.exists_testBit_of_ne_zero h2
  rw[Nat.testBit_and,aM]at hq
  exact⟨q,hq⟩
 ·rintro⟨q,h1,h2⟩
  cases hb:Nat.beq (m&&&f) 0 with
  |false=>rfl
  |true=>
   have h3:=Nat.eq_of_beq_eq_true hb
   have h4:(m&&&f).testBit q=true:=by rw[Nat.testBit_and,h1,h2];rfl
   rw[h3]at h4;simp at h4
theorem l7 (m:Mc) (s:Nat) (w:List Nat) (x:Nat):m.run s (w++[x])=m.st (m.run s w) x:=by unfold Mc.run;rw[cY];rfl
theorem zV (e:En): ∀ {w:List Nat},e.mc.run 0 w<16:=by
 intro w
 rcases List.eq_nil_or_concat w with rfl|⟨u,x,rfl⟩
 ·exact Nat.zero_lt_succ _
 ·rw[List.concat_eq_append,l7];exact e.Gu _ _
theorem sE {α:Type} {w u t:List α} {x:α} (h:w++[x]=u++t):(t=[]∧u=w++[x])∨ ∃t',t=t'++[x]∧w=u++t':=by
 rcases List.eq_nil_or_concat t with rfl|⟨t',y,rfl⟩
 ·exact .inl ⟨F,by simpa using h.symm⟩
 ·rw[List.concat_eq_append,←aI]at h
  have:=List.append_inj' h F
  refine .inr ⟨t',?_,this.1⟩
  rw[List.concat_eq_append,List.singleton_inj.1 this.2]
theorem De {a b:En} {h k:Nat→Nat}: ∀(n:Nat) {w:List Nat},w.length=n→(∀x∈w,k x<b.c)→ ∃m,(oH a b).run (oH a b).s0 (w.map fun x=>h x*b.c+k x)=a.mc.run 0 (w.map h)+16*m∧ ∀q,m.testBit q=true↔ ∃u t,w=u++t∧a.fi (a.mc.run 0 (u.map h))=true∧b.mc.run 0 (t.map k)=q
 |0,w,hl,_=>by
  have:=List.length_eq_zero_iff.1 hl
  subst this
  refine⟨0|||(a.fi 0).toNat,F,fun q=>?_⟩
  rw[Nat.zero_or,pv]
  constructor
  ·rintro⟨h1,rfl⟩;exact⟨[],[],F,h1,F⟩
  ·rintro⟨u,t,e,h1,h2⟩
   have:=List.append_eq_nil_iff.1 e.symm
   obtain⟨rfl,rfl⟩:=this
   exact⟨h1,h2.symm⟩
 |n+1,w,hl,hk=>by
  rcases List.eq_nil_or_concat w with rfl|⟨w,x,rfl⟩
  ·cases hl
  rw[List.concat_eq_append]at hl hk⊢
  obtain⟨m,h1,h2⟩:=De (a:=a) (b:=b) (h:=h) (k:=k) n (w:=w) (by simpa using hl) (fun y hy=>hk y (by simp[hy]))
  obtain⟨e1,e2⟩:=tM (x:=h x) (hk x (by simp))
  have gn:=zV a (w:=w.map h)
  obtain⟨P,hP⟩: ∃P,P=a.to (a.mc.run 0 (w.map h)) (h x):=⟨_,F⟩
  have e3:a.mc.run 0 ((w++[x]).map h)=P:=by rw[bo,List.map_singleton,l7,hP];rfl
  refine⟨Tn b m (k x)|||(a.fi P).toNat,?_,fun q=>?_⟩
  ·rw[e3,bo,List.map_singleton,l7,h1]
   show fo (a.to ((_+16*m)%16) _) (fun p=>To a p (Tn b ((_+16*m)/16) _))=_
   rw[Dd,e1,e2,show(a.mc.run 0 (w.map h)+16*m)%16=a.mc.run 0 (w.map h) by omega,show(a.mc.run 0 (w.map h)+16*m)/16=m by omega,←hP]
   rfl
  ·rw[Nat.testBit_or,Bool.or_eq_true,A5,pv]
   constructor
   ·rintro(⟨r,_,hr,rfl⟩|⟨hf,rfl⟩)
    ·obtain⟨u,t,rfl,h3,h4⟩:=(h2 r).1 hr
     refine⟨u,t++[x],by simp,h3,?_⟩
     rw[bo,List.map_singleton,l7,h4];rfl
    ·exact⟨w++[x],[],by simp,by rw[e3];exact hf,F⟩
   ·rintro⟨u,t,e,h3,h4⟩
    rcases sE e with⟨rfl,rfl⟩|⟨t',rfl,rfl⟩
    ·rw[e3]at h3;exact .inr ⟨h3,h4.symm⟩
    ·refine .inl ⟨b.mc.run 0 (t'.map k),zV b,(h2 _).2 ⟨u,t',F,h3,F⟩,?_⟩
     rw[←h4,bo,List.map_singleton,l7];rfl
theorem Gy {v:Nat} {a b:En} {p q:Lg} (ha:tL v a.mc p) (hb:tL v b.mc q):tL v (oH a b) (jS p q):=by
 obtain⟨h,h1,h2⟩:=ha
 obtain⟨k,k1,k2⟩:=hb
 refine⟨fun x=>h x*b.c+k x,fun x hx=>ya (h1 x hx) (k1 x hx),fun w hw=>?_⟩
 obtain⟨m,e1,e2⟩:=De (a:=a) (b:=b) (h:=h) (k:=k) _ (w:=w) F (fun x hx=>k1 x (by simpa using hw x hx))
 rw[eB,e1]
 have gn:=zV a (w:=w.map h)
 show _↔(!Nat.beq ((a.mc.run 0 (w.map h)+16*m)/16&&&b.f) 0)=true
 rw[show(a.mc.run 0 (w.map h)+16*m)/16=m by omega,yd,gT]
 constructor
 ·rintro⟨x,y,rfl,hx,hy⟩
  rw[h2 x (fun z hz=>hw z (by simp[hz]))]at hx
  rw[k2 y (fun z hz=>hw z (by simp[hz]))]at hy
  exact⟨_,(e2 _).2 ⟨x,y,F,hx,F⟩,hy⟩
 ·rintro⟨r,hr,hf⟩
  obtain⟨x,y,rfl,hx,rfl⟩:=(e2 r).1 hr
  refine⟨x,y,F,?_,?_⟩
  ·rw[h2 x (fun z hz=>hw z (by simp[hz]))];exact hx
  ·rw[k2 y (fun z hz=>hw z (by simp[hz]))];exact hf
theorem zW {a:En} {h:Nat→Nat}: ∀(n:Nat) {w:List Nat},w.length=n→(((np a).run 65537 (w.map h)).testBit 16=true↔w=[])∧ ∀q,q<16→(((np a).run 65537 (w.map h)).testBit q=true↔ ∃u t,w=u++t∧iD (fun z=>a.fi (a.mc.run 0 (z.map h))) u∧a.mc.run 0 (t.map h)=q)
 |0,w,hl=>by
  have:=List.length_eq_zero_iff.1 hl
  subst this
  refine⟨by simp[Mc.run];decide,fun q hq=>?_⟩
  have e:(65537:Nat)=2^16|||2^0:=by decide
  show(65537:Nat).testBit q=true↔_
  rw[e,Nat.testBit_or,Nat.testBit_two_pow,Nat.testBit_two_pow]
  simp only[Bool.or_eq_true,dm]
  constructor
  ·rintro(rfl|rfl)
   ·omega
   ·exact⟨[],[],F,.nil,F⟩
  ·rintro⟨u,t,e,h1,h2⟩
   obtain⟨rfl,rfl⟩:=List.append_eq_nil_iff.1 e.symm
   exact .inr h2
 |n+1,w,hl=>by
  rcases List.eq_nil_or_concat w with rfl|⟨w,x,rfl⟩
  ·cases hl
  rw[List.concat_eq_append]at hl⊢
  obtain⟨_,h2⟩:=zW (a:=a) (h:=h) n (w:=w) (by simpa using hl)
  obtain⟨m,hm⟩: ∃m,m=Tn a ((np a).run 65537 (w.map h)) (h x):=⟨_,F⟩
  have e1:(np a).run 65537 ((w++[x]).map h)=m|||(!Nat.beq (m&&&a.f) 0).toNat:=by
   rw[bo,List.map_singleton,l7]
   show fo (Tn a ((np a).run 65537 (w.map h)) (h x)) (fun m=>m|||(!Nat.beq (m&&&a.f) 0).toNat)=_
   rw[Dd,←hm]
  have hb: ∀q,m.testBit q=true↔ ∃u t,w=u++t∧iD (fun z=>a.fi (a.mc.run 0 (z.map h))) u∧a.mc.run 0 ((t++[x]).map h)=q:=fun q=>by
   rw[hm,A5]
   constructor
   ·rintro⟨r,hr,h3,rfl⟩
    obtain⟨u,t,rfl,h4,h5⟩:=(h2 r hr).1 h3
    refine⟨u,t,F,h4,?_⟩
    rw[bo,List.map_singleton,l7,h5];rfl
   ·rintro⟨u,t,rfl,h4,h5⟩
    refine⟨a.mc.run 0 (t.map h),zV a,(h2 _ (zV a)).2 ⟨u,t,F,h4,F⟩,?_⟩
    rw[←h5,bo,List.map_singleton,l7];rfl
  have hs:(!Nat.beq (m&&&a.f) 0)=true↔iD (fun z=>a.fi (a.mc.run 0 (z.map h))) (w++[x]):=by
   rw[yd]
   constructor
   ·rintro⟨q,h3,h4⟩
    obtain⟨u,t,rfl,h5,rfl⟩:=(hb q).1 h3
    rw[aI];exact h5.snoc h4
   ·intro hs
    obtain⟨u,t,e,h5,h6,h7⟩:=hs.last (by simp)
    rcases sE e with⟨rfl,_⟩|⟨t',rfl,rfl⟩
    ·exact absurd F h7
    ·exact⟨_,(hb _).2 ⟨u,t',F,h5,F⟩,h6⟩
  rw[e1]
  refine⟨?_,fun q hq=>?_⟩
  ·rw[Nat.testBit_or,Bool.or_eq_true,pv,hm,A5]
   constructor
   ·rintro(⟨r,_,_,h3⟩|⟨_,h3⟩)
    ·have:=a.Gu r (h x);omega
    ·omega
   ·intro h3;simp at h3
  ·rw[Nat.testBit_or,Bool.or_eq_true,pv,hs,hb]
   constructor
   ·rintro(⟨u,t,rfl,h3,h4⟩|⟨h3,rfl⟩)
    ·exact⟨u,t++[x],by simp,h3,h4⟩
    ·exact⟨w++[x],[],by simp,h3,F⟩
   ·rintro⟨u,t,e,h3,h4⟩
    rcases sE e with⟨rfl,rfl⟩|⟨t',rfl,rfl⟩
    ·exact .inr ⟨h3,h4.symm⟩
    ·exact .inl ⟨u,t',F,h3,h4⟩
theorem iD.congr {p q:Lg} {v:Int} (h: ∀w,jn v w→p w=q w): ∀ {w:List Nat},jn v w→iD p w→iD q w:=by
 intro w hw hs
 induction hs with
 |nil=>exact .nil
 |oM h1 _ ih=>exact .oM (by rw[←h _ (fun z hz=>hw z (by simp[hz]))];exact h1) (ih fun z hz=>hw z (by simp[hz]))
theorem Df {v:Nat} {a:En} (hf:a.f<65536) {p:Lg} (ha:tL v a.mc p):tL v (np a) (oA p):=by
 obtain⟨h,h1,h2⟩:=ha
 refine⟨h,h1,fun w hw=>?_⟩
 obtain⟨e1,e2⟩:=zW (a:=a) (h:=h) _ (w:=w) F
 have qY: ∀q,a.f.testBit q=true→q<16:=fun q hq=>by
  rcases Nat.lt_or_ge q 16 with c|c
  ·exact c
  ·rw[Nat.testBit_lt_two_pow (eA hf (bO (by decide) c:(2^16:Nat)≤2^q))]at hq;cases hq
 rw[eB,mE]
 show _↔(((np a).run 65537 (w.map h)).testBit 16||!Nat.beq ((np a).run 65537 (w.map h)&&&a.f) 0)=true
 rw[Bool.or_eq_true,e1,yd]
 constructor
 ·intro hs
  by_cases hn:w=[]
  ·exact .inl hn
  ·obtain⟨u,t,rfl,h3,h4,_⟩:=(iD.congr (fun u hu=>h2 u hu) hw hs).last hn
   exact .inr ⟨_,(e2 _ (zV a)).2 ⟨u,t,F,h3,F⟩,h4⟩
 ·rintro(rfl|⟨q,h3,h4⟩)
  ·exact .nil
  ·obtain⟨u,t,rfl,h5,rfl⟩:=(e2 q (qY q h4)).1 h3
   exact iD.congr (fun u hu=>(h2 u hu).symm) hw (h5.snoc h4)
end Go.Lx

namespace Go.Lx
open Go.RowKit
theorem sF {v:Nat} (hv:v≤6) {m:Mc} {p:Lg} (hr:tL v m p) {L:List Nat} (h0:m.s0∈L) (hc: ∀s∈L,∀x,x<m.c→m.st s x∈L) (hn:L.length≤4096): ∃D,HasL (v:Int) L.length D p:=by
 obtain⟨h,h1,h2⟩:=hr
 have hp:0<L.length:=List.length_pos_of_mem h0
 have hl:(2:Nat)^((v:Int)).toNat=2^v:=by simp
 obtain⟨D,hD⟩: ∃D:cM,D=⟨(v:Int),((ix m.s0 L:Nat):Int),L.map (fun s=>(List.range (2^v)).map fun x=>((ix (m.st s (h x)) L:Nat):Int)),L.map m.fi⟩:=⟨_,F⟩
 have pM:D.next=L.map (fun s=>(List.range (2^v)).map fun x=>((ix (m.st s (h x)) L:Nat):Int)):=by rw[hD]
 have iM:D.next.length=L.length:=by rw[pM,ar]
 have hix:=rJ h0
 have IS:Valid D:=by
  refine⟨⟨by rw[hD];exact Int.natCast_nonneg _,by rw[hD];show(v:Int)≤6;omega,by rw[iM];exact hp,by rw[iM,hD];simp,by rw[hD];exact Int.natCast_nonneg _,by rw[iM,hD];show((ix m.s0 L:Nat):Int)<_;omega,fun r hr=>?_,fun r hr x hx=>?_⟩,by rw[iM];exact hn⟩
  ·rw[pM]at hr
   obtain⟨s,_,rfl⟩:=List.mem_map.1 hr
   rw[hD];simp
  ·rw[pM]at hr
   obtain⟨s,hs,rfl⟩:=List.mem_map.1 hr
   obtain⟨y,hy,rfl⟩:=List.mem_map.1 hx
   have:=rJ (hc s hs (h y) (h1 y (List.mem_range.1 hy)))
   exact⟨Int.natCast_nonneg _,by rw[iM];omega⟩
 refine⟨D,IS,by rw[iM];exact a8 _,by rw[hD],fun w hw=>?_⟩
 have run: ∀(u:List Nat) {s:Nat},s∈L→jn (v:Int) u→runN D (ix s L) u=ix (m.run s (u.map h)) L∧m.run s (u.map h)∈L:=by
  intro u
  induction u with
  |nil=>exact fun hs _=>⟨F,hs⟩
  |cons x u ih=>
   intro s hs hu
   have hx:x<2^v:=by have:=hu x (by simp);rwa[hl]at this
   have hm:=hc s hs (h x) (h1 x hx)
   have ht:e7 D (ix s L) x=ix (m.st s (h x)) L:=by
    unfold e7
    simp only[pM,aw,bq,pr hs,Option.map_some,Option.getD_some,List.getElem?_range hx,Int.toNat_natCast]
   have:=ih hm fun y hy=>hu y (by simp[hy])
   unfold runN Mc.run at this⊢
   rw[cD,cV,cV,ht]
   exact this
 obtain⟨e1,e2⟩:=run w h0 hw
 unfold iI
 have e0:D.start.toNat=ix m.s0 L:=by rw[hD];rfl
 rw[e0,e1,h2 w hw]
 unfold dD
 have e3:D.aV=L.map m.fi:=by rw[hD]
 rw[e3,aw,bq,pr e2]
 rfl
def aae:List En:=[⟨1,1,0x0,0⟩,⟨1,2,0x11,1⟩,⟨2,3,0x222221,2⟩,⟨1,1,0x0,1⟩,⟨1,2,0x11,2⟩,⟨2,3,0x222221,5⟩,⟨2,2,0x1110,1⟩,⟨2,2,0x1110,2⟩,⟨4,4,0x2222222232322211,8⟩,⟨2,3,0x222221,3⟩,⟨4,4,0x2222222232322211,7⟩,⟨2,3,0x222221,4⟩,⟨2,3,0x222121,5⟩,⟨4,3,0x222220202211,1⟩,⟨2,3,0x221121,2⟩,⟨2,4,0x33223321,8⟩,⟨4,5,0x44444444222243432211,18⟩,⟨4,3,0x222221212211,2⟩,⟨2,3,0x111121,3⟩,⟨3,4,0x333333331321,7⟩,⟨2,3,0x111121,4⟩,⟨2,2,0x1010,2⟩,⟨2,3,0x212111,4⟩,⟨4,5,0x43434343444444444321,10⟩,⟨4,4,0x3333333332103210,6⟩,⟨2,3,0x222121,2⟩,⟨4,3,0x222220202211,6⟩,⟨2,3,0x221121,5⟩,⟨2,4,0x33223321,7⟩,⟨4,5,0x44444444222243432211,13⟩,⟨4,3,0x222221212211,5⟩,⟨3,4,0x333333331321,8⟩,⟨2,2,0x1010,1⟩,⟨2,3,0x212111,3⟩,⟨4,5,0x43434343444444444321,21⟩,⟨4,4,0x3333333332103210,9⟩,⟨2,3,0x221121,3⟩,⟨2,4,0x33223321,9⟩,⟨3,5,0x333333222433221,11⟩,⟨3,3,0x222211221,3⟩,⟨2,3,0x212111,5⟩,⟨3,4,0x331333331321,3⟩,⟨3,3,0x222210210,1⟩,⟨4,4,0x3333222231312211,8⟩,⟨8,5,0x2222222242424242222222223322332222221111,16⟩,⟨4,4,0x2222222232322211,10⟩,⟨4,4,0x2222222232322211,9⟩,⟨3,4,0x323222323321,6⟩,⟨8,5,0x4444444442424242444444444242424244332211,6⟩,⟨1,3,0x221,4⟩,⟨4,3,0x222221212100,3⟩,⟨4,4,0x3333323233113210,7⟩,⟨3,4,0x323222323321,9⟩,⟨3,4,0x333322322321,5⟩,⟨4,3,0x212121211100,4⟩,⟨4,5,0x44444444434343434321,10⟩,⟨2,3,0x221121,4⟩,⟨2,4,0x33223321,6⟩,⟨3,5,0x333333222433221,20⟩,⟨3,3,0x222211221,4⟩,⟨2,3,0x212111,2⟩,⟨3,4,0x331333331321,12⟩,⟨3,3,0x222210210,6⟩,⟨4,4,0x3333222231312211,7⟩,⟨8,5,0x2222222242424242222222223322332222221111,15⟩,⟨4,4,0x2222222232322211,5⟩,⟨4,4,0x2222222232322211,6⟩,⟨8,5,0x4444444442424242444444444242424244332211,25⟩,⟨1,3,0x221,3⟩,⟨4,3,0x222221212100,4⟩,⟨4,4,0x3333323233113210,8⟩,⟨3,4,0x333322322321,10⟩,⟨4,3,0x212121211100,3⟩,⟨4,5,0x44444444434343434321,21⟩,⟨4,4,0x3333222230302211,5⟩,⟨3,4,0x333333331321,9⟩,⟨4,4,0x3030022000003210,5⟩,⟨4,4,0x3333222231312211,9⟩,⟨8,4,0x20202020222222223322332222221111,1⟩,⟨3,3,0x222201221,3⟩,⟨3,3,0x212111210,3⟩,⟨8,4,0x33333333303030303021110033221100,3⟩,⟨1,3,0x221,5⟩,⟨4,4,0x3232323222112211,9⟩,⟨3,3,0x222220210,1⟩,⟨8,6,0x444444444444444454545454222222224433443322221111,26⟩,⟨4,5,0x44444444222243432211,16⟩,⟨4,5,0x44444343222243432211,18⟩,⟨8,4,0x21212121222222223322332222221111,2⟩,⟨4,4,0x3333222232322211,8⟩,⟨4,5,0x44444444222232322211,16⟩,⟨8,6,0x555555555555555554545454222222223322332222221111,40⟩,⟨8,4,0x32323232222222223322332222221111,8⟩,⟨4,5,0x33333333222243432211,10⟩,⟨6,5,0x222222232232222222432432222111,26⟩,⟨4,4,0x3131222231312211,8⟩,⟨4,5,0x43434343222233332211,16⟩,⟨8,7,0x65656565656565656666666666666666222222226543654322221111,40⟩,⟨8,5,0x2222222243214321222222224321432122221111,24⟩,⟨4,5,0x44444444222243432211,19⟩,⟨4,3,0x222221212211,3⟩,⟨2,3,0x111121,5⟩,⟨4,5,0x43434343444444444321,11⟩,⟨4,4,0x3333333332103210,5⟩,⟨2,3,0x111121,2⟩,⟨3,4,0x323222323321,7⟩,⟨8,6,0x443344334444444454545454444444445454545444332211,39⟩,⟨3,4,0x333333111321,6⟩,⟨4,5,0x44441111444411114321,6⟩,⟨6,6,0x555555555555333333333333545454332211,38⟩,⟨6,4,0x333333333333313131332211,6⟩,⟨3,3,0x221221211,2⟩,⟨4,3,0x212121212211,2⟩,⟨6,5,0x444242444444444242444444432211,6⟩,⟨6,5,0x444444434231444444434231432211,6⟩,⟨4,4,0x3120110031201100,12⟩,⟨2,3,0x222111,4⟩,⟨4,5,0x42312211423122111111,24⟩,⟨8,7,0x54635463443344334433443354635463444444445454545444332211,96⟩,⟨8,8,0x3333333373737373736251403322110033333333737373737362514033221100,240⟩,⟨3,3,0x222222210,3⟩,⟨8,6,0x444444444444444454545454444422225454222244332211,39⟩,⟨3,3,0x222211210,2⟩,⟨2,3,0x222210,4⟩,⟨3,3,0x222221211,3⟩,⟨8,7,0x44444444444444444433443344334433645364536453645344332211,42⟩,⟨4,4,0x3232323222222211,8⟩,⟨4,5,0x43434343442244224321,10⟩,⟨8,5,0x4444444444444444404040404040404044332211,10⟩,⟨4,5,0x22222222212121214321,10⟩,⟨6,7,0x666666666666656565656565656521656521654321,42⟩,⟨4,4,0x1111313111112211,8⟩]
def ml (i:Nat):En:=aae.getD i ⟨0,0,0,0⟩
def IC:List (List Nat):=[[],[0,1,2],[1,3,4,5,6],[0,1,2,3,4,5,6,7,8,9],[0,1,2,3,4,5,6,7,9,10,11,12,13,14,15,16,17,18,19,20,21,22,23,24],[0,1,2,3,4,5,6,7,8,9,11,12,13,14,15,16,17,18,19,20,21,22,23,24,25,26,27,28,29,30,31,32,33,34,35,36,37,38,39,40,41,42,43,44,45,46,47,48,49,50,51,52,53,54,55],[0,1,2,3,4,5,6,7,8,9,10,11,12,13,14,15,16,17,18,19,20,21,22,23,24,25,26,27,28,29,30,31,32,33,34,35,36,37,38,39,40,41,42,43,45,46,47,49,50,51,52,53,54,55,56,57,58,59,60,61,62,63,64,65,66,67,68,69,70,71,72,73,74,75,76,77,78,79,80,81,82,83,84,85,86,87,88,89,90,91,92,93,94,95,96,97,98,99,100,101,102,103,104,105,106,107,108,109,110,111,112,113,114,115,116,117,118,119,120,121,122,123,124,125,126,127,128,129,130,131]]
def un2:List (List Nat):=[[3,4,4101],[1,1,4102]]
def un3:List (List Nat):=[[4,0,1,4098,4103],[1,3,3,4101,4102]]
def ca3:List (List (List Nat)):=[[[0,0,0],[0,1,4098],[0,4098,2294024]]]
def or3:List (List (List Nat)):=[[[0,1,4098],[1,1,4105],[4098,4105,1048578]]]
def an3:List (List (List Nat)):=[[[0,0,0],[0,1,0],[0,0,1118210]]]
def un4:List (List Nat):=[[3,4,4101,0,1,4098,4103,4102,3280906,4107],[1,1,4102,3,3,4101,4102,4108,2294029,4102]]
def ca4:List (List (List Nat)):=[[[0,0,0,0,0],[1,3,4,4101,4102],[4098,4110,4111,3280912,3280913]],[[0,1,4098],[0,3,277],[0,4,278],[0,4101,3280919],[0,4102,3277080]]]
def or4:List (List (List Nat)):=[[[1,3,4,4101,4102],[1,3,3,4101,4102],[4105,3,4,65554,2101267]]]
def an4:List (List (List Nat)):=[[[0,0,0,0,0],[1,1,0,1,1],[0,4098,4098,4116,1118210]]]
def un5:List (List Nat):=[[3,4,4101,0,1,4098,4103,4102,4107,3280904,4105,4121,3280922,4123,4124,3280925,3280926,4116,135199,4114,4128,4129,3280930,3280931],[1,1,4102,3,3,4101,4102,4108,4102,3,4101,4108,3280909,4132,4133,1179686,2162727,4114,65542,262,288,4136,2101289,2097450]]
def ca5:List (List (List Nat)):=[[[0,0,0,0,0,0,0,0,0,0],[0,1,4098,3,4,4101,4102,4103,3280904,4105],[0,4098,2294024,4110,4111,3280912,3280913,3280939,362758025772,2294061]],[[1,3,4,4101,4102],[3,3,4,3,3],[4,4,49,4,4],[4101,3,4,1118213,4114],[4102,3,4,65554,3280946]],[[0,0,0],[0,1,4098],[0,4098,2294024],[0,3,277],[0,4,278],[0,4101,3280919],[0,4102,3277080],[0,4103,2294070],[0,3280904,443541553452],[0,4105,3280951]]]
def or5:List (List (List Nat)):=[[[0,1,4098,3,4,4101,4102,4103,3280904,4105],[1,1,4105,3,3,4101,4102,4108,3280942,4105],[4098,4105,1048578,3,4,65554,2101267,1183791,443541553456,1048585]],[[1,3,3,4101,4102],[3,3,3,3,3],[3,3,4,3,3],[4101,3,3,1118213,4114],[4102,3,3,65554,3280947]]]
def an5:List (List (List Nat)):=[[[0,0,0,0,0,0,0,0,0,0],[0,1,0,1,0,1,1,0,0,1],[0,0,1118210,4098,4098,4116,1118210,4116,0,1118210]],[[1,1,0,1,1],[1,3,4,4101,4102],[0,4,4,4107,4121],[1,4101,4107,1048581,1183796],[1,4102,4121,2232373,1118214]]]
def un6:List (List Nat):=[[3,4,4101,0,1,4098,4103,4102,3280906,4107,4105,4121,3280922,4123,4124,3280925,3280926,4116,135199,4114,4128,4129,3280930,3280931,4108,3280909,4110,4111,3280912,3280913,135187,4117,4118,3280919,3280920,4152,4153,135226,135227,4156,135229,135230,3280959,508218708032,3280961,3280962,135220,508218708035,68,3280965,3280966,135215,135239,3280968,3280969],[1,1,4102,3,3,4101,4102,4108,2294029,4102,4101,4108,3280909,4132,4133,1179686,2162727,4114,65542,262,288,4136,2101289,2097450,4102,3,4123,3,3280970,3280926,135243,4128,3,205132,3280931,4132,4133,135206,135207,4136,135209,135210,3280973,443541553486,1179727,2294029,135248,508216488529,82,1048582,1048582,135220,135221,3280979,2101332]]
def Yv:List (List (List Nat)):=[[[0,0,0,0,0,0,0,0,0,0,0,0,0,0,0,0,0,0,0,0,0,0,0,0],[0,1,4098,3,4,4101,4102,4103,4105,3280906,4107,4108,3280909,4110,4111,3280912,3280913,4114,135187,4116,4117,4118,3280919,3280920],[0,4098,2294024,4110,4111,3280912,3280913,3280939,2294061,508218708053,3280982,3280983,362758025816,2294105,2294106,362758025819,298080871260,3280989,893395294,3280904,3280991,3280992,508218708065,375341129826]],[[0,1,4098,3,4,4101,4102,4103,3280904,4105],[0,3,277,3,4,3,3,4103,1061491,3],[0,4,278,4,49,4,4,4212,1061493,4],[0,4101,3280919,3,4,1118213,4114,1052679,508218708086,4114],[0,4102,3277080,3,4,65554,3280946,1052679,508216488567,2162808]],[[0,0,0,0,0],[1,3,4,4101,4102],[4098,4110,4111,3280912,3280913],[3,3,4,3,3],[4,4,49,4,4],[4101,3,4,1118213,4114],[4102,3,4,65554,3280946],[4103,4103,4219,1114119,1114119],[3280904,3280985,3280986,508218708059,443541553500],[4105,3,4,65554,2101372]],[[0,0,0],[0,1,4098],[0,4098,2294024],[0,3,277],[0,4,278],[0,4101,3280919],[0,4102,3277080],[0,4103,2294070],[0,4105,3280951],[0,3280906,504192114813],[0,4107,2294142],[0,4108,3281023],[0,3280909,504192114816],[0,4110,2294111],[0,4111,2294112],[0,3280912,508218708065],[0,3280913,374837805666],[0,4114,3281025],[0,135187,1412567170],[0,4116,2294147],[0,4117,2294131],[0,4118,2294133],[0,3280919,443541553526],[0,3280920,443541553527]]]
def or6:List (List (List Nat)):=[[[0,1,4098,3,4,4101,4102,4103,4105,3280906,4107,4108,3280909,4110,4111,3280912,3280913,4114,135187,4116,4117,4118,3280919,3280920],[1,1,4105,3,3,4101,4102,4108,4105,3280906,4101,4108,3280909,4132,4133,3280995,3280996,4114,135187,4197,288,4136,3280998,3277159],[4098,4105,1048578,3,4,65554,2101267,1183791,1048585,215020081162,65640,1183849,443541553514,2101355,3281004,361048969325,361048969326,1048594,553717779,65538,131439,2294128,353264341105,352257704306]],[[1,1,4105,3,3,4101,4102,4108,3280942,4105],[3,3,3,3,3,3,3,3,3,3],[4,3,4,3,4,3,3,4,4,3],[4101,4101,4114,3,3,1118213,4114,1118213,73299656709,4114],[4102,4102,2162707,3,3,65554,3280947,1183824,508218708089,2162707]]]
def an6:List (List (List Nat)):=[[[0,0,0,0,0,0,0,0,0,0,0,0,0,0,0,0,0,0,0,0,0,0,0,0],[0,1,0,1,0,1,1,0,1,1,0,1,1,0,0,0,0,1,1,0,0,0,0,0],[0,0,1118210,4098,4098,4116,1118210,4116,1118210,73299656706,4116,4116,0,1118210,0,73300770818,73300770818,1118210,286326786,4116,4116,0,73300709378,69652]],[[0,1,0,1,0,1,1,0,0,1],[0,1,4098,3,4,4101,4102,4103,3280904,4105],[0,0,4098,4,4,4107,4121,4103,3280904,4098],[0,1,65556,4101,4107,1048581,1183796,2101279,215020081160,65637],[0,1,1118210,4102,4121,2232373,1118214,2232442,146602594312,1118217]]]
def MM (k:Nat) (e:En):Prop:= ∃i∈IC.getD k [],e=ml i
def aag (k i:Nat):Bool:=(IC.getD k []).contains i
noncomputable def Yw (k:Nat) (m:Mc) (ct:Nat):Bool:=
 aag k (ct%256)&&(vW m.c (fun x=>Nat.blt (((ct/256)>>>(4*x))%16) (ml (ct%256)).c)&&Ub m (ml (ct%256)) (ct/256) (LR m.c (fun s x=>m.st (s/16) x*16+(ml (ct%256)).to (s%16) (((ct/256)>>>(4*x))%16)) 40 [m.s0*16] [m.s0*16]))
def E3 {α β:Type} (p:α→β→Bool):List α→List β→Bool
 | [],_=>true
 |x::l,y::m=>p x y&&E3 p l m
 |_::_,[]=>false
theorem tN {α β:Type} {p:α→β→Bool}: ∀ {l:List α} {m:List β},E3 p l m=true→ ∀x∈l,∃y,p x y=true
 | [],_,_,x,hx=>by simp at hx
 |_::_,[],h,_,_=>by simp[E3]at h
 |a::l,y::m,h,x,hx=>by
  simp only[E3,aM]at h
  rcases List.mem_cons.1 hx with rfl|hx
  ·exact⟨y,h.1⟩
  ·exact tN h.2 x hx
theorem Gz {v k:Nat} {m:Mc} {p:Lg} {ct:Nat} (h:Yw k m ct=true) (hr:tL v m p): ∃e,MM k e∧tL v e.mc p:=by
 unfold Yw at h
 rw[aM,aM,kY]at h
 refine⟨ml (ct%256),⟨_,?_,F⟩,Gv h.2.2 (fun x hx=>by have:=h.2.1 x hx;exact Nat.le_of_ble_eq_true this) hr⟩
 exact List.contains_iff_mem.1 h.1
noncomputable def Ie (k:Nat) (f:En→Mc) (cs:List Nat):Bool:=E3 (fun i ct=>Yw (k+1) (f (ml i)) ct) (IC.getD k []) cs
noncomputable def vB (i j:Nat) (f:En→En→Mc) (cs:List (List Nat)):Bool:=E3 (fun x row=>E3 (fun y ct=>Yw (i+j+1) (f (ml x) (ml y)) ct) (IC.getD j []) row) (IC.getD i []) cs
theorem GA {v k:Nat} {f:En→Mc} {cs:List Nat} (h:Ie k f cs=true) {e:En} (he:MM k e) {p:Lg} (hr:tL v (f e) p): ∃e,MM (k+1) e∧tL v e.mc p:=by
 obtain⟨i,hi,rfl⟩:=he
 obtain⟨ct,h1⟩:=tN h i hi
 exact Gz h1 hr
theorem tO {v i j:Nat} {f:En→En→Mc} {cs:List (List Nat)} (h:vB i j f cs=true) {a b:En} (ha:MM i a) (hb:MM j b) {p:Lg} (hr:tL v (f a b) p): ∃e,MM (i+j+1) e∧tL v e.mc p:=by
 obtain⟨x,hx,rfl⟩:=ha
 obtain⟨y,hy,rfl⟩:=hb
 obtain⟨row,h1⟩:=tN h x hx
 obtain⟨ct,h2⟩:=tN h1 y hy
 exact Gz h2 hr
set_option maxRecDepth 100000
theorem tn2:Ie 1 x_ (un2.getD 0 [])=true:=by kernel_rfl
theorem ts2:Ie 1 np (un2.getD 1 [])=true:=by kernel_rfl
theorem tn3:Ie 2 x_ (un3.getD 0 [])=true:=by kernel_rfl
theorem ts3:Ie 2 np (un3.getD 1 [])=true:=by kernel_rfl
theorem aah:vB 1 1 oH (ca3.getD 0 [])=true:=by kernel_rfl
theorem aai:vB 1 1 (lh or) (or3.getD 0 [])=true:=by kernel_rfl
theorem aaj:vB 1 1 (lh and) (an3.getD 0 [])=true:=by kernel_rfl
theorem tn4:Ie 3 x_ (un4.getD 0 [])=true:=by kernel_rfl
theorem ts4:Ie 3 np (un4.getD 1 [])=true:=by kernel_rfl
theorem aak:vB 1 2 oH (ca4.getD 0 [])=true:=by kernel_rfl
theorem aal:vB 1 2 (lh or) (or4.getD 0 [])=true:=by kernel_rfl
theorem aam:vB 1 2 (lh and) (an4.getD 0 [])=true:=by kernel_rfl
theorem aan:vB 2 1 oH (ca4.getD 1 [])=true:=by kernel_rfl
theorem tn5:Ie 4 x_ (un5.getD 0 [])=true:=by kernel_rfl
theorem ts5:Ie 4 np (un5.getD 1 [])=true:=by kernel_rfl
theorem aao:vB 1 3 oH (ca5.getD 0 [])=true:=by kernel_rfl
theorem aap:vB 1 3 (lh or) (or5.getD 0 [])=true:=by kernel_rfl
theorem aaq:vB 1 3 (lh and) (an5.getD 0 [])=true:=by kernel_rfl
theorem aar:vB 2 2 oH (ca5.getD 1 [])=true:=by kernel_rfl
theorem aas:vB 2 2 (lh or) (or5.getD 1 [])=true:=by kernel_rfl
theorem aat:vB 2 2 (lh and) (an5.getD 1 [])=true:=by kernel_rfl
theorem aau:vB 3 1 oH (ca5.getD 2 [])=true:=by kernel_rfl
theorem tn6:Ie 5 x_ (un6.getD 0 [])=true:=by kernel_rfl
theorem ts6:Ie 5 np (un6.getD 1 [])=true:=by kernel_rfl
theorem aav:vB 1 4 oH (Yv.getD 0 [])=true:=by kernel_rfl
theorem aaw:vB 1 4 (lh or) (or6.getD 0 [])=true:=by kernel_rfl
theorem aax:vB 1 4 (lh and) (an6.getD 0 [])=true:=by kernel_rfl
theorem aay:vB 2 3 oH (Yv.getD 1 [])=true:=by kernel_rfl
theorem aaz:vB 2 3 (lh or) (or6.getD 1 [])=true:=by kernel_rfl
theorem aaA:vB 2 3 (lh and) (an6.getD 1 [])=true:=by kernel_rfl
theorem aaB:vB 3 2 oH (Yv.getD 2 [])=true:=by kernel_rfl
theorem aaC:vB 4 1 oH (Yv.getD 3 [])=true:=by kernel_rfl
theorem tcA {i j:Nat} (hi:1≤i) (hj:1≤j) (h:i+j≤5): ∃cs,vB i j oH cs=true:=by
 rcases(show(i=1∧j=1)∨(i=1∧j=2)∨(i=2∧j=1)∨(i=1∧j=3)∨(i=2∧j=2)∨(i=3∧j=1)∨(i=1∧j=4)∨(i=2∧j=3)∨(i=3∧j=2)∨(i=4∧j=1) by omega)with⟨rfl,rfl⟩|⟨rfl,rfl⟩|⟨rfl,rfl⟩|⟨rfl,rfl⟩|⟨rfl,rfl⟩|⟨rfl,rfl⟩|⟨rfl,rfl⟩|⟨rfl,rfl⟩|⟨rfl,rfl⟩|⟨rfl,rfl⟩
 ·exact⟨_,aah⟩
 ·exact⟨_,aak⟩
 ·exact⟨_,aan⟩
 ·exact⟨_,aao⟩
 ·exact⟨_,aar⟩
 ·exact⟨_,aau⟩
 ·exact⟨_,aav⟩
 ·exact⟨_,aay⟩
 ·exact⟨_,aaB⟩
 ·exact⟨_,aaC⟩
theorem toA {i j:Nat} (hi:1≤i) (hj:1≤j) (Ys:i≤j) (h:i+j≤5): ∃cs,vB i j (lh or) cs=true:=by
 rcases(show(i=1∧j=1)∨(i=1∧j=2)∨(i=1∧j=3)∨(i=2∧j=2)∨(i=1∧j=4)∨(i=2∧j=3) by omega)with⟨rfl,rfl⟩|⟨rfl,rfl⟩|⟨rfl,rfl⟩|⟨rfl,rfl⟩|⟨rfl,rfl⟩|⟨rfl,rfl⟩
 ·exact⟨_,aai⟩
 ·exact⟨_,aal⟩
 ·exact⟨_,aap⟩
 ·exact⟨_,aas⟩
 ·exact⟨_,aaw⟩
 ·exact⟨_,aaz⟩
theorem taA {i j:Nat} (hi:1≤i) (hj:1≤j) (Ys:i≤j) (h:i+j≤5): ∃cs,vB i j (lh and) cs=true:=by
 rcases(show(i=1∧j=1)∨(i=1∧j=2)∨(i=1∧j=3)∨(i=2∧j=2)∨(i=1∧j=4)∨(i=2∧j=3) by omega)with⟨rfl,rfl⟩|⟨rfl,rfl⟩|⟨rfl,rfl⟩|⟨rfl,rfl⟩|⟨rfl,rfl⟩|⟨rfl,rfl⟩
 ·exact⟨_,aaj⟩
 ·exact⟨_,aam⟩
 ·exact⟨_,aaq⟩
 ·exact⟨_,aat⟩
 ·exact⟨_,aax⟩
 ·exact⟨_,aaA⟩
theorem tnA {k:Nat} (hk:1≤k) (h:k≤5): ∃cs,Ie k x_ cs=true:=by
 rcases(show k=1∨k=2∨k=3∨k=4∨k=5 by omega)with rfl|rfl|rfl|rfl|rfl
 ·exact⟨_,tn2⟩
 ·exact⟨_,tn3⟩
 ·exact⟨_,tn4⟩
 ·exact⟨_,tn5⟩
 ·exact⟨_,tn6⟩
theorem tsA {k:Nat} (hk:1≤k) (h:k≤5): ∃cs,Ie k np cs=true:=by
 rcases(show k=1∨k=2∨k=3∨k=4∨k=5 by omega)with rfl|rfl|rfl|rfl|rfl
 ·exact⟨_,ts2⟩
 ·exact⟨_,ts3⟩
 ·exact⟨_,ts4⟩
 ·exact⟨_,ts5⟩
 ·exact⟨_,ts6⟩
def vV (k:Nat):Nat:=[0,3,3,4,5,5,8,11].getD k 0
theorem Xr:((List.range 7).all fun k=>(IC.getD k []).all fun i=>Nat.blt (ml i).f 65536&&(Nat.ble (ml i).n (vV k)&&(Nat.blt 0 (ml i).n&&vW (ml i).n fun s=>vW (ml i).c fun x=>Nat.blt ((ml i).to s x) (ml i).n)))=true:=by kernel_rfl
theorem A6 {k:Nat} {e:En} (h:MM k e) (hk:k≤6):e.f<65536∧e.n≤vV k∧0<e.n∧ ∀s,s<e.n→ ∀x,x<e.c→e.to s x<e.n:=by
 obtain⟨i,hi,rfl⟩:=h
 have h1:=List.all_eq_true.1 (List.all_eq_true.1 Xr k (List.mem_range.2 (by omega))) i hi
 rw[aM,aM,aM,kY]at h1
 exact⟨Nat.le_of_ble_eq_true h1.1,Nat.le_of_ble_eq_true h1.2.1,Nat.le_of_ble_eq_true h1.2.2.1,fun s hs x hx=>Nat.le_of_ble_eq_true (kY.1 (h1.2.2.2 s hs) x hx)⟩
theorem GB {v:Nat} (hv:v≤6) {e:En} {p:Lg} (hr:tL v e.mc p) {n:Nat} (hn:e.n≤n) (h1:n≤4096) (h0:0<e.n) (hc: ∀s,s<e.n→ ∀x,x<e.c→e.to s x<e.n): ∃D,HasL (v:Int) n D p:=by
 obtain⟨D,hD⟩:=sF hv hr (L:=List.range e.n) (List.mem_range.2 h0) (fun s hs x hx=>List.mem_range.2 (hc s (List.mem_range.1 hs) x hx)) (by simp;omega)
 exact⟨D,hD.le (bE hD.len (by simpa using hn))⟩
theorem LV {v:Nat}:tL v (ml 0).mc (gj .none):=⟨fun _=>0,fun _ _=>(by decide:0<(ml 0).c),fun w _=>(Nat.zero_testBit _).symm⟩
theorem If {v:Nat}:tL v (ml 1).mc (gj .empty):=by
 refine⟨fun _=>0,fun _ _=>(by decide:0<(ml 1).c),fun w _=>?_⟩
 have t0:(ml 1).to 0 0=1:=by decide
 have t1:(ml 1).to 1 0=1:=by decide
 have f0:(ml 1).fi 0=true:=by decide
 have f1:(ml 1).fi 1=false:=by decide
 cases w with
 |nil=>exact f0.symm
 |cons x w=>
  have: ∀w:List Nat,(ml 1).mc.run 1 (w.map fun _=>0)=1:=by
   intro w
   induction w with
   |nil=>rfl
   |cons x w ih=>
    show(ml 1).mc.run ((ml 1).to 1 0) (w.map fun _=>0)=1
    rw[t1];exact ih
  show _=(ml 1).fi ((ml 1).mc.run ((ml 1).to 0 0) (w.map fun _=>0))
  rw[t0,this,f1]
  rfl
theorem E4 {v p n:Nat}:tL v (ml 2).mc (gj (.letter p n)):=by
 have t0: ∀c:Bool,(ml 2).to 0 (cond c 0 1)=cond c 1 2:=by decide
 have t1: ∀c:Bool,(ml 2).to 1 (cond c 0 1)=2:=by decide
 have t2: ∀c:Bool,(ml 2).to 2 (cond c 0 1)=2:=by decide
 have f0:(ml 2).fi 0=false:=by decide
 have f1: ∀c:Bool,(ml 2).fi (cond c 1 2)=c:=by decide
 have f2:(ml 2).fi 2=false:=by decide
 have hc: ∀c:Bool,cond c 0 1<(ml 2).c:=by decide
 refine⟨fun x=>cond (gm p n x) 0 1,fun x _=>hc _,fun w _=>?_⟩
 have h2: ∀w:List Nat,(ml 2).mc.run 2 (w.map fun x=>cond (gm p n x) 0 1)=2:=by
  intro w
  induction w with
  |nil=>rfl
  |cons x w ih=>
   show(ml 2).mc.run ((ml 2).to 2 (cond (gm p n x) 0 1)) _=2
   rw[t2];exact ih
 show Cx 1 (gm p n) w=_
 cases w with
 |nil=>
  have e:Cx 1 (gm p n) []=false:=by simp[Cx]
  rw[e,fz]
  exact f0.symm
 |cons x w=>
  cases w with
  |nil=>
   show Cx 1 (gm p n) [x]=(ml 2).fi ((ml 2).to 0 (cond (gm p n x) 0 1))
   rw[t0,f1]
   simp[Cx]
  |cons y w=>
   show _=(ml 2).fi ((ml 2).mc.run ((ml 2).to ((ml 2).to 0 (cond (gm p n x) 0 1)) (cond (gm p n y) 0 1)) (w.map fun x=>cond (gm p n x) 0 1))
   have t3:(ml 2).to (cond (gm p n x) 1 2) (cond (gm p n y) 0 1)=2:=by
    cases gm p n x
    ·exact t2 _
    ·exact t1 _
   rw[t0,t3,h2,f2]
   simp[Cx]
def Rx.sz:Rx→Nat
 | .je a b| .jq a b| .and a b=>a.sz+b.sz+1
 | .not a| .star a| .ahead a| .behind a=>a.sz+1
 |_=>1
theorem Rx.dN: ∀t:Rx,1≤t.sz
 | .none| .empty| .letter _ _=>a8 _
 | .je a b| .jq a b| .and a b=>bw _
 | .not a| .star a| .ahead a| .behind a=>bw _
theorem tL.to {v:Nat} {m:Mc} {p q:Lg} (h:tL v m p) (hq: ∀w,p w=q w):tL v m q:=by
 obtain⟨k,h1,h2⟩:=h
 exact⟨k,h1,fun w hw=>by rw[←hq];exact h2 w hw⟩
theorem iH {v:Nat}: ∀(t:Rx),t.plain=true→t.sz≤6→ ∃e,MM t.sz e∧tL v e.mc (gj t)
 | .none,_,_=>⟨_,⟨0,(by decide:0∈IC.getD 1 []),F⟩,LV⟩
 | .empty,_,_=>⟨_,⟨1,(by decide:1∈IC.getD 1 []),F⟩,If⟩
 | .letter p n,_,_=>⟨_,⟨2,(by decide:2∈IC.getD 1 []),F⟩,E4⟩
 | .not a,hp,hs=>by
  have hs:a.sz+1≤6:=hs
  obtain⟨e,h1,h2⟩:=iH (v:=v) a hp (by omega)
  obtain⟨cs,hc⟩:=tnA a.dN (by omega)
  exact GA hc h1 (Gw h2)
 | .star a,hp,hs=>by
  have hs:a.sz+1≤6:=hs
  obtain⟨e,h1,h2⟩:=iH (v:=v) a hp (by omega)
  obtain⟨cs,hc⟩:=tsA a.dN (by omega)
  exact GA hc h1 (Df (A6 h1 (by omega)).1 h2)
 | .je a b,hp,hs=>by
  have hs:a.sz+b.sz+1≤6:=hs
  simp only[Rx.plain,aM]at hp
  obtain⟨e,h1,h2⟩:=iH (v:=v) a hp.1 (by omega)
  obtain⟨f,k1,k2⟩:=iH (v:=v) b hp.2 (by omega)
  obtain⟨cs,hc⟩:=tcA a.dN b.dN (by omega)
  exact tO hc h1 k1 (Gy h2 k2)
 | .jq a b,hp,hs=>by
  have hs:a.sz+b.sz+1≤6:=hs
  simp only[Rx.plain,aM]at hp
  obtain⟨e,h1,h2⟩:=iH (v:=v) a hp.1 (by omega)
  obtain⟨f,k1,k2⟩:=iH (v:=v) b hp.2 (by omega)
  rcases Nat.le_total a.sz b.sz with c|c
  ·obtain⟨cs,hc⟩:=toA a.dN b.dN c (by omega)
   exact tO hc h1 k1 (qR or h2 k2)
  ·obtain⟨cs,hc⟩:=toA b.dN a.dN c (by omega)
   have:=tO hc k1 h1 ((qR or k2 h2).to (q:=gj (.jq a b)) fun w=>Bool.or_comm _ _)
   rwa[show b.sz+a.sz+1=(Rx.jq a b).sz by show _=a.sz+b.sz+1;omega]at this
 | .and a b,hp,hs=>by
  have hs:a.sz+b.sz+1≤6:=hs
  simp only[Rx.plain,aM]at hp
  obtain⟨e,h1,h2⟩:=iH (v:=v) a hp.1 (by omega)
  obtain⟨f,k1,k2⟩:=iH (v:=v) b hp.2 (by omega)
  rcases Nat.le_total a.sz b.sz with c|c
  ·obtain⟨cs,hc⟩:=taA a.dN b.dN c (by omega)
   exact tO hc h1 k1 (qR and h2 k2)
  ·obtain⟨cs,hc⟩:=taA b.dN a.dN c (by omega)
   have:=tO hc k1 h1 ((qR and k2 h2).to (q:=gj (.and a b)) fun w=>Bool.and_comm _ _)
   rwa[show b.sz+a.sz+1=(Rx.and a b).sz by show _=a.sz+b.sz+1;omega]at this
 | .ahead a,hp,_=>absurd hp (by simp[Rx.plain])
 | .behind a,hp,_=>absurd hp (by simp[Rx.plain])
theorem OM {v:Nat} (hv:v≤6) {t:Rx} (hp:t.plain=true) (hs:t.sz≤6): ∃D,HasL (v:Int) (vV t.sz) D (gj t):=by
 obtain⟨e,h1,h2⟩:=iH (v:=v) t hp hs
 obtain⟨_,h3,h4,h5⟩:=A6 h1 hs
 refine GB hv h2 h3 ?_ h4 h5
 have: ∀k,k≤6→vV k≤4096:=by decide
 exact this _ hs
theorem gf.xx {v:Nat} {B n:Nat} {M D:cM} {p:Lg} (h:gf (v:Int) B M p) (hD:HasL (v:Int) n D p):M.next.length≤n:=by
 have h1:=hD.nX
 rw[gf.ext h h1 fun _ _=>rfl];exact h1.len
end Go.Lx

namespace Go.Lx
open Go.RowKit
def l8:Nat→List (List Nat)
 |0=>[[]]
 |n+1=>l8 n++(l8 n).map (· ++[n])
theorem uM: ∀n,(l8 n).length=2^n
 |0=>rfl
 |n+1=>by
  show(l8 n++(l8 n).map (· ++[n])).length=_
  rw[aF,ar,uM n,Nat.pow_succ];omega
theorem zX (p:Nat→Bool): ∀n,(List.range n).filter p∈l8 n
 |0=>by simp[l8]
 |n+1=>by
  rw[List.range_succ,List.filter_append]
  show _∈l8 n++(l8 n).map (· ++[n])
  have ih:=zX p n
  cases h:p n with
  |true=>rw[show[n].filter p=[n] by simp[h]];exact List.mem_append.2 (.inr (List.mem_map.2 ⟨_,ih,F⟩))
  |false=>rw[show[n].filter p=[] by simp[h],cT];exact List.mem_append.2 (.inl ih)
theorem oJ: ∀ {n:Nat} {l:List Nat},l∈l8 n→l.Pairwise (· < ·)∧ ∀x∈l,x<n
 |0,l,h=>by simp[l8]at h;subst h;exact⟨List.Pairwise.nil,fun x hx=>by simp at hx⟩
 |n+1,l,h=>by
  rcases List.mem_append.1 (show l∈l8 n++(l8 n).map (· ++[n])from h)with h|h
  ·have:=oJ h;exact⟨this.1,fun x hx=>by have:=this.2 x hx;omega⟩
  ·obtain⟨m,hm,rfl⟩:=List.mem_map.1 h
   have:=oJ hm
   refine⟨List.pairwise_append.2 ⟨this.1,List.pairwise_singleton _ _,fun x hx y hy=>?_⟩,fun x hx=>?_⟩
   ·rw[List.mem_singleton.1 hy];exact this.2 x hx
   ·rcases List.mem_append.1 hx with hx|hx
    ·have:=this.2 x hx;omega
    ·rw[List.mem_singleton.1 hx];omega
theorem uN {n:Nat} {l:List Nat} (h1:l.Pairwise (· < ·)) (h2: ∀x∈l,x<n):l∈l8 n:=by
 have:l=(List.range n).filter (fun x=>l.contains x):=xX h1 (List.Pairwise.filter _ List.pairwise_lt_range) fun y=>by
  simp only[List.mem_filter,fj,List.contains_iff_mem]
  exact⟨fun h=>⟨h2 y h,h⟩,fun h=>h.2⟩
 rw[this];exact zX _ _
theorem GD {α:Type} [Nonempty α] {G:α→Prop} {kf:α→Key} {nx:α→Nat→α} {fn:α→Bool} {L:Nat} (h:Ot G kf nx fn L) {s:α} (hs:G s) (Q:List α) (hQ: ∀q,q∈Q↔G q) {B:Nat} (hB:Q.length≤B):HI (Bi G kf nx) L (kf s) B:=by
 refine⟨Q.map kf,⟨List.mem_map.2 ⟨s,(hQ s).2 hs,F⟩,fun k hk x hx=>?_⟩,by simpa using hB⟩
 obtain⟨q,hq,rfl⟩:=List.mem_map.1 hk
 rw[uu h ((hQ q).1 hq) hx]
 exact List.mem_map.2 ⟨_,(hQ _).2 (h.WI q x ((hQ q).1 hq) hx),F⟩
theorem mw {a b:cM} (ha:Valid a) (hb:Valid b) {B:Nat} (h:a.next.length*2^b.next.length≤B):AF a b (dT a) B:=by
 refine GD (FU ha hb) (.start ha.toVal hb.toVal) ((List.range a.next.length).flatMap fun s=>(l8 b.next.length).map fun l=>(s,l)) (fun q=>?_) ?_
 ·simp only[List.mem_flatMap,fj,iu]
  constructor
  ·rintro⟨s,hs,l,hl,rfl⟩;exact⟨hs,(oJ hl).1,(oJ hl).2⟩
  ·rintro⟨h1,h2,h3⟩;exact⟨q.1,h1,q.2,uN h2 h3,F⟩
 ·rw[List.length_flatMap]
  simp only[ar,uM]
  rw[show(fun _:Nat=>2^b.next.length)=Function.const Nat (2^b.next.length)from F,List.map_const,List.sum_replicate_nat,List.length_range]
  exact h
theorem tk {a:cM} (ha:Valid a) {B:Nat} (h:2^(a.next.length+1)≤B):Eo a (dT a) B:=by
 refine GD (AG ha) (.start ha.toVal) ((l8 a.next.length).map (fun l=>(true,l))++(l8 a.next.length).map (fun l=>(false,l))) (fun q=>?_) ?_
 ·simp only[jr,iu]
  constructor
  ·rintro(⟨l,hl,rfl⟩|⟨l,hl,rfl⟩)<;>exact⟨(oJ hl).1,(oJ hl).2⟩
  ·rintro⟨h1,h2⟩
   obtain⟨f,l⟩:=q
   cases f with
   |true=>exact .inl ⟨l,uN h1 h2,F⟩
   |false=>exact .inr ⟨l,uN h1 h2,F⟩
 ·rw[aF,ar,ar,uM]
  rw[Nat.pow_succ]at h;omega
theorem HasL.H7 {v:Int} {n:Nat} {d:cM} {p:Lg} (h:HasL v n d p):HasL v d.next.length d p:=⟨h.valid,a8 _,h.vars,h.iI⟩
theorem A4 {f:Bool→Bool→Bool} {a b:cM} (ha:Valid a) (hb:Valid b) (hv:a.vars=b.vars) {B:Nat} (hB:B≤4096) (h:a.next.length*b.next.length≤B):Te f a b B:=by
 refine⟨bE (qW (jV ha.toVal hb.toVal hv)) (by rw[jl];omega),bE (Fb ha.toVal hb.toVal hv (by omega)) h⟩
end Go.Lx

namespace Go.Lx
open Go.RowKit Go.Proofs.YtgdbfideeeegmaaGreatDoor
section
variable (ls:List Lf)
def Dg:Nat→List (List Ob)
 |0=>[[]]
 |k+1=>Dg k++(Dg k).flatMap fun o=>(List.range (lf ls k).d.next.length).map fun s=>o++[(k,s)]
def QB:Nat→Nat
 |0=>1
 |k+1=>QB k*((lf ls k).d.next.length+1)
def Ig:Nat→List Cf
 |0=>[]
 |k+1=>Ig k++(Dg ls k).flatMap fun o=>(List.range (lf ls k).d.next.length).map fun s=>⟨(k:Int),s,o⟩
variable {ls}
theorem LW {α β:Type} (l:List α) (n:Nat) (f:α→Nat→β):(l.flatMap fun o=>(List.range n).map fun s=>f o s).length=l.length*n:=by
 induction l with
 |nil=>simp
 |cons a l ih=>rw[List.flatMap_cons,aF,ar,List.length_range,ih,bL,Nat.succ_mul];omega
theorem ye: ∀k,(Dg ls k).length=QB ls k
 |0=>rfl
 |k+1=>by
  show(Dg ls k++_).length=QB ls k*_
  rw[aF,LW,ye k,Nat.mul_succ];omega
theorem Dh: ∀k,(Ig ls k).length+1=QB ls k
 |0=>rfl
 |k+1=>by
  show(Ig ls k++_).length+1=QB ls k*_
  rw[aF,LW,ye k,Nat.mul_succ];have:=Dh k;omega
theorem qS: ∀ {k:Nat} {o:List Ob},fO ls k o→o∈Dg ls k
 |0,o,h=>by
  cases o with
  |nil=>exact List.mem_singleton.2 F
  |cons p o=>exact absurd (h.2 p (by simp)).1 (by omega)
 |k+1,o,h=>by
  show o∈Dg ls k++_
  rcases List.eq_nil_or_concat o with rfl|⟨o,p,rfl⟩
  ·exact List.mem_append.2 (.inl (qS .nil))
  ·rw[List.concat_eq_append]at h⊢
   have h1:=List.pairwise_append.1 h.1
   have hp:=h.2 p (by simp)
   have gn: ∀q∈o,q.1<p.1:=fun q hq=>h1.2.2 q hq p (by simp)
   rcases Nat.lt_or_ge p.1 k with c|c
   ·refine List.mem_append.2 (.inl (qS ⟨h.1,fun q hq=>⟨?_,(h.2 q hq).2⟩⟩))
    rcases List.mem_append.1 hq with hq|hq
    ·have:=gn q hq;omega
    ·rw[List.mem_singleton.1 hq];exact c
   ·have e:p.1=k:=by omega
    refine List.mem_append.2 (.inr (List.mem_flatMap.2 ⟨o,qS ⟨h1.1,fun q hq=>⟨by have:=gn q hq;omega,(h.2 q (by simp[hq])).2⟩⟩,List.mem_map.2 ⟨p.2,List.mem_range.2 (by rw[←e];exact hp.2),?_⟩⟩))
    rw[←e]
theorem Di {n:Nat} {s:Nat} {o:List Ob}: ∀ {k:Nat},n<k→s<(lf ls n).d.next.length→fO ls n o→(⟨(n:Int),s,o⟩:Cf)∈Ig ls k
 |0,h,_,_=>absurd h (by omega)
 |k+1,h,hs,ho=>by
  show _∈Ig ls k++_
  rcases Nat.lt_or_ge n k with c|c
  ·exact List.mem_append.2 (.inl (Di c hs ho))
  ·have e:n=k:=by omega
   subst e
   exact List.mem_append.2 (.inr (List.mem_flatMap.2 ⟨o,qS ho,List.mem_map.2 ⟨s,List.mem_range.2 hs,F⟩⟩))
theorem FH {K:Nat} (h:2*QB ls ls.length≤K+1):qu ls K:=fun l hn hg=>by
 have:=uG hn (m:=(Dg ls ls.length).map (fun o=>(⟨-1,0,o⟩:Cf))++Ig ls ls.length) fun c hc=>by
  rcases hg c hc with⟨h1,h2,h3⟩|⟨k,h1,hk,h2,h3⟩
  ·exact List.mem_append.2 (.inl (List.mem_map.2 ⟨c.o,qS h3,by obtain⟨a,b,d⟩:=c;simp only at h1 h2;rw[h1,h2]⟩))
  ·refine List.mem_append.2 (.inr ?_)
   obtain⟨a,b,d⟩:=c
   simp only at h1 h2 h3
   rw[h1];exact Di hk h2 h3
 rw[aF,ar,ye]at this
 have:=Dh (ls:=ls) ls.length
 omega
end
def GF:List cM→Nat
 | []=>1
 |d::l=>(d.next.length+1)*GF l
theorem yf: ∀(l:List cM) (d:cM),GF (l++[d])=GF l*(d.next.length+1)
 | [],d=>by simp[GF]
 |a::l,d=>by show _*GF (l++[d])=_*GF l*_;rw[yf l d,Nat.mul_assoc]
theorem Dj (ls:List Lf): ∀k,k≤ls.length→QB ls k=GF ((ls.take k).map Lf.d)
 |0,_=>rfl
 |k+1,h=>by
  rw[aH (by omega),bo,List.map_singleton,yf,←Dj ls k (by omega)]
  show QB ls k*_=_
  rw[xK (show k<ls.length by omega)]
theorem QC {ls:List Lf} {k:Nat} {q:Lf} (hq:q.d=(lf ls k).d):(ls.set k q).map Lf.d=ls.map Lf.d:=by
 apply List.ext_getElem?
 intro i
 rw[bq,bq]
 by_cases e:i=k
 ·subst e
  rcases Nat.lt_or_ge i ls.length with c|c
  ·rw[List.getElem?_set_self c,ap c]
   show some q.d=some ls[i].d
   rw[hq,xK c]
  ·rw[bQ (by simpa using c),bQ c]
 ·rw[List.getElem?_set_ne (fun h=>e h.symm)]
theorem GG: ∀(b x:List Nat) (ls:List Lf),(l6 ls b x).map Lf.d=ls.map Lf.d
 | [],x,ls=>rfl
 |k::b,x,ls=>(GG b x _).trans (QC (ls:=ls) (k:=k) F)
theorem GH: ∀(la:List Nat) (ls:List Lf),(pK ls la).map Lf.d=ls.map Lf.d
 | [],ls=>rfl
 |k::la,ls=>(GH la _).trans (QC (ls:=ls) (k:=k) F)
theorem fX {v B:Nat} (hv:v≤6) (hB:B≤4096) {t:Rx} (hp:t.plain=true) (ho:jY v t B) (hs:t.sz≤6):(minOf v (gj t)).next.length≤vV t.sz:=by
 obtain⟨D,hD⟩:=OM hv hp hs
 exact(dG hv hB hp ho).xx hD
theorem jJ: ∀k,k≤6→vV k≤8:=by decide
theorem Ih {v B:Nat} (hv:v≤6) (hB:B≤4096): ∀ {t:Rx},t.plain=true→jY v t B→t.sz=7→(minOf v (gj t)).next.length≤512
 | .none,_,_,hs=>absurd hs (by decide)
 | .empty,_,_,hs=>absurd hs (by decide)
 | .letter p n,_,_,hs=>absurd hs (by show¬1=7;decide)
 | .not a,hp,ho,hs=>by
  have hs:a.sz+1=7:=hs
  have h1:=fX hv hB (t:=a) hp ho.1 (by omega)
  have h2:=jJ a.sz (by omega)
  have h3:=(dG hv hB (t:=a) hp ho.1).toHasL
  have h4:(minOf v (gj a)).next.length*(minOf v (gj a)).next.length≤8*8:=Nat.mul_le_mul (by omega) (by omega)
  have h5:=HasL.not (h3.le (a8 _)) (by omega)
  have h6:=(dG hv hB (t:=.not a) hp ho).xx (D:=nY (minOf v (gj a))) (h5.toHasL)
  omega
 | .star a,hp,ho,hs=>by
  have hs:a.sz+1=7:=hs
  have h1:=fX hv hB (t:=a) hp ho.1 (by omega)
  have h2:=jJ a.sz (by omega)
  have h3:=dG hv hB (t:=a) hp ho.1
  have h4:2^((minOf v (gj a)).next.length+1)≤2^9:=bO (by decide) (by omega)
  have h5:=CY (B:=512) hv (by decide) h3.toHasL (tk h3.valid h4)
  exact h5.len
 | .je a b,hp,ho,hs=>by
  have hs:a.sz+b.sz+1=7:=hs
  simp only[Rx.plain,aM]at hp
  have pa:=a.dN;have pb:=b.dN
  have h1:=fX hv hB hp.1 ho.1 (by omega)
  have h2:=fX hv hB hp.2 ho.2.1 (by omega)
  have h3:=dG hv hB hp.1 ho.1
  have h4:=dG hv hB hp.2 ho.2.1
  have h6:vV a.sz*2^vV b.sz≤512:=by
   have: ∀i,i≤5→ ∀j,j≤5→vV i*2^vV j≤512:=by decide
   exact this _ (by omega) _ (by omega)
  have h7:(minOf v (gj a)).next.length*2^(minOf v (gj b)).next.length≤vV a.sz*2^vV b.sz:=Nat.mul_le_mul h1 (bO (by decide) h2)
  exact(mx (B:=512) hv (by decide) h3.toHasL h4.toHasL (mw h3.valid h4.valid (by omega))).len
 | .jq a b,hp,ho,hs=>by
  have hs:a.sz+b.sz+1=7:=hs
  simp only[Rx.plain,aM]at hp
  have pa:=a.dN;have pb:=b.dN
  have h1:=fX hv hB hp.1 ho.1 (by omega)
  have h2:=fX hv hB hp.2 ho.2.1 (by omega)
  have h3:=dG hv hB hp.1 ho.1
  have h4:=dG hv hB hp.2 ho.2.1
  have h6:(minOf v (gj a)).next.length*(minOf v (gj b)).next.length≤8*8:=Nat.mul_le_mul (bE h1 (jJ _ (by omega))) (bE h2 (jJ _ (by omega)))
  have h7:=HasL.op (f:=DH) h3.toHasL.H7 h4.toHasL.H7 (by omega)
  have h8:=(dG hv hB (t:=.jq a b) (by simp[Rx.plain,hp]) ho).xx h7.toHasL
  omega
 | .and a b,hp,ho,hs=>by
  have hs:a.sz+b.sz+1=7:=hs
  simp only[Rx.plain,aM]at hp
  have pa:=a.dN;have pb:=b.dN
  have h1:=fX hv hB hp.1 ho.1 (by omega)
  have h2:=fX hv hB hp.2 ho.2.1 (by omega)
  have h3:=dG hv hB hp.1 ho.1
  have h4:=dG hv hB hp.2 ho.2.1
  have h6:(minOf v (gj a)).next.length*(minOf v (gj b)).next.length≤8*8:=Nat.mul_le_mul (bE h1 (jJ _ (by omega))) (bE h2 (jJ _ (by omega)))
  have h7:=HasL.op (f:=rR) h3.toHasL.H7 h4.toHasL.H7 (by omega)
  have h8:=(dG hv hB (t:=.and a b) (by simp[Rx.plain,hp]) ho).xx h7.toHasL
  omega
 | .ahead a,hp,_,_=>absurd hp (by simp[Rx.plain])
 | .behind a,hp,_,_=>absurd hp (by simp[Rx.plain])
def Dk (k:Nat):Nat:=if k≤6 then vV k else if k=7 then 512 else 4096
theorem uO {v B:Nat} (hv:v≤6) (hB:B≤4096) {t:Rx} (hp:t.plain=true) (ho:jY v t B):(minOf v (gj t)).next.length≤Dk t.sz:=by
 unfold Dk
 split
 ·exact fX hv hB hp ho (by assumption)
 ·split
  ·exact Ih hv hB hp ho (by assumption)
  ·exact bE (dG hv hB hp ho).len hB
def vX (n c:Nat):Prop:= ∃e,n≤2^e∧9*e≤13*c
theorem vX.mul {n m c d:Nat} (h:vX n c) (k:vX m d):vX (n*m) (c+d):=by
 obtain⟨e,h1,h2⟩:=h
 obtain⟨f,k1,k2⟩:=k
 exact⟨e+f,by rw[Nat.pow_add];exact Nat.mul_le_mul h1 k1,by omega⟩
def Uc (k:Nat):Nat:=if k≤7 then[2,2,2,3,3,3,4,10].getD k 0 else 13
def Ud (k:Nat):Nat:=if k≤7 then[3,3,3,4,4,4,5,11].getD k 0 else 13
def Ue (k:Nat):Nat:=if k≤6 then[4,4,4,5,6,6,9].getD k 0 else 13
theorem Tp (k:Nat) (h:1≤k):Dk k+1≤2^Uc k∧9*Uc k≤13*(k+1):=by
 rcases Nat.lt_or_ge k 8 with c|c
 ·have: ∀k,k<8→1≤k→Dk k+1≤2^Uc k∧9*Uc k≤13*(k+1):=by decide
  exact this k c h
 ·have e1:Dk k=4096:=by unfold Dk;rw[ay (by omega),ay (by omega)]
  have e2:Uc k=13:=by unfold Uc;rw[ay (by omega)]
  rw[e1,e2];omega
theorem Tq (k:Nat) (h:1≤k):min (2*Dk k) 4096+1≤2^Ud k∧9*Ud k≤13*(k+1+1):=by
 rcases Nat.lt_or_ge k 8 with c|c
 ·have: ∀k,k<8→1≤k→min (2*Dk k) 4096+1≤2^Ud k∧9*Ud k≤13*(k+1+1):=by decide
  exact this k c h
 ·have e2:Ud k=13:=by unfold Ud;rw[ay (by omega)]
  rw[e2];omega
theorem Tr (k:Nat) (h:1≤k):(if k≤6 then 2^Dk k else 4096)+1≤2^Ue k∧9*Ue k≤13*(k+1+1):=by
 rcases Nat.lt_or_ge k 7 with c|c
 ·have: ∀k,k<7→1≤k→(if k≤6 then 2^Dk k else 4096)+1≤2^Ue k∧9*Ue k≤13*(k+1+1):=by decide
  exact this k c h
 ·have e2:Ue k=13:=by unfold Ue;rw[ay (by omega)]
  rw[e2,ay (by omega)];omega
theorem Ii {v B:Nat} (hv:v≤6) (hB:B≤4096): ∀ {t:Rx},t.wf=true→okB v t B→(∀a b,t≠.je a b)→(∀a b,t≠.jq a b)→vX ((pL v t).d.next.length+1) (t.sz+1):=by
 have pl: ∀ {t:Rx},t.plain=true→jY v t B→vX ((minOf v (gj t)).next.length+1) (t.sz+1):=fun {t} hp ho=>by
  obtain⟨h1,h2⟩:=Tp t.sz t.dN
  exact⟨_,bE (Nat.succ_le_succ (uO hv hB hp ho)) h1,h2⟩
 intro t
 cases t with
 |none=>exact fun hw h _ _=>pl (t:=.none) hw h
 |empty=>exact fun hw h _ _=>pl (t:=.empty) hw h
 |letter p n=>exact fun hw h _ _=>pl (t:=.letter p n) hw h
 |and a b=>exact fun hw h _ _=>pl (t:=.and a b) hw h
 |not a=>exact fun hw h _ _=>pl (t:=.not a) hw h
 |star a=>exact fun hw h _ _=>pl (t:=.star a) hw h
 |je a b=>exact fun _ _ h _=>absurd F (h a b)
 |jq a b=>exact fun _ _ _ h=>absurd F (h a b)
 |ahead a=>
  intro hw h _ _
  obtain⟨h1,h2⟩:=Tq a.sz a.dN
  have h3:=uO hv hB (t:=a) hw h.1
  have h4:=dG hv hB (t:=a) hw h.1
  have h5:(pL v (.ahead a)).d.next.length≤min (2*Dk a.sz) 4096:=by
   have hm:=(mx hv hB h4.toHasL (fG hv) h.2).len
   refine Nat.le_min.2 ⟨?_,bE hm hB⟩
   rcases Nat.lt_or_ge (2*Dk a.sz) 4096 with c|c
   ·have hs:=fG hv
    have h6:=mx (B:=2*Dk a.sz) hv (by omega) h4.toHasL hs (mw h4.valid hs.valid (by show _*2^1≤_;omega))
    exact h6.len
   ·exact bE hm (by omega)
  exact⟨_,bE (Nat.succ_le_succ h5) h1,h2⟩
 |behind a=>
  intro hw h _ _
  obtain⟨h1,h2⟩:=Tr a.sz a.dN
  have h3:=uO hv hB (t:=a) hw h.1
  have h4:=dG hv hB (t:=a) hw h.1
  have h5:(pL v (.behind a)).d.next.length≤(if a.sz≤6 then 2^Dk a.sz else 4096):=by
   have hm:=(mx hv hB (fG hv) h4.toHasL h.2).len
   split
   ·have hs:=fG hv
    have h7:2^Dk a.sz≤256:=by
     have: ∀k,k≤6→2^Dk k≤256:=by decide
     exact this _ (by assumption)
    have h6:=mx (B:=2^Dk a.sz) hv (by omega) hs h4.toHasL (mw hs.valid h4.valid (by show 1*_≤_;rw[Nat.one_mul];exact bO (by decide) h3))
    exact h6.len
   ·exact bE hm hB
  exact⟨_,bE (Nat.succ_le_succ h5) h1,h2⟩
theorem Dl {v B:Nat} (hv:v≤6) (hB:B≤4096): ∀(t:Rx) (ls:List Lf),t.wf=true→okB v t B→ ∀c,vX (GF (ls.map Lf.d)) c→vX (GF ((aY v t ls).ls.map Lf.d)) (c+(t.sz+1)):=by
 have leaf: ∀(t:Rx) (ls:List Lf),t.wf=true→okB v t B→(∀a b,t≠.je a b)→(∀a b,t≠.jq a b)→ ∀c,vX (GF (ls.map Lf.d)) c→vX (GF ((ls++[pL v t]).map Lf.d)) (c+(t.sz+1)):=fun t ls hw ho n1 n2 c hc=>by
  rw[bo,List.map_singleton,yf]
  exact hc.mul (Ii hv hB hw ho n1 n2)
 intro t
 induction t with
 |je a b mJ uE=>
  intro ls hw ho c hc
  simp only[Rx.wf,aM]at hw
  have h1:=uE _ hw.2 ho.2 _ (mJ ls hw.1 ho.1 c hc)
  show vX (GF ((l6 _ _ _).map Lf.d)) (c+(a.sz+b.sz+1+1))
  rw[GG,show c+(a.sz+b.sz+1+1)=c+(a.sz+1)+(b.sz+1) by omega]
  exact h1
 |jq a b mJ uE=>
  intro ls hw ho c hc
  simp only[Rx.wf,aM]at hw
  have h1:=uE _ hw.2 ho.2 _ (mJ ls hw.1 ho.1 c hc)
  show vX (GF ((aY v b _).ls.map Lf.d)) (c+(a.sz+b.sz+1+1))
  rw[show c+(a.sz+b.sz+1+1)=c+(a.sz+1)+(b.sz+1) by omega]
  exact h1
 |none=>exact fun ls hw ho=>leaf .none ls hw ho (by simp) (by simp)
 |empty=>exact fun ls hw ho=>leaf .empty ls hw ho (by simp) (by simp)
 |letter p n=>exact fun ls hw ho=>leaf (.letter p n) ls hw ho (by simp) (by simp)
 |and a b _ _=>exact fun ls hw ho=>leaf (.and a b) ls hw ho (by simp) (by simp)
 |not a _=>exact fun ls hw ho=>leaf (.not a) ls hw ho (by simp) (by simp)
 |star a _=>exact fun ls hw ho=>leaf (.star a) ls hw ho (by simp) (by simp)
 |ahead a _=>exact fun ls hw ho=>leaf (.ahead a) ls hw ho (by simp) (by simp)
 |behind a _=>exact fun ls hw ho=>leaf (.behind a) ls hw ho (by simp) (by simp)
theorem ON {v B:Nat} (hv:v≤6) (hB:B≤4096) {t:Rx} (hw:t.wf=true) (ho:okB v t B) (hs:t.sz≤24):qu (nw v t) 137438953471:=by
 have h1:=Dl hv hB t [] hw ho 0 ⟨0,a8 _,by decide⟩
 apply FH
 rw[Dj _ _ (a8 _),List.take_length]
 show 2*GF ((pK _ _).map Lf.d)≤_
 rw[GH]
 obtain⟨e,h2,h3⟩:=h1
 have h4:(2:Nat)^e≤2^36:=bO (by decide) (by omega)
 omega
theorem PB (n:Nat):dQ n=0∨dQ n=1∨dQ n=2:=by
 unfold dQ
 split
 ·exact .inr (.inr F)
 ·split
  ·exact .inr (.inl F)
  ·exact .inl F
theorem tP {v:Nat} {e:List eE} {fs:List Nat} (h:jP v e=.ok fs): ∀(f i:Nat),i<f→i<e.length→(jx e f i).sz+fs.getD i 0≤i+1
 |0,i,hf,hi=>absurd hf (by omega)
 |f+1,i,hf,hi=>by
  obtain⟨g0,g1,g2,g3⟩:=Ay h hi
  obtain⟨s1,s2,_⟩:=lD (q_ h hi)
  unfold jx
  simp only[oE hi]
  rcases PB e[i].op with hc|hc|hc
  ·have h3:=g3 hc
   have:e[i].op=1∨e[i].op=2∨e[i].op=3:=by unfold dQ at hc;split at hc;omega;split at hc;omega;omega
   rcases this with c|c|c
   all_goals (simp only[c];show 1+_≤_;omega)
  ·obtain⟨c1,c2,c3⟩:=g1 hc
   have ha:=tP h f (i-1) (by omega) (by omega)
   have ea:e[i].a.toNat=i-1:=by omega
   rw[ea]
   have:e[i].op=7∨e[i].op=8∨e[i].op=9∨e[i].op=10:=by unfold dQ at hc;split at hc;omega;split at hc;omega;omega
   rcases this with c|c|c|c
   all_goals (simp only[c];show(jx e f (i-1)).sz+1+_≤_;omega)
  ·obtain⟨c1,c2,c3,c4,c5,c6⟩:=g2 hc
   have ha:=tP h f (fs.getD (i-1) 0-1) (by omega) (by omega)
   have hb:=tP h f (i-1) (by omega) (by omega)
   have ea:e[i].a.toNat=fs.getD (i-1) 0-1:=by omega
   have eb:e[i].b.toNat=i-1:=by omega
   rw[ea]at c6
   rw[ea,eb]
   have:e[i].op=4∨e[i].op=5∨e[i].op=6:=by unfold dQ at hc;split at hc;omega;split at hc;omega;omega
   rcases this with c|c|c
   all_goals (simp only[c];show(jx e f _).sz+(jx e f _).sz+1+_≤_;omega)
end Go.Lx

namespace Go.Proofs.YtgdbfideeeegmaaGreatDoor
open Go.Lx Go.RowKit _root_.Go.Proofs.Tryz
set_option maxRecDepth 20000 in
theorem Cz (w:World) [dB Tryz.prog w] (a b:cM) (j k:DK) (ha:At w a j) (hb:At w b k) (va:Valid a) (vb:Valid b) (hv:a.vars=b.vars) (f:Bool→Bool→Bool) (g:Nat) (hf: ∀(base:World) (x y:Bool),eK Tryz.prog base (.func (.func g) #[] #[]) [.bool x,.bool y] [] (fun v O'=>v=.bool (f x y)∧O'=[])):
  cA Tryz.prog 138 [dV a j,dV b k,.func (.func g) #[] #[]] w fun v N=> ∃M k' e,v=.tuple #[dV M k',vI e]∧N=[dI 56 4 3 M k']∧(((order (bJ f a b)).length≤4096∧M=t_ f a b∧e=0)∨(4096<(order (bJ f a b)).length∧e=10)):=by
 rcases Nat.lt_or_ge 4096 (order (bJ f a b)).length with c|c
 ·refine(cd.dk (II:=56) (Bo:=4) (I:=3) (D:=Dv) (g:=fun x=>.tuple #[x,vI 10]) ((gg 56 1 (gg 4 1 (Ew w a b j k ha hb va vb hv f g hf c))).mono ?_)).mono ?_
  ·rintro v N ⟨O2,rfl,O3,rfl,rfl,rfl⟩
   exact⟨none,0,none,0,[],F,F,F⟩
  ·rintro v N ⟨k',rfl,rfl⟩
   exact⟨Dv,k',10,F,F,.inr ⟨c,F⟩⟩
 ·refine(CA w a b j k ha hb va vb hv f g hf c).mono ?_
  rintro v N ⟨k',rfl,rfl⟩
  exact⟨t_ f a b,k',0,F,F,.inl ⟨c,F,F⟩⟩
theorem ZI (w:World) [dB Tryz.prog w] (a b:cM) (j k:DK) (ha:At w a j) (hb:At w b k) (va:Valid a) (vb:Valid b) (hv:a.vars=b.vars):
  cA Tryz.prog 107 [dV a j,dV b k] w fun v N=> ∃M k' e,v=.tuple #[dV M k',vI e]∧N=[dI 56 4 3 M k']∧(((order (bJ rR a b)).length≤4096∧M=t_ rR a b∧e=0)∨(4096<(order (bJ rR a b)).length∧e=10)):=by
 refine aG func107 F ntmps107 F ?_
 refine ai (ao F (dE (cs:=(dC a j)) F F (fun nP=>?_)))
 refine ao F (dE (cs:=(dC b k)) F F (fun xy=>?_))
 refine ao F (bu bK F (fun Kr=>?_))
 refine aj F (ae (ai (ad (ew 2 cS F bK F F F) (ad (ew 1 cS F bK F F F) ?_))))
 have FC:=fun(w1:World) (hI:Inv w [oI Kr 25 [(vI 0),(vI 0),nS,nS],oI xy 25 (dC b k),oI nP 25 (dC a j)] w1)=>(haveI:=ey hI;Cz w1 a b j k (hI.oP ha) (hI.oP hb) va vb hv rR 152 Wc)
 refine ao F (bm Ex (aX FC) F ?_)
 clear FC
 rintro vr O' ⟨N,rfl,M,k',e,rfl,rfl,N3⟩
 refine ad (bG (vs:=_) F F) (ad (bG (vs:=_) F F) (ao F (bV (vs:=(dC M k')) 1 bK F F F F ?_)))
 refine aj F (ae (aN (az ?_)))
 refine jM (vI e) (i:=1) Tryz.results107 cS F bK F F F F ?_
 exact⟨[dI 56 4 3 M k'],(by exact Sub.k .z),M,k',e,F,F,N3⟩
theorem orE (w:World) [dB Tryz.prog w] (a b:cM) (j k:DK) (ha:At w a j) (hb:At w b k) (va:Valid a) (vb:Valid b) (hv:a.vars=b.vars):
  cA Tryz.prog 106 [dV a j,dV b k] w fun v N=> ∃M k' e,v=.tuple #[dV M k',vI e]∧N=[dI 56 4 3 M k']∧(((order (bJ DH a b)).length≤4096∧M=t_ DH a b∧e=0)∨(4096<(order (bJ DH a b)).length∧e=10)):=by
 refine aG func106 F ntmps106 F ?_
 refine ai (ao F (dE (cs:=(dC a j)) F F (fun nP=>?_)))
 refine ao F (dE (cs:=(dC b k)) F F (fun xy=>?_))
 refine ao F (bu bK F (fun Kr=>?_))
 refine aj F (ae (ai (ad (ew 2 cS F bK F F F) (ad (ew 1 cS F bK F F F) ?_))))
 have FC:=fun(w1:World) (hI:Inv w [oI Kr 25 [(vI 0),(vI 0),nS,nS],oI xy 25 (dC b k),oI nP 25 (dC a j)] w1)=>(haveI:=ey hI;Cz w1 a b j k (hI.oP ha) (hI.oP hb) va vb hv DH 151 ZJ)
 refine ao F (bm Ex (aX FC) F ?_)
 clear FC
 rintro vr O' ⟨N,rfl,M,k',e,rfl,rfl,N3⟩
 refine ad (bG (vs:=_) F F) (ad (bG (vs:=_) F F) (ao F (bV (vs:=(dC M k')) 1 bK F F F F ?_)))
 refine aj F (ae (aN (az ?_)))
 refine jM (vI e) (i:=1) Tryz.results106 cS F bK F F F F ?_
 exact⟨[dI 56 4 3 M k'],(by exact Sub.k .z),M,k',e,F,F,N3⟩
theorem We (w:World) [dB Tryz.prog w] (a:cM) (j:DK) (ha:At w a j) (va:Valid a):
  cA Tryz.prog 102 [dV a j] w fun v N=> ∃k':DK,v=.tuple #[dV (nY a) k',vI 0]∧N=[dI 56 4 3 (nY a) k']:=by
 have h:=ZK w a j ha (by have:=va.n4;omega) va.wM (by have:=va.fin;have:=va.n4;omega)
 rw[IK (by rw[uT,dO.2 va]),dO.2 va]at h
 exact h
theorem HQ (w:World) [dB Tryz.prog w] (cb:Nat) (eb:Option Addr) (en ec vs B:Nat) (eR:Sl w (aD cb) [.slice eb en ec,vI (vs:Int),vI (B:Int)]) (gq:vs≤6) (iN:1≤B) (hB:B≤4096) (e:List eE) (hE:Sl w eb (bX e)) (jU:en=e.length) (i:Nat) (hp:e[i]? =some ⟨1,0,0,0,0⟩):
  dA Tryz.prog w (.iface 163 (.agg #[])) 72 [(d_ (aD cb) 0),vN i] [] (sI vs B Rx.none) (¬jY vs Rx.none B):=by
 refine dL func72 F ntmps72 F ?_
 obtain⟨hi,_⟩:=iF hp
 refine ai (ao F (bu bK F (fun z1=>?_)))
 refine ae (ai (ah F (ad (bf F) (ad (ck k_ F g_ F F (aJ eR) (by first|omega|(simp;done)|(simp;omega)|(simp_all;done)|(simp_all;omega))) (ad (c_ dJ F F (aJ eR) F) (ah F (ad (dU (i:=i) dJ cK F F (aJ hE) (by omega) (by rw[cz];omega)) (ad (eP (vs:=[v8 1,v8 0,v8 0,vI 0,vI 0]) cp F cK F F (bw _) (aJ hE) (fH hp)) (ao F (bu cK F (fun z2=>?_)))))))))))
 refine ao F (bV (vs:=[v8 1,v8 0,v8 0,vI 0,vI 0]) 0 cK F F F F ?_)
 refine ae (aO (ai (ad (bj cp F dF F F) (ad (bn 0 fF F F F F) (ae (aU (ai (ad (bM F F) (ad (aA (cq F) (av (by decide))) (ae ?_))))))))))
 refine bW F ?_
 refine ai (ah F (ah F ?_))
 have qp:=fun(w1:World) (hI:Inv w [oI z2 72 [v8 1,v8 0,v8 0,vI 0,vI 0],oI z1 25 [(vI 0),(vI 0),nS,nS]] w1)=>(haveI:=ey hI;MN w1 cb eb en ec vs B (hI.sl eR) gq)
 refine ao F (bm Ey (aX qp) F ?_)
 clear qp
 rintro vr O' ⟨N,rfl,kA,rfl,rfl⟩
 have mX:=fun(w1:World) (hI:Inv w [dI 56 4 3 (fD (vs:Int) true) kA,oI z2 72 [v8 1,v8 0,v8 0,vI 0,vI 0],oI z1 25 [(vI 0),(vI 0),nS,nS]] w1)=>(haveI:=ey hI;We w1 (fD (vs:Int) true) kA (hI.at (k:=kA) (mG 0 F)) (fG gq).valid)
 refine ao F (bm Ks (aX mX) F ?_)
 clear mX
 rintro vr O' ⟨N,rfl,kr,rfl,rfl⟩
 refine ad (bG (vs:=_) F F) (ad (bG (vs:=_) F F) ?_)
 have Kt:=fun(w1:World) (hI:Inv w [dI 56 4 3 (nY (fD (vs:Int) true)) kr,dI 56 4 3 (fD (vs:Int) true) kA,oI z2 72 [v8 1,v8 0,v8 0,vI 0,vI 0],oI z1 25 [(vI 0),(vI 0),nS,nS]] w1)=>(haveI:=ey hI;na w1 cb eb en ec vs B (hI.sl eR) (nY (fD (vs:Int) true)) kr 0)
 refine eC F (eV si (dA.pure Kt) F (fun z _=>⟨F,fun h9=>z ⟨F,h9⟩⟩) ?_)
 clear Kt
 rintro vr O' ⟨N,rfl,rfl,rfl,_,DC⟩
 have Et:=Ku gq DC
 refine ao F (bV (vs:=(dC (nY (fD (vs:Int) true)) kr)) 3 bK F F F F ?_)
 refine ae (aN (az ?_))
 refine cL (i:=3) Tryz.results72 cS F bK F F F ?_
 exact⟨[dI 56 4 3 (nY (fD (vs:Int) true)) kr],(by exact Sub.k .z),(nY (fD (vs:Int) true)),kr,F,F,Et,DC⟩
theorem Kv (w:World) [dB Tryz.prog w] (cb:Nat) (eb:Option Addr) (en ec vs B:Nat) (eR:Sl w (aD cb) [.slice eb en ec,vI (vs:Int),vI (B:Int)]) (gq:vs≤6) (iN:1≤B) (hB:B≤4096) (e:List eE) (hE:Sl w eb (bX e)) (jU:en=e.length) (i:Nat) (a:Rx) (j:Nat) (hp:e[i]? =some ⟨7,0,0,(j:Int),0⟩) (N2: ∀(w1:World) [dB Tryz.prog w1],Inv w [] w1→dA Tryz.prog w1 (.iface 163 (.agg #[])) 72 [(d_ (aD cb) 0),vN j] [] (sI vs B a) (¬jY vs a B)):
  dA Tryz.prog w (.iface 163 (.agg #[])) 72 [(d_ (aD cb) 0),vN i] [] (sI vs B (.not a)) (¬jY vs (.not a) B):=by
 refine dL func72 F ntmps72 F ?_
 obtain⟨hi,_⟩:=iF hp
 refine ai (ao F (bu bK F (fun z1=>?_)))
 refine ae (ai (ah F (ad (bf F) (ad (ck k_ F g_ F F (aJ eR) (by first|omega|(simp;done)|(simp;omega)|(simp_all;done)|(simp_all;omega))) (ad (c_ dJ F F (aJ eR) F) (ah F (ad (dU (i:=i) dJ cK F F (aJ hE) (by omega) (by rw[cz];omega)) (ad (eP (vs:=[v8 7,v8 0,v8 0,vN j,vI 0]) cp F cK F F (bw _) (aJ hE) (fH hp)) (ao F (bu cK F (fun z2=>?_)))))))))))
 refine ao F (bV (vs:=[v8 7,v8 0,v8 0,vN j,vI 0]) 0 cK F F F F ?_)
 refine ae (aO (ai (ad (bj cp F dF F F) (ad (bn 0 fF F F F F) (ae (aU (ai (ad (bM F F) (ad (aA (cq F) (ak (by decide))) (ae (a_ F (ai (ad (bM F F) (ad (aA (cq F) (ak (by decide))) ?_))))))))))))))
 refine ae (a_ F (ai (ad (bM F F) (ad (aA (cq F) (ak (by decide))) (ae (a_ F (ai (ad (bM F F) (ad (aA (cq F) (av (by decide))) ?_)))))))))
 refine ae ?_
 refine bW F ?_
 refine ai (ah F (ah F (ad (bj cp F bl F F) (ad (bn 0 dS F F F F) ?_))))
 have ox:=fun(w1:World) (hI:Inv w [oI z2 72 [v8 7,v8 0,v8 0,vN j,vI 0],oI z1 25 [(vI 0),(vI 0),nS,nS]] w1)=>(haveI:=ey hI;N2 w1 hI.mq)
 refine eC F (eV pG (dA.pure ox) F (fun z _=>⟨F,fun h9=>z h9.1⟩) ?_)
 clear ox
 rintro vr O' ⟨N,rfl,MA,kA,rfl,rfl,qB,HO⟩
 have zE:=gU qB hB
 have Kw:=fun(w1:World) (hI:Inv w [dI 56 4 3 MA kA,oI z2 72 [v8 7,v8 0,v8 0,vN j,vI 0],oI z1 25 [(vI 0),(vI 0),nS,nS]] w1)=>(haveI:=ey hI;We w1 MA kA (hI.at (k:=kA) (mG 0 F)) qB.valid)
 refine ao F (bm Ks (aX Kw) F ?_)
 clear Kw
 rintro vr O' ⟨N,rfl,kr,rfl,rfl⟩
 refine ad (bG (vs:=_) F F) (ad (bG (vs:=_) F F) ?_)
 have B7:=fun(w1:World) (hI:Inv w [dI 56 4 3 (nY MA) kr,dI 56 4 3 MA kA,oI z2 72 [v8 7,v8 0,v8 0,vN j,vI 0],oI z1 25 [(vI 0),(vI 0),nS,nS]] w1)=>(haveI:=ey hI;na w1 cb eb en ec vs B (hI.sl eR) (nY MA) kr 0)
 refine eC F (eV si (dA.pure B7) F (fun z _=>⟨F,fun h9=>z ⟨F,by rw[zE];exact h9.2⟩⟩) ?_)
 clear B7
 rintro vr O' ⟨N,rfl,rfl,rfl,_,P3⟩
 have Et:=notM qB.toHasL P3
 have DC:jY vs (.not a) B:=⟨HO,by rw[←zE];exact P3⟩
 refine ao F (bV (vs:=(dC (nY MA) kr)) 3 bK F F F F ?_)
 refine ae (aN (az ?_))
 refine cL (i:=3) Tryz.results72 cS F bK F F F ?_
 exact⟨[dI 56 4 3 (nY MA) kr],(by exact Sub.k .z),(nY MA),kr,F,F,Et,DC⟩
theorem Kx (w:World) [dB Tryz.prog w] (cb:Nat) (eb:Option Addr) (en ec vs B:Nat) (eR:Sl w (aD cb) [.slice eb en ec,vI (vs:Int),vI (B:Int)]) (gq:vs≤6) (iN:1≤B) (hB:B≤4096) (e:List eE) (hE:Sl w eb (bX e)) (jU:en=e.length) (i:Nat) (a b:Rx) (j k:Nat) (hp:e[i]? =some ⟨5,0,0,(j:Int),(k:Int)⟩) (N2: ∀(w1:World) [dB Tryz.prog w1],Inv w [] w1→dA Tryz.prog w1 (.iface 163 (.agg #[])) 72 [(d_ (aD cb) 0),vN j] [] (sI vs B a) (¬jY vs a B)) (V_: ∀(w1:World) [dB Tryz.prog w1],Inv w [] w1→dA Tryz.prog w1 (.iface 163 (.agg #[])) 72 [(d_ (aD cb) 0),vN k] [] (sI vs B b) (¬jY vs b B)):
  dA Tryz.prog w (.iface 163 (.agg #[])) 72 [(d_ (aD cb) 0),vN i] [] (sI vs B (.jq a b)) (¬jY vs (.jq a b) B):=by
 refine dL func72 F ntmps72 F ?_
 obtain⟨hi,_⟩:=iF hp
 refine ai (ao F (bu bK F (fun z1=>?_)))
 refine ae (ai (ah F (ad (bf F) (ad (ck k_ F g_ F F (aJ eR) (by first|omega|(simp;done)|(simp;omega)|(simp_all;done)|(simp_all;omega))) (ad (c_ dJ F F (aJ eR) F) (ah F (ad (dU (i:=i) dJ cK F F (aJ hE) (by omega) (by rw[cz];omega)) (ad (eP (vs:=[v8 5,v8 0,v8 0,vN j,vN k]) cp F cK F F (bw _) (aJ hE) (fH hp)) (ao F (bu cK F (fun z2=>?_)))))))))))
 refine ao F (bV (vs:=[v8 5,v8 0,v8 0,vN j,vN k]) 0 cK F F F F ?_)
 refine ae (aO (ai (ad (bj cp F dF F F) (ad (bn 0 fF F F F F) (ae (aU (ai (ad (bM F F) (ad (aA (cq F) (ak (by decide))) (ae (a_ F (ai (ad (bM F F) (ad (aA (cq F) (ak (by decide))) ?_))))))))))))))
 refine ae (a_ F (ai (ad (bM F F) (ad (aA (cq F) (ak (by decide))) (ae (a_ F (ai (ad (bM F F) (ad (aA (cq F) (ak (by decide))) ?_)))))))))
 refine ae (a_ F (ai (ad (bM F F) (ad (aA (cq F) (ak (by decide))) (ae (a_ F (ai (ad (bM F F) (ad (aA (cq F) (av (by decide))) ?_)))))))))
 refine ae ?_
 refine bW F ?_
 refine aO ?_
 refine fQ [(0,0),(1,0),(2,0),(3,0),(5,0),(6,0),(7,0),(4,1),(8,1),(9,1),(10,0),(11,0),(12,2),(13,2)] ?_
 refine au F (aK F) (au F (aK F) (au F (bj cp F bl F F) (au F (bn 0 dS F F F F) (au F (aK F) (au F (bj cp F bl F F) (au F (bn 0 dS F F F F) ?_))))))
 have Ky:=fun(w1:World) (hI:Inv w [oI z2 72 [v8 5,v8 0,v8 0,vN j,vN k],oI z1 25 [(vI 0),(vI 0),nS,nS]] w1)=>(haveI:=ey hI;N2 w1 hI.mq)
 refine iq F F (eV pG (dA.pure Ky) F (fun z _=>⟨F,fun h9=>z h9.1⟩) ?_)
 clear Ky
 rintro vr O' ⟨N,rfl,MA,kA,rfl,rfl,qB,HO⟩
 refine⟨by exact Sub.d (.k (.k .z)),?_⟩
 have zE:=gU qB hB
 have Kz:=fun(w1:World) (hI:Inv w [dI 56 4 3 MA kA,oI z2 72 [v8 5,v8 0,v8 0,vN j,vN k],oI z1 25 [(vI 0),(vI 0),nS,nS]] w1)=>(haveI:=ey hI;V_ w1 hI.mq)
 refine iq F F (eV pG (dA.pure Kz) F (fun z _=>⟨F,fun h9=>z h9.2.1⟩) ?_)
 clear Kz
 rintro vr O' ⟨N,rfl,MB,kB,rfl,rfl,yK,HP⟩
 refine⟨by exact Sub.d (.d (.k (.k .z))),?_⟩
 have P2:=gU yK hB
 have Wf:=fun(w1:World) (hI:Inv w [dI 56 4 3 MB kB,dI 56 4 3 MA kA,oI z2 72 [v8 5,v8 0,v8 0,vN j,vN k],oI z1 25 [(vI 0),(vI 0),nS,nS]] w1)=>(haveI:=ey hI;orE w1 MA MB kA kB (hI.at (k:=kA) (mG 1 F)) (hI.at (k:=kB) (mG 0 F)) qB.valid yK.valid (by rw[qB.vars,yK.vars]))
 refine cx F F (bm Sf (aX Wf) F ?_)
 clear Wf
 rintro vr O' ⟨N,rfl,MR,kr,ee,rfl,rfl,N3⟩
 refine⟨by exact Sub.d (.d (.d (.k (.k .z)))),?_⟩
 refine au F (bG (vs:=_) F F) (au F (bG (vs:=_) F F) ?_)
 have KA:=fun(w1:World) (hI:Inv w [dI 56 4 3 MR kr,dI 56 4 3 MB kB,dI 56 4 3 MA kA,oI z2 72 [v8 5,v8 0,v8 0,vN j,vN k],oI z1 25 [(vI 0),(vI 0),nS,nS]] w1)=>(haveI:=ey hI;na w1 cb eb en ec vs B (hI.sl eR) MR kr ee)
 refine sk F F (eV si (dA.pure KA) F (fun z _=>⟨F,fun h9=>by
  have h8:=h9.2.2
  rw[←zE,←P2]at h8
  rcases N3 with⟨_,rfl,rfl⟩|⟨h7,_⟩
  ·exact z ⟨F,h8.2⟩
  ·exact absurd h8.1 (by omega)⟩) ?_)
 clear KA
 rintro vr O' ⟨N,rfl,rfl,rfl,TQ,P3⟩
 obtain⟨ho,Wg⟩:(order (bJ DH MA MB)).length≤4096∧MR=t_ DH MA MB:=N3.elim (fun h9=>⟨h9.1,h9.2.1⟩) (fun h9=>absurd h9.2 (by omega))
 have Et:gf (vs:Int) B MR (gj (.jq a b)):=by subst Wg;exact Yg qB yK ho P3
 have DC:jY vs (.jq a b) B:=⟨HO,HP,by rw[←zE,←P2];exact⟨ho,Wg▸P3⟩⟩
 refine cu F F (bV (vs:=(dC MR kr)) 4 bK F F F F ?_)
 refine cy ?_
 refine aN (az ?_)
 refine cL (i:=4) Tryz.results72 cS F bK F F F ?_
 exact⟨[dI 56 4 3 MR kr],(by exact Sub.k .z),MR,kr,F,F,Et,DC⟩
theorem KB (w:World) [dB Tryz.prog w] (cb:Nat) (eb:Option Addr) (en ec vs B:Nat) (eR:Sl w (aD cb) [.slice eb en ec,vI (vs:Int),vI (B:Int)]) (gq:vs≤6) (iN:1≤B) (hB:B≤4096) (e:List eE) (hE:Sl w eb (bX e)) (jU:en=e.length) (i:Nat) (a b:Rx) (j k:Nat) (hp:e[i]? =some ⟨6,0,0,(j:Int),(k:Int)⟩) (N2: ∀(w1:World) [dB Tryz.prog w1],Inv w [] w1→dA Tryz.prog w1 (.iface 163 (.agg #[])) 72 [(d_ (aD cb) 0),vN j] [] (sI vs B a) (¬jY vs a B)) (V_: ∀(w1:World) [dB Tryz.prog w1],Inv w [] w1→dA Tryz.prog w1 (.iface 163 (.agg #[])) 72 [(d_ (aD cb) 0),vN k] [] (sI vs B b) (¬jY vs b B)):
  dA Tryz.prog w (.iface 163 (.agg #[])) 72 [(d_ (aD cb) 0),vN i] [] (sI vs B (.and a b)) (¬jY vs (.and a b) B):=by
 refine dL func72 F ntmps72 F ?_
 obtain⟨hi,_⟩:=iF hp
 refine ai (ao F (bu bK F (fun z1=>?_)))
 refine ae (ai (ah F (ad (bf F) (ad (ck k_ F g_ F F (aJ eR) (by first|omega|(simp;done)|(simp;omega)|(simp_all;done)|(simp_all;omega))) (ad (c_ dJ F F (aJ eR) F) (ah F (ad (dU (i:=i) dJ cK F F (aJ hE) (by omega) (by rw[cz];omega)) (ad (eP (vs:=[v8 6,v8 0,v8 0,vN j,vN k]) cp F cK F F (bw _) (aJ hE) (fH hp)) (ao F (bu cK F (fun z2=>?_)))))))))))
 refine ao F (bV (vs:=[v8 6,v8 0,v8 0,vN j,vN k]) 0 cK F F F F ?_)
 refine ae (aO (ai (ad (bj cp F dF F F) (ad (bn 0 fF F F F F) (ae (aU (ai (ad (bM F F) (ad (aA (cq F) (ak (by decide))) (ae (a_ F (ai (ad (bM F F) (ad (aA (cq F) (ak (by decide))) ?_))))))))))))))
 refine ae (a_ F (ai (ad (bM F F) (ad (aA (cq F) (ak (by decide))) (ae (a_ F (ai (ad (bM F F) (ad (aA (cq F) (ak (by decide))) ?_)))))))))
 refine ae (a_ F (ai (ad (bM F F) (ad (aA (cq F) (ak (by decide))) (ae (a_ F (ai (ad (bM F F) (ad (aA (cq F) (ak (by decide))) ?_)))))))))
 refine ae (a_ F (ai (ad (bM F F) (ad (aA (cq F) (av (by decide))) (ae ?_)))))
 refine bW F ?_
 refine aO ?_
 refine fQ [(0,0),(1,0),(2,0),(3,0),(5,0),(6,0),(7,0),(4,1),(8,1),(9,1),(10,0),(11,0),(12,2),(13,2)] ?_
 refine au F (aK F) (au F (aK F) (au F (bj cp F bl F F) (au F (bn 0 dS F F F F) (au F (aK F) (au F (bj cp F bl F F) (au F (bn 0 dS F F F F) ?_))))))
 have Wh:=fun(w1:World) (hI:Inv w [oI z2 72 [v8 6,v8 0,v8 0,vN j,vN k],oI z1 25 [(vI 0),(vI 0),nS,nS]] w1)=>(haveI:=ey hI;N2 w1 hI.mq)
 refine iq F F (eV pG (dA.pure Wh) F (fun z _=>⟨F,fun h9=>z h9.1⟩) ?_)
 clear Wh
 rintro vr O' ⟨N,rfl,MA,kA,rfl,rfl,qB,HO⟩
 refine⟨by exact Sub.d (.k (.k .z)),?_⟩
 have zE:=gU qB hB
 have JC:=fun(w1:World) (hI:Inv w [dI 56 4 3 MA kA,oI z2 72 [v8 6,v8 0,v8 0,vN j,vN k],oI z1 25 [(vI 0),(vI 0),nS,nS]] w1)=>(haveI:=ey hI;V_ w1 hI.mq)
 refine iq F F (eV pG (dA.pure JC) F (fun z _=>⟨F,fun h9=>z h9.2.1⟩) ?_)
 clear JC
 rintro vr O' ⟨N,rfl,MB,kB,rfl,rfl,yK,HP⟩
 refine⟨by exact Sub.d (.d (.k (.k .z))),?_⟩
 have P2:=gU yK hB
 have Wi:=fun(w1:World) (hI:Inv w [dI 56 4 3 MB kB,dI 56 4 3 MA kA,oI z2 72 [v8 6,v8 0,v8 0,vN j,vN k],oI z1 25 [(vI 0),(vI 0),nS,nS]] w1)=>(haveI:=ey hI;ZI w1 MA MB kA kB (hI.at (k:=kA) (mG 1 F)) (hI.at (k:=kB) (mG 0 F)) qB.valid yK.valid (by rw[qB.vars,yK.vars]))
 refine cx F F (bm Sg (aX Wi) F ?_)
 clear Wi
 rintro vr O' ⟨N,rfl,MR,kr,ee,rfl,rfl,N3⟩
 refine⟨by exact Sub.d (.d (.d (.k (.k .z)))),?_⟩
 refine au F (bG (vs:=_) F F) (au F (bG (vs:=_) F F) ?_)
 have Wj:=fun(w1:World) (hI:Inv w [dI 56 4 3 MR kr,dI 56 4 3 MB kB,dI 56 4 3 MA kA,oI z2 72 [v8 6,v8 0,v8 0,vN j,vN k],oI z1 25 [(vI 0),(vI 0),nS,nS]] w1)=>(haveI:=ey hI;na w1 cb eb en ec vs B (hI.sl eR) MR kr ee)
 refine sk F F (eV si (dA.pure Wj) F (fun z _=>⟨F,fun h9=>by
  have h8:=h9.2.2
  rw[←zE,←P2]at h8
  rcases N3 with⟨_,rfl,rfl⟩|⟨h7,_⟩
  ·exact z ⟨F,h8.2⟩
  ·exact absurd h8.1 (by omega)⟩) ?_)
 clear Wj
 rintro vr O' ⟨N,rfl,rfl,rfl,TQ,P3⟩
 obtain⟨ho,Wg⟩:(order (bJ rR MA MB)).length≤4096∧MR=t_ rR MA MB:=N3.elim (fun h9=>⟨h9.1,h9.2.1⟩) (fun h9=>absurd h9.2 (by omega))
 have Et:gf (vs:Int) B MR (gj (.and a b)):=by subst Wg;exact Yg qB yK ho P3
 have DC:jY vs (.and a b) B:=⟨HO,HP,by rw[←zE,←P2];exact⟨ho,Wg▸P3⟩⟩
 refine cu F F (bV (vs:=(dC MR kr)) 4 bK F F F F ?_)
 refine cy ?_
 refine aN (az ?_)
 refine cL (i:=4) Tryz.results72 cS F bK F F F ?_
 exact⟨[dI 56 4 3 MR kr],(by exact Sub.k .z),MR,kr,F,F,Et,DC⟩
theorem Se.of {cb:Nat} {eb:Option Addr} {en ec vs B:Nat} {e:List eE} (jU:en=e.length):Se cb eb en ec vs B e:=
 ⟨fun w _ gq iN hB eR hE i hp=>HQ w cb eb en ec vs B eR gq iN hB e hE jU i hp,fun w _ gq iN hB eR hE i a j hp hA=>Kv w cb eb en ec vs B eR gq iN hB e hE jU i a j hp hA,
  fun w _ gq iN hB eR hE i a b j k hp hA hb=>Kx w cb eb en ec vs B eR gq iN hB e hE jU i a b j k hp hA hb,fun w _ gq iN hB eR hE i a b j k hp hA hb=>KB w cb eb en ec vs B eR gq iN hB e hE jU i a b j k hp hA hb⟩
end Go.Proofs.YtgdbfideeeegmaaGreatDoor

namespace Go.Proofs.YtgdbfideeeegmaaGreatDoor
open Go.Lx Go.RowKit _root_.Go.Proofs.Tryz
theorem KX (w:World) [dB Tryz.prog w] (cb:Nat) (eb:Option Addr) (en ec vs B:Nat) (eR:Sl w (aD cb) [.slice eb en ec,vI (vs:Int),vI (B:Int)]) (gq:vs≤6) (iN:1≤B) (hB:B≤4096) (e:List eE) (hE:Sl w eb (bX e)) (jU:en=e.length) (i:Nat) (ob:Nat) (fv:Value) (a b:Rx) (j k:Nat) (hp:e[i]? =some ⟨5,0,0,(j:Int),(k:Int)⟩) (hA:nk w cb vs B ob fv a j) (hB:nk w cb vs B ob fv b k) (lb:Option Addr) (lc:Nat) (ls:List Lf) (ks:List LK) (nu:ks.length=ls.length) (hl:ls.length+(Rx.jq a b).lv≤64) (Iy:sr ls (Rx.jq a b)):
  dA Tryz.prog w (.iface 163 (.agg #[])) 73 [(.pointer (aD ob)),vN i] ([oI ob 114 [(d_ (aD cb) 0),(.slice lb ls.length lc),fv],aq lb lc 118 7 (dj ls ks)]++(ce 3 (eU ls ks)++gF 56 4 3 ls ks)) (fun v O'=> ∃tX tY pQ oN oO yt yu,v=.tuple #[(.slice oN (((aY vs (Rx.jq a b) ls).fi).length) oO),(.slice yt (((aY vs (Rx.jq a b) ls).la).length) yu)]∧O'=[oI ob 114 [(d_ (aD cb) 0),(.slice tX (((aY vs (Rx.jq a b) ls).ls).length) tY),fv],aq tX tY 118 7 (dj ((aY vs (Rx.jq a b) ls).ls) pQ),aq oN oO 3 1 (bU ((aY vs (Rx.jq a b) ls).fi)),aq yt yu 3 1 (bU ((aY vs (Rx.jq a b) ls).la))]++(ce 3 (eU ((aY vs (Rx.jq a b) ls).ls) pQ)++gF 56 4 3 ((aY vs (Rx.jq a b) ls).ls) pQ)∧pQ.length=(aY vs (Rx.jq a b) ls).ls.length∧okB vs (Rx.jq a b) B) (¬okB vs (Rx.jq a b) B):=by
 refine dL func73 F ntmps73 F ?_
 obtain⟨hi,_⟩:=iF hp
 have SM:=gl vs a ls
 have ZS:=gl vs b (aY vs a ls).ls
 have WK:=e_ vs a ls
 have WL:=e_ vs b (aY vs a ls).ls
 have ZT:a.lv+b.lv≤64:=by simp only[Rx.lv]at hl;omega
 simp only[Rx.lv]at hl
 refine ai (aj F (aj F (ae (ai (ah F (ad (bf F) (ad (bj gw F oC F F) (ad (bn 0 vT F F F F) (ad (bf F) (ad (ck k_ F g_ F F (aJ eR) (by first|omega|(simp;done)|(simp;omega)|(simp_all;done)|(simp_all;omega))) (ad (c_ dJ F F (aJ eR) F) (ah F (ad (dU (i:=i) dJ cK F F (aJ hE) (by omega) (by rw[cz];omega)) (ad (eP (vs:=[v8 5,v8 0,v8 0,vN j,vN k]) cp F cK F F (bw _) (aJ hE) (fH hp)) (ao F (bu cK F (fun z1=>?_)))))))))))))))))
 refine ao F (bV (vs:=[v8 5,v8 0,v8 0,vN j,vN k]) 0 cK F F F F ?_)
 refine ae (aO (ai (ad (bj cp F dF F F) (ad (bn 0 fF F F F F) (ae (aU (ai (ad (bM F F) (ad (aA (cq F) (ak (by decide))) (ae (a_ F (ai (ad (bM F F) (ad (aA (cq F) (av (by decide))) ?_))))))))))))))
 refine ae ?_
 refine bW F ?_
 refine ai (ah F (ad (bj cp F bl F F) (ad (bn 0 dS F F F F) ?_)))
 have WP:=(hA.frame [oI z1 72 [v8 5,v8 0,v8 0,vN j,vN k]] (O:=[oI z1 72 [v8 5,v8 0,v8 0,vN j,vN k],oI ob 114 [(d_ (aD cb) 0),(.slice lb ls.length lc),fv],aq lb lc 118 7 (dj ls ks)]) lb lc ls ks nu (by first|omega|(rw[e_];omega)) (sr.left Iy) (by exact Sub.eQ [oI z1 72 [v8 5,v8 0,v8 0,vN j,vN k]] _ (.eQ [oI z1 72 [v8 5,v8 0,v8 0,vN j,vN k]] _ (.k .z))))
 refine eC F (eV CN WP F (fun z _=>⟨F,fun h9=>z h9.1⟩) ?_)
 clear WP
 rintro vr O' ⟨SN,SO,WM,MH,MI,Qa,Qb,rfl,rfl,ZU,HO⟩
 refine ah F (ad (bG (vs:=_) F F) (ad (bG (vs:=_) F F) (aj F (aj F (ae (ai (ah F (ad (bj cp F bl F F) (ad (bn 4 dS F F F F) ?_)))))))))
 have Qe:=(hB.frame [aq MH MI 3 1 (bU ((aY vs a ls).fi)),aq Qa Qb 3 1 (bU ((aY vs a ls).la)),oI z1 72 [v8 5,v8 0,v8 0,vN j,vN k]] (O:=[oI ob 114 [(d_ (aD cb) 0),(.slice SN (((aY vs a ls).ls).length) SO),fv],aq SN SO 118 7 (dj ((aY vs a ls).ls) WM),aq MH MI 3 1 (bU ((aY vs a ls).fi)),aq Qa Qb 3 1 (bU ((aY vs a ls).la)),oI z1 72 [v8 5,v8 0,v8 0,vN j,vN k]]) SN SO ((aY vs a ls).ls) WM ZU (by first|omega|(rw[e_];omega)) (sr.right Iy) (by exact Sub.rf))
 refine eC F (eV CN Qe F (fun z _=>⟨F,fun h9=>z h9.2⟩) ?_)
 clear Qe
 rintro vr O' ⟨zK,zL,Og,WN,WO,Qc,Qd,rfl,rfl,NT,HP⟩
 refine ah F (ad (bG (vs:=_) F F) (ad (bG (vs:=_) F F) (aj F (aj F (ae (ai (ah F (ah F (ao F (dh 4 cI cI bl F F F F (by rw[ar];omega) (by decide) (Src.row (j:=2) F (by rw[ar];omega)) (by simp[fu]) (by omega) (by decide) (by decide) (fun z2 um=>?_)))))))))))
 refine ah F (ah F (ao F (dh 5 cI cI bl F F F F (by rw[ar];omega) (by decide) (Src.row (j:=3) F (by rw[ar];omega)) (by simp[fu]) (by omega) (by decide) (by decide) (fun z4 IA=>?_))))
 refine aj F (aj F (ae (aN (az ?_))))
 refine dc (.slice z2 (((aY vs a ls).fi.length)+((aY vs b ((aY vs a ls).ls)).fi.length)) um) (.slice z4 (((aY vs a ls).la.length)+((aY vs b ((aY vs a ls).ls)).la.length)) IA) Tryz.results73 F F ?_
 exact⟨[oI ob 114 [(d_ (aD cb) 0),(.slice zK (((aY vs b ((aY vs a ls).ls)).ls).length) zL),fv],aq zK zL 118 7 (dj ((aY vs b ((aY vs a ls).ls)).ls) Og),aq z2 um 3 1 ((bU ((aY vs a ls).fi))++(bU ((aY vs b ((aY vs a ls).ls)).fi))),aq z4 IA 3 1 ((bU ((aY vs a ls).la))++(bU ((aY vs b ((aY vs a ls).ls)).la)))]++(ce 3 (eU ((aY vs b ((aY vs a ls).ls)).ls) Og)++gF 56 4 3 ((aY vs b ((aY vs a ls).ls)).ls) Og),(by exact Sub.k (.k (.d (.d (.k (.k (.d .rf))))))),zK,zL,Og,z2,um,z4,IA,by show _=Value.tuple #[.slice _ ((aY vs a ls).fi++(aY vs b ((aY vs a ls).ls)).fi).length _,.slice _ ((aY vs a ls).la++(aY vs b ((aY vs a ls).ls)).la).length _];rw[aF,aF],by show _=[_,_,aq _ _ _ _ (bU ((aY vs a ls).fi++(aY vs b ((aY vs a ls).ls)).fi)),aq _ _ _ _ (bU ((aY vs a ls).la++(aY vs b ((aY vs a ls).ls)).la))]++_;rw[show∀x y:List Nat,bU (x++y)=bU x++bU y from fun x y=>bo,show∀x y:List Nat,bU (x++y)=bU x++bU y from fun x y=>bo];rfl,NT,HO,HP⟩
theorem CQ (w:World) [dB Tryz.prog w] (cb:Nat) (eb:Option Addr) (en ec vs B:Nat) (eR:Sl w (aD cb) [.slice eb en ec,vI (vs:Int),vI (B:Int)]) (gq:vs≤6) (iN:1≤B) (hB:B≤4096) (e:List eE) (hE:Sl w eb (bX e)) (jU:en=e.length) (i:Nat) (ob:Nat) (fv:Value) (a:Rx) (j:Nat) (hp:e[i]? =some ⟨10,0,0,(j:Int),0⟩) (WH: ∀ls,aY vs (Rx.behind a) ls=⟨ls++[⟨10,minOf vs (jS (fun _=>true) (gj a)),[],false⟩],[ls.length],[ls.length]⟩) (WJ: ∀(w1:World) [dB Tryz.prog w1],Inv w [] w1→dA Tryz.prog w1 (.iface 163 (.agg #[])) 72 [(d_ (aD cb) 0),vN j] [] (sI vs B a) (¬jY vs a B)) (lb:Option Addr) (lc:Nat) (ls:List Lf) (ks:List LK) (nu:ks.length=ls.length) (hl:ls.length+(Rx.behind a).lv≤64) (Iy:sr ls (Rx.behind a)):
  dA Tryz.prog w (.iface 163 (.agg #[])) 73 [(.pointer (aD ob)),vN i] ([oI ob 114 [(d_ (aD cb) 0),(.slice lb ls.length lc),fv],aq lb lc 118 7 (dj ls ks)]++(ce 3 (eU ls ks)++gF 56 4 3 ls ks)) (fun v O'=> ∃tX tY pQ oN oO yt yu,v=.tuple #[(.slice oN (((aY vs (Rx.behind a) ls).fi).length) oO),(.slice yt (((aY vs (Rx.behind a) ls).la).length) yu)]∧O'=[oI ob 114 [(d_ (aD cb) 0),(.slice tX (((aY vs (Rx.behind a) ls).ls).length) tY),fv],aq tX tY 118 7 (dj ((aY vs (Rx.behind a) ls).ls) pQ),aq oN oO 3 1 (bU ((aY vs (Rx.behind a) ls).fi)),aq yt yu 3 1 (bU ((aY vs (Rx.behind a) ls).la))]++(ce 3 (eU ((aY vs (Rx.behind a) ls).ls) pQ)++gF 56 4 3 ((aY vs (Rx.behind a) ls).ls) pQ)∧pQ.length=(aY vs (Rx.behind a) ls).ls.length∧okB vs (Rx.behind a) B) (¬okB vs (Rx.behind a) B):=by
 refine dL func73 F ntmps73 F ?_
 obtain⟨hi,_⟩:=iF hp
 simp only[WH]
 refine ai (aj F (aj F (ae (ai (ah F (ad (bf F) (ad (bj gw F oC F F) (ad (bn 0 vT F F F F) (ad (bf F) (ad (ck k_ F g_ F F (aJ eR) (by first|omega|(simp;done)|(simp;omega)|(simp_all;done)|(simp_all;omega))) (ad (c_ dJ F F (aJ eR) F) (ah F (ad (dU (i:=i) dJ cK F F (aJ hE) (by omega) (by rw[cz];omega)) (ad (eP (vs:=[v8 10,v8 0,v8 0,vN j,vI 0]) cp F cK F F (bw _) (aJ hE) (fH hp)) (ao F (bu cK F (fun z1=>?_)))))))))))))))))
 refine ao F (bV (vs:=[v8 10,v8 0,v8 0,vN j,vI 0]) 0 cK F F F F ?_)
 refine ae (aO (ai (ad (bj cp F dF F F) (ad (bn 0 fF F F F F) (ae (aU (ai (ad (bM F F) (ad (aA (cq F) (ak (by decide))) (ae (a_ F (ai (ad (bM F F) (ad (aA (cq F) (ak (by decide))) ?_))))))))))))))
 refine ae (a_ F (ai (ad (bM F F) (ad (aA (cq F) (ak (by decide))) (ae (a_ F (ai (ad (bM F F) (ad (aA (cq F) (av (by decide))) ?_)))))))))
 refine ae ?_
 refine bW F ?_
 refine T.ds [oI z1 72 [v8 10,v8 0,v8 0,vN j,vI 0],oI ob 114 [(d_ (aD cb) 0),(.slice lb ls.length lc),fv]] [(0,0),(1,0),(2,0),(3,0),(4,0),(5,0),(6,0),(7,0),(8,0),(9,0),(10,0),(11,0),(12,0),(13,0),(14,0),(16,0),(17,0),(18,0),(19,0),(20,0),(21,0),(15,1),(22,1),(23,1),(24,0),(25,1),(26,1),(27,0),(28,0),(29,2)] (by exact Sub.k (.k .z)) ?_
 refine au F (aK F) (au F (aK F) (au F (bf F) (au F (bj gw F gy F F) (au F (bn 1 fx F F F F) (au F (bj cp F dF F F) (au F (bn 0 fF F F F F) (au F (aK F) (au F (bf F) (au F (bj gw F oC F F) (au F (bn 1 vT F F F F) (au F (aK F) (au F (bf F) (au F (bj gw F oC F F) (au F (bn 1 vT F F F F) (au F (aK F) (au F (bf F) (au F (bj gw F oC F F) (au F (bn 1 vT F F F F) (au F (bj cp F bl F F) (au F (bn 0 dS F F F F) ?_))))))))))))))))))))
 have Qg:=fun(w1:World) (hI:Inv w ([oI z1 72 [v8 10,v8 0,v8 0,vN j,vI 0],oI ob 114 [(d_ (aD cb) 0),(.slice lb ls.length lc),fv],aq lb lc 118 7 (dj ls ks)]++(ce 3 (eU ls ks)++gF 56 4 3 ls ks)) w1)=>(haveI:=ey hI;MN w1 cb eb en ec vs B (hI.sl eR) gq)
 refine cx F F (bm Ey (aX Qg) F ?_)
 clear Qg
 rintro vr O' ⟨N,rfl,kS,rfl,rfl⟩
 refine⟨by exact Sub.d (.k (.k .z)),?_⟩
 have Qh:=fun(w1:World) (hI:Inv w ([dI 56 4 3 (fD (vs:Int) true) kS,oI z1 72 [v8 10,v8 0,v8 0,vN j,vI 0],oI ob 114 [(d_ (aD cb) 0),(.slice lb ls.length lc),fv],aq lb lc 118 7 (dj ls ks)]++(ce 3 (eU ls ks)++gF 56 4 3 ls ks)) w1)=>(haveI:=ey hI;WJ w1 hI.mq)
 refine iq F F (eV pG (dA.pure Qh) F (fun z _=>⟨F,fun h9=>z h9.1⟩) ?_)
 clear Qh
 rintro vr O' ⟨N,rfl,MA,kA,rfl,rfl,qB,hO⟩
 refine⟨by exact Sub.d (.d (.k (.k .z))),?_⟩
 have zE:=gU qB hB
 have Qi:=fun(w1:World) (hI:Inv w ([dI 56 4 3 MA kA,dI 56 4 3 (fD (vs:Int) true) kS,oI z1 72 [v8 10,v8 0,v8 0,vN j,vI 0],oI ob 114 [(d_ (aD cb) 0),(.slice lb ls.length lc),fv],aq lb lc 118 7 (dj ls ks)]++(ce 3 (eU ls ks)++gF 56 4 3 ls ks)) w1)=>(haveI:=ey hI;RY w1 cb eb en ec vs B (hI.sl eR) gq iN hB (fD (vs:Int) true) kS (hI.at (k:=kS) (mG 1 F)) (fG gq).valid F MA kA (hI.at (k:=kA) (mG 0 F)) qB.valid (by rw[qB.vars];rfl))
 refine iq F F (eV Eu (dA.pure Qi) F (fun z _=>⟨F,fun h9=>z (by rw[zE];exact h9.2)⟩) ?_)
 clear Qi
 rintro vr O' ⟨N,rfl,M,kM,rfl,rfl,Sc,Sd⟩
 refine⟨by exact Sub.d (.d (.d (.k (.k .z)))),?_⟩
 have eM:M=minOf vs (jS (fun _=>true) (gj a)):=gU (Sc.to fun w9 h9=>nh (fun u hu=>(fG gq).iI u hu) (fun u hu=>qB.iI u hu) h9) hB
 refine au F (cF (cs:=[v8 10,(vI M.vars),(vI M.start),(.slice kM.nb M.next.length kM.nc),(.slice kM.fb M.aV.length kM.fc),nS,(.bool false)]) AO eZ (by kernel_rfl)) ?_
 refine cx F F (cH (m:=1) (parts:=[(0,_)]) (cs:=[v8 10,(vI M.vars),(vI M.start),(.slice kM.nb M.next.length kM.nc),(.slice kM.fb M.aV.length kM.fc),nS,(.bool false)]) fx eZ (by decide) (by kernel_rfl) F (fun z2=>⟨by exact Sub.d (.d (.d (.d (.k (.k .z))))),?_⟩))
 refine cx F F (dh 6 fx fx eZ F F F F (by rw[dY nu]) (by decide) (Src.row (j:=0) F (by simp)) (by simp[fu]) (by omega) (by decide) (by decide) (fun z3 nU=>⟨by exact Sub.d (.d (.d (.d (.k (.k .z))))),?_⟩))
 refine au F (bf F) (au F (bj gw F gy F F) ?_)
 refine cu F F (bV (vs:=[(.slice z3 (ls.length+1) nU)]) 5 gy F F F F ?_)
 refine cy ?_
 refine ai (ah F (ad (bf F) (ad (bj gw F gy F F) (ad (bn 5 fx F F F F) (ad (cP fx F) (ad (bT (fL F F (by omega)) (v':=vN ls.length) (ax (Value.int .i64) (by omega))) (aj F (ae (aO (T.eY 3 1 ?_))))))))))
 refine be (ah F (ao F (cO (v:=vN ls.length) cI bl F F F (fun z5=>?_))))
 refine ah F (ao F (cO (v:=vN ls.length) cI bl F F F (fun z6=>?_)))
 refine aj F (aj F (ae (aN (az ?_))))
 refine dc (.slice (aD z5) 1 1) (.slice (aD z6) 1 1) Tryz.results73 F F ?_
 exact⟨[oI ob 114 [(d_ (aD cb) 0),(.slice z3 ((ls++[(⟨10,minOf vs (jS (fun _=>true) (gj a)),[],false⟩:Lf)]).length) nU),fv],aq z3 nU 118 7 (dj (ls++[(⟨10,minOf vs (jS (fun _=>true) (gj a)),[],false⟩:Lf)]) (ks++[(⟨kM,none,0⟩:LK)])),aq (aD z5) 1 3 1 (bU [ls.length]),aq (aD z6) 1 3 1 (bU [ls.length])]++(ce 3 (eU (ls++[(⟨10,minOf vs (jS (fun _=>true) (gj a)),[],false⟩:Lf)]) (ks++[(⟨kM,none,0⟩:LK)]))++gF 56 4 3 (ls++[(⟨10,minOf vs (jS (fun _=>true) (gj a)),[],false⟩:Lf)]) (ks++[(⟨kM,none,0⟩:LK)])),by
   rw[su nu,sv,uz nu,qL nu,aF,←eM]
   exact qM [oI ob 114 [(d_ (aD cb) 0),(.slice z3 (ls.length+1) nU),fv],aq z3 nU 118 7 ((dj ls ks)++[v8 10,(vI M.vars),(vI M.start),(.slice kM.nb M.next.length kM.nc),(.slice kM.fb M.aV.length kM.fc),nS,(.bool false)]),aq (aD z5) 1 3 1 [vN ls.length],aq (aD z6) 1 3 1 [vN ls.length]] [aq (aD z6) 1 3 1 [vN ls.length],aq (aD z5) 1 3 1 [vN ls.length],aq none 0 3 1 [],aq (aD z2) 1 118 7 [v8 10,(vI M.vars),(vI M.start),(.slice kM.nb M.next.length kM.nc),(.slice kM.fb M.aV.length kM.fc),nS,(.bool false)],dI 56 4 3 M kM,dI 56 4 3 MA kA,dI 56 4 3 (fD (vs:Int) true) kS,oI z1 72 [v8 10,v8 0,v8 0,vN j,vI 0],oI ob 114 [(d_ (aD cb) 0),(.slice z3 (ls.length+1) nU),fv],aq z3 nU 118 7 ((dj ls ks)++[v8 10,(vI M.vars),(vI M.start),(.slice kM.nb M.next.length kM.nc),(.slice kM.fb M.aV.length kM.fc),nS,(.bool false)])] _ _ _ _ (by exact Sub.eQ [aq (aD z6) 1 3 1 [vN ls.length],aq (aD z5) 1 3 1 [vN ls.length],aq none 0 3 1 [],aq (aD z2) 1 118 7 [v8 10,(vI M.vars),(vI M.start),(.slice kM.nb M.next.length kM.nc),(.slice kM.fb M.aV.length kM.fc),nS,(.bool false)],dI 56 4 3 M kM,dI 56 4 3 MA kA,dI 56 4 3 (fD (vs:Int) true) kS,oI z1 72 [v8 10,v8 0,v8 0,vN j,vI 0]] _ (.eQ [aq (aD z6) 1 3 1 [vN ls.length],aq (aD z5) 1 3 1 [vN ls.length],aq none 0 3 1 [],aq (aD z2) 1 118 7 [v8 10,(vI M.vars),(vI M.start),(.slice kM.nb M.next.length kM.nc),(.slice kM.fb M.aV.length kM.fc),nS,(.bool false)],dI 56 4 3 M kM,dI 56 4 3 MA kA,dI 56 4 3 (fD (vs:Int) true) kS,oI z1 72 [v8 10,v8 0,v8 0,vN j,vI 0]] _ (.eQ [aq (aD z6) 1 3 1 [vN ls.length]] _ (.k (.k (.d (.k .z))))))),z3,nU,(ks++[(⟨kM,none,0⟩:LK)]),(aD z5),1,(aD z6),1,F,F,by simp[nu],⟨hO,by rw[←zE];exact Sd⟩⟩
theorem SP.of {cb:Nat} {eb:Option Addr} {en ec vs B:Nat} {e:List eE} (jU:en=e.length):SP cb eb en ec vs B e:=
 ⟨Se.of jU,fun w _ gq iN hB eR hE ob fv i a b j k hp hA hb=>KX w cb eb en ec vs B eR gq iN hB e hE jU i ob fv a b j k hp hA hb,
  fun w _ gq iN hB eR hE ob fv i a j hp hA=>CQ w cb eb en ec vs B eR gq iN hB e hE jU i ob fv a j hp (fun _=>rfl) hA⟩
end Go.Proofs.YtgdbfideeeegmaaGreatDoor

namespace Go.Proofs.YtgdbfideeeegmaaGreatDoor
open Go.Lx Go.RowKit _root_.Go.Proofs.Tryz
theorem Xs (base:World) [dB Tryz.prog base] (eb:Option Addr) (ec:Nat) (e:List eE) (hE:Sl base eb (bX e)) (DE:e.length<4611686018427387904) (oz: ∀x∈e,x.p<256∧x.n<256) (vars lg:Int) (UL:e.any h_=true→e.length≤24):
  cA Tryz.prog 19 [.slice eb e.length ec,.int .i64 vars,.int .i64 lg] base fun v N=> ∃D k er,v=.tuple #[dV D k,.int .i64 ((er:Nat):Int)]∧N=[dI 56 4 3 D k]∧Z3 (im vars e) lg (fun M=>gf vars lg.toNat M (mY vars.toNat e)∧Ec vars.toNat e lg.toNat) (¬Ec vars.toNat e lg.toNat) D er:=by
 by_cases hb:1≤lg∧lg≤4096
 ·refine FI (JP base eb ec e hE DE oz vars lg UL (K:=137438953471) (by omega) (fun _=>SP.of F) fun h0 hl ho=>?_)
  obtain⟨h1,h2,h3,h4,fs,h5,h6,h7⟩:=wi h0
  have h8:=tP h5 e.length (e.length-1) (by omega) (by omega)
  have h9:=UL hl
  exact ON (B:=lg.toNat) (by omega) (by omega) ((ws h5 e.length (e.length-1) (by omega) (by omega)).2 h7) ho (by show(jx e e.length (e.length-1)).sz≤24;omega)
 ·refine(FI (Qu base eb e.length ec vars (im vars e) lg _ _ (fun w1 _ hI=>F4 w1 eb ec e (hI.sl hE) DE oz vars) fun h0 Hk DW=>absurd ⟨Hk,DW⟩ hb))
end Go.Proofs.YtgdbfideeeegmaaGreatDoor

namespace Go.Lx
open Go.RowKit Go.Proofs.YtgdbfideeeegmaaGreatDoor
def T2 (L x:Nat):PP:=(0,[⟨3,x,L-1-x,0,0⟩])
def X7:PP:=(1,[⟨1,0,0,0,0⟩])
def Y7:PP:=(2,[⟨2,0,0,0,0⟩])
def DB (m:cM) (s t:Nat):Nat→PP
 |0=>if s=t then Y7 else X7
 |x+1=>if e7 m s x=t then xg (DB m s t x) (T2 (dT m) x)else DB m s t x
def kN (m:cM):Nat→Nat→Nat→PP
 |0,s,t=>DB m s t (dT m)
 |k+1,s,t=>xg (kN m k s t) (yD (yD (kN m k s k) (u7 (kN m k k k))) (kN m k k t))
def vL (m:cM):Nat→PP
 |0=>X7
 |t+1=>if dD m t=true then xg (vL m t) (kN m m.next.length 0 t)else vL m t
def nv (m:cM):PP:=vL m m.next.length
def BV (m:cM):Nat:=if(nv m).1=3 then 4 else 0
def vM (m:cM):List eE:=if(nv m).1=3 then[]else(nv m).2
theorem BW {L x:Nat} (h:x<L) (hL:L≤256):fB (T2 L x):=.one (by decide) (by decide) (by omega) (by omega)
theorem xl:fB X7:=.one (by decide) (by decide) (by decide) (by decide)
theorem Jp:fB Y7:=.one (by decide) (by decide) (by decide) (by decide)
theorem s6 {m:cM} (hL:dT m≤256) (s t:Nat): ∀x,x≤dT m→fB (DB m s t x)
 |0,_=>by
  unfold DB;split
  ·exact Jp
  ·exact xl
 |x+1,h=>by
  unfold DB;split
  ·exact ui (s6 hL s t x (by omega)) (BW (by omega) hL)
  ·exact s6 hL s t x (by omega)
theorem iJ {m:cM} (hL:dT m≤256): ∀k s t,fB (kN m k s t)
 |0,s,t=>s6 hL s t _ (a8 _)
 |k+1,s,t=>ui (iJ hL k s t) (q9 (q9 (iJ hL k s k) (xi (iJ hL k k k))) (iJ hL k k t))
theorem lB {m:cM} (hL:dT m≤256): ∀t,fB (vL m t)
 |0=>xl
 |t+1=>by
  unfold vL;split
  ·exact ui (lB hL t) (iJ hL _ _ _)
  ·exact lB hL t
structure MR where
 b:Option Addr
 c:Nat
 l:List PR
instance:Inhabited MR:=⟨⟨none,0,[]⟩⟩
abbrev MR.val (r:MR):Value:=.slice r.b r.l.length r.c
def MR.sM (T:TypeId) (r:MR):Item:=aq r.b r.c T 2 (eD r.l)
def eF (T:TypeId) (R:List MR):List Item:=R.map (MR.sM T)
def ky (R:List MR):List Value:=R.map MR.val
structure vO (l:List PR) (p:List ER) (g:Nat→PP):Prop where
 pp: ∀j (h:j<l.length),l[j].pp=g j
 po: ∀x∈l,f_ p x.r
theorem vO.nil {p:List ER} {g:Nat→PP}:vO [] p g:=⟨fun j h=>absurd h (by simp),fun x hx=>by simp at hx⟩
theorem vO.mono {l:List PR} {p q:List ER} {g:Nat→PP} (h:vO l p g) (hq: ∀x∈p,x∈q):vO l q g:=⟨h.pp,fun x hx=>(h.po x hx).mono hq⟩
theorem vO.snoc {l:List PR} {p:List ER} {g:Nat→PP} (h:vO l p g) {c:PR} (hc:c.pp=g l.length) (hp:f_ p c.r):vO (l++[c]) p g:=by
 refine⟨fun j hj=>?_,fun x hx=>?_⟩
 ·rw[aF,List.length_singleton]at hj
  rcases Nat.lt_or_ge j l.length with e|e
  ·rw[il e];exact h.pp j e
  ·have:j=l.length:=by omega
   subst this
   rw[List.getElem_append_right (a8 _)]
   simpa using hc
 ·rcases List.mem_append.1 hx with hx|hx
  ·exact h.po x hx
  ·rw[List.mem_singleton.1 hx];exact hp
structure pN (R:List MR) (p:List ER) (n:Nat) (f:Nat→Nat→PP):Prop where
 len: ∀r∈R,r.l.length=n
 row: ∀i (h:i<R.length),vO R[i].l p (f i)
theorem pN.nil {p:List ER} {n:Nat} {f:Nat→Nat→PP}:pN [] p n f:=⟨fun r hr=>by simp at hr,fun i h=>absurd h (by simp)⟩
theorem pN.mono {R:List MR} {p q:List ER} {n:Nat} {f:Nat→Nat→PP} (h:pN R p n f) (hq: ∀x∈p,x∈q):pN R q n f:=⟨h.len,fun i hi=>(h.row i hi).mono hq⟩
theorem pN.snoc {R:List MR} {p:List ER} {n:Nat} {f:Nat→Nat→PP} (h:pN R p n f) {r:MR} (hl:r.l.length=n) (hr:vO r.l p (f R.length)):pN (R++[r]) p n f:=by
 refine⟨fun x hx=>?_,fun i hi=>?_⟩
 ·rcases List.mem_append.1 hx with hx|hx
  ·exact h.len x hx
  ·rw[List.mem_singleton.1 hx];exact hl
 ·rw[aF,List.length_singleton]at hi
  rcases Nat.lt_or_ge i R.length with e|e
  ·rw[il e];exact h.row i e
  ·have:i=R.length:=by omega
   subst this
   rw[List.getElem_append_right (a8 _)]
   simpa using hr
def iU (R:List MR) (n:Nat):List Value:=ky R++List.replicate (n-R.length) (.slice none 0 0)
theorem lV {R:List MR} {n:Nat} (h:R.length≤n):(iU R n).length=n:=by unfold iU ky;rw[aF,ar,iQ];omega
theorem Na {R:List MR} {n:Nat} (h:R.length<n):(iU R n)[R.length]? =some (.slice none 0 0):=by
 unfold iU ky
 rw[bY (by simp),ar,gL,show n-R.length=(n-R.length-1)+1 by omega,List.replicate_succ];rfl
theorem s8 {R:List MR} {n:Nat} (h:R.length<n) (r:MR):(iU R n).set R.length r.val=iU (R++[r]) n:=by
 unfold iU ky
 rw[List.set_append_right _ _ (by simp),ar,gL,show n-R.length=(n-(R++[r]).length)+1 by simp;omega,List.replicate_succ,bo]
 simp
theorem zp {R:List MR} {n:Nat} (h:R.length=n):iU R n=ky R:=by unfold iU;rw[h,gL];simp
theorem om {R:List MR} {i:Nat} (h:i<R.length):(ky R)[i]? =some R[i].val:=by unfold ky;rw[bq,ap h];rfl
theorem oo (R:List MR):(ky R).length=R.length:=ar _
theorem BX (T:TypeId) (R S:List MR):eF T (R++S)=eF T R++eF T S:=bo
theorem jX {T:TypeId} {R:List MR} {i:Nat} (h:i<R.length):aq R[i].b R[i].c T 2 (eD R[i].l)∈eF T R:=List.mem_map.2 ⟨_,aL h,F⟩
theorem BY {R:List MR} {n:Nat} (h:R.length<n):iU R n=iU (R++[⟨none,0,[]⟩]) n:=by
 rw[←s8 h]
 apply List.ext_getElem?
 intro i
 by_cases e:i=R.length
 ·subst e;rw[Na h,List.getElem?_set_self (by rw[lV (by omega)];exact h)];rfl
 ·rw[List.getElem?_set_ne (fun h=>e h.symm)]
theorem BZ {R:List MR} {n:Nat} (h:R.length<n) (r:MR):(iU (R++[r]) n)[R.length]? =some r.val:=by
 rw[←s8 h,List.getElem?_set_self (by rw[lV (by omega)];exact h)]
theorem zq {R:List MR} {n:Nat} (h:R.length<n) (r r2:MR):(iU (R++[r]) n).set R.length r2.val=iU (R++[r2]) n:=by
 rw[←s8 h,List.set_set,s8 h]
theorem Jq {M:cM} {qs:List Rec} (h:nums qs=M.next):qs.length=M.next.length:=by rw[←h];simp
theorem Ar {M:cM} {qs:List Rec} (h:nums qs=M.next) (hv:Val M) {s:Nat} (hs:s<qs.length):qs[s].xs.length=dT M:=by
 have h1:qs[s].xs∈M.next:=by rw[←h];exact List.mem_map.2 ⟨_,aL hs,F⟩
 exact hv.len _ h1
theorem U0 {M:cM} {qs:List Rec} (h:nums qs=M.next) (hv:Val M) {s:Nat} (hs:s<qs.length) {x:Nat} (hx:x<dT M):(ints qs[s].xs)[x]? =some (.int .i64 ((e7 M s x:Nat):Int)):=by
 obtain⟨_,h1,h2,h3⟩:=hv.gV (o:=s) (by rw[←Jq h];exact hs) hx
 have h4:qs[s].xs=M.next[s]:=by
  have:(nums qs)[s]? =M.next[s]? :=by rw[h]
  rw[ap h1,bq,ap hs]at this
  exact cZ this
 rw[h4,gI h2,h3]
theorem Jr {qs:List Rec} {s:Nat} (hs:s<qs.length):(dl qs)[s]? =some (.slice qs[s].b qs[s].xs.length qs[s].c):=by
 show(qs.map Rec.val)[s]? =_
 rw[bq,ap hs];rfl
theorem Js {qs:List Rec} {s:Nat} (hs:s<qs.length):aq qs[s].b qs[s].c 3 1 (ints qs[s].xs)∈ce 3 qs:=List.mem_map.2 ⟨_,aL hs,F⟩
theorem mW {l:List PR} {i:Nat} {a:PR} (h:l[i]? =some a): ∀j (hj:j<a.cells.length),(eD l)[i*2+j]? =some a.cells[j]:=by
 obtain⟨hi,rfl⟩:=List.getElem?_eq_some_iff.1 h
 exact nD hi
theorem pN.at {R:List MR} {p:List ER} {n:Nat} {f:Nat→Nat→PP} (h:pN R p n f) {i j:Nat} (hi:i<R.length) (hj:j<n): ∃a:PR,R[i].l[j]? =some a∧a.pp=f i j∧f_ p a.r:=by
 have hl:=h.len _ (aL hi)
 have h1:=h.row i hi
 have se:j<R[i].l.length:=by omega
 exact⟨R[i].l[j],ap se,h1.pp j se,h1.po _ (aL se)⟩
theorem kO {T:TypeId} {q p:List ER} {O:List Item} (h1: ∀it∈dr T q,it∈O) (h2: ∀it∈dr T p,it∈O): ∀it∈dr T (q++p),it∈O:=fun it fC=>by
 rw[qi]at fC
 exact(List.mem_append.1 fC).elim (h1 it) (h2 it)
theorem u9 {p q:List ER} {a:List PR} {c:PR} (h:f_ q c.r∨ ∃x∈a,c.r=x.r) (ha: ∀x∈a,f_ p x.r):f_ (q++p) c.r:=by
 rcases h with h|⟨x,hx,e⟩
 ·exact h.mono fun y hy=>aQ _ hy
 ·rw[e];exact(ha x hx).mono fun y hy=>am _ hy
theorem u_ (A B E X Y:List Item) (c:Item) (h:Sub (A++[c]) B):Sub (A++(E++((X++[c])++Y))) (B++(E++(X++Y))):=by
 obtain⟨l,h1,h2⟩:=h
 refine⟨l++(E++(X++Y)),?_,h2.append (aZ _)⟩
 refine List.Perm.trans ?_ (h1.append_right (E++(X++Y)))
 rw[aI X,aI A]
 refine List.Perm.append_left A ?_
 rw[←aI E X,←aI E X,List.singleton_append]
 exact List.perm_middle
theorem B1 (A B E X Y Z:List Item) (h:Sub A B):Sub (A++(E++(X++Z))) (B++(E++(X++(Y++Z)))):=by
 obtain⟨l,h1,h2⟩:=h
 exact⟨l++(E++(X++Z)),h1.append_right _,h2.append ((aZ E).append ((aZ X).append (List.sublist_append_right Y Z)))⟩
end Go.Lx

namespace Go.Lx
open Go.RowKit
section
variable (ls:List Lf)
variable {ls}
end
end Go.Lx

namespace Go.Lx
open Go.RowKit
end Go.Lx

namespace Go.Lx
open Go.RowKit
section
variable {v B:Nat} {LS:List Lf} {w:List Nat}
end
end Go.Lx

