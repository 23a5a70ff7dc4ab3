/- Contracts of functions of the program, and what they answer. Conditions: those each theorem names. -/
import Derived.Test.YtgdbfideeeegmaaGreatDoorA9
import Derived.Test.YtgdbfideeeegmaaGreatDoorA6
import Derived.Test.YtgdbfideeeegmaaGreatDoorA2
import Derived.Test.YtgdbfideeeegmaaGreatDoorA5
import Derived.Test.YtgdbfideeeegmaaGreatDoorA7
import Derived.Test.YtgdbfideeeegmaaGreatDoorA8
import Derived.Test.YtgdbfideeeegmaaGreatDoorA4
import Derived.Test.YtgdbfideeeegmaaGreatDoorA0
set_option linter.unusedSectionVars false
set_option linter.unusedSimpArgs false
set_option linter.unusedVariables false
set_option linter.unnecessarySimpa false
set_option maxHeartbeats 8000000
set_option maxRecDepth 20000
namespace Go.Lx
open Go.RowKit Go.Proofs.YtgdbfideeeegmaaGreatDoor
def jy (e:List dK):Nat→Nat→Rx
 |0,_=>.none
 |f+1,i=>
  let x:=e.getD i ⟨0,0,0,0,0⟩
  if x.op=1 then .none else if x.op=2 then .empty else if x.op=3 then .letter x.p x.n
  else if x.op=4 then .gZ (jy e f x.a.toNat) (jy e f x.b.toNat)else if x.op=5 then .iv (jy e f x.a.toNat) (jy e f x.b.toNat)else if x.op=6 then .and (jy e f x.a.toNat) (jy e f x.b.toNat)
  else if x.op=7 then .not (jy e f x.a.toNat)else if x.op=8 then .star (jy e f x.a.toNat)else if x.op=9 then .ahead (jy e f x.a.toNat)else .behind (jy e f x.a.toNat)
theorem pk {v:Nat} {e:List dK} {fs:List Nat} (h:jW v e=.ok fs) {i:Nat} (hi:i<e.length):gf v e[i]=0:=by
 obtain⟨gs,h1,h2,h3,_⟩:=pq h i (Nat.le_of_lt hi)
 cases hs:gG v gs e[i]with
 |error n=>rw[jQ hi h1 hs]at h;cases h
 |ok b=>exact(tJ (by rw[h2];exact h3) hs).2.1
theorem or_zero {a b:Nat} (h:(a|||b)=0):a=0∧b=0:=by
 have h1:a≤a|||b:=Nat.left_le_or
 have h2:b≤a|||b:=Nat.right_le_or
 omega
theorem lP {v:Nat} {x:dK} (h:gf v x=0):1≤x.op∧x.op≤10∧(x.op≠3→x.p=0∧x.n=0)∧(dH x.op<1→x.a=0)∧(dH x.op<2→x.b=0):=by
 unfold gf at h
 split at h
 ·omega
 ·rename_i h1
  split at h
  ·omega
  ·rename_i h2
   refine⟨by omega,by omega,fun h3=>or_zero (by
    by_cases h4:(x.p|||x.n)=0
    ·exact h4
    ·exact absurd (Or.inl ⟨h3,h4⟩) h2),fun h3=>?_,fun h3=>?_⟩
   ·by_cases h4:x.a=0
    ·exact h4
    ·exact absurd (Or.inr (Or.inl ⟨h3,h4⟩)) h2
   ·by_cases h4:x.b=0
    ·exact h4
    ·exact absurd (Or.inr (Or.inr ⟨h3,h4⟩)) h2
theorem jX {v:Nat} {e:List dK} {fs:List Nat} (h:jW v e=.ok fs) (lF: ∀x∈e,x.p<256∧x.n<256): ∀(f i:Nat),i<f→i<e.length→re e (jy e f i) i
 |0,i,hf,hi=>absurd hf (by omega)
 |f+1,i,hf,hi=>by
  have ht:=qw h i hi
  have hs:=lP (pk h hi)
  have hg:e[i]? =some e[i]:=ap hi
  have hx:=lF _ (aQ hi)
  unfold jy
  simp only[oM hi]
  obtain⟨x,AP⟩: ∃x,x=e[i]:=⟨_,F⟩
  rw[←AP]at ht hs hg hx⊢
  obtain⟨o,p,n,a,b⟩:=x
  clear AP
  obtain⟨h1,h2,h3,h4,h5⟩:=hs
  simp only at ht h1 h2 h3 h4 h5 hx
  have hk:o=1∨o=2∨o=3∨o=4∨o=5∨o=6∨o=7∨o=8∨o=9∨o=10:=by omega
  rcases hk with rfl|rfl|rfl|rfl|rfl|rfl|rfl|rfl|rfl|rfl
  ·obtain⟨rfl,rfl⟩:=h3 (by decide)
   have ha:=h4 (by decide);have hb:=h5 (by decide)
   subst ha hb
   exact hg
  ·obtain⟨rfl,rfl⟩:=h3 (by decide)
   have ha:=h4 (by decide);have hb:=h5 (by decide)
   subst ha hb
   exact hg
  ·have ha:=h4 (by decide);have hb:=h5 (by decide)
   subst ha hb
   exact⟨hg,hx⟩
  ·obtain⟨rfl,rfl⟩:=h3 (by decide)
   obtain⟨j,rfl,hj⟩:=ht.1 (by decide)
   obtain⟨k,rfl,hk⟩:=ht.2 (by decide)
   exact⟨j,k,hg,jX h lF f j (by omega) (by omega),jX h lF f k (by omega) (by omega)⟩
  ·obtain⟨rfl,rfl⟩:=h3 (by decide)
   obtain⟨j,rfl,hj⟩:=ht.1 (by decide)
   obtain⟨k,rfl,hk⟩:=ht.2 (by decide)
   exact⟨j,k,hg,jX h lF f j (by omega) (by omega),jX h lF f k (by omega) (by omega)⟩
  ·obtain⟨rfl,rfl⟩:=h3 (by decide)
   obtain⟨j,rfl,hj⟩:=ht.1 (by decide)
   obtain⟨k,rfl,hk⟩:=ht.2 (by decide)
   exact⟨j,k,hg,jX h lF f j (by omega) (by omega),jX h lF f k (by omega) (by omega)⟩
  ·obtain⟨rfl,rfl⟩:=h3 (by decide)
   have hb:=h5 (by decide)
   subst hb
   obtain⟨j,rfl,hj⟩:=ht.1 (by decide)
   exact⟨j,hg,jX h lF f j (by omega) (by omega)⟩
  ·obtain⟨rfl,rfl⟩:=h3 (by decide)
   have hb:=h5 (by decide)
   subst hb
   obtain⟨j,rfl,hj⟩:=ht.1 (by decide)
   exact⟨j,hg,jX h lF f j (by omega) (by omega)⟩
  ·obtain⟨rfl,rfl⟩:=h3 (by decide)
   have hb:=h5 (by decide)
   subst hb
   obtain⟨j,rfl,hj⟩:=ht.1 (by decide)
   exact⟨j,hg,jX h lF f j (by omega) (by omega)⟩
  ·obtain⟨rfl,rfl⟩:=h3 (by decide)
   have hb:=h5 (by decide)
   subst hb
   obtain⟨j,rfl,hj⟩:=ht.1 (by decide)
   exact⟨j,hg,jX h lF f j (by omega) (by omega)⟩
theorem rm {v:Nat} {e:List dK} {fs:List Nat} (h:jW v e=.ok fs): ∀(f i:Nat),i<f→i<e.length→(mq e f i false=true→(jy e f i).plain=true)∧(mq e f i true=true→(jy e f i).wf=true)
 |0,i,hf,hi=>absurd hf (by omega)
 |f+1,i,hf,hi=>by
  have ht:=qw h i hi
  have hs:=lP (pk h hi)
  have e1:=iH (f:=f) (fr:=false) hi
  have e2:=iH (f:=f) (fr:=true) hi
  rw[e1,e2]
  unfold jy
  simp only[oM hi]
  clear e1 e2
  obtain⟨x,AP⟩: ∃x,x=e[i]:=⟨_,F⟩
  rw[←AP]at ht hs⊢
  obtain⟨o,p,n,a,b⟩:=x
  clear AP
  obtain⟨h1,h2,h3,h4,h5⟩:=hs
  simp only at ht h1 h2⊢
  clear h3 h4 h5
  have one:1≤dH o→((mq e f a.toNat false=true→(jy e f a.toNat).plain=true)∧(mq e f a.toNat true=true→(jy e f a.toNat).wf=true)):=fun hh=>by
   obtain⟨j,rfl,hj⟩:=ht.1 hh
   exact rm h f j (by omega) (by omega)
  have two:2≤dH o→((mq e f b.toNat false=true→(jy e f b.toNat).plain=true)∧(mq e f b.toNat true=true→(jy e f b.toNat).wf=true)):=fun hh=>by
   obtain⟨j,rfl,hj⟩:=ht.2 hh
   exact rm h f j (by omega) (by omega)
  clear ht
  have hk:o=1∨o=2∨o=3∨o=4∨o=5∨o=6∨o=7∨o=8∨o=9∨o=10:=by omega
  rcases hk with rfl|rfl|rfl|rfl|rfl|rfl|rfl|rfl|rfl|rfl<;>simp[dH,Rx.plain,Rx.wf]at one two⊢ <;>simp_all
theorem AK {v:Nat} {e:List dK} {fs:List Nat} (h:jW v e=.ok fs) {i:Nat} (hi:i<e.length):fs.getD i 0≤i∧
  (dH e[i].op=1→0<i∧e[i].a=(i:Int)-1∧fs.getD i 0=fs.getD (i-1) 0)∧
  (dH e[i].op=2→0<i∧e[i].b=(i:Int)-1∧0<fs.getD (i-1) 0∧e[i].a=(fs.getD (i-1) 0:Int)-1∧fs.getD (i-1) 0≤i-1∧fs.getD i 0=fs.getD e[i].a.toNat 0)∧(dH e[i].op=0→fs.getD i 0=i):=by
 obtain⟨gs,h1,h2,h3,h4⟩:=pq h i (Nat.le_of_lt hi)
 obtain⟨gs',k1,k2,k3,k4⟩:=pq h (i+1) hi
 cases hs:gG v gs e[i]with
 |error n=>rw[jQ hi h1 hs]at h;cases h
 |ok b=>
  have hn:=qQ hi h1 hs
  rw[k1]at hn
  injection hn with hn
  have iA:i<fs.length:=by
   have:(fs.take (i+1)).length=i+1:=by rw[←k4];exact k2
   rw[ck]at this;omega
  have hb:fs.getD i 0=b:=by
   have:gs'.getD i 0=b:=by rw[hn,av,bT (by omega),h2,fR];rfl
   rw[k4,av,List.getElem?_take,aO (by omega)]at this
   rw[av];exact this
  have hj: ∀j,j<i→gs.getD j 0=fs.getD j 0:=fun j hj=>by
   rw[h4,av,av,List.getElem?_take,aO hj]
  obtain⟨b1,_,b2,b3,b4⟩:=tJ (by rw[h2];exact h3) hs
  rw[h2]at b1 b2 b3 b4
  refine⟨by omega,fun h5=>?_,fun h5=>?_,fun h5=>by rw[hb];exact b4 h5⟩
  ·obtain⟨c1,c2,c3⟩:=b2 h5
   exact⟨c1,c2,by rw[hb,c3,hj _ (by omega)]⟩
  ·obtain⟨c1,c2,c3,c4,c5⟩:=b3 h5
   have hx:=h3 (i-1) (by omega)
   rw[hj _ (by omega)]at c3 c4 hx
   refine⟨c1,c2,c3,c4,hx,?_⟩
   rw[hb,c5,hj _ (by omega)]
theorem wm {v:Nat} {e:List dK} {fs:List Nat} (h:jW v e=.ok fs): ∀(f i:Nat),i<f→i<e.length→2*(jy e f i).lv+fs.getD i 0≤i+2
 |0,i,hf,hi=>absurd hf (by omega)
 |f+1,i,hf,hi=>by
  obtain⟨g0,g1,g2,g3⟩:=AK h hi
  unfold jy
  simp only[oM hi]
  by_cases h4:e[i].op=4∨e[i].op=5
  ·have hc:dH e[i].op=2:=by unfold dH;rw[aO (by omega)]
   obtain⟨c1,c2,c3,c4,c5,c6⟩:=g2 hc
   have ha:=wm h f (fs.getD (i-1) 0-1) (by omega) (by omega)
   have hb:=wm h f (i-1) (by omega) (by omega)
   have ea:e[i].a.toNat=fs.getD (i-1) 0-1:=by omega
   have eb:e[i].b.toNat=i-1:=by omega
   rw[ea]at c6
   rw[ea,eb]
   rcases h4 with h4|h4
   ·simp only[h4]
    show 2*((jy e f _).lv+(jy e f _).lv)+_≤_
    omega
   ·simp only[h4]
    show 2*((jy e f _).lv+(jy e f _).lv)+_≤_
    omega
  ·rw[az (show¬e[i].op=4 by omega),az (show¬e[i].op=5 by omega)]
   repeat' split
   all_goals (show 2*1+_≤_;omega)
theorem pA {v:Nat} {e:List dK} {fs:List Nat} (h:jW v e=.ok fs) (hl: ∀x∈e,x.op≠9∧x.op≠10): ∀(f i:Nat),i<f→i<e.length→(jy e f i).plain=true
 |0,i,hf,hi=>absurd hf (by omega)
 |f+1,i,hf,hi=>by
  have ht:=qw h i hi
  have hs:=lP (pk h hi)
  have hx:=hl _ (aQ hi)
  unfold jy
  simp only[oM hi]
  obtain⟨x,AP⟩: ∃x,x=e[i]:=⟨_,F⟩
  rw[←AP]at ht hs hx⊢
  obtain⟨o,p,n,a,b⟩:=x
  clear AP
  obtain⟨h1,h2,h3,h4,h5⟩:=hs
  simp only at ht h1 h2 hx⊢
  clear h3 h4 h5
  have one:1≤dH o→(jy e f a.toNat).plain=true:=fun hh=>by
   obtain⟨j,rfl,hj⟩:=ht.1 hh
   exact pA h hl f j (by omega) (by omega)
  have two:2≤dH o→(jy e f b.toNat).plain=true:=fun hh=>by
   obtain⟨j,rfl,hj⟩:=ht.2 hh
   exact pA h hl f j (by omega) (by omega)
  clear ht
  have hk:o=1∨o=2∨o=3∨o=4∨o=5∨o=6∨o=7∨o=8:=by omega
  rcases hk with rfl|rfl|rfl|rfl|rfl|rfl|rfl|rfl<;>simp[dH,Rx.plain]at one two⊢ <;>simp_all
end Go.Lx

namespace Go.Lx
open Go.RowKit Go.Proofs.YtgdbfideeeegmaaGreatDoor
section
variable (ls:List Lf)
def Dv:Nat→List (List Ob)
 |0=>[[]]
 |k+1=>Dv k++(Dv k).flatMap fun o=>(List.range (lf ls k).d.next.length).map fun s=>o++[(k,s)]
def Q8:Nat→Nat
 |0=>1
 |k+1=>Q8 k*((lf ls k).d.next.length+1)
def Ix:Nat→List Cf
 |0=>[]
 |k+1=>Ix k++(Dv ls k).flatMap fun o=>(List.range (lf ls k).d.next.length).map fun s=>⟨(k:Int),s,o⟩
variable {ls}
theorem Mm {α β:Type} (l:List α) (n:Nat) (f:α→Nat→β):(l.flatMap fun o=>(List.range n).map fun s=>f o s).length=l.length*n:=by
 induction l with
 |nil=>simp
 |cons a l ih=>rw[List.flatMap_cons,aw,ar,List.length_range,ih,bo,Nat.succ_mul];omega
theorem ya: ∀k,(Dv ls k).length=Q8 ls k
 |0=>rfl
 |k+1=>by
  show(Dv ls k++_).length=Q8 ls k*_
  rw[aw,Mm,ya k,Nat.mul_succ];omega
theorem Dw: ∀k,(Ix ls k).length+1=Q8 ls k
 |0=>rfl
 |k+1=>by
  show(Ix ls k++_).length+1=Q8 ls k*_
  rw[aw,Mm,ya k,Nat.mul_succ];have:=Dw k;omega
theorem qU: ∀ {k:Nat} {o:List Ob},fV ls k o→o∈Dv ls k
 |0,o,h=>by
  cases o with
  |nil=>exact List.mem_singleton.2 F
  |cons p o=>exact absurd (h.2 p (by simp)).1 (by omega)
 |k+1,o,h=>by
  show o∈Dv ls k++_
  rcases List.eq_nil_or_concat o with rfl|⟨o,p,rfl⟩
  ·exact List.mem_append.2 (.inl (qU .nil))
  ·rw[List.concat_eq_append]at h⊢
   have h1:=List.pairwise_append.1 h.1
   have hp:=h.2 p (by simp)
   have gn: ∀q∈o,q.1<p.1:=fun q hq=>h1.2.2 q hq p (by simp)
   rcases Nat.lt_or_ge p.1 k with c|c
   ·refine List.mem_append.2 (.inl (qU ⟨h.1,fun q hq=>⟨?_,(h.2 q hq).2⟩⟩))
    rcases List.mem_append.1 hq with hq|hq
    ·have:=gn q hq;omega
    ·rw[List.mem_singleton.1 hq];exact c
   ·have e:p.1=k:=by omega
    refine List.mem_append.2 (.inr (List.mem_flatMap.2 ⟨o,qU ⟨h1.1,fun q hq=>⟨by have:=gn q hq;omega,(h.2 q (by simp[hq])).2⟩⟩,List.mem_map.2 ⟨p.2,List.mem_range.2 (by rw[←e];exact hp.2),?_⟩⟩))
    rw[←e]
theorem Dx {n:Nat} {s:Nat} {o:List Ob}: ∀ {k:Nat},n<k→s<(lf ls n).d.next.length→fV ls n o→(⟨(n:Int),s,o⟩:Cf)∈Ix ls k
 |0,h,_,_=>absurd h (by omega)
 |k+1,h,hs,ho=>by
  show _∈Ix ls k++_
  rcases Nat.lt_or_ge n k with c|c
  ·exact List.mem_append.2 (.inl (Dx c hs ho))
  ·have e:n=k:=by omega
   subst e
   exact List.mem_append.2 (.inr (List.mem_flatMap.2 ⟨o,qU ho,List.mem_map.2 ⟨s,List.mem_range.2 hs,F⟩⟩))
theorem FQ {K:Nat} (h:2*Q8 ls ls.length≤K+1):qy ls K:=fun l hn hg=>by
 have:=uI hn (m:=(Dv ls ls.length).map (fun o=>(⟨-1,0,o⟩:Cf))++Ix ls ls.length) fun c hc=>by
  rcases hg c hc with⟨h1,h2,h3⟩|⟨k,h1,hk,h2,h3⟩
  ·exact List.mem_append.2 (.inl (List.mem_map.2 ⟨c.o,qU h3,by obtain⟨a,b,d⟩:=c;simp only at h1 h2;rw[h1,h2]⟩))
  ·refine List.mem_append.2 (.inr ?_)
   obtain⟨a,b,d⟩:=c
   simp only at h1 h2 h3
   rw[h1];exact Dx hk h2 h3
 rw[aw,ar,ya]at this
 have:=Dw (ls:=ls) ls.length
 omega
end
def GR:List cU→Nat
 | []=>1
 |d::l=>(d.next.length+1)*GR l
theorem yd: ∀(l:List cU) (d:cU),GR (l++[d])=GR l*(d.next.length+1)
 | [],d=>by simp[GR]
 |a::l,d=>by show _*GR (l++[d])=_*GR l*_;rw[yd l d,Nat.mul_assoc]
theorem Dy (ls:List Lf): ∀k,k≤ls.length→Q8 ls k=GR ((ls.take k).map Lf.d)
 |0,_=>rfl
 |k+1,h=>by
  rw[aH (by omega),bm,List.map_singleton,yd,←Dy ls k (by omega)]
  show Q8 ls k*_=_
  rw[uC (show k<ls.length by omega)]
theorem Q9 {ls:List Lf} {k:Nat} {q:Lf} (hq:q.d=(lf ls k).d):(ls.set k q).map Lf.d=ls.map Lf.d:=by
 apply List.ext_getElem?
 intro i
 rw[bq,bq]
 by_cases e:i=k
 ·subst e
  rcases Nat.lt_or_ge i ls.length with c|c
  ·rw[List.getElem?_set_self c,ap c]
   show some q.d=some ls[i].d
   rw[hq,uC c]
  ·rw[bZ (by simpa using c),bZ c]
 ·rw[List.getElem?_set_ne (fun h=>e h.symm)]
theorem GU: ∀(b x:List Nat) (ls:List Lf),(jY ls b x).map Lf.d=ls.map Lf.d
 | [],x,ls=>rfl
 |k::b,x,ls=>(GU b x _).trans (Q9 (ls:=ls) (k:=k) F)
theorem GV: ∀(la:List Nat) (ls:List Lf),(my ls la).map Lf.d=ls.map Lf.d
 | [],ls=>rfl
 |k::la,ls=>(GV la _).trans (Q9 (ls:=ls) (k:=k) F)
theorem mP {v B:Nat} (hv:v≤6) (hB:B≤4096) {t:Rx} (hp:t.plain=true) (ho:kQ v t B) (hs:t.sz≤6):(minOf v (gB t)).next.length≤Iv t.sz:=by
 obtain⟨D,hD⟩:=Pn hv hp hs
 exact(ek hv hB hp ho).zG hD
theorem uQ: ∀k,k≤6→Iv k≤8:=by decide
theorem Iy {v B:Nat} (hv:v≤6) (hB:B≤4096): ∀ {t:Rx},t.plain=true→kQ v t B→t.sz=7→(minOf v (gB t)).next.length≤512
 | .none,_,_,hs=>absurd hs (by decide)
 | .empty,_,_,hs=>absurd hs (by decide)
 | .letter p n,_,_,hs=>absurd hs (by show¬1=7;decide)
 | .not a,hp,ho,hs=>by
  have hs:a.sz+1=7:=hs
  have h1:=mP hv hB (t:=a) hp ho.1 (by omega)
  have h2:=uQ a.sz (by omega)
  have h3:=(ek hv hB (t:=a) hp ho.1).toHasL
  have h4:(minOf v (gB a)).next.length*(minOf v (gB a)).next.length≤8*8:=Nat.mul_le_mul (by omega) (by omega)
  have h5:=HasL.not (h3.le (bF _)) (by omega)
  have h6:=(ek hv hB (t:=.not a) hp ho).zG (D:=n8 (minOf v (gB a))) (h5.toHasL)
  omega
 | .star a,hp,ho,hs=>by
  have hs:a.sz+1=7:=hs
  have h1:=mP hv hB (t:=a) hp ho.1 (by omega)
  have h2:=uQ a.sz (by omega)
  have h3:=ek hv hB (t:=a) hp ho.1
  have h4:2^((minOf v (gB a)).next.length+1)≤2^9:=cF (by decide) (by omega)
  have h5:=C9 (B:=512) hv (by decide) h3.toHasL (Cq h3.valid h4)
  exact h5.len
 | .gZ a b,hp,ho,hs=>by
  have hs:a.sz+b.sz+1=7:=hs
  simp only[Rx.plain,aJ]at hp
  have pa:=a.dN;have pb:=b.dN
  have h1:=mP hv hB hp.1 ho.1 (by omega)
  have h2:=mP hv hB hp.2 ho.2.1 (by omega)
  have h3:=ek hv hB hp.1 ho.1
  have h4:=ek hv hB hp.2 ho.2.1
  have h6:Iv a.sz*2^Iv b.sz≤512:=by
   have: ∀i,i≤5→ ∀j,j≤5→Iv i*2^Iv j≤512:=by decide
   exact this _ (by omega) _ (by omega)
  have h7:(minOf v (gB a)).next.length*2^(minOf v (gB b)).next.length≤Iv a.sz*2^Iv b.sz:=Nat.mul_le_mul h1 (cF (by decide) h2)
  exact(lg (B:=512) hv (by decide) h3.toHasL h4.toHasL (pr h3.valid h4.valid (by omega))).len
 | .iv a b,hp,ho,hs=>by
  have hs:a.sz+b.sz+1=7:=hs
  simp only[Rx.plain,aJ]at hp
  have pa:=a.dN;have pb:=b.dN
  have h1:=mP hv hB hp.1 ho.1 (by omega)
  have h2:=mP hv hB hp.2 ho.2.1 (by omega)
  have h3:=ek hv hB hp.1 ho.1
  have h4:=ek hv hB hp.2 ho.2.1
  have h6:(minOf v (gB a)).next.length*(minOf v (gB b)).next.length≤8*8:=Nat.mul_le_mul (cn h1 (uQ _ (by omega))) (cn h2 (uQ _ (by omega)))
  have h7:=HasL.op (f:=DT) h3.toHasL.Po h4.toHasL.Po (by omega)
  have h8:=(ek hv hB (t:=.iv a b) (by simp[Rx.plain,hp]) ho).zG h7.toHasL
  omega
 | .and a b,hp,ho,hs=>by
  have hs:a.sz+b.sz+1=7:=hs
  simp only[Rx.plain,aJ]at hp
  have pa:=a.dN;have pb:=b.dN
  have h1:=mP hv hB hp.1 ho.1 (by omega)
  have h2:=mP hv hB hp.2 ho.2.1 (by omega)
  have h3:=ek hv hB hp.1 ho.1
  have h4:=ek hv hB hp.2 ho.2.1
  have h6:(minOf v (gB a)).next.length*(minOf v (gB b)).next.length≤8*8:=Nat.mul_le_mul (cn h1 (uQ _ (by omega))) (cn h2 (uQ _ (by omega)))
  have h7:=HasL.op (f:=rV) h3.toHasL.Po h4.toHasL.Po (by omega)
  have h8:=(ek hv hB (t:=.and a b) (by simp[Rx.plain,hp]) ho).zG h7.toHasL
  omega
 | .ahead a,hp,_,_=>absurd hp (by simp[Rx.plain])
 | .behind a,hp,_,_=>absurd hp (by simp[Rx.plain])
def Dz (k:Nat):Nat:=if k≤6 then Iv k else if k=7 then 512 else 4096
theorem uR {v B:Nat} (hv:v≤6) (hB:B≤4096) {t:Rx} (hp:t.plain=true) (ho:kQ v t B):(minOf v (gB t)).next.length≤Dz t.sz:=by
 unfold Dz
 split
 ·exact mP hv hB hp ho (by assumption)
 ·split
  ·exact Iy hv hB hp ho (by assumption)
  ·exact cn (ek hv hB hp ho).len hB
def vT (n c:Nat):Prop:= ∃e,n≤2^e∧9*e≤13*c
theorem vT.mul {n m c d:Nat} (h:vT n c) (k:vT m d):vT (n*m) (c+d):=by
 obtain⟨e,h1,h2⟩:=h
 obtain⟨f,k1,k2⟩:=k
 exact⟨e+f,by rw[Nat.pow_add];exact Nat.mul_le_mul h1 k1,by omega⟩
def UC (k:Nat):Nat:=if k≤7 then[2,2,2,3,3,3,4,10].getD k 0 else 13
def UD (k:Nat):Nat:=if k≤7 then[3,3,3,4,4,4,5,11].getD k 0 else 13
def UE (k:Nat):Nat:=if k≤6 then[4,4,4,5,6,6,9].getD k 0 else 13
theorem T2 (k:Nat) (h:1≤k):Dz k+1≤2^UC k∧9*UC k≤13*(k+1):=by
 rcases Nat.lt_or_ge k 8 with c|c
 ·have: ∀k,k<8→1≤k→Dz k+1≤2^UC k∧9*UC k≤13*(k+1):=by decide
  exact this k c h
 ·have e1:Dz k=4096:=by unfold Dz;rw[az (by omega),az (by omega)]
  have e2:UC k=13:=by unfold UC;rw[az (by omega)]
  rw[e1,e2];omega
theorem T3 (k:Nat) (h:1≤k):min (2*Dz k) 4096+1≤2^UD k∧9*UD k≤13*(k+1+1):=by
 rcases Nat.lt_or_ge k 8 with c|c
 ·have: ∀k,k<8→1≤k→min (2*Dz k) 4096+1≤2^UD k∧9*UD k≤13*(k+1+1):=by decide
  exact this k c h
 ·have e2:UD k=13:=by unfold UD;rw[az (by omega)]
  rw[e2];omega
theorem T4 (k:Nat) (h:1≤k):(if k≤6 then 2^Dz k else 4096)+1≤2^UE k∧9*UE k≤13*(k+1+1):=by
 rcases Nat.lt_or_ge k 7 with c|c
 ·have: ∀k,k<7→1≤k→(if k≤6 then 2^Dz k else 4096)+1≤2^UE k∧9*UE k≤13*(k+1+1):=by decide
  exact this k c h
 ·have e2:UE k=13:=by unfold UE;rw[az (by omega)]
  rw[e2,az (by omega)];omega
theorem Iz {v B:Nat} (hv:v≤6) (hB:B≤4096): ∀ {t:Rx},t.wf=true→okB v t B→(∀a b,t≠.gZ a b)→(∀a b,t≠.iv a b)→vT ((j3 v t).d.next.length+1) (t.sz+1):=by
 have pl: ∀ {t:Rx},t.plain=true→kQ v t B→vT ((minOf v (gB t)).next.length+1) (t.sz+1):=fun {t} hp ho=>by
  obtain⟨h1,h2⟩:=T2 t.sz t.dN
  exact⟨_,cn (Nat.succ_le_succ (uR hv hB hp ho)) h1,h2⟩
 intro t
 cases t with
 |none=>exact fun hw h _ _=>pl (t:=.none) hw h
 |empty=>exact fun hw h _ _=>pl (t:=.empty) hw h
 |letter p n=>exact fun hw h _ _=>pl (t:=.letter p n) hw h
 |and a b=>exact fun hw h _ _=>pl (t:=.and a b) hw h
 |not a=>exact fun hw h _ _=>pl (t:=.not a) hw h
 |star a=>exact fun hw h _ _=>pl (t:=.star a) hw h
 |gZ a b=>exact fun _ _ h _=>absurd F (h a b)
 |iv a b=>exact fun _ _ _ h=>absurd F (h a b)
 |ahead a=>
  intro hw h _ _
  obtain⟨h1,h2⟩:=T3 a.sz a.dN
  have h3:=uR hv hB (t:=a) hw h.1
  have h4:=ek hv hB (t:=a) hw h.1
  have h5:(j3 v (.ahead a)).d.next.length≤min (2*Dz a.sz) 4096:=by
   have hm:=(lg hv hB h4.toHasL (fN hv) h.2).len
   refine Nat.le_min.2 ⟨?_,cn hm hB⟩
   rcases Nat.lt_or_ge (2*Dz a.sz) 4096 with c|c
   ·have hs:=fN hv
    have h6:=lg (B:=2*Dz a.sz) hv (by omega) h4.toHasL hs (pr h4.valid hs.valid (by show _*2^1≤_;omega))
    exact h6.len
   ·exact cn hm (by omega)
  exact⟨_,cn (Nat.succ_le_succ h5) h1,h2⟩
 |behind a=>
  intro hw h _ _
  obtain⟨h1,h2⟩:=T4 a.sz a.dN
  have h3:=uR hv hB (t:=a) hw h.1
  have h4:=ek hv hB (t:=a) hw h.1
  have h5:(j3 v (.behind a)).d.next.length≤(if a.sz≤6 then 2^Dz a.sz else 4096):=by
   have hm:=(lg hv hB (fN hv) h4.toHasL h.2).len
   split
   ·have hs:=fN hv
    have h7:2^Dz a.sz≤256:=by
     have: ∀k,k≤6→2^Dz k≤256:=by decide
     exact this _ (by assumption)
    have h6:=lg (B:=2^Dz a.sz) hv (by omega) hs h4.toHasL (pr hs.valid h4.valid (by show 1*_≤_;rw[Nat.one_mul];exact cF (by decide) h3))
    exact h6.len
   ·exact cn hm hB
  exact⟨_,cn (Nat.succ_le_succ h5) h1,h2⟩
theorem DA {v B:Nat} (hv:v≤6) (hB:B≤4096): ∀(t:Rx) (ls:List Lf),t.wf=true→okB v t B→ ∀c,vT (GR (ls.map Lf.d)) c→vT (GR ((aR v t ls).ls.map Lf.d)) (c+(t.sz+1)):=by
 have leaf: ∀(t:Rx) (ls:List Lf),t.wf=true→okB v t B→(∀a b,t≠.gZ a b)→(∀a b,t≠.iv a b)→ ∀c,vT (GR (ls.map Lf.d)) c→vT (GR ((ls++[j3 v t]).map Lf.d)) (c+(t.sz+1)):=fun t ls hw ho n1 n2 c hc=>by
  rw[bm,List.map_singleton,yd]
  exact hc.mul (Iz hv hB hw ho n1 n2)
 intro t
 induction t with
 |gZ a b jl lS=>
  intro ls hw ho c hc
  simp only[Rx.wf,aJ]at hw
  have h1:=lS _ hw.2 ho.2 _ (jl ls hw.1 ho.1 c hc)
  show vT (GR ((jY _ _ _).map Lf.d)) (c+(a.sz+b.sz+1+1))
  rw[GU,show c+(a.sz+b.sz+1+1)=c+(a.sz+1)+(b.sz+1) by omega]
  exact h1
 |iv a b jl lS=>
  intro ls hw ho c hc
  simp only[Rx.wf,aJ]at hw
  have h1:=lS _ hw.2 ho.2 _ (jl ls hw.1 ho.1 c hc)
  show vT (GR ((aR v b _).ls.map Lf.d)) (c+(a.sz+b.sz+1+1))
  rw[show c+(a.sz+b.sz+1+1)=c+(a.sz+1)+(b.sz+1) by omega]
  exact h1
 |none=>exact fun ls hw ho=>leaf .none ls hw ho (by simp) (by simp)
 |empty=>exact fun ls hw ho=>leaf .empty ls hw ho (by simp) (by simp)
 |letter p n=>exact fun ls hw ho=>leaf (.letter p n) ls hw ho (by simp) (by simp)
 |and a b _ _=>exact fun ls hw ho=>leaf (.and a b) ls hw ho (by simp) (by simp)
 |not a _=>exact fun ls hw ho=>leaf (.not a) ls hw ho (by simp) (by simp)
 |star a _=>exact fun ls hw ho=>leaf (.star a) ls hw ho (by simp) (by simp)
 |ahead a _=>exact fun ls hw ho=>leaf (.ahead a) ls hw ho (by simp) (by simp)
 |behind a _=>exact fun ls hw ho=>leaf (.behind a) ls hw ho (by simp) (by simp)
theorem Pp {v B:Nat} (hv:v≤6) (hB:B≤4096) {t:Rx} (hw:t.wf=true) (ho:okB v t B) (hs:t.sz≤24):qy (mr v t) 137438953471:=by
 have h1:=DA hv hB t [] hw ho 0 ⟨0,bF _,by decide⟩
 apply FQ
 rw[Dy _ _ (bF _),List.take_length]
 show 2*GR ((my _ _).map Lf.d)≤_
 rw[GV]
 obtain⟨e,h2,h3⟩:=h1
 have h4:(2:Nat)^e≤2^36:=cF (by decide) (by omega)
 omega
theorem P8 (n:Nat):dH n=0∨dH n=1∨dH n=2:=by
 unfold dH
 split
 ·exact .inr (.inr F)
 ·split
  ·exact .inr (.inl F)
  ·exact .inl F
theorem tU {v:Nat} {e:List dK} {fs:List Nat} (h:jW v e=.ok fs): ∀(f i:Nat),i<f→i<e.length→(jy e f i).sz+fs.getD i 0≤i+1
 |0,i,hf,hi=>absurd hf (by omega)
 |f+1,i,hf,hi=>by
  obtain⟨g0,g1,g2,g3⟩:=AK h hi
  obtain⟨s1,s2,_⟩:=lP (pk h hi)
  unfold jy
  simp only[oM hi]
  rcases P8 e[i].op with hc|hc|hc
  ·have h3:=g3 hc
   have:e[i].op=1∨e[i].op=2∨e[i].op=3:=by unfold dH at hc;split at hc;omega;split at hc;omega;omega
   rcases this with c|c|c
   all_goals (simp only[c];show 1+_≤_;omega)
  ·obtain⟨c1,c2,c3⟩:=g1 hc
   have ha:=tU h f (i-1) (by omega) (by omega)
   have ea:e[i].a.toNat=i-1:=by omega
   rw[ea]
   have:e[i].op=7∨e[i].op=8∨e[i].op=9∨e[i].op=10:=by unfold dH at hc;split at hc;omega;split at hc;omega;omega
   rcases this with c|c|c|c
   all_goals (simp only[c];show(jy e f (i-1)).sz+1+_≤_;omega)
  ·obtain⟨c1,c2,c3,c4,c5,c6⟩:=g2 hc
   have ha:=tU h f (fs.getD (i-1) 0-1) (by omega) (by omega)
   have hb:=tU h f (i-1) (by omega) (by omega)
   have ea:e[i].a.toNat=fs.getD (i-1) 0-1:=by omega
   have eb:e[i].b.toNat=i-1:=by omega
   rw[ea]at c6
   rw[ea,eb]
   have:e[i].op=4∨e[i].op=5∨e[i].op=6:=by unfold dH at hc;split at hc;omega;split at hc;omega;omega
   rcases this with c|c|c
   all_goals (simp only[c];show(jy e f _).sz+(jy e f _).sz+1+_≤_;omega)
end Go.Lx

namespace Go.Lx
open Go.RowKit
def Ik:Rx→Nat→List Nat
 | .gZ a b,n=>Ik a n
 | .iv a b,n=>Ik a n++Ik b (n+a.lv)
 |_,n=>[n]
def Dj:Rx→Nat→List Nat
 | .gZ a b,n=>Dj b (n+a.lv)
 | .iv a b,n=>Dj a n++Dj b (n+a.lv)
 |_,n=>[n]
theorem E5: ∀t:Rx,0<t.lv
 | .gZ a b=>Nat.add_pos_left (E5 a) _
 | .iv a b=>Nat.add_pos_left (E5 a) _
 | .none| .empty| .letter _ _| .and _ _| .not _| .star _| .ahead _| .behind _=>Nat.one_pos
theorem mw: ∀(t:Rx) (n:Nat),∀k∈Dj t n,n≤k∧k<n+t.lv
 | .gZ a b,n,k,h=>by
  have:=mw b (n+a.lv) k h
  show n≤k∧k<n+(a.lv+b.lv);omega
 | .iv a b,n,k,h=>by
  show n≤k∧k<n+(a.lv+b.lv)
  rcases List.mem_append.1 h with h|h
  ·have:=mw a n k h;omega
  ·have:=mw b (n+a.lv) k h;omega
 | .none,n,k,h=>by rw[List.mem_singleton.1 h];exact⟨bF _,Nat.lt_succ_self _⟩
 | .empty,n,k,h=>by rw[List.mem_singleton.1 h];exact⟨bF _,Nat.lt_succ_self _⟩
 | .letter _ _,n,k,h=>by rw[List.mem_singleton.1 h];exact⟨bF _,Nat.lt_succ_self _⟩
 | .and _ _,n,k,h=>by rw[List.mem_singleton.1 h];exact⟨bF _,Nat.lt_succ_self _⟩
 | .not _,n,k,h=>by rw[List.mem_singleton.1 h];exact⟨bF _,Nat.lt_succ_self _⟩
 | .star _,n,k,h=>by rw[List.mem_singleton.1 h];exact⟨bF _,Nat.lt_succ_self _⟩
 | .ahead _,n,k,h=>by rw[List.mem_singleton.1 h];exact⟨bF _,Nat.lt_succ_self _⟩
 | .behind _,n,k,h=>by rw[List.mem_singleton.1 h];exact⟨bF _,Nat.lt_succ_self _⟩
theorem rA: ∀(t:Rx) (n:Nat),(Dj t n).Nodup
 | .gZ a b,n=>rA b _
 | .iv a b,n=>by
  refine List.nodup_append.2 ⟨rA a n,rA b _,fun x hx y hy=>?_⟩
  have:=mw a n x hx;have:=mw b _ y hy;omega
 | .none,n| .empty,n| .letter _ _,n| .and _ _,n| .not _,n| .star _,n| .ahead _,n| .behind _,n=>by simp[Dj]
theorem nv (v:Nat): ∀(t:Rx) (ls:List Lf),(aR v t ls).fi=Ik t ls.length∧(aR v t ls).la=Dj t ls.length
 | .gZ a b,ls=>by
  obtain⟨h1,h2⟩:=nv v a ls
  obtain⟨h3,h4⟩:=nv v b (aR v a ls).ls
  rw[dY]at h3 h4
  exact⟨h1,h4⟩
 | .iv a b,ls=>by
  obtain⟨h1,h2⟩:=nv v a ls
  obtain⟨h3,h4⟩:=nv v b (aR v a ls).ls
  rw[dY]at h3 h4
  exact⟨by show _++_=_;rw[h1,h3];rfl,by show _++_=_;rw[h2,h4];rfl⟩
 | .none,ls| .empty,ls| .letter _ _,ls| .and _ _,ls| .not _,ls| .star _,ls| .ahead _,ls| .behind _,ls=>⟨F,F⟩
theorem Dk (x:List Nat): ∀(b:List Nat) {ls:List Lf},b.Nodup→(∀k∈b,k<ls.length)→ ∀i,lf (jY ls b x) i=if i∈b then {lf ls i with fo:=(lf ls i).fo++x}else lf ls i
 | [],ls,_,_,i=>by simp[jY]
 |k::b,ls,hn,hk,i=>by
  rw[List.nodup_cons]at hn
  have h1:=Dk x b (ls:=ls.set k {lf ls k with fo:=(lf ls k).fo++x}) hn.2 (fun j hj=>by rw[eD];exact hk j (by simp[hj])) i
  show lf (jY (ls.set k _) b x) i=_
  rw[h1,Ba (hk k (by simp))]
  by_cases e:i=k
  ·subst e
   rw[az hn.1,aO F,aO (by simp)]
  ·rw[az e]
   by_cases e2:i∈b
   ·rw[aO e2,aO (by simp[e2])]
   ·rw[az e2,az (by simp[e,e2])]
theorem Dl: ∀(la:List Nat) {ls:List Lf},(∀k∈la,k<ls.length)→ ∀i,lf (my ls la) i=if i∈la then {lf ls i with la:=true}else lf ls i
 | [],ls,_,i=>by simp[my]
 |k::b,ls,hk,i=>by
  have h1:=Dl b (ls:=ls.set k {lf ls k with la:=true}) (fun j hj=>by rw[eD];exact hk j (by simp[hj])) i
  show lf (my (ls.set k _) b) i=_
  rw[h1,Ba (hk k (by simp))]
  by_cases e:i=k
  ·subst e
   rw[aO F,aO (show i∈i::b by simp)]
   split<;>rfl
  ·rw[az e]
   by_cases e2:i∈b
   ·rw[aO e2,aO (by simp[e2])]
   ·rw[az e2,az (by simp[e,e2])]
def Bi (v:Nat) (LS:List Lf):Rx→Nat→List Nat→Bool→Prop
 | .gZ a b,n,E,l=>Bi v LS a n (Ik b (n+a.lv)) false∧Bi v LS b (n+a.lv) E l
 | .iv a b,n,E,l=>Bi v LS a n E l∧Bi v LS b (n+a.lv) E l
 |t,n,E,l=>n<LS.length∧(lf LS n).op=(j3 v t).op∧(lf LS n).d=(j3 v t).d∧(lf LS n).fo=E∧(lf LS n).la=l
def Rx.leaf:Rx→Bool
 | .gZ _ _| .iv _ _=>false
 |_=>true
theorem tN {v:Nat} {LS:List Lf} {n:Nat} {E:List Nat} {l:Bool}: ∀ {t:Rx},t.leaf=true→(Bi v LS t n E l↔n<LS.length∧(lf LS n).op=(j3 v t).op∧(lf LS n).d=(j3 v t).d∧(lf LS n).fo=E∧(lf LS n).la=l)
 | .gZ _ _,h=>by cases h
 | .iv _ _,h=>by cases h
 | .none,_| .empty,_| .letter _ _,_| .and _ _,_| .not _,_| .star _,_| .ahead _,_| .behind _,_=>Iff.rfl
theorem GF {t:Rx} (h:t.leaf=true) (n:Nat):Ik t n=[n]∧Dj t n=[n]∧t.lv=1:=by
 cases t<;>first|(cases h;done)|exact⟨F,F,F⟩
theorem LW {t:Rx} (h:t.leaf=true) (v:Nat) (ls:List Lf):(aR v t ls).ls=ls++[j3 v t]∧(j3 v t).fo=[]∧(j3 v t).la=false:=by
 cases t<;>first|(cases h;done)|exact⟨F,F,F⟩
theorem GG {v:Nat} {LS M8:List Lf} (hl:M8.length=LS.length) (G:Lf→Lf) (h1: ∀q,(G q).op=q.op∧(G q).d=q.d) {E E':List Nat} {l l':Bool} (h2: ∀q,q.fo=E→q.la=l→(G q).fo=E'∧(G q).la=l'): ∀(t:Rx) (n:Nat),(∀i,n≤i→i<n+t.lv→lf M8 i=if i∈Dj t n then G (lf LS i)else lf LS i)→Bi v LS t n E l→Bi v M8 t n E' l':=by
 have aap: ∀(t:Rx) (n:Nat) (E:List Nat) (l:Bool),(∀i,n≤i→i<n+t.lv→lf M8 i=lf LS i)→Bi v LS t n E l→Bi v M8 t n E l:=by
  intro t
  induction t with
  |gZ a b jl lS=>
   intro n E l h hi
   exact⟨jl _ _ _ (fun i h3 h4=>h i h3 (by show i<n+(a.lv+b.lv);omega)) hi.1,lS _ _ _ (fun i h3 h4=>h i (by omega) (by show i<n+(a.lv+b.lv);omega)) hi.2⟩
  |iv a b jl lS=>
   intro n E l h hi
   exact⟨jl _ _ _ (fun i h3 h4=>h i h3 (by show i<n+(a.lv+b.lv);omega)) hi.1,lS _ _ _ (fun i h3 h4=>h i (by omega) (by show i<n+(a.lv+b.lv);omega)) hi.2⟩
  |none|empty|letter|and|not|star|ahead|behind=>
   intro n E l h hi
   obtain⟨k1,k2,k3,k4,k5⟩:=hi
   have e:=h n (bF _) (Nat.lt_succ_self _)
   exact⟨by omega,by rw[e];exact k2,by rw[e];exact k3,by rw[e];exact k4,by rw[e];exact k5⟩
 intro t
 induction t with
 |gZ a b jl lS=>
  intro n h hi
  refine⟨aap a n _ _ (fun i h3 h4=>?_) hi.1,lS _ (fun i h3 h4=>h i (by omega) (by show i<n+(a.lv+b.lv);omega)) hi.2⟩
  have h5:=h i h3 (by show i<n+(a.lv+b.lv);omega)
  rwa[az (fun hm=>by have:=mw b (n+a.lv) i hm;omega)]at h5
 |iv a b jl lS=>
  intro n h hi
  refine⟨jl n (fun i h3 h4=>?_) hi.1,lS _ (fun i h3 h4=>?_) hi.2⟩
  ·have h5:=h i h3 (by show i<n+(a.lv+b.lv);omega)
   have e:i∈Dj (.iv a b) n↔i∈Dj a n:=by
    show i∈Dj a n++Dj b (n+a.lv)↔_
    rw[gR]
    exact⟨fun h=>h.elim id fun hm=>by have:=mw b (n+a.lv) i hm;omega,.inl⟩
   simp only[e]at h5;exact h5
  ·have h5:=h i (by omega) (by show i<n+(a.lv+b.lv);omega)
   have e:i∈Dj (.iv a b) n↔i∈Dj b (n+a.lv):=by
    show i∈Dj a n++Dj b (n+a.lv)↔_
    rw[gR]
    exact⟨fun h=>h.elim (fun hm=>by have:=mw a n i hm;omega) id,.inr⟩
   simp only[e]at h5;exact h5
 |none|empty|letter|and|not|star|ahead|behind=>
  intro n h hi
  obtain⟨k1,k2,k3,k4,k5⟩:=hi
  have e:lf M8 n=G (lf LS n):=(h n (bF _) (Nat.lt_succ_self _)).trans (aO (List.mem_singleton.2 F))
  have h3:=h1 (lf LS n)
  have h4:=h2 _ k4 k5
  exact⟨by omega,by rw[e,h3.1];exact k2,by rw[e,h3.2];exact k3,by rw[e];exact h4.1,by rw[e];exact h4.2⟩
theorem xZ {v:Nat} {LS M8:List Lf} {t:Rx} {n:Nat} {E:List Nat} {l:Bool} (hl:LS.length≤M8.length) (h: ∀i,n≤i→i<n+t.lv→lf M8 i=lf LS i) (hi:Bi v LS t n E l):Bi v M8 t n E l:=by
 induction t generalizing n E l with
 |gZ a b jl lS=>exact⟨jl (fun i h3 h4=>h i h3 (by show i<n+(a.lv+b.lv);omega)) hi.1,lS (fun i h3 h4=>h i (by omega) (by show i<n+(a.lv+b.lv);omega)) hi.2⟩
 |iv a b jl lS=>exact⟨jl (fun i h3 h4=>h i h3 (by show i<n+(a.lv+b.lv);omega)) hi.1,lS (fun i h3 h4=>h i (by omega) (by show i<n+(a.lv+b.lv);omega)) hi.2⟩
 |none|empty|letter|and|not|star|ahead|behind=>
  obtain⟨k1,k2,k3,k4,k5⟩:=hi
  have e:=h n (bF _) (Nat.lt_succ_self _)
  exact⟨by omega,by rw[e];exact k2,by rw[e];exact k3,by rw[e];exact k4,by rw[e];exact k5⟩
theorem Il (v:Nat): ∀(t:Rx) (ls:List Lf),Bi v (aR v t ls).ls t ls.length [] false∧ ∀k,k<ls.length→lf (aR v t ls).ls k=lf ls k:=by
 have leaf: ∀(t:Rx) (ls:List Lf),t.leaf=true→Bi v (aR v t ls).ls t ls.length [] false∧ ∀k,k<ls.length→lf (aR v t ls).ls k=lf ls k:=fun t ls h=>by
  obtain⟨h1,h2,h3⟩:=LW h v ls
  have e:lf (ls++[j3 v t]) ls.length=j3 v t:=by unfold lf;rw[av,bT (bF _),fR];rfl
  rw[h1,tN h,e]
  exact⟨⟨by simp,F,F,h2,h3⟩,fun k hk=>by unfold lf;rw[av,bH hk,←av]⟩
 intro t
 induction t with
 |gZ a b jl lS=>
  intro ls
  obtain⟨a1,a2⟩:=jl ls
  obtain⟨b1,b2⟩:=lS (aR v a ls).ls
  have f1:=nv v a ls
  have f2:=nv v b (aR v a ls).ls
  have l1:=dY v a ls
  have l2:=dY v b (aR v a ls).ls
  have hp:=E5 b
  have mu:=Dk (aR v b (aR v a ls).ls).fi (aR v a ls).la (ls:=(aR v b (aR v a ls).ls).ls) (by rw[f1.2];exact rA a _) (fun k hk=>by rw[f1.2]at hk;have:=mw a _ k hk;omega)
  have iA:(jY (aR v b (aR v a ls).ls).ls (aR v a ls).la (aR v b (aR v a ls).ls).fi).length=(aR v b (aR v a ls).ls).ls.length:=ri _ _ _
  rw[l1]at f2 b1 b2
  refine⟨⟨?_,?_⟩,fun k hk=>?_⟩
  ·rw[←f2.1]
   refine GG iA (fun q=> {q with fo:=q.fo++(aR v b (aR v a ls).ls).fi}) (fun q=>⟨F,F⟩) (E:=[]) (l:=false) (fun q h3 h4=>⟨by show q.fo++_=_;rw[h3];rfl,h4⟩) a ls.length (fun i h3 h4=>by rw[mu i,f1.2]) ?_
   exact xZ (by omega) (fun i h3 h4=>b2 i (by omega)) a1
  ·refine xZ (Nat.le_of_eq iA.symm) (fun i h3 h4=>?_) b1
   refine(mu i).trans (az ?_)
   intro hm;rw[f1.2]at hm;have:=mw a _ i hm;omega
  ·show lf (jY _ _ _) k=_
   rw[mu k,az (fun hm=>by rw[f1.2]at hm;have:=mw a _ k hm;omega),b2 k (by omega),a2 k hk]
 |iv a b jl lS=>
  intro ls
  obtain⟨a1,a2⟩:=jl ls
  obtain⟨b1,b2⟩:=lS (aR v a ls).ls
  have l1:=dY v a ls
  have l2:=dY v b (aR v a ls).ls
  rw[l1]at b1 b2
  exact⟨⟨xZ (by show _≤(aR v b _).ls.length;omega) (fun i h3 h4=>b2 i (by omega)) a1,b1⟩,fun k hk=>by show lf (aR v b _).ls k=_;rw[b2 k (by omega),a2 k hk]⟩
 |none=>exact fun ls=>leaf .none ls F
 |empty=>exact fun ls=>leaf .empty ls F
 |letter p n=>exact fun ls=>leaf (.letter p n) ls F
 |and a b _ _=>exact fun ls=>leaf (.and a b) ls F
 |not a _=>exact fun ls=>leaf (.not a) ls F
 |star a _=>exact fun ls=>leaf (.star a) ls F
 |ahead a _=>exact fun ls=>leaf (.ahead a) ls F
 |behind a _=>exact fun ls=>leaf (.behind a) ls F
theorem GH (v:Nat) (t:Rx):Bi v (mr v t) t 0 [] true∧HN v t=Ik t 0:=by
 obtain⟨h1,_⟩:=Il v t []
 obtain⟨h2,h3⟩:=nv v t []
 refine⟨?_,h2⟩
 refine GG (LS:=(aR v t []).ls) (rk _ _) (fun q=> {q with la:=true}) (fun q=>⟨F,F⟩) (E:=[]) (l:=false) (fun q h4 h5=>⟨h4,F⟩) t 0 (fun i h4 h5=>?_) h1
 show lf (my _ _) i=_
 rw[Dl _ (fun k hk=>by rw[h3]at hk;have:=mw t _ k hk;rw[dY];simpa using this.2),h3]
 rfl
end Go.Lx

namespace Go.Lx
open Go.RowKit
def sH (w:List Nat):Rx→Nat→Nat→Bool
 | .gZ a b,i,j=>(List.range (w.length+1)).any fun k=>sH w a i k&&sH w b k j
 | .iv a b,i,j=>sH w a i j||sH w b i j
 | .ahead a,i,j=>decide (i=j∧i≤w.length)&&je (gB a) (fun _=>true) (w.drop i)
 | .behind a,i,j=>decide (i=j∧i≤w.length)&&je (fun _=>true) (gB a) (w.take i)
 |t,i,j=>decide (i≤j∧j≤w.length)&&gB t ((w.drop i).take (j-i))
def Q2:Rx→Lg
 | .ahead a=>je (gB a) (fun _=>true)
 | .behind a=>je (fun _=>true) (gB a)
 |t=>gB t
theorem zY {v B:Nat} (hv:v≤6) (hB:B≤4096): ∀ {t:Rx},t.leaf=true→t.wf=true→okB v t B→fM (v:Int) B (j3 v t).d (Q2 t)
 | .none,_,hw,h=>ek hv hB (t:=.none) hw h
 | .empty,_,hw,h=>ek hv hB (t:=.empty) hw h
 | .letter p n,_,hw,h=>ek hv hB (t:=.letter p n) hw h
 | .and a b,_,hw,h=>ek hv hB (t:=.and a b) hw h
 | .not a,_,hw,h=>ek hv hB (t:=.not a) hw h
 | .star a,_,hw,h=>ek hv hB (t:=.star a) hw h
 | .gZ a b,hl,_,_=>by cases hl
 | .iv a b,hl,_,_=>by cases hl
 | .ahead a,_,hw,h=>lg hv hB (ek hv hB (t:=a) hw h.1).toHasL (fN hv) h.2
 | .behind a,_,hw,h=>lg hv hB (fN hv) (ek hv hB (t:=a) hw h.1).toHasL h.2
theorem LX (ls:List Lf) (bh u:List Nat) (x:Nat):Ig ls bh (u++[x])=jv ls (Ig ls bh u) x:=by unfold Ig;rw[cO];rfl
theorem GI (ls:List Lf) (bh u v:List Nat):Ig ls bh (u++v)=Ig ls (Ig ls bh u) v:=by unfold Ig;rw[cO]
theorem TU {ls:List Lf} {k:Nat} (hk:k<ls.length) (EO:(lf ls k).op=10): ∀u,(Ig ls (ls.map fun l=>l.d.start.toNat) u).getD k 0=runN (lf ls k).d (lf ls k).d.start.toNat u:=by
 apply xS
 ·show(ls.map fun l=>l.d.start.toNat).getD k 0=(lf ls k).d.start.toNat
  rw[av,bq,ap hk,uC hk];rfl
 ·intro u x ih
  rw[LX,fG,←ih]
  unfold jv
  rw[av,bq,List.getElem?_range hk]
  show(if(lf ls k).op=10 then _ else 0)=_
  rw[aO EO]
theorem Dm {p:Lg} {u v:List Nat} (h:je p (fun _=>true) u=true):je p (fun _=>true) (u++v)=true:=by
 rw[i_]at h⊢
 obtain⟨x,y,rfl,hx,_⟩:=h
 exact⟨x,y++v,by rw[aI],hx,F⟩
section
variable {v B:Nat} {LS:List Lf} {w:List Nat}
def yt (LS:List Lf) (w:List Nat) (i:Nat):List Nat:=Ig LS (LS.map fun l=>l.d.start.toNat) (w.take i)
theorem sI {d:cU} {p:Lg} (h:fM (v:Int) B d p) {u:List Nat} (hu:kO (v:Int) u):dr d (runN d d.start.toNat u)=p u:=h.iM u hu
theorem Dn (hv:v≤6) (hB:B≤4096) (hw:kO (v:Int) w) {t:Rx} {n:Nat} {E:List Nat} {l:Bool} (hl:t.leaf=true) (hi:Bi v LS t n E l) (kR:t.wf=true) (ho:okB v t B) {i:Nat} (IX:i≤w.length):
  Way LS () true (yt LS w i) n (w.drop i)↔ ∃j,j≤w.length∧sH w t i j=true∧Way LS () false (yt LS w j) n (w.drop j):=by
 obtain⟨k1,k2,k3,_,_⟩:=(tN hl).1 hi
 have hL:=zY hv hB hl kR ho
 rw[←k3]at hL
 have key: ∀(H2:(lf LS n).op=0) (hp:Q2 t=gB t) (hm: ∀j,sH w t i j=(decide (i≤j∧j≤w.length)&&gB t ((w.drop i).take (j-i)))),Way LS () true (yt LS w i) n (w.drop i)↔ ∃j,j≤w.length∧sH w t i j=true∧Way LS () false (yt LS w j) n (w.drop j):=by
  intro H2 hp hm
  constructor
  ·intro h
   generalize hd:w.drop i=z at h
   cases h with
   |ahead h1=>omega
   |behind h1=>omega
   | @plain _ _ u v2 h1 h2 h3 h4=>
    have iA:u.length+v2.length=w.length-i:=by have:=ax List.length hd;rw[List.length_drop,aw]at this;omega
    have hu:kO (v:Int) u:=fun x hx=>hw x (List.mem_of_mem_drop (show x∈w.drop i by rw[hd];simp[hx]))
    refine⟨i+u.length,by omega,?_,?_⟩
    ·rw[hm,aJ,cD]
     refine⟨by omega,?_⟩
     rw[show i+u.length-i=u.length by omega,hd,List.take_left,←hp,←sI hL hu]
     exact h3
    ·have e1:w.drop (i+u.length)=v2:=by rw[←List.drop_drop,hd,List.drop_left]
     have e2:yt LS w (i+u.length)=Ig LS (yt LS w i) u:=by
      unfold yt
      rw[List.take_add,hd,List.take_left,GI]
     rw[e1,e2];exact h4
  ·rintro⟨j,h1,h2,h3⟩
   rw[hm,aJ,cD]at h2
   obtain⟨⟨h4,h5⟩,h6⟩:=h2
   have hu:kO (v:Int) ((w.drop i).take (j-i)):=fun x hx=>hw x (List.mem_of_mem_drop (List.mem_of_mem_take hx))
   have e1:w.drop i=(w.drop i).take (j-i)++w.drop j:=by
    have:=(List.take_append_drop (j-i) (w.drop i)).symm
    rwa[List.drop_drop,show i+(j-i)=j by omega]at this
   have e2:yt LS w j=Ig LS (yt LS w i) ((w.drop i).take (j-i)):=by
    unfold yt
    rw[←GI,←List.take_add,show i+(j-i)=j by omega]
   rw[e2]at h3
   rw[e1]
   refine Way.plain (by omega) (by omega) ?_ h3
   rw[sI hL hu,hp];exact h6
 cases t with
 |gZ a b=>cases hl
 |iv a b=>cases hl
 |none=>exact key k2 F fun _=>rfl
 |empty=>exact key k2 F fun _=>rfl
 |letter p n=>exact key k2 F fun _=>rfl
 |and a b=>exact key k2 F fun _=>rfl
 |not a=>exact key k2 F fun _=>rfl
 |star a=>exact key k2 F fun _=>rfl
 |ahead a=>
  have k2:(lf LS n).op=9:=k2
  have hd:kO (v:Int) (w.drop i):=fun x hx=>hw x (List.mem_of_mem_drop hx)
  constructor
  ·intro h
   have g: ∀z,z=w.drop i→Way LS () true (yt LS w i) n z→dr (lf LS n).d (runN (lf LS n).d (lf LS n).d.start.toNat z)=true∧Way LS () false (yt LS w i) n z:=by
    intro z _ h
    cases h with
    |ahead h1 h2 h3=>exact⟨h2,h3⟩
    |behind h1=>omega
    |plain h1=>exact absurd k2 h1
   obtain⟨h2,h3⟩:=g _ F h
   refine⟨i,IX,?_,h3⟩
   show(decide (i=i∧i≤w.length)&&_)=true
   rw[ay ⟨F,IX⟩,Bool.true_and]
   rw[sI hL hd]at h2;exact h2
  ·rintro⟨j,h1,h2,h3⟩
   have h2:(decide (i=j∧i≤w.length)&&je (gB a) (fun _=>true) (w.drop i))=true:=h2
   rw[aJ,cD]at h2
   obtain⟨⟨rfl,_⟩,h5⟩:=h2
   refine .ahead k2 ?_ h3
   rw[sI hL hd];exact h5
 |behind a=>
  have k2:(lf LS n).op=10:=k2
  have hd:kO (v:Int) (w.take i):=fun x hx=>hw x (List.mem_of_mem_take hx)
  have hb:dr (lf LS n).d ((yt LS w i).getD n 0)=je (fun _=>true) (gB a) (w.take i):=by
   unfold yt
   rw[TU k1 k2,sI hL hd];rfl
  constructor
  ·intro h
   have g: ∀z,z=w.drop i→Way LS () true (yt LS w i) n z→dr (lf LS n).d ((yt LS w i).getD n 0)=true∧Way LS () false (yt LS w i) n z:=by
    intro z _ h
    cases h with
    |ahead h1=>omega
    |behind h1 h2 h3=>exact⟨h2,h3⟩
    |plain _ h1=>exact absurd k2 h1
   obtain⟨h2,h3⟩:=g _ F h
   refine⟨i,IX,?_,h3⟩
   show(decide (i=i∧i≤w.length)&&_)=true
   rw[ay ⟨F,IX⟩,Bool.true_and]
   rw[hb]at h2;exact h2
  ·rintro⟨j,h1,h2,h3⟩
   have h2:(decide (i=j∧i≤w.length)&&je (fun _=>true) (gB a) (w.take i))=true:=h2
   rw[aJ,cD]at h2
   obtain⟨⟨rfl,_⟩,h5⟩:=h2
   exact .behind k2 (by rw[hb];exact h5) h3
def LY (LS:List Lf) (w:List Nat) (E:List Nat) (l:Bool) (j:Nat):Prop:=(l=true∧w.drop j=[])∨ ∃k,k∈E∧Way LS () true (yt LS w j) k (w.drop j)
theorem Im (hv:v≤6) (hB:B≤4096) (hw:kO (v:Int) w): ∀(t:Rx) {n:Nat} {E:List Nat} {l:Bool},Bi v LS t n E l→t.wf=true→okB v t B→ ∀i,i≤w.length→
  ((∃k,k∈Ik t n∧Way LS () true (yt LS w i) k (w.drop i))↔ ∃j,j≤w.length∧sH w t i j=true∧LY LS w E l j):=by
 have leaf: ∀(t:Rx),t.leaf=true→ ∀ {n:Nat} {E:List Nat} {l:Bool},Bi v LS t n E l→t.wf=true→okB v t B→ ∀i,i≤w.length→
  ((∃k,k∈Ik t n∧Way LS () true (yt LS w i) k (w.drop i))↔ ∃j,j≤w.length∧sH w t i j=true∧LY LS w E l j):=by
  intro t hl n E l hi kR ho i IX
  obtain⟨k1,k2,k3,k4,k5⟩:=(tN hl).1 hi
  rw[(GF hl n).1]
  have e: ∀j,Way LS () false (yt LS w j) n (w.drop j)↔LY LS w E l j:=fun j=>by rw[zX,k4,k5];exact Iff.rfl
  constructor
  ·rintro⟨k,hk,h⟩
   rw[List.mem_singleton.1 hk]at h
   obtain⟨j,h1,h2,h3⟩:=(Dn hv hB hw hl hi kR ho IX).1 h
   exact⟨j,h1,h2,(e j).1 h3⟩
  ·rintro⟨j,h1,h2,h3⟩
   exact⟨n,List.mem_singleton.2 F,(Dn hv hB hw hl hi kR ho IX).2 ⟨j,h1,h2,(e j).2 h3⟩⟩
 intro t
 induction t with
 |gZ a b jl lS=>
  intro n E l hi kR ho i IX
  simp only[Rx.wf,aJ]at kR
  have e: ∀j,j≤w.length→(LY LS w (Ik b (n+a.lv)) false j↔ ∃j2,j2≤w.length∧sH w b j j2=true∧LY LS w E l j2):=fun j hj=>by
   rw[←lS hi.2 kR.2 ho.2 j hj]
   exact⟨fun h=>h.elim (fun h=>by cases h.1) id,.inr⟩
  show(∃k,k∈Ik a n∧_)↔_
  rw[jl hi.1 kR.1 ho.1 i IX]
  constructor
  ·rintro⟨j,h1,h2,h3⟩
   obtain⟨j2,h4,h5,h6⟩:=(e j h1).1 h3
   refine⟨j2,h4,?_,h6⟩
   show((List.range (w.length+1)).any fun k=>sH w a i k&&sH w b k j2)=true
   rw[dc]
   exact⟨j,List.mem_range.2 (by omega),by rw[h2,h5];rfl⟩
  ·rintro⟨j2,h4,h5,h6⟩
   have h5:((List.range (w.length+1)).any fun k=>sH w a i k&&sH w b k j2)=true:=h5
   rw[dc]at h5
   obtain⟨j,h1,h2⟩:=h5
   rw[aJ]at h2
   have:=List.mem_range.1 h1
   exact⟨j,by omega,h2.1,(e j (by omega)).2 ⟨j2,h4,h2.2,h6⟩⟩
 |iv a b jl lS=>
  intro n E l hi kR ho i IX
  simp only[Rx.wf,aJ]at kR
  have h1:=jl hi.1 kR.1 ho.1 i IX
  have h2:=lS hi.2 kR.2 ho.2 i IX
  show(∃k,k∈Ik a n++Ik b (n+a.lv)∧_)↔_
  rw[LR,h1,h2]
  constructor
  ·rintro(⟨j,h3,h4,h5⟩|⟨j,h3,h4,h5⟩)
   ·exact⟨j,h3,by show(sH w a i j||sH w b i j)=true;rw[h4];rfl,h5⟩
   ·exact⟨j,h3,by show(sH w a i j||sH w b i j)=true;rw[h4,Bool.or_true],h5⟩
  ·rintro⟨j,h3,h4,h5⟩
   have h4:(sH w a i j||sH w b i j)=true:=h4
   rw[Bool.or_eq_true]at h4
   exact h4.elim (fun h=>.inl ⟨j,h3,h,h5⟩) fun h=>.inr ⟨j,h3,h,h5⟩
 |none=>exact fun hi kR ho=>leaf .none F hi kR ho
 |empty=>exact fun hi kR ho=>leaf .empty F hi kR ho
 |letter p n=>exact fun hi kR ho=>leaf (.letter p n) F hi kR ho
 |and a b _ _=>exact fun hi kR ho=>leaf (.and a b) F hi kR ho
 |not a _=>exact fun hi kR ho=>leaf (.not a) F hi kR ho
 |star a _=>exact fun hi kR ho=>leaf (.star a) F hi kR ho
 |ahead a _=>exact fun hi kR ho=>leaf (.ahead a) F hi kR ho
 |behind a _=>exact fun hi kR ho=>leaf (.behind a) F hi kR ho
end
theorem O6 {v B:Nat} (hv:v≤6) (hB:B≤4096) {LS:List Lf}: ∀(t:Rx) {n:Nat} {E:List Nat} {l:Bool},Bi v LS t n E l→t.wf=true→okB v t B→ ∀k,n≤k→k<n+t.lv→(lf LS k).op=9→ ∃p,fM (v:Int) B (lf LS k).d (je p fun _=>true):=by
 have leaf: ∀(t:Rx),t.leaf=true→ ∀ {n:Nat} {E:List Nat} {l:Bool},Bi v LS t n E l→t.wf=true→okB v t B→ ∀k,n≤k→k<n+t.lv→(lf LS k).op=9→ ∃p,fM (v:Int) B (lf LS k).d (je p fun _=>true):=by
  intro t hl n E l hi kR ho k h1 h2 h9
  obtain⟨_,k2,k3,_,_⟩:=(tN hl).1 hi
  rw[(GF hl n).2.2]at h2
  have:k=n:=by omega
  subst this
  have hL:=zY hv hB hl kR ho
  rw[k2]at h9
  rw[k3]
  cases t<;>first|(exact⟨_,hL⟩;done)|(cases h9;done)|(cases hl;done)
 intro t
 induction t with
 |gZ a b jl lS=>
  intro n E l hi kR ho k h1 h2 h9
  simp only[Rx.wf,aJ]at kR
  have h2:k<n+(a.lv+b.lv):=h2
  rcases Nat.lt_or_ge k (n+a.lv)with c|c
  ·exact jl hi.1 kR.1 ho.1 k h1 c h9
  ·exact lS hi.2 kR.2 ho.2 k c (by omega) h9
 |iv a b jl lS=>
  intro n E l hi kR ho k h1 h2 h9
  simp only[Rx.wf,aJ]at kR
  have h2:k<n+(a.lv+b.lv):=h2
  rcases Nat.lt_or_ge k (n+a.lv)with c|c
  ·exact jl hi.1 kR.1 ho.1 k h1 c h9
  ·exact lS hi.2 kR.2 ho.2 k c (by omega) h9
 |none=>exact fun hi kR ho=>leaf .none F hi kR ho
 |empty=>exact fun hi kR ho=>leaf .empty F hi kR ho
 |letter p n=>exact fun hi kR ho=>leaf (.letter p n) F hi kR ho
 |and a b _ _=>exact fun hi kR ho=>leaf (.and a b) F hi kR ho
 |not a _=>exact fun hi kR ho=>leaf (.not a) F hi kR ho
 |star a _=>exact fun hi kR ho=>leaf (.star a) F hi kR ho
 |ahead a _=>exact fun hi kR ho=>leaf (.ahead a) F hi kR ho
 |behind a _=>exact fun hi kR ho=>leaf (.behind a) F hi kR ho
theorem O7 {v B:Nat} (hv:v≤6) (hB:B≤4096) {t:Rx} (kR:t.wf=true) (ho:okB v t B):Bh (mr v t) v:=fun k hk h9 u z hu hz h=>by
 obtain⟨p,hp⟩:=O6 hv hB t (GH v t).1 kR ho k (bn _) (by rw[xN]at hk;omega) h9
 have h2:kO (v:Int) (u++z):=fun x hx=>(List.mem_append.1 hx).elim (hu x) (hz x)
 rw[sI hp hu]at h
 rw[sI hp h2]
 exact Dm h
theorem TV {v B:Nat} (hv:v≤6) (hB:B≤4096) {t:Rx} (kR:t.wf=true) (IV:t.lv≤12) (ho:okB v t B) {w:List Nat} (hw:kO (v:Int) w):Ut v t w=sH w t 0 w.length:=by
 have hG:=Ek hv hB kR IV ho
 obtain⟨h1,h2⟩:=GH v t
 rw[eo]
 unfold Ut
 rw[Di hG (O7 hv hB kR ho) A4 hw,h2]
 have h3:=Im (LS:=mr v t) hv hB hw t h1 kR ho 0 (bn _)
 unfold yt at h3
 rw[List.take_zero,List.drop_zero]at h3
 refine Iff.trans h3 ?_
 constructor
 ·rintro⟨j,h4,h5,⟨_,h6⟩|⟨k,h6,_⟩⟩
  ·have:=List.drop_eq_nil_iff.1 h6
   have:j=w.length:=by omega
   subst this;exact h5
  ·simp at h6
 ·exact fun h=>⟨w.length,bF _,h,.inl ⟨F,by simp⟩⟩
end Go.Lx

namespace Go.Proofs.YtgdbfideeeegmaaGreatDoor
open Go.Lx Go.RowKit _root_.Go.Proofs.Tryz
theorem ZY (w:World) [dE Tryz.prog w] (p n x:Nat) (hp:p<256) (hn:n<256) (hx:x<256):
  cH Tryz.prog 140 [.agg #[v8 p,v8 n],v8 x] w fun v N=>v=.bool (gO p n x)∧N=[]:=by
 refine aF func140 F ntmps140 F ?_
 refine ai (ao F (dG (cs:=[v8 p,v8 n]) F F (fun nY=>?_)))
 refine aj F (ae (ai (ah F (ad (a_ ld F du F F) (ad (bi 0 fA F F F F) (ad (FD (a:=x) (b:=p) .u8 F F (by show _<256;omega) (by show _<256;omega)) (ad (a_ ld F du F F) (ad (bi 0 fA F F F F) (ad (bJ F F) ?_)))))))))
 by_cases Wu:((x&&&p:Nat):Int)=((p:Nat):Int)
 ·refine ad (aB (aN F) (ay Wu)) ?_
  refine aG F F (aN F) (aG F F (a_ ld F du F F) (aG F F (bi 0 fA F F F F) (aG F F (FD (a:=x) (b:=n) .u8 F F (by show _<256;omega) (by show _<256;omega)) (aG F F (bJ F F) (ad (cA F F) (aj F (ae (aK (aA ?_)))))))))
  refine aS (.bool (decide (((x&&&n:Nat):Int)=0))) Tryz.results140 F ?_
  exact⟨[],cj (cq _),ax Value.bool (Eq.symm (decide_eq_decide.2 (by omega))),F⟩
 refine ad (aB (aN F) (ak Wu)) (aV F F (aV F F (aV F F (aV F F (aV F F (ad (cg F F) (aj F (ae (aK (aA ?_))))))))))
 refine aS (.bool false) Tryz.results140 F ?_
 exact⟨[],cj (cq _),ax Value.bool (Eq.symm (ak (fun hm=>by omega))),F⟩
theorem CJ (A B X:List Lx.Item) (c:Lx.Item) (h:Sub (A++[c]) B):Sub (A++(X++[c])) (B++X):=by
 have:=qE A B X [] c h
 simpa using this
theorem ZZ (w:World) [dE Tryz.prog w] (cb:Nat) (eb:Option Addr) (en ec vs B:Nat) (eV:Sl w (aD cb) [.slice eb en ec,vI (vs:Int),vI (B:Int)]) (gv:vs≤6):
  cH Tryz.prog 103 [(dW (aD cb) 0)] w fun v N=> ∃nb nc fb fc qs,v=.agg (fw (fJ (vs:Int) true) nb nc fb fc).toArray∧N=[aq nb nc 56 1 (dm qs),aq fb fc 4 1 (cG (fJ (vs:Int) true).aY)]++cd 3 qs∧nums qs=(fJ (vs:Int) true).next:=by
 refine aF func103 F ntmps103 F ?_
 obtain⟨L,hL⟩: ∃L,2^vs=L:=⟨_,F⟩
 have Sj:L≤64:=by rw[←hL];exact cF (by decide) gv
 refine ai (ao F (bs bL F (fun nY=>?_)))
 refine ae ?_
 refine gz (fun ρ O=> ∃(zA zB zC:Nat),O=[aq (aD zA) L 3 1 (List.replicate L (vI 0)),aq (aD zB) 1 56 1 [(.slice (aD zA) L L)],aq (aD zC) 1 4 1 [.bool true],oI nY 25 [vI ((vs:Nat):Int),(vI 0),(.slice (aD zB) 1 1),(.slice (aD zC) 1 1)]]∧dv [(0,(dW (aD cb) 0)),(2,(.pointer (aD nY)))] ρ) ?_ ?_
 ·refine oe [] 14 mixed F (by exact Sub.z) (fun _ _ _ _ h=>h) ?_
  refine cB 0 F (by kernel_rfl) (aN F) ?_
  refine cB 1 F (by kernel_rfl) (a8 F) ?_
  refine cB 2 F (by kernel_rfl) (cy lx F bj F F (aL eV) (by first|omega|(simp;done)|(simp;omega)|(simp_all;done)|(simp_all;omega))) ?_
  refine cB 3 F (by kernel_rfl) (de dP F F (aL eV) F) ?_
  refine cB 4 F (by kernel_rfl) (aN F) ?_
  refine cB 5 F (by kernel_rfl) (a8 F) ?_
  refine cB 6 F (by kernel_rfl) (cy lx F bj F F (aL eV) (by first|omega|(simp;done)|(simp;omega)|(simp_all;done)|(simp_all;omega))) ?_
  refine cB 7 F (by kernel_rfl) (de dP F F (aL eV) F) ?_
  refine cB 8 F (by kernel_rfl) (bK (nU (v:=vs) F F (by omega)) (v':=vI ((L:Nat):Int)) (by rw[hL])) ?_
  refine bg [9,11] (by kernel_rfl) F ⟨⟨_,F,F,cY (m:=L) cL bj F F (by omega) (by omega) (fun zA=>⟨by exact Sub.z,?_⟩)⟩,⟨_,F,F,cN (v:=.bool true) eB fx F F F (fun zC=>⟨by exact Sub.z,?_⟩)⟩,trivial⟩
  ·refine bg [10,11] (by kernel_rfl) F ⟨⟨_,F,F,cN (v:=(.slice (aD zA) L L)) e_ cV F F F (fun zB=>⟨by exact Sub.z,?_⟩)⟩,⟨_,F,F,cN (v:=.bool true) eB fx F F F (fun zC=>⟨by exact Sub.z,?_⟩)⟩,trivial⟩
   ·refine bg [11] (by kernel_rfl) F ⟨⟨_,F,F,cN (v:=.bool true) eB fx F F F (fun zC=>⟨by exact Sub.z,?_⟩)⟩,trivial⟩
    refine cB 12 F (by kernel_rfl) (cE (cs:=[vI ((vs:Nat):Int),(vI 0),(.slice (aD zB) 1 1),(.slice (aD zC) 1 1)]) jp bL (by kernel_rfl)) ?_
    refine bg [13] (by kernel_rfl) F ⟨⟨_,F,F,bN (vs:=[vI ((vs:Nat):Int),(vI 0),(.slice (aD zB) 1 1),(.slice (aD zC) 1 1)]) 3 bL F F F F ⟨by exact Sub.z,?_⟩⟩,trivial⟩
    exact dw (by kernel_rfl) ⟨zA,zB,zC,F,⟨F,F,trivial⟩⟩ (by exact Sub.ew [aq (aD zC) 1 4 1 [.bool true],aq (aD zB) 1 56 1 [(.slice (aD zA) L L)]] _ (.ew [aq (aD zC) 1 4 1 [.bool true]] _ (.k (.k .z))))
   refine bg [10] (by kernel_rfl) F ⟨⟨_,F,F,cN (v:=(.slice (aD zA) L L)) e_ cV F F F (fun zB=>⟨by exact Sub.z,?_⟩)⟩,trivial⟩
   refine cB 12 F (by kernel_rfl) (cE (cs:=[vI ((vs:Nat):Int),(vI 0),(.slice (aD zB) 1 1),(.slice (aD zC) 1 1)]) jp bL (by kernel_rfl)) ?_
   refine bg [13] (by kernel_rfl) F ⟨⟨_,F,F,bN (vs:=[vI ((vs:Nat):Int),(vI 0),(.slice (aD zB) 1 1),(.slice (aD zC) 1 1)]) 3 bL F F F F ⟨by exact Sub.z,?_⟩⟩,trivial⟩
   exact dw (by kernel_rfl) ⟨zA,zB,zC,F,⟨F,F,trivial⟩⟩ (by exact Sub.ew [aq (aD zB) 1 56 1 [(.slice (aD zA) L L)],aq (aD zC) 1 4 1 [.bool true]] _ (.k (.k (.k .z))))
  refine bg [9] (by kernel_rfl) F ⟨⟨_,F,F,cY (m:=L) cL bj F F (by omega) (by omega) (fun zA=>⟨by exact Sub.z,?_⟩)⟩,trivial⟩
  refine bg [10] (by kernel_rfl) F ⟨⟨_,F,F,cN (v:=(.slice (aD zA) L L)) e_ cV F F F (fun zB=>⟨by exact Sub.z,?_⟩)⟩,trivial⟩
  refine cB 12 F (by kernel_rfl) (cE (cs:=[vI ((vs:Nat):Int),(vI 0),(.slice (aD zB) 1 1),(.slice (aD zC) 1 1)]) jp bL (by kernel_rfl)) ?_
  refine bg [13] (by kernel_rfl) F ⟨⟨_,F,F,bN (vs:=[vI ((vs:Nat):Int),(vI 0),(.slice (aD zB) 1 1),(.slice (aD zC) 1 1)]) 3 bL F F F F ⟨by exact Sub.z,?_⟩⟩,trivial⟩
  exact dw (by kernel_rfl) ⟨zA,zB,zC,F,⟨F,F,trivial⟩⟩ (by exact Sub.ew [aq (aD zB) 1 56 1 [(.slice (aD zA) L L)]] _ (.k (.k (.k .z))))
 rintro ρ O ⟨zA,zB,zC,rfl,hH⟩
 obtain⟨gF,rfl⟩:=hH.elim
 clear hH
 refine aK (aA ?_)
 refine cM (i:=3) Tryz.results103 cZ F bL F F F ?_
 exact⟨[aq (aD zB) 1 56 1 (dm [⟨(aD zA),L,List.replicate L 0⟩]),aq (aD zC) 1 4 1 (cG [true])]++cd 3 [⟨(aD zA),L,List.replicate L 0⟩],by rw[show cd 3 [(⟨(aD zA),L,List.replicate L 0⟩:Rec)]=[aq (aD zA) L 3 1 (List.replicate L (vI 0))] by simp[cd,Rec.sQ],show dm [(⟨(aD zA),L,List.replicate L 0⟩:Rec)]=[(.slice (aD zA) L L)] by simp[Rec.val]];exact(by exact Sub.ew [aq (aD zA) L 3 1 (List.replicate L (vI 0))] _ (.ew [aq (aD zA) L 3 1 (List.replicate L (vI 0))] _ (.k .z))),(aD zB),1,(aD zC),1,[⟨(aD zA),L,List.replicate L 0⟩],F,F,by rw[←hL];rfl⟩
theorem Na (w:World) [dE Tryz.prog w] (cb:Nat) (eb:Option Addr) (en ec vs B:Nat) (eV:Sl w (aD cb) [.slice eb en ec,vI (vs:Int),vI (B:Int)]) (gv:vs≤6):
  cH Tryz.prog 103 [(dW (aD cb) 0)] w fun v N=> ∃k,v=dV (fJ (vs:Int) true) k∧N=[dI 56 4 3 (fJ (vs:Int) true) k]:=
 bW.dk (g:=id) (ZZ w cb eb en ec vs B eV gv)
theorem KF (w:World) [dE Tryz.prog w] (cb:Nat) (eb:Option Addr) (en ec vs B:Nat) (eV:Sl w (aD cb) [.slice eb en ec,vI (vs:Int),vI (B:Int)]) (gv:vs≤6) (iR:1≤B) (hB:B≤4096) (n op pp pn:Nat) (pa pb:Int) (hn:n≤1) (NF:pp<256) (lF:pn<256):
  dB Tryz.prog w (.iface 163 (.agg #[])) 104 [(dW (aD cb) 0),vI ((n:Nat):Int),(.agg #[v8 op,v8 pp,v8 pn,vI pa,vI pb])] [] (fun v N=> ∃M k',v=dV M k'∧N=[dI 56 4 3 M k']∧fM (vs:Int) B M (DN n (gO pp pn))∧(js (Ey vs n (gO pp pn))).next.length≤B) (¬(js (Ey vs n (gO pp pn))).next.length≤B):=by
 refine dM func104 F ntmps104 F ?_
 obtain⟨L,hL⟩: ∃L,2^vs=L:=⟨_,F⟩
 have Sj:L≤64:=by rw[←hL];exact cF (by decide) gv
 refine ai (ao F (dG (cs:=[v8 op,v8 pp,v8 pn,vI pa,vI pb]) F F (fun z1=>?_)))
 refine ao F (bs bL F (fun z2=>?_))
 refine ae (ai (ah F (ad (dy (a:=n) (b:=1) F F (by omega)) (aj F (ae ?_)))))
 refine gz (fun ρ O=> ∃(zF zd:Nat),O=[aq (aD zF) (n+2) 4 1 (List.replicate (n+2) (.bool false)),oI zd 25 [vI ((vs:Nat):Int),(vI 0),nS,(.slice (aD zF) (n+2) (n+2))],oI z2 25 [(vI 0),(vI 0),nS,nS],oI z1 72 [v8 op,v8 pp,v8 pn,vI pa,vI pb]]∧dv [(0,(dW (aD cb) 0)),(1,vI ((n:Nat):Int)),(2,(.agg #[v8 op,v8 pp,v8 pn,vI pa,vI pb])),(5,(.pointer (aD z1))),(6,(.pointer (aD z2))),(7,vI ((n+1:Nat):Int)),(8,(.pointer (aD zd)))] ρ) ?_ ?_
 ·refine oe [] 10 mixed F (by exact Sub.z) (fun _ _ _ _ h=>h) ?_
  refine cB 0 F (by kernel_rfl) (aN F) ?_
  refine cB 1 F (by kernel_rfl) (a8 F) ?_
  refine cB 2 F (by kernel_rfl) (cy lx F bj F F (aL eV) (by first|omega|(simp;done)|(simp;omega)|(simp_all;done)|(simp_all;omega))) ?_
  refine cB 3 F (by kernel_rfl) (de dP F F (aL eV) F) ?_
  refine cB 4 F (by kernel_rfl) (aN F) ?_
  refine cB 5 F (by kernel_rfl) (dy (a:=n) (b:=2) F F (by omega)) ?_
  refine bg [6,8] (by kernel_rfl) F ⟨⟨_,F,F,cY (m:=n+2) eB fx F F (by omega) (by omega) (fun zF=>⟨by exact Sub.z,?_⟩)⟩,⟨_,F,F,bs bL F (fun zd=>⟨by exact Sub.z,?_⟩)⟩,trivial⟩
  ·refine cB 7 F (by kernel_rfl) (cE (cs:=[vI ((vs:Nat):Int),(vI 0),nS,(.slice (aD zF) (n+2) (n+2))]) jp bL (by kernel_rfl)) ?_
   refine bg [8] (by kernel_rfl) F ⟨⟨_,F,F,bs bL F (fun zd=>⟨by exact Sub.z,?_⟩)⟩,trivial⟩
   refine bg [9] (by kernel_rfl) F ⟨⟨_,F,F,bN (vs:=[vI ((vs:Nat):Int),(vI 0),nS,(.slice (aD zF) (n+2) (n+2))]) 0 bL F F F F ⟨by exact Sub.z,?_⟩⟩,trivial⟩
   exact dw (by kernel_rfl) ⟨zF,zd,F,(.of F)⟩ (by exact Sub.ew [oI zd 25 [vI ((vs:Nat):Int),(vI 0),nS,(.slice (aD zF) (n+2) (n+2))]] _ (.k (.k (.k .z))))
  refine bg [6] (by kernel_rfl) F ⟨⟨_,F,F,cY (m:=n+2) eB fx F F (by omega) (by omega) (fun zF=>⟨by exact Sub.z,?_⟩)⟩,trivial⟩
  refine cB 7 F (by kernel_rfl) (cE (cs:=[vI ((vs:Nat):Int),(vI 0),nS,(.slice (aD zF) (n+2) (n+2))]) jp bL (by kernel_rfl)) ?_
  refine bg [9] (by kernel_rfl) F ⟨⟨_,F,F,bN (vs:=[vI ((vs:Nat):Int),(vI 0),nS,(.slice (aD zF) (n+2) (n+2))]) 1 bL F F F F ⟨by exact Sub.z,?_⟩⟩,trivial⟩
  exact dw (by kernel_rfl) ⟨zF,zd,F,(.of F)⟩ (by exact Sub.rf)
 rintro ρ O ⟨zF,zd,rfl,hH⟩
 obtain⟨gF,rfl⟩:=hH.elim
 clear hH
 refine ai (ad (a_ cZ F dA F F) (ad (bi 1 eB F F F F) (ah F (ad (dU (i:=n) eB fx F F (dR (mG 0 F)) (by omega) (by simp)) (ao F (ol (j:=n) (v:=.bool true) (vs:=[(.bool true)]) (cs:=List.replicate (n+2) (.bool false)) 0 fx F F F F F (by simp) F (by simp;try omega) ?_))))))
 refine dX (O':=[aq (aD zF) (n+2) 4 1 ((List.replicate (n+2) (.bool false)).set n (.bool true)),oI zd 25 [vI ((vs:Nat):Int),(vI 0),nS,(.slice (aD zF) (n+2) (n+2))],oI z2 25 [(vI 0),(vI 0),nS,nS],oI z1 72 [v8 op,v8 pp,v8 pn,vI pa,vI pb]]) (by rw[show fh (List.replicate (n+2) (.bool false)) n [(.bool true)]=(List.replicate (n+2) (.bool false)).set n (.bool true)from(by simp[fh])];exact cj (aZ _)) ?_
 refine ae (aM (ai (ah F (ad (dy (a:=n) (b:=2) F F (by omega)) (ah F (ae (aU (T.eX 56 1 ?_))))))))
 refine dx (O':=[aq none 0 56 1 [],aq (aD zF) (n+2) 4 1 ((List.replicate (n+2) (.bool false)).set n (.bool true)),oI zd 25 [vI ((vs:Nat):Int),(vI 0),nS,(.slice (aD zF) (n+2) (n+2))],oI z2 25 [(vI 0),(vI 0),nS,nS],oI z1 72 [v8 op,v8 pp,v8 pn,vI pa,vI pb]]++cd 3 []) ((aC [0,0,0,0,0] F)) ?_
 refine dO (fun(s:Nat) ρ O=> ∃(rq:List Rec) (ob:Option Addr) (oc:Nat),O=([aq ob oc 56 1 (dm rq),aq (aD zF) (n+2) 4 1 ((List.replicate (n+2) (.bool false)).set n (.bool true)),oI zd 25 [vI ((vs:Nat):Int),(vI 0),(.slice ob s oc),(.slice (aD zF) (n+2) (n+2))],oI z2 25 [(vI 0),(vI 0),nS,nS],oI z1 72 [v8 op,v8 pp,v8 pn,vI pa,vI pb]]++(cd 3 rq))∧s≤n+2∧nums rq=(List.range s).map (vk L n (gO pp pn))∧dv [(0,(dW (aD cb) 0)),(1,vI ((n:Nat):Int)),(2,(.agg #[v8 op,v8 pp,v8 pn,vI pa,vI pb])),(5,(.pointer (aD z1))),(6,(.pointer (aD z2))),(7,vI ((n+1:Nat):Int)),(8,(.pointer (aD zd))),(27,vI ((n+2:Nat):Int)),(28,vI ((s:Nat):Int))] ρ) (fun s=>n+2-s) 0 ?_ ?_
 ·exact⟨[],none,0,F,by omega,F,(.of F)⟩
 rintro s ρ O ⟨rq,ob,oc,rfl,hs,Z0,hH⟩
 obtain⟨gF,rfl⟩:=hH.elim
 clear hH
 have IK:rq.length=s:=by have:=ax List.length Z0;simpa using this
 refine ai (ad (cT F F) (ae (aM (aP F (fun hc=>?_) (fun hc=>?_)))))
 ·have Wv:s<n+2:=by omega
  refine aE (aM (aU (ai (ah F (aj F (ae (ai (ah F (ad (a8 F) (ad (cy lx F bj F F (aL eV) (by first|omega|(simp;done)|(simp;omega)|(simp_all;done)|(simp_all;omega))) (ad (de dP F F (aL eV) F) (ad (bK (nU (v:=vs) F F (by omega)) (v':=vI ((L:Nat):Int)) (by rw[hL])) (ao F (cY (m:=L) cL bj F F (by omega) (by omega) (fun z3=>?_)))))))))))))))
  refine aj F (ae (aM (ai (ah F (ad (cQ cL F) (ah F (ae (aU ?_))))))))
  refine dO (fun(x:Nat) ρ O=> ∃(ys:List Int),O=([aq (aD z3) L 3 1 (ints ys),aq ob oc 56 1 (dm rq),aq (aD zF) (n+2) 4 1 ((List.replicate (n+2) (.bool false)).set n (.bool true)),oI zd 25 [vI ((vs:Nat):Int),(vI 0),(.slice ob s oc),(.slice (aD zF) (n+2) (n+2))],oI z2 25 [(vI 0),(vI 0),nS,nS],oI z1 72 [v8 op,v8 pp,v8 pn,vI pa,vI pb]]++(cd 3 rq))∧x≤L∧ys.length=L∧(∀i,i<x→ys[i]? =some (Qp n (gO pp pn) s i))∧dv [(0,(dW (aD cb) 0)),(1,vI ((n:Nat):Int)),(2,(.agg #[v8 op,v8 pp,v8 pn,vI pa,vI pb])),(5,(.pointer (aD z1))),(6,(.pointer (aD z2))),(7,vI ((n+1:Nat):Int)),(8,(.pointer (aD zd))),(9,vI ((s:Nat):Int)),(10,(.slice (aD z3) L L)),(27,vI ((n+2:Nat):Int)),(28,vI ((s:Nat):Int)),(38,vI (L:Int)),(39,vI ((x:Nat):Int))] ρ) (fun x=>L-x) 0 ?_ ?_
  ·exact⟨List.replicate L 0,by simp,bn _,by simp,fun i hi=>absurd hi (by omega),(.of F)⟩
  rintro x ρ O ⟨ys,rfl,hx,Cz,yH,hH⟩
  obtain⟨gF,rfl⟩:=hH.elim
  clear hH
  refine ai (ad (cT F F) (ae (aM (aP F (fun hc=>?_) (fun hc=>?_)))))
  ·have xA:x<L:=by omega
   refine aE (aM (aU (ai (ah F (aj F (ae (ai (ah F (ah F (ah F (ad (dU (i:=x) cL bj F F (dR (mG 0 F)) (by omega) (by rw[ar];omega)) (ao F (ol (j:=x) (v:=vI ((n+1:Nat):Int)) (vs:=[(vI ((n+1:Nat):Int))]) (cs:=ints ys) 0 bj F F F F F (by simp) F (by first|(simp;omega)|(simp_all;omega)) ?_)))))))))))))
   refine dX (O':=([aq (aD z3) L 3 1 (ints (ys.set x ((n+1:Nat):Int))),aq ob oc 56 1 (dm rq),aq (aD zF) (n+2) 4 1 ((List.replicate (n+2) (.bool false)).set n (.bool true)),oI zd 25 [vI ((vs:Nat):Int),(vI 0),(.slice ob s oc),(.slice (aD zF) (n+2) (n+2))],oI z2 25 [(vI 0),(vI 0),nS,nS],oI z1 72 [v8 op,v8 pp,v8 pn,vI pa,vI pb]]++(cd 3 rq))) (by rw[show fh (ints ys) x [(vI ((n+1:Nat):Int))]=ints (ys.set x ((n+1:Nat):Int))from(by simp[fh])];exact cj (aZ _)) ?_
   refine ae (ai (ah F (ah F ?_)))
   by_cases rM:((s:Nat):Int)<((n:Nat):Int)
   ·refine ad (aB (cT F F) (ay rM)) ?_
    refine ah F (aG F F (a_ bU F du F F) (aG F F (bi 5 fA F F F F) (aG F F (a_ bU F du F F) (aG F F (bi 5 fA F F F F) (aG F F (cE (cs:=[v8 pp,v8 pn]) jn gj (by kernel_rfl)) (aG F F (aN F) (aG F F (fX dP fA F (qi (by omega))) ?_)))))))
    refine iD F F F (bl SI (aX fun w1 hI=>(haveI:=et hI;ZY w1 pp pn x NF lF (by omega))) F ?_)
    rintro vr O' ⟨N,rfl,rfl,rfl⟩
    refine ad (cA F F) (ae (T.cond F (fun hc=>?_) (fun hc=>?_)))
    ·refine a7 ?_
     refine ah F (ah F (ah F (ad (dy (a:=s) (b:=1) F F (by omega)) (ad (dU (i:=x) cL bj F F (dR (mG 0 F)) (by omega) (by first|(simp;done)|(simp;omega))) (ao F (ol (j:=x) (v:=vI ((s+1:Nat):Int)) (vs:=[(vI ((s+1:Nat):Int))]) (cs:=ints (ys.set x ((n+1:Nat):Int))) 0 bj F F F F F (by simp) F (by first|(simp;omega)|(simp_all;omega)) ?_))))))
     refine dX (O':=([aq (aD z3) L 3 1 (ints ((ys.set x ((n+1:Nat):Int)).set x ((s+1:Nat):Int))),aq ob oc 56 1 (dm rq),aq (aD zF) (n+2) 4 1 ((List.replicate (n+2) (.bool false)).set n (.bool true)),oI zd 25 [vI ((vs:Nat):Int),(vI 0),(.slice ob s oc),(.slice (aD zF) (n+2) (n+2))],oI z2 25 [(vI 0),(vI 0),nS,nS],oI z1 72 [v8 op,v8 pp,v8 pn,vI pa,vI pb]]++(cd 3 rq))) (by rw[show fh (ints (ys.set x ((n+1:Nat):Int))) x [(vI ((s+1:Nat):Int))]=ints ((ys.set x ((n+1:Nat):Int)).set x ((s+1:Nat):Int))from(by simp[fh])];exact cj (aZ _)) ?_
     refine ae (a7 (ad (dy (a:=x) (b:=1) F F (by omega)) (ah F (ae ?_))))
     have hv:Qp n (gO pp pn) s x=((s+1:Nat):Int):=aO ⟨by omega,by first|exact hc|simpa using hc⟩
     exact⟨x+1,by omega,([aq (aD z3) L 3 1 (ints ((ys.set x ((n+1:Nat):Int)).set x ((s+1:Nat):Int))),aq ob oc 56 1 (dm rq),aq (aD zF) (n+2) 4 1 ((List.replicate (n+2) (.bool false)).set n (.bool true)),oI zd 25 [vI ((vs:Nat):Int),(vI 0),(.slice ob s oc),(.slice (aD zF) (n+2) (n+2))],oI z2 25 [(vI 0),(vI 0),nS,nS],oI z1 72 [v8 op,v8 pp,v8 pn,vI pa,vI pb]]++(cd 3 rq)),(by exact Sub.rf),((ys.set x ((n+1:Nat):Int)).set x ((s+1:Nat):Int)),F,by omega,by simp[Cz],fun i hi=>by
      by_cases e:i=x
      ·subst e;rw[hv,List.getElem?_set_self (by first|omega|(simp;omega))]
      ·rw[List.getElem?_set_ne (fun h=>e h.symm)];first|exact yH i (by omega)|(rw[List.getElem?_set_ne (fun h=>e h.symm)];exact yH i (by omega)),(.of F)⟩
    refine aE (a7 (ad (dy (a:=x) (b:=1) F F (by omega)) (ah F (ae ?_))))
    have hv:Qp n (gO pp pn) s x=((n+1:Nat):Int):=az (fun h9=>by first|omega|(have h8:=h9.2;simp_all;done))
    exact⟨x+1,by omega,([aq (aD z3) L 3 1 (ints (ys.set x ((n+1:Nat):Int))),aq ob oc 56 1 (dm rq),aq (aD zF) (n+2) 4 1 ((List.replicate (n+2) (.bool false)).set n (.bool true)),oI zd 25 [vI ((vs:Nat):Int),(vI 0),(.slice ob s oc),(.slice (aD zF) (n+2) (n+2))],oI z2 25 [(vI 0),(vI 0),nS,nS],oI z1 72 [v8 op,v8 pp,v8 pn,vI pa,vI pb]]++(cd 3 rq)),(by exact Sub.rf),(ys.set x ((n+1:Nat):Int)),F,by omega,by simp[Cz],fun i hi=>by
     by_cases e:i=x
     ·subst e;rw[hv,List.getElem?_set_self (by first|omega|(simp;omega))]
     ·rw[List.getElem?_set_ne (fun h=>e h.symm)];first|exact yH i (by omega)|(rw[List.getElem?_set_ne (fun h=>e h.symm)];exact yH i (by omega)),(.of F)⟩
   refine ad (aB (cT F F) (ak rM)) (ah F (aV F F (aV F F (aV F F (aV F F (aV F F (aV F F (aV F F ?_))))))))
   refine aV F F (ad (cg F F) (ae (a6 F (aE (a7 (ad (dy (a:=x) (b:=1) F F (by omega)) (ah F (ae ?_))))))))
   have hv:Qp n (gO pp pn) s x=((n+1:Nat):Int):=az (fun h9=>by first|omega|(have h8:=h9.2;simp_all;done))
   exact⟨x+1,by omega,([aq (aD z3) L 3 1 (ints (ys.set x ((n+1:Nat):Int))),aq ob oc 56 1 (dm rq),aq (aD zF) (n+2) 4 1 ((List.replicate (n+2) (.bool false)).set n (.bool true)),oI zd 25 [vI ((vs:Nat):Int),(vI 0),(.slice ob s oc),(.slice (aD zF) (n+2) (n+2))],oI z2 25 [(vI 0),(vI 0),nS,nS],oI z1 72 [v8 op,v8 pp,v8 pn,vI pa,vI pb]]++(cd 3 rq)),(by exact Sub.rf),(ys.set x ((n+1:Nat):Int)),F,by omega,by simp[Cz],fun i hi=>by
    by_cases e:i=x
    ·subst e;rw[hv,List.getElem?_set_self (by first|omega|(simp;omega))]
    ·rw[List.getElem?_set_ne (fun h=>e h.symm)];first|exact yH i (by omega)|(rw[List.getElem?_set_ne (fun h=>e h.symm)];exact yH i (by omega)),(.of F)⟩
  have Qq: ¬x<L:=by omega
  refine cK ?_
  refine a7 (ad (a_ cZ F fz F F) (ad (bi 3 e_ F F F F) (ah F (ao F (cN (v:=(.slice (aD z3) L L)) e_ cV F F F (fun z4=>?_))))))
  refine ao F (cW 2 e_ e_ cV F F F F (by simp;omega) (by decide) (Src.row (j:=0) F (by simp)) (by simp[fa]) (by omega) (by decide) (by decide) (fun z5 Qr=>?_))
  refine ad (a_ cZ F fz F F) (ao F (bN (vs:=[(.slice z5 (s+1) Qr)]) 4 fz F F F F ?_))
  refine ae ?_
  refine dx (O':=[aq z5 Qr 56 1 (dm (rq++[⟨(aD z3),L,ys⟩])),aq (aD zF) (n+2) 4 1 ((List.replicate (n+2) (.bool false)).set n (.bool true)),oI zd 25 [vI ((vs:Nat):Int),(vI 0),(.slice z5 (s+1) Qr),(.slice (aD zF) (n+2) (n+2))],oI z2 25 [(vI 0),(vI 0),nS,nS],oI z1 72 [v8 op,v8 pp,v8 pn,vI pa,vI pb]]++cd 3 (rq++[⟨(aD z3),L,ys⟩])) (by
   rw[show dm (rq++[⟨(aD z3),L,ys⟩])=(dm rq)++[(.slice (aD z3) L L)] by simp[Rec.val,Cz],show cd 3 (rq++[⟨(aD z3),L,ys⟩])=cd 3 rq++[aq (aD z3) L 3 1 (ints ys)] by simp[cd,Rec.sQ]]
   exact CJ [aq z5 Qr 56 1 ((dm rq)++[(.slice (aD z3) L L)]),aq (aD zF) (n+2) 4 1 ((List.replicate (n+2) (.bool false)).set n (.bool true)),oI zd 25 [vI ((vs:Nat):Int),(vI 0),(.slice z5 (s+1) Qr),(.slice (aD zF) (n+2) (n+2))],oI z2 25 [(vI 0),(vI 0),nS,nS],oI z1 72 [v8 op,v8 pp,v8 pn,vI pa,vI pb]] [aq (aD z4) 1 56 1 [(.slice (aD z3) L L)],aq (aD z3) L 3 1 (ints ys),aq z5 Qr 56 1 ((dm rq)++[(.slice (aD z3) L L)]),aq (aD zF) (n+2) 4 1 ((List.replicate (n+2) (.bool false)).set n (.bool true)),oI zd 25 [vI ((vs:Nat):Int),(vI 0),(.slice z5 (s+1) Qr),(.slice (aD zF) (n+2) (n+2))],oI z2 25 [(vI 0),(vI 0),nS,nS],oI z1 72 [v8 op,v8 pp,v8 pn,vI pa,vI pb]] (cd 3 rq) (aq (aD z3) L 3 1 (ints ys)) (by exact Sub.d (.ew [aq (aD z3) L 3 1 (ints ys)] _ (.ew [aq (aD z3) L 3 1 (ints ys)] _ (.ew [aq (aD z3) L 3 1 (ints ys)] _ (.ew [aq (aD z3) L 3 1 (ints ys)] _ (.ew [aq (aD z3) L 3 1 (ints ys)] _ (.k .z)))))))) ?_
  refine a7 (ad (dy (a:=s) (b:=1) F F (by omega)) (ah F (ae ?_)))
  have AP:x=L:=by omega
  have Sn:ys=vk L n (gO pp pn) s:=by
   apply List.ext_getElem?
   intro i
   by_cases hi:i<L
   ·rw[yH i (by omega)];simp only[vk];simp[hi]
   ·rw[bZ (by omega),bZ (by simp[vk];omega)]
  exact⟨s+1,by omega,_,cj (aZ _),rq++[⟨(aD z3),L,ys⟩],z5,Qr,F,by omega,by rw[List.range_succ,bm,←Z0];simp[nums,Sn],(.of F)⟩
 have Ww: ¬s<n+2:=by omega
 refine cK ?_
 refine aM ?_
 have Qk:s=n+2:=by omega
 obtain⟨W,hW⟩: ∃W,W=Ey vs n (gO pp pn):=⟨_,F⟩
 have F0:HasL (vs:Int) 3 W (DN n (gO pp pn)):=hW▸wg _ gv hn
 have e1:nums rq=W.next:=by rw[hW,Z0,Qk,←hL];rfl
 have e2:(List.replicate (n+2) (.bool false)).set n (.bool true)=cG W.aY:=by rw[hW];show _=cG ((List.replicate (n+2) false).set n true);simp
 have e3:(vs:Int)=W.vars:=by rw[hW];rfl
 have e4:(0:Int)=W.start:=by rw[hW];rfl
 have e5:s=W.next.length:=by rw[←e1,←IK];simp
 have e6:n+2=W.aY.length:=by rw[F0.valid.fin,←e5,Qk]
 obtain⟨M,hM⟩: ∃m,js W=m:=⟨_,F⟩
 have MZ:fM (vs:Int) 3 M (DN n (gO pp pn)):=hM▸F0.uW
 obtain⟨z9,Wk⟩: ∃z:DK,z=⟨ob,oc,(aD zF),n+2,rq⟩:=⟨_,F⟩
 refine dx (O':=([aq ob oc 56 1 (dm rq),aq (aD zF) (n+2) 4 1 ((List.replicate (n+2) (.bool false)).set n (.bool true)),oI zd 25 [vI ((vs:Nat):Int),(vI 0),(.slice ob s oc),(.slice (aD zF) (n+2) (n+2))],oI z2 25 [(vI 0),(vI 0),nS,nS],oI z1 72 [v8 op,v8 pp,v8 pn,vI pa,vI pb]]++cd 3 rq)) Sub.rf ?_
 refine dx (O':=(([aq ob oc 56 1 (dm rq),aq (aD zF) (n+2) 4 1 (cG W.aY)]++cd 3 rq)++[oI zd 25 [(vI W.vars),(vI W.start),(.slice ob W.next.length oc),(.slice (aD zF) W.aY.length (n+2))],oI z2 25 [(vI 0),(vI 0),nS,nS],oI z1 72 [v8 op,v8 pp,v8 pn,vI pa,vI pb]])) (by rw[←e5,←e6,←e2,←e3,←e4];exact gN [aq ob oc 56 1 (dm rq),aq (aD zF) (n+2) 4 1 ((List.replicate (n+2) (.bool false)).set n (.bool true))] (cd 3 rq) [oI zd 25 [vI ((vs:Nat):Int),(vI 0),(.slice ob s oc),(.slice (aD zF) (n+2) (n+2))],oI z2 25 [(vI 0),(vI 0),nS,nS],oI z1 72 [v8 op,v8 pp,v8 pn,vI pa,vI pb]]) ?_
 refine s9 (φ:=nums rq=W.next) e1 ?_
 refine dx (O':=[dI 56 4 3 W z9,oI zd 25 (dC W z9),oI z2 25 [(vI 0),(vI 0),nS,nS],oI z1 72 [v8 op,v8 pp,v8 pn,vI pa,vI pb]]) (by subst Wk;exact Sub.rf) ?_
 refine a7 (ah F (ad (eu 1 cZ F bL F F F) (ao F (bl Cb (aX fun w1 hI=>(haveI:=et hI;Cc w1 W z9 (hI.at (k:=z9) (mG 0 F)) F0.valid (by have:=F0.valid.n4;omega) (M:=M) hM)) F ?_))))
 rintro vr O' ⟨N,rfl,k9,rfl,rfl⟩
 refine ad (bE (vs:=_) F F) (ad (bE (vs:=_) F F) ?_)
 have Wx:=fun(w1:World) (hI:Inv w [dI 56 4 3 M k9,dI 56 4 3 W z9,oI zd 25 (dC W z9),oI z2 25 [(vI 0),(vI 0),nS,nS],oI z1 72 [v8 op,v8 pp,v8 pn,vI pa,vI pb]] w1)=>(haveI:=et hI;nl w1 cb eb en ec vs B (hI.sl eV) M k9 0)
 refine eG F (eW so (dB.pure Wx) F (fun z _=>⟨F,fun h9=>z ⟨F,hM▸hW▸h9⟩⟩) ?_)
 clear Wx
 rintro vr O' ⟨N,rfl,rfl,rfl,_,yI⟩
 refine ao F (bN (vs:=(dC M k9)) 3 bL F F F F ?_)
 refine ae (aK (aA ?_))
 refine cM (i:=3) Tryz.results104 cZ F bL F F F ?_
 exact⟨[dI 56 4 3 M k9],(by exact Sub.k .z),M,k9,F,F,⟨MZ.toHasL.le yI,MZ.min⟩,by rw[←hW,hM];exact yI⟩
end Go.Proofs.YtgdbfideeeegmaaGreatDoor

namespace Go.Proofs.YtgdbfideeeegmaaGreatDoor
open Go.Lx Go.RowKit _root_.Go.Proofs.Tryz
theorem Et (w:World) [dE Tryz.prog w] (cb:Nat) (eb:Option Addr) (en ec vs B L:Nat) (eV:Sl w (aD cb) [.slice eb en ec,vI (vs:Int),vI (B:Int)]) (gv:vs≤6) (hL:2^vs=L) (iR:1≤B) (hB:B≤4096)
  (tr:Key→Nat→Key) (fin:Key→Bool) (start:Key) (Rp:Key→SR→Prop) (r0:SR) (fk fn ff:Value) (HP:Rp start r0) (Uv:r0.k7=[]) (vK: ∀k r,Rp k r→fa r.a=true∧fa r.b=true)
  (Cx: ∀w1 k r,Inv w [] w1→Rp k r→(∀it∈r.k7,it.P w1)→eK Tryz.prog w1 fk [r.a] [] (fun v O'=>v=str k∧O'=[]))
  (fp: ∀w1 k r x,Inv w [] w1→Rp k r→(∀it∈r.k7,it.P w1)→x<L→eK Tryz.prog w1 fn [r.a,.int .u8 (x:Int)] [] (fun v N=> ∃r',v=r'.a∧N=r'.k7∧Rp (tr k x) r'))
  (xt: ∀w1 k r,Inv w [] w1→Rp k r→(∀it∈r.k7,it.P w1)→eK Tryz.prog w1 ff [r.a] [] (fun v O'=>v=.bool (fin k)∧O'=[])):
  dB Tryz.prog w (.iface 163 (.agg #[])) 141 [(dW (aD cb) 0),r0.a,fk,fn,ff] [] (fun v N=> ∃M k',v=dV M k'∧N=[dI 56 4 3 M k']∧fM (vs:Int) B M (fun u=>fin (u.foldl tr start))∧HQ tr L start B) (¬HQ tr L start B):=by
 refine dM func141 F ntmps141 F ?_
 have Sj:L≤64:=by rw[←hL];exact cF (by decide) gv
 obtain⟨ZI,IM⟩:=vK _ _ HP
 refine ai (ao F (bs bL F (fun z1=>?_)))
 refine ae (ai (ah F (ao F (cN (v:=r0.a) e_ cV F F ZI (fun z2=>?_)))))
 refine aj F (ae (ai (ao F (lM str (fun n:Nat=>Value.int .i64 (n:Int)) (fun m3=>?_)))))
 refine ah F (ah F ?_)
 have qC:=(ep (O:=[dz str (fun n:Nat=>Value.int .i64 (n:Int)) m3 [],aq (aD z2) 1 56 1 [r0.a],oI z1 25 [(vI 0),(vI 0),nS,nS]]) fun w1 hI=>haveI:=et hI;Cx w1 start r0 hI.nD HP (by rw[Uv];simp))
 refine ao F (eN qC F F ?_)
 clear qC
 rintro vr O' ⟨N,rfl,rfl,rfl⟩
 refine ao F (fY (a:=start) (v:=(0:Nat)) 0 iJ (gh.string ve) F F F F (by simp) ?_)
 refine ah F (aj F (ae (ai (ah F (ad (a8 F) (ad (cy lx F bj F F (aL eV) (by first|omega|(simp;done)|(simp;omega)|(simp_all;done)|(simp_all;omega))) (ad (de dP F F (aL eV) F) (ad (cE (cs:=[vN vs,(vI 0),nS,nS]) jp bL (by kernel_rfl)) (ao F (bs bL F (fun z4=>?_)))))))))))
 refine ao F (bN (vs:=[vN vs,(vI 0),nS,nS]) 0 bL F F F F ?_)
 refine ae (aM (ai (aj F (ae (aU (T.eX 4 1 ?_))))))
 refine T.eX 56 1 ?_
 refine dx (O':=[aq (aD z2) 1 56 1 (eR c1 [r0]),dz str (fun n:Nat=>Value.int .i64 (n:Int)) m3 [start].zipIdx,aq none 0 56 1 (dm []),aq none 0 4 1 (cG []),oI z4 25 [vN vs,(vI 0),nS,nS],oI z1 25 [(vI 0),(vI 0),nS,nS]]++(cd 3 []++ju [r0])) (by rw[show ju [r0]=[] by simp[ju,Uv]];exact(aC [4,3,0,0,0,0] F)) ?_
 refine dO (fun(s:Nat) ρ O=> ∃(ks:List Key) (qs:List SR) (rq:List Rec) (sb ob fb:Option Addr) (sc oc fc:Nat),O=([aq sb sc 56 1 (eR c1 qs),dz str (fun n:Nat=>Value.int .i64 (n:Int)) m3 ks.zipIdx,aq ob oc 56 1 (dm rq),aq fb fc 4 1 (cG ((ks.take s).map fin)),oI z4 25 [vN vs,(vI 0),(.slice ob s oc),(.slice fb s fc)],oI z1 25 [(vI 0),(vI 0),nS,nS]]++(cd 3 rq++ju qs))∧xu tr L start s=ks∧Cy tr L start ks∧Kk Rp ks qs∧ks.length≤B∧qD tr L ks s (nums rq)∧dv [(0,(dW (aD cb) 0)),(1,r0.a),(2,fk),(3,fn),(4,ff),(10,(.pointer (aD z1))),(11,(.slice sb qs.length sc)),(12,(.map (some m3))),(13,(.pointer (aD z4))),(14,vN s)] ρ) (fun s=>B-s) 0 ?_ ?_
 ·exact⟨[start],[r0],[],(aD z2),none,none,1,0,0,F,F,Cy.one _ _ _,Kk.one HP,by simpa using iR,⟨F,bn _,fun i hi=>absurd hi (by omega),fun i hi=>absurd hi (by omega)⟩,(.of F)⟩
 rintro s ρ O ⟨ks,qs,rq,sb,ob,fb,sc,oc,fc,rfl,om,hF,hR,Oi,hE,hH⟩
 obtain⟨gF,rfl⟩:=hH.elim
 clear hH
 have HF:=hR.1
 have IK:rq.length=s:=by have:=hE.len;simpa using this
 have MT:=hE.le
 refine aM (ai (ah F (ah F (ad (cQ e_ F) (ad (cT F F) (ae (aP F (fun hc=>?_) (fun hc=>?_))))))))
 ·have qn:s<qs.length:=by omega
  have Sk:s<ks.length:=by omega
  refine aE (aM (aU (ai (ah F (ad (a8 F) (ad (cy lx F bj F F (aL eV) (by first|omega|(simp;done)|(simp;omega)|(simp_all;done)|(simp_all;omega))) (ad (de dP F F (aL eV) F) (ad (bK (nU (v:=vs) F F (by omega)) (v':=vN L) (by rw[hL])) (ao F (cY (m:=L) cL bj F F (by omega) (by omega) (fun z5=>?_)))))))))))
  refine aj F (ae (aM (ai (ah F (ad (cQ cL F) (ah F (ae (aU ?_))))))))
  refine dO (fun(x:Nat) ρ O=> ∃(fj:List Key) (im:List SR) (ys:List Int) (tb:Option Addr) (tc:Nat),O=([aq (aD z5) L 3 1 (ints ys),aq tb tc 56 1 (eR c1 im),dz str (fun n:Nat=>Value.int .i64 (n:Int)) m3 fj.zipIdx,aq ob oc 56 1 (dm rq),aq fb fc 4 1 (cG ((ks.take s).map fin)),oI z4 25 [vN vs,(vI 0),(.slice ob s oc),(.slice fb s fc)],oI z1 25 [(vI 0),(vI 0),nS,nS]]++(cd 3 rq++ju im))∧x≤L∧ys.length=L∧Cy tr L start fj∧Kk Rp fj im∧fj.length≤B∧fj=((List.range x).map (tr (ks.getD s []))).foldl add ks∧(∀i,i<x→ys[i]? =some ((ix (tr (ks.getD s []) i) fj:Nat):Int))∧dv [(0,(dW (aD cb) 0)),(1,r0.a),(2,fk),(3,fn),(4,ff),(10,(.pointer (aD z1))),(11,(.slice tb im.length tc)),(12,(.map (some m3))),(13,(.pointer (aD z4))),(14,vN s),(15,(.slice (aD z5) L L)),(45,vI (L:Int)),(46,vN x)] ρ) (fun x=>L-x) 0 ?_ ?_
  ·exact⟨ks,qs,List.replicate L 0,sb,sc,by simp,bn _,by simp,hF,hR,Oi,F,fun i hi=>absurd hi (by omega),(.of F)⟩
  rintro x ρ O ⟨fj,im,ys,tb,tc,rfl,hx,Cz,Oj,yn,Kl,pQ,yH,hH⟩
  obtain⟨gF,rfl⟩:=hH.elim
  clear hH
  have uw:ks<+:fj:=pQ▸gH _ _
  have sk:fj.getD s []=ks.getD s []:=me uw Sk
  have Wf:=uw.length_le
  have Km:=yn.1
  have vM:s<im.length:=by omega
  have Sm:=yn.2 s vM
  rw[sk]at Sm
  refine ai (ad (cT F F) (ae (aM (aP F (fun hc=>?_) (fun hc=>?_)))))
  ·have oB:x<L:=by omega
   have Kn:x<L:=by omega
   have MY:ks.getD s []∈fj:=by rw[←sk,av,ap (by omega),Option.getD_some];exact aQ _
   refine aE (aM (aU (ai (ah F (aj F (ae (ai (ah F (ah F (ah F (ad (dU (i:=s) e_ cV F F (dR (mG 1 F)) vM (by rw[kw (f:=c1) (n:=1) (fun _=>rfl)];omega)) (ad (de cL F F (dR (mG 1 F)) (Ql vM)) (ah F (ad (fX dP fA F (qi (by omega))) ?_))))))))))))))
   have Ko:=(ep (O:=([aq (aD z5) L 3 1 (ints ys),aq tb tc 56 1 (eR c1 im),dz str (fun n:Nat=>Value.int .i64 (n:Int)) m3 fj.zipIdx,aq ob oc 56 1 (dm rq),aq fb fc 4 1 (cG ((ks.take s).map fin)),oI z4 25 [vN vs,(vI 0),(.slice ob s oc),(.slice fb s fc)],oI z1 25 [(vI 0),(vI 0),nS,nS]]++(cd 3 rq++ju im))) fun w1 hI=>haveI:=et hI;fp w1 (ks.getD s []) im[s] x hI.nD Sm (fun it fI=>hI.holds it (am _ (am _ (tD vM fI)))) Kn)
   refine ao F (eN Ko F F ?_)
   clear Ko
   rintro vr O' ⟨N9,rfl,r9,rfl,rfl,Kp⟩
   obtain⟨Wg,ZT⟩:=vK _ _ Kp
   refine dX (O':=([aq (aD z5) L 3 1 (ints ys),aq tb tc 56 1 (eR c1 im),dz str (fun n:Nat=>Value.int .i64 (n:Int)) m3 fj.zipIdx,aq ob oc 56 1 (dm rq),aq fb fc 4 1 (cG ((ks.take s).map fin)),oI z4 25 [vN vs,(vI 0),(.slice ob s oc),(.slice fb s fc)],oI z1 25 [(vI 0),(vI 0),nS,nS]]++(r9.k7++(cd 3 rq++ju im)))) (by exact fL [] _ r9.k7 (cd 3 rq++ju im)) ?_
   refine aj F (ae (ai (ah F (ah F (ah F ?_)))))
   have Cn:=(ep (O:=([aq (aD z5) L 3 1 (ints ys),aq tb tc 56 1 (eR c1 im),dz str (fun n:Nat=>Value.int .i64 (n:Int)) m3 fj.zipIdx,aq ob oc 56 1 (dm rq),aq fb fc 4 1 (cG ((ks.take s).map fin)),oI z4 25 [vN vs,(vI 0),(.slice ob s oc),(.slice fb s fc)],oI z1 25 [(vI 0),(vI 0),nS,nS]]++(r9.k7++(cd 3 rq++ju im)))) fun w1 hI=>haveI:=et hI;Cx w1 (tr (ks.getD s []) x) r9 hI.nD Kp (fun it fI=>hI.holds it (am _ (aT _ fI))))
   refine ao F (eN Cn F F ?_)
   clear Cn
   rintro vr O' ⟨N,rfl,rfl,rfl⟩
   refine ad (bK (jK (a:=tr (ks.getD s []) x) iJ bj (gh.string ve) F F (mG 2 F)) (v':=(.tuple #[vN (if tr (ks.getD s []) x∈fj then ix (tr (ks.getD s []) x) fj else 0),.bool (decide (tr (ks.getD s []) x∈fj))])) (by rw[li];generalize tr (ks.getD s []) x=k9;by_cases h9:k9∈fj<;>simp[h9])) (ah F (ad (bE (vs:=_) F F) (ad (bE (vs:=_) F F) (aj F (aj F (ae (aM (ai (ah F (ad (jh F) (ae (T.cond F (fun hc=>?_) (fun hc=>?_)))))))))))))
   ·have HR:tr (ks.getD s []) x∉fj:=by simpa using hc
    have mu:=FY HR
    refine ai (ah F (ad (cQ e_ F) (aj F (ae (ai (ah F (ah F (ah F ?_))))))))
    have CA:=(ep (O:=([aq (aD z5) L 3 1 (ints ys),aq tb tc 56 1 (eR c1 im),dz str (fun n:Nat=>Value.int .i64 (n:Int)) m3 fj.zipIdx,aq ob oc 56 1 (dm rq),aq fb fc 4 1 (cG ((ks.take s).map fin)),oI z4 25 [vN vs,(vI 0),(.slice ob s oc),(.slice fb s fc)],oI z1 25 [(vI 0),(vI 0),nS,nS]]++(r9.k7++(cd 3 rq++ju im)))) fun w1 hI=>haveI:=et hI;Cx w1 (tr (ks.getD s []) x) r9 hI.nD Kp (fun it fI=>hI.holds it (am _ (aT _ fI))))
    refine ao F (eN CA F F ?_)
    clear CA
    rintro vr O' ⟨N,rfl,rfl,rfl⟩
    refine ah F (ao F (qh (a:=tr (ks.getD s []) x) (v:=im.length) 2 iJ (gh.string ve) F F F F (by rw[mW];exact HR) ?_))
    refine ae (ai (ah F (ah F (ao F (cN (v:=r9.a) e_ cV F F Wg (fun z6=>?_))))))
    refine ao F (cW 2 e_ e_ cV F F F F (by rw[kw (f:=c1) (n:=1) (fun _=>rfl)]) (by decide) (Src.row (j:=0) F (by simp)) (by simp[Wg]) (by omega) (by decide) (by decide) (fun z7 Ce=>?_))
    refine aj F (ae (ai (ah F (ah F (ad (a8 F) (ad (cy lx F bj F F (aL eV) (by first|omega|(simp;done)|(simp;omega)|(simp_all;done)|(simp_all;omega))) (ad (de dP F F (aL eV) F) (ad (lB F F) (ae (aP F (fun hc=>?_) (fun hc=>?_)))))))))))
    ·have Wh:im.length≥B:=by omega
     refine a7 (ad (cE wh AM F) (ad (ra FV F) ?_))
     exact eG F (wi F (fun _=>⟨F,(Oj.add MY Kn).Wi (by rw[mu];simp;omega)⟩))
    have Wj: ¬im.length≥B:=by omega
    refine aE (a7 (ah F (ah F (ah F (ad (dU (i:=x) cL bj F F (dR (mG 1 F)) (by omega) (by rw[ar];omega)) (ao F (ol (j:=x) (v:=vI (im.length:Int)) (vs:=[(vI (im.length:Int))]) (cs:=ints ys) 1 bj F F F F F (by simp) F (by first|(simp;omega)|(simp_all;omega)) ?_)))))))
    refine dX (O':=([aq (aD z6) 1 56 1 [r9.a],aq (aD z5) L 3 1 (ints (ys.set x ((ix (tr (ks.getD s []) x) (add fj (tr (ks.getD s []) x)):Nat):Int))),aq z7 Ce 56 1 ((eR c1 im)++[r9.a]),dz str (fun n:Nat=>Value.int .i64 (n:Int)) m3 (fj.zipIdx++[(tr (ks.getD s []) x,im.length)]),aq ob oc 56 1 (dm rq),aq fb fc 4 1 (cG ((ks.take s).map fin)),oI z4 25 [vN vs,(vI 0),(.slice ob s oc),(.slice fb s fc)],oI z1 25 [(vI 0),(vI 0),nS,nS]]++(r9.k7++(cd 3 rq++ju im)))) (by rw[show fh (ints ys) x [(vI (im.length:Int))]=ints (ys.set x ((ix (tr (ks.getD s []) x) (add fj (tr (ks.getD s []) x)):Nat):Int))from(by rw[mu,fS HR,show ix (tr (ks.getD s []) x) [tr (ks.getD s []) x]=0 by simp[ix],Nat.add_zero,←Km];simp[fh])];exact cj (aZ _)) ?_
    refine ae (a7 (ad (dy (a:=x) (b:=1) F F (by omega)) (ah F (ae ?_))))
    have Er: ∀y,y<x→tr (ks.getD s []) y∈fj:=fun y hy=>by rw[pQ,eC];exact .inr (List.mem_map_of_mem (List.mem_range.2 hy))
    have Es: ∀i,i<x+1→(ys.set x ((ix (tr (ks.getD s []) x) (add fj (tr (ks.getD s []) x)):Nat):Int))[i]? =some ((ix (tr (ks.getD s []) i) (add fj (tr (ks.getD s []) x)):Nat):Int):=fun i hi=>by
     by_cases e:i=x
     ·subst e;rw[List.getElem?_set_self (by omega)]
     ·rw[List.getElem?_set_ne (fun h=>e h.symm),yH i (by omega),ig (jM _ _) (Er i (by omega))]
    have zz:=yn.snoc Kp
    rw[←mu]at zz
    have ZU:=Oj.add MY Kn
    exact⟨x+1,by omega,[aq (aD z5) L 3 1 (ints (ys.set x ((ix (tr (ks.getD s []) x) (add fj (tr (ks.getD s []) x)):Nat):Int))),aq z7 Ce 56 1 (eR c1 (im++[r9])),dz str (fun n:Nat=>Value.int .i64 (n:Int)) m3 ((add fj (tr (ks.getD s []) x)).zipIdx),aq ob oc 56 1 (dm rq),aq fb fc 4 1 (cG ((ks.take s).map fin)),oI z4 25 [vN vs,(vI 0),(.slice ob s oc),(.slice fb s fc)],oI z1 25 [(vI 0),(vI 0),nS,nS]]++(cd 3 rq++ju (im++[r9])),(by rw[zH,vh,mu,show(fj++[tr (ks.getD s []) x]).zipIdx=fj.zipIdx++[(tr (ks.getD s []) x,im.length)] by rw[List.zipIdx_append,Km];simp];exact xw _ _ _ _ _ (by exact Sub.d (.k (.k (.k (.k (.k (.k (.k .z))))))))),add fj (tr (ks.getD s []) x),im++[r9],_,z7,Ce,F,by omega,by simp[Cz],ZU,zz,by rw[mu];simp;omega,by rw[ja,←pQ],Es,⟨F,F,F,F,F,F,(show Value.slice z7 (im.length+1) Ce=_ by rw[aw];rfl),F,F,F,F,F,F,trivial⟩⟩
   have HR:tr (ks.getD s []) x∈fj:=by simpa using hc
   have mu:=FZ HR
   refine aE (a7 (ah F (ah F (ah F (ad (dU (i:=x) cL bj F F (dR (mG 0 F)) (by omega) (by rw[ar];omega)) (ao F (ol (j:=x) (v:=vN (if tr (ks.getD s []) x∈fj then ix (tr (ks.getD s []) x) fj else 0)) (vs:=[(vN (if tr (ks.getD s []) x∈fj then ix (tr (ks.getD s []) x) fj else 0))]) (cs:=ints ys) 0 bj F F F F F (by simp) F (by first|(simp;omega)|(simp_all;omega)) ?_)))))))
   refine dX (O':=([aq (aD z5) L 3 1 (ints (ys.set x ((ix (tr (ks.getD s []) x) (add fj (tr (ks.getD s []) x)):Nat):Int))),aq tb tc 56 1 (eR c1 im),dz str (fun n:Nat=>Value.int .i64 (n:Int)) m3 fj.zipIdx,aq ob oc 56 1 (dm rq),aq fb fc 4 1 (cG ((ks.take s).map fin)),oI z4 25 [vN vs,(vI 0),(.slice ob s oc),(.slice fb s fc)],oI z1 25 [(vI 0),(vI 0),nS,nS]]++(r9.k7++(cd 3 rq++ju im)))) (by rw[show fh (ints ys) x [(vN (if tr (ks.getD s []) x∈fj then ix (tr (ks.getD s []) x) fj else 0))]=ints (ys.set x ((ix (tr (ks.getD s []) x) (add fj (tr (ks.getD s []) x)):Nat):Int))from(by rw[mu,aO HR];simp[fh])];exact cj (aZ _)) ?_
   refine ae (a7 (ad (dy (a:=x) (b:=1) F F (by omega)) (ah F (ae ?_))))
   have Er: ∀y,y<x→tr (ks.getD s []) y∈fj:=fun y hy=>by rw[pQ,eC];exact .inr (List.mem_map_of_mem (List.mem_range.2 hy))
   have Es: ∀i,i<x+1→(ys.set x ((ix (tr (ks.getD s []) x) (add fj (tr (ks.getD s []) x)):Nat):Int))[i]? =some ((ix (tr (ks.getD s []) i) (add fj (tr (ks.getD s []) x)):Nat):Int):=fun i hi=>by
    by_cases e:i=x
    ·subst e;rw[List.getElem?_set_self (by omega)]
    ·rw[List.getElem?_set_ne (fun h=>e h.symm),yH i (by omega),ig (jM _ _) (Er i (by omega))]
   have zz:=yn
   rw[←mu]at zz
   exact⟨x+1,by omega,[aq (aD z5) L 3 1 (ints (ys.set x ((ix (tr (ks.getD s []) x) (add fj (tr (ks.getD s []) x)):Nat):Int))),aq tb tc 56 1 (eR c1 im),dz str (fun n:Nat=>Value.int .i64 (n:Int)) m3 ((add fj (tr (ks.getD s []) x)).zipIdx),aq ob oc 56 1 (dm rq),aq fb fc 4 1 (cG ((ks.take s).map fin)),oI z4 25 [vN vs,(vI 0),(.slice ob s oc),(.slice fb s fc)],oI z1 25 [(vI 0),(vI 0),nS,nS]]++(cd 3 rq++ju im),(by rw[mu];exact ft _ _ _ _ (by exact Sub.rf)),add fj (tr (ks.getD s []) x),im,_,tb,tc,F,by omega,by simp[Cz],Oj.add MY Kn,zz,by rw[mu];exact Kl,by rw[ja,←pQ],Es,(.of F)⟩
  have oC: ¬x<L:=by omega
  refine cK ?_
  refine T.ds [aq tb tc 56 1 (eR c1 im),oI z4 25 [vN vs,(vI 0),(.slice ob s oc),(.slice fb s fc)]] [(0,0),(1,0),(2,0),(5,0),(6,0),(7,0),(8,0),(9,0),(10,0),(11,0),(3,1),(4,1),(15,0),(12,1),(13,1),(14,1),(16,2),(17,2),(18,2)] (by exact Sub.d (.k (.d (.d (.d (.k .z)))))) ?_
  refine au F (a_ cZ F fz F F) (au F (bi 1 e_ F F F F) (au F (aN F) (au F (a_ cZ F dA F F) (au F (bi 1 eB F F F F) (au F (aN F) (au F (aN F) (au F (aN F) (au F (dU (i:=s) e_ cV F F (dR (mG 0 F)) vM (by rw[kw (f:=c1) (n:=1) (fun _=>rfl)];omega)) (au F (de cL F F (dR (mG 0 F)) (Ql vM)) ?_)))))))))
  refine cr F F (cN (v:=(.slice (aD z5) L L)) e_ cV F F F (fun z9=>⟨by exact Sub.d (.d (.k (.d (.d (.d (.k .z)))))),?_⟩))
  refine cr F F (cW 4 e_ e_ cV F F F F (by simp;omega) (by decide) (Src.row (j:=0) F (by simp)) (by simp[fa]) (by omega) (by decide) (by decide) (fun pJ kx=>⟨by exact Sub.d (.d (.k (.d (.d (.d (.k .z)))))),?_⟩))
  refine au F (a_ cZ F fz F F) ?_
  have CB:=(ep (O:=([aq (aD z9) 1 56 1 [(.slice (aD z5) L L)],aq (aD z5) L 3 1 (ints ys),aq tb tc 56 1 (eR c1 im),dz str (fun n:Nat=>Value.int .i64 (n:Int)) m3 fj.zipIdx,aq pJ kx 56 1 ((dm rq)++[(.slice (aD z5) L L)]),aq fb fc 4 1 (cG ((ks.take s).map fin)),oI z4 25 [vN vs,(vI 0),(.slice ob s oc),(.slice fb s fc)],oI z1 25 [(vI 0),(vI 0),nS,nS]]++(cd 3 rq++ju im))) fun w1 hI=>haveI:=et hI;xt w1 (ks.getD s []) im[s] hI.nD Sm (fun it fI=>hI.holds it (am _ (am _ (tD vM fI)))))
  refine cr F F (eN CB F F ?_)
  clear CB
  rintro vr O' ⟨N,rfl,rfl,rfl⟩
  refine⟨by exact Sub.d (.d (.k (.d (.d (.d (.k .z)))))),?_⟩
  refine cr F F (cN (v:=.bool (fin (ks.getD s []))) eB fx F F F (fun z12=>⟨by exact Sub.d (.d (.d (.k (.d (.d (.d (.k .z))))))),?_⟩))
  refine cr F F (cW 6 eB eB fx F F F F (by simp;omega) (by decide) (Src.row (j:=0) F (by simp)) (by simp[fa]) (by omega) (by decide) (by decide) (fun nN mf=>⟨by exact Sub.d (.d (.d (.k (.d (.d (.d (.k .z))))))),?_⟩))
  refine b_ F F (bN (vs:=[(.slice pJ (s+1) kx)]) 7 fz F F F F ?_)
  refine b_ F F (d_ F F (a_ cZ F dA F F) ?_)
  refine b_ F F (bN (vs:=[(.slice nN (s+1) mf)]) 7 dA F F F F ?_)
  refine cw ?_
  have nF:cG ((fj.take (s+1)).map fin)=cG ((ks.take s).map fin)++[.bool (fin (ks.getD s []))]:=by
   rw[aH (by omega:s<fj.length),bm,show fj.take s=ks.take s by obtain⟨t9,rfl⟩:=uw;rw[List.take_append_of_le_length (by omega)],←sk,show fj.getD s []=fj[s] by rw[av,ap (by omega),Option.getD_some]]
   simp
  refine dx (O':=[aq tb tc 56 1 (eR c1 im),dz str (fun n:Nat=>Value.int .i64 (n:Int)) m3 fj.zipIdx,aq pJ kx 56 1 (dm (rq++[⟨(aD z5),L,ys⟩])),aq nN mf 4 1 (cG ((fj.take (s+1)).map fin)),oI z4 25 [vN vs,(vI 0),(.slice pJ (s+1) kx),(.slice nN (s+1) mf)],oI z1 25 [(vI 0),(vI 0),nS,nS]]++(cd 3 (rq++[⟨(aD z5),L,ys⟩])++ju im)) (by
   rw[nF,show dm (rq++[⟨(aD z5),L,ys⟩])=(dm rq)++[(.slice (aD z5) L L)] by simp[Rec.val,Cz],show cd 3 (rq++[⟨(aD z5),L,ys⟩])=cd 3 rq++[aq (aD z5) L 3 1 (ints ys)] by simp[cd,Rec.sQ]]
   exact qE [aq tb tc 56 1 (eR c1 im),dz str (fun n:Nat=>Value.int .i64 (n:Int)) m3 fj.zipIdx,aq pJ kx 56 1 ((dm rq)++[(.slice (aD z5) L L)]),aq nN mf 4 1 ((cG ((ks.take s).map fin))++[.bool (fin (ks.getD s []))]),oI z4 25 [vN vs,(vI 0),(.slice pJ (s+1) kx),(.slice nN (s+1) mf)],oI z1 25 [(vI 0),(vI 0),nS,nS]] [aq (aD z12) 1 4 1 [.bool (fin (ks.getD s []))],aq (aD z9) 1 56 1 [(.slice (aD z5) L L)],aq (aD z5) L 3 1 (ints ys),aq tb tc 56 1 (eR c1 im),dz str (fun n:Nat=>Value.int .i64 (n:Int)) m3 fj.zipIdx,aq pJ kx 56 1 ((dm rq)++[(.slice (aD z5) L L)]),aq nN mf 4 1 ((cG ((ks.take s).map fin))++[.bool (fin (ks.getD s []))]),oI z4 25 [vN vs,(vI 0),(.slice pJ (s+1) kx),(.slice nN (s+1) mf)],oI z1 25 [(vI 0),(vI 0),nS,nS]] (cd 3 rq) (ju im) (aq (aD z5) L 3 1 (ints ys)) (by exact Sub.d (.d (.ew [aq (aD z5) L 3 1 (ints ys)] _ (.ew [aq (aD z5) L 3 1 (ints ys)] _ (.ew [aq (aD z5) L 3 1 (ints ys)] _ (.ew [aq (aD z5) L 3 1 (ints ys)] _ (.ew [aq (aD z5) L 3 1 (ints ys)] _ (.ew [aq (aD z5) L 3 1 (ints ys)] _ (.k .z)))))))))) ?_
  refine a7 (ah F (ad (dy (a:=s) (b:=1) F F (by omega)) (aj F (ae ?_))))
  have AP:x=L:=by omega
  have Sn:ys=lj tr L fj s:=by
   apply List.ext_getElem?
   intro i
   by_cases hi:i<L
   ·rw[yH i (by omega)];simp only[lj,sk];simp[hi]
   ·rw[bZ (by omega),bZ (by simp[lj];omega)]
  have Er: ∀y,y<L→tr (ks.getD s []) y∈fj:=fun y hy=>by rw[pQ,eC];exact .inr (List.mem_map_of_mem (List.mem_range.2 (by omega)))
  have RW:qD tr L fj (s+1) (nums (rq++[⟨(aD z5),L,ys⟩])):=by
   have:=hE.snoc uw Sk Sn (by rw[sk];exact Er)
   simpa[nums]using this
  exact⟨s+1,by omega,_,cj (aZ _),fj,im,rq++[⟨(aD z5),L,ys⟩],tb,pJ,nN,tc,kx,mf,F,by rw[xu,om,pQ,AP],Oj,yn,Kl,RW,(.of F)⟩
 have qo: ¬s<qs.length:=by omega
 refine cK ?_
 refine aM ?_
 have Qk:s=ks.length:=by omega
 have rM:rq.length=(nums rq).length:=by simp
 obtain⟨W,hW⟩: ∃W,W=IQ vs (nums rq) (ks.map fin):=⟨_,F⟩
 have F0:HasL (vs:Int) ks.length W (fun u=>fin (u.foldl tr start)):=by rw[hW];exact F1 gv (by rw[hL];exact hF) (by rw[hL,←Qk];exact hE) (by omega)
 have e1:nums rq=W.next:=by rw[hW];rfl
 have e2:(ks.take s).map fin=W.aY:=by rw[hW,bw (by omega)];rfl
 have e3:(vs:Int)=W.vars:=by rw[hW];rfl
 have e4:(0:Int)=W.start:=by rw[hW];rfl
 have e5:s=W.next.length:=by rw[←e1,←rM];omega
 have e6:s=W.aY.length:=by rw[F0.valid.fin,←e5]
 obtain⟨M,hM⟩: ∃m,js W=m:=⟨_,F⟩
 have MZ:fM (vs:Int) ks.length M (fun u=>fin (u.foldl tr start)):=hM▸F0.uW
 obtain⟨z9,Wk⟩: ∃z:DK,z=⟨ob,oc,fb,fc,rq⟩:=⟨_,F⟩
 refine dx (O':=([aq ob oc 56 1 (dm rq),aq fb fc 4 1 (cG ((ks.take s).map fin)),oI z4 25 [vN vs,(vI 0),(.slice ob s oc),(.slice fb s fc)],oI z1 25 [(vI 0),(vI 0),nS,nS]]++cd 3 rq)) (vi _ _ _ _ (by exact Sub.d (.d (.k (.k (.k (.k .z))))))) ?_
 refine dx (O':=(([aq ob oc 56 1 (dm rq),aq fb fc 4 1 (cG W.aY)]++cd 3 rq)++[oI z4 25 [(vI W.vars),(vI W.start),(.slice ob W.next.length oc),(.slice fb W.aY.length fc)],oI z1 25 [(vI 0),(vI 0),nS,nS]])) (by rw[←e5,←e6,←e2,←e3,←e4];exact gN [aq ob oc 56 1 (dm rq),aq fb fc 4 1 (cG ((ks.take s).map fin))] (cd 3 rq) [oI z4 25 [vN vs,(vI 0),(.slice ob s oc),(.slice fb s fc)],oI z1 25 [(vI 0),(vI 0),nS,nS]]) ?_
 refine s9 (φ:=nums rq=W.next) e1 ?_
 refine dx (O':=[dI 56 4 3 W z9,oI z4 25 (dC W z9),oI z1 25 [(vI 0),(vI 0),nS,nS]]) (by subst Wk;exact Sub.rf) ?_
 refine a7 (ah F (ad (eu 1 cZ F bL F F F) (ao F (bl Cb (aX fun w1 hI=>(haveI:=et hI;Cc w1 W z9 (hI.at (k:=z9) (mG 0 F)) F0.valid (by have:=F0.valid.n4;omega) (M:=M) hM)) F ?_))))
 rintro vr O' ⟨N,rfl,k9,rfl,rfl⟩
 refine ad (bE (vs:=_) F F) (ad (bE (vs:=_) F F) ?_)
 have CD:=fun(w1:World) (hI:Inv w [dI 56 4 3 M k9,dI 56 4 3 W z9,oI z4 25 (dC W z9),oI z1 25 [(vI 0),(vI 0),nS,nS]] w1)=>(haveI:=et hI;nl w1 cb eb en ec vs B (hI.sl eV) M k9 0)
 refine eG F (eW so (dB.pure CD) F (fun z _=>⟨F,fun _=>z ⟨F,by have:=MZ.len;omega⟩⟩) ?_)
 clear CD
 rintro vr O' ⟨N,rfl,rfl,rfl,_,yI⟩
 refine ao F (bN (vs:=(dC M k9)) 3 bL F F F F ?_)
 refine ae (aK (aA ?_))
 refine cM (i:=3) Tryz.results141 cZ F bL F F F ?_
 exact⟨[dI 56 4 3 M k9],(by exact Sub.k .z),M,k9,F,F,⟨MZ.toHasL.le yI,MZ.min⟩,CE hF (Qk▸hE) Oi⟩
end Go.Proofs.YtgdbfideeeegmaaGreatDoor

namespace Go.Proofs.YtgdbfideeeegmaaGreatDoor
open Go.Lx Go.RowKit _root_.Go.Proofs.Tryz
theorem Sy (base:World) [dE Tryz.prog base] (x:Int):bW Tryz.prog base 147 [vI x] [] (fun v O'=>v=.bool (decide (x<0))∧O'=[]):=by
 refine aF func147 F ntmps147 F ?_
 refine ai (aj F (ae (ai (ah F (ad (cT F F) (aj F (ae (aK ?_))))))))
 refine aS (.bool (decide (x<0))) Tryz.results147 F ?_
 exact⟨F,F⟩
theorem Oo (base:World) [dE Tryz.prog base] (b:Option Addr) (c:Nat) (z:List Int) (hz: ∀x∈z,0≤x) (hb:z.length≤1000000):
  bW Tryz.prog base 145 [.slice b z.length c,(.func (.func 147) #[] #[])] [aq b c 3 1 (ints z)] (fun v O'=>v=.slice b z.length c∧O'=[aq b c 3 1 (ints z)]):=by
 refine aF func145 F ntmps145 F ?_
 refine ai (aj F (ae (ai (ah F (ah F ?_)))))
 refine ao F (bl Eo (aX fun w1 hI=>(haveI:=et hI;(show cH _ _ _ _ _ from by
   have h9:=sj w1 b c z (hI.ii (mG 0 F)) (by omega) (.func (.func 147) #[] #[]) (fun x=>decide (x<0)) [] (fun x hx=>cP (first:=[]) (args:=[vI x]) (gr:=[]) Ev (Sy w1 x))
   exact h9))) F ?_)
 rintro vr O' ⟨N,rfl,i9,rfl,hi,rfl⟩
 have Ji:i9= -1:=by
  rcases hi with⟨_,h⟩|⟨k,_,h1,_,h2⟩
  ·exact h
  ·have:=hz _ (aQ h1)
   rw[av,ap h1]at h2
   simp at h2;omega
 refine aj F (ae (aM (ai (ah F (ad (bJ F F) (ae ?_))))))
 refine bO (by rw[Ji];rfl) ?_
 refine ai (ah F (aj F (ae (aK ?_))))
 refine aS (.slice b z.length c) Tryz.results145 F ?_
 exact⟨F,F⟩
def XS (z:List Int) (k:Nat):List Int:=z.take k++((-1)::z).drop k
theorem xy {z:List Int} {k:Nat} (h:k≤z.length):(XS z k).length=z.length+1:=by simp[XS];omega
theorem Wr {z:List Int} {k:Nat} (h:k<z.length):(XS z k)[k+1]? =some z[k]:=by
 unfold XS
 rw[bT (by simp;omega),List.getElem?_drop]
 simp[Nat.min_eq_left (Nat.le_of_lt h),show k+(k+1-k)=k+1 by omega,h]
theorem Sz {z:List Int} {k:Nat} (h:k<z.length):fh (ints (XS z k)) k [vI z[k]]=ints (XS z (k+1)):=by
 simp only[fh]
 apply List.ext_getElem?
 intro j
 have hl:(ints (XS z k)).length=z.length+1:=by rw[ar,xy (Nat.le_of_lt h)]
 by_cases c1:j=k
 ·subst c1
  rw[List.getElem?_set_self (by omega),bq]
  unfold XS
  rw[bH (by simp;omega),List.getElem?_take,aO (by omega),ap h];rfl
 ·rw[List.getElem?_set_ne (fun e=>c1 e.symm),bq,bq]
  congr 1
  unfold XS
  by_cases c2:j<k
  ·rw[bH (by simp;omega),bH (by simp;omega),List.getElem?_take,List.getElem?_take,aO c2,aO (by omega)]
  ·rw[bT (by simp;omega),bT (by simp;omega),List.getElem?_drop,List.getElem?_drop]
   simp only[ck,Nat.min_eq_left (Nat.le_of_lt h),Nat.min_eq_left h]
   congr 1;omega
theorem Oq (base:World) [dE Tryz.prog base] (bk o c:Nat) (z:List Int) (hz: ∀x∈z,0≤x) (hb:z.length≤1000000) (DM:z.length+1≤c):
  bW Tryz.prog base 145 [.slice (some ⟨bk,o,none⟩) (z.length+1) c,(.func (.func 147) #[] #[])] [aq (some ⟨bk,o,none⟩) c 3 1 (ints (-1::z))] (fun v O'=>v=.slice (some ⟨bk,o,none⟩) z.length c∧O'=[aq (some ⟨bk,o,none⟩) c 3 1 (ints z)]):=by
 refine aF func145 F ntmps145 F ?_
 have hcz:z.length+1≤c:=DM
 refine ai (aj F (ae (ai (ah F (ah F ?_)))))
 refine ao F (bl Eo (aX fun w1 hI=>(haveI:=et hI;(show cH _ _ _ _ _ from by
   have h9:=sj w1 (some ⟨bk,o,none⟩) c (-1::z) (hI.ii (mG 0 F)) (by simp;omega) (.func (.func 147) #[] #[]) (fun x=>decide (x<0)) [] (fun x hx=>cP (first:=[]) (args:=[vI x]) (gr:=[]) Ev (Sy w1 x))
   exact h9))) F ?_)
 rintro vr O' ⟨N,rfl,i9,rfl,hi,rfl⟩
 have Ji:i9=((0:Nat):Int):=by
  rcases hi with⟨h,_⟩|⟨k,h,_,h1,_⟩
  ·simp at h
  ·cases k with
   |zero=>exact h
   |succ k=>simp at h1
 refine ad (bK (cx F) (v':=vN 0) (show Value.int .i64 i9=_ by rw[Ji])) (ae (aM (ai (ah F (ad (bJ F F) (ae (a6 F (aE (aM (ai (ah F (ad (dy (a:=0) (b:=1) F F (by omega)) (aj F (ae (aU ?_)))))))))))))))
 refine eF (fun(k:Nat) ρ O=>O=[aq (some ⟨bk,o,none⟩) c 3 1 (ints (XS z k))]∧k≤z.length∧dv [(0,(.slice (some ⟨bk,o,none⟩) (z.length+1) c)),(1,(.func (.func 147) #[] #[])),(4,nS),(5,vN k),(6,vN (k+1))] ρ) (fun k=>z.length-k) 0 ?_ ?_
 ·exact⟨F,bn _,(.of F)⟩
 rintro k ρ O ⟨rfl,hk,hH⟩
 obtain⟨gF,rfl⟩:=hH.elim
 clear hH
 have yY:=xy hk
 refine aM (ai (ah F (ah F (ad (cQ cL F) (ad (cT F F) (ae (aP F (fun hc=>?_) (fun hc=>?_))))))))
 ·have Qn:k+1<z.length+1:=by omega
  have ZV:k<z.length:=by omega
  refine aE (aM (aU (ai ?_)))
  refine ah F (ah F (ad (dU (i:=(k+1)) cL bj F F (dR (mG 0 F)) (by omega) (by rw[ar,xy hk];omega)) (ad (de dP F F (dR (mG 0 F)) (show(ints (XS z k))[k+1]? =some (vI z[k]) by rw[bq,Wr ZV];rfl)) ?_)))
  refine aj F (ae (ai (ah F (ah F ?_))))
  let eP:Lx.Item:=aq (some ⟨bk,o,none⟩) c 3 1 (ints (XS z k))
  have CI:=(eK.under (A:=[]) (B:=[eP]) (O:=[eP]) (cP (first:=[]) (args:=[vI z[k]]) (gr:=[]) Ev (Sy base z[k])) (cj (aZ _)))
  refine ao F (eN CI F F ?_)
  clear CI
  rintro vr O' ⟨A1,rfl,rfl,rfl⟩
  refine ad (jh F) (ae ?_)
  refine bO (show Value.bool (!decide (z[k]<0))=_ by rw[ak (by have:=hz _ (aQ ZV);omega)];rfl) ?_
  refine ai (ah F (ah F (ah F (ad (dU (i:=k) cL bj F F (dR (mG 0 F)) (by omega) (by rw[ar,xy hk];omega)) (ao F (ol (j:=k) (v:=vI z[k]) (vs:=[(vI z[k])]) (cs:=ints (XS z k)) 0 bj F F F F F (by simp) F (by rw[ar,xy hk];simp;omega) ?_))))))
  refine dX (O':=[aq (some ⟨bk,o,none⟩) c 3 1 (ints (XS z (k+1)))]) (by rw[show fh (ints (XS z k)) k [(vI z[k])]=ints (XS z (k+1))from(Sz ZV)];exact cj (aZ _)) ?_
  refine ae (a7 (ah F (ad (dy (a:=k) (b:=1) F F (by omega)) (aj F (ae (a7 (ah F (ad (dy (a:=(k+1)) (b:=1) F F (by omega)) (aj F (ae ?_))))))))))
  exact⟨k+1,by omega,F,by omega,(.of F)⟩
 have Qo: ¬k+1<z.length+1:=by omega
 refine cK ?_
 refine ai (ah F (ah F (ad (BV (lo:=k) cL bj F F (by omega) (by omega)) (ao F (Ky (m:=z.length+1) (lo:=k) 0 cL bj F F F (by omega) (by omega) F ?_)))))
 refine ae (ai (ah F (ah F (ad (Hv (hi:=k) cL bj F F (by omega)) (aj F (ae (aK ?_)))))))
 refine aS (.slice (some ⟨bk,o,none⟩) k c) Tryz.results145 F ?_
 have Ux:k=z.length:=by omega
 have ZW:(ints (XS z k)).take k=ints z:=by
  rw[Ux,←List.map_take];unfold XS;rw[List.take_length,List.take_append_of_le_length (bF _),List.take_length]
 rw[ZW]
 exact⟨ax (fun n9:Nat=>Value.slice (some ⟨bk,o,none⟩) n9 c) Ux,F⟩
theorem Ot (base:World) [dE Tryz.prog base] (b:Option Addr) (c:Nat) (q:Bool×List Nat) (hb:q.2.length≤1000000):
  bW Tryz.prog base 145 [.slice b (jx q).length c,(.func (.func 147) #[] #[])] [aq b c 3 1 (ints (jx q))] (fun v O'=>v=.slice b q.2.length c∧O'=[aq b c 3 1 (bS q.2)]):=by
 obtain⟨g,l⟩:=q
 have hz: ∀x∈l.map (fun y:Nat=>(y:Int)),0≤x:=fun x hx=>by obtain⟨y,_,rfl⟩:=List.mem_map.1 hx;omega
 cases g with
 |false=>
  have h9:=Oo base b c (l.map fun y:Nat=>(y:Int)) hz (by rw[ar];exact hb)
  rw[ar,gl]at h9
  rw[show jx (false,l)=l.map (fun y:Nat=>(y:Int))from F,ar,gl]
  exact h9
 |true=>
  rw[show jx (true,l)= -1::l.map (fun y:Nat=>(y:Int))from F,bo,ar]
  intro w M hI
  have hO:(([aq b c 3 1 (ints (-1::l.map fun y:Nat=>(y:Int)))]++M:List Lx.Item))[0]? =some (aq b c 3 1 (ints (-1::l.map fun y:Nat=>(y:Int)))):=rfl
  cases b with
  |none=>exact absurd (hI.row hO).1 (by simp)
  |some a=>
   obtain⟨bk,o,sp⟩:=a
   have yx:sp=none:=(hI.row hO).1
   subst yx
   obtain⟨_,full,_,h1,_⟩:=hI.row hO
   have h9:=Oq base bk o c (l.map fun y:Nat=>(y:Int)) hz (by rw[ar];exact hb) (by simpa using h1)
   rw[ar,gl]at h9
   exact h9 w M hI
end Go.Proofs.YtgdbfideeeegmaaGreatDoor

