/- Contracts of functions of the program, and what they answer. Conditions: those each theorem names. -/
import Derived.Test.YtgdbfideeeegmaaGreatDoorB1
import Derived.Test.YtgdbfideeeegmaaGreatDoorA6
import Derived.Test.YtgdbfideeeegmaaGreatDoorA2
import Derived.Test.YtgdbfideeeegmaaGreatDoorA5
import Derived.Test.YtgdbfideeeegmaaGreatDoorA8
import Derived.Test.YtgdbfideeeegmaaGreatDoorA7
set_option linter.unusedSectionVars false
set_option linter.unusedSimpArgs false
set_option linter.unusedVariables false
set_option linter.unnecessarySimpa false
set_option maxHeartbeats 8000000
set_option maxRecDepth 20000
namespace Go.Lx
open Go.RowKit Go.Proofs.YtgdbfideeeegmaaGreatDoor
def gX (e:List dF):Nat→Nat→Rx
 |0,_=>.none
 |f+1,i=>
  let x:=e.getD i ⟨0,0,0,0,0⟩
  if x.op=1 then .none else if x.op=2 then .empty else if x.op=3 then .letter x.p x.n
  else if x.op=4 then .jl (gX e f x.a.toNat) (gX e f x.b.toNat)else if x.op=5 then .j5 (gX e f x.a.toNat) (gX e f x.b.toNat)else if x.op=6 then .and (gX e f x.a.toNat) (gX e f x.b.toNat)
  else if x.op=7 then .not (gX e f x.a.toNat)else if x.op=8 then .star (gX e f x.a.toNat)else if x.op=9 then .ahead (gX e f x.a.toNat)else .behind (gX e f x.a.toNat)
theorem pk {v:Nat} {e:List dF} {fs:List Nat} (h:iw v e=.ok fs) {i:Nat} (hi:i<e.length):fR v e[i]=0:=by
 obtain⟨gs,h1,h2,h3,_⟩:=nf h i (Nat.le_of_lt hi)
 cases hs:fM v gs e[i]with
 |error n=>rw[ij hi h1 hs]at h;cases h
 |ok b=>exact(rC (by rw[h2];exact h3) hs).2.1
theorem or_zero {a b:Nat} (h:(a|||b)=0):a=0∧b=0:=by
 have h1:a≤a|||b:=Nat.left_le_or
 have h2:b≤a|||b:=Nat.right_le_or
 omega
theorem jT {v:Nat} {x:dF} (h:fR v x=0):1≤x.op∧x.op≤10∧(x.op≠3→x.p=0∧x.n=0)∧(cZ x.op<1→x.a=0)∧(cZ x.op<2→x.b=0):=by
 unfold fR at h
 split at h
 ·omega
 ·rename_i h1
  split at h
  ·omega
  ·rename_i h2
   refine⟨by omega,by omega,fun h3=>or_zero (by
    by_cases h4:(x.p|||x.n)=0
    ·exact h4
    ·exact absurd (Or.inl ⟨h3,h4⟩) h2),fun h3=>?_,fun h3=>?_⟩
   ·by_cases h4:x.a=0
    ·exact h4
    ·exact absurd (Or.inr (Or.inl ⟨h3,h4⟩)) h2
   ·by_cases h4:x.b=0
    ·exact h4
    ·exact absurd (Or.inr (Or.inr ⟨h3,h4⟩)) h2
theorem jx {v:Nat} {e:List dF} {fs:List Nat} (h:iw v e=.ok fs) (nK: ∀x∈e,x.p<256∧x.n<256): ∀(f i:Nat),i<f→i<e.length→BW e (gX e f i) i
 |0,i,hf,hi=>absurd hf (by omega)
 |f+1,i,hf,hi=>by
  have ht:=oA h i hi
  have hs:=jT (pk h hi)
  have hg:e[i]? =some e[i]:=List.getElem?_eq_getElem hi
  have hx:=nK _ (List.getElem_mem hi)
  unfold gX
  simp only[mB hi]
  obtain⟨x,AH⟩: ∃x,x=e[i]:=⟨_,F⟩
  rw[←AH]at ht hs hg hx⊢
  obtain⟨o,p,n,a,b⟩:=x
  clear AH
  obtain⟨h1,h2,h3,h4,h5⟩:=hs
  simp only at ht h1 h2 h3 h4 h5 hx
  have hk:o=1∨o=2∨o=3∨o=4∨o=5∨o=6∨o=7∨o=8∨o=9∨o=10:=by omega
  rcases hk with rfl|rfl|rfl|rfl|rfl|rfl|rfl|rfl|rfl|rfl
  ·obtain⟨rfl,rfl⟩:=h3 (by decide)
   have ha:=h4 (by decide);have hb:=h5 (by decide)
   subst ha hb
   exact hg
  ·obtain⟨rfl,rfl⟩:=h3 (by decide)
   have ha:=h4 (by decide);have hb:=h5 (by decide)
   subst ha hb
   exact hg
  ·have ha:=h4 (by decide);have hb:=h5 (by decide)
   subst ha hb
   exact⟨hg,hx⟩
  ·obtain⟨rfl,rfl⟩:=h3 (by decide)
   obtain⟨j,rfl,hj⟩:=ht.1 (by decide)
   obtain⟨k,rfl,hk⟩:=ht.2 (by decide)
   exact⟨j,k,hg,jx h nK f j (by omega) (by omega),jx h nK f k (by omega) (by omega)⟩
  ·obtain⟨rfl,rfl⟩:=h3 (by decide)
   obtain⟨j,rfl,hj⟩:=ht.1 (by decide)
   obtain⟨k,rfl,hk⟩:=ht.2 (by decide)
   exact⟨j,k,hg,jx h nK f j (by omega) (by omega),jx h nK f k (by omega) (by omega)⟩
  ·obtain⟨rfl,rfl⟩:=h3 (by decide)
   obtain⟨j,rfl,hj⟩:=ht.1 (by decide)
   obtain⟨k,rfl,hk⟩:=ht.2 (by decide)
   exact⟨j,k,hg,jx h nK f j (by omega) (by omega),jx h nK f k (by omega) (by omega)⟩
  ·obtain⟨rfl,rfl⟩:=h3 (by decide)
   have hb:=h5 (by decide)
   subst hb
   obtain⟨j,rfl,hj⟩:=ht.1 (by decide)
   exact⟨j,hg,jx h nK f j (by omega) (by omega)⟩
  ·obtain⟨rfl,rfl⟩:=h3 (by decide)
   have hb:=h5 (by decide)
   subst hb
   obtain⟨j,rfl,hj⟩:=ht.1 (by decide)
   exact⟨j,hg,jx h nK f j (by omega) (by omega)⟩
  ·obtain⟨rfl,rfl⟩:=h3 (by decide)
   have hb:=h5 (by decide)
   subst hb
   obtain⟨j,rfl,hj⟩:=ht.1 (by decide)
   exact⟨j,hg,jx h nK f j (by omega) (by omega)⟩
  ·obtain⟨rfl,rfl⟩:=h3 (by decide)
   have hb:=h5 (by decide)
   subst hb
   obtain⟨j,rfl,hj⟩:=ht.1 (by decide)
   exact⟨j,hg,jx h nK f j (by omega) (by omega)⟩
theorem uj {v:Nat} {e:List dF} {fs:List Nat} (h:iw v e=.ok fs): ∀(f i:Nat),i<f→i<e.length→(lg e f i false=true→(gX e f i).plain=true)∧(lg e f i true=true→(gX e f i).wf=true)
 |0,i,hf,hi=>absurd hf (by omega)
 |f+1,i,hf,hi=>by
  have ht:=oA h i hi
  have hs:=jT (pk h hi)
  have e1:=kG (f:=f) (fr:=false) hi
  have e2:=kG (f:=f) (fr:=true) hi
  rw[e1,e2]
  unfold gX
  simp only[mB hi]
  clear e1 e2
  obtain⟨x,AH⟩: ∃x,x=e[i]:=⟨_,F⟩
  rw[←AH]at ht hs⊢
  obtain⟨o,p,n,a,b⟩:=x
  clear AH
  obtain⟨h1,h2,h3,h4,h5⟩:=hs
  simp only at ht h1 h2⊢
  clear h3 h4 h5
  have one:1≤cZ o→((lg e f a.toNat false=true→(gX e f a.toNat).plain=true)∧(lg e f a.toNat true=true→(gX e f a.toNat).wf=true)):=fun hh=>by
   obtain⟨j,rfl,hj⟩:=ht.1 hh
   exact uj h f j (by omega) (by omega)
  have two:2≤cZ o→((lg e f b.toNat false=true→(gX e f b.toNat).plain=true)∧(lg e f b.toNat true=true→(gX e f b.toNat).wf=true)):=fun hh=>by
   obtain⟨j,rfl,hj⟩:=ht.2 hh
   exact uj h f j (by omega) (by omega)
  clear ht
  have hk:o=1∨o=2∨o=3∨o=4∨o=5∨o=6∨o=7∨o=8∨o=9∨o=10:=by omega
  rcases hk with rfl|rfl|rfl|rfl|rfl|rfl|rfl|rfl|rfl|rfl<;>simp[cZ,Rx.plain,Rx.wf]at one two⊢ <;>simp_all
theorem yr {v:Nat} {e:List dF} {fs:List Nat} (h:iw v e=.ok fs) {i:Nat} (hi:i<e.length):fs.getD i 0≤i∧
  (cZ e[i].op=1→0<i∧e[i].a=(i:Int)-1∧fs.getD i 0=fs.getD (i-1) 0)∧
  (cZ e[i].op=2→0<i∧e[i].b=(i:Int)-1∧0<fs.getD (i-1) 0∧e[i].a=(fs.getD (i-1) 0:Int)-1∧fs.getD (i-1) 0≤i-1∧fs.getD i 0=fs.getD e[i].a.toNat 0)∧(cZ e[i].op=0→fs.getD i 0=i):=by
 obtain⟨gs,h1,h2,h3,h4⟩:=nf h i (Nat.le_of_lt hi)
 obtain⟨gs',k1,k2,k3,k4⟩:=nf h (i+1) hi
 cases hs:fM v gs e[i]with
 |error n=>rw[ij hi h1 hs]at h;cases h
 |ok b=>
  have hn:=oX hi h1 hs
  rw[k1]at hn
  injection hn with hn
  have gv:i<fs.length:=by
   have:(fs.take (i+1)).length=i+1:=by rw[←k4];exact k2
   rw[List.length_take]at this;omega
  have hb:fs.getD i 0=b:=by
   have:gs'.getD i 0=b:=by rw[hn,List.getD_eq_getElem?_getD,List.getElem?_append_right (by omega),h2,Nat.sub_self];rfl
   rw[k4,List.getD_eq_getElem?_getD,List.getElem?_take,if_pos (by omega)]at this
   rw[List.getD_eq_getElem?_getD];exact this
  have hj: ∀j,j<i→gs.getD j 0=fs.getD j 0:=fun j hj=>by
   rw[h4,List.getD_eq_getElem?_getD,List.getD_eq_getElem?_getD,List.getElem?_take,if_pos hj]
  obtain⟨b1,_,b2,b3,b4⟩:=rC (by rw[h2];exact h3) hs
  rw[h2]at b1 b2 b3 b4
  refine⟨by omega,fun h5=>?_,fun h5=>?_,fun h5=>by rw[hb];exact b4 h5⟩
  ·obtain⟨c1,c2,c3⟩:=b2 h5
   exact⟨c1,c2,by rw[hb,c3,hj _ (by omega)]⟩
  ·obtain⟨c1,c2,c3,c4,c5⟩:=b3 h5
   have hx:=h3 (i-1) (by omega)
   rw[hj _ (by omega)]at c3 c4 hx
   refine⟨c1,c2,c3,c4,hx,?_⟩
   rw[hb,c5,hj _ (by omega)]
theorem yS {v:Nat} {e:List dF} {fs:List Nat} (h:iw v e=.ok fs): ∀(f i:Nat),i<f→i<e.length→2*(gX e f i).lv+fs.getD i 0≤i+2
 |0,i,hf,hi=>absurd hf (by omega)
 |f+1,i,hf,hi=>by
  obtain⟨g0,g1,g2,g3⟩:=yr h hi
  unfold gX
  simp only[mB hi]
  by_cases h4:e[i].op=4∨e[i].op=5
  ·have hc:cZ e[i].op=2:=by unfold cZ;rw[if_pos (by omega)]
   obtain⟨c1,c2,c3,c4,c5,c6⟩:=g2 hc
   have ha:=yS h f (fs.getD (i-1) 0-1) (by omega) (by omega)
   have hb:=yS h f (i-1) (by omega) (by omega)
   have ea:e[i].a.toNat=fs.getD (i-1) 0-1:=by omega
   have eb:e[i].b.toNat=i-1:=by omega
   rw[ea]at c6
   rw[ea,eb]
   rcases h4 with h4|h4
   ·simp only[h4]
    show 2*((gX e f _).lv+(gX e f _).lv)+_≤_
    omega
   ·simp only[h4]
    show 2*((gX e f _).lv+(gX e f _).lv)+_≤_
    omega
  ·rw[if_neg (show¬e[i].op=4 by omega),if_neg (show¬e[i].op=5 by omega)]
   repeat' split
   all_goals (show 2*1+_≤_;omega)
theorem qy {v:Nat} {e:List dF} {fs:List Nat} (h:iw v e=.ok fs) (hl: ∀x∈e,x.op≠9∧x.op≠10): ∀(f i:Nat),i<f→i<e.length→(gX e f i).plain=true
 |0,i,hf,hi=>absurd hf (by omega)
 |f+1,i,hf,hi=>by
  have ht:=oA h i hi
  have hs:=jT (pk h hi)
  have hx:=hl _ (List.getElem_mem hi)
  unfold gX
  simp only[mB hi]
  obtain⟨x,AH⟩: ∃x,x=e[i]:=⟨_,F⟩
  rw[←AH]at ht hs hx⊢
  obtain⟨o,p,n,a,b⟩:=x
  clear AH
  obtain⟨h1,h2,h3,h4,h5⟩:=hs
  simp only at ht h1 h2 hx⊢
  clear h3 h4 h5
  have one:1≤cZ o→(gX e f a.toNat).plain=true:=fun hh=>by
   obtain⟨j,rfl,hj⟩:=ht.1 hh
   exact qy h hl f j (by omega) (by omega)
  have two:2≤cZ o→(gX e f b.toNat).plain=true:=fun hh=>by
   obtain⟨j,rfl,hj⟩:=ht.2 hh
   exact qy h hl f j (by omega) (by omega)
  clear ht
  have hk:o=1∨o=2∨o=3∨o=4∨o=5∨o=6∨o=7∨o=8:=by omega
  rcases hk with rfl|rfl|rfl|rfl|rfl|rfl|rfl|rfl<;>simp[cZ,Rx.plain]at one two⊢ <;>simp_all
end Go.Lx

namespace Go.Lx
open Go.RowKit
theorem jg {v B:Nat} {M:bU} {p:Lg} (h:eF (v:Int) B M p) (hB:B≤4096):eF (v:Int) B (minOf v p) p:=by rw[←fD h hB];exact h
theorem yT {v:Nat} {a:bU} (h:a.vars=(v:Int)):da a=2^v:=by unfold da;rw[h];rfl
theorem kH {v B:Nat} (hv:v≤6) (hB:B≤4096) {a b:bU} {p q:Lg} {n m:Nat} (ha:HasL (v:Int) n a p) (hb:HasL (v:Int) m b q) (h:yD a b (da a) B):eF (v:Int) B (minOf v (ki p q)) (ki p q):=by
 rw[show yD a b (da a) B=yD a b (2^v) B by rw[yT ha.vars]]at h
 obtain⟨M,hM⟩:=Eh (fin:=FH (GC a b) xx (Pq b)) hv hB h
 refine jg (M:=M) (hM.to fun u hu=>?_) hB
 rw[AJ ha.valid hb.valid (by rw[ha.vars,hb.vars]) (fun x hx=>by rw[yT ha.vars];simpa using hu x hx)]
 exact nk (fun w hw=>ha.gq w hw) (fun w hw=>hb.gq w hw) hu
theorem Bd {v B:Nat} (hv:v≤6) (hB:B≤4096) {a:bU} {p:Lg} {n:Nat} (ha:HasL (v:Int) n a p) (h:Cz a (da a) B):eF (v:Int) B (minOf v (pQ p)) (pQ p):=by
 rw[show Cz a (da a) B=Cz a (2^v) B by rw[yT ha.vars]]at h
 obtain⟨M,hM⟩:=Eh (fin:=FH (GS a) zk (LJ a)) hv hB h
 refine jg (M:=M) (hM.to fun u hu=>?_) hB
 rw[xy ha.valid (fun x hx=>by rw[yT ha.vars];simpa using hu x hx)]
 exact tq (fun w hw=>ha.gq w hw) hu
theorem dH {v B:Nat} (hv:v≤6) (hB:B≤4096): ∀ {t:Rx},t.plain=true→iP v t B→eF (v:Int) B (minOf v (gd t)) (gd t)
 | .none,_,h=>jg (Is hv h) hB
 | .empty,_,h=>by
  have h1:=(ug (ft 0 0) hv (Nat.zero_le 1)).qL
  exact jg (M:=gJ (CB v 0 (ft 0 0))) ⟨h1.toHasL.le h,h1.min⟩ hB
 | .letter p n,_,h=>by
  have h1:=(ug (ft p n) hv (Nat.le_refl 1)).qL
  exact jg (M:=gJ (CB v 1 (ft p n))) ⟨h1.toHasL.le h,h1.min⟩ hB
 | .jl a b,hp,h=>by
  simp only[Rx.plain,Bool.and_eq_true]at hp
  exact kH hv hB (dH hv hB hp.1 h.1).toHasL (dH hv hB hp.2 h.2.1).toHasL h.2.2
 | .j5 a b,hp,h=>by
  simp only[Rx.plain,Bool.and_eq_true]at hp
  exact jg (Vz (dH hv hB hp.1 h.1) (dH hv hB hp.2 h.2.1) h.2.2.1 h.2.2.2) hB
 | .and a b,hp,h=>by
  simp only[Rx.plain,Bool.and_eq_true]at hp
  exact jg (Vz (dH hv hB hp.1 h.1) (dH hv hB hp.2 h.2.1) h.2.2.1 h.2.2.2) hB
 | .not a,hp,h=>jg (notM (dH hv hB (t:=a) hp h.1).toHasL h.2) hB
 | .star a,hp,h=>Bd hv hB (dH hv hB (t:=a) hp h.1).toHasL h.2
 | .ahead a,hp,h=>absurd hp (by simp[Rx.plain])
 | .behind a,hp,h=>absurd hp (by simp[Rx.plain])
theorem Jg {v B:Nat} (hv:v≤6) (hB:B≤4096): ∀ {t:Rx},t.wf=true→okB v t B→(∀a b,t≠.jl a b)→(∀a b,t≠.j5 a b)→ ∃p,eF (v:Int) B (nI v t).d p
 | .none,hw,h,_,_=>⟨_,dH hv hB (t:=.none) hw h⟩
 | .empty,hw,h,_,_=>⟨_,dH hv hB (t:=.empty) hw h⟩
 | .letter p n,hw,h,_,_=>⟨_,dH hv hB (t:=.letter p n) hw h⟩
 | .and a b,hw,h,_,_=>⟨_,dH hv hB (t:=.and a b) hw h⟩
 | .not a,hw,h,_,_=>⟨_,dH hv hB (t:=.not a) hw h⟩
 | .star a,hw,h,_,_=>⟨_,dH hv hB (t:=.star a) hw h⟩
 | .jl a b,_,_,h,_=>absurd F (h a b)
 | .j5 a b,_,_,_,h=>absurd F (h a b)
 | .ahead a,hw,h,_,_=>⟨_,kH hv hB (dH hv hB (t:=a) hw h.1).toHasL (eR hv) h.2⟩
 | .behind a,hw,h,_,_=>⟨_,kH hv hB (eR hv) (dH hv hB (t:=a) hw h.1).toHasL h.2⟩
def tC (v B:Nat) (l:Lf):Prop:=(∃p,eF (v:Int) B l.d p)∧(l.op=0∨l.op=9∨l.op=10)
def Jh (ls:List Lf):Prop:= ∀k,k<ls.length→ ∀j∈(lf ls k).fo,k<j∧j<ls.length
theorem Ji {ls:List Lf} {k i:Nat} {q:Lf} (hk:k<ls.length):lf (ls.set k q) i=if i=k then q else lf ls i:=by
 unfold lf
 rw[List.getD_eq_getElem?_getD,List.getD_eq_getElem?_getD]
 by_cases e:i=k
 ·subst e;rw[List.getElem?_set_self hk,if_pos F];rfl
 ·rw[List.getElem?_set_ne (fun h=>e h.symm),if_neg e]
theorem Ei {v B:Nat}: ∀(b x:List Nat) (ls:List Lf),(∀l∈ls,tC v B l)→Jh ls→(∀k∈b,k<ls.length∧ ∀j∈x,k<j∧j<ls.length)→(∀l∈ko ls b x,tC v B l)∧Jh (ko ls b x)
 | [],x,ls,h1,h2,_=>⟨h1,h2⟩
 |k::b,x,ls,h1,h2,h3=>by
  obtain⟨hk,hj⟩:=h3 k (by simp)
  refine Ei b x (ls.set k {lf ls k with fo:=(lf ls k).fo++x}) (fun l hl=>?_) (fun i hi j qj=>?_) (fun k2 lC=>?_)
  ·rcases List.mem_or_eq_of_mem_set hl with hl|rfl
   ·exact h1 l hl
   ·have h9:=h1 _ (iU hk);exact⟨h9.1,h9.2⟩
  ·rw[List.length_set]at hi⊢
   rw[Ji hk]at qj
   split at qj
   ·rename_i e
    subst e
    rcases List.mem_append.1 qj with h|h
    ·exact h2 i hk j h
    ·exact hj j h
   ·exact h2 i hi j qj
  ·rw[List.length_set];exact h3 k2 (by simp[lC])
theorem Jh.snoc {ls:List Lf} {q:Lf} (h:Jh ls) (hq:q.fo=[]):Jh (ls++[q]):=fun k hk j hj=>by
 rw[List.length_append,List.length_singleton]at hk⊢
 unfold lf at hj
 rw[List.getD_eq_getElem?_getD]at hj
 by_cases e:k<ls.length
 ·rw[List.getElem?_append_left e]at hj
  have:=h k e j (by unfold lf;rw[List.getD_eq_getElem?_getD];exact hj)
  omega
 ·rw[List.getElem?_append_right (by omega),show k-ls.length=0 by omega]at hj
  simp[hq]at hj
theorem Jj {v B:Nat} (hv:v≤6) (hB:B≤4096): ∀(t:Rx) (ls:List Lf),t.wf=true→okB v t B→(∀l∈ls,tC v B l)→Jh ls→(∀l∈(aH v t ls).ls,tC v B l)∧Jh (aH v t ls).ls:=by
 have leaf: ∀(t:Rx) (ls:List Lf),t.wf=true→okB v t B→(∀a b,t≠.jl a b)→(∀a b,t≠.j5 a b)→(nI v t).fo=[]→((nI v t).op=0∨(nI v t).op=9∨(nI v t).op=10)→(∀l∈ls,tC v B l)→Jh ls→(∀l∈ls++[nI v t],tC v B l)∧Jh (ls++[nI v t]):=fun t ls hw ho n1 n2 hf IL h1 h2=>by
  refine⟨fun l hl=>?_,h2.snoc hf⟩
  rcases List.mem_append.1 hl with hl|hl
  ·exact h1 l hl
  ·rw[List.mem_singleton.1 hl];exact⟨Jg hv hB hw ho n1 n2,IL⟩
 intro t
 induction t with
 |jl a b Je Jf=>
  intro ls hw ho h1 h2
  simp only[Rx.wf,Bool.and_eq_true]at hw
  obtain⟨a1,a2⟩:=Je ls hw.1 ho.1 h1 h2
  obtain⟨b1,b2⟩:=Jf _ hw.2 ho.2 a1 a2
  refine Ei _ _ _ b1 b2 fun k hk=>?_
  have k1:=(eU v a ls).2.1 k hk
  have HX:=dR v a ls
  have VE:=dR v b (aH v a ls).ls
  refine⟨by omega,fun j hj=>?_⟩
  have k2:=(eU v b (aH v a ls).ls).1 j hj
  omega
 |j5 a b Je Jf=>
  intro ls hw ho h1 h2
  simp only[Rx.wf,Bool.and_eq_true]at hw
  obtain⟨a1,a2⟩:=Je ls hw.1 ho.1 h1 h2
  exact Jf _ hw.2 ho.2 a1 a2
 |none=>exact fun ls hw ho=>leaf .none ls hw ho (by simp) (by simp) F (.inl F)
 |empty=>exact fun ls hw ho=>leaf .empty ls hw ho (by simp) (by simp) F (.inl F)
 |letter p n=>exact fun ls hw ho=>leaf (.letter p n) ls hw ho (by simp) (by simp) F (.inl F)
 |and a b _ _=>exact fun ls hw ho=>leaf (.and a b) ls hw ho (by simp) (by simp) F (.inl F)
 |not a _=>exact fun ls hw ho=>leaf (.not a) ls hw ho (by simp) (by simp) F (.inl F)
 |star a _=>exact fun ls hw ho=>leaf (.star a) ls hw ho (by simp) (by simp) F (.inl F)
 |ahead a _=>exact fun ls hw ho=>leaf (.ahead a) ls hw ho (by simp) (by simp) F (.inr (.inl F))
 |behind a _=>exact fun ls hw ho=>leaf (.behind a) ls hw ho (by simp) (by simp) F (.inr (.inr F))
theorem Ej {v B:Nat}: ∀(la:List Nat) (ls:List Lf),(∀l∈ls,tC v B l∧l.fo.length≤1000000)→Jh ls→(∀k∈la,k<ls.length)→(∀l∈nH ls la,tC v B l∧l.fo.length≤1000000)∧Jh (nH ls la)
 | [],ls,h1,h2,_=>⟨h1,h2⟩
 |k::la,ls,h1,h2,h3=>by
  have hk:=h3 k (by simp)
  refine Ej la (ls.set k {lf ls k with la:=true}) (fun l hl=>?_) (fun i hi j hj=>?_) (fun k2 lC=>by rw[List.length_set];exact h3 k2 (by simp[lC]))
  ·rcases List.mem_or_eq_of_mem_set hl with hl|rfl
   ·exact h1 l hl
   ·have h9:=h1 _ (iU hk);exact⟨⟨h9.1.1,h9.1.2⟩,h9.2⟩
  ·rw[List.length_set]at hi⊢
   rw[Ji hk]at hj
   split at hj
   ·rename_i e;subst e;exact h2 i hk j hj
   ·exact h2 i hi j hj
theorem HN {v B:Nat} (hv:v≤6) (hB:B≤4096) {t:Rx} (hw:t.wf=true) (Kl:t.lv≤12) (h:okB v t B):gN (lD v t) v:=by
 obtain⟨h1,h2⟩:=Jj hv hB t [] hw h (fun l hl=>by simp at hl) (fun k hk=>by simp at hk)
 have h3:=pu v t [] 0 (fun l hl=>by simp at hl)
 have h4:t.lv*t.lv≤144:=Nat.mul_le_mul Kl Kl
 obtain⟨h5,h6⟩:=Ej (v:=v) (B:=B) (aH v t []).la (aH v t []).ls (fun l hl=>⟨h1 l hl,by have:=h3 l hl;omega⟩) h2 (fun k hk=>by
  have:=(eU v t []).2.1 k hk;rw[dR];exact this.2)
 refine⟨by rw[Be];exact Kl,fun l hl=>?_,fun l hl=>?_,fun l hl=>(h5 l hl).1.2,fun k hk j hj=>h6 k hk j hj,fun l hl=>(h5 l hl).2⟩
 ·obtain⟨p,hp⟩:=(h5 l hl).1.1;exact hp.valid
 ·obtain⟨p,hp⟩:=(h5 l hl).1.1;exact hp.vars
end Go.Lx

namespace Go.Proofs.YtgdbfideeeegmaaGreatDoor
open Go.Lx Go.RowKit _root_.Go.Proofs.Tryz
def wy (e:List dF):Rx:=gX e e.length (e.length-1)
noncomputable def oD (v:Nat) (e:List dF):Lg:=if e.any lu=true then Vu v (wy e)else gd (wy e)
def wA (v:Nat) (e:List dF) (B:Nat):Prop:=if e.any lu=true then Uj v (wy e) B else iP v (wy e) B
theorem Jb {v B B':Nat} {e:List dF} (hB:B≤B') (h:wA v e B):wA v e B':=by
 unfold wA at*;split
 ·rename_i c;rw[if_pos c]at h;exact Jc hB h
 ·rename_i c;rw[if_neg c]at h;exact eP hB h
theorem yp {vars:Int} {e:List dF} (h:iD vars e=0):0≤vars∧vars≤6∧0<e.length∧e.length≤64∧ ∃fs,iw vars.toNat e=.ok fs∧fs.getD (e.length-1) 0=0∧lg e e.length (e.length-1) true=true:=by
 unfold iD at h
 split at h
 ·omega
 ·split at h
  ·omega
  ·split at h
   ·omega
   ·cases hb:iw vars.toNat e with
    |error n=>simp only[hb]at h;exact absurd h (yO hb)
    |ok fs=>
     simp only[hb]at h
     split at h
     ·omega
     ·split at h
      ·rename_i h1 h2 h3 h4 h5
       exact⟨by omega,by omega,by omega,by omega,fs,F,by omega,h5⟩
      ·omega
set_option maxRecDepth 20000 in
theorem HP (base:World) [cG Tryz.prog base] (eb:Option Addr) (ec:Nat) (e:List dF) (hE:Sl base eb (bg e)) (CX:e.length<4611686018427387904) (nK: ∀x∈e,x.p<256∧x.n<256) (vars gR:Int) (MV:e.any lu=true→e.length≤24) {K:Nat} (Ui:K<137438953472) (yN: ∀cb,Qp cb eb e.length ec vars.toNat gR.toNat e)
  (hK:iD vars e=0→e.any lu=true→okB vars.toNat (wy e) gR.toNat→oC (lD vars.toNat (wy e)) K):
  bm Tryz.prog base 19 [.slice eb e.length ec,.int .i64 vars,.int .i64 gR] [] (Xa (iD vars e) gR (fun M=>eF vars gR.toNat M (oD vars.toNat e)∧wA vars.toNat e gR.toNat) (¬wA vars.toNat e gR.toNat)):=by
 refine NZ base eb e.length ec vars (iD vars e) gR _ _ (fun w1 _ hI=>Ee w1 eb ec e (hI.sl hE) CX nK vars) ?_
 intro h0 Cd zM w8 _ cb hI dz
 obtain⟨h1,h2,h3,h4,fs,h5,h6,h7⟩:=yp h0
 obtain⟨v,rfl⟩: ∃v:Nat,vars=(v:Int):=⟨vars.toNat,by omega⟩
 obtain⟨B,rfl⟩: ∃B:Nat,gR=(B:Int):=⟨gR.toNat,by omega⟩
 simp only[Int.toNat_natCast]at*
 have Gv:BW e (wy e) (e.length-1):=jx h5 nK e.length (e.length-1) (by omega) (by omega)
 by_cases hl:e.any lu=true
 ·have hw:(wy e).wf=true:=(uj h5 e.length (e.length-1) (by omega) (by omega)).2 h7
  have Kl:(wy e).lv≤12:=by
   have:=yS h5 e.length (e.length-1) (by omega) (by omega)
   have:=MV hl
   unfold wy;omega
  refine(IZ w8 cb eb e.length ec v B dz (by omega) (by omega) (by omega) e (hI.sl hE) F h3 h4 (wy e) Gv (yN cb) hl hw Kl Ui (fun ho=>HN (by omega) (by omega) hw Kl ho) (fun ho=>hK h0 hl ho)).mono ?_ ?_
  ·rintro r O' ⟨M,k,rfl,rfl,hM,hO⟩
   exact⟨M,k,F,F,by unfold oD;rw[if_pos hl];exact hM,by unfold wA;rw[if_pos hl];exact hO⟩
  ·intro hz;unfold wA;rw[if_pos hl];exact hz
 ·have Zh:e.any lu=false:=by simpa using hl
  have hp:(wy e).plain=true:=qy h5 (fun x hx=>by
   have:=List.any_eq_false.1 Zh x hx
   unfold lu at this
   simp only[Bool.or_eq_true,decide_eq_true_eq]at this
   omega) e.length (e.length-1) (by omega) (by omega)
  refine(FV w8 cb eb e.length ec v B dz (by omega) (by omega) (by omega) e (hI.sl hE) F h3 h4 (wy e) Gv (yN cb).pl Zh hp).mono ?_ ?_
  ·rintro r O' ⟨M,k,rfl,rfl,hM,hO⟩
   exact⟨M,k,F,F,by unfold oD;rw[if_neg hl];exact hM,by unfold wA;rw[if_neg hl];exact hO⟩
  ·intro hz;unfold wA;rw[if_neg hl];exact hz
def VK (E:Nat) (gR:Int) (G:bU→Prop) (Z:Prop) (D:bU) (er:Nat):Prop:=
 (E≠0∧er=E∧D=zv)∨(E=0∧ ¬(1≤gR∧gR≤4096)∧er=1∧D=zv)∨(E=0∧(1≤gR∧gR≤4096)∧((er=0∧G D)∨(er=10∧D=zv∧Z)))
theorem DS {base:World} {eb:Option Addr} {ec E n:Nat} {vars gR:Int} {G:bU→Prop} {Z:Prop} (h:bm Tryz.prog base 19 [.slice eb n ec,.int .i64 vars,.int .i64 gR] [] (Xa E gR G Z)):
  bI Tryz.prog 19 [.slice eb n ec,.int .i64 vars,.int .i64 gR] base fun v N=> ∃D k er,v=.tuple #[dV D k,.int .i64 ((er:Nat):Int)]∧N=[dI 56 4 3 D k]∧VK E gR G Z D er:=by
 refine(x0 56 4 3 h).post ?_
 rintro v O' ⟨O2,rfl,h⟩
 rcases h with⟨h1,rfl,rfl⟩|⟨h1,h2,rfl,rfl⟩|⟨h1,h2,⟨M,k,rfl,rfl,hG⟩|⟨rfl,rfl,hZ⟩⟩
 ·exact⟨_,Sub.rf,zv,RC,E,F,F,.inl ⟨h1,F,F⟩⟩
 ·exact⟨_,Sub.rf,zv,RC,1,F,F,.inr (.inl ⟨h1,h2,F,F⟩)⟩
 ·exact⟨_,ar [1] F,M,k,0,F,F,.inr (.inr ⟨h1,h2,.inl ⟨F,hG⟩⟩)⟩
 ·exact⟨_,Sub.rf,zv,RC,10,F,F,.inr (.inr ⟨h1,h2,.inr ⟨F,F,hZ⟩⟩)⟩
end Go.Proofs.YtgdbfideeeegmaaGreatDoor

namespace Go.Lx
open Go.RowKit
structure En where
 c:Nat
 n:Nat
 r:Nat
 f:Nat
def En.to (e:En) (s x:Nat):Nat:=(e.r>>>(4*(e.c*s+x)))%16
def En.fi (e:En) (s:Nat):Bool:=e.f.testBit s
theorem En.EH (e:En) (s x:Nat):e.to s x<16:=Nat.mod_lt _ (by decide)
structure Mc where
 c:Nat
 s0:Nat
 st:Nat→Nat→Nat
 fi:Nat→Bool
def Mc.run (m:Mc) (s:Nat) (w:List Nat):Nat:=w.foldl m.st s
def En.mc (e:En):Mc:=⟨e.c,0,e.to,e.fi⟩
def sN (v:Nat) (m:Mc) (p:Lg):Prop:= ∃h:Nat→Nat,(∀x,x<2^v→h x<m.c)∧ ∀w,nT (v:Int) w→p w=m.fi (m.run m.s0 (w.map h))
def fo {α:Type} (n:Nat) (k:Nat→α):α:=Nat.rec (motive:=fun _=>α) (k 0) (fun m _=>k (Nat.succ m)) n
theorem JM {α:Type} (n:Nat) (k:Nat→α):fo n k=k n:=by cases n<;>rfl
def Bu (n:Nat) (p:Nat→Bool):Bool:=Nat.rec (motive:=fun _=>Bool) true (fun k ih=>cond (p k) ih false) n
theorem o6 {p:Nat→Bool}: ∀ {n:Nat},Bu n p=true↔ ∀k,k<n→p k=true
 |0=>⟨fun _ k hk=>absurd hk (by omega),fun _=>rfl⟩
 |n+1=>by
  have ih:=o6 (p:=p) (n:=n)
  have e:Bu (n+1) p=cond (p n) (Bu n p) false:=rfl
  rw[e]
  cases h:p n with
  |false=>exact⟨fun h2=>Bool.noConfusion h2,fun h2=>by rw[h2 n (by omega)]at h;cases h⟩
  |true=>
   show Bu n p=true↔_
   rw[ih]
   exact⟨fun h2 k hk=>(Nat.lt_succ_iff_lt_or_eq.1 hk).elim (h2 k) fun e=>e▸h,fun h2 k hk=>h2 k (by omega)⟩
noncomputable def Bv (l:List Nat) (x:Nat):Bool:=List.rec (motive:=fun _=>Bool) false (fun y _ ih=>cond (Nat.beq x y) true ih) l
theorem vX {x:Nat}: ∀ {l:List Nat},Bv l x=true↔x∈l
 | []=>by simp[Bv]
 |y::l=>by
  have ih:=vX (x:=x) (l:=l)
  have e:Bv (y::l) x=cond (Nat.beq x y) true (Bv l x):=rfl
  rw[e]
  cases h:Nat.beq x y with
  |true=>have:=Nat.eq_of_beq_eq_true h;subst this;simp
  |false=>
   have h2:x≠y:=Nat.ne_of_beq_eq_false h
   show Bv l x=true↔_
   rw[ih];simp[h2]
noncomputable def xP (l:List Nat) (p:Nat→Bool):Bool:=List.rec (motive:=fun _=>Bool) true (fun y _ ih=>cond (p y) ih false) l
theorem xQ {p:Nat→Bool}: ∀ {l:List Nat},xP l p=true↔ ∀x∈l,p x=true
 | []=>by simp[xP]
 |y::l=>by
  have ih:=xQ (p:=p) (l:=l)
  have e:xP (y::l) p=cond (p y) (xP l p) false:=rfl
  rw[e]
  cases h:p y with
  |false=>simp[h]
  |true=>show xP l p=true↔_;rw[ih];simp[h]
noncomputable def Xo (c:Nat) (st:Nat→Nat→Nat) (n:Nat):List Nat→List Nat→List Nat:=
 Nat.rec (motive:=fun _=>List Nat→List Nat→List Nat) (fun _ seen=>seen) (fun _ ih todo seen=>
  List.rec (motive:=fun _=>List Nat) seen (fun s rest _=>
   (Nat.rec (motive:=fun _=>List Nat→List Nat→List Nat) (fun t sn=>ih t sn) (fun x k t sn=>fo (st s x) fun y=>cond (Bv sn y) (k t sn) (k (y::t) (y::sn))) c:List Nat→List Nat→List Nat) rest seen) todo) n
noncomputable def UP (m:Mc) (e:En) (g:Nat) (L:List Nat):Bool:=
 Bv L (m.s0*16)&&xP L fun p=>((m.fi (p/16)==e.fi (p%16))&&Bu m.c fun x=>fo (m.st (p/16) x*16+e.to (p%16) ((g>>>(4*x))%16)) (Bv L))
theorem Mq {m:Mc} {e:En} {g:Nat} {L:List Nat} (h:UP m e g L=true): ∀ {w:List Nat} {s t:Nat},t<16→s*16+t∈L→(∀x∈w,x<m.c)→m.fi (m.run s w)=e.fi (e.mc.run t (w.map fun x=>(g>>>(4*x))%16)):=by
 unfold UP at h
 rw[Bool.and_eq_true,xQ]at h
 intro w
 induction w with
 |nil=>
  intro s t ht hm _
  have h2:=h.2 _ hm
  rw[Bool.and_eq_true]at h2
  have h3:=h2.1
  rw[show(s*16+t)/16=s by omega,show(s*16+t)%16=t by omega]at h3
  exact eq_of_beq h3
 |cons x w ih=>
  intro s t ht hm hw
  have h2:=h.2 _ hm
  rw[Bool.and_eq_true,o6]at h2
  have h3:=h2.2 x (hw x (by simp))
  rw[JM,vX,show(s*16+t)/16=s by omega,show(s*16+t)%16=t by omega]at h3
  exact ih (e.EH _ _) h3 fun y hy=>hw y (by simp[hy])
theorem Mr {v:Nat} {m:Mc} {e:En} {g:Nat} {L:List Nat} {p:Lg} (h:UP m e g L=true) (hg: ∀x,x<m.c→(g>>>(4*x))%16<e.c) (hr:sN v m p):sN v e.mc p:=by
 obtain⟨k,h1,h2⟩:=hr
 refine⟨fun x=>(g>>>(4*k x))%16,fun x hx=>hg _ (h1 x hx),fun w hw=>?_⟩
 have h0:m.s0*16+0∈L:=by
  unfold UP at h;rw[Bool.and_eq_true]at h;exact vX.1 h.1
 rw[h2 w hw,Mq h (by decide) h0 (fun x hx=>by obtain⟨y,hy,rfl⟩:=List.mem_map.1 hx;exact h1 y (by simpa using hw y hy)),List.map_map]
 rfl
def vY (a:En):Mc:=⟨a.c,0,a.to,fun s=>!a.fi s⟩
def mF (o:Bool→Bool→Bool) (a b:En):Mc:=⟨a.c*b.c,0,fun s z=>a.to (s/16) (z/b.c)*16+b.to (s%16) (z%b.c),fun s=>o (a.fi (s/16)) (b.fi (s%16))⟩
def QX (b:En) (m y:Nat):Nat:=Nat.rec (motive:=fun _=>Nat) 0 (fun k ih=>ih|||cond (m.testBit k) (2^b.to k y) 0) 16
def QY (a:En) (p m:Nat):Nat:=p+16*(m|||(a.fi p).toNat)
def rI (a b:En):Mc:=⟨a.c*b.c,QY a 0 0,fun s z=>fo (a.to (s%16) (z/b.c)) fun p=>QY a p (QX b (s/16) (z%b.c)),fun s=>!Nat.beq ((s/16)&&&b.f) 0⟩
def lR (a:En):Mc:=⟨a.c,65537,fun s z=>fo (QX a s z) fun m=>m|||(!Nat.beq (m&&&a.f) 0).toNat,fun s=>s.testBit 16||!Nat.beq (s&&&a.f) 0⟩
theorem Ms {v:Nat} {a:En} {p:Lg} (h:sN v a.mc p):sN v (vY a) (fun u=>!p u):=by
 obtain⟨k,h1,h2⟩:=h
 exact⟨k,h1,fun w hw=>by show(!p w)=_;rw[h2 w hw];rfl⟩
theorem vZ {x y a b:Nat} (hx:x<a) (hy:y<b):x*b+y<a*b:=by
 have:=Nat.mul_le_mul_right b (show x+1≤a by omega)
 rw[Nat.add_mul]at this;omega
theorem rJ {x y b:Nat} (hy:y<b):(x*b+y)/b=x∧(x*b+y)%b=y:=by
 have hb:0<b:=by omega
 refine⟨?_,?_⟩
 ·rw[Nat.mul_comm,Nat.mul_add_div hb,Nat.div_eq_of_lt hy];omega
 ·rw[Nat.mul_comm,Nat.mul_add_mod,Nat.mod_eq_of_lt hy]
theorem JN (o:Bool→Bool→Bool) (a b:En) (h k:Nat→Nat): ∀(w:List Nat) {s t:Nat},(∀x∈w,k x<b.c)→t<16→(mF o a b).run (s*16+t) (w.map fun x=>h x*b.c+k x)=a.mc.run s (w.map h)*16+b.mc.run t (w.map k)∧b.mc.run t (w.map k)<16
 | [],s,t,_,ht=>⟨F,ht⟩
 |x::w,s,t,hk,ht=>by
  have:=JN o a b h k w (s:=a.to s (h x)) (t:=b.to t (k x)) (fun y hy=>hk y (by simp[hy])) (b.EH _ _)
  obtain⟨e1,e2⟩:=rJ (x:=h x) (hk x (by simp))
  have e:(mF o a b).st (s*16+t) (h x*b.c+k x)=a.to s (h x)*16+b.to t (k x):=by
   show a.to ((s*16+t)/16) _*16+b.to ((s*16+t)%16) _=_
   rw[e1,e2,show(s*16+t)/16=s by omega,show(s*16+t)%16=t by omega]
  unfold Mc.run at this⊢
  rw[List.map_cons,List.foldl_cons,e]
  exact this
theorem y5 {v:Nat} {a b:En} {p q:Lg} (o:Bool→Bool→Bool) (ha:sN v a.mc p) (hb:sN v b.mc q):sN v (mF o a b) (fun u=>o (p u) (q u)):=by
 obtain⟨h,h1,h2⟩:=ha
 obtain⟨k,k1,k2⟩:=hb
 refine⟨fun x=>h x*b.c+k x,fun x hx=>vZ (h1 x hx) (k1 x hx),fun w hw=>?_⟩
 have:=JN o a b h k w (s:=0) (t:=0) (fun x hx=>k1 x (by simpa using hw x hx)) (by decide)
 show o (p w) (q w)=o (a.fi ((mF o a b).run 0 _/16)) (b.fi ((mF o a b).run 0 _%16))
 have e:(mF o a b).run 0 (w.map fun x=>h x*b.c+k x)=a.mc.run 0 (w.map h)*16+b.mc.run 0 (w.map k):=this.1
 rw[e,show(a.mc.run 0 (w.map h)*16+b.mc.run 0 (w.map k))/16=a.mc.run 0 (w.map h) by have:=this.2;omega,show(a.mc.run 0 (w.map h)*16+b.mc.run 0 (w.map k))%16=b.mc.run 0 (w.map k) by have:=this.2;omega,h2 w hw,k2 w hw]
 rfl
theorem EI (b:En) (m y t:Nat): ∀n,(Nat.rec (motive:=fun _=>Nat) 0 (fun k ih=>ih|||cond (m.testBit k) (2^b.to k y) 0) n:Nat).testBit t=true↔ ∃q,q<n∧m.testBit q=true∧b.to q y=t
 |0=>by
  show(0:Nat).testBit t=true↔_
  simp
 |n+1=>by
  have ih:=EI b m y t n
  show((Nat.rec (motive:=fun _=>Nat) 0 (fun k ih=>ih|||cond (m.testBit k) (2^b.to k y) 0) n:Nat)|||cond (m.testBit n) (2^b.to n y) 0).testBit t=true↔_
  rw[Nat.testBit_or,Bool.or_eq_true,ih]
  constructor
  ·rintro(⟨q,h1,h2⟩|h)
   ·exact⟨q,by omega,h2⟩
   ·cases hm:m.testBit n with
    |false=>rw[hm]at h;simp at h
    |true=>
     rw[hm]at h
     have h:(2^b.to n y).testBit t=true:=h
     rw[Nat.testBit_two_pow]at h
     exact⟨n,by omega,hm,by simpa using h⟩
  ·rintro⟨q,h1,h2,h3⟩
   rcases Nat.lt_succ_iff_lt_or_eq.1 h1 with c|rfl
   ·exact .inl ⟨q,c,h2,h3⟩
   ·refine .inr ?_
    rw[h2]
    show(2^b.to q y).testBit t=true
    rw[Nat.testBit_two_pow];simpa using h3
theorem y6 {b:En} {m y t:Nat}:(QX b m y).testBit t=true↔ ∃q,q<16∧m.testBit q=true∧b.to q y=t:=EI b m y t 16
theorem nv (c:Bool) (t:Nat):c.toNat.testBit t=true↔c=true∧t=0:=by
 cases c with
 |false=>simp
 |true=>
  show(2^0).testBit t=true↔_
  rw[Nat.testBit_two_pow];simp[eq_comm]
theorem v7 {m f:Nat}:(!Nat.beq (m&&&f) 0)=true↔ ∃q,m.testBit q=true∧f.testBit q=true:=by
 rw[Bool.not_eq_true']
 constructor
 ·intro h
  have h2:m&&&f≠0:=Nat.ne_of_beq_eq_false h
  obtain⟨q,hq⟩:=Nat.exists_testBit_of_ne_zero h2
  rw[Nat.testBit_and,Bool.and_eq_true]at hq
  exact⟨q,hq⟩
 ·rintro⟨q,h1,h2⟩
  cases hb:Nat.beq (m&&&f) 0 with
  |false=>rfl
  |true=>
   have h3:=Nat.eq_of_beq_eq_true hb
   have h4:(m&&&f).testBit q=true:=by rw[Nat.testBit_and,h1,h2];rfl
   rw[h3]at h4;simp at h4
theorem kp (m:Mc) (s:Nat) (w:List Nat) (x:Nat):m.run s (w++[x])=m.st (m.run s w) x:=by unfold Mc.run;rw[List.foldl_append];rfl
theorem xR (e:En): ∀ {w:List Nat},e.mc.run 0 w<16:=by
 intro w
 rcases List.eq_nil_or_concat w with rfl|⟨u,x,rfl⟩
 ·exact Nat.zero_lt_succ _
 ·rw[List.concat_eq_append,kp];exact e.EH _ _
theorem qE {α:Type} {w u t:List α} {x:α} (h:w++[x]=u++t):(t=[]∧u=w++[x])∨ ∃t',t=t'++[x]∧w=u++t':=by
 rcases List.eq_nil_or_concat t with rfl|⟨t',y,rfl⟩
 ·exact .inl ⟨F,by simpa using h.symm⟩
 ·rw[List.concat_eq_append,←List.append_assoc]at h
  have:=List.append_inj' h F
  refine .inr ⟨t',?_,this.1⟩
  rw[List.concat_eq_append,List.singleton_inj.1 this.2]
theorem Bw {a b:En} {h k:Nat→Nat}: ∀(n:Nat) {w:List Nat},w.length=n→(∀x∈w,k x<b.c)→ ∃m,(rI a b).run (rI a b).s0 (w.map fun x=>h x*b.c+k x)=a.mc.run 0 (w.map h)+16*m∧ ∀q,m.testBit q=true↔ ∃u t,w=u++t∧a.fi (a.mc.run 0 (u.map h))=true∧b.mc.run 0 (t.map k)=q
 |0,w,hl,_=>by
  have:=List.length_eq_zero_iff.1 hl
  subst this
  refine⟨0|||(a.fi 0).toNat,F,fun q=>?_⟩
  rw[Nat.zero_or,nv]
  constructor
  ·rintro⟨h1,rfl⟩;exact⟨[],[],F,h1,F⟩
  ·rintro⟨u,t,e,h1,h2⟩
   have:=List.append_eq_nil_iff.1 e.symm
   obtain⟨rfl,rfl⟩:=this
   exact⟨h1,h2.symm⟩
 |n+1,w,hl,hk=>by
  rcases List.eq_nil_or_concat w with rfl|⟨w,x,rfl⟩
  ·cases hl
  rw[List.concat_eq_append]at hl hk⊢
  obtain⟨m,h1,h2⟩:=Bw (a:=a) (b:=b) (h:=h) (k:=k) n (w:=w) (by simpa using hl) (fun y hy=>hk y (by simp[hy]))
  obtain⟨e1,e2⟩:=rJ (x:=h x) (hk x (by simp))
  have eV:=xR a (w:=w.map h)
  obtain⟨P,hP⟩: ∃P,P=a.to (a.mc.run 0 (w.map h)) (h x):=⟨_,F⟩
  have e3:a.mc.run 0 ((w++[x]).map h)=P:=by rw[List.map_append,List.map_singleton,kp,hP];rfl
  refine⟨QX b m (k x)|||(a.fi P).toNat,?_,fun q=>?_⟩
  ·rw[e3,List.map_append,List.map_singleton,kp,h1]
   show fo (a.to ((_+16*m)%16) _) (fun p=>QY a p (QX b ((_+16*m)/16) _))=_
   rw[JM,e1,e2,show(a.mc.run 0 (w.map h)+16*m)%16=a.mc.run 0 (w.map h) by omega,show(a.mc.run 0 (w.map h)+16*m)/16=m by omega,←hP]
   rfl
  ·rw[Nat.testBit_or,Bool.or_eq_true,y6,nv]
   constructor
   ·rintro(⟨r,_,hr,rfl⟩|⟨hf,rfl⟩)
    ·obtain⟨u,t,rfl,h3,h4⟩:=(h2 r).1 hr
     refine⟨u,t++[x],by simp,h3,?_⟩
     rw[List.map_append,List.map_singleton,kp,h4];rfl
    ·exact⟨w++[x],[],by simp,by rw[e3];exact hf,F⟩
   ·rintro⟨u,t,e,h3,h4⟩
    rcases qE e with⟨rfl,rfl⟩|⟨t',rfl,rfl⟩
    ·rw[e3]at h3;exact .inr ⟨h3,h4.symm⟩
    ·refine .inl ⟨b.mc.run 0 (t'.map k),xR b,(h2 _).2 ⟨u,t',F,h3,F⟩,?_⟩
     rw[←h4,List.map_append,List.map_singleton,kp];rfl
theorem Mt {v:Nat} {a b:En} {p q:Lg} (ha:sN v a.mc p) (hb:sN v b.mc q):sN v (rI a b) (ki p q):=by
 obtain⟨h,h1,h2⟩:=ha
 obtain⟨k,k1,k2⟩:=hb
 refine⟨fun x=>h x*b.c+k x,fun x hx=>vZ (h1 x hx) (k1 x hx),fun w hw=>?_⟩
 obtain⟨m,e1,e2⟩:=Bw (a:=a) (b:=b) (h:=h) (k:=k) _ (w:=w) F (fun x hx=>k1 x (by simpa using hw x hx))
 rw[Bool.eq_iff_iff,e1]
 have eV:=xR a (w:=w.map h)
 show _↔(!Nat.beq ((a.mc.run 0 (w.map h)+16*m)/16&&&b.f) 0)=true
 rw[show(a.mc.run 0 (w.map h)+16*m)/16=m by omega,v7,ju]
 constructor
 ·rintro⟨x,y,rfl,hx,hy⟩
  rw[h2 x (fun z hz=>hw z (by simp[hz]))]at hx
  rw[k2 y (fun z hz=>hw z (by simp[hz]))]at hy
  exact⟨_,(e2 _).2 ⟨x,y,F,hx,F⟩,hy⟩
 ·rintro⟨r,hr,hf⟩
  obtain⟨x,y,rfl,hx,rfl⟩:=(e2 r).1 hr
  refine⟨x,y,F,?_,?_⟩
  ·rw[h2 x (fun z hz=>hw z (by simp[hz]))];exact hx
  ·rw[k2 y (fun z hz=>hw z (by simp[hz]))];exact hf
theorem xS {a:En} {h:Nat→Nat}: ∀(n:Nat) {w:List Nat},w.length=n→(((lR a).run 65537 (w.map h)).testBit 16=true↔w=[])∧ ∀q,q<16→(((lR a).run 65537 (w.map h)).testBit q=true↔ ∃u t,w=u++t∧gC (fun z=>a.fi (a.mc.run 0 (z.map h))) u∧a.mc.run 0 (t.map h)=q)
 |0,w,hl=>by
  have:=List.length_eq_zero_iff.1 hl
  subst this
  refine⟨by simp[Mc.run];decide,fun q hq=>?_⟩
  have e:(65537:Nat)=2^16|||2^0:=by decide
  show(65537:Nat).testBit q=true↔_
  rw[e,Nat.testBit_or,Nat.testBit_two_pow,Nat.testBit_two_pow]
  simp only[Bool.or_eq_true,decide_eq_true_eq]
  constructor
  ·rintro(rfl|rfl)
   ·omega
   ·exact⟨[],[],F,.nil,F⟩
  ·rintro⟨u,t,e,h1,h2⟩
   obtain⟨rfl,rfl⟩:=List.append_eq_nil_iff.1 e.symm
   exact .inr h2
 |n+1,w,hl=>by
  rcases List.eq_nil_or_concat w with rfl|⟨w,x,rfl⟩
  ·cases hl
  rw[List.concat_eq_append]at hl⊢
  obtain⟨_,h2⟩:=xS (a:=a) (h:=h) n (w:=w) (by simpa using hl)
  obtain⟨m,hm⟩: ∃m,m=QX a ((lR a).run 65537 (w.map h)) (h x):=⟨_,F⟩
  have e1:(lR a).run 65537 ((w++[x]).map h)=m|||(!Nat.beq (m&&&a.f) 0).toNat:=by
   rw[List.map_append,List.map_singleton,kp]
   show fo (QX a ((lR a).run 65537 (w.map h)) (h x)) (fun m=>m|||(!Nat.beq (m&&&a.f) 0).toNat)=_
   rw[JM,←hm]
  have hb: ∀q,m.testBit q=true↔ ∃u t,w=u++t∧gC (fun z=>a.fi (a.mc.run 0 (z.map h))) u∧a.mc.run 0 ((t++[x]).map h)=q:=fun q=>by
   rw[hm,y6]
   constructor
   ·rintro⟨r,hr,h3,rfl⟩
    obtain⟨u,t,rfl,h4,h5⟩:=(h2 r hr).1 h3
    refine⟨u,t,F,h4,?_⟩
    rw[List.map_append,List.map_singleton,kp,h5];rfl
   ·rintro⟨u,t,rfl,h4,h5⟩
    refine⟨a.mc.run 0 (t.map h),xR a,(h2 _ (xR a)).2 ⟨u,t,F,h4,F⟩,?_⟩
    rw[←h5,List.map_append,List.map_singleton,kp];rfl
  have hs:(!Nat.beq (m&&&a.f) 0)=true↔gC (fun z=>a.fi (a.mc.run 0 (z.map h))) (w++[x]):=by
   rw[v7]
   constructor
   ·rintro⟨q,h3,h4⟩
    obtain⟨u,t,rfl,h5,rfl⟩:=(hb q).1 h3
    rw[List.append_assoc];exact h5.snoc h4
   ·intro hs
    obtain⟨u,t,e,h5,h6,h7⟩:=hs.last (by simp)
    rcases qE e with⟨rfl,_⟩|⟨t',rfl,rfl⟩
    ·exact absurd F h7
    ·exact⟨_,(hb _).2 ⟨u,t',F,h5,F⟩,h6⟩
  rw[e1]
  refine⟨?_,fun q hq=>?_⟩
  ·rw[Nat.testBit_or,Bool.or_eq_true,nv,hm,y6]
   constructor
   ·rintro(⟨r,_,_,h3⟩|⟨_,h3⟩)
    ·have:=a.EH r (h x);omega
    ·omega
   ·intro h3;simp at h3
  ·rw[Nat.testBit_or,Bool.or_eq_true,nv,hs,hb]
   constructor
   ·rintro(⟨u,t,rfl,h3,h4⟩|⟨h3,rfl⟩)
    ·exact⟨u,t++[x],by simp,h3,h4⟩
    ·exact⟨w++[x],[],by simp,h3,F⟩
   ·rintro⟨u,t,e,h3,h4⟩
    rcases qE e with⟨rfl,rfl⟩|⟨t',rfl,rfl⟩
    ·exact .inr ⟨h3,h4.symm⟩
    ·exact .inl ⟨u,t',F,h3,h4⟩
theorem gC.congr {p q:Lg} {v:Int} (h: ∀w,nT v w→p w=q w): ∀ {w:List Nat},nT v w→gC p w→gC q w:=by
 intro w hw hs
 induction hs with
 |nil=>exact .nil
 |qR h1 _ ih=>exact .qR (by rw[←h _ (fun z hz=>hw z (by simp[hz]))];exact h1) (ih fun z hz=>hw z (by simp[hz]))
theorem JO {v:Nat} {a:En} (hf:a.f<65536) {p:Lg} (ha:sN v a.mc p):sN v (lR a) (pQ p):=by
 obtain⟨h,h1,h2⟩:=ha
 refine⟨h,h1,fun w hw=>?_⟩
 obtain⟨e1,e2⟩:=xS (a:=a) (h:=h) _ (w:=w) F
 have pP: ∀q,a.f.testBit q=true→q<16:=fun q hq=>by
  rcases Nat.lt_or_ge q 16 with c|c
  ·exact c
  ·rw[Nat.testBit_lt_two_pow (Nat.lt_of_lt_of_le hf (Nat.pow_le_pow_right (by decide) c:(2^16:Nat)≤2^q))]at hq;cases hq
 rw[Bool.eq_iff_iff,so]
 show _↔(((lR a).run 65537 (w.map h)).testBit 16||!Nat.beq ((lR a).run 65537 (w.map h)&&&a.f) 0)=true
 rw[Bool.or_eq_true,e1,v7]
 constructor
 ·intro hs
  by_cases hn:w=[]
  ·exact .inl hn
  ·obtain⟨u,t,rfl,h3,h4,_⟩:=(gC.congr (fun u hu=>h2 u hu) hw hs).last hn
   exact .inr ⟨_,(e2 _ (xR a)).2 ⟨u,t,F,h3,F⟩,h4⟩
 ·rintro(rfl|⟨q,h3,h4⟩)
  ·exact .nil
  ·obtain⟨u,t,rfl,h5,rfl⟩:=(e2 q (pP q h4)).1 h3
   exact gC.congr (fun u hu=>(h2 u hu).symm) hw (h5.snoc h4)
end Go.Lx

namespace Go.Lx
open Go.RowKit
theorem Dc {v:Nat} (hv:v≤6) {m:Mc} {p:Lg} (hr:sN v m p) {L:List Nat} (h0:m.s0∈L) (hc: ∀s∈L,∀x,x<m.c→m.st s x∈L) (hn:L.length≤4096): ∃D,HasL (v:Int) L.length D p:=by
 obtain⟨h,h1,h2⟩:=hr
 have hp:0<L.length:=List.length_pos_of_mem h0
 have hl:(2:Nat)^((v:Int)).toNat=2^v:=by simp
 obtain⟨D,hD⟩: ∃D:bU,D=⟨(v:Int),((ix m.s0 L:Nat):Int),L.map (fun s=>(List.range (2^v)).map fun x=>((ix (m.st s (h x)) L:Nat):Int)),L.map m.fi⟩:=⟨_,F⟩
 have qf:D.next=L.map (fun s=>(List.range (2^v)).map fun x=>((ix (m.st s (h x)) L:Nat):Int)):=by rw[hD]
 have gv:D.next.length=L.length:=by rw[qf,List.length_map]
 have hix:=pS h0
 have pC:Valid D:=by
  refine⟨⟨by rw[hD];exact Int.natCast_nonneg _,by rw[hD];show(v:Int)≤6;omega,by rw[gv];exact hp,by rw[gv,hD];simp,by rw[hD];exact Int.natCast_nonneg _,by rw[gv,hD];show((ix m.s0 L:Nat):Int)<_;omega,fun r hr=>?_,fun r hr x hx=>?_⟩,by rw[gv];exact hn⟩
  ·rw[qf]at hr
   obtain⟨s,_,rfl⟩:=List.mem_map.1 hr
   rw[hD];simp
  ·rw[qf]at hr
   obtain⟨s,hs,rfl⟩:=List.mem_map.1 hr
   obtain⟨y,hy,rfl⟩:=List.mem_map.1 hx
   have:=pS (hc s hs (h y) (h1 y (List.mem_range.1 hy)))
   exact⟨Int.natCast_nonneg _,by rw[gv];omega⟩
 refine⟨D,pC,by rw[gv];exact Nat.le_refl _,by rw[hD],fun w hw=>?_⟩
 have run: ∀(u:List Nat) {s:Nat},s∈L→nT (v:Int) u→runN D (ix s L) u=ix (m.run s (u.map h)) L∧m.run s (u.map h)∈L:=by
  intro u
  induction u with
  |nil=>exact fun hs _=>⟨F,hs⟩
  |cons x u ih=>
   intro s hs hu
   have hx:x<2^v:=by have:=hu x (by simp);rwa[hl]at this
   have hm:=hc s hs (h x) (h1 x hx)
   have ht:dY D (ix s L) x=ix (m.st s (h x)) L:=by
    unfold dY
    simp only[qf,List.getD_eq_getElem?_getD,List.getElem?_map,nr hs,Option.map_some,Option.getD_some,List.getElem?_range hx,Int.toNat_natCast]
   have:=ih hm fun y hy=>hu y (by simp[hy])
   unfold runN Mc.run at this⊢
   rw[List.map_cons,List.foldl_cons,List.foldl_cons,ht]
   exact this
 obtain⟨e1,e2⟩:=run w h0 hw
 unfold gq
 have e0:D.start.toNat=ix m.s0 L:=by rw[hD];rfl
 rw[e0,e1,h2 w hw]
 unfold cF
 have e3:D.ax=L.map m.fi:=by rw[hD]
 rw[e3,List.getD_eq_getElem?_getD,List.getElem?_map,nr e2]
 rfl
def Xp:List En:=[⟨1,1,0x0,0⟩,⟨1,2,0x11,1⟩,⟨2,3,0x222221,2⟩,⟨1,1,0x0,1⟩,⟨1,2,0x11,2⟩,⟨2,3,0x222221,5⟩,⟨2,2,0x1110,1⟩,⟨2,2,0x1110,2⟩,⟨4,4,0x2222222232322211,8⟩,⟨2,3,0x222221,3⟩,⟨4,4,0x2222222232322211,7⟩,⟨2,3,0x222221,4⟩,⟨2,3,0x222121,5⟩,⟨4,3,0x222220202211,1⟩,⟨2,3,0x221121,2⟩,⟨2,4,0x33223321,8⟩,⟨4,5,0x44444444222243432211,18⟩,⟨4,3,0x222221212211,2⟩,⟨2,3,0x111121,3⟩,⟨3,4,0x333333331321,7⟩,⟨2,3,0x111121,4⟩,⟨2,2,0x1010,2⟩,⟨2,3,0x212111,4⟩,⟨4,5,0x43434343444444444321,10⟩,⟨4,4,0x3333333332103210,6⟩,⟨2,3,0x222121,2⟩,⟨4,3,0x222220202211,6⟩,⟨2,3,0x221121,5⟩,⟨2,4,0x33223321,7⟩,⟨4,5,0x44444444222243432211,13⟩,⟨4,3,0x222221212211,5⟩,⟨3,4,0x333333331321,8⟩,⟨2,2,0x1010,1⟩,⟨2,3,0x212111,3⟩,⟨4,5,0x43434343444444444321,21⟩,⟨4,4,0x3333333332103210,9⟩,⟨2,3,0x221121,3⟩,⟨2,4,0x33223321,9⟩,⟨3,5,0x333333222433221,11⟩,⟨3,3,0x222211221,3⟩,⟨2,3,0x212111,5⟩,⟨3,4,0x331333331321,3⟩,⟨3,3,0x222210210,1⟩,⟨4,4,0x3333222231312211,8⟩,⟨8,5,0x2222222242424242222222223322332222221111,16⟩,⟨4,4,0x2222222232322211,10⟩,⟨4,4,0x2222222232322211,9⟩,⟨3,4,0x323222323321,6⟩,⟨8,5,0x4444444442424242444444444242424244332211,6⟩,⟨1,3,0x221,4⟩,⟨4,3,0x222221212100,3⟩,⟨4,4,0x3333323233113210,7⟩,⟨3,4,0x323222323321,9⟩,⟨3,4,0x333322322321,5⟩,⟨4,3,0x212121211100,4⟩,⟨4,5,0x44444444434343434321,10⟩,⟨2,3,0x221121,4⟩,⟨2,4,0x33223321,6⟩,⟨3,5,0x333333222433221,20⟩,⟨3,3,0x222211221,4⟩,⟨2,3,0x212111,2⟩,⟨3,4,0x331333331321,12⟩,⟨3,3,0x222210210,6⟩,⟨4,4,0x3333222231312211,7⟩,⟨8,5,0x2222222242424242222222223322332222221111,15⟩,⟨4,4,0x2222222232322211,5⟩,⟨4,4,0x2222222232322211,6⟩,⟨8,5,0x4444444442424242444444444242424244332211,25⟩,⟨1,3,0x221,3⟩,⟨4,3,0x222221212100,4⟩,⟨4,4,0x3333323233113210,8⟩,⟨3,4,0x333322322321,10⟩,⟨4,3,0x212121211100,3⟩,⟨4,5,0x44444444434343434321,21⟩,⟨4,4,0x3333222230302211,5⟩,⟨3,4,0x333333331321,9⟩,⟨4,4,0x3030022000003210,5⟩,⟨4,4,0x3333222231312211,9⟩,⟨8,4,0x20202020222222223322332222221111,1⟩,⟨3,3,0x222201221,3⟩,⟨3,3,0x212111210,3⟩,⟨8,4,0x33333333303030303021110033221100,3⟩,⟨1,3,0x221,5⟩,⟨4,4,0x3232323222112211,9⟩,⟨3,3,0x222220210,1⟩,⟨8,6,0x444444444444444454545454222222224433443322221111,26⟩,⟨4,5,0x44444444222243432211,16⟩,⟨4,5,0x44444343222243432211,18⟩,⟨8,4,0x21212121222222223322332222221111,2⟩,⟨4,4,0x3333222232322211,8⟩,⟨4,5,0x44444444222232322211,16⟩,⟨8,6,0x555555555555555554545454222222223322332222221111,40⟩,⟨8,4,0x32323232222222223322332222221111,8⟩,⟨4,5,0x33333333222243432211,10⟩,⟨6,5,0x222222232232222222432432222111,26⟩,⟨4,4,0x3131222231312211,8⟩,⟨4,5,0x43434343222233332211,16⟩,⟨8,7,0x65656565656565656666666666666666222222226543654322221111,40⟩,⟨8,5,0x2222222243214321222222224321432122221111,24⟩,⟨4,5,0x44444444222243432211,19⟩,⟨4,3,0x222221212211,3⟩,⟨2,3,0x111121,5⟩,⟨4,5,0x43434343444444444321,11⟩,⟨4,4,0x3333333332103210,5⟩,⟨2,3,0x111121,2⟩,⟨3,4,0x323222323321,7⟩,⟨8,6,0x443344334444444454545454444444445454545444332211,39⟩,⟨3,4,0x333333111321,6⟩,⟨4,5,0x44441111444411114321,6⟩,⟨6,6,0x555555555555333333333333545454332211,38⟩,⟨6,4,0x333333333333313131332211,6⟩,⟨3,3,0x221221211,2⟩,⟨4,3,0x212121212211,2⟩,⟨6,5,0x444242444444444242444444432211,6⟩,⟨6,5,0x444444434231444444434231432211,6⟩,⟨4,4,0x3120110031201100,12⟩,⟨2,3,0x222111,4⟩,⟨4,5,0x42312211423122111111,24⟩,⟨8,7,0x54635463443344334433443354635463444444445454545444332211,96⟩,⟨8,8,0x3333333373737373736251403322110033333333737373737362514033221100,240⟩,⟨3,3,0x222222210,3⟩,⟨8,6,0x444444444444444454545454444422225454222244332211,39⟩,⟨3,3,0x222211210,2⟩,⟨2,3,0x222210,4⟩,⟨3,3,0x222221211,3⟩,⟨8,7,0x44444444444444444433443344334433645364536453645344332211,42⟩,⟨4,4,0x3232323222222211,8⟩,⟨4,5,0x43434343442244224321,10⟩,⟨8,5,0x4444444444444444404040404040404044332211,10⟩,⟨4,5,0x22222222212121214321,10⟩,⟨6,7,0x666666666666656565656565656521656521654321,42⟩,⟨4,4,0x1111313111112211,8⟩]
def ly (i:Nat):En:=Xp.getD i ⟨0,0,0,0⟩
def Mu:List (List Nat):=[[],[0,1,2],[1,3,4,5,6],[0,1,2,3,4,5,6,7,8,9],[0,1,2,3,4,5,6,7,9,10,11,12,13,14,15,16,17,18,19,20,21,22,23,24],[0,1,2,3,4,5,6,7,8,9,11,12,13,14,15,16,17,18,19,20,21,22,23,24,25,26,27,28,29,30,31,32,33,34,35,36,37,38,39,40,41,42,43,44,45,46,47,48,49,50,51,52,53,54,55],[0,1,2,3,4,5,6,7,8,9,10,11,12,13,14,15,16,17,18,19,20,21,22,23,24,25,26,27,28,29,30,31,32,33,34,35,36,37,38,39,40,41,42,43,45,46,47,49,50,51,52,53,54,55,56,57,58,59,60,61,62,63,64,65,66,67,68,69,70,71,72,73,74,75,76,77,78,79,80,81,82,83,84,85,86,87,88,89,90,91,92,93,94,95,96,97,98,99,100,101,102,103,104,105,106,107,108,109,110,111,112,113,114,115,116,117,118,119,120,121,122,123,124,125,126,127,128,129,130,131]]
def Zy:List (List Nat):=[[3,4,4101],[1,1,4102]]
def Zz:List (List Nat):=[[4,0,1,4098,4103],[1,3,3,4101,4102]]
def ca3:List (List (List Nat)):=[[[0,0,0],[0,1,4098],[0,4098,2294024]]]
def or3:List (List (List Nat)):=[[[0,1,4098],[1,1,4105],[4098,4105,1048578]]]
def an3:List (List (List Nat)):=[[[0,0,0],[0,1,0],[0,0,1118210]]]
def ZA:List (List Nat):=[[3,4,4101,0,1,4098,4103,4102,3280906,4107],[1,1,4102,3,3,4101,4102,4108,2294029,4102]]
def ZB:List (List (List Nat)):=[[[0,0,0,0,0],[1,3,4,4101,4102],[4098,4110,4111,3280912,3280913]],[[0,1,4098],[0,3,277],[0,4,278],[0,4101,3280919],[0,4102,3277080]]]
def or4:List (List (List Nat)):=[[[1,3,4,4101,4102],[1,3,3,4101,4102],[4105,3,4,65554,2101267]]]
def an4:List (List (List Nat)):=[[[0,0,0,0,0],[1,1,0,1,1],[0,4098,4098,4116,1118210]]]
def ZC:List (List Nat):=[[3,4,4101,0,1,4098,4103,4102,4107,3280904,4105,4121,3280922,4123,4124,3280925,3280926,4116,135199,4114,4128,4129,3280930,3280931],[1,1,4102,3,3,4101,4102,4108,4102,3,4101,4108,3280909,4132,4133,1179686,2162727,4114,65542,262,288,4136,2101289,2097450]]
def Xq:List (List (List Nat)):=[[[0,0,0,0,0,0,0,0,0,0],[0,1,4098,3,4,4101,4102,4103,3280904,4105],[0,4098,2294024,4110,4111,3280912,3280913,3280939,362758025772,2294061]],[[1,3,4,4101,4102],[3,3,4,3,3],[4,4,49,4,4],[4101,3,4,1118213,4114],[4102,3,4,65554,3280946]],[[0,0,0],[0,1,4098],[0,4098,2294024],[0,3,277],[0,4,278],[0,4101,3280919],[0,4102,3277080],[0,4103,2294070],[0,3280904,443541553452],[0,4105,3280951]]]
def ZD:List (List (List Nat)):=[[[0,1,4098,3,4,4101,4102,4103,3280904,4105],[1,1,4105,3,3,4101,4102,4108,3280942,4105],[4098,4105,1048578,3,4,65554,2101267,1183791,443541553456,1048585]],[[1,3,3,4101,4102],[3,3,3,3,3],[3,3,4,3,3],[4101,3,3,1118213,4114],[4102,3,3,65554,3280947]]]
def ZE:List (List (List Nat)):=[[[0,0,0,0,0,0,0,0,0,0],[0,1,0,1,0,1,1,0,0,1],[0,0,1118210,4098,4098,4116,1118210,4116,0,1118210]],[[1,1,0,1,1],[1,3,4,4101,4102],[0,4,4,4107,4121],[1,4101,4107,1048581,1183796],[1,4102,4121,2232373,1118214]]]
def ZF:List (List Nat):=[[3,4,4101,0,1,4098,4103,4102,3280906,4107,4105,4121,3280922,4123,4124,3280925,3280926,4116,135199,4114,4128,4129,3280930,3280931,4108,3280909,4110,4111,3280912,3280913,135187,4117,4118,3280919,3280920,4152,4153,135226,135227,4156,135229,135230,3280959,508218708032,3280961,3280962,135220,508218708035,68,3280965,3280966,135215,135239,3280968,3280969],[1,1,4102,3,3,4101,4102,4108,2294029,4102,4101,4108,3280909,4132,4133,1179686,2162727,4114,65542,262,288,4136,2101289,2097450,4102,3,4123,3,3280970,3280926,135243,4128,3,205132,3280931,4132,4133,135206,135207,4136,135209,135210,3280973,443541553486,1179727,2294029,135248,508216488529,82,1048582,1048582,135220,135221,3280979,2101332]]
def VO:List (List (List Nat)):=[[[0,0,0,0,0,0,0,0,0,0,0,0,0,0,0,0,0,0,0,0,0,0,0,0],[0,1,4098,3,4,4101,4102,4103,4105,3280906,4107,4108,3280909,4110,4111,3280912,3280913,4114,135187,4116,4117,4118,3280919,3280920],[0,4098,2294024,4110,4111,3280912,3280913,3280939,2294061,508218708053,3280982,3280983,362758025816,2294105,2294106,362758025819,298080871260,3280989,893395294,3280904,3280991,3280992,508218708065,375341129826]],[[0,1,4098,3,4,4101,4102,4103,3280904,4105],[0,3,277,3,4,3,3,4103,1061491,3],[0,4,278,4,49,4,4,4212,1061493,4],[0,4101,3280919,3,4,1118213,4114,1052679,508218708086,4114],[0,4102,3277080,3,4,65554,3280946,1052679,508216488567,2162808]],[[0,0,0,0,0],[1,3,4,4101,4102],[4098,4110,4111,3280912,3280913],[3,3,4,3,3],[4,4,49,4,4],[4101,3,4,1118213,4114],[4102,3,4,65554,3280946],[4103,4103,4219,1114119,1114119],[3280904,3280985,3280986,508218708059,443541553500],[4105,3,4,65554,2101372]],[[0,0,0],[0,1,4098],[0,4098,2294024],[0,3,277],[0,4,278],[0,4101,3280919],[0,4102,3277080],[0,4103,2294070],[0,4105,3280951],[0,3280906,504192114813],[0,4107,2294142],[0,4108,3281023],[0,3280909,504192114816],[0,4110,2294111],[0,4111,2294112],[0,3280912,508218708065],[0,3280913,374837805666],[0,4114,3281025],[0,135187,1412567170],[0,4116,2294147],[0,4117,2294131],[0,4118,2294133],[0,3280919,443541553526],[0,3280920,443541553527]]]
def ZG:List (List (List Nat)):=[[[0,1,4098,3,4,4101,4102,4103,4105,3280906,4107,4108,3280909,4110,4111,3280912,3280913,4114,135187,4116,4117,4118,3280919,3280920],[1,1,4105,3,3,4101,4102,4108,4105,3280906,4101,4108,3280909,4132,4133,3280995,3280996,4114,135187,4197,288,4136,3280998,3277159],[4098,4105,1048578,3,4,65554,2101267,1183791,1048585,215020081162,65640,1183849,443541553514,2101355,3281004,361048969325,361048969326,1048594,553717779,65538,131439,2294128,353264341105,352257704306]],[[1,1,4105,3,3,4101,4102,4108,3280942,4105],[3,3,3,3,3,3,3,3,3,3],[4,3,4,3,4,3,3,4,4,3],[4101,4101,4114,3,3,1118213,4114,1118213,73299656709,4114],[4102,4102,2162707,3,3,65554,3280947,1183824,508218708089,2162707]]]
def ZH:List (List (List Nat)):=[[[0,0,0,0,0,0,0,0,0,0,0,0,0,0,0,0,0,0,0,0,0,0,0,0],[0,1,0,1,0,1,1,0,1,1,0,1,1,0,0,0,0,1,1,0,0,0,0,0],[0,0,1118210,4098,4098,4116,1118210,4116,1118210,73299656706,4116,4116,0,1118210,0,73300770818,73300770818,1118210,286326786,4116,4116,0,73300709378,69652]],[[0,1,0,1,0,1,1,0,0,1],[0,1,4098,3,4,4101,4102,4103,3280904,4105],[0,0,4098,4,4,4107,4121,4103,3280904,4098],[0,1,65556,4101,4107,1048581,1183796,2101279,215020081160,65637],[0,1,1118210,4102,4121,2232373,1118214,2232442,146602594312,1118217]]]
def N5 (k:Nat) (e:En):Prop:= ∃i∈Mu.getD k [],e=ly i
def Xr (k i:Nat):Bool:=(Mu.getD k []).contains i
noncomputable def VP (k:Nat) (m:Mc) (ct:Nat):Bool:=
 Xr k (ct%256)&&(Bu m.c (fun x=>Nat.blt (((ct/256)>>>(4*x))%16) (ly (ct%256)).c)&&UP m (ly (ct%256)) (ct/256) (Xo m.c (fun s x=>m.st (s/16) x*16+(ly (ct%256)).to (s%16) (((ct/256)>>>(4*x))%16)) 40 [m.s0*16] [m.s0*16]))
def Dd {α β:Type} (p:α→β→Bool):List α→List β→Bool
 | [],_=>true
 |x::l,y::m=>p x y&&Dd p l m
 |_::_,[]=>false
theorem rK {α β:Type} {p:α→β→Bool}: ∀ {l:List α} {m:List β},Dd p l m=true→ ∀x∈l,∃y,p x y=true
 | [],_,_,x,hx=>by simp at hx
 |_::_,[],h,_,_=>by simp[Dd]at h
 |a::l,y::m,h,x,hx=>by
  simp only[Dd,Bool.and_eq_true]at h
  rcases List.mem_cons.1 hx with rfl|hx
  ·exact⟨y,h.1⟩
  ·exact rK h.2 x hx
theorem EJ {v k:Nat} {m:Mc} {p:Lg} {ct:Nat} (h:VP k m ct=true) (hr:sN v m p): ∃e,N5 k e∧sN v e.mc p:=by
 unfold VP at h
 rw[Bool.and_eq_true,Bool.and_eq_true,o6]at h
 refine⟨ly (ct%256),⟨_,?_,F⟩,Mr h.2.2 (fun x hx=>by have:=h.2.1 x hx;exact Nat.le_of_ble_eq_true this) hr⟩
 exact List.contains_iff_mem.1 h.1
noncomputable def Gb (k:Nat) (f:En→Mc) (cs:List Nat):Bool:=Dd (fun i ct=>VP (k+1) (f (ly i)) ct) (Mu.getD k []) cs
noncomputable def tJ (i j:Nat) (f:En→En→Mc) (cs:List (List Nat)):Bool:=Dd (fun x row=>Dd (fun y ct=>VP (i+j+1) (f (ly x) (ly y)) ct) (Mu.getD j []) row) (Mu.getD i []) cs
theorem EK {v k:Nat} {f:En→Mc} {cs:List Nat} (h:Gb k f cs=true) {e:En} (he:N5 k e) {p:Lg} (hr:sN v (f e) p): ∃e,N5 (k+1) e∧sN v e.mc p:=by
 obtain⟨i,hi,rfl⟩:=he
 obtain⟨ct,h1⟩:=rK h i hi
 exact EJ h1 hr
theorem rL {v i j:Nat} {f:En→En→Mc} {cs:List (List Nat)} (h:tJ i j f cs=true) {a b:En} (ha:N5 i a) (hb:N5 j b) {p:Lg} (hr:sN v (f a b) p): ∃e,N5 (i+j+1) e∧sN v e.mc p:=by
 obtain⟨x,hx,rfl⟩:=ha
 obtain⟨y,hy,rfl⟩:=hb
 obtain⟨row,h1⟩:=rK h x hx
 obtain⟨ct,h2⟩:=rK h1 y hy
 exact EJ h2 hr
set_option maxRecDepth 100000
theorem tn2:Gb 1 vY (Zy.getD 0 [])=true:=by kernel_rfl
theorem ts2:Gb 1 lR (Zy.getD 1 [])=true:=by kernel_rfl
theorem tn3:Gb 2 vY (Zz.getD 0 [])=true:=by kernel_rfl
theorem ts3:Gb 2 lR (Zz.getD 1 [])=true:=by kernel_rfl
theorem Xs:tJ 1 1 rI (ca3.getD 0 [])=true:=by kernel_rfl
theorem Xt:tJ 1 1 (mF or) (or3.getD 0 [])=true:=by kernel_rfl
theorem Xu:tJ 1 1 (mF and) (an3.getD 0 [])=true:=by kernel_rfl
theorem tn4:Gb 3 vY (ZA.getD 0 [])=true:=by kernel_rfl
theorem ts4:Gb 3 lR (ZA.getD 1 [])=true:=by kernel_rfl
theorem Xv:tJ 1 2 rI (ZB.getD 0 [])=true:=by kernel_rfl
theorem Xw:tJ 1 2 (mF or) (or4.getD 0 [])=true:=by kernel_rfl
theorem Xx:tJ 1 2 (mF and) (an4.getD 0 [])=true:=by kernel_rfl
theorem Xy:tJ 2 1 rI (ZB.getD 1 [])=true:=by kernel_rfl
theorem tn5:Gb 4 vY (ZC.getD 0 [])=true:=by kernel_rfl
theorem ts5:Gb 4 lR (ZC.getD 1 [])=true:=by kernel_rfl
theorem Xz:tJ 1 3 rI (Xq.getD 0 [])=true:=by kernel_rfl
theorem XA:tJ 1 3 (mF or) (ZD.getD 0 [])=true:=by kernel_rfl
theorem XB:tJ 1 3 (mF and) (ZE.getD 0 [])=true:=by kernel_rfl
theorem XC:tJ 2 2 rI (Xq.getD 1 [])=true:=by kernel_rfl
theorem XD:tJ 2 2 (mF or) (ZD.getD 1 [])=true:=by kernel_rfl
theorem XF:tJ 2 2 (mF and) (ZE.getD 1 [])=true:=by kernel_rfl
theorem XG:tJ 3 1 rI (Xq.getD 2 [])=true:=by kernel_rfl
theorem tn6:Gb 5 vY (ZF.getD 0 [])=true:=by kernel_rfl
theorem ts6:Gb 5 lR (ZF.getD 1 [])=true:=by kernel_rfl
theorem XH:tJ 1 4 rI (VO.getD 0 [])=true:=by kernel_rfl
theorem XI:tJ 1 4 (mF or) (ZG.getD 0 [])=true:=by kernel_rfl
theorem XJ:tJ 1 4 (mF and) (ZH.getD 0 [])=true:=by kernel_rfl
theorem XK:tJ 2 3 rI (VO.getD 1 [])=true:=by kernel_rfl
theorem XL:tJ 2 3 (mF or) (ZG.getD 1 [])=true:=by kernel_rfl
theorem XM:tJ 2 3 (mF and) (ZH.getD 1 [])=true:=by kernel_rfl
theorem XN:tJ 3 2 rI (VO.getD 2 [])=true:=by kernel_rfl
theorem XO:tJ 4 1 rI (VO.getD 3 [])=true:=by kernel_rfl
theorem tcA {i j:Nat} (hi:1≤i) (hj:1≤j) (h:i+j≤5): ∃cs,tJ i j rI cs=true:=by
 rcases(show(i=1∧j=1)∨(i=1∧j=2)∨(i=2∧j=1)∨(i=1∧j=3)∨(i=2∧j=2)∨(i=3∧j=1)∨(i=1∧j=4)∨(i=2∧j=3)∨(i=3∧j=2)∨(i=4∧j=1) by omega)with⟨rfl,rfl⟩|⟨rfl,rfl⟩|⟨rfl,rfl⟩|⟨rfl,rfl⟩|⟨rfl,rfl⟩|⟨rfl,rfl⟩|⟨rfl,rfl⟩|⟨rfl,rfl⟩|⟨rfl,rfl⟩|⟨rfl,rfl⟩
 ·exact⟨_,Xs⟩
 ·exact⟨_,Xv⟩
 ·exact⟨_,Xy⟩
 ·exact⟨_,Xz⟩
 ·exact⟨_,XC⟩
 ·exact⟨_,XG⟩
 ·exact⟨_,XH⟩
 ·exact⟨_,XK⟩
 ·exact⟨_,XN⟩
 ·exact⟨_,XO⟩
theorem ZI {i j:Nat} (hi:1≤i) (hj:1≤j) (Xe:i≤j) (h:i+j≤5): ∃cs,tJ i j (mF or) cs=true:=by
 rcases(show(i=1∧j=1)∨(i=1∧j=2)∨(i=1∧j=3)∨(i=2∧j=2)∨(i=1∧j=4)∨(i=2∧j=3) by omega)with⟨rfl,rfl⟩|⟨rfl,rfl⟩|⟨rfl,rfl⟩|⟨rfl,rfl⟩|⟨rfl,rfl⟩|⟨rfl,rfl⟩
 ·exact⟨_,Xt⟩
 ·exact⟨_,Xw⟩
 ·exact⟨_,XA⟩
 ·exact⟨_,XD⟩
 ·exact⟨_,XI⟩
 ·exact⟨_,XL⟩
theorem ZJ {i j:Nat} (hi:1≤i) (hj:1≤j) (Xe:i≤j) (h:i+j≤5): ∃cs,tJ i j (mF and) cs=true:=by
 rcases(show(i=1∧j=1)∨(i=1∧j=2)∨(i=1∧j=3)∨(i=2∧j=2)∨(i=1∧j=4)∨(i=2∧j=3) by omega)with⟨rfl,rfl⟩|⟨rfl,rfl⟩|⟨rfl,rfl⟩|⟨rfl,rfl⟩|⟨rfl,rfl⟩|⟨rfl,rfl⟩
 ·exact⟨_,Xu⟩
 ·exact⟨_,Xx⟩
 ·exact⟨_,XB⟩
 ·exact⟨_,XF⟩
 ·exact⟨_,XJ⟩
 ·exact⟨_,XM⟩
theorem tnA {k:Nat} (hk:1≤k) (h:k≤5): ∃cs,Gb k vY cs=true:=by
 rcases(show k=1∨k=2∨k=3∨k=4∨k=5 by omega)with rfl|rfl|rfl|rfl|rfl
 ·exact⟨_,tn2⟩
 ·exact⟨_,tn3⟩
 ·exact⟨_,tn4⟩
 ·exact⟨_,tn5⟩
 ·exact⟨_,tn6⟩
theorem tsA {k:Nat} (hk:1≤k) (h:k≤5): ∃cs,Gb k lR cs=true:=by
 rcases(show k=1∨k=2∨k=3∨k=4∨k=5 by omega)with rfl|rfl|rfl|rfl|rfl
 ·exact⟨_,ts2⟩
 ·exact⟨_,ts3⟩
 ·exact⟨_,ts4⟩
 ·exact⟨_,ts5⟩
 ·exact⟨_,ts6⟩
def Gc (k:Nat):Nat:=[0,3,3,4,5,5,8,11].getD k 0
theorem UQ:((List.range 7).all fun k=>(Mu.getD k []).all fun i=>Nat.blt (ly i).f 65536&&(Nat.ble (ly i).n (Gc k)&&(Nat.blt 0 (ly i).n&&Bu (ly i).n fun s=>Bu (ly i).c fun x=>Nat.blt ((ly i).to s x) (ly i).n)))=true:=by kernel_rfl
theorem JP {k:Nat} {e:En} (h:N5 k e) (hk:k≤6):e.f<65536∧e.n≤Gc k∧0<e.n∧ ∀s,s<e.n→ ∀x,x<e.c→e.to s x<e.n:=by
 obtain⟨i,hi,rfl⟩:=h
 have h1:=List.all_eq_true.1 (List.all_eq_true.1 UQ k (List.mem_range.2 (by omega))) i hi
 rw[Bool.and_eq_true,Bool.and_eq_true,Bool.and_eq_true,o6]at h1
 exact⟨Nat.le_of_ble_eq_true h1.1,Nat.le_of_ble_eq_true h1.2.1,Nat.le_of_ble_eq_true h1.2.2.1,fun s hs x hx=>Nat.le_of_ble_eq_true (o6.1 (h1.2.2.2 s hs) x hx)⟩
theorem Mv {v:Nat} (hv:v≤6) {e:En} {p:Lg} (hr:sN v e.mc p) {n:Nat} (hn:e.n≤n) (h1:n≤4096) (h0:0<e.n) (hc: ∀s,s<e.n→ ∀x,x<e.c→e.to s x<e.n): ∃D,HasL (v:Int) n D p:=by
 obtain⟨D,hD⟩:=Dc hv hr (L:=List.range e.n) (List.mem_range.2 h0) (fun s hs x hx=>List.mem_range.2 (hc s (List.mem_range.1 hs) x hx)) (by simp;omega)
 exact⟨D,hD.le (Nat.le_trans hD.len (by simpa using hn))⟩
theorem JQ {v:Nat}:sN v (ly 0).mc (gd .none):=⟨fun _=>0,fun _ _=>(by decide:0<(ly 0).c),fun w _=>(Nat.zero_testBit _).symm⟩
theorem Gd {v:Nat}:sN v (ly 1).mc (gd .empty):=by
 refine⟨fun _=>0,fun _ _=>(by decide:0<(ly 1).c),fun w _=>?_⟩
 have t0:(ly 1).to 0 0=1:=by decide
 have t1:(ly 1).to 1 0=1:=by decide
 have f0:(ly 1).fi 0=true:=by decide
 have f1:(ly 1).fi 1=false:=by decide
 cases w with
 |nil=>exact f0.symm
 |cons x w=>
  have: ∀w:List Nat,(ly 1).mc.run 1 (w.map fun _=>0)=1:=by
   intro w
   induction w with
   |nil=>rfl
   |cons x w ih=>
    show(ly 1).mc.run ((ly 1).to 1 0) (w.map fun _=>0)=1
    rw[t1];exact ih
  show _=(ly 1).fi ((ly 1).mc.run ((ly 1).to 0 0) (w.map fun _=>0))
  rw[t0,this,f1]
  rfl
theorem De {v p n:Nat}:sN v (ly 2).mc (gd (.letter p n)):=by
 have t0: ∀c:Bool,(ly 2).to 0 (cond c 0 1)=cond c 1 2:=by decide
 have t1: ∀c:Bool,(ly 2).to 1 (cond c 0 1)=2:=by decide
 have t2: ∀c:Bool,(ly 2).to 2 (cond c 0 1)=2:=by decide
 have f0:(ly 2).fi 0=false:=by decide
 have f1: ∀c:Bool,(ly 2).fi (cond c 1 2)=c:=by decide
 have f2:(ly 2).fi 2=false:=by decide
 have hc: ∀c:Bool,cond c 0 1<(ly 2).c:=by decide
 refine⟨fun x=>cond (ft p n x) 0 1,fun x _=>hc _,fun w _=>?_⟩
 have h2: ∀w:List Nat,(ly 2).mc.run 2 (w.map fun x=>cond (ft p n x) 0 1)=2:=by
  intro w
  induction w with
  |nil=>rfl
  |cons x w ih=>
   show(ly 2).mc.run ((ly 2).to 2 (cond (ft p n x) 0 1)) _=2
   rw[t2];exact ih
 show FJ 1 (ft p n) w=_
 cases w with
 |nil=>
  have e:FJ 1 (ft p n) []=false:=by simp[FJ]
  rw[e,List.map_nil]
  exact f0.symm
 |cons x w=>
  cases w with
  |nil=>
   show FJ 1 (ft p n) [x]=(ly 2).fi ((ly 2).to 0 (cond (ft p n x) 0 1))
   rw[t0,f1]
   simp[FJ]
  |cons y w=>
   show _=(ly 2).fi ((ly 2).mc.run ((ly 2).to ((ly 2).to 0 (cond (ft p n x) 0 1)) (cond (ft p n y) 0 1)) (w.map fun x=>cond (ft p n x) 0 1))
   have t3:(ly 2).to (cond (ft p n x) 1 2) (cond (ft p n y) 0 1)=2:=by
    cases ft p n x
    ·exact t2 _
    ·exact t1 _
   rw[t0,t3,h2,f2]
   simp[FJ]
def Rx.sz:Rx→Nat
 | .jl a b| .j5 a b| .and a b=>a.sz+b.sz+1
 | .not a| .star a| .ahead a| .behind a=>a.sz+1
 |_=>1
theorem Rx.gl: ∀t:Rx,1≤t.sz
 | .none| .empty| .letter _ _=>Nat.le_refl _
 | .jl a b| .j5 a b| .and a b=>Nat.succ_pos _
 | .not a| .star a| .ahead a| .behind a=>Nat.succ_pos _
theorem sN.to {v:Nat} {m:Mc} {p q:Lg} (h:sN v m p) (hq: ∀w,p w=q w):sN v m q:=by
 obtain⟨k,h1,h2⟩:=h
 exact⟨k,h1,fun w hw=>by rw[←hq];exact h2 w hw⟩
theorem kN {v:Nat}: ∀(t:Rx),t.plain=true→t.sz≤6→ ∃e,N5 t.sz e∧sN v e.mc (gd t)
 | .none,_,_=>⟨_,⟨0,(by decide:0∈Mu.getD 1 []),F⟩,JQ⟩
 | .empty,_,_=>⟨_,⟨1,(by decide:1∈Mu.getD 1 []),F⟩,Gd⟩
 | .letter p n,_,_=>⟨_,⟨2,(by decide:2∈Mu.getD 1 []),F⟩,De⟩
 | .not a,hp,hs=>by
  have hs:a.sz+1≤6:=hs
  obtain⟨e,h1,h2⟩:=kN (v:=v) a hp (by omega)
  obtain⟨cs,hc⟩:=tnA a.gl (by omega)
  exact EK hc h1 (Ms h2)
 | .star a,hp,hs=>by
  have hs:a.sz+1≤6:=hs
  obtain⟨e,h1,h2⟩:=kN (v:=v) a hp (by omega)
  obtain⟨cs,hc⟩:=tsA a.gl (by omega)
  exact EK hc h1 (JO (JP h1 (by omega)).1 h2)
 | .jl a b,hp,hs=>by
  have hs:a.sz+b.sz+1≤6:=hs
  simp only[Rx.plain,Bool.and_eq_true]at hp
  obtain⟨e,h1,h2⟩:=kN (v:=v) a hp.1 (by omega)
  obtain⟨f,k1,k2⟩:=kN (v:=v) b hp.2 (by omega)
  obtain⟨cs,hc⟩:=tcA a.gl b.gl (by omega)
  exact rL hc h1 k1 (Mt h2 k2)
 | .j5 a b,hp,hs=>by
  have hs:a.sz+b.sz+1≤6:=hs
  simp only[Rx.plain,Bool.and_eq_true]at hp
  obtain⟨e,h1,h2⟩:=kN (v:=v) a hp.1 (by omega)
  obtain⟨f,k1,k2⟩:=kN (v:=v) b hp.2 (by omega)
  rcases Nat.le_total a.sz b.sz with c|c
  ·obtain⟨cs,hc⟩:=ZI a.gl b.gl c (by omega)
   exact rL hc h1 k1 (y5 or h2 k2)
  ·obtain⟨cs,hc⟩:=ZI b.gl a.gl c (by omega)
   have:=rL hc k1 h1 ((y5 or k2 h2).to (q:=gd (.j5 a b)) fun w=>Bool.or_comm _ _)
   rwa[show b.sz+a.sz+1=(Rx.j5 a b).sz by show _=a.sz+b.sz+1;omega]at this
 | .and a b,hp,hs=>by
  have hs:a.sz+b.sz+1≤6:=hs
  simp only[Rx.plain,Bool.and_eq_true]at hp
  obtain⟨e,h1,h2⟩:=kN (v:=v) a hp.1 (by omega)
  obtain⟨f,k1,k2⟩:=kN (v:=v) b hp.2 (by omega)
  rcases Nat.le_total a.sz b.sz with c|c
  ·obtain⟨cs,hc⟩:=ZJ a.gl b.gl c (by omega)
   exact rL hc h1 k1 (y5 and h2 k2)
  ·obtain⟨cs,hc⟩:=ZJ b.gl a.gl c (by omega)
   have:=rL hc k1 h1 ((y5 and k2 h2).to (q:=gd (.and a b)) fun w=>Bool.and_comm _ _)
   rwa[show b.sz+a.sz+1=(Rx.and a b).sz by show _=a.sz+b.sz+1;omega]at this
 | .ahead a,hp,_=>absurd hp (by simp[Rx.plain])
 | .behind a,hp,_=>absurd hp (by simp[Rx.plain])
theorem Mw {v:Nat} (hv:v≤6) {t:Rx} (hp:t.plain=true) (hs:t.sz≤6): ∃D,HasL (v:Int) (Gc t.sz) D (gd t):=by
 obtain⟨e,h1,h2⟩:=kN (v:=v) t hp hs
 obtain⟨_,h3,h4,h5⟩:=JP h1 hs
 refine Mv hv h2 h3 ?_ h4 h5
 have: ∀k,k≤6→Gc k≤4096:=by decide
 exact this _ hs
theorem eF.xt {v:Nat} {B n:Nat} {M D:bU} {p:Lg} (h:eF (v:Int) B M p) (hD:HasL (v:Int) n D p):M.next.length≤n:=by
 have h1:=hD.qL
 rw[eF.ext h h1 fun _ _=>rfl];exact h1.len
end Go.Lx

namespace Go.Lx
open Go.RowKit
def kq:Nat→List (List Nat)
 |0=>[[]]
 |n+1=>kq n++(kq n).map (· ++[n])
theorem sO: ∀n,(kq n).length=2^n
 |0=>rfl
 |n+1=>by
  show(kq n++(kq n).map (· ++[n])).length=_
  rw[List.length_append,List.length_map,sO n,Nat.pow_succ];omega
theorem xT (p:Nat→Bool): ∀n,(List.range n).filter p∈kq n
 |0=>by simp[kq]
 |n+1=>by
  rw[List.range_succ,List.filter_append]
  show _∈kq n++(kq n).map (· ++[n])
  have ih:=xT p n
  cases h:p n with
  |true=>rw[show[n].filter p=[n] by simp[h]];exact List.mem_append.2 (.inr (List.mem_map.2 ⟨_,ih,F⟩))
  |false=>rw[show[n].filter p=[] by simp[h],List.append_nil];exact List.mem_append.2 (.inl ih)
theorem mH: ∀ {n:Nat} {l:List Nat},l∈kq n→l.Pairwise (· < ·)∧ ∀x∈l,x<n
 |0,l,h=>by simp[kq]at h;subst h;exact⟨List.Pairwise.nil,fun x hx=>by simp at hx⟩
 |n+1,l,h=>by
  rcases List.mem_append.1 (show l∈kq n++(kq n).map (· ++[n])from h)with h|h
  ·have:=mH h;exact⟨this.1,fun x hx=>by have:=this.2 x hx;omega⟩
  ·obtain⟨m,hm,rfl⟩:=List.mem_map.1 h
   have:=mH hm
   refine⟨List.pairwise_append.2 ⟨this.1,List.pairwise_singleton _ _,fun x hx y hy=>?_⟩,fun x hx=>?_⟩
   ·rw[List.mem_singleton.1 hy];exact this.2 x hx
   ·rcases List.mem_append.1 hx with hx|hx
    ·have:=this.2 x hx;omega
    ·rw[List.mem_singleton.1 hx];omega
theorem sP {n:Nat} {l:List Nat} (h1:l.Pairwise (· < ·)) (h2: ∀x∈l,x<n):l∈kq n:=by
 have:l=(List.range n).filter (fun x=>l.contains x):=vO h1 (List.Pairwise.filter _ List.pairwise_lt_range) fun y=>by
  simp only[List.mem_filter,List.mem_range,List.contains_iff_mem]
  exact⟨fun h=>⟨h2 y h,h⟩,fun h=>h.2⟩
 rw[this];exact xT _ _
theorem EL {α:Type} [Nonempty α] {G:α→Prop} {kf:α→Key} {nx:α→Nat→α} {fn:α→Bool} {L:Nat} (h:L8 G kf nx fn L) {s:α} (hs:G s) (Q:List α) (hQ: ∀q,q∈Q↔G q) {B:Nat} (hB:Q.length≤B):vi (zj G kf nx) L (kf s) B:=by
 refine⟨Q.map kf,⟨List.mem_map.2 ⟨s,(hQ s).2 hs,F⟩,fun k hk x hx=>?_⟩,by simpa using hB⟩
 obtain⟨q,hq,rfl⟩:=List.mem_map.1 hk
 rw[sw h ((hQ q).1 hq) hx]
 exact List.mem_map.2 ⟨_,(hQ _).2 (h.T4 q x ((hQ q).1 hq) hx),F⟩
theorem ng {a b:bU} (ha:Valid a) (hb:Valid b) {B:Nat} (h:a.next.length*2^b.next.length≤B):yD a b (da a) B:=by
 refine EL (D5 ha hb) (.start ha.toVal hb.toVal) ((List.range a.next.length).flatMap fun s=>(kq b.next.length).map fun l=>(s,l)) (fun q=>?_) ?_
 ·simp only[List.mem_flatMap,List.mem_range,List.mem_map]
  constructor
  ·rintro⟨s,hs,l,hl,rfl⟩;exact⟨hs,(mH hl).1,(mH hl).2⟩
  ·rintro⟨h1,h2,h3⟩;exact⟨q.1,h1,q.2,sP h2 h3,F⟩
 ·rw[List.length_flatMap]
  simp only[List.length_map,sO]
  rw[show(fun _:Nat=>2^b.next.length)=Function.const Nat (2^b.next.length)from F,List.map_const,List.sum_replicate_nat,List.length_range]
  exact h
theorem Aw {a:bU} (ha:Valid a) {B:Nat} (h:2^(a.next.length+1)≤B):Cz a (da a) B:=by
 refine EL (yE ha) (.start ha.toVal) ((kq a.next.length).map (fun l=>(true,l))++(kq a.next.length).map (fun l=>(false,l))) (fun q=>?_) ?_
 ·simp only[List.mem_append,List.mem_map]
  constructor
  ·rintro(⟨l,hl,rfl⟩|⟨l,hl,rfl⟩)<;>exact⟨(mH hl).1,(mH hl).2⟩
  ·rintro⟨h1,h2⟩
   obtain⟨f,l⟩:=q
   cases f with
   |true=>exact .inl ⟨l,sP h1 h2,F⟩
   |false=>exact .inr ⟨l,sP h1 h2,F⟩
 ·rw[List.length_append,List.length_map,List.length_map,sO]
  rw[Nat.pow_succ]at h;omega
theorem HasL.Mx {v:Int} {n:Nat} {d:bU} {p:Lg} (h:HasL v n d p):HasL v d.next.length d p:=⟨h.valid,Nat.le_refl _,h.vars,h.gq⟩
end Go.Lx

namespace Go.Lx
open Go.RowKit Go.Proofs.YtgdbfideeeegmaaGreatDoor
section
variable (ls:List Lf)
def Bx:Nat→List (List Ob)
 |0=>[[]]
 |k+1=>Bx k++(Bx k).flatMap fun o=>(List.range (lf ls k).d.next.length).map fun s=>o++[(k,s)]
def N6:Nat→Nat
 |0=>1
 |k+1=>N6 k*((lf ls k).d.next.length+1)
def Ge:Nat→List Cf
 |0=>[]
 |k+1=>Ge k++(Bx ls k).flatMap fun o=>(List.range (lf ls k).d.next.length).map fun s=>⟨(k:Int),s,o⟩
variable {ls}
theorem JR {α β:Type} (l:List α) (n:Nat) (f:α→Nat→β):(l.flatMap fun o=>(List.range n).map fun s=>f o s).length=l.length*n:=by
 induction l with
 |nil=>simp
 |cons a l ih=>rw[List.flatMap_cons,List.length_append,List.length_map,List.length_range,ih,List.length_cons,Nat.succ_mul];omega
theorem v_: ∀k,(Bx ls k).length=N6 ls k
 |0=>rfl
 |k+1=>by
  show(Bx ls k++_).length=N6 ls k*_
  rw[List.length_append,JR,v_ k,Nat.mul_succ];omega
theorem By: ∀k,(Ge ls k).length+1=N6 ls k
 |0=>rfl
 |k+1=>by
  show(Ge ls k++_).length+1=N6 ls k*_
  rw[List.length_append,JR,v_ k,Nat.mul_succ];have:=By k;omega
theorem o7: ∀ {k:Nat} {o:List Ob},eB ls k o→o∈Bx ls k
 |0,o,h=>by
  cases o with
  |nil=>exact List.mem_singleton.2 F
  |cons p o=>exact absurd (h.2 p (by simp)).1 (by omega)
 |k+1,o,h=>by
  show o∈Bx ls k++_
  rcases List.eq_nil_or_concat o with rfl|⟨o,p,rfl⟩
  ·exact List.mem_append.2 (.inl (o7 .nil))
  ·rw[List.concat_eq_append]at h⊢
   have h1:=List.pairwise_append.1 h.1
   have hp:=h.2 p (by simp)
   have eV: ∀q∈o,q.1<p.1:=fun q hq=>h1.2.2 q hq p (by simp)
   rcases Nat.lt_or_ge p.1 k with c|c
   ·refine List.mem_append.2 (.inl (o7 ⟨h.1,fun q hq=>⟨?_,(h.2 q hq).2⟩⟩))
    rcases List.mem_append.1 hq with hq|hq
    ·have:=eV q hq;omega
    ·rw[List.mem_singleton.1 hq];exact c
   ·have e:p.1=k:=by omega
    refine List.mem_append.2 (.inr (List.mem_flatMap.2 ⟨o,o7 ⟨h1.1,fun q hq=>⟨by have:=eV q hq;omega,(h.2 q (by simp[hq])).2⟩⟩,List.mem_map.2 ⟨p.2,List.mem_range.2 (by rw[←e];exact hp.2),?_⟩⟩))
    rw[←e]
theorem Bz {n:Nat} {s:Nat} {o:List Ob}: ∀ {k:Nat},n<k→s<(lf ls n).d.next.length→eB ls n o→(⟨(n:Int),s,o⟩:Cf)∈Ge ls k
 |0,h,_,_=>absurd h (by omega)
 |k+1,h,hs,ho=>by
  show _∈Ge ls k++_
  rcases Nat.lt_or_ge n k with c|c
  ·exact List.mem_append.2 (.inl (Bz c hs ho))
  ·have e:n=k:=by omega
   subst e
   exact List.mem_append.2 (.inr (List.mem_flatMap.2 ⟨o,o7 ho,List.mem_map.2 ⟨s,List.mem_range.2 hs,F⟩⟩))
theorem DR {K:Nat} (h:2*N6 ls ls.length≤K+1):oC ls K:=fun l hn hg=>by
 have:=sI hn (m:=(Bx ls ls.length).map (fun o=>(⟨-1,0,o⟩:Cf))++Ge ls ls.length) fun c hc=>by
  rcases hg c hc with⟨h1,h2,h3⟩|⟨k,h1,hk,h2,h3⟩
  ·exact List.mem_append.2 (.inl (List.mem_map.2 ⟨c.o,o7 h3,by obtain⟨a,b,d⟩:=c;simp only at h1 h2;rw[h1,h2]⟩))
  ·refine List.mem_append.2 (.inr ?_)
   obtain⟨a,b,d⟩:=c
   simp only at h1 h2 h3
   rw[h1];exact Bz hk h2 h3
 rw[List.length_append,List.length_map,v_]at this
 have:=By (ls:=ls) ls.length
 omega
end
def EM:List bU→Nat
 | []=>1
 |d::l=>(d.next.length+1)*EM l
theorem we: ∀(l:List bU) (d:bU),EM (l++[d])=EM l*(d.next.length+1)
 | [],d=>by simp[EM]
 |a::l,d=>by show _*EM (l++[d])=_*EM l*_;rw[we l d,Nat.mul_assoc]
theorem BA (ls:List Lf): ∀k,k≤ls.length→N6 ls k=EM ((ls.take k).map Lf.d)
 |0,_=>rfl
 |k+1,h=>by
  rw[List.take_succ_eq_append_getElem (by omega),List.map_append,List.map_singleton,we,←BA ls k (by omega)]
  show N6 ls k*_=_
  rw[vy (show k<ls.length by omega)]
theorem N7 {ls:List Lf} {k:Nat} {q:Lf} (hq:q.d=(lf ls k).d):(ls.set k q).map Lf.d=ls.map Lf.d:=by
 apply List.ext_getElem?
 intro i
 rw[List.getElem?_map,List.getElem?_map]
 by_cases e:i=k
 ·subst e
  rcases Nat.lt_or_ge i ls.length with c|c
  ·rw[List.getElem?_set_self c,List.getElem?_eq_getElem c]
   show some q.d=some ls[i].d
   rw[hq,vy c]
  ·rw[List.getElem?_eq_none (by simpa using c),List.getElem?_eq_none c]
 ·rw[List.getElem?_set_ne (fun h=>e h.symm)]
theorem EN: ∀(b x:List Nat) (ls:List Lf),(ko ls b x).map Lf.d=ls.map Lf.d
 | [],x,ls=>rfl
 |k::b,x,ls=>(EN b x _).trans (N7 (ls:=ls) (k:=k) F)
theorem EO: ∀(la:List Nat) (ls:List Lf),(nH ls la).map Lf.d=ls.map Lf.d
 | [],ls=>rfl
 |k::la,ls=>(EO la _).trans (N7 (ls:=ls) (k:=k) F)
theorem kO {v B:Nat} (hv:v≤6) (hB:B≤4096) {t:Rx} (hp:t.plain=true) (ho:iP v t B) (hs:t.sz≤6):(minOf v (gd t)).next.length≤Gc t.sz:=by
 obtain⟨D,hD⟩:=Mw hv hp hs
 exact(dH hv hB hp ho).xt hD
theorem sQ: ∀k,k≤6→Gc k≤8:=by decide
theorem Gf {v B:Nat} (hv:v≤6) (hB:B≤4096): ∀ {t:Rx},t.plain=true→iP v t B→t.sz=7→(minOf v (gd t)).next.length≤512
 | .none,_,_,hs=>absurd hs (by decide)
 | .empty,_,_,hs=>absurd hs (by decide)
 | .letter p n,_,_,hs=>absurd hs (by show¬1=7;decide)
 | .not a,hp,ho,hs=>by
  have hs:a.sz+1=7:=hs
  have h1:=kO hv hB (t:=a) hp ho.1 (by omega)
  have h2:=sQ a.sz (by omega)
  have h3:=(dH hv hB (t:=a) hp ho.1).toHasL
  have h4:(minOf v (gd a)).next.length*(minOf v (gd a)).next.length≤8*8:=Nat.mul_le_mul (by omega) (by omega)
  have h5:=HasL.not (h3.le (Nat.le_refl _)) (by omega)
  have h6:=(dH hv hB (t:=.not a) hp ho).xt (D:=l9 (minOf v (gd a))) (h5.toHasL)
  omega
 | .star a,hp,ho,hs=>by
  have hs:a.sz+1=7:=hs
  have h1:=kO hv hB (t:=a) hp ho.1 (by omega)
  have h2:=sQ a.sz (by omega)
  have h3:=dH hv hB (t:=a) hp ho.1
  have h4:2^((minOf v (gd a)).next.length+1)≤2^9:=Nat.pow_le_pow_right (by decide) (by omega)
  have h5:=Bd (B:=512) hv (by decide) h3.toHasL (Aw h3.valid h4)
  exact h5.len
 | .jl a b,hp,ho,hs=>by
  have hs:a.sz+b.sz+1=7:=hs
  simp only[Rx.plain,Bool.and_eq_true]at hp
  have pa:=a.gl;have pb:=b.gl
  have h1:=kO hv hB hp.1 ho.1 (by omega)
  have h2:=kO hv hB hp.2 ho.2.1 (by omega)
  have h3:=dH hv hB hp.1 ho.1
  have h4:=dH hv hB hp.2 ho.2.1
  have h6:Gc a.sz*2^Gc b.sz≤512:=by
   have: ∀i,i≤5→ ∀j,j≤5→Gc i*2^Gc j≤512:=by decide
   exact this _ (by omega) _ (by omega)
  have h7:(minOf v (gd a)).next.length*2^(minOf v (gd b)).next.length≤Gc a.sz*2^Gc b.sz:=Nat.mul_le_mul h1 (Nat.pow_le_pow_right (by decide) h2)
  exact(kH (B:=512) hv (by decide) h3.toHasL h4.toHasL (ng h3.valid h4.valid (by omega))).len
 | .j5 a b,hp,ho,hs=>by
  have hs:a.sz+b.sz+1=7:=hs
  simp only[Rx.plain,Bool.and_eq_true]at hp
  have pa:=a.gl;have pb:=b.gl
  have h1:=kO hv hB hp.1 ho.1 (by omega)
  have h2:=kO hv hB hp.2 ho.2.1 (by omega)
  have h3:=dH hv hB hp.1 ho.1
  have h4:=dH hv hB hp.2 ho.2.1
  have h6:(minOf v (gd a)).next.length*(minOf v (gd b)).next.length≤8*8:=Nat.mul_le_mul (Nat.le_trans h1 (sQ _ (by omega))) (Nat.le_trans h2 (sQ _ (by omega)))
  have h7:=HasL.op (f:=B1) h3.toHasL.Mx h4.toHasL.Mx (by omega)
  have h8:=(dH hv hB (t:=.j5 a b) (by simp[Rx.plain,hp]) ho).xt h7.toHasL
  omega
 | .and a b,hp,ho,hs=>by
  have hs:a.sz+b.sz+1=7:=hs
  simp only[Rx.plain,Bool.and_eq_true]at hp
  have pa:=a.gl;have pb:=b.gl
  have h1:=kO hv hB hp.1 ho.1 (by omega)
  have h2:=kO hv hB hp.2 ho.2.1 (by omega)
  have h3:=dH hv hB hp.1 ho.1
  have h4:=dH hv hB hp.2 ho.2.1
  have h6:(minOf v (gd a)).next.length*(minOf v (gd b)).next.length≤8*8:=Nat.mul_le_mul (Nat.le_trans h1 (sQ _ (by omega))) (Nat.le_trans h2 (sQ _ (by omega)))
  have h7:=HasL.op (f:=pX) h3.toHasL.Mx h4.toHasL.Mx (by omega)
  have h8:=(dH hv hB (t:=.and a b) (by simp[Rx.plain,hp]) ho).xt h7.toHasL
  omega
 | .ahead a,hp,_,_=>absurd hp (by simp[Rx.plain])
 | .behind a,hp,_,_=>absurd hp (by simp[Rx.plain])
def BB (k:Nat):Nat:=if k≤6 then Gc k else if k=7 then 512 else 4096
theorem sR {v B:Nat} (hv:v≤6) (hB:B≤4096) {t:Rx} (hp:t.plain=true) (ho:iP v t B):(minOf v (gd t)).next.length≤BB t.sz:=by
 unfold BB
 split
 ·exact kO hv hB hp ho (by assumption)
 ·split
  ·exact Gf hv hB hp ho (by assumption)
  ·exact Nat.le_trans (dH hv hB hp ho).len hB
def tZ (n c:Nat):Prop:= ∃e,n≤2^e∧9*e≤13*c
theorem tZ.mul {n m c d:Nat} (h:tZ n c) (k:tZ m d):tZ (n*m) (c+d):=by
 obtain⟨e,h1,h2⟩:=h
 obtain⟨f,k1,k2⟩:=k
 exact⟨e+f,by rw[Nat.pow_add];exact Nat.mul_le_mul h1 k1,by omega⟩
def Rw (k:Nat):Nat:=if k≤7 then[2,2,2,3,3,3,4,10].getD k 0 else 13
def Ry (k:Nat):Nat:=if k≤7 then[3,3,3,4,4,4,5,11].getD k 0 else 13
def Rz (k:Nat):Nat:=if k≤6 then[4,4,4,5,6,6,9].getD k 0 else 13
theorem QZ (k:Nat) (h:1≤k):BB k+1≤2^Rw k∧9*Rw k≤13*(k+1):=by
 rcases Nat.lt_or_ge k 8 with c|c
 ·have: ∀k,k<8→1≤k→BB k+1≤2^Rw k∧9*Rw k≤13*(k+1):=by decide
  exact this k c h
 ·have e1:BB k=4096:=by unfold BB;rw[if_neg (by omega),if_neg (by omega)]
  have e2:Rw k=13:=by unfold Rw;rw[if_neg (by omega)]
  rw[e1,e2];omega
theorem Q0 (k:Nat) (h:1≤k):min (2*BB k) 4096+1≤2^Ry k∧9*Ry k≤13*(k+1+1):=by
 rcases Nat.lt_or_ge k 8 with c|c
 ·have: ∀k,k<8→1≤k→min (2*BB k) 4096+1≤2^Ry k∧9*Ry k≤13*(k+1+1):=by decide
  exact this k c h
 ·have e2:Ry k=13:=by unfold Ry;rw[if_neg (by omega)]
  rw[e2];omega
theorem Q1 (k:Nat) (h:1≤k):(if k≤6 then 2^BB k else 4096)+1≤2^Rz k∧9*Rz k≤13*(k+1+1):=by
 rcases Nat.lt_or_ge k 7 with c|c
 ·have: ∀k,k<7→1≤k→(if k≤6 then 2^BB k else 4096)+1≤2^Rz k∧9*Rz k≤13*(k+1+1):=by decide
  exact this k c h
 ·have e2:Rz k=13:=by unfold Rz;rw[if_neg (by omega)]
  rw[e2,if_neg (by omega)];omega
theorem Gg {v B:Nat} (hv:v≤6) (hB:B≤4096): ∀ {t:Rx},t.wf=true→okB v t B→(∀a b,t≠.jl a b)→(∀a b,t≠.j5 a b)→tZ ((nI v t).d.next.length+1) (t.sz+1):=by
 have pl: ∀ {t:Rx},t.plain=true→iP v t B→tZ ((minOf v (gd t)).next.length+1) (t.sz+1):=fun {t} hp ho=>by
  obtain⟨h1,h2⟩:=QZ t.sz t.gl
  exact⟨_,Nat.le_trans (Nat.succ_le_succ (sR hv hB hp ho)) h1,h2⟩
 intro t
 cases t with
 |none=>exact fun hw h _ _=>pl (t:=.none) hw h
 |empty=>exact fun hw h _ _=>pl (t:=.empty) hw h
 |letter p n=>exact fun hw h _ _=>pl (t:=.letter p n) hw h
 |and a b=>exact fun hw h _ _=>pl (t:=.and a b) hw h
 |not a=>exact fun hw h _ _=>pl (t:=.not a) hw h
 |star a=>exact fun hw h _ _=>pl (t:=.star a) hw h
 |jl a b=>exact fun _ _ h _=>absurd F (h a b)
 |j5 a b=>exact fun _ _ _ h=>absurd F (h a b)
 |ahead a=>
  intro hw h _ _
  obtain⟨h1,h2⟩:=Q0 a.sz a.gl
  have h3:=sR hv hB (t:=a) hw h.1
  have h4:=dH hv hB (t:=a) hw h.1
  have h5:(nI v (.ahead a)).d.next.length≤min (2*BB a.sz) 4096:=by
   have hm:=(kH hv hB h4.toHasL (eR hv) h.2).len
   refine Nat.le_min.2 ⟨?_,Nat.le_trans hm hB⟩
   rcases Nat.lt_or_ge (2*BB a.sz) 4096 with c|c
   ·have hs:=eR hv
    have h6:=kH (B:=2*BB a.sz) hv (by omega) h4.toHasL hs (ng h4.valid hs.valid (by show _*2^1≤_;omega))
    exact h6.len
   ·exact Nat.le_trans hm (by omega)
  exact⟨_,Nat.le_trans (Nat.succ_le_succ h5) h1,h2⟩
 |behind a=>
  intro hw h _ _
  obtain⟨h1,h2⟩:=Q1 a.sz a.gl
  have h3:=sR hv hB (t:=a) hw h.1
  have h4:=dH hv hB (t:=a) hw h.1
  have h5:(nI v (.behind a)).d.next.length≤(if a.sz≤6 then 2^BB a.sz else 4096):=by
   have hm:=(kH hv hB (eR hv) h4.toHasL h.2).len
   split
   ·have hs:=eR hv
    have h7:2^BB a.sz≤256:=by
     have: ∀k,k≤6→2^BB k≤256:=by decide
     exact this _ (by assumption)
    have h6:=kH (B:=2^BB a.sz) hv (by omega) hs h4.toHasL (ng hs.valid h4.valid (by show 1*_≤_;rw[Nat.one_mul];exact Nat.pow_le_pow_right (by decide) h3))
    exact h6.len
   ·exact Nat.le_trans hm hB
  exact⟨_,Nat.le_trans (Nat.succ_le_succ h5) h1,h2⟩
theorem BC {v B:Nat} (hv:v≤6) (hB:B≤4096): ∀(t:Rx) (ls:List Lf),t.wf=true→okB v t B→ ∀c,tZ (EM (ls.map Lf.d)) c→tZ (EM ((aH v t ls).ls.map Lf.d)) (c+(t.sz+1)):=by
 have leaf: ∀(t:Rx) (ls:List Lf),t.wf=true→okB v t B→(∀a b,t≠.jl a b)→(∀a b,t≠.j5 a b)→ ∀c,tZ (EM (ls.map Lf.d)) c→tZ (EM ((ls++[nI v t]).map Lf.d)) (c+(t.sz+1)):=fun t ls hw ho n1 n2 c hc=>by
  rw[List.map_append,List.map_singleton,we]
  exact hc.mul (Gg hv hB hw ho n1 n2)
 intro t
 induction t with
 |jl a b Je Jf=>
  intro ls hw ho c hc
  simp only[Rx.wf,Bool.and_eq_true]at hw
  have h1:=Jf _ hw.2 ho.2 _ (Je ls hw.1 ho.1 c hc)
  show tZ (EM ((ko _ _ _).map Lf.d)) (c+(a.sz+b.sz+1+1))
  rw[EN,show c+(a.sz+b.sz+1+1)=c+(a.sz+1)+(b.sz+1) by omega]
  exact h1
 |j5 a b Je Jf=>
  intro ls hw ho c hc
  simp only[Rx.wf,Bool.and_eq_true]at hw
  have h1:=Jf _ hw.2 ho.2 _ (Je ls hw.1 ho.1 c hc)
  show tZ (EM ((aH v b _).ls.map Lf.d)) (c+(a.sz+b.sz+1+1))
  rw[show c+(a.sz+b.sz+1+1)=c+(a.sz+1)+(b.sz+1) by omega]
  exact h1
 |none=>exact fun ls hw ho=>leaf .none ls hw ho (by simp) (by simp)
 |empty=>exact fun ls hw ho=>leaf .empty ls hw ho (by simp) (by simp)
 |letter p n=>exact fun ls hw ho=>leaf (.letter p n) ls hw ho (by simp) (by simp)
 |and a b _ _=>exact fun ls hw ho=>leaf (.and a b) ls hw ho (by simp) (by simp)
 |not a _=>exact fun ls hw ho=>leaf (.not a) ls hw ho (by simp) (by simp)
 |star a _=>exact fun ls hw ho=>leaf (.star a) ls hw ho (by simp) (by simp)
 |ahead a _=>exact fun ls hw ho=>leaf (.ahead a) ls hw ho (by simp) (by simp)
 |behind a _=>exact fun ls hw ho=>leaf (.behind a) ls hw ho (by simp) (by simp)
theorem My {v B:Nat} (hv:v≤6) (hB:B≤4096) {t:Rx} (hw:t.wf=true) (ho:okB v t B) (hs:t.sz≤24):oC (lD v t) 137438953471:=by
 have h1:=BC hv hB t [] hw ho 0 ⟨0,Nat.le_refl _,by decide⟩
 apply DR
 rw[BA _ _ (Nat.le_refl _),List.take_length]
 show 2*EM ((nH _ _).map Lf.d)≤_
 rw[EO]
 obtain⟨e,h2,h3⟩:=h1
 have h4:(2:Nat)^e≤2^36:=Nat.pow_le_pow_right (by decide) (by omega)
 omega
theorem Nb (n:Nat):cZ n=0∨cZ n=1∨cZ n=2:=by
 unfold cZ
 split
 ·exact .inr (.inr F)
 ·split
  ·exact .inr (.inl F)
  ·exact .inl F
theorem um {v:Nat} {e:List dF} {fs:List Nat} (h:iw v e=.ok fs): ∀(f i:Nat),i<f→i<e.length→(gX e f i).sz+fs.getD i 0≤i+1
 |0,i,hf,hi=>absurd hf (by omega)
 |f+1,i,hf,hi=>by
  obtain⟨g0,g1,g2,g3⟩:=yr h hi
  obtain⟨s1,s2,_⟩:=jT (pk h hi)
  unfold gX
  simp only[mB hi]
  rcases Nb e[i].op with hc|hc|hc
  ·have h3:=g3 hc
   have:e[i].op=1∨e[i].op=2∨e[i].op=3:=by unfold cZ at hc;split at hc;omega;split at hc;omega;omega
   rcases this with c|c|c
   all_goals (simp only[c];show 1+_≤_;omega)
  ·obtain⟨c1,c2,c3⟩:=g1 hc
   have ha:=um h f (i-1) (by omega) (by omega)
   have ea:e[i].a.toNat=i-1:=by omega
   rw[ea]
   have:e[i].op=7∨e[i].op=8∨e[i].op=9∨e[i].op=10:=by unfold cZ at hc;split at hc;omega;split at hc;omega;omega
   rcases this with c|c|c|c
   all_goals (simp only[c];show(gX e f (i-1)).sz+1+_≤_;omega)
  ·obtain⟨c1,c2,c3,c4,c5,c6⟩:=g2 hc
   have ha:=um h f (fs.getD (i-1) 0-1) (by omega) (by omega)
   have hb:=um h f (i-1) (by omega) (by omega)
   have ea:e[i].a.toNat=fs.getD (i-1) 0-1:=by omega
   have eb:e[i].b.toNat=i-1:=by omega
   rw[ea]at c6
   rw[ea,eb]
   have:e[i].op=4∨e[i].op=5∨e[i].op=6:=by unfold cZ at hc;split at hc;omega;split at hc;omega;omega
   rcases this with c|c|c
   all_goals (simp only[c];show(gX e f _).sz+(gX e f _).sz+1+_≤_;omega)
end Go.Lx

namespace Go.Proofs.YtgdbfideeeegmaaGreatDoor
open Go.Lx Go.RowKit _root_.Go.Proofs.Tryz
set_option maxRecDepth 20000 in
theorem AO (w:World) [cG Tryz.prog w] (a b:bU) (j k:DK) (ha:At w a j) (hb:At w b k) (va:Valid a) (vb:Valid b) (hv:a.vars=b.vars) (f:Bool→Bool→Bool) (g:Nat) (hf: ∀(base:World) (x y:Bool),dn Tryz.prog base (.func (.func g) #[] #[]) [.bool x,.bool y] [] (fun v O'=>v=.bool (f x y)∧O'=[])):
  bI Tryz.prog 138 [dV a j,dV b k,.func (.func g) #[] #[]] w fun v N=> ∃M k' e,v=.tuple #[dV M k',vI e]∧N=[dI 56 4 3 M k']∧(((order (aU f a b)).length≤4096∧M=rV f a b∧e=0)∨(4096<(order (aU f a b)).length∧e=10)):=by
 rcases Nat.lt_or_ge 4096 (order (aU f a b)).length with c|c
 ·refine(bm.dk (II:=56) (Bo:=4) (I:=3) (D:=zv) (g:=fun x=>.tuple #[x,vI 10]) ((eK 56 1 (eK 4 1 (CG w a b j k ha hb va vb hv f g hf c))).mono ?_)).mono ?_
  ·rintro v N ⟨O2,rfl,O3,rfl,rfl,rfl⟩
   exact⟨none,0,none,0,[],F,F,F⟩
  ·rintro v N ⟨k',rfl,rfl⟩
   exact⟨zv,k',10,F,F,.inr ⟨c,F⟩⟩
 ·refine(AP w a b j k ha hb va vb hv f g hf c).mono ?_
  rintro v N ⟨k',rfl,rfl⟩
  exact⟨rV f a b,k',0,F,F,.inl ⟨c,F,F⟩⟩
theorem WV (w:World) [cG Tryz.prog w] (a b:bU) (j k:DK) (ha:At w a j) (hb:At w b k) (va:Valid a) (vb:Valid b) (hv:a.vars=b.vars):
  bI Tryz.prog 107 [dV a j,dV b k] w fun v N=> ∃M k' e,v=.tuple #[dV M k',vI e]∧N=[dI 56 4 3 M k']∧(((order (aU pX a b)).length≤4096∧M=rV pX a b∧e=0)∨(4096<(order (aU pX a b)).length∧e=10)):=by
 refine aw func107 F ntmps107 F ?_
 refine ai (ak F (cH (cs:=(dC a j)) F F (fun lX=>?_)))
 refine ak F (cH (cs:=(dC b k)) F F (fun vd=>?_))
 refine ak F (aR aY F (fun Ip=>?_))
 refine aj F (ae (ai (ad (dh 2 bW F aY F F F) (ad (dh 1 bW F aY F F F) ?_))))
 have DL:=fun(w1:World) (hI:Inv w [oI Ip 25 [(vI 0),(vI 0),nS,nS],oI vd 25 (dC b k),oI lX 25 (dC a j)] w1)=>(haveI:=di hI;AO w1 a b j k (hI.nN ha) (hI.nN hb) va vb hv pX 152 Tw)
 refine ak F (aP CH (aI DL) F ?_)
 clear DL
 rintro vr O' ⟨N,rfl,M,k',e,rfl,rfl,LM⟩
 refine ad (aV (vs:=_) F F) (ad (aV (vs:=_) F F) (ak F (a8 (vs:=(dC M k')) 1 aY F F F F ?_)))
 refine aj F (ae (aA (ap ?_)))
 refine io (vI e) (i:=1) Tryz.results107 bW F aY F F F F ?_
 exact⟨[dI 56 4 3 M k'],(by exact Sub.k .z),M,k',e,F,F,LM⟩
theorem orE (w:World) [cG Tryz.prog w] (a b:bU) (j k:DK) (ha:At w a j) (hb:At w b k) (va:Valid a) (vb:Valid b) (hv:a.vars=b.vars):
  bI Tryz.prog 106 [dV a j,dV b k] w fun v N=> ∃M k' e,v=.tuple #[dV M k',vI e]∧N=[dI 56 4 3 M k']∧(((order (aU B1 a b)).length≤4096∧M=rV B1 a b∧e=0)∨(4096<(order (aU B1 a b)).length∧e=10)):=by
 refine aw func106 F ntmps106 F ?_
 refine ai (ak F (cH (cs:=(dC a j)) F F (fun lX=>?_)))
 refine ak F (cH (cs:=(dC b k)) F F (fun vd=>?_))
 refine ak F (aR aY F (fun Ip=>?_))
 refine aj F (ae (ai (ad (dh 2 bW F aY F F F) (ad (dh 1 bW F aY F F F) ?_))))
 have DL:=fun(w1:World) (hI:Inv w [oI Ip 25 [(vI 0),(vI 0),nS,nS],oI vd 25 (dC b k),oI lX 25 (dC a j)] w1)=>(haveI:=di hI;AO w1 a b j k (hI.nN ha) (hI.nN hb) va vb hv B1 151 WW)
 refine ak F (aP CH (aI DL) F ?_)
 clear DL
 rintro vr O' ⟨N,rfl,M,k',e,rfl,rfl,LM⟩
 refine ad (aV (vs:=_) F F) (ad (aV (vs:=_) F F) (ak F (a8 (vs:=(dC M k')) 1 aY F F F F ?_)))
 refine aj F (ae (aA (ap ?_)))
 refine io (vI e) (i:=1) Tryz.results106 bW F aY F F F F ?_
 exact⟨[dI 56 4 3 M k'],(by exact Sub.k .z),M,k',e,F,F,LM⟩
theorem Tx (w:World) [cG Tryz.prog w] (a:bU) (j:DK) (ha:At w a j) (va:Valid a):
  bI Tryz.prog 102 [dV a j] w fun v N=> ∃k':DK,v=.tuple #[dV (l9 a) k',vI 0]∧N=[dI 56 4 3 (l9 a) k']:=by
 have h:=WX w a j ha (by have:=va.n4;omega) va.uA (by have:=va.fin;have:=va.n4;omega)
 rw[GD (by rw[sU,dq.2 va]),dq.2 va]at h
 exact h
theorem FN (w:World) [cG Tryz.prog w] (cb:Nat) (eb:Option Addr) (en ec vs B:Nat) (dz:Sl w (aD cb) [.slice eb en ec,vI (vs:Int),vI (B:Int)]) (eT:vs≤6) (gn:1≤B) (hB:B≤4096) (e:List dF) (hE:Sl w eb (bg e)) (iA:en=e.length) (i:Nat) (hp:e[i]? =some ⟨1,0,0,0,0⟩):
  cB Tryz.prog w (.iface 163 (.agg #[])) 72 [(cW (aD cb) 0),vN i] [] (qI vs B Rx.none) (¬iP vs Rx.none B):=by
 refine cJ func72 F ntmps72 F ?_
 obtain⟨hi,_⟩:=gf hp
 refine ai (ak F (aR aY F (fun z1=>?_)))
 refine ae (ai (ah F (ad (aK F) (ad (br iR F fJ F F (ay dz) (by first|omega|(simp;done)|(simp;omega)|(simp_all;done)|(simp_all;omega))) (ad (cd cN F F (ay dz) F) (ah F (ad (cY (i:=i) cN bN F F (ay hE) (by omega) (by rw[bE];omega)) (ad (dy (vs:=[v8 1,v8 0,v8 0,vI 0,vI 0]) bs F bN F F (Nat.succ_pos _) (ay hE) (ew hp)) (ak F (aR bN F (fun z2=>?_)))))))))))
 refine ak F (a8 (vs:=[v8 1,v8 0,v8 0,vI 0,vI 0]) 0 bN F F F F ?_)
 refine ae (aB (ai (ad (aN bs F cI F F) (ad (aQ 0 eu F F F F) (ae (aG (ai (ad (aZ F F) (ad (aq (bt F) (decide_eq_true (by decide))) (ae ?_))))))))))
 refine bj F ?_
 refine ai (ah F (ah F ?_))
 have oz:=fun(w1:World) (hI:Inv w [oI z2 72 [v8 1,v8 0,v8 0,vI 0,vI 0],oI z1 25 [(vI 0),(vI 0),nS,nS]] w1)=>(haveI:=di hI;Kt w1 cb eb en ec vs B (hI.sl dz) eT)
 refine ak F (aP CI (aI oz) F ?_)
 clear oz
 rintro vr O' ⟨N,rfl,kA,rfl,rfl⟩
 have lh:=fun(w1:World) (hI:Inv w [dI 56 4 3 (eo (vs:Int) true) kA,oI z2 72 [v8 1,v8 0,v8 0,vI 0,vI 0],oI z1 25 [(vI 0),(vI 0),nS,nS]] w1)=>(haveI:=di hI;Tx w1 (eo (vs:Int) true) kA (hI.at (k:=kA) (mG 0 F)) (eR eT).valid)
 refine ak F (aP Iq (aI lh) F ?_)
 clear lh
 rintro vr O' ⟨N,rfl,kr,rfl,rfl⟩
 refine ad (aV (vs:=_) F F) (ad (aV (vs:=_) F F) ?_)
 have Ir:=fun(w1:World) (hI:Inv w [dI 56 4 3 (l9 (eo (vs:Int) true)) kr,dI 56 4 3 (eo (vs:Int) true) kA,oI z2 72 [v8 1,v8 0,v8 0,vI 0,vI 0],oI z1 25 [(vI 0),(vI 0),nS,nS]] w1)=>(haveI:=di hI;kj w1 cb eb en ec vs B (hI.sl dz) (l9 (eo (vs:Int) true)) kr 0)
 refine de F (dA oL (cB.pure Ir) F (fun z _=>⟨F,fun h9=>z ⟨F,h9⟩⟩) ?_)
 clear Ir
 rintro vr O' ⟨N,rfl,rfl,rfl,_,BV⟩
 have CD:=Is eT BV
 refine ak F (a8 (vs:=(dC (l9 (eo (vs:Int) true)) kr)) 3 aY F F F F ?_)
 refine ae (aA (ap ?_))
 refine bL (i:=3) Tryz.results72 bW F aY F F F ?_
 exact⟨[dI 56 4 3 (l9 (eo (vs:Int) true)) kr],(by exact Sub.k .z),(l9 (eo (vs:Int) true)),kr,F,F,CD,BV⟩
theorem It (w:World) [cG Tryz.prog w] (cb:Nat) (eb:Option Addr) (en ec vs B:Nat) (dz:Sl w (aD cb) [.slice eb en ec,vI (vs:Int),vI (B:Int)]) (eT:vs≤6) (gn:1≤B) (hB:B≤4096) (e:List dF) (hE:Sl w eb (bg e)) (iA:en=e.length) (i:Nat) (a:Rx) (j:Nat) (hp:e[i]? =some ⟨7,0,0,(j:Int),0⟩) (LL: ∀(w1:World) [cG Tryz.prog w1],Inv w [] w1→cB Tryz.prog w1 (.iface 163 (.agg #[])) 72 [(cW (aD cb) 0),vN j] [] (qI vs B a) (¬iP vs a B)):
  cB Tryz.prog w (.iface 163 (.agg #[])) 72 [(cW (aD cb) 0),vN i] [] (qI vs B (.not a)) (¬iP vs (.not a) B):=by
 refine cJ func72 F ntmps72 F ?_
 obtain⟨hi,_⟩:=gf hp
 refine ai (ak F (aR aY F (fun z1=>?_)))
 refine ae (ai (ah F (ad (aK F) (ad (br iR F fJ F F (ay dz) (by first|omega|(simp;done)|(simp;omega)|(simp_all;done)|(simp_all;omega))) (ad (cd cN F F (ay dz) F) (ah F (ad (cY (i:=i) cN bN F F (ay hE) (by omega) (by rw[bE];omega)) (ad (dy (vs:=[v8 7,v8 0,v8 0,vN j,vI 0]) bs F bN F F (Nat.succ_pos _) (ay hE) (ew hp)) (ak F (aR bN F (fun z2=>?_)))))))))))
 refine ak F (a8 (vs:=[v8 7,v8 0,v8 0,vN j,vI 0]) 0 bN F F F F ?_)
 refine ae (aB (ai (ad (aN bs F cI F F) (ad (aQ 0 eu F F F F) (ae (aG (ai (ad (aZ F F) (ad (aq (bt F) (decide_eq_false (by decide))) (ae (aL F (ai (ad (aZ F F) (ad (aq (bt F) (decide_eq_false (by decide))) ?_))))))))))))))
 refine ae (aL F (ai (ad (aZ F F) (ad (aq (bt F) (decide_eq_false (by decide))) (ae (aL F (ai (ad (aZ F F) (ad (aq (bt F) (decide_eq_true (by decide))) ?_)))))))))
 refine ae ?_
 refine bj F ?_
 refine ai (ah F (ah F (ad (aN bs F aO F F) (ad (aQ 0 cS F F F F) ?_))))
 have mu:=fun(w1:World) (hI:Inv w [oI z2 72 [v8 7,v8 0,v8 0,vN j,vI 0],oI z1 25 [(vI 0),(vI 0),nS,nS]] w1)=>(haveI:=di hI;LL w1 hI.kw)
 refine de F (dA nD (cB.pure mu) F (fun z _=>⟨F,fun h9=>z h9.1⟩) ?_)
 clear mu
 rintro vr O' ⟨N,rfl,MA,kA,rfl,rfl,oM,FL⟩
 have xz:=fD oM hB
 have Iu:=fun(w1:World) (hI:Inv w [dI 56 4 3 MA kA,oI z2 72 [v8 7,v8 0,v8 0,vN j,vI 0],oI z1 25 [(vI 0),(vI 0),nS,nS]] w1)=>(haveI:=di hI;Tx w1 MA kA (hI.at (k:=kA) (mG 0 F)) oM.valid)
 refine ak F (aP Iq (aI Iu) F ?_)
 clear Iu
 rintro vr O' ⟨N,rfl,kr,rfl,rfl⟩
 refine ad (aV (vs:=_) F F) (ad (aV (vs:=_) F F) ?_)
 have Ap:=fun(w1:World) (hI:Inv w [dI 56 4 3 (l9 MA) kr,dI 56 4 3 MA kA,oI z2 72 [v8 7,v8 0,v8 0,vN j,vI 0],oI z1 25 [(vI 0),(vI 0),nS,nS]] w1)=>(haveI:=di hI;kj w1 cb eb en ec vs B (hI.sl dz) (l9 MA) kr 0)
 refine de F (dA oL (cB.pure Ap) F (fun z _=>⟨F,fun h9=>z ⟨F,by rw[xz];exact h9.2⟩⟩) ?_)
 clear Ap
 rintro vr O' ⟨N,rfl,rfl,rfl,_,NA⟩
 have CD:=notM oM.toHasL NA
 have BV:iP vs (.not a) B:=⟨FL,by rw[←xz];exact NA⟩
 refine ak F (a8 (vs:=(dC (l9 MA) kr)) 3 aY F F F F ?_)
 refine ae (aA (ap ?_))
 refine bL (i:=3) Tryz.results72 bW F aY F F F ?_
 exact⟨[dI 56 4 3 (l9 MA) kr],(by exact Sub.k .z),(l9 MA),kr,F,F,CD,BV⟩
theorem Iv (w:World) [cG Tryz.prog w] (cb:Nat) (eb:Option Addr) (en ec vs B:Nat) (dz:Sl w (aD cb) [.slice eb en ec,vI (vs:Int),vI (B:Int)]) (eT:vs≤6) (gn:1≤B) (hB:B≤4096) (e:List dF) (hE:Sl w eb (bg e)) (iA:en=e.length) (i:Nat) (a b:Rx) (j k:Nat) (hp:e[i]? =some ⟨5,0,0,(j:Int),(k:Int)⟩) (LL: ∀(w1:World) [cG Tryz.prog w1],Inv w [] w1→cB Tryz.prog w1 (.iface 163 (.agg #[])) 72 [(cW (aD cb) 0),vN j] [] (qI vs B a) (¬iP vs a B)) (Tt: ∀(w1:World) [cG Tryz.prog w1],Inv w [] w1→cB Tryz.prog w1 (.iface 163 (.agg #[])) 72 [(cW (aD cb) 0),vN k] [] (qI vs B b) (¬iP vs b B)):
  cB Tryz.prog w (.iface 163 (.agg #[])) 72 [(cW (aD cb) 0),vN i] [] (qI vs B (.j5 a b)) (¬iP vs (.j5 a b) B):=by
 refine cJ func72 F ntmps72 F ?_
 obtain⟨hi,_⟩:=gf hp
 refine ai (ak F (aR aY F (fun z1=>?_)))
 refine ae (ai (ah F (ad (aK F) (ad (br iR F fJ F F (ay dz) (by first|omega|(simp;done)|(simp;omega)|(simp_all;done)|(simp_all;omega))) (ad (cd cN F F (ay dz) F) (ah F (ad (cY (i:=i) cN bN F F (ay hE) (by omega) (by rw[bE];omega)) (ad (dy (vs:=[v8 5,v8 0,v8 0,vN j,vN k]) bs F bN F F (Nat.succ_pos _) (ay hE) (ew hp)) (ak F (aR bN F (fun z2=>?_)))))))))))
 refine ak F (a8 (vs:=[v8 5,v8 0,v8 0,vN j,vN k]) 0 bN F F F F ?_)
 refine ae (aB (ai (ad (aN bs F cI F F) (ad (aQ 0 eu F F F F) (ae (aG (ai (ad (aZ F F) (ad (aq (bt F) (decide_eq_false (by decide))) (ae (aL F (ai (ad (aZ F F) (ad (aq (bt F) (decide_eq_false (by decide))) ?_))))))))))))))
 refine ae (aL F (ai (ad (aZ F F) (ad (aq (bt F) (decide_eq_false (by decide))) (ae (aL F (ai (ad (aZ F F) (ad (aq (bt F) (decide_eq_false (by decide))) ?_)))))))))
 refine ae (aL F (ai (ad (aZ F F) (ad (aq (bt F) (decide_eq_false (by decide))) (ae (aL F (ai (ad (aZ F F) (ad (aq (bt F) (decide_eq_true (by decide))) ?_)))))))))
 refine ae ?_
 refine bj F ?_
 refine aB ?_
 refine eD [(0,0),(1,0),(2,0),(3,0),(5,0),(6,0),(7,0),(4,1),(8,1),(9,1),(10,0),(11,0),(12,2),(13,2)] ?_
 refine ao F (az F) (ao F (az F) (ao F (aN bs F aO F F) (ao F (aQ 0 cS F F F F) (ao F (az F) (ao F (aN bs F aO F F) (ao F (aQ 0 cS F F F F) ?_))))))
 have Iw:=fun(w1:World) (hI:Inv w [oI z2 72 [v8 5,v8 0,v8 0,vN j,vN k],oI z1 25 [(vI 0),(vI 0),nS,nS]] w1)=>(haveI:=di hI;LL w1 hI.kw)
 refine fS F F (dA nD (cB.pure Iw) F (fun z _=>⟨F,fun h9=>z h9.1⟩) ?_)
 clear Iw
 rintro vr O' ⟨N,rfl,MA,kA,rfl,rfl,oM,FL⟩
 refine⟨by exact Sub.d (.k (.k .z)),?_⟩
 have xz:=fD oM hB
 have Ix:=fun(w1:World) (hI:Inv w [dI 56 4 3 MA kA,oI z2 72 [v8 5,v8 0,v8 0,vN j,vN k],oI z1 25 [(vI 0),(vI 0),nS,nS]] w1)=>(haveI:=di hI;Tt w1 hI.kw)
 refine fS F F (dA nD (cB.pure Ix) F (fun z _=>⟨F,fun h9=>z h9.2.1⟩) ?_)
 clear Ix
 rintro vr O' ⟨N,rfl,MB,kB,rfl,rfl,vl,FM⟩
 refine⟨by exact Sub.d (.d (.k (.k .z))),?_⟩
 have Nz:=fD vl hB
 have Ty:=fun(w1:World) (hI:Inv w [dI 56 4 3 MB kB,dI 56 4 3 MA kA,oI z2 72 [v8 5,v8 0,v8 0,vN j,vN k],oI z1 25 [(vI 0),(vI 0),nS,nS]] w1)=>(haveI:=di hI;orE w1 MA MB kA kB (hI.at (k:=kA) (mG 1 F)) (hI.at (k:=kB) (mG 0 F)) oM.valid vl.valid (by rw[oM.vars,vl.vars]))
 refine bo F F (aP PN (aI Ty) F ?_)
 clear Ty
 rintro vr O' ⟨N,rfl,MR,kr,ee,rfl,rfl,LM⟩
 refine⟨by exact Sub.d (.d (.d (.k (.k .z)))),?_⟩
 refine ao F (aV (vs:=_) F F) (ao F (aV (vs:=_) F F) ?_)
 have Iy:=fun(w1:World) (hI:Inv w [dI 56 4 3 MR kr,dI 56 4 3 MB kB,dI 56 4 3 MA kA,oI z2 72 [v8 5,v8 0,v8 0,vN j,vN k],oI z1 25 [(vI 0),(vI 0),nS,nS]] w1)=>(haveI:=di hI;kj w1 cb eb en ec vs B (hI.sl dz) MR kr ee)
 refine qp F F (dA oL (cB.pure Iy) F (fun z _=>⟨F,fun h9=>by
  have h8:=h9.2.2
  rw[←xz,←Nz]at h8
  rcases LM with⟨_,rfl,rfl⟩|⟨h7,_⟩
  ·exact z ⟨F,h8.2⟩
  ·exact absurd h8.1 (by omega)⟩) ?_)
 clear Iy
 rintro vr O' ⟨N,rfl,rfl,rfl,MJ,NA⟩
 obtain⟨ho,Tz⟩:(order (aU B1 MA MB)).length≤4096∧MR=rV B1 MA MB:=LM.elim (fun h9=>⟨h9.1,h9.2.1⟩) (fun h9=>absurd h9.2 (by omega))
 have CD:eF (vs:Int) B MR (gd (.j5 a b)):=by subst Tz;exact Vz oM vl ho NA
 have BV:iP vs (.j5 a b) B:=⟨FL,FM,by rw[←xz,←Nz];exact⟨ho,Tz▸NA⟩⟩
 refine bq F F (a8 (vs:=(dC MR kr)) 4 aY F F F F ?_)
 refine bw ?_
 refine aA (ap ?_)
 refine bL (i:=4) Tryz.results72 bW F aY F F F ?_
 exact⟨[dI 56 4 3 MR kr],(by exact Sub.k .z),MR,kr,F,F,CD,BV⟩
theorem Iz (w:World) [cG Tryz.prog w] (cb:Nat) (eb:Option Addr) (en ec vs B:Nat) (dz:Sl w (aD cb) [.slice eb en ec,vI (vs:Int),vI (B:Int)]) (eT:vs≤6) (gn:1≤B) (hB:B≤4096) (e:List dF) (hE:Sl w eb (bg e)) (iA:en=e.length) (i:Nat) (a b:Rx) (j k:Nat) (hp:e[i]? =some ⟨6,0,0,(j:Int),(k:Int)⟩) (LL: ∀(w1:World) [cG Tryz.prog w1],Inv w [] w1→cB Tryz.prog w1 (.iface 163 (.agg #[])) 72 [(cW (aD cb) 0),vN j] [] (qI vs B a) (¬iP vs a B)) (Tt: ∀(w1:World) [cG Tryz.prog w1],Inv w [] w1→cB Tryz.prog w1 (.iface 163 (.agg #[])) 72 [(cW (aD cb) 0),vN k] [] (qI vs B b) (¬iP vs b B)):
  cB Tryz.prog w (.iface 163 (.agg #[])) 72 [(cW (aD cb) 0),vN i] [] (qI vs B (.and a b)) (¬iP vs (.and a b) B):=by
 refine cJ func72 F ntmps72 F ?_
 obtain⟨hi,_⟩:=gf hp
 refine ai (ak F (aR aY F (fun z1=>?_)))
 refine ae (ai (ah F (ad (aK F) (ad (br iR F fJ F F (ay dz) (by first|omega|(simp;done)|(simp;omega)|(simp_all;done)|(simp_all;omega))) (ad (cd cN F F (ay dz) F) (ah F (ad (cY (i:=i) cN bN F F (ay hE) (by omega) (by rw[bE];omega)) (ad (dy (vs:=[v8 6,v8 0,v8 0,vN j,vN k]) bs F bN F F (Nat.succ_pos _) (ay hE) (ew hp)) (ak F (aR bN F (fun z2=>?_)))))))))))
 refine ak F (a8 (vs:=[v8 6,v8 0,v8 0,vN j,vN k]) 0 bN F F F F ?_)
 refine ae (aB (ai (ad (aN bs F cI F F) (ad (aQ 0 eu F F F F) (ae (aG (ai (ad (aZ F F) (ad (aq (bt F) (decide_eq_false (by decide))) (ae (aL F (ai (ad (aZ F F) (ad (aq (bt F) (decide_eq_false (by decide))) ?_))))))))))))))
 refine ae (aL F (ai (ad (aZ F F) (ad (aq (bt F) (decide_eq_false (by decide))) (ae (aL F (ai (ad (aZ F F) (ad (aq (bt F) (decide_eq_false (by decide))) ?_)))))))))
 refine ae (aL F (ai (ad (aZ F F) (ad (aq (bt F) (decide_eq_false (by decide))) (ae (aL F (ai (ad (aZ F F) (ad (aq (bt F) (decide_eq_false (by decide))) ?_)))))))))
 refine ae (aL F (ai (ad (aZ F F) (ad (aq (bt F) (decide_eq_true (by decide))) (ae ?_)))))
 refine bj F ?_
 refine aB ?_
 refine eD [(0,0),(1,0),(2,0),(3,0),(5,0),(6,0),(7,0),(4,1),(8,1),(9,1),(10,0),(11,0),(12,2),(13,2)] ?_
 refine ao F (az F) (ao F (az F) (ao F (aN bs F aO F F) (ao F (aQ 0 cS F F F F) (ao F (az F) (ao F (aN bs F aO F F) (ao F (aQ 0 cS F F F F) ?_))))))
 have TA:=fun(w1:World) (hI:Inv w [oI z2 72 [v8 6,v8 0,v8 0,vN j,vN k],oI z1 25 [(vI 0),(vI 0),nS,nS]] w1)=>(haveI:=di hI;LL w1 hI.kw)
 refine fS F F (dA nD (cB.pure TA) F (fun z _=>⟨F,fun h9=>z h9.1⟩) ?_)
 clear TA
 rintro vr O' ⟨N,rfl,MA,kA,rfl,rfl,oM,FL⟩
 refine⟨by exact Sub.d (.k (.k .z)),?_⟩
 have xz:=fD oM hB
 have HC:=fun(w1:World) (hI:Inv w [dI 56 4 3 MA kA,oI z2 72 [v8 6,v8 0,v8 0,vN j,vN k],oI z1 25 [(vI 0),(vI 0),nS,nS]] w1)=>(haveI:=di hI;Tt w1 hI.kw)
 refine fS F F (dA nD (cB.pure HC) F (fun z _=>⟨F,fun h9=>z h9.2.1⟩) ?_)
 clear HC
 rintro vr O' ⟨N,rfl,MB,kB,rfl,rfl,vl,FM⟩
 refine⟨by exact Sub.d (.d (.k (.k .z))),?_⟩
 have Nz:=fD vl hB
 have TB:=fun(w1:World) (hI:Inv w [dI 56 4 3 MB kB,dI 56 4 3 MA kA,oI z2 72 [v8 6,v8 0,v8 0,vN j,vN k],oI z1 25 [(vI 0),(vI 0),nS,nS]] w1)=>(haveI:=di hI;WV w1 MA MB kA kB (hI.at (k:=kA) (mG 1 F)) (hI.at (k:=kB) (mG 0 F)) oM.valid vl.valid (by rw[oM.vars,vl.vars]))
 refine bo F F (aP PO (aI TB) F ?_)
 clear TB
 rintro vr O' ⟨N,rfl,MR,kr,ee,rfl,rfl,LM⟩
 refine⟨by exact Sub.d (.d (.d (.k (.k .z)))),?_⟩
 refine ao F (aV (vs:=_) F F) (ao F (aV (vs:=_) F F) ?_)
 have TC:=fun(w1:World) (hI:Inv w [dI 56 4 3 MR kr,dI 56 4 3 MB kB,dI 56 4 3 MA kA,oI z2 72 [v8 6,v8 0,v8 0,vN j,vN k],oI z1 25 [(vI 0),(vI 0),nS,nS]] w1)=>(haveI:=di hI;kj w1 cb eb en ec vs B (hI.sl dz) MR kr ee)
 refine qp F F (dA oL (cB.pure TC) F (fun z _=>⟨F,fun h9=>by
  have h8:=h9.2.2
  rw[←xz,←Nz]at h8
  rcases LM with⟨_,rfl,rfl⟩|⟨h7,_⟩
  ·exact z ⟨F,h8.2⟩
  ·exact absurd h8.1 (by omega)⟩) ?_)
 clear TC
 rintro vr O' ⟨N,rfl,rfl,rfl,MJ,NA⟩
 obtain⟨ho,Tz⟩:(order (aU pX MA MB)).length≤4096∧MR=rV pX MA MB:=LM.elim (fun h9=>⟨h9.1,h9.2.1⟩) (fun h9=>absurd h9.2 (by omega))
 have CD:eF (vs:Int) B MR (gd (.and a b)):=by subst Tz;exact Vz oM vl ho NA
 have BV:iP vs (.and a b) B:=⟨FL,FM,by rw[←xz,←Nz];exact⟨ho,Tz▸NA⟩⟩
 refine bq F F (a8 (vs:=(dC MR kr)) 4 aY F F F F ?_)
 refine bw ?_
 refine aA (ap ?_)
 refine bL (i:=4) Tryz.results72 bW F aY F F F ?_
 exact⟨[dI 56 4 3 MR kr],(by exact Sub.k .z),MR,kr,F,F,CD,BV⟩
theorem PM.of {cb:Nat} {eb:Option Addr} {en ec vs B:Nat} {e:List dF} (iA:en=e.length):PM cb eb en ec vs B e:=
 ⟨fun w _ eT gn hB dz hE i hp=>FN w cb eb en ec vs B dz eT gn hB e hE iA i hp,fun w _ eT gn hB dz hE i a j hp hA=>It w cb eb en ec vs B dz eT gn hB e hE iA i a j hp hA,
  fun w _ eT gn hB dz hE i a b j k hp hA hb=>Iv w cb eb en ec vs B dz eT gn hB e hE iA i a b j k hp hA hb,fun w _ eT gn hB dz hE i a b j k hp hA hb=>Iz w cb eb en ec vs B dz eT gn hB e hE iA i a b j k hp hA hb⟩
end Go.Proofs.YtgdbfideeeegmaaGreatDoor

