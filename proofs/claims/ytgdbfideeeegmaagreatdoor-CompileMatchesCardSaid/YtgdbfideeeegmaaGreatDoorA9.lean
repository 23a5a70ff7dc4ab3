/- Contracts of functions; conditions: those each theorem names. -/
import Derived.ChangeKeysEq
import Derived.Test.YtgdbfideeeegmaaGreatDoorA8
set_option linter.unusedSectionVars false
set_option linter.unusedSimpArgs false
set_option linter.unusedVariables false
set_option linter.unnecessarySimpa false
set_option maxHeartbeats 8000000
set_option maxRecDepth 20000
namespace Go.Lx
open Go.RowKit Go.Proofs.YtgdbfideeeegmaaGreatDoor
section
variable (ls:List Lf)
def Fl:Nat→List (List Ob)
 |0=>[[]]
 |k+1=>Fl k++(Fl k).flatMap fun o=>(List.range (lf ls k).d.next.length).map fun s=>o++[(k,s)]
def UB:Nat→Nat
 |0=>1
 |k+1=>UB k*((lf ls k).d.next.length+1)
def K4:Nat→List Cf
 |0=>[]
 |k+1=>K4 k++(Fl ls k).flatMap fun o=>(List.range (lf ls k).d.next.length).map fun s=>⟨(k:Int),s,o⟩
variable {ls}
theorem Pt {α β:Type} (l:List α) (n:Nat) (f:α→Nat→β):(l.flatMap fun o=>(List.range n).map fun s=>f o s).length=l.length*n:=by
 induction l with
 |nil=>simp
 |cons a l ih=>rw[List.flatMap_cons,aJ,ai,iE,ih,bQ,Nat.succ_mul];omega
theorem Ab: ∀k,(Fl ls k).length=UB ls k
 |0=>rfl
 |k+1=>by
  show(Fl ls k++_).length=UB ls k*_
  rw[aJ,Pt,Ab k,Nat.mul_succ];omega
theorem Fm: ∀k,(K4 ls k).length+1=UB ls k
 |0=>rfl
 |k+1=>by
  show(K4 ls k++_).length+1=UB ls k*_
  rw[aJ,Pt,Ab k,Nat.mul_succ];have:=Fm k;omega
theorem su: ∀ {k:Nat} {o:List Ob},gy ls k o→o∈Fl ls k
 |0,o,h=>by
  cases o with
  |nil=>exact List.mem_singleton.2 F
  |cons p o=>exact absurd (h.2 p (by simp)).1 (by omega)
 |k+1,o,h=>by
  show o∈Fl ls k++_
  rcases List.eq_nil_or_concat o with rfl|⟨o,p,rfl⟩
  ·exact List.mem_append.2 (.inl (su .nil))
  ·rw[List.concat_eq_append]at h⊢
   have h1:=List.pairwise_append.1 h.1
   have hp:=h.2 p (by simp)
   have gQ: ∀q∈o,q.1<p.1:=fun q hq=>h1.2.2 q hq p (by simp)
   rcases Nat.lt_or_ge p.1 k with c|c
   ·refine List.mem_append.2 (.inl (su ⟨h.1,fun q hq=>⟨?_,(h.2 q hq).2⟩⟩))
    rcases List.mem_append.1 hq with hq|hq
    ·have:=gQ q hq;omega
    ·rw[List.mem_singleton.1 hq];exact c
   ·have e:p.1=k:=by omega
    refine List.mem_append.2 (.inr (List.mem_flatMap.2 ⟨o,su ⟨h1.1,fun q hq=>⟨by have:=gQ q hq;omega,(h.2 q (by simp[hq])).2⟩⟩,List.mem_map.2 ⟨p.2,List.mem_range.2 (by rw[←e];exact hp.2),?_⟩⟩))
    rw[←e]
theorem Fp {n:Nat} {s:Nat} {o:List Ob}: ∀ {k:Nat},n<k→s<(lf ls n).d.next.length→gy ls n o→(⟨(n:Int),s,o⟩:Cf)∈K4 ls k
 |0,h,_,_=>absurd h (by omega)
 |k+1,h,hs,ho=>by
  show _∈K4 ls k++_
  rcases Nat.lt_or_ge n k with c|c
  ·exact List.mem_append.2 (.inl (Fp c hs ho))
  ·have e:n=k:=by omega
   subst e
   exact List.mem_append.2 (.inr (List.mem_flatMap.2 ⟨o,su ho,List.mem_map.2 ⟨s,List.mem_range.2 hs,F⟩⟩))
theorem H7 {K:Nat} (h:2*UB ls ls.length≤K+1):rN ls K:=fun l hn hg=>by
 have:=ws hn (m:=(Fl ls ls.length).map (fun o=>(⟨-1,0,o⟩:Cf))++K4 ls ls.length) fun c hc=>by
  rcases hg c hc with⟨h1,h2,h3⟩|⟨k,h1,hk,h2,h3⟩
  ·exact List.mem_append.2 (.inl (List.mem_map.2 ⟨c.o,su h3,by obtain⟨a,b,d⟩:=c;simp only at h1 h2;rw[h1,h2]⟩))
  ·refine List.mem_append.2 (.inr ?_)
   obtain⟨a,b,d⟩:=c
   simp only at h1 h2 h3
   rw[h1];exact Fp hk h2 h3
 rw[aJ,ai,Ab]at this
 have:=Fm (ls:=ls) ls.length
 omega
end
def Jh:List c_→Nat
 | []=>1
 |d::l=>(d.next.length+1)*Jh l
theorem Ac: ∀(l:List c_) (d:c_),Jh (l++[d])=Jh l*(d.next.length+1)
 | [],d=>by simp[Jh]
 |a::l,d=>by show _*Jh (l++[d])=_*Jh l*_;rw[Ac l d,Nat.mul_assoc]
theorem Fq (ls:List Lf): ∀k,k≤ls.length→UB ls k=Jh ((ls.take k).map Lf.d)
 |0,_=>rfl
 |k+1,h=>by
  rw[aC (by omega),bm,List.map_singleton,Ac,←Fq ls k (by omega)]
  show UB ls k*_=_
  rw[wj (show k<ls.length by omega)]
theorem UC {ls:List Lf} {k:Nat} {q:Lf} (hq:q.d=(lf ls k).d):(ls.set k q).map Lf.d=ls.map Lf.d:=by
 apply List.ext_getElem?
 intro i
 rw[bl,bl]
 by_cases e:i=k
 ·subst e
  rcases Nat.lt_or_ge i ls.length with c|c
  ·rw[List.getElem?_set_self c,ak c]
   show some q.d=some ls[i].d
   rw[hq,wj c]
  ·rw[cn (by simpa using c),cn c]
 ·rw[List.getElem?_set_ne (fun h=>e h.symm)]
theorem Ji: ∀(b x:List Nat) (ls:List Lf),(kU ls b x).map Lf.d=ls.map Lf.d
 | [],x,ls=>rfl
 |k::b,x,ls=>(Ji b x _).trans (UC (ls:=ls) (k:=k) F)
theorem Jj: ∀(la:List Nat) (ls:List Lf),(ny ls la).map Lf.d=ls.map Lf.d
 | [],ls=>rfl
 |k::la,ls=>(Jj la _).trans (UC (ls:=ls) (k:=k) F)
theorem gu {v B:Nat} (hv:v≤6) (hB:B≤4096) {t:Rx} (hp:t.plain=true) (ho:kZ v t B) (hs:t.sz≤6):(minOf v (fM t)).next.length≤ul t.sz:=by
 obtain⟨D,hD⟩:=SF hv hp hs
 exact(dw hv hB hp ho).w5 hD
theorem kK: ∀k,k≤6→ul k≤8:=by decide
theorem K5 {v B:Nat} (hv:v≤6) (hB:B≤4096): ∀ {t:Rx},t.plain=true→kZ v t B→t.sz=7→(minOf v (fM t)).next.length≤512
 | .none,_,_,hs=>absurd hs (by decide)
 | .empty,_,_,hs=>absurd hs (by decide)
 | .letter p n,_,_,hs=>absurd hs (by show¬1=7;decide)
 | .not a,hp,ho,hs=>by
  have hs:a.sz+1=7:=hs
  have h1:=gu hv hB (t:=a) hp ho.1 (by omega)
  have h2:=kK a.sz (by omega)
  have h3:=(dw hv hB (t:=a) hp ho.1).toHasL
  have h4:(minOf v (fM a)).next.length*(minOf v (fM a)).next.length≤8*8:=Nat.mul_le_mul (by omega) (by omega)
  have h5:=HasL.not (h3.le (aI _)) (by omega)
  have h6:=(dw hv hB (t:=.not a) hp ho).w5 (D:=pj (minOf v (fM a))) (h5.toHasL)
  omega
 | .star a,hp,ho,hs=>by
  have hs:a.sz+1=7:=hs
  have h1:=gu hv hB (t:=a) hp ho.1 (by omega)
  have h2:=kK a.sz (by omega)
  have h3:=dw hv hB (t:=a) hp ho.1
  have h4:2^((minOf v (fM a)).next.length+1)≤2^9:=ck (by decide) (by omega)
  have h5:=ES (B:=512) hv (by decide) h3.toHasL (u4 h3.valid h4)
  exact h5.len
 | .iG a b,hp,ho,hs=>by
  have hs:a.sz+b.sz+1=7:=hs
  simp only[Rx.plain,ar]at hp
  have pa:=a.ft;have pb:=b.ft
  have h1:=gu hv hB hp.1 ho.1 (by omega)
  have h2:=gu hv hB hp.2 ho.2.1 (by omega)
  have h3:=dw hv hB hp.1 ho.1
  have h4:=dw hv hB hp.2 ho.2.1
  have h6:ul a.sz*2^ul b.sz≤512:=by
   have: ∀i,i≤5→ ∀j,j≤5→ul i*2^ul j≤512:=by decide
   exact this _ (by omega) _ (by omega)
  have h7:(minOf v (fM a)).next.length*2^(minOf v (fM b)).next.length≤ul a.sz*2^ul b.sz:=Nat.mul_le_mul h1 (ck (by decide) h2)
  exact(lw (B:=512) hv (by decide) h3.toHasL h4.toHasL (lu h3.valid h4.valid (by omega))).len
 | .iR a b,hp,ho,hs=>by
  have hs:a.sz+b.sz+1=7:=hs
  simp only[Rx.plain,ar]at hp
  have pa:=a.ft;have pb:=b.ft
  have h1:=gu hv hB hp.1 ho.1 (by omega)
  have h2:=gu hv hB hp.2 ho.2.1 (by omega)
  have h3:=dw hv hB hp.1 ho.1
  have h4:=dw hv hB hp.2 ho.2.1
  have h6:(minOf v (fM a)).next.length*(minOf v (fM b)).next.length≤8*8:=Nat.mul_le_mul (bE h1 (kK _ (by omega))) (bE h2 (kK _ (by omega)))
  have h7:=HasL.op (f:=F9) h3.toHasL.KV h4.toHasL.KV (by omega)
  have h8:=(dw hv hB (t:=.iR a b) (by simp[Rx.plain,hp]) ho).w5 h7.toHasL
  omega
 | .and a b,hp,ho,hs=>by
  have hs:a.sz+b.sz+1=7:=hs
  simp only[Rx.plain,ar]at hp
  have pa:=a.ft;have pb:=b.ft
  have h1:=gu hv hB hp.1 ho.1 (by omega)
  have h2:=gu hv hB hp.2 ho.2.1 (by omega)
  have h3:=dw hv hB hp.1 ho.1
  have h4:=dw hv hB hp.2 ho.2.1
  have h6:(minOf v (fM a)).next.length*(minOf v (fM b)).next.length≤8*8:=Nat.mul_le_mul (bE h1 (kK _ (by omega))) (bE h2 (kK _ (by omega)))
  have h7:=HasL.op (f:=tH) h3.toHasL.KV h4.toHasL.KV (by omega)
  have h8:=(dw hv hB (t:=.and a b) (by simp[Rx.plain,hp]) ho).w5 h7.toHasL
  omega
 | .ahead a,hp,_,_=>absurd hp (by simp[Rx.plain])
 | .behind a,hp,_,_=>absurd hp (by simp[Rx.plain])
def Fs (k:Nat):Nat:=if k≤6 then ul k else if k=7 then 512 else 4096
theorem wF {v B:Nat} (hv:v≤6) (hB:B≤4096) {t:Rx} (hp:t.plain=true) (ho:kZ v t B):(minOf v (fM t)).next.length≤Fs t.sz:=by
 unfold Fs
 split
 ·exact gu hv hB hp ho (by assumption)
 ·split
  ·exact K5 hv hB hp ho (by assumption)
  ·exact bE (dw hv hB hp ho).len hB
def xL (n c:Nat):Prop:= ∃e,n≤2^e∧9*e≤13*c
theorem xL.mul {n m c d:Nat} (h:xL n c) (k:xL m d):xL (n*m) (c+d):=by
 obtain⟨e,h1,h2⟩:=h
 obtain⟨f,k1,k2⟩:=k
 exact⟨e+f,by rw[Nat.pow_add];exact Nat.mul_le_mul h1 k1,by omega⟩
def Yz (k:Nat):Nat:=if k≤7 then[2,2,2,3,3,3,4,10].getD k 0 else 13
def YA (k:Nat):Nat:=if k≤7 then[3,3,3,4,4,4,5,11].getD k 0 else 13
def YB (k:Nat):Nat:=if k≤6 then[4,4,4,5,6,6,9].getD k 0 else 13
theorem Xy (k:Nat) (h:1≤k):Fs k+1≤2^Yz k∧9*Yz k≤13*(k+1):=by
 rcases Nat.lt_or_ge k 8 with c|c
 ·have: ∀k,k<8→1≤k→Fs k+1≤2^Yz k∧9*Yz k≤13*(k+1):=by decide
  exact this k c h
 ·have e1:Fs k=4096:=by unfold Fs;rw[aq (by omega),aq (by omega)]
  have e2:Yz k=13:=by unfold Yz;rw[aq (by omega)]
  rw[e1,e2];omega
theorem Xz (k:Nat) (h:1≤k):min (2*Fs k) 4096+1≤2^YA k∧9*YA k≤13*(k+1+1):=by
 rcases Nat.lt_or_ge k 8 with c|c
 ·have: ∀k,k<8→1≤k→min (2*Fs k) 4096+1≤2^YA k∧9*YA k≤13*(k+1+1):=by decide
  exact this k c h
 ·have e2:YA k=13:=by unfold YA;rw[aq (by omega)]
  rw[e2];omega
theorem XA (k:Nat) (h:1≤k):(if k≤6 then 2^Fs k else 4096)+1≤2^YB k∧9*YB k≤13*(k+1+1):=by
 rcases Nat.lt_or_ge k 7 with c|c
 ·have: ∀k,k<7→1≤k→(if k≤6 then 2^Fs k else 4096)+1≤2^YB k∧9*YB k≤13*(k+1+1):=by decide
  exact this k c h
 ·have e2:YB k=13:=by unfold YB;rw[aq (by omega)]
  rw[e2,aq (by omega)];omega
theorem K6 {v B:Nat} (hv:v≤6) (hB:B≤4096): ∀ {t:Rx},t.wf=true→okB v t B→(∀a b,t≠.iG a b)→(∀a b,t≠.iR a b)→xL ((eZ v t).d.next.length+1) (t.sz+1):=by
 have pl: ∀ {t:Rx},t.plain=true→kZ v t B→xL ((minOf v (fM t)).next.length+1) (t.sz+1):=fun {t} hp ho=>by
  obtain⟨h1,h2⟩:=Xy t.sz t.ft
  exact⟨_,bE (Nat.succ_le_succ (wF hv hB hp ho)) h1,h2⟩
 intro t
 cases t with
 |none=>exact fun hw h _ _=>pl (t:=.none) hw h
 |empty=>exact fun hw h _ _=>pl (t:=.empty) hw h
 |letter p n=>exact fun hw h _ _=>pl (t:=.letter p n) hw h
 |and a b=>exact fun hw h _ _=>pl (t:=.and a b) hw h
 |not a=>exact fun hw h _ _=>pl (t:=.not a) hw h
 |star a=>exact fun hw h _ _=>pl (t:=.star a) hw h
 |iG a b=>exact fun _ _ h _=>absurd F (h a b)
 |iR a b=>exact fun _ _ _ h=>absurd F (h a b)
 |ahead a=>
  intro hw h _ _
  obtain⟨h1,h2⟩:=Xz a.sz a.ft
  have h3:=wF hv hB (t:=a) hw h.1
  have h4:=dw hv hB (t:=a) hw h.1
  have h5:(eZ v (.ahead a)).d.next.length≤min (2*Fs a.sz) 4096:=by
   have hm:=(lw hv hB h4.toHasL (fw hv) h.2).len
   refine Nat.le_min.2 ⟨?_,bE hm hB⟩
   rcases Nat.lt_or_ge (2*Fs a.sz) 4096 with c|c
   ·have hs:=fw hv
    have h6:=lw (B:=2*Fs a.sz) hv (by omega) h4.toHasL hs (lu h4.valid hs.valid (by show _*2^1≤_;omega))
    exact h6.len
   ·exact bE hm (by omega)
  exact⟨_,bE (Nat.succ_le_succ h5) h1,h2⟩
 |behind a=>
  intro hw h _ _
  obtain⟨h1,h2⟩:=XA a.sz a.ft
  have h3:=wF hv hB (t:=a) hw h.1
  have h4:=dw hv hB (t:=a) hw h.1
  have h5:(eZ v (.behind a)).d.next.length≤(if a.sz≤6 then 2^Fs a.sz else 4096):=by
   have hm:=(lw hv hB (fw hv) h4.toHasL h.2).len
   split
   ·have hs:=fw hv
    have h7:2^Fs a.sz≤256:=by
     have: ∀k,k≤6→2^Fs k≤256:=by decide
     exact this _ (by assumption)
    have h6:=lw (B:=2^Fs a.sz) hv (by omega) hs h4.toHasL (lu hs.valid h4.valid (by show 1*_≤_;rw[Nat.one_mul];exact ck (by decide) h3))
    exact h6.len
   ·exact bE hm hB
  exact⟨_,bE (Nat.succ_le_succ h5) h1,h2⟩
theorem Ft {v B:Nat} (hv:v≤6) (hB:B≤4096): ∀(t:Rx) (ls:List Lf),t.wf=true→okB v t B→ ∀c,xL (Jh (ls.map Lf.d)) c→xL (Jh ((aM v t ls).ls.map Lf.d)) (c+(t.sz+1)):=by
 have leaf: ∀(t:Rx) (ls:List Lf),t.wf=true→okB v t B→(∀a b,t≠.iG a b)→(∀a b,t≠.iR a b)→ ∀c,xL (Jh (ls.map Lf.d)) c→xL (Jh ((ls++[eZ v t]).map Lf.d)) (c+(t.sz+1)):=fun t ls hw ho n1 n2 c hc=>by
  rw[bm,List.map_singleton,Ac]
  exact hc.mul (K6 hv hB hw ho n1 n2)
 intro t
 induction t with
 |iG a b ln mi=>
  intro ls hw ho c hc
  simp only[Rx.wf,ar]at hw
  have h1:=mi _ hw.2 ho.2 _ (ln ls hw.1 ho.1 c hc)
  show xL (Jh ((kU _ _ _).map Lf.d)) (c+(a.sz+b.sz+1+1))
  rw[Ji,show c+(a.sz+b.sz+1+1)=c+(a.sz+1)+(b.sz+1) by omega]
  exact h1
 |iR a b ln mi=>
  intro ls hw ho c hc
  simp only[Rx.wf,ar]at hw
  have h1:=mi _ hw.2 ho.2 _ (ln ls hw.1 ho.1 c hc)
  show xL (Jh ((aM v b _).ls.map Lf.d)) (c+(a.sz+b.sz+1+1))
  rw[show c+(a.sz+b.sz+1+1)=c+(a.sz+1)+(b.sz+1) by omega]
  exact h1
 |none=>exact fun ls hw ho=>leaf .none ls hw ho (by simp) (by simp)
 |empty=>exact fun ls hw ho=>leaf .empty ls hw ho (by simp) (by simp)
 |letter p n=>exact fun ls hw ho=>leaf (.letter p n) ls hw ho (by simp) (by simp)
 |and a b _ _=>exact fun ls hw ho=>leaf (.and a b) ls hw ho (by simp) (by simp)
 |not a _=>exact fun ls hw ho=>leaf (.not a) ls hw ho (by simp) (by simp)
 |star a _=>exact fun ls hw ho=>leaf (.star a) ls hw ho (by simp) (by simp)
 |ahead a _=>exact fun ls hw ho=>leaf (.ahead a) ls hw ho (by simp) (by simp)
 |behind a _=>exact fun ls hw ho=>leaf (.behind a) ls hw ho (by simp) (by simp)
theorem SG {v B:Nat} (hv:v≤6) (hB:B≤4096) {t:Rx} (hw:t.wf=true) (ho:okB v t B) (hs:t.sz≤24):rN (jN v t) 137438953471:=by
 have h1:=Ft hv hB t [] hw ho 0 ⟨0,aI _,by decide⟩
 apply H7
 rw[Fq _ _ (aI _),List.take_length]
 show 2*Jh ((ny _ _).map Lf.d)≤_
 rw[Jj]
 obtain⟨e,h2,h3⟩:=h1
 have h4:(2:Nat)^e≤2^36:=ck (by decide) (by omega)
 omega
theorem UD (n:Nat):cX n=0∨cX n=1∨cX n=2:=by
 unfold cX
 split
 ·exact .inr (.inr F)
 ·split
  ·exact .inr (.inl F)
  ·exact .inl F
theorem x7 {v:Nat} {e:List ei} {fs:List Nat} (h:j7 v e=.ok fs): ∀(f i:Nat),i<f→i<e.length→(iZ e f i).sz+fs.getD i 0≤i+1
 |0,i,hf,hi=>absurd hf (by omega)
 |f+1,i,hf,hi=>by
  obtain⟨g0,g1,g2,g3⟩:=CV h hi
  obtain⟨s1,s2,_⟩:=lM (qA h hi)
  unfold iZ
  simp only[oz hi]
  rcases UD e[i].op with hc|hc|hc
  ·have h3:=g3 hc
   have:e[i].op=1∨e[i].op=2∨e[i].op=3:=by unfold cX at hc;split at hc;omega;split at hc;omega;omega
   rcases this with c|c|c
   all_goals (simp only[c];show 1+_≤_;omega)
  ·obtain⟨c1,c2,c3⟩:=g1 hc
   have ha:=x7 h f (i-1) (by omega) (by omega)
   have ea:e[i].a.toNat=i-1:=by omega
   rw[ea]
   have:e[i].op=7∨e[i].op=8∨e[i].op=9∨e[i].op=10:=by unfold cX at hc;split at hc;omega;split at hc;omega;omega
   rcases this with c|c|c|c
   all_goals (simp only[c];show(iZ e f (i-1)).sz+1+_≤_;omega)
  ·obtain⟨c1,c2,c3,c4,c5,c6⟩:=g2 hc
   have ha:=x7 h f (fs.getD (i-1) 0-1) (by omega) (by omega)
   have hb:=x7 h f (i-1) (by omega) (by omega)
   have ea:e[i].a.toNat=fs.getD (i-1) 0-1:=by omega
   have eb:e[i].b.toNat=i-1:=by omega
   rw[ea]at c6
   rw[ea,eb]
   have:e[i].op=4∨e[i].op=5∨e[i].op=6:=by unfold cX at hc;split at hc;omega;split at hc;omega;omega
   rcases this with c|c|c
   all_goals (simp only[c];show(iZ e f _).sz+(iZ e f _).sz+1+_≤_;omega)
def KS:Rx→Nat→List Nat
 | .iG a b,n=>KS a n
 | .iR a b,n=>KS a n++KS b (n+a.lv)
 |_,n=>[n]
def E7:Rx→Nat→List Nat
 | .iG a b,n=>E7 b (n+a.lv)
 | .iR a b,n=>E7 a n++E7 b (n+a.lv)
 |_,n=>[n]
theorem Hj: ∀t:Rx,0<t.lv
 | .iG a b=>Nat.add_pos_left (Hj a) _
 | .iR a b=>Nat.add_pos_left (Hj a) _
 | .none| .empty| .letter _ _| .and _ _| .not _| .star _| .ahead _| .behind _=>Nat.one_pos
theorem ns: ∀(t:Rx) (n:Nat),∀k∈E7 t n,n≤k∧k<n+t.lv
 | .iG a b,n,k,h=>by
  have:=ns b (n+a.lv) k h
  show n≤k∧k<n+(a.lv+b.lv);omega
 | .iR a b,n,k,h=>by
  show n≤k∧k<n+(a.lv+b.lv)
  rcases List.mem_append.1 h with h|h
  ·have:=ns a n k h;omega
  ·have:=ns b (n+a.lv) k h;omega
 | .none,n,k,h=>by rw[List.mem_singleton.1 h];exact⟨aI _,Nat.lt_succ_self _⟩
 | .empty,n,k,h=>by rw[List.mem_singleton.1 h];exact⟨aI _,Nat.lt_succ_self _⟩
 | .letter _ _,n,k,h=>by rw[List.mem_singleton.1 h];exact⟨aI _,Nat.lt_succ_self _⟩
 | .and _ _,n,k,h=>by rw[List.mem_singleton.1 h];exact⟨aI _,Nat.lt_succ_self _⟩
 | .not _,n,k,h=>by rw[List.mem_singleton.1 h];exact⟨aI _,Nat.lt_succ_self _⟩
 | .star _,n,k,h=>by rw[List.mem_singleton.1 h];exact⟨aI _,Nat.lt_succ_self _⟩
 | .ahead _,n,k,h=>by rw[List.mem_singleton.1 h];exact⟨aI _,Nat.lt_succ_self _⟩
 | .behind _,n,k,h=>by rw[List.mem_singleton.1 h];exact⟨aI _,Nat.lt_succ_self _⟩
theorem sY: ∀(t:Rx) (n:Nat),(E7 t n).Nodup
 | .iG a b,n=>sY b _
 | .iR a b,n=>by
  refine List.nodup_append.2 ⟨sY a n,sY b _,fun x hx y hy=>?_⟩
  have:=ns a n x hx;have:=ns b _ y hy;omega
 | .none,n| .empty,n| .letter _ _,n| .and _ _,n| .not _,n| .star _,n| .ahead _,n| .behind _,n=>by simp[E7]
theorem oB (v:Nat): ∀(t:Rx) (ls:List Lf),(aM v t ls).fi=KS t ls.length∧(aM v t ls).la=E7 t ls.length
 | .iG a b,ls=>by
  obtain⟨h1,h2⟩:=oB v a ls
  obtain⟨h3,h4⟩:=oB v b (aM v a ls).ls
  rw[eC]at h3 h4
  exact⟨h1,h4⟩
 | .iR a b,ls=>by
  obtain⟨h1,h2⟩:=oB v a ls
  obtain⟨h3,h4⟩:=oB v b (aM v a ls).ls
  rw[eC]at h3 h4
  exact⟨by show _++_=_;rw[h1,h3];rfl,by show _++_=_;rw[h2,h4];rfl⟩
 | .none,ls| .empty,ls| .letter _ _,ls| .and _ _,ls| .not _,ls| .star _,ls| .ahead _,ls| .behind _,ls=>⟨F,F⟩
theorem E8 (x:List Nat): ∀(b:List Nat) {ls:List Lf},b.Nodup→(∀k∈b,k<ls.length)→ ∀i,lf (kU ls b x) i=if i∈b then {lf ls i with fo:=(lf ls i).fo++x}else lf ls i
 | [],ls,_,_,i=>by simp[kU]
 |k::b,ls,hn,hk,i=>by
  rw[List.nodup_cons]at hn
  have h1:=E8 x b (ls:=ls.set k {lf ls k with fo:=(lf ls k).fo++x}) hn.2 (fun j hj=>by rw[eI];exact hk j (by simp[hj])) i
  show lf (kU (ls.set k _) b x) i=_
  rw[h1,CQ (hk k (by simp))]
  by_cases e:i=k
  ·subst e
   rw[aq hn.1,aB F,aB (by simp)]
  ·rw[aq e]
   by_cases e2:i∈b
   ·rw[aB e2,aB (by simp[e2])]
   ·rw[aq e2,aq (by simp[e,e2])]
theorem E9: ∀(la:List Nat) {ls:List Lf},(∀k∈la,k<ls.length)→ ∀i,lf (ny ls la) i=if i∈la then {lf ls i with la:=true}else lf ls i
 | [],ls,_,i=>by simp[ny]
 |k::b,ls,hk,i=>by
  have h1:=E9 b (ls:=ls.set k {lf ls k with la:=true}) (fun j hj=>by rw[eI];exact hk j (by simp[hj])) i
  show lf (ny (ls.set k _) b) i=_
  rw[h1,CQ (hk k (by simp))]
  by_cases e:i=k
  ·subst e
   rw[aB F,aB (show i∈i::b by simp)]
   split<;>rfl
  ·rw[aq e]
   by_cases e2:i∈b
   ·rw[aB e2,aB (by simp[e2])]
   ·rw[aq e2,aq (by simp[e,e2])]
def AO (v:Nat) (LS:List Lf):Rx→Nat→List Nat→Bool→Prop
 | .iG a b,n,E,l=>AO v LS a n (KS b (n+a.lv)) false∧AO v LS b (n+a.lv) E l
 | .iR a b,n,E,l=>AO v LS a n E l∧AO v LS b (n+a.lv) E l
 |t,n,E,l=>n<LS.length∧(lf LS n).op=(eZ v t).op∧(lf LS n).d=(eZ v t).d∧(lf LS n).fo=E∧(lf LS n).la=l
def Rx.leaf:Rx→Bool
 | .iG _ _| .iR _ _=>false
 |_=>true
theorem sj {v:Nat} {LS:List Lf} {n:Nat} {E:List Nat} {l:Bool}: ∀ {t:Rx},t.leaf=true→(AO v LS t n E l↔n<LS.length∧(lf LS n).op=(eZ v t).op∧(lf LS n).d=(eZ v t).d∧(lf LS n).fo=E∧(lf LS n).la=l)
 | .iG _ _,h=>by cases h
 | .iR _ _,h=>by cases h
 | .none,_| .empty,_| .letter _ _,_| .and _ _,_| .not _,_| .star _,_| .ahead _,_| .behind _,_=>Iff.rfl
theorem I2 {t:Rx} (h:t.leaf=true) (n:Nat):KS t n=[n]∧E7 t n=[n]∧t.lv=1:=by
 cases t<;>first|(cases h;done)|exact⟨F,F,F⟩
theorem O7 {t:Rx} (h:t.leaf=true) (v:Nat) (ls:List Lf):(aM v t ls).ls=ls++[eZ v t]∧(eZ v t).fo=[]∧(eZ v t).la=false:=by
 cases t<;>first|(cases h;done)|exact⟨F,F,F⟩
theorem I3 {v:Nat} {LS QC:List Lf} (hl:QC.length=LS.length) (G:Lf→Lf) (h1: ∀q,(G q).op=q.op∧(G q).d=q.d) {E E':List Nat} {l l':Bool} (h2: ∀q,q.fo=E→q.la=l→(G q).fo=E'∧(G q).la=l'): ∀(t:Rx) (n:Nat),(∀i,n≤i→i<n+t.lv→lf QC i=if i∈E7 t n then G (lf LS i)else lf LS i)→AO v LS t n E l→AO v QC t n E' l':=by
 have aeK: ∀(t:Rx) (n:Nat) (E:List Nat) (l:Bool),(∀i,n≤i→i<n+t.lv→lf QC i=lf LS i)→AO v LS t n E l→AO v QC t n E l:=by
  intro t
  induction t with
  |iG a b ln mi=>
   intro n E l h hi
   exact⟨ln _ _ _ (fun i h3 h4=>h i h3 (by show i<n+(a.lv+b.lv);omega)) hi.1,mi _ _ _ (fun i h3 h4=>h i (by omega) (by show i<n+(a.lv+b.lv);omega)) hi.2⟩
  |iR a b ln mi=>
   intro n E l h hi
   exact⟨ln _ _ _ (fun i h3 h4=>h i h3 (by show i<n+(a.lv+b.lv);omega)) hi.1,mi _ _ _ (fun i h3 h4=>h i (by omega) (by show i<n+(a.lv+b.lv);omega)) hi.2⟩
  |none|empty|letter|and|not|star|ahead|behind=>
   intro n E l h hi
   obtain⟨k1,k2,k3,k4,k5⟩:=hi
   have e:=h n (aI _) (Nat.lt_succ_self _)
   exact⟨by omega,by rw[e];exact k2,by rw[e];exact k3,by rw[e];exact k4,by rw[e];exact k5⟩
 intro t
 induction t with
 |iG a b ln mi=>
  intro n h hi
  refine⟨aeK a n _ _ (fun i h3 h4=>?_) hi.1,mi _ (fun i h3 h4=>h i (by omega) (by show i<n+(a.lv+b.lv);omega)) hi.2⟩
  have h5:=h i h3 (by show i<n+(a.lv+b.lv);omega)
  rwa[aq (fun hm=>by have:=ns b (n+a.lv) i hm;omega)]at h5
 |iR a b ln mi=>
  intro n h hi
  refine⟨ln n (fun i h3 h4=>?_) hi.1,mi _ (fun i h3 h4=>?_) hi.2⟩
  ·have h5:=h i h3 (by show i<n+(a.lv+b.lv);omega)
   have e:i∈E7 (.iR a b) n↔i∈E7 a n:=by
    show i∈E7 a n++E7 b (n+a.lv)↔_
    rw[iv]
    exact⟨fun h=>h.elim id fun hm=>by have:=ns b (n+a.lv) i hm;omega,.inl⟩
   simp only[e]at h5;exact h5
  ·have h5:=h i (by omega) (by show i<n+(a.lv+b.lv);omega)
   have e:i∈E7 (.iR a b) n↔i∈E7 b (n+a.lv):=by
    show i∈E7 a n++E7 b (n+a.lv)↔_
    rw[iv]
    exact⟨fun h=>h.elim (fun hm=>by have:=ns a n i hm;omega) id,.inr⟩
   simp only[e]at h5;exact h5
 |none|empty|letter|and|not|star|ahead|behind=>
  intro n h hi
  obtain⟨k1,k2,k3,k4,k5⟩:=hi
  have e:lf QC n=G (lf LS n):=(h n (aI _) (Nat.lt_succ_self _)).trans (aB (List.mem_singleton.2 F))
  have h3:=h1 (lf LS n)
  have h4:=h2 _ k4 k5
  exact⟨by omega,by rw[e,h3.1];exact k2,by rw[e,h3.2];exact k3,by rw[e];exact h4.1,by rw[e];exact h4.2⟩
theorem zR {v:Nat} {LS QC:List Lf} {t:Rx} {n:Nat} {E:List Nat} {l:Bool} (hl:LS.length≤QC.length) (h: ∀i,n≤i→i<n+t.lv→lf QC i=lf LS i) (hi:AO v LS t n E l):AO v QC t n E l:=by
 induction t generalizing n E l with
 |iG a b ln mi=>exact⟨ln (fun i h3 h4=>h i h3 (by show i<n+(a.lv+b.lv);omega)) hi.1,mi (fun i h3 h4=>h i (by omega) (by show i<n+(a.lv+b.lv);omega)) hi.2⟩
 |iR a b ln mi=>exact⟨ln (fun i h3 h4=>h i h3 (by show i<n+(a.lv+b.lv);omega)) hi.1,mi (fun i h3 h4=>h i (by omega) (by show i<n+(a.lv+b.lv);omega)) hi.2⟩
 |none|empty|letter|and|not|star|ahead|behind=>
  obtain⟨k1,k2,k3,k4,k5⟩:=hi
  have e:=h n (aI _) (Nat.lt_succ_self _)
  exact⟨by omega,by rw[e];exact k2,by rw[e];exact k3,by rw[e];exact k4,by rw[e];exact k5⟩
theorem KT (v:Nat): ∀(t:Rx) (ls:List Lf),AO v (aM v t ls).ls t ls.length [] false∧ ∀k,k<ls.length→lf (aM v t ls).ls k=lf ls k:=by
 have leaf: ∀(t:Rx) (ls:List Lf),t.leaf=true→AO v (aM v t ls).ls t ls.length [] false∧ ∀k,k<ls.length→lf (aM v t ls).ls k=lf ls k:=fun t ls h=>by
  obtain⟨h1,h2,h3⟩:=O7 h v ls
  have e:lf (ls++[eZ v t]) ls.length=eZ v t:=by unfold lf;rw[au,bZ (aI _),fX];rfl
  rw[h1,sj h,e]
  exact⟨⟨by simp,F,F,h2,h3⟩,fun k hk=>by unfold lf;rw[au,bG hk,←au]⟩
 intro t
 induction t with
 |iG a b ln mi=>
  intro ls
  obtain⟨a1,a2⟩:=ln ls
  obtain⟨b1,b2⟩:=mi (aM v a ls).ls
  have f1:=oB v a ls
  have f2:=oB v b (aM v a ls).ls
  have l1:=eC v a ls
  have l2:=eC v b (aM v a ls).ls
  have hp:=Hj b
  have nq:=E8 (aM v b (aM v a ls).ls).fi (aM v a ls).la (ls:=(aM v b (aM v a ls).ls).ls) (by rw[f1.2];exact sY a _) (fun k hk=>by rw[f1.2]at hk;have:=ns a _ k hk;omega)
  have iH:(kU (aM v b (aM v a ls).ls).ls (aM v a ls).la (aM v b (aM v a ls).ls).fi).length=(aM v b (aM v a ls).ls).ls.length:=sO _ _ _
  rw[l1]at f2 b1 b2
  refine⟨⟨?_,?_⟩,fun k hk=>?_⟩
  ·rw[←f2.1]
   refine I3 iH (fun q=> {q with fo:=q.fo++(aM v b (aM v a ls).ls).fi}) (fun q=>⟨F,F⟩) (E:=[]) (l:=false) (fun q h3 h4=>⟨by show q.fo++_=_;rw[h3];rfl,h4⟩) a ls.length (fun i h3 h4=>by rw[nq i,f1.2]) ?_
   exact zR (by omega) (fun i h3 h4=>b2 i (by omega)) a1
  ·refine zR (Nat.le_of_eq iH.symm) (fun i h3 h4=>?_) b1
   refine(nq i).trans (aq ?_)
   intro hm;rw[f1.2]at hm;have:=ns a _ i hm;omega
  ·show lf (kU _ _ _) k=_
   rw[nq k,aq (fun hm=>by rw[f1.2]at hm;have:=ns a _ k hm;omega),b2 k (by omega),a2 k hk]
 |iR a b ln mi=>
  intro ls
  obtain⟨a1,a2⟩:=ln ls
  obtain⟨b1,b2⟩:=mi (aM v a ls).ls
  have l1:=eC v a ls
  have l2:=eC v b (aM v a ls).ls
  rw[l1]at b1 b2
  exact⟨⟨zR (by show _≤(aM v b _).ls.length;omega) (fun i h3 h4=>b2 i (by omega)) a1,b1⟩,fun k hk=>by show lf (aM v b _).ls k=_;rw[b2 k (by omega),a2 k hk]⟩
 |none=>exact fun ls=>leaf .none ls F
 |empty=>exact fun ls=>leaf .empty ls F
 |letter p n=>exact fun ls=>leaf (.letter p n) ls F
 |and a b _ _=>exact fun ls=>leaf (.and a b) ls F
 |not a _=>exact fun ls=>leaf (.not a) ls F
 |star a _=>exact fun ls=>leaf (.star a) ls F
 |ahead a _=>exact fun ls=>leaf (.ahead a) ls F
 |behind a _=>exact fun ls=>leaf (.behind a) ls F
theorem CZ (v:Nat) (t:Rx):AO v (jN v t) t 0 [] true∧Kj v t=KS t 0:=by
 obtain⟨h1,_⟩:=KT v t []
 obtain⟨h2,h3⟩:=oB v t []
 refine⟨?_,h2⟩
 refine I3 (LS:=(aM v t []).ls) (sP _ _) (fun q=> {q with la:=true}) (fun q=>⟨F,F⟩) (E:=[]) (l:=false) (fun q h4 h5=>⟨h4,F⟩) t 0 (fun i h4 h5=>?_) h1
 show lf (ny _ _) i=_
 rw[E9 _ (fun k hk=>by rw[h3]at hk;have:=ns t _ k hk;rw[eC];simpa using this.2),h3]
 rfl
def sk (w:List Nat):Rx→Nat→Nat→Bool
 | .iG a b,i,j=>(List.range (w.length+1)).any fun k=>sk w a i k&&sk w b k j
 | .iR a b,i,j=>sk w a i j||sk w b i j
 | .ahead a,i,j=>decide (i=j∧i≤w.length)&&iV (fM a) (fun _=>true) (w.drop i)
 | .behind a,i,j=>decide (i=j∧i≤w.length)&&iV (fun _=>true) (fM a) (w.take i)
 |t,i,j=>decide (i≤j∧j≤w.length)&&fM t ((w.drop i).take (j-i))
def O8:Rx→Lg
 | .ahead a=>iV (fM a) (fun _=>true)
 | .behind a=>iV (fun _=>true) (fM a)
 |t=>fM t
theorem ww {v B:Nat} (hv:v≤6) (hB:B≤4096): ∀ {t:Rx},t.leaf=true→t.wf=true→okB v t B→fV (v:Int) B (eZ v t).d (O8 t)
 | .none,_,hw,h=>dw hv hB (t:=.none) hw h
 | .empty,_,hw,h=>dw hv hB (t:=.empty) hw h
 | .letter p n,_,hw,h=>dw hv hB (t:=.letter p n) hw h
 | .and a b,_,hw,h=>dw hv hB (t:=.and a b) hw h
 | .not a,_,hw,h=>dw hv hB (t:=.not a) hw h
 | .star a,_,hw,h=>dw hv hB (t:=.star a) hw h
 | .iG a b,hl,_,_=>by cases hl
 | .iR a b,hl,_,_=>by cases hl
 | .ahead a,_,hw,h=>lw hv hB (dw hv hB (t:=a) hw h.1).toHasL (fw hv) h.2
 | .behind a,_,hw,h=>lw hv hB (fw hv) (dw hv hB (t:=a) hw h.1).toHasL h.2
theorem O9 (ls:List Lf) (bh u:List Nat) (x:Nat):KO ls bh (u++[x])=jq ls (KO ls bh u) x:=by unfold KO;rw[cT];rfl
theorem I4 (ls:List Lf) (bh u v:List Nat):KO ls bh (u++v)=KO ls (KO ls bh u) v:=by unfold KO;rw[cT]
theorem Xs {ls:List Lf} {k:Nat} (hk:k<ls.length) (xG:(lf ls k).op=10): ∀u,(KO ls (ls.map fun l=>l.d.start.toNat) u).getD k 0=runN (lf ls k).d (lf ls k).d.start.toNat u:=by
 apply zI
 ·show(ls.map fun l=>l.d.start.toNat).getD k 0=(lf ls k).d.start.toNat
  rw[au,bl,ak hk,wj hk];rfl
 ·intro u x ih
  rw[O9,e8,←ih]
  unfold jq
  rw[au,bl,List.getElem?_range hk]
  show(if(lf ls k).op=10 then _ else 0)=_
  rw[aB xG]
theorem E_ {p:Lg} {u v:List Nat} (h:iV p (fun _=>true) u=true):iV p (fun _=>true) (u++v)=true:=by
 rw[ir]at h⊢
 obtain⟨x,y,rfl,hx,_⟩:=h
 exact⟨x,y++v,by rw[aV],hx,F⟩
section
variable {v B:Nat} {LS:List Lf} {w:List Nat}
def Au (LS:List Lf) (w:List Nat) (i:Nat):List Nat:=KO LS (LS.map fun l=>l.d.start.toNat) (w.take i)
theorem uk {d:c_} {p:Lg} (h:fV (v:Int) B d p) {u:List Nat} (hu:iS (v:Int) u):dR d (runN d d.start.toNat u)=p u:=h.jf u hu
theorem Fa (hv:v≤6) (hB:B≤4096) (hw:iS (v:Int) w) {t:Rx} {n:Nat} {E:List Nat} {l:Bool} (hl:t.leaf=true) (hi:AO v LS t n E l) (lP:t.wf=true) (ho:okB v t B) {i:Nat} (LD:i≤w.length):
  Way LS () true (Au LS w i) n (w.drop i)↔ ∃j,j≤w.length∧sk w t i j=true∧Way LS () false (Au LS w j) n (w.drop j):=by
 obtain⟨k1,k2,k3,_,_⟩:=(sj hl).1 hi
 have hL:=ww hv hB hl lP ho
 rw[←k3]at hL
 have key: ∀(Ky:(lf LS n).op=0) (hp:O8 t=fM t) (hm: ∀j,sk w t i j=(decide (i≤j∧j≤w.length)&&fM t ((w.drop i).take (j-i)))),Way LS () true (Au LS w i) n (w.drop i)↔ ∃j,j≤w.length∧sk w t i j=true∧Way LS () false (Au LS w j) n (w.drop j):=by
  intro Ky hp hm
  constructor
  ·intro h
   generalize hd:w.drop i=z at h
   cases h with
   |ahead h1=>omega
   |behind h1=>omega
   | @plain _ _ u v2 h1 h2 h3 h4=>
    have iH:u.length+v2.length=w.length-i:=by have:=am List.length hd;rw[List.length_drop,aJ]at this;omega
    have hu:iS (v:Int) u:=fun x hx=>hw x (List.mem_of_mem_drop (show x∈w.drop i by rw[hd];simp[hx]))
    refine⟨i+u.length,by omega,?_,?_⟩
    ·rw[hm,ar,cj]
     refine⟨by omega,?_⟩
     rw[show i+u.length-i=u.length by omega,hd,List.take_left,←hp,←uk hL hu]
     exact h3
    ·have e1:w.drop (i+u.length)=v2:=by rw[←List.drop_drop,hd,List.drop_left]
     have e2:Au LS w (i+u.length)=KO LS (Au LS w i) u:=by
      unfold Au
      rw[List.take_add,hd,List.take_left,I4]
     rw[e1,e2];exact h4
  ·rintro⟨j,h1,h2,h3⟩
   rw[hm,ar,cj]at h2
   obtain⟨⟨h4,h5⟩,h6⟩:=h2
   have hu:iS (v:Int) ((w.drop i).take (j-i)):=fun x hx=>hw x (List.mem_of_mem_drop (List.mem_of_mem_take hx))
   have e1:w.drop i=(w.drop i).take (j-i)++w.drop j:=by
    have:=(List.take_append_drop (j-i) (w.drop i)).symm
    rwa[List.drop_drop,show i+(j-i)=j by omega]at this
   have e2:Au LS w j=KO LS (Au LS w i) ((w.drop i).take (j-i)):=by
    unfold Au
    rw[←I4,←List.take_add,show i+(j-i)=j by omega]
   rw[e2]at h3
   rw[e1]
   refine Way.plain (by omega) (by omega) ?_ h3
   rw[uk hL hu,hp];exact h6
 cases t with
 |iG a b=>cases hl
 |iR a b=>cases hl
 |none=>exact key k2 F fun _=>rfl
 |empty=>exact key k2 F fun _=>rfl
 |letter p n=>exact key k2 F fun _=>rfl
 |and a b=>exact key k2 F fun _=>rfl
 |not a=>exact key k2 F fun _=>rfl
 |star a=>exact key k2 F fun _=>rfl
 |ahead a=>
  have k2:(lf LS n).op=9:=k2
  have hd:iS (v:Int) (w.drop i):=fun x hx=>hw x (List.mem_of_mem_drop hx)
  constructor
  ·intro h
   have g: ∀z,z=w.drop i→Way LS () true (Au LS w i) n z→dR (lf LS n).d (runN (lf LS n).d (lf LS n).d.start.toNat z)=true∧Way LS () false (Au LS w i) n z:=by
    intro z _ h
    cases h with
    |ahead h1 h2 h3=>exact⟨h2,h3⟩
    |behind h1=>omega
    |plain h1=>exact absurd k2 h1
   obtain⟨h2,h3⟩:=g _ F h
   refine⟨i,LD,?_,h3⟩
   show(decide (i=i∧i≤w.length)&&_)=true
   rw[aZ ⟨F,LD⟩,Bool.true_and]
   rw[uk hL hd]at h2;exact h2
  ·rintro⟨j,h1,h2,h3⟩
   have h2:(decide (i=j∧i≤w.length)&&iV (fM a) (fun _=>true) (w.drop i))=true:=h2
   rw[ar,cj]at h2
   obtain⟨⟨rfl,_⟩,h5⟩:=h2
   refine .ahead k2 ?_ h3
   rw[uk hL hd];exact h5
 |behind a=>
  have k2:(lf LS n).op=10:=k2
  have hd:iS (v:Int) (w.take i):=fun x hx=>hw x (List.mem_of_mem_take hx)
  have hb:dR (lf LS n).d ((Au LS w i).getD n 0)=iV (fun _=>true) (fM a) (w.take i):=by
   unfold Au
   rw[Xs k1 k2,uk hL hd];rfl
  constructor
  ·intro h
   have g: ∀z,z=w.drop i→Way LS () true (Au LS w i) n z→dR (lf LS n).d ((Au LS w i).getD n 0)=true∧Way LS () false (Au LS w i) n z:=by
    intro z _ h
    cases h with
    |ahead h1=>omega
    |behind h1 h2 h3=>exact⟨h2,h3⟩
    |plain _ h1=>exact absurd k2 h1
   obtain⟨h2,h3⟩:=g _ F h
   refine⟨i,LD,?_,h3⟩
   show(decide (i=i∧i≤w.length)&&_)=true
   rw[aZ ⟨F,LD⟩,Bool.true_and]
   rw[hb]at h2;exact h2
  ·rintro⟨j,h1,h2,h3⟩
   have h2:(decide (i=j∧i≤w.length)&&iV (fun _=>true) (fM a) (w.take i))=true:=h2
   rw[ar,cj]at h2
   obtain⟨⟨rfl,_⟩,h5⟩:=h2
   exact .behind k2 (by rw[hb];exact h5) h3
def O_ (LS:List Lf) (w:List Nat) (E:List Nat) (l:Bool) (j:Nat):Prop:=(l=true∧w.drop j=[])∨ ∃k,k∈E∧Way LS () true (Au LS w j) k (w.drop j)
theorem KU (hv:v≤6) (hB:B≤4096) (hw:iS (v:Int) w): ∀(t:Rx) {n:Nat} {E:List Nat} {l:Bool},AO v LS t n E l→t.wf=true→okB v t B→ ∀i,i≤w.length→
  ((∃k,k∈KS t n∧Way LS () true (Au LS w i) k (w.drop i))↔ ∃j,j≤w.length∧sk w t i j=true∧O_ LS w E l j):=by
 have leaf: ∀(t:Rx),t.leaf=true→ ∀ {n:Nat} {E:List Nat} {l:Bool},AO v LS t n E l→t.wf=true→okB v t B→ ∀i,i≤w.length→
  ((∃k,k∈KS t n∧Way LS () true (Au LS w i) k (w.drop i))↔ ∃j,j≤w.length∧sk w t i j=true∧O_ LS w E l j):=by
  intro t hl n E l hi lP ho i LD
  obtain⟨k1,k2,k3,k4,k5⟩:=(sj hl).1 hi
  rw[(I2 hl n).1]
  have e: ∀j,Way LS () false (Au LS w j) n (w.drop j)↔O_ LS w E l j:=fun j=>by rw[BL,k4,k5];exact Iff.rfl
  constructor
  ·rintro⟨k,hk,h⟩
   rw[List.mem_singleton.1 hk]at h
   obtain⟨j,h1,h2,h3⟩:=(Fa hv hB hw hl hi lP ho LD).1 h
   exact⟨j,h1,h2,(e j).1 h3⟩
  ·rintro⟨j,h1,h2,h3⟩
   exact⟨n,List.mem_singleton.2 F,(Fa hv hB hw hl hi lP ho LD).2 ⟨j,h1,h2,(e j).2 h3⟩⟩
 intro t
 induction t with
 |iG a b ln mi=>
  intro n E l hi lP ho i LD
  simp only[Rx.wf,ar]at lP
  have e: ∀j,j≤w.length→(O_ LS w (KS b (n+a.lv)) false j↔ ∃j2,j2≤w.length∧sk w b j j2=true∧O_ LS w E l j2):=fun j hj=>by
   rw[←mi hi.2 lP.2 ho.2 j hj]
   exact⟨fun h=>h.elim (fun h=>by cases h.1) id,.inr⟩
  show(∃k,k∈KS a n∧_)↔_
  rw[ln hi.1 lP.1 ho.1 i LD]
  constructor
  ·rintro⟨j,h1,h2,h3⟩
   obtain⟨j2,h4,h5,h6⟩:=(e j h1).1 h3
   refine⟨j2,h4,?_,h6⟩
   show((List.range (w.length+1)).any fun k=>sk w a i k&&sk w b k j2)=true
   rw[df]
   exact⟨j,List.mem_range.2 (by omega),by rw[h2,h5];rfl⟩
  ·rintro⟨j2,h4,h5,h6⟩
   have h5:((List.range (w.length+1)).any fun k=>sk w a i k&&sk w b k j2)=true:=h5
   rw[df]at h5
   obtain⟨j,h1,h2⟩:=h5
   rw[ar]at h2
   have:=List.mem_range.1 h1
   exact⟨j,by omega,h2.1,(e j (by omega)).2 ⟨j2,h4,h2.2,h6⟩⟩
 |iR a b ln mi=>
  intro n E l hi lP ho i LD
  simp only[Rx.wf,ar]at lP
  have h1:=ln hi.1 lP.1 ho.1 i LD
  have h2:=mi hi.2 lP.2 ho.2 i LD
  show(∃k,k∈KS a n++KS b (n+a.lv)∧_)↔_
  rw[O6,h1,h2]
  constructor
  ·rintro(⟨j,h3,h4,h5⟩|⟨j,h3,h4,h5⟩)
   ·exact⟨j,h3,by show(sk w a i j||sk w b i j)=true;rw[h4];rfl,h5⟩
   ·exact⟨j,h3,by show(sk w a i j||sk w b i j)=true;rw[h4,Bool.or_true],h5⟩
  ·rintro⟨j,h3,h4,h5⟩
   have h4:(sk w a i j||sk w b i j)=true:=h4
   rw[Bool.or_eq_true]at h4
   exact h4.elim (fun h=>.inl ⟨j,h3,h,h5⟩) fun h=>.inr ⟨j,h3,h,h5⟩
 |none=>exact fun hi lP ho=>leaf .none F hi lP ho
 |empty=>exact fun hi lP ho=>leaf .empty F hi lP ho
 |letter p n=>exact fun hi lP ho=>leaf (.letter p n) F hi lP ho
 |and a b _ _=>exact fun hi lP ho=>leaf (.and a b) F hi lP ho
 |not a _=>exact fun hi lP ho=>leaf (.not a) F hi lP ho
 |star a _=>exact fun hi lP ho=>leaf (.star a) F hi lP ho
 |ahead a _=>exact fun hi lP ho=>leaf (.ahead a) F hi lP ho
 |behind a _=>exact fun hi lP ho=>leaf (.behind a) F hi lP ho
end
theorem Sw {v B:Nat} (hv:v≤6) (hB:B≤4096) {LS:List Lf}: ∀(t:Rx) {n:Nat} {E:List Nat} {l:Bool},AO v LS t n E l→t.wf=true→okB v t B→ ∀k,n≤k→k<n+t.lv→(lf LS k).op=9→ ∃p,fV (v:Int) B (lf LS k).d (iV p fun _=>true):=by
 have leaf: ∀(t:Rx),t.leaf=true→ ∀ {n:Nat} {E:List Nat} {l:Bool},AO v LS t n E l→t.wf=true→okB v t B→ ∀k,n≤k→k<n+t.lv→(lf LS k).op=9→ ∃p,fV (v:Int) B (lf LS k).d (iV p fun _=>true):=by
  intro t hl n E l hi lP ho k h1 h2 h9
  obtain⟨_,k2,k3,_,_⟩:=(sj hl).1 hi
  rw[(I2 hl n).2.2]at h2
  have:k=n:=by omega
  subst this
  have hL:=ww hv hB hl lP ho
  rw[k2]at h9
  rw[k3]
  cases t<;>first|(exact⟨_,hL⟩;done)|(cases h9;done)|(cases hl;done)
 intro t
 induction t with
 |iG a b ln mi=>
  intro n E l hi lP ho k h1 h2 h9
  simp only[Rx.wf,ar]at lP
  have h2:k<n+(a.lv+b.lv):=h2
  rcases Nat.lt_or_ge k (n+a.lv)with c|c
  ·exact ln hi.1 lP.1 ho.1 k h1 c h9
  ·exact mi hi.2 lP.2 ho.2 k c (by omega) h9
 |iR a b ln mi=>
  intro n E l hi lP ho k h1 h2 h9
  simp only[Rx.wf,ar]at lP
  have h2:k<n+(a.lv+b.lv):=h2
  rcases Nat.lt_or_ge k (n+a.lv)with c|c
  ·exact ln hi.1 lP.1 ho.1 k h1 c h9
  ·exact mi hi.2 lP.2 ho.2 k c (by omega) h9
 |none=>exact fun hi lP ho=>leaf .none F hi lP ho
 |empty=>exact fun hi lP ho=>leaf .empty F hi lP ho
 |letter p n=>exact fun hi lP ho=>leaf (.letter p n) F hi lP ho
 |and a b _ _=>exact fun hi lP ho=>leaf (.and a b) F hi lP ho
 |not a _=>exact fun hi lP ho=>leaf (.not a) F hi lP ho
 |star a _=>exact fun hi lP ho=>leaf (.star a) F hi lP ho
 |ahead a _=>exact fun hi lP ho=>leaf (.ahead a) F hi lP ho
 |behind a _=>exact fun hi lP ho=>leaf (.behind a) F hi lP ho
theorem I5 {v B:Nat} (hv:v≤6) (hB:B≤4096) {t:Rx} (lP:t.wf=true) (ho:okB v t B):AN (jN v t) v:=fun k hk h9 u z hu hz h=>by
 obtain⟨p,hp⟩:=Sw hv hB t (CZ v t).1 lP ho k (bj _) (by rw[vj]at hk;omega) h9
 have h2:iS (v:Int) (u++z):=fun x hx=>(List.mem_append.1 hx).elim (hu x) (hz x)
 rw[uk hp hu]at h
 rw[uk hp h2]
 exact E_ h
theorem Xt {v B:Nat} (hv:v≤6) (hB:B≤4096) {t:Rx} (lP:t.wf=true) (Kz:t.lv≤12) (ho:okB v t B) {w:List Nat} (hw:iS (v:Int) w):Yn v t w=sk w t 0 w.length:=by
 have hG:=Cn hv hB lP Kz ho
 obtain⟨h1,h2⟩:=CZ v t
 rw[dN]
 unfold Yn
 rw[E5 hG (I5 hv hB lP ho) x0 hw,h2]
 have h3:=KU (LS:=jN v t) hv hB hw t h1 lP ho 0 (bj _)
 unfold Au at h3
 rw[List.take_zero,List.drop_zero]at h3
 refine Iff.trans h3 ?_
 constructor
 ·rintro⟨j,h4,h5,⟨_,h6⟩|⟨k,h6,_⟩⟩
  ·have:=List.drop_eq_nil_iff.1 h6
   have:j=w.length:=by omega
   subst this;exact h5
  ·simp at h6
 ·exact fun h=>⟨w.length,aI _,h,.inl ⟨F,by simp⟩⟩
def vE {α:Type}:List α→List (List α)
 | []=>[]
 |a::l=>vE l++([a]::(vE l).map (a:: ·))
theorem BY {α:Type}: ∀l:List α,(vE l).length+1=2^l.length
 | []=>rfl
 |a::l=>by
  have:=BY l
  show(vE l++([a]::(vE l).map (a:: ·))).length+1=2^(l.length+1)
  rw[aJ,bQ,ai,Nat.pow_succ];omega
theorem BZ {α:Type} (p:α→Bool): ∀l:List α,l.filter p=[]∨l.filter p∈vE l
 | []=>.inl F
 |a::l=>by
  have ih:=BZ p l
  show _∨_∈vE l++([a]::(vE l).map (a:: ·))
  rw[List.filter_cons]
  split
  ·refine .inr (ah _ ?_)
   rcases ih with ih|ih
   ·rw[ih];exact List.mem_cons_self
   ·exact List.mem_cons_of_mem _ (List.mem_map_of_mem ih)
  ·exact ih.imp id fun h=>aH _ h
section
variable (mS mO mB:Nat→List Nat)
def wJ:Nat→List (List Ob)
 |0=>[[]]
 |k+1=>wJ k++(wJ k).flatMap fun o=>(mO k).map fun s=>o++[(k,s)]
def Ai:Nat→List Cf
 |0=>[]
 |k+1=>Ai k++(wJ mO k).flatMap fun o=>(mS k).map fun s=>⟨(k:Int),s,o⟩
def XY:Nat→List (List Nat)
 |0=>[[]]
 |k+1=>(XY k).flatMap fun b=>(mB k).map fun s=>b++[s]
theorem Hz {α β:Type} (l:List α) (m:List Nat) (f:α→Nat→β):(l.flatMap fun o=>m.map fun s=>f o s).length=l.length*m.length:=by
 induction l with
 |nil=>simp
 |cons a l ih=>rw[List.flatMap_cons,aJ,ai,ih,bQ,Nat.succ_mul];omega
def prO:Nat→Nat
 |0=>1
 |k+1=>prO k*((mO k).length+1)
def prS:Nat→Nat
 |0=>0
 |k+1=>prS k+prO mO k*(mS k).length
def UL:Nat→Nat
 |0=>1
 |k+1=>UL k*(mB k).length
theorem FD: ∀k,(wJ mO k).length=prO mO k
 |0=>rfl
 |k+1=>by
  show(wJ mO k++_).length=prO mO k*_
  rw[aJ,Hz,FD k,Nat.mul_succ];omega
theorem FE: ∀k,(Ai mS mO k).length=prS mS mO k
 |0=>rfl
 |k+1=>by
  show(Ai mS mO k++_).length=prS mS mO k+_
  rw[aJ,Hz,FD,FE k]
theorem Jr: ∀k,(XY mB k).length=UL mB k
 |0=>rfl
 |k+1=>by
  show(List.flatMap _ _).length=UL mB k*_
  rw[Hz,Jr k]
variable {mS mO mB}
theorem wK {m k:Nat} (h:m≤k) {o:List Ob} (ho:o∈wJ mO m):o∈wJ mO k:=by
 induction h with
 |refl=>exact ho
 |step _ ih=>exact aH _ ih
theorem Lj {m k:Nat} (h:m≤k) {o:List Ob} (ho:o∈wJ mO m) {s:Nat} (hs:s∈mO k):o++[(k,s)]∈wJ mO (k+1):=
 ah _ (List.mem_flatMap.2 ⟨o,wK h ho,List.mem_map.2 ⟨s,hs,F⟩⟩)
theorem FF {n:Nat} {s:Nat} {o:List Ob}: ∀ {k:Nat},n<k→s∈mS n→o∈wJ mO n→(⟨(n:Int),s,o⟩:Cf)∈Ai mS mO k
 |0,h,_,_=>absurd h (by omega)
 |k+1,h,hs,ho=>by
  show _∈Ai mS mO k++_
  rcases Nat.lt_or_ge n k with c|c
  ·exact aH _ (FF c hs ho)
  ·have e:n=k:=by omega
   subst e
   exact ah _ (List.mem_flatMap.2 ⟨o,ho,List.mem_map.2 ⟨s,hs,F⟩⟩)
theorem Js {f:Nat→Nat}: ∀ {n:Nat},(∀k,k<n→f k∈mB k)→(List.range n).map f∈XY mB n
 |0,_=>List.mem_singleton.2 F
 |n+1,h=>by
  rw[List.range_succ,bm]
  exact List.mem_flatMap.2 ⟨_,Js fun k hk=>h k (by omega),List.mem_map.2 ⟨f n,h n (by omega),F⟩⟩
end
section
variable {ls:List Lf} {vs:Nat}
def PlC (ls:List Lf) (vs:Nat) (c:Cf):Prop:= ∀k:Nat,c.k=(k:Int)→(lf ls k).op≠9∧(lf ls k).op≠10∧Su ls vs k c.s
mutual
theorem FG {bh:List Nat}: ∀(f:Nat) {k:Nat} {o:List Ob},∀c∈fL ls f bh k o,PlC ls vs c
 |0,k,o,c,hc=>by simp[fL]at hc
 |f+1,k,o,c,hc=>by
  unfold fL at hc
  split at hc
  ·exact vF f c hc
  ·split at hc
   ·split at hc
    ·exact vF f c hc
    ·simp at hc
   ·rename_i h9 xG
    rcases List.mem_cons.1 hc with rfl|hc
    ·intro j hj
     have hj:(k:Int)=(j:Int):=hj
     have e:j=k:=by omega
     subst e
     exact⟨h9,xG,[],fun x hx=>by simp at hx,F⟩
    ·split at hc
     ·exact vF f c hc
     ·simp at hc
theorem vF {bh:List Nat}: ∀(f:Nat) {k:Nat} {o:List Ob},∀c∈gm ls f bh k o,PlC ls vs c
 |0,k,o,c,hc=>by simp[gm]at hc
 |f+1,k,o,c,hc=>by
  unfold gm at hc
  rcases List.mem_append.1 hc with hc|hc
  ·obtain⟨j,_,hc⟩:=List.mem_flatMap.1 hc
   exact FG f c hc
  ·split at hc
   ·rw[List.mem_singleton.1 hc]
    intro j hj
    have hj:(-1:Int)=(j:Int):=hj
    omega
   ·simp at hc
end
def QH (ls:List Lf) (x:Nat) (c:Cf):Cf:=⟨c.k,fm (lf ls c.k.toNat).d c.s x,me ls c.o x⟩
def opn (ls:List Lf) (bh:List Nat) (c:Cf):List Cf:=c::(if dR (lf ls c.k.toNat).d c.s=true then gm ls (2*ls.length) bh c.k.toNat c.o else[])
theorem FH {bh:List Nat} {x:Nat} {c:Cf} (h:0≤c.k):iD ls bh x c=opn ls bh (QH ls x c):=by
 unfold iD;rw[aq (by omega)];rfl
theorem PV {bh:List Nat} {x:Nat} {c:Cf} (h:c.k<0):iD ls bh x c=[]:=by
 unfold iD;rw[aB h]
def RS (ls:List Lf) (b:List Nat) (M:List Cf):St:=⟨b,(M.flatMap (opn ls b)).foldl add []⟩
theorem vG {s:St} {x:Nat} {c:Cf}:c∈(jJ ls s x).cf↔ ∃y,y∈s.cf∧0≤y.k∧c∈opn ls (jq ls s.bh x) (QH ls x y):=by
 show c∈((s.cf.flatMap (iD ls (jq ls s.bh x) x)).foldl add [])↔_
 rw[et,List.mem_flatMap]
 constructor
 ·rintro(h|⟨y,hy,h⟩)
  ·simp at h
  ·by_cases c0:y.k<0
   ·rw[PV c0]at h;simp at h
   ·have c1:0≤y.k:=by omega
    rw[FH c1]at h;exact⟨y,hy,c1,h⟩
 ·rintro⟨y,hy,c0,h⟩
  exact .inr ⟨y,hy,by rw[FH c0];exact h⟩
theorem Jt {mO:Nat→List Nat} (hO: ∀k q x,k<ls.length→(lf ls k).op=9→Su ls vs k q→dR (lf ls k).d q=false→x<2^vs→dR (lf ls k).d (fm (lf ls k).d q x)=false→fm (lf ls k).d q x∈mO k) {x:Nat} (hx:x<2^vs): ∀ {o o1:List Ob} {m k:Nat},o1∈wJ mO m→o.Pairwise (fun p q=>p.1<q.1)→(∀p∈o,m≤p.1∧p.1<k)→m≤k→Hi (ls:=ls) vs o→o.foldl (fun o p=>ow ls o (p.1,fm (lf ls p.1).d p.2 x)) o1∈wJ mO k
 | [],o1,m,k,h1,_,_,hm,_=>wK hm h1
 |p::o,o1,m,k,h1,h2,h3,hm,hA=>by
  rw[cU]
  have hp:=h3 p (by simp)
  obtain⟨a1,a2,a3,a4⟩:=hA p (by simp)
  have h4:ow ls o1 (p.1,fm (lf ls p.1).d p.2 x)∈wJ mO (p.1+1):=by
   unfold ow
   split
   ·exact wK (Nat.le_succ_of_le hp.1) h1
   ·rename_i hf
    exact Lj hp.1 h1 (hO _ _ _ a1 a2 a3 a4 hx (by simpa using hf))
  refine Jt hO hx h4 (List.pairwise_cons.1 h2).2 (fun q hq=>?_) (by omega) (fun q hq=>hA q (by simp[hq]))
  have:=(List.pairwise_cons.1 h2).1 q hq
  have h5:=h3 q (by simp[hq])
  exact⟨by omega,h5.2⟩
structure Lk (ls:List Lf) (vs:Nat) (P:Prop) (s:St):Prop where
 ua:lm ls s
 way:KR ls vs s
 pl: ∀c∈s.cf,PlC ls vs c
 pos:(∃c,c∈s.cf∧0≤c.k)↔P
theorem SY (hG:iW ls vs) (hA:AN ls vs) {first:List Nat} (hf: ∀k∈first,k<ls.length) (mS mO mB:Nat→List Nat)
  (hS: ∀k q x,k<ls.length→(lf ls k).op≠9→(lf ls k).op≠10→Su ls vs k q→x<2^vs→fm (lf ls k).d q x∈mS k)
  (hO: ∀k q x,k<ls.length→(lf ls k).op=9→Su ls vs k q→dR (lf ls k).d q=false→x<2^vs→dR (lf ls k).d (fm (lf ls k).d q x)=false→fm (lf ls k).d q x∈mO k)
  (hB: ∀k,k<ls.length→(if(lf ls k).op=10 then∀q,q<(lf ls k).d.next.length→q∈mB k else 0∈mB k))
  {B:Nat} (h1:UL mB ls.length*2^prS mS mO ls.length≤B) (h2:UL mB ls.length+1≤B):Ih (Cw (lm ls) St.key (jJ ls)) (2^vs) (iz ls first).key B:=by
 obtain⟨P,hP⟩: ∃P:Prop,P= ∃c,c∈(iz ls first).cf∧0≤c.k:=⟨_,F⟩
 have hm0: ∀c,c∈(iz ls first).cf→ ∃k,k∈first∧c∈fL ls (2*ls.length) (ls.map fun l=>l.d.start.toNat) k []:=fun c hc=>by
  have hc:c∈((first.flatMap fun k=>fL ls (2*ls.length) (ls.map fun l=>l.d.start.toNat) k []).foldl add []):=hc
  rw[et,List.mem_flatMap]at hc
  exact hc.elim (fun h=>by simp at h) id
 have J2:Lk ls vs P (iz ls first):=⟨qx hG hf,(BM hG hA hf).1,fun c hc=>by obtain⟨k,_,hc⟩:=hm0 c hc;exact FG _ c hc,by rw[hP]⟩
 obtain⟨LM,hLM⟩: ∃LM:List (List Cf),LM= @ite _ P (Classical.propDecidable _) (vE (Ai mS mO ls.length)) [[]]:=⟨_,F⟩
 have step: ∀s,Lk ls vs P s→ ∀x,x<2^vs→Lk ls vs P (jJ ls s x)∧ ∃b∈XY mB ls.length,∃M∈LM,(jJ ls s x).key=(RS ls b M).key:=fun s hs x hx=>by
  have hg:=pM hG hs.ua hx
  have hR:Lk ls vs P (jJ ls s x):=by
   refine⟨hg,(E4 hG hA hs.way hx).1,fun c hc=>?_,?_⟩
   ·obtain⟨y,hy,F6,hc⟩:=vG.1 hc
    rcases List.mem_cons.1 hc with rfl|hc
    ·intro k hk
     obtain⟨k1,k2,u,hu,e⟩:=hs.pl y hy k hk
     have hk:y.k=(k:Int):=hk
     refine⟨k1,k2,u++[x],fun z hz=>?_,?_⟩
     ·rcases List.mem_append.1 hz with hz|hz
      ·exact hu z hz
      ·rw[List.mem_singleton.1 hz];simpa using hx
     ·show fm (lf ls y.k.toNat).d y.s x=_
      rw[e8,←e,hk,Int.toNat_natCast]
    ·split at hc
     ·exact vF _ c hc
     ·simp at hc
   ·rw[←hs.pos]
    constructor
    ·rintro⟨c,hc,_⟩
     obtain⟨y,hy,F6,_⟩:=vG.1 hc
     exact⟨y,hy,F6⟩
    ·rintro⟨y,hy,F6⟩
     exact⟨QH ls x y,vG.2 ⟨y,hy,F6,List.mem_cons_self⟩,F6⟩
  have hU: ∀y,y∈s.cf→0≤y.k→QH ls x y∈Ai mS mO ls.length:=fun y hy F6=>by
   rcases hs.ua.cf y hy with⟨e,_⟩|⟨k,e,hk,hq,ho⟩
   ·omega
   ·obtain⟨k1,k2,k3⟩:=hs.pl y hy k e
    have e2:QH ls x y=⟨(k:Int),fm (lf ls k).d y.s x,me ls y.o x⟩:=by unfold QH;rw[e,Int.toNat_natCast]
    rw[e2]
    exact FF hk (hS k y.s x hk k1 k2 k3 hx) (Jt hO hx (m:=0) (List.mem_singleton.2 F) ho.1 (fun p hp=>⟨bj _,(ho.2 p hp).1⟩) (bj _) (hs.way.ob y hy))
  refine⟨hR,jq ls s.bh x,Js fun k hk=>?_,(Ai mS mO ls.length).filter (fun c=> @decide (∃y,y∈s.cf∧0≤y.k∧QH ls x y=c) (Classical.propDecidable _)),?_,?_⟩
  ·have:=hB k hk
   split at this
   ·rename_i xG
    rw[aB xG]
    exact this _ ((hG.kW hk).toVal.iw (hs.ua.bh.lt k hk) (by rw[hG.vars _ (kX hk)];exact hx)).1
   ·rename_i xG
    rw[aq xG];exact this
  ·rw[hLM]
   by_cases hp:P
   ·rw[aB hp]
    refine(BZ _ _).resolve_left fun e=>?_
    obtain⟨y,hy,F6⟩:=hs.pos.2 hp
    have:QH ls x y∈(Ai mS mO ls.length).filter (fun c=> @decide (∃y,y∈s.cf∧0≤y.k∧QH ls x y=c) (Classical.propDecidable _)):=List.mem_filter.2 ⟨hU y hy F6,(@decide_eq_true_iff _ (Classical.propDecidable _)).2 ⟨y,hy,F6,F⟩⟩
    rw[e]at this;simp at this
   ·rw[aq hp,dl,List.filter_eq_nil_iff]
    intro c _ h
    obtain⟨y,hy,F6,_⟩:=(@decide_eq_true_iff _ (Classical.propDecidable _)).1 h
    exact hp (hs.pos.1 ⟨y,hy,F6⟩)
  ·have he: ∀c,c∈(jJ ls s x).cf↔c∈(RS ls (jq ls s.bh x) ((Ai mS mO ls.length).filter (fun c=> @decide (∃y,y∈s.cf∧0≤y.k∧QH ls x y=c) (Classical.propDecidable _)))).cf:=fun c=>by
    rw[vG]
    show _↔c∈((List.flatMap _ _).foldl add [])
    rw[et,List.mem_flatMap]
    constructor
    ·rintro⟨y,hy,F6,h⟩
     exact .inr ⟨_,List.mem_filter.2 ⟨hU y hy F6,(@decide_eq_true_iff _ (Classical.propDecidable _)).2 ⟨y,hy,F6,F⟩⟩,h⟩
    ·rintro(h|⟨d,hd,h⟩)
     ·simp at h
     ·obtain⟨y,hy,F6,rfl⟩:=(@decide_eq_true_iff _ (Classical.propDecidable _)).1 (List.mem_filter.1 hd).2
      exact⟨y,hy,F6,h⟩
   exact zM hg ⟨hg.bh,nK _ _ List.nodup_nil,fun c hc=>hg.cf c ((he c).2 hc)⟩ F he
 obtain⟨C,hC⟩: ∃C:List Key,C=((iz ls first).key::(XY mB ls.length).flatMap fun b=>LM.map fun M=>(RS ls b M).key).filter fun k=> @decide (∃s,Lk ls vs P s∧s.key=k) (Classical.propDecidable _):=⟨_,F⟩
 have s9: ∀k,k∈C↔(k∈(iz ls first).key::(XY mB ls.length).flatMap fun b=>LM.map fun M=>(RS ls b M).key)∧ ∃s,Lk ls vs P s∧s.key=k:=fun k=>by
  rw[hC,List.mem_filter]
  exact and_congr Iff.rfl (@decide_eq_true_iff _ (Classical.propDecidable _))
 refine⟨C,⟨(s9 _).2 ⟨List.mem_cons_self,_,J2,F⟩,fun k hk x hx=>?_⟩,?_⟩
 ·obtain⟨_,s,hs,rfl⟩:=(s9 _).1 hk
  obtain⟨h3,b,hb,M,hM,e⟩:=step s hs x hx
  rw[tX (EK hG) hs.ua hx]
  exact(s9 _).2 ⟨List.mem_cons_of_mem _ (List.mem_flatMap.2 ⟨b,hb,List.mem_map.2 ⟨M,hM,e.symm⟩⟩),_,h3,F⟩
 ·have hl:C.length≤(XY mB ls.length).length*LM.length+1:=by
   rw[hC]
   refine bE (List.length_filter_le _ _) ?_
   rw[bQ]
   have: ∀l:List (List Nat),(l.flatMap fun b=>LM.map fun M=>(RS ls b M).key).length=l.length*LM.length:=fun l=>by
    induction l with
    |nil=>simp
    |cons a l ih=>rw[List.flatMap_cons,aJ,ai,ih,bQ,Nat.succ_mul];omega
   rw[this];exact aI _
  refine bE hl ?_
  rw[Jr,hLM]
  by_cases hp:P
  ·rw[aB hp]
   have h3:=BY (Ai mS mO ls.length)
   rw[FE]at h3
   rw[←h3,Nat.mul_succ]at h1
   rcases Nat.eq_zero_or_pos (UL mB ls.length)with c|c
   ·rw[c,Nat.zero_mul];omega
   ·omega
  ·rw[aq hp];show UL mB ls.length*1+1≤B;omega
end
theorem Ju {d:c_} (hv:Val d) (hm:jD d=d) {w:List Nat} (hw:Wd d w):runN d d.start.toNat w=ix (ku d (runN d d.start.toNat w)) (order (qa d)):=by
 have hq:=ph hv
 have h1:=BO hq (wA hq) w hw
 rw[Fg hq,qE,Fe hv (ez hv) w hw]at h1
 have e:eB (qa d)=d:=hm
 have e0:d.start.toNat=0:=by rw[←hm];rfl
 rw[e,e0]at h1
 rw[e0];exact h1
theorem SZ {d:c_} (hv:Val d) (hm:jD d=d) {u w:List Nat} (hu:Wd d u) (hw:Wd d w) (h: ∀z,Wd d z→dR d (runN d d.start.toNat (u++z))=dR d (runN d d.start.toNat (w++z))):runN d d.start.toNat u=runN d d.start.toNat w:=by
 have e:ku d (runN d d.start.toNat u)=ku d (runN d d.start.toNat w):=
  (nT hv (kj hv (ez hv) u hu) (kj hv (ez hv) w hw)).2 fun z hz qm=>qm (by
   have:=h z hz
   unfold runN at this⊢
   rwa[cT,cT]at this)
 rw[Ju hv hm hu,Ju hv hm hw,e]
theorem Jv {v B:Nat} {d:c_} {p:Lg} (h:fV (v:Int) B d p) (P:List Nat→Prop) (g:List Nat→Nat) (V:List Nat) (h1: ∀u,iS (v:Int) u→P u→g u∈V)
  (h2: ∀u w,iS (v:Int) u→iS (v:Int) w→P u→P w→g u=g w→ ∀z,iS (v:Int) z→p (u++z)=p (w++z)): ∃L:List Nat,L.length≤V.length∧ ∀u,iS (v:Int) u→P u→runN d d.start.toNat u∈L:=by
 classical
 refine⟨V.map fun t=>if c: ∃u,iS (v:Int) u∧P u∧g u=t then runN d d.start.toNat (Classical.choose c)else 0,by simp,fun u hu hp=>List.mem_map.2 ⟨g u,h1 u hu hp,?_⟩⟩
 have c: ∃w,iS (v:Int) w∧P w∧g w=g u:=⟨u,hu,hp,F⟩
 rw[dif_pos c]
 obtain⟨k1,k2,k3⟩:=Classical.choose_spec c
 refine SZ h.valid.toVal h.min (h.wd.2 k1) (h.wd.2 hu) fun z hz=>?_
 have hz:=h.wd.1 hz
 have a: ∀ {a b:List Nat},iS (v:Int) a→iS (v:Int) b→iS (v:Int) (a++b):=fun ha hb x hx=>(List.mem_append.1 hx).elim (ha x) (hb x)
 have e1:=h.jf _ (a k1 hz)
 have e2:=h.jf _ (a hu hz)
 unfold jf at e1 e2
 rw[e1,e2]
 exact h2 _ _ k1 hu k2 hp k3 z hz
def mvE (e:En):List Nat:=(List.range e.n).filter fun t=>(List.range e.n).any fun s=>(List.range e.c).any fun x=>Nat.beq (e.to s x) t
def mvF (e:En):List Nat:=cond (e.fi 0) [] ((List.range e.n).filter fun t=>!e.fi t&&(List.range e.n).any fun s=>!e.fi s&&(List.range e.c).any fun x=>Nat.beq (e.to s x) t)
def bS (k:Nat):Nat:=[0,2,2,3,4,4,8].getD k 4096
def bO (k:Nat):Nat:=[0,1,0,2,2,3,4].getD k 4096
set_option maxRecDepth 100000 in
theorem PW:((List.range 7).all fun k=>(K1.getD k []).all fun i=>Nat.ble (mvE (nl i)).length (bS k)&&Nat.ble (mvF (nl i)).length (bO k))=true:=by kernel_rfl
theorem PY {e:En} (h0:0<e.n) (hc: ∀s,s<e.n→ ∀x,x<e.c→e.to s x<e.n) {w:List Nat} (hw: ∀x∈w,x<e.c):e.mc.run 0 w<e.n:=by
 have: ∀(w:List Nat) {s:Nat},s<e.n→(∀x∈w,x<e.c)→e.mc.run s w<e.n:=by
  intro w
  induction w with
  |nil=>exact fun h _=>h
  |cons x w ih=>exact fun h hw=>ih (hc _ h x (hw x (by simp))) fun y hy=>hw y (by simp[hy])
 exact this w h0 hw
theorem HA (m:Mc) (s:Nat) (u w:List Nat):m.run s (u++w)=m.run (m.run s u) w:=cT
theorem Jw {α:Type} {u:List α} (h:u≠ []): ∃a x,u=a++[x]:=by
 rcases List.eq_nil_or_concat u with c|⟨a,x,e⟩
 ·exact absurd c h
 ·exact⟨a,x,by rw[e,List.concat_eq_append]⟩
theorem Aj {v:Int} {a b:List Nat} (h:iS v (a++b)):iS v a∧iS v b:=⟨fun x hx=>h x (aH _ hx),fun x hx=>h x (ah _ hx)⟩
theorem yd {v:Nat} {u:List Nat} {x:Nat} (hu:iS (v:Int) u) (hx:x<2^v):iS (v:Int) (u++[x]):=fun y hy=>by
 rcases List.mem_append.1 hy with hy|hy
 ·exact hu y hy
 ·rw[List.mem_singleton.1 hy];simpa using hx
theorem PZ {v B:Nat} {t:Rx} (hp:t.plain=true) (hs:t.sz≤6) {d:c_} (h:fV (v:Int) B d (fM t)): ∃L:List Nat,L.length≤bS t.sz∧ ∀u x,iS (v:Int) u→x<2^v→fm d (runN d d.start.toNat u) x∈L:=by
 obtain⟨e,h1,h2⟩:=iI (v:=v) t hp hs
 obtain⟨_,_,h4,h5⟩:=wC h1 hs
 obtain⟨g,g1,g2⟩:=h2
 have hg: ∀ {u:List Nat},iS (v:Int) u→ ∀x∈u.map g,x<e.c:=fun hu x hx=>by
  obtain⟨y,hy,rfl⟩:=List.mem_map.1 hx
  exact g1 y (by simpa using hu y hy)
 refine Exists.elim (Jv h (fun u=>u≠ []) (fun u=>e.mc.run 0 (u.map g)) (mvE e) (fun u hu qm=>?_) (fun u w hu hw _ _ Ls z hz=>?_)) fun L hLm=>?_
 ·obtain⟨a,x,rfl⟩:=Jw qm
  have ha:=(Aj hu).1
  have hx:=hg hu
  have hr:=PY h4 h5 (hg ha)
  have hxc:g x<e.c:=hx (g x) (by simp)
  unfold mvE
  rw[bm,List.mem_filter,fE]
  have e3:e.mc.run 0 (a.map g++[x].map g)=e.to (e.mc.run 0 (a.map g)) (g x):=lr e.mc 0 (a.map g) (g x)
  rw[e3]
  refine⟨h5 _ hr _ hxc,?_⟩
  rw[df]
  exact⟨_,List.mem_range.2 hr,List.any_eq_true.2 ⟨_,List.mem_range.2 hxc,Nat.beq_refl _⟩⟩
 ·have a: ∀ {a b:List Nat},iS (v:Int) a→iS (v:Int) b→iS (v:Int) (a++b):=fun ha hb x hx=>(List.mem_append.1 hx).elim (ha x) (hb x)
  rw[g2 _ (a hu hz),g2 _ (a hw hz)]
  have Ls:e.mc.run 0 (u.map g)=e.mc.run 0 (w.map g):=Ls
  show e.mc.fi (e.mc.run 0 _)=e.mc.fi (e.mc.run 0 _)
  rw[bm,bm,HA,HA,Ls]
 ·obtain⟨hL,hm⟩:=hLm
  refine⟨L,bE hL ?_,fun u x hu hx=>?_⟩
  ·obtain⟨i,hi,rfl⟩:=h1
   have h6:=List.all_eq_true.1 (List.all_eq_true.1 PW t.sz (List.mem_range.2 (by omega))) i hi
   rw[ar]at h6
   exact Nat.le_of_ble_eq_true h6.1
  ·have:=hm (u++[x]) (yd hu hx) (by simp)
   rwa[e8]at this
theorem P0 {v B:Nat} {t:Rx} (hp:t.plain=true) (hs:t.sz≤6) {d:c_} (h:fV (v:Int) B d (iV (fM t) fun _=>true)):
  ∃L:List Nat,L.length≤bO t.sz∧ ∀u x,iS (v:Int) u→x<2^v→dR d (fm d (runN d d.start.toNat u) x)=false→fm d (runN d d.start.toNat u) x∈L:=by
 obtain⟨e,h1,h2⟩:=iI (v:=v) t hp hs
 obtain⟨_,_,h4,h5⟩:=wC h1 hs
 obtain⟨g,g1,g2⟩:=h2
 have hg: ∀ {u:List Nat},iS (v:Int) u→ ∀x∈u.map g,x<e.c:=fun hu x hx=>by
  obtain⟨y,hy,rfl⟩:=List.mem_map.1 hx
  exact g1 y (by simpa using hu y hy)
 have FU: ∀ {u a b:List Nat},iV (fM t) (fun _=>true) u=false→iS (v:Int) u→u=a++b→e.fi (e.mc.run 0 (a.map g))=false:=fun {u a b} hu hw he=>by
  subst he
  have h6:=g2 a (Aj hw).1
  cases hf:e.fi (e.mc.run 0 (a.map g))with
  |false=>rfl
  |true=>
   have h6:fM t a=e.fi (e.mc.run 0 (a.map g)):=h6
   rw[hf]at h6
   rw[ir.2 ⟨a,b,F,h6,F⟩]at hu;cases hu
 refine Exists.elim (Jv h (fun u=>u≠ []∧iV (fM t) (fun _=>true) u=false) (fun u=>e.mc.run 0 (u.map g)) (mvF e) (fun u hu qm=>?_) (fun u w hu hw hpu hpw Ls z hz=>?_)) fun L hLm=>?_
 ·obtain⟨qm,hn⟩:=qm
  obtain⟨a,x,rfl⟩:=Jw qm
  have ha:=(Aj hu).1
  have hx:=hg hu
  have hr:=PY h4 h5 (hg ha)
  have hxc:g x<e.c:=hx (g x) (by simp)
  have f0:e.fi 0=false:=FU (a:=[]) (b:=a++[x]) hn hu F
  have fa:=FU (a:=a) (b:=[x]) hn hu F
  have fu:=FU (a:=a++[x]) (b:=[]) hn hu (by simp)
  unfold mvF
  rw[f0]
  show _∈List.filter _ _
  rw[bm]at fu⊢
  rw[List.mem_filter,fE]
  have e3:e.mc.run 0 (a.map g++[x].map g)=e.to (e.mc.run 0 (a.map g)) (g x):=lr e.mc 0 (a.map g) (g x)
  rw[e3]at fu⊢
  refine⟨h5 _ hr _ hxc,?_⟩
  rw[fu]
  show List.any _ _=true
  rw[df]
  refine⟨_,List.mem_range.2 hr,?_⟩
  rw[fa]
  exact List.any_eq_true.2 ⟨_,List.mem_range.2 hxc,Nat.beq_refl _⟩
 ·have half: ∀u w,iS (v:Int) u→iS (v:Int) w→iV (fM t) (fun _=>true) u=false→e.mc.run 0 (u.map g)=e.mc.run 0 (w.map g)→iV (fM t) (fun _=>true) (u++z)=true→iV (fM t) (fun _=>true) (w++z)=true:=fun u w hu hw hn Ls hc=>by
   obtain⟨a,b,he,ha,_⟩:=ir.1 hc
   rcases List.append_eq_append_iff.1 he with⟨c,rfl,rfl⟩|⟨c,rfl,rfl⟩
   ·refine ir.2 ⟨w++c,b,by simp,?_,F⟩
    have rH:iS (v:Int) c:=(Aj hz).1
    have aa: ∀ {a b:List Nat},iS (v:Int) a→iS (v:Int) b→iS (v:Int) (a++b):=fun ha hb x hx=>(List.mem_append.1 hx).elim (ha x) (hb x)
    rw[g2 _ (aa hu rH)]at ha
    rw[g2 _ (aa hw rH)]
    rw[bm,HA]at ha⊢
    have Ls:e.mc.run e.mc.s0 (u.map g)=e.mc.run e.mc.s0 (w.map g):=Ls
    rw[←Ls];exact ha
   ·have:=FU (a:=a) (b:=c) hn hu F
    have h6:fM t a=e.fi (e.mc.run 0 (a.map g)):=g2 a (Aj hu).1
    rw[h6,this]at ha;cases ha
  rw[dN]
  exact⟨half u w hu hw hpu.2 Ls,half w u hw hu hpw.2 Ls.symm⟩
 ·obtain⟨hL,hm⟩:=hLm
  refine⟨L,bE hL ?_,fun u x hu hx hf=>?_⟩
  ·obtain⟨i,hi,rfl⟩:=h1
   have h6:=List.all_eq_true.1 (List.all_eq_true.1 PW t.sz (List.mem_range.2 (by omega))) i hi
   rw[ar]at h6
   exact Nat.le_of_ble_eq_true h6.2
  ·have hw:=yd hu hx
   have h6:=h.jf _ hw
   unfold jf at h6
   rw[e8,hf]at h6
   have:=hm (u++[x]) hw ⟨by simp,h6.symm⟩
   rwa[e8]at this
end Go.Lx

namespace Go.Proofs.YtgdbfideeeegmaaGreatDoor
open Go.Lx Go.RowKit _root_.Go.Proofs.Tryz
theorem Se (w:World) [dQ prog w] (eb:Option Addr) (ec:Nat) (e:List ei) (hE:Sl w eb (bX e)) (qZ:e.length≤64) (mh: ∀x∈e,x.p<256∧x.n<256) (v:Nat) (hv:v≤6):
  cB prog 89 [.slice eb e.length ec,vN v] w fun r N=> ∃(b:Option Addr) (c er:Nat) (fs:List Nat),r=.tuple #[.slice b fs.length c,vI (er:Int)]∧N=[az b c 3 1 (cm fs)]∧((j7 v e=.error er∧er≠0)∨(j7 v e=.ok fs∧er=0∧fs.length=e.length)):=by
 refine(gK 3 1 (Sc w eb ec e hE qZ mh v hv)).post ?_
 rintro r O' ⟨O2,rfl,⟨n,h1,rfl,rfl⟩|⟨fs,b,c,h1,rfl,rfl⟩⟩
 ·exact⟨_,Sub.rf,none,0,n,[],F,F,.inl ⟨h1,CJ h1⟩⟩
 ·obtain⟨gs,h2,h3,_,_⟩:=sQ h1 e.length (aI _)
  rw[List.take_length]at h2
  rw[h2]at h1
  injection h1 with h1
  subst h1
  exact⟨_,cH [1],b,c,0,gs,by rw[h3];rfl,F,.inr ⟨h2,F,h3⟩⟩
theorem WZ (w:World) [dQ prog w] (eb:Option Addr) (ec:Nat) (e:List ei) (hE:Sl w eb (bX e)) (qZ:e.length<4611686018427387904) (mh: ∀x∈e,x.p<256∧x.n<256) (vars:Int):
  cB prog 54 [.slice eb e.length ec,vI vars] w fun r N=> ∃b n c,r=.tuple #[.slice b n c,vI (gJ vars e:Int)]∧N=[]:=by
 refine aA func54 F ntmps54 F ?_
 let gd:Value:=(.slice eb e.length ec)
 refine aQ (ax (ef [gd] (fun z1=>?_)))
 refine aS (aj (br (aK (bo cV ?_))))
 by_cases HM:vars<0
 ·refine ae (bn aw HM) ?_
  refine cK (ae bw (aj ?_))
  refine bW ?_
  refine aQ (aS (aR ?_))
  refine dr nS (vI 7) results54 F F ?_
  have e9:gJ vars e=7:=by unfold gJ;rw[aB (by omega)]
  exact⟨[],Sub.z,none,0,0,(by first|(rw[e9];done)|(rw[e9];rfl)),F⟩
 refine ae (aY aw HM) (ao aw (ao gT (ae bU (aj (aL F (fun hc=>?_) (fun hc=>?_))))))
 ·have CK:vars<0∨6<vars:=by omega
  refine aQ (aS (aR ?_))
  refine dr nS (vI 7) results54 F F ?_
  have e9:gJ vars e=7:=by unfold gJ;rw[aB (by omega)]
  exact⟨[],Sub.z,none,0,0,(by first|(rw[e9];done)|(rw[e9];rfl)),F⟩
 have CK: ¬(vars<0∨6<vars):=by omega
 obtain⟨v,hvv⟩: ∃v:Nat,vars=(v:Int):=⟨vars.toNat,by omega⟩
 have QQ:v≤6:=by omega
 have KE:vars.toNat=v:=by omega
 refine aG (bF 0 dX) (ae (cL dX) (ae bN (aj (aL F (fun hc=>?_) (fun hc=>?_)))))
 ·have yp:e.length=0:=by omega
  have xS:e.length=0:=by omega
  refine aQ (aS (aR ?_))
  refine dr nS (vI 3) results54 F F ?_
  have e9:gJ vars e=3:=by unfold gJ;rw[aq CK,aB xS]
  exact⟨[],Sub.z,none,0,0,(by first|(rw[e9];done)|(rw[e9];rfl)),F⟩
 have AX: ¬e.length=0:=by omega
 have xS: ¬e.length=0:=by omega
 refine aG (bF 0 dX) (ae (cL dX) (ae gT (aj (aL F (fun hc=>?_) (fun hc=>?_)))))
 ·have xi:e.length>64:=by omega
  have sf:64<e.length:=by omega
  refine aQ (aS (aR ?_))
  refine dr nS (vI 4) results54 F F ?_
  have e9:gJ vars e=4:=by unfold gJ;rw[aq CK,aq xS,aB sf]
  exact⟨[],Sub.z,none,0,0,(by first|(rw[e9];done)|(rw[e9];rfl)),F⟩
 have Oa: ¬e.length>64:=by omega
 have sf: ¬64<e.length:=by omega
 refine aE (aG (bF 0 dX) (ae (cg aw (v':=vN v) (by show Value.int .i64 vars=_;rw[hvv])) ?_))
 have uW:=fun(w1:World) (hI:Inv w [oI z1 32 [gd]] w1)=>(haveI:=eP hI;Se w1 eb ec e (hI.sl hE) (by omega) mh v QQ)
 refine TO.lc abd (aO uW) ?_
 clear uW
 rintro vr O' ⟨N,rfl,b,c,er,fs,rfl,rfl,T8⟩
 refine ay (bI _) (ae (bI _) (aS (aS (bq (aN (aX d_ (aL F (fun hc=>?_) (fun hc=>?_))))))))
 ·have abe:er≠0:=by omega
  have her:er≠0:=by omega
  have hbe:j7 v e=.error er:=T8.elim (fun h=>h.1) (fun h=>absurd h.2.1 her)
  refine a7 (aS (aR ?_))
  refine dr nS (vN er) results54 F F ?_
  have e9:gJ vars e=er:=by unfold gJ;rw[aq CK,aq xS,aq sf,KE,hbe]
  exact⟨[],Sub.z,none,0,0,(by first|(rw[e9];done)|(rw[e9];rfl)),F⟩
 have abf: ¬er≠0:=by omega
 have her:er=0:=by omega
 obtain⟨W0,_,oG⟩:=T8.resolve_left (fun h=>h.2 her)
 refine aE (br (bo (bF 1 dX) (ae (cL dX) (ae (cg (ga F F (by omega)) (v':=vN (e.length-1)) (am (Value.int .i64) (by omega))) (ae (dB ((e.length-1)) da bM F F (eA 0) (by omega) (by rw[ai];omega)) (ae (iN eO F F (eA 0) (iP (show e.length-1<fs.length by omega))) (aX d_ (aL F (fun hc=>?_) (fun hc=>?_)))))))))
 ·have Bz:(fs.getD (e.length-1) 0)≠0:=by omega
  have Yu:fs.getD (e.length-1) 0≠0:=by omega
  refine aQ (aS (aR ?_))
  refine dr nS (vI 2) results54 F F ?_
  have e9:gJ vars e=2:=by unfold gJ;rw[aq CK,aq xS,aq sf,KE,W0];show(if _ then _ else _)=_;first|(rw[aB Yu];done)|(rw[aq Yu,aq Qz];done)
  exact⟨[],Sub.z,none,0,0,(by first|(rw[e9];done)|(rw[e9];rfl)),F⟩
 have aaG: ¬(fs.getD (e.length-1) 0)≠0:=by omega
 have Yu: ¬fs.getD (e.length-1) 0≠0:=by omega
 refine aE (aQ (ax (b_ OD (fun z2=>?_))))
 let eH:Value:=(.func (.func 90) #[] #[(.pointer (aD z1)),(.pointer (aD z2))])
 refine bi (aG (fI) (ax (c8 [eH] 0 OD ?_)))
 refine bq (ae (bF 0 Oz) (ae (bF 2 dX) (ae (cL dX) (ae (cg (ga F F (by omega)) (v':=vN (e.length-1)) (am (Value.int .i64) (by omega))) ?_))))
 have abg:=(eK (base:=w) (O:=[oI z2 140 [eH],az b c 3 1 (cm fs),oI z1 32 [gd]]) fun w1 hI=>haveI:=eP hI;haveI:=eP hI;cZ (first:=[]) (args:=[vN (e.length-1),.bool true]) (gU:=[(eJ z1 0),(eJ z2 0)]) OC (WY w1 eb ec e (hI.sl hE) z1 z2 (hI.lj (mG 2)) (hI.lj (mG 0)) (pP W0) e.length (e.length-1) (by omega) (by omega) true))
 refine ax (fT abg F F ?_)
 clear abg
 rintro vr O' ⟨N,rfl,rfl,rfl⟩
 refine aX g_ (T.cond F (fun hc=>?_) (fun hc=>?_))
 ·have Qz: ¬lR e e.length (e.length-1) true=true:=by simpa using hc
  refine aQ (aS (aR ?_))
  refine dr nS (vI 2) results54 F F ?_
  have e9:gJ vars e=2:=by unfold gJ;rw[aq CK,aq xS,aq sf,KE,W0];show(if _ then _ else _)=_;first|(rw[aB Yu];done)|(rw[aq Yu,aq Qz];done)
  exact⟨[],Sub.z,none,0,0,(by first|(rw[e9];done)|(rw[e9];rfl)),F⟩
 have Qz:lR e e.length (e.length-1) true=true:=by simpa using hc
 refine aE (a7 (aS (aR ?_)))
 refine dr (.slice b fs.length c) (vI 0) results54 F F ?_
 have e9:gJ vars e=0:=by unfold gJ;rw[aq CK,aq xS,aq sf,KE,W0];show(if _ then _ else _)=_;rw[aq Yu,aB Qz]
 exact⟨[],Sub.z,b,fs.length,c,(by first|(rw[e9];done)|(rw[e9];rfl)),F⟩
theorem IA (w:World) [dQ prog w] (eb:Option Addr) (ec:Nat) (e:List ei) (hE:Sl w eb (bX e)) (qZ:e.length<4611686018427387904) (mh: ∀x∈e,x.p<256∧x.n<256) (vars:Int):
  cB prog 28 [.slice eb e.length ec,vI vars] w fun r N=>r=vI (gJ vars e:Int)∧N=[]:=by
 refine aA func28 F ntmps28 F ?_
 refine aQ (aj (a7 (aN ?_)))
 have rL:=fun(w1:World) (hI:Inv w [] w1)=>(haveI:=eP hI;WZ w1 eb ec e (hI.sl hE) qZ mh vars)
 refine TO.lc abh (aO rL) ?_
 clear rL
 rintro vr O' ⟨N,rfl,b,n,c,rfl,rfl⟩
 refine ay (bI _) (ae (bI _) (aS (aj (a7 (aR ?_)))))
 refine aF (vI (gJ vars e:Int)) results28 F ?_
 exact⟨[],Sub.z,F,F⟩
def u3 (e:List ei):Rx:=iZ e e.length (e.length-1)
noncomputable def nw (v:Nat) (e:List ei):Lg:=if e.any jj=true then Yn v (u3 e)else fM (u3 e)
def AF (v:Nat) (e:List ei) (B:Nat):Prop:=if e.any jj=true then okC v (u3 e) B else kZ v (u3 e) B
theorem nG {vars:Int} {e:List ei} (h:gJ vars e=0):0≤vars∧vars≤6∧0<e.length∧e.length≤64∧ ∃fs,j7 vars.toNat e=.ok fs∧fs.getD (e.length-1) 0=0∧lR e e.length (e.length-1) true=true:=by
 unfold gJ at h
 split at h
 ·omega
 ·split at h
  ·omega
  ·split at h
   ·omega
   ·cases hb:j7 vars.toNat e with
    |error n=>simp only[hb]at h;exact absurd h (CJ hb)
    |ok fs=>
     simp only[hb]at h
     split at h
     ·omega
     ·split at h
      ·rename_i h1 h2 h3 h4 h5
       exact⟨by omega,by omega,by omega,by omega,fs,F,by omega,h5⟩
      ·omega
set_option maxRecDepth 20000 in
theorem M7 (base:World) [dQ prog base] (eb:Option Addr) (ec:Nat) (e:List ei) (hE:Sl base eb (bX e)) (qZ:e.length<4611686018427387904) (mh: ∀x∈e,x.p<256∧x.n<256) (vars f_:Int) (FV:e.any jj=true→e.length≤24) {K:Nat} (hK1:K<137438953472) (CI: ∀cb,WT cb eb e.length ec vars.toNat f_.toNat e)
  (hK:gJ vars e=0→e.any jj=true→okB vars.toNat (u3 e) f_.toNat→rN (jN vars.toNat (u3 e)) K):
  cx prog base 19 [.slice eb e.length ec,.int .i64 vars,.int .i64 f_] [] (FrR (gJ vars e) f_ (fun M=>fV vars f_.toNat M (nw vars.toNat e)∧AF vars.toNat e f_.toNat) (¬AF vars.toNat e f_.toNat)):=by
 refine Uv base eb e.length ec vars (gJ vars e) f_ _ _ (fun w1 _ hI=>IA w1 eb ec e (hI.sl hE) qZ mh vars) ?_
 intro h0 JX FW w8 _ cb hI e_
 obtain⟨h1,h2,h3,h4,fs,h5,h6,h7⟩:=nG h0
 obtain⟨v,rfl⟩: ∃v:Nat,vars=(v:Int):=⟨vars.toNat,by omega⟩
 obtain⟨B,rfl⟩: ∃B:Nat,f_=(B:Int):=⟨f_.toNat,by omega⟩
 simp only[Int.toNat_natCast]at*
 have Df:ve e (u3 e) (e.length-1):=lx h5 mh e.length (e.length-1) (by omega) (by omega)
 by_cases hl:e.any jj=true
 ·have hw:(u3 e).wf=true:=(qz h5 e.length (e.length-1) (by omega) (by omega)).2 h7
  have Kz:(u3 e).lv≤12:=by
   have:=x4 h5 e.length (e.length-1) (by omega) (by omega)
   have:=FV hl
   unfold u3;omega
  refine(Ou w8 cb eb e.length ec v B e_ (by omega) (by omega) (by omega) e (hI.sl hE) F h3 h4 (u3 e) Df (CI cb) hl hw Kz hK1 (fun ho=>Cn (by omega) (by omega) hw Kz ho) (fun ho=>hK h0 hl ho)).mono ?_ ?_
  ·rintro r O' ⟨M,k,rfl,rfl,hM,hO⟩
   exact⟨M,k,F,F,by unfold nw;rw[aB hl];exact hM,by unfold AF;rw[aB hl];exact hO⟩
  ·intro hz;unfold AF;rw[aB hl];exact hz
 ·have uf:e.any jj=false:=by simpa using hl
  have hp:(u3 e).plain=true:=oy h5 (fun x hx=>by
   have:=List.any_eq_false.1 uf x hx
   unfold jj at this
   simp only[Bool.or_eq_true,cj]at this
   omega) e.length (e.length-1) (by omega) (by omega)
  refine(KC w8 cb eb e.length ec v B e_ (by omega) (by omega) (by omega) e (hI.sl hE) F h3 h4 (u3 e) Df (CI cb).pl uf hp).mono ?_ ?_
  ·rintro r O' ⟨M,k,rfl,rfl,hM,hO⟩
   exact⟨M,k,F,F,by unfold nw;rw[aq hl];exact hM,by unfold AF;rw[aq hl];exact hO⟩
  ·intro hz;unfold AF;rw[aq hl];exact hz
def FrU (E:Nat) (f_:Int) (G:c_→Prop) (Z:Prop) (D:c_) (er:Nat):Prop:=
 (E≠0∧er=E∧D=Do)∨(E=0∧ ¬(1≤f_∧f_≤4096)∧er=1∧D=Do)∨(E=0∧(1≤f_∧f_≤4096)∧((er=0∧G D)∨(er=10∧D=Do∧Z)))
theorem H8 {base:World} {eb:Option Addr} {ec E n:Nat} {vars f_:Int} {G:c_→Prop} {Z:Prop} (h:cx prog base 19 [.slice eb n ec,.int .i64 vars,.int .i64 f_] [] (FrR E f_ G Z)):
  cB prog 19 [.slice eb n ec,.int .i64 vars,.int .i64 f_] base fun v N=> ∃D k er,v=.tuple #[dV D k,.int .i64 ((er:Nat):Int)]∧N=[dI 56 4 3 D k]∧FrU E f_ G Z D er:=by
 refine(B4 56 4 3 h).post ?_
 rintro v O' ⟨O2,rfl,h⟩
 rcases h with⟨h1,rfl,rfl⟩|⟨h1,h2,rfl,rfl⟩|⟨h1,h2,⟨M,k,rfl,rfl,hG⟩|⟨rfl,rfl,hZ⟩⟩
 ·exact⟨_,Sub.rf,Do,YI,E,F,F,.inl ⟨h1,F,F⟩⟩
 ·exact⟨_,Sub.rf,Do,YI,1,F,F,.inr (.inl ⟨h1,h2,F,F⟩)⟩
 ·exact⟨_,cH [1],M,k,0,F,F,.inr (.inr ⟨h1,h2,.inl ⟨F,hG⟩⟩)⟩
 ·exact⟨_,Sub.rf,Do,YI,10,F,F,.inr (.inr ⟨h1,h2,.inr ⟨F,F,hZ⟩⟩)⟩
theorem UE (base:World) [dQ prog base] (eb:Option Addr) (ec:Nat) (e:List ei) (hE:Sl base eb (bX e)) (qZ:e.length<4611686018427387904) (mh: ∀x∈e,x.p<256∧x.n<256) (vars f_:Int) (FV:e.any jj=true→e.length≤24):
  cB prog 19 [.slice eb e.length ec,.int .i64 vars,.int .i64 f_] base fun v N=> ∃D k er,v=.tuple #[dV D k,.int .i64 ((er:Nat):Int)]∧N=[dI 56 4 3 D k]∧FrU (gJ vars e) f_ (fun M=>fV vars f_.toNat M (nw vars.toNat e)∧AF vars.toNat e f_.toNat) (¬AF vars.toNat e f_.toNat) D er:=by
 by_cases hb:1≤f_∧f_≤4096
 ·refine H8 (M7 base eb ec e hE qZ mh vars f_ FV (K:=137438953471) (by omega) (fun _=>WT.of F) fun h0 hl ho=>?_)
  obtain⟨h1,h2,h3,h4,fs,h5,h6,h7⟩:=nG h0
  have h8:=x7 h5 e.length (e.length-1) (by omega) (by omega)
  have h9:=FV hl
  exact SG (B:=f_.toNat) (by omega) (by omega) ((qz h5 e.length (e.length-1) (by omega) (by omega)).2 h7) ho (by show(iZ e e.length (e.length-1)).sz≤24;omega)
 ·refine(H8 (Uv base eb e.length ec vars (gJ vars e) f_ _ _ (fun w1 _ hI=>IA w1 eb ec e (hI.sl hE) qZ mh vars) fun h0 JX FW=>absurd ⟨JX,FW⟩ hb))
theorem Hc (e:List ei):((bX e).all fS)=true:=by
 rw[fp]
 intro v hv
 obtain⟨p,_,hv⟩:=List.mem_flatMap.1 hv
 simp only[ei.cells,dt,List.not_mem_nil,or_false]at hv
 rcases hv with rfl|rfl|rfl|rfl|rfl<;>rfl
theorem abi (w:World) [dQ prog w] (eb:Option Addr) (ec:Nat) (e:List ei) (hE:Sl w eb (bX e)) (qZ:e.length≤1000000):
  cB prog 20 [.slice eb e.length ec] w fun v N=> ∃b c,v=.slice b e.length c∧N=[az b c 72 5 (bX e)]:=by
 refine aA func20 F ntmps20 F ?_
 refine aQ (aj (a7 (ax (JY (l:=e.length) dX dX cR F F F (by decide) (Src.sl hE (by rw[cE])) (Hc e) (by omega) (by decide) (by decide) (fun z1 zc2=>?_)))))
 refine aj (cM ?_)
 refine aF (.slice z1 e.length zc2) results20 F ?_
 exact⟨_,_,F,F⟩
deriving instance DecidableEq for ei
theorem sv {P:Program} {d:Nat} {xs ys:Array Value} {f:Field} {fs:List Field} {a b:Value} {r r2:Bool} {w:World} (hn:f.name≠ "_") (he:P.plainKey f.type=true) (ha:xs[f.offset]? =some a) (hb:ys[f.offset]? =some b)
  (hr:(Op.equalIn d f.type a b).run P w=.ok r w) (h2:(Op.eqFields d xs ys fs).run P w=.ok r2 w):(Op.eqFields d xs ys (f::fs)).run P w=.ok (r&&r2) w:=by
 simp only[Op.eqFields,aB hn,Sem.run_bind,run_part_plain w he ha,run_part_plain w he hb,hr,Result.andThen_ok,Sem.run_ite]
 cases r<;>simp[h2]
theorem abW (x y:ei) (w:World):(Op.equalIn 10000 72 (.agg x.cells.toArray) (.agg y.cells.toArray)).run prog w=.ok (decide (x=y)) w:=by
 have hf:Tryz.prog.fieldsOf 72= #[⟨"Op",5,0,false, "", "",0⟩,⟨"Pos",5,1,false, "", "",1⟩,⟨"Neg",5,2,false, "", "",2⟩,⟨"A",3,3,false, "", "",8⟩,⟨"B",3,4,false, "", "",16⟩]:=by
  unfold Program.fieldsOf;rw[dz]
 rw[run_equalIn_agg w 9999 72 _ _ (by rw[hf];exact dz) (by kernel_rfl),hf]
 have hu8:Tryz.prog.underlying 5=some (.int .u8):=il
 have hi:Tryz.prog.underlying 3=some (.int .i64):=eO
 have p5:Tryz.prog.plainKey 5=true:=by unfold Program.plainKey;rw[hu8]
 have p3:Tryz.prog.plainKey 3=true:=by unfold Program.plainKey;rw[hi]
 have e5: ∀(u v:Int) w,(Op.equalIn 9999 5 (.int .u8 u) (.int .u8 v)).run prog w=.ok (u==v) w:=fun u v w=>run_equalIn_int w 9998 5 .u8 .u8 u v hu8
 have e3: ∀(u v:Int) w,(Op.equalIn 9999 3 (.int .i64 u) (.int .i64 v)).run prog w=.ok (u==v) w:=fun u v w=>run_equalIn_int w 9998 3 .i64 .i64 u v hi
 clear hf
 generalize 9999=q at e5 e3⊢
 obtain⟨o,p,n,a,b⟩:=x
 obtain⟨o2,p2,n2,a2,b2⟩:=y
 refine Eq.trans (sv (by simp) p5 F F (e5 _ _ w) (sv (by simp) p5 F F (e5 _ _ w) (sv (by simp) p5 F F (e5 _ _ w) (sv (by simp) p3 F F (e3 _ _ w) (sv (by simp) p3 F F (e3 _ _ w) F))))) ?_
 refine am (fun r=>Result.ok r w) ?_
 rw[dN];simp;omega
section
variable {base:World} {ρ:Env} {O:List Lx.Item} {dst:Option Nat} {t:TypeId} {p:String} {af:Array Edge} {g:Option (Nat×Bool)}
theorem EO {x y:Operand} {u v:ei} {U:TypeId} (hx:ev ρ x=.agg u.cells.toArray) (hy:ev ρ y=.agg v.cells.toArray):
  QT prog base ⟨dst,.binOp .neq 72 x y U,t,p,af,g⟩ ρ O (.bool (!decide (u=v))):=fun w _=>by
 have h:=abW u v w
 have hm:Tryz.prog.eqGuardType Tryz.prog.depth 72=false:=by kernel_rfl
 simp[execOp,hx,hy,run_eqGuard_agg w .neq 72 x y _ _ hm,run_neq_struct,h]
end
theorem Ia (w:World) [dQ prog w] (xb yb:Option Addr) (xc yc:Nat) (xs ys:List ei) (hX:Sl w xb (bX xs)) (hY:Sl w yb (bX ys)) (hb:xs.length<4611686018427387904):
  cB prog 15 [.slice xb xs.length xc,.slice yb ys.length yc] w fun v N=>v=.bool (decide (xs=ys))∧N=[]:=by
 refine aA func15 F ntmps15 F ?_
 refine aQ (aS (bq (ay (cL dX) (ay (cL dX) (aX d_ (aL F (fun hc=>?_) (fun hc=>?_)))))))
 ·have mu:xs.length≠ys.length:=by omega
  have iH:xs.length≠ys.length:=by omega
  refine aQ (aj (cM ?_))
  refine aF (.bool false) results15 F ?_
  exact⟨am Value.bool (a8 (fun e=>iH (by rw[e]))).symm,F⟩
 have w6: ¬xs.length≠ys.length:=by omega
 have iH:xs.length=ys.length:=by omega
 refine aE (br (aQ (aj (aK ?_))))
 refine dU (fun(k:Nat) ρ O=>O=[]∧k≤xs.length∧xs.take k=ys.take k∧dh [(0,(.slice xb xs.length xc)),(1,(.slice yb ys.length yc)),(5,vN k)] ρ) (fun k=>xs.length-k) 0 ?_ ?_
 ·exact⟨F,bj _,F,⟨F,F,F,trivial⟩⟩
 rintro k ρ O ⟨rfl,hk,he,hH⟩
 obtain⟨gv,rfl⟩:=hH.elim
 clear hH
 refine br (a7 (ay (cL dX) (aX cV (aL F (fun hc=>?_) (fun hc=>?_)))))
 ·have oL:k<xs.length:=by omega
  have gQ:k<xs.length:=by omega
  have mH:k<ys.length:=by omega
  refine aE (br (aK (br ?_)))
  refine fW [(0,0),(1,0),(2,0),(3,0),(4,0),(5,0),(6,0),(7,0),(8,0)] ?_
  refine ap F aw (ap F aw (ap F (eF (i:=k) dX cR F F (a6 hX) gQ (by rw[cE];omega)) (ap F (fy (xs[k].cl) dz F cR F F (bK _) (a6 hX) (gk (ak gQ))) ?_)))
  refine ap F aw (ap F aw (ap F (eF (i:=k) dX cR F F (a6 hY) mH (by rw[cE];omega)) (ap F (fy (ys[k].cl) dz F cR F F (bK _) (a6 hY) (gk (ak mH))) ?_)))
  refine ap F (EO (u:=xs[k]) (v:=ys[k]) F F) ?_
  refine cy ?_
  refine T.cond F (fun hc=>?_) (fun hc=>?_)
  ·refine br ?_
   refine a_ (aj (cM ?_))
   refine aF (.bool false) results15 F ?_
   exact⟨am Value.bool (a8 (fun e=>(by simp at hc;exact hc:xs[k]≠ys[k]) (by subst e;rfl))).symm,F⟩
  refine aE (a_ (ay (dj (b:=1) k F F (by omega)) (aj ?_)))
  refine⟨k+1,by omega,F,by omega,?_,⟨F,F,F,trivial⟩⟩
  rw[aC gQ,aC mH,he]
  exact am _ (am (fun z=>[z]) (by simpa using hc))
 have pk: ¬k<xs.length:=by omega
 refine cD ?_
 refine aQ (aj (cM ?_))
 refine aF (.bool true) results15 F ?_
 exact⟨am Value.bool (aZ (show xs=ys by rw[bt (by omega),bt (by omega)]at he;exact he)).symm,F⟩
theorem Q6 (w:World) [dQ prog w] (xb yb:Option Addr) (xc yc:Nat) (xs ys:List ei) (hX:Sl w xb (bX xs)) (hY:Sl w yb (bX ys)) (hb:xs.length<4611686018427387904):
  cB prog 67 [.slice xb xs.length xc,.slice yb ys.length yc] w fun v N=>v=.bool (decide (xs=ys))∧N=[]:=by
 refine aA func67 F ntmps67 F ?_
 refine aQ (aS (bq (ay (cL dX) (ay (cL dX) (aX d_ (aL F (fun hc=>?_) (fun hc=>?_)))))))
 ·have mu:xs.length≠ys.length:=by omega
  have iH:xs.length≠ys.length:=by omega
  refine aQ (aj (cM ?_))
  refine aF (.bool false) results67 F ?_
  exact⟨am Value.bool (a8 (fun e=>iH (by rw[e]))).symm,F⟩
 have w6: ¬xs.length≠ys.length:=by omega
 have iH:xs.length=ys.length:=by omega
 refine aE (br (bo (cL dX) (bH (aK ?_))))
 refine dU (fun(k:Nat) ρ O=>O=[]∧k≤xs.length∧xs.take k=ys.take k∧dh [(0,(.slice xb xs.length xc)),(1,(.slice yb ys.length yc)),(12,vI (xs.length:Int)),(13,vN k)] ρ) (fun k=>xs.length-k) 0 ?_ ?_
 ·exact⟨F,bj _,F,⟨F,F,F,F,trivial⟩⟩
 rintro k ρ O ⟨rfl,hk,he,hH⟩
 obtain⟨gv,rfl⟩:=hH.elim
 clear hH
 refine aG cV (dJ (aL F (fun hc=>?_) (fun hc=>?_)))
 ·have oL:k<xs.length:=by omega
  have gQ:k<xs.length:=by omega
  have mH:k<ys.length:=by omega
  refine aE (br (aK (a7 (aj (br ?_)))))
  refine fW [(0,0),(1,0),(2,0),(3,0),(4,0),(5,0),(6,0),(7,0),(8,0)] ?_
  refine ap F aw (ap F aw (ap F (eF (i:=k) dX cR F F (a6 hX) gQ (by rw[cE];omega)) (ap F (fy (xs[k].cl) dz F cR F F (bK _) (a6 hX) (gk (ak gQ))) ?_)))
  refine ap F aw (ap F aw (ap F (eF (i:=k) dX cR F F (a6 hY) mH (by rw[cE];omega)) (ap F (fy (ys[k].cl) dz F cR F F (bK _) (a6 hY) (gk (ak mH))) ?_)))
  refine ap F (EO (u:=xs[k]) (v:=ys[k]) F F) ?_
  refine cy ?_
  refine T.cond F (fun hc=>?_) (fun hc=>?_)
  ·refine br ?_
   refine a_ (aj (cM ?_))
   refine aF (.bool false) results67 F ?_
   exact⟨am Value.bool (a8 (fun e=>(by simp at hc;exact hc:xs[k]≠ys[k]) (by subst e;rfl))).symm,F⟩
  refine aE (a_ (ae (dj (b:=1) k F F (by omega)) (bH ?_)))
  refine⟨k+1,by omega,F,by omega,?_,⟨F,F,F,F,trivial⟩⟩
  rw[aC gQ,aC mH,he]
  exact am _ (am (fun z=>[z]) (by simpa using hc))
 have pk: ¬k<xs.length:=by omega
 refine cD ?_
 refine aQ (aj (cM ?_))
 refine aF (.bool true) results67 F ?_
 exact⟨am Value.bool (aZ (show xs=ys by rw[bt (by omega),bt (by omega)]at he;exact he)).symm,F⟩
theorem abX (w:World) [dQ prog w] (b:Option Addr) (n c:Nat):cB prog 18 [.slice b n c] w fun v N=>v=.bool (decide ((24:Int)<(n:Int)))∧N=[]:=by
 refine aA func18 F ntmps18 F ?_
 refine aQ (aj (bo (cL dX) (ae gT (aj (cM ?_)))))
 refine aF (.bool (decide ((n:Int)>24))) results18 F ?_
 exact⟨F,F⟩
theorem XF (w:World) [dQ prog w] {d e:c_} (j k:DK) (h1:At w d j) (h2:At w e k) (hde:d=e) (hb:e.next.length<9223372036854775807∧(∀r∈e.next,r.length<9223372036854775807)∧e.aT.length<9223372036854775807):cB prog 16 [dV d j,dV e k] w fun v N=>v=.bool true∧N=[]:=by
 subst hde
 exact JE w d j.nb k.nb j.fb k.fb j.nc k.nc j.fc k.fc (dO j.qs) (dO k.qs) h1 h2 hb.1 hb.2.1 hb.2.2
end Go.Proofs.YtgdbfideeeegmaaGreatDoor

namespace Go.Lx
open Go.RowKit Go.Proofs.YtgdbfideeeegmaaGreatDoor
def post:Rx→Nat→List ei
 | .none,_=>[⟨1,0,0,0,0⟩]
 | .empty,_=>[⟨2,0,0,0,0⟩]
 | .letter p n,_=>[⟨3,p,n,0,0⟩]
 | .iG a b,s=>post a s++(post b (s+a.sz)++[⟨4,0,0,((s+a.sz:Nat):Int)-1,((s+a.sz+b.sz:Nat):Int)-1⟩])
 | .iR a b,s=>post a s++(post b (s+a.sz)++[⟨5,0,0,((s+a.sz:Nat):Int)-1,((s+a.sz+b.sz:Nat):Int)-1⟩])
 | .and a b,s=>post a s++(post b (s+a.sz)++[⟨6,0,0,((s+a.sz:Nat):Int)-1,((s+a.sz+b.sz:Nat):Int)-1⟩])
 | .not a,s=>post a s++[⟨7,0,0,((s+a.sz:Nat):Int)-1,0⟩]
 | .star a,s=>post a s++[⟨8,0,0,((s+a.sz:Nat):Int)-1,0⟩]
 | .ahead a,s=>post a s++[⟨9,0,0,((s+a.sz:Nat):Int)-1,0⟩]
 | .behind a,s=>post a s++[⟨10,0,0,((s+a.sz:Nat):Int)-1,0⟩]
theorem ve.UH {e:List ei} {t:Rx} {i:Nat} (h:ve e t i): ∃x,e[i]? =some x∧x.op=t.op:=by
 cases t<;>first|exact⟨_,h,F⟩|exact⟨_,h.1,F⟩|(obtain⟨j,k,h,_,_⟩:=h;exact⟨_,h,F⟩)|(obtain⟨j,h,_⟩:=h;exact⟨_,h,F⟩)
theorem ve.tF {e:List ei} {t u:Rx} {i:Nat} (h:ve e t i) (h2:ve e u i):t.op=u.op:=by
 obtain⟨x,h3,h4⟩:=h.UH
 obtain⟨y,h5,h6⟩:=h2.UH
 rw[h3]at h5
 rw[←h4,←h6,dn h5]
theorem Ae {e:List ei}: ∀ {t u:Rx} {i:Nat},ve e t i→ve e u i→t=u:=by
 intro t
 induction t with
 |none=>
  intro u i h h2
  have e0:=h.tF h2
  cases u with
  |none=>rfl
  |_=>simp[Rx.op]at e0
 |empty=>
  intro u i h h2
  have e0:=h.tF h2
  cases u with
  |empty=>rfl
  |_=>simp[Rx.op]at e0
 |letter p n=>
  intro u i h h2
  have e0:=h.tF h2
  cases u with
  |letter p' n'=>
   obtain⟨_,e1,e2,_⟩:=ei.mk.inj (dn (h.1.symm.trans h2.1))
   rw[e1,e2]
  |_=>simp[Rx.op]at e0
 |iG a b ln mi=>
  intro u i h h2
  have e0:=h.tF h2
  cases u with
  |iG a' b'=>
   obtain⟨j,k,h,ha,hb⟩:=h
   obtain⟨j',k',h3,Gr,Am⟩:=h2
   obtain⟨_,_,_,e1,e2⟩:=ei.mk.inj (dn (h.symm.trans h3))
   obtain rfl:j=j':=by omega
   obtain rfl:k=k':=by omega
   rw[ln ha Gr,mi hb Am]
  |_=>simp[Rx.op]at e0
 |iR a b ln mi=>
  intro u i h h2
  have e0:=h.tF h2
  cases u with
  |iR a' b'=>
   obtain⟨j,k,h,ha,hb⟩:=h
   obtain⟨j',k',h3,Gr,Am⟩:=h2
   obtain⟨_,_,_,e1,e2⟩:=ei.mk.inj (dn (h.symm.trans h3))
   obtain rfl:j=j':=by omega
   obtain rfl:k=k':=by omega
   rw[ln ha Gr,mi hb Am]
  |_=>simp[Rx.op]at e0
 |and a b ln mi=>
  intro u i h h2
  have e0:=h.tF h2
  cases u with
  |and a' b'=>
   obtain⟨j,k,h,ha,hb⟩:=h
   obtain⟨j',k',h3,Gr,Am⟩:=h2
   obtain⟨_,_,_,e1,e2⟩:=ei.mk.inj (dn (h.symm.trans h3))
   obtain rfl:j=j':=by omega
   obtain rfl:k=k':=by omega
   rw[ln ha Gr,mi hb Am]
  |_=>simp[Rx.op]at e0
 |not a ln=>
  intro u i h h2
  have e0:=h.tF h2
  cases u with
  |not a'=>
   obtain⟨j,h,ha⟩:=h
   obtain⟨j',h3,Gr⟩:=h2
   obtain⟨_,_,_,e1,_⟩:=ei.mk.inj (dn (h.symm.trans h3))
   obtain rfl:j=j':=by omega
   rw[ln ha Gr]
  |_=>simp[Rx.op]at e0
 |star a ln=>
  intro u i h h2
  have e0:=h.tF h2
  cases u with
  |star a'=>
   obtain⟨j,h,ha⟩:=h
   obtain⟨j',h3,Gr⟩:=h2
   obtain⟨_,_,_,e1,_⟩:=ei.mk.inj (dn (h.symm.trans h3))
   obtain rfl:j=j':=by omega
   rw[ln ha Gr]
  |_=>simp[Rx.op]at e0
 |ahead a ln=>
  intro u i h h2
  have e0:=h.tF h2
  cases u with
  |ahead a'=>
   obtain⟨j,h,ha⟩:=h
   obtain⟨j',h3,Gr⟩:=h2
   obtain⟨_,_,_,e1,_⟩:=ei.mk.inj (dn (h.symm.trans h3))
   obtain rfl:j=j':=by omega
   rw[ln ha Gr]
  |_=>simp[Rx.op]at e0
 |behind a ln=>
  intro u i h h2
  have e0:=h.tF h2
  cases u with
  |behind a'=>
   obtain⟨j,h,ha⟩:=h
   obtain⟨j',h3,Gr⟩:=h2
   obtain⟨_,_,_,e1,_⟩:=ei.mk.inj (dn (h.symm.trans h3))
   obtain rfl:j=j':=by omega
   rw[ln ha Gr]
  |_=>simp[Rx.op]at e0
theorem nh {w:List Nat}: ∀ {t:Rx} (_:t.plain=true) {i j:Nat},sk w t i j=(decide (i≤j∧j≤w.length)&&fM t ((w.drop i).take (j-i)))
 | .iG a b,h,i,j=>by
  simp only[Rx.plain,ar]at h
  simp only[sk]
  rw[dN,df,ar,cj]
  show _↔_∧iV (fM a) (fM b) _=true
  rw[ir]
  constructor
  ·rintro⟨k,hk,h1⟩
   rw[ar,nh h.1,nh h.2,ar,ar,cj,cj]at h1
   obtain⟨⟨⟨c1,c2⟩,c3⟩,⟨c4,c5⟩,c6⟩:=h1
   refine⟨⟨by omega,c5⟩,_,_,?_,c3,c6⟩
   rw[show j-i=(k-i)+(j-k) by omega,List.take_add,List.drop_drop,show i+(k-i)=k by omega]
  ·rintro⟨⟨c1,c2⟩,x,y,e,h1,h2⟩
   have hl:x.length+y.length=j-i:=by
    have:=am List.length e
    rw[db,List.length_drop,aJ]at this
    omega
   refine⟨i+x.length,List.mem_range.2 (by omega),?_⟩
   have hx:(w.drop i).take x.length=x:=by
    have:=am (List.take x.length) e
    rwa[List.take_take,Nat.min_eq_left (by omega),List.take_left]at this
   have hy:(w.drop (i+x.length)).take y.length=y:=by
    have:=am (List.drop x.length) e
    rwa[List.drop_take,List.drop_drop,List.drop_left,show j-i-x.length=y.length by omega]at this
   rw[ar,nh h.1,nh h.2,ar,ar,cj,cj]
   exact⟨⟨⟨by omega,by omega⟩,by rw[show i+x.length-i=x.length by omega,hx];exact h1⟩,⟨by omega,c2⟩,by rw[show j-(i+x.length)=y.length by omega,hy];exact h2⟩
 | .iR a b,h,i,j=>by
  simp only[Rx.plain,ar]at h
  simp only[sk]
  rw[nh h.1,nh h.2]
  show _=(_&&(fM a _||fM b _))
  rw[Bool.and_or_distrib_left]
 | .none,_,_,_| .empty,_,_,_| .letter _ _,_,_,_| .and _ _,_,_,_| .not _,_,_,_| .star _,_,_,_=>rfl
 | .ahead a,h,_,_| .behind a,h,_,_=>absurd h (by simp[Rx.plain])
theorem PH {vars:Int} {B:Nat} {e:List ei} (hB:B≤4096) (h0:gJ vars e=0) (ho:AF vars.toNat e B) (FV:e.length≤24) {w:List Nat} (hw:iS vars w):nw vars.toNat e w=sk w (u3 e) 0 w.length:=by
 obtain⟨h1,h2,h3,h4,fs,h5,h6,h7⟩:=nG h0
 have JW:iS ((vars.toNat:Nat):Int) w:=by rw[cW h1];exact hw
 unfold nw
 unfold AF at ho
 by_cases hl:e.any jj=true
 ·rw[aB hl]at ho⊢
  refine Xt (by omega) hB ((qz h5 e.length (e.length-1) (by omega) (by omega)).2 h7) ?_ ho.1 JW
  have:=x4 h5 e.length (e.length-1) (by omega) (by omega)
  show(iZ e e.length (e.length-1)).lv≤12
  omega
 ·rw[aq hl]
  have hp:(u3 e).plain=true:=oy h5 (fun x hx=>by
   have:=List.any_eq_false.1 (show e.any jj=false by simpa using hl) x hx
   unfold jj at this
   simp only[Bool.or_eq_true,cj]at this
   omega) e.length (e.length-1) (by omega) (by omega)
  rw[nh hp,aZ ⟨bj _,aI _⟩]
  simp
def jO (lo hi:Nat) (p:Nat→Bool):Bool:=(List.range (hi+1-lo)).any fun k=>p (lo+k)
theorem jM {lo hi:Nat} {p:Nat→Bool}:jO lo hi p=true↔ ∃k,lo≤k∧k≤hi∧p k=true:=by
 unfold jO
 rw[df]
 constructor
 ·rintro⟨k,hk,h⟩;have:=List.mem_range.1 hk;exact⟨lo+k,by omega,by omega,h⟩
 ·rintro⟨k,h1,h2,h3⟩;exact⟨k-lo,List.mem_range.2 (by omega),by rw[show lo+(k-lo)=k by omega];exact h3⟩
theorem nj {lo hi:Nat} {p:Nat→Bool} (h:hi<lo):jO lo hi p=false:=by
 unfold jO;rw[show hi+1-lo=0 by omega];rfl
theorem nU {lo hi:Nat} {p:Nat→Bool} (h:lo≤hi):jO lo hi p=(p lo||jO (lo+1) hi p):=by
 rw[dN,Bool.or_eq_true,jM,jM]
 constructor
 ·rintro⟨k,h1,h2,h3⟩
  rcases Nat.lt_or_ge lo k with c|c
  ·exact .inr ⟨k,c,h2,h3⟩
  ·have:k=lo:=by omega
   subst this;exact .inl h3
 ·rintro(h1|⟨k,h1,h2,h3⟩)
  ·exact⟨lo,aI _,h,h1⟩
  ·exact⟨k,by omega,h2,h3⟩
theorem mK {lo hi:Nat} {p q:Nat→Bool} (h: ∀k,lo≤k→k≤hi→p k=q k):jO lo hi p=jO lo hi q:=by
 rw[dN,jM,jM]
 exact⟨fun⟨k,h1,h2,h3⟩=>⟨k,h1,h2,by rw[←h k h1 h2];exact h3⟩,fun⟨k,h1,h2,h3⟩=>⟨k,h1,h2,by rw[h k h1 h2];exact h3⟩⟩
def YF (A:Nat→Nat→Bool):Nat→Nat→Nat→Bool
 |0,i,j=>decide (i=j)
 |f+1,i,j=>decide (i=j)||jO (i+1) j fun k=>A i k&&YF A f k j
def oK (w:List Nat):Rx→Nat→Nat→Bool
 | .none,_,_=>false
 | .empty,i,j=>decide (i=j)
 | .letter p n,i,j=>decide (j=i+1)&&gl p n (w.getD i 0)
 | .iG a b,i,j=>jO i j fun k=>oK w a i k&&oK w b k j
 | .iR a b,i,j=>oK w a i j||oK w b i j
 | .and a b,i,j=>oK w a i j&&oK w b i j
 | .not a,i,j=>!oK w a i j
 | .star a,i,j=>YF (oK w a) (j-i) i j
 | .ahead a,i,j=>decide (i=j)&&jO i w.length fun k=>oK w a i k
 | .behind a,i,j=>decide (i=j)&&jO 0 i fun k=>oK w a k i
theorem Af {A:Nat→Nat→Bool}: ∀(f g:Nat) {i j:Nat},j-i≤f→j-i≤g→YF A f i j=YF A g i j
 |0,0,_,_,_,_=>rfl
 |0,g+1,i,j,hf,_=>by
  show decide (i=j)=(decide (i=j)||_)
  rw[nj (by omega),Bool.or_false]
 |f+1,0,i,j,_,hg=>by
  show(decide (i=j)||_)=decide (i=j)
  rw[nj (by omega),Bool.or_false]
 |f+1,g+1,i,j,hf,hg=>by
  show(decide (i=j)||_)=(decide (i=j)||_)
  rw[mK fun k h1 h2=>by rw[Af f g (by omega) (by omega)]]
theorem Jq {w:List Nat} {a:Rx} {i j:Nat}:oK w (.star a) i j=(decide (i=j)||jO (i+1) j fun k=>oK w a i k&&oK w (.star a) k j):=by
 show YF _ _ _ _=_
 rw[Af (j-i) (j-i+1) (aI _) (by omega)]
 show(decide (i=j)||_)=_
 congr 1
 exact mK fun k h1 h2=>by
  show(_&&_)=(_&&YF _ _ _ _)
  rw[Af (j-i) (j-k) (by omega) (aI _)]
def jd (w:List Nat) (i j:Nat):List Nat:=(w.drop i).take (j-i)
theorem nV {w:List Nat} {i j:Nat} (hi:i≤j) (hj:j≤w.length):(jd w i j).length=j-i:=by unfold jd;rw[db,List.length_drop];omega
theorem pW {w:List Nat} {i k j:Nat} (h1:i≤k) (h2:k≤j):jd w i j=jd w i k++jd w k j:=by
 unfold jd
 rw[show j-i=(k-i)+(j-k) by omega,List.take_add,List.drop_drop,show i+(k-i)=k by omega]
theorem o6 {w:List Nat} {i j:Nat} (hi:i≤j) (hj:j≤w.length) {x y:List Nat} (h:jd w i j=x++y):i+x.length≤j∧x=jd w i (i+x.length)∧y=jd w (i+x.length) j:=by
 have hl:=am List.length h
 rw[nV hi hj,aJ]at hl
 have h2:=pW (w:=w) (i:=i) (k:=i+x.length) (j:=j) (by omega) (by omega)
 rw[h2]at h
 have:=List.append_inj h (by rw[nV (by omega) (by omega)];omega)
 exact⟨by omega,this.1.symm,this.2.symm⟩
theorem iF {w:List Nat}: ∀ {t:Rx} (_:t.plain=true) {i j:Nat} (_:i≤j) (_:j≤w.length),oK w t i j=fM t (jd w i j)
 | .none,_,_,_,_,_=>rfl
 | .empty,_,i,j,hi,hj=>by
  show decide (i=j)=((jd w i j).length==0&&(jd w i j).all (gl 0 0))
  have hl:=nV hi hj
  rw[hl]
  by_cases e:i=j
  ·subst e
   have:jd w i i=[]:=List.eq_nil_of_length_eq_zero (by rw[hl];omega)
   rw[this];simp
  ·rw[a8 e,show(j-i==0)=false by rw[beq_eq_false_iff_ne];omega];rfl
 | .letter p n,_,i,j,hi,hj=>by
  show(decide (j=i+1)&&gl p n (w.getD i 0))=((jd w i j).length==1&&(jd w i j).all (gl p n))
  have hl:=nV hi hj
  rw[hl]
  by_cases e:j=i+1
  ·subst e
   have:jd w i (i+1)=[w.getD i 0]:=by
    unfold jd
    rw[show i+1-i=1 by omega,List.drop_eq_getElem_cons (by omega),au,ak (by omega)];rfl
   rw[this,show i+1-i=1 by omega];simp
  ·rw[a8 e,show(j-i==1)=false by rw[beq_eq_false_iff_ne];omega];rfl
 | .iG a b,h,i,j,hi,hj=>by
  simp only[Rx.plain,ar]at h
  show jO i j _=iV (fM a) (fM b) _
  rw[dN,jM,ir]
  constructor
  ·rintro⟨k,h1,h2,h3⟩
   rw[ar,iF h.1 h1 (by omega),iF h.2 h2 hj]at h3
   exact⟨_,_,pW h1 h2,h3.1,h3.2⟩
  ·rintro⟨x,y,e,h1,h2⟩
   obtain⟨k1,k2,k3⟩:=o6 hi hj e
   refine⟨i+x.length,by omega,k1,?_⟩
   rw[ar,iF h.1 (by omega) (by omega),iF h.2 k1 hj,←k2,←k3]
   exact⟨h1,h2⟩
 | .iR a b,h,i,j,hi,hj=>by
  simp only[Rx.plain,ar]at h
  show(oK w a i j||oK w b i j)=(fM a _||fM b _)
  rw[iF h.1 hi hj,iF h.2 hi hj]
 | .and a b,h,i,j,hi,hj=>by
  simp only[Rx.plain,ar]at h
  show(oK w a i j&&oK w b i j)=(fM a _&&fM b _)
  rw[iF h.1 hi hj,iF h.2 hi hj]
 | .not a,h,i,j,hi,hj=>by
  show(!oK w a i j)=!fM a _
  rw[iF (t:=a) h hi hj]
 | .star a,h,i,j,hi,hj=>by
  have hs: ∀(n i:Nat),j-i=n→i≤j→(oK w (.star a) i j=true↔jh (fM a) (jd w i j)):=by
   intro n
   induction n using Nat.strongRecOn with
   |ind n ih=>
    intro i hn hi
    rw[Jq,Bool.or_eq_true,cj,jM]
    constructor
    ·rintro(e|⟨k,h1,h2,h3⟩)
     ·subst e
      have:jd w i i=[]:=List.eq_nil_of_length_eq_zero (by rw[nV hi hj];omega)
      rw[this];exact .nil
     ·rw[ar,iF (t:=a) h (by omega) (by omega)]at h3
      rw[pW (k:=k) (by omega) h2]
      exact .tP h3.1 ((ih (j-k) (by omega) k F h2).1 h3.2)
    ·intro hs
     by_cases e:i=j
     ·exact .inl e
     ·refine .inr ?_
      have key: ∀ {u:List Nat},jh (fM a) u→u≠ []→ ∃x y,u=x++y∧x≠ []∧fM a x=true∧jh (fM a) y:=fun {u} hu=>by
       induction hu with
       |nil=>exact fun h=>absurd F h
       | @tP x y h1 h2 ih2=>
        intro qm
        by_cases hx:x=[]
        ·subst hx;exact ih2 (by simpa using qm)
        ·exact⟨x,y,F,hx,h1,h2⟩
      obtain⟨x,y,e2,hx,h1,h2⟩:=key hs (fun e3=>by have:=nV hi hj;rw[e3]at this;simp at this;omega)
      obtain⟨k1,k2,k3⟩:=o6 hi hj e2
      have hl:0<x.length:=List.length_pos_iff.2 hx
      refine⟨i+x.length,by omega,k1,?_⟩
      rw[ar,iF (t:=a) h (by omega) (by omega),←k2]
      exact⟨h1,(ih (j-(i+x.length)) (by omega) _ F k1).2 (by rw[←k3];exact h2)⟩
  show _=rM (fM a) _
  rw[dN,hs (j-i) i F hi,sK]
 | .ahead a,h,_,_,_,_| .behind a,h,_,_,_,_=>absurd h (by simp[Rx.plain])
theorem aco {w:List Nat}: ∀ {t:Rx} (_:t.wf=true) {i j:Nat} (_:i≤j) (_:j≤w.length),oK w t i j=sk w t i j:=by
 have pl: ∀ {t:Rx},t.plain=true→ ∀ {i j:Nat},i≤j→j≤w.length→oK w t i j=sk w t i j:=fun {t} h {i j} hi hj=>by
  rw[nh h,iF h hi hj,aZ ⟨hi,hj⟩];rfl
 have bd: ∀ {t:Rx} {i j:Nat},sk w t i j=true→i≤j∧j≤w.length:=fun {t}=>by
  induction t with
  |iG a b ln mi=>
   intro i j h
   simp only[sk]at h
   obtain⟨k,_,hk⟩:=List.any_eq_true.1 h
   rw[ar]at hk
   have:=ln hk.1;have:=mi hk.2
   omega
  |iR a b ln mi=>
   intro i j h
   simp only[sk]at h
   rw[Bool.or_eq_true]at h
   exact h.elim ln mi
  |ahead a _=>
   intro i j h
   simp only[sk]at h
   rw[ar,cj]at h
   omega
  |behind a _=>
   intro i j h
   simp only[sk]at h
   rw[ar,cj]at h
   omega
  |none|empty|letter|and|not|star=>
   intro i j h
   simp only[sk]at h
   rw[ar,cj]at h
   exact h.1
 intro t
 induction t with
 |iG a b ln mi=>
  intro hw i j hi hj
  simp only[Rx.wf,ar]at hw
  show jO i j _=List.any _ _
  rw[dN,jM,df]
  constructor
  ·rintro⟨k,h1,h2,h3⟩
   rw[ln hw.1 h1 (by omega),mi hw.2 h2 hj]at h3
   exact⟨k,List.mem_range.2 (by omega),h3⟩
  ·rintro⟨k,hk,h3⟩
   have h4:=h3
   rw[ar]at h4
   have h1:=(bd h4.1).1
   have h2:=(bd h4.2).1
   refine⟨k,h1,h2,?_⟩
   rw[ln hw.1 h1 (by omega),mi hw.2 h2 hj];exact h3
 |iR a b ln mi=>
  intro hw i j hi hj
  simp only[Rx.wf,ar]at hw
  show(oK w a i j||oK w b i j)=(sk w a i j||sk w b i j)
  rw[ln hw.1 hi hj,mi hw.2 hi hj]
 |ahead a _=>
  intro hw i j hi hj
  have hw:a.plain=true:=hw
  show(decide (i=j)&&jO i w.length _)=(decide (i=j∧i≤w.length)&&iV _ _ _)
  rw[dN,ar,ar,cj,cj,jM,ir]
  have hd:w.drop i=jd w i w.length:=by unfold jd;rw[bt (by simp)]
  rw[hd]
  constructor
  ·rintro⟨h0,k,h1,h2,h3⟩
   rw[iF hw h1 h2]at h3
   exact⟨⟨h0,by omega⟩,_,_,pW h1 h2,h3,F⟩
  ·rintro⟨⟨h0,h1⟩,x,y,e,h2,_⟩
   obtain⟨k1,k2,_⟩:=o6 h1 (aI _) e
   exact⟨h0,i+x.length,by omega,k1,by rw[iF hw (by omega) k1,←k2];exact h2⟩
 |behind a _=>
  intro hw i j hi hj
  have hw:a.plain=true:=hw
  show(decide (i=j)&&jO 0 i _)=(decide (i=j∧i≤w.length)&&iV _ _ _)
  rw[dN,ar,ar,cj,cj,jM,ir]
  have hd:w.take i=jd w 0 i:=by unfold jd;rw[List.drop_zero,Nat.sub_zero]
  rw[hd]
  constructor
  ·rintro⟨h0,k,h1,h2,h3⟩
   rw[iF hw h2 (by omega)]at h3
   exact⟨⟨h0,by omega⟩,_,_,pW h1 h2,F,h3⟩
  ·rintro⟨⟨h0,h1⟩,x,y,e,_,h2⟩
   obtain⟨k1,k2,k3⟩:=o6 (bj _) h1 e
   exact⟨h0,0+x.length,by omega,k1,by rw[iF hw k1 (by omega),←k3];exact h2⟩
 |none=>exact fun hw {i j} hi hj=>pl (t:=.none) hw hi hj
 |empty=>exact fun hw {i j} hi hj=>pl (t:=.empty) hw hi hj
 |letter p n=>exact fun hw {i j} hi hj=>pl (t:=.letter p n) hw hi hj
 |and a b _ _=>exact fun hw {i j} hi hj=>pl (t:=.and a b) hw hi hj
 |not a _=>exact fun hw {i j} hi hj=>pl (t:=.not a) hw hi hj
 |star a _=>exact fun hw {i j} hi hj=>pl (t:=.star a) hw hi hj
theorem Ah {E:TypeId}: ∀ {qs:List kw} {c:Nat} (h:c<qs.length),(js E qs).Perm (qs[c].qW E::js E (qs.eraseIdx c))
 |q::qs,0,_=>by simp
 |q::qs,c+1,h=>by
  have ih:=Ah (E:=E) (qs:=qs) (c:=c) (by simpa using h)
  simp only[js,cJ,List.eraseIdx_cons_succ,List.getElem_cons_succ]at ih⊢
  exact(ih.cons _).trans (List.Perm.swap _ _ _)
theorem SU {E:TypeId} {qs:List kw} {c:Nat} (h:c<qs.length) {X:List Item}:az qs[c].b qs[c].c E 1 (cO qs[c].xs)∈X++js E qs:=ah _ (List.mem_map.2 ⟨qs[c],av h,F⟩)
theorem iQ {qs:List kw} {c:Nat} (h:c<qs.length):(jy qs)[c]? =some (.slice qs[c].b qs[c].xs.length qs[c].c):=by simp[h,kw.val]
theorem Hy {qs:List kw} {c:Nat} (h:c<qs.length) {xs:List Bool} (hl:xs.length=qs[c].xs.length):jy (qs.set c ⟨qs[c].b,qs[c].c,xs⟩)=jy qs:=by
 apply List.ext_getElem?
 intro i
 rw[bl,bl,List.getElem?_set]
 split
 ·rename_i e;subst e
  rw[ak h]
  show some (Value.slice qs[c].b xs.length qs[c].c)=some (Value.slice qs[c].b qs[c].xs.length qs[c].c)
  rw[hl]
 ·rfl
def gB (qs:List kw) (a b:Nat):Bool:=(qs[a]?.map kw.xs|>.getD []).getD b false
structure QG (n:Nat) (qs:List kw):Prop where
 len:qs.length=n
 row: ∀q∈qs,q.xs.length=n
theorem acp {qs:List kw} {a b:Nat} (ha:a<qs.length) (hb:b<qs[a].xs.length):gB qs a b=qs[a].xs[b]:=by
 unfold gB
 rw[ak ha]
 show qs[a].xs.getD b false=_
 rw[au,ak hb];rfl
theorem j8 {qs:List kw} {a b:Nat} (ha:a<qs.length) (hb:b<qs[a].xs.length):(cO qs[a].xs)[b]? =some (.bool (gB qs a b)):=by
 rw[acp ha hb,bl,ak hb];rfl
theorem XU {qs:List kw} {i j:Nat} (hi:i<qs.length) (hj:j<qs[i].xs.length) (v:Bool) (a b:Nat):gB (qs.set i ⟨qs[i].b,qs[i].c,qs[i].xs.set j v⟩) a b=if a=i∧b=j then v else gB qs a b:=by
 unfold gB
 rw[List.getElem?_set]
 by_cases ha:a=i
 ·subst ha
  rw[aB F,aB hi,ak hi]
  show(qs[a].xs.set j v).getD b false=if a=a∧b=j then v else qs[a].xs.getD b false
  rw[au,List.getElem?_set,au]
  by_cases hb:b=j
  ·subst hb;rw[aB F,aB hj,aB ⟨F,F⟩];rfl
  ·rw[aq (fun e=>hb e.symm),aq (fun e=>hb e.2)]
 ·rw[aq (fun e=>ha e.symm),aq (fun e=>ha e.1)]
theorem QG.set {n:Nat} {qs:List kw} (h:QG n qs) {i:Nat} (hi:i<qs.length) {xs:List Bool} (hl:xs.length=n):QG n (qs.set i ⟨qs[i].b,qs[i].c,xs⟩):=
 ⟨by rw[eI];exact h.len,fun q hq=>by
  rcases List.mem_or_eq_of_mem_set hq with hq|rfl
  ·exact h.row q hq
  ·exact hl⟩
structure TR where
 b:Option Addr
 c:Nat
 qs:List kw
def TR.val (t:TR):Value:=.slice t.b t.qs.length t.c
abbrev jt (ts:List TR):List Value:=ts.map TR.val
def TR.cw (L E:TypeId) (t:TR):List Item:=az t.b t.c L 1 (jy t.qs)::js E t.qs
def lS (L E:TypeId) (ts:List TR):List Item:=ts.flatMap (TR.cw L E)
def FB (w:World) (t:TR):Prop:=Sl w t.b (jy t.qs)∧ ∀q∈t.qs,Sl w q.b (cO q.xs)
theorem FB.of {base w:World} {O:List Item} {t:TR} {L E:TypeId} (hI:Inv base O w) (h: ∀it∈t.cw L E,it∈O):FB w t:=
 ⟨hI.ij (h _ List.mem_cons_self),fun q hq=>hI.ij (T:=E) (c:=q.c) (k:=1) (h _ (List.mem_cons_of_mem _ (List.mem_map.2 ⟨q,hq,F⟩)))⟩
theorem Le {L E:TypeId} (ts:List TR) (t:TR):lS L E (ts++[t])=lS L E ts++t.cw L E:=by simp[lS]
theorem FC {L E:TypeId} {ts:List TR} {t:TR} (h:t∈ts): ∀it∈t.cw L E,it∈lS L E ts:=fun it hi=>List.mem_flatMap.2 ⟨t,h,hi⟩
def kT (w:List Nat) (x:ei) (A B T:Nat→Nat→Bool) (i j:Nat):Bool:=
 if x.op=2 then decide (i=j)else if x.op=3 then decide (j=i+1)&&gl x.p x.n (w.getD i 0)
 else if x.op=4 then jO i j fun k=>A i k&&B k j else if x.op=5 then A i j||B i j else if x.op=6 then A i j&&B i j
 else if x.op=7 then !A i j else if x.op=8 then decide (i=j)||jO (i+1) j fun k=>A i k&&T k j
 else if x.op=9 then decide (i=j)&&jO i w.length fun k=>A i k else if x.op=10 then decide (i=j)&&jO 0 i fun k=>A k i else false
def XV (n:Nat) (t:TR) (M:Nat→Nat→Bool):Prop:=QG n t.qs∧ ∀a b,a≤b→b<n→gB t.qs a b=M a b
def UI (e:List ei) (k:Nat):Rx:=iZ e e.length k
theorem SV {e:List ei} {u:List Nat} {x:ei} {k:Nat} (hx:e[k]? =some x) {A B T:Nat→Nat→Bool} {t:Rx} (h:ve e t k)
  (hA: ∀(ta:Rx) (ja:Nat),ve e ta ja→x.a=(ja:Int)→4≤x.op→ ∀i j,i≤j→j≤u.length→A i j=oK u ta i j)
  (hB: ∀(tb:Rx) (jb:Nat),ve e tb jb→x.b=(jb:Int)→(x.op=4∨x.op=5∨x.op=6)→ ∀i j,i≤j→j≤u.length→B i j=oK u tb i j)
  {i j:Nat} (F3:i≤j) (hj:j≤u.length) (hT: ∀k,i<k→k≤j→T k j=oK u t k j):kT u x A B T i j=oK u t i j:=by
 have inj: ∀ {y:ei},e[k]? =some y→x=y:=fun h=>dn (hx.symm.trans h)
 cases t with
 |none=>obtain rfl:=inj h;rfl
 |empty=>obtain rfl:=inj h;rfl
 |letter p n=>obtain rfl:=inj h.1;rfl
 |iG a b=>
  obtain⟨ja,jb,h1,h2,h3⟩:=h
  obtain rfl:=inj h1
  show(jO i j fun k=>A i k&&B k j)=jO i j fun k=>oK u a i k&&oK u b k j
  exact mK fun k h4 h5=>by rw[hA a ja h2 F (aI 4) i k h4 (by omega),hB b jb h3 F (.inl F) k j h5 hj]
 |iR a b=>
  obtain⟨ja,jb,h1,h2,h3⟩:=h
  obtain rfl:=inj h1
  show(A i j||B i j)=(oK u a i j||oK u b i j)
  rw[hA a ja h2 F (by show 4≤5;decide) i j F3 hj,hB b jb h3 F (.inr (.inl F)) i j F3 hj]
 |and a b=>
  obtain⟨ja,jb,h1,h2,h3⟩:=h
  obtain rfl:=inj h1
  show(A i j&&B i j)=(oK u a i j&&oK u b i j)
  rw[hA a ja h2 F (by show 4≤6;decide) i j F3 hj,hB b jb h3 F (.inr (.inr F)) i j F3 hj]
 |not a=>
  obtain⟨ja,h1,h2⟩:=h
  obtain rfl:=inj h1
  show(!A i j)=!oK u a i j
  rw[hA a ja h2 F (by show 4≤7;decide) i j F3 hj]
 |star a=>
  obtain⟨ja,h1,h2⟩:=h
  obtain rfl:=inj h1
  rw[Jq]
  show(decide (i=j)||jO (i+1) j fun k=>A i k&&T k j)=_
  congr 1
  exact mK fun k h4 h5=>by rw[hA a ja h2 F (by show 4≤8;decide) i k (by omega) (by omega),hT k (by omega) h5]
 |ahead a=>
  obtain⟨ja,h1,h2⟩:=h
  obtain rfl:=inj h1
  show(decide (i=j)&&jO i u.length fun k=>A i k)=(decide (i=j)&&jO i u.length fun k=>oK u a i k)
  congr 1
  exact mK fun k h4 h5=>hA a ja h2 F (by show 4≤9;decide) i k h4 h5
 |behind a=>
  obtain⟨ja,h1,h2⟩:=h
  obtain rfl:=inj h1
  show(decide (i=j)&&jO 0 i fun k=>A k i)=(decide (i=j)&&jO 0 i fun k=>oK u a k i)
  congr 1
  exact mK fun k h4 h5=>hA a ja h2 F (by show 4≤10;decide) k i h5 (by omega)
structure PN (e:List ei):Prop where
 at_: ∀k,k<e.length→ve e (UI e k) k
 kid: ∀k (h:k<e.length),∃ja jb:Nat,e[k].a=(ja:Int)∧e[k].b=(jb:Int)∧(4≤e[k].op→ja<k)∧((e[k].op=4∨e[k].op=5∨e[k].op=6)→jb<k)
 byte: ∀x∈e,x.p<256∧x.n<256
theorem acq {vars:Int} {e:List ei} (h0:gJ vars e=0) (mh: ∀x∈e,x.p<256∧x.n<256):PN e:=by
 obtain⟨h1,h2,h3,h4,fs,h5,h6,h7⟩:=nG h0
 refine⟨fun k hk=>lx h5 mh e.length k hk hk,fun k hk=>?_,mh⟩
 obtain⟨g1,g2⟩:=pP h5 k hk
 obtain⟨s1,s2,s3,s4,s5⟩:=lM (qA h5 hk)
 have Yt: ∀o,o≤10→((1≤cX o↔4≤o)∧(2≤cX o↔(o=4∨o=5∨o=6))):=by decide
 obtain⟨c1,c2⟩:=Yt _ s2
 obtain⟨ja,ea,la⟩: ∃ja:Nat,e[k].a=(ja:Int)∧(4≤e[k].op→ja<k):=by
  by_cases c:1≤cX e[k].op
  ·obtain⟨j,hj,hl⟩:=g1 c
   exact⟨j,hj,fun _=>hl⟩
  ·exact⟨0,s4 (by omega),fun h=>absurd (c1.2 h) c⟩
 obtain⟨jb,eb,lb⟩: ∃jb:Nat,e[k].b=(jb:Int)∧((e[k].op=4∨e[k].op=5∨e[k].op=6)→jb<k):=by
  by_cases c:2≤cX e[k].op
  ·obtain⟨j,hj,hl⟩:=g2 c
   exact⟨j,hj,fun _=>hl⟩
  ·exact⟨0,s5 (by omega),fun h=>absurd (c2.2 h) c⟩
 exact⟨ja,jb,ea,eb,la,lb⟩
def Lh (e:List ei) (u:List Nat) (ts:List TR):Prop:= ∀(k:Nat) (t:TR),ts[k]? =some t→XV (u.length+1) t (oK u (UI e k))
theorem Lh.snoc {e:List ei} {u:List Nat} {ts:List TR} (h:Lh e u ts) {t:TR} (ht:XV (u.length+1) t (oK u (UI e ts.length))):Lh e u (ts++[t]):=fun k t2 h2=>by
 rcases Nat.lt_or_ge k ts.length with c|c
 ·rw[bG c]at h2;exact h k t2 h2
 ·rw[bZ c]at h2
  have:k=ts.length:=by
   rcases Nat.lt_or_ge (k-ts.length) 1 with d|d
   ·omega
   ·rw[cn (by simpa using d)]at h2;cases h2
  subst this
  rw[fX]at h2
  injection h2 with h2
  rw[←h2];exact ht
theorem SW {e:List ei} (hT:PN e) {u:List Nat} {ts:List TR} (ld:Lh e u ts) {k:Nat} (hk:k<e.length) {x:ei} (hx:e[k]? =some x) {ja jb:Nat} (ea:x.a=(ja:Int)) (eb:x.b=(jb:Int)) {TA TB:TR} (hA:4≤x.op→ts[ja]? =some TA) (hB:(x.op=4∨x.op=5∨x.op=6)→ts[jb]? =some TB)
  {T:Nat→Nat→Bool} {i j:Nat} (F3:i≤j) (hj:j≤u.length) (hO: ∀a,i<a→a≤j→T a j=oK u (UI e k) a j):kT u x (gB TA.qs) (gB TB.qs) T i j=oK u (UI e k) i j:=by
 refine SV hx (hT.at_ k hk) (fun ta ja2 Df e2 h4 a b h1 h2=>?_) (fun tb VY Df e2 h4 a b h1 h2=>?_) F3 hj hO
 ·have:ja2=ja:=by omega
  subst this
  rw[(ld _ _ (hA h4)).2 a b h1 (by omega),Ae Df (hT.at_ ja2 Df.lt)]
 ·have:VY=jb:=by omega
  subst this
  rw[(ld _ _ (hB h4)).2 a b h1 (by omega),Ae Df (hT.at_ VY Df.lt)]
theorem PO {L E:TypeId} {ts:List TR} {t:TR} (h:t∈ts) (X:List Item):Sub (t.cw L E) (X++lS L E ts):=by
 obtain⟨a,b,rfl⟩:=List.append_of_mem h
 have:lS L E (a++t::b)=lS L E a++(t.cw L E++lS L E b):=by simp[lS]
 rw[this]
 exact cd (((List.sublist_append_left _ _).trans (List.sublist_append_right _ _)).trans (List.sublist_append_right _ _))
theorem ur {E:TypeId} {qs:List kw} {c:Nat} (h:c<qs.length) (X Y:List Item):(X++(js E qs++Y)).Perm (qs[c].qW E::(X++(js E (qs.eraseIdx c)++Y))):=
 (((Ah h).append_right Y).append_left X).trans List.perm_middle
theorem Li {E:TypeId} {qs:List kw} {c:Nat} (h:c<qs.length) (X Y:List Item):Sub (az qs[c].b qs[c].c E 1 (cO qs[c].xs)::(X++(js E (qs.eraseIdx c)++Y))) (X++(js E qs++Y)):=
 ⟨X++(js E qs++Y),(ur h X Y).symm,aP _⟩
theorem PS {E:TypeId} {qs:List kw} {c:Nat} (h:c<qs.length) (X Y:List Item) (q:kw):Sub (X++(js E (qs.set c q)++Y)) (az q.b q.c E 1 (cO q.xs)::(X++(js E (qs.eraseIdx c)++Y))):=by
 have h1:=ur (E:=E) (qs:=qs.set c q) (c:=c) (by simpa using h) X Y
 rw[List.getElem_set_self,List.eraseIdx_set_eq]at h1
 exact⟨_,h1,aP _⟩
theorem PT (R H:Item) (B Y:List Item):Sub ([R]++(Y++H::B)) ([R,H]++(B++Y)):=
 ⟨R::H::(B++Y),(show(Y++H::B).Perm (H::B++Y)from List.perm_append_comm).cons R,aP _⟩
def acl (vars f_:Int) (e:List ei) (l:List Nat) (x:Bool) (er:Nat):Prop:=
 ∃D er0,FrU (gJ vars e) f_ (fun M=>fV vars f_.toNat M (nw vars.toNat e)∧AF vars.toNat e f_.toNat) (¬AF vars.toNat e f_.toNat) D er0∧((er0≠0∧x=false∧er=er0)∨(er0=0∧x=Av D l∧er=k_ D l))
theorem wI {E:Nat} {vars f_:Int} {v:Nat} {e:List ei} {Z:Prop} {D:c_} {er:Nat} {L:List Nat→Bool} {K:Prop} (h:FrU E f_ (fun M=>fV vars f_.toNat M L∧K) Z D er) (h0:er=0):E=0∧fV vars f_.toNat D L∧K:=by
 rcases h with⟨h1,h2,_⟩|⟨_,_,h2,_⟩|⟨h1,_,⟨_,h3⟩|⟨h2,_⟩⟩
 ·exact absurd (h2.symm.trans h0) h1
 ·exact absurd (h2.symm.trans h0) (by decide)
 ·exact⟨h1,h3⟩
 ·exact absurd (h2.symm.trans h0) (by decide)
theorem SO {d:c_} {vars:Int} {B:Nat} {p:Lg} (h:fV vars B d p) (l:List Nat):k_ d l=if 64<l.length then 4 else if l.any (fun x=>decide (2^vars.toNat≤x))=true then 1 else 0:=by
 unfold k_
 rw[aq (by rw[eL.2 h.valid];decide),h.vars]
abbrev PP:=Nat×List ei
def eG (s:Nat) (x:ei):ei:=if x.op=7∨x.op=8 then {x with a:=x.a+s}else if x.op=4∨x.op=5∨x.op=6 then {x with a:=x.a+s,b:=x.b+s}else x
theorem DJ (x:ei):eG 0 x=x:=by
 unfold eG
 split
 ·simp
 ·split<;>simp
def J5 (op:Nat) (out:List ei):PP:=if 64<out.length then(3,[])else(0,out)
def rC (op:Nat) (a:PP):PP:=if a.1=3 then(3,[])else J5 op (a.2++[⟨op,0,0,(a.2.length:Int)-1,0⟩])
def pw (op:Nat) (a b:PP):PP:=if a.1=3∨b.1=3 then(3,[])else J5 op (a.2++b.2.map (eG a.2.length)++[⟨op,0,0,(a.2.length:Int)-1,((a.2.length+b.2.length:Nat):Int)-1⟩])
def Ce (a b:PP):PP:=if a.1=1 then b else if b.1=1∨(a.1≠3∧a.2=b.2)then a else pw 5 a b
def DL (a b:PP):PP:=if a.1=1∨b.1=2 then a else if b.1=1∨a.1=2 then b else pw 4 a b
def Bl (a:PP):PP:=if a.1=1∨a.1=2 then(2,[⟨2,0,0,0,0⟩])else rC 8 a
structure AA (n:Nat) (x:ei):Prop where
 op:1≤x.op∧x.op≤8
 p:x.p<256
 nn:x.n<256
 a0:0≤x.a
 a1:x.a<n
 b0:0≤x.b
 b1:x.b<n
theorem AA.mono {n m:Nat} {x:ei} (h:AA n x) (hm:n≤m):AA m x:=⟨h.op,h.p,h.nn,h.a0,by have:=h.a1;omega,h.b0,by have:=h.b1;omega⟩
structure fZ (a:PP):Prop where
 k:a.1≤3
 len:a.2.length≤64
 nil:a.1=3→a.2=[]
 ne:a.1≠3→a.2≠ []
 pc: ∀x∈a.2,AA a.2.length x
theorem fZ.one {k o p n:Nat} (hk:k≤2) (ho:1≤o∧o≤8) (hp:p<256) (hn:n<256):fZ (k,[⟨o,p,n,0,0⟩]):=
 ⟨bE hk (by decide),by simp,fun h=>absurd (show k=3 from h) (by omega),fun _=>by simp,fun x hx=>by rw[List.mem_singleton.1 hx];exact⟨ho,hp,hn,Int.le_refl _,Int.zero_lt_one,Int.le_refl _,Int.zero_lt_one⟩⟩
theorem fZ.Vl:fZ (3,[]):=⟨by decide,by simp,fun _=>rfl,fun h=>absurd F h,fun x hx=>by simp at hx⟩
theorem Bm {op:Nat} {out:List ei} (qm:out≠ []) (h: ∀x∈out,AA out.length x):fZ (J5 op out):=by
 unfold J5
 split
 ·exact .Vl
 ·rename_i hl
  exact⟨bj _,by show out.length≤64;omega,fun h=>absurd (show 0=3 from h) (by decide),fun _=>qm,h⟩
theorem fZ.pos {a:PP} (h:fZ a) (h3:a.1≠3):0<a.2.length:=List.length_pos_iff.2 (h.ne h3)
theorem Gt {op:Nat} (ho:1≤op∧op≤8) {a:PP} (ha:fZ a):fZ (rC op a):=by
 unfold rC
 split
 ·exact .Vl
 ·rename_i h3
  have h0:=ha.pos h3
  refine Bm (by simp) fun x hx=>?_
  rw[aJ,List.length_singleton]
  rcases List.mem_append.1 hx with hx|hx
  ·exact(ha.pc x hx).mono (by omega)
  ·rw[List.mem_singleton.1 hx];exact⟨ho,by show 0<256;omega,by show 0<256;omega,by show 0≤(a.2.length:Int)-1;omega,by show(a.2.length:Int)-1<_;omega,Int.le_refl _,by show(0:Int)<_;omega⟩
theorem Vm {s n:Nat} {x:ei} (h:AA n x):AA (s+n) (eG s x):=by
 obtain⟨h1,h2,h3,h4,h5,h6,h7⟩:=h
 unfold eG
 split
 ·exact⟨h1,h2,h3,by show 0≤x.a+s;omega,by show x.a+s<_;omega,h6,by show x.b<_;omega⟩
 ·split
  ·exact⟨h1,h2,h3,by show 0≤x.a+s;omega,by show x.a+s<_;omega,by show 0≤x.b+s;omega,by show x.b+s<_;omega⟩
  ·exact⟨h1,h2,h3,h4,by omega,h6,by omega⟩
theorem yT {op:Nat} (ho:1≤op∧op≤8) {a b:PP} (ha:fZ a) (hb:fZ b):fZ (pw op a b):=by
 unfold pw
 split
 ·exact .Vl
 ·rename_i h3
  have h0:=ha.pos (fun e=>h3 (.inl e))
  have h1:=hb.pos (fun e=>h3 (.inr e))
  refine Bm (by simp) fun x hx=>?_
  rw[aJ,aJ,ai,List.length_singleton]
  rcases List.mem_append.1 hx with hx|hx
  ·rcases List.mem_append.1 hx with hx|hx
   ·exact(ha.pc x hx).mono (by omega)
   ·obtain⟨y,hy,rfl⟩:=List.mem_map.1 hx
    exact(Vm (hb.pc y hy)).mono (by omega)
  ·rw[List.mem_singleton.1 hx];exact⟨ho,by show 0<256;omega,by show 0<256;omega,by show 0≤(a.2.length:Int)-1;omega,by show(a.2.length:Int)-1<_;omega,by show(0:Int)≤((a.2.length+b.2.length:Nat):Int)-1;omega,by show((a.2.length+b.2.length:Nat):Int)-1<_;omega⟩
theorem vX {a b:PP} (ha:fZ a) (hb:fZ b):fZ (Ce a b):=by
 unfold Ce
 split
 ·exact hb
 ·split
  ·exact ha
  ·exact yT (by decide) ha hb
theorem sG {a b:PP} (ha:fZ a) (hb:fZ b):fZ (DL a b):=by
 unfold DL
 split
 ·exact ha
 ·split
  ·exact hb
  ·exact yT (by decide) ha hb
theorem yU {a:PP} (ha:fZ a):fZ (Bl a):=by
 unfold Bl
 split
 ·exact .one (by decide) (by decide) (by decide) (by decide)
 ·exact Gt (by decide) ha
structure ER where
 b:Option Addr
 c:Nat
 e:List ei
def ER.qW (T:TypeId) (r:ER):Item:=az r.b r.c T 5 (bX r.e)
def dH (T:TypeId) (p:List ER):List Item:=p.map (ER.qW T)
def gH (p:List ER) (r:ER):Prop:=r∈p∨r.e=[]
theorem gH.sl {T:TypeId} {w base:World} {O:List Item} {p:List ER} {r:ER} (hI:Inv base O w) (hO: ∀it∈dH T p,it∈O) (h:gH p r):Sl w r.b (bX r.e):=by
 rcases h with h|h
 ·exact hI.ij (hO _ (List.mem_map.2 ⟨r,h,F⟩))
 ·rw[h];exact fun i hi=>absurd hi (by simp[bX])
theorem gH.mono {p q:List ER} {r:ER} (h:gH p r) (hq: ∀x∈p,x∈q):gH q r:=h.elim (fun h=>.inl (hq _ h)) .inr
theorem rD (T:TypeId) (p q:List ER):dH T (p++q)=dH T p++dH T q:=bm
structure PR where
 k:Nat
 r:ER
instance:Inhabited PR:=⟨⟨0,none,0,[]⟩⟩
def PR.pp (x:PR):PP:=(x.k,x.r.e)
abbrev PR.cells (x:PR):List Value:=[.int .u8 (x.k:Int),.slice x.r.b x.r.e.length x.r.c]
abbrev PR.val (x:PR):Value:=.agg #[.int .u8 (x.k:Int),.slice x.r.b x.r.e.length x.r.c]
def eW (l:List PR):List Value:=l.flatMap PR.cells
theorem iJ (l:List PR):(eW l).length=l.length*2:=by
 induction l with
 |nil=>rfl
 |cons p l ih=>simp only[eW,List.flatMap_cons,aJ,bQ,dx]at ih⊢;rw[ih];omega
theorem oS {l:List PR}: ∀ {i:Nat} (hi:i<l.length) (j:Nat) (h:j<l[i].cells.length),(eW l)[i*2+j]? =some l[i].cells[j]:=by
 induction l with
 |nil=>intro i hi;simp at hi
 |cons p l ih=>
  intro i hi j hj
  show(p.cells++eW l)[i*2+j]? =_
  cases i with
  |zero=>rw[Nat.zero_mul,Nat.zero_add,bG (show j<p.cells.length from hj)];exact ak hj
  |succ i=>
   have h3:p.cells.length=2:=rfl
   rw[bZ (by rw[h3];omega),show(i+1)*2+j-p.cells.length=i*2+j by rw[h3];omega]
   exact ih (by simpa using hi) j hj
theorem uP (l:List PR) (c:PR):eW (l++[c])=eW l++c.cells:=by simp[eW]
def Yk (T:TypeId) (a:List PR) (pp:PP) (v:Value) (N:List Item):Prop:= ∃(q:List ER) (c:PR),v=c.val∧N=dH T q∧c.pp=pp∧(gH q c.r∨ ∃x∈a,c.r=x.r)
theorem mC (a b:List ei):bX (a++b)=bX a++bX b:=List.flatMap_append
end Go.Lx

namespace Go.Proofs.YtgdbfideeeegmaaGreatDoor
open Go.Lx Go.RowKit _root_.Go.Proofs.Tryz
abbrev by8 (u:List Nat):List Value:=nY u
theorem XW {u:List Nat} {i:Nat} (h:i<u.length):(by8 u)[i]? =some (.int .u8 ((u.getD i 0:Nat):Int)):=by
 rw[bl,ak h,au,ak h];rfl
def LH (vars:Int) (l:List Nat):Nat:=if 64<l.length then 4 else if l.any (fun x=>decide (2^vars.toNat≤x))=true then 1 else 0
def mE (vars:Int) (e:List ei) (l:List Nat):Nat:=if gJ vars e≠0 then gJ vars e else LH vars l
def mV (vars:Int) (e:List ei) (l:List Nat):Bool:=if mE vars e l=0 then oK l (u3 e) 0 l.length else false
theorem SX {vars:Int} {e:List ei} {l:List Nat} (h:mE vars e l=0):gJ vars e=0∧l.length≤64∧l.any (fun x=>decide (2^vars.toNat≤x))=false:=by
 unfold mE at h
 split at h
 ·rename_i c;exact absurd h c
 ·rename_i c
  unfold LH at h
  split at h
  ·cases h
  ·split at h
   ·cases h
   ·rename_i c2 c3
    exact⟨by omega,by omega,by simpa using c3⟩
theorem UJ {E:TypeId} {qs:List kw} {c:Nat} (h:c<qs.length) (X:List Lx.Item):az qs[c].b qs[c].c E 1 (cO qs[c].xs)∈X++js E qs:=SU h
end Go.Proofs.YtgdbfideeeegmaaGreatDoor

