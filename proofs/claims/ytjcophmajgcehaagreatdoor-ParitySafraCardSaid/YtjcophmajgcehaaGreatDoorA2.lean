/- Contracts. -/
import Derived.Lib.Builder
import Derived.Lib.UnsafeStr
import Derived.Laws.Externs
import Derived.Shelf.Sort.Plain
import Derived.Shelf.Slices.In.SortNone
import Derived.Shelf.Slices.CompactI
import Derived.Shelf.Slices.SearchI
import Derived.Shelf.Slices.Empties
import Derived.Shelf.Spec.SlicesInsert
import Derived.Shelf.Spec.SlicesInsertGrow
import Derived.Lib.RowBridge
import Derived.Test.YtjcophmajgcehaaGreatDoorRows
import Derived.Test.YtjcophmajgcehaaGreatDoorA1
set_option linter.all false
set_option maxHeartbeats 8000000
set_option maxRecDepth 20000
namespace Go.Lx
open Go.RowKit
theorem cZ.reorder {P:Program} {base:World} {f:FuncId} {args:List Value} {O:List Item} {R:Value→List Item→Prop} (h:cZ P base f args O (fun v O'=> ∃O2,Sub O2 O'∧R v O2)):cZ P base f args O R:=
 fun w M hI=>(h w M hI).mono fun _ _ ⟨v,O',h1,h2,O2,hs,hr⟩=>⟨v,O2,h1,h2.mA hs.Cb,hr⟩
theorem cZ.atR {P:Program} {base:World} {f:FuncId} {args:List Value} {A O:List Item} (B:List Item) {R:Value→List Item→Prop} (h:cZ P base f args A R) (hs:Sub (B++A) O):cZ P base f args O (fun v O'=> ∃A',O'=B++A'∧R v A'):=
 cZ.reorder ((h.under (B:=B) (tZ.tr hs)).mono fun v O' ⟨A',e,hr⟩=>⟨B++A',by rw[e];exact tZ,A',F,hr⟩)
theorem uc {P:Program} {base:World} {ρ:Env} {O:List Item} {fn:Func} {R:Value→List Item→Prop} {a i:Nat} {T E:TypeId} {d:TypeDesc} {b:Nat} {v:Value} {cs:List Value} {fr:Nat×Nat} (hr:fn.results= #[.cell a T]) (hu:P.underlying T=some d) (ha:nr d=false)
  (hp:ρ a=.pointer (some ⟨b,0,none⟩)) (hO:O[i]? =some (eL b (.cells (v::cs).toArray E fr)))
  (h:R v O):pk P base fn ρ O R:=
 ⟨⟨_,O,bj (ay _),h,fun w tmps hI ht=>by
  have h1:=mS (P:=P) hu ha (hI.qU hO)
  have AZ:=ht a
  simp only[dh]at AZ
  simp[results,hr,AZ,hp,asAddr,h1]⟩⟩
theorem rG {L M A B:List Item} (h:Sub (L++(B++A)) M):Sub (L++(A++B)) M:=Sub.tr (gY (D:=[]) (by rw[bZ];exact List.Perm.append_left L List.perm_append_comm)) h
theorem Gf {ps:List Rec} {all:List (List Nat)} (h:nums ps=all.map dY) {i:Nat} (hi:i<all.length): ∃b c,ps[i]? =some ⟨b,c,dY all[i]⟩:=by
 have hl:ps.length=all.length:=by have:=av List.length h;simpa using this
 have AS:i<ps.length:=by omega
 have hx:ps[i].xs=dY all[i]:=by
  have:=av (fun l=>l[i]?) h
  simp only[bc,ah AS,ah hi,Option.map_some,Option.some.injEq]at this
  exact this
 refine⟨ps[i].b,ps[i].c,?_⟩
 rw[ah AS,←hx]
theorem iO {ps:List Rec} {I:TypeId} {i:Nat} {b:Option Addr} {c:Nat} {l:List Nat} (h:ps[i]? =some ⟨b,c,dY l⟩):ak b c I 1 (bn l)∈bQ I ps:=by
 have:Rec.jS I ⟨b,c,dY l⟩∈bQ I ps:=List.mem_map_of_mem (bE h)
 unfold Rec.jS at this
 rw[lN]at this;exact this
theorem Qa {ps:List Rec} {i:Nat} {b:Option Addr} {c:Nat} {l:List Nat} (h:ps[i]? =some ⟨b,c,dY l⟩):(bW ps)[i]? =some (.slice b l.length c):=by
 rw[bc,h]
 show some (Value.slice b (dY l).length c)=_
 rw[pf]
theorem BE {ps:List Rec} {all:List (List Nat)} (h:nums ps=all.map dY):ps.length=all.length:=by have:=av List.length h;simpa using this
theorem je.ZR {n:Nat} {E:Nat→Nat→Prop} {S:Nat→Prop} {all:List (List Nat)} (h:je n E S all):all.length≤n:=by
 have h2: ∀l:List (List Nat),(∀P∈l,P≠ [])→l.length≤l.flatten.length:=by
  intro l
  induction l with
  |nil=>intro _;exact aV _
  |cons P l ih=>
   intro hl
   have h3:=List.length_pos_iff.2 (hl P List.mem_cons_self)
   have h4:=ih fun Q hQ=>hl Q (List.mem_cons_of_mem _ hQ)
   rw[List.flatten_cons,aI,cd];omega
 exact cT (h2 _ h.ne) h.len
theorem Y6 {mm:List (Int×Bool)} {s:Nat} (h: ∀u,tF mm u=decide (u<s)): ∀u,tF (gH ((s:Nat):Int) true mm) u=decide (u<s+1):=fun u=>by
 rw[JT,h u,fQ,Bool.or_eq_true,bo,bo,bo];omega
theorem tq (n:Nat):bn (List.replicate n 0)=List.replicate n (Value.int .i64 0):=by simp
theorem Qu (n v:Nat):fn (List.replicate n 0) v=0:=by
 show(List.replicate n 0).getD v 0=0
 rw[aj,List.getElem?_replicate];split<;>rfl
theorem Aq {P:Program} {base:World} {fv:Value} {args:List Value} {O:List Item} {x:Value} (h:dS P base fv args [] (fun v O'=>v=x∧O'=[])):dS P base fv args O (fun v O'=>v=x∧O'=O):=by
 have h1:=eY O h
 simpa only[bZ]using h1
theorem Qv (d:fx) (w:List Nat) (a:Nat) (hw:w≠ []):runN d a w∈iK d a w:=by
 have hl:0<w.length:=List.length_pos_iff.2 hw
 have:=nE d w a (w.length-1) (by omega)
 rw[show w.length-1+1=w.length by omega,aN (aV _)]at this
 exact bE this
theorem qF.rows {w:World} {l:La} {pb lb:Option Addr} {pc lc:Nat} {T:TypeId} (g1:rowP pb pc T 1 (ek l.pre) w) (g2:rowP lb lc T 1 (ek l.loop) w):qF w l pb lb pc lc:=
 ⟨g1.sl,g2.sl,by have:=g1.yB;simpa using this,by have:=g2.yB;simpa using this⟩
theorem oF {L X OO O:List Item} (h:Sub (L++(X++OO)) O):Sub (L++OO) O:=Sub.tr (bj ((List.sublist_append_right X OO).append_left L)) h
theorem Dr {P:Program} {base:World} {f:FuncId} {O:List Item} {R:Value→List Item→Prop} {x y z u:Value} {a b:Int} (e:b=a) (h:cZ P base f [x,.int .i64 b,y,z,u] O R):cZ P base f [x,.int .i64 a,y,z,u] O R:=e▸h
def kn (l:List Nat):List UInt8:=l.flatMap fun n=>Lib.decDigits n++[32]
theorem L2 (l:List Nat) (n:Nat):kn (l++[n])=kn l++(Lib.decDigits n++[32]):=by simp[kn]
theorem vJ: ∀l,32::kn l=mg l++[32]
 | []=>rfl
 |n::l=>by
  have ih:=vJ l
  have e:kn (n::l)=Lib.decDigits n++(32::kn l):=by simp[kn]
  rw[e,ih];simp[mg]
theorem QC {l m:List Nat} (h:kn l=kn m):l=m:=A8 (List.append_cancel_right (by rw[←vJ l,←vJ m,h]))
theorem Gw: ∀ {l:List Nat},(∀x∈l,x<10000)→(kn l).length≤5*l.length
 | [],_=>aG _
 |a::l,h=>by
  have h1:=w7 3 a (by have:=h a (by simp);omega)
  have h2:=Gw (l:=l) (fun x hx=>h x (by simp[hx]))
  have e:kn (a::l)=(Lib.decDigits a++[32])++kn l:=by simp[kn]
  rw[e,aI,aI,List.length_singleton,cd]
  omega
abbrev Au:=Int×List UInt8
def ph (p:dG) (cs:List Nat) (s:Nat):List Nat:=(List.range (dF p.d)).map fun x=>cs.getD (di p.d s x) 0
def iR (p:dG) (cs:List Nat) (s:Nat):Au:=(((cs.getD s 0:Nat):Int),kn (ph p cs s))
def jF (p:dG) (cs:List Nat):List Au:=(List.range p.next.length).map (iR p cs)
def zS (p:dG) (cs:List Nat):List Nat:=(jF p cs).map fun k=>ix k (dd (jF p cs))
def fw (p:dG):Nat→List Nat
 |0=>(List.range p.next.length).map (fC p)
 |k+1=>zS p (fw p k)
def p_ (p:dG) (k:Nat):Nat:=(dd (jF p (fw p k))).length
def tt (p:dG):Nat→Nat
 |0=>0
 |k+1=>p_ p k
theorem rW (p:dG) (cs:List Nat):(jF p cs).length=p.next.length:=by simp[jF]
theorem Gx (p:dG) (cs:List Nat):(zS p cs).length=p.next.length:=by simp[zS,jF]
theorem QD (p:dG): ∀k,(fw p k).length=p.next.length
 |0=>by simp[fw]
 |k+1=>Gx p _
theorem zU {p:dG} {cs:List Nat} {s:Nat} (hs:s<p.next.length):(jF p cs).take (s+1)=(jF p cs).take s++[iR p cs s]:=by
 have hl:s<(jF p cs).length:=by rw[rW];exact hs
 rw[an hl];simp[jF]
theorem vK {p:dG} {cs:List Nat} {s:Nat} (hs:s<p.next.length):iR p cs s∈jF p cs:=List.mem_map.2 ⟨s,List.mem_range.2 hs,F⟩
theorem Iu {p:dG} {cs:List Nat} {j s:Nat} (hj:j<s) (hs:s≤p.next.length):iR p cs j∈(jF p cs).take s:=by
 rw[jF,←List.map_take,List.take_range]
 exact List.mem_map.2 ⟨j,List.mem_range.2 (by omega),F⟩
theorem Gy {p:dG} {cs:List Nat} {s:Nat} (hs:s<p.next.length):(zS p cs).getD s 0=ix (iR p cs s) (dd (jF p cs)):=by
 unfold zS jF
 rw[aj,bc,bc,List.getElem?_range hs];rfl
theorem JU {p:dG} {cs:List Nat} {s t:Nat} (hs:s<p.next.length) (ht:t<p.next.length):(zS p cs).getD s 0=(zS p cs).getD t 0↔iR p cs s=iR p cs t:=by
 rw[Gy hs,Gy ht]
 exact⟨fun h=>Yj (s_.2 (vK hs)) (s_.2 (vK ht)) h,fun h=>by rw[h]⟩
theorem T3 {p:dG} {cs:List Nat} {s t:Nat}:iR p cs s=iR p cs t↔cs.getD s 0=cs.getD t 0∧ ∀x,x<dF p.d→cs.getD (di p.d s x) 0=cs.getD (di p.d t x) 0:=by
 unfold iR ph
 rw[Prod.mk.injEq]
 constructor
 ·rintro⟨h1,h2⟩
  refine⟨by omega,fun x hx=>?_⟩
  have h3:=av (fun l=>l[x]?) (QC h2)
  simp only[bc,List.getElem?_range hx,Option.map_some,Option.some.injEq]at h3
  exact h3
 ·rintro⟨h1,h2⟩
  refine⟨by rw[h1],av kn (List.map_congr_left fun x hx=>h2 x (List.mem_range.1 hx))⟩
theorem uQ {p:dG} (hp:cU p): ∀k s t,s<p.next.length→t<p.next.length→((fw p k).getD s 0=(fw p k).getD t 0↔jY p p k s t)
 |0,s,t,hs,ht=>by
  have e: ∀s,s<p.next.length→(fw p 0).getD s 0=fC p s:=fun s hs=>by
   unfold fw
   rw[aj,bc,List.getElem?_range hs];rfl
  rw[e s hs,e t ht];exact Iff.rfl
 |k+1,s,t,hs,ht=>by
  show(zS p (fw p k)).getD s 0=(zS p (fw p k)).getD t 0↔jY p p k s t∧ ∀x,x<dF p.d→jY p p k (di p.d s x) (di p.d t x)
  rw[JU hs ht,T3,uQ hp k s t hs ht]
  refine and_congr Iff.rfl (forall_congr' fun x=>imp_congr_right fun hx=>?_)
  exact uQ hp k _ _ (hp.val.fG hs hx).1 (hp.val.fG ht hx).1
section
variable {α β:Type} [DecidableEq α] [DecidableEq β]
def zV (f:Nat→α) (j:Nat):Bool:=(List.range j).all fun i=>decide (f i≠f j)
theorem nI {f:Nat→α} {j:Nat}:zV f j=true↔ ∀i,i<j→f i≠f j:=by
 unfold zV;simp
theorem Iv (f:Nat→α): ∀n,(dd ((List.range n).map f)).length=((List.range n).filter (zV f)).length
 |0=>rfl
 |n+1=>by
  rw[List.range_succ,aL,List.map_singleton,CN,List.filter_append,aI,←Iv f n]
  unfold add
  by_cases h:f n∈dd ((List.range n).map f)
  ·rw[aA h]
   have hm:=s_.1 h
   obtain⟨i,hi,e⟩:=List.mem_map.1 hm
   have hb:zV f n=false:=Bool.eq_false_iff.2 fun g=>nI.1 g i (List.mem_range.1 hi) e
   simp[hb]
  ·rw[ar h]
   have hb:zV f n=true:=nI.2 fun i hi e=>h (s_.2 (List.mem_map.2 ⟨i,List.mem_range.2 hi,e⟩))
   simp[hb]
theorem filter_le {p q:Nat→Bool}: ∀(l:List Nat),(∀x∈l,p x=true→q x=true)→(l.filter p).length≤(l.filter q).length∧((l.filter p).length=(l.filter q).length→ ∀x∈l,q x=true→p x=true)
 | [],_=>⟨aV _,fun _ x hx=>by cases hx⟩
 |a::l,h=>by
  obtain⟨h1,h2⟩:=filter_le (p:=p) (q:=q) l fun x hx=>h x (List.mem_cons_of_mem _ hx)
  have ha:=h a List.mem_cons_self
  cases hp:p a with
  |true=>
   have hq:=ha hp
   simp only[List.filter_cons,hp,hq,if_true,cd]
   refine⟨by omega,fun e x hx X0=>?_⟩
   rcases List.mem_cons.1 hx with rfl|hx
   ·exact hp
   ·exact h2 (by omega) x hx X0
  |false=>
   cases hq:q a with
   |true=>
    simp only[List.filter_cons,hp,hq,if_true,cd,Bool.false_eq_true,if_false]
    exact⟨by omega,fun e=>by omega⟩
   |false=>
    simp only[List.filter_cons,hp,hq,Bool.false_eq_true,if_false]
    refine⟨h1,fun e x hx X0=>?_⟩
    rcases List.mem_cons.1 hx with rfl|hx
    ·rw[hq]at X0;cases X0
    ·exact h2 e x hx X0
theorem Gz (f:Nat→α): ∀s,∃r,r≤s∧f r=f s∧zV f r=true:=by
 intro s
 induction s using Nat.strongRecOn with
 |_ s ih=>
  by_cases h:zV f s=true
  ·exact⟨s,aV _,F,h⟩
  ·have: ∃i,i<s∧f i=f s:=Classical.byContradiction fun kK=>h (nI.2 fun i hi e=>kK ⟨i,hi,e⟩)
   obtain⟨i,hi,e⟩:=this
   obtain⟨r,h1,h2,h3⟩:=ih i hi
   exact⟨r,by omega,h2.trans e,h3⟩
theorem L3 {f:Nat→α} {r t:Nat} (hr:zV f r=true) (ht:zV f t=true) (e:f r=f t):r=t:=by
 rcases Nat.lt_trichotomy r t with h|h|h
 ·exact absurd e (nI.1 ht r h)
 ·exact h
 ·exact absurd e.symm (nI.1 hr t h)
theorem T4 {f:Nat→α} {g:Nat→β} {n:Nat} (h: ∀s t,s<n→t<n→g s=g t→f s=f t):(dd ((List.range n).map f)).length≤(dd ((List.range n).map g)).length∧((dd ((List.range n).map f)).length=(dd ((List.range n).map g)).length→ ∀s t,s<n→t<n→f s=f t→g s=g t):=by
 rw[Iv,Iv]
 obtain⟨h1,h2⟩:=filter_le (p:=zV f) (q:=zV g) (List.range n) fun x hx hb=>nI.2 fun i hi e=>nI.1 hb i hi (h i x (by have:=List.mem_range.1 hx;omega) (List.mem_range.1 hx) e)
 refine⟨h1,fun e s t hs ht mK=>?_⟩
 obtain⟨r,a1,a2,a3⟩:=Gz g s
 obtain⟨u,b1,b2,b3⟩:=Gz g t
 have c1:=h2 e r (List.mem_range.2 (by omega)) a3
 have c2:=h2 e u (List.mem_range.2 (by omega)) b3
 have d1:=h r s (by omega) hs a2
 have d2:=h u t (by omega) ht b2
 have:r=u:=L3 c1 c2 (by rw[d1,d2,mK])
 rw[←a2,this,b2]
end
theorem T5 (p:dG) (k:Nat):p_ p k≤p.next.length:=by
 have:=vv (jF p (fw p k))
 rw[rW]at this;exact this
theorem GA {p:dG} (hp:cU p) (k:Nat):0<p_ p k:=by
 have:iR p (fw p k) 0∈dd (jF p (fw p k)):=s_.2 (vK hp.val.n0)
 exact List.length_pos_of_mem this
theorem BL {p:dG} (hp:cU p) (k:Nat):p_ p k≤p_ p (k+1)∧(p_ p k=p_ p (k+1)→ ∀s t,s<p.next.length→t<p.next.length→jY p p (k+1) s t→jY p p (k+2) s t):=by
 have hk: ∀k s t,s<p.next.length→t<p.next.length→(iR p (fw p k) s=iR p (fw p k) t↔jY p p (k+1) s t):=fun k s t hs ht=>by
  rw[←uQ hp (k+1) s t hs ht];exact(JU hs ht).symm
 obtain⟨h1,h2⟩:=T4 (f:=iR p (fw p k)) (g:=iR p (fw p (k+1))) (n:=p.next.length) fun s t hs ht e=>(hk k s t hs ht).2 (((hk (k+1) s t hs ht).1 e).pred (by omega))
 exact⟨h1,fun e s t hs ht hb=>(hk (k+1) s t hs ht).1 (h2 e s t hs ht ((hk k s t hs ht).2 hb))⟩
theorem T6 {p:dG} (hp:cU p) {k:Nat} (h:p_ p k≠tt p k):tt p k<p_ p k:=by
 cases k with
 |zero=>exact GA hp 0
 |succ k=>have:=(BL hp k).1;show p_ p k<p_ p (k+1);have:p_ p (k+1)≠p_ p k:=h;omega
def jG (cs:List Nat) (s t:Nat):Bool:=decide (cs.getD s 0=cs.getD t 0)
theorem L4 {p:dG} (hp:cU p) {k:Nat} (h:p_ p k=tt p k):th p (jG (fw p (k+1))):=fun s t hs ht=>by
 unfold jG
 rw[bo,uQ hp (k+1) s t hs ht]
 cases k with
 |zero=>have:=GA hp 0;have:p_ p 0=0:=h;omega
 |succ k=>
  have h1:=(BL hp k).2 h.symm
  exact⟨fun hb=>Pu hp h1 hs ht (hb.pred (by omega)),fun hb=>hb _⟩
section
variable {p:dG} (hp:cU p) {e:Nat→Nat→Bool} (he:th p e)
include hp he
theorem Iw {i s x:Nat} (hi:(qN e p.d i)[i]? =some s) (hx:x≤dF p.d):qM e p.d (qN e p.d i) s x<+:qN e p.d p.next.length:=by
 have h1:=C7 e p.d (qN e p.d i) s hx
 rw[←xt hi]at h1
 have gf:=(List.getElem?_eq_some_iff.1 hi).1
 have:=rB hp he i
 exact h1.trans (zo e p.d (by omega))
theorem L5 {i s x:Nat} (hi:(qN e p.d i)[i]? =some s) (hx:x<dF p.d) (ha:(qM e p.d (qN e p.d i) s x).any (fun k=>e k (di p.d s x))=true):qM e p.d (qN e p.d i) s (x+1)=qM e p.d (qN e p.d i) s x∧gv e (di p.d s x) (qN e p.d p.next.length)=gv e (di p.d s x) (qM e p.d (qN e p.d i) s x):=by
 refine⟨?_,Bt (Iw hp he hi (by omega)) ha⟩
 rw[qM,r6,aA ha]
theorem L6 {i s x:Nat} (hi:(qN e p.d i)[i]? =some s) (hx:x<dF p.d) (ha: ¬(qM e p.d (qN e p.d i) s x).any (fun k=>e k (di p.d s x))=true):qM e p.d (qN e p.d i) s (x+1)=qM e p.d (qN e p.d i) s x++[di p.d s x]∧gv e (di p.d s x) (qN e p.d p.next.length)=(qM e p.d (qN e p.d i) s x).length:=by
 have h0:qM e p.d (qN e p.d i) s (x+1)=qM e p.d (qN e p.d i) s x++[di p.d s x]:=by rw[qM,r6,ar ha]
 refine⟨h0,?_⟩
 have hs:s<p.next.length:=lf hp e i s (bE hi)
 have ht:=(hp.val.fG hs hx).1
 have hr:e (di p.d s x) (di p.d s x)=true:=(he _ _ ht ht).2 (qu.refl p _)
 have T7:=Iw hp he hi (show x+1≤dF p.d from hx)
 rw[h0]at T7
 have Cb: ∀(l:List Nat) (t:Nat),¬l.any (fun k=>e k t)=true→e t t=true→gv e t (l++[t])=l.length:=by
  intro l t hn htt
  induction l with
  |nil=>simp[gv,htt]
  |cons k l ih=>
   have hk: ¬e k t=true:=fun hk=>hn (by simp[hk])
   have hl: ¬l.any (fun k=>e k t)=true:=fun hl=>hn (by simp only[List.any_cons,hl,Bool.or_true])
   rw[cj,gv,ar hk,ih hl];rfl
 rw[Bt T7 (by simp[hr]),Cb _ _ ha hr]
theorem T8 {i:Nat} (h:(qN e p.d i).length≤i) (hi:i≤p.next.length):qN e p.d p.next.length=qN e p.d i:=C8 h _ hi
theorem aeO {i:Nat} (hi:i<(qN e p.d i).length): ∃s,(qN e p.d i)[i]? =some s∧s<p.next.length∧(qN e p.d p.next.length)[i]? =some s∧i<p.next.length:=by
 have h0:=rB hp he i
 have hg:=ah hi
 refine⟨_,hg,lf hp e i _ (ap hi),?_,by omega⟩
 obtain⟨r,hr⟩:=zo e p.d (i:=i) (j:=p.next.length) (by omega)
 rw[←hr,bG hi];exact hg
end
def nJ (e:Nat→Nat→Bool) (d:fx) (aa:List Nat) (s x:Nat):List Int:=((List.range x).map fun y=>((gv e (di d s y) aa:Nat):Int))++List.replicate (dF d-x) 0
theorem L7 (e:Nat→Nat→Bool) (d:fx) (aa:List Nat) (s:Nat):nJ e d aa s 0=List.replicate (dF d) 0:=by simp[nJ]
theorem QE (e:Nat→Nat→Bool) (d:fx) (aa:List Nat) (s:Nat):nJ e d aa s (dF d)=lL e d aa s:=by simp[nJ,lL]
theorem QF {e:Nat→Nat→Bool} {d:fx} {aa:List Nat} {s x:Nat} (hx:x≤dF d):(nJ e d aa s x).length=dF d:=by simp[nJ];omega
theorem GB {e:Nat→Nat→Bool} {d:fx} {aa:List Nat} {s x k:Nat} (hx:x<dF d) (hk:gv e (di d s x) aa=k):(nJ e d aa s x).set x ((k:Nat):Int)=nJ e d aa s (x+1):=by
 unfold nJ
 have hl:((List.range x).map fun y=>((gv e (di d s y) aa:Nat):Int)).length=x:=by simp
 rw[List.set_append_right _ _ (by omega),hl,eG,show dF d-x=(dF d-(x+1))+1 by omega,List.replicate_succ,da,List.range_succ,aL,←hk]
 simp
structure uR (p:dG) (cs:List Nat) (s:Nat) (xs:List Nat) (ks:List Au):Prop where
 le:s≤p.next.length
 len:xs.length=p.next.length
 ks_:ks=dd ((jF p cs).take s)
 at_: ∀j,j<s→xs[j]? =some (ix (iR p cs j) ks)
theorem uR.start (p:dG) (cs:List Nat):uR p cs 0 (List.replicate p.next.length 0) []:=⟨aG _,by simp,F,fun j h=>absurd h (Nat.not_lt_zero _)⟩
theorem uR.ZR {p:dG} {cs:List Nat} {s:Nat} {xs:List Nat} {ks:List Au} (h:uR p cs s xs ks):ks.length≤s:=by
 rw[h.ks_]
 have:=vv ((jF p cs).take s)
 rw[bC]at this;omega
theorem uR.nK {p:dG} {cs:List Nat} {s:Nat} {xs:List Nat} {ks:List Au} (h:uR p cs s xs ks) (hs:s<p.next.length) (hm:iR p cs s∈ks):uR p cs (s+1) (xs.set s (ix (iR p cs s) ks)) ks:=by
 refine⟨hs,by simp[h.len],?_,fun j hj=>?_⟩
 ·rw[zU hs,CN,←h.ks_,add,aA hm]
 ·by_cases e:j=s
  ·subst e;rw[List.getElem?_set_self (by rw[h.len];exact hs)]
  ·rw[List.getElem?_set_ne (fun g=>e g.symm)];exact h.at_ j (by omega)
theorem uR.SR {p:dG} {cs:List Nat} {s:Nat} {xs:List Nat} {ks:List Au} (h:uR p cs s xs ks) (hs:s<p.next.length) (hm:iR p cs s∉ks):uR p cs (s+1) (xs.set s ks.length) (ks++[iR p cs s]):=by
 refine⟨hs,by simp[h.len],?_,fun j hj=>?_⟩
 ·rw[zU hs,CN,←h.ks_,add,ar hm]
 ·by_cases e:j=s
  ·subst e;rw[List.getElem?_set_self (by rw[h.len];exact hs),ku hm];simp[ix]
  ·rw[List.getElem?_set_ne (fun g=>e g.symm),h.at_ j (by omega)]
   refine av some (nB ?_).symm
   rw[h.ks_];exact s_.2 (Iu (by omega) h.le)
theorem uR.done {p:dG} {cs:List Nat} {s:Nat} {xs:List Nat} {ks:List Au} (h:uR p cs s xs ks) (hs:s=p.next.length):xs=zS p cs∧ks=dd (jF p cs):=by
 subst hs
 have hk:ks=dd (jF p cs):=by rw[h.ks_,aN (by rw[rW];exact aV _)]
 refine⟨?_,hk⟩
 apply List.ext_getElem?
 intro j
 by_cases hj:j<p.next.length
 ·rw[h.at_ j hj,hk]
  unfold zS jF
  rw[bc,bc,List.getElem?_range hj];rfl
 ·rw[dL (by rw[h.len];omega),dL (by rw[Gx];omega)]
theorem y8 {α:Type} (ks:List α) (k:α):(ks++[k]).zipIdx=ks.zipIdx++[(k,ks.length)]:=by rw[List.zipIdx_append];simp
theorem Dw {x:Au} (ks:List Au):eN x ks.zipIdx=if x∈ks then some (ix x ks)else none:=by rw[ux];simp
def GC (cs l:List Nat):List (Int×Nat):=(l.map fun s=>((cs.getD s 0:Nat):Int)).zipIdx
theorem T9 (cs l:List Nat):(GC cs l).map Prod.fst=l.map fun s=>((cs.getD s 0:Nat):Int):=s8 _ 0
theorem QG (cs l:List Nat) (t:Nat):GC cs (l++[t])=GC cs l++[(((cs.getD t 0:Nat):Int),l.length)]:=by
 unfold GC;rw[aL,List.zipIdx_append];simp
theorem Dx {cs l:List Nat} {t:Nat}:((cs.getD t 0:Nat):Int)∈(l.map fun s=>((cs.getD s 0:Nat):Int))↔l.any (fun k=>jG cs k t)=true:=by
 rw[fH,e_]
 exact⟨fun⟨a,h1,h2⟩=>⟨a,h1,bz (by omega)⟩,fun⟨a,h1,h2⟩=>⟨a,h1,by have:=of_decide_eq_true h2;omega⟩⟩
theorem QH {cs:List Nat} {t:Nat}: ∀l:List Nat,ix ((cs.getD t 0:Nat):Int) (l.map fun s=>((cs.getD s 0:Nat):Int))=gv (jG cs) t l
 | []=>rfl
 |k::l=>by
  have ih:=QH (cs:=cs) (t:=t) l
  simp only[bL,ix,gv,ih]
  by_cases e:cs.getD t 0=cs.getD k 0
  ·rw[aA (by omega),aA (by unfold jG;exact bz e.symm)]
  ·rw[ar (by omega),ar (by unfold jG;rw[bo];exact fun g=>e g.symm)]
theorem QI (cs l:List Nat) (t:Nat):eN ((cs.getD t 0:Nat):Int) (GC cs l)=if l.any (fun k=>jG cs k t)=true then some (gv (jG cs) t l)else none:=by
 unfold GC
 rw[ux]
 by_cases h:l.any (fun k=>jG cs k t)=true
 ·rw[aA h,aA (Dx.2 h),QH];simp
 ·rw[ar h,ar (fun g=>h (Dx.1 g))]
theorem T_ {cs l:List Nat} {t:Nat} (h: ¬l.any (fun k=>jG cs k t)=true):((cs.getD t 0:Nat):Int)∉(GC cs l).map Prod.fst:=by
 rw[T9];exact fun g=>h (Dx.1 g)
theorem QJ {p:dG} (hv:cU p):ints p.dX=bn (fw p 0):=by
 unfold ints bn fw
 rw[List.map_map]
 apply List.ext_getElem?
 intro j
 rw[bc,bc]
 by_cases hj:j<p.next.length
 ·rw[hv.tg hj,List.getElem?_range hj];rfl
 ·rw[dL (by rw[hv.pl];omega),dL (by rw[gR];omega)];rfl
theorem Ua {p:dG} (hv:cU p): ∀k,∀x∈fw p k,x<10000
 |0,x,hx=>by
  obtain⟨s,_,rfl⟩:=List.mem_map.1 hx
  have:=hv.wR s;omega
 |k+1,x,hx=>by
  obtain⟨q,hq,rfl⟩:=List.mem_map.1 hx
  have h1:=nW (s_.2 hq)
  have h2:=vv (jF p (fw p k))
  rw[rW]at h2
  have:=hv.n4;omega
theorem uS {cs:List Nat} {s n:Nat} (hl:cs.length=n) (hs:s<n):(bn cs)[s]? =some (.int .i64 ((cs.getD s 0:Nat):Int)):=by
 rw[bc,aj,ah (by omega)];rfl
theorem lj (p:dG) (cs:List Nat) (s:Nat):(ph p cs s).length=dF p.d:=by simp[ph]
theorem QK {p:dG} {cs:List Nat} {s x:Nat} (hx:x<dF p.d):(ph p cs s)[x]? =some (cs.getD (di p.d s x) 0):=by
 unfold ph;rw[bc,List.getElem?_range hx];rfl
theorem JV {p:dG} {cs:List Nat} (h: ∀x∈cs,x<10000) (s:Nat): ∀x∈ph p cs s,x<10000:=fun x hx=>by
 obtain⟨y,_,rfl⟩:=List.mem_map.1 hx
 rw[aj]
 cases e:cs[di p.d s y]? with
 |none=>simp
 |some z=>exact h z (bE e)
def tv (r:List Nat) (x:Nat):List Nat:=r.take x++List.replicate (r.length-x) 0
theorem L8 (r:List Nat):tv r 0=List.replicate r.length 0:=by simp[tv]
theorem QL (r:List Nat):tv r r.length=r:=by simp[tv]
theorem QM (r:List Nat) {x:Nat} (h:x≤r.length):(tv r x).length=r.length:=by simp[tv];omega
theorem QN {r:List Nat} {x v:Nat} (hx:x<r.length) (h:r[x]? =some v):(tv r x).set x v=tv r (x+1):=by
 unfold tv
 have hl:(r.take x).length=x:=by rw[bC];omega
 rw[ah hx]at h
 rw[List.set_append_right _ _ (by omega),hl,eG,show r.length-x=(r.length-(x+1))+1 by omega,List.replicate_succ,da,an hx,cg h]
 simp
noncomputable def kE (p:dG):dG:=if b7 p=0 then C_ p else JC
theorem JQ {p:dG} (h:b7 p=0) {e:Nat→Nat→Bool} (he:th p e):kE p=nU e p:=by
 unfold kE C_;rw[aA h];exact H7 (de.1 h) (ol p) he
theorem Ub {p:dG} (h:b7 p≠0):kE p=JC:=ar h
theorem P9 {d:fx} (hv:Val d): ∀u v,DE d u v→v<d.next.length:=fun u v ⟨hu,x,hx,e⟩=>e▸(hv.fG hu hx).1
theorem Gj {d:fx} (hv:Val d): ∀(w:List Nat) (s:Nat),s<d.next.length→Wd d w→gL (DE d) s (runN d s w)
 | [],s,_,_=>.refl s
 |x::w,s,hs,hw=>by
  have hx:=hw x (by simp)
  exact .step ⟨hs,x,hx,F⟩ (Gj hv w _ (hv.fG hs hx).1 fun y hy=>hw y (by simp[hy]))
theorem LR {d:fx} (hv:Val d) {v:Nat}:v∈order d↔gL (DE d) d.start.toNat v:=by
 constructor
 ·intro h
  obtain⟨w,hw,e⟩:=pY hv _ v h
  rw[←e];exact Gj hv w _ (oT hv) hw
 ·intro h
  have h0:d.start.toNat∈order d:=(rp d 0 d.next.length (aG _)).subset (by simp[eh])
  have all: ∀a b,gL (DE d) a b→a∈order d→b∈order d:=fun a b hr=>by
   induction hr with
   |refl=>exact id
   |step e _ ih=>
    intro ha
    obtain⟨hu,x,hx,rfl⟩:=e
    exact ih (CK hv _ ha _ (List.mem_map.2 ⟨x,List.mem_range.2 hx,F⟩))
  exact all _ _ h h0
def iP (ks:List Nat):List (Int×Bool):=ks.map fun v=>(((v:Nat):Int),true)
theorem BG (v:Nat): ∀ks:List Nat,eN ((v:Nat):Int) (iP ks)=if v∈ks then some true else none
 | []=>rfl
 |k::ks=>by
  have ih:=BG v ks
  unfold iP at ih⊢
  rw[bL]
  unfold eN
  by_cases e:v=k
  ·subst e;simp
  ·rw[ar (by simp only;omega),ih]
   by_cases h:v∈ks<;>simp[h,e]
theorem JR (ks:List Nat) (v:Nat):(eN ((v:Nat):Int) (iP ks)).getD false=decide (v∈ks):=by
 rw[BG];by_cases h:v∈ks<;>simp[h]
theorem Qm {ks:List Nat} {v:Nat} (h:v∉ks):((v:Nat):Int)∉(iP ks).map Prod.fst:=fun hm=>by
 unfold iP at hm
 rw[List.map_map,e_]at hm
 obtain⟨a,ha,e⟩:=hm
 have e2:((a:Nat):Int)=((v:Nat):Int):=e
 have:a=v:=by omega
 exact h (this▸ha)
theorem LS (ks:List Nat) (v:Nat):iP (ks++[v])=iP ks++[(((v:Nat):Int),true)]:=by simp[iP]
theorem Dp {ks:List Nat} {v:Nat} (h:v∈ks):add ks v=ks:=aA h
theorem Dq {ks:List Nat} {v:Nat} (h:v∉ks):add ks v=ks++[v]:=ar h
theorem BH {ks:List Nat} {i v:Nat} (h:i≤ks.length):(ks++[v]).drop i=ks.drop i++[v]:=by rw[List.drop_append_of_le_length h]
theorem Qn {d:fx} {i o:Nat} (h:(eh d i)[i]? =some o):nA d i o (dF d)=eh d (i+1):=(vu h).symm
def Y4 (d:fx) (al:Nat→Bool) (v:Nat):Bool:=decide (v∈order d)&&al v
theorem xx {d:fx} (hv:Val d) (al:Nat→Bool):(fun v=>Y4 d al v=true)=Ins d al:=funext fun v=>propext (by
 unfold Y4 Ins
 rw[aY,bo,LR hv])
def Qo (one two:Nat→Bool) (ps:List (List Nat)):Prop:= ∀P∈ps,¬((∃v∈P,one v=true)∧ ∃u∈P,two u=true)
theorem Qo.step {one two:Nat→Bool} {all:List (List Nat)} {i:Nat} (h:Qo one two (all.take i)) (hi:i<all.length) (hn: ¬((∃v∈all[i],one v=true)∧ ∃u∈all[i],two u=true)):Qo one two (all.take (i+1)):=fun P hP=>by
 rw[an hi]at hP
 rcases List.mem_append.1 hP with hP|hP
 ·exact h P hP
 ·rw[List.mem_singleton.1 hP];exact hn
theorem LU {d:fx} (hv:Val d) {al one two:Nat→Bool} {all:List (List Nat)} (h:je d.next.length (DE d) (fun v=>Y4 d al v=true) all) (hn:Qo one two all):tk d al one two none:=fun hh=>by
 rw[xx hv]at h
 obtain⟨P,hP,h1,h2⟩:=(Lt (P9 hv) (oT hv) h).1 hh
 exact hn P hP ⟨h1,h2⟩
theorem LV {d:fx} (hv:Val d) {al:Nat→Bool} {all:List (List Nat)} (h:je d.next.length (DE d) (fun v=>Y4 d al v=true) all) {P:List Nat} (hP:P∈all) {s:Nat} (hs:s∈P): ∃(Q:Nat→Prop) (t:Nat),(∀v,Q v→(fun _:Nat=>true) v=true)∧decide (t=s)=true∧((false=false∧gL (lX (DE d) Q) d.start.toNat t)∨ ∃c,lX (DE d) Q d.start.toNat c∧gL (lX (DE d) Q) c t):=by
 rw[xx hv]at h
 have hr:=((h.sub P hP s hs).2).1
 refine⟨fun _=>True,s,fun _ _=>rfl,bz F,.inl ⟨F,hr.mono fun u v e=>⟨e,trivial,trivial⟩⟩⟩
theorem vH {d:fx} (hv:Val d) {al two:Nat→Bool} {all:List (List Nat)} (h:je d.next.length (DE d) (fun v=>Y4 d al v=true) all) {P:List Nat} (hP:P∈all) {s u:Nat} (hs:s∈P) (hu:u∈P) (h2:two u=true) (mJ:Bool): ∃(Q:Nat→Prop) (t:Nat),(∀v,Q v→(fun u:Nat=>decide (u∈P)) v=true)∧two t=true∧((mJ=false∧gL (lX (DE d) Q) s t)∨ ∃c,lX (DE d) Q s c∧gL (lX (DE d) Q) c t):=by
 rw[xx hv]at h
 obtain⟨c,h3,h4⟩:=Lv h hP hs hu
 exact⟨fun v=>v∈P,u,fun v hv=>bz hv,h2,.inr ⟨c,h3,h4⟩⟩
theorem BI {d:fx} (hv:Val d) {al one two:Nat→Bool} {all:List (List Nat)} (h:je d.next.length (DE d) (fun v=>Y4 d al v=true) all) {P:List Nat} (hP:P∈all) {s:Nat} (hs:s∈P) (ho:one s=true) {pre lo back:List Nat} {t:Nat} {l:La}
  (h1:rC d (fun _=>true) (fun u=>decide (u=s)) d.start.toNat false pre s) (h2:rC d (fun u=>decide (u∈P)) two s false lo t) (h3:rC d (fun u=>decide (u∈P)) (fun u=>decide (u=s)) t (decide (t=s)) back s) (hc:uq ⟨pre,lo++back⟩ l):tk d al one two (some l):=by
 rw[xx hv]at h
 exact⟨pre,lo++back,Lu (fun s w hs hw=>lU hv hs w hw) h hP hs ho h1 h2 h3,hc⟩
def Wf (d:fx) (al one two:Nat→Bool) (b:Bool) (l:La):Prop:=if b=true then tk d al one two (some l)else l=⟨[],[]⟩∧tk d al one two none
theorem LW {d:fx} (hv:Val d):iP (eh d 0)=[(d.start,true)]:=by
 have:=hv.s0
 simp only[eh,iP,bL,df]
 rw[bq hv.s0]
theorem Qp {d:fx} (hv:Val d):bn ((eh d 0).drop 0)=[.int .i64 d.start]:=by
 have:=hv.s0
 simp only[eh,List.drop_zero,bL,df]
 rw[bq hv.s0]
theorem zJ (p:Nat→Bool): ∀l:List Nat,(dY l).any (fun x=>decide (p x.toNat=true))=l.any p
 | []=>rfl
 |a::l=>by
  have ih:=zJ p l
  show(decide (p (Int.toNat ((a:Nat):Int))=true)||(dY l).any _)=(p a||l.any p)
  rw[ih,Int.toNat_natCast]
  cases p a<;>rfl
theorem Im {p:Nat→Bool} {l:List Nat} (h:(dY l).any (fun x=>decide (p x.toNat=true))=false): ¬ ∃v∈l,p v=true:=fun⟨v,hv,hp⟩=>by
 rw[zJ]at h
 rw[List.any_eq_true.2 ⟨v,hv,hp⟩]at h;cases h
theorem TX {p:Nat→Bool} {l:List Nat} (h:(dY l).any (fun x=>decide (p x.toNat=true))=true): ∃v∈l,p v=true:=by
 rw[zJ]at h
 obtain⟨v,hv,hp⟩:=List.any_eq_true.1 h
 exact⟨v,hv,hp⟩
theorem Gk {l:List Nat} {x:Int} (h:x∈dY l): ∃u:Nat,u∈l∧x=((u:Nat):Int):=by
 obtain⟨u,hu,e⟩:=List.mem_map.1 h
 exact⟨u,hu,e.symm⟩
theorem Qq {l:List Nat} {k:Nat} (hk:k<(dY l).length):(dY l)[k]=((l[k]'(by rw[←pf];exact hk):Nat):Int):=eV _
theorem l5 {d:fx} (hn:d.next.length≤4096) {al to:Nat→Bool} {gD:Nat} {mJ:Bool} {w:List Nat} {t:Nat} (h:rC d al to gD mJ w t):w.length≤4096:=by have:=h.len;omega
theorem Gl {a b:fx} {s t:Nat} (hs:s<a.next.length) (ht:t<b.next.length):(gT a b).take (s*b.next.length+(t+1))=(gT a b).take (s*b.next.length+t)++[iA a b s t]:=by
 have h:=Ko hs ht
 have hl:=(List.getElem?_eq_some_iff.1 h).1
 rw[ah hl]at h
 rw[show s*b.next.length+(t+1)=s*b.next.length+t+1 by omega,an hl,cg h]
def r7 (r:List Int) (x:Nat):List Int:=r.take x++List.replicate (r.length-x) 0
theorem LX (r:List Int):r7 r 0=List.replicate r.length 0:=by simp[r7]
theorem Qr (r:List Int):r7 r r.length=r:=by simp[r7]
theorem Qs (r:List Int) {x:Nat} (h:x≤r.length):(r7 r x).length=r.length:=by simp[r7];omega
theorem Qt {r:List Int} {x:Nat} {v:Int} (hx:x<r.length) (h:r[x]? =some v):(r7 r x).set x v=r7 r (x+1):=by
 unfold r7
 have hl:(r.take x).length=x:=by rw[bC];omega
 rw[ah hx]at h
 rw[List.set_append_right _ _ (by omega),hl,eG,show r.length-x=(r.length-(x+1))+1 by omega,List.replicate_succ,da,an hx,cg h]
 simp
def gi (p q:dG):dG:=⟨p.vars,((p.start.toNat*q.next.length+q.start.toNat:Nat):Int),gT p.d q.d,[]⟩
def jt:La:=⟨[],[]⟩
def DM (p q:dG):Nat:=if b7 p≠0 then b7 p else if b7 q≠0 then b7 q else if p.vars≠q.vars then 7 else 0
def WiR (p:dG) (l:La) (e:Nat):Prop:=(b7 p≠0∧e=b7 p∧l=jt)∨(b7 p=0∧e=0∧ ∃k,k%2=0∧k≤16∧tk p.d (ZN p k) (Am p k) (Am p k) (some l))∨(b7 p=0∧e=9∧l=jt∧ ¬ahU p)
def DiR (p q:dG) (l:La) (b:Bool) (e:Nat):Prop:=(DM p q≠0∧e=DM p q∧b=false∧l=jt)∨(DM p q=0∧e=0∧b=true∧ ∃i j,i%2≠j%2∧i≤16∧j≤16∧tk (F6 p q) (Tx p q i j) (fun v=>decide (f1 p q v=i)) (fun v=>decide (f2 q v=j)) (some l))∨(DM p q=0∧e=0∧b=false∧l=jt∧ ¬Da p q)
theorem Gm {p q:dG}:DM p q=0↔cU p∧cU q∧p.vars=q.vars:=by
 unfold DM
 by_cases h1:b7 p=0
 ·by_cases h2:b7 q=0
  ·by_cases h3:p.vars=q.vars
   ·rw[ar (by simp[h1]),ar (by simp[h2]),ar (by simp[h3])]
    exact⟨fun _=>⟨de.1 h1,de.1 h2,h3⟩,fun _=>rfl⟩
   ·rw[ar (by simp[h1]),ar (by simp[h2]),aA h3]
    exact⟨fun h=>(by cases h),fun h=>absurd h.2.2 h3⟩
  ·rw[ar (by simp[h1]),aA h2]
   exact⟨fun h=>absurd h h2,fun h=>absurd (de.2 h.2.1) h2⟩
 ·rw[aA h1]
  exact⟨fun h=>absurd h h1,fun h=>absurd (de.2 h.1) h1⟩
theorem YO {n:Nat} (E:Nat→Nat→Prop) (pr:Nat→Nat): ∀(N:Nat) (S:Nat→Prop),ww n S≤N→(∀v,S v→v<n)→ ∃r,km E pr r S:=by
 intro N
 induction N with
 |zero=>
  intro S hN hn
  have kK: ∀v,¬S v:=fun v hv=>by
   have:=zj (X:=S) (Y:=fun _=>False) (fun u hu=>hu.elim) (hn v hv) hv (fun h=>h)
   omega
  exact⟨fun _=>0,.mk (fun v hv _=>rfl) (fun v hv=>absurd hv (kK v)) (fun v hv=>absurd hv (kK v))⟩
 |succ N ih=>
  intro S hN hn
  have part: ∀P:Nat→Prop,(∀u,P u→S u)→(∃u,P u)→ ∃r,lZ E pr r P:=by
   intro P hP mC
   obtain⟨m,hm⟩:=uJ pr (n:=n) (fun u hu=>hn u (hP u hu)) mC
   obtain⟨a,ha,e⟩:=hm.1
   have fM:ww n (fun u=>P u∧pr u<m)<ww n S:=zj (fun u hu=>hP u hu.1) (hn a (hP a ha)) (hP a ha) (fun q=>by have:=q.2;omega)
   obtain⟨o,ho⟩:=ih (fun u=>P u∧pr u<m) (by omega) (fun v hv=>hn v (hP v hv.1))
   obtain⟨k,hk⟩:=rR o (P:=fun u=>P u∧pr u<m) n (fun u hu=>hn u (hP u hu.1))
   exact⟨fun v=>if pr v<m then o v else k+(k+m)%2,sF hm ho hk (fun v _ h=>ar h) (fun v _ h=>aA h)⟩
  classical
  let R:(Nat→Prop)→Nat→Nat:=fun P=>if h: ∃r,lZ E pr r P then Classical.choose h else fun _=>0
  have hR: ∀P:Nat→Prop,(∀u,P u→S u)→(∃u,P u)→lZ E pr (R P) P:=fun P h1 h2=>by
   have h3:=part P h1 h2
   have h4:R P=Classical.choose h3:=dif_pos h3
   rw[h4];exact Classical.choose_spec h3
  refine⟨fun v=>if zh E S v then R (mO E S v) v else 0,zH (n:=n) (fun v _ h=>ar h) (fun v hv hc=>(hR _ (fun u h=>h.1) ⟨v,.refl hv⟩).ext fun u hu=>?_)⟩
  show(if zh E S u then R (mO E S u) u else 0)=R (mO E S v) u
  rw[aA (zh.H5 hc hu),mO.same hv hu]
theorem PZ (p:dG): ∃f,nH p f:=by
 obtain⟨r,h⟩:=YO (n:=p.next.length) (FX p) (fC p) _ (StS p) (aV _) (fun v hv=>hv)
 exact⟨r,⟨h⟩⟩
theorem Dh {p:dG} (h:b7 p=0): ∃f,nH p f∧un p=C5 p f:=by
 obtain⟨f,hf⟩:=PZ p
 exact⟨f,hf,Ii h hf⟩
theorem Be {p:dG} (h:b7 p=0):cU (un p):=by
 obtain⟨f,hf,e⟩:=Dh h
 rw[e];exact hf.valid (de.1 h)
theorem Le {p:dG} (h:b7 p=0):(un p).vars=p.vars∧(un p).start=p.start∧(un p).next=p.next∧(un p).dX.length=p.dX.length∧(un p).dX.length=p.next.length:=by
 obtain⟨f,hf,e⟩:=Dh h
 have:=(de.1 h).pl
 rw[e];exact⟨F,F,F,by simp[C5,lD,this],by simp[C5,lD]⟩
theorem LaV.ok {p:dG} {l:La} (h:LaV p.d l):pa p l:=⟨h.l0,h.pw,h.lw⟩
theorem O7 {p:dG} (h:b7 p=0) {l:La} (hl:pa p l):mW p l.at%2=mW (un p) l.at%2:=by
 have hp:=de.1 h
 obtain⟨f,hf,e⟩:=Dh h
 have:=(hf.run hp hp.val.s0 hp.val.s1 hl).1
 rw[e]
 exact this
theorem vG {p:dG} (h:wJ p=0):b7 p=0∧ ¬16∈p.dX:=by
 unfold wJ at h
 by_cases h1:b7 p=0
 ·rw[ar (by simp[h1])]at h
  refine⟨h1,fun h2=>?_⟩
  rw[aA h2]at h;cases h
 ·rw[aA h1]at h;exact absurd h h1
theorem Di {p:dG} (h:wJ p=0):xf p=lD p (fun s=>((fC p s+1:Nat):Int)):=aA h
theorem LI {p:dG} (h:wJ p=0):cU (xf p):=by
 obtain⟨h1,h2⟩:=vG h
 have hp:=de.1 h1
 rw[Di h]
 refine wv hp fun s hs=>?_
 have h3:=hp.wR s
 have h4:=hp.tg hs
 have h5:fC p s≠16:=fun e=>h2 (by rw[e]at h4;exact bE h4)
 omega
theorem TG {p:dG} (h:wJ p=0) {l:La} (hl:pa p l):mW (xf p) l.at=mW p l.at+1:=by
 have hp:=de.1 (vG h).1
 obtain⟨s,w,hs,AN,V4,Zt,hI⟩:=C4 hp hl
 have mC:w≠ []:=fun e=>by rw[e]at AN;exact absurd AN (by decide)
 have hd:(xf p).d=p.d:=by rw[Di h];rfl
 rw[k7 (hI (xf p) hd),k7 (hI p F)]
 obtain⟨⟨u,hu,e⟩,hm⟩:=m_ p s mC
 have m2:=m_ (xf p) s mC
 rw[hd]at m2
 have K_: ∀u,u∈iK p.d s w→fC (xf p) u=fC p u+1:=fun u hu=>by
  rw[Di h,FR (zl hp w s hs V4 u hu)];omega
 exact m2.unique ⟨⟨u,hu,by rw[K_ u hu,e]⟩,fun v hv=>by rw[K_ v hv];exact Nat.succ_le_succ (hm v hv)⟩
theorem LJ {p:dG} (h:wJ p=0):(xf p).vars=p.vars∧(xf p).next=p.next:=by rw[Di h];exact⟨F,F⟩
theorem Td {p:dG} (h:wJ p=0) (l:La):qt (xf p) l=qt p l∧(qt p l=0→wP (xf p) l=wP p l+1):=by
 have hp:=(vG h).1
 have hc:=de.2 (LI h)
 have e1:qt p l=dA p.vars l:=by unfold qt;rw[ar (by rw[hp];simp)]
 have e2:qt (xf p) l=dA p.vars l:=by unfold qt;rw[ar (by rw[hc];simp),(LJ h).1]
 refine⟨e2.trans e1.symm,fun h9=>?_⟩
 unfold wP;rw[aA h9,aA (e2.trans (e1▸h9))]
 exact TG h (y5 (de.1 hp) (e1▸h9)).ok
theorem Jl {p:dG} (h:b7 p=0):wJ p=0∨wJ p=4:=by
 unfold wJ;rw[ar (by simp[h])]
 by_cases h2:16∈p.dX
 ·exact .inr (aA h2)
 ·exact .inl (ar h2)
theorem HO {p:dG} (h:b7 p=0):b7 (kE p)=0∧kE (kE p)=kE p∧(kE p).start=0∧(kE p).next.length≤p.next.length:=by
 have hp:=de.1 h
 have e:kE p=C_ p:=aA h
 have h2:=de.2 (vD hp)
 rw[e]
 refine⟨h2,?_,F,Tv hp⟩
 show(if b7 (C_ p)=0 then C_ (C_ p)else JC)=C_ p
 rw[aA h2];exact Ls hp
theorem O6 {p:dG} (h:b7 p=0) (l:La):qt (kE p) l=qt p l∧wP (kE p) l=wP p l:=by
 have hp:=de.1 h
 have e:kE p=C_ p:=aA h
 have h2:=de.2 (vD hp)
 have hv:(C_ p).vars=p.vars:=rfl
 rw[e]
 have e1:qt p l=dA p.vars l:=by unfold qt;rw[ar (by rw[h];simp)]
 have e2:qt (C_ p) l=dA p.vars l:=by unfold qt;rw[ar (by rw[h2];simp),hv]
 refine⟨e2.trans e1.symm,?_⟩
 unfold wP
 rw[e2,e1]
 split
 ·rename_i h9
  have hl:=(y5 hp h9).ok
  exact k7 (Tw (A:=p) (B:=C_ p) F (JH hp) (a:=l.at) hl.at (Tq hp hl))
 ·rfl
def nR (N:List Vx) (i:Nat):List Vx:=gu (N.take i)++N.drop i
theorem EX (N:List Vx) (i:Nat):(nR N i).length=N.length:=by
 unfold nR;rw[aI,iI,bC,List.length_drop];omega
theorem OZ (v:Vx):gu [v]=[v]:=rfl
theorem NT (N:List Vx):nR N 1=N:=by
 cases N with
 |nil=>rfl
 |cons v N=>show gu [v]++N=_;rw[OZ];rfl
theorem NU {N:List Vx} {i:Nat} (h:N.length≤i):nR N i=gu N:=by
 unfold nR;rw[aN h,List.drop_eq_nil_of_le h,bZ]
theorem Ta {N:List Vx} {i:Nat} (h:i≤N.length) {j:Nat} (hj:i≤j):(nR N i)[j]? =N[j]? :=by
 unfold nR
 have hl:(gu (N.take i)).length=i:=by rw[iI,bC];omega
 rw[bN (by omega),hl,List.getElem?_drop];congr 1;omega
theorem Tb {N:List Vx} {i:Nat} (h:i≤N.length) {j:Nat} (hj:j<i):(nR N i)[j]? =(gu (N.take i))[j]? :=by
 unfold nR
 rw[bG (by rw[iI,bC];omega)]
theorem Yq {N:List Vx} {i:Nat} (h:i≤N.length) {j:Nat} (hj:j<i):(nR N i).getD j ju=(gu (N.take i)).getD j ju:=by
 rw[aj,aj,Tb h hj]
def FC (N:List Vx) (i:Nat) (v:Vx):Nat:=oa (v.gV&&&((nR N i).getD v.par ju).gV) (iW (gu (N.take i)) v.par)
theorem FD {N:List Vx} {i:Nat} {v:Vx} (hi:1≤i) (hv:N[i]? =some v) (hp:v.par<i):gu (N.take (i+1))=gu (N.take i)++[⟨v.par,FC N i v⟩]:=by
 have hl:=(List.getElem?_eq_some_iff.1 hv).1
 have h2:N.take (i+1)=N.take i++[v]:=by rw[List.take_add_one,hv];rfl
 have mC:gu (N.take i)≠ []:=fun e=>by
  have:=iI (N.take i)
  rw[e,bC]at this
  simp at this;omega
 rw[h2,Bl]
 unfold wM FC
 rw[ar mC,Yq (by omega) hp]
theorem Lc {N:List Vx} {i:Nat} {v:Vx} (hi:1≤i) (hv:N[i]? =some v) (hp:v.par<i):nR N (i+1)=(nR N i).set i ⟨v.par,FC N i v⟩:=by
 have hl:=(List.getElem?_eq_some_iff.1 hv).1
 have hk:(gu (N.take i)).length=i:=by rw[iI,bC];omega
 unfold nR
 rw[FD hi hv hp,List.set_append_right _ _ (by omega),hk,eG,bw]
 congr 1
 rw[List.drop_eq_getElem_cons hl]
 rfl
theorem O0 {N:List Vx} {i:Nat} {v:Vx} (hi:1≤i) (hv:N[i]? =some v) (hp:v.par<i) (p:Nat):iW (gu (N.take (i+1))) p=if v.par=p then iW (gu (N.take i)) p|||FC N i v else iW (gu (N.take i)) p:=by
 have hl:=(List.getElem?_eq_some_iff.1 hv).1
 have hk:(gu (N.take i)).length=i:=by rw[iI,bC];omega
 rw[FD hi hv hp]
 unfold iW
 rw[List.drop_append_of_le_length (by omega),ep]
 rfl
theorem Tc (N:List Vx) (p:Nat):iW (gu (N.take 1)) p=0:=by
 cases N with
 |nil=>rfl
 |cons v N=>rfl
theorem CZ {nv:List Vx} {i:Nat} (h:i<nv.length):dO nv i=uz nv (zZ (uz nv) i):=by
 unfold dO fa
 rw[aj,pX _ h];rfl
theorem Jw {nv:List Vx} {i j:Nat} (h:i≤nv.length) (hj:j<i):(zZ (uz nv) i).getD j false=dO nv j:=by
 rw[CZ (by omega),aj,pX _ hj];rfl
theorem KO {nv:List Vx} {i:Nat} {v:Vx} (hv:nv[i]? =some v) (hp:1≤i→v.par<i):dO nv i=((decide (0<i)&&(dO nv v.par||decide (iW nv v.par=(nv.getD v.par ju).gV)))||decide (v.gV=0)):=by
 have hl:=(List.getElem?_eq_some_iff.1 hv).1
 have h2:nv.getD i ju=v:=by rw[aj,hv];rfl
 rw[CZ hl]
 have hG:(zZ (uz nv) i).length=i:=jO _ _
 have Zy: ∀j,j<i→(zZ (uz nv) i).getD j false=dO nv j:=fun j hj=>Jw (by omega) hj
 generalize zZ (uz nv) i=G at hG Zy
 unfold uz
 simp only[hG,h2]
 by_cases c:0<i
 ·rw[Zy _ (hp c)]
 ·rw[bT c];rfl
theorem O3 {nv:List Vx} {i:Nat} (h:i<nv.length):zZ (uz nv) (i+1)=zZ (uz nv) i++[dO nv i]:=by rw[CZ h];rfl
theorem XI {es:List Ed} {x m n:Nat} (h: ∀e∈es,e.to.toNat<n):qq es x m<2^n:=by
 refine Nat.lt_pow_two_of_testBit _ fun i hi=>?_
 cases c:(qq es x m).testBit i with
 |false=>rfl
 |true=>
  obtain⟨e,he,_,_,e4⟩:=uy.1 c
  have:=h e he;omega
def lx (q:Int×List UInt8):Value:=.agg #[.int .i64 q.1,str q.2]
theorem sC {P:Program} {T:TypeId} (h:P.underlying T=some .string) (d:Nat) (a b:List UInt8) (w:World):(Op.equalIn (d+1) T (str a) (str b)).run P w=.ok (decide (a=b)) w:=by
 rw[Op.equalIn]
 simp[bD h,str,Nr]
structure Gt (P:Program) (kt:TypeId) (f1 f2:Field):Prop where
 under:P.underlying kt=some (.struct #[f1,f2])
 u1:P.underlying f1.type=some (.int .i64)
 u2:P.underlying f2.type=some .string
 o1:f1.offset=0
 o2:f2.offset=1
 n1:f1.name≠ "_"
 n2:f2.name≠ "_"
 held:P.stoodInHeld kt=false
section
variable {P:Program} {kt:TypeId} {f1 f2:Field} (h:Gt P kt f1 f2)
include h
theorem Gt.p1 (c:Int×List UInt8) (w:World):(part f1.type #[.int .i64 c.1,str c.2] f1.offset).run P w=.ok (.int .i64 c.1) w:=by
 simp[part,ja h.u1,nr,h.o1]
theorem Gt.p2 (c:Int×List UInt8) (w:World):(part f2.type #[.int .i64 c.1,str c.2] f2.offset).run P w=.ok (str c.2) w:=by
 simp[part,ja h.u2,nr,h.o2]
theorem Gt.equal (a b:Int×List UInt8) (w:World):(Op.equal kt (lx a) (lx b)).run P w=.ok (decide (a=b)) w:=by
 show(Op.equalIn (9998+1+1) kt (lx a) (lx b)).run P w=_
 rw[Op.equalIn]
 simp[bD h.under,lx,h.held,h.n1,h.n2,h.p1,h.p2,su h.u1,sC h.u2]
 by_cases e1:a.1=b.1
 ·by_cases e2:a.2=b.2
  ·have:a=b:=by cases a;cases b;simp_all
   simp[e1,e2,this]
  ·have: ¬a=b:=fun e=>e2 (by rw[e])
   simp[e1,e2,this]
 ·have: ¬a=b:=fun e=>e1 (by rw[e])
  simp[e1,this]
theorem l6:fZ P kt lx where
 check:=fun e a w=>by
  show(Instr.checkKey e (9998+1+1) kt _).run P w=_
  rw[Instr.checkKey]
  have He: ∀(v:Int),(Instr.checkKey e (9998+1) f1.type (.int .i64 v)).run P w=.ok () w:=fun v=>by
   rw[Instr.checkKey];simp[bD h.u1]
  have Jj: ∀(v:List UInt8),(Instr.checkKey e (9998+1) f2.type (str v)).run P w=.ok () w:=fun v=>by
   rw[Instr.checkKey];simp[bD h.u2,str]
  simp[bD h.under,lx,h.n1,h.n2,h.p1,h.p2,He,Jj]
 find:=fun es ks a w O4=>by
  have ask: ∀(es:List MapEntry) (ks:List (Int×List UInt8)) (i:Nat),es.map (·.key)=ks.map lx→(Instr.findAsking kt (lx a) es i).run P w=.ok (jC a ks es i) w:=by
   intro es
   induction es with
   |nil=>intro ks i h;cases ks<;>simp_all[Instr.findAsking,jC]
   |cons e es ih=>
    intro ks i hh
    cases ks with
    |nil=>simp at hh
    |cons b ks=>
     simp only[bL,List.cons.injEq]at hh
     simp only[Instr.findAsking,hh.1,Sem.run_bind,h.equal,Result.andThen_ok,jC]
     by_cases e:a=b
     ·simp[e]
     ·simp[e,ih ks (i+1) hh.2]
  have key: ∀(es:List MapEntry) (ks:List (Int×List UInt8)),es.map (·.key)=ks.map lx→Instr.findNow (.struct #[f1,f2]) (lx a) es 0=some (jC a ks es 0)∨Instr.findNow (.struct #[f1,f2]) (lx a) es 0=none:=by
   intro es ks hh
   cases es with
   |nil=>left;cases ks<;>simp_all[Instr.findNow,jC]
   |cons e es=>right;simp[Instr.findNow,Instr.sameNow]
  rcases key es ks O4 with hk|hk
  ·simp[Instr.findKey,bD h.under,hk]
  ·simp[Instr.findKey,bD h.under,hk,ask es ks 0 O4]
end
def aeH {α β:Type} (K:α→Value) (V:β→Value) (m:Nat) (l:List (α×β)) (a:α) (z:Value) (c:Nat) (w:World):Prop:=
 ∃es:Array MapEntry,w.heap[m]? =some (.map (es.push {key:=K a,val:=z,born:=c}) (c+1))∧es.toList.map (fun e=>(e.key,e.val))=(l.map fun q=>(K q.1,V q.2))∧(es.toList.map (·.born)).Nodup∧ ∀e∈es.toList,e.born<c
def BK {α β:Type} (K:α→Value) (V:β→Value) (m:Nat) (l:List (α×β)) (a:α) (z:Value) (c:Nat):Item where
 blocks:=[m]
 P:=aeH K V m l a z c
 loc:=fun w w' h hp=>by
  obtain⟨es,h1,h2⟩:=hp
  exact⟨es,by rw[h m (by simp)];exact h1,h2⟩
section
variable {P:Program} {r:Option Nat} {base:World} {n:Nat} {ρ:Env} {O:List Item} {K':Env→List Item→Prop} {d:Nat} {t:TypeId} {p:String} {af:Array Edge} {g:Option (Nat×Bool)}
theorem Iq (i:Nat) {x y:Operand} {T kt vt:TypeId} {m s gy:Nat} {α β:Type} [DecidableEq α] {K:α→Value} {V:β→Value} {l:List (α×β)} {a:α} {z:Value} (hu:P.underlying T=some (.map kt vt)) (hz:gq P vt z s gy) (hk:fZ P kt K) (hx:ev ρ x=.map (some m)) (hy:ev ρ y=K a)
  (hO:O[i]? =some (cM K V m l)) (sX:a∉l.map Prod.fst) (h: ∀c:Nat,K' (js ρ d (.tuple #[z,.int .i64 (c:Int)])) (O.set i (BK K V m l a z c))) (hn:Nat.blt d n=true:=by rfl):LT P r base n ⟨some d,.mapEntry T x y,t,p,af,g⟩ ρ O K':=
 fI hn fun w M hI=>by
  obtain⟨es,d_,h1,h2,h3,h4⟩:=hI.holds (cM K V m l) (a_ _ (bE hO))
  have hf:=hk.find es.toList (l.map Prod.fst) a w (w6 h2)
  rw[sW _ _ _ sX]at hf
  have hg:(getObj m).run P w=.ok (.map es d_) w:=by simp[getObj,Sem.run,h1]
  have hs: ∀o,(setObj m o).run P w=.ok () (iU w m o):=fun o=>by simp[setObj,Sem.run,h1,iU]
  have fM:=(Array.getElem?_eq_some_iff.1 h1).1
  refine⟨_,iU w m (.map (es.push {key:=K a,val:=z,born:=d_}) (d_+1)),O.set i (BK K V m l a z d_),?_,?_,h d_⟩
  ·simp only[execOp,hx,hy,Instr.mapEntry,Sem.run_bind,bD hu,Result.andThen_ok,hg,hk.check,hf,gI hz,hs,Sem.run_pure,goInt]
  ·rw[←kV hO]
   exact hI.pH (kU hO) F F F (by rw[mY];exact aV _) (fun k _ hk=>kC (fun e=>hk (by simp[cM,e]))) ⟨es,lK fM,h2,h3,h4⟩ (fun k hk=>.inl hk) (by simp[BK])
theorem Dt (i:Nat) {x y q:Operand} {T:TypeId} {m c:Nat} {α β:Type} {K:α→Value} {V:β→Value} {l:List (α×β)} {a:α} {v:β} {z:Value} (hx:ev ρ x=.map (some m)) (hy:ev ρ y=.int .i64 (c:Int)) (hq:ev ρ q=V v)
  (hO:O[i]? =some (BK K V m l a z c)) (h:K' ρ (O.set i (cM K V m (l++[(a,v)])))):LT P r base n ⟨none,.entryStore T x y q,t,p,af,g⟩ ρ O K':=
 jL fun w M hI=>by
  obtain⟨es,h1,h2,h3,h4⟩:=hI.holds (BK K V m l a z c) (a_ _ (bE hO))
  have hg:(getObj m).run P w=.ok (.map (es.push {key:=K a,val:=z,born:=c}) (c+1)) w:=by simp[getObj,Sem.run,h1]
  have hs: ∀o,(setObj m o).run P w=.ok () (iU w m o):=fun o=>by simp[setObj,Sem.run,h1,iU]
  have fM:=(Array.getElem?_eq_some_iff.1 h1).1
  have kK:es.findIdx? (fun e=>(e.born:Int)==(c:Int))=none:=by
   rw[Array.findIdx?_eq_none_iff]
   intro e he
   have:=h4 e (by simpa using he)
   simp;omega
  have hfi:(es.push {key:=K a,val:=z,born:=c}).findIdx? (fun e=>(e.born:Int)==(c:Int))=some es.size:=by
   rw[Array.findIdx?_push,kK];simp
  refine⟨iU w m (.map (es.push {key:=K a,val:=V v,born:=c}) (c+1)),O.set i (cM K V m (l++[(a,v)])),?_,?_,h⟩
  ·have hm:(es.push {key:=K a,val:=z,born:=c}).modify es.size (fun e=> {e with val:=V v})=es.push {key:=K a,val:=V v,born:=c}:=by
    apply Array.ext_getElem?
    intro k
    rw[Array.getElem?_modify]
    by_cases hk:es.size=k
    ·subst hk;simp
    ·rw[ar hk]
     rw[Array.getElem?_push,Array.getElem?_push,ar (fun e=>hk (Eq.symm e)),ar (fun e=>hk (Eq.symm e))]
   simp only[execOp,hx,hy,hq,Instr.entryStore,Sem.run_bind,hg,Result.andThen_ok,asInt,asIntOf,Sem.run_pure,hfi,hs,hm]
  ·rw[←kV hO]
   refine hI.pH (kU hO) F F F (by rw[mY];exact aV _) (fun k _ hk=>kC (fun e=>hk (by simp[BK,e]))) ⟨_,_,lK fM,?_,?_,?_⟩ (fun k hk=>.inl hk) (by simp[cM])
   ·simp[h2]
   ·simp only[Array.toList_push,aL,bL,df,List.nodup_append]
    refine⟨h3,by simp,fun x hx y hy e=>?_⟩
    obtain⟨u,hu,rfl⟩:=List.mem_map.1 hx
    simp at hy;have:=h4 u hu;omega
   ·intro e he
    simp only[Array.toList_push,cI,bM]at he
    rcases he with he|rfl
    ·have:=h4 e he;omega
    ·simp
end
def iv (q:List UInt8×Int):Value:=.agg #[str q.1,.int .i64 q.2]
structure E4 (P:Program) (kt:TypeId) (f1 f2:Field):Prop where
 under:P.underlying kt=some (.struct #[f1,f2])
 u1:P.underlying f1.type=some .string
 u2:P.underlying f2.type=some (.int .i64)
 o1:f1.offset=0
 o2:f2.offset=1
 n1:f1.name≠ "_"
 n2:f2.name≠ "_"
 held:P.stoodInHeld kt=false
section
variable {P:Program} {kt:TypeId} {f1 f2:Field} (h:E4 P kt f1 f2)
include h
theorem E4.p1 (c:List UInt8×Int) (w:World):(part f1.type #[str c.1,.int .i64 c.2] f1.offset).run P w=.ok (str c.1) w:=by
 simp[part,ja h.u1,nr,h.o1]
theorem E4.p2 (c:List UInt8×Int) (w:World):(part f2.type #[str c.1,.int .i64 c.2] f2.offset).run P w=.ok (.int .i64 c.2) w:=by
 simp[part,ja h.u2,nr,h.o2]
theorem E4.equal (a b:List UInt8×Int) (w:World):(Op.equal kt (iv a) (iv b)).run P w=.ok (decide (a=b)) w:=by
 show(Op.equalIn (9998+1+1) kt (iv a) (iv b)).run P w=_
 rw[Op.equalIn]
 simp[bD h.under,iv,h.held,h.n1,h.n2,h.p1,h.p2,sC h.u1,su h.u2]
 by_cases e1:a.1=b.1
 ·by_cases e2:a.2=b.2
  ·have:a=b:=by cases a;cases b;simp_all
   simp[e1,e2,this]
  ·have: ¬a=b:=fun e=>e2 (by rw[e])
   simp[e1,e2,this]
 ·have: ¬a=b:=fun e=>e1 (by rw[e])
  simp[e1,this]
theorem oz:fZ P kt iv where
 check:=fun e a w=>by
  show(Instr.checkKey e (9998+1+1) kt _).run P w=_
  rw[Instr.checkKey]
  have He: ∀(v:List UInt8),(Instr.checkKey e (9998+1) f1.type (str v)).run P w=.ok () w:=fun v=>by
   rw[Instr.checkKey];simp[bD h.u1,str]
  have Jj: ∀(v:Int),(Instr.checkKey e (9998+1) f2.type (.int .i64 v)).run P w=.ok () w:=fun v=>by
   rw[Instr.checkKey];simp[bD h.u2]
  simp[bD h.under,iv,h.n1,h.n2,h.p1,h.p2,He,Jj]
 find:=fun es ks a w O4=>by
  have ask: ∀(es:List MapEntry) (ks:List (List UInt8×Int)) (i:Nat),es.map (·.key)=ks.map iv→(Instr.findAsking kt (iv a) es i).run P w=.ok (jC a ks es i) w:=by
   intro es
   induction es with
   |nil=>intro ks i h;cases ks<;>simp_all[Instr.findAsking,jC]
   |cons e es ih=>
    intro ks i hh
    cases ks with
    |nil=>simp at hh
    |cons b ks=>
     simp only[bL,List.cons.injEq]at hh
     simp only[Instr.findAsking,hh.1,Sem.run_bind,h.equal,Result.andThen_ok,jC]
     by_cases e:a=b
     ·simp[e]
     ·simp[e,ih ks (i+1) hh.2]
  have key: ∀(es:List MapEntry) (ks:List (List UInt8×Int)),es.map (·.key)=ks.map iv→Instr.findNow (.struct #[f1,f2]) (iv a) es 0=some (jC a ks es 0)∨Instr.findNow (.struct #[f1,f2]) (iv a) es 0=none:=by
   intro es ks hh
   cases es with
   |nil=>left;cases ks<;>simp_all[Instr.findNow,jC]
   |cons e es=>right;simp[Instr.findNow,Instr.sameNow]
  rcases key es ks O4 with hk|hk
  ·simp[Instr.findKey,bD h.under,hk]
  ·simp[Instr.findKey,bD h.under,hk,ask es ks 0 O4]
end
section
variable {P:Program} {r:Option Nat} {base:World} {n:Nat} {ρ:Env} {O:List Item} {K:Env→List Item→Prop} {d:Nat} {dst:Option Nat} {t:TypeId} {p:String} {af:Array Edge} {g:Option (Nat×Bool)}
theorem Qz {x:Operand} {T E U:TypeId} (hu:P.underlying T=some (.pointer E)) (hx:ev ρ x=.pointer none):QT P base ⟨dst,.binOp .eql T x (.const (.pointer none)) U,t,p,af,g⟩ ρ O (.bool true):=fun w _=>by
 have h:(Op.equal T (.pointer none) (.pointer none)).run P w=.ok true w:=by
  show(Op.equalIn (9999+1) T _ _).run P w=_
  rw[Op.equalIn];simp[bD hu]
 have hc:ev ρ (.const (.pointer none))=.pointer none:=rfl
 simp[execOp,hx,hc,eqGuard,binOp,h]
theorem L0 {x:Operand} {T E U:TypeId} {a:Addr} (hu:P.underlying T=some (.pointer E)) (hx:ev ρ x=.pointer (some a)):QT P base ⟨dst,.binOp .eql T x (.const (.pointer none)) U,t,p,af,g⟩ ρ O (.bool false):=fun w _=>by
 have h:(Op.equal T (.pointer (some a)) (.pointer none)).run P w=.ok false w:=by
  show(Op.equalIn (9999+1) T _ _).run P w=_
  rw[Op.equalIn];simp[bD hu]
 have hc:ev ρ (.const (.pointer none))=.pointer none:=rfl
 simp[execOp,hx,hc,eqGuard,binOp,h]
theorem QA {x y:Operand} {T E U:TypeId} {a:Addr} {j:TypeInfo} (hu:P.underlying T=some (.pointer E)) (hj:P.info? E=some j) (hx:ev ρ x=.pointer (some a)) (hy:ev ρ y=.pointer (some a)):QT P base ⟨dst,.binOp .neq T x y U,t,p,af,g⟩ ρ O (.bool false):=fun w _=>by
 have h:=Lib.run_neq_ptr_same (P:=P) (w:=w) a hu hj
 simp[execOp,hx,hy,eqGuard,h]
theorem Ir {x:Operand} {S D E T:TypeId} {j:TypeInfo} {b:Nat} {cs:List Value} (i:Nat) (hs:P.underlying S=some (.pointer E)) (hd:P.underlying D=some .unsafePointer) (hj:P.info? E=some j) (EH:j.size≠0) (hx:ev ρ x=.pointer (some ⟨b,0,none⟩))
  (hO:O[i]? =some (eL b (.cells cs.toArray T (0,0)))) (hl:0<cs.length):QT P base ⟨dst,.convert S D x,t,p,af,g⟩ ρ O (.pointer (some ⟨b,0,none⟩)):=fun w hI=>by
 have hb:w.heap[b]? =some (.cells cs.toArray T (0,0)):=hI.holds _ (bE hO)
 have Zg:w.shape? b=some (T,cs.length):=by simp[World.shape?,hb]
 have h:=Lib.run_to_unsafe (P:=P) (w:=w) ⟨b,0,none⟩ hs hd hj EH Zg hl
 simp[execOp,hx,h]
theorem Du {x:Operand} {S D T:TypeId} {j:TypeInfo} {b:Nat} {cs:List Value} (i:Nat) (hs:P.underlying S=some .unsafePointer) (hd:P.underlying D=some (.pointer T)) (hj:P.info? T=some j) (hx:ev ρ x=.pointer (some ⟨b,0,none⟩))
  (hO:O[i]? =some (eL b (.cells cs.toArray T (0,0)))) (QB:liesAt P P.depth T (cs.length/P.cellsOf T) 0 T 1=true):QT P base ⟨dst,.convert S D x,t,p,af,g⟩ ρ O (.pointer (some ⟨b,0,none⟩)):=fun w hI=>by
 have hb:w.heap[b]? =some (.cells cs.toArray T (0,0)):=hI.holds _ (bE hO)
 have Zg:w.shape? b=some (T,cs.length):=by simp[World.shape?,hb]
 have h:=Lib.run_from_unsafe (P:=P) (w:=w) ⟨b,0,none⟩ hs hd hj Zg QB
 simp[execOp,hx,h]
theorem Is {f:FuncId} {fn:Func} {x:Operand} {w5:Array TypeId} {v:Value} (hf:P.funcs[f]? =some fn) (Ex:(fn.name== "runtime.NumGoroutine")=false) (hb:fn.body.isNone=true) (hn:Extern.findNext fn=none) (he:Extern.find fn=some Extern.AbiNoEscape.same) (hx:ev ρ x=v):
  QT P base ⟨dst,.call ⟨.value (.func f),#[x],w5⟩,t,p,af,g⟩ ρ O v:=fun w _=>by
 have h:=run_callFunc_extern hf Ex hb hn he #[v] w
 rw[Lib.run_noEscape]at h
 have hc:ev ρ (.func f)=.func (.func f) #[] #[]:=rfl
 simp[execOp,resolve,hx,hc,invoke,Deferred.ofValue,h]
theorem yz {x y:Operand} {T U:TypeId} {a b:List UInt8} (hl:a.length+b.length≤9223372036854775807) (hx:ev ρ x=str a) (hy:ev ρ y=str b):QT P base ⟨dst,.binOp .add T x y U,t,p,af,g⟩ ρ O (str (a++b)):=fun w _=>by
 have e:(ByteArray.mk a.toArray++ByteArray.mk b.toArray:ByteArray)=ByteArray.mk (a++b).toArray:=by
  apply ByteArray.ext;simp
 have h1:(ByteArray.mk a.toArray).size=a.length:=by show a.toArray.size=_;simp
 have h2:(ByteArray.mk b.toArray).size=b.length:=by show b.toArray.size=_;simp
 simp[execOp,hx,hy,eqGuard,binOp,str,Op.stringOp,e,h1,h2]
 omega
theorem Gv {x:Operand} {T:TypeId} {b:Option Addr} {m c c' k:Nat} {E:TypeId} {cs:List Value} (hx:ev ρ x=.slice b m c) (hc:c≠0∨b=none):QT P base ⟨dst,.call ⟨.builtin .unsafeSliceData,#[x],#[T]⟩,t,p,af,g⟩ ρ O (.pointer b):=fun w _=>by
 cases b with
 |none=>simp[execOp,resolve,hx,invoke,builtin,Lib.run_unsafeSliceData_nil]
 |some a=>
  have h0:c≠0:=hc.resolve_right (fun e=>by cases e)
  simp[execOp,resolve,hx,invoke,builtin,Lib.run_unsafeSliceData_row _ _ _ _ _ _ h0]
theorem It {e:TypeId} (hc:P.cellsOf e=1) (count off n:Nat) (hn:off+n≤count):liesAt P P.depth e count off e n=true:=by
 have hd:P.depth=(2*(P.types.size+Made.depth)+1)+1:=rfl
 rw[hd]
 simp only[liesAt,Bool.or_eq_true]
 left
 rw[hd]
 simp[rowAt,hc,hn,sameLayout]
 exact .inl (Nat.mod_one _)
theorem r8 {w:World} (pt it ty e:TypeId) (hp:P.underlying pt=some (.pointer e)) (hc:P.cellsOf e=1) (b o cells:Nat) (Zg:w.shape? b=some (e,cells)) (l:List UInt8) (h0:l≠ []) (hn:o+l.length≤cells) (h63:l.length≤9223372036854775807)
  (xX: ∀j x,l[j]? =some x→w.cell? ((⟨b,o,none⟩:Addr).add j)=some (.int .u8 x.toNat)):
  (Builtin.unsafeString_ #[pt,it] ty #[.pointer (some ⟨b,o,none⟩),.int .i64 l.length]).run P w=.ok (.string ⟨l.toArray⟩) (w.freeze ⟨b,o,none⟩ l.length):=by
 have hl:l.length≠0:=by simpa using h0
 have Zp:=Lib.run_loadBytes (P:=P) w l ⟨b,o,none⟩ .empty xX
 have QB:=It (P:=P) hc (cells/P.cellsOf e) o l.length (by rw[hc];simpa using hn)
 have aiB: ¬(9223372036854775807:Int)<(l.length:Int):=by omega
 have aiC:Builtin.unsafeString_ #[pt,it] ty #[.pointer (some ⟨b,o,none⟩),.int .i64 l.length]=
   (do
    let n←asInt (.int .i64 l.length)
    if n<0 then runtimePanic (.error "unsafe.String: len out of range")
    if n>IntKind.i64.max then unsupported (.unsafePointer "String: a length above the largest int")
    if n=0 then pure (.string .empty)
    else if←variablesAt ⟨b,o,none⟩ (←elemOf pt) n.toNat then do
     let s←loadBytes ⟨b,o,none⟩ .empty n.toNat
     freeze ⟨b,o,none⟩ n.toNat
     pure (.string s)
    else unsupported (.unsafePointer "String: not so many bytes at ptr")):=rfl
 rw[aiC]
 have Xe:IntKind.i64.max=9223372036854775807:=rfl
 have Ev: ¬(l.length:Int)<0:=by omega
 simp[asInt,asIntOf,Xe,aiB,Ev,hl,variablesAt,Zg,elemOf,run_underlying hp,QB,Zp]
theorem Inv.freeze {it:Item} {w:World} {a:Addr} {m:Nat} (hI:Inv base (it::O) w) (ha:a.block∈it.blocks):Inv base O (w.freeze a m):=by
 have hb: ∀b,b∉it.blocks→(w.freeze a m).heap[b]? =w.heap[b]? :=fun b hb=>by
  unfold World.freeze
  split
  ·rfl
  ·simp only[Array.getElem?_modify]
   rw[ar (fun e=>hb (by rw[←e];exact ha))]
 have hs:w.heap.size≤(w.freeze a m).heap.size:=by unfold World.freeze;split<;>simp
 have ho:(w.freeze a m).os=w.os:=by unfold World.freeze;split<;>rfl
 have ht:(w.freeze a m).tape=w.tape:=by unfold World.freeze;split<;>rfl
 have hp:(w.freeze a m).output=w.output:=by unfold World.freeze;split<;>rfl
 exact hI.step (A:=[]) (N:=[]) ho ht hp hs (fun b _ hn=>hb b hn) (fun x hx=>(List.not_mem_nil hx).elim) (fun x hx=>(List.not_mem_nil hx).elim) List.nodup_nil
theorem zQ {x y:Operand} {PT IT E:TypeId} {b:Option Addr} {c:Nat} {l:List UInt8} {O1:List Item} (hp:P.underlying PT=some (.pointer E)) (hc:P.cellsOf E=1) (hx:ev ρ x=.pointer b) (hy:ev ρ y=.int .i64 (l.length:Int)) (h63:l.length≤9223372036854775807) (hO:O=ak b c E 1 (gA l)::O1)
  (h:K (js ρ d (str l)) O1) (hn:Nat.blt d n=true:=by rfl):LT P r base n ⟨some d,.call ⟨.builtin .unsafeString,#[x,y],#[PT,IT]⟩,t,p,af,g⟩ ρ O K:=
 fI hn fun w M hI=>by
  subst hO
  by_cases h0:l=[]
  ·subst h0
   have e:str []=.string .empty:=rfl
   refine⟨str [],w,O1,?_,hI.sub (List.sublist_cons_self _ _),h⟩
   have hr:=Lib.run_unsafeString_none (P:=P) (w:=w) PT IT t b
   simp[execOp,resolve,hx,hy,invoke,builtin,hr,e]
  ·have jU:rowP b c E 1 (gA l) w:=hI.holds _ List.mem_cons_self
   cases b with
   |none=>obtain⟨he,_⟩:=jU;exact absurd (by simpa using he) h0
   |some a=>
    obtain⟨bk,o,sp⟩:=a
    obtain⟨AL,full,hb,h1,h2,h3⟩:=jU
    simp only at AL hb h1 h2 h3
    subst AL
    have Zg:w.shape? bk=some (E,full.size):=by simp[World.shape?,hb]
    simp only[ag,Nat.mul_one]at h1 h2
    have hr:=r8 (P:=P) (w:=w) PT IT t E hp hc bk o full.size Zg l h0 (by omega) h63 (fun j z hz=>by
     have hj:=(List.getElem?_eq_some_iff.1 hz)
     have h4:=h3 j (by simpa using hj.1)
     simp only[eV]at h4
     rw[hj.2]at h4
     rw[tV]
     simp only[World.cell?,hb]
     simpa using h4)
    refine⟨str l,w.freeze ⟨bk,o,none⟩ l.length,O1,?_,Inv.freeze (it:=ak (some ⟨bk,o,none⟩) c E 1 (gA l)) hI (by simp[ak]),h⟩
    simp[execOp,resolve,hx,hy,invoke,builtin,hr,str]
end
open Go.RowKit Go.Sort
theorem Aj {α:Type} [Inhabited α] (enc:α→Value) (off:Nat) (d:Array α) (c:Array Value):(putCells enc off d c).size=c.size:=by simp[putCells]
theorem Ft {α:Type} [Inhabited α] (enc:α→Value) (off:Nat) (d:Array α) (c:Array Value) {i:Nat} (hi:i<d.size) (hc:off+i<c.size):(putCells enc off d c)[off+i]? =some (enc d[i]!):=by
 simp only[putCells,Array.getElem?_mapIdx,Array.getElem?_eq_getElem hc,Option.map_some]
 rw[aA ⟨by omega,by omega⟩,show off+i-off=i by omega]
theorem Inv.Oy {base w:World} {O:List Item} {i qi off cap:Nat} {T:TypeId} {zs ys:List Int} (hI:Inv base O w) (hO:O[i]? =some (ak (some ⟨qi,off,none⟩) cap T 1 (ints zs))) (hl:ys.length=zs.length) (n:Nat) (os:Array Obj):
  Inv base (O.set i (ak (some ⟨qi,off,none⟩) cap T 1 (ints ys))) (Go.Sort.grow (putRow (Value.int .i64) (Sort.ahead w n) qi off ys.toArray) os):=by
 obtain⟨_,full,hb,nN,GJ,GG⟩:=hI.row hO
 have fM:qi<w.heap.size:=(Array.getElem?_eq_some_iff.1 hb).1
 have OF:(Go.Sort.grow (putRow (Value.int .i64) (Sort.ahead w n) qi off ys.toArray) os).heap=(w.heap.modify qi (onCells (putCells (Value.int .i64) off ys.toArray)))++os:=rfl
 refine hI.pH hO F F F ?_ (fun b Zp hk=>?_) ⟨F,putCells (Value.int .i64) off ys.toArray full,?_,?_,?_,fun j hj=>?_⟩ (fun k hk=>.inl hk) (by simp[ak])
 ·rw[OF];simp
 ·rw[OF,Array.getElem?_append_left (by simpa using Zp),Array.getElem?_modify,ar (fun e=>hk (by simp[ak,e]))]
 ·rw[OF,Array.getElem?_append_left (by simpa using fM),Array.getElem?_modify,aA F,hb];rfl
 ·simp only[ag]at nN⊢;omega
 ·rw[Aj];exact GJ
 ·have zX:j<ys.length:=by simpa using hj
  have WD:zs.length≤cap*1:=by simpa using nN
  have amE:off+cap*1≤full.size:=GJ
  show(putCells (Value.int .i64) off ys.toArray full)[off+j]? =_
  rw[Ft _ _ _ _ (by simpa using zX) (by omega)]
  simp[zX]
theorem Bk {base w:World} {O:List Item} {i qi off cap:Nat} {T:TypeId} {zs:List Int} (hI:Inv base O w) (hO:O[i]? =some (ak (some ⟨qi,off,none⟩) cap T 1 (ints zs))):Holds (Value.int .i64) w qi off zs.toArray∧qi<w.heap.size:=by
 obtain⟨_,full,hb,nN,GJ,GG⟩:=hI.row hO
 refine⟨fun j hj=>?_,(Array.getElem?_eq_some_iff.1 hb).1⟩
 have zX:j<zs.length:=by simpa using hj
 have h9:=GG j (by simpa using zX)
 constructor
 ·simp only[World.cell?,hb]
  simp at h9
  simp[h9,zX]
 ·simp[World.frozen?,hb]
theorem wi (zs:List Int) (y:Int):y∈Lib.compact zs↔y∈zs:=by
 unfold Lib.compact Lib.compactUpTo
 simp only[e_,List.mem_filter,iH]
 constructor
 ·rintro⟨j,⟨hj,_⟩,rfl⟩
  rw[getElem!_pos zs.toArray j (by simpa using hj)];simp
 ·intro hy
  have hex: ∃j,j<zs.length∧zs.toArray[j]! =y:=by
   obtain⟨j,hj,e⟩:=List.getElem_of_mem hy
   exact⟨j,hj,by rw[getElem!_pos zs.toArray j (by simpa using hj)];simpa using e⟩
  suffices main: ∀j,j<zs.length→zs.toArray[j]! =y→ ∃i,(i<zs.length∧Lib.keeps zs.toArray i=true)∧zs.toArray[i]! =y by
   obtain⟨j,hj,e⟩:=hex;exact main j hj e
  intro j
  induction j with
  |zero=>exact fun hj e=>⟨0,⟨hj,by simp[Lib.keeps]⟩,e⟩
  |succ j ih=>
   intro hj e
   by_cases h:zs.toArray[j]! =y
   ·exact ih (by omega) h
   ·exact⟨j+1,⟨hj,by simp only[Lib.keeps,bo];exact .inr (by rw[e];exact fun h'=>h h'.symm)⟩,e⟩
theorem Fg {zs:List Int} (h:zs.Pairwise (· ≤ ·)):(Lib.compact zs).Pairwise (· < ·):=by
 have mB: ∀i j,i≤j→j<zs.length→zs.toArray[i]! ≤zs.toArray[j]! :=fun i j wK hj=>by
  rw[getElem!_pos zs.toArray i (by simp;omega),getElem!_pos zs.toArray j (by simpa using hj)]
  rcases Nat.lt_or_ge i j with h1|h1
  ·simpa using List.pairwise_iff_getElem.1 h i j (by omega) hj h1
  ·have:i=j:=by omega
   subst this;exact Int.le_refl _
 unfold Lib.compact Lib.compactUpTo
 rw[List.pairwise_map]
 refine List.Pairwise.imp_of_mem ?_ (List.Pairwise.filter _ (List.pairwise_lt_range (n:=zs.length)))
 intro i j hi hj wK
 simp only[List.mem_filter,iH]at hi hj
 have h2:=hj.2
 simp only[Lib.keeps,bo]at h2
 have h1:=mB i (j-1) (by omega) (by omega)
 have h3:=mB (j-1) j (by omega) hj.1
 omega
abbrev jW (l:List Int):List Int:=l.mergeSort fun x y=>decide (x≤y)
theorem Ah (l:List Int):(jW l).Pairwise fun x y=>x≤y:=by
 have:=List.pairwise_mergeSort (le:=fun x y:Int=>decide (x≤y)) (fun a b c h1 h2=>by simp at*;omega) (fun a b=>by simp;omega) l
 exact this.imp fun h=>by simpa using h
theorem vq (l:List Nat):ints (l.map fun y:Nat=>(y:Int))=bn l:=by simp
theorem SQ {w:World} {b:Nat} {o:Obj} (h:w.heap[b]? =some o):iU w b o=w:=by
 have fM:=(Array.getElem?_eq_some_iff.1 h).1
 have e:w.heap.setIfInBounds b o=w.heap:=by
  apply Array.ext_getElem?
  intro i
  rw[Array.getElem?_setIfInBounds]
  by_cases c:b=i
  ·subst c;rw[aA F,aA fM,h]
  ·rw[ar c]
 show({w with heap:=_}:World)=w
 rw[e]
theorem Inv.KY {base w:World} {O:List Item} {i qi off cap:Nat} {T:TypeId} {zs ys Ya:List Int} (hI:Inv base O w) (hO:O[i]? =some (ak (some ⟨qi,off,none⟩) cap T 1 (ints zs))) (hl:(ys++Ya).length=zs.length) (n:Nat):
  Inv base (O.set i (ak (some ⟨qi,off,none⟩) cap T 1 (ints ys))) (putRow (Value.int .i64) (Sort.ahead w n) qi off (ys++Ya).toArray):=by
 have h:=hI.Oy (ys:=ys++Ya) hO hl n #[]
 have e:Go.Sort.grow (putRow (Value.int .i64) (Sort.ahead w n) qi off (ys++Ya).toArray) #[]=putRow (Value.int .i64) (Sort.ahead w n) qi off (ys++Ya).toArray:=by
  simp[Go.Sort.grow];rfl
 rw[e]at h
 have fM:i<O.length:=(List.getElem?_eq_some_iff.1 hO).1
 have h2:(O.set i (ak (some ⟨qi,off,none⟩) cap T 1 (ints (ys++Ya))))[i]? =some (ak (some ⟨qi,off,none⟩) cap T 1 (ints (ys++Ya))):=by simp[fM]
 obtain⟨_,full,hb,h3,h4,h5⟩:=h.row h2
 have h6:=h.setRow h2 (Nd:=ints ys) (full:=full) (by simp at h3⊢;omega) h4 fun j hj=>by
  have zX:j<ys.length:=by simpa using hj
  have:=h5 j (by simp;omega)
  rw[this];simp[List.getElem_append_left,zX]
 rw[List.set_set]at h6
 rwa[SQ hb]at h6
def jv (ps:List Nat):List Nat:=(Lib.compact (jW (ps.map fun y:Nat=>(y:Int)))).map Int.toNat
theorem Yt {ps:List Nat} {y:Int} (h:y∈Lib.compact (jW (ps.map fun y:Nat=>(y:Int)))): ∃x∈ps,y=(x:Int):=by
 rw[wi,List.mem_mergeSort]at h
 obtain⟨x,h1,h2⟩:=List.mem_map.1 h
 exact⟨x,h1,h2.symm⟩
theorem Cy (ps:List Nat):Lib.compact (jW (ps.map fun y:Nat=>(y:Int)))=(jv ps).map fun y:Nat=>(y:Int):=by
 unfold jv
 rw[List.map_map]
 conv=>lhs;rw[←List.map_id (Lib.compact (jW (ps.map fun y:Nat=>(y:Int))))]
 apply List.map_congr_left
 intro y hy
 obtain⟨x,_,rfl⟩:=Yt hy
 simp
theorem Jh {ps:List Nat} {x:Nat}:x∈jv ps↔x∈ps:=by
 have h1:x∈jv ps↔(x:Int)∈(jv ps).map fun y:Nat=>(y:Int):=by
  rw[e_]
  refine⟨fun h=>⟨x,h,F⟩,?_⟩
  rintro⟨y,h,e⟩
  have:y=x:=by omega
  exact this▸h
 rw[h1,←Cy,wi,List.mem_mergeSort,e_]
 refine⟨?_,fun h=>⟨x,h,F⟩⟩
 rintro⟨y,h,e⟩
 have:y=x:=by omega
 exact this▸h
theorem Jf (ps:List Nat):(jv ps).Pairwise (· < ·):=by
 have h:=Fg (Ah (ps.map fun y:Nat=>(y:Int)))
 rw[Cy,List.pairwise_map]at h
 exact h.imp fun h=>by omega
theorem St (ps:List Nat):(jv ps).length≤ps.length:=by
 unfold jv
 rw[ag]
 have:=Lib.compact_length_le (jW (ps.map fun y:Nat=>(y:Int)))
 rw[List.length_mergeSort,ag]at this
 exact this
def uh (l:List Nat):Nat:=l.foldl (fun a x=>if a%2≠x%2 then a+1 else a) 0
theorem FI: ∀(l:List Nat) (nx x:Nat),Bo nx (l++[x])=Bo nx l++[(x,let a:=l.foldl (fun a x=>if a%2≠x%2 then a+1 else a) nx;if a%2≠x%2 then a+1 else a)]
 | [],nx,x=>rfl
 |y::l,nx,x=>by rw[cj,Bo,Bo,FI l];rfl
theorem FJ (l:List Nat) (x:Nat):uh (l++[x])=if uh l%2≠x%2 then uh l+1 else uh l:=by unfold uh;rw[ep];rfl
theorem Th (l:List Nat) (x:Nat):Bo 0 (l++[x])=Bo 0 l++[(x,uh (l++[x]))]:=by rw[FI,FJ];rfl
theorem XY: ∀(l:List Nat),uh l≤l.length:=by
 have h: ∀(l:List Nat) (a:Nat),l.foldl (fun a x=>if a%2≠x%2 then a+1 else a) a≤a+l.length:=by
  intro l
  induction l with
  |nil=>intro a;simp
  |cons y l ih=>
   intro a
   have:=ih (if a%2≠y%2 then a+1 else a)
   rw[gh,cd]
   split at this<;>split<;>omega
 intro l;have:=h l 0;unfold uh;omega
def GQ (l:List Nat):List (Int×Nat):=(Bo 0 l).map fun q=>((q.1:Int),q.2)
theorem Ti (l:List Nat):(GQ l).map Prod.fst=l.map fun x:Nat=>(x:Int):=by
 unfold GQ
 rw[List.map_map]
 have:=uE l 0
 conv=>rhs;rw[←this,List.map_map]
 rfl
theorem E3 {l:List Nat} {i:Nat} (h:i<l.length):GQ (l.take (i+1))=GQ (l.take i)++[((l[i]:Int),uh (l.take (i+1)))]:=by
 have e:l.take (i+1)=l.take i++[l[i]]:=an h
 unfold GQ
 rw[e,Th,aL];rfl
theorem N6 {l:List Nat} {i:Nat} (h:i<l.length):uh (l.take (i+1))=if uh (l.take i)%2≠l[i]%2 then uh (l.take i)+1 else uh (l.take i):=by
 rw[an h,FJ]
theorem Jg {l:List Nat} (hs:l.Pairwise (· < ·)) {i:Nat} (h:i<l.length):((l[i]:Nat):Int)∉(GQ (l.take i)).map Prod.fst:=by
 rw[Ti,e_]
 rintro⟨y,hy,e⟩
 obtain⟨j,hj,rfl⟩:=List.mem_iff_getElem.1 hy
 rw[bC]at hj
 have h1:j<i:=by omega
 have h2:=List.pairwise_iff_getElem.1 hs j i (by omega) h h1
 rw[List.getElem_take]at e
 omega
theorem FK: ∀(l:List (Nat×Nat)) (x:Nat),eN ((x:Nat):Int) (l.map fun q=>((q.1:Int),q.2))=l.lookup x
 | [],x=>rfl
 |(a,b)::l,x=>by
  rw[bL,eN,List.lookup,FK l x]
  by_cases e:x=a
  ·subst e;simp
  ·have e1: ¬((x:Int)=(a:Int)):=by omega
   have e2:(x==a)=false:=by simpa using e
   simp only[ar e1,e2]
theorem Su {l:List Nat} {x:Nat} (h:x∈l):eN ((x:Nat):Int) (GQ l)=some (sz l x):=by
 unfold GQ
 rw[FK]
 obtain⟨y,h1,_⟩:=tf (x:=x) (l:=Bo 0 l) (by rw[uE];exact h)
 unfold sz;rw[h1];rfl
def HL (ps:List Nat) (j:Nat):List Nat:=(ps.take j).map (sz (jv ps))++ps.drop j
theorem Cz (ps:List Nat) (j:Nat):(HL ps j).length=ps.length:=by unfold HL;rw[aI,ag,bC,List.length_drop];omega
theorem XZ {ps:List Nat} {j:Nat} (h:j<ps.length):(bn (HL ps j))[j]? =some (.int .i64 ((ps[j]:Nat):Int)):=by
 rw[bc]
 unfold HL
 rw[bN (by rw[ag,bC];omega),ag,bC,List.getElem?_drop,show j+(j-min j ps.length)=j by omega,ah h];rfl
theorem Sv {ps:List Nat} {j:Nat} (h:j<ps.length):(HL ps j).set j (sz (jv ps) ps[j])=HL ps (j+1):=by
 unfold HL
 have hl:((ps.take j).map (sz (jv ps))).length=j:=by rw[ag,bC];omega
 rw[List.set_append_right _ _ (by omega),hl,eG,List.drop_eq_getElem_cons h,da,an h,aL,bw];rfl
theorem Sw (ps:List Nat):HL ps ps.length=ps.map (sz (jv ps)):=by unfold HL;rw[List.take_length,List.drop_length,bZ]
def rH (B:List Item):Prop:= ∀it∈B,∀v v':World,it.P v→it.P v'→ ∀b∈it.blocks,v.heap[b]? =v'.heap[b]?
theorem rH.nil:rH []:=fun it h=>(List.not_mem_nil h).elim
theorem fh {B:List Item} {b:Nat} {o:Obj} (h:rH B):rH (eL b o::B):=fun it nK v v' h1 h2 c hc=>by
 rcases List.mem_cons.1 nK with rfl|nK
 ·have e:c=b:=by simpa[eL]using hc
  subst e
  exact(show v.heap[c]? =some o from h1).trans (show v'.heap[c]? =some o from h2).symm
 ·exact h it nK v v' h1 h2 c hc
def Gu (D:List Nat) (w:World):Item:=⟨D,fun v=> ∀b∈D,v.heap[b]? =w.heap[b]?,fun v v' h hp b hb=>by rw[h b hb];exact hp b hb⟩
theorem sq.conv {P:Program} {base Wi:World} {M M2:List Item} {R R2:Value→List Item→Prop} {x:Result Next} (h:sq P base M R x) (hc: ∀v O' w,Inv base (O'++M) w→R v O'→ ∃O2,Inv Wi (O2++M2) w∧R2 v O2):sq P Wi M2 R2 x:=by
 cases x with
 |halt e w=>exact h
 |ok y w=>
  cases y<;>first
   |exact h
   |exact Calls.mono h fun _ w' ⟨v,O',h1,h2,h3⟩=>by obtain⟨O2,h4,h5⟩:=hc v O' w' h2 h3;exact⟨v,O2,h1,h4,h5⟩
   |exact RoundIn.mono h fun _ w' ⟨v,O',h1,h2,h3⟩=>by obtain⟨O2,h4,h5⟩:=hc v O' w' h2 h3;exact⟨v,O2,h1,h4,h5⟩
theorem iQ {P:Program} {base w1:World} {fv:Value} {args:List Value} {B:List Item} {x:Value} (hI:Inv base B w1) (hx:rH B) (h:dS P base fv args B (fun v O'=>v=x∧O'=B)):dS P w1 fv args [] (fun v O'=>v=x∧O'=[]):=fun w M hw=>by
 have hw:Inv w1 M w:=hw
 have sj:base.heap.size≤w1.heap.size:=hI.below.size
 have anC:w1.heap.size≤w.heap.size:=hw.below.size
 have hbl:Below base.heap.size base w:=hI.below.trans (hw.below.mono sj)
 have lH: ∀b,b∈(List.range w.heap.size).filter (fun b=>decide (base.heap.size≤b∧b∉B.flatMap Item.blocks))↔b<w.heap.size∧base.heap.size≤b∧b∉B.flatMap Item.blocks:=fun b=>by
  rw[List.mem_filter,iH,bo]
 obtain⟨D,hD⟩: ∃D,(List.range w.heap.size).filter (fun b=>decide (base.heap.size≤b∧b∉B.flatMap Item.blocks))=D:=⟨_,F⟩
 have kO:D.Nodup:=hD▸List.nodup_range.filter _
 rw[hD]at lH
 have hold: ∀it∈B,it.P w:=fun it nK=>it.loc w1 w (fun b hb=>hw.below.block b (hI.fresh it nK b hb).2) (hI.holds it nK)
 have h0:Inv base (B++[Gu D w]) w:=by
  refine⟨hbl,fun it nK=>?_,fun it nK b hb=>?_,?_⟩
  ·rcases List.mem_append.1 nK with nK|nK
   ·exact hold it nK
   ·rw[List.mem_singleton.1 nK];exact fun b _=>rfl
  ·rcases List.mem_append.1 nK with nK|nK
   ·have:=hI.fresh it nK b hb;omega
   ·rw[List.mem_singleton.1 nK]at hb
    have:=(lH b).1 hb
    exact⟨this.2.1,this.1⟩
  ·rw[List.flatMap_append,List.nodup_append]
   refine⟨hI.nodup,by simpa[Gu]using kO,fun a ha c hc e=>?_⟩
   have hc2:c∈D:=by simpa[Gu]using hc
   exact((lH c).1 hc2).2.2 (e▸ha)
 refine(h w [Gu D w] h0).conv fun v O' w' Nk ⟨hv,hO⟩=>⟨[],?_,hv,F⟩
 subst hO
 have Ep: ∀b,b<w.heap.size→w'.heap[b]? =w.heap[b]? :=fun b hb=>by
  by_cases h1:b<base.heap.size
  ·rw[Nk.below.block b h1,hbl.block b h1]
  ·by_cases h2:b∈O'.flatMap Item.blocks
   ·obtain⟨it,nK,wZ⟩:=List.mem_flatMap.1 h2
    exact hx it nK w' w (Nk.holds it (a_ _ nK)) (hold it nK) b wZ
   ·have h3:(Gu D w).P w':=Nk.holds _ (bl _ List.mem_cons_self)
    exact h3 b ((lH b).2 ⟨hb,by omega,h2⟩)
 have Yf:w.heap.size≤w'.heap.size:=by
  by_cases h1:w.heap.size=0
  ·omega
  ·have h2:=Ep (w.heap.size-1) (by omega)
   have h3:w.heap[w.heap.size-1]? =some w.heap[w.heap.size-1]:=Array.getElem?_eq_getElem (by omega)
   rw[h3]at h2
   have:=(Array.getElem?_eq_some_iff.1 h2).1
   omega
 refine⟨⟨?_,?_,?_,by omega,fun k hk=>?_⟩,fun it nK=>?_,fun it nK b hb=>?_,?_⟩
 ·rw[Nk.below.os,←hI.below.os]
 ·rw[Nk.below.tape,←hI.below.tape]
 ·rw[Nk.below.output,←hI.below.output]
 ·rw[Ep k (by omega)];exact hw.below.block k hk
 ·exact it.loc w w' (fun b hb=>Ep b (hw.fresh it nK b hb).2) (hw.holds it nK)
 ·have:=hw.fresh it nK b hb;omega
 ·exact hw.nodup
theorem lh {P:Program} {base:World} {ρ:Env} {O:List Item} {fn:Func} {R:Value→List Item→Prop} {a i c e:Nat} (u x:Value) {T E:TypeId} {d:TypeDesc} {z:Value} {s gy b:Nat} {cs:List Value} {fr:Nat×Nat} (hr:fn.results= #[.cell a T,.tmp c,.tmp e]) (hu:P.underlying T=some d) (ha:nr d=true) (hi:gq P T z s gy) (hp:ρ a=.pointer (some ⟨b,0,none⟩)) (hO:O[i]? =some (eL b (.cells cs.toArray E fr))) (hl:cs.length=s) (UW:ρ c=u) (he':ρ e=x)
  (h:R (.tuple #[.agg cs.toArray,u,x]) O):pk P base fn ρ O R:=
 ⟨⟨_,O,bj (ay _),h,fun w tmps hI ht=>by
  have:=qV (P:=P) hu ha hi hl (hI.qU hO)
  have AZ:=ht a
  have hc:=ht c
  have he:=ht e
  simp only[dh]at AZ hc he
  simp[results,hr,AZ,hc,UW,he,he',hp,asAddr,this]⟩⟩
def JS:LK:=⟨none,0,none,0⟩
theorem pg {P:Program} {r:Option Nat} {base:World} {n:Nat} {c:Code} {Q:iT} {ρ:Env} {O:List Item} (U8:TypeId) (h:T P r base n c Q ρ (lI U8 jt JS::O)):T P r base n c Q ρ O:=
 T.dH U8 1 (T.dH U8 1 (qW (φ:=True) (L:=[ak none 0 U8 1 [],ak none 0 U8 1 []]++[]) (M:=O) trivial h))
theorem Wf.UE {d:fx} {al one two:Nat→Bool} {b:Bool} {l:La} (h:Wf d al one two b l) (hb:b=true):tk d al one two (some l):=by unfold Wf at h;rwa[aA hb]at h
theorem Wf.no {d:fx} {al one two:Nat→Bool} {b:Bool} {l:La} (h:Wf d al one two b l) (hb: ¬b=true):l=jt∧ ¬F5 d al one two:=by unfold Wf at h;rwa[ar hb]at h
def NoD (p q:dG) (i j:Nat):Prop:=((i:Int)∈p.dX)→((j:Int)∈q.dX)→ ¬F5 (F6 p q) (Tx p q i j) (fun v=>decide (f1 p q v=i)) (fun v=>decide (f2 q v=j))
theorem T2 {p q:dG} (h: ∀i,i<17→ ∀j,j≤16→i%2≠j%2→NoD p q i j): ¬Da p q:=fun⟨i,j,h1,h2,h3,h4,h5,h6⟩=>h i (by omega) j h3 h1 h4 h5 h6
theorem Qy {p:dG} (hv:cU p) (i:Nat):i∈p.dX.map Int.toNat↔((i:Nat):Int)∈p.dX:=by
 rw[e_]
 constructor
 ·rintro⟨a,ha,rfl⟩
  rw[bq (hv.pr a ha).1];exact ha
 ·exact fun h=>⟨_,h,Int.toNat_natCast i⟩
theorem LZ {p:dG} (hv:cU p):bn (p.dX.map Int.toNat)=ints p.dX:=by
 unfold bn ints
 rw[List.map_map]
 refine List.map_congr_left fun a ha=>?_
 show Value.int .i64 ((a.toNat:Nat):Int)=_
 rw[bq (hv.pr a ha).1]
theorem Inv.acq {base w:World} {O:List Item} (hI:Inv base O w) {b:Nat} {cs:List Value} {T:TypeId} (h:eL b (.cells cs.toArray T (0,0))∈O):Sl w (some ⟨b,0,none⟩) cs:=fun i hi=>by
 have hb:w.heap[b]? =some (.cells cs.toArray T (0,0)):=hI.holds _ h
 exact⟨⟨b,0,none⟩,F,F,by simp[World.cell?,hb,hi]⟩
section
variable {P:Program} {r:Option Nat} {base:World} {n:Nat} {Q:iT} {ρ:Env} {O S S2:List Item} {tail dz:List Nat} {ops:Array Oper} {K:Env→List Item→Prop} {X:PX}
end
theorem sbY (a:Int):Instr.sameBits 10000 (fB a) (fB a)=true:=by simp[Instr.sameBits]
def iL (HT:List tE):List Value:=HT.flatMap fun q=>[.int .i64 (q.1:Int),.int .i64 q.2.1,.int .u8 (q.2.2:Int)]
theorem rS {HT:List tE} {i:Nat} (h:i<HT.length) (j:Nat) (hj:j<3):(iL HT)[i*3+j]? =([Value.int .i64 (HT[i].1:Int),.int .i64 HT[i].2.1,.int .u8 (HT[i].2.2:Int)])[j]? :=mX (aa:=fun q:tE=>[Value.int .i64 (q.1:Int),.int .i64 q.2.1,.int .u8 (q.2.2:Int)]) (fun _=>rfl) h j hj
theorem ft (HT:List tE):(iL HT).length=HT.length*3:=oV (aa:=fun q:tE=>[Value.int .i64 (q.1:Int),.int .i64 q.2.1,.int .u8 (q.2.2:Int)]) (fun _=>rfl) HT
theorem uP (HT:List tE) (s:Nat) (b:Int) (x:Nat):iL (HT++[(s,b,x)])=iL HT++[.int .i64 (s:Int),.int .i64 b,.int .u8 (x:Int)]:=by simp[iL]
def rE (mJ:Bool) (gD:Nat) (st:List tE) (m:List (Int×Bool)):Prop:= ∀t:Nat,(eN ((t:Nat):Int) m).getD false=true↔kJ mJ gD st t
theorem rE.start (mJ:Bool) (gD:Nat):rE mJ gD [(gD, -1,0)] [(((gD:Nat):Int),!mJ)]:=fun t=>by
 unfold eN kJ
 by_cases e:((t:Nat):Int)=((gD:Nat):Int)
 ·rw[aA e]
  have e2:t=gD:=by omega
  subst e2
  cases mJ<;>simp
 ·rw[ar e]
  have e2:t≠gD:=by omega
  unfold eN
  simp[e2]
theorem rE.put {mJ:Bool} {gD:Nat} {st:List tE} {m:List (Int×Bool)} (h:rE mJ gD st m) (h0:0<st.length) (t:Nat) (b:Int) (x:Nat):rE mJ gD (st++[(t,b,x)]) (gH ((t:Nat):Int) true m):=fun s=>by
 rw[vF]
 unfold kJ
 rw[F7 h0]
 by_cases e:((s:Nat):Int)=((t:Nat):Int)
 ·rw[aA e]
  have e2:s=t:=by omega
  subst e2
  simp
 ·rw[ar e,h s]
  have e2:s≠t:=by omega
  unfold kJ
  simp[e2]
theorem LH {d:fx} {al to:Nat→Bool} {gD:Nat} (h:to gD=true):rC d al to gD false [] gD:=
 ⟨fun x hx=>(by cases hx),rfl,h,fun v hv=>(by cases hv),fun e=>(by cases e),aG _⟩
def Pp (E:Nat→Nat→Prop) (a b:Nat):Prop:= ∃c,E a c∧gL E c b
theorem Pp.one {E:Nat→Nat→Prop} {a b:Nat} (h:E a b):Pp E a b:=⟨b,h,.refl _⟩
theorem Pp.Ai {E:Nat→Nat→Prop} {a b:Nat} (h:Pp E a b):gL E a b:=by obtain⟨c,h1,h2⟩:=h;exact .step h1 h2
theorem Pp.trans {E:Nat→Nat→Prop} {a b c:Nat} (h:Pp E a b) (g:Pp E b c):Pp E a c:=by
 obtain⟨d,h1,h2⟩:=h
 exact⟨d,h1,h2.trans g.Ai⟩
def wN (E:Nat→Nat→Prop):Nat→Nat→Nat→Prop
 |0,a,b=>E a b
 |k+1,a,b=>wN E k a b∨(wN E k a k∧wN E k k b)
theorem JP {E:Nat→Nat→Prop}: ∀ {k a b:Nat},wN E k a b→Pp E a b
 |0,_,_,h=>.one h
 |k+1,_,_,h=>h.elim (fun h=>JP h) fun h=>(JP h.1).trans (JP h.2)
theorem xy {E:Nat→Nat→Prop}: ∀ {k a b c:Nat},b<k→wN E k a b→wN E k b c→wN E k a c
 |0,_,_,_,h,_,_=>absurd h (Nat.not_lt_zero _)
 |k+1,a,b,c,hb,h1,h2=>by
  by_cases e:b=k
  ·subst e
   have g1:wN E b a b:=h1.elim id fun h=>h.1
   have g2:wN E b b c:=h2.elim id fun h=>h.2
   exact .inr ⟨g1,g2⟩
  ·have wZ:b<k:=by omega
   rcases h1 with h1|⟨h1,h3⟩
   ·rcases h2 with h2|⟨h2,h4⟩
    ·exact .inl (xy wZ h1 h2)
    ·exact .inr ⟨xy wZ h1 h2,h4⟩
   ·rcases h2 with h2|⟨h2,h4⟩
    ·exact .inr ⟨h1,xy wZ h3 h2⟩
    ·exact .inr ⟨h1,h4⟩
theorem DA {E:Nat→Nat→Prop} {a b:Nat} (h:E a b): ∀k,wN E k a b
 |0=>h
 |k+1=>.inl (DA h k)
theorem aeq {E:Nat→Nat→Prop} {n:Nat} (hE: ∀u v,E u v→v<n) {a b:Nat} (h:Pp E a b):wN E n a b:=by
 obtain⟨c,h1,h2⟩:=h
 induction h2 generalizing a with
 |refl=>exact DA h1 n
 |step e _ ih=>exact xy (hE _ _ h1) (DA h1 n) (ih e)
section
variable {E:Nat→Nat→Prop} {n k i j:Nat} {g g2:Nat→Nat→Bool}
end
theorem Y0 {E:Nat→Nat→Prop} {S:Nat→Prop} {s t:Nat} (hs:S s) (hc:zh E S s):mO E S s t↔Pp (lX E S) s t∧Pp (lX E S) t s:=by
 constructor
 ·intro h
  have hl:=mO.loop hs hc
  obtain⟨c,h1,h2⟩:=hl.2 s t (.refl hs) h
  obtain⟨d,h3,h4⟩:=hl.2 t s h (.refl hs)
  have up: ∀u,mO E S s u→S u:=fun u hu=>hu.1
  exact⟨⟨c,h1.mono up,zi up h2⟩,⟨d,h3.mono up,zi up h4⟩⟩
 ·rintro⟨h1,h2⟩
  have h4:=h2
  obtain⟨c,h3,_⟩:=h4
  exact⟨h3.2.1,h1.Ai,h2.Ai⟩
def EB (d:fx) (u v:Nat):Bool:=decide (u<d.next.length)&&(List.range (dF d)).any fun x=>decide (di d u x=v)
def wB (E:Nat→Nat→Bool):Nat→Nat→Nat→Bool
 |0,a,b=>E a b
 |k+1,a,b=>wB E k a b||(wB E k a k&&wB E k k b)
theorem Dm {E:Nat→Nat→Bool}: ∀ {k a b:Nat},wB E k a b=true↔wN (fun u v=>E u v=true) k a b
 |0,_,_=>Iff.rfl
 |k+1,a,b=>by
  show(wB E k a b||(wB E k a k&&wB E k k b))=true↔_
  rw[Bool.or_eq_true,aY,Dm,Dm,Dm];exact Iff.rfl
def Il (E:Nat→Nat→Bool) (S:Nat→Bool) (u v:Nat):Bool:=E u v&&(S u&&S v)
def BF (n:Nat) (E:Nat→Nat→Bool) (S:Nat→Bool) (v u:Nat):Bool:=wB (Il E S) n v u&&wB (Il E S) n u v
def LO (n:Nat) (f:Nat→Nat) (C:Nat→Bool):Nat:=qv f ((List.range n).filter C)
def TV (n:Nat) (E:Nat→Nat→Bool) (pr f:Nat→Nat):Nat→(Nat→Bool)→Bool
 |0,S=>(List.range n).all fun v=>!S v
 |t+1,S=>(List.range n).all fun v=>!S v||(if wB (Il E S) n v v=true then
   (TV n E pr f t (fun u=>BF n E S v u&&decide (pr u<LO n pr (BF n E S v)))&&(decide (pr v≠LO n pr (BF n E S v))||decide (f v=LO n f (fun u=>BF n E S v u&&decide (pr u<LO n pr (BF n E S v)))+(LO n f (fun u=>BF n E S v u&&decide (pr u<LO n pr (BF n E S v)))+LO n pr (BF n E S v))%2)))
   else decide (f v=0))
theorem Qh {n:Nat} {f:Nat→Nat} {C:Nat→Bool} (h: ∀u,C u=true→u<n) (mC: ∃u,C u=true):lE f (fun u=>C u=true) (LO n f C):=by
 have hl:(List.range n).filter C≠ []:=fun e=>by
  obtain⟨u,hu⟩:=mC
  have:u∈(List.range n).filter C:=List.mem_filter.2 ⟨List.mem_range.2 (h u hu),hu⟩
  rw[e]at this;cases this
 have e:(fun u=>C u=true)=fun u=>u∈(List.range n).filter C:=funext fun u=>propext ⟨fun hu=>List.mem_filter.2 ⟨List.mem_range.2 (h u hu),hu⟩,fun hu=>(List.mem_filter.1 hu).2⟩
 rw[e];exact P_ hl
theorem Qi {n:Nat} {f:Nat→Nat} {C:Nat→Bool} (h: ∀u,C u=true→u<n):uI f (fun u=>C u=true) (LO n f C):=by
 by_cases mC: ∃u,C u=true
 ·obtain⟨⟨u,hu,e⟩,h2⟩:=Qh (f:=f) h mC
  exact⟨h2,.inr ⟨u,hu,e⟩⟩
 ·have hl:(List.range n).filter C=[]:=List.filter_eq_nil_iff.2 fun u _ hu=>mC ⟨u,hu⟩
  exact⟨fun u hu=>absurd ⟨u,hu⟩ mC,.inl (by unfold LO;rw[hl];rfl)⟩
theorem Gg {n:Nat} {E:Nat→Nat→Bool} {pr f:Nat→Nat} (hE: ∀u v,E u v=true→v<n): ∀(t:Nat) (S:Nat→Bool),(∀v,S v=true→v<n)→TV n E pr f t S=true→km (fun u v=>E u v=true) pr f (fun v=>S v=true)
 |0,S,hS,h=>by
  have kK: ∀v,¬S v=true:=fun v hv=>by
   have:=List.all_eq_true.1 h v (List.mem_range.2 (hS v hv))
   rw[hv]at this;cases this
  exact .mk (fun v hv=>absurd hv (kK v)) (fun v hv=>absurd hv (kK v)) (fun v hv=>absurd hv (kK v))
 |t+1,S,hS,h=>by
  have tG:(fun u v=>Il E S u v=true)=lX (fun u v=>E u v=true) (fun v=>S v=true):=funext fun u=>funext fun v=>propext (by unfold Il lX;simp[aY])
  have ZV: ∀a b,wB (Il E S) n a b=true↔Pp (lX (fun u v=>E u v=true) fun v=>S v=true) a b:=fun a b=>by
   rw[Dm,tG]
   exact⟨JP,aeq fun u v e=>hS v e.2.2⟩
  have hcm: ∀v,S v=true→zh (fun u v=>E u v=true) (fun v=>S v=true) v→mO (fun u v=>E u v=true) (fun v=>S v=true) v=fun u=>BF n E S v u=true:=fun v hv hc=>funext fun u=>propext (by
   rw[Y0 hv hc];unfold BF;rw[aY,ZV,ZV])
  have at_:=fun v (hv:S v=true)=>List.all_eq_true.1 h v (List.mem_range.2 (hS v hv))
  have fM: ∀v,S v=true→ ∀u,BF n E S v u=true→u<n:=fun v hv u hu=>by
   unfold BF at hu
   rw[aY]at hu
   obtain⟨c,h1,h2⟩:=(ZV v u).1 hu.1
   obtain⟨d,h3,_⟩:=(ZV u v).1 hu.2
   exact hS u h3.2.1
  have main: ∀v,S v=true→zh (fun u v=>E u v=true) (fun v=>S v=true) v→ ∀m,lE pr (mO (fun u v=>E u v=true) (fun v=>S v=true) v) m→LO n pr (BF n E S v)=m∧TV n E pr f t (fun u=>BF n E S v u&&decide (pr u<m))=true∧(pr v=m→f v=LO n f (fun u=>BF n E S v u&&decide (pr u<m))+(LO n f (fun u=>BF n E S v u&&decide (pr u<m))+m)%2):=fun v hv hc m hm=>by
   have h1:=at_ v hv
   have GU:wB (Il E S) n v v=true:=(ZV v v).2 hc
   rw[aA GU]at h1
   have ail:=hcm v hv hc
   rw[ail]at hm
   have aer:BF n E S v v=true:=by unfold BF;rw[GU];rfl
   have Um:=(Qh (f:=pr) (fM v hv) ⟨v,aer⟩).unique hm
   rw[Um]at h1
   have Li:(!S v)=false:=by rw[hv];rfl
   rw[Li,Bool.false_or,aY,Bool.or_eq_true,bo,bo]at h1
   exact⟨Um,h1.1,fun e=>h1.2.elim (fun g=>absurd e g) id⟩
  have hR: ∀v,S v=true→zh (fun u v=>E u v=true) (fun v=>S v=true) v→ ∀m,(fun u=>mO (fun u v=>E u v=true) (fun v=>S v=true) v u∧pr u<m)=fun u=>(BF n E S v u&&decide (pr u<m))=true:=fun v hv hc m=>by
   rw[hcm v hv hc]
   exact funext fun u=>propext (by rw[aY,bo])
  have sI: ∀v,S v=true→ ∀m u,(BF n E S v u&&decide (pr u<m))=true→u<n:=fun v hv m u hu=>fM v hv u (by rw[aY]at hu;exact hu.1)
  refine .mk (fun v hv hc=>?_) (fun v hv hc m hm=>?_) (fun v hv hc m k hm Ax hk=>?_)
  ·have h1:=at_ v hv
   rw[ar (fun g=>hc ((ZV v v).1 g)),hv]at h1
   exact of_decide_eq_true h1
  ·obtain⟨_,h2,_⟩:=main v hv hc m hm
   rw[hR v hv hc m]
   exact Gg hE t _ (sI v hv m) h2
  ·obtain⟨_,_,h3⟩:=main v hv hc m hm
   rw[hR v hv hc m]at hk
   obtain rfl:=hk.unique (Qi (sI v hv m))
   exact h3 Ax
theorem LP {p:dG} (hp:cU p) {f:Nat→Nat} (t:Nat) (h:TV p.next.length (EB p.d) (fC p) f t (fun v=>decide (v<p.next.length))=true):nH p f:=by
 have e1:(fun u v=>EB p.d u v=true)=FX p:=funext fun u=>funext fun v=>propext (by
  unfold EB FX
  rw[aY,bo,fH]
  refine and_congr Iff.rfl ⟨fun⟨x,h1,h2⟩=>⟨x,List.mem_range.1 h1,of_decide_eq_true h2⟩,fun⟨x,h1,h2⟩=>⟨x,List.mem_range.2 h1,bz h2⟩⟩)
 have e2:(fun v=>decide (v<p.next.length)=true)=StS p:=funext fun v=>propext (by rw[bo];exact Iff.rfl)
 have h1:=Gg (n:=p.next.length) (E:=EB p.d) (pr:=fC p) (f:=f) (fun u v e=>by
  rw[show(EB p.d u v=true)=FX p u v from congrFun (congrFun e1 u) v]at e
  exact e.lt hp) t _ (fun v hv=>of_decide_eq_true hv) h
 rw[e1,e2]at h1
 exact⟨h1⟩
def eB:dG:=⟨1,0,[[0,1],[0,1]],[2,3]⟩
def lz:La:=⟨[1,1],[0]⟩
def lb:La:=⟨[],[0,1]⟩
theorem zI:b7 eB=0:=by decide+kernel
theorem om:cU eB:=de.1 zI
theorem Dn {p:dG} {l:La} (h:0<l.loop.length) {s0 j m k:Nat} (hs:runN p.d p.d.start.toNat l.pre=s0) (hm:0<m) (he:gZ p.d l.loop s0 (j+m)=gZ p.d l.loop s0 j) (ht:lv p (gZ p.d l.loop s0 j) (p5 l.loop m)=k):mW p l.at=k:=by
 subst hs;subst ht
 exact k7 (rQ h F hm he)
theorem Gh:mW eB lz.at=2:=Dn (s0:=1) (j:=1) (m:=1) (by decide) (by decide+kernel) (by decide) (by decide+kernel) (by decide+kernel)
theorem Qj:mW eB lb.at=3:=Dn (s0:=0) (j:=1) (m:=1) (by decide) (by decide+kernel) (by decide) (by decide+kernel) (by decide+kernel)
def wW:dG:=⟨1,0,[[0,1],[0,1]],[3,4]⟩
theorem Gi:wJ eB=0∧xf eB=wW:=by
 have e:wJ eB=0:=by decide+kernel
 refine⟨e,?_⟩
 unfold xf
 rw[aA e];rfl
theorem aes:b7 wW=0:=by decide+kernel
theorem TW:cU wW:=de.1 aes
theorem aet:mW wW lz.at=3:=Dn (s0:=1) (j:=1) (m:=1) (by decide) (by decide+kernel) (by decide) (by decide+kernel) (by decide+kernel)
theorem aeu:mW wW lb.at=4:=Dn (s0:=0) (j:=1) (m:=1) (by decide) (by decide+kernel) (by decide) (by decide+kernel) (by decide+kernel)
theorem LQ:nH eB (fun s=>s%2):=LP om 3 (by decide+kernel)
theorem Qk:(un eB).dX=[0,1]:=by rw[Ii zI LQ];rfl
theorem aev:pa eB lz:=⟨by decide,fun x hx=>(show∀x∈lz.pre,x<dF eB.d by decide) x hx,fun x hx=>(show∀x∈lz.loop,x<dF eB.d by decide) x hx⟩
theorem Do:Da eB wW:=Al om TW F (by decide) aev (by rw[Gh,aet];decide)
def qZ:dG:=⟨1,0,[[1,1],[0,0]],[1,1]⟩
theorem Ql:b7 qZ=0:=by decide+kernel
theorem Y1:cU qZ:=de.1 Ql
theorem Y2:th qZ (fun _ _=>true):=fun s t hs ht=>by
 refine⟨fun _=>?_,fun _=>rfl⟩
 refine Pt (R:=fun s t=>s<qZ.next.length∧t<qZ.next.length) (fun s t h=>?_) (fun s t x h hx=>⟨(Y1.val.fG h.1 hx).1,(Y1.val.fG h.2 hx).1⟩) ⟨hs,ht⟩
 have h1: ∀s,s<2→fC qZ s=1:=by decide+kernel
 rw[h1 s h.1,h1 t h.2]
theorem Y3:kE qZ=tm 1:=by rw[JQ Ql Y2];decide+kernel
end Go.Lx
namespace Go.Proofs.YtjcophmajgcehaaGreatDoor
open Go.Lx Go.RowKit _root_.Go.Proofs.Tryz
theorem mixed:Tryz.prog.follows .mixedOrders=true:=by kernel_rfl
theorem X6:gq prog 2 (.int .i64 0) 1 8:=by unfold gq;kernel_rfl
theorem bt:gq prog 3 (.int .i64 0) 1 8:=by unfold gq;kernel_rfl
theorem eW:gq prog 4 (.bool false) 1 1:=by unfold gq;kernel_rfl
theorem fS:gq prog 5 (.int .u8 0) 1 1:=by unfold gq;kernel_rfl
theorem ac5:gq prog 9 (.string ByteArray.empty) 1 16:=by unfold gq;kernel_rfl
theorem cf:gq prog 22 ((.slice none 0 0)) 1 24:=by unfold gq;kernel_rfl
theorem kQ:gq prog 23 ((.slice none 0 0)) 1 24:=by unfold gq;kernel_rfl
theorem dQ:gq prog 24 ((.slice none 0 0)) 1 24:=by unfold gq;kernel_rfl
theorem eF:gq prog 26 ((.agg #[(.int .i64 0),(.int .i64 0),(.slice none 0 0),(.slice none 0 0),(.slice none 0 0)])) 5 88:=by unfold gq;kernel_rfl
theorem fX:gq prog 27 ((.slice none 0 0)) 1 24:=by unfold gq;kernel_rfl
theorem dD:gq prog 29 ((.agg #[(.slice none 0 0),(.slice none 0 0)])) 2 48:=by unfold gq;kernel_rfl
theorem cQ:gq prog 34 ((.agg #[(.int .i64 0),(.int .i64 0),(.slice none 0 0),(.slice none 0 0)])) 4 64:=by unfold gq;kernel_rfl
theorem ki:gq prog 59 ((.slice none 0 0)) 1 24:=by unfold gq;kernel_rfl
theorem wa:gq prog 62 ((.agg #[(.int .i64 0),(.int .i64 0),(.slice none 0 0),(.slice none 0 0),(.slice none 0 0),(.slice none 0 0)])) 6 112:=by unfold gq;kernel_rfl
theorem fT:gq prog 64 ((.agg #[(.int .i64 0),(.slice none 0 0)])) 2 32:=by unfold gq;kernel_rfl
theorem qg:gq prog 66 ((.slice none 0 0)) 1 24:=by unfold gq;kernel_rfl
theorem qh:gq prog 69 ((.agg #[(.string ByteArray.empty),(.int .i64 0)])) 2 24:=by unfold gq;kernel_rfl
theorem VA:gq prog 78 (.nilFunc) 1 8:=by unfold gq;kernel_rfl
theorem yK:gq prog 80 ((.agg #[(.int .i64 0),.nilFunc])) 2 16:=by unfold gq;kernel_rfl
theorem VB:gq prog 82 (.nilFunc) 1 8:=by unfold gq;kernel_rfl
theorem VC:gq prog 83 (.map none) 1 8:=by unfold gq;kernel_rfl
theorem sB:gq prog 92 ((.agg #[(.int .i64 0),(.string ByteArray.empty)])) 2 24:=by unfold gq;kernel_rfl
theorem IA:gq prog 95 ((.slice none 0 0)) 1 24:=by unfold gq;kernel_rfl
theorem jg:gq prog 96 (.int .u64 0) 1 8:=by unfold gq;kernel_rfl
theorem fY:gq prog 98 ((.agg #[(.slice none 0 0),(.slice none 0 0),(.int .u64 0)])) 3 56:=by unfold gq;kernel_rfl
theorem fm:gq prog 106 ((.agg #[(.int .i64 0),(.int .i64 0),(.int .u8 0),(.int .u8 0)])) 4 24:=by unfold gq;kernel_rfl
theorem qG:gq prog 108 ((.slice none 0 0)) 1 24:=by unfold gq;kernel_rfl
theorem BT:gq prog 119 (.nilFunc) 1 8:=by unfold gq;kernel_rfl
theorem yL:gq prog 124 (.pointer none) 1 8:=by unfold gq;kernel_rfl
theorem Co:gq prog 126 ((.agg #[(.pointer none),(.slice none 0 0)])) 2 32:=by unfold gq;kernel_rfl
theorem NR:gq prog 136 ((.slice none 0 0)) 1 24:=by unfold gq;kernel_rfl
theorem NS:gq prog 137 (.nilFunc) 1 8:=by unfold gq;kernel_rfl
theorem WK:gq prog 152 ((.agg #[(.int .u8 0),(.int .u8 0)])) 2 2:=by unfold gq;kernel_rfl
theorem jo:gq prog 164 (.int .u64 0) 1 8:=by unfold gq;kernel_rfl
theorem jX:gq prog 171 ((.agg #[(.int .i64 0),(.int .i64 0),(.int .u8 0)])) 3 24:=by unfold gq;kernel_rfl
theorem Wv:vk prog 26 [(0,1),(1,1),(2,1),(3,1),(4,1)]:=⟨_,underlying26,fun w=>by simp[cA bt,cA cf,cA kQ,cA dQ]⟩
theorem mF:vk prog 29 [(0,1),(1,1)]:=⟨_,underlying29,fun w=>by simp[cA fX]⟩
theorem nz:vk prog 34 [(0,1),(1,1),(2,1),(3,1)]:=⟨_,underlying34,fun w=>by simp[cA bt,cA cf,cA dQ]⟩
theorem Oc:vk prog 62 [(0,5),(5,1)]:=⟨_,underlying62,fun w=>by simp[cA eF,cA ki]⟩
theorem HI:vk prog 64 [(0,1),(1,1)]:=⟨_,underlying64,fun w=>by simp[cA bt,cA ki]⟩
theorem CA:vk prog 69 [(0,1),(1,1)]:=⟨_,underlying69,fun w=>by simp[cA bt,cA ac5]⟩
theorem X7:vk prog 80 [(0,1),(1,1)]:=⟨_,underlying80,fun w=>by simp[cA bt,cA VA]⟩
theorem Ou:vk prog 92 [(0,1),(1,1)]:=⟨_,underlying92,fun w=>by simp[cA bt,cA ac5]⟩
theorem my:vk prog 98 [(0,1),(1,1),(2,1)]:=⟨_,underlying98,fun w=>by simp[cA dQ,cA IA,cA jg]⟩
theorem RB:vk prog 106 [(0,1),(1,1),(2,1),(3,1)]:=⟨_,underlying106,fun w=>by simp[cA bt,cA fS]⟩
theorem Rn:vk prog 152 [(0,1),(1,1)]:=⟨_,underlying152,fun w=>by simp[cA fS]⟩
theorem xh:vk prog 171 [(0,1),(1,1),(2,1)]:=⟨_,underlying171,fun w=>by simp[cA bt,cA fS]⟩
theorem ahr:Lx.Enters prog 4 f4:=⟨func4,by kernel_rfl,F⟩
theorem aht:Lx.Enters prog 5 f5:=⟨func5,by kernel_rfl,F⟩
theorem SK:Lx.Enters prog 6 f6:=⟨func6,by kernel_rfl,F⟩
theorem ahv:Lx.Enters prog 7 f7:=⟨func7,by kernel_rfl,F⟩
theorem acT:Lx.Enters prog 8 f8:=⟨func8,by kernel_rfl,F⟩
theorem acV:Lx.Enters prog 9 f9:=⟨func9,by kernel_rfl,F⟩
theorem acX:Lx.Enters prog 10 f10:=⟨func10,by kernel_rfl,F⟩
theorem wh:Lx.Enters prog 11 f11:=⟨func11,by kernel_rfl,F⟩
theorem Vy:Lx.Enters prog 12 f12:=⟨func12,by kernel_rfl,F⟩
theorem Jk:Lx.Enters prog 13 f13:=⟨func13,by kernel_rfl,F⟩
theorem acL:Lx.Enters prog 14 f14:=⟨func14,by kernel_rfl,F⟩
theorem acM:Lx.Enters prog 15 f15:=⟨func15,by kernel_rfl,F⟩
theorem ac6:Lx.Enters prog 16 f16:=⟨func16,by kernel_rfl,F⟩
theorem Jm:Lx.Enters prog 17 f17:=⟨func17,by kernel_rfl,F⟩
theorem VD:Lx.Enters prog 18 f18:=⟨func18,by kernel_rfl,F⟩
theorem ac7:Lx.Enters prog 19 f19:=⟨func19,by kernel_rfl,F⟩
theorem ac8:Lx.Enters prog 20 f20:=⟨func20,by kernel_rfl,F⟩
theorem VE:Lx.Enters prog 21 f21:=⟨func21,by kernel_rfl,F⟩
theorem Ix:Lx.Enters prog 22 f22:=⟨func22,by kernel_rfl,F⟩
theorem acx:Lx.Enters prog 23 f23:=⟨func23,by kernel_rfl,F⟩
theorem acz:Lx.Enters prog 24 f24:=⟨func24,by kernel_rfl,F⟩
theorem I4:Lx.Enters prog 25 f25:=⟨func25,by kernel_rfl,F⟩
theorem Od:Lx.Enters prog 26 f26:=⟨func26,by kernel_rfl,F⟩
theorem acH:Lx.Enters prog 27 f27:=⟨func27,by kernel_rfl,F⟩
theorem Oh:Lx.Enters prog 28 f28:=⟨func28,by kernel_rfl,F⟩
theorem acJ:Lx.Enters prog 29 f29:=⟨func29,by kernel_rfl,F⟩
theorem Oj:Lx.Enters prog 30 f30:=⟨func30,by kernel_rfl,F⟩
theorem VF:Lx.Enters prog 31 f31:=⟨func31,by kernel_rfl,F⟩
theorem VG:Lx.Enters prog 32 f32:=⟨func32,by kernel_rfl,F⟩
theorem VH:Lx.Enters prog 33 f33:=⟨func33,by kernel_rfl,F⟩
theorem ac_:Lx.Enters prog 34 f34:=⟨func34,by kernel_rfl,F⟩
theorem VI:Lx.Enters prog 35 f35:=⟨func35,by kernel_rfl,F⟩
theorem ada:Lx.Enters prog 36 f36:=⟨func36,by kernel_rfl,F⟩
theorem IH:Lx.Enters prog 37 f37:=⟨func37,by kernel_rfl,F⟩
theorem VJ:Lx.Enters prog 38 f38:=⟨func38,by kernel_rfl,F⟩
theorem Uf:Lx.Enters prog 39 f39:=⟨func39,by kernel_rfl,F⟩
theorem Mu:Lx.Enters prog 40 f40:=⟨func40,by kernel_rfl,F⟩
theorem Z2:Lx.Enters prog 41 f41:=⟨func41,by kernel_rfl,F⟩
theorem Z1:Lx.Enters prog 42 f42:=⟨func42,by kernel_rfl,F⟩
theorem Ug:Lx.Enters prog 43 f43:=⟨func43,by kernel_rfl,F⟩
theorem Uh:Lx.Enters prog 44 f44:=⟨func44,by kernel_rfl,F⟩
theorem Mx:Lx.Enters prog 45 f45:=⟨func45,by kernel_rfl,F⟩
theorem Z4:Lx.Enters prog 46 f46:=⟨func46,by kernel_rfl,F⟩
theorem adb:Lx.Enters prog 47 f47:=⟨func47,by kernel_rfl,F⟩
theorem ade:Lx.Enters prog 48 f48:=⟨func48,by kernel_rfl,F⟩
theorem Uw:Lx.Enters prog 49 f49:=⟨func49,by kernel_rfl,F⟩
theorem Fe:Lx.Enters prog 50 f50:=⟨func50,by kernel_rfl,F⟩
theorem Ff:Lx.Enters prog 51 f51:=⟨func51,by kernel_rfl,F⟩
theorem adf:Lx.Enters prog 52 f52:=⟨func52,by kernel_rfl,F⟩
theorem VK:Lx.Enters prog 53 f53:=⟨func53,by kernel_rfl,F⟩
theorem adg:Lx.Enters prog 54 f54:=⟨func54,by kernel_rfl,F⟩
theorem adh:Lx.Enters prog 55 f55:=⟨func55,by kernel_rfl,F⟩
theorem VL:Lx.Enters prog 56 f56:=⟨func56,by kernel_rfl,F⟩
theorem adi:Lx.Enters prog 57 f57:=⟨func57,by kernel_rfl,F⟩
theorem aae:Lx.Enters prog 58 f58:=⟨func58,by kernel_rfl,F⟩
theorem aaX:Lx.Enters prog 59 f59:=⟨func59,by kernel_rfl,F⟩
theorem UB:Lx.Enters prog 60 f60:=⟨func60,by kernel_rfl,F⟩
theorem Us:Lx.Enters prog 61 f61:=⟨func61,by kernel_rfl,F⟩
theorem UG:Lx.Enters prog 62 f62:=⟨func62,by kernel_rfl,F⟩
theorem aas:Lx.Enters prog 63 f63:=⟨func63,by kernel_rfl,F⟩
theorem aaA:Lx.Enters prog 64 f64:=⟨func64,by kernel_rfl,F⟩
theorem abU:Lx.Enters prog 65 f65:=⟨func65,by kernel_rfl,F⟩
theorem NL:Lx.Enters prog 66 f66:=⟨func66,by kernel_rfl,F⟩
theorem NJ:Lx.Enters prog 67 f67:=⟨func67,by kernel_rfl,F⟩
theorem abY:Lx.Enters prog 68 f68:=⟨func68,by kernel_rfl,F⟩
theorem Va:Lx.Enters prog 69 f69:=⟨func69,by kernel_rfl,F⟩
theorem ab6:Lx.Enters prog 70 f70:=⟨func70,by kernel_rfl,F⟩
theorem NB:Lx.Enters prog 71 f71:=⟨func71,by kernel_rfl,F⟩
theorem NQ:Lx.Enters prog 72 f72:=⟨func72,by kernel_rfl,F⟩
theorem acg:Lx.Enters prog 73 f73:=⟨func73,by kernel_rfl,F⟩
theorem ab1:Lx.Enters prog 74 f74:=⟨func74,by kernel_rfl,F⟩
theorem Nz:Lx.Enters prog 75 f75:=⟨func75,by kernel_rfl,F⟩
theorem aca:Lx.Enters prog 76 f76:=⟨func76,by kernel_rfl,F⟩
theorem Ve:Lx.Enters prog 77 f77:=⟨func77,by kernel_rfl,F⟩
theorem acu:Lx.Enters prog 78 f78:=⟨func78,by kernel_rfl,F⟩
theorem acr:Lx.Enters prog 79 f79:=⟨func79,by kernel_rfl,F⟩
theorem Vh:Lx.Enters prog 80 f80:=⟨func80,by kernel_rfl,F⟩
theorem adk:Lx.Enters prog 81 f81:=⟨func81,by kernel_rfl,F⟩
theorem VM:Lx.Enters prog 82 f82:=⟨func82,by kernel_rfl,F⟩
theorem Ov:Lx.Enters prog 83 f83:=⟨func83,by kernel_rfl,F⟩
theorem Jn:Lx.Enters prog 84 f84:=⟨func84,by kernel_rfl,F⟩
theorem Jo:Lx.Enters prog 85 f85:=⟨func85,by kernel_rfl,F⟩
theorem Z3:Lx.Enters prog 86 f86:=⟨func86,by kernel_rfl,F⟩
theorem aaJ:Lx.Enters prog 87 f87:=⟨func87,by kernel_rfl,F⟩
theorem VN:Lx.Enters prog 88 f88:=⟨func88,by kernel_rfl,F⟩
theorem aaC:Lx.Enters prog 89 f89:=⟨func89,by kernel_rfl,F⟩
theorem VO:Lx.Enters prog 90 f90:=⟨func90,by kernel_rfl,F⟩
theorem adl:Lx.Enters prog 91 f91:=⟨func91,by kernel_rfl,F⟩
theorem adm:Lx.Enters prog 92 f92:=⟨func92,by kernel_rfl,F⟩
theorem Ow:Lx.Enters prog 93 f93:=⟨func93,by kernel_rfl,F⟩
theorem Jp:Lx.Enters prog 94 f94:=⟨func94,by kernel_rfl,F⟩
theorem adn:Lx.Enters prog 95 f95:=⟨func95,by kernel_rfl,F⟩
theorem VP:Lx.Enters prog 96 f96:=⟨func96,by kernel_rfl,F⟩
theorem VQ:Lx.Enters prog 97 f97:=⟨func97,by kernel_rfl,F⟩
theorem U_:Lx.Enters prog 98 f98:=⟨func98,by kernel_rfl,F⟩
theorem VS:Lx.Enters prog 99 f99:=⟨func99,by kernel_rfl,F⟩
theorem Xz:Lx.Enters prog 101 f101:=⟨func101,by kernel_rfl,F⟩
theorem XD:Lx.Enters prog 102 f102:=⟨func102,by kernel_rfl,F⟩
theorem HB:Lx.Enters prog 103 f103:=⟨func103,by kernel_rfl,F⟩
theorem Xj:Lx.Enters prog 104 f104:=⟨func104,by kernel_rfl,F⟩
theorem HF:Lx.Enters prog 105 f105:=⟨func105,by kernel_rfl,F⟩
theorem Xs:Lx.Enters prog 106 f106:=⟨func106,by kernel_rfl,F⟩
theorem Xl:Lx.Enters prog 107 f107:=⟨func107,by kernel_rfl,F⟩
theorem Xi:Lx.Enters prog 108 f108:=⟨func108,by kernel_rfl,F⟩
theorem XL:Lx.Enters prog 109 f109:=⟨func109,by kernel_rfl,F⟩
theorem Xt:Lx.Enters prog 110 f110:=⟨func110,by kernel_rfl,F⟩
theorem XV:Lx.Enters prog 111 f111:=⟨func111,by kernel_rfl,F⟩
theorem XW:Lx.Enters prog 112 f112:=⟨func112,by kernel_rfl,F⟩
theorem N1:Lx.Enters prog 113 f113:=⟨func113,by kernel_rfl,F⟩
theorem X8:Lx.Enters prog 114 f114:=⟨func114,by kernel_rfl,F⟩
theorem MF:Lx.Enters prog 115 f115:=⟨func115,by kernel_rfl,F⟩
theorem Ox:Lx.Enters prog 116 f116:=⟨func116,by kernel_rfl,F⟩
theorem X9:Lx.Enters prog 117 f117:=⟨func117,by kernel_rfl,F⟩
theorem CF:Lx.Enters prog 118 f118:=⟨func118,by kernel_rfl,F⟩
theorem CG:Lx.Enters prog 119 f119:=⟨func119,by kernel_rfl,F⟩
theorem XA:Lx.Enters prog 122 f122:=⟨func122,by kernel_rfl,F⟩
theorem Xw:Lx.Enters prog 123 f123:=⟨func123,by kernel_rfl,F⟩
theorem Xm:Lx.Enters prog 124 f124:=⟨func124,by kernel_rfl,F⟩
theorem Cm:Lx.Enters prog 125 f125:=⟨func125,by kernel_rfl,F⟩
theorem Hz:Lx.Enters prog 126 f126:=⟨func126,by kernel_rfl,F⟩
theorem XU:Lx.Enters prog 127 f127:=⟨func127,by kernel_rfl,F⟩
theorem X_:Lx.Enters prog 130 f130:=⟨func130,by kernel_rfl,F⟩
theorem Bf (w:World) (b1 b2:Option Addr) (c1 c2:Nat) (xs ys:List Int) (h1:Sl w b1 (ints xs)) (h2:Sl w b2 (ints ys)) (hb:xs.length<9223372036854775807):
  cR prog 21 [(.slice b1 xs.length c1),(.slice b2 ys.length c2)] w fun v N=>v=.bool (decide (xs=ys))∧N=[]:=by
 refine aF func21 F ntmps21 F ?_
 refine a8 (bh (bJ (az (bV underlying22) (az (bV underlying22) (bF gB (aH F (fun hc=>?_) (fun hc=>?_)))))))
 ·have nj:xs.length≠ys.length:=by omega
  have jn:xs.length≠ys.length:=by omega
  refine a8 (ai (cF ?_))
  refine aM (.bool false) results21 F ?_
  exact⟨av Value.bool (bT (fun e=>jn (by rw[e]))).symm,F⟩
 have IM: ¬xs.length≠ys.length:=by omega
 have jn:xs.length=ys.length:=by omega
 refine aE (ba (a8 (ai (aw ?_))))
 refine cX (fun(k:Nat) ρ O=>O=[]∧k≤xs.length∧xs.take k=ys.take k∧cL [(0,(.slice b1 xs.length c1)),(1,(.slice b2 ys.length c2)),(5,vI (k:Int))] ρ) (fun k=>xs.length-k) 0 ?_ ?_
 ·exact⟨F,aG _,F,⟨F,F,F,trivial⟩⟩
 rintro k ρ O ⟨rfl,hk,he,hH⟩
 obtain⟨fy,rfl⟩:=hH.elim
 clear hH
 refine ba (bI (az (bV underlying22) (bF cH (aH F (fun hc=>?_) (fun hc=>?_)))))
 ·have AH:k<xs.length:=by omega
  have fM:k<xs.length:=by omega
  have sI:k<ys.length:=by omega
  obtain⟨kb1,ko1,rfl⟩:=h1.addr (i:=k) (by simpa using fM)
  obtain⟨kb2,ko2,rfl⟩:=h2.addr (i:=k) (by simpa using sI)
  refine aE (ba (aw (ba ?_)))
  refine e6 [(0,0),(1,0),(2,0),(3,0),(4,0),(5,0),(6,0),(7,0),(8,0)] ?_
  refine am F aC (am F aC (am F (U4 underlying22 bt F F fM) (am F (AV underlying3 F F h1 (eu fM)) (am F aC (am F aC (am F (U4 underlying22 bt F F sI) (am F (AV underlying3 F F h2 (eu sI)) (am F gB ?_))))))))
  refine cl ?_
  refine aH (p:= ¬xs[k]=ys[k]) F (fun hc=>?_) (fun hc=>?_)
  ·refine ba ?_
   refine aJ (ai (cF ?_))
   refine aM (.bool false) results21 F ?_
   exact⟨av Value.bool (bT (fun e=>hc (by subst e;rfl))).symm,F⟩
  refine aE (aJ (az (UP F F (by omega)) (ai ?_)))
  refine⟨k+1,by omega,F,by omega,?_,⟨F,F,F,trivial⟩⟩
  rw[an fM,an sI,he]
  exact av _ (av (fun z=>[z]) (Classical.not_not.1 hc))
 have MQ: ¬k<xs.length:=by omega
 refine bA ?_
 refine a8 (ai (cF ?_))
 refine aM (.bool true) results21 F ?_
 exact⟨av Value.bool (bz (show xs=ys by rw[aN (by omega),aN (by omega)]at he;exact he)).symm,F⟩
theorem Z7 (w:World) [eT prog w] (b:Option Addr) (c:Nat) (qs:List oJ) (hS:Sl w b (G2 qs)) (hq: ∀q∈qs,nL w q.b q.sb q.eb q.tb q.vs) (hb:qs.length<9223372036854775807) (wZ: ∀q∈qs,q.b.aP.length<9223372036854775807):
  cR prog 14 [.slice b qs.length c] w fun v N=>v=.bool (qs.any fun q=>g_ q.b)∧N=[]:=by
 refine aF func14 F ntmps14 F ?_
 refine a8 (bh (bJ (ai (aw ?_))))
 let dC:Value:=(.slice b qs.length c)
 refine cX (fun(k:Nat) ρ O=>O=[]∧k≤qs.length∧(qs.take k).any (fun q=>g_ q.b)=false∧cL [(0,dC),(3,vI (k:Int))] ρ) (fun k=>qs.length-k) 0 ?_ ?_
 ·exact⟨F,aG _,F,⟨F,F,trivial⟩⟩
 rintro k ρ O ⟨rfl,hk,qj,hH⟩
 obtain⟨fy,rfl⟩:=hH.elim
 clear hH
 refine ba (bI (az (bV underlying44) (bF cH (aH F (fun hc=>?_) (fun hc=>?_)))))
 ·have nM:k<qs.length:=by omega
  have hbb:=wZ _ (ap nM)
  have qw:=(hq _ (ap nM)).rows.1
  refine aE (ba (aw (ba (bI (az (fO (i:=k) underlying44 eF F F (bS hS) (by first|assumption|omega|(simp;omega)|simp_all) (by first|(rw[cN];omega)|(simp[cN];omega)|(simp_all[cN];omega))) (ad (ez underlying26 F cf F F (bS hS) (by first|(rw[cN];omega)|(simp[cN];omega)|(simp_all[cN];omega))) (ad (eA underlying22 F F hS (jH (by first|assumption|omega|(simp;omega)|simp_all) 2 (by decide))) (ad (bV underlying22) (ad fg ?_)))))))))
  by_cases Z8:(qs[k].b.start.length:Int)>40
  ·refine ad (cm aC Z8) ?_
   refine dt (dj (cP (ad bR (aQ ?_))))
   refine dt (dj (cP (ad bR (aQ ?_))))
   refine cP (cP ?_)
   refine dj (cP (bF bR ?_))
   refine cJ ?_
   refine a8 (ai (cF ?_))
   refine aM (.bool true) results14 F ?_
   exact⟨av Value.bool ((gP nM (show g_ _=true by unfold g_;rw[show qH qs[k].b=true from bz (by omega)];rfl)).symm),F⟩
  refine ad (cD aC Z8) (ax aC (ax aC (ax (fO (i:=k) underlying44 eF F F (bS hS) (by first|assumption|omega|(simp;omega)|simp_all) (by first|(rw[cN];omega)|(simp[cN];omega)|(simp_all[cN];omega))) (ax (ez underlying26 F kQ F F (bS hS) (by first|(rw[cN];omega)|(simp[cN];omega)|(simp_all[cN];omega))) (ax (eA underlying23 F F hS (jH (by first|assumption|omega|(simp;omega)|simp_all) 3 (by decide))) (ax (bV underlying23) (ax fg ?_)))))))
  refine ad ca ?_
  by_cases Z9:(qs[k].b.ao.length:Int)>60
  ·refine ad (cm aC Z9) ?_
   refine dt (dj (cP (ad bR (aQ ?_))))
   refine cP (cP ?_)
   refine dj (cP (bF bR ?_))
   refine cJ ?_
   refine a8 (ai (cF ?_))
   refine aM (.bool true) results14 F ?_
   exact⟨av Value.bool ((gP nM (show g_ _=true by unfold g_;rw[show qH qs[k].b=true from bz (by omega)];rfl)).symm),F⟩
  refine ad (cD aC Z9) (ax aC (ax aC (ax (fO (i:=k) underlying44 eF F F (bS hS) (by first|assumption|omega|(simp;omega)|simp_all) (by first|(rw[cN];omega)|(simp[cN];omega)|(simp_all[cN];omega))) (ax (ez underlying26 F dQ F F (bS hS) (by first|(rw[cN];omega)|(simp[cN];omega)|(simp_all[cN];omega))) (ax (eA underlying24 F F hS (jH (by first|assumption|omega|(simp;omega)|simp_all) 4 (by decide))) (ax (bV underlying24) (ax fg ?_)))))))
  refine ad ca ?_
  by_cases Z_:(qs[k].b.aP.length:Int)>12
  ·refine ad (cm aC Z_) ?_
   refine cP (cP ?_)
   refine dj (cP (bF bR ?_))
   refine cJ ?_
   refine a8 (ai (cF ?_))
   refine aM (.bool true) results14 F ?_
   exact⟨av Value.bool ((gP nM (show g_ _=true by unfold g_;rw[show qH qs[k].b=true from bz (by omega)];rfl)).symm),F⟩
  refine ad (cD aC Z_) (ax aC (ax aC (ax (fO (i:=k) underlying44 eF F F (bS hS) (by first|assumption|omega|(simp;omega)|simp_all) (by first|(rw[cN];omega)|(simp[cN];omega)|(simp_all[cN];omega))) (ax (ez underlying26 F bt F F (bS hS) (by first|(rw[cN];omega)|(simp[cN];omega)|(simp_all[cN];omega))) (ax (eA underlying3 F F hS (jH (by first|assumption|omega|(simp;omega)|simp_all) 1 (by decide))) (ax fg ?_))))))
  by_cases aaa:qs[k].b.ae>20
  ·refine ax (cm aC aaa) ?_
   refine ax aC (ax aC (ax (fO (i:=k) underlying44 eF F F (bS hS) (by first|assumption|omega|(simp;omega)|simp_all) (by first|(rw[cN];omega)|(simp[cN];omega)|(simp_all[cN];omega))) (ax (ez underlying26 F bt F F (bS hS) (by first|(rw[cN];omega)|(simp[cN];omega)|(simp_all[cN];omega))) (ax (eA underlying3 F F hS (jH (by first|assumption|omega|(simp;omega)|simp_all) 1 (by decide))) (ax vO (ax bR (ad ca ?_)))))))
   refine TO.nl (aH F (fun hc=>?_) (fun hc=>?_))
   ·refine ba ?_
    refine aJ (ai (cF ?_))
    refine aM (.bool true) results14 F ?_
    exact⟨av Value.bool ((gP nM (show g_ _=true by unfold g_;rw[show qH qs[k].b=true from bz (by omega)];rfl)).symm),F⟩
   refine aE (a8 (ai (aw ?_)))
   refine cX (fun(j:Nat) ρ O=>O=[]∧j≤qs[k].b.aP.length∧qH qs[k].b=false∧(qs[k].b.aP.take j).any (fun r=>decide (40<r.length))=false∧cL [(0,dC),(3,vI (k:Int)),(4,vI (j:Int))] ρ) (fun j=>qs[k].b.aP.length-j) 0 ?_ ?_
   ·refine⟨F,aG _,bT (by omega),F,⟨F,F,F,trivial⟩⟩
   rintro j ρ O ⟨rfl,hj,BR,zX,hH⟩
   obtain⟨fy,rfl⟩:=hH.elim
   clear hH
   refine ba (bI (aQ (az (fO (i:=k) underlying44 eF F F (bS hS) (by first|assumption|omega|(simp;omega)|simp_all) (by first|(rw[cN];omega)|(simp[cN];omega)|(simp_all[cN];omega))) (ad (ez underlying26 F dQ F F (bS hS) (by first|(rw[cN];omega)|(simp[cN];omega)|(simp_all[cN];omega))) (ad (eA underlying24 F F hS (jH (by first|assumption|omega|(simp;omega)|simp_all) 4 (by decide))) (ad (bV underlying24) (bF cH (aH F (fun hc=>?_) (fun hc=>?_)))))))))
   ·have sa:j<qs[k].b.aP.length:=by omega
    obtain⟨vb,vc,g1,s1⟩:=(hq _ (ap nM)).rows.get sa
    refine aE (ba (aw (bI (az (fO (i:=k) underlying44 eF F F (bS hS) (by first|assumption|omega|(simp;omega)|simp_all) (by first|(rw[cN];omega)|(simp[cN];omega)|(simp_all[cN];omega))) (ad (ez underlying26 F dQ F F (bS hS) (by first|(rw[cN];omega)|(simp[cN];omega)|(simp_all[cN];omega))) (ad (eA underlying24 F F hS (jH (by first|assumption|omega|(simp;omega)|simp_all) 4 (by decide))) (az (b8 j underlying24 cf F F (bS (hq _ (ap nM)).out) (by first|assumption|omega|(simp;omega)|simp_all) (by rw[qw];exact sa)) (ad (dR underlying22 F F (bS (hq _ (ap nM)).out) g1) (ad (bV underlying22) (bF fg (aH F (fun hc=>?_) (fun hc=>?_))))))))))))
    ·have aab:qs[k].b.aP[j].length>40:=by omega
     refine a8 (ai (cF ?_))
     refine aM (.bool true) results14 F ?_
     exact⟨av Value.bool ((gP nM (show g_ _=true by unfold g_;rw[gP sa (bz (by omega))];simp)).symm),F⟩
    have aac: ¬qs[k].b.aP[j].length>40:=by omega
    refine aE (aJ (az (bK (b:=1) j F F (by omega)) (ai ?_)))
    exact⟨j+1,by omega,F,by omega,BR,jI sa zX (bT (by omega)),⟨F,F,F,trivial⟩⟩
   have Ul: ¬j<qs[k].b.aP.length:=by omega
   refine bA ?_
   refine aJ (az (bK (b:=1) k F F (by omega)) (ai ?_))
   refine⟨k+1,by omega,F,by omega,jI nM qj ?_,⟨F,F,trivial⟩⟩
   show g_ _=false
   unfold g_;rw[BR,lG (by omega) zX];rfl
  refine ax (cD aC aaa) (dj (cP (ax ca ?_)))
  refine bF ca (cK (aE (a8 (ai (aw ?_)))))
  refine cX (fun(j:Nat) ρ O=>O=[]∧j≤qs[k].b.aP.length∧qH qs[k].b=false∧(qs[k].b.aP.take j).any (fun r=>decide (40<r.length))=false∧cL [(0,dC),(3,vI (k:Int)),(4,vI (j:Int))] ρ) (fun j=>qs[k].b.aP.length-j) 0 ?_ ?_
  ·refine⟨F,aG _,bT (by omega),F,⟨F,F,F,trivial⟩⟩
  rintro j ρ O ⟨rfl,hj,BR,zX,hH⟩
  obtain⟨fy,rfl⟩:=hH.elim
  clear hH
  refine ba (bI (aQ (az (fO (i:=k) underlying44 eF F F (bS hS) (by first|assumption|omega|(simp;omega)|simp_all) (by first|(rw[cN];omega)|(simp[cN];omega)|(simp_all[cN];omega))) (ad (ez underlying26 F dQ F F (bS hS) (by first|(rw[cN];omega)|(simp[cN];omega)|(simp_all[cN];omega))) (ad (eA underlying24 F F hS (jH (by first|assumption|omega|(simp;omega)|simp_all) 4 (by decide))) (ad (bV underlying24) (bF cH (aH F (fun hc=>?_) (fun hc=>?_)))))))))
  ·have sa:j<qs[k].b.aP.length:=by omega
   obtain⟨vb,vc,g1,s1⟩:=(hq _ (ap nM)).rows.get sa
   refine aE (ba (aw (bI (az (fO (i:=k) underlying44 eF F F (bS hS) (by first|assumption|omega|(simp;omega)|simp_all) (by first|(rw[cN];omega)|(simp[cN];omega)|(simp_all[cN];omega))) (ad (ez underlying26 F dQ F F (bS hS) (by first|(rw[cN];omega)|(simp[cN];omega)|(simp_all[cN];omega))) (ad (eA underlying24 F F hS (jH (by first|assumption|omega|(simp;omega)|simp_all) 4 (by decide))) (az (b8 j underlying24 cf F F (bS (hq _ (ap nM)).out) (by first|assumption|omega|(simp;omega)|simp_all) (by rw[qw];exact sa)) (ad (dR underlying22 F F (bS (hq _ (ap nM)).out) g1) (ad (bV underlying22) (bF fg (aH F (fun hc=>?_) (fun hc=>?_))))))))))))
   ·have aab:qs[k].b.aP[j].length>40:=by omega
    refine a8 (ai (cF ?_))
    refine aM (.bool true) results14 F ?_
    exact⟨av Value.bool ((gP nM (show g_ _=true by unfold g_;rw[gP sa (bz (by omega))];simp)).symm),F⟩
   have aac: ¬qs[k].b.aP[j].length>40:=by omega
   refine aE (aJ (az (bK (b:=1) j F F (by omega)) (ai ?_)))
   exact⟨j+1,by omega,F,by omega,BR,jI sa zX (bT (by omega)),⟨F,F,F,trivial⟩⟩
  have Ul: ¬j<qs[k].b.aP.length:=by omega
  refine bA ?_
  refine aJ (az (bK (b:=1) k F F (by omega)) (ai ?_))
  refine⟨k+1,by omega,F,by omega,jI nM qj ?_,⟨F,F,trivial⟩⟩
  show g_ _=false
  unfold g_;rw[BR,lG (by omega) zX];rfl
 have Mz: ¬k<qs.length:=by omega
 refine bA ?_
 refine a8 (ai (cF ?_))
 refine aM (.bool false) results14 F ?_
 exact⟨av Value.bool ((lG (by omega) qj).symm),F⟩
theorem Rj (w:World) [eT prog w] (b:Option Addr) (c:Nat) (xs:List Int) (n:Int) (h:Sl w b (ints xs)) (hb:xs.length≤1000000):
  cR prog 58 [.slice b xs.length c,vI n] w fun v N=>v=.bool (iG n (-1) xs)∧N=[]:=by
 refine aF func58 F ntmps58 F ?_
 refine a8 (ai (a8 (bh (bJ (az (bV underlying22) (aS (aw ?_)))))))
 refine cX (fun(k:Nat) ρ O=> ∃(a:Int),O=[]∧k≤xs.length∧iG n a (xs.drop k)=iG n (-1) xs∧cL [(0,(.slice b xs.length c)),(1,vI n),(5,vI a),(8,(.slice b xs.length c)),(9,vI (xs.length:Int)),(10,vI (k:Int))] ρ) (fun k=>xs.length-k) 0 ?_ ?_
 ·exact⟨-1,F,aG _,F,(.of F)⟩
 rintro k ρ O ⟨a,rfl,hk,hr,hH⟩
 obtain⟨fy,rfl⟩:=hH.elim
 clear hH
 refine aB cH (TO.ns (aH F (fun hc=>?_) (fun hc=>?_)))
 ·have AC:k<xs.length:=by omega
  refine aE (ba (aw (aB (b8 k underlying22 bt F F (bS h)) (ad (eA underlying3 F F h eu) (bh (bJ (aQ (az vO ?_))))))))
  by_cases DT:xs[k]≤a
  ·refine ad (cm aC DT) ?_
   refine dt (dj (bF bR ?_))
   refine cJ ?_
   refine a8 (ai (cF ?_))
   refine aM (.bool false) results58 F ?_
   exact⟨av Value.bool (by rw[←hr,qI AC (by omega)]),F⟩
  refine ad (cD aC DT) (ax aC (ax aC (ax ly (bF ca (aH F (fun hc=>?_) (fun hc=>?_))))))
  ·refine ba ?_
   refine aJ (ai (cF ?_))
   refine aM (.bool false) results58 F ?_
   exact⟨av Value.bool (by rw[←hr,qI AC (by omega)]),F⟩
  refine aE (aJ (aQ (ai (aJ (ad (bK (b:=1) k F F (by omega)) (aS ?_))))))
  exact⟨k+1,by omega,xs[k],F,by omega,by rw[←hr,uY AC (by omega) (by omega)],(.of F)⟩
 have MA: ¬k<xs.length:=by omega
 refine bA ?_
 refine a8 (ai (cF ?_))
 refine aM (.bool true) results58 F ?_
 exact⟨av Value.bool (by rw[←hr,AD (by omega)]),F⟩
theorem MB (w:World) [eT prog w] (b:Option Addr) (c:Nat) (xs:List Int) (n:Int) (h:Sl w b (ints xs)) (hb:xs.length≤1000000):
  cR prog 49 [.slice b xs.length c,vI n] w fun v N=>v=.bool (iG n (-1) xs)∧N=[]:=by
 refine aF func49 F ntmps49 F ?_
 refine a8 (bh (bJ (ai (aw ?_))))
 refine cX (fun(k:Nat) ρ O=> ∃(a:Int),O=[]∧k≤xs.length∧iG n a (xs.drop k)=iG n (-1) xs∧(k=0→a= -1)∧(0<k→0≤a∧xs[k-1]? =some a)∧cL [(0,(.slice b xs.length c)),(1,vI n),(5,vI (k:Int))] ρ) (fun k=>xs.length-k) 0 ?_ ?_
 ·exact⟨-1,F,aG _,F,fun _=>rfl,fun h=>absurd h (by omega),⟨F,F,F,trivial⟩⟩
 rintro k ρ O ⟨a,rfl,hk,hr,h0,h1,hH⟩
 obtain⟨fy,rfl⟩:=hH.elim
 clear hH
 refine ba (bI (az (bV underlying22) (bF cH (aH F (fun hc=>?_) (fun hc=>?_)))))
 ·have j7:k<xs.length:=by omega
  refine aE (ba (aw (ba ?_)))
  refine e6 [(0,0),(1,0),(2,0),(3,0),(4,0),(5,0),(6,0),(7,0),(8,0),(9,0),(10,0),(11,0),(12,0),(13,0),(14,0),(15,0),(16,0),(17,0),(18,0),(19,0),(20,0),(21,0),(22,0),(23,0),(24,0),(25,0),(26,0),(27,0),(28,0)] ?_
  refine am F aC (am F aC (am F (b8 k underlying22 bt F F (bS h)) (am F (eA underlying3 F F h eu) (am F cH ?_))))
  by_cases DT:xs[k]<0
  ·refine am F (cm aC DT) ?_
   refine aT F F F (aT F F F (aT F F F (aT F F F (aT F F F (aT F F F (am F bR (am F aC (aT F F F ?_))))))))
   refine aT F F F (aT F F F (aT F F F (aT F F F (aT F F F (aT F F F (aT F F F (aT F F F ?_)))))))
   refine aT F F F (aT F F F (aT F F F (aT F F F (aT F F F (am F bR ?_)))))
   refine cl ?_
   refine cJ ?_
   refine a8 (ai (cF ?_))
   refine aM (.bool false) results49 F ?_
   have kK:xs[k]≤a∨n≤xs[k]:=by
    by_cases e:k=0
    ·have:=h0 e;omega
    ·have h2:=(h1 (by omega)).2
     rw[ah (by omega)]at h2
     have h3:=cg h2
     have:=(h1 (by omega)).1;omega
   exact⟨av Value.bool (by rw[←hr,qI j7 kK]),F⟩
  refine am F (cD aC DT) ?_
  refine bg F F F aC ?_
  refine bg F F F aC ?_
  refine bg F F F (b8 k underlying22 bt F F (bS h)) ?_
  refine bg F F F (eA underlying3 F F h eu) ?_
  refine bg F F F aC ?_
  refine bg F F F ly ?_
  refine am F ca ?_
  by_cases MC:xs[k]≥n
  ·refine am F (cm aC MC) ?_
   refine aT F F F (aT F F F (aT F F F (aT F F F (aT F F F (aT F F F (aT F F F (aT F F F ?_)))))))
   refine aT F F F (aT F F F (aT F F F (aT F F F (aT F F F (aT F F F (am F bR ?_))))))
   refine cl ?_
   refine cJ ?_
   refine a8 (ai (cF ?_))
   refine aM (.bool false) results49 F ?_
   have kK:xs[k]≤a∨n≤xs[k]:=by
    by_cases e:k=0
    ·have:=h0 e;omega
    ·have h2:=(h1 (by omega)).2
     rw[ah (by omega)]at h2
     have h3:=cg h2
     have:=(h1 (by omega)).1;omega
   exact⟨av Value.bool (by rw[←hr,qI j7 kK]),F⟩
  refine am F (cD aC MC) ?_
  refine bg F F F aC ?_
  refine bg F F F fg ?_
  by_cases Wr:(k:Int)>0
  ·refine bg F F F (cm aC Wr) ?_
   refine bg F F F aC ?_
   refine bg F F F aC ?_
   refine bg F F F (b8 k underlying22 bt F F (bS h)) ?_
   refine bg F F F (eA underlying3 F F h eu) ?_
   refine bg F F F aC ?_
   refine bg F F F aC ?_
   refine bg F F F (il (a:=k) (b:=1) F F (by omega) (by omega)) ?_
   refine bg F F F (b8 ((k-1)) underlying22 bt F F (bS h)) ?_
   refine bg F F F (eA underlying3 F F h eu) ?_
   refine bg F F F vO ?_
   refine bg F F F bR ?_
   refine am F ca ?_
   refine cl ?_
   refine aH F (fun hc=>?_) (fun hc=>?_)
   ·refine ba ?_
    refine aJ (ai (cF ?_))
    refine aM (.bool false) results49 F ?_
    have kK:xs[k]≤a∨n≤xs[k]:=by
     by_cases e:k=0
     ·have:=h0 e;omega
     ·have h2:=(h1 (by omega)).2
      rw[ah (by omega)]at h2
      have h3:=cg h2
      have:=(h1 (by omega)).1;omega
    exact⟨av Value.bool (by rw[←hr,qI j7 kK]),F⟩
   refine aE (aJ (az (bK (b:=1) k F F (by omega)) (ai ?_)))
   have hxk:xs[k]<n:=by omega
   have hak:a<xs[k]:=by
    by_cases e:k=0
    ·have:=h0 e;omega
    ·have h2:=(h1 (by omega)).2
     rw[ah (by omega)]at h2
     have h3:=cg h2;omega
   exact⟨k+1,by omega,xs[k],F,by omega,by rw[←hr,uY j7 hak hxk],fun h=>absurd h (by omega),fun _=>⟨by omega,by rw[Nat.add_sub_cancel,ah j7]⟩,⟨F,F,F,trivial⟩⟩
  refine bg F F F (cD aC Wr) ?_
  refine aT F F F (aT F F F (aT F F F (aT F F F (aT F F F (aT F F F (aT F F F (aT F F F ?_)))))))
  refine aT F F F (aT F F F ?_)
  refine bg F F F ca ?_
  refine am F ca ?_
  refine cl ?_
  refine cK (aE (aJ (az (bK (b:=1) k F F (by omega)) (ai ?_))))
  have hxk:xs[k]<n:=by omega
  have hak:a<xs[k]:=by
   by_cases e:k=0
   ·have:=h0 e;omega
   ·have h2:=(h1 (by omega)).2
    rw[ah (by omega)]at h2
    have h3:=cg h2;omega
  exact⟨k+1,by omega,xs[k],F,by omega,by rw[←hr,uY j7 hak hxk],fun h=>absurd h (by omega),fun _=>⟨by omega,by rw[Nat.add_sub_cancel,ah j7]⟩,⟨F,F,F,trivial⟩⟩
 have J5: ¬k<xs.length:=by omega
 refine bA ?_
 refine a8 (ai (cF ?_))
 refine aM (.bool true) results49 F ?_
 exact⟨av Value.bool (by rw[←hr,AD (by omega)]),F⟩
theorem BN (w:World) [eT prog w] (b:Bu) (sb eb tb:Option Addr) (sc ec tc:Nat) (vs:List Value) (h:nL w b sb eb tb vs) (hB:Aw b):
  cR prog 22 [.agg (bf b sb sc eb ec tb tc).toArray] w fun v N=>v=vI (cC b:Int)∧N=[]:=by
 refine aF func22 F ntmps22 F ?_
 have mK:=hB.st;have Rf:=hB.ed;have JZ:=hB.se
 have hR:iY w (.slice sb b.start.length sc::vs) (b.start::b.aP):=h.rows.cons h.st
 have qw:=h.rows.1
 refine a8 (au (e5 ((bf b sb sc eb ec tb tc)) (fun dk=>?_)))
 refine ai (ba (aw (aB (bY underlying26 bt) (ad (bp 0 underlying3) (ad cH ?_)))))
 by_cases MD:b.vars<0
 ·refine ad (cm aC MD) ?_
  refine dt (dj (ad bR (ai ?_)))
  refine cJ ?_
  refine a8 (bm ?_)
  refine aM (vI 7) results22 F ?_
  refine⟨[],bj (aX _),av (fun z:Nat=>Value.int .i64 (z:Int)) (Eq.symm (a:=cC b) (b:=7) ?_),F⟩
  exact tK (by omega)
 refine ad (cD aC MD) (ax (bY underlying26 bt) (ax (bp 0 underlying3) (ax fg (ad ca (ai (aH F (fun hc=>?_) (fun hc=>?_)))))))
 ·refine ba ?_
  refine aJ (bm ?_)
  refine aM (vI 7) results22 F ?_
  refine⟨[],bj (aX _),av (fun z:Nat=>Value.int .i64 (z:Int)) (Eq.symm (a:=cC b) (b:=7) ?_),F⟩
  exact tK (by omega)
 refine aB (bY underlying26 bt) (ad (bp 0 underlying3) (ad cH (ai (aH F (fun hc=>?_) (fun hc=>?_)))))
 ·refine ba ?_
  refine aJ (bm ?_)
  refine aM (vI 1) results22 F ?_
  refine⟨[],bj (aX _),av (fun z:Nat=>Value.int .i64 (z:Int)) (Eq.symm (a:=cC b) (b:=1) ?_),F⟩
  exact DU (by omega) (by omega)
 refine aB (bY underlying26 bt) (ad (bp 0 underlying3) (ad fg (ai (aH F (fun hc=>?_) (fun hc=>?_)))))
 ·refine ba ?_
  refine aJ (bm ?_)
  refine aM (vI 10) results22 F ?_
  refine⟨[],bj (aX _),av (fun z:Nat=>Value.int .i64 (z:Int)) (Eq.symm (a:=cC b) (b:=10) ?_),F⟩
  exact AE (by omega) (by omega) (by omega)
 refine aB (bY underlying26 dQ) (ad (bp 0 underlying24) (ad (bV underlying24) (ad fg (ai (aH F (fun hc=>?_) (fun hc=>?_))))))
 ·have DV:b.aP.length>8:=by omega
  refine a8 (bm ?_)
  refine aM (vI 4) results22 F ?_
  refine⟨[],bj (aX _),av (fun z:Nat=>Value.int .i64 (z:Int)) (Eq.symm (a:=cC b) (b:=4) ?_),F⟩
  exact DW (by omega) (by omega) (by omega) (by omega)
 have DX: ¬b.aP.length>8:=by omega
 refine aE (ba (aB (bY underlying26 cf) (ad (bp 0 underlying22) (au (dv (v:=(.slice sb b.start.length sc)) underlying24 cf F F F (fun dI=>?_))))))
 refine ad (bY underlying26 dQ) (ad (bp 1 underlying24) (au (dp 0 underlying24 underlying24 cf F F F F (by simp) (by decide) (Src.sl h.out (by rw[qw];simp)) (iY.one h.rows) (by omega) (by decide) (by decide) (fun fj c4=>?_))))
 refine ad (bV underlying24) (aS (aw ?_))
 have hR1: ∀r∈b.start::b.aP,r.length≤1000000:=fun r hr=>by
  rcases List.mem_cons.1 hr with rfl|hr
  ·exact mK
  ·exact hB.sr r hr
 let dC:Lx.Item:=oI dk 26 (bf b sb sc eb ec tb tc)
 let eE:List Lx.Item:=[ak fj c4 22 1 ([(.slice sb b.start.length sc)]++vs),dC]
 refine cX (fun(k:Nat) ρ O=>O=eE∧k≤1+b.aP.length∧((b.start::b.aP).take k).all (iG b.ae (-1))=true∧cL [(0,(.agg (bf b sb sc eb ec tb tc).toArray)),(1,(.pointer (aD dk))),(7,.bool (decide (b.vars>6))),(16,.bool (decide (b.ae<0))),(20,.bool (decide (b.ae>4096))),(24,.bool (decide ((b.aP.length:Int)>8))),(34,(.slice fj (1+b.aP.length) c4)),(35,vI (1+b.aP.length:Int)),(36,vI (k:Int))] ρ) (fun k=>(1+b.aP.length)-k) 0 ?_ ?_
 ·exact⟨F,aG _,F,(.of F)⟩
 rintro k ρ O ⟨rfl,hk,kL,hH⟩
 obtain⟨fy,rfl⟩:=hH.elim
 clear hH
 refine aB cH (TO.ns (aH F (fun hc=>?_) (fun hc=>?_)))
 ·have AB:k<1+b.aP.length:=by omega
  have AF:k<(b.start::b.aP).length:=by simp;omega
  obtain⟨rb,rc,g1,s1⟩:=hR.get AF
  refine aE (ba (aw (aB (b8 k underlying24 cf F F (bU 0) (by first|assumption|omega|(simp;omega)|simp_all) (by show k<(Value.slice sb b.start.length sc::vs).length;rw[hR.1];exact AF)) (ad (dR underlying22 F F (bU 0) g1) (ai (bP (bY underlying26 bt) (ad (bp 1 underlying3) ?_)))))))
  have aad:=fun(w1:World) (hI:Inv w eE w1)=>(haveI:=Inv.tab (P:=prog) hI;Rj w1 rb rc (b.start::b.aP)[k] b.ae (hI.sl s1) (hR1 _ (ap AF)))
  refine TO.lc aae (aK aad) ?_
  clear aad
  rintro vr O' ⟨N,rfl,rfl,rfl⟩
  refine bF gM (T.cond F (fun hc=>?_) (fun hc=>?_))
  ·refine ba ?_
   refine aJ (bm ?_)
   refine aM (vI 8) results22 F ?_
   refine⟨[],bj (aX _),av (fun z:Nat=>Value.int .i64 (z:Int)) (Eq.symm (a:=cC b) (b:=8) ?_),F⟩
   exact xI (by omega) (by omega) (by omega) (by omega) (G3 AF (by simpa using hc))
  refine aE (aJ (ad (bK (b:=1) k F F (by omega)) (aS ?_)))
  exact⟨k+1,by omega,F,by omega,DY AF kL (by simpa using hc),(.of F)⟩
 have IB: ¬k<1+b.aP.length:=by omega
 refine bA ?_
 refine ba (aB (bY underlying26 kQ) (ad (bp 1 underlying23) (ad (bV underlying23) (aS (aw ?_)))))
 refine cV (O':=[dC]) (aR [1]) ?_
 refine cS (fun(j:Nat) ρ O=>O=[dC]∧j≤b.ao.length∧kx b.ae b.vars.toNat (b.ao.drop j)=cC b∧cL [(0,(.agg (bf b sb sc eb ec tb tc).toArray)),(1,(.pointer (aD dk))),(7,.bool (decide (b.vars>6))),(16,.bool (decide (b.ae<0))),(20,.bool (decide (b.ae>4096))),(24,.bool (decide ((b.aP.length:Int)>8))),(47,(.slice eb b.ao.length ec)),(48,vI (b.ao.length:Int)),(49,vI (j:Int))] ρ) (fun j=>b.ao.length-j) 0 ?_ ?_
 ·exact⟨F,aG _,(DZ (by omega) (by omega) (by omega) (by omega) (D0 (by simp;omega) kL)).symm,(.of F)⟩
 rintro j ρ O ⟨rfl,hj,he,hH⟩
 obtain⟨fy,rfl⟩:=hH.elim
 clear hH
 refine aB cH (TO.ns (aH F (fun hc=>?_) (fun hc=>?_)))
 ·have j8:j<b.ao.length:=by omega
  have sf:=hB.pn _ (ap j8)
  let dM:List Value:=[vI b.ao[j].fr,vI b.ao[j].to,v8 (b.ao[j].pos),v8 (b.ao[j].neg)]
  refine aE (ba (aw (aB (fO (i:=j) underlying23 fm F F (bS h.ed) (by first|assumption|omega|(simp;omega)|simp_all) (by first|(rw[fP];omega)|(simp[fP];omega)|(simp_all[fP];omega))) (ad (mM dM underlying106 F fm F F (eo _) (bS h.ed) (pu (by first|assumption|omega|(simp;omega)|simp_all))) (au (bO fm (fun fK=>?_)))))))
  refine au (cE dM 0 fm ?_)
  refine TO.nl (aw (aB (bY underlying106 bt) (ad (bp 0 underlying3) (ad cH ?_))))
  by_cases aaf:b.ao[j].fr<0
  ·refine ad (cm aC aaf) ?_
   refine dt (cP (ad bR (aQ (dj ?_))))
   refine dt (ad bR (aQ (dt (cP (ad bR (bh ?_))))))
   refine TO.nl ?_
   refine cJ ?_
   refine a8 (bm ?_)
   refine aM (vI 8) results22 F ?_
   refine⟨[],bj (aX _),av (fun z:Nat=>Value.int .i64 (z:Int)) (Eq.symm (a:=cC b) (b:=8) ?_),F⟩
   rw[←he];exact nX j8 (by omega)
  refine ad (cD aC aaf) (ax (bY underlying106 bt) (ax (bp 0 underlying3) (ax (bY underlying26 bt) (ax (bp 1 underlying3) (ax ly (ad ca ?_))))))
  by_cases aag:b.ao[j].fr≥b.ae
  ·refine ad (cm aC aag) ?_
   refine dt (dj (ad bR (aQ (cP ?_))))
   refine dt (ad bR (ai ?_))
   refine cJ ?_
   refine a8 (bm ?_)
   refine aM (vI 8) results22 F ?_
   refine⟨[],bj (aX _),av (fun z:Nat=>Value.int .i64 (z:Int)) (Eq.symm (a:=cC b) (b:=8) ?_),F⟩
   rw[←he];exact nX j8 (by omega)
  refine ad (cD aC aag) (ax (bY underlying106 bt) (ax (bp 0 underlying3) (ax cH (ad ca ?_))))
  by_cases aah:b.ao[j].to<0
  ·refine ad (cm aC aah) ?_
   refine dt (cP (ad bR (ai ?_)))
   refine cJ ?_
   refine a8 (bm ?_)
   refine aM (vI 8) results22 F ?_
   refine⟨[],bj (aX _),av (fun z:Nat=>Value.int .i64 (z:Int)) (Eq.symm (a:=cC b) (b:=8) ?_),F⟩
   rw[←he];exact nX j8 (by omega)
  refine ad (cD aC aah) (ax (bY underlying106 bt) (ax (bp 0 underlying3) (ax (bY underlying26 bt) (ax (bp 1 underlying3) (ax ly (ad ca (ai (aH F (fun hc=>?_) (fun hc=>?_)))))))))
  ·refine ba ?_
   refine aJ (bm ?_)
   refine aM (vI 8) results22 F ?_
   refine⟨[],bj (aX _),av (fun z:Nat=>Value.int .i64 (z:Int)) (Eq.symm (a:=cC b) (b:=8) ?_),F⟩
   rw[←he];exact nX j8 (by omega)
  refine ba ?_
  refine e6 [(0,0),(1,0),(2,0),(3,0),(4,0),(5,0),(6,0),(7,0),(8,0),(9,0),(10,0),(11,0),(12,0),(13,0),(14,0),(15,0),(16,0),(17,0),(18,0)] ?_
  refine am F (bY underlying106 fS) (am F (bp 0 underlying5) (am F (bY underlying106 fS) (am F (bp 0 underlying5) (am F (Rk (a:=b.ao[j].pos) (b:=b.ao[j].neg) .u8 F F (by show _<256;omega) (by show _<256;omega)) (am F (jj underlying5 underlying3 F (gN ⟨by omega,by have:=Nat.or_lt_two_pow (n:=8) sf.1 sf.2;omega⟩)) (am F (bY underlying26 bt) (am F (bp 1 underlying3) (am F (uZ (v:=b.vars.toNat) F (by show Value.int _ b.vars=_;rw[bq (by omega)]) (by omega)) (am F ly ?_)))))))))
  by_cases aai:((b.ao[j].pos|||b.ao[j].neg:Nat):Int)≥((2^b.vars.toNat:Nat):Int)
  ·refine am F (cm aC aai) ?_
   refine aT F F F (aT F F F (aT F F F (aT F F F (aT F F F (aT F F F (am F bR (am F dN ?_)))))))
   refine cl ?_
   refine cJ ?_
   refine a8 (bm ?_)
   refine aM (vI 1) results22 F ?_
   refine⟨[],bj (aX _),av (fun z:Nat=>Value.int .i64 (z:Int)) (Eq.symm (a:=cC b) (b:=1) ?_),F⟩
   rw[←he];exact tL j8 (by omega) (fun q=>by have:=IC.2 ⟨q.1,q.2.1⟩;have:=q.2.2;omega)
  refine am F (cD aC aai) ?_
  refine bg F F F (bY underlying106 fS) ?_
  refine bg F F F (bp 0 underlying5) ?_
  refine bg F F F (bY underlying106 fS) ?_
  refine bg F F F (bp 0 underlying5) ?_
  refine bg F F F (nY (a:=b.ao[j].pos) (b:=b.ao[j].neg) .u8 F F (by show _<256;omega) (by show _<256;omega)) ?_
  refine bg F F F gB ?_
  refine am F ca (am F dN ?_)
  refine cl ?_
  refine aH F (fun hc=>?_) (fun hc=>?_)
  ·have aiY:b.ao[j].pos&&&b.ao[j].neg≠0:=by omega
   refine a8 (bm ?_)
   refine aM (vI 1) results22 F ?_
   refine⟨[],bj (aX _),av (fun z:Nat=>Value.int .i64 (z:Int)) (Eq.symm (a:=cC b) (b:=1) ?_),F⟩
   rw[←he];exact tL j8 (by omega) (fun q=>by have:=IC.2 ⟨q.1,q.2.1⟩;have:=q.2.2;omega)
  have aiZ: ¬b.ao[j].pos&&&b.ao[j].neg≠0:=by omega
  refine aE (aJ (ad (bK (b:=1) j F F (by omega)) (aS ?_)))
  have xC:b.ao[j].pos|||b.ao[j].neg<2^b.vars.toNat:=by omega
  exact⟨j+1,by omega,[dC],(aR [1]),F,by omega,by rw[←he,ID j8 (by omega) ⟨(IC.1 xC).1,(IC.1 xC).2,by omega⟩],(.of F)⟩
 have IE: ¬j<b.ao.length:=by omega
 refine bA ?_
 refine a8 (bm ?_)
 refine aM (vI 0) results22 F ?_
 refine⟨[],bj (aX _),av (fun z:Nat=>Value.int .i64 (z:Int)) (Eq.symm (a:=cC b) (b:=0) ?_),F⟩
 rw[←he,List.drop_eq_nil_of_le (by omega)];rfl
abbrev aaS (nb mb:Option Addr) (nc mn mc:Nat) (full:Int) (nx:List (List Int)) (xc xi xl xs xg xv xp xn:Nat) (ib lb pb:Option Addr) (ic lc pc:Nat) (s:TL) (sb:Option Addr) (sc:Nat):List Lx.Item:=[eL xc (.cells (List.toArray [(vI (s.d_:Int))]) 3 (0,0)),eL xi (.cells (List.toArray [(.slice ib nx.length ic)]) 22 (0,0)),eL xl (.cells (List.toArray [(.slice lb nx.length lc)]) 22 (0,0)),eL xs (.cells (List.toArray [(.slice sb s.ef.length sc)]) 22 (0,0)),eL xg (.cells (List.toArray [(.slice nb nx.length nc),(.slice mb mn mc),.int .u64 full]) 98 (0,0)),eL xv (.cells (List.toArray [(.func (.func 115) #[] #[(.pointer (aD xc)),(.pointer (aD xi)),(.pointer (aD xl)),(.pointer (aD xs)),(.pointer (aD xg)),(.pointer (aD xv)),(.pointer (aD xp)),(.pointer (aD xn))])]) 119 (0,0)),eL xp (.cells (List.toArray [(.slice pb nx.length pc)]) 22 (0,0)),eL xn (.cells (List.toArray [(vI (s.cO:Int))]) 3 (0,0)),ak ib ic 3 1 (bn s.idx),ak lb lc 3 1 (bn s.low),ak sb sc 3 1 (bn s.ef),ak pb pc 3 1 (ints s.comp)]
theorem Ws (base:World) [eT prog base] (nb mb:Option Addr) (nc mn mc:Nat) (full:Int) (vs:List Value) (nx:List (List Int)) (hS:Sl base nb vs) (hR:iY base vs nx) (hn:nx.length≤1000000) (zY: ∀r∈nx,r.length≤1000000) (oq: ∀r∈nx,∀x∈r,0≤x∧x<(nx.length:Int)) (xc xi xl xs xg xv xp xn:Nat) (ib lb pb:Option Addr) (ic lc pc:Nat):
  ∀(m:Nat) (s:TL) (sb:Option Addr) (sc:Nat) (dW:List Nat) (v:Nat) (hm:s.idx.count 0=m) (jk:G5 nx.length s) (h0:hY nx.length (ie nx) dW s.ts) (hv:v<nx.length) (DS:s.idx[v]'(by rw[jk.li];exact hv)=0) (hg: ∀g∈dW,gL (ie nx) g v),
  cZ prog base 115 [vI (v:Int),(.pointer (aD xc)),(.pointer (aD xi)),(.pointer (aD xl)),(.pointer (aD xs)),(.pointer (aD xg)),(.pointer (aD xv)),(.pointer (aD xp)),(.pointer (aD xn))] (aaS nb mb nc mn mc full nx xc xi xl xs xg xv xp xn ib lb pb ic lc pc s sb sc) (fun _ O'=> ∃s' sb' sc' t,O'=aaS nb mb nc mn mc full nx xc xi xl xs xg xv xp xn ib lb pb ic lc pc s' sb' sc'∧IQ nx.length nx dW s v s' t):=by
 intro m
 induction m using Nat.strongRecOn with
 |_ m ih=>?_
 intro s sb sc dW v hm jk h0 hv DS hg
 refine aF func115 F ntmps115 F ?_
 have hli:=jk.li;have tJ:=jk.ll;have Ri:=jk.lc;have QU:=jk.ck;have Rr:=jk.sk
 obtain⟨rb,rc,g1,s1⟩:=hR.get hv
 have hrv:=zY _ (ap hv)
 refine aB (bp 0 underlying3) (ad (bK (b:=1) s.d_ F F (by omega)) (au (cE [(vI ((s.d_+1:Nat):Int))] 0 bt ?_)))
 refine TO.ns ?_
 let dC:Value:=(.func (.func 115) #[] #[(.pointer (aD xc)),(.pointer (aD xi)),(.pointer (aD xl)),(.pointer (aD xs)),(.pointer (aD xg)),(.pointer (aD xv)),(.pointer (aD xp)),(.pointer (aD xn))])
 let dM:Value:=(.slice mb mn mc)
 let eE:Lx.Item:=oI xg 98 [(.slice nb nx.length nc),dM,.int .u64 full]
 let fo:Lx.Item:=oI xv 119 [dC]
 let gC:Value:=(.slice ib nx.length ic)
 let gk:Value:=(.slice lb nx.length lc)
 let gS:Value:=(.slice pb nx.length pc)
 let iC:Lx.Item:=oI xs 22 [(.slice sb s.ef.length sc)]
 let jR:Lx.Item:=ak sb sc 3 1 (bn s.ef)
 let jT:Lx.Item:=oI xi 22 [gC]
 let fN:Lx.Item:=oI xl 22 [gk]
 let gG:Lx.Item:=oI xp 22 [gS]
 let im:Lx.Item:=ak lb lc 3 1 (bn s.low)
 refine nh [oI xc 3 [(vI ((s.d_+1:Nat):Int))],jT,fN,iC,eE,fo,gG,oI xn 3 [(vI (s.cO:Int))],im,jR,ak pb pc 3 1 (ints s.comp)] [oI xc 3 [(vI ((s.d_+1:Nat):Int))],jT,fN,iC,eE,fo,gG,oI xn 3 [(vI (s.cO:Int))],ak ib ic 3 1 (bn s.idx),im,jR,ak pb pc 3 1 (ints s.comp)] [(0,0),(1,0),(2,0),(3,0),(4,0),(5,0),(6,3),(7,4),(8,0),(9,2)] mixed (by kernel_rfl) (aR [0,0,0,0,0,0,0,0,1,1,1]) (aR [0,0,0,0,0,0,0,0,0,0,0,0]) (fun _ _ _ _ h=>h) ?_
 refine am F (bp 1 underlying22) (am F aC (am F (bp 2 underlying22) (am F aC (am F (bp 0 underlying3) (am F (bp 0 underlying3) ?_)))))
 refine ir F (b8 v underlying22 bt F F (bU 8)) ?_
 refine py F F (gw (v:=(vI ((s.d_+1:Nat):Int))) (vs:=[(vI ((s.d_+1:Nat):Int))]) (cs:=bn s.idx) v 8 bt F F F F F (by simp) F (by first|(simp;omega)|(simp_all;omega)) ⟨aR [0,0,0,0,0,0,0,0,1,1,1],?_⟩)
 refine eM (O':=[oI xc 3 [(vI ((s.d_+1:Nat):Int))],jT,fN,iC,eE,fo,gG,oI xn 3 [(vI (s.cO:Int))],ak ib ic 3 1 (bn (s.idx.set v (s.d_+1))),im,jR,ak pb pc 3 1 (ints s.comp)]) (by rw[show dq (bn s.idx) v [(vI ((s.d_+1:Nat):Int))]=bn (s.idx.set v (s.d_+1))from(by simp[dq])];exact bj (ay _)) ?_
 refine am F (b8 v underlying22 bt F F (bU 8)) ?_
 refine cG F F (gw (v:=(vI ((s.d_+1:Nat):Int))) (vs:=[(vI ((s.d_+1:Nat):Int))]) (cs:=bn s.low) v 9 bt F F F F F (by simp) F (by first|(simp;omega)|(simp_all;omega)) ?_)
 refine eM (O':=[oI xc 3 [(vI ((s.d_+1:Nat):Int))],jT,fN,iC,eE,fo,gG,oI xn 3 [(vI (s.cO:Int))],ak ib ic 3 1 (bn (s.idx.set v (s.d_+1))),ak lb lc 3 1 (bn (s.low.set v (s.d_+1))),jR,ak pb pc 3 1 (ints s.comp)]) (by rw[show dq (bn s.low) v [(vI ((s.d_+1:Nat):Int))]=bn (s.low.set v (s.d_+1))from(by simp[dq])];exact bj (ay _)) ?_
 refine cl ?_
 refine aB (bp 3 underlying22) (aQ (au (dv (v:=vI (v:Int)) underlying22 bt F F F (fun dk=>?_))))
 refine au (dp 11 underlying22 underlying22 bt F F F F (by simp) (by decide) (Src.row (j:=0) F (by simp)) (by simp[fL]) (by omega) (by decide) (by decide) (fun dI c3=>?_))
 refine au (cE [(.slice dI (s.ef.length+1) c3)] 4 cf ?_)
 refine cY (O':=[oI xc 3 [(vI ((s.d_+1:Nat):Int))],jT,fN,oI xs 22 [(.slice dI (s.ef.length+1) c3)],eE,fo,gG,oI xn 3 [(vI (s.cO:Int))],ak ib ic 3 1 (bn (s.idx.set v (s.d_+1))),ak lb lc 3 1 (bn (s.low.set v (s.d_+1))),ak dI c3 3 1 ((bn s.ef)++[vI (v:Int)]),ak pb pc 3 1 (ints s.comp)]) (aR [1,1,1,1,1,1,1,1,1,1,1,1]) ?_
 refine bJ (ad (bY underlying98 dQ) (ad (bp 4 underlying24) (az (b8 v underlying24 cf F F (bS hS) (by first|assumption|omega|(simp;omega)|simp_all) (by rw[hR.1];exact hv)) (ad (eA underlying22 F F hS g1) (ad (bV underlying22) (aS (aw ?_)))))))
 refine cX (fun(k:Nat) ρ O=> ∃(z:TL) (zb:Option Addr) (zc:Nat) (t:List Nat),O=[oI xc 3 [(vI (z.d_:Int))],jT,fN,oI xs 22 [(.slice zb z.ef.length zc)],eE,fo,gG,oI xn 3 [(vI (z.cO:Int))],ak ib ic 3 1 (bn z.idx),ak lb lc 3 1 (bn z.low),ak zb zc 3 1 (bn z.ef),ak pb pc 3 1 (ints z.comp)]∧k≤nx[v].length∧pB nx.length nx dW s v k z t∧cL [(0,vI (v:Int)),(1,(.pointer (aD xc))),(2,(.pointer (aD xi))),(3,(.pointer (aD xl))),(4,(.pointer (aD xs))),(5,(.pointer (aD xg))),(6,(.pointer (aD xv))),(7,(.pointer (aD xp))),(8,(.pointer (aD xn))),(31,(.slice rb nx[v].length rc)),(32,vI (nx[v].length:Int)),(33,vI (k:Int))] ρ) (fun k=>nx[v].length-k) 0 ?_ ?_
 ·exact⟨{s with idx:=s.idx.set v (s.d_+1),low:=s.low.set v (s.d_+1),ef:=s.ef++[v],d_:=s.d_+1},dI,c3,[],(by simp only[aI,cd,eD,aL,bL,df]),aG _,pB.enter jk h0 hv DS hg,(.of F)⟩
 rintro k ρ O ⟨z,zb,zc,t,rfl,hk,hr,hH⟩
 obtain⟨fy,rfl⟩:=hH.elim
 clear hH
 have hli:=hr.ok.li;have tJ:=hr.ok.ll;have Ri:=hr.ok.lc;have Uy:=hr.ok.ct
 refine aB cH (TO.ns (aH F (fun hc=>?_) (fun hc=>?_)))
 ·have qa:k<nx[v].length:=by omega
  obtain⟨u,hu,D9⟩: ∃u:Nat,nx[v][k]=(u:Int)∧u<nx.length:=by
   have:=oq _ (ap hv) _ (ap qa)
   exact⟨nx[v][k].toNat,by omega,by omega⟩
  refine aE (ba (aw (aB (b8 k underlying22 bt F F (bS s1)) (ad (eA underlying3 F F s1 (show(ints nx[v])[k]? =_ by rw[eu qa,hu])) (ai (aB (bp 1 underlying22) (az (b8 u underlying22 bt F F (bU 8)) (ad (dR underlying3 F F (bU 8) dK) (bF en (aH F (fun hc=>?_) (fun hc=>?_)))))))))))
  ·have Eh:z.idx[u]=0:=by omega
   refine aB (bp 5 underlying119) (aQ ?_)
   have MR:=b_ (first:=[]) (args:=[vI (u:Int)]) (fU:=[(.pointer (aD xc)),(.pointer (aD xi)),(.pointer (aD xl)),(.pointer (aD xs)),(.pointer (aD xg)),(.pointer (aD xv)),(.pointer (aD xp)),(.pointer (aD xn))]) MF (ih _ (by have:=hr.lt;omega) z zb zc (dW++[v]) u F hr.ok hr.lp.inv D9 (by omega) (hr.child hg hv qa hu))
   refine au (et MR F F ?_)
   clear MR
   rintro vr O' ⟨z2,Rs,Rt,t2,rfl,MS⟩
   have agf:=MS.ok.li;have Wp:=MS.ok.ll;have ak6:=MS.ok.lc
   refine TO.nl ?_
   refine e6 [(0,0),(1,0),(2,0),(3,0),(4,0),(5,0),(6,0),(7,0),(8,0),(9,0),(10,0),(11,0),(12,2)] ?_
   refine am F (bp 2 underlying22) (am F aC (am F (bp 2 underlying22) (am F aC (am F (b8 v underlying22 bt F F (bU 9)) (am F (dR underlying3 F F (bU 9) dK) (am F (bp 2 underlying22) (am F aC (am F (b8 u underlying22 bt F F (bU 9)) (am F (dR underlying3 F F (bU 9) dK) (am F (nm (a:=z2.low[v]) (b:=z2.low[u]) F F) (am F (b8 v underlying22 bt F F (bU 9)) ?_)))))))))))
   refine cG F F (gw (v:=vI ((min z2.low[v] z2.low[u]:Nat):Int)) (vs:=[(vI ((min z2.low[v] z2.low[u]:Nat):Int))]) (cs:=bn z2.low) v 9 bt F F F F F (by simp) F (by first|(simp;omega)|(simp_all;omega)) ?_)
   refine eM (O':=[oI xc 3 [(vI (z2.d_:Int))],oI xi 22 [(.slice ib nx.length ic)],oI xl 22 [(.slice lb nx.length lc)],oI xs 22 [(.slice Rs z2.ef.length Rt)],oI xg 98 [(.slice nb nx.length nc),dM,.int .u64 full],fo,oI xp 22 [(.slice pb nx.length pc)],oI xn 3 [(vI (z2.cO:Int))],ak ib ic 3 1 (bn z2.idx),ak lb lc 3 1 (bn (z2.low.set v (min z2.low[v] z2.low[u]))),ak Rs Rt 3 1 (bn z2.ef),ak pb pc 3 1 (ints z2.comp)]) (by rw[show dq (bn z2.low) v [(vI ((min z2.low[v] z2.low[u]:Nat):Int))]=bn (z2.low.set v (min z2.low[v] z2.low[u]))from(by simp[dq])];exact bj (ay _)) ?_
   refine cl ?_
   refine aJ (ad (bK (b:=1) k F F (by omega)) (aS ?_))
   exact⟨k+1,by omega,{z2 with low:=z2.low.set v (min z2.low[v] z2.low[u])},Rs,Rt,t++t2,F,by omega,hr.oH h0 hv hv qa hu (by rw[gd (by omega)];omega) MS (by rw[gd (by omega),gd (by omega)]),(.of F)⟩
  have Uz: ¬z.idx[u]=0:=by omega
  refine aB (bp 6 underlying22) (az (b8 u underlying22 bt F F (bU 11)) (ad (dR underlying3 F F (bU 11) eu) (bF cH (aH F (fun hc=>?_) (fun hc=>?_)))))
  ·refine e6 [(0,0),(1,0),(2,0),(3,0),(4,0),(5,0),(6,0),(7,0),(8,0),(9,0),(10,0),(11,0),(12,2)] ?_
   refine am F (bp 2 underlying22) (am F aC (am F (bp 2 underlying22) (am F aC (am F (b8 v underlying22 bt F F (bU 9)) (am F (dR underlying3 F F (bU 9) dK) (am F (bp 1 underlying22) (am F aC (am F (b8 u underlying22 bt F F (bU 8)) (am F (dR underlying3 F F (bU 8) dK) (am F (nm (a:=z.low[v]) (b:=z.idx[u]) F F) (am F (b8 v underlying22 bt F F (bU 9)) ?_)))))))))))
   refine cG F F (gw (v:=vI ((min z.low[v] z.idx[u]:Nat):Int)) (vs:=[(vI ((min z.low[v] z.idx[u]:Nat):Int))]) (cs:=bn z.low) v 9 bt F F F F F (by simp) F (by first|(simp;omega)|(simp_all;omega)) ?_)
   refine eM (O':=[oI xc 3 [(vI (z.d_:Int))],oI xi 22 [(.slice ib nx.length ic)],oI xl 22 [(.slice lb nx.length lc)],oI xs 22 [(.slice zb z.ef.length zc)],oI xg 98 [(.slice nb nx.length nc),dM,.int .u64 full],fo,oI xp 22 [(.slice pb nx.length pc)],oI xn 3 [(vI (z.cO:Int))],ak ib ic 3 1 (bn z.idx),ak lb lc 3 1 (bn (z.low.set v (min z.low[v] z.idx[u]))),ak zb zc 3 1 (bn z.ef),ak pb pc 3 1 (ints z.comp)]) (by rw[show dq (bn z.low) v [(vI ((min z.low[v] z.idx[u]:Nat):Int))]=bn (z.low.set v (min z.low[v] z.idx[u]))from(by simp[dq])];exact bj (ay _)) ?_
   refine cl ?_
   refine aJ (ad (bK (b:=1) k F F (by omega)) (aS ?_))
   exact⟨k+1,by omega,{z with low:=z.low.set v (min z.low[v] z.idx[u])},zb,zc,t,F,by omega,hr.back h0 hv hv qa hu (by rw[gd (by omega)];omega) (by rw[gz (by omega)];omega) (by rw[gd (by omega),gd (by omega)]),(.of F)⟩
  refine aE (aJ (ad (bK (b:=1) k F F (by omega)) (aS ?_)))
  exact⟨k+1,by omega,z,zb,zc,t,F,by omega,hr.skip h0 hv qa hu (by rw[gd (by omega)];omega) (by rw[gz (by omega)];omega),(.of F)⟩
 have IP: ¬k<nx[v].length:=by omega
 refine bA ?_
 refine ba (ba ?_)
 refine e6 [(0,0),(1,0),(2,0),(3,0),(4,0),(5,0),(6,0),(7,0),(8,0)] ?_
 refine am F (bp 2 underlying22) (am F aC (am F (b8 v underlying22 bt F F (bU 9)) (am F (dR underlying3 F F (bU 9) dK) (am F (bp 1 underlying22) (am F aC (am F (b8 v underlying22 bt F F (bU 8)) (am F (dR underlying3 F F (bU 8) dK) (am F gB ?_))))))))
 refine cl ?_
 refine aH F (fun hc=>?_) (fun hc=>?_)
 ·have ajb:z.low[v]≠z.idx[v]:=by omega
  refine cF ?_
  refine pk.zero results115 ?_
  exact⟨z,zb,zc,v::t,F,hr.AI h0 hv IP (by rw[gd (by omega),gd (by omega)];omega)⟩
 have ajc: ¬z.low[v]≠z.idx[v]:=by omega
 have agh:z.low.getD v 0=z.idx.getD v 0:=by rw[gd (by omega),gd (by omega)];omega
 refine aE (ba (aw ?_))
 let gn:Lx.Item:=ak lb lc 3 1 (bn z.low)
 refine cX (fun(q:List Nat) ρ O=> ∃(t1 pop:List Nat) (cp:List Int),O=[oI xc 3 [(vI (z.d_:Int))],oI xi 22 [(.slice ib nx.length ic)],oI xl 22 [(.slice lb nx.length lc)],oI xs 22 [(.slice zb q.length zc)],oI xg 98 [(.slice nb nx.length nc),dM,.int .u64 full],fo,oI xp 22 [(.slice pb nx.length pc)],oI xn 3 [(vI (z.cO:Int))],ak ib ic 3 1 (bn z.idx),gn,ak zb zc 3 1 (bn q),ak pb pc 3 1 (ints cp)]∧q=s.ef++v::t1∧t=t1++pop∧cp.length=nx.length∧(∀x,cp.getD x (-1)=if x∈pop then(z.cO:Int)else z.comp.getD x (-1))∧cL [(0,vI (v:Int)),(1,(.pointer (aD xc))),(2,(.pointer (aD xi))),(3,(.pointer (aD xl))),(4,(.pointer (aD xs))),(5,(.pointer (aD xg))),(6,(.pointer (aD xv))),(7,(.pointer (aD xp))),(8,(.pointer (aD xn)))] ρ) (fun q=>q.length) z.ef ?_ ?_
 ·exact⟨t,[],z.comp,F,hr.lp.ef,by simp,Ri,by simp,(.of F)⟩
 rintro q ρ O ⟨t1,pop,cp,rfl,hq,ht,nN,BS,hH⟩
 obtain⟨fy,rfl⟩:=hH.elim
 clear hH
 obtain⟨vR,u,mK⟩: ∃vR u,q=vR++[u]:=by
  rcases List.eq_nil_or_concat q with h|⟨a,b,h⟩
  ·rw[hq]at h;simp at h
  ·exact⟨a,b,h.trans (List.concat_eq_append ..)⟩
 have tD:q.length=vR.length+1:=by rw[mK];simp
 have hqg:q[vR.length]? =some u:=by rw[mK];simp
 have hqz:q.length≤z.ef.length:=by
  have e:z.ef=s.ef++v::t:=hr.lp.ef
  rw[hq,e,ht];simp
 have hqb:q.length≤1000000:=by have:=hr.ok.sk;have:=hr.ok.ck;omega
 have hus:u∈z.ef:=by
  have e:z.ef=s.ef++v::t:=hr.lp.ef
  have:u∈s.ef++v::t1:=by rw[←hq,mK];simp
  rw[e,ht];simp at this⊢
  rcases this with h|h|h
  ·exact .inl h
  ·exact .inr (.inl h)
  ·exact .inr (.inr (.inl h))
 have D9:u<nx.length:=hr.lp.inv.B2 u ((hr.lp.inv.mem u).1 hus).1
 refine T.have (φ:=q.length≤zc) (fun w hI=>by have:=rowP.cap (hI.row (i:=10) F);simpa using this) (fun rY=>?_)
 refine aw (a8 ?_)
 refine ad (bp 3 underlying22) (ad (bp 3 underlying22) (ad (bV underlying22) (ad (bH (il (a:=q.length) (b:=1) F F (by omega) (by omega)) (v':=vI ((vR.length:Nat):Int)) (by rw[show q.length-1=vR.length by omega])) ?_)))
 refine ad (b8 vR.length underlying22 bt F F (bU 10)) (ad (dR underlying3 F F (bU 10) (show(bn q)[vR.length]? =some (vI ((u:Nat):Int)) by rw[bc,hqg];rfl)) (bh ?_))
 refine TO.nl (aB (bp 3 underlying22) (ad (bp 3 underlying22) (ad (bV underlying22) (ad (bH (il (a:=q.length) (b:=1) F F (by omega) (by omega)) (v':=vI ((vR.length:Nat):Int)) (by rw[show q.length-1=vR.length by omega])) (au (B3 (m:=vR.length) 10 underlying22 bt F F F (by omega) ?_))))))
 refine cY (O':=[oI xc 3 [(vI (z.d_:Int))],oI xi 22 [(.slice ib nx.length ic)],oI xl 22 [(.slice lb nx.length lc)],oI xs 22 [(.slice zb q.length zc)],oI xg 98 [(.slice nb nx.length nc),dM,.int .u64 full],fo,oI xp 22 [(.slice pb nx.length pc)],oI xn 3 [(vI (z.cO:Int))],ak ib ic 3 1 (bn z.idx),gn,ak zb zc 3 1 (bn vR),ak pb pc 3 1 (ints cp)]) (by rw[show((bn q).take (vR.length*1):List Value)=bn vR from(by rw[Nat.mul_one,←List.map_take,mK,List.take_left])];exact bj (ay _)) ?_
 refine au (cE [(.slice zb vR.length zc)] 3 cf ?_)
 refine TO.nl (aB (bp 6 underlying22) (az (bp 7 underlying3) (ad (b8 u underlying22 bt F F (bU 11)) (au (gw (v:=(vI (z.cO:Int))) (vs:=[(vI (z.cO:Int))]) (cs:=ints cp) u 11 bt F F F F F (by simp) F (by first|(simp;omega)|(simp_all;omega)) ?_)))))
 refine cY (O':=[oI xc 3 [(vI (z.d_:Int))],oI xi 22 [(.slice ib nx.length ic)],oI xl 22 [(.slice lb nx.length lc)],oI xs 22 [(.slice zb vR.length zc)],oI xg 98 [(.slice nb nx.length nc),dM,.int .u64 full],fo,oI xp 22 [(.slice pb nx.length pc)],oI xn 3 [(vI (z.cO:Int))],ak ib ic 3 1 (bn z.idx),gn,ak zb zc 3 1 (bn vR),ak pb pc 3 1 (ints (cp.set u (z.cO:Int)))]) (by rw[show dq (ints cp) u [(vI (z.cO:Int))]=ints (cp.set u (z.cO:Int))from(by simp[dq])];exact bj (ay _)) ?_
 refine TO.nl (bI (aQ (bF en (aH F (fun hc=>?_) (fun hc=>?_)))))
 ·have agi:u=v:=by omega
  refine bA ?_
  refine aJ (ad (bp 7 underlying3) (ad (bK (b:=1) z.cO F F (by omega)) (au (cE [(vI ((z.cO+1:Nat):Int))] 7 bt ?_))))
  refine TO.nl ?_
  refine pk.zero results115 ?_
  have UA:v∉t1:=fun hm=>by
   have:=hr.lp.Ru (x:=v) (by rw[ht];exact a_ _ hm)
   exact Nat.lt_irrefl _ this
  obtain⟨h5,h6⟩:=MT (hq▸mK) (by omega) UA
  have huv:u=v:=by omega
  subst h6 h5 huv
  exact⟨{z with comp:=cp.set u z.cO,ef:=s.ef,cO:=z.cO+1},zb,zc,[],F,hr.pop h0 jk hv IP agh (by simp[nN]) (fun x=>by rw[MU (by omega) BS x,ht];rfl)⟩
 have agj: ¬u=v:=by omega
 refine aE ?_
 obtain⟨Rv,ht1,BP⟩:=Kf (hq▸mK) (by omega)
 exact⟨vR,by omega,Rv,u::pop,cp.set u z.cO,F,BP,by rw[ht,ht1];simp,by simp[nN],MU (by omega) BS,(.of F)⟩
theorem D3 (base:World) [eT prog base] (nb mb:Option Addr) (nc mn mc:Nat) (full:Int) (vs:List Value) (nx:List (List Int)) (hS:Sl base nb vs) (hR:iY base vs nx) (hn:nx.length≤1000000) (zY: ∀r∈nx,r.length≤1000000) (oq: ∀r∈nx,∀x∈r,0≤x∧x<(nx.length:Int)):
  cR prog 89 [.agg #[.slice nb nx.length nc,.slice mb mn mc,.int .u64 full]] base fun v N=> ∃cb cc cn cO,v=.tuple #[.slice cb nx.length cc,vN cO]∧N=[ak cb cc 3 1 (bn cn)]∧cn.length=nx.length∧vP nx cn cO∧cO≤nx.length:=by
 refine aF func89 F ntmps89 F ?_
 let dM:List Value:=[(.slice nb nx.length nc),(.slice mb mn mc),.int .u64 full]
 refine a8 (au (e5 dM (fun dk=>?_)))
 refine au (bO cf (fun dI=>?_))
 refine au (bO bt (fun fj=>?_))
 refine TO.nl (aB (bY underlying98 dQ) (ad (bp 2 underlying24) (ad (bV underlying24) (ai ?_))))
 refine iD (fun ρ O=> ∃(zA zB zC zD:Nat),O=[oI zC 22 [(.slice (aD zA) nx.length nx.length)],oI zD 22 [(.slice (aD zB) nx.length nx.length)],aU zA nx.length 3 1 (List.replicate nx.length (vI 0)),aU zB nx.length 3 1 (List.replicate nx.length (vI 0)),oI fj 3 [(vI 0)],oI dI 22 [nS],oI dk 98 dM]∧cL [(0,(.agg dM.toArray)),(1,(.pointer (aD dk))),(2,(.pointer (aD dI))),(3,(.pointer (aD fj))),(4,vI (nx.length:Int)),(5,(.pointer (aD zC))),(6,(.pointer (aD zD)))] ρ) ?_ ?_
 ·refine T.oH [] 8 mixed F (aR []) (fun _ _ _ _ h=>h) ?_
  refine aO 0 F (by kernel_rfl) aC ?_
  refine aO 2 F (by kernel_rfl) aC ?_
  repeat' first
   |refine⟨⟨some 16,_,_,_,_,_⟩,F,F,cq nx.length underlying22 bt F F (by omega) (by omega) (fun zA=>⟨?_,?_⟩)⟩
   |refine⟨⟨some 18,_,_,_,_,_⟩,F,F,cq nx.length underlying22 bt F F (by omega) (by omega) (fun zB=>⟨?_,?_⟩)⟩
   |refine⟨⟨some 5,_,_,_,_,_⟩,F,F,bO cf (fun zC=>⟨?_,?_⟩)⟩
   |refine⟨⟨some 6,_,_,_,_,_⟩,F,F,bO cf (fun zD=>⟨?_,?_⟩)⟩
   |refine⟨⟨none,.store 22 _ _,_,_,_,_⟩,F,F,cE [(.slice (aD zA) nx.length nx.length)] 0 cf ⟨?_,?_⟩ F F F F⟩
   |refine⟨⟨none,.store 22 _ _,_,_,_,_⟩,F,F,cE [(.slice (aD zA) nx.length nx.length)] 1 cf ⟨?_,?_⟩ F F F F⟩
   |refine⟨⟨none,.store 22 _ _,_,_,_,_⟩,F,F,cE [(.slice (aD zA) nx.length nx.length)] 2 cf ⟨?_,?_⟩ F F F F⟩
   |refine⟨⟨none,.store 22 _ _,_,_,_,_⟩,F,F,cE [(.slice (aD zA) nx.length nx.length)] 3 cf ⟨?_,?_⟩ F F F F⟩
   |refine⟨⟨none,.store 22 _ _,_,_,_,_⟩,F,F,cE [(.slice (aD zB) nx.length nx.length)] 0 cf ⟨?_,?_⟩ F F F F⟩
   |refine⟨⟨none,.store 22 _ _,_,_,_,_⟩,F,F,cE [(.slice (aD zB) nx.length nx.length)] 1 cf ⟨?_,?_⟩ F F F F⟩
   |refine⟨⟨none,.store 22 _ _,_,_,_,_⟩,F,F,cE [(.slice (aD zB) nx.length nx.length)] 2 cf ⟨?_,?_⟩ F F F F⟩
   |refine⟨⟨none,.store 22 _ _,_,_,_,_⟩,F,F,cE [(.slice (aD zB) nx.length nx.length)] 3 cf ⟨?_,?_⟩ F F F F⟩
   |exact aR []
   |refine aZ [1,3,4,5] (by decide+kernel) F ?_
   |refine aZ [1,3,4] (by decide+kernel) F ?_
   |refine aZ [1,3,5] (by decide+kernel) F ?_
   |refine aZ [1,4,5] (by decide+kernel) F ?_
   |refine aZ [3,4,5] (by decide+kernel) F ?_
   |refine aZ [1,3] (by decide+kernel) F ?_
   |refine aZ [1,4] (by decide+kernel) F ?_
   |refine aZ [1,5] (by decide+kernel) F ?_
   |refine aZ [3,4] (by decide+kernel) F ?_
   |refine aZ [3,5] (by decide+kernel) F ?_
   |refine aZ [3,6] (by decide+kernel) F ?_
   |refine aZ [4,5] (by decide+kernel) F ?_
   |refine aZ [1] (by decide+kernel) F ?_
   |refine aZ [3] (by decide+kernel) F ?_
   |refine aZ [4] (by decide+kernel) F ?_
   |refine aZ [5] (by decide+kernel) F ?_
   |refine aZ [6] (by decide+kernel) F ?_
   |refine aZ [7] (by decide+kernel) F ?_
   |exact trivial
   |refine dB (by kernel_rfl) ⟨zA,zB,zC,zD,F,(.of F)⟩ ?_
   |exact Sub.cO [] (by intro a;simp only[bQ,oI,da,dJ,dq,cj,dl,bZ,bw,aL,bL,df,fF,gg,jq,vI,nS,aU,G4,aD,bf,c_]<;>omega)
   |refine⟨?_,?_⟩
 rintro ρ O ⟨zA,zB,zC,zD,rfl,hH⟩
 obtain⟨fy,rfl⟩:=hH.elim
 clear hH
 refine bI (au (cq nx.length underlying22 bt F F (by omega) (by omega) (fun fA=>?_)))
 refine au (cE [(.slice (aD fA) nx.length nx.length)] 6 cf ?_)
 refine bJ (ad (bp 6 underlying22) (ad (bV underlying22) (aS (aw ?_))))
 refine cX (fun(k:Nat) ρ O=> ∃(cp:List Int),O=[aU fA nx.length 3 1 (ints cp),oI zC 22 [(.slice (aD zA) nx.length nx.length)],oI zD 22 [(.slice (aD zB) nx.length nx.length)],aU zA nx.length 3 1 (List.replicate nx.length (vI 0)),aU zB nx.length 3 1 (List.replicate nx.length (vI 0)),oI fj 3 [(vI 0)],oI dI 22 [(.slice (aD fA) nx.length nx.length)],oI dk 98 dM]∧k≤nx.length∧cp.length=nx.length∧cp.take k=List.replicate k (-1)∧cL [(0,(.agg dM.toArray)),(1,(.pointer (aD dk))),(2,(.pointer (aD dI))),(3,(.pointer (aD fj))),(4,vI (nx.length:Int)),(5,(.pointer (aD zC))),(6,(.pointer (aD zD))),(22,vI (nx.length:Int)),(23,vI (k:Int))] ρ) (fun k=>nx.length-k) 0 ?_ ?_
 ·exact⟨List.replicate nx.length 0,by simp[dq],aG _,by simp,by simp,(.of F)⟩
 rintro k ρ O ⟨cp,rfl,hk,nN,BS,hH⟩
 obtain⟨fy,rfl⟩:=hH.elim
 clear hH
 refine aB cH (TO.ns (aH F (fun hc=>?_) (fun hc=>?_)))
 ·have DV:k<nx.length:=by omega
  refine aE (ba (aw (bI (ai (aJ (ad (bp 6 underlying22) (az (b8 k underlying22 bt F F (bU 0)) (au (gw (v:=vI (-1)) (vs:=[(vI (-1))]) (cs:=ints cp) k 0 bt F F F F F (by simp) F (by first|(simp;omega)|(simp_all;omega)) ?_)))))))))
  refine cY (O':=[aU fA nx.length 3 1 (ints (cp.set k (-1))),oI zC 22 [(.slice (aD zA) nx.length nx.length)],oI zD 22 [(.slice (aD zB) nx.length nx.length)],aU zA nx.length 3 1 (List.replicate nx.length (vI 0)),aU zB nx.length 3 1 (List.replicate nx.length (vI 0)),oI fj 3 [(vI 0)],oI dI 22 [(.slice (aD fA) nx.length nx.length)],oI dk 98 dM]) (by rw[show dq (ints cp) k [(vI (-1))]=ints (cp.set k (-1))from(by simp[dq])];exact bj (ay _)) ?_
  refine TO.nl (aJ (ad (bK (b:=1) k F F (by omega)) (aS ?_)))
  exact⟨k+1,by omega,cp.set k (-1),F,by omega,by simp[nN],ME BS (by omega),(.of F)⟩
 have DX: ¬k<nx.length:=by omega
 refine bA ?_
 refine a8 (au (bO cf (fun fK=>?_)))
 refine ko (au (bO bt (fun ig=>?_)))
 refine au (cE [(vI 0)] 0 bt ?_)
 refine ko (au (bO BT (fun mL=>?_)))
 let dC:List Value:=[(.pointer (aD ig)),(.pointer (aD zC)),(.pointer (aD zD)),(.pointer (aD fK)),(.pointer (aD dk)),(.pointer (aD mL)),(.pointer (aD dI)),(.pointer (aD fj))]
 let eE:Value:=(.func (.func 115) #[] dC.toArray)
 refine TO.nl (aB (dZ) (au (cE [eE] 0 BT ?_)))
 refine bJ (aQ (aS (aw ?_)))
 have af4:cp=List.replicate nx.length (-1):=by rw[aN (by omega)]at BS;rw[BS];congr 1;omega
 subst af4
 refine T.dH 3 1 ?_
 refine cV (O':=[oI ig 3 [(vI 0)],oI zC 22 [(.slice (aD zA) nx.length nx.length)],oI zD 22 [(.slice (aD zB) nx.length nx.length)],oI fK 22 [nS],oI dk 98 dM,oI mL 119 [eE],oI dI 22 [(.slice (aD fA) nx.length nx.length)],oI fj 3 [(vI 0)],aU zA nx.length 3 1 (List.replicate nx.length (vI 0)),aU zB nx.length 3 1 (List.replicate nx.length (vI 0)),ak none 0 3 1 [],aU fA nx.length 3 1 (ints (List.replicate nx.length (-1)))]) (aR [2,4,4,2,7,1,5,4,2,2,0,0]) ?_
 refine cX (fun(k:Nat) ρ O=> ∃(s:TL) (sb:Option Addr) (sc:Nat),O=[oI ig 3 [(vI (s.d_:Int))],oI zC 22 [(.slice (aD zA) nx.length nx.length)],oI zD 22 [(.slice (aD zB) nx.length nx.length)],oI fK 22 [(.slice sb s.ef.length sc)],oI dk 98 dM,oI mL 119 [eE],oI dI 22 [(.slice (aD fA) nx.length nx.length)],oI fj 3 [(vI (s.cO:Int))],aU zA nx.length 3 1 (bn s.idx),aU zB nx.length 3 1 (bn s.low),ak sb sc 3 1 (bn s.ef),aU fA nx.length 3 1 (ints s.comp)]∧k≤nx.length∧G5 nx.length s∧hY nx.length (ie nx) [] s.ts∧(∀x,x<k→s.idx.getD x 0≠0)∧cL [(0,(.agg dM.toArray)),(1,(.pointer (aD dk))),(2,(.pointer (aD dI))),(3,(.pointer (aD fj))),(4,vI (nx.length:Int)),(5,(.pointer (aD zC))),(6,(.pointer (aD zD))),(8,(.pointer (aD fK))),(9,(.pointer (aD ig))),(10,(.pointer (aD mL))),(31,vI (nx.length:Int)),(32,vI (k:Int))] ρ) (fun k=>nx.length-k) 0 ?_ ?_
 ·refine⟨{idx:=List.replicate nx.length 0,low:=List.replicate nx.length 0,comp:=List.replicate nx.length (-1),ef:=[],d_:=0,cO:=0},none,0,by simp only[List.map_replicate,df,eD];rfl,aG _,G6 _,G7 _,fun x hx=>absurd hx (by omega),(.of F)⟩
 rintro k ρ O ⟨s,sb,sc,rfl,hk,jk,hinv,nO,hH⟩
 obtain⟨fy,rfl⟩:=hH.elim
 clear hH
 have hli:=jk.li
 refine aB cH (TO.ns (aH F (fun hc=>?_) (fun hc=>?_)))
 ·have aaj:k<nx.length:=by omega
  refine aE (ba (aw (bI (ai (aB (bp 1 underlying22) (az (b8 k underlying22 bt F F (bU 8)) (ad (dR underlying3 F F (bU 8) dK) (bF en (aH F (fun hc=>?_) (fun hc=>?_))))))))))
  ·have vQ:s.idx[k]=0:=by omega
   refine aJ (ad (bp 5 underlying119) (aQ ?_))
   have aak:=b_ (first:=[]) (args:=[vI (k:Int)]) (fU:=dC) MF (Ws base nb mb nc mn mc full vs nx hS hR hn zY oq ig zC zD fK dk mL dI fj (aD zA) (aD zB) (aD fA) nx.length nx.length nx.length _ s sb sc [] k F jk hinv aaj (by omega) (fun g hg=>(List.not_mem_nil hg).elim))
   refine au (et aak F F ?_)
   clear aak
   rintro vr O' ⟨s2,MG,MH,t2,rfl,hd⟩
   refine TO.nl (aJ (ad (bK (b:=1) k F F (by omega)) (aS ?_)))
   exact⟨k+1,by omega,s2,MG,MH,F,by omega,hd.ok,hd.inv,MI hd.ext nO hd.post.1,(.of F)⟩
  have aal: ¬s.idx[k]=0:=by omega
  refine aE (aJ (ad (bK (b:=1) k F F (by omega)) (aS ?_)))
  exact⟨k+1,by omega,s,sb,sc,F,by omega,jk,hinv,D4 nO (by rw[gd (by omega)];omega),(.of F)⟩
 have ai0: ¬k<nx.length:=by omega
 refine bA ?_
 refine ba ?_
 refine e6 [(0,0),(1,0),(2,1),(3,2)] ?_
 refine am F (bp 6 underlying22) (am F (bp 7 underlying3) ?_)
 refine eH F F (cE [(.slice (aD fA) nx.length nx.length)] 6 cf ⟨aR [0,0,0,0,0,0,0,0,0,0,0,0],?_⟩ F F F F)
 refine cG F F (cE [(vI (s.cO:Int))] 7 bt ?_)
 refine cl ?_
 refine cF (e7 ?_)
 refine BU (i:=6) (j:=7) results89 underlying22 F underlying3 F F F F F ?_
 have Zl:=hinv.done (fun v hv=>nO v (by omega))
 have e:=G8 (cp:=s.comp) (fun v hv=>(Zl.pos v (by rw[←jk.lc];exact hv)).1)
 exact⟨[aU fA nx.length 3 1 (ints s.comp)],(aR [11]),_,_,s.comp.map Int.toNat,s.cO,F,by rw[e],by simp[jk.lc],J6 jk.lc Zl oq,by have:=jk.ct;omega⟩
theorem Ui (base:World) [eT prog base] (nb mb:Option Addr) (nc mc:Nat) (vs:List Value) (nx:List (List Int)) (ms:List Nat) (m:Nat) (hS:Sl base nb vs) (hR:iY base vs nx) (hn:nx.length≤1000000) (zY: ∀r∈nx,r.length≤1000000) (oq:na nx) (hM:Sl base mb (fe ms)) (DB:ms.length=nx.length) (MN: ∀x∈ms,x<2^m) (hm:m≤8):
  cR prog 44 [.agg #[.slice nb nx.length nc,.slice mb ms.length mc,.int .u64 ((2^m-1:Nat):Int)]] base fun v N=> ∃lb lc kb kc ls co,v=.tuple #[.slice lb nx.length lc,.slice kb nx.length kc]∧N=[ak lb lc 4 1 (bv ls),ak kb kc 4 1 (bv co)]∧ls.length=nx.length∧co.length=nx.length∧ ∀v,v<nx.length→(ls.getD v false=true↔wX nx ms m v)∧(co.getD v false=true↔Ka nx ms m v):=by
 refine aF func44 F ntmps44 F ?_
 let dC:Value:=(.slice mb ms.length mc)
 let im:Value:=(.slice nb nx.length nc)
 refine a8 (au (e5 [im,dC,.int .u64 ((2^m-1:Nat):Int)] (fun dk=>?_)))
 refine bh (ai (aB (eg 0 underlying98 fY) (TO.lc aaC (aK fun w1 hI=>(haveI:=Inv.tab (P:=prog) hI;D3 w1 nb mb nc ms.length mc ((2^m-1:Nat):Int) vs nx (hI.sl hS) (hI.rows hR) hn zY oq)) ?_)))
 rintro vr O' ⟨N,rfl,cb,cc,cn,cO,rfl,rfl,nN,hC,af7⟩
 refine az (bX _) (ad (bX _) (bh (ai ?_)))
 let eE:Lx.Item:=ak cb cc 3 1 (bn cn)
 let gG:Value:=(.pointer (aD dk))
 let D7:Value:=(.slice cb nx.length cc)
 refine iD (fun ρ O=> ∃(zA zB:Nat),O=[aU zA cO 4 1 (List.replicate cO (.bool false)),aU zB cO 96 1 (List.replicate cO (.int .u64 0)),eE,oI dk 98 [im,dC,.int .u64 ((2^m-1:Nat):Int)]]∧cL [(0,(.agg #[im,dC,.int .u64 ((2^m-1:Nat):Int)])),(1,gG),(2,nS),(3,nS),(4,D7),(5,vN cO),(6,(.slice (aD zA) cO cO)),(7,(.slice (aD zB) cO cO))] ρ) ?_ ?_
 ·refine T.oH [] 6 mixed F (aR []) (fun _ _ _ _ h=>h) ?_
  refine aO 0 F (by kernel_rfl) aC ?_
  refine aO 2 F (by kernel_rfl) aC ?_
  refine aZ [1,3] (by kernel_rfl) F ⟨⟨_,F,F,cq cO underlying108 eW F F (by omega) (by omega) (fun zA=>⟨aR [],?_⟩)⟩,⟨_,F,F,cq cO underlying95 jg F F (by omega) (by omega) (fun zB=>⟨aR [],?_⟩)⟩,trivial⟩
  ·refine aO 4 F (by kernel_rfl) dN ?_
   refine aZ [3] (by kernel_rfl) F ⟨⟨_,F,F,cq cO underlying95 jg F F (by omega) (by omega) (fun zB=>⟨aR [],?_⟩)⟩,trivial⟩
   refine aO 5 F (by kernel_rfl) dN ?_
   exact dB (by kernel_rfl) ⟨zA,zB,F,(.of F)⟩ (aR [1,0,0,0])
  refine aZ [1] (by kernel_rfl) F ⟨⟨_,F,F,cq cO underlying108 eW F F (by omega) (by omega) (fun zA=>⟨aR [],?_⟩)⟩,trivial⟩
  refine aO 4 F (by kernel_rfl) dN ?_
  refine aO 5 F (by kernel_rfl) dN ?_
  exact dB (by kernel_rfl) ⟨zA,zB,F,(.of F)⟩ (aR [0,0,0,0])
 rintro ρ O ⟨zA,zB,rfl,hH⟩
 obtain⟨fy,rfl⟩:=hH.elim
 clear hH
 refine ba (aB (bY underlying98 dQ) (ad (bp 3 underlying24) (ad (bV underlying24) (aS (aw ?_)))))
 let jR:Value:=(.slice (aD zA) cO cO)
 let jT:Value:=(.slice (aD zB) cO cO)
 refine cX (fun(k:Nat) ρ O=> ∃(cy:List Bool) (ha:List Nat),O=[aU zA cO 4 1 (bv cy),aU zB cO 96 1 (fe ha),eE,oI dk 98 [im,dC,.int .u64 ((2^m-1:Nat):Int)]]∧k≤nx.length∧Kb nx cn cO k 0 cy∧Rm nx ms cn m cO k ha∧cL [(0,(.agg #[im,dC,.int .u64 ((2^m-1:Nat):Int)])),(1,gG),(2,nS),(3,nS),(4,D7),(5,vN cO),(6,jR),(7,jT),(36,im),(37,vI (nx.length:Int)),(38,vI (k:Int))] ρ) (fun k=>nx.length-k) 0 ?_ ?_
 ·exact⟨List.replicate cO false,List.replicate cO 0,(by first|(simp only[List.map_replicate];done)|(simp only[List.map_replicate];rfl)),aG _,Kb.start,Rm.start,(.of F)⟩
 rintro k ρ O ⟨cy,ha,rfl,hk,hcy,hha,hH⟩
 obtain⟨fy,rfl⟩:=hH.elim
 clear hH
 have Up:=hcy.l;have hhl:=hha.l
 refine aB cH (TO.ns (aH F (fun hc=>?_) (fun hc=>?_)))
 ·have vQ:k<nx.length:=by omega
  obtain⟨rb,rc,g1,s1⟩:=hR.get vQ
  have hrk:=zY _ (ap vQ)
  have QS:fn cn k=cn[k]:=ot (by omega)
  have QU:cn[k]<cO:=by have:=(hC.pos k (by omega)).2;have h2:((fn cn k:Nat):Int)<cO:=this;omega
  have hb1:ha[cn[k]]<256:=aaF (by have:=hha.b cn[k];rwa[gd (by omega)]at this) hm
  have wZ:ms[k]<256:=aaF (MN _ (ap _)) hm
  refine aE (ba (aw (bP (b8 k underlying24 cf F F (bS hS) (by first|assumption|omega|(simp;omega)|simp_all) (by rw[hR.1];exact vQ)) (ad (eA underlying22 F F hS g1) (bh (ai (ba ?_)))))))
  refine e6 [(0,0),(1,0),(2,0),(3,0),(4,0),(5,0),(6,0),(7,0),(8,0),(9,0),(10,0),(11,0),(12,0),(13,0),(14,2)] ?_
  refine am F aC (am F aC (am F aC (am F (b8 k underlying22 bt F F (bU 2)) (am F (dR underlying3 F F (bU 2) dK) (am F (b8 (cn[k]) underlying95 jg F F (bU 1)) (am F (dR underlying96 F F (bU 1) BX) (am F (bY underlying98 IA) (am F (bp 3 underlying95) (am F aC (am F (b8 k underlying95 jg F F (bS hM)) (am F (eA underlying96 F F hM BX) (am F (Rk (a:=ha[cn[k]]) (b:=ms[k]) .u64 F F (by show _<18446744073709551616;omega) (by show _<18446744073709551616;omega)) (am F (b8 (cn[k]) underlying95 jg F F (bU 1)) ?_)))))))))))))
  refine cG F F (gw (v:=.int .u64 ((ha[cn[k]]|||ms[k]:Nat):Int)) (vs:=[(.int .u64 ((ha[cn[k]]|||ms[k]:Nat):Int))]) (cs:=fe ha) (cn[k]) 1 jg F F F F F (by simp) F (by first|(simp;omega)|(simp_all;omega)) ?_)
  let D8:Lx.Item:=aU zB cO 96 1 (fe (ha.set cn[k] (ha[cn[k]]|||ms[k])))
  refine eM (O':=[aU zA cO 4 1 (bv cy),D8,eE,oI dk 98 [im,dC,.int .u64 ((2^m-1:Nat):Int)]]) (by rw[show dq (fe ha) cn[k] [(.int .u64 ((ha[cn[k]]|||ms[k]:Nat):Int))]=fe (ha.set cn[k] (ha[cn[k]]|||ms[k]))from(by simp[dq])];exact bj (ay _)) ?_
  refine cl ?_
  refine bP (bV underlying22) (aS (aw ?_))
  refine cX (fun(j:Nat) ρ O=> ∃(cz:List Bool),O=[aU zA cO 4 1 (bv cz),D8,eE,oI dk 98 [im,dC,.int .u64 ((2^m-1:Nat):Int)]]∧j≤nx[k].length∧Kb nx cn cO k j cz∧cL [(0,(.agg #[im,dC,.int .u64 ((2^m-1:Nat):Int)])),(1,gG),(2,nS),(3,nS),(4,D7),(5,vN cO),(6,jR),(7,jT),(8,vI (k:Int)),(9,(.slice rb nx[k].length rc)),(36,im),(37,vI (nx.length:Int)),(38,vI (k:Int)),(57,(.slice rb nx[k].length rc)),(58,vI (nx[k].length:Int)),(59,vI (j:Int))] ρ) (fun j=>nx[k].length-j) 0 ?_ ?_
  ·exact⟨cy,F,aG _,hcy,(.of F)⟩
  rintro j ρ O ⟨cz,rfl,hj,hcz,hH⟩
  obtain⟨fy,rfl⟩:=hH.elim
  clear hH
  have WA:=hcz.l
  refine aB cH (TO.ns (aH F (fun hc=>?_) (fun hc=>?_)))
  ·have IK:j<nx[k].length:=by omega
   obtain⟨u,hu,D9⟩: ∃u:Nat,nx[k][j]=(u:Int)∧u<nx.length:=by
    have:=oq _ (ap vQ) _ (ap IK)
    exact⟨nx[k][j].toNat,by omega,by omega⟩
   have GJ:fn cn u=cn[u]:=ot (by omega)
   have hcu:cn[u]<cO:=by have:=(hC.pos u D9).2;have h2:((fn cn u:Nat):Int)<cO:=this;omega
   refine aE (ba (aw (aB (b8 j underlying22 bt F F (bS s1)) (ad (eA underlying3 F F s1 (show(ints nx[k])[j]? =_ by rw[eu IK,hu])) (ai ?_)))))
   refine e6 [(0,0),(1,0),(2,0),(3,0),(4,0),(5,0),(6,0),(7,0),(8,0),(9,0),(10,0),(11,0),(12,0),(13,0),(14,0),(15,0),(16,0),(17,0),(18,0),(19,0),(20,0),(21,0),(22,0),(23,0),(24,2)] ?_
   refine am F aC (am F aC (am F aC (am F (b8 k underlying22 bt F F (bU 2)) (am F (dR underlying3 F F (bU 2) dK) (am F aC (am F aC (am F aC (am F (b8 k underlying22 bt F F (bU 2)) (am F (dR underlying3 F F (bU 2) dK) (am F (b8 (cn[k]) underlying108 eW F F (bU 0)) (am F (dR underlying4 F F (bU 0) gj) ?_)))))))))))
   by_cases Kc:cz[cn[k]]=true
   ·refine am F (dE aC (Kc)) ?_
    refine aT F F F (aT F F F (aT F F F (aT F F F (aT F F F (aT F F F (aT F F F (aT F F F ?_)))))))
    refine aT F F F (am F bR (am F (b8 (cn[k]) underlying108 eW F F (bU 0)) ?_))
    refine cG F F (gw (v:=.bool true) (vs:=[(.bool true)]) (cs:=bv cz) (cn[k]) 0 eW F F F F F (by simp) F (by first|(simp;omega)|(simp_all;omega)) ?_)
    refine eM (O':=[aU zA cO 4 1 (bv (cz.set cn[k] true)),aU zB cO 96 1 (fe (ha.set cn[k] (ha[cn[k]]|||ms[k]))),eE,oI dk 98 [(.slice nb nx.length nc),dC,.int .u64 ((2^m-1:Nat):Int)]]) (by rw[show dq (bv cz) cn[k] [(.bool true)]=bv (cz.set cn[k] true)from(by simp[dq])];exact bj (ay _)) ?_
    refine cl ?_
    refine aJ (ad (bK (b:=1) j F F (by omega)) (aS ?_))
    exact⟨j+1,by omega,cz.set cn[k] true,F,by omega,(by have:=hcz.step (k:=k) (b:=true) vQ IK hu (by rw[QS];exact QU) (by rw[QS,GJ,gb (by omega)];first|(simp[Kc];done)|(simp[Kc];omega));rwa[QS]at this),(.of F)⟩
   refine am F (dE aC (Bool.eq_false_iff.2 Kc)) ?_
   refine bg F F F aC ?_
   refine bg F F F aC ?_
   refine bg F F F (b8 u underlying22 bt F F (bU 2)) ?_
   refine bg F F F (dR underlying3 F F (bU 2) dK) ?_
   refine bg F F F aC ?_
   refine bg F F F aC ?_
   refine bg F F F (b8 k underlying22 bt F F (bU 2)) ?_
   refine bg F F F (dR underlying3 F F (bU 2) dK) ?_
   refine bg F F F en ?_
   refine am F ca (am F (b8 (cn[k]) underlying108 eW F F (bU 0)) ?_)
   refine cG F F (gw (v:=.bool (decide (((cn[u]:Nat):Int)=((cn[k]:Nat):Int)))) (vs:=[(.bool (decide (((cn[u]:Nat):Int)=((cn[k]:Nat):Int))))]) (cs:=bv cz) (cn[k]) 0 eW F F F F F (by simp) F (by first|(simp;omega)|(simp_all;omega)) ?_)
   refine eM (O':=[aU zA cO 4 1 (bv (cz.set cn[k] (decide (((cn[u]:Nat):Int)=((cn[k]:Nat):Int))))),aU zB cO 96 1 (fe (ha.set cn[k] (ha[cn[k]]|||ms[k]))),eE,oI dk 98 [(.slice nb nx.length nc),dC,.int .u64 ((2^m-1:Nat):Int)]]) (by rw[show dq (bv cz) cn[k] [(.bool (decide (((cn[u]:Nat):Int)=((cn[k]:Nat):Int))))]=bv (cz.set cn[k] (decide (((cn[u]:Nat):Int)=((cn[k]:Nat):Int))))from(by simp[dq])];exact bj (ay _)) ?_
   refine cl ?_
   refine aJ (ad (bK (b:=1) j F F (by omega)) (aS ?_))
   exact⟨j+1,by omega,cz.set cn[k] (decide (((cn[u]:Nat):Int)=((cn[k]:Nat):Int))),F,by omega,(by have:=hcz.step (k:=k) (b:=(decide (((cn[u]:Nat):Int)=((cn[k]:Nat):Int)))) vQ IK hu (by rw[QS];exact QU) (by rw[QS,GJ,gb (by omega)];first|(simp[Kc];done)|(simp[Kc];omega));rwa[QS]at this),(.of F)⟩
  have ai6: ¬j<nx[k].length:=by omega
  refine bA ?_
  refine aJ (ad (bK (b:=1) k F F (by omega)) (aS ?_))
  exact⟨k+1,by omega,cz,ha.set cn[k] (ha[cn[k]]|||ms[k]),F,by omega,hcz.row vQ (by omega) hj,(by have:=hha.step (k:=k) (a:=ha[cn[k]]|||ms[k]) (by rw[QS];exact QU) (by rw[gd (by omega)];exact MN _ (ap _)) (by rw[QS,gd (by omega),gd (by omega)]);rwa[QS]at this),(.of F)⟩
 have aal: ¬k<nx.length:=by omega
 refine bA ?_
 refine bI (au (cq cO underlying108 eW F F (by omega) (by omega) (fun dI=>?_)))
 refine ai ?_
 let dM:Lx.Item:=aU zB cO 96 1 (fe ha)
 let fN:Value:=(.slice (aD dI) cO cO)
 let oN:Lx.Item:=aU dI cO 4 1 (List.replicate cO (.bool false))
 let qL:Value:=(.slice cb nx.length cc)
 refine iD (fun ρ O=> ∃(zL zK:Nat),O=[aU zL nx.length 4 1 (List.replicate nx.length (.bool false)),aU zK nx.length 4 1 (List.replicate nx.length (.bool false)),oN,aU zA cO 4 1 (bv cy),dM,eE,oI dk 98 [(.slice nb nx.length nc),dC,.int .u64 ((2^m-1:Nat):Int)]]∧cL [(0,(.agg #[(.slice nb nx.length nc),dC,.int .u64 ((2^m-1:Nat):Int)])),(1,gG),(2,(.slice (aD zL) nx.length nx.length)),(3,(.slice (aD zK) nx.length nx.length)),(4,qL),(5,vN cO),(6,jR),(7,jT),(12,fN)] ρ) ?_ ?_
 ·refine T.oH [oI dk 98 [(.slice nb nx.length nc),dC,.int .u64 ((2^m-1:Nat):Int)]] 10 mixed F (aR [4]) (fun _ _ _ _ h=>h) ?_
  refine aO 0 F (by kernel_rfl) (bY underlying98 dQ) ?_
  refine aO 1 F (by kernel_rfl) (bp 0 underlying24) ?_
  refine aO 2 F (by kernel_rfl) (bV underlying24) ?_
  refine aO 4 F (by kernel_rfl) (bY underlying98 dQ) ?_
  refine aO 5 F (by kernel_rfl) (bp 0 underlying24) ?_
  refine aO 6 F (by kernel_rfl) (bV underlying24) ?_
  refine aZ [3,7] (by kernel_rfl) F ⟨⟨_,F,F,cq nx.length underlying108 eW F F (by omega) (by omega) (fun zL=>⟨aR [5],?_⟩)⟩,⟨_,F,F,cq nx.length underlying108 eW F F (by omega) (by omega) (fun zK=>⟨aR [5],?_⟩)⟩,trivial⟩
  ·refine aO 8 F (by kernel_rfl) dN ?_
   refine aZ [7] (by kernel_rfl) F ⟨⟨_,F,F,cq nx.length underlying108 eW F F (by omega) (by omega) (fun zK=>⟨aR [6],?_⟩)⟩,trivial⟩
   refine aO 9 F (by kernel_rfl) dN ?_
   exact dB (by kernel_rfl) ⟨zL,zK,F,(.of F)⟩ (aR [1,0,0,0,0,0,0])
  refine aZ [3] (by kernel_rfl) F ⟨⟨_,F,F,cq nx.length underlying108 eW F F (by omega) (by omega) (fun zL=>⟨aR [6],?_⟩)⟩,trivial⟩
  refine aO 8 F (by kernel_rfl) dN ?_
  refine aO 9 F (by kernel_rfl) dN ?_
  exact dB (by kernel_rfl) ⟨zL,zK,F,(.of F)⟩ (aR [0,0,0,0,0,0,0])
 rintro ρ O ⟨zL,zK,rfl,hH⟩
 obtain⟨fy,rfl⟩:=hH.elim
 clear hH
 refine bI (au (cq cO underlying24 cf F F (by omega) (by omega) (fun fj=>?_)))
 refine bh (bJ (az (bV underlying22) (aS (aw ?_))))
 refine T.rI 3 cO ?_
 let gk:Value:=(.slice (aD fj) cO cO)
 let gn:Value:=(.slice (aD zL) nx.length nx.length)
 let ii:Value:=(.slice (aD zK) nx.length nx.length)
 refine cX (fun(p:Nat) ρ O=> ∃(qs:List Rec),O=([aU fj cO 22 1 (bW qs),aU zL nx.length 4 1 (List.replicate nx.length (.bool false)),aU zK nx.length 4 1 (List.replicate nx.length (.bool false)),aU dI cO 4 1 (List.replicate cO (.bool false)),aU zA cO 4 1 (bv cy),dM,eE,oI dk 98 [(.slice nb nx.length nc),dC,.int .u64 ((2^m-1:Nat):Int)]]++(bQ 3 qs))∧p≤nx.length∧BY nx cn cO p (nums qs)∧cL [(0,(.agg #[(.slice nb nx.length nc),dC,.int .u64 ((2^m-1:Nat):Int)])),(1,gG),(2,gn),(3,ii),(4,qL),(5,vN cO),(6,jR),(7,jT),(12,fN),(13,gk),(101,qL),(102,vI (nx.length:Int)),(103,vI (p:Int))] ρ) (fun p=>nx.length-p) 0 ?_ ?_
 ·exact⟨List.replicate cO ng,(by simp only[List.map_replicate];rfl),aG _,(by rw[show nums (List.replicate cO ng)=List.replicate cO [] by simp[nums]];exact BY.start),(.of F)⟩
 rintro p ρ O ⟨qs,rfl,hp,mP,hH⟩
 obtain⟨fy,rfl⟩:=hH.elim
 clear hH
 have tD:=mP.ql
 refine aB cH (TO.ns (aH F (fun hc=>?_) (fun hc=>?_)))
 ·have u4:p<nx.length:=by omega
  have QS:fn cn p=cn[p]:=ot (by omega)
  have QU:cn[p]<cO:=by have:=(hC.pos p (by omega)).2;have h2:((fn cn p:Nat):Int)<cO:=this;omega
  have hqk:cn[p]<qs.length:=by omega
  have hrq:=mP.rl hqk
  refine aE (ba (aw (bP (b8 p underlying22 bt F F (bU 6)) (ad (dR underlying3 F F (bU 6) dK) (bh (ai ?_))))))
  let D_:Lx.Item:=aU zL nx.length 4 1 (List.replicate nx.length (.bool false))
  let G9:Lx.Item:=aU zK nx.length 4 1 (List.replicate nx.length (.bool false))
  refine cV (BQ hqk [aU fj cO 22 1 (bW qs),D_,G9,oN,aU zA cO 4 1 (bv cy),dM,eE,oI dk 98 [(.slice nb nx.length nc),dC,.int .u64 ((2^m-1:Nat):Int)]]) ?_
  refine aJ (aQ (dr (az (b8 (cn[p]) underlying24 cf F F (bU 1)) (ad (dR underlying22 F F (bU 1) (tI hqk)) (aQ (au (dv (v:=vI (p:Int)) underlying22 bt F F F (fun fA=>?_))))))))
  refine au (dp 1 underlying22 underlying22 bt F F F F (by simp) (by decide) (Src.row (j:=0) F (by simp)) (by simp[fL]) (by omega) (by decide) (by decide) (fun fK c6=>?_))
  refine ad (b8 (cn[p]) underlying24 cf F F (bU 2)) (au (gw (v:=(.slice fK (qs[cn[p]].xs.length+1) c6)) (vs:=[(.slice fK (qs[cn[p]].xs.length+1) c6)]) (cs:=bW qs) (cn[p]) 2 cf F F F F F (by simp) F (by first|(simp;omega)|(simp_all;omega)) ?_))
  let fo:List Lx.Item:=[aU fA 1 3 1 [vI (p:Int)],ak fK c6 3 1 ((ints qs[cn[p]].xs)++[vI (p:Int)]),aU fj cO 22 1 (bW (qs.set cn[p] ⟨fK,c6,qs[cn[p]].xs++[(p:Int)]⟩)),aU zL nx.length 4 1 (List.replicate nx.length (.bool false)),aU zK nx.length 4 1 (List.replicate nx.length (.bool false)),aU dI cO 4 1 (List.replicate cO (.bool false)),aU zA cO 4 1 (bv cy),dM,eE,oI dk 98 [(.slice nb nx.length nc),dC,.int .u64 ((2^m-1:Nat):Int)]]
  refine cY (O':=(fo++(bQ 3 (qs.eraseIdx cn[p])))) (by rw[show dq (bW qs) cn[p] [(.slice fK (qs[cn[p]].xs.length+1) c6)]=bW (qs.set cn[p] ⟨fK,c6,qs[cn[p]].xs++[(p:Int)]⟩)from(by simp[dq,Rec.val])];exact bj (ay _)) ?_
  refine cY (O':=[ak fK c6 3 1 ((ints qs[cn[p]].xs)++[vI (p:Int)]),aU fj cO 22 1 (bW (qs.set cn[p] ⟨fK,c6,qs[cn[p]].xs++[(p:Int)]⟩)),D_,G9,oN,aU zA cO 4 1 (bv cy),dM,eE,oI dk 98 [(.slice nb nx.length nc),dC,.int .u64 ((2^m-1:Nat):Int)]]++(bQ 3 (qs.eraseIdx cn[p]))) (dx [1,1,1,1,1,1,1,1,1] fo (bQ 3 (qs.eraseIdx cn[p])) F F) ?_
  let gC:List Lx.Item:=[aU fj cO 22 1 (bW (qs.set cn[p] ⟨fK,c6,qs[cn[p]].xs++[(p:Int)]⟩)),aU zL nx.length 4 1 (List.replicate nx.length (.bool false)),aU zK nx.length 4 1 (List.replicate nx.length (.bool false)),aU dI cO 4 1 (List.replicate cO (.bool false)),aU zA cO 4 1 (bv cy),dM,eE,oI dk 98 [(.slice nb nx.length nc),dC,.int .u64 ((2^m-1:Nat):Int)]]
  refine cY (O':=gC++(bQ 3 (qs.set cn[p] ⟨fK,c6,qs[cn[p]].xs++[(p:Int)]⟩))) (G0 hqk gC ⟨fK,c6,qs[cn[p]].xs++[(p:Int)]⟩ (by simp)) ?_
  refine TO.nl (aJ (ad (bK (b:=1) p F F (by omega)) (aS ?_)))
  exact⟨p+1,by omega,qs.set cn[p] ⟨fK,c6,qs[cn[p]].xs++[(p:Int)]⟩,F,by omega,mP.push (by omega) QU _ _,(.of F)⟩
 have WB: ¬p<nx.length:=by omega
 refine bA ?_
 refine ba (bP (bV underlying24) (aS (aw ?_)))
 have tD:=mP.ql
 have u5:BY nx cn cO nx.length (nums qs):=(show p=nx.length by omega)▸mP
 have aaG:Kb nx cn cO nx.length 0 cy:=(show k=nx.length by omega)▸hcy
 have aaH:Rm nx ms cn m cO nx.length ha:=(show k=nx.length by omega)▸hha
 refine cX (fun(c:Nat) ρ O=> ∃(gs ls co:List Bool),O=([aU fj cO 22 1 (bW qs),aU zL nx.length 4 1 (bv ls),aU zK nx.length 4 1 (bv co),aU dI cO 4 1 (bv gs),aU zA cO 4 1 (bv cy),dM,eE,oI dk 98 [(.slice nb nx.length nc),dC,.int .u64 ((2^m-1:Nat):Int)]]++(bQ 3 qs))∧c≤cO∧WC nx ms m cn cO c gs ls co∧cL [(0,(.agg #[(.slice nb nx.length nc),dC,.int .u64 ((2^m-1:Nat):Int)])),(1,gG),(2,gn),(3,ii),(4,qL),(5,vN cO),(6,jR),(7,jT),(12,fN),(13,gk),(119,gk),(120,vI (cO:Int)),(121,vI (c:Int))] ρ) (fun c=>cO-c) 0 ?_ ?_
 ·exact⟨List.replicate cO false,List.replicate nx.length false,List.replicate nx.length false,(by first|(simp only[List.map_replicate];done)|(simp only[List.map_replicate];rfl)),aG _,WC.start (by simp) (by simp) (by simp),(.of F)⟩
 rintro c ρ O ⟨gs,ls,co,rfl,hc9,uT,hH⟩
 obtain⟨fy,rfl⟩:=hH.elim
 clear hH
 have hgl:=uT.lg;have tJ:=uT.ll;have WD:=uT.lc
 refine aB cH (TO.ns (aH F (fun hc=>?_) (fun hc=>?_)))
 ·have u6:c<cO:=by omega
  have si:c<qs.length:=by omega
  have hrq:=u5.rl si
  refine aE (ba (aw (bP (b8 c underlying24 cf F F (bU 0)) (ad (dR underlying22 F F (bU 0) (tI si)) (bh (ai (ba ?_)))))))
  refine e6 [(0,0),(1,0),(2,0),(3,0),(4,0),(5,0),(6,0),(7,0),(8,0),(9,0),(10,0),(11,0),(12,0),(13,0),(14,0),(15,0),(16,2)] ?_
  refine am F aC (am F aC (am F aC (am F aC (am F (b8 c underlying108 eW F F (bU 4)) (am F (dR underlying4 F F (bU 4) gj) ?_)))))
  by_cases IL:cy[c]=true
  ·refine am F (dE aC (IL)) ?_
   refine bg F F F aC ?_
   refine bg F F F aC ?_
   refine bg F F F (b8 c underlying95 jg F F (bU 5)) ?_
   refine bg F F F (dR underlying96 F F (bU 5) BX) ?_
   refine bg F F F (bY underlying98 jg) ?_
   refine bg F F F (bp 7 underlying96) ?_
   refine bg F F F en ?_
   refine am F bR (am F (b8 c underlying108 eW F F (bU 3)) ?_)
   refine cG F F (gw (v:=.bool (decide (((ha[c]:Nat):Int)=((2^m-1:Nat):Int)))) (vs:=[(.bool (decide (((ha[c]:Nat):Int)=((2^m-1:Nat):Int))))]) (cs:=bv gs) c 3 eW F F F F F (by simp) F (by first|(simp;omega)|(simp_all;omega)) ?_)
   let kd:Lx.Item:=aU zL nx.length 4 1 (bv ls)
   let nP:Lx.Item:=aU dI cO 4 1 (bv (gs.set c ((decide (((ha[c]:Nat):Int)=((2^m-1:Nat):Int))))))
   refine eM (O':=([aU fj cO 22 1 (bW qs),kd,aU zK nx.length 4 1 (bv co),nP,aU zA cO 4 1 (bv cy),dM,eE,oI dk 98 [(.slice nb nx.length nc),dC,.int .u64 ((2^m-1:Nat):Int)]]++(bQ 3 qs))) (by rw[show dq (bv gs) c [(.bool (decide (((ha[c]:Nat):Int)=((2^m-1:Nat):Int))))]=bv (gs.set c ((decide (((ha[c]:Nat):Int)=((2^m-1:Nat):Int)))))from(by simp[dq])];exact bj (ay _)) ?_
   refine cl ?_
   refine ba (bP (bV underlying22) (aS (aw ?_)))
   have WE:QV nx ms m cn cO c qs[c].xs 0 (gs.set c ((decide (((ha[c]:Nat):Int)=((2^m-1:Nat):Int))))) ls co:=uT.begin u6 (fun v hv e=>by
    rw[show Ka nx ms m v=Ea (ie nx) m (Ra nx ms) v from F,←Eb hC oq aaG aaH hv e,gb (by omega),gd (by omega)]
    simp only[IL,true_and,bo,Int.natCast_inj])
   let gS:Value:=(.slice qs[c].b qs[c].xs.length qs[c].c)
   refine cX (fun(j:Nat) ρ O=> ∃(qm:List Bool),O=([aU fj cO 22 1 (bW qs),kd,aU zK nx.length 4 1 (bv qm),aU dI cO 4 1 (bv (gs.set c ((decide (((ha[c]:Nat):Int)=((2^m-1:Nat):Int)))))),aU zA cO 4 1 (bv cy),dM,eE,oI dk 98 [(.slice nb nx.length nc),dC,.int .u64 ((2^m-1:Nat):Int)]]++(bQ 3 qs))∧j≤qs[c].xs.length∧QV nx ms m cn cO c qs[c].xs j (gs.set c ((decide (((ha[c]:Nat):Int)=((2^m-1:Nat):Int))))) ls qm∧cL [(0,(.agg #[(.slice nb nx.length nc),dC,.int .u64 ((2^m-1:Nat):Int)])),(1,gG),(2,gn),(3,ii),(4,qL),(5,vN cO),(6,jR),(7,jT),(12,fN),(13,gk),(16,vI (c:Int)),(17,gS),(119,gk),(120,vI (cO:Int)),(121,vI (c:Int)),(142,gS),(143,vI (qs[c].xs.length:Int)),(144,vI (j:Int))] ρ) (fun j=>qs[c].xs.length-j) 0 ?_ ?_
   ·exact⟨co,F,aG _,WE,(.of F)⟩
   rintro j ρ O ⟨qm,rfl,hj,G_,hH⟩
   obtain⟨fy,rfl⟩:=hH.elim
   clear hH
   have WD:=G_.lc
   refine aB cH (TO.ns (aH F (fun hc=>?_) (fun hc=>?_)))
   ·have sK:j<qs[c].xs.length:=by omega
    obtain⟨x,hx,jm,DD⟩:=u5.at si sK
    refine aE (ba (aw (aB (b8 j underlying22 bt F F (u7 (jr si))) (ad (dR underlying3 F F (u7 (jr si)) (show(ints qs[c].xs)[j]? =_ by rw[eu sK,hx])) (ai (aJ (dr (dr ?_))))))))
    refine ad (b8 c underlying108 eW F F (bU 3)) (ad (dR underlying4 F F (bU 3) (show(bv (gs.set c ((decide (((ha[c]:Nat):Int)=((2^m-1:Nat):Int))))))[c]? =some (.bool ((decide (((ha[c]:Nat):Int)=((2^m-1:Nat):Int))))) by rw[bc,List.getElem?_set_self (by omega)];rfl)) (ad (b8 x underlying108 eW F F (bU 2)) ?_))
    refine au (gw (v:=.bool ((decide (((ha[c]:Nat):Int)=((2^m-1:Nat):Int))))) (vs:=[(.bool ((decide (((ha[c]:Nat):Int)=((2^m-1:Nat):Int)))))]) (cs:=bv qm) x 2 eW F F F F F (by simp) F (by first|(simp;omega)|(simp_all;omega)) ?_)
    refine cY (O':=([aU fj cO 22 1 (bW qs),kd,aU zK nx.length 4 1 (bv (qm.set x ((decide (((ha[c]:Nat):Int)=((2^m-1:Nat):Int)))))),nP,aU zA cO 4 1 (bv cy),dM,eE,oI dk 98 [(.slice nb nx.length nc),dC,.int .u64 ((2^m-1:Nat):Int)]]++(bQ 3 qs))) (by rw[show dq (bv qm) x [(.bool ((decide (((ha[c]:Nat):Int)=((2^m-1:Nat):Int)))))]=bv (qm.set x ((decide (((ha[c]:Nat):Int)=((2^m-1:Nat):Int)))))from(by simp[dq])];exact bj (ay _)) ?_
    refine TO.nl (aJ (ad (bK (b:=1) j F F (by omega)) (aS ?_)))
    exact⟨j+1,by omega,qm.set x ((decide (((ha[c]:Nat):Int)=((2^m-1:Nat):Int)))),F,by omega,G_.Ec sK hx jm DD (by rw[ma (by omega),aA F]),(.of F)⟩
   have WF: ¬j<qs[c].xs.length:=by omega
   refine bA ?_
   refine ba (bP (bV underlying22) (aS (aw ?_)))
   refine cX (fun(j:Nat) ρ O=> ∃(tN:List Bool),O=([aU fj cO 22 1 (bW qs),kd,aU zK nx.length 4 1 (bv qm),aU dI cO 4 1 (bv tN),aU zA cO 4 1 (bv cy),dM,eE,oI dk 98 [(.slice nb nx.length nc),dC,.int .u64 ((2^m-1:Nat):Int)]]++(bQ 3 qs))∧j≤qs[c].xs.length∧Ha nx ms m cn cO c qs[c].xs j 0 tN ls qm∧cL [(0,(.agg #[(.slice nb nx.length nc),dC,.int .u64 ((2^m-1:Nat):Int)])),(1,gG),(2,gn),(3,ii),(4,qL),(5,vN cO),(6,jR),(7,jT),(12,fN),(13,gk),(16,vI (c:Int)),(17,gS),(119,gk),(120,vI (cO:Int)),(121,vI (c:Int)),(156,gS),(157,vI (qs[c].xs.length:Int)),(158,vI (j:Int))] ρ) (fun j=>qs[c].xs.length-j) 0 ?_ ?_
   ·exact⟨_,F,aG _,G_.toD (by omega) (u5.all si),(.of F)⟩
   rintro j ρ O ⟨tN,rfl,hj6,MO,hH⟩
   obtain⟨fy,rfl⟩:=hH.elim
   clear hH
   refine aB cH (TO.ns (aH F (fun hc=>?_) (fun hc=>?_)))
   ·have ni:j<qs[c].xs.length:=by omega
    obtain⟨x,hx,jm,DD⟩:=u5.at si ni
    obtain⟨GK,GL,g2,s2⟩:=hR.get jm
    have hrx:=zY _ (ap jm)
    refine aE (ba (aw (aB (b8 j underlying22 bt F F (u7 (jr si))) (ad (dR underlying3 F F (u7 (jr si)) (show(ints qs[c].xs)[j]? =_ by rw[eu ni,hx])) (ai (aB (bY underlying98 dQ) (ad (bp 7 underlying24) (az (b8 x underlying24 cf F F (bS hS) (by first|assumption|omega|(simp;omega)|simp_all) (by rw[hR.1];exact jm)) (ad (eA underlying22 F F hS g2) (ad (bV underlying22) (aS (aw ?_))))))))))))
    refine cX (fun(i:Nat) ρ O=> ∃(ou:List Bool),O=([aU fj cO 22 1 (bW qs),kd,aU zK nx.length 4 1 (bv qm),aU dI cO 4 1 (bv ou),aU zA cO 4 1 (bv cy),dM,eE,oI dk 98 [(.slice nb nx.length nc),dC,.int .u64 ((2^m-1:Nat):Int)]]++(bQ 3 qs))∧i≤nx[x].length∧Ha nx ms m cn cO c qs[c].xs j i ou ls qm∧cL [(0,(.agg #[(.slice nb nx.length nc),dC,.int .u64 ((2^m-1:Nat):Int)])),(1,gG),(2,gn),(3,ii),(4,qL),(5,vN cO),(6,jR),(7,jT),(12,fN),(13,gk),(16,vI (c:Int)),(17,gS),(21,vN x),(119,gk),(120,vI (cO:Int)),(121,vI (c:Int)),(156,gS),(157,vI (qs[c].xs.length:Int)),(158,vI (j:Int)),(166,(.slice GK nx[x].length GL)),(167,vI (nx[x].length:Int)),(168,vI (i:Int))] ρ) (fun i=>nx[x].length-i) 0 ?_ ?_
    ·exact⟨tN,F,aG _,MO,(.of F)⟩
    rintro i ρ O ⟨ou,rfl,hi,BZ,hH⟩
    obtain⟨fy,rfl⟩:=hH.elim
    clear hH
    have af8:=BZ.lg
    refine aB cH (TO.ns (aH F (fun hc=>?_) (fun hc=>?_)))
    ·have pz:i<nx[x].length:=by omega
     obtain⟨u,hu,D9⟩: ∃u:Nat,nx[x][i]=(u:Int)∧u<nx.length:=by
      have:=oq _ (ap jm) _ (ap pz)
      exact⟨nx[x][i].toNat,by omega,by omega⟩
     have GJ:fn cn u=cn[u]:=ot (by omega)
     have hcu:cn[u]<cO:=by have:=(hC.pos u D9).2;have h2:((fn cn u:Nat):Int)<cO:=this;omega
     refine aE (ba (aw (aB (b8 i underlying22 bt F F (bS s2)) (ad (eA underlying3 F F s2 (show(ints nx[x])[i]? =_ by rw[eu pz,hu])) (ai (aJ (aQ (dr (az (b8 c underlying108 eW F F (bU 3)) (ad (dR underlying4 F F (bU 3) gj) ?_))))))))))
     by_cases tO:ou[c]=true
     ·refine ad (dE aC (tO)) ?_
      refine dt (dj (cP (ad bR (ad (b8 c underlying108 eW F F (bU 3)) (au (gw (v:=.bool true) (vs:=[(.bool true)]) (cs:=bv ou) c 3 eW F F F F F (by simp) F (by first|(simp;omega)|(simp_all;omega)) ?_))))))
      refine cY (O':=([aU fj cO 22 1 (bW qs),aU zL nx.length 4 1 (bv ls),aU zK nx.length 4 1 (bv qm),aU dI cO 4 1 (bv (ou.set c true)),aU zA cO 4 1 (bv cy),dM,eE,oI dk 98 [(.slice nb nx.length nc),dC,.int .u64 ((2^m-1:Nat):Int)]]++(bQ 3 qs))) (by rw[show dq (bv ou) c [(.bool true)]=bv (ou.set c true)from(by simp[dq])];exact bj (ay _)) ?_
      refine TO.nl (aJ (ad (bK (b:=1) i F F (by omega)) (aS ?_)))
      exact⟨i+1,by omega,ou.set c true,F,by omega,BZ.step hC oq u6 ni hx jm DD pz hu (by rw[gb (by omega),gb (by rw[GJ];omega)];simp only[GJ];simp[tO]),(.of F)⟩
     refine ad (dE aC (Bool.eq_false_iff.2 tO)) (ax aC (ax aC (ax aC (ax (b8 u underlying22 bt F F (bU 6)) (ax (dR underlying3 F F (bU 6) dK) (ax (b8 (cn[u]) underlying108 eW F F (bU 3)) (ax (dR underlying4 F F (bU 3) gj) ?_)))))))
     refine ad ca (ad (b8 c underlying108 eW F F (bU 3)) (au (gw (v:=.bool ou[cn[u]]) (vs:=[(.bool ou[cn[u]])]) (cs:=bv ou) c 3 eW F F F F F (by simp) F (by first|(simp;omega)|(simp_all;omega)) ?_)))
     refine cY (O':=([aU fj cO 22 1 (bW qs),aU zL nx.length 4 1 (bv ls),aU zK nx.length 4 1 (bv qm),aU dI cO 4 1 (bv (ou.set c ou[cn[u]])),aU zA cO 4 1 (bv cy),dM,eE,oI dk 98 [(.slice nb nx.length nc),dC,.int .u64 ((2^m-1:Nat):Int)]]++(bQ 3 qs))) (by rw[show dq (bv ou) c [(.bool ou[cn[u]])]=bv (ou.set c ou[cn[u]])from(by simp[dq])];exact bj (ay _)) ?_
     refine TO.nl (aJ (ad (bK (b:=1) i F F (by omega)) (aS ?_)))
     exact⟨i+1,by omega,ou.set c ou[cn[u]],F,by omega,BZ.step hC oq u6 ni hx jm DD pz hu (by rw[gb (by omega),gb (by rw[GJ];omega)];simp only[GJ];simp[tO]),(.of F)⟩
    have WG: ¬i<nx[x].length:=by omega
    refine bA ?_
    refine aJ (ad (bK (b:=1) j F F (by omega)) (aS ?_))
    exact⟨j+1,by omega,ou,F,by omega,BZ.next ni hx jm (by omega),(.of F)⟩
   have WH: ¬j<qs[c].xs.length:=by omega
   refine bA ?_
   refine bP (bV underlying22) (aS (aw ?_))
   refine cX (fun(j:Nat) ρ O=> ∃(B0:List Bool),O=([aU fj cO 22 1 (bW qs),aU zL nx.length 4 1 (bv B0),aU zK nx.length 4 1 (bv qm),aU dI cO 4 1 (bv tN),aU zA cO 4 1 (bv cy),dM,eE,oI dk 98 [(.slice nb nx.length nc),dC,.int .u64 ((2^m-1:Nat):Int)]]++(bQ 3 qs))∧j≤qs[c].xs.length∧Ur nx ms m cn cO c qs[c].xs j tN B0 qm∧cL [(0,(.agg #[(.slice nb nx.length nc),dC,.int .u64 ((2^m-1:Nat):Int)])),(1,gG),(2,(.slice (aD zL) nx.length nx.length)),(3,(.slice (aD zK) nx.length nx.length)),(4,(.slice cb nx.length cc)),(5,vN cO),(6,jR),(7,jT),(12,fN),(13,gk),(16,vI (c:Int)),(17,gS),(119,gk),(120,vI (cO:Int)),(121,vI (c:Int)),(190,gS),(191,vI (qs[c].xs.length:Int)),(192,vI (j:Int))] ρ) (fun j=>qs[c].xs.length-j) 0 ?_ ?_
   ·exact⟨ls,F,aG _,MO.toE hC oq (by omega) (u5.all si),(.of F)⟩
   rintro j ρ O ⟨B0,rfl,hj8,B1,hH⟩
   obtain⟨fy,rfl⟩:=hH.elim
   clear hH
   have af9:=B1.ll;have af_:=B1.lg
   refine aB cH (TO.ns (aH F (fun hc=>?_) (fun hc=>?_)))
   ·have sL:j<qs[c].xs.length:=by omega
    obtain⟨x,hx,jm,DD⟩:=u5.at si sL
    refine aE (ba (aw (aB (b8 j underlying22 bt F F (u7 (jr si))) (ad (dR underlying3 F F (u7 (jr si)) (show(ints qs[c].xs)[j]? =_ by rw[eu sL,hx])) (ai (aJ (aQ (dr (az (b8 c underlying108 eW F F (bU 3)) (ad (dR underlying4 F F (bU 3) gj) (ad (b8 x underlying108 eW F F (bU 1)) (au (gw (v:=.bool tN[c]) (vs:=[(.bool tN[c])]) (cs:=bv B0) x 1 eW F F F F F (by simp) F (by first|(simp;omega)|(simp_all;omega)) ?_)))))))))))))
    refine cY (O':=([aU fj cO 22 1 (bW qs),aU zL nx.length 4 1 (bv (B0.set x tN[c])),aU zK nx.length 4 1 (bv qm),aU dI cO 4 1 (bv tN),aU zA cO 4 1 (bv cy),dM,eE,oI dk 98 [(.slice nb nx.length nc),dC,.int .u64 ((2^m-1:Nat):Int)]]++(bQ 3 qs))) (by rw[show dq (bv B0) x [(.bool tN[c])]=bv (B0.set x tN[c])from(by simp[dq])];exact bj (ay _)) ?_
    refine TO.nl (aJ (ad (bK (b:=1) j F F (by omega)) (aS ?_)))
    exact⟨j+1,by omega,B0.set x tN[c],F,by omega,B1.step sL hx jm DD (by rw[gb (by omega)]),(.of F)⟩
   have WI: ¬j<qs[c].xs.length:=by omega
   refine bA ?_
   refine aJ (ad (bK (b:=1) c F F (by omega)) (aS ?_))
   exact⟨c+1,by omega,tN,B0,qm,F,by omega,B1.done (by omega) (u5.all si),(.of F)⟩
  refine am F (dE aC (Bool.eq_false_iff.2 IL)) (aT F F F (aT F F F (aT F F F (aT F F F (aT F F F (aT F F F (aT F F F ?_)))))))
  refine am F ca (am F (b8 c underlying108 eW F F (bU 3)) ?_)
  refine cG F F (gw (v:=.bool false) (vs:=[(.bool false)]) (cs:=bv gs) c 3 eW F F F F F (by simp) F (by first|(simp;omega)|(simp_all;omega)) ?_)
  let qn:Lx.Item:=aU dI cO 4 1 (bv (gs.set c (false)))
  refine eM (O':=([aU fj cO 22 1 (bW qs),aU zL nx.length 4 1 (bv ls),aU zK nx.length 4 1 (bv co),qn,aU zA cO 4 1 (bv cy),dM,eE,oI dk 98 [(.slice nb nx.length nc),dC,.int .u64 ((2^m-1:Nat):Int)]]++(bQ 3 qs))) (by rw[show dq (bv gs) c [(.bool false)]=bv (gs.set c (false))from(by simp[dq])];exact bj (ay _)) ?_
  refine cl ?_
  refine ba (bP (bV underlying22) (aS (aw ?_)))
  have WE:QV nx ms m cn cO c qs[c].xs 0 (gs.set c (false)) ls co:=uT.begin u6 (fun v hv e=>by
   rw[show Ka nx ms m v=Ea (ie nx) m (Ra nx ms) v from F,←Eb hC oq aaG aaH hv e,gb (by omega),gd (by omega)]
   simp[IL])
  let iC:Value:=(.slice qs[c].b qs[c].xs.length qs[c].c)
  refine cX (fun(j:Nat) ρ O=> ∃(qm:List Bool),O=([aU fj cO 22 1 (bW qs),aU zL nx.length 4 1 (bv ls),aU zK nx.length 4 1 (bv qm),qn,aU zA cO 4 1 (bv cy),dM,eE,oI dk 98 [(.slice nb nx.length nc),dC,.int .u64 ((2^m-1:Nat):Int)]]++(bQ 3 qs))∧j≤qs[c].xs.length∧QV nx ms m cn cO c qs[c].xs j (gs.set c (false)) ls qm∧cL [(0,(.agg #[(.slice nb nx.length nc),dC,.int .u64 ((2^m-1:Nat):Int)])),(1,gG),(2,(.slice (aD zL) nx.length nx.length)),(3,(.slice (aD zK) nx.length nx.length)),(4,(.slice cb nx.length cc)),(5,vN cO),(6,jR),(7,jT),(12,fN),(13,gk),(16,vI (c:Int)),(17,iC),(119,gk),(120,vI (cO:Int)),(121,vI (c:Int)),(142,iC),(143,vI (qs[c].xs.length:Int)),(144,vI (j:Int))] ρ) (fun j=>qs[c].xs.length-j) 0 ?_ ?_
  ·exact⟨co,F,aG _,WE,(.of F)⟩
  rintro j ρ O ⟨qm,rfl,hj,G_,hH⟩
  obtain⟨fy,rfl⟩:=hH.elim
  clear hH
  have WD:=G_.lc
  refine aB cH (TO.ns (aH F (fun hc=>?_) (fun hc=>?_)))
  ·have sK:j<qs[c].xs.length:=by omega
   obtain⟨x,hx,jm,DD⟩:=u5.at si sK
   refine aE (ba (aw (aB (b8 j underlying22 bt F F (u7 (jr si))) (ad (dR underlying3 F F (u7 (jr si)) (show(ints qs[c].xs)[j]? =_ by rw[eu sK,hx])) (ai (aJ (dr (dr ?_))))))))
   refine ad (b8 c underlying108 eW F F (bU 3)) (ad (dR underlying4 F F (bU 3) (show(bv (gs.set c (false)))[c]? =some (.bool (false)) by rw[bc,List.getElem?_set_self (by omega)];rfl)) (ad (b8 x underlying108 eW F F (bU 2)) ?_))
   refine au (gw (v:=.bool (false)) (vs:=[(.bool (false))]) (cs:=bv qm) x 2 eW F F F F F (by simp) F (by first|(simp;omega)|(simp_all;omega)) ?_)
   refine cY (O':=([aU fj cO 22 1 (bW qs),aU zL nx.length 4 1 (bv ls),aU zK nx.length 4 1 (bv (qm.set x (false))),qn,aU zA cO 4 1 (bv cy),dM,eE,oI dk 98 [(.slice nb nx.length nc),dC,.int .u64 ((2^m-1:Nat):Int)]]++(bQ 3 qs))) (by rw[show dq (bv qm) x [(.bool (false))]=bv (qm.set x (false))from(by simp[dq])];exact bj (ay _)) ?_
   refine TO.nl (aJ (ad (bK (b:=1) j F F (by omega)) (aS ?_)))
   exact⟨j+1,by omega,qm.set x (false),F,by omega,G_.Ec sK hx jm DD (by rw[ma (by omega),aA F]),(.of F)⟩
  have WF: ¬j<qs[c].xs.length:=by omega
  refine bA ?_
  refine ba (bP (bV underlying22) (aS (aw ?_)))
  refine cX (fun(j:Nat) ρ O=> ∃(tN:List Bool),O=([aU fj cO 22 1 (bW qs),aU zL nx.length 4 1 (bv ls),aU zK nx.length 4 1 (bv qm),aU dI cO 4 1 (bv tN),aU zA cO 4 1 (bv cy),dM,eE,oI dk 98 [(.slice nb nx.length nc),dC,.int .u64 ((2^m-1:Nat):Int)]]++(bQ 3 qs))∧j≤qs[c].xs.length∧Ha nx ms m cn cO c qs[c].xs j 0 tN ls qm∧cL [(0,(.agg #[(.slice nb nx.length nc),dC,.int .u64 ((2^m-1:Nat):Int)])),(1,gG),(2,(.slice (aD zL) nx.length nx.length)),(3,(.slice (aD zK) nx.length nx.length)),(4,(.slice cb nx.length cc)),(5,vN cO),(6,jR),(7,jT),(12,fN),(13,gk),(16,vI (c:Int)),(17,iC),(119,gk),(120,vI (cO:Int)),(121,vI (c:Int)),(156,iC),(157,vI (qs[c].xs.length:Int)),(158,vI (j:Int))] ρ) (fun j=>qs[c].xs.length-j) 0 ?_ ?_
  ·exact⟨_,F,aG _,G_.toD (by omega) (u5.all si),(.of F)⟩
  rintro j ρ O ⟨tN,rfl,hj6,MO,hH⟩
  obtain⟨fy,rfl⟩:=hH.elim
  clear hH
  refine aB cH (TO.ns (aH F (fun hc=>?_) (fun hc=>?_)))
  ·have ni:j<qs[c].xs.length:=by omega
   obtain⟨x,hx,jm,DD⟩:=u5.at si ni
   obtain⟨GK,GL,g2,s2⟩:=hR.get jm
   have hrx:=zY _ (ap jm)
   refine aE (ba (aw (aB (b8 j underlying22 bt F F (u7 (jr si))) (ad (dR underlying3 F F (u7 (jr si)) (show(ints qs[c].xs)[j]? =_ by rw[eu ni,hx])) (ai (aB (bY underlying98 dQ) (ad (bp 7 underlying24) (az (b8 x underlying24 cf F F (bS hS) (by first|assumption|omega|(simp;omega)|simp_all) (by rw[hR.1];exact jm)) (ad (eA underlying22 F F hS g2) (ad (bV underlying22) (aS (aw ?_))))))))))))
   refine cX (fun(i:Nat) ρ O=> ∃(ou:List Bool),O=([aU fj cO 22 1 (bW qs),aU zL nx.length 4 1 (bv ls),aU zK nx.length 4 1 (bv qm),aU dI cO 4 1 (bv ou),aU zA cO 4 1 (bv cy),dM,eE,oI dk 98 [(.slice nb nx.length nc),dC,.int .u64 ((2^m-1:Nat):Int)]]++(bQ 3 qs))∧i≤nx[x].length∧Ha nx ms m cn cO c qs[c].xs j i ou ls qm∧cL [(0,(.agg #[(.slice nb nx.length nc),dC,.int .u64 ((2^m-1:Nat):Int)])),(1,gG),(2,(.slice (aD zL) nx.length nx.length)),(3,(.slice (aD zK) nx.length nx.length)),(4,(.slice cb nx.length cc)),(5,vN cO),(6,jR),(7,jT),(12,fN),(13,gk),(16,vI (c:Int)),(17,iC),(21,vN x),(119,gk),(120,vI (cO:Int)),(121,vI (c:Int)),(156,iC),(157,vI (qs[c].xs.length:Int)),(158,vI (j:Int)),(166,(.slice GK nx[x].length GL)),(167,vI (nx[x].length:Int)),(168,vI (i:Int))] ρ) (fun i=>nx[x].length-i) 0 ?_ ?_
   ·exact⟨tN,F,aG _,MO,(.of F)⟩
   rintro i ρ O ⟨ou,rfl,hi,BZ,hH⟩
   obtain⟨fy,rfl⟩:=hH.elim
   clear hH
   have af8:=BZ.lg
   refine aB cH (TO.ns (aH F (fun hc=>?_) (fun hc=>?_)))
   ·have pz:i<nx[x].length:=by omega
    obtain⟨u,hu,D9⟩: ∃u:Nat,nx[x][i]=(u:Int)∧u<nx.length:=by
     have:=oq _ (ap jm) _ (ap pz)
     exact⟨nx[x][i].toNat,by omega,by omega⟩
    have GJ:fn cn u=cn[u]:=ot (by omega)
    have hcu:cn[u]<cO:=by have:=(hC.pos u D9).2;have h2:((fn cn u:Nat):Int)<cO:=this;omega
    refine aE (ba (aw (aB (b8 i underlying22 bt F F (bS s2)) (ad (eA underlying3 F F s2 (show(ints nx[x])[i]? =_ by rw[eu pz,hu])) (ai (aJ (aQ (dr (az (b8 c underlying108 eW F F (bU 3)) (ad (dR underlying4 F F (bU 3) gj) ?_))))))))))
    by_cases tO:ou[c]=true
    ·refine ad (dE aC (tO)) ?_
     refine dt (dj (cP (ad bR (ad (b8 c underlying108 eW F F (bU 3)) (au (gw (v:=.bool true) (vs:=[(.bool true)]) (cs:=bv ou) c 3 eW F F F F F (by simp) F (by first|(simp;omega)|(simp_all;omega)) ?_))))))
     refine cY (O':=([aU fj cO 22 1 (bW qs),aU zL nx.length 4 1 (bv ls),aU zK nx.length 4 1 (bv qm),aU dI cO 4 1 (bv (ou.set c true)),aU zA cO 4 1 (bv cy),dM,eE,oI dk 98 [(.slice nb nx.length nc),dC,.int .u64 ((2^m-1:Nat):Int)]]++(bQ 3 qs))) (by rw[show dq (bv ou) c [(.bool true)]=bv (ou.set c true)from(by simp[dq])];exact bj (ay _)) ?_
     refine TO.nl (aJ (ad (bK (b:=1) i F F (by omega)) (aS ?_)))
     exact⟨i+1,by omega,ou.set c true,F,by omega,BZ.step hC oq u6 ni hx jm DD pz hu (by rw[gb (by omega),gb (by rw[GJ];omega)];simp only[GJ];simp[tO]),(.of F)⟩
    refine ad (dE aC (Bool.eq_false_iff.2 tO)) (ax aC (ax aC (ax aC (ax (b8 u underlying22 bt F F (bU 6)) (ax (dR underlying3 F F (bU 6) dK) (ax (b8 (cn[u]) underlying108 eW F F (bU 3)) (ax (dR underlying4 F F (bU 3) gj) ?_)))))))
    refine ad ca (ad (b8 c underlying108 eW F F (bU 3)) (au (gw (v:=.bool ou[cn[u]]) (vs:=[(.bool ou[cn[u]])]) (cs:=bv ou) c 3 eW F F F F F (by simp) F (by first|(simp;omega)|(simp_all;omega)) ?_)))
    refine cY (O':=([aU fj cO 22 1 (bW qs),aU zL nx.length 4 1 (bv ls),aU zK nx.length 4 1 (bv qm),aU dI cO 4 1 (bv (ou.set c ou[cn[u]])),aU zA cO 4 1 (bv cy),dM,eE,oI dk 98 [(.slice nb nx.length nc),dC,.int .u64 ((2^m-1:Nat):Int)]]++(bQ 3 qs))) (by rw[show dq (bv ou) c [(.bool ou[cn[u]])]=bv (ou.set c ou[cn[u]])from(by simp[dq])];exact bj (ay _)) ?_
    refine TO.nl (aJ (ad (bK (b:=1) i F F (by omega)) (aS ?_)))
    exact⟨i+1,by omega,ou.set c ou[cn[u]],F,by omega,BZ.step hC oq u6 ni hx jm DD pz hu (by rw[gb (by omega),gb (by rw[GJ];omega)];simp only[GJ];simp[tO]),(.of F)⟩
   have WG: ¬i<nx[x].length:=by omega
   refine bA ?_
   refine aJ (ad (bK (b:=1) j F F (by omega)) (aS ?_))
   exact⟨j+1,by omega,ou,F,by omega,BZ.next ni hx jm (by omega),(.of F)⟩
  have WH: ¬j<qs[c].xs.length:=by omega
  refine bA ?_
  refine bP (bV underlying22) (aS (aw ?_))
  refine cX (fun(j:Nat) ρ O=> ∃(B0:List Bool),O=([aU fj cO 22 1 (bW qs),aU zL nx.length 4 1 (bv B0),aU zK nx.length 4 1 (bv qm),aU dI cO 4 1 (bv tN),aU zA cO 4 1 (bv cy),dM,eE,oI dk 98 [(.slice nb nx.length nc),dC,.int .u64 ((2^m-1:Nat):Int)]]++(bQ 3 qs))∧j≤qs[c].xs.length∧Ur nx ms m cn cO c qs[c].xs j tN B0 qm∧cL [(0,(.agg #[(.slice nb nx.length nc),dC,.int .u64 ((2^m-1:Nat):Int)])),(1,gG),(2,(.slice (aD zL) nx.length nx.length)),(3,(.slice (aD zK) nx.length nx.length)),(4,(.slice cb nx.length cc)),(5,vN cO),(6,jR),(7,jT),(12,fN),(13,gk),(16,vI (c:Int)),(17,iC),(119,gk),(120,vI (cO:Int)),(121,vI (c:Int)),(190,iC),(191,vI (qs[c].xs.length:Int)),(192,vI (j:Int))] ρ) (fun j=>qs[c].xs.length-j) 0 ?_ ?_
  ·exact⟨ls,F,aG _,MO.toE hC oq (by omega) (u5.all si),(.of F)⟩
  rintro j ρ O ⟨B0,rfl,hj8,B1,hH⟩
  obtain⟨fy,rfl⟩:=hH.elim
  clear hH
  have af9:=B1.ll;have af_:=B1.lg
  refine aB cH (TO.ns (aH F (fun hc=>?_) (fun hc=>?_)))
  ·have sL:j<qs[c].xs.length:=by omega
   obtain⟨x,hx,jm,DD⟩:=u5.at si sL
   refine aE (ba (aw (aB (b8 j underlying22 bt F F (u7 (jr si))) (ad (dR underlying3 F F (u7 (jr si)) (show(ints qs[c].xs)[j]? =_ by rw[eu sL,hx])) (ai (aJ (aQ (dr (az (b8 c underlying108 eW F F (bU 3)) (ad (dR underlying4 F F (bU 3) gj) (ad (b8 x underlying108 eW F F (bU 1)) (au (gw (v:=.bool tN[c]) (vs:=[(.bool tN[c])]) (cs:=bv B0) x 1 eW F F F F F (by simp) F (by first|(simp;omega)|(simp_all;omega)) ?_)))))))))))))
   refine cY (O':=([aU fj cO 22 1 (bW qs),aU zL nx.length 4 1 (bv (B0.set x tN[c])),aU zK nx.length 4 1 (bv qm),aU dI cO 4 1 (bv tN),aU zA cO 4 1 (bv cy),dM,eE,oI dk 98 [(.slice nb nx.length nc),dC,.int .u64 ((2^m-1:Nat):Int)]]++(bQ 3 qs))) (by rw[show dq (bv B0) x [(.bool tN[c])]=bv (B0.set x tN[c])from(by simp[dq])];exact bj (ay _)) ?_
   refine TO.nl (aJ (ad (bK (b:=1) j F F (by omega)) (aS ?_)))
   exact⟨j+1,by omega,B0.set x tN[c],F,by omega,B1.step sL hx jm DD (by rw[gb (by omega)]),(.of F)⟩
  have WI: ¬j<qs[c].xs.length:=by omega
  refine bA ?_
  refine aJ (ad (bK (b:=1) c F F (by omega)) (aS ?_))
  exact⟨c+1,by omega,tN,B0,qm,F,by omega,B1.done (by omega) (u5.all si),(.of F)⟩
 have aga: ¬c<cO:=by omega
 refine bA ?_
 refine bI (aQ (bh (bm ?_)))
 refine fJ (.slice (aD zL) nx.length nx.length) (.slice (aD zK) nx.length nx.length) results44 F F ?_
 exact⟨[aU zL nx.length 4 1 (bv ls),aU zK nx.length 4 1 (bv co)],(fu [1,1] [aU fj cO 22 1 (bW qs),aU zL nx.length 4 1 (bv ls),aU zK nx.length 4 1 (bv co),aU dI cO 4 1 (bv gs),aU zA cO 4 1 (bv cy),dM,eE,oI dk 98 [(.slice nb nx.length nc),dC,.int .u64 ((2^m-1:Nat):Int)]] (bQ 3 qs) F F),_,_,_,_,ls,co,F,F,uT.ll,uT.lc,fun v hv=>⟨uT.li v hv (by have:=(hC.pos v hv).2;have h2:((fn cn v:Nat):Int)<cO:=this;omega),uT.co v hv (by have:=(hC.pos v hv).2;have h2:((fn cn v:Nat):Int)<cO:=this;omega)⟩⟩
theorem X4 (w:World) [eT prog w] (b:Option Addr) (c:Nat) (qs:List sA) (hS:Sl w b (SL qs)) (hb:qs.length<9223372036854775807):
  cR prog 5 [.slice b qs.length c] w fun v N=>v=.bool (qs.any fun q=>um q.l)∧N=[]:=by
 refine aF func5 F ntmps5 F ?_
 refine a8 (bh (bJ (ai (aw ?_))))
 refine cX (fun(k:Nat) ρ O=>O=[]∧k≤qs.length∧(qs.take k).any (fun q=>um q.l)=false∧cL [(0,(.slice b qs.length c)),(3,vI (k:Int))] ρ) (fun k=>qs.length-k) 0 ?_ ?_
 ·exact⟨F,aG _,F,⟨F,F,trivial⟩⟩
 rintro k ρ O ⟨rfl,hk,qj,hH⟩
 obtain⟨fy,rfl⟩:=hH.elim
 clear hH
 refine ba (bI (az (bV underlying46) (bF cH (aH F (fun hc=>?_) (fun hc=>?_)))))
 ·have qp:k<qs.length:=by omega
  refine aE (ba (aw (bI (az (fO (i:=k) underlying46 dD F F (bS hS) (by first|assumption|omega|(simp;omega)|simp_all) (by first|(rw[kr];omega)|(simp[kr];omega)|(simp_all[kr];omega))) (ad (ez underlying29 F fX F F (bS hS) (by first|(rw[kr];omega)|(simp[kr];omega)|(simp_all[kr];omega))) (ad (eA underlying27 F F hS (Jq (by first|assumption|omega|(simp;omega)|simp_all) 0 (by decide))) (ad (bV underlying27) (ad fg ?_))))))))
  by_cases DT:(qs[k].l.pre.length:Int)>70
  ·refine ad (cm aC DT) ?_
   refine dt (dj (cP (ad bR ?_)))
   refine TO.nl ?_
   refine cJ ?_
   refine a8 (ai (cF ?_))
   refine aM (.bool true) results5 F ?_
   exact⟨av Value.bool ((gP qp (show um _=true from bz (by omega))).symm),F⟩
  refine ad (cD aC DT) (ax aC (ax aC (ax (fO (i:=k) underlying46 dD F F (bS hS) (by first|assumption|omega|(simp;omega)|simp_all) (by first|(rw[kr];omega)|(simp[kr];omega)|(simp_all[kr];omega))) (ax (ez underlying29 F fX F F (bS hS) (by first|(rw[kr];omega)|(simp[kr];omega)|(simp_all[kr];omega))) (ax (eA underlying27 F F hS (Jq (by first|assumption|omega|(simp;omega)|simp_all) 1 (by decide))) (ax (bV underlying27) (ax fg ?_)))))))
  refine bF ca (aH F (fun hc=>?_) (fun hc=>?_))
  ·have adN:qs[k].l.loop.length>70:=by omega
   refine a8 (ai (cF ?_))
   refine aM (.bool true) results5 F ?_
   exact⟨av Value.bool ((gP qp (show um _=true from bz (by omega))).symm),F⟩
  have adO: ¬qs[k].l.loop.length>70:=by omega
  refine aE (aJ (az (bK (b:=1) k F F (by omega)) (ai ?_)))
  exact⟨k+1,by omega,F,by omega,jI qp qj (bT (by omega)),⟨F,F,trivial⟩⟩
 have RG: ¬k<qs.length:=by omega
 refine bA ?_
 refine a8 (ai (cF ?_))
 refine aM (.bool false) results5 F ?_
 exact⟨av Value.bool ((lG (by omega) qj).symm),F⟩
theorem H_ (base:World) [eT prog base] (b:Option Addr) (c:Nat) (xs:List Nat) (OO:List Lx.Item) (hS: ∀w,Inv base OO w→Sl w b (ek xs)) (hb:xs.length<9223372036854775807) (fv:Value) (p:Nat→Bool) (hy: ∀x∈xs,dS prog base fv [.int .u8 (x:Int)] OO (fun v O'=>v=.bool (p x)∧O'=OO)):
  cZ prog base 114 [.slice b xs.length c,fv] OO (fun v O'=> ∃i:Int,v=vI i∧((i= -1∧xs.any p=false)∨ ∃(k:Nat) (hk:k<xs.length),i=(k:Int)∧p xs[k]=true∧(xs.take k).any p=false)∧O'=OO):=by
 refine aF func114 F ntmps114 F ?_
 refine a8 (bh (bJ (az (bV underlying27) (aS (aw ?_)))))
 refine cX (fun(k:Nat) ρ O=>O=OO∧k≤xs.length∧(xs.take k).any p=false∧cL [(0,(.slice b xs.length c)),(1,fv),(7,vI (xs.length:Int)),(8,vI (k:Int))] ρ) (fun k=>xs.length-k) 0 ?_ ?_
 ·exact⟨F,aG _,F,⟨F,F,F,F,trivial⟩⟩
 rintro k ρ O ⟨rfl,hk,qj,hH⟩
 obtain⟨fy,rfl⟩:=hH.elim
 clear hH
 refine aB cH (TO.ns (aH F (fun hc=>?_) (fun hc=>?_)))
 ·have j7:k<xs.length:=by omega
  refine aE (ba (aw (bI (ai (bI (aQ (az (b8 k underlying27 fS F F hS j7 (by rw[ag];exact j7)) (ad (dR underlying5 F F hS (h_ j7)) ?_))))))))
  have EW:=hy xs[k] (ap j7)
  refine au (et EW F F ?_)
  clear EW
  rintro vr O' ⟨rfl,rfl⟩
  refine TO.nl (T.cond F (fun hc=>?_) (fun hc=>?_))
  ·refine ba ?_
   refine aJ (aQ (bm ?_))
   refine aM (vI (k:Int)) results114 F ?_
   exact⟨_,bj (ay _),k,F,.inr ⟨k,j7,F,hc,qj⟩,F⟩
  refine aE (aJ (ad (bK (b:=1) k F F (by omega)) (aS ?_)))
  exact⟨k+1,by omega,F,by omega,jI j7 qj (by simpa using hc),⟨F,F,F,F,trivial⟩⟩
 have J5: ¬k<xs.length:=by omega
 refine bA ?_
 refine a8 (bm ?_)
 refine aM (vI (-1)) results114 F ?_
 exact⟨_,bj (ay _), -1,F,.inl ⟨F,lG (by omega) qj⟩,F⟩
theorem lY (base:World) [eT prog base] (b:Option Addr) (c:Nat) (xs:List Nat) (OO:List Lx.Item) (hS: ∀w,Inv base OO w→Sl w b (ek xs)) (hb:xs.length<9223372036854775807) (fv:Value) (p:Nat→Bool) (hy: ∀x∈xs,dS prog base fv [.int .u8 (x:Int)] OO (fun v O'=>v=.bool (p x)∧O'=OO)):
  cZ prog base 85 [.slice b xs.length c,fv] OO (fun v O'=>v=.bool (xs.any p)∧O'=OO):=by
 refine aF func85 F ntmps85 F ?_
 refine a8 (ai (bI (aQ ?_)))
 have hk7:=H_ base b c xs OO hS hb fv p hy
 refine TO.lc X8 hk7 ?_
 clear hk7
 rintro vr O' ⟨i,rfl,hi,rfl⟩
 refine ad ly (bm ?_)
 refine aM (.bool (decide (i≥0))) results85 F ?_
 refine⟨_,bj (ay _),av Value.bool ?_,F⟩
 rcases hi with⟨rfl,h9⟩|⟨k,hk,rfl,h9,_⟩
 ·rw[h9];decide
 ·rw[gP hk h9];exact bz (by omega)
theorem zu (base:World) [eT prog base] (b:Option Addr) (c:Nat) (xs:List Int) (OO:List Lx.Item) (hS: ∀w,Inv base OO w→Sl w b (ints xs)) (hb:xs.length<9223372036854775807) (fv:Value) (p:Int→Bool) (hy: ∀x∈xs,dS prog base fv [vI x] OO (fun v O'=>v=.bool (p x)∧O'=OO)):
  cZ prog base 90 [.slice b xs.length c,fv] OO (fun v O'=> ∃i:Int,v=vI i∧((i= -1∧xs.any p=false)∨ ∃(k:Nat) (hk:k<xs.length),i=(k:Int)∧p xs[k]=true∧(xs.take k).any p=false)∧O'=OO):=by
 refine aF func90 F ntmps90 F ?_
 refine a8 (bh (bJ (az (bV underlying22) (aS (aw ?_)))))
 refine cX (fun(k:Nat) ρ O=>O=OO∧k≤xs.length∧(xs.take k).any p=false∧cL [(0,(.slice b xs.length c)),(1,fv),(7,vI (xs.length:Int)),(8,vI (k:Int))] ρ) (fun k=>xs.length-k) 0 ?_ ?_
 ·exact⟨F,aG _,F,⟨F,F,F,F,trivial⟩⟩
 rintro k ρ O ⟨rfl,hk,qj,hH⟩
 obtain⟨fy,rfl⟩:=hH.elim
 clear hH
 refine aB cH (TO.ns (aH F (fun hc=>?_) (fun hc=>?_)))
 ·have j7:k<xs.length:=by omega
  refine aE (ba (aw (bI (ai (bI (aQ (az (b8 k underlying22 bt F F hS j7 (by rw[ag];exact j7)) (ad (dR underlying3 F F hS (eu j7)) ?_))))))))
  have EW:=hy xs[k] (ap j7)
  refine au (et EW F F ?_)
  clear EW
  rintro vr O' ⟨rfl,rfl⟩
  refine TO.nl (T.cond F (fun hc=>?_) (fun hc=>?_))
  ·refine ba ?_
   refine aJ (aQ (bm ?_))
   refine aM (vI (k:Int)) results90 F ?_
   exact⟨_,bj (ay _),k,F,.inr ⟨k,j7,F,hc,qj⟩,F⟩
  refine aE (aJ (ad (bK (b:=1) k F F (by omega)) (aS ?_)))
  exact⟨k+1,by omega,F,by omega,jI j7 qj (by simpa using hc),⟨F,F,F,F,trivial⟩⟩
 have J5: ¬k<xs.length:=by omega
 refine bA ?_
 refine a8 (bm ?_)
 refine aM (vI (-1)) results90 F ?_
 exact⟨_,bj (ay _), -1,F,.inl ⟨F,lG (by omega) qj⟩,F⟩
theorem oo (base:World) [eT prog base] (b:Option Addr) (c:Nat) (xs:List Int) (OO:List Lx.Item) (hS: ∀w,Inv base OO w→Sl w b (ints xs)) (hb:xs.length<9223372036854775807) (fv:Value) (p:Int→Bool) (hy: ∀x∈xs,dS prog base fv [vI x] OO (fun v O'=>v=.bool (p x)∧O'=OO)):
  cZ prog base 45 [.slice b xs.length c,fv] OO (fun v O'=>v=.bool (xs.any p)∧O'=OO):=by
 refine aF func45 F ntmps45 F ?_
 refine a8 (ai (bI (aQ ?_)))
 have hk7:=zu base b c xs OO hS hb fv p hy
 refine TO.lc VO hk7 ?_
 clear hk7
 rintro vr O' ⟨i,rfl,hi,rfl⟩
 refine ad ly (bm ?_)
 refine aM (.bool (decide (i≥0))) results45 F ?_
 refine⟨_,bj (ay _),av Value.bool ?_,F⟩
 rcases hi with⟨rfl,h9⟩|⟨k,hk,rfl,h9,_⟩
 ·rw[h9];decide
 ·rw[gP hk h9];exact bz (by omega)
theorem uL (base:World) [eT prog base] (v:Int) (h0:0≤v) (h6:v≤6) (bx x:Nat) (hx:x<256):
  cZ prog base 84 [.int .u8 (x:Int),.pointer (aD bx)] [oI bx 3 [(vI v)]] (fun z O'=>z=.bool (decide (¬x<2^v.toNat))∧O'=[oI bx 3 [(vI v)]]):=by
 refine aF func84 F ntmps84 F ?_
 refine a8 (ai (bP (jj underlying5 underlying3 F (gN ⟨by omega,by omega⟩)) (ad (bp 0 underlying3) (ad (uZ (v:=v.toNat) F (by show Value.int _ v=_;rw[bq h0]) (by omega)) (ad ly (ai (cF ?_)))))))
 refine aM (.bool (decide ((x:Int)≥((2^v.toNat:Nat):Int)))) results84 F ?_
 exact⟨av Value.bool (decide_eq_decide.2 (by omega)),F⟩
theorem vL (w:World) [eT prog w] (l:La) (pb lb:Option Addr) (pc lc:Nat) (h:qF w l pb lb pc lc) (hL:DR l) (v:Int):
  cR prog 39 [.agg (c_ l pb pc lb lc).toArray,vI v] w fun z N=>z=vI (dA v l:Int)∧N=[]:=by
 refine aF func39 F ntmps39 F ?_
 have xC:=hL.pre;have tJ:=hL.loop
 refine a8 (au (e5 ((c_ l pb pc lb lc)) (fun dk=>?_)))
 refine au (e5 [(vI v)] (fun dI=>?_))
 refine ai (ba (aw (aB (bp 0 underlying3) (ad cH ?_))))
 by_cases Hc:v<0
 ·refine ad (cm aC Hc) ?_
  refine dj (ad bR (ai ?_))
  refine cJ ?_
  refine a8 (bm ?_)
  refine aM (vI 7) results39 F ?_
  refine⟨[],bj (aX _),av (fun z:Nat=>Value.int .i64 (z:Int)) (Eq.symm (a:=dA v l) (b:=7) ?_),F⟩
  unfold dA;rw[aA (by omega)]
 refine ad (cD aC Hc) (ax (bp 0 underlying3) (ax fg (ad ca (ai (aH F (fun hc=>?_) (fun hc=>?_))))))
 ·refine ba ?_
  refine aJ (bm ?_)
  refine aM (vI 7) results39 F ?_
  refine⟨[],bj (aX _),av (fun z:Nat=>Value.int .i64 (z:Int)) (Eq.symm (a:=dA v l) (b:=7) ?_),F⟩
  unfold dA;rw[aA (by omega)]
 refine aB (bY underlying29 fX) (ad (bp 1 underlying27) (ad (bV underlying27) (ad en (ai (aH F (fun hc=>?_) (fun hc=>?_))))))
 ·have xO:l.loop.length=0:=by omega
  refine a8 (bm ?_)
  refine aM (vI 3) results39 F ?_
  refine⟨[],bj (aX _),av (fun z:Nat=>Value.int .i64 (z:Int)) (Eq.symm (a:=dA v l) (b:=3) ?_),F⟩
  unfold dA pq;rw[ar (by omega),aA (by omega)]
 have Uv: ¬l.loop.length=0:=by omega
 refine aB (bY underlying29 fX) (ad (bp 1 underlying27) (ad (bV underlying27) (ad fg ?_)))
 by_cases On:(l.pre.length:Int)>64
 ·refine ad (cm aC On) ?_
  refine cP (ad bR (ai ?_))
  refine cJ ?_
  refine a8 (bm ?_)
  refine aM (vI 4) results39 F ?_
  refine⟨[],bj (aX _),av (fun z:Nat=>Value.int .i64 (z:Int)) (Eq.symm (a:=dA v l) (b:=4) ?_),F⟩
  unfold dA pq;rw[ar (by omega),ar (by omega),aA (by omega)]
 refine ad (cD aC On) (ax (bY underlying29 fX) (ax (bp 1 underlying27) (ax (bV underlying27) (ax fg (ad ca (ai (aH F (fun hc=>?_) (fun hc=>?_))))))))
 ·have adQ:l.loop.length>64:=by omega
  refine a8 (bm ?_)
  refine aM (vI 4) results39 F ?_
  refine⟨[],bj (aX _),av (fun z:Nat=>Value.int .i64 (z:Int)) (Eq.symm (a:=dA v l) (b:=4) ?_),F⟩
  unfold dA pq;rw[ar (by omega),ar (by omega),aA (by omega)]
 have adR: ¬l.loop.length>64:=by omega
 refine aE (aB (dZ) (bh (bJ (ad (bY underlying29 fX) (ad (bp 1 underlying27) (aQ ?_))))))
 by_cases hp:l.pre.any (fun x=>decide (¬x<2^v.toNat))=true
 ·let dC:Lx.Item:=oI dk 29 (c_ l pb pc lb lc)
  have PB:=(lY w pb pc l.pre [oI dI 3 [(vI v)],dC] (bS h.pre) (by have:=hL.pre;have:=hL.loop;omega) (.func (.func 84) #[] #[.pointer (aD dI)]) (fun x=>decide (¬x<2^v.toNat)) (fun x hx=>(dS.under (A:=[oI dI 3 [(vI v)]]) (B:=[dC]) (b_ (first:=[]) (args:=[.int .u8 (x:Int)]) (fU:=[.pointer (aD dI)]) Jn (uL w v (by omega) (by omega) dI x (hL.p8 x hx))) (aR [0,0])).mono (fun z O' ⟨A',e1,e2,e3⟩=>⟨e2,by rw[e1,e3];rfl⟩))).mono (fun z O' hh=>(⟨hh.1.trans (av Value.bool ((show∀b:Bool,b=decide (b=true)from fun b=>by cases b<;>rfl) _)),hh.2⟩:z=.bool (decide (l.pre.any (fun x=>decide (¬x<2^v.toNat))=true))∧O'=[oI dI 3 [(vI v)],dC]))
  refine TO.lc Jo PB ?_
  clear PB
  rintro vr O' ⟨rfl,rfl⟩
  rw[bz hp]
  refine aQ (cP (bF bR ?_))
  refine cJ ?_
  refine a8 (bm ?_)
  refine aM (vI 1) results39 F ?_
  refine⟨[],bj (aX _),av (fun z:Nat=>Value.int .i64 (z:Int)) (Eq.symm (a:=dA v l) (b:=1) ?_),F⟩
  unfold dA pq;rw[ar (by omega),ar (by omega),ar (by omega),ar]
  rintro⟨q1,q2⟩
  exact absurd hp (by rw[Fj q1];decide)
 let dM:List Lx.Item:=[oI dI 3 [(vI v)],oI dk 29 (c_ l pb pc lb lc)]
 let eE:Lx.Item:=oI dk 29 (c_ l pb pc lb lc)
 have PB:=(lY w pb pc l.pre dM (bS h.pre) (by have:=hL.pre;have:=hL.loop;omega) (.func (.func 84) #[] #[.pointer (aD dI)]) (fun x=>decide (¬x<2^v.toNat)) (fun x hx=>(dS.under (A:=[oI dI 3 [(vI v)]]) (B:=[eE]) (b_ (first:=[]) (args:=[.int .u8 (x:Int)]) (fU:=[.pointer (aD dI)]) Jn (uL w v (by omega) (by omega) dI x (hL.p8 x hx))) (aR [0,0])).mono (fun z O' ⟨A',e1,e2,e3⟩=>⟨e2,by rw[e1,e3];rfl⟩))).mono (fun z O' hh=>(⟨hh.1.trans (av Value.bool ((show∀b:Bool,b=decide (b=true)from fun b=>by cases b<;>rfl) _)),hh.2⟩:z=.bool (decide (l.pre.any (fun x=>decide (¬x<2^v.toNat))=true))∧O'=dM))
 refine TO.lc Jo PB ?_
 clear PB
 rintro vr O' ⟨rfl,rfl⟩
 rw[bT hp]
 refine aQ (ax (bY underlying29 fX) (ax (bp 1 underlying27) (ax aC ?_)))
 by_cases hq:l.loop.any (fun x=>decide (¬x<2^v.toNat))=true
 ·have rD:=(lY w lb lc l.loop dM (bS h.loop) (by have:=hL.pre;have:=hL.loop;omega) (.func (.func 84) #[] #[.pointer (aD dI)]) (fun x=>decide (¬x<2^v.toNat)) (fun x hx=>(dS.under (A:=[oI dI 3 [(vI v)]]) (B:=[eE]) (b_ (first:=[]) (args:=[.int .u8 (x:Int)]) (fU:=[.pointer (aD dI)]) Jn (uL w v (by omega) (by omega) dI x (hL.l8 x hx))) (aR [0,0])).mono (fun z O' ⟨A',e1,e2,e3⟩=>⟨e2,by rw[e1,e3];rfl⟩))).mono (fun z O' hh=>(⟨hh.1.trans (av Value.bool ((show∀b:Bool,b=decide (b=true)from fun b=>by cases b<;>rfl) _)),hh.2⟩:z=.bool (decide (l.loop.any (fun x=>decide (¬x<2^v.toNat))=true))∧O'=dM))
  refine fD F F F (dV Jo rD ?_)
  clear rD
  rintro vr O' ⟨rfl,rfl⟩
  rw[bz hq]
  refine bF ca ?_
  refine cJ ?_
  refine a8 (bm ?_)
  refine aM (vI 1) results39 F ?_
  refine⟨[],bj (aX _),av (fun z:Nat=>Value.int .i64 (z:Int)) (Eq.symm (a:=dA v l) (b:=1) ?_),F⟩
  unfold dA pq;rw[ar (by omega),ar (by omega),ar (by omega),ar]
  rintro⟨q1,q2⟩
  exact absurd hq (by rw[Fj q2];decide)
 have rD:=(lY w lb lc l.loop dM (bS h.loop) (by have:=hL.pre;have:=hL.loop;omega) (.func (.func 84) #[] #[.pointer (aD dI)]) (fun x=>decide (¬x<2^v.toNat)) (fun x hx=>(dS.under (A:=[oI dI 3 [(vI v)]]) (B:=[eE]) (b_ (first:=[]) (args:=[.int .u8 (x:Int)]) (fU:=[.pointer (aD dI)]) Jn (uL w v (by omega) (by omega) dI x (hL.l8 x hx))) (aR [0,0])).mono (fun z O' ⟨A',e1,e2,e3⟩=>⟨e2,by rw[e1,e3];rfl⟩))).mono (fun z O' hh=>(⟨hh.1.trans (av Value.bool ((show∀b:Bool,b=decide (b=true)from fun b=>by cases b<;>rfl) _)),hh.2⟩:z=.bool (decide (l.loop.any (fun x=>decide (¬x<2^v.toNat))=true))∧O'=dM))
 refine fD F F F (dV Jo rD ?_)
 clear rD
 rintro vr O' ⟨rfl,rfl⟩
 rw[bT hq]
 refine bF ca (cK (aE (a8 (bm ?_))))
 refine aM (vI 0) results39 F ?_
 refine⟨[],bj (aX _),av (fun z:Nat=>Value.int .i64 (z:Int)) (Eq.symm (a:=dA v l) (b:=0) ?_),F⟩
 unfold dA pq;rw[ar (by omega),ar (by omega),ar (by omega),aA ⟨Fk (Bool.eq_false_iff.2 hp),Fk (Bool.eq_false_iff.2 hq)⟩]
theorem GZ (w:World) [eT prog w] (b:Bu) (sb eb tb:Option Addr) (sc ec tc:Nat) (vs:List Value) (h:nL w b sb eb tb vs) (hB:Aw b) (h8:b.aP.length≤8):
  cR prog 40 [.agg (bf b sb sc eb ec tb tc).toArray] w fun v N=> ∃m l,v=.map (some m)∧N=[cM KI VU m l]∧pA l (oG b.aP)∧(∀q∈l,∃S∈b.aP,q.1∈S):=by
 refine aF func40 F ntmps40 F ?_
 have JZ:=hB.se
 refine a8 (au (e5 ((bf b sb sc eb ec tb tc)) (fun dk=>?_)))
 refine ai (a8 (au (io KI VU (fun m2=>?_))))
 refine bh (bJ (ad (bY underlying26 dQ) (ad (bp 1 underlying24) (ad (bV underlying24) (aS (aw ?_))))))
 refine cX (fun(k:Nat) ρ O=> ∃(l:List (Int×Nat)),O=[cM KI VU m2 l,oI dk 26 (bf b sb sc eb ec tb tc)]∧k≤b.aP.length∧pA l (oG (b.aP.take k))∧(∀q∈l,∃S∈b.aP,q.1∈S)∧cL [(0,(.agg (bf b sb sc eb ec tb tc).toArray)),(1,(.pointer (aD dk))),(2,.map none),(3,(.map (some m2))),(10,(.slice tb b.aP.length tc)),(11,vI (b.aP.length:Int)),(12,vI (k:Int))] ρ) (fun k=>b.aP.length-k) 0 ?_ ?_
 ·exact⟨[],F,aG _,pA.nil,(fun q hq=>(List.not_mem_nil hq).elim),(.of F)⟩
 rintro k ρ O ⟨l,rfl,hk,Mb,tG,hH⟩
 obtain⟨fy,rfl⟩:=hH.elim
 clear hH
 refine aB cH (TO.ns (aH F (fun hc=>?_) (fun hc=>?_)))
 ·have xO:k<b.aP.length:=by omega
  obtain⟨rb,rc,g1,s1⟩:=h.rows.get xO
  have hrk:=hB.sr _ (ap xO)
  have AF:(b.aP.take k).length=k:=by rw[bC];omega
  refine aE (ba (aw (bP (b8 k underlying24 cf F F (bS h.out) (by first|assumption|omega|(simp;omega)|simp_all) (by rw[h.rows.1];exact xO)) (ad (eA underlying22 F F h.out g1) (bh (ai (bP (bV underlying22) (aS (aw ?_)))))))))
  refine cX (fun(j:Nat) ρ O=> ∃(l2:List (Int×Nat)),O=[cM KI VU m2 l2,oI dk 26 (bf b sb sc eb ec tb tc)]∧j≤b.aP[k].length∧pA l2 (oG (b.aP.take k++[b.aP[k].take j]))∧(∀q∈l2,∃S∈b.aP,q.1∈S)∧cL [(0,(.agg (bf b sb sc eb ec tb tc).toArray)),(1,(.pointer (aD dk))),(2,.map none),(3,(.map (some m2))),(4,vI (k:Int)),(5,(.slice rb b.aP[k].length rc)),(10,(.slice tb b.aP.length tc)),(11,vI (b.aP.length:Int)),(12,vI (k:Int)),(17,(.slice rb b.aP[k].length rc)),(18,vI (b.aP[k].length:Int)),(19,vI (j:Int))] ρ) (fun j=>b.aP[k].length-j) 0 ?_ ?_
  ·exact⟨l,F,aG _,Mb.congr (fun s=>by rw[List.take_zero];exact Rp.symm),tG,(.of F)⟩
  rintro j ρ O ⟨l2,rfl,hj,WL,aaK,hH⟩
  obtain⟨fy,rfl⟩:=hH.elim
  clear hH
  refine aB cH (TO.ns (aH F (fun hc=>?_) (fun hc=>?_)))
  ·have Ut:j<b.aP[k].length:=by omega
   have hmk:oG (b.aP.take k++[b.aP[k].take j]) b.aP[k][j]<2^9:=du (xz _ _) (dw (by omega) (by simp;omega))
   refine aE (ba (aw (aB (b8 j underlying22 bt F F (bS s1)) (ad (eA underlying3 F F s1 eu) (ai ?_)))))
   refine e6 [(0,0),(1,0),(2,0),(3,0),(4,0),(5,0),(6,2)] ?_
   refine am F aC (am F aC (am F (bH (jy (K:=KI) (V:=VU) (a:=b.aP[k][j]) underlying99 jg (fZ.int underlying3) F F (mG 0)) (v':=.int .u64 ((oG (b.aP.take k++[b.aP[k].take j]) b.aP[k][j]:Nat):Int)) (by rw[←WL.h];cases eN b.aP[k][j] l2<;>rfl)) (am F aC (am F (BO (a:=1) (b:=k) .u64 F F (by show _≤64;omega) (by show _<2^64;rw[Nat.one_mul];exact Nat.pow_lt_pow_right (by omega) (by omega))) (am F (Rk (a:=(oG (b.aP.take k++[b.aP[k].take j]) b.aP[k][j])) (b:=(1*2^k)) .u64 F F (by show _<2^64;omega) (by show _<2^64;rw[Nat.one_mul];exact Nat.pow_lt_pow_right (by omega) (by omega))) ?_)))))
   refine cG F F (oO (K:=KI) (V:=VU) (a:=b.aP[k][j]) (v:=oG (b.aP.take k++[b.aP[k].take j]) b.aP[k][j]|||1*2^k) 0 underlying99 (fZ.int underlying3) (sbI _) F F F F ?_)
   refine cl ?_
   refine aJ (ad (bK (b:=1) j F F (by omega)) (aS ?_))
   refine⟨j+1,by omega,gH b.aP[k][j] (oG (b.aP.take k++[b.aP[k].take j]) b.aP[k][j]|||1*2^k) l2,F,by omega,?_,fun q hq=>?_,(.of F)⟩
   ·have h9:=WL.step (a:=b.aP[k][j])
    rw[AF]at h9
    rw[an Ut];exact h9
   ·by_cases e:q.1=b.aP[k][j]
    ·exact⟨_,ap xO,by rw[e];exact ap Ut⟩
    ·have Uu:q.1∈(gH b.aP[k][j] (oG (b.aP.take k++[b.aP[k].take j]) b.aP[k][j]|||1*2^k) l2).map Prod.fst:=List.mem_map.2 ⟨q,hq,F⟩
     rw[u_]at Uu
     have L_:q.1∈l2.map Prod.fst:=by
      split at Uu
      ·exact Uu
      ·rcases List.mem_append.1 Uu with h|h
       ·exact h
       ·simp at h;exact absurd h e
     obtain⟨q2,IN,e2⟩:=List.mem_map.1 L_
     obtain⟨S,hS,Wq⟩:=aaK q2 IN
     exact⟨S,hS,by rw[←e2];exact Wq⟩
  have ai_: ¬j<b.aP[k].length:=by omega
  refine bA ?_
  refine aJ (ad (bK (b:=1) k F F (by omega)) (aS ?_))
  refine⟨k+1,by omega,l2,F,by omega,?_,aaK,(.of F)⟩
  rw[an xO]
  rwa[aN (show b.aP[k].length≤j by omega)]at WL
 have Uv: ¬k<b.aP.length:=by omega
 refine bA ?_
 refine bI (bm ?_)
 refine aM (.map (some m2)) results40 F ?_
 have J4:k=b.aP.length:=by omega
 exact⟨[cM KI VU m2 l],(aR [0]),m2,l,F,F,by rwa[J4,List.take_length]at Mb,tG⟩
theorem xH (w:World) [eT prog w] (b:Bu) (sb eb tb:Option Addr) (sc ec tc:Nat) (vs:List Value) (h:nL w b sb eb tb vs) (hB:Aw b) (hv:eJ b):
  cR prog 61 [.agg (bf b sb sc eb ec tb tc).toArray] w fun v N=> ∃nb nc mb mc qs ms,v=.agg #[.slice nb b.ae.toNat nc,.slice mb b.ae.toNat mc,.int .u64 ((2^b.aP.length-1:Nat):Int)]∧N=[ak nb b.ae.toNat 22 1 (bW qs),ak mb b.ae.toNat 96 1 (fe ms)]++bQ 3 qs∧wC b (nums qs) ms:=by
 refine aF func61 F ntmps61 F ?_
 have DS:=hv.n0;have hv4:=hv.n4;have L_:=hv.m8;have Rf:=hB.ed
 obtain⟨n,hn⟩: ∃n:Nat,b.ae=(n:Int):=⟨b.ae.toNat,by omega⟩
 have Rg:b.ae.toNat=n:=by omega
 refine a8 (au (e5 ((bf b sb sc eb ec tb tc)) (fun dk=>?_)))
 refine au (bO fY (fun dI=>?_))
 refine TO.nl ?_
 refine iD (fun ρ O=> ∃(zN zM zG:Nat),O=[oI zG 98 [(.slice (aD zN) n n),(.slice (aD zM) n n),.int .u64 ((2^b.aP.length-1:Nat):Int)],aU zN n 22 1 (List.replicate n nS),aU zM n 96 1 (List.replicate n (.int .u64 0)),oI dI 98 [nS,nS,(.int .u64 0)],oI dk 26 (bf b sb sc eb ec tb tc)]∧cL [(0,(.agg (bf b sb sc eb ec tb tc).toArray)),(1,(.pointer (aD dk))),(2,(.pointer (aD dI))),(3,(.pointer (aD zG)))] ρ) ?_ ?_
 ·refine T.oH [oI dk 26 (bf b sb sc eb ec tb tc)] 14 mixed F (aR [1]) (fun _ _ _ _ h=>h) ?_
  refine aO 0 F (by kernel_rfl) (bY underlying26 bt) ?_
  refine aO 1 F (by kernel_rfl) (bH (bp 0 underlying3) (v':=vN n) (by show Value.int _ b.ae=_;rw[hn])) ?_
  refine aO 3 F (by kernel_rfl) (bY underlying26 bt) ?_
  refine aO 4 F (by kernel_rfl) (bH (bp 0 underlying3) (v':=vN n) (by show Value.int _ b.ae=_;rw[hn])) ?_
  refine aO 6 F (by kernel_rfl) (bY underlying26 dQ) ?_
  refine aO 7 F (by kernel_rfl) (bp 0 underlying24) ?_
  refine aO 8 F (by kernel_rfl) (bV underlying24) ?_
  refine aO 9 F (by kernel_rfl) (bH (BO (a:=1) (b:=b.aP.length) .u64 F F (by show _≤64;omega) (by show _<2^64;rw[Nat.one_mul];exact Nat.pow_lt_pow_right (by omega) (by omega))) (v':=.int .u64 ((2^b.aP.length:Nat):Int)) (by rw[Nat.one_mul])) ?_
  refine aO 10 F (by kernel_rfl) (GY (a:=(2^b.aP.length)) (b:=1) .u64 F F (by show _<2^64;exact Nat.pow_lt_pow_right (by omega) (by omega)) Nat.one_le_two_pow) ?_
  refine aZ [2,5,12] (by kernel_rfl) F ⟨⟨_,F,F,cq n underlying24 cf F F (by omega) (by omega) (fun zN=>⟨aR [2],?_⟩)⟩,⟨_,F,F,cq n underlying95 jg F F (by omega) (by omega) (fun zM=>⟨aR [2],?_⟩)⟩,⟨_,F,F,bO fY (fun zG=>⟨aR [2],?_⟩)⟩,trivial⟩
  ·refine aZ [5,12] (by kernel_rfl) F ⟨⟨_,F,F,cq n underlying95 jg F F (by omega) (by omega) (fun zM=>⟨aR [3],?_⟩)⟩,⟨_,F,F,bO fY (fun zG=>⟨aR [3],?_⟩)⟩,trivial⟩
   ·refine aO 11 F (by kernel_rfl) (dy [(.slice (aD zN) n n),(.slice (aD zM) n n),.int .u64 ((2^b.aP.length-1:Nat):Int)] my fY (by kernel_rfl)) ?_
    refine aZ [12] (by kernel_rfl) F ⟨⟨_,F,F,bO fY (fun zG=>⟨aR [4],?_⟩)⟩,trivial⟩
    refine aZ [13] (by kernel_rfl) F ⟨⟨_,F,F,cE [(.slice (aD zN) n n),(.slice (aD zM) n n),.int .u64 ((2^b.aP.length-1:Nat):Int)] 0 fY ⟨aR [4],?_⟩ F F F F⟩,trivial⟩
    exact dB (by kernel_rfl) ⟨zN,zM,zG,F,⟨F,F,F,F,trivial⟩⟩ (aR [0,1,0,0,0])
   refine aZ [5] (by kernel_rfl) F ⟨⟨_,F,F,cq n underlying95 jg F F (by omega) (by omega) (fun zM=>⟨aR [4],?_⟩)⟩,trivial⟩
   refine aO 11 F (by kernel_rfl) (dy [(.slice (aD zN) n n),(.slice (aD zM) n n),.int .u64 ((2^b.aP.length-1:Nat):Int)] my fY (by kernel_rfl)) ?_
   refine aZ [13] (by kernel_rfl) F ⟨⟨_,F,F,cE [(.slice (aD zN) n n),(.slice (aD zM) n n),.int .u64 ((2^b.aP.length-1:Nat):Int)] 1 fY ⟨aR [4],?_⟩ F F F F⟩,trivial⟩
   exact dB (by kernel_rfl) ⟨zN,zM,zG,F,⟨F,F,F,F,trivial⟩⟩ (aR [1,1,0,0,0])
  ·refine aZ [2,12] (by kernel_rfl) F ⟨⟨_,F,F,cq n underlying24 cf F F (by omega) (by omega) (fun zN=>⟨aR [3],?_⟩)⟩,⟨_,F,F,bO fY (fun zG=>⟨aR [3],?_⟩)⟩,trivial⟩
   ·refine aO 11 F (by kernel_rfl) (dy [(.slice (aD zN) n n),(.slice (aD zM) n n),.int .u64 ((2^b.aP.length-1:Nat):Int)] my fY (by kernel_rfl)) ?_
    refine aZ [12] (by kernel_rfl) F ⟨⟨_,F,F,bO fY (fun zG=>⟨aR [4],?_⟩)⟩,trivial⟩
    refine aZ [13] (by kernel_rfl) F ⟨⟨_,F,F,cE [(.slice (aD zN) n n),(.slice (aD zM) n n),.int .u64 ((2^b.aP.length-1:Nat):Int)] 0 fY ⟨aR [4],?_⟩ F F F F⟩,trivial⟩
    exact dB (by kernel_rfl) ⟨zN,zM,zG,F,⟨F,F,F,F,trivial⟩⟩ (aR [0,0,0,0,0])
   refine aZ [2] (by kernel_rfl) F ⟨⟨_,F,F,cq n underlying24 cf F F (by omega) (by omega) (fun zN=>⟨aR [4],?_⟩)⟩,trivial⟩
   refine aO 11 F (by kernel_rfl) (dy [(.slice (aD zN) n n),(.slice (aD zM) n n),.int .u64 ((2^b.aP.length-1:Nat):Int)] my fY (by kernel_rfl)) ?_
   refine aZ [13] (by kernel_rfl) F ⟨⟨_,F,F,cE [(.slice (aD zN) n n),(.slice (aD zM) n n),.int .u64 ((2^b.aP.length-1:Nat):Int)] 1 fY ⟨aR [4],?_⟩ F F F F⟩,trivial⟩
   exact dB (by kernel_rfl) ⟨zN,zM,zG,F,⟨F,F,F,F,trivial⟩⟩ (aR [1,0,0,0,0])
  refine aZ [2,5] (by kernel_rfl) F ⟨⟨_,F,F,cq n underlying24 cf F F (by omega) (by omega) (fun zN=>⟨aR [3],?_⟩)⟩,⟨_,F,F,cq n underlying95 jg F F (by omega) (by omega) (fun zM=>⟨aR [3],?_⟩)⟩,trivial⟩
  ·refine aZ [5] (by kernel_rfl) F ⟨⟨_,F,F,cq n underlying95 jg F F (by omega) (by omega) (fun zM=>⟨aR [4],?_⟩)⟩,trivial⟩
   refine aO 11 F (by kernel_rfl) (dy [(.slice (aD zN) n n),(.slice (aD zM) n n),.int .u64 ((2^b.aP.length-1:Nat):Int)] my fY (by kernel_rfl)) ?_
   refine aZ [13] (by kernel_rfl) F ⟨⟨_,F,F,cE [(.slice (aD zN) n n),(.slice (aD zM) n n),.int .u64 ((2^b.aP.length-1:Nat):Int)] 2 fY ⟨aR [4],?_⟩ F F F F⟩,trivial⟩
   exact dB (by kernel_rfl) ⟨zN,zM,zG,F,⟨F,F,F,F,trivial⟩⟩ (aR [2,1,0,0,0])
  refine aZ [2] (by kernel_rfl) F ⟨⟨_,F,F,cq n underlying24 cf F F (by omega) (by omega) (fun zN=>⟨aR [4],?_⟩)⟩,trivial⟩
  refine aO 11 F (by kernel_rfl) (dy [(.slice (aD zN) n n),(.slice (aD zM) n n),.int .u64 ((2^b.aP.length-1:Nat):Int)] my fY (by kernel_rfl)) ?_
  refine aZ [13] (by kernel_rfl) F ⟨⟨_,F,F,cE [(.slice (aD zN) n n),(.slice (aD zM) n n),.int .u64 ((2^b.aP.length-1:Nat):Int)] 2 fY ⟨aR [4],?_⟩ F F F F⟩,trivial⟩
  exact dB (by kernel_rfl) ⟨zN,zM,zG,F,⟨F,F,F,F,trivial⟩⟩ (aR [2,0,0,0,0])
 rintro ρ O ⟨zN,zM,zG,rfl,hH⟩
 obtain⟨fy,rfl⟩:=hH.elim
 clear hH
 refine ba (aB (eg 4 underlying26 eF) (TO.lc Mu (aK fun w1 hI=>(haveI:=Inv.tab (P:=prog) hI;GZ w1 b sb eb tb sc ec tc vs (hI.bu h) hB L_)) ?_))
 rintro vr O' ⟨N,rfl,m,l,rfl,rfl,Mb,tG⟩
 refine au (xE 0 underlying99 F F (fun it3=>?_))
 refine TO.nl (aw ?_)
 refine cX (fun(left:List (Int×Nat)) ρ O=> ∃(pj:Option (Int×Nat)) (ms:List Nat),O=[nV KI VU m it3 l left pj,oI zG 98 [(.slice (aD zN) n n),(.slice (aD zM) n n),.int .u64 ((2^b.aP.length-1:Nat):Int)],aU zN n 22 1 (List.replicate n nS),aU zM n 96 1 (fe ms),oI dI 98 [nS,nS,(.int .u64 0)],oI dk 26 (bf b sb sc eb ec tb tc)]∧(∀q∈left,q∈l)∧(left.map Prod.fst).Nodup∧ms.length=n∧(∀s,s<n→ms.getD s 0=if(s:Int)∈left.map Prod.fst then 0 else oG b.aP s)∧cL [(0,(.agg (bf b sb sc eb ec tb tc).toArray)),(1,(.pointer (aD dk))),(2,(.pointer (aD dI))),(3,(.pointer (aD zG))),(22,(.pointer (aD it3)))] ρ) (fun left=>left.length) l ?_ ?_
 ·refine⟨none,List.replicate n 0,(by first|(simp only[List.map_replicate];done)|(simp only[List.map_replicate];rfl)),fun q hq=>hq,Mb.nd,by simp,fun s hs=>?_,(.of F)⟩
  rw[show(List.replicate n 0).getD s 0=0 by simp[hs]]
  split
  ·rfl
  ·rename_i BP;exact(Mb.out BP).symm
 rintro left ρ O ⟨pj,ms,rfl,mz,kO,DB,J0,hH⟩
 obtain⟨fy,rfl⟩:=hH.elim
 clear hH
 refine a8 (au (Ay (K:=KI) (V:=VU) 0 F F (fun tH=>?_) (fun lA le lB tH=>?_)))
 ·refine ad (bX _) ?_
  refine TO.ns (cK ?_)
  refine bA ?_
  refine ba (aB (bY underlying26 kQ) (ad (bp 5 underlying23) (ad (bV underlying23) (aS (aw ?_)))))
  subst tH
  refine cV (O':=[oI zG 98 [(.slice (aD zN) n n),(.slice (aD zM) n n),.int .u64 ((2^b.aP.length-1:Nat):Int)],aU zN n 22 1 (List.replicate n nS),aU zM n 96 1 (fe ms),oI dI 98 [nS,nS,(.int .u64 0)],oI dk 26 (bf b sb sc eb ec tb tc)]) (aR [1,1,1,1,1]) ?_
  refine T.rI 3 n ?_
  refine cS (fun(k:Nat) ρ O=> ∃(qs:List Rec),O=([oI zG 98 [(.slice (aD zN) n n),(.slice (aD zM) n n),.int .u64 ((2^b.aP.length-1:Nat):Int)],aU zN n 22 1 (bW qs),aU zM n 96 1 (fe ms),oI dI 98 [nS,nS,(.int .u64 0)],oI dk 26 (bf b sb sc eb ec tb tc)]++(bQ 3 qs))∧k≤b.ao.length∧jp n (J2 (b.ao.take k)) k (nums qs)∧cL [(0,(.agg (bf b sb sc eb ec tb tc).toArray)),(1,(.pointer (aD dk))),(2,(.pointer (aD dI))),(3,(.pointer (aD zG))),(34,(.slice eb b.ao.length ec)),(35,vI (b.ao.length:Int)),(36,vI (k:Int))] ρ) (fun k=>b.ao.length-k) 0 ?_ ?_
  ·exact⟨List.replicate n ng,(by simp only[List.map_replicate];rfl),aG _,jp.start (fun u y _ ⟨e,he,_⟩=>by simp at he) _,(.of F)⟩
  rintro k ρ O ⟨qs,rfl,hk,Mc,hH⟩
  obtain⟨fy,rfl⟩:=hH.elim
  clear hH
  have tD:=Mc.ql
  refine aB cH (TO.ns (aH F (fun hc=>?_) (fun hc=>?_)))
  ·have AB:k<b.ao.length:=by omega
   obtain⟨u,hu,tC⟩: ∃u:Nat,b.ao[k].fr=(u:Int)∧u<n:=by
    have:=(hv.ed _ (ap AB)).1
    exact⟨b.ao[k].fr.toNat,by omega,by omega⟩
   have Az:u<qs.length:=by omega
   have hrq:=Mc.rl Az
   refine aE (ba (aw (aB (fO (i:=k) underlying23 fm F F (bS h.ed) (by first|assumption|omega|(simp;omega)|simp_all) (by first|(rw[fP];omega)|(simp[fP];omega)|(simp_all[fP];omega))) (ad (mM [vI b.ao[k].fr,vI b.ao[k].to,v8 (b.ao[k].pos),v8 (b.ao[k].neg)] underlying106 F fm F F (eo _) (bS h.ed) (pu (by first|assumption|omega|(simp;omega)|simp_all))) (au (bO fm (fun fA=>?_)))))))
   refine au (cE [vI b.ao[k].fr,vI b.ao[k].to,v8 (b.ao[k].pos),v8 (b.ao[k].neg)] 0 fm ?_)
   refine TO.nl ?_
   refine cV (BQ Az [oI fA 106 [vI b.ao[k].fr,vI b.ao[k].to,v8 (b.ao[k].pos),v8 (b.ao[k].neg)],oI zG 98 [(.slice (aD zN) n n),(.slice (aD zM) n n),.int .u64 ((2^b.aP.length-1:Nat):Int)],aU zN n 22 1 (bW qs),aU zM n 96 1 (fe ms),oI dI 98 [nS,nS,(.int .u64 0)],oI dk 26 (bf b sb sc eb ec tb tc)]) ?_
   refine T.ds [oI fA 106 [vI b.ao[k].fr,vI b.ao[k].to,v8 (b.ao[k].pos),v8 (b.ao[k].neg)],oI zG 98 [(.slice (aD zN) n n),(.slice (aD zM) n n),.int .u64 ((2^b.aP.length-1:Nat):Int)],aU zN n 22 1 (bW qs),aU zM n 96 1 (fe ms),oI dI 98 [nS,nS,(.int .u64 0)],oI dk 26 (bf b sb sc eb ec tb tc)] [(0,0),(1,0),(2,0),(3,0),(4,0),(5,0),(6,0),(7,0),(8,0),(9,0),(10,0),(11,0),(12,1),(13,1),(14,0),(15,2)] (fu [1,1,1,1,1,1] [ak qs[u].b qs[u].c 3 1 (ints qs[u].xs),oI fA 106 [vI b.ao[k].fr,vI b.ao[k].to,v8 (b.ao[k].pos),v8 (b.ao[k].neg)],oI zG 98 [(.slice (aD zN) n n),(.slice (aD zM) n n),.int .u64 ((2^b.aP.length-1:Nat):Int)],aU zN n 22 1 (bW qs),aU zM n 96 1 (fe ms),oI dI 98 [nS,nS,(.int .u64 0)],oI dk 26 (bf b sb sc eb ec tb tc)] (bQ 3 (qs.eraseIdx u)) F F) ?_
   refine am F (bY underlying98 dQ) (am F (bp 1 underlying24) (am F (bY underlying106 bt) (am F (bH (bp 0 underlying3) (v':=vN u) (by show Value.int _ _=_;rw[hu])) (am F (bY underlying98 dQ) (am F (bp 1 underlying24) (am F (bY underlying106 bt) (am F (bH (bp 0 underlying3) (v':=vN u) (by show Value.int _ _=_;rw[hu])) (am F (b8 u underlying24 cf F F (bU 2)) (am F (dR underlying22 F F (bU 2) (tI Az)) (am F (bY underlying106 bt) (am F (bp 0 underlying3) ?_)))))))))))
   refine eH F F (dv (v:=vI b.ao[k].to) underlying22 bt F F F (fun fK=>⟨fu [2,2,2,2,2,2] [aU fK 1 3 1 [vI b.ao[k].to],ak qs[u].b qs[u].c 3 1 (ints qs[u].xs),oI fA 106 [vI b.ao[k].fr,vI b.ao[k].to,v8 (b.ao[k].pos),v8 (b.ao[k].neg)],oI zG 98 [(.slice (aD zN) n n),(.slice (aD zM) n n),.int .u64 ((2^b.aP.length-1:Nat):Int)],aU zN n 22 1 (bW qs),aU zM n 96 1 (fe ms),oI dI 98 [nS,nS,(.int .u64 0)],oI dk 26 (bf b sb sc eb ec tb tc)] (bQ 3 (qs.eraseIdx u)) F F,?_⟩))
   refine eH F F (dp 1 underlying22 underlying22 bt F F F F (by simp) (by decide) (Src.row (j:=0) F (by simp)) (by simp[fL]) (by omega) (by decide) (by decide) (fun ig c7=>⟨fu [2,2,2,2,2,2] [aU fK 1 3 1 [vI b.ao[k].to],ak ig c7 3 1 ((ints qs[u].xs)++[vI b.ao[k].to]),oI fA 106 [vI b.ao[k].fr,vI b.ao[k].to,v8 (b.ao[k].pos),v8 (b.ao[k].neg)],oI zG 98 [(.slice (aD zN) n n),(.slice (aD zM) n n),.int .u64 ((2^b.aP.length-1:Nat):Int)],aU zN n 22 1 (bW qs),aU zM n 96 1 (fe ms),oI dI 98 [nS,nS,(.int .u64 0)],oI dk 26 (bf b sb sc eb ec tb tc)] (bQ 3 (qs.eraseIdx u)) F F,?_⟩))
   refine am F (b8 u underlying24 cf F F (bU 2)) ?_
   refine cG F F (gw (v:=(.slice ig (qs[u].xs.length+1) c7)) (vs:=[(.slice ig (qs[u].xs.length+1) c7)]) (cs:=bW qs) u 4 cf F F F F F (by simp) F (by first|(simp;omega)|(simp_all;omega)) ?_)
   refine eM (O':=([aU fK 1 3 1 [vI b.ao[k].to],ak ig c7 3 1 ((ints qs[u].xs)++[vI b.ao[k].to]),oI fA 106 [vI b.ao[k].fr,vI b.ao[k].to,v8 (b.ao[k].pos),v8 (b.ao[k].neg)],oI zG 98 [(.slice (aD zN) n n),(.slice (aD zM) n n),.int .u64 ((2^b.aP.length-1:Nat):Int)],aU zN n 22 1 (bW (qs.set u ⟨ig,c7,qs[u].xs++[b.ao[k].to]⟩)),aU zM n 96 1 (fe ms),oI dI 98 [nS,nS,(.int .u64 0)],oI dk 26 (bf b sb sc eb ec tb tc)]++(bQ 3 (qs.eraseIdx u)))) (by rw[show dq (bW qs) u [(.slice ig (qs[u].xs.length+1) c7)]=bW (qs.set u ⟨ig,c7,qs[u].xs++[b.ao[k].to]⟩)from(by simp[dq,Rec.val])];exact bj (ay _)) ?_
   refine eM (O':=[ak ig c7 3 1 ((ints qs[u].xs)++[vI b.ao[k].to]),oI fA 106 [vI b.ao[k].fr,vI b.ao[k].to,v8 (b.ao[k].pos),v8 (b.ao[k].neg)],oI zG 98 [(.slice (aD zN) n n),(.slice (aD zM) n n),.int .u64 ((2^b.aP.length-1:Nat):Int)],aU zN n 22 1 (bW (qs.set u ⟨ig,c7,qs[u].xs++[b.ao[k].to]⟩)),aU zM n 96 1 (fe ms),oI dI 98 [nS,nS,(.int .u64 0)],oI dk 26 (bf b sb sc eb ec tb tc)]++(bQ 3 (qs.eraseIdx u))) (dx [1,1,1,1,1,1,1] [aU fK 1 3 1 [vI b.ao[k].to],ak ig c7 3 1 ((ints qs[u].xs)++[vI b.ao[k].to]),oI fA 106 [vI b.ao[k].fr,vI b.ao[k].to,v8 (b.ao[k].pos),v8 (b.ao[k].neg)],oI zG 98 [(.slice (aD zN) n n),(.slice (aD zM) n n),.int .u64 ((2^b.aP.length-1:Nat):Int)],aU zN n 22 1 (bW (qs.set u ⟨ig,c7,qs[u].xs++[b.ao[k].to]⟩)),aU zM n 96 1 (fe ms),oI dI 98 [nS,nS,(.int .u64 0)],oI dk 26 (bf b sb sc eb ec tb tc)] (bQ 3 (qs.eraseIdx u)) F F) ?_
   refine eM (O':=[oI fA 106 [vI b.ao[k].fr,vI b.ao[k].to,v8 (b.ao[k].pos),v8 (b.ao[k].neg)],oI zG 98 [(.slice (aD zN) n n),(.slice (aD zM) n n),.int .u64 ((2^b.aP.length-1:Nat):Int)],aU zN n 22 1 (bW (qs.set u ⟨ig,c7,qs[u].xs++[b.ao[k].to]⟩)),aU zM n 96 1 (fe ms),oI dI 98 [nS,nS,(.int .u64 0)],oI dk 26 (bf b sb sc eb ec tb tc)]++(bQ 3 (qs.set u ⟨ig,c7,qs[u].xs++[b.ao[k].to]⟩))) (G0 Az [oI fA 106 [vI b.ao[k].fr,vI b.ao[k].to,v8 (b.ao[k].pos),v8 (b.ao[k].neg)],oI zG 98 [(.slice (aD zN) n n),(.slice (aD zM) n n),.int .u64 ((2^b.aP.length-1:Nat):Int)],aU zN n 22 1 (bW (qs.set u ⟨ig,c7,qs[u].xs++[b.ao[k].to]⟩)),aU zM n 96 1 (fe ms),oI dI 98 [nS,nS,(.int .u64 0)],oI dk 26 (bf b sb sc eb ec tb tc)] ⟨ig,c7,qs[u].xs++[b.ao[k].to]⟩ (by simp)) ?_
   refine cl ?_
   refine aJ (ad (bK (b:=1) k F F (by omega)) (aS ?_))
   exact⟨k+1,by omega,([oI zG 98 [(.slice (aD zN) n n),(.slice (aD zM) n n),.int .u64 ((2^b.aP.length-1:Nat):Int)],aU zN n 22 1 (bW (qs.set u ⟨ig,c7,qs[u].xs++[b.ao[k].to]⟩)),aU zM n 96 1 (fe ms),oI dI 98 [nS,nS,(.int .u64 0)],oI dk 26 (bf b sb sc eb ec tb tc)]++(bQ 3 (qs.set u ⟨ig,c7,qs[u].xs++[b.ao[k].to]⟩))),(dx [1,1,1,1,1] [oI fA 106 [vI b.ao[k].fr,vI b.ao[k].to,v8 (b.ao[k].pos),v8 (b.ao[k].neg)],oI zG 98 [(.slice (aD zN) n n),(.slice (aD zM) n n),.int .u64 ((2^b.aP.length-1:Nat):Int)],aU zN n 22 1 (bW (qs.set u ⟨ig,c7,qs[u].xs++[b.ao[k].to]⟩)),aU zM n 96 1 (fe ms),oI dI 98 [nS,nS,(.int .u64 0)],oI dk 26 (bf b sb sc eb ec tb tc)] (bQ 3 (qs.set u ⟨ig,c7,qs[u].xs++[b.ao[k].to]⟩)) F F),qs.set u ⟨ig,c7,qs[u].xs++[b.ao[k].to]⟩,F,by omega,Mc.push Az b.ao[k].to (fun w y hw=>by rw[J3 AB];constructor<;>(rintro(h|h)<;>first|exact .inl h|exact .inr ⟨by omega,by omega⟩)) _ _,(.of F)⟩
  have IB: ¬k<b.ao.length:=by omega
  refine bA ?_
  refine aB (eg 0 underlying98 fY) (au (cE [(.slice (aD zN) n n),(.slice (aD zM) n n),.int .u64 ((2^b.aP.length-1:Nat):Int)] 3 fY ?_))
  refine l_ ?_
  refine iX (i:=3) results61 underlying98 F fY F F F ?_
  have J4:k=b.ao.length:=by omega
  subst J4
  rw[List.take_length]at Mc
  exact⟨[aU zN n 22 1 (bW qs),aU zM n 96 1 (fe ms)]++bQ 3 qs,(dx [1,1] [oI zG 98 [(.slice (aD zN) n n),(.slice (aD zM) n n),.int .u64 ((2^b.aP.length-1:Nat):Int)],aU zN n 22 1 (bW qs),aU zM n 96 1 (fe ms),oI dI 98 [(.slice (aD zN) n n),(.slice (aD zM) n n),.int .u64 ((2^b.aP.length-1:Nat):Int)],oI dk 26 (bf b sb sc eb ec tb tc)] (bQ 3 qs) F F),_,_,_,_,qs,ms,by rw[Rg];rfl,by rw[Rg],⟨by rw[Rg];exact Mc,by rw[Rg];exact DB,fun s hs=>by rw[J0 s (by omega)];simp⟩⟩
 refine bF (bX _) (ba ?_)
 refine cJ ?_
 refine aE (aw (aB (xG (K:=KI) (V:=VU) F (mG 0)) (ad (bX _) (ad (bX _) (bh (ai ?_))))))
 have akS:=DB
 obtain⟨x,hx,Uk⟩: ∃x:Nat,le.1=(x:Int)∧x<n:=by
  obtain⟨S,hS,Wq⟩:=tG le (mz le (by rw[tH];simp))
  have:=hv.se S hS _ Wq
  exact⟨le.1.toNat,by omega,by omega⟩
 refine aJ (ad (bY underlying98 IA) (ad (bp 1 underlying95) (ad (bH aC (v':=vN x) (by show Value.int _ _=_;rw[hx])) (az (b8 x underlying95 jg F F (bU 3)) (au (gw (v:=.int .u64 ((le.2:Nat):Int)) (vs:=[(.int .u64 ((le.2:Nat):Int))]) (cs:=fe ms) x 3 jg F F F F F (by simp) F (by first|(simp;omega)|(simp_all;omega)) ?_))))))
 refine cY (O':=[nV KI VU m it3 l (lA++lB) (some le),oI zG 98 [(.slice (aD zN) n n),(.slice (aD zM) n n),.int .u64 ((2^b.aP.length-1:Nat):Int)],aU zN n 22 1 (List.replicate n nS),aU zM n 96 1 (fe (ms.set x le.2)),oI dI 98 [nS,nS,(.int .u64 0)],oI dk 26 (bf b sb sc eb ec tb tc)]) (by rw[show dq (fe ms) x [(.int .u64 ((le.2:Nat):Int))]=fe (ms.set x le.2)from(by simp[dq])];exact bj (ay _)) ?_
 refine TO.nl ?_
 subst tH
 exact⟨lA++lB,by simp,some le,ms.set x le.2,F,fun q hq=>mz q (by rcases List.mem_append.1 hq with h|h<;>simp[h]),AA kO,by simp[DB],G1 DB J0 kO (Mb.val (mz le (by simp))) hx Uk,(.of F)⟩
theorem WJ (w:World) [eT prog w] (b:Bu) (sb eb tb:Option Addr) (sc ec tc:Nat) (vs:List Value) (h:nL w b sb eb tb vs) (hB:Aw b):
  cR prog 59 [.agg (bf b sb sc eb ec tb tc).toArray] w fun v N=> ∃lb lc,v=.tuple #[.slice lb (eP b).length lc,vI (cC b:Int)]∧N=[ak lb lc 4 1 (bv (eP b))]:=by
 refine aF func59 F ntmps59 F ?_
 refine a8 (au (e5 ((bf b sb sc eb ec tb tc)) (fun dk=>?_)))
 refine bh (bh (bJ (ad (eg 0 underlying26 eF) (TO.lc Ix (aK fun w1 hI=>(haveI:=Inv.tab (P:=prog) hI;BN w1 b sb eb tb sc ec tc vs (hI.bu h) hB)) ?_))))
 rintro vr O' ⟨N,rfl,rfl,rfl⟩
 refine ai (bP gB (TO.nl (aH F (fun hc=>?_) (fun hc=>?_))))
 ·have nj:cC b≠0:=by omega
  refine ba (T.dH 4 1 ?_)
  refine aJ (aQ (bh (bm ?_)))
  refine fJ nS (vI (cC b:Int)) results59 F F ?_
  exact⟨[ak none 0 4 1 []],(aR [0]),none,0,by unfold eP;rw[ar nj];rfl,by unfold eP;rw[ar nj];rfl⟩
 have IM: ¬cC b≠0:=by omega
 refine aE (ba ?_)
 have hv:eJ b:=gE.1 (by omega)
 have hn4:=hv.n4
 have Rf:=hB.ed
 refine aJ (ad (eg 0 underlying26 eF) (TO.lc Us (aK fun w1 hI=>(haveI:=Inv.tab (P:=prog) hI;xH w1 b sb eb tb sc ec tc vs (hI.bu h) hB hv)) ?_))
 rintro vr O' ⟨N,rfl,kS,nQ,Zq,mc2,qs,ms,rfl,rfl,hg⟩
 refine cY (O':=([ak kS b.ae.toNat 22 1 (bW qs),ak Zq b.ae.toNat 96 1 (fe ms),oI dk 26 (bf b sb sc eb ec tb tc)]++(bQ 3 qs))) (Sub.cO [] (by intro a;simp only[bQ,oI,da,dJ,dq,cj,dl,bZ,bw,aL,bL,df,fF,gg,jq,vI,nS,aU,G4,aD,bf,c_]<;>omega)) ?_
 refine TO.lc Uh (aK fun w1 hI=>(haveI:=Inv.tab (P:=prog) hI;(by
  have hL:=Ui w1 kS Zq nQ mc2 (bW qs) (nums qs) ms b.aP.length (hI.ga (mG 0)) (sH (E:=3) hI (fun q hq=>bl _ (List.mem_map.2 ⟨q,hq,F⟩))) (by rw[hg.r.l];omega) (fun r hr=>by obtain⟨i,hi,rfl⟩:=List.mem_iff_getElem.1 hr;have h9:=hg.r.b i;rw[getD_at hi]at h9;omega) (hg.ok hv) (hI.ga (mG 1)) (by rw[hg.l,hg.r.l]) hg.lt hv.m8
  rw[hg.r.l,hg.l]at hL;exact hL))) ?_
 rintro vr O' ⟨N,rfl,lb,lc,kb,kc,ls,co,rfl,rfl,tJ,Ri,uT⟩
 refine az (bX _) (ad (bX _) (bh (ai (bI (bh (bm ?_))))))
 refine fJ (.slice lb b.ae.toNat lc) (vI 0) results59 F F ?_
 have he:cC b=0:=by omega
 have MP:=JX he tJ (fun v DC=>(uT v DC).1.trans (hg.liv hv v))
 exact⟨[ak lb lc 4 1 (bv ls)],(fu [0] [ak lb lc 4 1 (bv ls),ak kb kc 4 1 (bv co),ak kS b.ae.toNat 22 1 (bW qs),ak Zq b.ae.toNat 96 1 (fe ms),oI dk 26 (bf b sb sc eb ec tb tc)] (bQ 3 qs) F F),lb,lc,by rw[←MP,tJ,he];rfl,by rw[←MP]⟩
theorem V9 (w:World) [eT prog w] (l:La) (pb lb:Option Addr) (pc lc:Nat) (h0:0<l.loop.length):
  cR prog 88 [.agg (c_ l pb pc lb lc).toArray] w fun z N=>z=.agg (c_ l pb pc lb lc).toArray∧N=[]:=by
 refine aF func88 F ntmps88 F ?_
 refine a8 (au (e5 ((c_ l pb pc lb lc)) (fun dk=>?_)))
 refine au (bO dD (fun dI=>?_))
 refine bJ (ad (bY underlying29 fX) (ad (bp 1 underlying27) (ad (bV underlying27) (bF (cD en (show¬((l.loop.length:Int)=0) by omega)) (cK (aE (aB (eg 1 underlying29 dD) (au (cE ((c_ l pb pc lb lc)) 0 dD ?_)))))))))
 refine l_ ?_
 refine iX (i:=0) results88 underlying29 F dD F F F ?_
 exact⟨[],bj (aX _),F,F⟩
theorem Mw (w:World) [eT prog w] (l:La) (pb lb:Option Addr) (pc lc:Nat) (h:qF w l pb lb pc lc) (hL:DR l) (i:Nat) (hi:i≤1000000000000):
    cR prog 43 [.agg (c_ l pb pc lb lc).toArray,vI (i:Int)] w fun z N=>z=vN (l.ix i)∧N=[]:=by
 refine aF func43 F ntmps43 F ?_
 have xC:=hL.pre;have tJ:=hL.loop
 have DB:=Nat.mod_le (i-l.pre.length) (max l.loop.length 1)
 refine a8 (au (e5 ((c_ l pb pc lb lc)) (fun dk=>?_)))
 refine ai (aB (bY underlying29 fX) (ad (bp 0 underlying27) (ad (bV underlying27) (bh (bJ (dr (bF cH (aH F (fun hc=>?_) (fun hc=>?_)))))))))
 ·have AC:i<l.pre.length:=by omega
  refine bP (bH (px (a:=i) (b:=0) F F) (v':=vN (l.ix i)) (by rw[rn AC,Nat.max_zero])) (bm ?_)
  refine aM (vN (l.ix i)) results43 F ?_
  exact⟨[],bj (aX _),F,F⟩
 have MA: ¬i<l.pre.length:=by omega
 refine aE (bI (aQ (az (il (a:=i) (b:=l.pre.length) F F (by omega) (by omega)) (ad (bY underlying29 fX) (ad (bp 0 underlying27) (ad (bV underlying27) (ad (px (a:=l.loop.length) (b:=1) F F) (ad (kR (a:=(i-l.pre.length)) (b:=(max l.loop.length 1)) F F (by omega)) (ad (bK (b:=((i-l.pre.length)%(max l.loop.length 1))) l.pre.length F F (by omega)) (bm ?_))))))))))
 refine aM (vN (l.pre.length+((i-l.pre.length)%(max l.loop.length 1)))) results43 F ?_
 exact⟨[],bj (aX _),av (fun z:Nat=>Value.int .i64 (z:Int)) (by unfold La.ix;rw[ar MA]),F⟩
theorem atF (w:World) [eT prog w] (l:La) (pb lb:Option Addr) (pc lc:Nat) (h:qF w l pb lb pc lc) (hL:DR l) (h0:0<l.loop.length) (i:Nat) (hi:i≤1000000000000):
    cR prog 42 [.agg (c_ l pb pc lb lc).toArray,vI (i:Int)] w fun z N=>z=v8 (l.at i)∧N=[]:=by
 refine aF func42 F ntmps42 F ?_
 have xC:=hL.pre;have tJ:=hL.loop
 have am2:=La.nW h0 i
 have hn:l.n=l.pre.length+l.loop.length:=rfl
 have Zy:l.pre.length≤l.ix i→ ∃hx:l.ix i-l.pre.length<l.loop.length,l.loop[l.ix i-l.pre.length]=l.at i:=fun hh=>by
  by_cases e:i<l.pre.length
  ·rw[rn e]at hh;omega
  ·refine⟨by omega,?_⟩
   rw[ut h0 (by omega)];congr 1;rw[ur h0 (by omega)];omega
 have K_:l.ix i<l.pre.length→ ∃hx:i<l.pre.length,l.ix i=i:=fun hh=>by
  by_cases e:i<l.pre.length
  ·exact⟨e,rn e⟩
  ·rw[ur h0 (by omega)]at hh;omega
 refine a8 (au (e5 ((c_ l pb pc lb lc)) (fun dk=>?_)))
 refine bh (bJ (aQ (bF cH (cK (aE (aB (eg 0 underlying29 dD) (TO.lc VN (aK fun w1 hI=>(haveI:=Inv.tab (P:=prog) hI;V9 w1 l pb lb pc lc h0)) ?_))) (av Value.bool (bT (by omega)))))))
 rintro vr O' ⟨N,rfl,rfl,rfl⟩
 refine au (cE ((c_ l pb pc lb lc)) 0 dD ?_)
 refine TO.ns (ba ?_)
 refine e6 [(0,0),(1,0),(3,0),(4,0),(5,0),(2,1),(6,0),(7,0)] ?_
 refine am F (eg 0 underlying29 dD) (am F aC (am F (bY underlying29 fX) (am F (bp 0 underlying27) (am F (bV underlying27) ?_))))
 refine eH F F (dV Ug (aK fun w1 hI=>(haveI:=Inv.tab (P:=prog) hI;Mw w1 l pb lb pc lc (hI.la h) hL i hi)) ?_)
 rintro vr O' ⟨N,rfl,rfl,rfl⟩
 refine⟨aR [0],?_⟩
 refine am F (w4 F F (by omega)) (am F dN ?_)
 refine cl ?_
 refine bP ly (TO.nl (aH F (fun hc=>?_) (fun hc=>?_)))
 ·obtain⟨ru,Kr⟩:=Zy (by omega)
  refine aB (bY underlying29 fX) (ad (bp 0 underlying27) (ad (bH aC (v':=vN (l.ix i-l.pre.length)) (by show Value.int _ _=_;congr 1;omega)) (ad (b8 ((l.ix i-l.pre.length)) underlying27 fS F F (bS h.loop) ru (by rw[ag];exact ru)) (ad (eA underlying5 F F h.loop (show(ek l.loop)[l.ix i-l.pre.length]? =_ by rw[h_ ru,Kr])) (bm ?_)))))
  refine aM (v8 (l.at i)) results42 F ?_
  exact⟨[],bj (aX _),F,F⟩
 obtain⟨ru,Kr⟩:=K_ (by omega)
 refine aE (aB (bY underlying29 fX) (ad (bp 0 underlying27) (az (b8 i underlying27 fS F F (bS h.pre) ru (by rw[ag];exact ru)) (ad (eA underlying5 F F h.pre (show(ek l.pre)[i]? =_ by rw[h_ ru,←mq ru])) (bm ?_)))))
 refine aM (v8 (l.at i)) results42 F ?_
 exact⟨[],bj (aX _),F,F⟩
theorem af6 (w:World) [eT prog w] (e:Ed) (hp:e.pos<256) (hn:e.neg<256) (x:Nat) (hx:x<256):
    cR prog 87 [.agg #[.int .u8 (e.pos:Int),.int .u8 (e.neg:Int)],.int .u8 (x:Int)] w fun z N=>z=.bool (decide (mw e x))∧N=[]:=by
 refine aF func87 F ntmps87 F ?_
 refine a8 (au (e5 [v8 e.pos,v8 e.neg] (fun dk=>?_)))
 refine ai (bP (bY underlying152 fS) (ad (bp 0 underlying5) (ad (nY (a:=x) (b:=e.pos) .u8 F F (by show _<256;omega) (by show _<256;omega)) (ad (bY underlying152 fS) (ad (bp 0 underlying5) (ad en ?_))))))
 by_cases aaB:((x&&&e.pos:Nat):Int)=((e.pos:Nat):Int)
 ·refine ad (cm aC aaB) ?_
  refine ax aC (ax (bY underlying152 fS) (ax (bp 0 underlying5) (ax (nY (a:=x) (b:=e.neg) .u8 F F (by show _<256;omega) (by show _<256;omega)) (ax en (ad bR (bm ?_))))))
  refine aM (.bool (decide (((x&&&e.neg:Nat):Int)=0))) results87 F ?_
  exact⟨[],bj (aX _),av Value.bool (Eq.symm (decide_eq_decide.2 (by unfold mw;omega))),F⟩
 refine ad (cD aC aaB) (dt (cP (ad ca (bm ?_))))
 refine aM (.bool false) results87 F ?_
 exact⟨[],bj (aX _),av Value.bool (Eq.symm (bT (fun hm=>by unfold mw at hm;omega))),F⟩
theorem J1 (w:World) [eT prog w] (b:Bu) (sb eb tb:Option Addr) (sc ec tc:Nat) (vs:List Value) (h:nL w b sb eb tb vs) (hB:Aw b) (x:Nat):
  cR prog 41 [.agg (bf b sb sc eb ec tb tc).toArray,.int .u8 (x:Int)] w fun v N=> ∃bx cx,v=.func (.func 86) #[] #[.pointer (aD bx),.pointer (aD cx)]∧N=[oI bx 26 (bf b sb sc eb ec tb tc),oI cx 5 [(.int .u8 (x:Int))]]:=by
 refine aF func41 F ntmps41 F ?_
 refine a8 (au (e5 ((bf b sb sc eb ec tb tc)) (fun dk=>?_)))
 refine au (e5 [(.int .u8 (x:Int))] (fun dI=>?_))
 refine ai (aB (dZ) (bm ?_))
 refine aM (.func (.func 86) #[] #[(.pointer (aD dk)),(.pointer (aD dI))]) results41 F ?_
 exact⟨[oI dk 26 (bf b sb sc eb ec tb tc),oI dI 5 [(.int .u8 (x:Int))]],(aR [1,0]),_,_,F,F⟩
theorem Wo (base:World) [eT prog base] (b:Bu) (sb eb tb:Option Addr) (sc ec tc:Nat) (vs:List Value) (h:nL base b sb eb tb vs) (hB:Aw b) (bx cx x:Nat) (hx:x<256) (yv:Value) (J:Nat→List Lx.Item→Prop) (Q:List Lx.Item→Prop)
  (kK: ∀k (hk:k<b.ao.length),¬mw b.ao[k] x→ ∀O,J k O→J (k+1) O)
  (hy: ∀k (hk:k<b.ao.length) (O:List Lx.Item),mw b.ao[k] x→J k O→dS prog base yv [(.agg #[vI b.ao[k].fr,vI b.ao[k].to,v8 (b.ao[k].pos),v8 (b.ao[k].neg)])] O (fun v O'=>(v=.bool true∧J (k+1) O')∨(v=.bool false∧Q O')))
  (O:List Lx.Item) (h0:J 0 O):cZ prog base 86 [yv,.pointer (aD bx),.pointer (aD cx)] (oI bx 26 (bf b sb sc eb ec tb tc)::oI cx 5 [(.int .u8 (x:Int))]::O) (fun _ O'=>J b.ao.length O'∨Q O'):=by
 refine aF func86 F ntmps86 F ?_
 have Rf:=hB.ed
 refine aB (bY underlying26 kQ) (ad (bp 0 underlying23) (ad (bV underlying23) (aS (aw ?_))))
 let dM:List Value:=[(.int .u8 (x:Int))]
 refine cX (fun(k:Nat) ρ O=> ∃(O1:List Lx.Item),O=([oI bx 26 (bf b sb sc eb ec tb tc),oI cx 5 dM]++O1)∧k≤b.ao.length∧J k O1∧cL [(0,yv),(1,(.pointer (aD bx))),(2,(.pointer (aD cx))),(7,(.slice eb b.ao.length ec)),(8,vI (b.ao.length:Int)),(9,vI (k:Int))] ρ) (fun k=>b.ao.length-k) 0 ?_ ?_
 ·exact⟨O,F,aG _,h0,(.of F)⟩
 rintro k ρ O ⟨O1,rfl,hk,hJ,hH⟩
 obtain⟨fy,rfl⟩:=hH.elim
 clear hH
 refine aB cH (TO.ns (aH F (fun hc=>?_) (fun hc=>?_)))
 ·have nj:k<b.ao.length:=by omega
  have sf:=hB.pn _ (ap nj)
  let dC:List Value:=[vI b.ao[k].fr,vI b.ao[k].to,v8 (b.ao[k].pos),v8 (b.ao[k].neg)]
  refine aE (ba (aw (aB (fO (i:=k) underlying23 fm F F (bS h.ed) (by first|assumption|omega|(simp;omega)|simp_all) (by first|(rw[fP];omega)|(simp[fP];omega)|(simp_all[fP];omega))) (ad (mM dC underlying106 F fm F F (eo _) (bS h.ed) (pu (by first|assumption|omega|(simp;omega)|simp_all))) (au (bO fm (fun dk=>?_)))))))
  refine au (cE dC 0 fm ?_)
  refine TO.nl (aB (bY underlying106 fS) (ad (bp 0 underlying5) (ad (bY underlying106 fS) (ad (bp 0 underlying5) (ad (dy [v8 (b.ao[k].pos),v8 (b.ao[k].neg)] Rn WK (by kernel_rfl)) (ad (bp 2 underlying5) ?_))))))
  have aaI:=fun(w1:World) (hI:Inv base ([oI dk 106 dC,oI bx 26 (bf b sb sc eb ec tb tc),oI cx 5 dM]++O1) w1)=>(haveI:=Inv.tab (P:=prog) hI;af6 w1 b.ao[k] sf.1 sf.2 x hx)
  refine TO.lc aaJ (aK aaI) ?_
  clear aaI
  rintro vr O' ⟨N,rfl,rfl,rfl⟩
  by_cases Ro:mw b.ao[k] x
  ·refine ad (cm aC Ro) ?_
   refine ax aC (ax (eg 0 underlying106 fm) ?_)
   have Ee:=dS.under (B:=[oI dk 106 dC,oI bx 26 (bf b sb sc eb ec tb tc),oI cx 5 dM]) (O:=([oI dk 106 dC,oI bx 26 (bf b sb sc eb ec tb tc),oI cx 5 dM]++O1)) (hy k nj O1 Ro hJ) (Sub.cO [] (by intro a;simp only[bQ,oI,da,dJ,dq,cj,dl,bZ,bw,aL,bL,df,fF,gg,jq,vI,nS,aU,G4,aD,bf,c_]<;>omega))
   refine fD F F F (et Ee F F ?_)
   clear Ee
   rintro vr O' ⟨O2,rfl,⟨rfl,Ef⟩|⟨rfl,hQ2⟩⟩
   ·refine ax gM ?_
    refine bF bR (cK (aE ?_))
    refine cV (O':=[oI bx 26 (bf b sb sc eb ec tb tc),oI cx 5 dM]++O2) (Sub.cO [oI dk 106 dC] (by intro a;simp only[bQ,oI,da,dJ,dq,cj,dl,bZ,bw,aL,bL,df,fF,gg,jq,vI,nS,aU,G4,aD,bf,c_]<;>omega)) ?_
    refine aJ (ad (bK (b:=1) k F F (by omega)) (aS ?_))
    exact⟨k+1,by omega,O2,F,by omega,Ef,(.of F)⟩
   refine ax gM (bF bR ?_)
   refine cJ ?_
   refine cF (e7 ?_)
   refine pk.zero results86 ?_
   exact⟨O2,Sub.cO [oI dk 106 dC,oI bx 26 (bf b sb sc eb ec tb tc),oI cx 5 dM] (by intro a;simp only[bQ,oI,da,dJ,dq,cj,dl,bZ,bw,aL,bL,df,fF,gg,jq,vI,nS,aU,G4,aD,bf,c_]<;>omega),.inr hQ2⟩
  refine ad (cD aC Ro) (cP (bF ca (cK ?_)))
  refine aE ?_
  refine cV (O':=[oI bx 26 (bf b sb sc eb ec tb tc),oI cx 5 dM]++O1) (dx [1,1] [oI dk 106 dC,oI bx 26 (bf b sb sc eb ec tb tc),oI cx 5 dM] O1 F F) ?_
  refine aJ (ad (bK (b:=1) k F F (by omega)) (aS ?_))
  exact⟨k+1,by omega,O1,F,by omega,kK k nj Ro _ hJ,(.of F)⟩
 have IM: ¬k<b.ao.length:=by omega
 refine bA ?_
 refine e7 ?_
 refine pk.zero results86 ?_
 have J4:k=b.ao.length:=by omega
 subst J4
 exact⟨O1,Sub.cO [oI bx 26 (bf b sb sc eb ec tb tc),oI cx 5 dM] (by intro a;simp only[bQ,oI,da,dJ,dq,cj,dl,bZ,bw,aL,bL,df,fF,gg,jq,vI,nS,aU,G4,aD,bf,c_]<;>omega),.inl hJ⟩
theorem JY (base:World) [eT prog base] (b1 b2:Nat) (lb:Option Addr) (lc L:Nat) (ls:List Bool) (s:Int) (h0:0≤s) (hs:s.toNat*L<ls.length) (hb:ls.length≤1000000):
  cZ prog base 46 [vI s,.pointer (aD b1),.pointer (aD b2)] [oI b1 108 [(.slice lb ls.length lc)],oI b2 3 [(vI ((L:Nat):Int))],ak lb lc 4 1 (bv ls)] (fun v O'=>v=.bool (ls.getD (s.toNat*L) false)∧O'=[oI b1 108 [(.slice lb ls.length lc)],oI b2 3 [(vI ((L:Nat):Int))],ak lb lc 4 1 (bv ls)]):=by
 refine aF func46 F ntmps46 F ?_
 refine a8 (ai (aB (bp 0 underlying108) (ad (bH aC (v':=vI ((s.toNat:Nat):Int)) (by show Value.int _ s=_;rw[bq h0])) (ad (bp 1 underlying3) (ad (jx (a:=s.toNat) (b:=L) F F (by omega)) (ad (b8 ((s.toNat*L)) underlying108 eW F F (bU 2)) (ad (dR underlying4 F F (bU 2) gj) (ai (cF ?_)))))))))
 refine aM (.bool ls[s.toNat*L]) results46 F ?_
 exact⟨by rw[gb hs],F⟩
theorem Ms (w:World) [eT prog w] (b:Bu) (sb eb tb:Option Addr) (sc ec tc:Nat) (vs:List Value) (h:nL w b sb eb tb vs) (hB:Aw b) (l:La) (pb lb:Option Addr) (pc lc:Nat) (h2:qF w l pb lb pc lc) (hL:DR l) (hE:b.ao.length≤5000):
  cR prog 10 [.agg (bf b sb sc eb ec tb tc).toArray,.agg (c_ l pb pc lb lc).toArray] w fun v N=>v=.tuple #[.bool (nf b l),vI (DP b l:Int)]∧N=[]:=by
 refine aF func10 F ntmps10 F ?_
 have mK:=hB.st;have Rf:=hB.ed;have JZ:=hB.se;have xC:=hL.pre;have akJ:=hL.loop
 refine a8 (au (e5 ((bf b sb sc eb ec tb tc)) (fun dk=>?_)))
 refine au (e5 ((c_ l pb pc lb lc)) (fun dI=>?_))
 refine bh (bh (bJ (ad (eg 1 underlying26 eF) (TO.lc Ix (aK fun w1 hI=>(haveI:=Inv.tab (P:=prog) hI;BN w1 b sb eb tb sc ec tc vs (hI.bu h) hB)) ?_))))
 rintro vr O' ⟨N,rfl,rfl,rfl⟩
 refine ai (bP gB (TO.nl (aH F (fun hc=>?_) (fun hc=>?_))))
 ·have Iy:cC b≠0:=by omega
  refine bI (bh (bm ?_))
  refine fJ (.bool false) (vI (cC b:Int)) results10 F F ?_
  exact⟨[],bj (aX _),by unfold nf DP;rw[ar (by omega),ar (by omega)],F⟩
 have Iz: ¬cC b≠0:=by omega
 refine aE (ba (aB (eg 0 underlying29 dD) (ad (bY underlying26 bt) (ad (bp 1 underlying3) (TO.lc Uf (aK fun w1 hI=>(haveI:=Inv.tab (P:=prog) hI;vL w1 l pb lb pc lc (hI.la h2) hL b.vars)) ?_)))))
 rintro vr O' ⟨N,rfl,rfl,rfl⟩
 refine ai (bP gB (TO.nl (aH F (fun hc=>?_) (fun hc=>?_))))
 ·have xD:dA b.vars l≠0:=by omega
  refine bI (bh (bm ?_))
  refine fJ (.bool false) (vI (dA b.vars l:Int)) results10 F F ?_
  exact⟨[],bj (aX _),by unfold nf DP;rw[ar (by omega),aA (by omega)],F⟩
 have Mt: ¬dA b.vars l≠0:=by omega
 refine aE (ba ?_)
 have wY:cC b=0:=by omega
 have Wn:dA b.vars l=0:=by omega
 have hv:eJ b:=gE.1 wY
 have DS:=hv.n0;have hv4:=hv.n4;have L_:=hv.m8
 obtain⟨Ma,akK,akL,_,_,Ax,ZY⟩:=qE Wn
 obtain⟨n,hn⟩: ∃n:Nat,b.ae=(n:Int):=⟨b.ae.toNat,by omega⟩
 have Rg:b.ae.toNat=n:=by omega
 have L9:l.n=l.pre.length+l.loop.length:=rfl
 have hL0:0<l.n:=by omega
 have hSL:n*l.n≤524288:=Nat.mul_le_mul (show n≤4096 by omega) (show l.n≤128 by omega)
 have ZZ:n*l.n≤9223372036854775807:=by omega
 refine aJ (ad (bY underlying29 fX) (ad (bp 0 underlying27) (ad (bV underlying27) (ad (bY underlying29 fX) (ad (bp 0 underlying27) (ad (bV underlying27) (ad (bK (b:=l.loop.length) l.pre.length F F (by omega)) (au (bO bt (fun fj=>?_))))))))))
 refine au (cE [(vI ((l.n:Nat):Int))] 0 bt ?_)
 refine TO.nl ?_
 refine iD (fun ρ O=> ∃(zN zM zG:Nat),O=[oI zG 98 [(.slice (aD zN) (n*l.n) (n*l.n)),(.slice (aD zM) (n*l.n) (n*l.n)),.int .u64 ((2^b.aP.length-1:Nat):Int)],aU zN (n*l.n) 22 1 (List.replicate (n*l.n) nS),aU zM (n*l.n) 96 1 (List.replicate (n*l.n) (.int .u64 0)),oI fj 3 [(vI ((l.n:Nat):Int))],oI dI 29 (c_ l pb pc lb lc),oI dk 26 (bf b sb sc eb ec tb tc)]∧cL [(0,(.agg (bf b sb sc eb ec tb tc).toArray)),(1,(.agg (c_ l pb pc lb lc).toArray)),(2,(.pointer (aD dk))),(3,(.pointer (aD dI))),(4,.bool false),(5,vI 0),(6,vI (cC b:Int)),(7,vI (dA b.vars l:Int)),(8,(.pointer (aD fj))),(9,(.pointer (aD zG)))] ρ) ?_ ?_
 ·refine T.oH [oI fj 3 [(vI ((l.n:Nat):Int))],oI dk 26 (bf b sb sc eb ec tb tc)] 18 mixed F (aR [0,1]) (fun _ _ _ _ h=>h) ?_
  refine aO 0 F (by kernel_rfl) (bY underlying26 bt) ?_
  refine aO 1 F (by kernel_rfl) (bH (bp 1 underlying3) (v':=vI ((n:Nat):Int)) (by show Value.int _ b.ae=_;rw[hn])) ?_
  refine aO 2 F (by kernel_rfl) (bp 0 underlying3) ?_
  refine aO 3 F (by kernel_rfl) (jx (a:=n) (b:=l.n) F F ZZ) ?_
  refine aO 5 F (by kernel_rfl) (bY underlying26 bt) ?_
  refine aO 6 F (by kernel_rfl) (bH (bp 1 underlying3) (v':=vI ((n:Nat):Int)) (by show Value.int _ b.ae=_;rw[hn])) ?_
  refine aO 7 F (by kernel_rfl) (bp 0 underlying3) ?_
  refine aO 8 F (by kernel_rfl) (jx (a:=n) (b:=l.n) F F ZZ) ?_
  refine aO 10 F (by kernel_rfl) (bY underlying26 dQ) ?_
  refine aO 11 F (by kernel_rfl) (bp 1 underlying24) ?_
  refine aO 12 F (by kernel_rfl) (bV underlying24) ?_
  refine aO 13 F (by kernel_rfl) (bH (BO (a:=1) (b:=b.aP.length) .u64 F F (by show _≤64;omega) (by show _<2^64;rw[Nat.one_mul];exact Nat.pow_lt_pow_right (by omega) (by omega))) (v':=.int .u64 ((2^b.aP.length:Nat):Int)) (by rw[Nat.one_mul])) ?_
  refine aO 14 F (by kernel_rfl) (GY (a:=(2^b.aP.length)) (b:=1) .u64 F F (by show _<2^64;exact Nat.pow_lt_pow_right (by omega) (by omega)) Nat.one_le_two_pow) ?_
  refine aZ [4,9,16] (by kernel_rfl) F ⟨⟨_,F,F,cq (n*l.n) underlying24 cf F F (by omega) (by omega) (fun zN=>⟨aR [1,2],?_⟩)⟩,⟨_,F,F,cq (n*l.n) underlying95 jg F F (by omega) (by omega) (fun zM=>⟨aR [1,2],?_⟩)⟩,⟨_,F,F,bO fY (fun zG=>⟨aR [1,2],?_⟩)⟩,trivial⟩
  ·refine aZ [9,16] (by kernel_rfl) F ⟨⟨_,F,F,cq (n*l.n) underlying95 jg F F (by omega) (by omega) (fun zM=>⟨aR [2,3],?_⟩)⟩,⟨_,F,F,bO fY (fun zG=>⟨aR [2,3],?_⟩)⟩,trivial⟩
   ·refine aO 15 F (by kernel_rfl) (dy [(.slice (aD zN) (n*l.n) (n*l.n)),(.slice (aD zM) (n*l.n) (n*l.n)),.int .u64 ((2^b.aP.length-1:Nat):Int)] my fY (by kernel_rfl)) ?_
    refine aZ [16] (by kernel_rfl) F ⟨⟨_,F,F,bO fY (fun zG=>⟨aR [3,4],?_⟩)⟩,trivial⟩
    refine aZ [17] (by kernel_rfl) F ⟨⟨_,F,F,cE [(.slice (aD zN) (n*l.n) (n*l.n)),(.slice (aD zM) (n*l.n) (n*l.n)),.int .u64 ((2^b.aP.length-1:Nat):Int)] 0 fY ⟨aR [3,4],?_⟩ F F F F⟩,trivial⟩
    exact dB (by kernel_rfl) ⟨zN,zM,zG,F,(.of F)⟩ (aR [0,1,0,0,0,0])
   refine aZ [9] (by kernel_rfl) F ⟨⟨_,F,F,cq (n*l.n) underlying95 jg F F (by omega) (by omega) (fun zM=>⟨aR [3,4],?_⟩)⟩,trivial⟩
   refine aO 15 F (by kernel_rfl) (dy [(.slice (aD zN) (n*l.n) (n*l.n)),(.slice (aD zM) (n*l.n) (n*l.n)),.int .u64 ((2^b.aP.length-1:Nat):Int)] my fY (by kernel_rfl)) ?_
   refine aZ [17] (by kernel_rfl) F ⟨⟨_,F,F,cE [(.slice (aD zN) (n*l.n) (n*l.n)),(.slice (aD zM) (n*l.n) (n*l.n)),.int .u64 ((2^b.aP.length-1:Nat):Int)] 1 fY ⟨aR [3,4],?_⟩ F F F F⟩,trivial⟩
   exact dB (by kernel_rfl) ⟨zN,zM,zG,F,(.of F)⟩ (aR [1,1,0,0,0,0])
  ·refine aZ [4,16] (by kernel_rfl) F ⟨⟨_,F,F,cq (n*l.n) underlying24 cf F F (by omega) (by omega) (fun zN=>⟨aR [2,3],?_⟩)⟩,⟨_,F,F,bO fY (fun zG=>⟨aR [2,3],?_⟩)⟩,trivial⟩
   ·refine aO 15 F (by kernel_rfl) (dy [(.slice (aD zN) (n*l.n) (n*l.n)),(.slice (aD zM) (n*l.n) (n*l.n)),.int .u64 ((2^b.aP.length-1:Nat):Int)] my fY (by kernel_rfl)) ?_
    refine aZ [16] (by kernel_rfl) F ⟨⟨_,F,F,bO fY (fun zG=>⟨aR [3,4],?_⟩)⟩,trivial⟩
    refine aZ [17] (by kernel_rfl) F ⟨⟨_,F,F,cE [(.slice (aD zN) (n*l.n) (n*l.n)),(.slice (aD zM) (n*l.n) (n*l.n)),.int .u64 ((2^b.aP.length-1:Nat):Int)] 0 fY ⟨aR [3,4],?_⟩ F F F F⟩,trivial⟩
    exact dB (by kernel_rfl) ⟨zN,zM,zG,F,(.of F)⟩ (aR [0,0,0,0,0,0])
   refine aZ [4] (by kernel_rfl) F ⟨⟨_,F,F,cq (n*l.n) underlying24 cf F F (by omega) (by omega) (fun zN=>⟨aR [3,4],?_⟩)⟩,trivial⟩
   refine aO 15 F (by kernel_rfl) (dy [(.slice (aD zN) (n*l.n) (n*l.n)),(.slice (aD zM) (n*l.n) (n*l.n)),.int .u64 ((2^b.aP.length-1:Nat):Int)] my fY (by kernel_rfl)) ?_
   refine aZ [17] (by kernel_rfl) F ⟨⟨_,F,F,cE [(.slice (aD zN) (n*l.n) (n*l.n)),(.slice (aD zM) (n*l.n) (n*l.n)),.int .u64 ((2^b.aP.length-1:Nat):Int)] 1 fY ⟨aR [3,4],?_⟩ F F F F⟩,trivial⟩
   exact dB (by kernel_rfl) ⟨zN,zM,zG,F,(.of F)⟩ (aR [1,0,0,0,0,0])
  refine aZ [4,9] (by kernel_rfl) F ⟨⟨_,F,F,cq (n*l.n) underlying24 cf F F (by omega) (by omega) (fun zN=>⟨aR [2,3],?_⟩)⟩,⟨_,F,F,cq (n*l.n) underlying95 jg F F (by omega) (by omega) (fun zM=>⟨aR [2,3],?_⟩)⟩,trivial⟩
  ·refine aZ [9] (by kernel_rfl) F ⟨⟨_,F,F,cq (n*l.n) underlying95 jg F F (by omega) (by omega) (fun zM=>⟨aR [3,4],?_⟩)⟩,trivial⟩
   refine aO 15 F (by kernel_rfl) (dy [(.slice (aD zN) (n*l.n) (n*l.n)),(.slice (aD zM) (n*l.n) (n*l.n)),.int .u64 ((2^b.aP.length-1:Nat):Int)] my fY (by kernel_rfl)) ?_
   refine aZ [17] (by kernel_rfl) F ⟨⟨_,F,F,cE [(.slice (aD zN) (n*l.n) (n*l.n)),(.slice (aD zM) (n*l.n) (n*l.n)),.int .u64 ((2^b.aP.length-1:Nat):Int)] 2 fY ⟨aR [3,4],?_⟩ F F F F⟩,trivial⟩
   exact dB (by kernel_rfl) ⟨zN,zM,zG,F,(.of F)⟩ (aR [2,1,0,0,0,0])
  refine aZ [4] (by kernel_rfl) F ⟨⟨_,F,F,cq (n*l.n) underlying24 cf F F (by omega) (by omega) (fun zN=>⟨aR [3,4],?_⟩)⟩,trivial⟩
  refine aO 15 F (by kernel_rfl) (dy [(.slice (aD zN) (n*l.n) (n*l.n)),(.slice (aD zM) (n*l.n) (n*l.n)),.int .u64 ((2^b.aP.length-1:Nat):Int)] my fY (by kernel_rfl)) ?_
  refine aZ [17] (by kernel_rfl) F ⟨⟨_,F,F,cE [(.slice (aD zN) (n*l.n) (n*l.n)),(.slice (aD zM) (n*l.n) (n*l.n)),.int .u64 ((2^b.aP.length-1:Nat):Int)] 2 fY ⟨aR [3,4],?_⟩ F F F F⟩,trivial⟩
  exact dB (by kernel_rfl) ⟨zN,zM,zG,F,(.of F)⟩ (aR [2,0,0,0,0,0])
 rintro ρ O ⟨zN,zM,zG,rfl,hH⟩
 obtain⟨fy,rfl⟩:=hH.elim
 clear hH
 refine ba (aB (eg 5 underlying26 eF) (TO.lc Mu (aK fun w1 hI=>(haveI:=Inv.tab (P:=prog) hI;GZ w1 b sb eb tb sc ec tc vs (hI.bu h) hB L_)) ?_))
 rintro vr O' ⟨N,rfl,mm,m9,rfl,rfl,Mb,tG⟩
 refine au (xE 0 underlying99 F F (fun Z0=>?_))
 refine TO.nl (aw ?_)
 refine cX (fun(left:List (Int×Nat)) ρ O=> ∃(pj:Option (Int×Nat)) (ms:List Nat),O=[nV KI VU mm Z0 m9 left pj,oI zG 98 [(.slice (aD zN) (n*l.n) (n*l.n)),(.slice (aD zM) (n*l.n) (n*l.n)),.int .u64 ((2^b.aP.length-1:Nat):Int)],aU zN (n*l.n) 22 1 (List.replicate (n*l.n) nS),aU zM (n*l.n) 96 1 (fe ms),oI fj 3 [(vI ((l.n:Nat):Int))],oI dI 29 (c_ l pb pc lb lc),oI dk 26 (bf b sb sc eb ec tb tc)]∧(∀q∈left,q∈m9)∧(left.map Prod.fst).Nodup∧ms.length=n*l.n∧(∀v,v<n*l.n→ms.getD v 0=if((v/l.n:Nat):Int)∈left.map Prod.fst then 0 else oG b.aP ((v/l.n:Nat):Int))∧cL [(0,(.agg (bf b sb sc eb ec tb tc).toArray)),(1,(.agg (c_ l pb pc lb lc).toArray)),(2,(.pointer (aD dk))),(3,(.pointer (aD dI))),(4,.bool false),(5,vI 0),(6,vI (cC b:Int)),(7,vI (dA b.vars l:Int)),(8,(.pointer (aD fj))),(9,(.pointer (aD zG))),(55,(.pointer (aD Z0)))] ρ) (fun left=>left.length) m9 ?_ ?_
 ·refine⟨none,List.replicate (n*l.n) 0,(by first|(simp only[List.map_replicate];done)|(simp only[List.map_replicate];rfl)),fun q hq=>hq,Mb.nd,by simp,fun s hs=>?_,(.of F)⟩
  rw[show(List.replicate (n*l.n) 0).getD s 0=0 by simp[hs]]
  split
  ·rfl
  ·rename_i BP;exact(Mb.out BP).symm
 rintro left ρ O ⟨pj,ms,rfl,mz,kO,DB,J0,hH⟩
 obtain⟨fy,rfl⟩:=hH.elim
 clear hH
 refine a8 (au (Ay (K:=KI) (V:=VU) 0 F F (fun tH=>?_) (fun lA le lB tH=>?_)))
 ·refine ad (bX _) ?_
  refine TO.ns (cK ?_)
  refine bA ?_
  refine ba (aB (bp 4 underlying3) (aS (aw ?_)))
  subst tH
  refine cV (O':=[oI zG 98 [(.slice (aD zN) (n*l.n) (n*l.n)),(.slice (aD zM) (n*l.n) (n*l.n)),.int .u64 ((2^b.aP.length-1:Nat):Int)],aU zN (n*l.n) 22 1 (List.replicate (n*l.n) nS),aU zM (n*l.n) 96 1 (fe ms),oI fj 3 [(vI ((l.n:Nat):Int))],oI dI 29 (c_ l pb pc lb lc),oI dk 26 (bf b sb sc eb ec tb tc)]) (aR [1,1,1,1,1,1]) ?_
  refine T.rI 3 (n*l.n) ?_
  refine cS (fun(i:Nat) ρ O=> ∃(qs:List Rec),O=([oI zG 98 [(.slice (aD zN) (n*l.n) (n*l.n)),(.slice (aD zM) (n*l.n) (n*l.n)),.int .u64 ((2^b.aP.length-1:Nat):Int)],aU zN (n*l.n) 22 1 (bW qs),aU zM (n*l.n) 96 1 (fe ms),oI fj 3 [(vI ((l.n:Nat):Int))],oI dI 29 (c_ l pb pc lb lc),oI dk 26 (bf b sb sc eb ec tb tc)]++(bQ 3 qs))∧i≤l.n∧jp (n*l.n) (qC b.ao l i 0) (5000*i) (nums qs)∧cL [(0,(.agg (bf b sb sc eb ec tb tc).toArray)),(1,(.agg (c_ l pb pc lb lc).toArray)),(2,(.pointer (aD dk))),(3,(.pointer (aD dI))),(4,.bool false),(5,vI 0),(6,vI (cC b:Int)),(7,vI (dA b.vars l:Int)),(8,(.pointer (aD fj))),(9,(.pointer (aD zG))),(75,(vI ((l.n:Nat):Int))),(76,vI (i:Int))] ρ) (fun i=>l.n-i) 0 ?_ ?_
  ·exact⟨List.replicate (n*l.n) ng,(by simp only[List.map_replicate];rfl),aG _,jp.start (fun u y _=>by rintro(⟨j,hj,_⟩|⟨e,he,_⟩);omega;simp at he) _,(.of F)⟩
  rintro i ρ O ⟨qs,rfl,hi,Mc,hH⟩
  obtain⟨fy,rfl⟩:=hH.elim
  clear hH
  refine aB cH (TO.ns (aH F (fun hc=>?_) (fun hc=>?_)))
  ·have aiU:i<l.n:=by omega
   refine aE (ba (aw (ba ?_)))
   have GG:l.at i<256:=xF Ma hL.p8 hL.l8 i
   refine aJ (aQ (au (bO bt (fun fK=>?_))))
   refine au (cE [(vI (i:Int))] 0 bt ?_)
   refine TO.ns ?_
   refine e6 [(0,0),(1,0),(2,0),(3,1),(4,2)] ?_
   refine am F (eg 6 underlying26 eF) (am F (eg 5 underlying29 dD) (am F (bp 0 underlying3) ?_))
   refine eH F F (dV Z1 (aK fun w1 hI=>(haveI:=Inv.tab (P:=prog) hI;atF w1 l pb lb pc lc (hI.la h2) hL Ma i (by omega))) ?_)
   rintro vr O' ⟨N,rfl,rfl,rfl⟩
   refine⟨dx [0,0,0,0,0,0,0] [oI fK 3 [(vI (i:Int))],oI zG 98 [(.slice (aD zN) (n*l.n) (n*l.n)),(.slice (aD zM) (n*l.n) (n*l.n)),.int .u64 ((2^b.aP.length-1:Nat):Int)],aU zN (n*l.n) 22 1 (bW qs),aU zM (n*l.n) 96 1 (fe ms),oI fj 3 [(vI ((l.n:Nat):Int))],oI dI 29 (c_ l pb pc lb lc),oI dk 26 (bf b sb sc eb ec tb tc)] (bQ 3 qs) F F,?_⟩
   refine cG F F (dV Z2 (aK fun w1 hI=>(haveI:=Inv.tab (P:=prog) hI;J1 w1 b sb eb tb sc ec tc vs (hI.bu h) hB (l.at i))) ?_)
   rintro vr O' ⟨N,rfl,bB,cB,rfl,rfl⟩
   refine cl ?_
   refine aw ?_
   refine T.rangeFunc (first:=[]) (fU:=[(.pointer (aD bB)),(.pointer (aD cB))]) F Z3 (fun yl yq Rh=>?_)
   refine cZ.mono (cZ.sub (O':=oI bB 26 (bf b sb sc eb ec tb tc)::oI cB 5 [(.int .u8 (l.at i:Int))]::(eL yl (lp yq none)::([oI fK 3 [(vI (i:Int))],oI zG 98 [(.slice (aD zN) (n*l.n) (n*l.n)),(.slice (aD zM) (n*l.n) (n*l.n)),.int .u64 ((2^b.aP.length-1:Nat):Int)],aU zN (n*l.n) 22 1 (bW qs),aU zM (n*l.n) 96 1 (fe ms),oI fj 3 [(vI ((l.n:Nat):Int))],oI dI 29 (c_ l pb pc lb lc),oI dk 26 (bf b sb sc eb ec tb tc)]++(bQ 3 qs)))) (dx [1,1,0,0,0,0,0,0,0,0] [eL yl (lp yq none),oI bB 26 (bf b sb sc eb ec tb tc),oI cB 5 [(.int .u8 (l.at i:Int))],oI fK 3 [(vI (i:Int))],oI zG 98 [(.slice (aD zN) (n*l.n) (n*l.n)),(.slice (aD zM) (n*l.n) (n*l.n)),.int .u64 ((2^b.aP.length-1:Nat):Int)],aU zN (n*l.n) 22 1 (bW qs),aU zM (n*l.n) 96 1 (fe ms),oI fj 3 [(vI ((l.n:Nat):Int))],oI dI 29 (c_ l pb pc lb lc),oI dk 26 (bf b sb sc eb ec tb tc)] (bQ 3 qs) F F) (Wo w b sb eb tb sc ec tc vs h hB bB cB (l.at i) GG (.func (.yield yl) #[] #[]) (fun k O=> ∃(kw:List Rec),O=eL yl (lp yq none)::([oI fK 3 [(vI (i:Int))],oI zG 98 [(.slice (aD zN) (n*l.n) (n*l.n)),(.slice (aD zM) (n*l.n) (n*l.n)),.int .u64 ((2^b.aP.length-1:Nat):Int)],aU zN (n*l.n) 22 1 (bW kw),aU zM (n*l.n) 96 1 (fe ms),oI fj 3 [(vI ((l.n:Nat):Int))],oI dI 29 (c_ l pb pc lb lc),oI dk 26 (bf b sb sc eb ec tb tc)]++(bQ 3 kw))∧jp (n*l.n) (qC b.ao l i k) (5000*i+k) (nums kw)) (fun _=>False) (fun k hk hm O ⟨kw,e,h9⟩=>⟨kw,e,(h9.same (fun u y _=>by rw[Av hk];exact⟨fun q=>q.elim id (fun p=>absurd p.1 hm),.inl⟩)).more (by omega)⟩) ?_ _ ?_)) ?_
   ·intro k hk O hmt hJ
    obtain⟨kw,rfl,Mv⟩:=hJ
    refine dS.yield Rh F F ?_
    obtain⟨u,hu,tC⟩: ∃u:Nat,b.ao[k].fr=(u:Int)∧u<n:=by
     have:=(hv.ed _ (ap hk)).1
     exact⟨b.ao[k].fr.toNat,by omega,by omega⟩
    obtain⟨t,ht,htn⟩: ∃t:Nat,b.ao[k].to=(t:Int)∧t<n:=by
     have:=(hv.ed _ (ap hk)).2
     exact⟨b.ao[k].to.toNat,by omega,by omega⟩
    have akP:=Mv.ql
    have huL:u*l.n+l.n≤n*l.n:=by have:=Nat.mul_le_mul_right l.n (show u+1≤n by omega);rwa[Nat.succ_mul]at this
    have htL:t*l.n+l.n≤n*l.n:=by have:=Nat.mul_le_mul_right l.n (show t+1≤n by omega);rwa[Nat.succ_mul]at this
    have Az:u*l.n+i<kw.length:=by omega
    have hrq:=Mv.rl Az
    have QQ:=La.nW Ma (i+1)
    refine aJ (au (bO fm (fun ig=>?_)))
    refine au (cE [vI b.ao[k].fr,vI b.ao[k].to,.int .u8 ((b.ao[k].pos:Nat):Int),.int .u8 ((b.ao[k].neg:Nat):Int)] 0 fm ?_)
    refine TO.nl (aw (aB (bY underlying106 bt) (ad (bH (bp 0 underlying3) (v':=vI ((u:Nat):Int)) (by show Value.int _ _=_;rw[hu])) (ad (bp 5 underlying3) (ad (jx (a:=u) (b:=l.n) F F (by omega)) (ad (bp 1 underlying3) (ad (bK (b:=i) ((u*l.n)) F F (by omega)) (ai ?_))))))))
    refine cV (BQ Az [oI ig 106 [vI b.ao[k].fr,vI b.ao[k].to,.int .u8 ((b.ao[k].pos:Nat):Int),.int .u8 ((b.ao[k].neg:Nat):Int)],oI fK 3 [(vI (i:Int))],oI zG 98 [(.slice (aD zN) (n*l.n) (n*l.n)),(.slice (aD zM) (n*l.n) (n*l.n)),.int .u64 ((2^b.aP.length-1:Nat):Int)],aU zN (n*l.n) 22 1 (bW kw),aU zM (n*l.n) 96 1 (fe ms),oI fj 3 [(vI ((l.n:Nat):Int))],oI dI 29 (c_ l pb pc lb lc),oI dk 26 (bf b sb sc eb ec tb tc)]) ?_
    refine T.ds [oI ig 106 [vI b.ao[k].fr,vI b.ao[k].to,.int .u8 ((b.ao[k].pos:Nat):Int),.int .u8 ((b.ao[k].neg:Nat):Int)],oI fK 3 [(vI (i:Int))],oI zG 98 [(.slice (aD zN) (n*l.n) (n*l.n)),(.slice (aD zM) (n*l.n) (n*l.n)),.int .u64 ((2^b.aP.length-1:Nat):Int)],aU zN (n*l.n) 22 1 (bW kw),aU zM (n*l.n) 96 1 (fe ms),oI fj 3 [(vI ((l.n:Nat):Int))],oI dI 29 (c_ l pb pc lb lc),oI dk 26 (bf b sb sc eb ec tb tc)] [(0,0),(1,0),(2,0),(3,0),(4,0),(5,0),(6,0),(7,0),(8,0),(9,0),(10,0),(11,0),(12,0),(13,0),(14,0),(15,1),(16,0),(17,1),(18,1),(19,0),(20,2)] (fu [1,1,1,1,1,1,1,1] [ak (kw[u*l.n+i].b) (kw[u*l.n+i].c) 3 1 (ints kw[u*l.n+i].xs),oI ig 106 [vI b.ao[k].fr,vI b.ao[k].to,.int .u8 ((b.ao[k].pos:Nat):Int),.int .u8 ((b.ao[k].neg:Nat):Int)],oI fK 3 [(vI (i:Int))],oI zG 98 [(.slice (aD zN) (n*l.n) (n*l.n)),(.slice (aD zM) (n*l.n) (n*l.n)),.int .u64 ((2^b.aP.length-1:Nat):Int)],aU zN (n*l.n) 22 1 (bW kw),aU zM (n*l.n) 96 1 (fe ms),oI fj 3 [(vI ((l.n:Nat):Int))],oI dI 29 (c_ l pb pc lb lc),oI dk 26 (bf b sb sc eb ec tb tc)] (bQ 3 (kw.eraseIdx (u*l.n+i))) F F) ?_
    refine am F (bY underlying98 dQ) (am F (bp 2 underlying24) (am F aC (am F (bY underlying98 dQ) (am F (bp 2 underlying24) (am F aC (am F (b8 (((u*l.n)+i)) underlying24 cf F F (bU 3)) (am F (dR underlying22 F F (bU 3) (tI Az)) (am F (bY underlying106 bt) (am F (bH (bp 0 underlying3) (v':=vI ((t:Nat):Int)) (by show Value.int _ _=_;rw[ht])) (am F (bp 5 underlying3) (am F (jx (a:=t) (b:=l.n) F F (by omega)) (am F (eg 6 underlying29 dD) (am F (bp 1 underlying3) (am F (bK (b:=1) i F F (by omega)) ?_))))))))))))))
    refine eH F F (dV Ug (aK fun w1 hI=>(haveI:=Inv.tab (P:=prog) hI;Mw w1 l pb lb pc lc (hI.la h2) hL (i+1) (by omega))) ?_)
    rintro vr O' ⟨N,rfl,rfl,rfl⟩
    refine⟨fu [1,1,1,1,1,1,1,1] [ak (kw[u*l.n+i].b) (kw[u*l.n+i].c) 3 1 (ints kw[u*l.n+i].xs),oI ig 106 [vI b.ao[k].fr,vI b.ao[k].to,.int .u8 ((b.ao[k].pos:Nat):Int),.int .u8 ((b.ao[k].neg:Nat):Int)],oI fK 3 [(vI (i:Int))],oI zG 98 [(.slice (aD zN) (n*l.n) (n*l.n)),(.slice (aD zM) (n*l.n) (n*l.n)),.int .u64 ((2^b.aP.length-1:Nat):Int)],aU zN (n*l.n) 22 1 (bW kw),aU zM (n*l.n) 96 1 (fe ms),oI fj 3 [(vI ((l.n:Nat):Int))],oI dI 29 (c_ l pb pc lb lc),oI dk 26 (bf b sb sc eb ec tb tc)] (bQ 3 (kw.eraseIdx (u*l.n+i))) F F,?_⟩
    refine am F (bK (b:=(l.ix (i+1))) ((t*l.n)) F F (by omega)) ?_
    refine eH F F (dv (v:=vI (((t*l.n)+(l.ix (i+1)):Nat):Int)) underlying22 bt F F F (fun mL=>⟨fu [2,2,2,2,2,2,2,2] [aU mL 1 3 1 [vI (((t*l.n)+(l.ix (i+1)):Nat):Int)],ak (kw[u*l.n+i].b) (kw[u*l.n+i].c) 3 1 (ints kw[u*l.n+i].xs),oI ig 106 [vI b.ao[k].fr,vI b.ao[k].to,.int .u8 ((b.ao[k].pos:Nat):Int),.int .u8 ((b.ao[k].neg:Nat):Int)],oI fK 3 [(vI (i:Int))],oI zG 98 [(.slice (aD zN) (n*l.n) (n*l.n)),(.slice (aD zM) (n*l.n) (n*l.n)),.int .u64 ((2^b.aP.length-1:Nat):Int)],aU zN (n*l.n) 22 1 (bW kw),aU zM (n*l.n) 96 1 (fe ms),oI fj 3 [(vI ((l.n:Nat):Int))],oI dI 29 (c_ l pb pc lb lc),oI dk 26 (bf b sb sc eb ec tb tc)] (bQ 3 (kw.eraseIdx (u*l.n+i))) F F,?_⟩))
    refine eH F F (dp 1 underlying22 underlying22 bt F F F F (by simp) (by decide) (Src.row (j:=0) F (by simp)) (by simp[fL]) (by omega) (by decide) (by decide) (fun gF c9=>⟨fu [2,2,2,2,2,2,2,2] [aU mL 1 3 1 [vI (((t*l.n)+(l.ix (i+1)):Nat):Int)],ak gF c9 3 1 ((ints kw[u*l.n+i].xs)++[vI (((t*l.n)+(l.ix (i+1)):Nat):Int)]),oI ig 106 [vI b.ao[k].fr,vI b.ao[k].to,.int .u8 ((b.ao[k].pos:Nat):Int),.int .u8 ((b.ao[k].neg:Nat):Int)],oI fK 3 [(vI (i:Int))],oI zG 98 [(.slice (aD zN) (n*l.n) (n*l.n)),(.slice (aD zM) (n*l.n) (n*l.n)),.int .u64 ((2^b.aP.length-1:Nat):Int)],aU zN (n*l.n) 22 1 (bW kw),aU zM (n*l.n) 96 1 (fe ms),oI fj 3 [(vI ((l.n:Nat):Int))],oI dI 29 (c_ l pb pc lb lc),oI dk 26 (bf b sb sc eb ec tb tc)] (bQ 3 (kw.eraseIdx (u*l.n+i))) F F,?_⟩))
    refine am F (b8 (((u*l.n)+i)) underlying24 cf F F (bU 3)) ?_
    refine cG F F (gw (v:=(.slice gF ((kw[u*l.n+i].xs.length)+1) c9)) (vs:=[(.slice gF ((kw[u*l.n+i].xs.length)+1) c9)]) (cs:=bW kw) (((u*l.n)+i)) 5 cf F F F F F (by simp) F (by first|(simp;omega)|(simp_all;omega)) ?_)
    refine eM (O':=([aU mL 1 3 1 [vI (((t*l.n)+(l.ix (i+1)):Nat):Int)],ak gF c9 3 1 ((ints kw[u*l.n+i].xs)++[vI (((t*l.n)+(l.ix (i+1)):Nat):Int)]),oI ig 106 [vI b.ao[k].fr,vI b.ao[k].to,.int .u8 ((b.ao[k].pos:Nat):Int),.int .u8 ((b.ao[k].neg:Nat):Int)],oI fK 3 [(vI (i:Int))],oI zG 98 [(.slice (aD zN) (n*l.n) (n*l.n)),(.slice (aD zM) (n*l.n) (n*l.n)),.int .u64 ((2^b.aP.length-1:Nat):Int)],aU zN (n*l.n) 22 1 (bW (kw.set (u*l.n+i) ⟨gF,c9,kw[u*l.n+i].xs++[((t*l.n+l.ix (i+1):Nat):Int)]⟩)),aU zM (n*l.n) 96 1 (fe ms),oI fj 3 [(vI ((l.n:Nat):Int))],oI dI 29 (c_ l pb pc lb lc),oI dk 26 (bf b sb sc eb ec tb tc)]++(bQ 3 (kw.eraseIdx (u*l.n+i))))) (by rw[show dq (bW kw) ((u*l.n)+i) [(.slice gF ((kw[u*l.n+i].xs.length)+1) c9)]=bW (kw.set (u*l.n+i) ⟨gF,c9,kw[u*l.n+i].xs++[((t*l.n+l.ix (i+1):Nat):Int)]⟩)from(by simp[dq,Rec.val])];exact bj (ay _)) ?_
    refine eM (O':=[ak gF c9 3 1 ((ints kw[u*l.n+i].xs)++[vI (((t*l.n)+(l.ix (i+1)):Nat):Int)]),oI fK 3 [(vI (i:Int))],oI zG 98 [(.slice (aD zN) (n*l.n) (n*l.n)),(.slice (aD zM) (n*l.n) (n*l.n)),.int .u64 ((2^b.aP.length-1:Nat):Int)],aU zN (n*l.n) 22 1 (bW (kw.set (u*l.n+i) ⟨gF,c9,kw[u*l.n+i].xs++[((t*l.n+l.ix (i+1):Nat):Int)]⟩)),aU zM (n*l.n) 96 1 (fe ms),oI fj 3 [(vI ((l.n:Nat):Int))],oI dI 29 (c_ l pb pc lb lc),oI dk 26 (bf b sb sc eb ec tb tc)]++(bQ 3 (kw.eraseIdx (u*l.n+i)))) (dx [1,2,2,2,2,2,2,2] [aU mL 1 3 1 [vI (((t*l.n)+(l.ix (i+1)):Nat):Int)],ak gF c9 3 1 ((ints kw[u*l.n+i].xs)++[vI (((t*l.n)+(l.ix (i+1)):Nat):Int)]),oI ig 106 [vI b.ao[k].fr,vI b.ao[k].to,.int .u8 ((b.ao[k].pos:Nat):Int),.int .u8 ((b.ao[k].neg:Nat):Int)],oI fK 3 [(vI (i:Int))],oI zG 98 [(.slice (aD zN) (n*l.n) (n*l.n)),(.slice (aD zM) (n*l.n) (n*l.n)),.int .u64 ((2^b.aP.length-1:Nat):Int)],aU zN (n*l.n) 22 1 (bW (kw.set (u*l.n+i) ⟨gF,c9,kw[u*l.n+i].xs++[((t*l.n+l.ix (i+1):Nat):Int)]⟩)),aU zM (n*l.n) 96 1 (fe ms),oI fj 3 [(vI ((l.n:Nat):Int))],oI dI 29 (c_ l pb pc lb lc),oI dk 26 (bf b sb sc eb ec tb tc)] (bQ 3 (kw.eraseIdx (u*l.n+i))) F F) ?_
    refine eM (O':=[oI fK 3 [(vI (i:Int))],oI zG 98 [(.slice (aD zN) (n*l.n) (n*l.n)),(.slice (aD zM) (n*l.n) (n*l.n)),.int .u64 ((2^b.aP.length-1:Nat):Int)],aU zN (n*l.n) 22 1 (bW (kw.set (u*l.n+i) ⟨gF,c9,kw[u*l.n+i].xs++[((t*l.n+l.ix (i+1):Nat):Int)]⟩)),aU zM (n*l.n) 96 1 (fe ms),oI fj 3 [(vI ((l.n:Nat):Int))],oI dI 29 (c_ l pb pc lb lc),oI dk 26 (bf b sb sc eb ec tb tc)]++(bQ 3 (kw.set (u*l.n+i) ⟨gF,c9,kw[u*l.n+i].xs++[((t*l.n+l.ix (i+1):Nat):Int)]⟩))) (G0 Az [oI fK 3 [(vI (i:Int))],oI zG 98 [(.slice (aD zN) (n*l.n) (n*l.n)),(.slice (aD zM) (n*l.n) (n*l.n)),.int .u64 ((2^b.aP.length-1:Nat):Int)],aU zN (n*l.n) 22 1 (bW (kw.set (u*l.n+i) ⟨gF,c9,kw[u*l.n+i].xs++[((t*l.n+l.ix (i+1):Nat):Int)]⟩)),aU zM (n*l.n) 96 1 (fe ms),oI fj 3 [(vI ((l.n:Nat):Int))],oI dI 29 (c_ l pb pc lb lc),oI dk 26 (bf b sb sc eb ec tb tc)] ⟨gF,c9,kw[u*l.n+i].xs++[((t*l.n+l.ix (i+1):Nat):Int)]⟩ (by simp)) ?_
    refine cl ?_
    exact .inl ⟨F,kw.set (u*l.n+i) ⟨gF,c9,kw[u*l.n+i].xs++[((t*l.n+l.ix (i+1):Nat):Int)]⟩,F,Mv.push Az _ (fun w9 y hw=>by
     rw[Av hk]
     have e1:b.ao[k].fr*(l.n:Int)=((u*l.n:Nat):Int):=by rw[hu,Int.natCast_mul]
     have e2:b.ao[k].to*(l.n:Int)=((t*l.n:Nat):Int):=by rw[ht,Int.natCast_mul]
     unfold DN;rw[e1,e2]
     constructor
     ·rintro(h9|⟨_,h9,h8⟩)
      ·exact .inl h9
      ·exact .inr ⟨by omega,by omega⟩
     ·rintro(h9|⟨h9,h8⟩)
      ·exact .inl h9
      ·exact .inr ⟨hmt,by omega,by omega⟩) _ _⟩
   ·exact⟨qs,F,Mc⟩
   rintro vr O' (⟨kw,rfl,Mv⟩|hF)
   rotate_left
   ·exact hF.elim
   refine⟨none,_,F,?_⟩
   refine aJ (ad (bK (b:=1) i F F (by omega)) (aS ?_))
   exact⟨i+1,by omega,([oI zG 98 [(.slice (aD zN) (n*l.n) (n*l.n)),(.slice (aD zM) (n*l.n) (n*l.n)),.int .u64 ((2^b.aP.length-1:Nat):Int)],aU zN (n*l.n) 22 1 (bW kw),aU zM (n*l.n) 96 1 (fe ms),oI fj 3 [(vI ((l.n:Nat):Int))],oI dI 29 (c_ l pb pc lb lc),oI dk 26 (bf b sb sc eb ec tb tc)]++(bQ 3 kw)),(dx [1,1,1,1,1,1] [oI fK 3 [(vI (i:Int))],oI zG 98 [(.slice (aD zN) (n*l.n) (n*l.n)),(.slice (aD zM) (n*l.n) (n*l.n)),.int .u64 ((2^b.aP.length-1:Nat):Int)],aU zN (n*l.n) 22 1 (bW kw),aU zM (n*l.n) 96 1 (fe ms),oI fj 3 [(vI ((l.n:Nat):Int))],oI dI 29 (c_ l pb pc lb lc),oI dk 26 (bf b sb sc eb ec tb tc)] (bQ 3 kw) F F),kw,F,by omega,(Mv.same (fun u y _=>JW)).more (by omega),(.of F)⟩
  have aiV: ¬i<l.n:=by omega
  refine bA ?_
  refine ba ?_
  have akQ:=DB
  have r_:i=l.n:=by omega
  subst r_
  have hg:qD b l (nums qs) ms:=⟨⟨5000*l.n,by omega,by rw[Rg];exact Mc⟩,by rw[Rg];exact DB,fun v DC=>by rw[J0 v (by rw[Rg]at DC;exact DC)];simp⟩
  refine aJ (ad (eg 0 underlying98 fY) ?_)
  refine TO.lc Uh (aK fun w1 hI=>(haveI:=Inv.tab (P:=prog) hI;(by
   have hL:=Ui w1 (aD zN) (aD zM) (n*l.n) (n*l.n) (bW qs) (nums qs) ms b.aP.length (hI.ga (mG 1)) (sH (E:=3) hI (fun q hq=>bl _ (List.mem_map.2 ⟨q,hq,F⟩))) (by rw[Mc.l];omega) (fun r hr=>by obtain⟨i,vM,rfl⟩:=List.mem_iff_getElem.1 hr;have h9:=Mc.b i;rw[getD_at vM]at h9;omega) (hg.ok hv Ma) (hI.ga (mG 2)) (by rw[DB,Mc.l]) hg.lt hv.m8
   rw[Mc.l,DB]at hL;exact hL))) ?_
  rintro vr O' ⟨N,rfl,GH,GI,kb2,kc2,ls,co,rfl,rfl,tJ,Ri,uT⟩
  refine az (bX _) (ad (bX _) (au (bO qG (fun uX=>?_))))
  refine au (cE [(.slice GH (n*l.n) GI)] 0 qG ?_)
  refine ai (ba ?_)
  have Wp:ls.length=n*l.n:=tJ
  refine aJ (ad (bY underlying26 cf) (ad (bp 8 underlying22) (ad (dZ) ?_)))
  have Uj:=cZ.under (A:=[oI uX 108 [(.slice GH (n*l.n) GI)],oI fj 3 [(vI ((l.n:Nat):Int))],ak GH GI 4 1 (bv ls)]) (B:=[]) (O:=([oI uX 108 [(.slice GH (n*l.n) GI)],ak GH GI 4 1 (bv ls),ak kb2 kc2 4 1 (bv co),oI zG 98 [(.slice (aD zN) (n*l.n) (n*l.n)),(.slice (aD zM) (n*l.n) (n*l.n)),.int .u64 ((2^b.aP.length-1:Nat):Int)],aU zN (n*l.n) 22 1 (bW qs),aU zM (n*l.n) 96 1 (fe ms),oI fj 3 [(vI ((l.n:Nat):Int))],oI dI 29 (c_ l pb pc lb lc),oI dk 26 (bf b sb sc eb ec tb tc)]++(bQ 3 qs))) ((oo w sb sc b.start [oI uX 108 [(.slice GH (n*l.n) GI)],oI fj 3 [(vI ((l.n:Nat):Int))],ak GH GI 4 1 (bv ls)] (bS h.st) (by have:=hB.st;omega) (.func (.func 46) #[] #[.pointer (aD uX),.pointer (aD fj)]) (fun s=>ls.getD (s.toNat*l.n) false) (fun s hs=>b_ (first:=[]) (args:=[vI s]) (fU:=[.pointer (aD uX),.pointer (aD fj)]) Z4 (by
   have h7:=hv.st s hs
   have h8:s.toNat*l.n+l.n≤n*l.n:=by have h9:=Nat.mul_le_mul_right l.n (show s.toNat+1≤n by omega);rwa[Nat.succ_mul]at h9
   have h9:=JY w uX fj GH GI l.n ls s h7.1 (by omega) (by omega)
   rw[Wp]at h9;exact h9)))) (fu [0,5,0] [oI uX 108 [(.slice GH (n*l.n) GI)],ak GH GI 4 1 (bv ls),ak kb2 kc2 4 1 (bv co),oI zG 98 [(.slice (aD zN) (n*l.n) (n*l.n)),(.slice (aD zM) (n*l.n) (n*l.n)),.int .u64 ((2^b.aP.length-1:Nat):Int)],aU zN (n*l.n) 22 1 (bW qs),aU zM (n*l.n) 96 1 (fe ms),oI fj 3 [(vI ((l.n:Nat):Int))],oI dI 29 (c_ l pb pc lb lc),oI dk 26 (bf b sb sc eb ec tb tc)] (bQ 3 qs) F F)
  refine TO.lc Mx Uj ?_
  clear Uj
  rintro vr O' ⟨A1,rfl,rfl,rfl⟩
  refine bh (bm ?_)
  refine fJ (.bool (b.start.any fun s=>ls.getD (s.toNat*l.n) false)) (vI 0) results10 F F ?_
  have hA:=Rc wY Wn (ls:=ls) (fun s hs=>by
   have h7:=hv.st s hs
   have h8:s.toNat*l.n+l.n≤n*l.n:=by have h9:=Nat.mul_le_mul_right l.n (show s.toNat+1≤n by omega);rwa[Nat.succ_mul]at h9
   exact(uT _ (by omega)).1.trans (hg.liv hv Ma _))
  exact⟨[],bj (aX _),by rw[hA];unfold DP;rw[aA wY,Wn];rfl,F⟩
 refine bF (bX _) (ba ?_)
 refine cJ ?_
 refine aE (aw (ba ?_))
 obtain⟨x,hx,Uk⟩: ∃x:Nat,le.1=(x:Int)∧x<n:=by
  obtain⟨S,hS,Wq⟩:=tG le (mz le (by rw[tH];simp))
  have:=hv.se S hS _ Wq
  exact⟨le.1.toNat,by omega,by omega⟩
 refine aJ (ad (xG (K:=KI) (V:=VU) F (mG 0)) (ad (bH (bX _) (v':=vI ((x:Nat):Int)) (by show Value.int _ _=_;rw[hx])) (ad (bX _) (bh (ai (aB (bp 4 underlying3) (aS (aw ?_))))))))
 refine cX (fun(i:Nat) ρ O=> ∃(QR:List Nat),O=[nV KI VU mm Z0 m9 (lA++lB) (some le),oI zG 98 [(.slice (aD zN) (n*l.n) (n*l.n)),(.slice (aD zM) (n*l.n) (n*l.n)),.int .u64 ((2^b.aP.length-1:Nat):Int)],aU zN (n*l.n) 22 1 (List.replicate (n*l.n) nS),aU zM (n*l.n) 96 1 (fe QR),oI fj 3 [(vI ((l.n:Nat):Int))],oI dI 29 (c_ l pb pc lb lc),oI dk 26 (bf b sb sc eb ec tb tc)]∧i≤l.n∧QR.length=n*l.n∧(∀v,v<n*l.n→QR.getD v 0=if v/l.n=x∧v%l.n<i then le.2 else ms.getD v 0)∧cL [(0,(.agg (bf b sb sc eb ec tb tc).toArray)),(1,(.agg (c_ l pb pc lb lc).toArray)),(2,(.pointer (aD dk))),(3,(.pointer (aD dI))),(4,.bool false),(5,vI 0),(6,vI (cC b:Int)),(7,vI (dA b.vars l:Int)),(8,(.pointer (aD fj))),(9,(.pointer (aD zG))),(10,vI ((x:Nat):Int)),(11,.int .u64 ((le.2:Nat):Int)),(55,(.pointer (aD Z0))),(61,(vI ((l.n:Nat):Int))),(62,vI (i:Int))] ρ) (fun i=>l.n-i) 0 ?_ ?_
 ·exact⟨ms,F,aG _,DB,(fun v DC=>by rw[ar (by omega)]),(.of F)⟩
 rintro i ρ O ⟨QR,rfl,hi,My,Z5,hH⟩
 obtain⟨fy,rfl⟩:=hH.elim
 clear hH
 refine aB cH (TO.ns (aH F (fun hc=>?_) (fun hc=>?_)))
 ·have Z6:i<l.n:=by omega
  have hpm:=GX My Z6 Uk Z5
  refine aE (ba (aw (bI (ai (aJ (ad (bY underlying98 IA) (ad (bp 1 underlying95) (az (bp 4 underlying3) (ad (jx (a:=x) (b:=l.n) F F (by have:=Nat.mul_le_mul_right l.n (Nat.le_of_lt Uk);omega)) (az (bK (b:=i) ((x*l.n)) F F (by omega)) (az (b8 (((x*l.n)+i)) underlying95 jg F F (bU 3)) (au (gw (v:=.int .u64 ((le.2:Nat):Int)) (vs:=[(.int .u64 ((le.2:Nat):Int))]) (cs:=fe QR) (((x*l.n)+i)) 3 jg F F F F F (by simp) F (by first|(simp;omega)|(simp_all;omega)) ?_)))))))))))))
  refine cY (O':=[nV KI VU mm Z0 m9 (lA++lB) (some le),oI zG 98 [(.slice (aD zN) (n*l.n) (n*l.n)),(.slice (aD zM) (n*l.n) (n*l.n)),.int .u64 ((2^b.aP.length-1:Nat):Int)],aU zN (n*l.n) 22 1 (List.replicate (n*l.n) nS),aU zM (n*l.n) 96 1 (fe (QR.set (x*l.n+i) le.2)),oI fj 3 [(vI ((l.n:Nat):Int))],oI dI 29 (c_ l pb pc lb lc),oI dk 26 (bf b sb sc eb ec tb tc)]) (by rw[show dq (fe QR) ((x*l.n)+i) [(.int .u64 ((le.2:Nat):Int))]=fe (QR.set (x*l.n+i) le.2)from(by simp[dq])];exact bj (ay _)) ?_
  refine TO.nl (aJ (ad (bK (b:=1) i F F (by omega)) (aS ?_)))
  exact⟨i+1,by omega,QR.set (x*l.n+i) le.2,F,by omega,by simp[My],hpm.2,(.of F)⟩
 have aiX: ¬i<l.n:=by omega
 refine bA ?_
 subst tH
 exact⟨lA++lB,by simp,some le,QR,F,fun q hq=>mz q (by rcases List.mem_append.1 hq with h|h<;>simp[h]),AA kO,My,fun v DC=>by
  rw[Z5 v DC,←DQ kO (Mb.val (mz le (by simp))) hx (J0 v DC)]
  have:=Nat.mod_lt v hL0
  by_cases e:v/l.n=x
  ·rw[aA ⟨e,by omega⟩,aA e]
  ·rw[ar (fun q=>e q.1),ar e],(.of F)⟩
end Go.Proofs.YtjcophmajgcehaaGreatDoor
