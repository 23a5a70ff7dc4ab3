/- Contracts of functions of the program, and what they answer. Conditions: those each theorem names. -/
import Derived.Test.YtgdbfideeeegmaaGreatDoorA1
import Derived.Shelf.Strconv.Itoa3
import Derived.Lib.AppendIntMem
import Derived.Lib.TrailingZeros
import Derived.Maps.RangeRun
import Derived.Test.YtgdbfideeeegmaaGreatDoorRows
import Derived.Test.YtgdbfideeeegmaaGreatDoorA0
set_option linter.unusedSectionVars false
set_option linter.unusedSimpArgs false
set_option linter.unusedVariables false
set_option linter.unnecessarySimpa false
set_option maxHeartbeats 8000000
set_option maxRecDepth 20000
namespace Go.Lx
theorem oX {α:Type} {p:List α→Prop} (h0:p []) (h1: ∀l x,p l→p (l++[x])): ∀l,p l:=fun l=>by
 rw[←List.reverse_reverse l]
 generalize l.reverse=m
 induction m with
 |nil=>exact h0
 |cons a m ih=>rw[List.reverse_cons];exact h1 _ _ ih
abbrev eh (d:cU):Nat:=2^d.vars.toNat
def runN (d:cU) (s:Nat) (w:List Nat):Nat:=w.foldl (fm d) s
def dr (d:cU) (s:Nat):Bool:=d.aY.getD s false
def dst (d:cU) (s t:Nat) (w:List Nat):Prop:=dr d (runN d s w)≠dr d (runN d t w)
def Wd (d:cU) (w:List Nat):Prop:= ∀x∈w,x<eh d
def code (w:List Nat):Nat:=w.foldl (fun a x=>a*65+(x+1)) 0
theorem fG (d:cU) (s:Nat) (w:List Nat) (x:Nat):runN d s (w++[x])=fm d (runN d s w) x:=by simp[runN]
end Go.Lx

namespace Go.Lx
open Go.RowKit
section
variable {P:Program} {r:Option Nat} {base:World} {n:Nat} {ρ:Env} {O:List Item} {Q:kP}
theorem Jy {x:Code} (K:Env→List Item→Prop) (h:T P r base n x (Jl K Q) ρ O) (hk: ∀ρ O,K ρ O→Q .normal ρ O):T P r base n x Q ρ O:=
 h.mono fun e ρ O h=>by cases e<;>first|exact hk ρ O h|exact h
variable {t:TypeId} {p:String} {af:Array Edge} {g:Option (Nat×Bool)} {dst:Option Nat}
theorem BT {x y:Operand} {T E U:TypeId} {b:Option Addr} {n c:Nat} (hu:P.underlying T=some (.slice E)) (hx:ev ρ x=.slice b n c) (hy:ev ρ y=.slice none 0 0):QT P base ⟨dst,.binOp .eql T x y U,t,p,af,g⟩ ρ O (.bool b.isNone):=fun w _=>by
 have h:(Op.equal T (.slice b n c) (.slice none 0 0)).run P w=.ok b.isNone w:=by
  show(Op.equalIn (9999+1) T _ _).run P w=_
  rw[Op.equalIn]
  cases b<;>simp[bG hu]
 simp[execOp,hx,hy,eqGuard,binOp,h]
theorem qi {x:Nat} (h:x<256):IntKind.u8.wrap (x:Int)=(x:Int):=by
 simp only[IntKind.wrap,IntKind.signed,IntKind.bits]
 simp
 omega
end
end Go.Lx

namespace Go.Lx
open Go.RowKit
theorem lU {d:cU} (hv:Val d) {s:Nat} (hs:s<d.next.length): ∀w,Wd d w→runN d s w<d.next.length:=by
 refine oX (fun _=>hs) ?_
 intro w x ih hw
 rw[fG]
 exact(hv.gY (ih fun y hy=>hw y (by simp[hy])) (hw x (by simp))).1
end Go.Lx
namespace Go.Lx
open Go.RowKit
end Go.Lx

namespace Go.Lx
section
variable {α β:Type} [DecidableEq α] [DecidableEq β]
def wq (l:List α):List Nat:=l.map fun k=>ix k (dd l)
theorem sE (l:List α):(wq l).length=l.length:=ar _
theorem lq {l:List α} {i:Nat} {a:α} (h:l[i]? =some a):(wq l)[i]? =some (ix a (dd l)):=by
 rw[wq,bq,h];rfl
theorem Gv {l:List α} {i j:Nat} {a b:α} (hi:l[i]? =some a) (hj:l[j]? =some b):(wq l)[i]? =(wq l)[j]? ↔a=b:=by
 rw[lq hi,lq hj]
 refine⟨fun h=>TS (j5.2 (bQ hi)) (j5.2 (bQ hj)) (df h),fun h=>h▸rfl⟩
theorem kK {l:List α} {a:α} (h:a∈l):dd (l++[a])=dd l:=by
 rw[Be,add,aO (j5.2 h)]
theorem kL {l:List α} {a:α} (h:a∉l):dd (l++[a])=dd l++[a]:=by
 rw[Be,add,az (fun hh=>h (j5.1 hh))]
theorem Ic: ∀zs:List (α×β),(∀p∈zs,∀q∈zs,p.1=q.1↔p.2=q.2)→
  (dd (zs.map Prod.fst)).length=(dd (zs.map Prod.snd)).length∧ ∀p∈zs,ix p.1 (dd (zs.map Prod.fst))=ix p.2 (dd (zs.map Prod.snd)):=by
 refine oX (fun _=>⟨F,fun p hp=>by simp at hp⟩) ?_
 intro zs z ih h
 obtain⟨h1,h2⟩:=ih fun p hp q hq=>h p (aT _ hp) q (aT _ hq)
 have hz:z∈zs++[z]:=by simp
 have vG:z.1∈zs.map Prod.fst↔z.2∈zs.map Prod.snd:=by
  constructor
  ·intro hm
   obtain⟨p,hp,e⟩:=List.mem_map.1 hm
   exact List.mem_map.2 ⟨p,hp,((h p (aT _ hp) z hz).1 e)⟩
  ·intro hm
   obtain⟨p,hp,e⟩:=List.mem_map.1 hm
   exact List.mem_map.2 ⟨p,hp,((h p (aT _ hp) z hz).2 e)⟩
 simp only[bm,cJ,fQ]
 by_cases hm:z.1∈zs.map Prod.fst
 ·rw[kK hm,kK (vG.1 hm)]
  refine⟨h1,fun p hp=>?_⟩
  rcases List.mem_append.1 hp with hp|hp
  ·exact h2 p hp
  ·simp only[c_]at hp
   subst hp
   obtain⟨q,hq,e⟩:=List.mem_map.1 hm
   have e2:=(h q (aT _ hq) p hz).1 e
   rw[←e,←e2];exact h2 q hq
 ·have BI:z.2∉zs.map Prod.snd:=fun hh=>hm (vG.2 hh)
  rw[kL hm,kL BI]
  refine⟨by simp[h1],fun p hp=>?_⟩
  rcases List.mem_append.1 hp with hp|hp
  ·rw[lr (j5.2 (List.mem_map_of_mem hp)),lr (j5.2 (List.mem_map_of_mem hp))]
   exact h2 p hp
  ·simp only[c_]at hp
   subst hp
   rw[fS (fun hh=>hm (j5.1 hh)),fS (fun hh=>BI (j5.1 hh)),h1]
   simp[ix]
theorem LL: ∀zs:List (α×β),(∀p∈zs,∀q∈zs,p.1=q.1→p.2=q.2)→
  (dd (zs.map Prod.snd)).length≤(dd (zs.map Prod.fst)).length∧((dd (zs.map Prod.snd)).length=(dd (zs.map Prod.fst)).length→ ∀p∈zs,∀q∈zs,p.2=q.2→p.1=q.1):=by
 refine oX (fun _=>⟨bF _,fun _ p hp=>by simp at hp⟩) ?_
 intro zs z ih h
 obtain⟨h1,h2⟩:=ih fun p hp q hq=>h p (aT _ hp) q (aT _ hq)
 have hz:z∈zs++[z]:=by simp
 simp only[bm,cJ,fQ]
 by_cases hm:z.1∈zs.map Prod.fst
 ·obtain⟨q,hq,e⟩:=List.mem_map.1 hm
  have e2:=h q (aT _ hq) z hz e
  have BI:z.2∈zs.map Prod.snd:=List.mem_map.2 ⟨q,hq,e2⟩
  rw[kK hm,kK BI]
  refine⟨h1,fun he p hp p' Uo ee=>?_⟩
  have Um:=h2 he
  have lift: ∀p∈zs++[z],∃p0∈zs,p0.1=p.1∧p0.2=p.2:=fun p hp=>by
   rcases List.mem_append.1 hp with hp|hp
   ·exact⟨p,hp,F,F⟩
   ·simp only[c_]at hp;subst hp;exact⟨q,hq,e,e2⟩
  obtain⟨a,ha,a1,a2⟩:=lift p hp
  obtain⟨b,hb,b1,b2⟩:=lift p' Uo
  rw[←a1,←b1];exact Um a ha b hb (by rw[a2,b2,ee])
 ·rw[kL hm]
  by_cases BI:z.2∈zs.map Prod.snd
  ·rw[kK BI]
   refine⟨by simp;omega,fun he=>?_⟩
   simp at he;omega
  ·rw[kL BI]
   refine⟨by simp;omega,fun he p hp p' Uo ee=>?_⟩
   have Um:=h2 (by simpa using he)
   rcases List.mem_append.1 hp with gp|gp
   ·rcases List.mem_append.1 Uo with TT|TT
    ·exact Um p gp p' TT ee
    ·have e:=List.mem_singleton.1 TT
     exact(BI (List.mem_map.2 ⟨p,gp,by rw[ee,e]⟩)).elim
   ·have e:=List.mem_singleton.1 gp
    rcases List.mem_append.1 Uo with TT|TT
    ·exact(BI (List.mem_map.2 ⟨p',TT,by rw[←ee,e]⟩)).elim
    ·rw[e,List.mem_singleton.1 TT]
theorem nu: ∀ {l:List α} {m:List β},l.length=m.length→(l.zip m).map Prod.fst=l∧(l.zip m).map Prod.snd=m
 | [],[],_=>⟨F,F⟩
 |a::l,b::m,h=>by
  obtain⟨h1,h2⟩:=nu (l:=l) (m:=m) (by simpa using h)
  simp[h1,h2]
theorem Bf {l:List α} {m:List β} (h:l.length=m.length) {p:α×β} (hp:p∈l.zip m): ∃i:Nat,l[i]? =some p.1∧m[i]? =some p.2:=by
 obtain⟨i,hi⟩:=List.getElem?_of_mem hp
 refine⟨i,?_,?_⟩
 ·have:=ax (Option.map Prod.fst) hi
  rw[←bq,(nu h).1]at this;simpa using this
 ·have:=ax (Option.map Prod.snd) hi
  rw[←bq,(nu h).2]at this;simpa using this
theorem zW {l:List α} {m:List β} (hl:l.length=m.length) (h: ∀(i j:Nat) (a b:α) (a' b':β),l[i]? =some a→l[j]? =some b→m[i]? =some a'→m[j]? =some b'→(a=b↔a'=b')):wq l=wq m∧(dd l).length=(dd m).length:=by
 have h0:=Ic (l.zip m) fun p hp q hq=>by
  obtain⟨i,a1,a2⟩:=Bf hl hp
  obtain⟨j,b1,b2⟩:=Bf hl hq
  exact h i j _ _ _ _ a1 b1 a2 b2
 rw[(nu hl).1,(nu hl).2]at h0
 refine⟨?_,h0.1⟩
 apply List.ext_getElem?
 intro i
 by_cases hi:i<l.length
 ·have Hj:i<m.length:=by omega
  rw[lq (ap hi),lq (ap Hj)]
  have:(l[i],m[i])∈l.zip m:=by
   apply bQ (i:=i)
   rw[List.getElem?_zip_eq_some]
   exact⟨ap hi,ap Hj⟩
  exact ax some (h0.2 _ this)
 ·rw[bZ (by rw[sE];omega),bZ (by rw[sE];omega)]
end
def M7 (d:cU):Nat→Nat→Nat→Bool
 |0,s,t=>dr d s !=dr d t
 |k+1,s,t=>M7 d k s t||(List.range (eh d)).any fun x=>M7 d k (fm d s x) (fm d t x)
theorem tL (d:cU): ∀k s t,M7 d k s t=true↔ ∃u,Wd d u∧u.length≤k∧dst d s t u
 |0,s,t=>by
  simp only[M7,bne_iff_ne]
  constructor
  ·exact fun h=>⟨[],fun x hx=>by simp at hx,bF _,h⟩
  ·rintro⟨u,_,hl,h⟩
   have:u=[]:=List.eq_nil_of_length_eq_zero (by omega)
   subst this;exact h
 |k+1,s,t=>by
  simp only[M7,Bool.or_eq_true,dc,eY,tL d k]
  constructor
  ·rintro(⟨u,h1,h2,h3⟩|⟨x,hx,u,h1,h2,h3⟩)
   ·exact⟨u,h1,by omega,h3⟩
   ·refine⟨x::u,fun y hy=>?_,by simp;omega,h3⟩
    rcases List.mem_cons.1 hy with rfl|hy
    ·exact hx
    ·exact h1 y hy
  ·rintro⟨u,h1,h2,h3⟩
   cases u with
   |nil=>exact .inl ⟨[],h1,by simp,h3⟩
   |cons x u=>exact .inr ⟨x,h1 x (by simp),u,fun y hy=>h1 y (by simp[hy]),by simpa using h2,h3⟩
theorem nR {d:cU} (hv:Val d) {s x:Nat} (hs:s<d.next.length) (hx:x<eh d):fm d s x<d.next.length:=(hv.gY hs hx).1
theorem LM {d:cU} (hv:Val d) {cs:List Nat} (n_:cs.length=d.next.length) {s t:Nat} (hs:s<d.next.length) (ht:t<d.next.length):
  xX d cs s=xX d cs t↔cs.getD s 0=cs.getD t 0∧ ∀x,x<eh d→cs.getD (fm d s x) 0=cs.getD (fm d t x) 0:=by
 have hls:(d.next.getD s []).length=eh d:=by simp[hs];exact hv.len _ (aQ hs)
 have gn:(d.next.getD t []).length=eh d:=by simp[ht];exact hv.len _ (aQ ht)
 have row: ∀s,(d.next.getD s []).length=eh d→ ∀x,x<eh d→(gd cs (d.next.getD s []))[x]? =some (cs.getD (fm d s x) 0):=by
  intro s hl x hx
  have sU:x<(d.next.getD s []).length:=by omega
  have e:(d.next.getD s []).getD x 0=(d.next.getD s [])[x]:=by rw[av,ap sU];rfl
  rw[gd,bq,ap sU,fm,e]
  rfl
 constructor
 ·intro h
  obtain⟨h1,h2⟩:=JC h
  refine⟨h1,fun x hx=>?_⟩
  have a:=row s hls x hx
  rw[h2,row t gn x hx]at a
  exact(df a).symm
 ·rintro⟨h1,h2⟩
  unfold xX
  rw[h1]
  congr 1
  apply List.ext_getElem?
  intro x
  by_cases hx:x<eh d
  ·rw[row s hls x hx,row t gn x hx,h2 x hx]
  ·rw[bZ (by rw[iL];omega),bZ (by rw[iL];omega)]
theorem vy (d:cU) (cs:List Nat):iT d cs=wq (jd d cs):=rfl
theorem mU {d:cU} {cs:List Nat} {s:Nat} (hs:s<d.next.length):(jd d cs)[s]? =some (xX d cs s):=by simp[jd,hs]
theorem sF {d:cU} {s:Nat} (hs:s<d.next.length):(mv d)[s]? =some (if dr d s≠dr d 0 then 1 else 0):=by
 simp[mv,hs,dr]
theorem km {l:List Nat} {i a:Nat} (h:l[i]? =some a):l.getD i 0=a:=by rw[av,h];rfl
theorem pD {d:cU} (hv:Val d): ∀k s t,s<d.next.length→t<d.next.length→((ie d k).getD s 0=(ie d k).getD t 0↔M7 d k s t=false)
 |0,s,t,hs,ht=>by
  rw[ie,km (sF hs),km (sF ht),M7]
  cases dr d s<;>cases dr d t<;>cases dr d 0<;>simp
 |k+1,s,t,hs,ht=>by
  have ih:=pD hv k
  rw[ie,vy]
  have h1:=Gv (mU (cs:=ie d k) hs) (mU (cs:=ie d k) ht)
  have e1:(wq (jd d (ie d k))).getD s 0=(wq (jd d (ie d k))).getD t 0↔(wq (jd d (ie d k)))[s]? =(wq (jd d (ie d k)))[t]? :=by
   rw[lq (mU hs),lq (mU ht),km (lq (mU hs)),km (lq (mU ht))]
   simp
  rw[e1,h1,LM hv (fu d k) hs ht,ih s t hs ht,M7,Bool.or_eq_false_iff]
  refine and_congr Iff.rfl ?_
  rw[List.any_eq_false]
  constructor
  ·intro h x hx
   have sU:=List.mem_range.1 hx
   rw[Bool.not_eq_true,←ih _ _ (nR hv hs sU) (nR hv ht sU)]
   exact h x sU
  ·intro h x hx
   rw[ih _ _ (nR hv hs hx) (nR hv ht hx),←Bool.not_eq_true]
   exact h x (List.mem_range.2 hx)
end Go.Lx

namespace Go.Lx
section
variable {α:Type} [DecidableEq α]
theorem OX (l:List α):wq (wq l)=wq l:=by
 refine(zW (by rw[sE]) ?_).1
 intro i j a b a' b' hi hj vE y7
 have:=Gv vE y7
 rw[hi,hj]at this
 simpa using this
def first (p:Nat→Bool):Nat→Nat
 |0=>0
 |n+1=>if first p n<n then first p n else if p n then n else n+1
theorem LN (p:Nat→Bool): ∀n,first p n≤n
 |0=>bF _
 |n+1=>by
  have:=LN p n
  rw[first]
  split
  ·omega
  ·split<;>omega
end
theorem vz: ∀(l:List Nat),(∀x∈l,x≤1)→l.foldl add [0,1]=[0,1]∧(l.foldl add [0]=[0]∧1∉l∨l.foldl add [0]=[0,1]∧1∈l)
 | [],_=>by simp
 |x::l,h=>by
  obtain⟨h1,h2⟩:=vz l fun y hy=>h y (by simp[hy])
  have hx:=h x (by simp)
  have:x=0∨x=1:=by omega
  rcases this with rfl|rfl
  ·refine⟨?_,?_⟩
   ·rw[cS,show add [0,1] 0=[0,1] by decide];exact h1
   ·rw[cS,show add [0] 0=[0] by decide]
    rcases h2 with⟨a,b⟩|⟨a,b⟩
    ·exact .inl ⟨a,by simp[b]⟩
    ·exact .inr ⟨a,by simp[b]⟩
  ·refine⟨?_,?_⟩
   ·rw[cS,show add [0,1] 1=[0,1] by decide];exact h1
   ·rw[cS,show add [0] 1=[0,1] by decide]
    exact .inr ⟨h1,by simp⟩
theorem XK {l:List Nat} (h0:l.headD 0=0) (h: ∀x∈l,x≤1):wq l=l:=by
 cases l with
 |nil=>rfl
 |cons a l=>
  simp at h0
  subst h0
  have e:dd (0::l)=l.foldl add [0]:=by simp[dd,add]
  have h2:=(vz l fun y hy=>h y (by simp[hy])).2
  rw[wq,e]
  conv=>rhs;rw[←List.map_id (0::l)]
  apply List.map_congr_left
  intro x hx
  have OF:=h x hx
  have:x=0∨x=1:=by omega
  rcases this with rfl|rfl
  ·rcases h2 with⟨a,b⟩|⟨a,b⟩<;>rw[a]<;>decide
  ·rcases h2 with⟨a,b⟩|⟨a,b⟩
   ·simp at hx;exact absurd hx b
   ·rw[a];decide
theorem pE (d:cU): ∀k,wq (ie d k)=ie d k
 |0=>by
  refine XK ?_ ?_
  ·rw[ie]
   cases e:(mv d)with
   |nil=>rfl
   |cons a l=>
    have:(mv d)[0]? =some a:=by rw[e];rfl
    have hn:0<d.next.length:=by
     have:(mv d).length=d.next.length:=by simp[mv]
     rw[e]at this;simp at this;omega
    rw[sF hn]at this
    simpa using this.symm
  ·intro x hx
   obtain⟨s,_,rfl⟩:=List.mem_map.1 hx
   split<;>omega
 |k+1=>by rw[ie,vy,OX]
theorem Df {d:cU} {k m s t:Nat} (h:k≤m) (hd:M7 d k s t=true):M7 d m s t=true:=by
 obtain⟨u,h1,h2,h3⟩:=(tL d k s t).1 hd
 exact(tL d m s t).2 ⟨u,h1,by omega,h3⟩
theorem Gw {d:cU} {k s:Nat} (hs:s<d.next.length):(ie d k)[s]? =some ((ie d k).getD s 0):=by
 have:s<(ie d k).length:=by rw[fu];exact hs
 rw[av,ap this];rfl
def Bg (d:cU) (k:Nat):Nat:=(dd (ie d k)).length
theorem Ie {d:cU} (hv:Val d) (k:Nat):Bg d k≤Bg d (k+1)∧(Bg d k=Bg d (k+1)→ie d (k+1)=ie d k):=by
 have hl:(ie d (k+1)).length=(ie d k).length:=by rw[fu,fu]
 have at_: ∀p∈(ie d (k+1)).zip (ie d k),∃s,s<d.next.length∧(ie d (k+1)).getD s 0=p.1∧(ie d k).getD s 0=p.2:=fun p hp=>by
  obtain⟨i,a1,a2⟩:=Bf hl hp
  refine⟨i,?_,km a1,km a2⟩
  have:=(List.getElem?_eq_some_iff.1 a2).1
  rwa[fu]at this
 have h:=LL ((ie d (k+1)).zip (ie d k)) fun p hp q hq e=>by
  obtain⟨s,hs,a1,a2⟩:=at_ p hp
  obtain⟨t,ht,b1,b2⟩:=at_ q hq
  rw[←a1,←b1,pD hv _ s t hs ht]at e
  rw[←a2,←b2,pD hv _ s t hs ht,←Bool.not_eq_true]
  intro hh
  rw[Df (Nat.le_succ k) hh]at e;cases e
 rw[(nu hl).1,(nu hl).2]at h
 refine⟨h.1,fun e=>?_⟩
 have h2:=h.2 e
 rw[←pE d (k+1),←pE d k]
 refine(zW hl ?_).1
 intro i j a b a' b' hi hj vE y7
 have hm: ∀ {i a a'},(ie d (k+1))[i]? =some a→(ie d k)[i]? =some a'→(a,a')∈(ie d (k+1)).zip (ie d k):=fun {i a a'} x y=>by
  apply bQ (i:=i)
  rw[List.getElem?_zip_eq_some]
  exact⟨x,y⟩
 refine⟨fun e=>?_,h2 _ (hm hi vE) _ (hm hj y7)⟩
 have D5:i<d.next.length:=by have:=(List.getElem?_eq_some_iff.1 vE).1;rwa[fu]at this
 have hjn:j<d.next.length:=by have:=(List.getElem?_eq_some_iff.1 y7).1;rwa[fu]at this
 rw[←km hi,←km hj,pD hv _ i j D5 hjn]at e
 rw[←km vE,←km y7,pD hv _ i j D5 hjn,←Bool.not_eq_true]
 intro hh
 rw[Df (Nat.le_succ k) hh]at e;cases e
theorem OY (d:cU) (k:Nat):Bg d k≤d.next.length:=by
 have:=uJ (ie d k)
 rw[fu]at this;exact this
theorem LO {d:cU} (hv:Val d) (k:Nat):0<Bg d k:=by
 have h:(ie d k).getD 0 0∈dd (ie d k):=j5.2 (bQ (Gw hv.n0))
 exact List.length_pos_of_mem h
theorem Dg {d:cU} (hv:Val d): ∀k,(∃j,j<k∧ie d (j+1)=ie d j)∨k+1≤Bg d k
 |0=>.inr (LO hv 0)
 |k+1=>by
  rcases Dg hv k with⟨j,hj,h⟩|h
  ·exact .inl ⟨j,by omega,h⟩
  ·obtain⟨h1,h2⟩:=Ie hv k
   by_cases e:Bg d k=Bg d (k+1)
   ·exact .inl ⟨k,by omega,h2 e⟩
   ·exact .inr (by omega)
theorem LP {d:cU} (hv:Val d): ∀m,d.next.length≤m→ie d m=ie d d.next.length:=by
 intro m hm
 rcases Dg hv d.next.length with⟨j,hj,h⟩|h
 ·have hs:iT d (ie d j)=ie d j:=by rw[←ie];exact h
  rw[sG hs m (by omega),sG hs d.next.length (by omega)]
 ·have:=OY d d.next.length;omega
theorem OZ {d:cU} (hv:Val d) {s t:Nat} (hs:s<d.next.length) (ht:t<d.next.length):
  (ie d d.next.length).getD s 0=(ie d d.next.length).getD t 0↔ ∀u,Wd d u→ ¬dst d s t u:=by
 constructor
 ·intro h u hu hd
  have h2:(ie d (max u.length d.next.length)).getD s 0=(ie d (max u.length d.next.length)).getD t 0:=by rw[LP hv _ (by omega)];exact h
  rw[pD hv _ s t hs ht,←Bool.not_eq_true]at h2
  exact h2 ((tL d _ s t).2 ⟨u,hu,by omega,hd⟩)
 ·intro h
  rw[pD hv _ s t hs ht,←Bool.not_eq_true]
  intro hh
  obtain⟨u,h1,_,h3⟩:=(tL d _ s t).1 hh
  exact h u h1 h3
theorem tM {d:cU} {α:Type} [DecidableEq α] {l:List α} {cs:List Nat} (hl:l.length=d.next.length) (wM:cs=wq l): ∀k,k≤d.next.length→(iS d cs k).1.length=(dd (l.take k)).length
 |0,_=>by simp[iS,dd]
 |k+1,hk=>by
  have hk':k<l.length:=by omega
  have ih:=tM hl wM k (by omega)
  have hg:=ap hk'
  have hc:cs.getD k 0=ix l[k] (dd l):=by rw[wM];exact km (lq hg)
  have hp:dd (l.take k)<+:dd l:=by
   conv=>rhs;rw[←List.take_append_drop k l]
   rw[uK];exact gH _ _
  rw[iS,ih,hc,aH hk']
  by_cases hm:l[k]∈l.take k
  ·rw[kK hm,ig hp (j5.2 hm),aO (rO (j5.2 hm)),ih]
  ·have zl:dd (l.take k)++[l[k]]<+:dd l:=by
    rw[←kL hm,←aH hk']
    conv=>rhs;rw[←List.take_append_drop (k+1) l]
    rw[uK];exact gH _ _
   have e:ix l[k] (dd l)=(dd (l.take k)).length:=by
    rw[ig zl (by simp),fS (fun hh=>hm (j5.1 hh))];simp[ix]
   rw[kL hm,e,az (Nat.lt_irrefl _)]
   simp[ih]
theorem ry {d:cU} (cs:List Nat): ∀k,∀r∈(iS d cs k).1,∃s,s<k∧r=(gd cs (d.next.getD s [])).map fun c:Nat=>(c:Int)
 |0,r,h=>by simp[iS]at h
 |k+1,r,h=>by
  rw[iS]at h
  split at h
  ·obtain⟨s,hs,e⟩:=ry cs k r h;exact⟨s,by omega,e⟩
  ·rcases List.mem_append.1 h with h|h
   ·obtain⟨s,hs,e⟩:=ry cs k r h;exact⟨s,by omega,e⟩
   ·exact⟨k,by omega,List.mem_singleton.1 h⟩
theorem Gx {d:cU} {cs:List Nat} (hl:cs.length=d.next.length) (hc:wq cs=cs):(quo d cs).next.length=(dd cs).length:=by
 show(iS d cs d.next.length).1.length=_
 rw[tM (l:=cs) hl hc.symm _ (bF _),bw (by omega)]
theorem LQ {cs:List Nat} (hc:wq cs=cs) {i c:Nat} (h:cs[i]? =some c):c<(dd cs).length:=by
 have h2:=lq h
 rw[hc,h]at h2
 have:=rO (j5.2 (bQ h))
 have e:=df h2
 omega
theorem Gy {d:cU} (hv:Val d) {cs:List Nat} (hl:cs.length=d.next.length) (hc:wq cs=cs):Val (quo d cs):=by
 have hq:=Gx hl hc
 have gn: ∀i,i<d.next.length→cs.getD i 0<(dd cs).length:=fun i hi=>by
  have vE:i<cs.length:=by omega
  have:=ap vE
  rw[km this];exact LQ hc this
 have h1:=(kU d cs d.next.length)
 refine⟨hv.v0,hv.v6,?_,?_,?_,?_,?_,?_⟩
 ·rw[hq];have:=gn 0 hv.n0;omega
 ·exact h1.1.symm
 ·exact Int.natCast_nonneg _
 ·rw[hq]
  show((cs.getD d.start.toNat 0:Nat):Int)<_
  have:=gn d.start.toNat (by have:=hv.s0;have:=hv.s1;omega)
  omega
 ·intro r hr
  obtain⟨s,hs,rfl⟩:=ry cs _ r hr
  rw[ar,iL]
  simp[hs]
  exact hv.len _ (aQ hs)
 ·intro r hr x hx
  rw[hq]
  obtain⟨s,hs,rfl⟩:=ry cs _ r hr
  obtain⟨c,PN,rfl⟩:=List.mem_map.1 hx
  refine⟨Int.natCast_nonneg _,?_⟩
  obtain⟨to,tH,rfl⟩:=List.mem_map.1 PN
  simp[hs]at tH
  have:=hv.ok _ (aQ hs) to tH
  have:=gn to.toNat (by omega)
  omega
theorem If {d:cU} (hv:Valid d) {cs:List Nat} (hl:cs.length=d.next.length) (hc:wq cs=cs):Valid (quo d cs):=
 ⟨Gy hv hl hc,by have:=(kU d cs d.next.length).2;have:=hv.n4;show(iS d cs d.next.length).1.length≤_;omega⟩
theorem O0 {d:cU} (hv:Val d) (k:Nat):Val (quo d (ie d k))∧(quo d (ie d k)).next.length≤d.next.length:=
 ⟨Gy hv (fu d k) (pE d k),(kU d _ _).2⟩
theorem Gz {d:cU} (hv:Valid d) (k:Nat):Valid (quo d (ie d k))∧(quo d (ie d k)).next.length≤d.next.length:=
 ⟨If hv (fu d k) (pE d k),(kU d _ _).2⟩
end Go.Lx

namespace Go.Lx
open Go.RowKit
end Go.Lx

namespace Go.Lx
open Go.RowKit
theorem mz {n:Nat}: ∀(l ks:List Nat),ks.Nodup→(∀k∈ks,k<n)→(∀k∈l,k<n)→(l.foldl add ks).Nodup∧ ∀k∈l.foldl add ks,k<n
 | [],ks,h1,h2,_=>⟨h1,h2⟩
 |a::l,ks,h1,h2,h3=>mz l (add ks a) (mT h1) (fun k hk=>(rv.1 hk).elim (h2 k) fun e=>e▸h3 a (by simp)) fun k hk=>h3 k (by simp[hk])
theorem Pq {d:cU} (hv:Val d) {o:Nat} (ho:o<d.next.length): ∀t∈mN d o,t<d.next.length:=fun t ht=>by
 obtain⟨x,hx,rfl⟩:=List.mem_map.1 ht
 exact(hv.gY ho (List.mem_range.1 hx)).1
theorem vX {d:cU} (hv:Val d): ∀i,(c8 d i).Nodup∧ ∀o∈c8 d i,o<d.next.length
 |0=>by
  refine⟨by simp[c8],fun o ho=>?_⟩
  simp only[c8,c_]at ho
  have:=hv.s0;have:=hv.s1;omega
 |i+1=>by
  obtain⟨h1,h2⟩:=vX hv i
  rw[c8]
  split
  ·rename_i hi
   refine mz _ _ h1 h2 (Pq hv (h2 _ ?_))
   rw[av,ap hi]
   exact aQ hi
  ·exact⟨h1,h2⟩
theorem x6 {d:cU} (hv:Val d) (i:Nat):(c8 d i).length≤d.next.length:=eT (vX hv i).1 (vX hv i).2
theorem ug {d:cU} {i o:Nat} (h:(c8 d i)[i]? =some o):c8 d (i+1)=(mN d o).foldl add (c8 d i):=by
 have hi:=(List.getElem?_eq_some_iff.1 h).1
 rw[c8,aO hi,av,h];rfl
def kV (d:cU) (i o x:Nat):List Nat:=((List.range x).map (fm d o)).foldl add (c8 d i)
theorem uS (d:cU) (i o x:Nat):kV d i o (x+1)=add (kV d i o x) (fm d o x):=ja _ _ _
theorem ue {d:cU} (hv:Val d):(order d).length≤d.next.length:=x6 hv _
theorem x5 {d:cU} (hv:Val d): ∃N,N≤d.next.length∧(c8 d N).length=N∧(∀j,j<N→j<(c8 d j).length):=by
 have step: ∀k,(∃N,N≤k∧(c8 d N).length=N∧ ∀j,j<N→j<(c8 d j).length)∨((∀j,j<k→j<(c8 d j).length)∧k≤(c8 d k).length):=by
  intro k
  induction k with
  |zero=>exact .inr ⟨fun j hj=>absurd hj (by omega),bn _⟩
  |succ k ih=>
   rcases ih with⟨N,h1,h2⟩|⟨h1,h2⟩
   ·exact .inl ⟨N,by omega,h2⟩
   ·by_cases e:(c8 d k).length=k
    ·exact .inl ⟨k,by omega,e,h1⟩
    ·refine .inr ⟨fun j hj=>?_,?_⟩
     ·by_cases ej:j=k
      ·subst ej;omega
      ·exact h1 j (by omega)
     ·have hi:k<(c8 d k).length:=by omega
      rw[ug (ap hi)]
      have:=(gH (mN d (c8 d k)[k]) (c8 d k)).length_le
      omega
 rcases step d.next.length with h|⟨h1,h2⟩
 ·exact h
 ·exact⟨d.next.length,bF _,by have:=x6 hv d.next.length;omega,h1⟩
theorem jG (d:cU): ∀(i m:Nat),i≤m→c8 d i<+:c8 d m:=by
 intro i m h
 induction h with
 |refl=>exact List.prefix_refl _
 | @step m _ ih=>
  refine ih.trans ?_
  rw[c8]
  split
  ·exact gH _ _
  ·exact List.prefix_refl _
theorem tO {d:cU} (hv:Val d): ∀o∈order d,∀t∈mN d o,t∈order d:=by
 obtain⟨N,hN,hl,hj⟩:=x5 hv
 have e:=pZ hl hN
 intro o ho t ht
 rw[e]at ho⊢
 obtain⟨j,YJ⟩:=List.getElem?_of_mem ho
 have hjl:=(List.getElem?_eq_some_iff.1 YJ).1
 have MU:=hj j (by omega)
 have hp:=jG d j N (by omega)
 have aaV:(c8 d j)[j]? =some o:=by
  obtain⟨r,hr⟩:=hp
  rw[←hr,bH MU]at YJ
  exact YJ
 have zl:=jG d (j+1) N (by omega)
 refine zl.subset ?_
 rw[ug aaV]
 exact(eC _ _).2 (.inr ht)
theorem Dq (d:cU) (o:Nat):(mN d o).length=2^d.vars.toNat:=by simp[mN]
theorem x3 {d:cU} {o x:Nat} (h:x<2^d.vars.toNat):(mN d o)[x]? =some (fm d o x):=by simp[mN,h]
def rW (d:cU) (o:Nat):List Nat:=(mN d o).map fun t=>ix t (order d)
theorem nZ (d:cU) (o:Nat):(rW d o).length=2^d.vars.toNat:=by simp[rW,mN]
theorem DY (d:cU):(ei d).next=(order d).map fun o=>(rW d o).map fun x:Nat=>(x:Int):=by
 simp[ei,rW,Function.comp_def]
end Go.Lx

namespace Go.Lx
end Go.Lx

namespace Go.Lx
open Go.RowKit
theorem fO {P:Program} {base:World} {f:FuncId} {args:List Value} {O:List Item} {R:Value→List Item→Prop} (E:TypeId) (k:Nat) (h:bW P base f args O R):bW P base f args O (fun v O'=> ∃O2,O'=aq none 0 E k []::O2∧R v O2):=
 fun w M hI=>(h w M hI).mono fun _ _ ⟨v,O',h1,h2,h3⟩=>⟨v,_,h1,h2.eX E k,O',F,h3⟩
theorem Al {P:Program} {base:World} {f:FuncId} {args:List Value} {R:Value→List Item→Prop} (h:bW P base f args [] R):bW P base f args [] (fun v O'=>O'=[]∧ ∃O2,R v O2):=
 fun w M hI=>(h w M hI).mono fun _ _ ⟨v,O',h1,h2,h3⟩=>⟨v,[],h1,by simpa using h2.kn (cj (List.sublist_append_right O' M)),F,O',h3⟩
theorem Na {α:Type} {p:α→Prop} {a:α} {l:List α} (h1:p a) (h2: ∀q∈l,p q): ∀q∈a::l,p q:=fun q h=>by
 rcases List.mem_cons.1 h with rfl|h
 ·exact h1
 ·exact h2 q h
def js (d:cU):cU:=ei (quo d (ie d d.next.length))
def BA (d:cU):cU:=if dD d=0 then js d else⟨0,0,[],[]⟩
end Go.Lx

namespace Go.Lx
open Go.RowKit Go.Sort
def PV:List Int:=Lib.deBruijn64tab.map fun n:Nat=>(n:Int)
class dE (P:Program) (base:World):Prop where
 tab: ∀w,Below base.heap.size base w→Lib.TabIs P w "internal/strconv.uint64pow10" .u64 Lib.pow10Tab
 tz:P.globalNamed "math/bits.deBruijn64tab" =none∨ ∀w,Below base.heap.size base w→Lib.TabIs P w "math/bits.deBruijn64tab" .u8 PV
theorem dE.of {P:Program} {w:World} (h:Lib.TabIs P w "internal/strconv.uint64pow10" .u64 Lib.pow10Tab) (h2:P.globalNamed "math/bits.deBruijn64tab" =none∨Lib.TabIs P w "math/bits.deBruijn64tab" .u8 PV):dE P w:=⟨fun w' hb=>Lib.tabBelow_of_tabIs h w' hb,h2.imp id fun h w' hb=>Lib.tabBelow_of_tabIs h w' hb⟩
theorem dE.is {P:Program} {w:World} (h:dE P w):Lib.TabIs P w "internal/strconv.uint64pow10" .u64 Lib.pow10Tab:=h.tab w (Below.refl _ _)
theorem Inv.tab {P:Program} {base:World} {O:List Item} {w:World} (hI:Inv base O w) [t:dE P base]:dE P w:=.of (t.tab w hI.below) (t.tz.imp id fun h=>h w hI.below)
theorem Inv.grow {base:World} {O:List Item} {w:World} (h:Inv base O w) (k:Nat) (os:Array Obj):Inv base O (Go.Sort.grow (w.drewN k) os):=by
 refine Inv.new (N:=[]) h F F F ?_ ?_ (by simp) (by simp) (by simp)
 ·show w.heap.size≤(w.heap++os).size
  simp
 ·intro b hb
  show(w.heap++os)[b]? =w.heap[b]?
  rw[Array.getElem?_append_left hb]
theorem bW.drop {P:Program} {base:World} {f:FuncId} {args:List Value} {O:List Item} {R R':Value→List Item→Prop} (h:bW P base f args O R) (hr: ∀v O',R v O'→ ∃yj,Sub yj O'∧R' v yj):bW P base f args O R':=
 fun w M hI=>(h w M hI).mono fun _ _ ⟨v,O',h1,h2,h3⟩=>let⟨yj,hs,h4⟩:=hr v O' h3;⟨v,yj,h1,h2.kn hs.pG,h4⟩
theorem nX {P:Program} {W:World} {x:String×DataW Unit} {rest:List (String×DataW Unit)} {ps:List MemPlace} (h:DataW.LaidVars P W (x::rest) ps): ∃q,DataW.LaidVars P W rest q:=by
 obtain⟨g',t',cs,gq,p,q,Vd,Hs,Ve,hd,hr,_⟩:=h
 exact⟨q,hr⟩
theorem rJ {P:Program} {W:World} {name:String} {k:IntKind} {zs:List Int} {D:DataW Unit} {rest:List (String×DataW Unit)} {ps:List MemPlace} {g:Nat} {t e:TypeId} {n:Nat} (hD:D=Lib.tabData k zs)
  (hg:P.globalNamed name=some g) (hty:(P.globals[g]?).map (·.type)=some t) (ht:P.underlying t=some (.array n e)) (he:P.underlying e=some (.int k)) (Yu:P.cellsOf e=1) (hct:P.cellsOf t=n)
  (h:DataW.LaidVars P W ((name,D)::rest) ps):Lib.TabIs P W name k zs:=by
 subst hD
 obtain⟨g',t',cs,gq,p,q,Vd,Hs,Ve,hd,_,_⟩:=h
 obtain rfl:=df (hg.symm.trans Vd)
 obtain rfl:=df (hty.symm.trans Hs)
 unfold Lib.TabIs
 rw[Ve,←Lib.cells_of_tab ht he Yu hct hd]
def Zm (n:Nat) (cs:Array Value):Prop:= ∀j (h:j<(di (Lib.decDigits n)).length),cs[j]? =some (di (Lib.decDigits n))[j]
theorem NA {P:Program} {f:FuncId} {base:World} {b T n:Nat} {Z:Array Value} (hZ: ∀j,j<24→Z[j]? =some (.int .u8 0)) (Vf:1≤n) (hn:n<1000000000000)
  (hc: ∀(lD off cap u:Nat) (d:Array UInt8) (w:World),Holds (fun(b:UInt8)=>Value.int .u8 (b.toNat:Int)) w lD off d→u<10^d.size→u<18446744073709551616→d.size<4611686018427387904→
   Calls P f #[.slice (some ⟨lD,off,none⟩) d.size cap,.int .u64 u] w fun e w'=>e=.returned (.tuple #[])∧ ∃(n v':Nat) (dk:Array UInt8),w'=(putRow (fun(b:UInt8)=>Value.int .u8 (b.toNat:Int)) w lD off dk).drewN n∧Lib.FmtInv d.size u 0 v' dk):
  bW P base f [.slice (some ⟨b,0,none⟩) (Lib.nDigits n) 24,.int .u64 (n:Int)] [dF b (.cells Z T (0,0))] (fun v O'=>v=.tuple #[]∧ ∃cs,O'=[dF b (.cells cs T (0,0))]∧Zm n cs):=by
 intro w M hI
 have hb:w.heap[b]? =some (.cells Z T (0,0)):=hI.holds _ (List.mem_cons_self ..)
 have lJ:Lib.nDigits n≤20:=by have:=Lib.numDigits_eq n Vf (by omega);split at this<;>omega
 have hH:Holds (fun(b:UInt8)=>Value.int .u8 (b.toNat:Int)) w b 0 (Array.replicate (Lib.nDigits n) 0):=fun j hj=>by
  have y7:j<Lib.nDigits n:=by simpa using hj
  refine⟨?_,?_⟩
  ·rw[getElem!_pos _ j hj]
   simp[World.cell?,hb,hZ j (by omega)]
  ·simp[World.frozen?,hb]
 have:=hc b 0 24 n (Array.replicate (Lib.nDigits n) 0) w hH (by rw[Array.size_replicate];exact Lib.lt_pow_nDigits n) (by omega) (by rw[Array.size_replicate];omega)
 rw[Array.size_replicate]at this
 refine this.mono ?_
 rintro e w' ⟨rfl,k,v',dk,rfl,hF⟩
 obtain⟨D,hD⟩: ∃D,D=putCells (fun(b:UInt8)=>Value.int .u8 (b.toNat:Int)) 0 dk Z:=⟨_,F⟩
 have IM:(putRow (fun(b:UInt8)=>Value.int .u8 (b.toNat:Int)) w b 0 dk).heap[b]? =some (.cells D T (0,0)):=by
  show(w.heap.modify b _)[b]? =_
  rw[Array.getElem?_modify,aO F,hb,hD];rfl
 have ho: ∀x,x≠b→(putRow (fun(b:UInt8)=>Value.int .u8 (b.toNat:Int)) w b 0 dk).heap[x]? =w.heap[x]? :=fun x hx=>by
  show(w.heap.modify b _)[x]? =_
  rw[Array.getElem?_modify,az (fun e=>hx e.symm)]
 have h1: ∀j,j<dk.size→(putRow (fun(b:UInt8)=>Value.int .u8 (b.toNat:Int)) w b 0 dk).cell? ⟨b,0+j,none⟩=some (.int .u8 (dk[j]!.toNat:Int)):=fun j hj=>cell?_putRow _ w b 0 _ dk hH (by rw[hF.size,Array.size_replicate]) j hj
 have hs:(putRow (fun(b:UInt8)=>Value.int .u8 (b.toNat:Int)) w b 0 dk).heap.size=w.heap.size:=by simp
 have e1:(putRow (fun(b:UInt8)=>Value.int .u8 (b.toNat:Int)) w b 0 dk).os=w.os:=rfl
 have e2:(putRow (fun(b:UInt8)=>Value.int .u8 (b.toNat:Int)) w b 0 dk).tape=w.tape:=rfl
 have e3:(putRow (fun(b:UInt8)=>Value.int .u8 (b.toNat:Int)) w b 0 dk).output=w.output:=rfl
 generalize putRow (fun(b:UInt8)=>Value.int .u8 (b.toNat:Int)) w b 0 dk=w1 at*
 have U_:Inv base ([dF b (.cells D T (0,0))]++M) w1:=by
  refine hI.rY (i:=0) (it:=dF b (.cells Z T (0,0))) (Rj:=dF b (.cells D T (0,0))) F e1 e2 e3 (by omega) ?_ IM (fun x hx=>.inl hx) (by simp[dF])
  intro x hx v_
  exact ho x (fun e=>v_ (by simp[dF,e]))
 refine⟨_,[dF b (.cells D T (0,0))],F,U_.same F F F F,F,D,F,?_⟩
 ·intro j hj
  have y7:j<(Lib.decDigits n).length:=by simpa[di]using hj
  have si:j<dk.size:=by rw[hF.size];rwa[Lib.decDigits_length]at y7
  have h3:D[j]? =some (.int .u8 (dk[j]!.toNat:Int)):=by have:=h1 j si;simpa[World.cell?,IM]using this
  rw[h3,←Lib.row_is_numeral hF j y7]
  simp[di]
section
variable {P:Program} {r:Option Nat} {base:World} {n:Nat} {ρ:Env} {O:List Item} {dst:Option Nat} {d:Nat} {t:TypeId} {p:String} {af:Array Edge} {g:Option (Nat×Bool)} {K:Env→List Item→Prop}
theorem BW {T E:TypeId} {x y:Operand} {b m h gQ:Nat} {z:Value} (hu:P.underlying T=some (.array m E)) (hi:fP P E z 1 gQ) (hx:ev ρ x=.pointer (some ⟨b,0,none⟩)) (hy:ev ρ y=.int .i64 (h:Int)) (hh:h≤m) (h0:1≤h):
  QT P base ⟨dst,.slice T x none (some y) none,t,p,af,g⟩ ρ O (.slice (some ⟨b,0,none⟩) h m):=fun w hI=>by
 have e1:(h:Int)≤(m:Int):=by omega
 have e2:(0:Int)≤(h:Int):=by omega
 simp[execOp,Instr.sliceAt,Instr.sureAddr,hx,hy,bG hu,bX hi,Instr.sliceBounds,Instr.sliceBound,asIntOf,e1,e2,qY,hh]
theorem Hw {T U E A:TypeId} {b:Option Addr} {m c l ca k gQ:Nat} {x y:Operand} {z:Value} {cs new:List Value} {arr:Array Value} (i j:Nat)
  (hu:P.underlying T=some (.slice E)) (Nu:P.underlying U=some (.slice E)) (hi:fP P E z 1 gQ) (hz:z.cells.size=1)
  (hx:ev ρ x=.slice b m c) (hy:ev ρ y=.slice (some ⟨k,0,none⟩) l ca) (hO:O[j]? =some (aq b c E 1 cs)) (hl:cs.length=m) (hs:new.length=l)
  (hA:O[i]? =some (dF k (.cells arr A (0,0)))) (hn': ∀q (h:q<new.length),arr[q]? =some new[q]) (vK:(new.all fa)=true)
  (sR:(m+l)*gQ≤70368744177664) (PL:gQ≤1000000) (Ho:0<gQ)
  (h: ∀b' c',K (o6 ρ d (.slice b' (m+l) c')) (O.set j (aq b' c' E 1 (cs++new)))) (hn:Nat.blt d n=true:=by rfl):
  LT P r base n ⟨some d,.call ⟨.builtin .append,#[x,y],#[T,U]⟩,t,p,af,g⟩ ρ O K:=
 ji hn fun w M hI=>by
  have Rz:Src P base (O++M) 1 l (.slice (some ⟨k,0,none⟩) l ca) new:=⟨by omega,fun w=>by simp[Builtin.lenOf],fun w hI=>iW (fun q hq=>⟨⟨k,0,none⟩,F,F,by
   have hb:w.heap[k]? =some (.cells arr A (0,0)):=hI.holds _ (bQ (mZ hA))
   simp[World.cell?,hb,hn' q hq]⟩) (by omega) (fun e=>by cases e)⟩
  obtain⟨b',c',w',hr,n5⟩:=se (ty:=t) hu Nu (.inl ⟨_,F⟩) hi hz (mZ hO) (by simpa using hl) (by decide) Rz vK sR PL Ho hI
  rw[o9 hO]at n5
  refine⟨_,w',_,?_,n5,h b' c'⟩
  simp[execOp,resolve,hx,hy,invoke,builtin,hr]
end
end Go.Lx

namespace Go.Lx
open Go.RowKit
section
variable {P:Program} {r:Option Nat} {base:World} {n:Nat} {ρ:Env} {O:List Item} {K':Env→List Item→Prop} {d:Nat} {t:TypeId} {p:String} {af:Array Edge} {g:Option (Nat×Bool)}
end
end Go.Lx

namespace Go.Lx
open Go.RowKit
section
variable {P:Program} {base:World} {ρ:Env} {O:List Item} {dst:Option Nat} {t:TypeId} {p:String} {af:Array Edge} {g:Option (Nat×Bool)}
theorem nI {x:Nat} (h:x<2^64):IntKind.u64.wrap (x:Int)=(x:Int):=by
 simp only[IntKind.wrap,IntKind.signed,IntKind.bits]
 simp
 omega
inductive UK:IntKind→Prop
 |u8:UK .u8
 |u64:UK .u64
theorem UK.wrap {k:IntKind} (hk:UK k) {x:Nat} (h:x<2^k.bits):k.wrap (x:Int)=(x:Int):=by
 cases hk
 ·exact qi (by simpa[IntKind.bits]using h)
 ·exact nI (by simpa[IntKind.bits]using h)
theorem RD {x y:Operand} {T U:TypeId} {k:IntKind} {a b:Nat} (hk:UK k) (hx:ev ρ x=.int k (a:Int)) (hy:ev ρ y=.int k (b:Int)) (ha:a<2^k.bits) (hb:b<2^k.bits):QT P base ⟨dst,.binOp .or T x y U,t,p,af,g⟩ ρ O (.int k ((a|||b:Nat):Int)):=fun w _=>by
 have:=hk.wrap (Nat.or_lt_two_pow ha hb)
 simp[execOp,hx,hy,eqGuard,binOp,Op.intBits,Nat.mod_eq_of_lt ha,Nat.mod_eq_of_lt hb,this]
theorem FD {x y:Operand} {T U:TypeId} {k:IntKind} {a b:Nat} (hk:UK k) (hx:ev ρ x=.int k (a:Int)) (hy:ev ρ y=.int k (b:Int)) (ha:a<2^k.bits) (hb:b<2^k.bits):QT P base ⟨dst,.binOp .and T x y U,t,p,af,g⟩ ρ O (.int k ((a&&&b:Nat):Int)):=fun w _=>by
 have:=hk.wrap (jL (Nat.and_le_left (n:=a) (m:=b)) ha)
 simp[execOp,hx,hy,eqGuard,binOp,Op.intBits,Nat.mod_eq_of_lt ha,Nat.mod_eq_of_lt hb,this]
theorem RE {x y:Operand} {T U:TypeId} {k k':IntKind} {a b:Nat} (hk:UK k) (hx:ev ρ x=.int k (a:Int)) (hy:ev ρ y=.int k' (b:Int)) (hb:b≤k.bits) (h:a*2^b<2^k.bits):QT P base ⟨dst,.binOp .shl T x y U,t,p,af,g⟩ ρ O (.int k ((a*2^b:Nat):Int)):=fun w _=>by
 have h0: ¬(b:Int)<0:=by omega
 have h1:min (b:Int).toNat k.bits=b:=by rw[Int.toNat_natCast];exact Nat.min_eq_left hb
 have h2:k.wrap ((a:Int)*2^b)=((a*2^b:Nat):Int):=by
  have:=hk.wrap h
  rw[←this];congr 1
 simp only[execOp,hx,hy,eqGuard,binOp,Op.shift,h0,if_false,h1,h2]
 simp
theorem Jz {x y:Operand} {T U:TypeId} {k:IntKind} {a b:Nat} (hk:UK k) (hx:ev ρ x=.int k (a:Int)) (hy:ev ρ y=.int k (b:Int)) (ha:a<2^k.bits) (hb:b≤a):QT P base ⟨dst,.binOp .sub T x y U,t,p,af,g⟩ ρ O (.int k ((a-b:Nat):Int)):=by
 have h:=PO (P:=P) (base:=base) (O:=O) (dst:=dst) (t:=t) (p:=p) (af:=af) (g:=g) (T:=T) (U:=U) hx hy
 rw[←Int.natCast_sub hb,hk.wrap (by omega)]at h
 exact h
theorem dy {x y:Operand} {T U:TypeId} {a b:Nat} (hx:ev ρ x=.int .i64 (a:Int)) (hy:ev ρ y=.int .i64 (b:Int)) (h:a+b≤9223372036854775807):QT P base ⟨dst,.binOp .add T x y U,t,p,af,g⟩ ρ O (.int .i64 ((a+b:Nat):Int)):=by
 have:=dL (P:=P) (base:=base) (O:=O) (dst:=dst) (t:=t) (p:=p) (af:=af) (g:=g) (T:=T) (U:=U) hx hy (by omega)
 rwa[←Int.natCast_add]at this
theorem kZ {x y:Operand} {T U:TypeId} {a b:Nat} (hx:ev ρ x=.int .i64 (a:Int)) (hy:ev ρ y=.int .i64 (b:Int)) (h:b≤a) (ha:a≤9223372036854775807):QT P base ⟨dst,.binOp .sub T x y U,t,p,af,g⟩ ρ O (.int .i64 ((a-b:Nat):Int)):=by
 have:=fH (P:=P) (base:=base) (O:=O) (dst:=dst) (t:=t) (p:=p) (af:=af) (g:=g) (T:=T) (U:=U) hx hy (by omega)
 rwa[←Int.natCast_sub h]at this
def BU (b:Option Addr) (c lo k:Nat):Option Addr:=if c=lo then b else b.map (·.add (lo*k))
theorem Hu (b:Option Addr) (c k:Nat):BU b c 0 k=b:=by
 unfold BU
 split
 ·rfl
 ·rw[Nat.zero_mul];cases b with
  |none=>rfl
  |some a=>simp[Addr.add]
theorem FE {x:Operand} {T E:TypeId} {b:Option Addr} {n c k gQ lo hi:Nat} {z:Value} {yl yh:Option Operand} {kl kh:IntKind} (hu:P.underlying T=some (.slice E)) (vE:fP P E z k gQ) (hx:ev ρ x=.slice b n c)
  (hl: ∀y,yl=some y→ev ρ y=.int kl (lo:Int)) (Hp:yl=none→lo=0) (hh: ∀y,yh=some y→ev ρ y=.int kh (hi:Int)) (hh0:yh=none→hi=n) (h1:lo≤hi) (h2:hi≤c):
  QT P base ⟨dst,.slice T x yl yh none,t,p,af,g⟩ ρ O (.slice (BU b c lo k) (hi-lo) (c-lo)):=fun w _=>by
 have e1:(lo:Int)≤(hi:Int):=by omega
 have e2:(hi:Int)≤(c:Int):=by omega
 have e0:(0:Int)≤(lo:Int):=by omega
 have e3:(0:Int)≤(hi:Int):=by omega
 unfold BU
 have ed:c-lo=0↔c=lo:=by omega
 cases yl with
 |none=>
  obtain rfl:=Hp F
  cases yh with
  |none=>
   obtain rfl:=hh0 F
   by_cases yu:c=0
   ·simp[execOp,Instr.sliceAt,Instr.slice,hx,bG hu,bX vE,Instr.sliceBounds,yu]
   ·simp[execOp,Instr.sliceAt,Instr.slice,hx,bG hu,bX vE,Instr.sliceBounds,yu]
  |some y=>
   have:=hh y F
   by_cases yu:c=0
   ·simp[execOp,Instr.sliceAt,Instr.slice,hx,this,bG hu,bX vE,Instr.sliceBounds,Instr.sliceBound,asIntOf,e2,e3,yu,h2]
    omega
   ·simp[execOp,Instr.sliceAt,Instr.slice,hx,this,bG hu,bX vE,Instr.sliceBounds,Instr.sliceBound,asIntOf,e2,e3,yu,h2]
 |some y'=>
  have RG:=hl y' F
  cases yh with
  |none=>
   obtain rfl:=hh0 F
   by_cases yu:c=lo
   ·simp[execOp,Instr.sliceAt,Instr.slice,hx,RG,bG hu,bX vE,Instr.sliceBounds,Instr.sliceBound,asIntOf,e1,e0,yu,h1]
   ·simp[execOp,Instr.sliceAt,Instr.slice,hx,RG,bG hu,bX vE,Instr.sliceBounds,Instr.sliceBound,asIntOf,e1,e0,yu,h1]
  |some y=>
   have:=hh y F
   by_cases yu:c=lo
   ·simp[execOp,Instr.sliceAt,Instr.slice,hx,RG,this,bG hu,bX vE,Instr.sliceBounds,Instr.sliceBound,asIntOf,e1,e0,e2,e3,yu,h1,h2]
    intro;omega
   ·simp[execOp,Instr.sliceAt,Instr.slice,hx,RG,this,bG hu,bX vE,Instr.sliceBounds,Instr.sliceBound,asIntOf,e1,e0,e2,e3,yu,h1,h2]
theorem Hv {x y:Operand} {T E:TypeId} {b:Option Addr} {n c k gQ hi:Nat} {z:Value} {kh:IntKind} (hu:P.underlying T=some (.slice E)) (vE:fP P E z k gQ) (hx:ev ρ x=.slice b n c) (hh:ev ρ y=.int kh (hi:Int)) (h2:hi≤c):
  QT P base ⟨dst,.slice T x none (some y) none,t,p,af,g⟩ ρ O (.slice b hi c):=by
 have:=FE (P:=P) (base:=base) (O:=O) (dst:=dst) (t:=t) (p:=p) (af:=af) (g:=g) (lo:=0) (kl:=.i64) hu vE hx (yl:=none) (yh:=some y) (fun _ h=>by cases h) (fun _=>rfl) (fun _ h=>by cases h;exact hh) (fun h=>by cases h) (bn _) h2
 rwa[Hu,Nat.sub_zero,Nat.sub_zero]at this
theorem BV {x y:Operand} {T E:TypeId} {b:Option Addr} {n c k gQ lo:Nat} {z:Value} {kl:IntKind} (hu:P.underlying T=some (.slice E)) (vE:fP P E z k gQ) (hx:ev ρ x=.slice b n c) (hh:ev ρ y=.int kl (lo:Int)) (h1:lo≤n) (h2:n≤c):
  QT P base ⟨dst,.slice T x (some y) none none,t,p,af,g⟩ ρ O (.slice (BU b c lo k) (n-lo) (c-lo)):=
 FE (kh:=.i64) hu vE hx (fun _ h=>by cases h;exact hh) (fun h=>by cases h) (fun _ h=>by cases h) (fun _=>rfl) h1 h2
end
section
variable {P:Program} {r:Option Nat} {base:World} {n:Nat} {ρ:Env} {O:List Item} {K:Env→List Item→Prop} {d:Nat} {t:TypeId} {p:String} {af:Array Edge} {g:Option (Nat×Bool)}
end
theorem dO {P:Program} {r:Option Nat} {base:World} {n:Nat} {Q:kP} {ρ:Env} {O:List Item} {c:Code} {α:Type} (I:α→Env→List Item→Prop) (μ:α→Nat) (s:α) (h0:I s ρ O)
  (h: ∀s ρ O,I s ρ O→T P r base n c (Jl (fun gV O'=> ∃s',μ s'<μ s∧ ∃O2,Sub O2 O'∧I s' gV O2) Q) ρ O):T P r base n (.loop c) Q ρ O:=
 eF (fun s ρ O=> ∃O2,Sub O2 O∧I s ρ O2) μ s ⟨O,cj (aZ _),h0⟩ (fun s ρ O ⟨O2,hs,hi⟩=>dx hs (h s ρ O2 hi))
theorem s6 {P:Program} {T E:TypeId} {d:TypeDesc} {b:Nat} {v:Value} {cs:List Value} {fr:Nat×Nat} {w:World} (hu:P.underlying T=some d) (ha:og d=false) (hw:w.heap[b]? =some (.cells (v::cs).toArray E fr)):
  (loadVar T ⟨b,0,none⟩).run P w=.ok v w:=by
 have hc:w.cell? ⟨b,0,none⟩=some v:=by unfold World.cell?;simp[hw]
 simp[loadVar,jm hu,ha,hc]
section
variable {P:Program} {base:World} {ρ:Env} {O:List Item} {dst:Option Nat} {t:TypeId} {p:String} {af:Array Edge} {g:Option (Nat×Bool)}
end
end Go.Lx

namespace Go.Lx
open Go.RowKit
section
variable {P:Program} {r:Option Nat} {base:World} {n:Nat} {ρ:Env} {O:List Item} {K:Env→List Item→Prop} {d:Nat} {t:TypeId} {p:String} {af:Array Edge} {g:Option (Nat×Bool)}
end
end Go.Lx

namespace Go.Lx
open Go.RowKit
theorem q7 {P:Program} {base:World} {ρ:Env} {O:List Item} {dst:Option Nat} {t:TypeId} {p:String} {af:Array Edge} {g:Option (Nat×Bool)} {x:Operand} {S:TypeId} {fs:Array Field} {i:Nat} {f:Field} {cs:List Value} {d:TypeDesc} {v:Value} (hu:P.underlying S=some (.struct fs)) (hf:fs[i]? =some f) (hd:P.underlying f.type=some d) (ha:og d=false) (hx:ev ρ x=.agg cs.toArray) (hv:cs[f.offset]? =some v):
  QT P base ⟨dst,.field S x i,t,p,af,g⟩ ρ O v:=fun w _=>by
 simp[execOp,hx,Instr.field,bG hu,hf,part,jm hd,ha,asAgg,hv]
section
variable {X:PX} {P:Program} {r:Option Nat} {base:World} {n:Nat} {ops:Array Oper} {S S2:List Item} {tail dp:List Nat} {K:Env→List Item→Prop} {ρ:Env} {O:List Item}
theorem D9 {gq:Nat} {listed:Array Bool} (i:Nat) {o:Oper} {j0 tj:Nat} {want:Bool} (hi:ops[i]? =some o) (hg:o.guard=some (j0,want)) (RH:(ops[j0]?).bind (·.dst)=some tj) (hw:ρ tj=.bool want) (hr:Region.ready .any ops listed=[i])
  (h:LT P r base n o ρ O (fun gV O'=>(i∈tail∨Sub S O')∧(i∈dp∨Sub S2 O')∧RO X P r base n ops S tail S2 dp gq (listed.setIfInBounds i true) K gV O')):RO X P r base n ops S tail S2 dp (gq+1) listed K ρ O:=by
 intro Q a w M D hq hp ha hI n_ hS
 refine⟨fun h0=>(by rw[hr]at h0;cases h0),fun j hj=>?_⟩
 rw[hr]at hj
 obtain rfl:j=i:=by simpa using hj
 have y7:j∈Region.ready .any ops listed:=by rw[hr];simp
 have gn:j<listed.size:=by
  have:=(mem_ready.1 y7).1
  rcases Nat.lt_or_ge j listed.size with h'|h'
  ·exact h'
  ·simp[Array.getElem?_eq_none h']at this
 have hy:=jH (ops:=ops) ha RH
 rw[hw]at hy
 have p8:Region.wanted o (yielded ops a.tmps)=true:=by unfold Region.wanted;rw[hg];simp[hy,MQ]
 unfold wpOpIn
 simp only[hi]
 rw[aO p8]
 refine h a w _ _ ha hI _ _ fun a' gV O' w' h1 h2 h3=>?_
 have rH: ∀(tl:List Nat) (Z:List Item),(j∈tl∨Sub Z O')→(tl.any fun b=>(listed.setIfInBounds j true).getD b false)=true∨Inv base Z w':=fun tl Z h3=>by
  rcases h3 with h4|h4
  ·refine .inl (List.any_eq_true.2 ⟨j,h4,?_⟩)
   simp[gn]
  ·exact .inr (h2.left.kn h4)
 have p_:iV base S tail S2 dp (listed.setIfInBounds j true) w':=⟨h2.nD,rH _ _ h3.1,rH _ _ h3.2.1⟩
 exact⟨p_,h3.2.2 Q a' w' M D hq hp h1 h2 (jg n_ y7) p_⟩
theorem sh {l:List (Nat×Nat)} {i:Nat} {o:Oper} {j0 tj:Nat} {want:Bool} (hi:ops[i]? =some o) (hg:o.guard=some (j0,want)) (RH:(ops[j0]?).bind (·.dst)=some tj) (hw:ρ tj=.bool want)
  (h:LT P r base n o ρ O (fun gV O'=>DO X P r base n ops S tail S2 dp l K gV O')):DO X P r base n ops S tail S2 dp ((i,2)::l) K ρ O:=fun hs lJ hl listed hb=>by
 simp only[jJ,aJ,beq_iff_eq]at hb
 refine D9 i hi hg RH hw hb.1 ?_
 intro a w M ds ha hI next Qx fp
 exact h a w M ds ha hI next Qx fun a' gV O' w' h1 h2 h3=>fp a' gV O' w' h1 h2 ⟨.inl ((hl (i,2) (by simp)).1.1 F),.inl ((hl (i,2) (by simp)).2.1 (.inl F)),h3 hs lJ (fun q hq=>hl q (List.mem_cons_of_mem _ hq)) _ hb.2⟩
end
end Go.Lx

namespace Go.Lx
open Go.RowKit
section
variable {X:PX} {P:Program} {r:Option Nat} {base:World} {n:Nat} {ops:Array Oper} {S S2:List Item} {tail dp:List Nat} {K:Env→List Item→Prop} {ρ:Env} {O:List Item}
theorem Av {gq:Nat} {listed:Array Bool} (i:Nat) {o:Oper} {d j0 tj:Nat} {want:Bool} (hi:ops[i]? =some o) (hg:o.guard=some (j0,want)) (hd:o.dst=some d) (RH:(ops[j0]?).bind (·.dst)=some tj) (hw:(MQ (ρ tj)==some want)=false) (hn:Nat.blt d n=true) (hr:Region.ready .any ops listed=[i])
  (h:RO X P r base n ops S tail S2 dp gq (listed.setIfInBounds i true) K (o6 ρ d undef) O):RO X P r base n ops S tail S2 dp (gq+1) listed K ρ O:=by
 intro Q a w M D hq hp ha hI n_ hS
 refine⟨fun h0=>(by rw[hr]at h0;cases h0),fun j hj=>?_⟩
 rw[hr]at hj
 obtain rfl:j=i:=by simpa using hj
 have y7:j∈Region.ready .any ops listed:=by rw[hr];simp
 have hy:=jH (ops:=ops) ha RH
 have p8:Region.wanted o (yielded ops a.tmps)=false:=by unfold Region.wanted;rw[hg];simp only[hy];exact hw
 unfold wpOpIn
 simp only[hi]
 rw[az (by rw[p8];decide)]
 have p_:iV base S tail S2 dp (listed.setIfInBounds j true) w:=⟨hS.nD,hS.one.imp Au id,hS.two.imp Au id⟩
 refine⟨fun _ _=>trivial,p_,?_⟩
 rw[hd]
 exact h Q _ w M D hq hp (ha.put hn undef) hI (jg n_ y7) p_
theorem Aw {l:List (Nat×Nat)} {i mo:Nat} {o:Oper} {d j0 tj:Nat} {want:Bool} (hmo:mo=1∨mo=2) (hi:ops[i]? =some o) (hg:o.guard=some (j0,want)) (hd:o.dst=some d) (RH:(ops[j0]?).bind (·.dst)=some tj) (hw:(MQ (ρ tj)==some want)=false)
  (h:DO X P r base n ops S tail S2 dp l K (o6 ρ d undef) O) (hn:Nat.blt d n=true:=by rfl):DO X P r base n ops S tail S2 dp ((i,mo)::l) K ρ O:=fun hs lJ hl listed hb=>by
 have yi:(Region.ready .any ops listed== [i])=true∧jJ ops tail dp l (listed.setIfInBounds i true)=true:=by
  rcases hmo with rfl|rfl<;>simpa only[jJ,aJ]using hb
 exact Av i hi hg hd RH hw hn (by simpa using yi.1) (h hs lJ (fun q hq=>hl q (List.mem_cons_of_mem _ hq)) _ yi.2)
end
theorem Sub.k {A B:List Item} {a:Item} (h:Sub A B):Sub (a::A) (a::B):=by
 obtain⟨l,h1,h2⟩:=h;exact⟨a::l,h1.cons a,.cons_cons a h2⟩
theorem Sub.d {A B:List Item} {a:Item} (h:Sub A B):Sub A (a::B):=by
 obtain⟨l,h1,h2⟩:=h;exact⟨l,h1,.cons a h2⟩
theorem Sub.z {B:List Item}:Sub [] B:=cj (cq _)
theorem Sub.rf {B:List Item}:Sub B B:=cj (aZ _)
theorem gN (A B S:List Item):Sub ((A++B)++S) ((A++S)++B):=by
 refine⟨(A++S)++B,?_,aZ _⟩
 rw[aI,aI]
 exact List.Perm.append_left A List.perm_append_comm
theorem fL (A B S R:List Item):Sub ((A++B)++(S++R)) ((A++S)++(B++R)):=by
 refine⟨(A++S)++(B++R),?_,aZ _⟩
 have h:(B++(S++R)).Perm (S++(B++R)):=by
  rw[←aI,←aI]
  exact List.perm_append_comm.append_right R
 rw[aI,aI]
 exact List.Perm.append_left A h
theorem JA {l B:List Item} (h:l.Sublist B): ∃D,(l++D).Perm B:=by
 induction h with
 |slnil=>exact⟨[],List.Perm.refl _⟩
 |cons a _ ih=>obtain⟨D,hD⟩:=ih;exact⟨a::D,List.perm_middle.trans (hD.cons a)⟩
 |cons_cons a _ ih=>obtain⟨D,hD⟩:=ih;exact⟨D,hD.cons a⟩
theorem Sub.perm {A B:List Item} (h:Sub A B): ∃D,(A++D).Perm B:=by
 obtain⟨l,p,s⟩:=h
 obtain⟨D,hD⟩:=JA s
 exact⟨D,(p.append_right D).trans hD⟩
end Go.Lx

namespace Go.Lx
open Go.RowKit
theorem Sub.ew {xs:List Item} {x:Item} (P Q:List Item) (h:Sub xs (P++Q)):Sub (x::xs) (P++x::Q):=by
 obtain⟨D,p⟩:=h.perm
 refine nW (D:=D) ?_
 exact(p.cons x).trans List.perm_middle.symm
example (a b c d e:Item) (R:List Item):Sub ([c,a,e]++R) ([a,b,c,d,e]++R):=by exact Sub.ew [a,b] _ (.k (.d (.d (.k .rf))))
end Go.Lx

namespace Go.Lx
open Go.RowKit
theorem ng {A B:List Item} (N:List Item) (h:Sub A B):Sub A (N++B):=by
 obtain⟨l,hp,hs⟩:=h
 exact⟨l,hp,hs.trans (List.sublist_append_right _ _)⟩
end Go.Lx

namespace Go.Lx
open Go.RowKit
theorem iF {P:Program} {base:World} {ρ:Env} {O:List Item} {fn:Func} {R:Value→List Item→Prop} {a i c j:Nat} {T U E E':TypeId} {d d':TypeDesc} {z u:Value} {s gQ b b':Nat} {cs As:List Value} {fr fr':Nat×Nat} (hr:fn.results= #[.cell a T,.cell c U]) (hu:P.underlying T=some d) (ha:og d=true) (hi:fP P T z s gQ) (I3:P.underlying U=some d') (D_:og d'=false)
  (hp:ρ a=.pointer (some ⟨b,0,none⟩)) (Uo:ρ c=.pointer (some ⟨b',0,none⟩)) (hO:O[i]? =some (dF b (.cells cs.toArray E fr))) (hO':O[j]? =some (dF b' (.cells (u::As).toArray E' fr'))) (hl:cs.length=s)
  (h:R (.tuple #[.agg cs.toArray,u]) O):qZ P base fn ρ O R:=
 ⟨⟨_,O,cj (aZ _),h,fun w tmps hI ht=>by
  have h1:=qd (P:=P) hu ha hi hl (hI.sX hO)
  have h2:=s6 (P:=P) I3 D_ (hI.sX hO')
  have ht1:=ht a
  have Up:=ht c
  simp only[da]at ht1 Up
  simp[results,hr,ht1,Up,hp,Uo,asAddr,h1,h2]⟩⟩
theorem a8 {P:Program} {base:World} {ρ:Env} {O:List Item} {dst:Option Nat} {t:TypeId} {p:String} {af:Array Edge} {g:Option (Nat×Bool)} {x:Operand} {a:Addr} (h:ev ρ x=.pointer (some a)):QT P base ⟨dst,.nilCheck x,t,p,af,g⟩ ρ O (.pointer (some a)):=fun w _=>by simp[execOp,h]
end Go.Lx

namespace Go.Lx
open Go.RowKit
section
variable {P:Program} {base:World} {ρ:Env} {O:List Item} {dst:Option Nat} {t:TypeId} {p:String} {af:Array Edge} {g:Option (Nat×Bool)}
theorem s7 {T E:TypeId} {n:Nat} {parts:List (Nat×Operand)} {z ze:Value} {s gQ sz bz:Nat} {cs:List Value} (hu:P.underlying T=some (.array n E)) (he:fP P E ze s gQ) (hi:fP P T z sz bz) (hf:Instr.fill (fun i=>some (i*s,s)) z.cells (parts.map fun q=>(q.1,ev ρ q.2))=some cs.toArray):
  QT P base ⟨dst,.build T parts.toArray,t,p,af,g⟩ ρ O (.agg cs.toArray):=fun w _=>by
 simp only[execOp,Instr.build,Sem.run_bind,gM hi,Result.andThen_ok,bG hu,bX he]
 simp[hf]
end
def PW (P:Program) (r:Option Nat) (base:World) (n:Nat) (c:Code) (Q:kP):Nat→Env→List Item→Prop
 |0,_,_=>False
 |m+1,ρ,O=>T P r base n c (Jl (PW P r base n c Q m) Q) ρ O
theorem pf {P:Program} {r:Option Nat} {base:World} {n:Nat} {c:Code} {Q:kP} {ρ:Env} {O:List Item} (m:Nat) (h:PW P r base n c Q m ρ O):T P r base n (.loop c) Q ρ O:=
 eF (PW P r base n c Q) (fun m=>m) m h fun s ρ O h=>by
  cases s with
  |zero=>exact h.elim
  |succ s=>exact T.mono (show T P r base n c (Jl (PW P r base n c Q s) Q) ρ O from h) (fun e ρ O h=>by cases e<;>first|exact⟨s,Nat.lt_succ_self s,h⟩|exact h)
theorem T.round {P:Program} {r:Option Nat} {base:World} {n m:Nat} {c:Code} {Q:kP} {ρ:Env} {O:List Item} (h:T P r base n c (Jl (PW P r base n c Q m) Q) ρ O):PW P r base n c Q (m+1) ρ O:=h
end Go.Lx

namespace Go.Lx
open Go.RowKit
structure Mk (Wt:Type) where
 i:Nat
 d:Nat
 val:Wt→Value
 k7:Wt→List Item
section
variable {X:PX} {P:Program} {r:Option Nat} {base:World} {n:Nat} {ρ:Env} {O S:List Item} {tail:List Nat} {ops:Array Oper} {K:Env→List Item→Prop} {Wt:Type}
theorem Sub.trans {A B C:List Item} (h:Sub A B) (h2:Sub B C):Sub A C:=by
 obtain⟨l1,p1,s1⟩:=h
 obtain⟨l2,p2,s2⟩:=h2
 obtain⟨l3,p3,s3⟩:=List.exists_perm_sublist s1 p2
 exact⟨l3,p1.trans p3.symm,s3.trans s2⟩
theorem getD_lt {l:Array Bool} {j:Nat} (h:j<l.size) (a b:Bool):l.getD j a=l.getD j b:=by simp[h]
def left (listed:Array Bool) (mk:List (Mk Wt)):Nat:=(mk.filter fun q=>!listed.getD q.i false).length
end
end Go.Lx

namespace Go.Lx
open Go.RowKit
def s8 (φ:Prop) (L:List Item):Item where
 blocks:=L.flatMap Item.blocks
 P w:=φ∧ ∀it∈L,it.P w
 loc w w' h:=fun hp=>⟨hp.1,fun it hi=>it.loc w w' (fun b hb=>h b (List.mem_flatMap.2 ⟨it,hi,hb⟩)) (hp.2 it hi)⟩
theorem xe {base w:World} {φ:Prop} {L M:List Item} (Vh:φ) (h:Inv base (L++M) w):Inv base (s8 φ L::M) w:=
 ⟨h.below,fun it hi=>(List.mem_cons.1 hi).elim (fun e=>e▸⟨Vh,fun x hx=>h.holds x (aT _ hx)⟩) fun hm=>h.holds it (am _ hm),
  fun it hi b hb=>(List.mem_cons.1 hi).elim (fun e=>by
   subst e
   obtain⟨x,hx,hbx⟩:=List.mem_flatMap.1 hb
   exact h.fresh x (aT _ hx) b hbx) fun hm=>h.fresh it (am _ hm) b hb,
  by have:=h.nodup;rwa[List.flatMap_append]at this⟩
theorem Az {base w:World} {φ:Prop} {L M:List Item} (h:Inv base (s8 φ L::M) w):φ∧Inv base (L++M) w:=by
 have h0:=h.holds (s8 φ L) List.mem_cons_self
 refine⟨h0.1,h.below,fun it hi=>(List.mem_append.1 hi).elim (h0.2 it) fun hm=>h.holds it (List.mem_cons_of_mem _ hm),fun it hi b hb=>(List.mem_append.1 hi).elim (fun hm=>h.fresh (s8 φ L) List.mem_cons_self b (List.mem_flatMap.2 ⟨it,hm,hb⟩)) fun hm=>h.fresh it (List.mem_cons_of_mem _ hm) b hb,?_⟩
 have:=h.nodup
 rwa[List.flatMap_append]
section
variable {P:Program} {r:Option Nat} {base:World} {n:Nat} {c:Code} {Q:kP} {ρ:Env} {φ:Prop} {L M:List Item} {f:FuncId} {args:List Value}
theorem s9 (Vh:φ) (h:T P r base n c Q ρ (s8 φ L::M)):T P r base n c Q ρ (L++M):=fun a w N D hM ha hi=>
 h a w N D hM ha (by rw[aI]at hi;exact xe Vh hi)
theorem Ea (h:φ→T P r base n c Q ρ (L++M)):T P r base n c Q ρ (s8 φ L::M):=fun a w N D hM ha hi=>by
 have hu:=Az (M:=M++(mI D++N)) hi
 exact h hu.1 a w N D hM ha (by rw[aI];exact hu.2)
theorem bW.PB {O:List Item} {R R':Value→List Item→Prop} (h:bW P base f args O R) (hr: ∀v O',R v O'→ ∃φ L M,φ∧O'=L++M∧R' v (s8 φ L::M)):bW P base f args O R':=fun w N hI=>
 (h w N hI).mono fun _ _ ⟨v,O',h1,h2,h3⟩=>by
  obtain⟨φ,L,M,Vh,rfl,hR⟩:=hr v O' h3
  exact⟨v,s8 φ L::M,h1,xe (M:=M++N) Vh (by rw[←aI];exact h2),hR⟩
end
structure DK where
 nb:Option Addr
 nc:Nat
 fb:Option Addr
 fc:Nat
 qs:List Rec
abbrev dC (d:cU) (k:DK):List Value:=fw d k.nb k.nc k.fb k.fc
abbrev dV (d:cU) (k:DK):Value:=.agg (dC d k).toArray
abbrev At (w:World) (d:cU) (k:DK):Prop:=jt w d k.nb (dm k.qs) k.fb
def dI (II Bo I:TypeId) (d:cU) (k:DK):Item:=s8 (nums k.qs=d.next) ([aq k.nb k.nc II 1 (dm k.qs),aq k.fb k.fc Bo 1 (cG d.aY)]++cd I k.qs)
theorem Inv.at {base w:World} {O:List Item} {II Bo I:TypeId} {d:cU} {k:DK} (hI:Inv base O w) (h:dI II Bo I d k∈O):At w d k:=by
 have h0:=hI.holds _ h
 have g: ∀it∈[aq k.nb k.nc II 1 (dm k.qs),aq k.fb k.fc Bo 1 (cG d.aY)]++cd I k.qs,it.P w:=h0.2
 refine⟨rowP.sl (g (aq k.nb k.nc II 1 (dm k.qs)) (by simp)),?_,rowP.sl (g (aq k.fb k.fc Bo 1 (cG d.aY)) (by simp))⟩
 rw[←h0.1]
 refine⟨by simp,fun i x hx=>?_⟩
 rw[bq]at hx
 obtain⟨q,hq,rfl⟩:=Option.map_eq_some_iff.1 hx
 refine⟨q.b,q.c,by rw[bq,hq];rfl,?_⟩
 have:(Rec.sQ I q).P w:=g _ (am _ (List.mem_map_of_mem (bQ hq)))
 exact rowP.sl this
theorem bW.dk {P:Program} {base:World} {f:FuncId} {args:List Value} {O:List Item} {II Bo I:TypeId} {D:cU} {g:Value→Value} (h:bW P base f args O fun v N=> ∃BZ B1 oT oU qs,v=g (.agg (fw D BZ B1 oT oU).toArray)∧N=[aq BZ B1 II 1 (dm qs),aq oT oU Bo 1 (cG D.aY)]++cd I qs∧nums qs=D.next):
  bW P base f args O fun v N=> ∃k:DK,v=g (dV D k)∧N=[dI II Bo I D k]:=
 h.PB fun v O' hR=>by
  obtain⟨nb,nc,fb,fc,qs,rfl,rfl,hq⟩:=hR
  exact⟨nums qs=D.next,_,[],hq,(c7 _).symm,⟨nb,nc,fb,fc,qs⟩,F,F⟩
theorem Inv.pR {base w:World} {O:List Item} {d:cU} {k:DK} (hI:Inv base O w) (h:At base d k):At w d k:=hI.BQ h
end Go.Lx

namespace Go.Lx
open Go.RowKit
section
variable {P:Program} {base:World} {ρ:Env} {O:List Item} {dst:Option Nat} {t:TypeId} {p:String} {af:Array Edge} {g:Option (Nat×Bool)}
theorem jA {x y:Operand} {T E:TypeId} {b o n i:Nat} {k:IntKind} {z:Value} {s gQ:Nat} (hu:P.underlying T=some (.array n E)) (hi:fP P E z s gQ) (hx:ev ρ x=.pointer (some ⟨b,o,none⟩)) (hy:ev ρ y=.int k (i:Int)) (gn:i<n):
  QT P base ⟨dst,.indexAddr T x y,t,p,af,g⟩ ρ O (.pointer (some ⟨b,o+i*s,none⟩)):=fun w _=>by
 have h2:(i:Int)<(n:Int):=by omega
 simp[execOp,hx,hy,Instr.indexAt,asIntOf,bG hu,gn,bX hi,Instr.sureAddr,Addr.add]
 try (intro h;rcases h with h|h<;>simp[h])
end
end Go.Lx

namespace Go.Lx
open Go.RowKit
theorem BX {e:Edge} (hb:Region.binds .any e=true): ∀ {l:List Edge},e∈l→(sW l).testBit e.on=true
 |a::l,h=>by
  rw[sW,Nat.testBit_or,Bool.or_eq_true]
  rcases List.mem_cons.1 h with rfl|h
  ·exact .inl (by rw[aO hb,Nat.one_shiftLeft,Nat.testBit_two_pow];simp)
  ·exact .inr (BX hb h)
def Ax (ops:Array Oper) (d j:Nat):Bool:=!d.testBit j&&Nat.beq (mB ops j&&&d) (mB ops j)
def FF (ops:Array Oper) (d i:Nat):Bool:=match ops[i]? with
 |none=>false
 |some oi=>(List.range ops.size).all fun j=>Nat.beq j i||d.testBit j||(mB ops j).testBit i||match ops[j]? with
  |some oj=>oi.apart ops oj
  |none=>true
def rK (ops:Array Oper) (tail dp:List Nat):List (Nat×Nat)→Nat→Bool
 | [],d=>(List.range ops.size).all fun j=>!Ax ops d j
 |(i,0)::l,d=>(p9 ops tail i&&FF ops d i&&Nat.blt i ops.size&&Ax ops d i)&&rK ops tail dp l (d|||1<<<i)
 |(i,3)::l,d=>(p9 ops dp i&&FF ops d i&&Nat.blt i ops.size&&Ax ops d i)&&rK ops tail dp l (d|||1<<<i)
 |(i,_)::l,d=>(Nat.blt i ops.size&&Ax ops d i&&(List.range ops.size).all fun j=>Nat.beq j i||!Ax ops d j)&&rK ops tail dp l (d|||1<<<i)
def pI (ops:Array Oper) (listed:Array Bool) (d:Nat):Prop:=listed.size=ops.size∧ ∀k,listed.getD k false=d.testBit k
theorem pI.start (ops:Array Oper):pI ops (Array.replicate ops.size false) 0:=⟨by simp,fun k=>by
 rw[Nat.zero_testBit,da,Array.getElem?_replicate]
 split<;>rfl⟩
theorem pI.set {ops:Array Oper} {listed:Array Bool} {d i:Nat} (h:pI ops listed d) (hi:i<ops.size):pI ops (listed.setIfInBounds i true) (d|||1<<<i):=⟨by simpa using h.1,fun k=>by
 rw[Nat.testBit_or,Nat.one_shiftLeft,Nat.testBit_two_pow,←h.2 k]
 by_cases e:i=k
 ·subst e
  have:i<listed.size:=by rw[h.1];exact hi
  simp[this]
 ·rw[getD_set_ne false e,ak e,Bool.or_false]⟩
theorem pI.ready {ops:Array Oper} {listed:Array Bool} {d j:Nat} (h:pI ops listed d) (hj:j<ops.size):j∈Region.ready .any ops listed↔Ax ops d j=true:=by
 have e1:listed.getD j true=d.testBit j:=by rw[←h.2 j];exact getD_lt (by rw[h.1];exact hj) _ _
 have ho:ops[j]? =some ops[j]:=Array.getElem?_eq_getElem hj
 have hm:mB ops j=sW ops[j].after.toList:=by unfold mB;rw[ho]
 rw[mem_ready,e1]
 unfold Ax
 rw[aJ,Bool.not_eq_true',Nat.beq_eq,hm]
 refine and_congr_right fun _=>?_
 constructor
 ·rintro⟨o,rG,mX⟩
  rw[ho]at rG;cases rG
  refine Nat.eq_of_testBit_eq fun k=>?_
  rw[Nat.testBit_and]
  cases hk:(sW ops[j].after.toList).testBit k with
  |false=>rfl
  |true=>
   obtain⟨e,he,hb,rfl⟩:=uj hk
   have:=mX e (by simpa using he) hb
   rw[h.2]at this
   rw[this];rfl
 ·intro he
  refine⟨_,ho,fun e vG hb=>?_⟩
  have hk:=BX hb (l:=ops[j].after.toList) (by simpa using vG)
  rw[h.2]
  rw[←he,Nat.testBit_and,aJ]at hk
  exact hk.2
theorem xa {ops:Array Oper} {listed:Array Bool} {j:Nat} (h:j∈Region.ready .any ops listed):j<ops.size:=by
 obtain⟨_,o,ho,_⟩:=mem_ready.1 h
 exact(Array.getElem?_eq_some_iff.1 ho).1
theorem Hy {l:List Nat} {i:Nat} (hn:l.Nodup) (h: ∀j,j∈l↔j=i):l=[i]:=by
 cases l with
 |nil=>exact absurd ((h i).2 F) (by simp)
 |cons a l=>
  obtain rfl:a=i:=(h a).1 (by simp)
  have h1:=(List.nodup_cons.1 hn).1
  cases l with
  |nil=>rfl
  |cons b l=>
   have:b=a:=(h b).1 (by simp)
   subst this
   exact absurd (by simp) h1
theorem BY (ops:Array Oper) (listed:Array Bool):(Region.ready .any ops listed).Nodup:=by
 unfold Region.ready
 exact List.nodup_range.filter _
theorem FG {ops:Array Oper} {listed:Array Bool} {d i:Nat} (h:pI ops listed d) (hf:FF ops d i=true):Region.free .any ops listed i=true:=by
 unfold FF at hf
 unfold Region.free
 cases ho:ops[i]? with
 |none=>rw[ho]at hf;cases hf
 |some oi=>
  rw[ho]at hf
  simp only at hf⊢
  rw[fC]at hf⊢
  intro j hj
  have Vg:j<ops.size:=List.mem_range.1 hj
  have h1:=hf j hj
  have e1:listed.getD j true=d.testBit j:=by rw[←h.2 j];exact getD_lt (by rw[h.1];exact Vg) _ _
  have Rn:ops[j]? =some ops[j]:=Array.getElem?_eq_getElem Vg
  rw[Rn]at h1⊢
  simp only[Bool.or_eq_true]at h1⊢
  rw[e1]
  rcases h1 with((h1|h1)|h1)|h1
  ·exact .inl (.inl (by simpa using h1))
  ·exact .inl (.inr h1)
  ·obtain⟨o,rG,e,he,hb,hon⟩:=nH h1
   rw[Rn]at rG;cases rG
   exact .inr (.inl (Array.any_eq_true'.2 ⟨e,he,by rw[hb,hon];simp⟩))
  ·exact .inr (.inr h1)
theorem Ay {ops:Array Oper} {tail dp:List Nat} {i:Nat} {l:List (Nat×Nat)} {listed:Array Bool} {d:Nat} (h:pI ops listed d) (ih: ∀ {listed:Array Bool} {d:Nat},pI ops listed d→rK ops tail dp l d=true→jJ ops tail dp l listed=true) (hw:((Nat.blt i ops.size&&Ax ops d i&&(List.range ops.size).all fun j=>Nat.beq j i||!Ax ops d j)&&rK ops tail dp l (d|||1<<<i))=true):((Region.ready .any ops listed== [i])&&jJ ops tail dp l (listed.setIfInBounds i true))=true:=by
 simp only[aJ,Nat.blt_eq,fC,Bool.or_eq_true,Nat.beq_eq,Bool.not_eq_true']at hw
 obtain⟨⟨⟨h1,h2⟩,h3⟩,h4⟩:=hw
 rw[aJ]
 refine⟨?_,ih (h.set h1) h4⟩
 rw[beq_iff_eq]
 refine Hy (BY _ _) fun j=>⟨fun hj=>?_,fun e=>e▸(h.ready h1).2 h2⟩
 have Vg:=xa hj
 rcases h3 j (List.mem_range.2 Vg)with e|e
 ·exact e
 ·rw[(h.ready Vg).1 hj]at e;cases e
theorem oo {ops:Array Oper} {tail dp:List Nat}: ∀ {l:List (Nat×Nat)} {listed:Array Bool} {d:Nat},pI ops listed d→rK ops tail dp l d=true→jJ ops tail dp l listed=true
 | [],listed,d,h,hw=>by
  simp only[rK,fC]at hw
  show(Region.ready .any ops listed).isEmpty=true
  cases hr:Region.ready .any ops listed with
  |nil=>rfl
  |cons j r=>
   have hj:j∈Region.ready .any ops listed:=by rw[hr];simp
   have h1:=hw j (List.mem_range.2 (xa hj))
   rw[(h.ready (xa hj)).1 hj]at h1;cases h1
 |(i,0)::l,listed,d,h,hw=>by
  simp only[rK,aJ,Nat.blt_eq]at hw
  obtain⟨⟨⟨⟨h1,h2⟩,h3⟩,h4⟩,h5⟩:=hw
  simp only[jJ,aJ]
  exact⟨⟨⟨h1,FG h h2⟩,by simpa using(h.ready h3).2 h4⟩,oo (h.set h3) h5⟩
 |(i,3)::l,listed,d,h,hw=>by
  simp only[rK,aJ,Nat.blt_eq]at hw
  obtain⟨⟨⟨⟨h1,h2⟩,h3⟩,h4⟩,h5⟩:=hw
  simp only[jJ,aJ]
  exact⟨⟨⟨h1,FG h h2⟩,by simpa using(h.ready h3).2 h4⟩,oo (h.set h3) h5⟩
 |(i,1)::l,listed,d,h,hw=>Ay h oo hw
 |(i,2)::l,listed,d,h,hw=>Ay h oo hw
 |(i,m+4)::l,listed,d,h,hw=>Ay h oo hw
def PY (ops:Array Oper) (l:List (Nat×Nat)):Bool:=(Region.noSelect ops&&j7 ops&&Nat.beq l.length ops.size&&(l.all fun q=>(q.2==2||!(nV l).contains q.1)&&(q.2==2||q.2==4||!(lX l).contains q.1)))&&rK ops (nV l) (lX l) l 0
theorem w_ {ops:Array Oper} {l:List (Nat×Nat)} (h:PY ops l=true):wR ops l=true:=by
 simp only[PY,aJ,Nat.beq_eq]at h
 obtain⟨⟨⟨⟨h1,h2⟩,h3⟩,h4⟩,h5⟩:=h
 simp only[wR,aJ]
 exact⟨⟨⟨⟨h1,h2⟩,by rw[h3];simp⟩,h4⟩,oo (pI.start ops) h5⟩
end Go.Lx

namespace Go.Proofs.YtgdbfideeeegmaaGreatDoor
open Go.Lx Go.RowKit _root_.Go.Proofs.Tryz
theorem mixed:Tryz.prog.follows .mixedOrders=true:=by kernel_rfl
theorem bj:fP Tryz.prog 3 (.int .i64 0) 1 8:=by unfold fP;kernel_rfl
theorem fx:fP Tryz.prog 4 (.bool false) 1 1:=by unfold fP;kernel_rfl
theorem du:fP Tryz.prog 5 (.int .u8 0) 1 1:=by unfold fP;kernel_rfl
theorem Ei:fP Tryz.prog 9 (.string ByteArray.empty) 1 16:=by unfold fP;kernel_rfl
theorem fz:fP Tryz.prog 22 ((.slice none 0 0)) 1 24:=by unfold fP;kernel_rfl
theorem dA:fP Tryz.prog 23 ((.slice none 0 0)) 1 24:=by unfold fP;kernel_rfl
theorem bL:fP Tryz.prog 25 ((.agg #[(.int .i64 0),(.int .i64 0),(.slice none 0 0),(.slice none 0 0)])) 4 64:=by unfold fP;kernel_rfl
theorem iZ:fP Tryz.prog 27 (.int .i64 0) 1 8:=by unfold fP;kernel_rfl
theorem fT:fP Tryz.prog 32 ((.slice none 0 0)) 1 24:=by unfold fP;kernel_rfl
theorem cV:fP Tryz.prog 56 ((.slice none 0 0)) 1 24:=by unfold fP;kernel_rfl
theorem QM:fP Tryz.prog 58 (.nilFunc) 1 8:=by unfold fP;kernel_rfl
theorem nM:fP Tryz.prog 67 (.int .u8 0) 1 1:=by unfold fP;kernel_rfl
theorem db:fP Tryz.prog 69 ((.agg #[(.int .u8 0),(.slice none 0 0)])) 2 32:=by unfold fP;kernel_rfl
theorem cm:fP Tryz.prog 72 ((.agg #[(.int .u8 0),(.int .u8 0),(.int .u8 0),(.int .i64 0),(.int .i64 0)])) 5 24:=by unfold fP;kernel_rfl
theorem oA:fP Tryz.prog 75 ((.slice none 0 0)) 1 24:=by unfold fP;kernel_rfl
theorem oK:fP Tryz.prog 79 (.pointer none) 1 8:=by unfold fP;kernel_rfl
theorem Xv:fP Tryz.prog 81 ((.agg #[(.slice none 0 0),(.int .i64 0),(.int .i64 0)])) 3 40:=by unfold fP;kernel_rfl
theorem jZ:fP Tryz.prog 96 ((.agg #[(.int .i64 0),(.string ByteArray.empty),(.string ByteArray.empty),(.string ByteArray.empty)])) 4 56:=by unfold fP;kernel_rfl
theorem gD:fP Tryz.prog 112 ((.slice none 0 0)) 1 24:=by unfold fP;kernel_rfl
theorem To:fP Tryz.prog 114 ((.agg #[(.pointer none),(.slice none 0 0),(.slice none 0 0)])) 3 56:=by unfold fP;kernel_rfl
theorem fe:fP Tryz.prog 118 ((.agg #[(.int .u8 0),(.int .i64 0),(.int .i64 0),(.slice none 0 0),(.slice none 0 0),(.slice none 0 0),(.bool false)])) 7 104:=by unfold fP;kernel_rfl
theorem qH:fP Tryz.prog 120 ((.slice none 0 0)) 1 24:=by unfold fP;kernel_rfl
theorem kv:fP Tryz.prog 122 ((.agg #[(.slice none 0 0),(.slice none 0 0)])) 2 48:=by unfold fP;kernel_rfl
theorem gj:fP Tryz.prog 129 ((.agg #[(.int .u8 0),(.int .u8 0)])) 2 2:=by unfold fP;kernel_rfl
theorem Lm:fP Tryz.prog 140 (.nilFunc) 1 8:=by unfold fP;kernel_rfl
theorem Tt:fP Tryz.prog 146 ((.agg #[(.int .i64 0),(.int .i64 0),(.slice none 0 0),(.slice none 0 0)])) 4 64:=by unfold fP;kernel_rfl
theorem R5:fP Tryz.prog 149 ((.agg #[(.string ByteArray.empty),(.int .i64 0),(.slice none 0 0),(.int .i64 0)])) 4 56:=by unfold fP;kernel_rfl
theorem uq:fP Tryz.prog 153 ((.agg #[(.int .i64 0),(.int .i64 0)])) 2 16:=by unfold fP;kernel_rfl
theorem A6:fP Tryz.prog 160 (.map none) 1 8:=by unfold fP;kernel_rfl
theorem AM:fP Tryz.prog 163 ((.agg #[])) 0 0:=by unfold fP;kernel_rfl
theorem AW:fP Tryz.prog 167 ((.slice none 0 0)) 1 24:=by unfold fP;kernel_rfl
theorem jq:fP Tryz.prog 169 ((.agg #[(.int .i64 0),(.int .i64 0),(.slice none 0 0)])) 3 40:=by unfold fP;kernel_rfl
theorem gP:fP Tryz.prog 173 ((.agg #[(.int .i64 0),(.int .i64 0)])) 2 16:=by unfold fP;kernel_rfl
theorem Lo:fP Tryz.prog 180 (.nilFunc) 1 8:=by unfold fP;kernel_rfl
theorem lQ:fP Tryz.prog 208 ((.agg #[(.int .i64 0),(.slice none 0 0)])) 2 32:=by unfold fP;kernel_rfl
theorem Kw:fP Tryz.prog 209 (.nilFunc) 1 8:=by unfold fP;kernel_rfl
theorem uF:fP Tryz.prog 227 (.pointer none) 1 8:=by unfold fP;kernel_rfl
theorem g_:fP Tryz.prog 234 ((.agg #[(.int .i64 0),(.int .i64 0)])) 2 16:=by unfold fP;kernel_rfl
theorem pz:fP Tryz.prog 235 ((.slice none 0 0)) 1 24:=by unfold fP;kernel_rfl
theorem A7:fP Tryz.prog 236 (.map none) 1 8:=by unfold fP;kernel_rfl
theorem EY:fP Tryz.prog 238 ((.agg #[(.int .i64 0),(.int .i64 0),(.slice none 0 0),(.slice none 0 0),(.int .i64 0),(.int .i64 0),(.slice none 0 0),(.slice none 0 0),(.slice none 0 0),(.map none)])) 10 160:=by unfold fP;kernel_rfl
theorem Tu:fP Tryz.prog 260 ((.agg #[(.int .u8 0),(.int .u8 0),(.int .u8 0),(.int .u8 0),(.int .u8 0),(.int .u8 0),(.int .u8 0),(.int .u8 0),(.int .u8 0),(.int .u8 0),(.int .u8 0),(.int .u8 0),(.int .u8 0),(.int .u8 0),(.int .u8 0),(.int .u8 0),(.int .u8 0),(.int .u8 0),(.int .u8 0),(.int .u8 0),(.int .u8 0),(.int .u8 0),(.int .u8 0),(.int .u8 0)])) 24 24:=by unfold fP;kernel_rfl
theorem jp:qe Tryz.prog 25 [(0,1),(1,1),(2,1),(3,1)]:=⟨_,underlying25,fun w=>by simp[bX bj,bX fz,bX dA]⟩
theorem qm:qe Tryz.prog 69 [(0,1),(1,1)]:=⟨_,underlying69,fun w=>by simp[bX fT,bX nM]⟩
theorem nh:qe Tryz.prog 72 [(0,1),(1,1),(2,1),(3,1),(4,1)]:=⟨_,underlying72,fun w=>by simp[bX bj,bX du]⟩
theorem Tv:qe Tryz.prog 81 [(0,1),(1,1),(2,1)]:=⟨_,underlying81,fun w=>by simp[bX bj,bX fT]⟩
theorem sB:qe Tryz.prog 96 [(0,1),(1,1),(2,1),(3,1)]:=⟨_,underlying96,fun w=>by simp[bX bj,bX Ei]⟩
theorem OK:qe Tryz.prog 114 [(0,1),(1,1),(2,1)]:=⟨_,underlying114,fun w=>by simp[bX cV,bX oK,bX gD]⟩
theorem A2:qe Tryz.prog 118 [(0,1),(1,4),(5,1),(6,1)]:=⟨_,underlying118,fun w=>by simp[bX fx,bX du,bX bL,bX cV]⟩
theorem Ga:qe Tryz.prog 122 [(0,1),(1,1)]:=⟨_,underlying122,fun w=>by simp[bX cV,bX qH]⟩
theorem jn:qe Tryz.prog 129 [(0,1),(1,1)]:=⟨_,underlying129,fun w=>by simp[bX du]⟩
theorem OQ:qe Tryz.prog 146 [(0,4)]:=⟨_,underlying146,fun w=>by simp[bX bL]⟩
theorem NR:qe Tryz.prog 149 [(0,1),(1,1),(2,1),(3,1)]:=⟨_,underlying149,fun w=>by simp[bX bj,bX Ei,bX iZ,bX fT]⟩
theorem wh:qe Tryz.prog 163 []:=⟨_,underlying163,fun w=>by simp[]⟩
theorem AY:qe Tryz.prog 169 [(0,1),(1,1),(2,1)]:=⟨_,underlying169,fun w=>by simp[bX bj,bX AW]⟩
theorem F4:qe Tryz.prog 208 [(0,1),(1,1)]:=⟨_,underlying208,fun w=>by simp[bX bj,bX cV]⟩
theorem Gd:qe Tryz.prog 234 [(0,1),(1,1)]:=⟨_,underlying234,fun w=>by simp[bX bj]⟩
theorem A8:qe Tryz.prog 238 [(0,4),(4,4),(8,1),(9,1)]:=⟨_,underlying238,fun w=>by simp[bX bL,bX pz,bX A7]⟩
theorem Lp:Lx.Enters Tryz.prog 11 f11:=⟨func11,by kernel_rfl,F⟩
theorem V5:Lx.Enters Tryz.prog 14 f14:=⟨func14,by kernel_rfl,F⟩
theorem V7:Lx.Enters Tryz.prog 15 f15:=⟨func15,by kernel_rfl,F⟩
theorem V6:Lx.Enters Tryz.prog 16 f16:=⟨func16,by kernel_rfl,F⟩
theorem Xw:Lx.Enters Tryz.prog 18 f18:=⟨func18,by kernel_rfl,F⟩
theorem J_:Lx.Enters Tryz.prog 19 f19:=⟨func19,by kernel_rfl,F⟩
theorem QN:Lx.Enters Tryz.prog 21 f21:=⟨func21,by kernel_rfl,F⟩
theorem VO:Lx.Enters Tryz.prog 22 f22:=⟨func22,by kernel_rfl,F⟩
theorem Cb:Lx.Enters Tryz.prog 23 f23:=⟨func23,by kernel_rfl,F⟩
theorem Xx:Lx.Enters Tryz.prog 26 f26:=⟨func26,by kernel_rfl,F⟩
theorem Xy:Lx.Enters Tryz.prog 28 f28:=⟨func28,by kernel_rfl,F⟩
theorem Ka:Lx.Enters Tryz.prog 29 f29:=⟨func29,by kernel_rfl,F⟩
theorem VE:Lx.Enters Tryz.prog 31 f31:=⟨func31,by kernel_rfl,F⟩
theorem J9:Lx.Enters Tryz.prog 32 f32:=⟨func32,by kernel_rfl,F⟩
theorem B6:Lx.Enters Tryz.prog 39 f39:=⟨func39,by kernel_rfl,F⟩
theorem JQ:Lx.Enters Tryz.prog 40 f40:=⟨func40,by kernel_rfl,F⟩
theorem P3:Lx.Enters Tryz.prog 41 f41:=⟨func41,by kernel_rfl,F⟩
theorem Vs:Lx.Enters Tryz.prog 42 f42:=⟨func42,by kernel_rfl,F⟩
theorem QO:Lx.Enters Tryz.prog 43 f43:=⟨func43,by kernel_rfl,F⟩
theorem QP:Lx.Enters Tryz.prog 44 f44:=⟨func44,by kernel_rfl,F⟩
theorem Lq:Lx.Enters Tryz.prog 45 f45:=⟨func45,by kernel_rfl,F⟩
theorem Xz:Lx.Enters Tryz.prog 46 f46:=⟨func46,by kernel_rfl,F⟩
theorem VK:Lx.Enters Tryz.prog 47 f47:=⟨func47,by kernel_rfl,F⟩
theorem FM:Lx.Enters Tryz.prog 48 f48:=⟨func48,by kernel_rfl,F⟩
theorem FO:Lx.Enters Tryz.prog 49 f49:=⟨func49,by kernel_rfl,F⟩
theorem QQ:Lx.Enters Tryz.prog 50 f50:=⟨func50,by kernel_rfl,F⟩
theorem QR:Lx.Enters Tryz.prog 51 f51:=⟨func51,by kernel_rfl,F⟩
theorem XA:Lx.Enters Tryz.prog 52 f52:=⟨func52,by kernel_rfl,F⟩
theorem Ln:Lx.Enters Tryz.prog 54 f54:=⟨func54,by kernel_rfl,F⟩
theorem XB:Lx.Enters Tryz.prog 55 f55:=⟨func55,by kernel_rfl,F⟩
theorem vo:Lx.Enters Tryz.prog 56 f56:=⟨func56,by kernel_rfl,F⟩
theorem XC:Lx.Enters Tryz.prog 58 f58:=⟨func58,by kernel_rfl,F⟩
theorem VP:Lx.Enters Tryz.prog 59 f59:=⟨func59,by kernel_rfl,F⟩
theorem Vi:Lx.Enters Tryz.prog 67 f67:=⟨func67,by kernel_rfl,F⟩
theorem JH:Lx.Enters Tryz.prog 68 f68:=⟨func68,by kernel_rfl,F⟩
theorem XD:Lx.Enters Tryz.prog 69 f69:=⟨func69,by kernel_rfl,F⟩
theorem QL:Lx.Enters Tryz.prog 70 f70:=⟨func70,by kernel_rfl,F⟩
theorem QK:Lx.Enters Tryz.prog 71 f71:=⟨func71,by kernel_rfl,F⟩
theorem pL:Lx.Enters Tryz.prog 72 f72:=⟨func72,by kernel_rfl,F⟩
theorem C1:Lx.Enters Tryz.prog 73 f73:=⟨func73,by kernel_rfl,F⟩
theorem Xo:Lx.Enters Tryz.prog 74 f74:=⟨func74,by kernel_rfl,F⟩
theorem Xm:Lx.Enters Tryz.prog 75 f75:=⟨func75,by kernel_rfl,F⟩
theorem Xc:Lx.Enters Tryz.prog 76 f76:=⟨func76,by kernel_rfl,F⟩
theorem Xg:Lx.Enters Tryz.prog 77 f77:=⟨func77,by kernel_rfl,F⟩
theorem Xe:Lx.Enters Tryz.prog 78 f78:=⟨func78,by kernel_rfl,F⟩
theorem VF:Lx.Enters Tryz.prog 79 f79:=⟨func79,by kernel_rfl,F⟩
theorem VH:Lx.Enters Tryz.prog 80 f80:=⟨func80,by kernel_rfl,F⟩
theorem QS:Lx.Enters Tryz.prog 81 f81:=⟨func81,by kernel_rfl,F⟩
theorem QU:Lx.Enters Tryz.prog 82 f82:=⟨func82,by kernel_rfl,F⟩
theorem vp:Lx.Enters Tryz.prog 83 f83:=⟨func83,by kernel_rfl,F⟩
theorem XF:Lx.Enters Tryz.prog 84 f84:=⟨func84,by kernel_rfl,F⟩
theorem Lr:Lx.Enters Tryz.prog 85 f85:=⟨func85,by kernel_rfl,F⟩
theorem XG:Lx.Enters Tryz.prog 86 f86:=⟨func86,by kernel_rfl,F⟩
theorem Xt:Lx.Enters Tryz.prog 89 f89:=⟨func89,by kernel_rfl,F⟩
theorem Ll:Lx.Enters Tryz.prog 90 f90:=⟨func90,by kernel_rfl,F⟩
theorem QV:Lx.Enters Tryz.prog 91 f91:=⟨func91,by kernel_rfl,F⟩
theorem QW:Lx.Enters Tryz.prog 94 f94:=⟨func94,by kernel_rfl,F⟩
theorem XH:Lx.Enters Tryz.prog 95 f95:=⟨func95,by kernel_rfl,F⟩
theorem Ck:Lx.Enters Tryz.prog 96 f96:=⟨func96,by kernel_rfl,F⟩
theorem SQ:Lx.Enters Tryz.prog 100 f100:=⟨func100,by kernel_rfl,F⟩
theorem so:Lx.Enters Tryz.prog 101 f101:=⟨func101,by kernel_rfl,F⟩
theorem KL:Lx.Enters Tryz.prog 102 f102:=⟨func102,by kernel_rfl,F⟩
theorem EF:Lx.Enters Tryz.prog 103 f103:=⟨func103,by kernel_rfl,F⟩
theorem KG:Lx.Enters Tryz.prog 104 f104:=⟨func104,by kernel_rfl,F⟩
theorem SJ:Lx.Enters Tryz.prog 105 f105:=⟨func105,by kernel_rfl,F⟩
theorem SN:Lx.Enters Tryz.prog 106 f106:=⟨func106,by kernel_rfl,F⟩
theorem SO:Lx.Enters Tryz.prog 107 f107:=⟨func107,by kernel_rfl,F⟩
theorem EB:Lx.Enters Tryz.prog 108 f108:=⟨func108,by kernel_rfl,F⟩
theorem K3:Lx.Enters Tryz.prog 109 f109:=⟨func109,by kernel_rfl,F⟩
theorem EH:Lx.Enters Tryz.prog 110 f110:=⟨func110,by kernel_rfl,F⟩
theorem Tj:Lx.Enters Tryz.prog 111 f111:=⟨func111,by kernel_rfl,F⟩
theorem ux:Lx.Enters Tryz.prog 112 f112:=⟨func112,by kernel_rfl,F⟩
theorem K4:Lx.Enters Tryz.prog 113 f113:=⟨func113,by kernel_rfl,F⟩
theorem EK:Lx.Enters Tryz.prog 114 f114:=⟨func114,by kernel_rfl,F⟩
theorem AZ:Lx.Enters Tryz.prog 115 f115:=⟨func115,by kernel_rfl,F⟩
theorem KX:Lx.Enters Tryz.prog 116 f116:=⟨func116,by kernel_rfl,F⟩
theorem Th:Lx.Enters Tryz.prog 117 f117:=⟨func117,by kernel_rfl,F⟩
theorem Tw:Lx.Enters Tryz.prog 118 f118:=⟨func118,by kernel_rfl,F⟩
theorem Tx:Lx.Enters Tryz.prog 119 f119:=⟨func119,by kernel_rfl,F⟩
theorem Ls:Lx.Enters Tryz.prog 120 f120:=⟨func120,by kernel_rfl,F⟩
theorem Rf:Lx.Enters Tryz.prog 121 f121:=⟨func121,by kernel_rfl,F⟩
theorem Rg:Lx.Enters Tryz.prog 122 f122:=⟨func122,by kernel_rfl,F⟩
theorem Ty:Lx.Enters Tryz.prog 124 f124:=⟨func124,by kernel_rfl,F⟩
theorem Tq:Lx.Enters Tryz.prog 127 f127:=⟨func127,by kernel_rfl,F⟩
theorem Tz:Lx.Enters Tryz.prog 128 f128:=⟨func128,by kernel_rfl,F⟩
theorem k_:Lx.Enters Tryz.prog 132 f132:=⟨func132,by kernel_rfl,F⟩
theorem AI:Lx.Enters Tryz.prog 133 f133:=⟨func133,by kernel_rfl,F⟩
theorem RU:Lx.Enters Tryz.prog 134 f134:=⟨func134,by kernel_rfl,F⟩
theorem RV:Lx.Enters Tryz.prog 135 f135:=⟨func135,by kernel_rfl,F⟩
theorem EE:Lx.Enters Tryz.prog 138 f138:=⟨func138,by kernel_rfl,F⟩
theorem TA:Lx.Enters Tryz.prog 139 f139:=⟨func139,by kernel_rfl,F⟩
theorem SI:Lx.Enters Tryz.prog 140 f140:=⟨func140,by kernel_rfl,F⟩
theorem SH:Lx.Enters Tryz.prog 141 f141:=⟨func141,by kernel_rfl,F⟩
theorem SC:Lx.Enters Tryz.prog 142 f142:=⟨func142,by kernel_rfl,F⟩
theorem SE:Lx.Enters Tryz.prog 143 f143:=⟨func143,by kernel_rfl,F⟩
theorem Kt:Lx.Enters Tryz.prog 144 f144:=⟨func144,by kernel_rfl,F⟩
theorem SA:Lx.Enters Tryz.prog 145 f145:=⟨func145,by kernel_rfl,F⟩
theorem Ki:Lx.Enters Tryz.prog 146 f146:=⟨func146,by kernel_rfl,F⟩
theorem Ev:Lx.Enters Tryz.prog 147 f147:=⟨func147,by kernel_rfl,F⟩
theorem AQ:Lx.Enters Tryz.prog 148 f148:=⟨func148,by kernel_rfl,F⟩
theorem Kr:Lx.Enters Tryz.prog 149 f149:=⟨func149,by kernel_rfl,F⟩
theorem SG:Lx.Enters Tryz.prog 150 f150:=⟨func150,by kernel_rfl,F⟩
theorem TB:Lx.Enters Tryz.prog 151 f151:=⟨func151,by kernel_rfl,F⟩
theorem TC:Lx.Enters Tryz.prog 152 f152:=⟨func152,by kernel_rfl,F⟩
theorem Ku:Lx.Enters Tryz.prog 153 f153:=⟨func153,by kernel_rfl,F⟩
theorem Sx:Lx.Enters Tryz.prog 154 f154:=⟨func154,by kernel_rfl,F⟩
theorem Sq:Lx.Enters Tryz.prog 155 f155:=⟨func155,by kernel_rfl,F⟩
theorem Sr:Lx.Enters Tryz.prog 156 f156:=⟨func156,by kernel_rfl,F⟩
theorem Su:Lx.Enters Tryz.prog 157 f157:=⟨func157,by kernel_rfl,F⟩
theorem S1:Lx.Enters Tryz.prog 159 f159:=⟨func159,by kernel_rfl,F⟩
theorem AL:Lx.Enters Tryz.prog 160 f160:=⟨func160,by kernel_rfl,F⟩
theorem S6:Lx.Enters Tryz.prog 161 f161:=⟨func161,by kernel_rfl,F⟩
theorem K1:Lx.Enters Tryz.prog 162 f162:=⟨func162,by kernel_rfl,F⟩
theorem S7:Lx.Enters Tryz.prog 163 f163:=⟨func163,by kernel_rfl,F⟩
theorem SY:Lx.Enters Tryz.prog 164 f164:=⟨func164,by kernel_rfl,F⟩
theorem SX:Lx.Enters Tryz.prog 165 f165:=⟨func165,by kernel_rfl,F⟩
theorem SU:Lx.Enters Tryz.prog 166 f166:=⟨func166,by kernel_rfl,F⟩
theorem SP:Lx.Enters Tryz.prog 167 f167:=⟨func167,by kernel_rfl,F⟩
theorem TD:Lx.Enters Tryz.prog 168 f168:=⟨func168,by kernel_rfl,F⟩
theorem ns:Lx.Enters Tryz.prog 171 f171:=⟨func171,by kernel_rfl,F⟩
theorem AH:Lx.Enters Tryz.prog 189 f189:=⟨func189,by kernel_rfl,F⟩
theorem EZ:Lx.Enters Tryz.prog 190 f190:=⟨func190,by kernel_rfl,F⟩
theorem Lt:Lx.Enters Tryz.prog 191 f191:=⟨func191,by kernel_rfl,F⟩
theorem Sf:Lx.Enters Tryz.prog 192 f192:=⟨func192,by kernel_rfl,F⟩
theorem Sg:Lx.Enters Tryz.prog 193 f193:=⟨func193,by kernel_rfl,F⟩
theorem Eo:Lx.Enters Tryz.prog 194 f194:=⟨func194,by kernel_rfl,F⟩
theorem Se:Lx.Enters Tryz.prog 195 f195:=⟨func195,by kernel_rfl,F⟩
theorem Sd:Lx.Enters Tryz.prog 196 f196:=⟨func196,by kernel_rfl,F⟩
theorem Sh:Lx.Enters Tryz.prog 197 f197:=⟨func197,by kernel_rfl,F⟩
theorem Si:Lx.Enters Tryz.prog 198 f198:=⟨func198,by kernel_rfl,F⟩
theorem Kd:Lx.Enters Tryz.prog 210 f210:=⟨func210,by kernel_rfl,F⟩
theorem S5:Lx.Enters Tryz.prog 211 f211:=⟨func211,by kernel_rfl,F⟩
theorem S3:Lx.Enters Tryz.prog 212 f212:=⟨func212,by kernel_rfl,F⟩
theorem SW:Lx.Enters Tryz.prog 213 f213:=⟨func213,by kernel_rfl,F⟩
theorem TE:Lx.Enters Tryz.prog 214 f214:=⟨func214,by kernel_rfl,F⟩
theorem TF:Lx.Enters Tryz.prog 215 f215:=⟨func215,by kernel_rfl,F⟩
theorem TH:Lx.Enters Tryz.prog 216 f216:=⟨func216,by kernel_rfl,F⟩
theorem Lu:Lx.Enters Tryz.prog 218 f218:=⟨func218,by kernel_rfl,F⟩
theorem TI:Lx.Enters Tryz.prog 219 f219:=⟨func219,by kernel_rfl,F⟩
theorem Kc:Lx.Enters Tryz.prog 231 f231:=⟨func231,by kernel_rfl,F⟩
theorem SZ:Lx.Enters Tryz.prog 232 f232:=⟨func232,by kernel_rfl,F⟩
theorem KY:Lx.Enters Tryz.prog 240 f240:=⟨func240,by kernel_rfl,F⟩
end Go.Proofs.YtgdbfideeeegmaaGreatDoor

namespace Go.Proofs.YtgdbfideeeegmaaGreatDoor
open Go.Lx Go.RowKit _root_.Go.Proofs.Tryz
theorem H8 (w:World) (b1 b2:Option Addr) (c1 c2:Nat) (xs ys:List Int) (h1:Sl w b1 (ints xs)) (h2:Sl w b2 (ints ys)) (hb:xs.length<9223372036854775807):
  cH Tryz.prog 69 [(.slice b1 xs.length c1),(.slice b2 ys.length c2)] w fun v N=>v=.bool (decide (xs=ys))∧N=[]:=by
 refine aF func69 F ntmps69 F ?_
 refine ai (aj F (ae (aM (ai (ah F (ad (cQ underlying56 F) (ah F (ad (cQ underlying56 F) (ad (dQ F F) (ae (aP F (fun hc=>?_) (fun hc=>?_))))))))))))
 ·have lG:xs.length≠ys.length:=by omega
  have iA:xs.length≠ys.length:=by omega
  refine ai (aj F (ae (aK ?_)))
  refine aS (.bool false) Tryz.results69 F ?_
  exact⟨ax Value.bool (ak (fun e=>iA (by rw[e]))).symm,F⟩
 have vg: ¬xs.length≠ys.length:=by omega
 have iA:xs.length=ys.length:=by omega
 refine aE (aM (ai (aj F (ae (aU ?_)))))
 refine eF (fun(k:Nat) ρ O=>O=[]∧k≤xs.length∧xs.take k=ys.take k∧dv [(0,(.slice b1 xs.length c1)),(1,(.slice b2 ys.length c2)),(5,vI (k:Int))] ρ) (fun k=>xs.length-k) 0 ?_ ?_
 ·exact⟨F,bn _,F,⟨F,F,F,trivial⟩⟩
 rintro k ρ O ⟨rfl,hk,he,hH⟩
 obtain⟨gF,rfl⟩:=hH.elim
 clear hH
 refine aM (ai (ah F (ah F (ad (cQ underlying56 F) (ad (cT F F) (ae (aP F (fun hc=>?_) (fun hc=>?_))))))))
 ·have pN:k<xs.length:=by omega
  have gn:k<xs.length:=by omega
  have lO:k<ys.length:=by omega
  obtain⟨kb1,ko1,rfl⟩:=h1.addr (i:=k) (by simpa using gn)
  obtain⟨kb2,ko2,rfl⟩:=h2.addr (i:=k) (by simpa using lO)
  refine aE (aM (aU (aM ?_)))
  refine fD [(0,0),(1,0),(2,0),(3,0),(4,0),(5,0),(6,0),(7,0),(8,0)] ?_
  refine au F (aN F) (au F (aN F) (au F (zh underlying56 bj F F gn) (au F (mQ underlying3 F F h1 (gL gn)) (au F (aN F) (au F (aN F) (au F (zh underlying56 bj F F lO) (au F (mQ underlying3 F F h2 (gL lO)) (au F (dQ F F) ?_))))))))
  refine cw ?_
  refine aP (p:= ¬xs[k]=ys[k]) F (fun hc=>?_) (fun hc=>?_)
  ·refine aM ?_
   refine a7 (aj F (ae (aK ?_)))
   refine aS (.bool false) Tryz.results69 F ?_
   exact⟨ax Value.bool (ak (fun e=>hc (by subst e;rfl))).symm,F⟩
  refine aE (a7 (ah F (ad (lz F F (by omega)) (aj F (ae ?_)))))
  refine⟨k+1,by omega,F,by omega,?_,⟨F,F,F,trivial⟩⟩
  rw[aH gn,aH lO,he]
  exact ax _ (ax (fun z=>[z]) (Classical.not_not.1 hc))
 have xC: ¬k<xs.length:=by omega
 refine cK ?_
 refine ai (aj F (ae (aK ?_)))
 refine aS (.bool true) Tryz.results69 F ?_
 exact⟨ax Value.bool (ay (show xs=ys by rw[bw (by omega),bw (by omega)]at he;exact he)).symm,F⟩
theorem xO (w:World) (b1 b2:Option Addr) (c1 c2:Nat) (xs ys:List Bool) (h1:Sl w b1 (cG xs)) (h2:Sl w b2 (cG ys)) (hb:xs.length<9223372036854775807):
  cH Tryz.prog 44 [(.slice b1 xs.length c1),(.slice b2 ys.length c2)] w fun v N=>v=.bool (decide (xs=ys))∧N=[]:=by
 refine aF func44 F ntmps44 F ?_
 refine ai (aj F (ae (aM (ai (ah F (ad (cQ underlying23 F) (ah F (ad (cQ underlying23 F) (ad (dQ F F) (ae (aP F (fun hc=>?_) (fun hc=>?_))))))))))))
 ·have lG:xs.length≠ys.length:=by omega
  have iA:xs.length≠ys.length:=by omega
  refine ai (aj F (ae (aK ?_)))
  refine aS (.bool false) Tryz.results44 F ?_
  exact⟨ax Value.bool (ak (fun e=>iA (by rw[e]))).symm,F⟩
 have vg: ¬xs.length≠ys.length:=by omega
 have iA:xs.length=ys.length:=by omega
 refine aE (aM (ai (aj F (ae (aU ?_)))))
 refine eF (fun(k:Nat) ρ O=>O=[]∧k≤xs.length∧xs.take k=ys.take k∧dv [(0,(.slice b1 xs.length c1)),(1,(.slice b2 ys.length c2)),(5,vI (k:Int))] ρ) (fun k=>xs.length-k) 0 ?_ ?_
 ·exact⟨F,bn _,F,⟨F,F,F,trivial⟩⟩
 rintro k ρ O ⟨rfl,hk,he,hH⟩
 obtain⟨gF,rfl⟩:=hH.elim
 clear hH
 refine aM (ai (ah F (ah F (ad (cQ underlying23 F) (ad (cT F F) (ae (aP F (fun hc=>?_) (fun hc=>?_))))))))
 ·have pN:k<xs.length:=by omega
  have gn:k<xs.length:=by omega
  have lO:k<ys.length:=by omega
  obtain⟨kb1,ko1,rfl⟩:=h1.addr (i:=k) (by simpa using gn)
  obtain⟨kb2,ko2,rfl⟩:=h2.addr (i:=k) (by simpa using lO)
  refine aE (aM (aU (aM ?_)))
  refine fD [(0,0),(1,0),(2,0),(3,0),(4,0),(5,0),(6,0),(7,0),(8,0)] ?_
  refine au F (aN F) (au F (aN F) (au F (zh underlying23 fx F F gn) (au F (mQ underlying4 F F h1 (iB gn)) (au F (aN F) (au F (aN F) (au F (zh underlying23 fx F F lO) (au F (mQ underlying4 F F h2 (iB lO)) (au F (Jo underlying4 F F) ?_))))))))
  refine cw ?_
  refine aP (p:= ¬xs[k]=ys[k]) (ax Value.bool (by cases xs[k]<;>cases ys[k]<;>rfl)) (fun hc=>?_) (fun hc=>?_)
  ·refine aM ?_
   refine a7 (aj F (ae (aK ?_)))
   refine aS (.bool false) Tryz.results44 F ?_
   exact⟨ax Value.bool (ak (fun e=>hc (by subst e;rfl))).symm,F⟩
  refine aE (a7 (ah F (ad (lz F F (by omega)) (aj F (ae ?_)))))
  refine⟨k+1,by omega,F,by omega,?_,⟨F,F,F,trivial⟩⟩
  rw[aH gn,aH lO,he]
  exact ax _ (ax (fun z=>[z]) (Classical.not_not.1 hc))
 have xC: ¬k<xs.length:=by omega
 refine cK ?_
 refine ai (aj F (ae (aK ?_)))
 refine aS (.bool true) Tryz.results44 F ?_
 exact⟨ax Value.bool (ay (show xs=ys by rw[bw (by omega),bw (by omega)]at he;exact he)).symm,F⟩
theorem zR (w:World) (b1 b2:Option Addr) (c1 c2:Nat) (vs us:List Value) (rs ss:List (List Int)) (h1:Sl w b1 vs) (hr1:qf w vs rs) (h2:Sl w b2 us) (Tc:qf w us ss) (hb:rs.length<9223372036854775807) (vY: ∀r∈rs,r.length<9223372036854775807):
  cH Tryz.prog 43 [.slice b1 rs.length c1,.slice b2 ss.length c2] w fun v N=>v=.bool (decide (rs=ss))∧N=[]:=by
 refine aF func43 F ntmps43 F ?_
 refine ai (aj F (ae (aM (ai (ah F (ad (cQ underlying22 F) (ah F (ad (cQ underlying22 F) (ad (dQ F F) (ae (aP F (fun hc=>?_) (fun hc=>?_))))))))))))
 ·have lG:rs.length≠ss.length:=by omega
  have iA:rs.length≠ss.length:=by omega
  refine ai (aj F (ae (aK ?_)))
  refine aS (.bool false) Tryz.results43 F ?_
  exact⟨ax Value.bool (ak (fun e=>iA (by rw[e]))).symm,F⟩
 have vg: ¬rs.length≠ss.length:=by omega
 have iA:rs.length=ss.length:=by omega
 refine aE (aM (ai (aj F (ae (aU ?_)))))
 refine eF (fun(k:Nat) ρ O=>O=[]∧k≤rs.length∧rs.take k=ss.take k∧dv [(0,(.slice b1 rs.length c1)),(1,(.slice b2 ss.length c2)),(5,vI (k:Int))] ρ) (fun k=>rs.length-k) 0 ?_ ?_
 ·exact⟨F,bn _,F,⟨F,F,F,trivial⟩⟩
 rintro k ρ O ⟨rfl,hk,he,hH⟩
 obtain⟨gF,rfl⟩:=hH.elim
 clear hH
 refine aM (ai (ah F (ah F (ad (cQ underlying22 F) (ad (cT F F) (ae (aP F (fun hc=>?_) (fun hc=>?_))))))))
 ·have pN:k<rs.length:=by omega
  have gn:k<rs.length:=by omega
  have lO:k<ss.length:=by omega
  obtain⟨Yr,Ys,g1,s1⟩:=hr1.get gn
  obtain⟨vb2,vc2,g2,s2⟩:=Tc.get lO
  obtain⟨kb1,ko1,rfl⟩:=h1.addr (i:=k) (by rw[hr1.1];exact gn)
  obtain⟨kb2,ko2,rfl⟩:=h2.addr (i:=k) (by rw[Tc.1];exact lO)
  refine aE (aM (aU (aM ?_)))
  refine fD [(0,0),(1,0),(2,0),(3,0),(4,0),(5,0),(6,0),(7,0),(8,2),(9,2)] ?_
  refine au F (aN F) (au F (aN F) (au F (zh underlying22 cV F F gn) (au F (mQ underlying56 F F h1 g1) (au F (aN F) (au F (aN F) (au F (zh underlying22 cV F F lO) (au F (mQ underlying56 F F h2 g2) ?_)))))))
  have qC:=fun(w1:World) (hI:Inv w [] w1)=>H8 w1 Yr vb2 Ys vc2 rs[k] ss[k] (hI.sl s1) (hI.sl s2) (vY _ (aQ gn))
  refine b_ F F (bl XD (aX qC) F ?_)
  clear qC
  rintro v O' ⟨N,rfl,rfl,rfl⟩
  refine b_ F F (d_ F F (jh F) ?_)
  refine cw ?_
  refine aP (p:= ¬rs[k]=ss[k]) (ax Value.bool (by simp)) (fun hc=>?_) (fun hc=>?_)
  ·refine aM ?_
   refine a7 (aj F (ae (aK ?_)))
   refine aS (.bool false) Tryz.results43 F ?_
   exact⟨ax Value.bool (ak (fun e=>hc (by subst e;rfl))).symm,F⟩
  refine aE (a7 (ah F (ad (lz F F (by omega)) (aj F (ae ?_)))))
  refine⟨k+1,by omega,F,by omega,?_,⟨F,F,F,trivial⟩⟩
  rw[aH gn,aH lO,he]
  exact ax _ (ax (fun z=>[z]) (Classical.not_not.1 hc))
 have xC: ¬k<rs.length:=by omega
 refine cK ?_
 refine ai (aj F (ae (aK ?_)))
 refine aS (.bool true) Tryz.results43 F ?_
 exact⟨ax Value.bool (ay (show rs=ss by rw[bw (by omega),bw (by omega)]at he;exact he)).symm,F⟩
theorem J8 (w:World) (d e:cU) (QY QZ Q0 sC:Option Addr) (TK TL TM sO:Nat) (vs us:List Value) (h1:jt w d QY vs Q0) (h2:jt w e QZ us sC) (hb:d.next.length<9223372036854775807) (vY: ∀r∈d.next,r.length<9223372036854775807) (yw:d.aY.length<9223372036854775807):
  cH Tryz.prog 16 [.agg (fw d QY TK Q0 TM).toArray,.agg (fw e QZ TL sC sO).toArray] w fun v N=>v=.bool (decide (d=e))∧True:=by
 refine aF func16 F ntmps16 F ?_
 refine ai (ao F (dG (cs:=[(vI d.vars),(vI d.start),(.slice QY d.next.length TK),(.slice Q0 d.aY.length TM)]) F F (fun b1=>?_)))
 refine ao F (dG (cs:=[(vI e.vars),(vI e.start),(.slice QZ e.next.length TL),(.slice sC e.aY.length sO)]) F F (fun b2=>?_))
 refine aj F (ae (ai (ad (a_ underlying25 F bj F F) (ad (bi 1 underlying3 F F F F) (ad (a_ underlying25 F bj F F) (ad (bi 0 underlying3 F F F F) ?_))))))
 by_cases e1:d.vars=e.vars
 ·refine ad (aB (bJ F F) (ay e1)) ?_
  refine ah F (aG F F (a_ underlying25 F bj F F) (aG F F (bi 1 underlying3 F F F F) (aG F F (a_ underlying25 F bj F F) (aG F F (bi 0 underlying3 F F F F) ?_))))
  by_cases e2:d.start=e.start
  ·refine aG F F (aB (bJ F F) (ay e2)) ?_
   refine ad (cA F F) (ah F (aG F F (a_ underlying25 F fz F F) (aG F F (bi 1 underlying22 F F F F) (aG F F (a_ underlying25 F fz F F) (aG F F (bi 0 underlying22 F F F F) ?_)))))
   by_cases e3:d.next=e.next
   ·let eP:List Lx.Item:=[oI b2 25 [(vI e.vars),(vI e.start),(.slice QZ e.next.length TL),(.slice sC e.aY.length sO)],oI b1 25 [(vI d.vars),(vI d.start),(.slice QY d.next.length TK),(.slice Q0 d.aY.length TM)]]
    have LC:=fun(w1:World) (hI:Inv w eP w1)=>zR w1 QY QZ TK TL vs us d.next e.next (hI.sl h1.outer) (hI.rows h1.rows) (hI.sl h2.outer) (hI.rows h2.rows) hb vY
    refine iD F F F (bl QO (aX LC) F ?_)
    clear LC
    rintro v O' ⟨N,rfl,rfl,rfl⟩
    rw[ay e3]
    refine ad (cA F F) (ah F (aG F F (a_ underlying25 F dA F F) (aG F F (bi 1 underlying23 F F F F) (aG F F (a_ underlying25 F dA F F) (aG F F (bi 0 underlying23 F F F F) ?_)))))
    by_cases e4:d.aY=e.aY
    ·have tw:=fun(w1:World) (hI:Inv w eP w1)=>xO w1 Q0 sC TM sO d.aY e.aY (hI.sl h1.aY) (hI.sl h2.aY) yw
     refine iD F F F (bl QP (aX tw) F ?_)
     clear tw
     rintro v O' ⟨N,rfl,rfl,rfl⟩
     rw[ay e4]
     refine ad (cA F F) (aj F (ae (aK ?_)))
     refine aS (.bool true) Tryz.results16 F ?_
     refine⟨ax Value.bool (ay ?_).symm,trivial⟩
     cases d;cases e;simp only at e1 e2 e3 e4;rw[e1,e2,e3,e4]
    have tw:=fun(w1:World) (hI:Inv w [oI b2 25 [(vI e.vars),(vI e.start),(.slice QZ e.next.length TL),(.slice sC e.aY.length sO)],oI b1 25 [(vI d.vars),(vI d.start),(.slice QY d.next.length TK),(.slice Q0 d.aY.length TM)]] w1)=>xO w1 Q0 sC TM sO d.aY e.aY (hI.sl h1.aY) (hI.sl h2.aY) yw
    refine iD F F F (bl QP (aX tw) F ?_)
    clear tw
    rintro v O' ⟨N,rfl,rfl,rfl⟩
    rw[ak e4]
    refine ad (cA F F) (aj F (ae (aK ?_)))
    refine aS (.bool false) Tryz.results16 F ?_
    exact⟨ax Value.bool (ak (fun q=>e4 (ax cU.aY q))).symm,trivial⟩
   have LC:=fun(w1:World) (hI:Inv w [oI b2 25 [(vI e.vars),(vI e.start),(.slice QZ e.next.length TL),(.slice sC e.aY.length sO)],oI b1 25 [(vI d.vars),(vI d.start),(.slice QY d.next.length TK),(.slice Q0 d.aY.length TM)]] w1)=>zR w1 QY QZ TK TL vs us d.next e.next (hI.sl h1.outer) (hI.rows h1.rows) (hI.sl h2.outer) (hI.rows h2.rows) hb vY
   refine iD F F F (bl QO (aX LC) F ?_)
   clear LC
   rintro v O' ⟨N,rfl,rfl,rfl⟩
   rw[ak e3]
   refine ad (cA F F) (ah F (aV F F (aV F F (aV F F (aV F F (aV F F (ad (cg F F) (aj F (ae (aK ?_))))))))))
   refine aS (.bool false) Tryz.results16 F ?_
   exact⟨ax Value.bool (ak (fun q=>e3 (ax cU.next q))).symm,trivial⟩
  refine aG F F (aB (bJ F F) (ak e2)) (ad (cA F F) (ah F (aV F F (aV F F (aV F F (aV F F (aV F F (ad (cg F F) (ah F ?_)))))))))
  refine aV F F (aV F F (aV F F (aV F F (aV F F (ad (cg F F) (aj F (ae (aK ?_))))))))
  refine aS (.bool false) Tryz.results16 F ?_
  exact⟨ax Value.bool (ak (fun q=>e2 (ax cU.start q))).symm,trivial⟩
 refine ad (aB (bJ F F) (ak e1)) (ah F (aV F F (aV F F (aV F F (aV F F (aV F F (ad (cg F F) (ah F (aV F F ?_)))))))))
 refine aV F F (aV F F (aV F F (aV F F (ad (cg F F) (ah F (aV F F (aV F F (aV F F ?_))))))))
 refine aV F F (aV F F (ad (cg F F) (aj F (ae (aK ?_)))))
 refine aS (.bool false) Tryz.results16 F ?_
 exact⟨ax Value.bool (ak (fun q=>e1 (ax cU.vars q))).symm,trivial⟩
end Go.Proofs.YtgdbfideeeegmaaGreatDoor

