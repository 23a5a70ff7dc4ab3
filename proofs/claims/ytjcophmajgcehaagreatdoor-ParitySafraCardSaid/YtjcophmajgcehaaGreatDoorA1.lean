/- Contracts. -/
import Derived.Shelf.Strconv.Itoa3
import Derived.Lib.AppendIntMem
import Derived.Lib.TrailingZeros
import Derived.OpenShut
import Derived.Deep.DeepHandedRow
import Derived.Deep.Matrix
import Derived.Deep.Grids
import Derived.WideKeyArgs
import Derived.SizedLaws
import Derived.Deep.Slices
import Derived.Lib.BitFns
import Derived.Test.YtjcophmajgcehaaGreatDoorA0
set_option linter.all false
set_option maxHeartbeats 8000000
set_option maxRecDepth 20000
namespace Go.Lx
open Go.RowKit
def Ra (nx:List (List Int)) (ms:List Nat) (k v:Nat):Prop:=v<nx.length∧(ms.getD v 0).testBit k=true
def na (nx:List (List Int)):Prop:= ∀r∈nx,∀x∈r,0≤x∧x<(nx.length:Int)
theorem oh {nx:List (List Int)} (h:na nx) {u v:Nat} (he:ie nx u v):u<nx.length∧v<nx.length:=by
 obtain⟨r,h1,h2⟩:=he
 obtain⟨hl,e⟩:=List.getElem?_eq_some_iff.1 h1
 have:=h r (by rw[←e];exact ap hl) _ h2
 exact⟨hl,by omega⟩
section
variable {nx:List (List Int)} {ms:List Nat} {m cO:Nat} {cn:List Nat}
abbrev vP (nx:List (List Int)) (cn:List Nat) (cO:Nat):Prop:=pT nx.length (ie nx) (fun v=>((fn cn v:Nat):Int)) cO
def seen (nx:List (List Int)) (k j v u:Nat):Prop:=(v<k∧ie nx v u)∨(v=k∧(u:Int)∈(nx.getD k []).take j)
structure Kb (nx:List (List Int)) (cn:List Nat) (cO k j:Nat) (cy:List Bool):Prop where
 l:cy.length=cO
 h: ∀c,cy.getD c false=true↔ ∃v u,seen nx k j v u∧fn cn v=c∧fn cn u=c
theorem Kb.start:Kb nx cn cO 0 0 (List.replicate cO false):=by
 refine⟨by simp,fun c=>⟨fun h=>?_,?_⟩⟩
 ·rw[aj,List.getElem?_replicate]at h
  split at h<;>simp at h
 ·rintro⟨v,u,h,_⟩
  rcases h with h|h
  ·omega
  ·simp at h
theorem OB {k v u:Nat} (hk:k<nx.length):seen nx k nx[k].length v u↔seen nx (k+1) 0 v u:=by
 unfold seen
 have hd:nx.getD k []=nx[k]:=getD_at hk
 rw[hd,aN (aV _)]
 constructor
 ·rintro(h|⟨rfl,h⟩)
  ·exact .inl ⟨by omega,h.2⟩
  ·exact .inl ⟨by omega,uu hk h⟩
 ·rintro(h|h)
  ·by_cases e:v=k
   ·subst e
    obtain⟨r,h1,h2⟩:=h.2
    rw[ah hk]at h1
    cases h1
    exact .inr ⟨F,h2⟩
   ·exact .inl ⟨by omega,h.2⟩
  ·simp at h
theorem K4 {k j v u:Nat} (hk:k<nx.length) (hj:j<nx[k].length) {x:Nat} (hx:nx[k][j]=(x:Int)):seen nx k (j+1) v u↔seen nx k j v u∨(v=k∧u=x):=by
 unfold seen
 have hd:nx.getD k []=nx[k]:=getD_at hk
 rw[hd,an hj,cI,bM,hx]
 constructor
 ·rintro(h|⟨h1,h2|h2⟩)
  ·exact .inl (.inl h)
  ·exact .inl (.inr ⟨h1,h2⟩)
  ·exact .inr ⟨h1,by omega⟩
 ·rintro((h|h)|h)
  ·exact .inl h
  ·exact .inr ⟨h.1,.inl h.2⟩
  ·exact .inr ⟨h.1,.inr (by omega)⟩
theorem Kb.row {cy:List Bool} {k j:Nat} (h:Kb nx cn cO k j cy) (hk:k<nx.length) (hj: ¬j<nx[k].length) (zX:j≤nx[k].length):Kb nx cn cO (k+1) 0 cy:=by
 have:j=nx[k].length:=by omega
 subst this
 exact⟨h.l,fun c=>by rw[h.h];simp only[OB hk]⟩
theorem Kb.step {cy:List Bool} {k j x:Nat} (h:Kb nx cn cO k j cy) (hk:k<nx.length) (hj:j<nx[k].length) (hx:nx[k][j]=(x:Int)) (hc:fn cn k<cO) {b:Bool} (hb:b=true↔cy.getD (fn cn k) false=true∨fn cn x=fn cn k):Kb nx cn cO k (j+1) (cy.set (fn cn k) b):=by
 refine⟨by simp[h.l],fun c=>?_⟩
 have hs:=HP (a:=b) (l:=cy) (v:=fn cn k) (by rw[h.l];exact hc) c
 rw[show(cy.set (fn cn k) b).getD c false=fb (cy.set (fn cn k) b) c from F,hs]
 simp only[K4 hk hj hx]
 by_cases e:c=fn cn k
 ·subst e
  rw[aA F,hb,h.h]
  constructor
  ·rintro(⟨v,u,h1,h2,h3⟩|h1)
   ·exact⟨v,u,.inl h1,h2,h3⟩
   ·exact⟨k,x,.inr ⟨F,F⟩,F,h1⟩
  ·rintro⟨v,u,h1|⟨rfl,rfl⟩,h2,h3⟩
   ·exact .inl ⟨v,u,h1,h2,h3⟩
   ·exact .inr h3
 ·rw[ar e,show fb cy c=cy.getD c false from F,h.h]
  constructor
  ·rintro⟨v,u,h1,h2,h3⟩
   exact⟨v,u,.inl h1,h2,h3⟩
  ·rintro⟨v,u,h1|⟨rfl,rfl⟩,h2,h3⟩
   ·exact⟨v,u,h1,h2,h3⟩
   ·exact absurd h2.symm e
structure Rm (nx:List (List Int)) (ms cn:List Nat) (m cO k:Nat) (ha:List Nat):Prop where
 l:ha.length=cO
 b: ∀c,ha.getD c 0<2^m
 h: ∀c i,(ha.getD c 0).testBit i=true↔ ∃v,v<k∧fn cn v=c∧(ms.getD v 0).testBit i=true
theorem Rm.start:Rm nx ms cn m cO 0 (List.replicate cO 0):=by
 have h0: ∀c,(List.replicate cO 0).getD c 0=0:=fun c=>by
  rw[aj,List.getElem?_replicate];split<;>rfl
 refine⟨by simp,fun c=>by rw[h0];exact Nat.two_pow_pos m,fun c i=>⟨fun h=>?_,?_⟩⟩
 ·rw[h0]at h;simp at h
 ·rintro⟨v,h,_⟩;omega
theorem Rm.step {ha:List Nat} {k:Nat} (h:Rm nx ms cn m cO k ha) (hc:fn cn k<cO) (hm:ms.getD k 0<2^m) {a:Nat} (mH:a=ha.getD (fn cn k) 0|||ms.getD k 0):Rm nx ms cn m cO (k+1) (ha.set (fn cn k) a):=by
 have hs:=fun c=>kv (a:=a) (l:=ha) (v:=fn cn k) (by rw[h.l];exact hc) c
 have hs': ∀c,(ha.set (fn cn k) a).getD c 0=if c=fn cn k then a else ha.getD c 0:=hs
 refine⟨by simp[h.l],fun c=>?_,fun c i=>?_⟩
 ·rw[hs'];split
  ·subst mH;exact Nat.or_lt_two_pow (h.b _) hm
  ·exact h.b c
 ·rw[hs']
  by_cases e:c=fn cn k
  ·subst e
   rw[aA F,mH,Nat.testBit_or,Bool.or_eq_true,h.h]
   constructor
   ·rintro(⟨v,h1,h2,h3⟩|h1)
    ·exact⟨v,by omega,h2,h3⟩
    ·exact⟨k,by omega,F,h1⟩
   ·rintro⟨v,h1,h2,h3⟩
    by_cases e:v=k
    ·subst e;exact .inr h3
    ·exact .inl ⟨v,by omega,h2,h3⟩
  ·rw[ar e,h.h]
   constructor
   ·rintro⟨v,h1,h2,h3⟩;exact⟨v,by omega,h2,h3⟩
   ·rintro⟨v,h1,h2,h3⟩
    by_cases e':v=k
    ·subst e';exact absurd h2.symm e
    ·exact⟨v,by omega,h2,h3⟩
theorem OC {a m:Nat} (h:a<2^m):a=2^m-1↔ ∀i,i<m→a.testBit i=true:=by
 constructor
 ·rintro rfl i hi;rw[Nat.testBit_two_pow_sub_one];simpa using hi
 ·intro hb
  apply Nat.eq_of_testBit_eq
  intro i
  rw[Nat.testBit_two_pow_sub_one]
  by_cases hi:i<m
  ·rw[hb i hi];simp[hi]
  ·rw[Nat.testBit_lt_two_pow (du h (dw (by omega) (by omega)))];simp[hi]
theorem Eb (hC:vP nx cn cO) (jk:na nx) {cy:List Bool} {ha:List Nat} (hy:Kb nx cn cO nx.length 0 cy) (hh:Rm nx ms cn m cO nx.length ha) {v c:Nat} (hv:v<nx.length) (hc:fn cn v=c):
  (cy.getD c false=true∧ha.getD c 0=2^m-1)↔Ea (ie nx) m (Ra nx ms) v:=by
 rw[K3 hC (fun u v h=>oh jk h) (fun k v h=>h.1) hv,hy.h,OC (hh.b c)]
 constructor
 ·rintro⟨⟨a,b,h1,h2,h3⟩,h4⟩
  refine⟨⟨a,b,?_,by show((fn cn a:Nat):Int)=fn cn v;omega,by show((fn cn b:Nat):Int)=fn cn v;omega⟩,fun k hk=>?_⟩
  ·rcases h1 with h1|⟨rfl,h1⟩
   ·exact h1.2
   ·simp at h1
  ·obtain⟨u,h5,h6,h7⟩:=(hh.h c k).1 (h4 k hk)
   exact⟨u,⟨h5,h7⟩,by show((fn cn u:Nat):Int)=fn cn v;omega⟩
 ·rintro⟨⟨a,b,h1,h2,h3⟩,h4⟩
  refine⟨⟨a,b,.inl ⟨(oh jk h1).1,h1⟩,by have:((fn cn a:Nat):Int)=fn cn v:=h2;omega,by have:((fn cn b:Nat):Int)=fn cn v:=h3;omega⟩,fun k hk=>?_⟩
  obtain⟨u,h5,h6⟩:=h4 k hk
  exact(hh.h c k).2 ⟨u,h5.1,by have:((fn cn u:Nat):Int)=fn cn v:=h6;omega,h5.2⟩
structure BY (nx:List (List Int)) (cn:List Nat) (cO k:Nat) (os:List (List Int)):Prop where
 l:os.length=cO
 n: ∀c,(os.getD c []).length≤k
 h: ∀c x,c<cO→(x∈os.getD c []↔ ∃v:Nat,x=(v:Int)∧v<k∧fn cn v=c)
theorem BY.start:BY nx cn cO 0 (List.replicate cO []):=by
 have h0: ∀c,(List.replicate cO ([]:List Int)).getD c []=[]:=fun c=>by
  rw[aj,List.getElem?_replicate];split<;>rfl
 refine⟨by simp,fun c=>by rw[h0];exact aV _,fun c x hc=>?_⟩
 rw[h0]
 constructor
 ·intro h;cases h
 ·rintro⟨v,_,h,_⟩;omega
theorem BY.step {os:List (List Int)} {k:Nat} (h:BY nx cn cO k os) (hc:fn cn k<cO):BY nx cn cO (k+1) (os.set (fn cn k) (os.getD (fn cn k) []++[(k:Int)])):=by
 have hs: ∀c,(os.set (fn cn k) (os.getD (fn cn k) []++[(k:Int)])).getD c []=if c=fn cn k then os.getD (fn cn k) []++[(k:Int)]else os.getD c []:=fun c=>by
  rw[aj,List.getElem?_set]
  by_cases e:fn cn k=c
  ·subst e;rw[aA F,aA (by rw[h.l];exact hc),aA F];rfl
  ·rw[ar e,ar (fun h=>e h.symm)];simp
 refine⟨by simp[h.l],fun c=>?_,fun c x hcc=>?_⟩
 ·rw[hs];split
  ·have:=h.n (fn cn k);simp;exact this
  ·have:=h.n c;omega
 ·rw[hs]
  by_cases e:c=fn cn k
  ·subst e
   rw[aA F,cI,bM,h.h _ _ hc]
   constructor
   ·rintro(⟨v,h1,h2,h3⟩|rfl)
    ·exact⟨v,h1,by omega,h3⟩
    ·exact⟨k,F,by omega,F⟩
   ·rintro⟨v,h1,h2,h3⟩
    by_cases e:v=k
    ·subst e;exact .inr h1
    ·exact .inl ⟨v,h1,by omega,h3⟩
  ·rw[ar e,h.h c x hcc]
   constructor
   ·rintro⟨v,h1,h2,h3⟩;exact⟨v,h1,by omega,h3⟩
   ·rintro⟨v,h1,h2,h3⟩
    by_cases e':v=k
    ·subst e';exact absurd h3.symm e
    ·exact⟨v,h1,by omega,h3⟩
def Ka (nx:List (List Int)) (ms:List Nat) (m v:Nat):Prop:=Ea (ie nx) m (Ra nx ms) v
def wX (nx:List (List Int)) (ms:List Nat) (m v:Nat):Prop:=l7 (ie nx) m (Ra nx ms) v
theorem wX.Ab {u v:Nat} (h:wX nx ms m u) (he:ie nx v u):wX nx ms m v:=l7.back h (.one he)
theorem wX.same (hC:vP nx cn cO) {u v:Nat} (h:wX nx ms m u) (hv:v<nx.length) (hu:u<nx.length) (e:fn cn v=fn cn u):wX nx ms m v:=l7.back h (hC.wL v u hv hu (by show((fn cn v:Nat):Int)=fn cn u;omega))
theorem Ka.live {v:Nat} (h:Ka nx ms m v):wX nx ms m v:=⟨v,.refl _,h⟩
structure WC (nx:List (List Int)) (ms:List Nat) (m:Nat) (cn:List Nat) (cO c:Nat) (gs ls cs:List Bool):Prop where
 lg:gs.length=cO
 ll:ls.length=nx.length
 lc:cs.length=nx.length
 g: ∀v,v<nx.length→fn cn v<c→(gs.getD (fn cn v) false=true↔wX nx ms m v)
 li: ∀v,v<nx.length→fn cn v<c→(ls.getD v false=true↔wX nx ms m v)
 co: ∀v,v<nx.length→fn cn v<c→(cs.getD v false=true↔Ka nx ms m v)
structure QV (nx:List (List Int)) (ms:List Nat) (m:Nat) (cn:List Nat) (cO c:Nat) (row:List Int) (j:Nat) (gs ls cs:List Bool):Prop where
 lg:gs.length=cO
 ll:ls.length=nx.length
 lc:cs.length=nx.length
 g: ∀v,v<nx.length→fn cn v<c→(gs.getD (fn cn v) false=true↔wX nx ms m v)
 li: ∀v,v<nx.length→fn cn v<c→(ls.getD v false=true↔wX nx ms m v)
 co: ∀v,v<nx.length→(fn cn v<c∨(v:Int)∈row.take j)→(cs.getD v false=true↔Ka nx ms m v)
 b0: ∀v,v<nx.length→fn cn v=c→(gs.getD c false=true↔Ka nx ms m v)
theorem ma {l:List Bool} {v:Nat} {a:Bool} (h:v<l.length) (x:Nat):(l.set v a).getD x false=if x=v then a else l.getD x false:=HP h x
theorem WC.begin {c:Nat} {gs ls cs:List Bool} (h:WC nx ms m cn cO c gs ls cs) (hc:c<cO) {row:List Int} {b:Bool} (hb: ∀v,v<nx.length→fn cn v=c→(b=true↔Ka nx ms m v)):QV nx ms m cn cO c row 0 (gs.set c b) ls cs:=by
 have hs:=fun x=>ma (a:=b) (l:=gs) (v:=c) (by rw[h.lg];exact hc) x
 refine⟨by simp[h.lg],h.ll,h.lc,fun v hv fM=>?_,h.li,fun v hv mP=>?_,fun v hv e=>?_⟩
 ·rw[hs,ar (by omega)];exact h.g v hv fM
 ·rcases mP with mP|mP
  ·exact h.co v hv mP
  ·simp at mP
 ·rw[hs,aA F];exact hb v hv e
theorem QV.Ec {c j:Nat} {gs ls cs:List Bool} {row:List Int} (h:QV nx ms m cn cO c row j gs ls cs) (hj:j<row.length) {x:Nat} (hx:row[j]=(x:Int)) (jm:x<nx.length) (DD:fn cn x=c) {b:Bool} (hb:b=gs.getD c false):QV nx ms m cn cO c row (j+1) gs ls (cs.set x b):=by
 have hs:=fun y=>ma (a:=b) (l:=cs) (v:=x) (by rw[h.lc];exact jm) y
 refine⟨h.lg,h.ll,by simp[h.lc],h.g,h.li,fun v hv mP=>?_,h.b0⟩
 rw[hs]
 by_cases e:v=x
 ·subst e;rw[aA F,hb];exact h.b0 v jm DD
 ·rw[ar e]
  refine h.co v hv ?_
  rcases mP with mP|mP
  ·exact .inl mP
  ·rw[an hj,cI,bM,hx]at mP
   rcases mP with mP|mP
   ·exact .inr mP
   ·exact absurd (by omega) e
structure Ha (nx:List (List Int)) (ms:List Nat) (m:Nat) (cn:List Nat) (cO c:Nat) (row:List Int) (j i:Nat) (gs ls cs:List Bool):Prop where
 lg:gs.length=cO
 ll:ls.length=nx.length
 lc:cs.length=nx.length
 g: ∀v,v<nx.length→fn cn v<c→(gs.getD (fn cn v) false=true↔wX nx ms m v)
 li: ∀v,v<nx.length→fn cn v<c→(ls.getD v false=true↔wX nx ms m v)
 co: ∀v,v<nx.length→fn cn v≤c→(cs.getD v false=true↔Ka nx ms m v)
 b0: ∀v,v<nx.length→fn cn v=c→Ka nx ms m v→gs.getD c false=true
 sd:gs.getD c false=true→ ∀v,v<nx.length→fn cn v=c→wX nx ms m v
 pr: ∀v u:Nat,(((v:Int)∈row.take j∧ie nx v u)∨(row[j]? =some (v:Int)∧(u:Int)∈(nx.getD v []).take i))→fn cn u<c→wX nx ms m u→gs.getD c false=true
theorem QV.toD {c j:Nat} {gs ls cs:List Bool} {row:List Int} (h:QV nx ms m cn cO c row j gs ls cs) (hj: ¬j<row.length) (jU: ∀v:Nat,v<nx.length→fn cn v=c→(v:Int)∈row):Ha nx ms m cn cO c row 0 0 gs ls cs:=by
 refine⟨h.lg,h.ll,h.lc,h.g,h.li,fun v hv mB=>?_,fun v hv e hc=>(h.b0 v hv e).2 hc,fun hg v hv e=>Ka.live ((h.b0 v hv e).1 hg),fun v u mP=>?_⟩
 ·refine h.co v hv ?_
  by_cases e:fn cn v=c
  ·right;rw[aN (by omega)];exact jU v hv e
  ·left;omega
 ·rcases mP with mP|mP
  ·simp at mP
  ·simp at mP
theorem Ha.step {c j i:Nat} {gs ls cs:List Bool} {row:List Int} (hC:vP nx cn cO) (jk:na nx) (h:Ha nx ms m cn cO c row j i gs ls cs) (hc:c<cO) (hj:j<row.length) {x u:Nat} (hx:row[j]=(x:Int)) (jm:x<nx.length) (DD:fn cn x=c) (hi:i<nx[x].length) (hu:nx[x][i]=(u:Int)) {b:Bool} (hb:b=true↔gs.getD c false=true∨gs.getD (fn cn u) false=true):
  Ha nx ms m cn cO c row j (i+1) (gs.set c b) ls cs:=by
 have hs:=fun y=>ma (a:=b) (l:=gs) (v:=c) (by rw[h.lg];exact hc) y
 have hE:ie nx x u:=uu jm (by rw[←hu];exact ap hi)
 have D9:=(oh jk hE).2
 have mB:fn cn u≤c:=by
  have:=hC.wk x u jm hE
  have:((fn cn u:Nat):Int)≤fn cn x:=this
  omega
 refine⟨by simp[h.lg],h.ll,h.lc,fun v hv fM=>?_,h.li,h.co,fun v hv e ZB=>?_,fun hg v hv e=>?_,fun v w mP fM hL=>?_⟩
 ·rw[hs,ar (by omega)];exact h.g v hv fM
 ·rw[hs,aA F,hb];exact .inl (h.b0 v hv e ZB)
 ·rw[hs,aA F,hb]at hg
  rcases hg with hg|hg
  ·exact h.sd hg v hv e
  ·by_cases e2:fn cn u=c
   ·rw[e2]at hg;exact h.sd hg v hv e
   ·have hLu:=(h.g u D9 (by omega)).1 hg
    exact wX.same hC (hLu.Ab hE) hv jm (by omega)
 ·rw[hs,aA F,hb]
  rcases mP with mP|⟨h1,h2⟩
  ·exact .inl (h.pr v w (.inl mP) fM hL)
  ·rw[ah hj,hx]at h1
   have hvx:v=x:=by have:=cg h1;omega
   subst hvx
   rw[getD_at jm,an hi,cI,bM,hu]at h2
   rcases h2 with h2|h2
   ·exact .inl (h.pr v w (.inr ⟨by rw[ah hj,hx],by rw[getD_at jm];exact h2⟩) fM hL)
   ·have:w=u:=by omega
    subst this
    exact .inr ((h.g w D9 fM).2 hL)
theorem Ha.next {c j i:Nat} {gs ls cs:List Bool} {row:List Int} (h:Ha nx ms m cn cO c row j i gs ls cs) (hj:j<row.length) {x:Nat} (hx:row[j]=(x:Int)) (jm:x<nx.length) (hi: ¬i<nx[x].length):Ha nx ms m cn cO c row (j+1) 0 gs ls cs:=by
 refine {h with pr:=fun v u mP fM hL=>?_}
 rcases mP with⟨h1,h2⟩|⟨_,h2⟩
 ·rw[an hj,cI,bM,hx]at h1
  rcases h1 with h1|h1
  ·exact h.pr v u (.inl ⟨h1,h2⟩) fM hL
  ·have:v=x:=by omega
   subst this
   refine h.pr v u (.inr ⟨by rw[ah hj,hx],?_⟩) fM hL
   rw[getD_at jm,aN (by omega)]
   obtain⟨r,h3,h4⟩:=h2
   rw[ah jm]at h3;cases h3;exact h4
 ·simp at h2
theorem leaves (hC:vP nx cn cO) (jk:na nx) {v w:Nat} (h:gL (ie nx) v w) (hv:v<nx.length):fn cn w=fn cn v∨ ∃a b,fn cn a=fn cn v∧a<nx.length∧ie nx a b∧fn cn b<fn cn v∧gL (ie nx) b w:=by
 induction h with
 |refl=>exact .inl F
 | @step a b w e hr ih=>
  have hb:=(oh jk e).2
  have mB:fn cn b≤fn cn a:=by
   have:((fn cn b:Nat):Int)≤fn cn a:=hC.wk a b hv e
   omega
  by_cases e2:fn cn b=fn cn a
  ·rcases ih hb with h1|⟨p,q,h1,h2,h3,h4,h5⟩
   ·exact .inl (by omega)
   ·exact .inr ⟨p,q,by omega,h2,h3,by omega,h5⟩
  ·exact .inr ⟨a,b,F,hv,e,by omega,hr⟩
theorem Ha.flag {c j i:Nat} {gs ls cs:List Bool} {row:List Int} (hC:vP nx cn cO) (jk:na nx) (h:Ha nx ms m cn cO c row j i gs ls cs) (hj: ¬j<row.length) (jU: ∀v:Nat,v<nx.length→fn cn v=c→(v:Int)∈row) {v:Nat} (hv:v<nx.length) (e:fn cn v=c):gs.getD c false=true↔wX nx ms m v:=by
 refine⟨fun hg=>h.sd hg v hv e,?_⟩
 rintro⟨w,h1,h2⟩
 have hw:w<nx.length:=(pT.Ai hC (fun u v h=>oh jk h) hv h1).2
 rcases leaves hC jk h1 hv with h3|⟨a,b,h3,h4,h5,h6,h7⟩
 ·exact h.b0 w hw (by omega) h2
 ·refine h.pr a b (.inl ⟨?_,h5⟩) (by omega) ⟨w,h7,h2⟩
  rw[aN (by omega)]
  exact jU a h4 (by omega)
structure Ur (nx:List (List Int)) (ms:List Nat) (m:Nat) (cn:List Nat) (cO c:Nat) (row:List Int) (j:Nat) (gs ls cs:List Bool):Prop where
 lg:gs.length=cO
 ll:ls.length=nx.length
 lc:cs.length=nx.length
 g: ∀v,v<nx.length→fn cn v≤c→(gs.getD (fn cn v) false=true↔wX nx ms m v)
 li: ∀v,v<nx.length→(fn cn v<c∨(v:Int)∈row.take j)→(ls.getD v false=true↔wX nx ms m v)
 co: ∀v,v<nx.length→fn cn v≤c→(cs.getD v false=true↔Ka nx ms m v)
theorem Ha.toE {c j i:Nat} {gs ls cs:List Bool} {row:List Int} (hC:vP nx cn cO) (jk:na nx) (h:Ha nx ms m cn cO c row j i gs ls cs) (hj: ¬j<row.length) (jU: ∀v:Nat,v<nx.length→fn cn v=c→(v:Int)∈row):Ur nx ms m cn cO c row 0 gs ls cs:=by
 refine⟨h.lg,h.ll,h.lc,fun v hv mB=>?_,fun v hv mP=>?_,h.co⟩
 ·by_cases e:fn cn v=c
  ·rw[e];exact h.flag hC jk hj jU hv e
  ·exact h.g v hv (by omega)
 ·rcases mP with mP|mP
  ·exact h.li v hv mP
  ·simp at mP
theorem Ur.step {c j:Nat} {gs ls cs:List Bool} {row:List Int} (h:Ur nx ms m cn cO c row j gs ls cs) (hj:j<row.length) {x:Nat} (hx:row[j]=(x:Int)) (jm:x<nx.length) (DD:fn cn x=c) {b:Bool} (hb:b=gs.getD c false):Ur nx ms m cn cO c row (j+1) gs (ls.set x b) cs:=by
 have hs:=fun y=>ma (a:=b) (l:=ls) (v:=x) (by rw[h.ll];exact jm) y
 refine⟨h.lg,by simp[h.ll],h.lc,h.g,fun v hv mP=>?_,h.co⟩
 rw[hs]
 by_cases e:v=x
 ·subst e;rw[aA F,hb,←DD];exact h.g v jm (by omega)
 ·rw[ar e]
  refine h.li v hv ?_
  rcases mP with mP|mP
  ·exact .inl mP
  ·rw[an hj,cI,bM,hx]at mP
   rcases mP with mP|mP
   ·exact .inr mP
   ·exact absurd (by omega) e
theorem Ur.done {c j:Nat} {gs ls cs:List Bool} {row:List Int} (h:Ur nx ms m cn cO c row j gs ls cs) (hj: ¬j<row.length) (jU: ∀v:Nat,v<nx.length→fn cn v=c→(v:Int)∈row):WC nx ms m cn cO (c+1) gs ls cs:=by
 refine⟨h.lg,h.ll,h.lc,fun v hv fM=>h.g v hv (by omega),fun v hv fM=>?_,fun v hv fM=>h.co v hv (by omega)⟩
 refine h.li v hv ?_
 by_cases e:fn cn v=c
 ·right;rw[aN (by omega)];exact jU v hv e
 ·left;omega
theorem WC.start {gs ls cs:List Bool} (h1:gs.length=cO) (h2:ls.length=nx.length) (h3:cs.length=nx.length):WC nx ms m cn cO 0 gs ls cs:=
 ⟨h1,h2,h3,fun v _ h=>by omega,fun v _ h=>by omega,fun v _ h=>by omega⟩
theorem G8 {cp:List Int} (h: ∀v,v<cp.length→0≤fz cp v):ints cp=bn (cp.map Int.toNat):=by
 apply List.ext_getElem
 ·simp
 ·intro i h1 h2
  have hi:i<cp.length:=by simpa using h1
  have:=h i hi
  rw[OA hi]at this
  simp[bq this]
theorem J6 {cp:List Int} {cO:Nat} (hl:cp.length=nx.length) (h:pT nx.length (ie nx) (fz cp) cO) (jk:na nx):vP nx (cp.map Int.toNat) cO:=by
 have key: ∀v,v<nx.length→((fn (cp.map Int.toNat) v:Nat):Int)=fz cp v:=fun v hv=>by
  have h0:=(h.pos v hv).1
  rw[ot (by rw[ag,hl];exact hv),eV]
  rw[OA (by rw[hl];exact hv)]at h0⊢
  exact bq h0
 refine⟨fun v hv=>by rw[key v hv];exact h.pos v hv,fun u v hu he=>?_,fun u v hu hv e=>?_⟩
 ·have h1:=oh jk he
  rw[key u h1.1,key v h1.2];exact h.wk u v hu he
 ·change ((fn (cp.map Int.toNat) u:Nat):Int)=((fn (cp.map Int.toNat) v:Nat):Int)at e
  rw[key u hu,key v hv]at e;exact h.wL u v hu hv e
theorem BY.at {qs:List Rec} (h:BY nx cn cO nx.length (nums qs)) {c j:Nat} (hc:c<qs.length) (hj:j<qs[c].xs.length): ∃x:Nat,qs[c].xs[j]=(x:Int)∧x<nx.length∧fn cn x=c:=by
 have hl:=h.l
 have hq:(nums qs).getD c []=qs[c].xs:=by simp[hc]
 have:=(h.h c qs[c].xs[j] (by rw[←hl];simpa using hc)).1 (by rw[hq];exact ap hj)
 exact this
theorem BY.all {qs:List Rec} (h:BY nx cn cO nx.length (nums qs)) {c:Nat} (hc:c<qs.length): ∀v:Nat,v<nx.length→fn cn v=c→(v:Int)∈qs[c].xs:=fun v hv e=>by
 have hl:=h.l
 have hq:(nums qs).getD c []=qs[c].xs:=by simp[hc]
 rw[←hq]
 exact(h.h c v (by rw[←hl];simpa using hc)).2 ⟨v,F,hv,e⟩
theorem BY.ql {qs:List Rec} {k:Nat} (h:BY nx cn cO k (nums qs)):qs.length=cO:=by simpa using h.l
theorem BY.rl {qs:List Rec} {k:Nat} (h:BY nx cn cO k (nums qs)) {c:Nat} (hc:c<qs.length):qs[c].xs.length≤k:=by
 have:=h.n c
 rwa[show(nums qs).getD c []=qs[c].xs by simp[hc]]at this
theorem BY.push {qs:List Rec} {k:Nat} (h:BY nx cn cO k (nums qs)) (hk:k<cn.length) (hc:cn[k]<cO) (b:Option Addr) (c:Nat):BY nx cn cO (k+1) (nums (qs.set cn[k] ⟨b,c,(qs[cn[k]]'(by rw[h.ql];exact hc)).xs++[(k:Int)]⟩)):=by
 have hf:fn cn k=cn[k]:=ot hk
 have:=h.step (by rw[hf];exact hc)
 rw[hf]at this
 rw[El]
 have hq:(nums qs).getD cn[k] []=(qs[cn[k]]'(by rw[h.ql];exact hc)).xs:=by simp[h.ql,hc]
 rwa[hq]at this
theorem gb {l:List Bool} {v:Nat} (h:v<l.length):l.getD v false=l[v]:=by simp[h]
theorem aaF {x m:Nat} (h:x<2^m) (hm:m≤8):x<256:=du h (dw (n:=2) (by omega) hm)
end
abbrev KI:Int→Value:=fun a=>.int .i64 a
abbrev VU:Nat→Value:=fun x=>.int .u64 (x:Int)
theorem sbI (a:Int):Instr.sameBits 10000 (KI a) (KI a)=true:=by simp[Instr.sameBits]
def oG:List (List Int)→Int→Nat
 | [],_=>0
 |S::r,s=>(if s∈S then 1 else 0)+2*oG r s
theorem jf: ∀(A:List (List Int)) (s:Int) (i:Nat),(oG A s).testBit i=true↔ ∃S,A[i]? =some S∧s∈S
 | [],s,i=>by simp[oG]
 |S::r,s,0=>by
  rw[Nat.testBit_zero]
  simp only[oG,bo,List.getElem?_cons_zero,Option.some.injEq,exists_eq_left']
  split<;>rename_i h
  ·simp[h]
  ·simp[h]
 |S::r,s,i+1=>by
  have ih:=jf r s i
  rw[Nat.testBit_succ]
  simp only[oG,List.getElem?_cons_succ]
  rw[←ih]
  have:((if s∈S then 1 else 0)+2*oG r s)/2=oG r s:=by split<;>omega
  rw[this]
theorem xz: ∀(A:List (List Int)) (s:Int),oG A s<2^A.length
 | [],_=>by simp[oG]
 |S::r,s=>by
  have:=xz r s
  simp only[oG,cd,Nat.pow_succ]
  split<;>omega
theorem CI {a b:Nat} (h: ∀i,a.testBit i=true↔b.testBit i=true):a=b:=by
 apply Nat.eq_of_testBit_eq
 intro i
 cases h1:a.testBit i<;>cases h2:b.testBit i
 ·rfl
 ·exact absurd ((h i).2 h2) (by rw[h1];decide)
 ·exact absurd ((h i).1 h1) (by rw[h2];decide)
 ·rfl
theorem yO {α:Type} {A:List α} {B:α} {i:Nat}:(A++[B])[i]? =if i<A.length then A[i]? else if i=A.length then some B else none:=by
 by_cases h:i<A.length
 ·rw[aA h,bG h]
 ·rw[ar h,bN (by omega)]
  by_cases e:i=A.length
  ·subst e;simp
  ·rw[ar e]
   have:i-A.length≠0:=by omega
   rw[List.getElem?_singleton,ar (by omega)]
theorem Yh {A:List (List Int)} {B:List Int} {a:Int}:oG (A++[B]) a|||1*2^A.length=oG (A++[B++[a]]) a:=by
 apply CI
 intro i
 rw[Nat.testBit_or,Bool.or_eq_true,jf,jf,Nat.one_mul,Nat.testBit_two_pow]
 simp only[yO,bo]
 by_cases h:i<A.length
 ·simp[h];intro e;omega
 ·by_cases e:i=A.length
  ·subst e;simp
  ·simp[h,e];omega
theorem Yi {A:List (List Int)} {B:List Int} {a s:Int} (h:s≠a):oG (A++[B++[a]]) s=oG (A++[B]) s:=by
 apply CI
 intro i
 rw[jf,jf]
 simp only[yO]
 by_cases h1:i<A.length
 ·simp[h1]
 ·by_cases e:i=A.length
  ·subst e;simp[h]
  ·simp[h1,e]
theorem Rp {A:List (List Int)} {s:Int}:oG (A++[[]]) s=oG A s:=by
 apply CI
 intro i
 rw[jf,jf]
 simp only[yO]
 by_cases h1:i<A.length
 ·simp[h1]
 ·by_cases e:i=A.length
  ·subst e;simp
  ·rw[ar h1,ar e,dL (by omega)]
structure pA (l:List (Int×Nat)) (aa:Int→Nat):Prop where
 nd:(l.map Prod.fst).Nodup
 h: ∀s,(eN s l).getD 0=aa s
theorem Bg {α β:Type} [DecidableEq α] {a:α} {v:β} (s:α): ∀(l:List (α×β)),eN s (gH a v l)=if s=a then some v else eN s l
 | []=>by simp only[gH,eN]
 |q::l=>by
  have ih:=Bg (a:=a) (v:=v) s l
  by_cases h:a=q.1
  ·subst h
   simp only[gH,if_true,eN]
   by_cases e:s=q.1<;>simp[e]
  ·simp only[gH,ar h,eN,ih]
   by_cases e:s=q.1
   ·subst e;simp[Ne.symm h]
   ·simp[e]
theorem u_ {α β:Type} [DecidableEq α] {a:α} {v:β}: ∀(l:List (α×β)),(gH a v l).map Prod.fst=if a∈l.map Prod.fst then l.map Prod.fst else l.map Prod.fst++[a]
 | []=>by simp[gH]
 |q::l=>by
  have ih:=u_ (a:=a) (v:=v) l
  by_cases h:a=q.1
  ·subst h;simp[gH]
  ·have e:gH a v (q::l)=q::gH a v l:=by simp only[gH];rw[ar h]
   rw[e,bL,ih,bL]
   by_cases hm:a∈l.map Prod.fst
   ·rw[aA hm,aA (List.mem_cons_of_mem _ hm)]
   ·rw[ar hm,ar (fun q9=>(List.mem_cons.1 q9).elim h hm)];rfl
theorem pA.put {l:List (Int×Nat)} {aa:Int→Nat} (h:pA l aa) (a:Int) (v:Nat):pA (gH a v l) (fun s=>if s=a then v else aa s):=by
 refine⟨?_,fun s=>?_⟩
 ·rw[u_];split
  ·exact h.nd
  ·rename_i hn
   rw[List.nodup_append]
   exact⟨h.nd,by simp,fun x hx y hy e=>by simp at hy;subst hy;subst e;exact hn hx⟩
 ·rw[Bg]
  by_cases e:s=a
  ·simp[e]
  ·simp[e,h.h]
theorem pA.congr {l:List (Int×Nat)} {aa G:Int→Nat} (h:pA l aa) (e: ∀s,aa s=G s):pA l G:=⟨h.nd,fun s=>(h.h s).trans (e s)⟩
theorem pA.nil:pA [] (fun _=>0):=⟨by simp,fun s=>rfl⟩
theorem Fl {α β:Type} [DecidableEq α]: ∀ {l:List (α×β)} {q:α×β},(l.map Prod.fst).Nodup→q∈l→eN q.1 l=some q.2
 |p::l,q,hn,hq=>by
  simp only[bL,List.nodup_cons]at hn
  rcases List.mem_cons.1 hq with rfl|hq
  ·simp[eN]
  ·have:q.1≠p.1:=fun e=>hn.1 (by rw[←e];exact List.mem_map.2 ⟨q,hq,F⟩)
   simp only[eN,ar this]
   exact Fl hn.2 hq
theorem Bh {α β:Type} [DecidableEq α] {a:α}: ∀ {l:List (α×β)},a∉l.map Prod.fst→eN a l=none
 | [],_=>rfl
 |p::l,h=>by
  simp only[bL,dU,not_or]at h
  simp only[eN,ar h.1]
  exact Bh h.2
theorem pA.val {l:List (Int×Nat)} {aa:Int→Nat} (h:pA l aa) {q:Int×Nat} (hq:q∈l):q.2=aa q.1:=by
 rw[←h.h,Fl h.nd hq];rfl
theorem pA.out {l:List (Int×Nat)} {aa:Int→Nat} (h:pA l aa) {s:Int} (hs:s∉l.map Prod.fst):aa s=0:=by
 rw[←h.h,Bh hs];rfl
theorem pA.step {l:List (Int×Nat)} {A:List (List Int)} {B:List Int} {a:Int} (h:pA l (oG (A++[B]))):pA (gH a (oG (A++[B]) a|||1*2^A.length) l) (oG (A++[B++[a]])):=
 (h.put a _).congr fun s=>by
  split
  ·rename_i e;subst e;exact Yh
  ·rename_i e;exact(Yi e).symm
structure jp (n:Nat) (R:Nat→Int→Prop) (b:Nat) (os:List (List Int)):Prop where
 l:os.length=n
 h: ∀v x,v<n→(x∈os.getD v []↔R v x)
 b: ∀v,(os.getD v []).length≤b
theorem uv {os:List (List Int)} {v:Nat} {r:List Int} (hv:v<os.length) (c:Nat):(os.set v r).getD c []=if c=v then r else os.getD c []:=by
 rw[aj,List.getElem?_set]
 by_cases e:v=c
 ·subst e;rw[aA F,aA hv,aA F];rfl
 ·rw[ar e,ar (fun h=>e h.symm)];simp
theorem jp.push {n b:Nat} {R R':Nat→Int→Prop} {qs:List Rec} (h:jp n R b (nums qs)) {v:Nat} (hv:v<qs.length) (x:Int) (hR: ∀u y,u<n→(R' u y↔R u y∨(u=v∧y=x))) (bb:Option Addr) (cc:Nat):jp n R' (b+1) (nums (qs.set v ⟨bb,cc,qs[v].xs++[x]⟩)):=by
 have qw:v<(nums qs).length:=by simpa using hv
 have hq:(nums qs).getD v []=qs[v].xs:=by simp[hv]
 rw[El]
 refine⟨by rw[fR];exact h.l,fun u y hu=>?_,fun u=>?_⟩
 ·rw[uv qw,hR u y hu]
  by_cases e:u=v
  ·subst e;rw[aA F,cI,bM,←hq,h.h u y hu];simp
  ·rw[ar e,h.h u y hu];simp[e]
 ·rw[uv qw];split
  ·have:=h.b v;rw[hq]at this;simp;exact this
  ·have:=h.b u;omega
theorem jp.same {n b:Nat} {R R':Nat→Int→Prop} {os:List (List Int)} (h:jp n R b os) (hR: ∀u y,u<n→(R' u y↔R u y)):jp n R' b os:=⟨h.l,fun v x hv=>by rw[h.h v x hv,hR v x hv],h.b⟩
theorem jp.more {n b b':Nat} {R:Nat→Int→Prop} {os:List (List Int)} (h:jp n R b os) (hb:b≤b'):jp n R b' os:=⟨h.l,h.h,fun v=>cT (h.b v) hb⟩
theorem jp.start {n:Nat} {R:Nat→Int→Prop} (hR: ∀u y,u<n→ ¬R u y) (b:Nat):jp n R b (nums (List.replicate n ng)):=by
 have h0: ∀c,(nums (List.replicate n ng)).getD c []=[]:=fun c=>by
  rw[aj]
  simp only[nums,bc,List.getElem?_replicate];split<;>rfl
 refine⟨by simp,fun v x hv=>?_,fun v=>by rw[h0];exact aG _⟩
 rw[h0]
 constructor
 ·intro h;cases h
 ·intro h;exact absurd h (hR v x hv)
theorem jp.ql {n b:Nat} {R:Nat→Int→Prop} {qs:List Rec} (h:jp n R b (nums qs)):qs.length=n:=by simpa using h.l
theorem jp.rl {n b:Nat} {R:Nat→Int→Prop} {qs:List Rec} (h:jp n R b (nums qs)) {v:Nat} (hv:v<qs.length):qs[v].xs.length≤b:=by
 have:=h.b v
 rwa[show(nums qs).getD v []=qs[v].xs by simp[hv]]at this
theorem jp.Wm {n b:Nat} {R:Nat→Int→Prop} {os:List (List Int)} (h:jp n R b os) (hR: ∀u y,R u y→u<n) (u v:Nat):ie os u v↔R u v:=by
 constructor
 ·rintro⟨r,h1,h2⟩
  have hu:u<n:=by rw[←h.l];exact(List.getElem?_eq_some_iff.1 h1).1
  refine(h.h u v hu).1 ?_
  rw[aj,h1];exact h2
 ·intro hr
  have hu:=hR u v hr
  have:=(h.h u v hu).2 hr
  refine⟨os.getD u [],?_,this⟩
  rw[aj]
  rw[ah (by rw[h.l];exact hu)];rfl
theorem jd {α:Type} (A:List α) (e:α) (B:List α):(A++B).Sublist (A++e::B):=(ay A).append (List.sublist_cons_self e B)
theorem AA {A B:List (Int×Nat)} {e:Int×Nat} (h:((A++e::B).map Prod.fst).Nodup):((A++B).map Prod.fst).Nodup:=
 ((jd A e B).map Prod.fst).nodup h
def J2 (es:List Ed) (u:Nat) (y:Int):Prop:= ∃e∈es,e.fr=(u:Int)∧e.to=y
theorem J3 {es:List Ed} {k:Nat} (hk:k<es.length) (u:Nat) (y:Int):J2 (es.take (k+1)) u y↔J2 (es.take k) u y∨(es[k].fr=(u:Int)∧es[k].to=y):=by
 unfold J2
 rw[an hk]
 constructor
 ·rintro⟨e,h,h1⟩
  rcases List.mem_append.1 h with h|h
  ·exact .inl ⟨e,h,h1⟩
  ·rw[bM]at h;subst h;exact .inr h1
 ·rintro(⟨e,h,h1⟩|h1)
  ·exact⟨e,a_ _ h,h1⟩
  ·exact⟨es[k],bl _ (by simp),h1⟩
theorem G1 {ms:List Nat} {n:Nat} {aa:Int→Nat} {A B:List (Int×Nat)} {e:Int×Nat} (hl:ms.length=n) (h: ∀s,s<n→ms.getD s 0=if(s:Int)∈(A++e::B).map Prod.fst then 0 else aa s) (hn:((A++e::B).map Prod.fst).Nodup) (he:e.2=aa e.1) {x:Nat} (hx:e.1=(x:Int)) (Uk:x<n):
  ∀s,s<n→(ms.set x e.2).getD s 0=if(s:Int)∈(A++B).map Prod.fst then 0 else aa s:=fun s hs=>by
 have h1:=kv (a:=e.2) (l:=ms) (v:=x) (by rw[hl];exact Uk) s
 rw[show(ms.set x e.2).getD s 0=fn (ms.set x e.2) s from F,h1]
 simp only[aL,bL,List.nodup_append,List.nodup_cons,dU]at hn
 by_cases es:s=x
 ·subst es
  rw[aA F,ar,he,hx]
  rw[aL,cI,←hx]
  rintro(h2|h2)
  ·exact hn.2.2 _ h2 _ (.inl F) F
  ·exact hn.2.1.1 h2
 ·rw[ar es,show fn ms s=ms.getD s 0 from F,h s hs]
  have: ¬(s:Int)=e.1:=by rw[hx];omega
  by_cases hm:(s:Int)∈(A++B).map Prod.fst
  ·rw[aA hm,aA]
   rw[aL,cI]at hm⊢
   rcases hm with hm|hm
   ·exact .inl hm
   ·exact .inr (List.mem_cons_of_mem _ hm)
  ·rw[ar hm,ar]
   rw[aL,cI]at hm⊢
   rintro(h2|h2)
   ·exact hm (.inl h2)
   ·rw[bL,dU]at h2
    exact h2.elim this (fun h3=>hm (.inr h3))
def CJ (b:Bu) (u v:Nat):Prop:=J2 b.ao u (v:Int)
def HR (b:Bu) (k v:Nat):Prop:=v<b.ae.toNat∧ ∃S,b.aP[k]? =some S∧(v:Int)∈S
def xA (b:Bu) (v:Nat):Prop:=l7 (CJ b) b.aP.length (HR b) v
structure wC (b:Bu) (nx:List (List Int)) (ms:List Nat):Prop where
 r:jp b.ae.toNat (J2 b.ao) b.ao.length nx
 l:ms.length=b.ae.toNat
 m: ∀s,s<b.ae.toNat→ms.getD s 0=oG b.aP s
theorem wC.ok {b:Bu} {nx:List (List Int)} {ms:List Nat} (h:wC b nx ms) (hv:eJ b):na nx:=fun r hr x hx=>by
 obtain⟨i,hi,rfl⟩:=List.mem_iff_getElem.1 hr
 have hl:=h.r.l
 have:=(h.r.h i x (by omega)).1 (by rw[getD_at hi];exact hx)
 obtain⟨e,he,_,rfl⟩:=this
 have:=(hv.ed e he).2
 omega
theorem wC.Wm {b:Bu} {nx:List (List Int)} {ms:List Nat} (h:wC b nx ms) (hv:eJ b):ie nx=CJ b:=by
 funext u v
 exact propext (h.r.Wm (fun u y ⟨e,he,h1,_⟩=>by have:=(hv.ed e he).1;omega) u v)
theorem wC.mrk {b:Bu} {nx:List (List Int)} {ms:List Nat} (h:wC b nx ms):Ra nx ms=HR b:=by
 funext k v
 apply propext
 unfold Ra HR
 rw[h.r.l]
 constructor
 ·rintro⟨h1,h2⟩
  rw[h.m v h1,jf]at h2
  exact⟨h1,h2⟩
 ·rintro⟨h1,h2⟩
  exact⟨h1,by rw[h.m v h1,jf];exact h2⟩
theorem wC.liv {b:Bu} {nx:List (List Int)} {ms:List Nat} (h:wC b nx ms) (hv:eJ b) (v:Nat):wX nx ms b.aP.length v↔xA b v:=by
 unfold wX xA;rw[h.Wm hv,h.mrk]
theorem wC.lt {b:Bu} {nx:List (List Int)} {ms:List Nat} (h:wC b nx ms): ∀x∈ms,x<2^b.aP.length:=fun x hx=>by
 obtain⟨i,hi,rfl⟩:=List.mem_iff_getElem.1 hx
 have:=h.m i (by rw[←h.l];exact hi)
 rw[gd hi]at this
 rw[this];exact xz _ _
def DN (l:La) (e:Ed) (j u:Nat) (y:Int):Prop:=mw e (l.at j)∧(u:Int)=e.fr*(l.n:Int)+(j:Int)∧y=e.to*(l.n:Int)+(l.ix (j+1):Int)
def qC (es:List Ed) (l:La) (i k:Nat) (u:Nat) (y:Int):Prop:=(∃j,j<i∧ ∃e∈es,DN l e j u y)∨ ∃e∈es.take k,DN l e i u y
theorem Av {es:List Ed} {l:La} {i k:Nat} (hk:k<es.length) {u:Nat} {y:Int}:qC es l i (k+1) u y↔qC es l i k u y∨DN l es[k] i u y:=by
 unfold qC
 rw[an hk]
 constructor
 ·rintro(h|⟨e,h1,h2⟩)
  ·exact .inl (.inl h)
  ·rcases List.mem_append.1 h1 with h1|h1
   ·exact .inl (.inr ⟨e,h1,h2⟩)
   ·rw[bM]at h1;subst h1;exact .inr h2
 ·rintro((h|⟨e,h1,h2⟩)|h)
  ·exact .inl h
  ·exact .inr ⟨e,a_ _ h1,h2⟩
  ·exact .inr ⟨es[k],bl _ (by simp),h⟩
theorem JW {es:List Ed} {l:La} {i:Nat} {u:Nat} {y:Int}:qC es l (i+1) 0 u y↔qC es l i es.length u y:=by
 unfold qC
 rw[List.take_length,List.take_zero]
 constructor
 ·rintro(⟨j,h1,h2⟩|⟨e,h1,_⟩)
  ·by_cases e:j=i
   ·subst e;exact .inr h2
   ·exact .inl ⟨j,by omega,h2⟩
  ·cases h1
 ·rintro(⟨j,h1,h2⟩|h)
  ·exact .inl ⟨j,by omega,h2⟩
  ·exact .inl ⟨i,by omega,h⟩
structure qD (b:Bu) (l:La) (nx:List (List Int)) (ms:List Nat):Prop where
 r: ∃B,B≤1000000∧jp (b.ae.toNat*l.n) (qC b.ao l l.n 0) B nx
 ll:ms.length=b.ae.toNat*l.n
 m: ∀v,v<b.ae.toNat*l.n→ms.getD v 0=oG b.aP ((v/l.n:Nat):Int)
theorem BM {b:Bu} {l:La} (hv:eJ b) {u v:Nat}:qC b.ao l l.n 0 u (v:Int)↔PE b l u v:=by
 have key: ∀e∈b.ao,∀j:Nat,((u:Int)=e.fr*(l.n:Int)+(j:Int)↔u=e.fr.toNat*l.n+j)∧((v:Int)=e.to*(l.n:Int)+(l.ix (j+1):Int)↔v=e.to.toNat*l.n+l.ix (j+1)):=fun e he j=>by
  have h:=hv.ed e he
  have e1:e.fr*(l.n:Int)=((e.fr.toNat*l.n:Nat):Int):=by rw[Int.natCast_mul,bq h.1.1]
  have e2:e.to*(l.n:Int)=((e.to.toNat*l.n:Nat):Int):=by rw[Int.natCast_mul,bq h.2.1]
  rw[e1,e2];omega
 unfold qC PE DN
 constructor
 ·rintro(⟨j,h1,e,he,h2,h3,h4⟩|⟨e,he,_⟩)
  ·exact⟨e,he,j,h1,h2,((key e he j).1).1 h3,((key e he j).2).1 h4⟩
  ·simp at he
 ·rintro⟨e,he,j,h1,h2,h3,h4⟩
  exact .inl ⟨j,h1,e,he,h2,((key e he j).1).2 h3,((key e he j).2).2 h4⟩
theorem qD.ok {b:Bu} {l:La} {nx:List (List Int)} {ms:List Nat} (h:qD b l nx ms) (hv:eJ b) (hl:0<l.loop.length):na nx:=fun r hr x hx=>by
 obtain⟨i,hi,rfl⟩:=List.mem_iff_getElem.1 hr
 obtain⟨B,_,hb⟩:=h.r
 have L9:=hb.l
 have h1:=(hb.h i x (by omega)).1 (by rw[getD_at hi];exact hx)
 have h0:0≤x:=by
  rcases h1 with⟨j,_,e,he,_,_,rfl⟩|⟨e,he,_⟩
  ·have:=Int.mul_nonneg ((hv.ed e he).2.1) (show(0:Int)≤(l.n:Int) by omega);omega
  ·simp at he
 have h2:PE b l i x.toNat:=(BM hv).1 (by rw[bq h0];exact h1)
 have:=(h2.lt hv hl).2
 omega
theorem qD.Wm {b:Bu} {l:La} {nx:List (List Int)} {ms:List Nat} (h:qD b l nx ms) (hv:eJ b) (hl:0<l.loop.length):ie nx=PE b l:=by
 obtain⟨B,_,hb⟩:=h.r
 funext u v
 apply propext
 constructor
 ·rintro⟨r,h1,h2⟩
  have hu:u<b.ae.toNat*l.n:=by rw[←hb.l];exact(List.getElem?_eq_some_iff.1 h1).1
  exact(BM hv).1 ((hb.h u v hu).1 (by rw[aj,h1];exact h2))
 ·intro hr
  have hu:=(hr.lt hv hl).1
  have h1:=(hb.h u v hu).2 ((BM hv).2 hr)
  refine⟨nx.getD u [],?_,h1⟩
  rw[aj,ah (by rw[hb.l];exact hu)];rfl
theorem qD.mrk {b:Bu} {l:La} {nx:List (List Int)} {ms:List Nat} (h:qD b l nx ms):Ra nx ms=PM b l:=by
 obtain⟨B,_,hb⟩:=h.r
 funext k v
 apply propext
 unfold Ra PM
 rw[hb.l]
 constructor
 ·rintro⟨h1,h2⟩
  rw[h.m v h1,jf]at h2
  exact⟨h1,h2⟩
 ·rintro⟨h1,h2⟩
  exact⟨h1,by rw[h.m v h1,jf];exact h2⟩
theorem qD.lt {b:Bu} {l:La} {nx:List (List Int)} {ms:List Nat} (h:qD b l nx ms): ∀x∈ms,x<2^b.aP.length:=fun x hx=>by
 obtain⟨i,hi,rfl⟩:=List.mem_iff_getElem.1 hx
 have:=h.m i (by rw[←h.ll];exact hi)
 rw[gd hi]at this
 rw[this];exact xz _ _
theorem qD.liv {b:Bu} {l:La} {nx:List (List Int)} {ms:List Nat} (h:qD b l nx ms) (hv:eJ b) (hl:0<l.loop.length) (v:Nat):wX nx ms b.aP.length v↔l7 (PE b l) b.aP.length (PM b l) v:=by
 unfold wX;rw[h.Wm hv hl,h.mrk]
open Classical in
noncomputable def nf (b:Bu) (l:La):Bool:=if cC b=0∧dA b.vars l=0 then decide (Rb b l)else false
def DP (b:Bu) (l:La):Nat:=if cC b=0 then dA b.vars l else cC b
open Classical in
noncomputable def eP (b:Bu):List Bool:=if cC b=0 then(List.range b.ae.toNat).map (fun v=>decide (xA b v))else[]
theorem JX {b:Bu} (he:cC b=0) {ls:List Bool} (hl:ls.length=b.ae.toNat) (h: ∀v,v<b.ae.toNat→(ls.getD v false=true↔xA b v)):ls=eP b:=by
 unfold eP
 rw[aA he]
 apply List.ext_getElem
 ·simp[hl]
 ·intro i h1 h2
  have:=h i (by omega)
  rw[gb h1]at this
  simp only[eV,jw]
  by_cases hL:xA b i
  ·rw[this.2 hL];simp[hL]
  ·have:ls[i]≠true:=fun q=>hL (this.1 q)
   simp only[Bool.not_eq_true]at this
   rw[this];simp[hL]
theorem xB {b:Bu} (he:cC b=0):(eP b).length=b.ae.toNat:=by unfold eP;rw[aA he];simp
theorem sG {b:Bu} (he:cC b=0) {v:Nat} (hv:v<b.ae.toNat):(eP b).getD v false=true↔xA b v:=by
 unfold eP;rw[aA he];simp[hv]
open Classical in
theorem Rc {b:Bu} {l:La} (he:cC b=0) (hel:dA b.vars l=0) {ls:List Bool} (h: ∀s∈b.start,(ls.getD (s.toNat*l.n) false=true↔l7 (PE b l) b.aP.length (PM b l) (s.toNat*l.n))):
  (b.start.any fun s=>ls.getD (s.toNat*l.n) false)=nf b l:=by
 unfold nf
 rw[aA ⟨he,hel⟩]
 by_cases hA:Rb b l
 ·obtain⟨s,h1,h2⟩:=hA
  rw[List.any_eq_true.2 ⟨s,h1,(h s h1).2 h2⟩,bz ⟨s,h1,h2⟩]
 ·rw[bT hA,List.any_eq_false]
  intro s hs hh
  exact hA ⟨s,hs,(h s hs).1 hh⟩
theorem qE {v:Int} {l:La} (h:dA v l=0):0<l.loop.length∧l.pre.length≤64∧l.loop.length≤64∧0≤v∧v≤6∧(∀x∈l.pre,x<2^v.toNat)∧ ∀x∈l.loop,x<2^v.toNat:=by
 unfold dA pq at h
 split at h;·cases h
 split at h;·cases h
 split at h;·cases h
 split at h
 ·rename_i h1 h2 h3 h4
  simp only[Classical.not_not]at h1
  simp only[fi,bo]at h4
  exact⟨by omega,by omega,by omega,h1.1,h1.2,h4.1,h4.2⟩
 ·cases h
theorem GX {ms:List Nat} {n L x i e:Nat} {aa:Nat→Nat} (hl:ms.length=n*L) (hi:i<L) (hx:x<n) (h: ∀v,v<n*L→ms.getD v 0=if v/L=x∧v%L<i then e else aa v):
  x*L+i<n*L∧ ∀v,v<n*L→(ms.set (x*L+i) e).getD v 0=if v/L=x∧v%L<i+1 then e else aa v:=by
 have fM:x*L+i<n*L:=by
  have:=Nat.mul_le_mul_right L (show x+1≤n by omega)
  rw[Nat.succ_mul]at this;omega
 refine⟨fM,fun v hv=>?_⟩
 have h1:=kv (a:=e) (l:=ms) (v:=x*L+i) (by rw[hl];exact fM) v
 rw[show(ms.set (x*L+i) e).getD v 0=fn (ms.set (x*L+i) e) v from F,h1]
 have hd:=Nat.div_add_mod v L
 by_cases Re:v=x*L+i
 ·rw[aA Re,aA]
  have h2:(x*L+i)/L=x:=by rw[Nat.mul_comm,Nat.mul_add_div (by omega),Nat.div_eq_of_lt hi,Nat.add_zero]
  have h3:(x*L+i)%L=i:=by rw[Nat.mul_add_mod_self_right,Nat.mod_eq_of_lt hi]
  rw[Re,h2,h3];omega
 ·rw[ar Re,show fn ms v=ms.getD v 0 from F,h v hv]
  by_cases hc:v/L=x∧v%L<i
  ·rw[aA hc,aA (by omega)]
  ·rw[ar hc,ar]
   rintro⟨h2,h3⟩
   by_cases h4:v%L<i
   ·exact hc ⟨h2,h4⟩
   ·have:v%L=i:=by omega
    rw[h2,this,Nat.mul_comm]at hd
    exact Re hd.symm
theorem DQ {aa:Int→Nat} {A B:List (Int×Nat)} {e:Int×Nat} (hn:((A++e::B).map Prod.fst).Nodup) (he:e.2=aa e.1) {x:Nat} (hx:e.1=(x:Int)) {p g:Nat} (h:g=if(p:Int)∈(A++e::B).map Prod.fst then 0 else aa p):
  (if p=x then e.2 else g)=if(p:Int)∈(A++B).map Prod.fst then 0 else aa p:=by
 simp only[aL,bL,List.nodup_append,List.nodup_cons,dU]at hn
 by_cases es:p=x
 ·subst es
  rw[aA F,ar,he,hx]
  rw[aL,cI,←hx]
  rintro(h2|h2)
  ·exact hn.2.2 _ h2 _ (.inl F) F
  ·exact hn.2.1.1 h2
 ·rw[ar es,h]
  have: ¬(p:Int)=e.1:=by rw[hx];omega
  by_cases hm:(p:Int)∈(A++B).map Prod.fst
  ·rw[aA hm,aA]
   rw[aL,cI]at hm⊢
   rcases hm with hm|hm
   ·exact .inl hm
   ·exact .inr (List.mem_cons_of_mem _ hm)
  ·rw[ar hm,ar]
   rw[aL,cI]at hm⊢
   rintro(h2|h2)
   ·exact hm (.inl h2)
   ·rw[bL,dU]at h2
    exact h2.elim this (fun h3=>hm (.inr h3))
theorem RD {α:Type} {p:List α→Prop} (h0:p []) (h1: ∀l x,p l→p (l++[x])): ∀l,p l:=fun l=>by
 rw[←List.reverse_reverse l]
 generalize l.reverse=m
 induction m with
 |nil=>exact h0
 |cons a m ih=>rw[List.reverse_cons];exact h1 _ _ ih
abbrev dF (d:fx):Nat:=2^d.vars.toNat
def runN (d:fx) (s:Nat) (w:List Nat):Nat:=w.foldl (di d) s
def M1 (d:fx) (s:Nat):Bool:=d.vS.getD s false
def dst (d:fx) (s t:Nat) (w:List Nat):Prop:=M1 d (runN d s w)≠M1 d (runN d t w)
def Wd (d:fx) (w:List Nat):Prop:= ∀x∈w,x<dF d
def code (w:List Nat):Nat:=w.foldl (fun a x=>a*65+(x+1)) 0
theorem jK (d:fx) (s:Nat) (w:List Nat) (x:Nat):runN d s (w++[x])=di d (runN d s w) x:=by simp[runN]
theorem lU {d:fx} (hv:Val d) {s:Nat} (hs:s<d.next.length): ∀w,Wd d w→runN d s w<d.next.length:=by
 refine RD (fun _=>hs) ?_
 intro w x ih hw
 rw[jK]
 exact(hv.fG (ih fun y hy=>hw y (by simp[hy])) (hw x (by simp))).1
end Go.Lx
namespace Go.Lx
open Go.RowKit
section
variable {α β:Type} [DecidableEq α] [DecidableEq β]
end
section
variable {α:Type} [DecidableEq α]
def first (p:Nat→Bool):Nat→Nat
 |0=>0
 |n+1=>if first p n<n then first p n else if p n then n else n+1
end
theorem pU {n:Nat}: ∀(l ks:List Nat),ks.Nodup→(∀k∈ks,k<n)→(∀k∈l,k<n)→(l.foldl add ks).Nodup∧ ∀k∈l.foldl add ks,k<n
 | [],ks,h1,h2,_=>⟨h1,h2⟩
 |a::l,ks,h1,h2,h3=>pU l (add ks a) (Bi h1) (fun k hk=>(xj.1 hk).elim (h2 k) fun e=>e▸h3 a (by simp)) fun k hk=>h3 k (by simp[hk])
theorem SY {d:fx} (hv:Val d) {o:Nat} (ho:o<d.next.length): ∀t∈OD d o,t<d.next.length:=fun t ht=>by
 obtain⟨x,hx,rfl⟩:=List.mem_map.1 ht
 exact(hv.fG ho (List.mem_range.1 hx)).1
theorem uw {d:fx} (hv:Val d): ∀i,(eh d i).Nodup∧ ∀o∈eh d i,o<d.next.length
 |0=>by
  refine⟨by simp[eh],fun o ho=>?_⟩
  simp only[eh,bM]at ho
  have:=hv.s0;have:=hv.s1;omega
 |i+1=>by
  obtain⟨h1,h2⟩:=uw hv i
  rw[eh]
  split
  ·rename_i hi
   refine pU _ _ h1 h2 (SY hv (h2 _ ?_))
   rw[aj,ah hi]
   exact ap hi
  ·exact⟨h1,h2⟩
theorem Fm {d:fx} (hv:Val d) (i:Nat):(eh d i).length≤d.next.length:=gJ (uw hv i).1 (uw hv i).2
theorem vu {d:fx} {i o:Nat} (h:(eh d i)[i]? =some o):eh d (i+1)=(OD d o).foldl add (eh d i):=by
 have hi:=(List.getElem?_eq_some_iff.1 h).1
 rw[eh,aA hi,aj,h];rfl
def nA (d:fx) (i o x:Nat):List Nat:=((List.range x).map (di d o)).foldl add (eh d i)
theorem mZ (d:fx) (i o x:Nat):nA d i o (x+1)=add (nA d i o x) (di d o x):=yP _ _ _
theorem OE {d:fx} (hv:Val d) {i o x:Nat} (ho:o<d.next.length) (hx:x≤2^d.vars.toNat):(nA d i o x).length≤d.next.length∧(eh d i).length≤(nA d i o x).length:=by
 obtain⟨h1,h2⟩:=uw hv i
 obtain⟨h3,h4⟩:=pU ((List.range x).map (di d o)) _ h1 h2 (fun t ht=>by
  obtain⟨y,hy,rfl⟩:=List.mem_map.1 ht
  exact(hv.fG ho (by have:=List.mem_range.1 hy;omega)).1)
 exact⟨gJ h3 h4,(mV _ _).length_le⟩
theorem HS {d:fx} (hv:Val d): ∃N,N≤d.next.length∧(eh d N).length=N∧(∀j,j<N→j<(eh d j).length):=by
 have step: ∀k,(∃N,N≤k∧(eh d N).length=N∧ ∀j,j<N→j<(eh d j).length)∨((∀j,j<k→j<(eh d j).length)∧k≤(eh d k).length):=by
  intro k
  induction k with
  |zero=>exact .inr ⟨fun j hj=>absurd hj (by omega),aG _⟩
  |succ k ih=>
   rcases ih with⟨N,h1,h2⟩|⟨h1,h2⟩
   ·exact .inl ⟨N,by omega,h2⟩
   ·by_cases e:(eh d k).length=k
    ·exact .inl ⟨k,by omega,e,h1⟩
    ·refine .inr ⟨fun j hj=>?_,?_⟩
     ·by_cases ej:j=k
      ·subst ej;omega
      ·exact h1 j (by omega)
     ·have hi:k<(eh d k).length:=by omega
      rw[vu (ah hi)]
      have:=(mV (OD d (eh d k)[k]) (eh d k)).length_le
      omega
 rcases step d.next.length with h|⟨h1,h2⟩
 ·exact h
 ·exact⟨d.next.length,aV _,by have:=Fm hv d.next.length;omega,h1⟩
theorem rp (d:fx): ∀(i m:Nat),i≤m→eh d i<+:eh d m:=by
 intro i m h
 induction h with
 |refl=>exact List.prefix_refl _
 | @step m _ ih=>
  refine ih.trans ?_
  rw[eh]
  split
  ·exact mV _ _
  ·exact List.prefix_refl _
theorem CK {d:fx} (hv:Val d): ∀o∈order d,∀t∈OD d o,t∈order d:=by
 obtain⟨N,hN,hl,hj⟩:=HS hv
 have e:=Fo hl hN
 intro o ho t ht
 rw[e]at ho⊢
 obtain⟨j,hjo⟩:=List.getElem?_of_mem ho
 have qc:=(List.getElem?_eq_some_iff.1 hjo).1
 have hjj:=hj j (by omega)
 have hp:=rp d j N (by omega)
 have ahA:(eh d j)[j]? =some o:=by
  obtain⟨r,hr⟩:=hp
  rw[←hr,bG hjj]at hjo
  exact hjo
 have hp2:=rp d (j+1) N (by omega)
 refine hp2.subset ?_
 rw[vu ahA]
 exact(oA _ _).2 (.inr ht)
open Go.RowKit Go.Sort
def A6:List Int:=Lib.deBruijn64tab.map fun n:Nat=>(n:Int)
class eT (P:Program) (base:World):Prop where
 tab: ∀w,Below base.heap.size base w→Lib.TabIs P w "internal/strconv.uint64pow10" .u64 Lib.pow10Tab
 tz:P.globalNamed "math/bits.deBruijn64tab" =none∨ ∀w,Below base.heap.size base w→Lib.TabIs P w "math/bits.deBruijn64tab" .u8 A6
theorem eT.of {P:Program} {w:World} (h:Lib.TabIs P w "internal/strconv.uint64pow10" .u64 Lib.pow10Tab) (h2:P.globalNamed "math/bits.deBruijn64tab" =none∨Lib.TabIs P w "math/bits.deBruijn64tab" .u8 A6):eT P w:=⟨fun w' hb=>Lib.tabBelow_of_tabIs h w' hb,h2.imp id fun h w' hb=>Lib.tabBelow_of_tabIs h w' hb⟩
theorem Hw {P:Program} {w:World} (h:eT P w) (hn:P.globalNamed "math/bits.deBruijn64tab" ≠none):Lib.TabIs P w "math/bits.deBruijn64tab" .u8 A6:=h.tz.elim (fun h=>absurd h hn) fun h=>h w (Below.refl _ _)
theorem eT.is {P:Program} {w:World} (h:eT P w):Lib.TabIs P w "internal/strconv.uint64pow10" .u64 Lib.pow10Tab:=h.tab w (Below.refl _ _)
theorem Inv.tab {P:Program} {base:World} {O:List Item} {w:World} (hI:Inv base O w) [t:eT P base]:eT P w:=.of (t.tab w hI.below) (t.tz.imp id fun h=>h w hI.below)
theorem Inv.grow {base:World} {O:List Item} {w:World} (h:Inv base O w) (k:Nat) (os:Array Obj):Inv base O (Go.Sort.grow (w.drewN k) os):=by
 refine Inv.new (N:=[]) h F F F ?_ ?_ (by simp) (by simp) (by simp)
 ·show w.heap.size≤(w.heap++os).size
  simp
 ·intro b hb
  show(w.heap++os)[b]? =w.heap[b]?
  rw[Array.getElem?_append_left hb]
theorem ow {P:Program} {W:World} {x:String×DataW Unit} {rest:List (String×DataW Unit)} {ps:List MemPlace} (h:DataW.LaidVars P W (x::rest) ps): ∃q,DataW.LaidVars P W rest q:=by
 obtain⟨g',t',cs,fV,p,q,hg',AZ,abM,hd,hr,_⟩:=h
 exact⟨q,hr⟩
theorem sv {P:Program} {W:World} {name:String} {k:IntKind} {zs:List Int} {D:DataW Unit} {rest:List (String×DataW Unit)} {ps:List MemPlace} {g:Nat} {t e:TypeId} {n:Nat} (hD:D=Lib.tabData k zs)
  (hg:P.globalNamed name=some g) (hty:(P.globals[g]?).map (·.type)=some t) (ht:P.underlying t=some (.array n e)) (he:P.underlying e=some (.int k)) (hce:P.cellsOf e=1) (hct:P.cellsOf t=n)
  (h:DataW.LaidVars P W ((name,D)::rest) ps):Lib.TabIs P W name k zs:=by
 subst hD
 obtain⟨g',t',cs,fV,p,q,hg',AZ,abM,hd,_,_⟩:=h
 obtain rfl:=cg (hg.symm.trans hg')
 obtain rfl:=cg (hty.symm.trans AZ)
 unfold Lib.TabIs
 rw[abM,←Lib.cells_of_tab ht he hce hct hd]
section
variable {P:Program} {r:Option Nat} {base:World} {n:Nat} {ρ:Env} {O:List Item} {dst:Option Nat} {d:Nat} {t:TypeId} {p:String} {af:Array Edge} {g:Option (Nat×Bool)} {K:Env→List Item→Prop}
end
theorem iz {P:Program} {base:World} {ρ:Env} {O:List Item} {dst:Option Nat} {t:TypeId} {p:String} {af:Array Edge} {g:Option (Nat×Bool)} {x:Operand} {a:Addr} (h:ev ρ x=.pointer (some a):=by exact F):QT P base ⟨dst,.nilCheck x,t,p,af,g⟩ ρ O (.pointer (some a)):=fun w _=>by simp[execOp,h]
section
variable {P:Program} {base:World} {ρ:Env} {O:List Item} {dst:Option Nat} {t:TypeId} {p:String} {af:Array Edge} {g:Option (Nat×Bool)}
end
def U7 (P:Program) (r:Option Nat) (base:World) (n:Nat) (c:Code) (Q:iT):Nat→Env→List Item→Prop
 |0,_,_=>False
 |m+1,ρ,O=>T P r base n c (so (U7 P r base n c Q m) Q) ρ O
theorem jc {P:Program} {r:Option Nat} {base:World} {n:Nat} {c:Code} {Q:iT} {ρ:Env} {O:List Item} (m:Nat) (h:U7 P r base n c Q m ρ O):T P r base n (.loop c) Q ρ O:=
 cX (U7 P r base n c Q) (fun m=>m) m h fun s ρ O h=>by
  cases s with
  |zero=>exact h.elim
  |succ s=>exact T.mono (show T P r base n c (so (U7 P r base n c Q s) Q) ρ O from h) (fun e ρ O h=>by cases e<;>first|exact⟨s,Nat.lt_succ_self s,h⟩|exact h)
theorem T.round {P:Program} {r:Option Nat} {base:World} {n m:Nat} {c:Code} {Q:iT} {ρ:Env} {O:List Item} (h:T P r base n c (so (U7 P r base n c Q m) Q) ρ O):U7 P r base n c Q (m+1) ρ O:=h
structure Mk (Wt:Type) where
 i:Nat
 d:Nat
 val:Wt→Value
 Xf:Wt→List Item
section
variable {X:PX} {P:Program} {r:Option Nat} {base:World} {n:Nat} {ρ:Env} {O S:List Item} {tail:List Nat} {ops:Array Oper} {K:Env→List Item→Prop} {Wt:Type}
theorem Sub.trans {A B C:List Item} (h:Sub A B) (h2:Sub B C):Sub A C:=by
 obtain⟨l1,p1,s1⟩:=h
 obtain⟨l2,p2,s2⟩:=h2
 obtain⟨l3,p3,s3⟩:=List.exists_perm_sublist s1 p2
 exact⟨l3,p1.trans p3.symm,s3.trans s2⟩
theorem getD_lt {l:Array Bool} {j:Nat} (h:j<l.size) (a b:Bool):l.getD j a=l.getD j b:=by simp[h]
def left (listed:Array Bool) (mk:List (Mk Wt)):Nat:=(mk.filter fun q=>!listed.getD q.i false).length
end
def A7 (φ:Prop) (L:List Item):Item where
 blocks:=L.flatMap Item.blocks
 P w:=φ∧ ∀it∈L,it.P w
 loc w w' h:=fun hp=>⟨hp.1,fun it hi=>it.loc w w' (fun b hb=>h b (List.mem_flatMap.2 ⟨it,hi,hb⟩)) (hp.2 it hi)⟩
theorem yt {base w:World} {φ:Prop} {L M:List Item} (hφ:φ) (h:Inv base (L++M) w):Inv base (A7 φ L::M) w:=
 ⟨h.below,fun it hi=>(List.mem_cons.1 hi).elim (fun e=>e▸⟨hφ,fun x hx=>h.holds x (a_ _ hx)⟩) fun hm=>h.holds it (bl _ hm),
  fun it hi b hb=>(List.mem_cons.1 hi).elim (fun e=>by
   subst e
   obtain⟨x,hx,hbx⟩:=List.mem_flatMap.1 hb
   exact h.fresh x (a_ _ hx) b hbx) fun hm=>h.fresh it (bl _ hm) b hb,
  by have:=h.nodup;rwa[List.flatMap_append]at this⟩
section
variable {P:Program} {r:Option Nat} {base:World} {n:Nat} {c:Code} {Q:iT} {ρ:Env} {φ:Prop} {L M:List Item} {f:FuncId} {args:List Value}
theorem qW (hφ:φ) (h:T P r base n c Q ρ (A7 φ L::M)):T P r base n c Q ρ (L++M):=fun a w N D hM ha hi=>
 h a w N D hM ha (by rw[bw]at hi;exact yt hφ hi)
theorem cZ.EP {O:List Item} {R R':Value→List Item→Prop} (h:cZ P base f args O R) (hr: ∀v O',R v O'→ ∃φ L M,φ∧O'=L++M∧R' v (A7 φ L::M)):cZ P base f args O R':=fun w N hI=>
 (h w N hI).mono fun _ _ ⟨v,O',h1,h2,h3⟩=>by
  obtain⟨φ,L,M,hφ,rfl,hR⟩:=hr v O' h3
  exact⟨v,A7 φ L::M,h1,yt (M:=M++N) hφ (by rw[←bw];exact h2),hR⟩
end
structure DK where
 nb:Option Addr
 nc:Nat
 fb:Option Addr
 fc:Nat
 qs:List Rec
section
variable {P:Program} {base:World} {ρ:Env} {O:List Item} {dst:Option Nat} {t:TypeId} {p:String} {af:Array Edge} {g:Option (Nat×Bool)}
end
theorem EN {e:Edge} (hb:Region.binds .any e=true): ∀ {l:List Edge},e∈l→(tR l).testBit e.on=true
 |a::l,h=>by
  rw[tR,Nat.testBit_or,Bool.or_eq_true]
  rcases List.mem_cons.1 h with rfl|h
  ·exact .inl (by rw[aA hb,Nat.one_shiftLeft,Nat.testBit_two_pow];simp)
  ·exact .inr (EN hb h)
def Ck (ops:Array Oper) (d j:Nat):Bool:=!d.testBit j&&Nat.beq (mR ops j&&&d) (mR ops j)
def I1 (ops:Array Oper) (d i:Nat):Bool:=match ops[i]? with
 |none=>false
 |some oi=>(List.range ops.size).all fun j=>Nat.beq j i||d.testBit j||(mR ops j).testBit i||match ops[j]? with
  |some oj=>oi.apart ops oj
  |none=>true
def sw (ops:Array Oper) (tail dz:List Nat):List (Nat×Nat)→Nat→Bool
 | [],d=>(List.range ops.size).all fun j=>!Ck ops d j
 |(i,0)::l,d=>(qR ops tail i&&I1 ops d i&&Nat.blt i ops.size&&Ck ops d i)&&sw ops tail dz l (d|||1<<<i)
 |(i,3)::l,d=>(qR ops dz i&&I1 ops d i&&Nat.blt i ops.size&&Ck ops d i)&&sw ops tail dz l (d|||1<<<i)
 |(i,_)::l,d=>(Nat.blt i ops.size&&Ck ops d i&&(List.range ops.size).all fun j=>Nat.beq j i||!Ck ops d j)&&sw ops tail dz l (d|||1<<<i)
def qf (ops:Array Oper) (listed:Array Bool) (d:Nat):Prop:=listed.size=ops.size∧ ∀k,listed.getD k false=d.testBit k
theorem qf.start (ops:Array Oper):qf ops (Array.replicate ops.size false) 0:=⟨by simp,fun k=>by
 rw[Nat.zero_testBit,dh,Array.getElem?_replicate]
 split<;>rfl⟩
theorem qf.set {ops:Array Oper} {listed:Array Bool} {d i:Nat} (h:qf ops listed d) (hi:i<ops.size):qf ops (listed.setIfInBounds i true) (d|||1<<<i):=⟨by simpa using h.1,fun k=>by
 rw[Nat.testBit_or,Nat.one_shiftLeft,Nat.testBit_two_pow,←h.2 k]
 by_cases e:i=k
 ·subst e
  have:i<listed.size:=by rw[h.1];exact hi
  simp[this]
 ·rw[getD_set_ne false e,bT e,Bool.or_false]⟩
theorem qf.ready {ops:Array Oper} {listed:Array Bool} {d j:Nat} (h:qf ops listed d) (hj:j<ops.size):j∈Region.ready .any ops listed↔Ck ops d j=true:=by
 have e1:listed.getD j true=d.testBit j:=by rw[←h.2 j];exact getD_lt (by rw[h.1];exact hj) _ _
 have ho:ops[j]? =some ops[j]:=Array.getElem?_eq_getElem hj
 have hm:mR ops j=tR ops[j].after.toList:=by unfold mR;rw[ho]
 rw[mem_ready,e1]
 unfold Ck
 rw[aY,Bool.not_eq_true',Nat.beq_eq,hm]
 refine and_congr_right fun _=>?_
 constructor
 ·rintro⟨o,UU,kL⟩
  rw[ho]at UU;cases UU
  refine Nat.eq_of_testBit_eq fun k=>?_
  rw[Nat.testBit_and]
  cases hk:(tR ops[j].after.toList).testBit k with
  |false=>rfl
  |true=>
   obtain⟨e,he,hb,rfl⟩:=vh hk
   have:=kL e (by simpa using he) hb
   rw[h.2]at this
   rw[this];rfl
 ·intro he
  refine⟨_,ho,fun e lH hb=>?_⟩
  have hk:=EN hb (l:=ops[j].after.toList) (by simpa using lH)
  rw[h.2]
  rw[←he,Nat.testBit_and,aY]at hk
  exact hk.2
theorem yr {ops:Array Oper} {listed:Array Bool} {j:Nat} (h:j∈Region.ready .any ops listed):j<ops.size:=by
 obtain⟨_,o,ho,_⟩:=mem_ready.1 h
 exact(Array.getElem?_eq_some_iff.1 ho).1
theorem KD {l:List Nat} {i:Nat} (hn:l.Nodup) (h: ∀j,j∈l↔j=i):l=[i]:=by
 cases l with
 |nil=>exact absurd ((h i).2 F) (by simp)
 |cons a l=>
  obtain rfl:a=i:=(h a).1 (by simp)
  have h1:=(List.nodup_cons.1 hn).1
  cases l with
  |nil=>rfl
  |cons b l=>
   have:b=a:=(h b).1 (by simp)
   subst this
   exact absurd (by simp) h1
theorem EO (ops:Array Oper) (listed:Array Bool):(Region.ready .any ops listed).Nodup:=by
 unfold Region.ready
 exact List.nodup_range.filter _
theorem I2 {ops:Array Oper} {listed:Array Bool} {d i:Nat} (h:qf ops listed d) (hf:I1 ops d i=true):Region.free .any ops listed i=true:=by
 unfold I1 at hf
 unfold Region.free
 cases ho:ops[i]? with
 |none=>rw[ho]at hf;cases hf
 |some oi=>
  rw[ho]at hf
  simp only at hf⊢
  rw[fi]at hf⊢
  intro j hj
  have Xg:j<ops.size:=List.mem_range.1 hj
  have h1:=hf j hj
  have e1:listed.getD j true=d.testBit j:=by rw[←h.2 j];exact getD_lt (by rw[h.1];exact Xg) _ _
  have W0:ops[j]? =some ops[j]:=Array.getElem?_eq_getElem Xg
  rw[W0]at h1⊢
  simp only[Bool.or_eq_true]at h1⊢
  rw[e1]
  rcases h1 with((h1|h1)|h1)|h1
  ·exact .inl (.inl (by simpa using h1))
  ·exact .inl (.inr h1)
  ·obtain⟨o,UU,e,he,hb,Mh⟩:=n5 h1
   rw[W0]at UU;cases UU
   exact .inr (.inl (Array.any_eq_true'.2 ⟨e,he,by rw[hb,Mh];simp⟩))
  ·exact .inr (.inr h1)
theorem Cl {ops:Array Oper} {tail dz:List Nat} {i:Nat} {l:List (Nat×Nat)} {listed:Array Bool} {d:Nat} (h:qf ops listed d) (ih: ∀ {listed:Array Bool} {d:Nat},qf ops listed d→sw ops tail dz l d=true→kf ops tail dz l listed=true) (hw:((Nat.blt i ops.size&&Ck ops d i&&(List.range ops.size).all fun j=>Nat.beq j i||!Ck ops d j)&&sw ops tail dz l (d|||1<<<i))=true):((Region.ready .any ops listed== [i])&&kf ops tail dz l (listed.setIfInBounds i true))=true:=by
 simp only[aY,Nat.blt_eq,fi,Bool.or_eq_true,Nat.beq_eq,Bool.not_eq_true']at hw
 obtain⟨⟨⟨h1,h2⟩,h3⟩,h4⟩:=hw
 rw[aY]
 refine⟨?_,ih (h.set h1) h4⟩
 rw[beq_iff_eq]
 refine KD (EO _ _) fun j=>⟨fun hj=>?_,fun e=>e▸(h.ready h1).2 h2⟩
 have Xg:=yr hj
 rcases h3 j (List.mem_range.2 Xg)with e|e
 ·exact e
 ·rw[(h.ready Xg).1 hj]at e;cases e
theorem oZ {ops:Array Oper} {tail dz:List Nat}: ∀ {l:List (Nat×Nat)} {listed:Array Bool} {d:Nat},qf ops listed d→sw ops tail dz l d=true→kf ops tail dz l listed=true
 | [],listed,d,h,hw=>by
  simp only[sw,fi]at hw
  show(Region.ready .any ops listed).isEmpty=true
  cases hr:Region.ready .any ops listed with
  |nil=>rfl
  |cons j r=>
   have hj:j∈Region.ready .any ops listed:=by rw[hr];simp
   have h1:=hw j (List.mem_range.2 (yr hj))
   rw[(h.ready (yr hj)).1 hj]at h1;cases h1
 |(i,0)::l,listed,d,h,hw=>by
  simp only[sw,aY,Nat.blt_eq]at hw
  obtain⟨⟨⟨⟨h1,h2⟩,h3⟩,h4⟩,h5⟩:=hw
  simp only[kf,aY]
  exact⟨⟨⟨h1,I2 h h2⟩,by simpa using(h.ready h3).2 h4⟩,oZ (h.set h3) h5⟩
 |(i,3)::l,listed,d,h,hw=>by
  simp only[sw,aY,Nat.blt_eq]at hw
  obtain⟨⟨⟨⟨h1,h2⟩,h3⟩,h4⟩,h5⟩:=hw
  simp only[kf,aY]
  exact⟨⟨⟨h1,I2 h h2⟩,by simpa using(h.ready h3).2 h4⟩,oZ (h.set h3) h5⟩
 |(i,1)::l,listed,d,h,hw=>Cl h oZ hw
 |(i,2)::l,listed,d,h,hw=>Cl h oZ hw
 |(i,m+4)::l,listed,d,h,hw=>Cl h oZ hw
def U9 (ops:Array Oper) (l:List (Nat×Nat)):Bool:=(Region.noSelect ops&&ke ops&&Nat.beq l.length ops.size&&(l.all fun q=>(q.2==2||!(ov l).contains q.1)&&(q.2==2||q.2==4||!(lP l).contains q.1)))&&sw ops (ov l) (lP l) l 0
theorem tM {ops:Array Oper} {l:List (Nat×Nat)} (h:U9 ops l=true):yd ops l=true:=by
 simp only[U9,aY,Nat.beq_eq]at h
 obtain⟨⟨⟨⟨h1,h2⟩,h3⟩,h4⟩,h5⟩:=h
 simp only[yd,aY]
 exact⟨⟨⟨⟨h1,h2⟩,by rw[h3];simp⟩,h4⟩,oZ (qf.start ops) h5⟩
end Go.Lx
namespace Go.Lx
end Go.Lx
namespace Go.Lx
def oW (d:fx) (w:List Nat):Bool:=M1 d (runN d d.start.toNat w)
theorem oT {d:fx} (hv:Val d):d.start.toNat<d.next.length:=by have:=hv.s0;have:=hv.s1;omega
section
variable {ρ:Nat→Nat→Prop}
end
theorem pY {d:fx} (hv:Val d): ∀i,∀o∈eh d i,∃w,Wd d w∧runN d d.start.toNat w=o
 |0,o,h=>by
  simp only[eh,bM]at h
  subst h
  exact⟨[],fun x hx=>(List.not_mem_nil hx).elim,F⟩
 |i+1,o,h=>by
  rw[eh]at h
  split at h
  ·rename_i hi
   rcases(oA _ _).1 h with h|h
   ·exact pY hv i o h
   ·obtain⟨x,hx,rfl⟩:=List.mem_map.1 h
    have hm:(eh d i).getD i 0∈eh d i:=by
     rw[aj,ah hi];exact ap hi
    obtain⟨w,hw,he⟩:=pY hv i _ hm
    refine⟨w++[x],fun y hy=>?_,by rw[jK,he]⟩
    rcases List.mem_append.1 hy with hy|hy
    ·exact hw y hy
    ·rw[List.mem_singleton.1 hy];exact List.mem_range.1 hx
  ·exact pY hv i o h
open Go.RowKit
def iA (a b:fx) (s t:Nat):List Int:=(List.range (dF a)).map fun x=>((di a s x*b.next.length+di b t x:Nat):Int)
def gT (a b:fx):List (List Int):=(List.range (a.next.length*b.next.length)).map fun c=>iA a b (c/b.next.length) (c%b.next.length)
def M3 (f:Bool→Bool→Bool) (a b:fx):List Bool:=(List.range (a.next.length*b.next.length)).map fun c=>f (M1 a (c/b.next.length)) (M1 b (c%b.next.length))
def M4 (f:Bool→Bool→Bool) (a b:fx):fx:=⟨a.vars,((a.start.toNat*b.next.length+b.start.toNat:Nat):Int),gT a b,M3 f a b⟩
theorem B5 {n s t:Nat} (ht:t<n):(s*n+t)/n=s∧(s*n+t)%n=t:=by
 rw[Nat.mul_comm]
 exact⟨by rw[Nat.mul_add_div (by omega),Nat.div_eq_of_lt ht,Nat.add_zero],by rw[Nat.mul_add_mod,Nat.mod_eq_of_lt ht]⟩
theorem vT {n k s t:Nat} (hs:s<k) (ht:t<n):s*n+t<k*n:=by
 have:=Nat.mul_le_mul_right n (show s+1≤k by omega);rw[Nat.succ_mul]at this;omega
theorem qP {n k c:Nat} (h:c<k*n):c/n<k∧c%n<n:=by
 have hn:0<n:=by
  rcases Nat.eq_zero_or_pos n with h0|h0
  ·rw[h0,Nat.mul_zero]at h;exact absurd h (Nat.not_lt_zero _)
  ·exact h0
 exact⟨(Nat.div_lt_iff_lt_mul hn).2 h,Nat.mod_lt _ hn⟩
theorem tQ (f:Bool→Bool→Bool) (a b:fx):(M4 f a b).next.length=a.next.length*b.next.length:=by
 show(gT a b).length=_;unfold gT;simp
theorem M5 {f:Bool→Bool→Bool} {a b:fx} (ha:Val a) (hb:Val b) (hv:a.vars=b.vars):Val (M4 f a b):=by
 have a0:=oT ha;have b0:=oT hb
 have fM:=vT a0 b0
 refine {v0:=ha.v0,v6:=ha.v6,n0:=?_,fin:=?_,s0:=?_,s1:=?_,len:=?_,ok:=?_}
 ·rw[tQ];omega
 ·rw[tQ];show(M3 f a b).length=_;unfold M3;simp
 ·show(0:Int)≤((_:Nat):Int);omega
 ·rw[tQ];show((_:Nat):Int)<((_:Nat):Int);omega
 ·intro r hr
  obtain⟨c,_,rfl⟩:=List.mem_map.1 (show r∈gT a b from hr)
  unfold iA;simp;rfl
 ·intro r hr x hx
  obtain⟨c,hc,rfl⟩:=List.mem_map.1 (show r∈gT a b from hr)
  obtain⟨y,hy,rfl⟩:=List.mem_map.1 (show x∈iA a b _ _ from hx)
  rw[iH]at hc hy
  obtain⟨h1,h2⟩:=qP hc
  have h3:=(ha.fG h1 hy).1
  have h4:=(hb.fG h2 (by rw[←hv];exact hy)).1
  have:=vT h3 h4
  rw[tQ];omega
theorem Kn {f:Bool→Bool→Bool} {a b:fx} {s t x:Nat} (hs:s<a.next.length) (ht:t<b.next.length) (hx:x<dF a):di (M4 f a b) (s*b.next.length+t) x=di a s x*b.next.length+di b t x:=by
 have hd:=B5 (s:=s) ht
 have hc:=vT hs ht
 show(((gT a b).getD _ []).getD x 0).toNat=_
 unfold gT
 rw[aj (l:=List.map _ _),bc,List.getElem?_range hc]
 simp only[Option.map_some,Option.getD_some,hd.1,hd.2]
 unfold iA
 rw[aj,bc,List.getElem?_range hx]
 exact Int.toNat_natCast _
def both (a b:fx):fx:=⟨a.vars,a.start,a.next++b.next.map fun r=>r.map fun x=>(a.next.length:Int)+x,a.vS++b.vS⟩
abbrev UM:DK:=⟨none,0,none,0,[]⟩
theorem oU (a b:fx) (s t:Nat):(iA a b s t).length=dF a:=by unfold iA;simp
theorem M6 {a b:fx} {s t x:Nat} (h:x<dF a):(iA a b s t)[x]? =some ((di a s x*b.next.length+di b t x:Nat):Int):=by unfold iA;rw[bc,List.getElem?_range h];rfl
theorem pF (a b:fx):(gT a b).length=a.next.length*b.next.length:=by unfold gT;simp
theorem Ko {a b:fx} {s t:Nat} (hs:s<a.next.length) (ht:t<b.next.length):(gT a b)[s*b.next.length+t]? =some (iA a b s t):=by
 obtain⟨h1,h2⟩:=B5 (s:=s) ht
 unfold gT;rw[bc,List.getElem?_range (vT hs ht)];simp only[Option.map_some,h1,h2]
structure dG where
 vars:Int
 start:Int
 next:List (List Int)
 dX:List Int
deriving DecidableEq
def dG.d (p:dG):fx:=⟨p.vars,p.start,p.next,List.replicate p.next.length false⟩
def fC (p:dG) (s:Nat):Nat:=(p.dX.getD s 0).toNat
def vC (a:Int):Bool:=decide (0≤a)&&decide (a≤16)
theorem nD {a:Int}:vC a=true↔0≤a∧a≤16:=by unfold vC;simp
def pZ (L n:Nat):List (List Int)→List Int→Nat
 | [],_=>0
 |r::rs,ps=>if r.length≠L then 2 else if rq n r=true then(if vC (ps.headD 0)=true then pZ L n rs ps.tail else 1)else 8
def b7 (p:dG):Nat:=
 if¬(0≤p.vars∧p.vars≤6)then 7
 else if p.next.length=0 then 3
 else if 4096<p.next.length then 10
 else if p.dX.length≠p.next.length then 2
 else if p.start<0∨(p.next.length:Int)≤p.start then 8
 else pZ (2^p.vars.toNat) p.next.length p.next p.dX
theorem pd {L n:Nat} {rs:List (List Int)} {ps:List Int} {k:Nat} (hk:k<rs.length) (hp:rs.length=ps.length):pZ L n (rs.drop k) (ps.drop k)=if rs[k].length≠L then 2 else if rq n rs[k]=true then(if vC (ps[k]'(by omega))=true then pZ L n (rs.drop (k+1)) (ps.drop (k+1))else 1)else 8:=by
 rw[List.drop_eq_getElem_cons hk,List.drop_eq_getElem_cons (show k<ps.length by omega)];rfl
theorem H4 {L n:Nat} {rs:List (List Int)} {ps:List Int} {k:Nat} (hk:rs.length≤k):pZ L n (rs.drop k) (ps.drop k)=0:=by
 rw[List.drop_eq_nil_of_le hk];rfl
structure cU (p:dG):Prop where
 val:Val p.d
 n4:p.next.length≤4096
 pl:p.dX.length=p.next.length
 pr: ∀x∈p.dX,0≤x∧x≤16
theorem ry {L n:Nat}: ∀ {rs:List (List Int)} {ps:List Int},rs.length=ps.length→(pZ L n rs ps=0↔((∀r∈rs,r.length=L)∧ ∀r∈rs,∀x∈r,0≤x∧x<(n:Int))∧ ∀x∈ps,0≤x∧x≤16)
 | [],[],_=>by simp[pZ]
 | [],_::_,h=>by simp at h
 |_::_,[],h=>by simp at h
 |r::rs,a::ps,h=>by
  have ih:=ry (L:=L) (n:=n) (rs:=rs) (ps:=ps) (by simpa using h)
  show((if r.length≠L then 2 else if rq n r=true then(if vC a=true then pZ L n rs ps else 1)else 8)=0)↔_
  by_cases h1:r.length=L
  ·by_cases h2:rq n r=true
   ·have h3: ∀x∈r,0≤x∧x<(n:Int):=by simpa[rq]using h2
    by_cases h4:vC a=true
    ·rw[ar (by simp[h1]),aA h2,aA h4,ih]
     have h4:=nD.1 h4
     simp only[dU,forall_eq_or_imp]
     exact⟨fun q=>⟨⟨⟨h1,q.1.1⟩,h3,q.1.2⟩,h4,q.2⟩,fun q=>⟨⟨q.1.1.2,q.1.2.2⟩,q.2.2⟩⟩
    ·rw[ar (by simp[h1]),aA h2,ar h4]
     exact⟨fun q=>(by cases q),fun q=>absurd (nD.2 (q.2 a (by simp))) h4⟩
   ·rw[ar (by simp[h1]),ar h2]
    refine⟨fun q=>(by cases q),fun q=>(h2 ?_).elim⟩
    have:=q.1.2 r (by simp)
    simpa[rq]using this
  ·rw[aA h1]
   exact⟨fun q=>(by cases q),fun q=>(h1 (q.1.1 r (by simp))).elim⟩
theorem de {p:dG}:b7 p=0↔cU p:=by
 unfold b7
 constructor
 ·intro h
  split at h;·cases h
  split at h;·cases h
  split at h;·cases h
  split at h;·cases h
  split at h;·cases h
  rename_i h1 h2 h3 h4 h5
  simp only[Classical.not_not]at h1 h4
  obtain⟨⟨h6,h7⟩,h8⟩:=(ry h4.symm).1 h
  exact⟨⟨h1.1,h1.2,by show 0<p.next.length;omega,by simp[dG.d],by show 0≤p.start;omega,by show p.start<(p.next.length:Int);omega,h6,h7⟩,by omega,h4,h8⟩
 ·intro h
  have hv:=h.val
  have v0:0≤p.vars:=hv.v0
  have v6:p.vars≤6:=hv.v6
  have n0:0<p.next.length:=hv.n0
  have s0:0≤p.start:=hv.s0
  have s1:p.start<(p.next.length:Int):=hv.s1
  rw[ar (by simp;omega),ar (by omega),ar (by have:=h.n4;omega),ar (by simp[h.pl]),ar (by omega)]
  exact(ry h.pl.symm).2 ⟨⟨hv.len,hv.ok⟩,h.pr⟩
theorem cU.wR {p:dG} (h:cU p) (s:Nat):fC p s≤16:=by
 unfold fC
 rw[aj]
 cases hx:p.dX[s]? with
 |none=>simp
 |some x=>
  have:=h.pr x (bE hx)
  simp only[Option.getD_some];omega
theorem cU.tg {p:dG} (h:cU p) {s:Nat} (hs:s<p.next.length):p.dX[s]? =some ((fC p s:Nat):Int):=by
 have hl:s<p.dX.length:=by rw[h.pl];exact hs
 have hb:=h.pr _ (ap hl)
 unfold fC
 rw[aj,ah hl,Option.getD_some,bq hb.1]
theorem cU.st {p:dG} (h:cU p):p.start.toNat<p.next.length:=oT h.val
def JC:dG:=⟨0,0,[],[]⟩
def lD (p:dG) (f:Nat→Int):dG:=⟨p.vars,p.start,p.next,(List.range p.next.length).map f⟩
theorem FR {p:dG} {f:Nat→Int} {s:Nat} (hs:s<p.next.length):fC (lD p f) s=(f s).toNat:=by
 unfold fC lD
 rw[aj,bc,List.getElem?_range hs];rfl
theorem wv {p:dG} (h:cU p) {f:Nat→Int} (hf: ∀s,s<p.next.length→0≤f s∧f s≤16):cU (lD p f):=
 ⟨h.val,h.n4,by simp[lD],fun x hx=>by
  obtain⟨s,hs,rfl⟩:=List.mem_map.1 hx
  exact hf s (List.mem_range.1 hs)⟩
def wJ (p:dG):Nat:=if b7 p≠0 then b7 p else if 16∈p.dX then 4 else 0
def xf (p:dG):dG:=if wJ p=0 then lD p (fun s=>((fC p s+1:Nat):Int))else JC
abbrev ri (p:dG) (nb:Option Addr) (nc:Nat) (fb:Option Addr) (fc:Nat):List Value:=[.int .i64 p.vars,.int .i64 p.start,.slice nb p.next.length nc,.slice fb p.dX.length fc]
structure JM (w:World) (p:dG) (nb:Option Addr) (vs:List Value) (fb:Option Addr):Prop where
 outer:Sl w nb vs
 rows:iY w vs p.next
 dX:Sl w fb (ints p.dX)
theorem JM.keep {w w':World} {p:dG} {nb:Option Addr} {vs:List Value} {fb:Option Addr} (h:JM w p nb vs fb) (hb: ∀k,k<w.heap.size→w'.heap[k]? =w.heap[k]?):JM w' p nb vs fb:=
 ⟨h.outer.keep hb,h.rows.keep hb,h.dX.keep hb⟩
abbrev pC (p:dG) (k:DK):List Value:=ri p k.nb k.nc k.fb k.fc
abbrev pV (p:dG) (k:DK):Value:=.agg (pC p k).toArray
abbrev p6 (w:World) (p:dG) (k:DK):Prop:=JM w p k.nb (bW k.qs) k.fb
theorem Inv.wT {base w:World} {O:List Item} {p:dG} {k:DK} (hI:Inv base O w) (h:p6 base p k):p6 w p k:=h.keep hI.below.block
def pI (II I:TypeId) (p:dG) (k:DK):Item:=A7 (nums k.qs=p.next) ([ak k.nb k.nc II 1 (bW k.qs),ak k.fb k.fc I 1 (ints p.dX)]++bQ I k.qs)
theorem Inv.CE {base w:World} {O:List Item} {II I:TypeId} {p:dG} {k:DK} (hI:Inv base O w) (h:pI II I p k∈O):p6 w p k:=by
 have h0:=hI.holds _ h
 have g: ∀it∈[ak k.nb k.nc II 1 (bW k.qs),ak k.fb k.fc I 1 (ints p.dX)]++bQ I k.qs,it.P w:=h0.2
 refine⟨rowP.sl (g (ak k.nb k.nc II 1 (bW k.qs)) (by simp)),?_,rowP.sl (g (ak k.fb k.fc I 1 (ints p.dX)) (by simp))⟩
 rw[←h0.1]
 refine⟨by simp,fun i x hx=>?_⟩
 rw[bc]at hx
 obtain⟨q,hq,rfl⟩:=Option.map_eq_some_iff.1 hx
 refine⟨q.b,q.c,by rw[bc,hq];rfl,?_⟩
 have:(Rec.jS I q).P w:=g _ (bl _ (List.mem_map_of_mem (bE hq)))
 exact rowP.sl this
structure LK where
 pb:Option Addr
 pc:Nat
 lb:Option Addr
 lc:Nat
abbrev lC (l:La) (k:LK):List Value:=[.slice k.pb l.pre.length k.pc,.slice k.lb l.loop.length k.lc]
abbrev lV (l:La) (k:LK):Value:=.agg (lC l k).toArray
abbrev Q4 (w:World) (l:La) (k:LK):Prop:=qF w l k.pb k.lb k.pc k.lc
theorem Inv.atU {base:World} {O:List Item} {w:World} (hI:Inv base O w) {l:La} {k:LK} (h:Q4 base l k):Q4 w l k:=h.keep hI.below.block
theorem rowP.yB {b:Option Addr} {c k:Nat} {T:TypeId} {cs:List Value} {w:World} (h:rowP b c T k cs w):cs.length≤c*k:=by
 cases b with
 |none=>obtain⟨rfl,rfl⟩:=h;simp
 |some a=>obtain⟨_,full,_,h,_⟩:=h;exact h
def lI (U8:TypeId) (l:La) (k:LK):Item:=A7 True [ak k.pb k.pc U8 1 (ek l.pre),ak k.lb k.lc U8 1 (ek l.loop)]
theorem Inv.atL {base w:World} {O:List Item} {U8:TypeId} {l:La} {k:LK} (hI:Inv base O w) (h:lI U8 l k∈O):Q4 w l k:=by
 have h0:=(hI.holds _ h).2
 have g1:rowP k.pb k.pc U8 1 (ek l.pre) w:=h0 (ak k.pb k.pc U8 1 (ek l.pre)) (by simp)
 have g2:rowP k.lb k.lc U8 1 (ek l.loop) w:=h0 (ak k.lb k.lc U8 1 (ek l.loop)) (by simp)
 exact⟨g1.sl,g2.sl,by have:=g1.yB;simpa using this,by have:=g2.yB;simpa using this⟩
structure nT (p:dG):Prop where
 n:p.next.length<1152921504606846976
 r: ∀r∈p.next,r.length<1152921504606846976
 f:p.dX.length<1152921504606846976
structure YE (p:dG):Prop where
 n:p.next.length≤100000
 r: ∀r∈p.next,r.length≤100000
 f:p.dX.length≤100000
theorem YE.c {p:dG} (h:YE p):nT p:=⟨by have:=h.n;omega,fun r hr=>by have:=h.r r hr;omega,by have:=h.f;omega⟩
theorem cU.wx {p:dG} (h:cU p):dF p.d≤64:=by
 have h6:=h.val.v6
 have h0:=h.val.v0
 show 2^p.d.vars.toNat≤2^6
 exact dw (by decide) (by omega)
theorem cU.s {p:dG} (h:cU p):YE p:=
 ⟨by have:=h.n4;omega,fun r hr=>by have e:r.length=dF p.d:=h.val.len r hr;have:=h.wx;omega,by have:=h.n4;have:=h.pl;omega⟩
theorem cU.c {p:dG} (h:cU p):nT p:=h.s.c
section
variable {b:Bu} {n:Nat} {al:Nat→Bool} {p:Int→Bool} {gD:List Nat} {mJ:Bool} {HT:List (Nat×Int)} {la:List Nat} {seen:List Bool} {i j:Nat}
end
section
variable {w:Nat→Nat}
def Bd (w:Nat→Nat) (n c:Nat):Prop:=c<n∧ ∀i,i<c→w i=w (n-c+i)
structure LB (w:Nat→Nat) (n c:Nat):Prop where
 b:Bd w n c
 m: ∀d,Bd w n d→d≤c
def Ml (w:Nat→Nat) (n p:Nat):Prop:= ∀i,i+p<n→w i=w (i+p)
theorem Bd.zero {n:Nat} (h:0<n):Bd w n 0:=⟨h,fun i hi=>by omega⟩
theorem Bd.sub {n k d:Nat} (h:Bd w n k) (h2:Bd w k d):Bd w n d:=by
 refine⟨by have:=h.1;have:=h2.1;omega,fun i hi=>?_⟩
 have h1:=h.1;have h3:=h2.1
 rw[h2.2 i hi,h.2 (k-d+i) (by omega)]
 congr 1;omega
theorem Bd.of {n k d:Nat} (h:Bd w n k) (h2:Bd w n d) (fM:d<k):Bd w k d:=by
 refine⟨fM,fun i hi=>?_⟩
 have h1:=h.1
 rw[h2.2 i hi,h.2 (k-d+i) (by omega)]
 congr 1;omega
theorem Bd.per {n c:Nat}:Bd w n c↔c<n∧Ml w n (n-c):=by
 constructor
 ·rintro⟨h,h2⟩
  refine⟨h,fun i hi=>?_⟩
  rw[h2 i (by omega)];congr 1;omega
 ·rintro⟨h,h2⟩
  refine⟨h,fun i hi=>?_⟩
  rw[h2 i (by omega)];congr 1;omega
def KZ (w:Nat→Nat) (i k:Nat):Prop:=Bd w i k∧ ∀d,Bd w i d→w d=w i→d≤k
end
namespace VT
variable {w:Nat→Nat}
theorem start {i k:Nat} (h:LB w i k):KZ w i k:=⟨h.b,fun d hd _=>h.m d hd⟩
theorem next {i k k':Nat} (h:KZ w i k) (mC:w i≠w k) (hk:LB w k k'):KZ w i k':=
 ⟨h.1.sub hk.b,fun d hd hw=>by
  have h1:=h.2 d hd hw
  by_cases e:d=k
  ·subst e;exact absurd hw.symm mC
  ·exact hk.m d (h.1.of hd (by omega))⟩
theorem nK {i k:Nat} (h:KZ w i k) (he:w i=w k):LB w (i+1) (k+1):=by
 have h1:=h.1.1
 refine⟨⟨by omega,fun j hj=>?_⟩,fun d hd=>?_⟩
 ·by_cases e:j=k
  ·subst e;rw[show i+1-(j+1)+j=i by omega];exact he.symm
  ·rw[h.1.2 j (by omega)];congr 1;omega
 ·cases d with
  |zero=>omega
  |succ d=>
   have h2:=hd.1
   have:d≤k:=h.2 d ⟨by omega,fun j hj=>by rw[hd.2 j (by omega)];congr 1;omega⟩ (by rw[hd.2 d (by omega)];congr 1;omega)
   omega
theorem SR {i:Nat} (h:KZ w i 0) (he:w i≠w 0):LB w (i+1) 0:=by
 refine⟨Bd.zero (by omega),fun d hd=>?_⟩
 cases d with
 |zero=>omega
 |succ d=>
  have h2:=hd.1
  have hw:w d=w i:=by rw[hd.2 d (by omega)];congr 1;omega
  have:d≤0:=h.2 d ⟨by omega,fun j hj=>by rw[hd.2 j (by omega)];congr 1;omega⟩ hw
  have:d=0:=by omega
  subst this
  exact absurd hw.symm he
theorem one:LB w 1 0:=⟨Bd.zero (by omega),fun d hd=>by have:=hd.1;omega⟩
end VT
section
variable {w:Nat→Nat}
theorem CH: ∀(N n p q:Nat),p+q≤N→0<p→0<q→p+q≤n→Ml w n p→Ml w n q→Ml w n (Nat.gcd p q)
 |0,n,p,q,hN,hp,hq,_,_,_=>by omega
 |N+1,n,p,q,hN,hp,hq,hn,h1,h2=>by
  have sub: ∀p q:Nat,q<p→0<q→p+q≤n→Ml w n p→Ml w n q→Ml w n (p-q):=fun p q fM hq hn h1 h2 i hi=>by
   by_cases e:q≤i
   ·have e1:=h2 (i-q) (by omega)
    rw[Nat.sub_add_cancel e]at e1
    have e2:=h1 (i-q) (by omega)
    rw[←e1,e2];congr 1;omega
   ·have e1:=h2 (i+(p-q)) (by omega)
    rw[h1 i (by omega),e1];congr 1;omega
  rcases Nat.lt_trichotomy p q with h|h|h
  ·have h3:=CH N n p (q-p) (by omega) hp (by omega) (by omega) h1 (sub q p h hp (by omega) h2 h1)
   rwa[show Nat.gcd p (q-p)=Nat.gcd p q by rw[←Nat.gcd_add_self_right p (q-p),Nat.sub_add_cancel (Nat.le_of_lt h)]]at h3
  ·subst h;rwa[Nat.gcd_self]
  ·have h3:=CH N n (p-q) q (by omega) (by omega) hq (by omega) (sub p q h hq hn h1 h2) h2
   rwa[show Nat.gcd (p-q) q=Nat.gcd p q by rw[Nat.gcd_comm,←Nat.gcd_add_self_right q (p-q),Nat.sub_add_cancel (Nat.le_of_lt h),Nat.gcd_comm]]at h3
theorem Oz {n p:Nat} (hp:0<p) (h:Ml w n p): ∀i,i<n→w i=w (i%p):=by
 intro i
 induction i using Nat.strongRecOn with
 |_ i ih=>
  intro hi
  by_cases e:i<p
  ·rw[Nat.mod_eq_of_lt e]
  ·have h1:=h (i-p) (by omega)
   rw[Nat.sub_add_cancel (by omega)]at h1
   rw[←h1,ih (i-p) (by omega) (by omega),Nat.mod_eq_sub_mod (by omega:p≤i)]
theorem uo {n p:Nat} (h: ∀i,i<n→w i=w (i%p)):Ml w n p:=fun i hi=>by
 rw[h i (by omega),h (i+p) hi,Nat.add_mod_right]
structure SS (w:Nat→Nat) (n q:Nat):Prop where
 pos:0<q
 dvd:q∣n
 rep: ∀i,i<n→w i=w (i%q)
 ado: ∀d,0<d→d∣q→(∀i,i<q→w i=w (i%d))→d=q
theorem SU {n c:Nat} (hn:0<n) (h:LB w n c):SS w n (if n%(n-c)=0 then n-c else n):=by
 have hc:=h.b.1
 have Yb:=(Bd.per.1 h.b).2
 have Yc: ∀d,0<d→d≤n→Ml w n d→n-c≤d:=fun d hd BW hp=>by
  have:=h.m (n-d) (Bd.per.2 ⟨by omega,by rwa[show n-(n-d)=d by omega]⟩)
  omega
 by_cases VV:n%(n-c)=0
 ·rw[aA VV]
  have ahx:n-c∣n:=Nat.dvd_of_mod_eq_zero VV
  refine⟨by omega,ahx,Oz (by omega) Yb,fun d hd hdq Yd=>?_⟩
  have h1:Ml w n d:=uo fun i hi=>by
   rw[Oz (by omega) Yb i hi,Yd _ (Nat.mod_lt _ (by omega)),Nat.mod_mod_of_dvd _ hdq]
  have h2:=Nat.le_of_dvd (by omega) hdq
  have:=Yc d hd (by omega) h1
  omega
 ·rw[ar VV]
  refine⟨hn,Nat.dvd_refl _,fun i hi=>by rw[Nat.mod_eq_of_lt hi],fun d hd BW Yd=>?_⟩
  apply Classical.byContradiction
  intro mC
  have h1:Ml w n d:=uo Yd
  obtain⟨t,ht⟩:=BW
  have Ye:2≤t:=by
   rcases t with _|_|t
   ·simp at ht;omega
   ·simp at ht;omega
   ·omega
  have amw:d*2≤n:=by rw[ht];exact Nat.mul_le_mul_left d Ye
  have hp:=Yc d hd (by omega) h1
  have hg:=CH _ n (n-c) d (aV _) (by omega) hd (by omega) Yb h1
  have hgp:0<Nat.gcd (n-c) d:=Nat.gcd_pos_of_pos_right _ hd
  have hgl:Nat.gcd (n-c) d≤n-c:=Nat.gcd_le_left d (by omega)
  have Yf:=Yc _ hgp (by omega) hg
  have he:Nat.gcd (n-c) d=n-c:=by omega
  have h3:n-c∣d:=he▸Nat.gcd_dvd_right (n-c) d
  exact VV (Nat.mod_eq_zero_of_dvd (Nat.dvd_trans h3 ⟨t,ht⟩))
end
def La.u (l:La) (i:Nat):Nat:=l.loop.getD (i%l.loop.length) 0
structure SV (l:La):Prop where
 pos:0<l.loop.length
 ado: ∀d,0<d→d∣l.loop.length→(∀i,l.u (i+d)=l.u i)→d=l.loop.length
 last:0<l.pre.length→l.pre.getD (l.pre.length-1) 0≠l.loop.getD (l.loop.length-1) 0
theorem o7 {l:La} (h:0<l.loop.length) (i:Nat):l.at (l.pre.length+i)=l.u i:=by
 unfold La.at La.u
 rw[ar (by omega),Nat.add_sub_cancel_left,show max l.loop.length 1=l.loop.length by omega]
structure Fh (l:La) (q n a:Nat):Prop where
 nl:n≤l.pre.length
 a0:0<a
 aq:a≤q
 tail: ∀i,n≤i→l.at i=l.loop.getD ((a+(i-n))%q) 0
theorem Fh.start {l:La} {q:Nat} (h0:0<l.loop.length) (hr:SS (fun i=>l.loop.getD i 0) l.loop.length q):Fh l q l.pre.length q:=by
 refine⟨aV _,hr.pos,aV _,fun i hi=>?_⟩
 obtain⟨j,rfl⟩:=Nat.exists_eq_add_of_le hi
 rw[o7 h0,Nat.add_sub_cancel_left,Nat.add_mod_left]
 unfold La.u
 have:=hr.rep (j%l.loop.length) (Nat.mod_lt _ h0)
 rw[this,Nat.mod_mod_of_dvd _ hr.dvd]
theorem Fh.step {l:La} {q n a:Nat} (h:Fh l q n a) (hn:0<n) (he:l.pre.getD (n-1) 0=l.loop.getD ((a-1)%q) 0):Fh l q (n-1) (if a-1=0 then q else a-1):=by
 have h1:=h.nl;have h2:=h.a0;have h3:=h.aq
 refine⟨by omega,by split<;>omega,by split<;>omega,fun i hi=>?_⟩
 by_cases e:i=n-1
 ·subst e
  have:l.at (n-1)=l.pre.getD (n-1) 0:=by unfold La.at;rw[aA (by omega)]
  rw[this,he,eG,Nat.add_zero]
  split
  ·rename_i e;rw[e,Nat.zero_mod,Nat.mod_self]
  ·rfl
 ·rw[h.tail i (by omega)]
  split
  ·rw[show i-(n-1)=i-n+1 by omega,show a+(i-n)=i-n+1 by omega,Nat.add_mod_left]
  ·rw[show a-1+(i-(n-1))=a+(i-n) by omega]
theorem SW {s:List Nat} {a:Nat} (ha:a<s.length) (i:Nat) (hi:i<s.length):(s.drop a++s.take a).getD i 0=s.getD ((a+i)%s.length) 0:=by
 rw[aj,aj]
 by_cases h:i<s.length-a
 ·rw[bG (by simpa using h),List.getElem?_drop,Nat.mod_eq_of_lt (by omega)]
 ·rw[bN (by simp;omega),List.length_drop,List.getElem?_take,aA (by omega)]
  congr 2
  rw[show a+i=(i-(s.length-a))+s.length by omega,Nat.add_mod_right,Nat.mod_eq_of_lt (by omega)]
structure uq (l c:La):Prop where
 can:SV c
 at_: ∀i,c.at i=l.at i
 pre:c.pre.length≤l.pre.length
 loop:c.loop.length≤l.loop.length
 mp: ∀x∈c.pre,x∈l.pre
 ml: ∀x∈c.loop,x∈l.loop
theorem Fi {l:La} {q n a:Nat} (h0:0<l.loop.length) (hr:SS (fun i=>l.loop.getD i 0) l.loop.length q) (h:Fh l q n a) (hx:0<n→l.pre.getD (n-1) 0≠l.loop.getD ((a-1)%q) 0):
  uq l ⟨l.pre.take n,(l.loop.take q).drop (a%q)++(l.loop.take q).take (a%q)⟩:=by
 have hq:=hr.pos
 have tD:q≤l.loop.length:=Nat.le_of_dvd h0 hr.dvd
 have hn:=h.nl;have ha0:=h.a0;have haq:=h.aq
 have hm:a%q<q:=Nat.mod_lt _ hq
 have IZ:(l.loop.take q).length=q:=by rw[bC];omega
 have jn:((l.loop.take q).drop (a%q)++(l.loop.take q).take (a%q)).length=q:=by
  rw[aI,List.length_drop,IZ,bC,IZ];omega
 have xC:(l.pre.take n).length=n:=by rw[bC];omega
 have SX: ∀i,i<q→((l.loop.take q).drop (a%q)++(l.loop.take q).take (a%q)).getD i 0=l.loop.getD ((a+i)%q) 0:=fun i hi=>by
  rw[SW (by rw[IZ];exact hm) i (by rw[IZ];exact hi),IZ,Nat.mod_add_mod]
  rw[aj,List.getElem?_take,aA (Nat.mod_lt _ hq),aj]
 have GG: ∀i,(⟨l.pre.take n,(l.loop.take q).drop (a%q)++(l.loop.take q).take (a%q)⟩:La).at i=l.at i:=fun i=>by
  by_cases hi:i<n
  ·rw[mq (by simp only[xC];exact hi),mq (show i<l.pre.length by omega)]
   simp
  ·obtain⟨j,rfl⟩:=Nat.exists_eq_add_of_le (show n≤i by omega)
   rw[h.tail _ (by omega),Nat.add_sub_cancel_left]
   have h1:=o7 (l:=⟨l.pre.take n,(l.loop.take q).drop (a%q)++(l.loop.take q).take (a%q)⟩) (by simp only[jn];exact hq) j
   simp only[xC]at h1
   rw[h1]
   unfold La.u
   simp only[jn]
   rw[SX _ (Nat.mod_lt _ hq),Nat.add_mod_mod]
 refine⟨⟨by simp only[jn];exact hq,fun d hd VV hu=>?_,fun hp=>?_⟩,GG,by simp only[xC];exact hn,by simp only[jn];exact tD,fun x hx=>List.mem_of_mem_take hx,fun x hx=>?_⟩
 ·simp only[jn]at VV⊢
  refine hr.ado d hd VV fun i hi=>?_
  have hU: ∀j,l.loop.getD ((a+(j+d))%q) 0=l.loop.getD ((a+j)%q) 0:=fun j=>by
   have h1:=hu j
   unfold La.u at h1
   simp only[jn]at h1
   rwa[SX _ (Nat.mod_lt _ hq),SX _ (Nat.mod_lt _ hq),Nat.add_mod_mod,Nat.add_mod_mod]at h1
  have hV: ∀j,l.loop.getD ((j+d)%q) 0=l.loop.getD (j%q) 0:=fun j=>by
   have h1:=hU (j+(q-a))
   rw[show a+(j+(q-a)+d)=j+d+q by omega,show a+(j+(q-a))=j+q by omega,Nat.add_mod_right,Nat.add_mod_right]at h1
   exact h1
  have hT: ∀t j,l.loop.getD ((j+d*t)%q) 0=l.loop.getD (j%q) 0:=by
   intro t
   induction t with
   |zero=>intro j;rfl
   |succ t ih=>intro j;rw[Nat.mul_succ,←Nat.add_assoc,hV,ih]
  have h2:=hT (i/d) (i%d)
  rw[Nat.mod_add_div,Nat.mod_eq_of_lt hi,Nat.mod_eq_of_lt (ee (Nat.mod_le i d) hi)]at h2
  exact h2
 ·simp only[xC,jn]at hp⊢
  rw[SX (q-1) (by omega)]
  have h1:(l.pre.take n).getD (n-1) 0=l.pre.getD (n-1) 0:=by
   rw[aj,List.getElem?_take,aA (by omega),aj]
  rw[h1,show a+(q-1)=a-1+q by omega,Nat.add_mod_right]
  exact hx hp
 ·rcases List.mem_append.1 hx with hx|hx
  ·exact List.mem_of_mem_take (List.mem_of_mem_drop hx)
  ·exact List.mem_of_mem_take (List.mem_of_mem_take hx)
end Go.Lx
namespace Go.Lx
open Go.RowKit Go.ChangeShapes Go.WideShapes Go.Deep
section
variable {H:Type} {enc:TypeId×Value→H} {P:Program}
theorem sn (hl:laidOutB P=true) {W W':World} {sp':Nat→Bool}: ∀ {ts:List TypeId} {vs:List Value} {ds:List (DataW H)} {ps:List MemPlace},
  (∀t∈ts,P.readableRec t=true∧t<P.types.size)→DataW.TrodAll enc P W 0 (fun _=>true) true ts vs ds ps→(∀p∈ps,W.sameAt W' p)→(∀p∈ps,sp' p.block=true)→DataW.TrodAll enc P W' 0 sp' true ts vs ds ps
 | [],_,_,_,_,h,_,_=>by
  obtain⟨rfl,rfl,rfl⟩:=trodAll_nil h
  rfl
 |t::ts,_,_,_,hr,h,hs,AL=>by
  obtain⟨v,vs1,d,ds1,p,q,rfl,rfl,rfl,h1,h2⟩:=trodAll_cons h
  have ht:=hr t (by simp)
  exact⟨p,q,WideElems.Trod_stays hl ht.1 ht.2 h1 (fun x hx=>hs x (a_ _ hx)) (fun x hx=>AL x (a_ _ hx)),
   sn hl (fun t ht=>hr t (by simp[ht])) h2 (fun x hx=>hs x (bl _ hx)) (fun x hx=>AL x (bl _ hx)),F⟩
theorem M9 {f:Func} {s:ChangeSpec} {W W':World} {args:Array Value} {ds gs:List (DataW H)} {before:List MemPlace} {tb:TypeId}
  (hl:laidOutB P=true) (hr: ∀t∈f.params.toList,P.readableRec t=true∧t<P.types.size) (abf:f.resultTypes= #[tb]) (hb:P.underlying tb=some .bool) (hv:s.vars=[])
  (hW:DataW.Whole enc P f.params.toList s.vars false W args.toList ds gs before)
  (h1:(s.fn H ds).results=[.lit (.bool true)]) (h2:(s.fn H ds).args=ds) (h3:(s.fn H ds).vars=[])
  (hB:Below W.heap.size W W'):s.post enc P f false true false false W args (.bool true) W':=by
 have hW0:=hW
 obtain⟨p,q,hA,hV,rfl,hz,hn⟩:=hW
 rw[hv]at hV
 obtain⟨rfl,rfl⟩:=trodVars_none hV
 simp only[bZ]at hW0 hz hn
 have fM:=hW0.lt
 have Ep: ∀x∈p,W.sameAt W' x:=fun x hx=>hB.same (fM x hx)
 have IV: ∀sp:Nat→Bool,(∀x∈p,sp x.block=true)→DataW.TrodAll enc P W' 0 sp true f.params.toList args.toList (s.fn H (ds++[])).args p:=fun sp AL=>by
  rw[bZ,h2]
  exact sn hl hr hA Ep AL
 have UQ: ∀sp:Nat→Bool,DataW.TrodVars enc P W' sp s.vars (s.fn H (ds++[])).vars []:=fun sp=>by
  rw[bZ,hv,h3];rfl
 have IW: ∀(b:Nat) (sp:Nat→Bool) (hd:Bool),DataW.TrodAll enc P W' b sp hd f.resultTypes.toList ((Value.bool true).resultList f.resultTypes.size) (s.fn H (ds++[])).results []:=fun b sp hd=>by
  rw[bZ,h1,abf]
  exact trodAll_cons_mk (shut_bool hb _) trodAll_mk0
 have hold: ∀x∈p,(fun b=>decide (b<W.heap.size)) x.block=true:=fun x hx=>by simpa using fM x hx
 refine⟨ds,[],p,[],p,[],hW0,IW _ _ _,IV _ hold,UQ _,World.keptBut_mono (fun x hx=>⟨hx,?_⟩) (hB.frame _),fun _=>?_⟩
 ·exact Or.inr (by simpa using hx)
 ·refine⟨ok_one abf F (okWide_bool_mk hb _),_,_,([]++p)++[],⟨[]++p,[],trodAll_append (IV _ (fun _ _=>rfl)) (IW _ _ _),UQ _,F,?_,?_⟩,?_⟩
  ·intro b off hx
   have B7:MemPlace.cell b off∈p:=by simpa using hx
   rw[hB.frozen (p:=⟨b,off,none⟩) (fM _ B7)]
   exact hz b off B7
  ·intro ha;cases ha
  ·intro x hx _
   simpa using hx
theorem Nb {w:World} {a:Addr} {v:Value} (h:w.cell? a=some v):a.spot=none:=by
 unfold World.cell? at h
 cases e:a.spot with
 |none=>rfl
 |some x=>rw[e]at h;split at h<;>simp at h
theorem mQ {w:World} {a:Addr} {cs:List Value} (h: ∀i (hi:i<cs.length),w.cell? (a.add i)=some cs[i]):Sl w (some a) cs:=fun i hi=>by
 have h0:=h 0 (by omega)
 have h1:=h i hi
 have h2:a.spot=none:=Nb (a:=a) (by simpa[Addr.add]using h0)
 refine⟨a,F,h2,?_⟩
 have e:a.add i=⟨a.block,a.off+i,none⟩:=by
  unfold Addr.add
  split
  ·rename_i h;subst h
   cases a with
   |mk b o s=>simp at h2;subst h2;rfl
  ·rfl
 rw[←e];exact h1
theorem vU (e:TypeId): ∀ {l:List (DataW H)} {d:DataW H},d∈l→ ∀m∈d.weights P e,m∈DataW.weightsAll P e l
 | [],_,h,_,_=>by cases h
 |x::l,d,h,m,hm=>by
  rw[DataW.weightsAll,cI]
  rcases List.mem_cons.1 h with rfl|h
  ·exact .inl hm
  ·exact .inr (vU e h m hm)
theorem me {t e:TypeId} {xW spare:List (DataW H)} (ht:P.underlying t=some (.slice e)) (he:0<P.bytesOf e) (h: ∀m∈(DataW.slice xW spare).weights P t,m≤reachBytes):
  xW.length≤reachBytes∧ ∀d∈xW,∀m∈d.weights P e,m≤reachBytes:=by
 have hw:(DataW.slice xW spare).weights P t=(xW.length+spare.length)*P.bytesOf e::(DataW.weightsAll P e xW++DataW.weightsAll P e spare):=by
  rw[DataW.weights,ht]
 rw[hw]at h
 refine⟨?_,fun d hd m hm=>h m (List.mem_cons_of_mem _ (a_ _ (vU e hd m hm)))⟩
 have h1:=h _ List.mem_cons_self
 have h2:=Nat.mul_le_mul_left (xW.length+spare.length) (show 1≤P.bytesOf e from he)
 omega
theorem Nc {w:World} {A:Option Addr} {L C:Nat} {Z:List Int} (hL:L≤C) (hZ:Z.length=C) (h0:A=none→C=0) (h: ∀a',A=some a'→0≤a'.block∧ ∀c,c<C→w.cell? (a'.add c)=some (.int .i64 (Z.getD c 0))):
  (Z.take L).length=L∧Sl w A (ints (Z.take L)):=by
 have hl:(Z.take L).length=L:=by rw[bC];omega
 refine⟨hl,?_⟩
 cases A with
 |none=>
  have:=h0 F
  have:Z.take L=[]:=List.eq_nil_of_length_eq_zero (by omega)
  rw[this];exact Sl.nil _ _
 |some a=>
  refine mQ fun i hi=>?_
  have uU:i<L:=by rw[ag,hl]at hi;exact hi
  have UR:i<Z.length:=by omega
  rw[(h a F).2 i (by omega),eV,List.getElem_take]
  simp[UR]
theorem WR {n:Int} (h:(Lit.int .u8 n).wf=true):0≤n∧n<256:=by
 simp only[Lit.wf,aY,bo]at h
 have h1:(0:Int)≤n:=h.1
 have h2:n≤255:=h.2
 omega
theorem agq {n:Nat} (h:n≤reachBytes):n<9223372036854775807:=ee h (by decide)
end
section
variable {H:Type} {enc:TypeId×Value→H} {P:Program}
theorem Kq {tr ti:TypeId} {W:World} {c:Value} {cs:List Value} {x:DataW H×List MemPlace} {fV:Nat} (jU:P.underlying tr=some (.slice ti)) (hi:P.underlying ti=some (.int .i64)) (ci:P.cellsOf ti=1) (bi:0<P.bytesOf ti)
  (AM:cs=[c]) (hw: ∀m∈x.1.weights P tr,m≤reachBytes) (g:DataW.trod enc P W 0 (fun _=>true) true fV tr cs=some x):
  ∃(b:Option Addr) (cp:Nat) (xs:List Int),c=.slice b xs.length cp∧xs.length≤reachBytes∧Sl W b (ints xs):=by
 subst AM
 rcases open_ints jU hi ci g with⟨h,_⟩|⟨a,len,cap,zs,h,_,hl,_,hz,hx,xX,_⟩
 ·exact⟨none,0,[],by simpa using h,aG _,Sl.nil _ _⟩
 ·simp only[if_true]at hz
  rw[av Prod.fst hx]at hw
  have hb:=(me jU bi hw).1
  have L9:(zs.take len).length=len:=by rw[bC];omega
  have qd:len≤reachBytes:=by
   have:(lits (H:=H) .i64 (zs.take len)).length=len:=by simp[lits];omega
   omega
  refine⟨some a,cap,zs.take len,by rw[L9];simpa using h,by omega,?_⟩
  have:=Nc (w:=W) (A:=some a) (L:=len) (C:=cap) (Z:=zs) hl hz (fun h=>by cases h) (fun a' h=>by cases h;exact⟨aG _,fun i hi=>xX i (by omega)⟩)
  exact this.2
theorem B8 {tn tr ti:TypeId} {W:World} {c2:Value} {cs:List Value} {x:DataW H×List MemPlace} {fV:Nat} (hn:P.underlying tn=some (.slice tr)) (jU:P.underlying tr=some (.slice ti)) (hi:P.underlying ti=some (.int .i64)) (cr:P.cellsOf tr=1) (ci:P.cellsOf ti=1) (br:0<P.bytesOf tr) (bi:0<P.bytesOf ti)
  (AM:cs=[c2]) (Hf: ∀m∈x.1.weights P tn,m≤reachBytes) (g2:DataW.trod enc P W 0 (fun _=>true) true fV tn cs=some x):
  ∃(nb:Option Addr) (nc:Nat) (rows:List (List Int)) (vs:List Value),c2=.slice nb rows.length nc∧rows.length≤reachBytes∧(∀r∈rows,r.length≤reachBytes)∧Sl W nb vs∧iY W vs rows:=by
 subst AM
 rcases open_int_rows hn jU hi cr ci g2 with⟨WT,_⟩|⟨a,len,cap,A,L,C,Z,WT,_,Ri,hcm,Kr,kL⟩
 ·exact⟨none,0,[],[],by simpa using WT,aG _,fun r hr=>(List.not_mem_nil hr).elim,Sl.nil _ _,F,fun i r hr=>by simp at hr⟩
 ·rw[av Prod.fst Kr]at Hf
  obtain⟨hwl,Zt⟩:=me hn br Hf
  have alt:len≤reachBytes:=by simpa using hwl
  have abg: ∀r,r<len→L r≤reachBytes:=fun r hr=>by
   obtain⟨_,a2,_,a4,_,a6,_⟩:=kL r (by omega)
   have hm:=Zt _ (List.mem_map.2 ⟨r,List.mem_range.2 hr,F⟩)
   cases hA:A r with
   |none=>have:=a6 hA;omega
   |some b=>
    rw[hA]at hm
    have:=(me jU bi hm).1
    simp[lits]at this
    omega
  have zY: ∀r,r<len→((Z r).take (L r)).length=L r∧Sl W (A r) (ints ((Z r).take (L r))):=fun r hr=>by
   obtain⟨_,a2,a3,a4,_,a6,a7⟩:=kL r (by omega)
   exact Nc a2 a4 a6 a7
  refine⟨some a,cap,(List.range len).map fun r=>(Z r).take (L r),(List.range len).map fun r=>.slice (A r) (L r) (C r),by simpa using WT,by simp;omega,?_,?_,by simp,?_⟩
  ·intro r hr
   obtain⟨j,hj,rfl⟩:=List.mem_map.1 hr
   have Hg:=List.mem_range.1 hj
   rw[(zY j Hg).1];exact abg j Hg
  ·refine mQ fun i vM=>?_
   have uU:i<len:=by simpa using vM
   rw[(kL i (by omega)).1];simp
  ·intro i r hr
   have uU:i<len:=by
    have:=(List.getElem?_eq_some_iff.1 hr).1
    simpa using this
   have er:r=(Z i).take (L i):=by
    rw[bc,List.getElem?_range uU]at hr
    exact(cg hr).symm
   subst er
   refine⟨A i,C i,?_,(zY i uU).2⟩
   rw[bc,List.getElem?_range uU,(zY i uU).1];rfl
theorem Hh {te e ti tu:TypeId} {f0 f1 f2 f3:Field} {W:World} {c:Value} {cs:List Value} {x:DataW H×List MemPlace} {fV:Nat} (ht:P.underlying te=some (.slice e)) (he:P.underlying e=some (.struct #[f0,f1,f2,f3])) (ce:P.cellsOf e=4) (be:0<P.bytesOf e)
  (h0:f0.type=ti) (h1:f1.type=ti) (h2:f2.type=tu) (h3:f3.type=tu) (o0:f0.offset=0) (o1:f1.offset=1) (o2:f2.offset=2) (o3:f3.offset=3)
  (hi:P.underlying ti=some (.int .i64)) (hu:P.underlying tu=some (.int .u8)) (ci:P.cellsOf ti=1) (cu:P.cellsOf tu=1)
  (AM:cs=[c]) (hw: ∀m∈x.1.weights P te,m≤reachBytes) (g:DataW.trod enc P W 0 (fun _=>true) true fV te cs=some x):
  ∃(b:Option Addr) (cp:Nat) (es:List Ed),c=.slice b es.length cp∧es.length≤reachBytes∧Sl W b (eX es)∧ ∀e∈es,e.pos<256∧e.neg<256:=by
 subst AM
 rcases open_slice ht g with⟨h,_⟩|⟨a,len,cap,m,n,D,Pl,h,_,hl,_,hm,hx,kL⟩
 ·exact⟨none,0,[],by simpa using h,aG _,Sl.nil _ _,fun e h=>by cases h⟩
 ·simp only[if_true]at hm
  have WU:=hm.symm
  subst WU
  rw[av Prod.fst hx]at hw
  have hb:=(me ht be hw).1
  have qd:len≤reachBytes:=by simpa using hb
  have each: ∀i,i<cap→ ∃q:Ed,(q.pos<256∧q.neg<256)∧ ∀j,j<4→W.cell? (a.add (i*4+j))=(M7 q)[j]? :=by
   intro i vM
   obtain⟨Nd,k1,k2⟩:=kL i vM
   rw[ce]at k1
   obtain⟨_,jn,xX⟩:=World.cells?_some k1
   obtain⟨xs,k,hk,hxy,_,jm,hf⟩:=DataW.trod_struct he k2
   match xs,jm,Nd,jn with
   | [y0,y1,y2,y3],_,[v0,v1,v2,v3],_=>
    have g0:=hf 0 f0 F
    have g1:=hf 1 f1 F
    have g2:=hf 2 f2 F
    have g3:=hf 3 f3 F
    rw[h0,o0,ci]at g0
    rw[h1,o1,ci]at g1
    rw[h2,o2,cu]at g2
    rw[h3,o3,cu]at g3
    obtain⟨n0,e0,_,w0⟩:=DataW.trod_int hi g0
    obtain⟨n1,e1,_,w1⟩:=DataW.trod_int hi g1
    obtain⟨n2,e2,_,w2⟩:=DataW.trod_int hu g2
    obtain⟨n3,e3,_,w3⟩:=DataW.trod_int hu g3
    have e0':v0=.int .i64 n0:=by simpa using e0
    have e1':v1=.int .i64 n1:=by simpa using e1
    have e2':v2=.int .u8 n2:=by simpa using e2
    have e3':v3=.int .u8 n3:=by simpa using e3
    subst e0' e1' e2' e3'
    have b2:=WR w2
    have b3:=WR w3
    refine⟨⟨n0,n1,n2.toNat,n3.toNat⟩,⟨by simp only;omega,by simp only;omega⟩,fun j hj=>?_⟩
    have q:=xX j hj
    rw[add_add]at q
    rw[q]
    match j,hj with
    |0,_=>rfl
    |1,_=>rfl
    |2,_=>simp[M7,bq b2.1]
    |3,_=>simp[M7,bq b3.1]
  have:Inhabited Ed:=⟨⟨0,0,0,0⟩⟩
  obtain⟨q,hq⟩:=choose_lt each
  refine⟨some a,cap,(List.range len).map q,by simpa using h,by simp;omega,mQ fun i vM=>?_,fun e Nf=>?_⟩
  ·have uU:i<len*4:=by rw[fP]at vM;simpa using vM
   have h4:=(hq (i/4) (by omega)).2 (i%4) (by omega)
   rw[show i/4*4+i%4=i by omega]at h4
   rw[h4]
   have h5:=xS (es:=(List.range len).map q) (i:=i/4) (by simp;omega) (i%4) (by omega)
   rw[show i/4*4+i%4=i by omega,ah vM]at h5
   rw[h5];simp
  ·obtain⟨j,hj,rfl⟩:=List.mem_map.1 Nf
   exact(hq j (by have:=List.mem_range.1 hj;omega)).1
structure abh (P:Program) (W:World) (v:Value) (b:Bu) (sb eb tb:Option Addr) (sc ec tc:Nat) (vs:List Value):Prop where
 val:v=.agg (bf b sb sc eb ec tb tc).toArray
 at_:nL W b sb eb tb vs
 pn: ∀e∈b.ao,e.pos<256∧e.neg<256
 s:b.start.length≤reachBytes
 e:b.ao.length≤reachBytes
 t:b.aP.length≤reachBytes
 r: ∀r∈b.aP,r.length≤reachBytes
theorem RH {t ti tr te e tn tu:TypeId} {f0 f1 f2 f3 f4:Field} {g0 g1 g2 g3:Field} {W:World} {v:Value} {d:DataW H} {p:List MemPlace}
  (ht:P.underlying t=some (.struct #[f0,f1,f2,f3,f4])) (hc:P.cellsOf t=5) (h0:f0.type=ti) (h1:f1.type=ti) (h2:f2.type=tr) (h3:f3.type=te) (h4:f4.type=tn) (o0:f0.offset=0) (o1:f1.offset=1) (o2:f2.offset=2) (o3:f3.offset=3) (o4:f4.offset=4)
  (hi:P.underlying ti=some (.int .i64)) (hn:P.underlying tn=some (.slice tr)) (jU:P.underlying tr=some (.slice ti)) (hte:P.underlying te=some (.slice e)) (he:P.underlying e=some (.struct #[g0,g1,g2,g3])) (hu:P.underlying tu=some (.int .u8))
  (k0:g0.type=ti) (k1:g1.type=ti) (k2:g2.type=tu) (k3:g3.type=tu) (q0:g0.offset=0) (q1:g1.offset=1) (q2:g2.offset=2) (q3:g3.offset=3)
  (ci:P.cellsOf ti=1) (cn:P.cellsOf tn=1) (cr:P.cellsOf tr=1) (cte:P.cellsOf te=1) (ce:P.cellsOf e=4) (cu:P.cellsOf tu=1) (br:0<P.bytesOf tr) (bi:0<P.bytesOf ti) (be:0<P.bytesOf e) (hw: ∀m∈d.weights P t,m≤reachBytes)
  (h:DataW.Trod enc P W 0 (fun _=>true) true t v d p): ∃b sb eb tb sc ec tc vs,abh P W v b sb eb tb sc ec tc vs:=by
 obtain⟨fV,hT⟩:=h
 obtain⟨xs,n,rfl,hx,jn,jm,Hi⟩:=DataW.trod_struct ht hT
 rw[hc]at jn
 obtain⟨c0,c1,c2,c3,c4,AM⟩: ∃c0 c1 c2 c3 c4,v.cells.toList=[c0,c1,c2,c3,c4]:=by
  match hh:v.cells.toList,jn with
  | [a,b,c,e,f],_=>exact⟨a,b,c,e,f,F⟩
 have hv:v=.agg #[c0,c1,c2,c3,c4]:=by
  have sj:v.cells.size=5:=by rw[←Array.length_toList,AM];rfl
  cases v with
  |agg cs=>
   have:cs.toList=[c0,c1,c2,c3,c4]:=AM
   rw[←Array.toArray_toList (xs:=cs),this]
  |_=>simp[Value.cells]at sj
 rw[AM]at Hi
 obtain⟨x0,x1,x2,x3,x4,rfl⟩: ∃a b c e f,xs=[a,b,c,e,f]:=by
  match xs,jm with
  | [a,b,c,e,f],_=>exact⟨a,b,c,e,f,F⟩
 have p0:=Hi 0 f0 F
 have p1:=Hi 1 f1 F
 have p2:=Hi 2 f2 F
 have p3:=Hi 3 f3 F
 have p4:=Hi 4 f4 F
 rw[h0,o0,ci]at p0
 rw[h1,o1,ci]at p1
 rw[h2,o2,cr]at p2
 rw[h3,o3,cte]at p3
 rw[h4,o4,cn]at p4
 have hd:d=.agg [x0.1,x1.1,x2.1,x3.1,x4.1]:=av Prod.fst hx
 have hwe:d.weights P t=DataW.weightsEach P [ti,ti,tr,te,tn] [x0.1,x1.1,x2.1,x3.1,x4.1]:=by
  rw[hd,DataW.weights,ht]
  simp[h0,h1,h2,h3,h4]
 rw[hwe]at hw
 have Hf: ∀m∈x2.1.weights P tr,m≤reachBytes:=fun m hm=>hw m (DataW.weights_mem_each (j:=2) F F m hm)
 have B9: ∀m∈x3.1.weights P te,m≤reachBytes:=fun m hm=>hw m (DataW.weights_mem_each (j:=3) F F m hm)
 have hw4: ∀m∈x4.1.weights P tn,m≤reachBytes:=fun m hm=>hw m (DataW.weights_mem_each (j:=4) F F m hm)
 obtain⟨n0,e0,_,_⟩:=DataW.trod_int hi p0
 obtain⟨n1,e1,_,_⟩:=DataW.trod_int hi p1
 have e0':c0=.int .i64 n0:=by simpa using e0
 have e1':c1=.int .i64 n1:=by simpa using e1
 subst e0' e1'
 obtain⟨sb,sc,ss,e2,l2,s2⟩:=Kq (c:=c2) jU hi ci bi F Hf p2
 obtain⟨eb,ec,es,e3,l3,s3,pn⟩:=Hh (c:=c3) hte he ce be k0 k1 k2 k3 q0 q1 q2 q3 hi hu ci cu F B9 p3
 obtain⟨tb,tc,ts,vs,e4,l4,r4,s4,t4⟩:=B8 (c2:=c4) hn jU hi cr ci br bi F hw4 p4
 exact⟨⟨n0,n1,ss,es,ts⟩,sb,eb,tb,sc,ec,tc,vs,by rw[hv,e2,e3,e4],⟨s2,s3,s4,t4⟩,pn,l2,l3,l4,r4⟩
theorem xY {t e:TypeId} {W:World} {c:Value} {cs:List Value} {x:DataW H×List MemPlace} {fV:Nat} (ht:P.underlying t=some (.slice e)) (he:P.underlying e=some (.int .u8)) (ce:P.cellsOf e=1) (be:0<P.bytesOf e)
  (AM:cs=[c]) (hw: ∀m∈x.1.weights P t,m≤reachBytes) (g:DataW.trod enc P W 0 (fun _=>true) true fV t cs=some x):
  ∃(l:List Nat) (b:Option Addr) (cp:Nat),c=.slice b l.length cp∧l.length≤reachBytes∧l.length≤cp∧Sl W b (ek l)∧ ∀x∈l,x<256:=by
 subst AM
 rcases open_ints ht he ce g with⟨h,_⟩|⟨a,len,cap,zs,h,_,hl,_,hz,hx,xX,hwz⟩
 ·exact⟨[],none,0,by simpa using h,aG _,aG _,Sl.nil _ _,fun x hx=>by cases hx⟩
 ·simp only[if_true]at hz
  rw[av Prod.fst hx]at hw
  have hb:=(me ht be hw).1
  have L9:(zs.take len).length=len:=by rw[bC];omega
  have hwt: ∀z∈zs,0≤z∧z<256:=fun z hz=>WR (hwz z hz)
  have qd:len≤reachBytes:=by
   have:(lits (H:=H) .u8 (zs.take len)).length=len:=by simp[lits];omega
   omega
  refine⟨(zs.take len).map Int.toNat,some a,cap,?_,?_,?_,mQ fun i hi=>?_,?_⟩
  ·rw[ag,L9];simpa using h
  ·rw[ag,L9];exact qd
  ·rw[ag,L9];exact hl
  ·have uU:i<len:=by rw[ag,ag,L9]at hi;exact hi
   have UR:i<zs.length:=by omega
   have Wy:=(hwt _ (ap UR)).1
   rw[xX i UR]
   simp[UR,bq Wy]
  ·intro x hx
   obtain⟨z,hz',rfl⟩:=List.mem_map.1 hx
   have:=hwt z (List.mem_of_mem_take hz')
   omega
structure agy (P:Program) (W:World) (v:Value) (l:La) (pb lb:Option Addr) (pc lc:Nat):Prop where
 val:v=.agg (c_ l pb pc lb lc).toArray
 at_:qF W l pb lb pc lc
 p8: ∀x∈l.pre,x<256
 l8: ∀x∈l.loop,x<256
 p:l.pre.length≤reachBytes
 l:l.loop.length≤reachBytes
theorem RI {t tw tu:TypeId} {f0 f1:Field} {W:World} {v:Value} {d:DataW H} {p:List MemPlace}
  (ht:P.underlying t=some (.struct #[f0,f1])) (hc:P.cellsOf t=2) (h0:f0.type=tw) (h1:f1.type=tw) (o0:f0.offset=0) (o1:f1.offset=1)
  (hn:P.underlying tw=some (.slice tu)) (hu:P.underlying tu=some (.int .u8)) (cw:P.cellsOf tw=1) (cu:P.cellsOf tu=1) (bu:0<P.bytesOf tu) (hw: ∀m∈d.weights P t,m≤reachBytes)
  (h:DataW.Trod enc P W 0 (fun _=>true) true t v d p): ∃l pb lb pc lc,agy P W v l pb lb pc lc:=by
 obtain⟨fV,hT⟩:=h
 obtain⟨xs,n,rfl,hx,jn,jm,Hi⟩:=DataW.trod_struct ht hT
 rw[hc]at jn
 obtain⟨c0,c1,AM⟩: ∃c0 c1,v.cells.toList=[c0,c1]:=by
  match hh:v.cells.toList,jn with
  | [a,b],_=>exact⟨a,b,F⟩
 have hv:v=.agg #[c0,c1]:=by
  have sj:v.cells.size=2:=by rw[←Array.length_toList,AM];rfl
  cases v with
  |agg cs=>
   have:cs.toList=[c0,c1]:=AM
   rw[←Array.toArray_toList (xs:=cs),this]
  |_=>simp[Value.cells]at sj
 rw[AM]at Hi
 obtain⟨x0,x1,rfl⟩: ∃a b,xs=[a,b]:=by
  match xs,jm with
  | [a,b],_=>exact⟨a,b,F⟩
 have p0:=Hi 0 f0 F
 have p1:=Hi 1 f1 F
 rw[h0,o0,cw]at p0
 rw[h1,o1,cw]at p1
 have hd:d=.agg [x0.1,x1.1]:=av Prod.fst hx
 have hwe:d.weights P t=DataW.weightsEach P [tw,tw] [x0.1,x1.1]:=by
  rw[hd,DataW.weights,ht]
  simp[h0,h1]
 rw[hwe]at hw
 have AN: ∀m∈x0.1.weights P tw,m≤reachBytes:=fun m hm=>hw m (DataW.weights_mem_each (j:=0) F F m hm)
 have AO: ∀m∈x1.1.weights P tw,m≤reachBytes:=fun m hm=>hw m (DataW.weights_mem_each (j:=1) F F m hm)
 obtain⟨l0,b0,cp0,e0,a0,m0,s0,r0⟩:=xY (c:=c0) hn hu cu bu F AN p0
 obtain⟨l1,b1,cp1,e1,a1,m1,s1,r1⟩:=xY (c:=c1) hn hu cu bu F AO p1
 exact⟨⟨l0,l1⟩,b0,b1,cp0,cp1,by rw[hv,e0,e1],⟨s0,s1,m0,m1⟩,r0,r1,a0,a1⟩
end
theorem o5 {P:Program} {r:Option Nat} {base:World} {n:Nat} {c:Code} {Q:iT} {ρ:Env} {O:List Item} (O':List Item) (L:List (Nat×Value)) (e:O=O') (h:cL L ρ) (k: ∀fy,T P r base n c Q (ED L fy) O'):T P r base n c Q ρ O:=by
 obtain⟨fy,rfl⟩:=h.elim
 subst e
 exact k fy
theorem kI {P:Program} {r:Option Nat} {base:World} {n m:Nat} {c:Code} {Q:iT} {ρ:Env} {O:List Item} (O':List Item) (L:List (Nat×Value)) (e:O=O') (h:cL L ρ) (k: ∀fy,U7 P r base n c Q m (ED L fy) O'):U7 P r base n c Q m ρ O:=by
 obtain⟨fy,rfl⟩:=h.elim
 subst e
 exact k fy
section
variable {P:Program} {base:World} {ρ:Env} {O:List Item} {dst:Option Nat} {t:TypeId} {p:String} {af:Array Edge} {g:Option (Nat×Bool)}
end
structure Vx where
 par:Nat
 gV:Nat
deriving DecidableEq
def qq (es:List Ed) (x m:Nat):Nat:=es.foldl (fun a e=>if mw e x∧m.testBit e.fr.toNat=true then a|||1<<<e.to.toNat else a) 0
theorem S1 (k q:Nat):(1<<<k).testBit q=decide (k=q):=by rw[Nat.one_shiftLeft,Nat.testBit_two_pow]
theorem yR {α:Type} (p:α→Prop) [DecidablePred p] (f:α→Nat): ∀(l:List α) (a q:Nat),(l.foldl (fun a e=>if p e then a|||f e else a) a).testBit q=true↔a.testBit q=true∨ ∃e∈l,p e∧(f e).testBit q=true
 | [],a,q=>by simp
 |e::l,a,q=>by
  rw[gh,yR p f l]
  by_cases h:p e
  ·rw[aA h,Nat.testBit_or,Bool.or_eq_true]
   constructor
   ·rintro((h1|h1)|⟨e',h1,h2⟩)
    ·exact .inl h1
    ·exact .inr ⟨e,by simp,h,h1⟩
    ·exact .inr ⟨e',by simp[h1],h2⟩
   ·rintro(h1|⟨e',h1,h2,h3⟩)
    ·exact .inl (.inl h1)
    ·rcases List.mem_cons.1 h1 with rfl|h1
     ·exact .inl (.inr h3)
     ·exact .inr ⟨e',h1,h2,h3⟩
  ·rw[ar h]
   constructor
   ·rintro(h1|⟨e',h1,h2⟩)
    ·exact .inl h1
    ·exact .inr ⟨e',by simp[h1],h2⟩
   ·rintro(h1|⟨e',h1,h2,h3⟩)
    ·exact .inl h1
    ·rcases List.mem_cons.1 h1 with rfl|h1
     ·exact absurd h2 h
     ·exact .inr ⟨e',h1,h2,h3⟩
theorem uy {es:List Ed} {x m q:Nat}:(qq es x m).testBit q=true↔ ∃e∈es,mw e x∧m.testBit e.fr.toNat=true∧e.to.toNat=q:=by
 unfold qq
 rw[yR (fun e=>mw e x∧m.testBit e.fr.toNat=true) (fun e=>1<<<e.to.toNat)]
 simp only[Nat.zero_testBit,Bool.false_eq_true,false_or,S1,bo,and_assoc]
def iW (vs:List Vx) (p:Nat):Nat:=(vs.drop 1).foldl (fun a v=>if v.par=p then a|||v.gV else a) 0
theorem K7 {α:Type} {l:List α} {a:α}:a∈l.drop 1↔ ∃j,1≤j∧l[j]? =some a:=by
 rw[List.mem_iff_getElem?]
 constructor
 ·rintro⟨i,h⟩
  rw[List.getElem?_drop]at h
  exact⟨1+i,by omega,h⟩
 ·rintro⟨j,h,h2⟩
  exact⟨j-1,by rw[List.getElem?_drop,show 1+(j-1)=j by omega];exact h2⟩
theorem nC {vs:List Vx} {p q:Nat}:(iW vs p).testBit q=true↔ ∃j v,1≤j∧vs[j]? =some v∧v.par=p∧v.gV.testBit q=true:=by
 unfold iW
 rw[yR (fun v:Vx=>v.par=p) (fun v=>v.gV)]
 simp only[Nat.zero_testBit,Bool.false_eq_true,false_or,K7]
 constructor
 ·rintro⟨v,⟨j,h1,h2⟩,h3,h4⟩
  exact⟨j,v,h1,h2,h3,h4⟩
 ·rintro⟨j,v,h1,h2,h3,h4⟩
  exact⟨v,⟨j,h1,h2⟩,h3,h4⟩
def oa (a b:Nat):Nat:=a^^^(a&&&b)
theorem CO (a b q:Nat):(oa a b).testBit q=(a.testBit q&&!b.testBit q):=by
 unfold oa
 rw[Nat.testBit_xor,Nat.testBit_and]
 cases a.testBit q<;>cases b.testBit q<;>rfl
def ju:Vx:=⟨0,0⟩
def wM (oW:List Vx) (v:Vx):List Vx:=oW++[if oW=[]then v else⟨v.par,oa (v.gV&&&(oW.getD v.par ju).gV) (iW oW v.par)⟩]
def gu (vs:List Vx):List Vx:=vs.foldl wM []
theorem Bl (vs:List Vx) (v:Vx):gu (vs++[v])=wM (gu vs) v:=by unfold gu;rw[ep];rfl
theorem iI: ∀(vs:List Vx),(gu vs).length=vs.length:=by
 have h: ∀(vs oW:List Vx),(vs.foldl wM oW).length=oW.length+vs.length:=by
  intro vs
  induction vs with
  |nil=>intro oW;rfl
  |cons v vs ih=>intro oW;rw[gh,ih];unfold wM;simp;omega
 intro vs;unfold gu;rw[h];simp
theorem vw (vs:List Vx) (k:Nat):gu (vs.take k)=(gu vs).take k:=by
 have h: ∀(vs oW:List Vx),(vs.foldl wM oW).take oW.length=oW:=by
  intro vs
  induction vs with
  |nil=>intro oW;simp
  |cons v vs ih=>
   intro oW
   rw[gh]
   have h1:=ih (wM oW v)
   have h2:oW.length≤(wM oW v).length:=by unfold wM;simp
   have h3:(wM oW v).take oW.length=oW:=by unfold wM;simp
   rw[←h3]
   conv=>rhs;rw[←h1]
   rw[List.take_take,h3]
   congr 1
   omega
 have h2:=h (vs.drop k) (gu (vs.take k))
 unfold gu at h2⊢
 rw[←ep,List.take_append_drop]at h2
 have h3:=iI (vs.take k)
 unfold gu at h3
 rw[h3]at h2
 rw[←h2,bC]
 by_cases hk:k≤vs.length
 ·rw[Nat.min_eq_left hk]
 ·rw[Nat.min_eq_right (by omega)]
  have h4:=iI vs
  unfold gu at h4
  rw[aN (by omega),aN (by omega)]
theorem CP {vs:List Vx} {i:Nat} {v:Vx} (h:vs[i]? =some v):(gu vs)[i]? =some (if i=0 then v else⟨v.par,oa (v.gV&&&(((gu vs).take i).getD v.par ju).gV) (iW ((gu vs).take i) v.par)⟩):=by
 have hi:i<vs.length:=(List.getElem?_eq_some_iff.1 h).1
 have h1:(gu vs)[i]? =((gu vs).take (i+1))[i]? :=by rw[List.getElem?_take,aA (by omega)]
 have h2:vs.take (i+1)=vs.take i++[v]:=by rw[List.take_add_one,h];rfl
 have hl:(gu (vs.take i)).length=i:=by rw[iI,bC];omega
 rw[h1,←vw,h2,Bl]
 unfold wM
 rw[bN (by omega),hl,eG,List.getElem?_cons_zero,vw]
 congr 1
 by_cases h0:i=0
 ·rw[aA h0,aA (by rw[h0];rfl)]
 ·rw[ar h0,ar (fun e=>h0 (by rw[←hl,vw,e];rfl))]
def pW (vs:List Vx) (i q:Nat):Prop:= ∃v,vs[i]? =some v∧v.gV.testBit q=true
def PW (vs:List Vx):Prop:= ∀i v,vs[i]? =some v→1≤i→v.par<i
theorem yS {vs:List Vx} {i:Nat} {v:Vx} (h:vs[i]? =some v): ∃u,(gu vs)[i]? =some u∧u.par=v.par:=by
 refine⟨_,CP h,?_⟩
 split<;>rfl
theorem mh {vs:List Vx} {i:Nat} {u:Vx} (h:(gu vs)[i]? =some u): ∃v,vs[i]? =some v∧u.par=v.par:=by
 have hi:=(List.getElem?_eq_some_iff.1 h).1
 rw[iI]at hi
 have h2:=yS (ah hi)
 obtain⟨u',h3,h4⟩:=h2
 rw[h]at h3
 cases h3
 exact⟨_,ah hi,h4⟩
theorem NV {vs:List Vx} (h:PW vs):PW (gu vs):=fun i u h1 h2=>by
 obtain⟨v,h3,h4⟩:=mh h1
 rw[h4];exact h i v h3 h2
theorem yT {vs:List Vx} {v:Vx} (h:vs[0]? =some v):(gu vs)[0]? =some v:=by rw[CP h,aA F]
theorem CQ {vs:List Vx} (hp:PW vs) {i:Nat} {v:Vx} (h:vs[i]? =some v) (hi:1≤i) {q:Nat}:pW (gu vs) i q↔v.gV.testBit q=true∧pW (gu vs) v.par q∧ ∀j u,1≤j→j<i→vs[j]? =some u→u.par=v.par→ ¬pW (gu vs) j q:=by
 have h1:=CP h
 rw[ar (by omega)]at h1
 have NH:=hp i v h hi
 have gf:i<vs.length:=(List.getElem?_eq_some_iff.1 h).1
 have h2:(((gu vs).take i).getD v.par ju).gV.testBit q=true↔pW (gu vs) v.par q:=by
  unfold pW
  rw[aj,List.getElem?_take,aA NH]
  cases hx:(gu vs)[v.par]? with
  |none=>
   rw[List.getElem?_eq_none_iff,iI]at hx;omega
  |some u=>simp
 have h3:(iW ((gu vs).take i) v.par).testBit q=true↔ ∃j u,1≤j∧j<i∧vs[j]? =some u∧u.par=v.par∧pW (gu vs) j q:=by
  rw[nC]
  constructor
  ·rintro⟨j,u,a1,a2,a3,a4⟩
   rw[List.getElem?_take]at a2
   split at a2
   ·rename_i hj
    obtain⟨w,b1,b2⟩:=mh a2
    exact⟨j,w,a1,hj,b1,by rw[←b2,a3],u,a2,a4⟩
   ·cases a2
  ·rintro⟨j,u,a1,a2,a3,a4,w,a5,a6⟩
   obtain⟨y,b1,b2⟩:=mh a5
   rw[a3]at b1;cases b1
   exact⟨j,w,a1,by rw[List.getElem?_take,aA a2];exact a5,by rw[b2,a4],a6⟩
 constructor
 ·rintro⟨u,a1,a2⟩
  rw[h1]at a1;cases a1
  simp only[CO,Nat.testBit_and,aY,Bool.not_eq_true']at a2
  refine⟨a2.1.1,h2.1 a2.1.2,fun j u b1 b2 b3 b4 b5=>?_⟩
  have:=h3.2 ⟨j,u,b1,b2,b3,b4,b5⟩
  rw[a2.2]at this;cases this
 ·rintro⟨a1,a2,a3⟩
  refine⟨_,h1,?_⟩
  simp only[CO,Nat.testBit_and,aY,Bool.not_eq_true']
  refine⟨⟨a1,h2.2 a2⟩,?_⟩
  rw[Bool.eq_false_iff]
  intro hc
  obtain⟨j,u,b1,b2,b3,b4,b5⟩:=h3.1 hc
  exact a3 j u b1 b2 b3 b4 b5
theorem S3 {vs:List Vx} (hp:PW vs) {i j:Nat} {u v:Vx} (hi:1≤i) (wK:i<j) (hu:vs[i]? =some u) (hv:vs[j]? =some v) (e:u.par=v.par) {q:Nat} (h1:pW (gu vs) i q) (h2:pW (gu vs) j q):False:=
 ((CQ hp hv (by omega)).1 h2).2.2 i u hi wK hu e h1
theorem S4 {vs:List Vx} (hp:PW vs) {i:Nat} {v:Vx} (hv:vs[i]? =some v) (hi:1≤i) {q:Nat} (h1:v.gV.testBit q=true) (h2:pW (gu vs) v.par q): ∃j u,1≤j∧j≤i∧vs[j]? =some u∧u.par=v.par∧pW (gu vs) j q:=by
 by_cases h: ∃j u,1≤j∧j<i∧vs[j]? =some u∧u.par=v.par∧pW (gu vs) j q
 ·obtain⟨j,u,a1,a2,a3,a4,a5⟩:=h
  exact⟨j,u,a1,by omega,a3,a4,a5⟩
 ·exact⟨i,v,hi,aV _,hv,F,(CQ hp hv hi).2 ⟨h1,h2,fun j u a1 a2 a3 a4 a5=>h ⟨j,u,a1,a2,a3,a4,a5⟩⟩⟩
def zZ {α:Type} (f:List α→α):Nat→List α
 |0=>[]
 |k+1=>zZ f k++[f (zZ f k)]
theorem jO {α:Type} (f:List α→α): ∀k,(zZ f k).length=k
 |0=>rfl
 |k+1=>by rw[zZ,aI,jO f k];rfl
theorem Fu {α:Type} (f:List α→α): ∀n k,k≤n→(zZ f n).take k=zZ f k
 |0,k,h=>by rw[Nat.le_zero.1 h];rfl
 |n+1,k,h=>by
  by_cases e:k=n+1
  ·rw[e];exact aN (by rw[jO];exact aV _)
  ·rw[zZ,List.take_append_of_le_length (by rw[jO];omega),Fu f n k (by omega)]
theorem pX {α:Type} (f:List α→α) {n i:Nat} (h:i<n):(zZ f n)[i]? =some (f (zZ f i)):=by
 have h1:(zZ f n)[i]? =((zZ f n).take (i+1))[i]? :=by rw[List.getElem?_take,aA (by omega)]
 rw[h1,Fu f n (i+1) (by omega),zZ,bN (by rw[jO];exact aV _),jO,eG]
 rfl
def uz (nv:List Vx) (g:List Bool):Bool:=
 let i:=g.length;let v:=nv.getD i ju
 (decide (0<i)&&(g.getD v.par false||decide (iW nv v.par=(nv.getD v.par ju).gV)))||decide (v.gV=0)
def fa (nv:List Vx):List Bool:=zZ (uz nv) nv.length
def dO (nv:List Vx) (i:Nat):Bool:=(fa nv).getD i false
theorem kY (nv:List Vx):(fa nv).length=nv.length:=jO _ _
theorem o8 {nv:List Vx} (hp:PW nv) {i:Nat} {v:Vx} (h:nv[i]? =some v):dO nv i=true↔(1≤i∧(dO nv v.par=true∨ ∃p,nv[v.par]? =some p∧iW nv v.par=p.gV))∨v.gV=0:=by
 have hi:i<nv.length:=(List.getElem?_eq_some_iff.1 h).1
 have h1:dO nv i=uz nv (zZ (uz nv) i):=by
  unfold dO fa
  rw[aj,pX _ hi];rfl
 have h2:nv.getD i ju=v:=by rw[aj,h];rfl
 rw[h1]
 unfold uz
 simp only[jO,h2,Bool.or_eq_true,aY,bo]
 refine or_congr ?_ Iff.rfl
 constructor
 ·rintro⟨a,b⟩
  have NH:=hp i v h a
  refine⟨a,b.elim (fun b=>.inl ?_) fun b=>.inr ?_⟩
  ·unfold dO fa
   rw[aj]at b⊢
   rw[pX _ (by omega:v.par<nv.length)]
   rw[pX _ NH]at b
   exact b
  ·have xC:v.par<nv.length:=by omega
   exact⟨_,ah xC,by rw[b,aj,ah xC];rfl⟩
 ·rintro⟨a,b⟩
  have NH:=hp i v h a
  refine⟨a,b.elim (fun b=>.inl ?_) fun⟨p,b1,b2⟩=>.inr ?_⟩
  ·unfold dO fa at b
   rw[aj]at b⊢
   rw[pX _ (by omega:v.par<nv.length)]at b
   rw[pX _ NH]
   exact b
  ·rw[b2,aj,b1];rfl
def lk (gs:List Bool) (i:Nat):Nat:=(gs.take i).count false
theorem Fv (gs:List Bool):lk gs 0=0:=rfl
theorem rr {gs:List Bool} {i:Nat} (h:i<gs.length):lk gs (i+1)=lk gs i+if gs.getD i false=true then 0 else 1:=by
 unfold lk
 rw[List.take_add_one,List.count_append,aj,ah h]
 cases gs[i]<;>rfl
theorem HK (gs:List Bool) (i:Nat):lk gs i≤i:=cT List.count_le_length (by rw[bC];omega)
theorem OG {gs:List Bool} {i j:Nat} (h:i≤j) (hj:j≤gs.length):lk gs i≤lk gs j:=by
 induction j with
 |zero=>rw[Nat.le_zero.1 h];exact aV _
 |succ j ih=>
  by_cases e:i=j+1
  ·rw[e];exact aV _
  ·exact cT (ih (by omega) (by omega)) (by rw[rr (by omega)];omega)
theorem vx {gs:List Bool} {i j:Nat} (h:i<j) (hj:j≤gs.length) (hi:gs.getD i false=false):lk gs i<lk gs j:=by
 have h1:=OG (gs:=gs) (i:=i+1) (j:=j) (by omega) hj
 rw[rr (by omega),hi]at h1
 simp at h1;omega
theorem Jr {gs:List Bool} {i j:Nat} (hi:i<gs.length) (hj:j<gs.length) (h1:gs.getD i false=false) (h2:gs.getD j false=false) (h:lk gs i=lk gs j):i=j:=by
 rcases Nat.lt_trichotomy i j with c|c|c
 ·have:=vx c (by omega) h1;omega
 ·exact c
 ·have:=vx c (by omega) h2;omega
theorem OH {gs:List Bool} {i:Nat} (hi:i≤gs.length) (h: ∀j,j<i→gs.getD j false=false):lk gs i=i:=by
 induction i with
 |zero=>rfl
 |succ i ih=>rw[rr (by omega),ih (by omega) (fun j hj=>h j (by omega)),h i (by omega)];rfl
theorem OI {gs:List Bool} {i:Nat} (hi:i≤gs.length) (h:lk gs i=i): ∀j,j<i→gs.getD j false=false:=by
 induction i with
 |zero=>intro j hj;omega
 |succ i ih=>
  rw[rr (by omega)]at h
  have:=HK gs i
  split at h
  ·omega
  ·rename_i hg
   intro j hj
   by_cases e:j=i
   ·rw[e];exact Bool.eq_false_iff.2 hg
   ·exact ih (by omega) (by omega) j (by omega)
def vy (nv:List Vx) (gs:List Bool):Nat→List Vx
 |0=>[]
 |k+1=>if gs.getD k false=true then vy nv gs k else vy nv gs k++[⟨lk gs (nv.getD k ju).par,(nv.getD k ju).gV⟩]
theorem o9 {nv:List Vx} {gs:List Bool}: ∀k,k≤gs.length→(vy nv gs k).length=lk gs k
 |0,_=>rfl
 |k+1,h=>by
  rw[vy,rr (by omega)]
  split
  ·exact o9 k (by omega)
  ·rw[aI,o9 k (by omega)];rfl
theorem Js {nv:List Vx} {gs:List Bool} {i:Nat} {v:Vx} (h:nv[i]? =some v) (hg:gs.getD i false=false): ∀k,k≤gs.length→i<k→(vy nv gs k)[lk gs i]? =some ⟨lk gs v.par,v.gV⟩
 |0,_,h2=>by omega
 |k+1,h1,h2=>by
  rw[vy]
  by_cases e:i=k
  ·rw[←e,hg,ar (by simp),bN (by rw[o9 i (by omega)];exact aV _),o9 i (by omega),eG,aj,h];rfl
  ·have ih:=Js h hg k (by omega) (by omega)
   split
   ·exact ih
   ·rw[bG (by have:=(List.getElem?_eq_some_iff.1 ih).1;exact this)];exact ih
theorem CR {nv:List Vx} {gs:List Bool} {j:Nat} {u:Vx}: ∀k,k≤gs.length→k≤nv.length→(vy nv gs k)[j]? =some u→ ∃i v,i<k∧nv[i]? =some v∧gs.getD i false=false∧j=lk gs i∧u=⟨lk gs v.par,v.gV⟩
 |0,_,_,h=>by cases h
 |k+1,h1,h2,h=>by
  rw[vy]at h
  split at h
  ·obtain⟨i,v,a,b⟩:=CR k (by omega) (by omega) h
   exact⟨i,v,by omega,b⟩
  ·rename_i hg
   by_cases e:j<(vy nv gs k).length
   ·rw[bG e]at h
    obtain⟨i,v,a,b⟩:=CR k (by omega) (by omega) h
    exact⟨i,v,by omega,b⟩
   ·have hj:=(List.getElem?_eq_some_iff.1 h).1
    rw[aI,List.length_singleton]at hj
    have zX:j=(vy nv gs k).length:=by omega
    rw[bN (by omega),zX,eG,List.getElem?_cons_zero]at h
    have hk:nv[k]? =some (nv.getD k ju):=by rw[aj,ah (by omega:k<nv.length)];rfl
    exact⟨k,_,by omega,hk,by simpa using hg,by rw[zX,o9 k (by omega)],(cg h).symm⟩
def rN (p:Nat→Bool) (lR:Nat):Nat→Nat
 |0=>lR
 |k+1=>if p k=true then min (rN p lR k) k else rN p lR k
theorem Cu (p:Nat→Bool) (lR:Nat): ∀k,rN p lR k≤lR
 |0=>aV _
 |k+1=>by
  have:=Cu p lR k
  rw[rN]
  split<;>omega
theorem HU {p:Nat→Bool} {lR i:Nat} (h:p i=true): ∀k,i<k→rN p lR k≤i
 |0,h2=>by omega
 |k+1,h2=>by
  rw[rN]
  by_cases e:i=k
  ·rw[←e,aA h];omega
  ·have:=HU (lR:=lR) h k (by omega)
   split<;>omega
theorem vz (p:Nat→Bool) (lR:Nat): ∀k,rN p lR k=lR∨(rN p lR k<k∧p (rN p lR k)=true)
 |0=>.inl F
 |k+1=>by
  rw[rN]
  by_cases h:p k=true
  ·rw[aA h]
   rcases vz p lR k with h1|h1
   ·by_cases h2:rN p lR k≤k
    ·rw[Nat.min_eq_left h2];exact .inl h1
    ·rw[Nat.min_eq_right (by omega)];exact .inr ⟨by omega,h⟩
   ·rw[Nat.min_eq_left (by omega)];exact .inr ⟨by omega,h1.2⟩
  ·rw[ar h]
   rcases vz p lR k with h1|h1
   ·exact .inl h1
   ·exact .inr ⟨by omega,h1.2⟩
def I9 (es:List Ed) (x:Nat) (t:List Vx):List Vx:=t.map fun v=>⟨v.par,qq es x v.gV⟩
def ra (n1:List Vx) (aa:Nat):Nat→List Vx
 |0=>[]
 |k+1=>if(n1.getD k ju).gV&&&aa=0 then ra n1 aa k else ra n1 aa k++[⟨k,(n1.getD k ju).gV&&&aa⟩]
def GP (es:List Ed) (aa x:Nat) (t:List Vx):List Vx:=I9 es x t++ra (I9 es x t) aa t.length
def iw (es:List Ed) (aa x:Nat) (t:List Vx):List Vx:=gu (GP es aa x t)
def stepT (es:List Ed) (aa x:Nat) (t:List Vx):List Vx:=vy (iw es aa x t) (fa (iw es aa x t)) (iw es aa x t).length
def kM (es:List Ed) (aa x:Nat) (t:List Vx):Nat:=rN (dO (iw es aa x t)) t.length (iw es aa x t).length
def rh (nv:List Vx) (i:Nat):Bool:=!dO nv i&&decide (iW nv i=(nv.getD i ju).gV)
def mU (es:List Ed) (aa x:Nat) (t:List Vx):Nat:=rN (rh (iw es aa x t)) t.length (iw es aa x t).length
theorem HV {es:List Ed} {x i:Nat} {t:List Vx} {v:Vx} (h:t[i]? =some v):(I9 es x t)[i]? =some ⟨v.par,qq es x v.gV⟩:=by unfold I9;rw[bc,h];rfl
theorem pP (es:List Ed) (x:Nat) (t:List Vx):(I9 es x t).length=t.length:=ag _
theorem uA {n1:List Vx} {aa:Nat} {u:Vx}: ∀k,u∈ra n1 aa k↔ ∃i,i<k∧(n1.getD i ju).gV&&&aa≠0∧u=⟨i,(n1.getD i ju).gV&&&aa⟩
 |0=>by simp[ra]
 |k+1=>by
  rw[ra]
  by_cases h:(n1.getD k ju).gV&&&aa=0
  ·rw[aA h,uA k]
   exact⟨fun⟨i,a,b⟩=>⟨i,by omega,b⟩,fun⟨i,a,b,c⟩=>⟨i,by
    by_cases e:i=k
    ·rw[e]at b;exact absurd h b
    ·omega,b,c⟩⟩
  ·rw[ar h,cI,uA k,bM]
   constructor
   ·rintro(⟨i,a,b⟩|rfl)
    ·exact⟨i,by omega,b⟩
    ·exact⟨k,by omega,h,F⟩
   ·rintro⟨i,a,b,c⟩
    by_cases e:i=k
    ·subst e;exact .inr c
    ·exact .inl ⟨i,by omega,b,c⟩
theorem yC {n1:List Vx} {aa:Nat}: ∀k,(ra n1 aa k).length≤k
 |0=>aV _
 |k+1=>by
  have:=yC (n1:=n1) (aa:=aa) k
  rw[ra]
  split
  ·omega
  ·rw[aI];simp;omega
theorem Ct (es:List Ed) (aa x:Nat) (t:List Vx):t.length≤(GP es aa x t).length∧(GP es aa x t).length≤2*t.length:=by
 have:=yC (n1:=I9 es x t) (aa:=aa) t.length
 unfold GP
 rw[aI,pP]
 omega
theorem pR {es:List Ed} {aa x i:Nat} {t:List Vx} {v:Vx} (h:t[i]? =some v):(GP es aa x t)[i]? =some ⟨v.par,qq es x v.gV⟩:=by
 unfold GP
 rw[bG (by rw[pP];exact(List.getElem?_eq_some_iff.1 h).1),HV h]
theorem S5 {es:List Ed} {aa x i:Nat} {t:List Vx} {v:Vx} (h:t[i]? =some v) (hf:qq es x v.gV&&&aa≠0): ∃j,t.length≤j∧(GP es aa x t)[j]? =some ⟨i,qq es x v.gV&&&aa⟩:=by
 have h1:(I9 es x t).getD i ju=⟨v.par,qq es x v.gV⟩:=by rw[aj,HV h];rfl
 have h2:(⟨i,qq es x v.gV&&&aa⟩:Vx)∈ra (I9 es x t) aa t.length:=(uA _).2 ⟨i,(List.getElem?_eq_some_iff.1 h).1,by rw[h1];exact hf,by rw[h1]⟩
 obtain⟨j,hj⟩:=List.mem_iff_getElem?.1 h2
 exact⟨t.length+j,Nat.le_add_right _ _,by unfold GP;rw[bN (by rw[pP];omega),pP,Nat.add_sub_cancel_left];exact hj⟩
theorem o_ {es:List Ed} {aa x j:Nat} {t:List Vx} {u:Vx} (h:(GP es aa x t)[j]? =some u):(∃v,t[j]? =some v∧u=⟨v.par,qq es x v.gV⟩)∨(t.length≤j∧ ∃i v,t[i]? =some v∧u=⟨i,qq es x v.gV&&&aa⟩):=by
 by_cases hj:j<t.length
 ·have h2:=pR (es:=es) (aa:=aa) (x:=x) (ah hj)
  rw[h]at h2
  exact .inl ⟨_,ah hj,cg h2⟩
 ·right
  refine⟨by omega,?_⟩
  unfold GP at h
  rw[bN (by rw[pP];omega)]at h
  obtain⟨i,a,b,c⟩:=(uA _).1 (bE h)
  have h1:(I9 es x t).getD i ju=⟨t[i].par,qq es x t[i].gV⟩:=by rw[aj,HV (ah a)];rfl
  rw[h1]at c
  exact⟨i,t[i],ah a,c⟩
theorem vp {es:List Ed} {aa x:Nat} {t:List Vx} (h:PW t):PW (GP es aa x t):=fun j u h1 h2=>by
 rcases o_ h1 with⟨v,a,rfl⟩|⟨a,i,v,b,rfl⟩
 ·exact h j v a h2
 ·show i<j
  have:=(List.getElem?_eq_some_iff.1 b).1
  omega
theorem yU {es:List Ed} {aa x:Nat} {t:List Vx} (h:PW t):PW (iw es aa x t):=NV (vp h)
theorem CS (es:List Ed) (aa x:Nat) (t:List Vx):(iw es aa x t).length=(GP es aa x t).length:=iI _
structure TI (N:Nat) (t:List Vx):Prop where
 pw:PW t
 p0: ∀v:Vx,t[0]? =some v→v.par=0
 sub: ∀(i:Nat) (v:Vx),t[i]? =some v→1≤i→ ∀q,v.gV.testBit q=true→pW t v.par q
 dis: ∀(i j:Nat) (u v:Vx),1≤i→i<j→t[i]? =some u→t[j]? =some v→u.par=v.par→ ∀q,u.gV.testBit q=true→ ¬v.gV.testBit q=true
 own: ∀(i:Nat) (v:Vx),t[i]? =some v→ ∃q,v.gV.testBit q=true∧ ¬(iW t i).testBit q=true
 bnd: ∀(i:Nat) (v:Vx),t[i]? =some v→ ∀q,v.gV.testBit q=true→q<N
theorem OJ {m:Nat} (h:m≠0): ∃q,m.testBit q=true:=by
 apply Classical.byContradiction
 intro hn
 refine h (Nat.eq_of_testBit_eq fun q=>?_)
 rw[Nat.zero_testBit]
 cases hq:m.testBit q with
 |false=>rfl
 |true=>exact absurd ⟨q,hq⟩ hn
theorem Yl {a b:Nat} (h:a≠b) (hs: ∀q,a.testBit q=true→b.testBit q=true): ∃q,b.testBit q=true∧ ¬a.testBit q=true:=by
 apply Classical.byContradiction
 intro hn
 refine h (Nat.eq_of_testBit_eq fun q=>?_)
 cases ha:a.testBit q with
 |true=>rw[hs q ha]
 |false=>
  cases hb:b.testBit q with
  |false=>rfl
  |true=>exact absurd ⟨q,hb,by rw[ha];simp⟩ hn
theorem Ym {nv:List Vx} {i:Nat}:(fa nv).getD i false=dO nv i:=rfl
theorem ny {nv:List Vx} (hp:PW nv) {i:Nat} {v:Vx} (h:nv[i]? =some v) (hi:1≤i) (hg:dO nv i=false):dO nv v.par=false:=by
 cases hc:dO nv v.par with
 |false=>rfl
 |true=>rw[(o8 hp h).2 (.inl ⟨hi,.inl hc⟩)]at hg;cases hg
theorem OK {nv:List Vx} (hp:PW nv) {i:Nat} {v:Vx} (h:nv[i]? =some v) (hg:dO nv i=false):v.gV≠0:=fun hc=>by
 rw[(o8 hp h).2 (.inr hc)]at hg;cases hg
theorem xm {es:List Ed} {aa x i:Nat} {t:List Vx} {v:Vx} (h:(iw es aa x t)[i]? =some v) (hg:dO (iw es aa x t) i=false):(stepT es aa x t)[lk (fa (iw es aa x t)) i]? =some ⟨lk (fa (iw es aa x t)) v.par,v.gV⟩:=
 Js h hg _ (by rw[kY];exact aV _) (List.getElem?_eq_some_iff.1 h).1
theorem lT {es:List Ed} {aa x j:Nat} {t:List Vx} {u:Vx} (h:(stepT es aa x t)[j]? =some u): ∃i v,(iw es aa x t)[i]? =some v∧dO (iw es aa x t) i=false∧j=lk (fa (iw es aa x t)) i∧u=⟨lk (fa (iw es aa x t)) v.par,v.gV⟩:=by
 obtain⟨i,v,_,a⟩:=CR _ (by rw[kY];exact aV _) (aV _) h
 exact⟨i,v,a⟩
theorem uB {es:List Ed} {aa x i:Nat} {t:List Vx} (hp:PW t) {v:Vx} (h:(iw es aa x t)[i]? =some v): ∃u,(GP es aa x t)[i]? =some u∧v.par=u.par∧ ∀q,v.gV.testBit q=true→u.gV.testBit q=true:=by
 obtain⟨u,a,b⟩:=mh h
 refine⟨u,a,b,fun q hq=>?_⟩
 by_cases hi:1≤i
 ·exact((CQ (vp hp) a hi).1 ⟨v,h,hq⟩).1
 ·have h0:i=0:=by omega
  subst h0
  have h2:=yT a
  unfold iw at h
  rw[h2]at h;cases h;exact hq
theorem OL {es:List Ed} {aa x i:Nat} {t:List Vx} (hp:PW t) {v:Vx} (h:(iw es aa x t)[i]? =some v) (hi:1≤i) {q:Nat} (hq:v.gV.testBit q=true):pW (iw es aa x t) v.par q:=by
 obtain⟨u,a,b⟩:=mh h
 rw[b]
 exact((CQ (vp hp) a hi).1 ⟨v,h,hq⟩).2.1
theorem Yn {es:List Ed} {aa x i:Nat} {t:List Vx} (hp:PW t) {v:Vx} (h:(iw es aa x t)[i]? =some v) {q:Nat} (hq:(iW (iw es aa x t) i).testBit q=true):v.gV.testBit q=true:=by
 obtain⟨j,u,a1,a2,a3,a4⟩:=nC.1 hq
 obtain⟨w,b1,b2⟩:=OL hp a2 a1 a4
 rw[a3,h]at b1;cases b1;exact b2
theorem uC {es:List Ed} {aa x i:Nat} {t:List Vx} (hp:PW t) {v:Vx} (h:(iw es aa x t)[i]? =some v) (hg:dO (iw es aa x t) i=false) {q:Nat} (hq:(iW (stepT es aa x t) (lk (fa (iw es aa x t)) i)).testBit q=true):iW (iw es aa x t) i≠v.gV∧(iW (iw es aa x t) i).testBit q=true:=by
 obtain⟨j,u,a1,a2,a3,a4⟩:=nC.1 hq
 obtain⟨k,w,b1,b2,rfl,rfl⟩:=lT a2
 have hk:1≤k:=by
  by_cases e:k=0
  ·subst e;rw[Fv]at a1;omega
  ·omega
 have yV:=yU (es:=es) (aa:=aa) (x:=x) hp
 have hgp:=ny yV b1 hk b2
 have hl: ∀ {m:Nat} {y:Vx},(iw es aa x t)[m]? =some y→m<(fa (iw es aa x t)).length:=fun hy=>by rw[kY];exact(List.getElem?_eq_some_iff.1 hy).1
 have hki:=yV k w b1 hk
 have he:w.par=i:=Jr (by have:=hl b1;omega) (hl h) hgp hg a3
 refine⟨fun hc=>?_,nC.2 ⟨k,w,hk,b1,he,a4⟩⟩
 have:=(o8 yV b1).2 (.inl ⟨hk,.inr ⟨v,by rw[he];exact h,by rw[he];exact hc⟩⟩)
 rw[b2]at this;cases this
theorem TI.step {N:Nat} {es:List Ed} {aa x:Nat} {t:List Vx} (hp:PW t) (h0: ∀v:Vx,t[0]? =some v→v.par=0) (he: ∀e∈es,e.to.toNat<N):TI N (stepT es aa x t):=by
 have yV:=yU (es:=es) (aa:=aa) (x:=x) hp
 have hl: ∀ {m:Nat} {y:Vx},(iw es aa x t)[m]? =some y→m<(fa (iw es aa x t)).length:=fun hy=>by rw[kY];exact(List.getElem?_eq_some_iff.1 hy).1
 have one: ∀ {k:Nat},1≤lk (fa (iw es aa x t)) k→1≤k:=fun {k} hk=>by
  by_cases e:k=0
  ·subst e;rw[Fv]at hk;omega
  ·omega
 constructor
 ·intro k u hu hk
  obtain⟨i,v,a,b,rfl,rfl⟩:=lT hu
  have hi:=one hk
  exact vx (yV i v a hi) (Nat.le_of_lt (hl a)) (ny yV a hi b)
 ·intro u hu
  obtain⟨i,v,a,b,c,rfl⟩:=lT hu
  show lk _ v.par=0
  by_cases hi:1≤i
  ·have:=vx (yV i v a hi) (Nat.le_of_lt (hl a)) (ny yV a hi b)
   omega
  ·have e0:i=0:=by omega
   subst e0
   obtain⟨w,a1,a2,_⟩:=uB hp a
   rcases o_ a1 with⟨y,b1,b2⟩|⟨b1,m,y,b2,_⟩
   ·rw[a2,b2]
    show lk _ y.par=0
    rw[h0 y b1];rfl
   ·have:=(List.getElem?_eq_some_iff.1 b2).1;omega
 ·intro k u hu hk q hq
  obtain⟨i,v,a,b,rfl,rfl⟩:=lT hu
  have hi:=one hk
  obtain⟨w,a1,a2⟩:=OL hp a hi hq
  exact⟨_,xm a1 (ny yV a hi b),a2⟩
 ·intro k m u v hk hkm hu hv hpe q h1 h2
  obtain⟨i,u',a,b,rfl,rfl⟩:=lT hu
  obtain⟨j,v',a',b',rfl,rfl⟩:=lT hv
  have hi:=one hk
  have hj:=one (k:=j) (by omega)
  have wK:i<j:=by
   rcases Nat.lt_trichotomy i j with c|c|c
   ·exact c
   ·subst c;omega
   ·have:=vx c (Nat.le_of_lt (hl a)) b';omega
  have ahC:u'.par=v'.par:=Jr (by have:=yV i u' a hi;have:=hl a;omega) (by have:=yV j v' a' hj;have:=hl a';omega) (ny yV a hi b) (ny yV a' hj b') hpe
  obtain⟨y,c1,c2⟩:=mh a
  obtain⟨z,c3,c4⟩:=mh a'
  exact S3 (vp hp) hi wK c1 c3 (by rw[←c2,←c4,ahC]) ⟨_,a,h1⟩ ⟨_,a',h2⟩
 ·intro k u hu
  obtain⟨i,v,a,b,rfl,rfl⟩:=lT hu
  by_cases hc:iW (iw es aa x t) i=v.gV
  ·obtain⟨q,hq⟩:=OJ (OK yV a b)
   exact⟨q,hq,fun hn=>(uC hp a b hn).1 hc⟩
  ·obtain⟨q,h1,h2⟩:=Yl hc (fun q=>Yn hp a)
   exact⟨q,h1,fun hn=>h2 (uC hp a b hn).2⟩
 ·intro k u hu q hq
  obtain⟨i,v,a,b,rfl,rfl⟩:=lT hu
  obtain⟨w,a1,_,a2⟩:=uB hp a
  have h1:=a2 q hq
  have h2: ∃m,(qq es x m).testBit q=true:=by
   rcases o_ a1 with⟨y,_,rfl⟩|⟨_,m,y,_,rfl⟩
   ·exact⟨_,h1⟩
   ·rw[Nat.testBit_and,aY]at h1;exact⟨_,h1.1⟩
  obtain⟨m,h3⟩:=h2
  obtain⟨e,h4,_,_,rfl⟩:=uy.1 h3
  exact he e h4
inductive yW (t:List Vx):Nat→Nat→Prop
 |refl (i:Nat):yW t i i
 |kid {i j:Nat} {v:Vx} (h:t[j]? =some v) (hj:1≤j) (hf:yW t i v.par):yW t i j
theorem yW.adr {t:List Vx} {i j:Nat} (h:yW t i j) (wK:i≠j): ∃c v,1≤c∧t[c]? =some v∧v.par=i∧yW t c j:=by
 induction h with
 |refl=>exact absurd F wK
 |kid h hj hf ih=>
  rename_i j v
  by_cases e:i=v.par
  ·exact⟨j,v,hj,h,e.symm,.refl _⟩
  ·obtain⟨c,w,a1,a2,a3,a4⟩:=ih e
   exact⟨c,w,a1,a2,a3,.kid h hj a4⟩
theorem yW.gV {N:Nat} {t:List Vx} (ht:TI N t) {i j q:Nat} (h:yW t i j) (hq:pW t j q):pW t i q:=by
 induction h with
 |refl=>exact hq
 |kid h hj hf ih=>
  obtain⟨w,a,b⟩:=hq
  rw[h]at a;cases a
  exact ih (ht.sub _ _ h hj q b)
theorem yW.le {N:Nat} {t:List Vx} (ht:TI N t) {i j:Nat} (h:yW t i j):i≤j:=by
 induction h with
 |refl=>exact aV _
 |kid h hj hf ih=>have:=ht.pw _ _ h hj;omega
theorem TI.Yo {N:Nat} {t:List Vx} (ht:TI N t) {q:Nat}: ∀m i j,i+j≤m→i≤j→pW t i q→pW t j q→yW t i j
 |m,i,j,hm,wK,h1,h2=>by
  by_cases e:i=j
  ·subst e;exact .refl _
  obtain⟨v,a,b⟩:=h2
  have hj:1≤j:=by omega
  have hp:=ht.pw j v a hj
  have h3:=ht.sub j v a hj q b
  by_cases c:i≤v.par
  ·cases m with
   |zero=>omega
   |succ m=>exact .kid a hj (ht.Yo m i v.par (by omega) c h1 h3)
  ·exfalso
   cases m with
   |zero=>omega
   |succ m=>
    have hf:=ht.Yo m v.par i (by omega) (by omega) h3 h1
    obtain⟨k,w,a1,a2,a3,a4⟩:=hf.adr (by omega)
    obtain⟨w',b1,b2⟩:=a4.gV ht h1
    rw[a2]at b1;cases b1
    have:=a4.le ht
    exact ht.dis k j w v a1 (by omega) a2 a a3 q b2 b
theorem pig {n m:Nat} {f:Nat→Nat} (h: ∀i,i<m→f i<n) (hi: ∀i j,i<j→j<m→f i≠f j):m≤n:=by
 have h1:((List.range m).map f).Nodup:=by
  rw[List.nodup_iff_pairwise_ne,List.pairwise_map]
  refine List.Pairwise.imp_of_mem ?_ List.pairwise_lt_range
  intro a b ha hb mH
  exact hi a b mH (List.mem_range.1 hb)
 have h2:=List.Nodup.length_le_of_subset h1 (l₂:=List.range n) fun y hy=>by
  obtain⟨i,hi,rfl⟩:=List.mem_map.1 hy
  exact List.mem_range.2 (h i (List.mem_range.1 hi))
 simpa using h2
theorem TI.len {N:Nat} {t:List Vx} (ht:TI N t):t.length≤N:=by
 have hc: ∀i,∃q,i<t.length→(∃v,t[i]? =some v∧v.gV.testBit q=true)∧ ¬(iW t i).testBit q=true:=fun i=>by
  by_cases hi:i<t.length
  ·obtain⟨q,h1,h2⟩:=ht.own i _ (ah hi)
   exact⟨q,fun _=>⟨⟨_,ah hi,h1⟩,h2⟩⟩
  ·exact⟨0,fun h=>absurd h hi⟩
 obtain⟨f,hf⟩:=Classical.axiomOfChoice hc
 refine pig (f:=f) (fun i hi=>?_) fun i j wK hj e=>?_
 ·obtain⟨⟨v,a,b⟩,_⟩:=hf i hi
  exact ht.bnd i v a _ b
 ·obtain⟨h1,h2⟩:=hf i (by omega)
  obtain⟨h3,_⟩:=hf j hj
  rw[←e]at h3
  have hF:=ht.Yo _ i j (aV _) (by omega) h1 h3
  obtain⟨c,v,a1,a2,a3,a4⟩:=hF.adr (by omega)
  obtain⟨w,b1,b2⟩:=a4.gV ht h3
  rw[a2]at b1;cases b1
  exact h2 (nC.2 ⟨c,v,a1,a2,a3,b2⟩)
def fE (es:List Ed) (aa S0:Nat) (w:Nat→Nat):Nat→List Vx
 |0=>[⟨0,S0⟩]
 |k+1=>stepT es aa (w k) (fE es aa S0 w k)
def Q5 (n lR rem qo:Nat):Nat:=if rem=lR∧qo=lR then 1 else if qo<rem∧qo<n then 2*(n-qo)+2 else if 0<rem∧rem<n then 2*(n-rem)+3 else 1
def GS (N:Nat) (es:List Ed) (aa x:Nat) (t:List Vx):Nat:=Q5 (N+1) t.length (kM es aa x t) (mU es aa x t)
theorem kF {es:List Ed} {aa S0 N:Nat} {w:Nat→Nat} (he: ∀e∈es,e.to.toNat<N): ∀k,(PW (fE es aa S0 w k)∧ ∀v:Vx,(fE es aa S0 w k)[0]? =some v→v.par=0)∧TI N (fE es aa S0 w (k+1))
 |0=>by
  have h1:PW (fE es aa S0 w 0):=fun i v h hi=>by
   have:=(List.getElem?_eq_some_iff.1 h).1
   simp[fE]at this;omega
  have h2: ∀v:Vx,(fE es aa S0 w 0)[0]? =some v→v.par=0:=fun v h=>by
   simp[fE]at h;rw[←h]
  exact⟨⟨h1,h2⟩,TI.step h1 h2 he⟩
 |k+1=>by
  have h:=(kF (aa:=aa) (S0:=S0) (w:=w) he k).2
  exact⟨⟨h.pw,h.p0⟩,TI.step h.pw h.p0 he⟩
theorem Jt {es:List Ed} {aa S0 N:Nat} {w:Nat→Nat} (he: ∀e∈es,e.to.toNat<N) (k:Nat):(fE es aa S0 w (k+1)).length≤N:=(kF he k).2.len
theorem ads {es:List Ed} {aa x i:Nat} {t:List Vx} {v:Vx} (h:t[i]? =some v): ∃u,(iw es aa x t)[i]? =some u∧u.par=v.par:=by
 obtain⟨u,a,b⟩:=yS (pR (es:=es) (aa:=aa) (x:=x) h)
 exact⟨u,a,b⟩
theorem uD {es:List Ed} {aa x i:Nat} {t:List Vx} (hi:i<t.length) (h:i<kM es aa x t) {m:Nat} (hm:m≤i):dO (iw es aa x t) m=false:=by
 cases hg:dO (iw es aa x t) m with
 |false=>rfl
 |true=>
  have h1:m<(iw es aa x t).length:=by rw[CS];have:=(Ct es aa x t).1;omega
  have:=HU (lR:=t.length) hg _ h1
  unfold kM at h;omega
theorem CT {es:List Ed} {aa x i:Nat} {t:List Vx} (hp:PW t) (hi:i<t.length) (h:i<kM es aa x t) {m:Nat} (hm:m≤i) {v:Vx} (hv:t[m]? =some v) (h0: ∀v:Vx,t[0]? =some v→v.par=0): ∃u,(iw es aa x t)[m]? =some u∧u.par=v.par∧lk (fa (iw es aa x t)) m=m∧(stepT es aa x t)[m]? =some u:=by
 obtain⟨u,a,b⟩:=ads (es:=es) (aa:=aa) (x:=x) hv
 have hl:m<(fa (iw es aa x t)).length:=by rw[kY];exact(List.getElem?_eq_some_iff.1 a).1
 have e: ∀y,y≤m→lk (fa (iw es aa x t)) y=y:=fun y hy=>OH (by omega) fun j hj=>uD hi h (by omega)
 have hs:=xm a (uD hi h hm)
 have hu:u.par≤m:=by
  by_cases c:1≤m
  ·have:=hp m v hv c;omega
  ·have c0:m=0:=by omega
   subst c0;rw[b,h0 v hv];exact aV _
 rw[e m (aV _),e _ hu]at hs
 exact⟨u,a,b,e m (aV _),hs⟩
theorem vA {f:Nat→Nat}: ∀B,(∃K,∀k,K≤k→f k≤B)→ ∃M,(∃K,∀k,K≤k→f k≤M)∧ ∀K,∃k,K≤k∧f k=M
 |0,⟨K,h⟩=>⟨0,⟨K,h⟩,fun K2=>⟨max K K2,by omega,by have:=h (max K K2) (by omega);omega⟩⟩
 |B+1,⟨K,h⟩=>by
  by_cases c: ∀K,∃k,K≤k∧f k=B+1
  ·exact⟨B+1,⟨K,h⟩,c⟩
  ·obtain⟨K2,hK⟩:=Classical.not_forall.1 c
   refine vA B ⟨max K K2,fun k hk=>?_⟩
   have h1:=h k (by omega)
   have h2:f k≠B+1:=fun e=>hK ⟨k,by omega,e⟩
   omega
theorem settle {P Q:Nat→Nat→Prop}: ∀c k0,(∀k c,k0≤k→P k c→ ∃c',c'≤c∧P (k+1) c'∧(c'=c→Q k c))→P k0 c→ ∃c K,k0≤K∧ ∀k,K≤k→P k c∧Q k c:=by
 intro c
 induction c using Nat.strongRecOn with
 |_ c ih=>
  intro k0 hs h0
  by_cases hc: ∀k,k0≤k→P k c→P (k+1) c∧Q k c
  ·refine⟨c,k0,aV _,fun k hk=>?_⟩
   have h1: ∀d,P (k0+d) c:=by
    intro d
    induction d with
    |zero=>exact h0
    |succ d ihd=>exact(hc (k0+d) (by omega) ihd).1
   have h2:=h1 (k-k0)
   rw[show k0+(k-k0)=k by omega]at h2
   exact⟨h2,(hc k hk h2).2⟩
  ·obtain⟨k,hk⟩:=Classical.not_forall.1 hc
   obtain⟨h1,hk⟩:=Classical.not_imp.1 hk
   obtain⟨h2,h3⟩:=Classical.not_imp.1 hk
   obtain⟨c',a1,a2,a3⟩:=hs k c h1 h2
   have fM:c'<c:=by
    rcases Nat.lt_or_ge c' c with g|g
    ·exact g
    ·have:c'=c:=by omega
     subst this
     exact absurd ⟨a2,a3 F⟩ h3
   obtain⟨c2,K,b1,b2⟩:=ih c' fM (k+1) (fun k' c'' AK hp=>hs k' c'' (by omega) hp) a2
   exact⟨c2,K,by omega,b2⟩
structure yX (es:List Ed) (aa S0:Nat) (w r:Nat→Nat):Prop where
 s:S0.testBit (r 0)=true
 st: ∀k,∃e∈es,mw e (w k)∧e.fr.toNat=r k∧e.to.toNat=r (k+1)
 inf: ∀K,∃k,K≤k∧aa.testBit (r k)=true
section
variable {es:List Ed} {aa S0 N:Nat} {w r:Nat→Nat}
theorem yX.next (h:yX es aa S0 w r) {k m:Nat} (hm:m.testBit (r k)=true):(qq es (w k) m).testBit (r (k+1))=true:=by
 obtain⟨e,a,b,c,d⟩:=h.st k
 exact uy.2 ⟨e,a,b,by rw[c];exact hm,d⟩
theorem yX.root (h:yX es aa S0 w r) (he: ∀e∈es,e.to.toNat<N): ∀k,pW (fE es aa S0 w k) 0 (r k)∧dO (iw es aa (w k) (fE es aa S0 w k)) 0=false
 |k=>by
  have h1:pW (fE es aa S0 w k) 0 (r k):=by
   cases k with
   |zero=>exact⟨⟨0,S0⟩,F,h.s⟩
   |succ k=>
    obtain⟨⟨v,a,b⟩,hg⟩:=yX.root h he k
    have h2:=yT (pR (es:=es) (aa:=aa) (x:=w k) a)
    have h3:=xm h2 hg
    exact⟨_,h3,h.next b⟩
  refine⟨h1,?_⟩
  obtain⟨v,a,b⟩:=h1
  have h2:=yT (pR (es:=es) (aa:=aa) (x:=w k) a)
  cases hg:dO (iw es aa (w k) (fE es aa S0 w k)) 0 with
  |false=>rfl
  |true=>
   rcases(o8 (yU (kF he k).1.1) h2).1 hg with⟨c,_⟩|c
   ·omega
   ·have:=h.next b
    have c2:qq es (w k) v.gV=0:=c
    rw[c2]at this;simp at this
def Home (es:List Ed) (aa S0:Nat) (w r:Nat→Nat) (i K:Nat):Prop:= ∀k,K≤k→pW (fE es aa S0 w k) i (r k)∧i<kM es aa (w k) (fE es aa S0 w k)
theorem yX.adt (h:yX es aa S0 w r) (he: ∀e∈es,e.to.toNat<N):Home es aa S0 w r 0 0:=fun k _=>by
 obtain⟨h1,h2⟩:=h.root he k
 refine⟨h1,?_⟩
 obtain⟨v,a,_⟩:=h1
 have hl:=(List.getElem?_eq_some_iff.1 a).1
 rcases vz (dO (iw es aa (w k) (fE es aa S0 w k))) (fE es aa S0 w k).length (iw es aa (w k) (fE es aa S0 w k)).length with c|⟨_,c⟩
 ·unfold kM;omega
 ·unfold kM
  rcases Nat.eq_zero_or_pos (rN (dO (iw es aa (w k) (fE es aa S0 w k))) (fE es aa S0 w k).length (iw es aa (w k) (fE es aa S0 w k)).length)with e|e
  ·rw[e,h2]at c;cases c
  ·exact e
def OM (es:List Ed) (aa S0:Nat) (w r:Nat→Nat) (i k c:Nat):Prop:=1≤c∧ ∃v,(fE es aa S0 w k)[c]? =some v∧v.par=i∧v.gV.testBit (r k)=true
theorem ON (he: ∀e∈es,e.to.toNat<N) {i K k:Nat} (hH:Home es aa S0 w r i K) (hk:K≤k) (hc:i<mU es aa (w k) (fE es aa S0 w k)) {c:Nat} {u:Vx} (hc1:1≤c) (hu:(GP es aa (w k) (fE es aa S0 w k))[c]? =some u) (hp:u.par=i) (hq:u.gV.testBit (r (k+1))=true):
  ∃j,j≤c∧dO (iw es aa (w k) (fE es aa S0 w k)) j=false∧j<(iw es aa (w k) (fE es aa S0 w k)).length∧OM es aa S0 w r i (k+1) (lk (fa (iw es aa (w k) (fE es aa S0 w k))) j):=by
 obtain⟨⟨v,a,b⟩,hr⟩:=hH k hk
 obtain⟨⟨yV,h0⟩,_⟩:=kF (S0:=S0) (aa:=aa) (w:=w) he k
 have gf:=(List.getElem?_eq_some_iff.1 a).1
 obtain⟨ui,a1,a2,a3,a4⟩:=CT yV gf hr (aV i) a h0
 have AS:pW (iw es aa (w k) (fE es aa S0 w k)) i (r (k+1)):=by
  obtain⟨⟨v',b1,b2⟩,_⟩:=hH (k+1) (by omega)
  have b3:(fE es aa S0 w (k+1))[i]? =some ui:=a4
  rw[b3]at b1;cases b1
  exact⟨_,a1,b2⟩
 obtain⟨j,y,c1,c2,c3,c4,c5⟩:=S4 (vp yV) hu hc1 hq (by rw[hp];exact AS)
 have ZI:=yU (es:=es) (aa:=aa) (x:=w k) yV
 obtain⟨z,d1,d2⟩:=yS c3
 have d1:(iw es aa (w k) (fE es aa S0 w k))[j]? =some z:=d1
 have Bm:z.par=i:=by rw[d2,c4,hp]
 obtain⟨z',d3,d4⟩:=c5
 have d3:(iw es aa (w k) (fE es aa S0 w k))[j]? =some z':=d3
 rw[d1]at d3;cases d3
 have Cv:=uD gf hr (aV i)
 have BR:i<(iw es aa (w k) (fE es aa S0 w k)).length:=(List.getElem?_eq_some_iff.1 a1).1
 have adu:iW (iw es aa (w k) (fE es aa S0 w k)) i≠ui.gV:=fun e=>by
  have:rh (iw es aa (w k) (fE es aa S0 w k)) i=true:=by
   unfold rh
   rw[Cv,aj,a1,aY]
   exact⟨F,bz e⟩
  have:=HU (lR:=(fE es aa S0 w k).length) this _ BR
  unfold mU at hc;omega
 have hgj:dO (iw es aa (w k) (fE es aa S0 w k)) j=false:=by
  cases hg:dO (iw es aa (w k) (fE es aa S0 w k)) j with
  |false=>rfl
  |true=>
   rcases(o8 ZI d1).1 hg with⟨_,e|⟨p,e1,e2⟩⟩|e
   ·rw[Bm,Cv]at e;cases e
   ·rw[Bm]at e1 e2;rw[a1]at e1;cases e1;exact absurd e2 adu
   ·rw[e]at d4;simp at d4
 have qc:j<(iw es aa (w k) (fE es aa S0 w k)).length:=(List.getElem?_eq_some_iff.1 d1).1
 have hs:=xm d1 hgj
 rw[Bm,a3]at hs
 have wK:i<j:=by have:=ZI j z d1 c1;omega
 have fM:=vx (gs:=fa (iw es aa (w k) (fE es aa S0 w k))) wK (by rw[kY];omega) Cv
 exact⟨j,c2,hgj,qc,by omega,_,hs,F,d4⟩
theorem K8 (h:yX es aa S0 w r) (he: ∀e∈es,e.to.toNat<N) {i K:Nat} (hH:Home es aa S0 w r i K) (hc: ∀k,K≤k→i<mU es aa (w k) (fE es aa S0 w k)): ∃c K',i<c∧Home es aa S0 w r c K':=by
 obtain⟨k1,He,hF⟩:=h.inf (K+1)
 obtain⟨k0,rfl⟩: ∃k0,k1=k0+1:=⟨k1-1,by omega⟩
 obtain⟨⟨v,a,b⟩,_⟩:=hH k0 (by omega)
 have hf:(qq es (w k0) v.gV&&&aa).testBit (r (k0+1))=true:=by rw[Nat.testBit_and,h.next b,hF];rfl
 obtain⟨j0,EH,hn⟩:=S5 (es:=es) (aa:=aa) (x:=w k0) a (fun e=>by rw[e]at hf;simp at hf)
 have hl:=(List.getElem?_eq_some_iff.1 a).1
 obtain⟨c0,_,_,_,hk⟩:=ON he hH (by omega) (hc k0 (by omega)) (by omega) hn F hf
 have ET: ∀k c,k0+1≤k→OM es aa S0 w r i k c→ ∃c',c'≤c∧OM es aa S0 w r i (k+1) c'∧(c'=c→c<kM es aa (w k) (fE es aa S0 w k)):=by
  rintro k c yG ⟨h1,v,a1,a2,a3⟩
  obtain⟨j,b1,b2,b3,b4⟩:=ON he hH (by omega) (hc k (by omega)) h1 (pR a1) a2 (h.next a3)
  have h2:=HK (fa (iw es aa (w k) (fE es aa S0 w k))) j
  refine⟨_,by omega,b4,fun e=>?_⟩
  have hjc:j=c:=by omega
  subst hjc
  have kK:=OI (by rw[kY];omega) e
  have nN:=(List.getElem?_eq_some_iff.1 a1).1
  unfold kM
  rcases vz (dO (iw es aa (w k) (fE es aa S0 w k))) (fE es aa S0 w k).length (iw es aa (w k) (fE es aa S0 w k)).length with g|⟨_,g⟩
  ·omega
  ·rcases Nat.lt_trichotomy j (rN (dO (iw es aa (w k) (fE es aa S0 w k))) (fE es aa S0 w k).length (iw es aa (w k) (fE es aa S0 w k)).length)with q|q|q
   ·exact q
   ·rw[←q,b2]at g;cases g
   ·have:=kK _ q
    rw[Ym]at this
    rw[this]at g;cases g
 obtain⟨c,K',hK,kL⟩:=settle _ (k0+1) ET hk
 refine⟨c,K',?_,fun k hk=>?_⟩
 ·obtain⟨⟨h1,v,a1,a2,_⟩,_⟩:=kL K' (aV _)
  have:=(kF (S0:=S0) (aa:=aa) (w:=w) he K').1.1 c v a1 h1
  omega
 ·obtain⟨⟨h1,v,a1,a2,a3⟩,h2⟩:=kL k hk
  exact⟨⟨v,a1,a3⟩,h2⟩
theorem Bn (h:yX es aa S0 w r) (he: ∀e∈es,e.to.toNat<N): ∀m i K,N≤i+m→Home es aa S0 w r i K→ ∃i K,Home es aa S0 w r i K∧ ∀K2,∃k,K2≤k∧mU es aa (w k) (fE es aa S0 w k)≤i
 |m,i,K,hm,hH=>by
  by_cases hc: ∃K2,∀k,K2≤k→i<mU es aa (w k) (fE es aa S0 w k)
  ·obtain⟨K2,hc⟩:=hc
   obtain⟨c,K',h1,h2⟩:=K8 h he (i:=i) (K:=max K K2) (fun k hk=>hH k (by omega)) (fun k hk=>hc k (by omega))
   cases m with
   |zero=>
    obtain⟨⟨v,a,_⟩,_⟩:=h2 (K'+1) (by omega)
    have:=(List.getElem?_eq_some_iff.1 a).1
    have:=Jt (aa:=aa) (S0:=S0) (w:=w) he K'
    omega
   |succ m=>exact Bn h he m c K' (by omega) h2
  ·refine⟨i,K,hH,fun K2=>?_⟩
   apply Classical.byContradiction
   intro hn
   exact hc ⟨K2,fun k hk=>by
    rcases Nat.lt_or_ge i (mU es aa (w k) (fE es aa S0 w k))with g|g
    ·exact g
    ·exact absurd ⟨k,hk,g⟩ hn⟩
def wO (f:Nat→Nat) (M:Nat):Prop:=(∃K,∀k,K≤k→f k≤M)∧ ∀K,∃k,K≤k∧f k=M
theorem OP (n lR rem qo:Nat):Q5 n lR rem qo≤2*n+3:=by unfold Q5;split<;>(try split)<;>(try split)<;>omega
theorem HW (h:yX es aa S0 w r) (he: ∀e∈es,e.to.toNat<N): ∃M,wO (fun k=>GS N es aa (w k) (fE es aa S0 w k)) M∧M%2=0:=by
 obtain⟨i,K,hH,hg⟩:=Bn h he N 0 0 (by omega) (h.adt he)
 obtain⟨M,hM⟩:=vA (f:=fun k=>GS N es aa (w k) (fE es aa S0 w k)) (2*(N+1)+3) ⟨0,fun k _=>OP _ _ _ _⟩
 refine⟨M,hM,?_⟩
 obtain⟨⟨K1,h1⟩,h2⟩:=hM
 have big:2*(N+1-i)+2≤M:=by
  obtain⟨k,hk,hgk⟩:=hg (max K K1+1)
  refine cT ?_ (h1 k (by omega))
  obtain⟨⟨v,a,_⟩,hr⟩:=hH k (by omega)
  have hl:=(List.getElem?_eq_some_iff.1 a).1
  have hN:(fE es aa S0 w k).length≤N:=by
   obtain⟨k',rfl⟩: ∃k',k=k'+1:=⟨k-1,by omega⟩
   exact Jt he k'
  show _≤Q5 _ _ _ _
  unfold Q5
  rw[ar (by omega),aA (by omega)]
  omega
 obtain⟨k,hk,he2⟩:=h2 K
 obtain⟨_,hr⟩:=hH k hk
 have e3:Q5 (N+1) (fE es aa S0 w k).length (kM es aa (w k) (fE es aa S0 w k)) (mU es aa (w k) (fE es aa S0 w k))=M:=he2
 unfold Q5 at e3
 split at e3
 ·omega
 ·split at e3
  ·omega
  ·split at e3<;>omega
end
def WS (es:List Ed) (x q q':Nat):Prop:= ∃e∈es,mw e x∧e.fr.toNat=q∧e.to.toNat=q'
inductive Sg (es:List Ed) (aa:Nat) (w:Nat→Nat) (a q0:Nat):Bool→Nat→Nat→Prop
 |start:Sg es aa w a q0 false a q0
 |step {f:Bool} {k q q':Nat} (h:Sg es aa w a q0 f k q) (e:WS es (w k) q q'):Sg es aa w a q0 (f||aa.testBit q') (k+1) q'
theorem yY {es:List Ed} {x m q:Nat} (h:(qq es x m).testBit q=true): ∃q',m.testBit q'=true∧WS es x q' q:=by
 obtain⟨e,a,b,c,d⟩:=uy.1 h
 exact⟨_,c,e,a,b,F,d⟩
section
variable {es:List Ed} {aa S0 N:Nat} {w:Nat→Nat}
theorem CU (he: ∀e∈es,e.to.toNat<N): ∀k i q,pW (fE es aa S0 w k) i q→ ∃s,S0.testBit s=true∧ ∃f,Sg es aa w 0 s f k q
 |0,i,q,⟨v,a,b⟩=>by
  have hi:=(List.getElem?_eq_some_iff.1 a).1
  simp[fE]at hi
  subst hi
  simp[fE]at a
  subst a
  exact⟨q,b,_,.start⟩
 |k+1,i,q,⟨u,a,b⟩=>by
  obtain⟨j,v,a1,a2,rfl,rfl⟩:=lT a
  obtain⟨y,b1,_,b3⟩:=uB (kF he k).1.1 a1
  have h1:=b3 q b
  rcases o_ b1 with⟨z,c1,rfl⟩|⟨_,m,z,c1,rfl⟩
  ·obtain⟨q',d1,d2⟩:=yY h1
   obtain⟨s,e1,f,e2⟩:=CU he k _ q' ⟨z,c1,d1⟩
   exact⟨s,e1,_,.step e2 d2⟩
  ·rw[Nat.testBit_and,aY]at h1
   obtain⟨q',d1,d2⟩:=yY h1.1
   obtain⟨s,e1,f,e2⟩:=CU he k _ q' ⟨z,c1,d1⟩
   exact⟨s,e1,_,.step e2 d2⟩
theorem Fw {x:Nat} {t:List Vx} (hp:PW t) (h:t.length=0∨dO (iw es aa x t) 0=true):(stepT es aa x t).length=0:=by
 rcases Nat.eq_zero_or_pos (stepT es aa x t).length with c|c
 ·exact c
 exfalso
 obtain⟨i,v,a1,a2,_,_⟩:=lT (ah c)
 have hi:=(List.getElem?_eq_some_iff.1 a1).1
 have hn:=Ct es aa x t
 rw[CS]at hi
 rcases h with h|h
 ·omega
 ·have ZI:=yU (es:=es) (aa:=aa) (x:=x) hp
  have: ∀m,m<(iw es aa x t).length→dO (iw es aa x t) m=true:=by
   intro m
   induction m using Nat.strongRecOn with
   |_ m ih=>
    intro hm
    by_cases e:m=0
    ·rw[e];exact h
    ·have hmv:=ah hm
     exact(o8 ZI hmv).2 (.inl ⟨by omega,.inl (ih _ (ZI m _ hmv (by omega)) (by have:=ZI m _ hmv (by omega);omega))⟩)
  rw[this i (by rw[CS];exact hi)]at a2;cases a2
theorem wm (he: ∀e∈es,e.to.toNat<N) {k:Nat} (h:(fE es aa S0 w k).length=0): ∀d,(fE es aa S0 w (k+d)).length=0
 |0=>h
 |d+1=>Fw (kF he (k+d)).1.1 (.inl (wm he h d))
def ZJ (es:List Ed) (aa S0:Nat) (w:Nat→Nat) (g k:Nat):Prop:=mU es aa (w k) (fE es aa S0 w k)=g∧g<kM es aa (w k) (fE es aa S0 w k)
theorem HX (es:List Ed) (aa x:Nat) (t:List Vx):kM es aa x t≤t.length:=Cu _ _ _
theorem ZJ.cov {g k:Nat} (h:ZJ es aa S0 w g k):dO (iw es aa (w k) (fE es aa S0 w k)) g=false∧ ∃v,(iw es aa (w k) (fE es aa S0 w k))[g]? =some v∧iW (iw es aa (w k) (fE es aa S0 w k)) g=v.gV:=by
 obtain⟨h1,h2⟩:=h
 have h3:=HX es aa (w k) (fE es aa S0 w k)
 rcases vz (rh (iw es aa (w k) (fE es aa S0 w k))) (fE es aa S0 w k).length (iw es aa (w k) (fE es aa S0 w k)).length with c|⟨c1,c2⟩
 ·unfold mU at h1;omega
 ·have hg:rN (rh (iw es aa (w k) (fE es aa S0 w k))) (fE es aa S0 w k).length (iw es aa (w k) (fE es aa S0 w k)).length=g:=h1
  rw[hg]at c1 c2
  unfold rh at c2
  rw[aY,Bool.not_eq_true',bo,aj,ah c1]at c2
  exact⟨c2.1,_,ah c1,c2.2⟩
theorem OQ (he: ∀e∈es,e.to.toNat<N) {M:Nat} (hM:wO (fun k=>GS N es aa (w k) (fE es aa S0 w k)) M) (h2:M%2=0): ∃g K,(∀k,K≤k→g<(fE es aa S0 w k).length∧g<kM es aa (w k) (fE es aa S0 w k))∧ ∀K2,∃k,K2≤k∧ZJ es aa S0 w g k:=by
 obtain⟨⟨K0,mB⟩,adv⟩:=hM
 have ev: ∀k,GS N es aa (w k) (fE es aa S0 w k)=M→mU es aa (w k) (fE es aa S0 w k)<kM es aa (w k) (fE es aa S0 w k)∧mU es aa (w k) (fE es aa S0 w k)<N+1∧M=2*(N+1-mU es aa (w k) (fE es aa S0 w k))+2:=by
  intro k hk
  unfold GS Q5 at hk
  split at hk
  ·omega
  ·split at hk
   ·omega
   ·split at hk<;>omega
 obtain⟨k1,He,e1⟩:=adv K0
 obtain⟨a1,a2,a3⟩:=ev k1 e1
 obtain⟨g,hg⟩: ∃g,mU es aa (w k1) (fE es aa S0 w k1)=g:=⟨_,F⟩
 rw[hg]at a1 a2 a3
 have X6: ∀K2,∃k,K2≤k∧ZJ es aa S0 w g k:=fun K2=>by
  obtain⟨k,hk,e2⟩:=adv K2
  obtain⟨b1,b2,b3⟩:=ev k e2
  have:mU es aa (w k) (fE es aa S0 w k)=g:=by omega
  exact⟨k,hk,this,by rw[this]at b1;exact b1⟩
 have alive: ∀k,k1≤k→g<(fE es aa S0 w k).length→g<kM es aa (w k) (fE es aa S0 w k):=by
  intro k hk hl
  rcases Nat.lt_or_ge g (kM es aa (w k) (fE es aa S0 w k))with c|c
  ·exact c
  exfalso
  have h3:=mB k (by omega)
  have h3:Q5 (N+1) (fE es aa S0 w k).length (kM es aa (w k) (fE es aa S0 w k)) (mU es aa (w k) (fE es aa S0 w k))≤M:=h3
  unfold Q5 at h3
  rw[ar (by omega)]at h3
  split at h3
  ·omega
  ·split at h3
   ·omega
   ·rename_i c1 c2
    have S6:kM es aa (w k) (fE es aa S0 w k)=0:=by omega
    have hg0:dO (iw es aa (w k) (fE es aa S0 w k)) 0=true:=by
     rcases vz (dO (iw es aa (w k) (fE es aa S0 w k))) (fE es aa S0 w k).length (iw es aa (w k) (fE es aa S0 w k)).length with d|⟨_,d⟩
     ·unfold kM at S6;omega
     ·unfold kM at S6;rw[S6]at d;exact d
    have ahG:(fE es aa S0 w (k+1)).length=0:=Fw (kF he k).1.1 (.inr hg0)
    obtain⟨k2,Jj,_,e3⟩:=X6 (k+1)
    have h4:=wm he ahG (k2-(k+1))
    rw[show k+1+(k2-(k+1))=k2 by omega]at h4
    have:=HX es aa (w k2) (fE es aa S0 w k2)
    omega
 have ahH: ∀d,g<(fE es aa S0 w (k1+d)).length:=by
  intro d
  induction d with
  |zero=>have:=HX es aa (w k1) (fE es aa S0 w k1);show g<(fE es aa S0 w k1).length;omega
  |succ d ih=>
   obtain⟨⟨yV,h0⟩,_⟩:=kF (S0:=S0) (aa:=aa) (w:=w) he (k1+d)
   obtain⟨u,_,_,_,b⟩:=CT yV ih (alive _ (by omega) ih) (aV g) (ah ih) h0
   exact(List.getElem?_eq_some_iff.1 b).1
 refine⟨g,k1,fun k hk=>?_,X6⟩
 have h5:=ahH (k-k1)
 rw[show k1+(k-k1)=k by omega]at h5
 exact⟨h5,alive k hk h5⟩
theorem S7 (he: ∀e∈es,e.to.toNat<N) {g K a b:Nat} (hK: ∀k,K≤k→g<(fE es aa S0 w k).length∧g<kM es aa (w k) (fE es aa S0 w k)) (hKa:K≤a) (mH:a<b) (ha:ZJ es aa S0 w g a) (hb:ZJ es aa S0 w g b) {q:Nat} (hq:pW (fE es aa S0 w (b+1)) g q):
  ∃q0,pW (fE es aa S0 w (a+1)) g q0∧Sg es aa w (a+1) q0 true (b+1) q:=by
 have keep: ∀k,K≤k→ ∀v,(fE es aa S0 w k)[g]? =some v→ ∃u,(iw es aa (w k) (fE es aa S0 w k))[g]? =some u∧u.par=v.par∧lk (fa (iw es aa (w k) (fE es aa S0 w k))) g=g∧(fE es aa S0 w (k+1))[g]? =some u:=fun k hk v hv=>by
  obtain⟨⟨yV,h0⟩,_⟩:=kF (S0:=S0) (aa:=aa) (w:=w) he k
  exact CT yV (hK k hk).1 (hK k hk).2 (aV g) hv h0
 have inv: ∀d,(∀q,pW (fE es aa S0 w (a+1+d)) g q→ ∃q0,pW (fE es aa S0 w (a+1)) g q0∧ ∃f,Sg es aa w (a+1) q0 f (a+1+d) q)∧(∀q,(iW (fE es aa S0 w (a+1+d)) g).testBit q=true→ ∃q0,pW (fE es aa S0 w (a+1)) g q0∧Sg es aa w (a+1) q0 true (a+1+d) q)∧
   (∀q,(iW (iw es aa (w (a+1+d)) (fE es aa S0 w (a+1+d))) g).testBit q=true→ ∃q0,pW (fE es aa S0 w (a+1)) g q0∧Sg es aa w (a+1) q0 true (a+1+d+1) q):=by
  have VX: ∀k,(∀q,pW (fE es aa S0 w k) g q→ ∃q0,pW (fE es aa S0 w (a+1)) g q0∧ ∃f,Sg es aa w (a+1) q0 f k q)→(∀q,(iW (fE es aa S0 w k) g).testBit q=true→ ∃q0,pW (fE es aa S0 w (a+1)) g q0∧Sg es aa w (a+1) q0 true k q)→
    ∀q,(iW (iw es aa (w k) (fE es aa S0 w k)) g).testBit q=true→ ∃q0,pW (fE es aa S0 w (a+1)) g q0∧Sg es aa w (a+1) q0 true (k+1) q:=by
   intro k i1 i2 q hq
   obtain⟨j,v,a1,a2,a3,a4⟩:=nC.1 hq
   obtain⟨y,b1,b2,b3⟩:=uB (kF he k).1.1 a2
   have h1:=b3 q a4
   rcases o_ b1 with⟨z,c1,rfl⟩|⟨_,m,z,c1,rfl⟩
   ·obtain⟨q',d1,d2⟩:=yY h1
    obtain⟨q0,e1,e2⟩:=i2 q' (nC.2 ⟨j,z,a1,c1,by rw[←a3,b2],d1⟩)
    exact⟨q0,e1,by have h9:=Sg.step e2 d2;rw[Bool.true_or]at h9;exact h9⟩
   ·rw[Nat.testBit_and,aY]at h1
    obtain⟨q',d1,d2⟩:=yY h1.1
    have hm:m=g:=by rw[←a3,b2]
    subst hm
    obtain⟨q0,e1,f,e2⟩:=i1 q' ⟨z,c1,d1⟩
    exact⟨q0,e1,by have h9:=Sg.step e2 d2;rw[h1.2,Bool.or_true]at h9;exact h9⟩
  intro d
  induction d with
  |zero=>
   have i1: ∀q,pW (fE es aa S0 w (a+1)) g q→ ∃q0,pW (fE es aa S0 w (a+1)) g q0∧ ∃f,Sg es aa w (a+1) q0 f (a+1) q:=fun q hq=>⟨q,hq,_,.start⟩
   have i2: ∀q,(iW (fE es aa S0 w (a+1)) g).testBit q=true→ ∃q0,pW (fE es aa S0 w (a+1)) g q0∧Sg es aa w (a+1) q0 true (a+1) q:=fun q hq=>by
    exfalso
    obtain⟨c1,v,c2,c3⟩:=ha.cov
    obtain⟨u,d1,_,d2,_⟩:=keep a hKa _ (ah (hK a hKa).1)
    have IN:(iW (stepT es aa (w a) (fE es aa S0 w a)) (lk (fa (iw es aa (w a) (fE es aa S0 w a))) g)).testBit q=true:=by rw[d2];exact hq
    exact(uC (kF he a).1.1 c2 c1 IN).1 c3
   exact⟨i1,i2,VX _ i1 i2⟩
  |succ d ih=>
   obtain⟨j1,j2,j3⟩:=ih
   have yG:K≤a+1+d:=by omega
   obtain⟨u,d1,_,d2,d3⟩:=keep (a+1+d) yG _ (ah (hK _ yG).1)
   have i1: ∀q,pW (fE es aa S0 w (a+1+d+1)) g q→ ∃q0,pW (fE es aa S0 w (a+1)) g q0∧ ∃f,Sg es aa w (a+1) q0 f (a+1+d+1) q:=fun q ⟨v,hv,hq⟩=>by
    rw[d3]at hv;cases hv
    obtain⟨y,b1,b2,b3⟩:=uB (kF he (a+1+d)).1.1 d1
    have h1:=b3 q hq
    rw[pR (ah (hK _ yG).1)]at b1;cases b1
    obtain⟨q',e1,e2⟩:=yY h1
    obtain⟨q0,f1,f,f2⟩:=j1 q' ⟨_,ah (hK _ yG).1,e1⟩
    exact⟨q0,f1,_,.step f2 e2⟩
   have i2: ∀q,(iW (fE es aa S0 w (a+1+d+1)) g).testBit q=true→ ∃q0,pW (fE es aa S0 w (a+1)) g q0∧Sg es aa w (a+1) q0 true (a+1+d+1) q:=fun q hq=>by
    have hg:dO (iw es aa (w (a+1+d)) (fE es aa S0 w (a+1+d))) g=false:=uD (hK _ yG).1 (hK _ yG).2 (aV g)
    have IN:(iW (stepT es aa (w (a+1+d)) (fE es aa S0 w (a+1+d))) (lk (fa (iw es aa (w (a+1+d)) (fE es aa S0 w (a+1+d)))) g)).testBit q=true:=by rw[d2];exact hq
    exact j3 q (uC (kF he (a+1+d)).1.1 d1 hg IN).2
   exact⟨i1,i2,VX _ i1 i2⟩
 obtain⟨_,_,i3⟩:=inv (b-(a+1))
 rw[show a+1+(b-(a+1))=b by omega]at i3
 obtain⟨_,v,c2,c3⟩:=hb.cov
 obtain⟨u,d1,_,_,d3⟩:=keep b (by omega) _ (ah (hK b (by omega)).1)
 obtain⟨v',e1,e2⟩:=hq
 rw[d3]at e1;cases e1
 rw[d1]at c2;cases c2
 exact i3 q (by rw[c3];exact e2)
end
theorem wO.unique {f:Nat→Nat} {m k:Nat} (h:wO f m) (g:wO f k):m=k:=by
 obtain⟨⟨K1,a1⟩,a2⟩:=h
 obtain⟨⟨K2,b1⟩,b2⟩:=g
 obtain⟨i,i1,i2⟩:=a2 K2
 obtain⟨j,j1,j2⟩:=b2 K1
 have:=b1 i i1
 have:=a1 j j1
 omega
def nd (l:La) (q k:Nat):Nat:=q*l.n+l.ix k
theorem WS.pe {b:Bu} {l:La} (hl:0<l.loop.length) {k q q':Nat} (h:WS b.ao (l.at k) q q'):PE b l (nd l q k) (nd l q' (k+1)):=by
 obtain⟨e,a,b1,rfl,rfl⟩:=h
 exact⟨e,a,l.ix k,La.nW hl k,by rw[sQ];exact b1,F,by rw[pG];rfl⟩
theorem Yp {l:La} (hl:0<l.loop.length) (q k:Nat):nd l q k/l.n=q:=by
 have:=La.nW hl k
 unfold nd
 rw[Nat.mul_comm,Nat.mul_add_div (by omega),Nat.div_eq_of_lt this,Nat.add_zero]
theorem OR {E:Nat→Nat→Prop} {u v:Nat} (h:gL E u v):u=v∨ ∃y,E u y∧gL E y v:=by
 cases h with
 |refl=>exact .inl F
 |step e r=>exact .inr ⟨_,e,r⟩
theorem Sg.Ai {b:Bu} {l:La} (hv:eJ b) (hl:0<l.loop.length) {Fs:List Int} {aa:Nat} (hs:b.aP=[Fs]) (hF: ∀q,aa.testBit q=true↔(q:Int)∈Fs) {a q0:Nat} {f:Bool} {k q:Nat} (h:Sg b.ao aa l.at a q0 f k q):
  gL (PE b l) (nd l q0 a) (nd l q k)∧(f=true→ ∃u m,PE b l (nd l q0 a) u∧PM b l 0 m∧gL (PE b l) u m∧gL (PE b l) m (nd l q k)):=by
 induction h with
 |start=>exact⟨.refl _,fun h=>by cases h⟩
 | @step f k q q' h e ih=>
  have hp:=e.pe hl
  obtain⟨h1,h2⟩:=ih
  refine⟨h1.tail hp,fun hf=>?_⟩
  cases f with
  |true=>
   obtain⟨u,m,a1,a2,a3,a4⟩:=h2 F
   exact⟨u,m,a1,a2,a3,a4.tail hp⟩
  |false=>
   rw[Bool.false_or]at hf
   have hm:PM b l 0 (nd l q' (k+1)):=by
    refine⟨(PE.lt hv hl hp).2,Fs,by rw[hs];rfl,?_⟩
    rw[Yp hl];exact(hF q').1 hf
   rcases OR h1 with e0|⟨u,e1,r1⟩
   ·rw[←e0]at hp
    exact⟨_,_,hp,hm,.refl _,.refl _⟩
   ·exact⟨_,_,e1,hm,r1.tail hp,.refl _⟩
theorem Fx {P:Nat→Nat→Prop} {R:Nat→Nat→Nat→Prop} (hb: ∀j q,P (j+1) q→ ∃q0,P j q0∧R j q0 q): ∀m q,P m q→ ∃f:Nat→Nat,f m=q∧(∀j,j≤m→P j (f j))∧ ∀j,j<m→R j (f j) (f (j+1))
 |0,q,h=>⟨fun _=>q,F,fun j hj=>by rw[Nat.le_zero.1 hj];exact h,fun j hj=>by omega⟩
 |m+1,q,h=>by
  obtain⟨q0,a,b⟩:=hb m q h
  obtain⟨f,c1,c2,c3⟩:=Fx hb m q0 a
  refine⟨fun j=>if j≤m then f j else q,ar (by omega),fun j hj=>?_,fun j hj=>?_⟩
  ·by_cases e:j≤m
   ·simp only[e,if_true];exact c2 j e
   ·simp only[e,if_false]
    rw[show j=m+1 by omega];exact h
  ·by_cases e:j+1≤m
   ·simp only[e,if_true,show j≤m by omega];exact c3 j (by omega)
   ·have e2:j=m:=by omega
    subst e2
    simp only[aV,if_true,e,if_false]
    rw[c1];exact b
theorem ahI {Q:Nat→Prop} (h: ∀K,∃k,K≤k∧Q k) (K0:Nat): ∃e:Nat→Nat,K0≤e 0∧(∀j,Q (e j))∧ ∀j,e j<e (j+1):=by
 obtain⟨f,hf⟩:=Classical.axiomOfChoice h
 refine⟨fun j=>Nat.rec (f K0) (fun _ y=>f (y+1)) j,(hf K0).1,fun j=>?_,fun j=>(hf _).1⟩
 cases j with
 |zero=>exact(hf K0).2
 |succ j=>exact(hf _).2
theorem Fy {b:Bu} {l:La} (hv:eJ b) (hl:0<l.loop.length) {Fs:List Int} {aa S0:Nat} (hs:b.aP=[Fs]) (hF: ∀q,aa.testBit q=true↔(q:Int)∈Fs) (hS: ∀q,S0.testBit q=true↔(q:Int)∈b.start) {M:Nat} (hM:wO (fun k=>GS b.ae.toNat b.ao aa (l.at k) (fE b.ao aa S0 l.at k)) M) (h2:M%2=0):Rb b l:=by
 have he: ∀e∈b.ao,e.to.toNat<b.ae.toNat:=fun e h=>by have:=(hv.ed e h).2;omega
 obtain⟨g,K,hK,hE⟩:=OQ he hM h2
 obtain⟨e,e0,eQ,eI⟩:=ahI hE K
 have eK: ∀j,K≤e j:=fun j=>by
  induction j with
  |zero=>exact e0
  |succ j ih=>have:=eI j;omega
 let m:=b.ae.toNat*l.n+1
 have OS:=hK (e m+1) (by have:=eK m;omega)
 obtain⟨⟨yV,h0⟩,hti⟩:=kF (S0:=S0) (aa:=aa) (w:=l.at) he (e m)
 obtain⟨q,hq,_⟩:=hti.own g _ (ah OS.1)
 obtain⟨f,_,f2,f3⟩:=Fx (P:=fun j q=>pW (fE b.ao aa S0 l.at (e j+1)) g q) (R:=fun j q0 q=>Sg b.ao aa l.at (e j+1) q0 true (e (j+1)+1) q)
  (fun j q hq=>S7 he hK (eK j) (eI j) (eQ j) (eQ (j+1)) hq) m q ⟨_,ah OS.1,hq⟩
 have kK: ¬ ∀i j,i<j→j<m→nd l (f i) (e i+1)≠nd l (f j) (e j+1):=fun hc=>by
  have:=pig (n:=b.ae.toNat*l.n) (m:=m) (f:=fun i=>nd l (f i) (e i+1)) (fun i hi=>by
   obtain⟨_,a⟩:=(f3 i hi).Ai hv hl hs hF
   obtain⟨u,_,a1,_⟩:=a F
   exact(PE.lt hv hl a1).1) hc
  show False
  have h9:m=b.ae.toNat*l.n+1:=rfl
  omega
 obtain⟨i,hi⟩:=Classical.not_forall.1 kK
 obtain⟨j,hj⟩:=Classical.not_forall.1 hi
 obtain⟨wK,hj⟩:=Classical.not_imp.1 hj
 obtain⟨hjm,hj⟩:=Classical.not_imp.1 hj
 have hj:=Classical.not_not.1 hj
 have way: ∀d,i+1+d≤m→gL (PE b l) (nd l (f (i+1)) (e (i+1)+1)) (nd l (f (i+1+d)) (e (i+1+d)+1)):=by
  intro d
  induction d with
  |zero=>intro _;exact .refl _
  |succ d ih=>intro h;exact(ih (by omega)).trans ((f3 (i+1+d) (by omega)).Ai hv hl hs hF).1
 have wj:=way (j-(i+1)) (by omega)
 rw[show i+1+(j-(i+1))=j by omega,←hj]at wj
 obtain⟨_,a⟩:=(f3 i (by omega)).Ai hv hl hs hF
 obtain⟨u,y,a1,a2,a3,a4⟩:=a F
 obtain⟨s,s1,ff,s2⟩:=CU he (e i+1) g (f i) (f2 i (by omega))
 have hsr:=(s2.Ai hv hl hs hF).1
 have QQ:l.ix 0=0:=sP hl (by unfold La.n;omega)
 have kO:nd l s 0=s*l.n:=by unfold nd;rw[QQ,Nat.add_zero]
 refine⟨(s:Int),(hS s).1 s1,?_⟩
 rw[hs,Int.toNat_natCast,←kO]
 refine⟨_,hsr,⟨u,a1,(a3.trans a4).trans wj⟩,fun k hk=>?_⟩
 have yM:k=0:=by simp at hk;exact hk
 subst yM
 exact⟨y,a2,(gL.one a1).trans a3,a4.trans wj⟩
theorem K9 {b:Bu} {l:La} (hv:eJ b) (hl:0<l.loop.length) {Fs:List Int} {aa S0:Nat} (hs:b.aP=[Fs]) (hF: ∀q,aa.testBit q=true↔(q:Int)∈Fs) (hS: ∀q,S0.testBit q=true↔(q:Int)∈b.start) {M:Nat} (hM:wO (fun k=>GS b.ae.toNat b.ao aa (l.at k) (fE b.ao aa S0 l.at k)) M):M%2=0↔Acc b l.at:=by
 have he: ∀e∈b.ao,e.to.toNat<b.ae.toNat:=fun e h=>by have:=(hv.ed e h).2;omega
 constructor
 ·intro h2
  exact(Eo hv hl).1 (Fy hv hl hs hF hS hM h2)
 ·rintro⟨s,h1,r,hr⟩
  have hR:yX b.ao aa S0 l.at r:=by
   refine⟨by rw[hr.s];exact(hS s).2 h1,fun k=>?_,fun K=>?_⟩
   ·obtain⟨e,a1,a2,a3,a4⟩:=hr.st k
    exact⟨e,a1,a4,by omega,by omega⟩
   ·obtain⟨k,a1,a2⟩:=hr.inf Fs (by rw[hs];simp) K
    exact⟨k,a1,(hF _).2 a2⟩
  obtain⟨M',h3,h4⟩:=HW hR he
  rw[hM.unique h3];exact h4
def iK (d:fx):Nat→List Nat→List Nat
 |_,[]=>[]
 |s,x::w=>di d s x::iK d (di d s x) w
theorem rz (d:fx): ∀(w:List Nat) (s:Nat),(iK d s w).length=w.length
 | [],_=>rfl
 |x::w,s=>by show(iK d (di d s x) w).length+1=w.length+1;rw[rz d w]
theorem rA (d:fx): ∀(u v:List Nat) (s:Nat),iK d s (u++v)=iK d s u++iK d (runN d s u) v
 | [],_,_=>rfl
 |x::u,v,s=>by show _::iK d _ (u++v)=_;rw[rA d u v];rfl
theorem nE (d:fx): ∀(w:List Nat) (s r:Nat),r<w.length→(iK d s w)[r]? =some (runN d s (w.take (r+1)))
 | [],_,_,h=>by simp at h
 |x::w,s,0,_=>by simp[iK,runN]
 |x::w,s,r+1,h=>by
  have ih:=nE d w (di d s x) r (by simpa using h)
  show(iK d (di d s x) w)[r]? =_
  rw[ih];rfl
def lv (p:dG) (s:Nat) (w:List Nat):Nat:=((iK p.d s w).map (fC p)).foldl max 0
theorem nF: ∀(l:List Nat) (a:Nat),l.foldl max a=max a (l.foldl max 0)
 | [],a=>by simp
 |x::l,a=>by
  show l.foldl max (max a x)=max a (l.foldl max (max 0 x))
  rw[nF l (max a x),nF l (max 0 x)];omega
theorem k_ {l:List Nat} {x:Nat} (h:x∈l):x≤l.foldl max 0:=by
 induction l with
 |nil=>cases h
 |cons a l ih=>
  show x≤l.foldl max (max 0 a)
  rw[nF]
  rcases List.mem_cons.1 h with rfl|h
  ·omega
  ·have:=ih h;omega
theorem lW {l:List Nat} (h:l≠ []):l.foldl max 0∈l:=by
 induction l with
 |nil=>exact absurd F h
 |cons a l ih=>
  show l.foldl max (max 0 a)∈_
  rw[nF]
  cases l with
  |nil=>simp
  |cons b l=>
   have:=ih (by simp)
   rcases Nat.le_total (max 0 a) ((b::l).foldl max 0)with h1|h1
   ·rw[Nat.max_eq_right h1];exact List.mem_cons_of_mem _ this
   ·rw[Nat.max_eq_left h1];simp
theorem oD (l m:List Nat):(l++m).foldl max 0=max (l.foldl max 0) (m.foldl max 0):=by
 rw[ep,nF]
theorem uG {l:List Nat} {b:Nat} (h: ∀x∈l,x≤b):l.foldl max 0≤b:=by
 cases l with
 |nil=>exact aG _
 |cons a l=>exact h _ (lW (by simp))
theorem FT (p:dG) (s:Nat) (u v:List Nat):lv p s (u++v)=max (lv p s u) (lv p (runN p.d s u) v):=by
 unfold lv;rw[rA,aL,oD]
theorem Ln (p:dG) (s:Nat) (u:List Nat) (x:Nat):lv p s (u++[x])=max (lv p s u) (fC p (runN p.d s (u++[x]))):=by
 rw[FT,jK];simp[lv,iK]
def oC (d:fx) (a:Nat→Nat):Nat→Nat
 |0=>d.start.toNat
 |k+1=>di d (oC d a k) (a k)
def kZ (p:dG) (a:Nat→Nat) (m:Nat):Prop:=(∃K,∀k,K≤k→fC p (oC p.d a k)≤m)∧ ∀K,∃k,K≤k∧fC p (oC p.d a k)=m
theorem kZ.unique {p:dG} {a:Nat→Nat} {m k:Nat} (h:kZ p a m) (g:kZ p a k):m=k:=by
 obtain⟨⟨K,hK⟩,h2⟩:=h
 obtain⟨⟨J,hJ⟩,g2⟩:=g
 obtain⟨i,hi,e⟩:=h2 J
 obtain⟨j,hj,f⟩:=g2 K
 have:=hJ i hi
 have:=hK j hj
 omega
noncomputable def mW (p:dG) (a:Nat→Nat):Nat:= @Classical.epsilon Nat ⟨0⟩ (kZ p a)
theorem k7 {p:dG} {a:Nat→Nat} {m:Nat} (h:kZ p a m):mW p a=m:=(Classical.epsilon_spec (p:=kZ p a) ⟨m,h⟩).unique h
theorem Lo {d:fx} {a:Nat→Nat} {P0:Nat} {W:List Nat} (h0:0<W.length) (hr:runN d (oC d a P0) W=oC d a P0) (hw: ∀t r,r<W.length→a (P0+(t*W.length+r))=W.getD r 0): ∀t r,r≤W.length→oC d a (P0+(t*W.length+r))=runN d (oC d a P0) (W.take r):=by
 intro t
 induction t with
 |zero=>
  intro r
  induction r with
  |zero=>intro _;simp[runN]
  |succ r ih=>
   intro uf
   have:=hw 0 r (by omega)
   show di d (oC d a (P0+(0*W.length+r))) (a (P0+(0*W.length+r)))=_
   rw[ih (by omega),this,an (show r<W.length by omega),jK]
   rw[aj,ah (show r<W.length by omega)];rfl
 |succ t iht=>
  intro r
  induction r with
  |zero=>
   intro _
   have:=iht W.length (aV _)
   rw[aN (aV _),hr]at this
   rw[show P0+((t+1)*W.length+0)=P0+(t*W.length+W.length) by rw[Nat.succ_mul];omega,this];simp[runN]
  |succ r ih=>
   intro uf
   have:=hw (t+1) r (by omega)
   show di d (oC d a (P0+((t+1)*W.length+r))) (a (P0+((t+1)*W.length+r)))=_
   rw[ih (by omega),this,an (show r<W.length by omega),jK]
   rw[aj,ah (show r<W.length by omega)];rfl
theorem To {p:dG} {a:Nat→Nat} {P0:Nat} {W:List Nat} (h0:0<W.length) (hr:runN p.d (oC p.d a P0) W=oC p.d a P0) (hw: ∀t r,r<W.length→a (P0+(t*W.length+r))=W.getD r 0):kZ p a (lv p (oC p.d a P0) W):=by
 have hs:=Lo h0 hr hw
 have hvm: ∀r,r<W.length→fC p (runN p.d (oC p.d a P0) (W.take (r+1)))∈(iK p.d (oC p.d a P0) W).map (fC p):=fun r hr=>List.mem_map.2 ⟨_,bE (nE p.d W _ r hr),F⟩
 constructor
 ·refine⟨P0,fun k hk=>?_⟩
  have hm:=Nat.mod_lt (k-P0) h0
  have he:k=P0+((k-P0)/W.length*W.length+(k-P0)%W.length):=by
   have:=Nat.div_add_mod (k-P0) W.length
   rw[Nat.mul_comm]at this;omega
  rw[he,hs _ _ (Nat.le_of_lt hm)]
  by_cases hz:(k-P0)%W.length=0
  ·rw[hz]
   have h1:=hvm (W.length-1) (by omega)
   rw[show W.length-1+1=W.length by omega,aN (aV _),hr]at h1
   exact k_ (by simpa[runN]using h1)
  ·have h1:=hvm ((k-P0)%W.length-1) (by omega)
   rw[show(k-P0)%W.length-1+1=(k-P0)%W.length by omega]at h1
   exact k_ h1
 ·intro K
  have mC:(iK p.d (oC p.d a P0) W).map (fC p)≠ []:=fun e=>by
   have:=av List.length e
   rw[ag,rz,eD]at this;omega
  obtain⟨q,hq,e⟩:=List.mem_map.1 (lW mC)
  obtain⟨r,Mo⟩:=List.mem_iff_getElem?.1 hq
  have zY:r<W.length:=by have:=(List.getElem?_eq_some_iff.1 Mo).1;rwa[rz]at this
  rw[nE p.d W _ r zY]at Mo
  obtain rfl:=cg Mo
  refine⟨P0+(K*W.length+(r+1)),?_,?_⟩
  ·have h9:=Nat.le_mul_of_pos_right K h0
   obtain⟨z,hz⟩: ∃z,K*W.length=z:=⟨_,F⟩
   rw[hz]at h9⊢;omega
  ·rw[hs K (r+1) (by omega)];exact e
def p5 (w:List Nat):Nat→List Nat
 |0=>[]
 |m+1=>p5 w m++w
theorem nG (w:List Nat): ∀m,(p5 w m).length=m*w.length
 |0=>by simp[p5]
 |m+1=>by rw[p5,aI,nG w m,Nat.succ_mul]
theorem FU {w:List Nat} (h:0<w.length): ∀m r,r<m*w.length→(p5 w m).getD r 0=w.getD (r%w.length) 0
 |0,r,hr=>by simp at hr
 |m+1,r,hr=>by
  rw[p5]
  simp only[aj]
  by_cases hm:r<m*w.length
  ·have:=FU h m r hm
   simp only[aj]at this
   rw[bG (by rw[nG];exact hm),this]
  ·rw[bN (by rw[nG];omega),nG]
   congr 2
   rw[Nat.succ_mul]at hr
   have e:r=(r-m*w.length)+w.length*m:=by rw[Nat.mul_comm w.length];omega
   conv=>rhs;rw[e]
   rw[Nat.add_mul_mod_self_left,Nat.mod_eq_of_lt (by omega)]
def gZ (d:fx) (w:List Nat) (s:Nat):Nat→Nat
 |0=>s
 |k+1=>runN d (gZ d w s k) w
theorem rP (d:fx) (w:List Nat) (s:Nat): ∀m,runN d s (p5 w m)=gZ d w s m
 |0=>rfl
 |m+1=>by rw[p5,gZ,←rP d w s m];unfold runN;rw[ep]
theorem uH (d:fx) (w:List Nat) (s j:Nat): ∀m,gZ d w (gZ d w s j) m=gZ d w s (j+m)
 |0=>rfl
 |m+1=>by rw[gZ,uH d w s j m];rfl
theorem FV (d:fx) (l:La): ∀k,k≤l.pre.length→oC d l.at k=runN d d.start.toNat (l.pre.take k)
 |0,_=>by simp[oC,runN]
 |k+1,hk=>by
  rw[oC,FV d l k (by omega),an (show k<l.pre.length by omega),jK]
  unfold La.at
  rw[aA (by omega),aj,ah (by omega)];rfl
theorem Pq {d:fx} {l:La} (h:0<l.loop.length) (s0:Nat) (hs:s0=runN d d.start.toNat l.pre): ∀j r,r≤l.loop.length→oC d l.at (l.pre.length+(j*l.loop.length+r))=runN d (gZ d l.loop s0 j) (l.loop.take r):=by
 have h00:oC d l.at l.pre.length=s0:=by rw[FV d l _ (aV _),aN (aV _),hs]
 have step: ∀j r,r<l.loop.length→l.at (l.pre.length+(j*l.loop.length+r))=l.loop.getD r 0:=fun j r hr=>by
  rw[o7 h];unfold La.u
  rw[Nat.mul_comm,Nat.mul_add_mod,Nat.mod_eq_of_lt hr]
 intro j
 induction j with
 |zero=>
  intro r
  induction r with
  |zero=>intro _;simp[h00,gZ,runN]
  |succ r ih=>
   intro hr
   show di d (oC d l.at (l.pre.length+(0*l.loop.length+r))) (l.at (l.pre.length+(0*l.loop.length+r)))=_
   rw[ih (by omega),step 0 r (by omega),an (show r<l.loop.length by omega),jK]
   rw[aj,ah (show r<l.loop.length by omega)];rfl
 |succ j ihj=>
  intro r
  induction r with
  |zero=>
   intro _
   have:=ihj l.loop.length (aV _)
   rw[aN (aV _)]at this
   rw[show l.pre.length+((j+1)*l.loop.length+0)=l.pre.length+(j*l.loop.length+l.loop.length) by rw[Nat.succ_mul];omega,this];simp[runN,gZ]
  |succ r ih=>
   intro hr
   show di d (oC d l.at (l.pre.length+((j+1)*l.loop.length+r))) (l.at (l.pre.length+((j+1)*l.loop.length+r)))=_
   rw[ih (by omega),step (j+1) r (by omega),an (show r<l.loop.length by omega),jK]
   rw[aj,ah (show r<l.loop.length by omega)];rfl
theorem rQ {p:dG} {l:La} (h:0<l.loop.length) {s0 j m:Nat} (hs:s0=runN p.d p.d.start.toNat l.pre) (hm:0<m) (he:gZ p.d l.loop s0 (j+m)=gZ p.d l.loop s0 j):kZ p l.at (lv p (gZ p.d l.loop s0 j) (p5 l.loop m)):=by
 have mK:oC p.d l.at (l.pre.length+j*l.loop.length)=gZ p.d l.loop s0 j:=by
  have:=Pq h s0 hs j 0 (aG _)
  simpa[runN]using this
 have jn:=nG l.loop m
 have B6:0<(p5 l.loop m).length:=by rw[jn];exact Nat.mul_pos hm h
 have:=To (p:=p) (a:=l.at) (P0:=l.pre.length+j*l.loop.length) (W:=p5 l.loop m) B6 (by rw[mK,rP,uH,he]) (fun t r hr=>by
  rw[jn]at hr
  rw[FU h m r hr,Nat.add_assoc,o7 h,jn]
  unfold La.u
  congr 1
  rw[show j*l.loop.length+(t*(m*l.loop.length)+r)=r+l.loop.length*(j+t*m) by rw[Nat.mul_add,Nat.mul_comm l.loop.length j,←Nat.mul_assoc,Nat.mul_comm l.loop.length (t*m)];omega,Nat.add_mul_mod_self_left])
 rwa[mK]at this
theorem zg (p:dG) (w:List Nat) (s:Nat): ∀m,lv p s (p5 w m)=((List.range m).map fun k=>lv p (gZ p.d w s k) w).foldl max 0
 |0=>rfl
 |m+1=>by
  rw[p5,FT,zg p w s m,rP,List.range_succ,aL,oD];simp
section
variable {α:Type} [DecidableEq α]
def oB (tr:α→Nat→α) (L:Nat) (ks:List α) (k:α):List Int:=(List.range L).map fun x=>((ix (tr k x) ks:Nat):Int)
structure Q6 (tr:α→Nat→α) (L:Nat) (start:α) (ks:List α) (s:Nat) (rs:List (List Int)):Prop where
 len:rs.length=s
 le:s≤ks.length
 st:ks[0]? =some start
 nd:ks.Nodup
 row: ∀i k,i<s→ks[i]? =some k→rs[i]? =some (oB tr L ks k)
 mem: ∀i k,i<s→ks[i]? =some k→ ∀x,x<L→tr k x∈ks
theorem Q6.zero (tr:α→Nat→α) (L:Nat) (start:α):Q6 tr L start [start] 0 []:=
 ⟨F,aG _,F,by simp,fun i k h=>absurd h (Nat.not_lt_zero _),fun i k h=>absurd h (Nat.not_lt_zero _)⟩
theorem Ak {tr:α→Nat→α} {L:Nat} {ks ms:List α} (h:ks<+:ms) {k:α} (hm: ∀x,x<L→tr k x∈ks):oB tr L ms k=oB tr L ks k:=by
 unfold oB
 apply List.map_congr_left
 intro x hx
 rw[Bj h (hm x (List.mem_range.1 hx))]
theorem prefix_at {ks ms:List α} (h:ks<+:ms) {i:Nat} (hi:i<ks.length):ms[i]? =ks[i]? :=by
 obtain⟨t,rfl⟩:=h
 rw[bG hi]
structure VY (tr:α→Nat→α) (start:α) (HY ks:List α) (k:α) (x:Nat) (ys:List Int):Prop where
 pre:HY<+:ks
 nd:ks.Nodup
 row:ys=(List.range x).map fun y=>((ix (tr k y) ks:Nat):Int)
 mem: ∀y,y<x→tr k y∈ks
theorem VY.zero {tr:α→Nat→α} {start:α} {ks:List α} {k:α} (h:ks.Nodup):VY tr start ks ks k 0 []:=⟨List.prefix_refl _,h,F,fun y hy=>absurd hy (Nat.not_lt_zero _)⟩
theorem VY.step {tr:α→Nat→α} {start:α} {HY ks:List α} {k:α} {x:Nat} {ys:List Int} (h:VY tr start HY ks k x ys):VY tr start HY (add ks (tr k x)) k (x+1) (ys++[((ix (tr k x) (add ks (tr k x)):Nat):Int)]):=by
 have hp:=yQ ks (tr k x)
 refine⟨h.pre.trans hp,Bi h.nd,?_,fun y hy=>?_⟩
 ·rw[List.range_succ,aL,h.row]
  congr 1
  apply List.map_congr_left
  intro y hy
  rw[Bj hp (h.mem y (List.mem_range.1 hy))]
 ·by_cases e:y=x
  ·subst e;exact xj.2 (.inr F)
  ·exact hp.subset (h.mem y (by omega))
theorem Q6.snoc {tr:α→Nat→α} {L:Nat} {start:α} {ks ms:List α} {s:Nat} {rs:List (List Int)} {ys:List Int} {k:α} (h:Q6 tr L start ks s rs) (hk:ks[s]? =some k) (g:VY tr start ks ms k L ys):Q6 tr L start ms (s+1) (rs++[ys]):=by
 have hs:=(List.getElem?_eq_some_iff.1 hk).1
 have mB:=g.pre.length_le
 refine⟨by simp[h.len],by omega,by rw[prefix_at g.pre (by omega),h.st],g.nd,fun i k' hi AK=>?_,fun i k' hi AK=>?_⟩
 ·by_cases e:i=s
  ·subst e
   rw[prefix_at g.pre hs,hk]at AK;cases AK
   rw[bN (by rw[h.len];exact aV _),h.len,g.row];simp[oB]
  ·rw[prefix_at g.pre (by omega)]at AK
   rw[bG (by rw[h.len];omega),h.row i k' (by omega) AK,Ak g.pre (h.mem i k' (by omega) AK)]
 ·by_cases e:i=s
  ·subst e
   rw[prefix_at g.pre hs,hk]at AK;cases AK
   exact g.mem
  ·rw[prefix_at g.pre (by omega)]at AK
   exact fun x hx=>g.pre.subset (h.mem i k' (by omega) AK x hx)
end
def CV {α:Type} (tr:α→Nat→α) (start:α) (w:Nat→Nat):Nat→α
 |0=>start
 |k+1=>tr (CV tr start w k) (w k)
theorem Ju {α:Type} [DecidableEq α] {tr:α→Nat→α} {L:Nat} {start:α} {ks:List α} {rs:List (List Int)} (h:Q6 tr L start ks ks.length rs) {d:fx} (hn:d.next=rs) (h0:d.start=0) {w:Nat→Nat} (hw: ∀k,w k<L): ∀k,ks[oC d w k]? =some (CV tr start w k)
 |0=>by
  show ks[d.start.toNat]? =some start
  rw[h0];exact h.st
 |k+1=>by
  have ih:=Ju h hn h0 hw k
  have hi:=(List.getElem?_eq_some_iff.1 ih).1
  have hr:=h.row _ _ hi ih
  have hm:=h.mem _ _ hi ih (w k) (hw k)
  have e:oC d w (k+1)=ix (tr (CV tr start w k) (w k)) ks:=by
   show di d (oC d w k) (w k)=_
   unfold di
   have e1:rs.getD (oC d w k) []=oB tr L ks (CV tr start w k):=by rw[aj,hr];rfl
   rw[hn,e1]
   unfold oB
   rw[aj]
   simp[hw k]
  rw[e,CM hm]
  rfl
def yH (N:Nat) (es:List Ed) (aa:Nat) (k:List Vx×Nat) (x:Nat):List Vx×Nat:=(stepT es aa x k.1,GS N es aa x k.1)
theorem yZ (N:Nat) (es:List Ed) (aa S0:Nat) (w:Nat→Nat): ∀k,(CV (yH N es aa) ([⟨0,S0⟩],1) w k).1=fE es aa S0 w k∧(CV (yH N es aa) ([⟨0,S0⟩],1) w (k+1)).2=GS N es aa (w k) (fE es aa S0 w k)
 |0=>⟨F,F⟩
 |k+1=>by
  have ih:=(yZ N es aa S0 w k).1
  have h1:(CV (yH N es aa) ([⟨0,S0⟩],1) w (k+1)).1=fE es aa S0 w (k+1):=by
   show stepT es aa (w k) (CV (yH N es aa) ([⟨0,S0⟩],1) w k).1=_
   rw[ih];rfl
  refine⟨h1,?_⟩
  show GS N es aa (w (k+1)) (CV (yH N es aa) ([⟨0,S0⟩],1) w (k+1)).1=_
  rw[h1]
theorem wO.map {f:Nat→Nat} {M:Nat} (h:wO f M) {g:Nat→Nat} {K0:Nat} (hg: ∀i j,K0≤i→K0≤j→f i≤f j→g (f i)≤g (f j)):wO (fun k=>g (f k)) (g M):=by
 obtain⟨⟨K,h1⟩,h2⟩:=h
 refine⟨⟨max K K0,fun k hk=>?_⟩,fun K2=>?_⟩
 ·obtain⟨j,hj,e⟩:=h2 K0
  show g (f k)≤g M
  rw[←e]
  exact hg k j (by omega) hj (by rw[e];exact h1 k (by omega))
 ·obtain⟨k,hk,e⟩:=h2 K2
  exact⟨k,hk,by show g (f k)=g M;rw[e]⟩
def Bo:Nat→List Nat→List (Nat×Nat)
 |_,[]=>[]
 |nx,x::l=>(x,if nx%2≠x%2 then nx+1 else nx)::Bo (if nx%2≠x%2 then nx+1 else nx) l
theorem uE: ∀(l:List Nat) (nx:Nat),(Bo nx l).map Prod.fst=l
 | [],_=>rfl
 |x::l,nx=>by rw[Bo,bL,uE l]
theorem CW: ∀ {l:List Nat} {nx x y:Nat},(x,y)∈Bo nx l→y%2=x%2∧nx≤y
 |a::l,nx,x,y,h=>by
  rw[Bo]at h
  rcases List.mem_cons.1 h with e|h
  ·cases e
   split<;>omega
  ·have:=CW h
   split at this<;>omega
theorem Fz: ∀ {l:List Nat} {nx x y x' y':Nat},l.Pairwise (· < ·)→(x,y)∈Bo nx l→(x',y')∈Bo nx l→x≤x'→y≤y'
 |a::l,nx,x,y,x',y',hs,h,h',hx=>by
  rw[Bo]at h h'
  obtain⟨hs1,BP⟩:=List.pairwise_cons.1 hs
  have mem: ∀ {m u v:Nat},(u,v)∈Bo m l→u∈l:=fun {m u v} hh=>by
   have:=List.mem_map_of_mem (f:=Prod.fst) hh
   rwa[uE]at this
  rcases List.mem_cons.1 h with e|h<;>rcases List.mem_cons.1 h' with e'|h'
  ·cases e;cases e';exact aV _
  ·cases e;exact(CW h').2
  ·cases e';have:=hs1 x (mem h);omega
  ·exact Fz BP h h' hx
def sz (l:List Nat) (x:Nat):Nat:=((Bo 0 l).lookup x).getD 0
theorem tf {x:Nat}: ∀ {l:List (Nat×Nat)},x∈l.map Prod.fst→ ∃y,l.lookup x=some y∧(x,y)∈l
 |(a,b)::l,h=>by
  by_cases e:x=a
  ·subst e;exact⟨b,by simp[List.lookup],by simp⟩
  ·have hl:x∈l.map Prod.fst:=by
    rcases List.mem_cons.1 h with h|h
    ·exact absurd h e
    ·exact h
   obtain⟨y,h1,h2⟩:=tf hl
   have e2:(x==a)=false:=by simpa using e
   exact⟨y,by simp[List.lookup,e2,h1],List.mem_cons_of_mem _ h2⟩
theorem OT {l:List Nat} (hs:l.Pairwise (· < ·)):(∀x∈l,sz l x%2=x%2)∧ ∀x∈l,∀y∈l,x≤y→sz l x≤sz l y:=by
 have at_: ∀x∈l,(x,sz l x)∈Bo 0 l:=fun x hx=>by
  obtain⟨y,h1,h2⟩:=tf (x:=x) (l:=Bo 0 l) (by rw[uE];exact hx)
  unfold sz;rw[h1];exact h2
 exact⟨fun x hx=>(CW (at_ x hx)).1,fun x hx y hy h=>Fz hs (at_ x hx) (at_ y hy) h⟩
theorem S8 {b:Bu} {l:La} (hv:eJ b) (hl:0<l.loop.length) {Fs:List Int} {aa S0:Nat} (hs:b.aP=[Fs]) (hF: ∀q,aa.testBit q=true↔(q:Int)∈Fs) (hS: ∀q,S0.testBit q=true↔(q:Int)∈b.start)
  {L:Nat} {ks:List (List Vx×Nat)} {rs:List (List Int)} (h:Q6 (yH b.ae.toNat b.ao aa) L ([⟨0,S0⟩],1) ks ks.length rs) {p:dG} (hn:p.next=rs) (h0:p.start=0) {pl:List Nat} (hp:pl.Pairwise (· < ·)) (hk: ∀k∈ks,k.2∈pl) (K_:p.dX=ks.map fun k=>((sz pl k.2:Nat):Int)) (hw: ∀k,l.at k<L):
  ∃m,kZ p l.at m∧(m%2=0↔Acc b l.at):=by
 obtain⟨M,hM⟩:=vA (f:=fun k=>GS b.ae.toNat b.ao aa (l.at k) (fE b.ao aa S0 l.at k)) (2*(b.ae.toNat+1)+3) ⟨0,fun k _=>OP _ _ _ _⟩
 have mK:=Ju h (d:=p.d) hn h0 hw
 have pr: ∀k,fC p (oC p.d l.at (k+1))=sz pl (GS b.ae.toNat b.ao aa (l.at k) (fE b.ao aa S0 l.at k))∧GS b.ae.toNat b.ao aa (l.at k) (fE b.ao aa S0 l.at k)∈pl:=fun k=>by
  have h1:=mK (k+1)
  have h2:=(yZ b.ae.toNat b.ao aa S0 l.at k).2
  have h3:=hk _ (bE h1)
  rw[h2]at h3
  refine⟨?_,h3⟩
  unfold fC
  rw[K_,aj,bc,h1]
  show(((sz pl _:Nat):Int)).toNat=_
  rw[Int.toNat_natCast,h2]
 obtain⟨KM,Bp⟩:=OT hp
 have hI:wO (fun k=>sz pl (GS b.ae.toNat b.ao aa (l.at k) (fE b.ao aa S0 l.at k))) (sz pl M):=wO.map (f:=fun k=>GS b.ae.toNat b.ao aa (l.at k) (fE b.ao aa S0 l.at k)) hM (K0:=0) fun i j _ _ e=>Bp _ (pr i).2 _ (pr j).2 e
 have hMm:M∈pl:=by
  obtain⟨k,_,e⟩:=hM.2 0
  have:=(pr k).2
  rw[←e];exact this
 refine⟨sz pl M,⟨?_,fun K=>?_⟩,?_⟩
 ·obtain⟨K,h1⟩:=hI.1
  refine⟨K+1,fun k hk=>?_⟩
  obtain⟨k',rfl⟩: ∃k',k=k'+1:=⟨k-1,by omega⟩
  rw[(pr k').1]
  exact h1 k' (by omega)
 ·obtain⟨k,h1,h2⟩:=hI.2 K
  exact⟨k+1,by omega,by rw[(pr k).1];exact h2⟩
 ·rw[KM M hMm]
  exact K9 hv hl hs hF hS hM
open Go.RowKit Lib
def eO (m:Nat):List Nat:=(List.range 64).filter fun q=>m.testBit q
theorem q6 {m q:Nat}:q∈eO m↔q<64∧m.testBit q=true:=by unfold eO;rw[List.mem_filter,iH]
theorem OU {m k:Nat} (hm:m<2^64) (hk:k<2^64) (h:eO m=eO k):m=k:=by
 have hi: ∀ {y:Nat},y<2^64→ ∀q,64≤q→y.testBit q=false:=fun hy q hq=>Nat.testBit_lt_two_pow (du hy (dw (by decide) hq))
 refine Nat.eq_of_testBit_eq fun q=>?_
 by_cases c:q<64
 ·have h1:q∈eO m↔q∈eO k:=by rw[h]
  rw[q6,q6]at h1
  cases a:m.testBit q<;>cases b:k.testBit q<;>simp_all
 ·rw[hi hm q (by omega),hi hk q (by omega)]
def vxT (v:Vx):List UInt8:=decDigits v.par++58::(eO v.gV).flatMap fun s=>decDigits s++[32]
def kP (t:List Vx):List UInt8:=t.flatMap vxT
theorem OV (t:List Vx) (v:Vx):kP (t++[v])=kP t++vxT v:=by unfold kP;rw[List.flatMap_append];simp
def CX:List UInt8→List UInt8→List (List UInt8×UInt8)
 |_,[]=>[]
 |oW,c::l=>if c=58∨c=32 then(oW,c)::CX [] l else CX (oW++[c]) l
theorem CY: ∀(d oW:List UInt8) (c:UInt8) (l:List UInt8),(∀b∈d,48≤b.toNat∧b.toNat<58)→(c=58∨c=32)→CX oW (d++c::l)=(oW++d,c)::CX [] l
 | [],oW,c,l,_,hc=>by rw[dl,CX,aA hc,bZ]
 |b::d,oW,c,l,hd,hc=>by
  have hb:=hd b (by simp)
  have hn: ¬(b=58∨b=32):=by
   rintro(e|e)
   ·rw[e]at hb;revert hb;decide
   ·rw[e]at hb;revert hb;decide
  rw[cj,CX,ar hn,CY d (oW++[b]) c l (fun x hx=>hd x (by simp[hx])) hc]
  simp
def uF (v:Vx):List (Nat×UInt8):=(v.par,58)::(eO v.gV).map fun s=>(s,32)
theorem FA: ∀(l:List Nat) (r:List UInt8),CX [] ((l.flatMap fun s=>decDigits s++[32])++r)=(l.map fun s=>(decDigits s,(32:UInt8)))++CX [] r
 | [],r=>rfl
 |s::l,r=>by
  rw[List.flatMap_cons,bw,bw,List.singleton_append,CY _ [] 32 _ (vm s) (.inr F),FA l r]
  rfl
theorem y4: ∀(t:List Vx),CX [] (kP t)=(t.flatMap uF).map fun q=>(decDigits q.1,q.2)
 | []=>rfl
 |v::t=>by
  have h1:kP (v::t)=decDigits v.par++58::(((eO v.gV).flatMap fun s=>decDigits s++[32])++kP t):=by unfold kP vxT;simp
  rw[h1,CY _ [] 58 _ (vm _) (.inl F),FA,y4 t,List.flatMap_cons,aL]
  unfold uF
  simp
theorem Jv: ∀(t u:List Vx),(∀v∈t,v.gV<2^64)→(∀v∈u,v.gV<2^64)→t.flatMap uF=u.flatMap uF→t=u
 | [],[],_,_,_=>rfl
 | [],v::u,_,_,h=>by simp[uF]at h
 |v::t,[],_,_,h=>by simp[uF]at h
 |v::t,y::u,ht,hu,h=>by
  rw[List.flatMap_cons,List.flatMap_cons]at h
  have e1:v.par=y.par∧((eO v.gV).map fun s=>(s,(32:UInt8)))++t.flatMap uF=((eO y.gV).map fun s=>(s,(32:UInt8)))++u.flatMap uF:=by
   unfold uF at h
   simp only[cj,List.cons.injEq,Prod.mk.injEq]at h
   exact⟨h.1.1,h.2⟩
  have tw: ∀(l:List Nat) (r:List Vx),((l.map fun s=>(s,(32:UInt8)))++r.flatMap uF).takeWhile (fun q=>q.2==32)=(l.map fun s=>(s,(32:UInt8)))∧((l.map fun s=>(s,(32:UInt8)))++r.flatMap uF).dropWhile (fun q=>q.2==32)=r.flatMap uF:=by
   intro l r
   induction l with
   |nil=>
    cases r with
    |nil=>exact⟨F,F⟩
    |cons v r=>exact⟨F,F⟩
   |cons s l ih=>
    simp only[bL,cj]
    rw[List.takeWhile_cons,List.dropWhile_cons]
    have hb:(((s,(32:UInt8)):Nat×UInt8).snd==32)=true:=rfl
    exact⟨by rw[aA hb,ih.1],by rw[aA hb,ih.2]⟩
  have a1:=tw (eO v.gV) t
  have a2:=tw (eO y.gV) u
  rw[e1.2]at a1
  have hl:eO v.gV=eO y.gV:=by
   have h3:=a1.1.symm.trans a2.1
   have h4:=av (List.map Prod.fst) h3
   simpa[List.map_map,Function.comp_def]using h4
  have hr:=Jv t u (fun x hx=>ht x (by simp[hx])) (fun x hx=>hu x (by simp[hx])) (a1.2.symm.trans a2.2)
  have NO:=OU (ht v (by simp)) (hu y (by simp)) hl
  obtain⟨p1,l1⟩:=v
  obtain⟨p2,l2⟩:=y
  rw[hr]
  have e2:p1=p2:=e1.1
  have e3:l1=l2:=NO
  rw[e2,e3]
theorem S9 {t u:List Vx} (ht: ∀v∈t,v.gV<2^64) (hu: ∀v∈u,v.gV<2^64) (h:kP t=kP u):t=u:=by
 refine Jv t u ht hu ?_
 have h1:(t.flatMap uF).map (fun q=>(decDigits q.1,q.2))=(u.flatMap uF).map (fun q=>(decDigits q.1,q.2)):=by rw[←y4,←y4,h]
 have h2:=av (List.map fun q:List UInt8×UInt8=>(Fp q.1,q.2)) h1
 rw[List.map_map,List.map_map]at h2
 have h3:((fun q:List UInt8×UInt8=>(Fp q.1,q.2))∘fun q:Nat×UInt8=>(decDigits q.1,q.2))=id:=by
  funext q;simp[K5]
 rw[h3,List.map_id,List.map_id]at h2
 exact h2
section
variable {P:Program} {base:World} {ρ:Env} {O:List Item} {dst:Option Nat} {t:TypeId} {p:String} {af:Array Edge} {g:Option (Nat×Bool)}
end
set_option maxRecDepth 20000
def sR (m:Nat):List Nat:=if m=0 then[]else[m]
theorem S_:sR 0=[]:=rfl
theorem qY {m:Nat} (h:m≠0):sR m=[m]:=ar h
theorem nu (m:Nat):(sR m).length≤1:=by unfold sR;split<;>simp
theorem kp {m:Nat}:(sR m).length=0↔m=0:=by unfold sR;split<;>simp_all
theorem NA {k:Nat} (h:k<64):0<2^k∧2^k<18446744073709551616:=⟨Nat.pow_pos (by decide),by have:=Nat.pow_lt_pow_right (a:=2) (by decide) h;omega⟩
theorem Cr {a b n:Nat} (h:a<2^n):oa a b<2^n:=Nat.xor_lt_two_pow h (ee Nat.and_le_left h)
theorem R1 {m k:Nat}:m&&&2^k≠0↔m.testBit k=true:=by
 constructor
 ·intro h
  obtain⟨q,hq⟩:=OJ h
  rw[Nat.testBit_and,Nat.testBit_two_pow,aY,bo]at hq
  rw[hq.2];exact hq.1
 ·intro h e
  have:(m&&&2^k).testBit k=true:=by rw[Nat.testBit_and,Nat.testBit_two_pow,h];simp
  rw[e]at this;simp at this
section
variable {P:Program} {r:Option Nat} {base:World} {n:Nat} {ρ:Env} {O:List Item} {K:Env→List Item→Prop} {d:Nat} {dst:Option Nat} {t:TypeId} {p:String} {af:Array Edge} {g:Option (Nat×Bool)}
theorem RZ {x y z:Operand} {T E:TypeId} {b:Option Addr} {m c k gy:Nat} {zv:Value} (hu:P.underlying T=some (.slice E)) (uU:gq P E zv k gy) (hx:ev ρ x=.slice b m c) (hy:ev ρ y=.int .i64 (m:Int)) (hz:ev ρ z=.int .i64 (m:Int)) (h:m≤c):
  QT P base ⟨dst,.slice T x none (some y) (some z),t,p,af,g⟩ ρ O (.slice b m m):=fun w _=>by
 have e1:(m:Int)≤(c:Int):=by omega
 have e2:(0:Int)≤(m:Int):=by omega
 by_cases EL:m=0
 ·simp[execOp,Instr.sliceAt,Instr.slice,hx,hy,hz,bD hu,cA uU,Instr.sliceBounds,Instr.sliceBound,asIntOf,e1,e2,EL,h]
 ·simp[execOp,Instr.sliceAt,Instr.slice,hx,hy,hz,bD hu,cA uU,Instr.sliceBounds,Instr.sliceBound,asIntOf,e1,e2,EL,h]
  cases b<;>simp[Addr.add]
theorem Hy {x y:Operand} {T U:TypeId} {a b:Nat} (hx:ev ρ x=.int .u64 (a:Int)) (hy:ev ρ y=.int .u64 (b:Int)) (ha:a<18446744073709551616) (hb:b<18446744073709551616):QT P base ⟨dst,.binOp .andNot T x y U,t,p,af,g⟩ ρ O (.int .u64 ((oa a b:Nat):Int)):=fun w _=>by
 have GN:a<2^IntKind.u64.bits:=ha
 have qd:b<2^IntKind.u64.bits:=hb
 have h3:(BitVec.ofInt IntKind.u64.bits (a:Int)&&& ~~~BitVec.ofInt IntKind.u64.bits (b:Int)).toNat=oa a b:=by
  rw[BitVec.toNat_and,BitVec.toNat_not,A5 GN,A5 qd]
  apply Nat.eq_of_testBit_eq
  intro i
  have h:(2^IntKind.u64.bits-1-b).testBit i=(decide (i<IntKind.u64.bits)&&!b.testBit i):=by
   have:=Nat.testBit_two_pow_sub_succ (x:=b) (n:=IntKind.u64.bits) qd i
   rw[←this];congr 1;omega
  rw[Nat.testBit_and,h,CO]
  by_cases hi:i<IntKind.u64.bits
  ·rw[bz hi,Bool.true_and]
  ·rw[Nat.testBit_lt_two_pow (du GN (dw (by decide) (by omega)))];simp
 have h1:oa a b<2^IntKind.u64.bits:=Cr GN
 have h2:=UK.u64.wrap h1
 simp only[execOp,hx,hy,eqGuard,binOp,Op.intBits,h3,h2]
 simp
end
theorem OW {w k m:Nat} (h:w=2^k*(2*m+1)) (q:Nat):(w&&&(w-1)).testBit q=(w.testBit q&&decide (q≠k))∧(q<k→w.testBit q=false)∧w.testBit k=true:=by
 have hk:0<2^k:=Nat.pow_pos (by decide)
 have h1:w-1=2^k*(2*m)+(2^k-1):=by
  rw[h,Nat.mul_add];omega
 have hw:w=2^k*(2*m+1)+0:=by omega
 have a1: ∀q,w.testBit q=(if q<k then false else(2*m+1).testBit (q-k)):=fun q=>by
  rw[hw,Nat.testBit_two_pow_mul_add _ hk];simp
 have a2: ∀q,(w-1).testBit q=(if q<k then(2^k-1).testBit q else(2*m).testBit (q-k)):=fun q=>by
  rw[h1,Nat.testBit_two_pow_mul_add _ (by omega)]
 refine⟨?_,fun hq=>by rw[a1,aA hq],?_⟩
 ·rw[Nat.testBit_and,a1,a2]
  by_cases hq:q<k
  ·simp[hq]
  ·by_cases e:q=k
   ·subst e;simp
   ·rw[ar hq,ar hq,bz (show q≠k from e)]
    obtain⟨j,hj⟩: ∃j,q-k=j+1:=⟨q-k-1,by omega⟩
    have e2:(2*m+1)/2=m:=by omega
    have e3:(2*m)/2=m:=by omega
    rw[hj,Nat.testBit_succ,Nat.testBit_succ,e2,e3];simp
 ·rw[a1,ar (Nat.lt_irrefl k),eG];simp
theorem filter_none {p:Nat→Bool} {l:List Nat} (h: ∀q∈l,p q=false):l.filter p=[]:=List.filter_eq_nil_iff.2 fun q hq=>by rw[h q hq];decide
theorem OX {w:Nat} (h0:w≠0) (hw:w<2^64):eO w=Lib.ctz 64 w::eO (w&&&(w-1))∧Lib.ctz 64 w<64:=by
 obtain⟨m,hm,hk⟩:=Lib.ctzFrom_spec 64 w (by omega) hw
 have e:Lib.ctz 64 w=Lib.ctzFrom 64 w:=by simp[Lib.ctz,h0]
 rw[e]
 obtain⟨k,J4⟩: ∃k,Lib.ctzFrom 64 w=k:=⟨_,F⟩
 rw[J4]at hm hk⊢
 refine⟨?_,hk⟩
 have P:=OW hm
 have hr:List.range 64=List.range k++(k::(List.range' (k+1) (63-k))):=by
  have h2:List.range' 0 k++List.range' k (64-k)=List.range' 0 64:=by
   have:=List.range'_append_1 (s:=0) (m:=k) (n:=64-k)
   rw[Nat.zero_add,show k+(64-k)=64 by omega]at this
   exact this
  rw[List.range_eq_range',List.range_eq_range',←h2,show 64-k=(63-k)+1 by omega,List.range'_succ]
 unfold eO
 rw[hr,List.filter_append,List.filter_append,List.filter_cons,List.filter_cons,aA (P 0).2.2]
 have z1:(List.range k).filter (fun q=>w.testBit q)=[]:=filter_none fun q hq=>(P q).2.1 (List.mem_range.1 hq)
 have z2:(List.range k).filter (fun q=>(w&&&(w-1)).testBit q)=[]:=filter_none fun q hq=>by rw[(P q).1,(P q).2.1 (List.mem_range.1 hq)];rfl
 have z3:(w&&&(w-1)).testBit k=false:=by rw[(P k).1];simp
 rw[z1,z2,ar (by rw[z3];decide),dl,dl]
 congr 1
 refine List.filter_congr fun q hq=>?_
 have:=(List.mem_range'_1.1 hq).1
 rw[(P q).1,bz (show q≠k by omega),Bool.and_true]
theorem yx (w:Nat):(eO w).length≤64:=by
 have:=List.length_filter_le (fun q=>w.testBit q) (List.range 64)
 rw[gR]at this;exact this
theorem Lb:eO 0=[]:=by decide
theorem Xx {w:Nat} (h0:w≠0):w&&&(w-1)<w:=ee Nat.and_le_right (by omega)
def R5 (w u i:Nat):Prop:=u≤w∧(eO w).drop i=eO u∧i≤(eO w).length
theorem R5.zero (w:Nat):R5 w w 0:=⟨aV _,F,aG _⟩
theorem R5.at {w u i:Nat} (h:R5 w u i) (h0:u≠0) (hw:w<2^64):(eO w)[i]? =some (Lib.ctz 64 u)∧Lib.ctz 64 u<64∧R5 w (u&&&(u-1)) (i+1):=by
 obtain⟨h1,h2,h3⟩:=h
 obtain⟨h4,h5⟩:=OX h0 (by omega)
 have g:(eO w)[i]? =some (Lib.ctz 64 u):=by
  have:((eO w).drop i)[0]? =some (Lib.ctz 64 u):=by rw[h2,h4];rfl
  rwa[List.getElem?_drop,Nat.add_zero]at this
 refine⟨g,h5,cT Nat.and_le_left h1,?_,(List.getElem?_eq_some_iff.1 g).1⟩
 have:((eO w).drop i).drop 1=eO (u&&&(u-1)):=by rw[h2,h4];rfl
 rwa[List.drop_drop]at this
theorem R5.done {w i:Nat} (h:R5 w 0 i):i=(eO w).length:=by
 obtain⟨_,h2,h3⟩:=h
 rw[Lb]at h2
 have:=av List.length h2
 rw[List.length_drop]at this
 simp at this;omega
structure VR where
 par:Nat
 m:Nat
 b:Option Addr
 k:Nat
def ud (q:VR):Vx:=⟨q.par,q.m⟩
abbrev VR.set (q:VR):Value:=.slice q.b (sR q.m).length (sR q.m).length
abbrev VR.cells (q:VR):List Value:=[.int .i64 (q.par:Int),q.set]
def VR.jS (U:TypeId) (q:VR):Item:=ak q.b q.k U 1 (fe (sR q.m))
abbrev gW (qs:List VR):List Value:=qs.flatMap VR.cells
abbrev oy (qs:List VR):List Value:=qs.map VR.set
abbrev f_ (U:TypeId) (qs:List VR):List Item:=qs.map (VR.jS U)
abbrev iV (qs:List VR):List Vx:=qs.map ud
theorem yy {qs:List VR} {i:Nat} (h:i<qs.length): ∀j (hj:j< [Value.int .i64 (qs[i].par:Int),qs[i].set].length),(gW qs)[i*2+j]? =some [Value.int .i64 (qs[i].par:Int),qs[i].set][j]:=fun j hj=>by
 have h1:j<2:=hj
 rw[show(gW qs)[i*2+j]? =(qs[i].cells)[j]? from mX (aa:=VR.cells) (fun _=>rfl) h j h1]
 exact ah (l:=qs[i].cells) hj
theorem og {qs:List VR} {i:Nat} (h:i<qs.length) (j:Nat) (hj:j<2):(gW qs)[i*2+j]? =(qs[i].cells)[j]? :=mX (aa:=VR.cells) (fun _=>rfl) h j hj
theorem dP (qs:List VR):(gW qs).length=qs.length*2:=oV (aa:=VR.cells) (fun _=>rfl) qs
theorem xe (qs:List VR) (q:VR):gW (qs++[q])=gW qs++q.cells:=by simp[gW]
theorem Cq {qs:List VR} {i:Nat} (h:i<qs.length):(oy qs)[i]? =some qs[i].set:=by simp[h]
theorem pQ {qs:List VR} {i:Nat} (h:i<qs.length):(iV qs)[i]? =some ⟨qs[i].par,qs[i].m⟩:=by simp[h,ud]
structure XF (w:World) (b:Option Addr) (qs:List VR):Prop where
 row:Sl w b (gW qs)
 gV: ∀q∈qs,Sl w q.b (fe (sR q.m))
theorem Inv.vr {base:World} {O:List Item} {w:World} (hI:Inv base O w) {U:TypeId} {q:VR} (h:q.jS U∈O):Sl w q.b (fe (sR q.m)):=rowP.sl (hI.holds _ h)
theorem FB {α:Type} {f:α→Item}: ∀ {qs:List α} {i:Nat} (h:i<qs.length),(qs.map f).Perm (f qs[i]::(qs.eraseIdx i).map f)
 |q::qs,0,_=>by simp
 |q::qs,i+1,h=>by
  have ih:=FB (f:=f) (qs:=qs) (i:=i) (by simpa using h)
  simp only[bL,List.eraseIdx_cons_succ,List.getElem_cons_succ]at ih⊢
  exact(ih.cons _).trans (List.Perm.swap _ _ _)
theorem OY {U:TypeId} {qs:List VR} {i:Nat} (h:i<qs.length) (q:VR) (X Y:List Item):Sub (X++(f_ U (qs.set i q)++Y)) (q.jS U::(X++(f_ U qs++Y))):=by
 have h1:=FB (f:=VR.jS U) (qs:=qs.set i q) (i:=i) (by simpa using h)
 rw[List.getElem_set_self,List.eraseIdx_set_eq]at h1
 refine⟨q.jS U::(X++((qs.eraseIdx i).map (VR.jS U)++Y)),?_,?_⟩
 ·exact((h1.append_right Y).append_left X).trans List.perm_middle
 ·exact(((List.Sublist.map _ (List.eraseIdx_sublist qs i)).append (ay Y)).append_left X|>fun h=>h).cons_cons _
theorem vo {U:TypeId} {qs:List VR} {i:Nat} (h:i<qs.length) {X Y:List Item}:qs[i].jS U∈X++(f_ U qs++Y):=bl _ (a_ _ (List.mem_map.2 ⟨qs[i],ap h,F⟩))
def oe (x:Nat):Nat:=((x>>>1)&&&6148914691236517205)+(x&&&6148914691236517205)
def jV (x:Nat):Nat:=((x>>>2)&&&3689348814741910323)+(x&&&3689348814741910323)
def v7 (x:Nat):Nat:=((x>>>4)+x)&&&1085102592571150095
def q4 (k x:Nat):Nat:=x+(x>>>k)
theorem ox (x k:Nat):x>>>k≤x:=by rw[Nat.shiftRight_eq_div_pow];exact Nat.div_le_self _ _
theorem Xn (x:Nat):oe x≤2*x:=by
 have h1:(x>>>1)&&&6148914691236517205≤x:=cT Nat.and_le_left (ox x 1)
 have h2:x&&&6148914691236517205≤x:=Nat.and_le_left
 unfold oe;omega
theorem Xo (x:Nat):jV x≤2*x:=by
 have h1:(x>>>2)&&&3689348814741910323≤x:=cT Nat.and_le_left (ox x 2)
 have h2:x&&&3689348814741910323≤x:=Nat.and_le_left
 unfold jV;omega
theorem Xp (x:Nat):v7 x≤2*x:=by
 have h2:v7 x≤(x>>>4)+x:=Nat.and_le_left
 have:=ox x 4;omega
theorem HE (k x:Nat):q4 k x≤2*x:=by
 have:=ox x k
 unfold q4;omega
def wG (x:Nat):Nat:=q4 32 (q4 16 (q4 8 (v7 (jV (oe x)))))&&&127
theorem Pc: ∀x,x<1024→(wG x=0↔x=0):=by decide+kernel
theorem R3 (x:Nat):wG x≤127:=Nat.and_le_right
def EV (m:Nat):Nat:=if m=0 then 0 else wG m
theorem rM {m:Nat} (h:m<1024):EV m=0↔m=0:=by
 unfold EV;split
 ·simp_all
 ·rw[Pc m h]
section
variable {P:Program} {base:World} {ρ:Env} {O:List Item} {dst:Option Nat} {t:TypeId} {p:String} {af:Array Edge} {g:Option (Nat×Bool)}
theorem Xq {x y:Operand} {T U:TypeId} {a b:Nat} (hx:ev ρ x=.int .i64 (a:Int)) (hy:ev ρ y=.int .i64 (b:Int)) (ha:a<9223372036854775808) (hb:b<9223372036854775808):QT P base ⟨dst,.binOp .and T x y U,t,p,af,g⟩ ρ O (.int .i64 ((a&&&b:Nat):Int)):=fun w _=>by
 have GN:a<2^IntKind.i64.bits:=by show a<18446744073709551616;omega
 have qd:b<2^IntKind.i64.bits:=by show b<18446744073709551616;omega
 have hl:a&&&b≤a:=Nat.and_le_left
 have:=gN (n:=((a&&&b:Nat):Int)) ⟨by omega,by omega⟩
 simp[execOp,hx,hy,eqGuard,binOp,Op.intBits,Nat.mod_eq_of_lt GN,Nat.mod_eq_of_lt qd,this]
end
def lr (l:List Nat):Nat:=l.foldl (fun m q=>m|||2^q) 0
theorem Lg (l:List Nat) (q:Nat):lr (l++[q])=lr l|||2^q:=by unfold lr;rw[ep];rfl
theorem Ba {l:List Nat} {i:Nat} (h:i<l.length):lr (l.take (i+1))=lr (l.take i)|||2^l[i]:=by
 rw[an h,Lg]
theorem R4 {n:Nat}: ∀ {l:List Nat},(∀q∈l,q<n)→lr l<2^n:=by
 have h: ∀(l:List Nat) (m:Nat),(∀q∈l,q<n)→m<2^n→l.foldl (fun m q=>m|||2^q) m<2^n:=by
  intro l
  induction l with
  |nil=>intro m _ hm;exact hm
  |cons a l ih=>
   intro m hl hm
   exact ih _ (fun q hq=>hl q (by simp[hq])) (Nat.or_lt_two_pow hm (Nat.pow_lt_pow_right (by decide) (hl a (by simp))))
 exact fun {l} hl=>h l 0 hl (Nat.pow_pos (by decide))
theorem FG {l:List Nat} {t:Nat}:(lr l).testBit t=true↔t∈l:=by
 have h: ∀(l:List Nat) (m:Nat),(l.foldl (fun m q=>m|||2^q) m).testBit t=true↔m.testBit t=true∨t∈l:=by
  intro l
  induction l with
  |nil=>intro m;simp
  |cons a l ih=>
   intro m
   rw[gh,ih,Nat.testBit_or,Nat.testBit_two_pow,Bool.or_eq_true,bo,dU]
   constructor
   ·rintro((h|h)|h)
    ·exact .inl h
    ·exact .inr (.inl h.symm)
    ·exact .inr (.inr h)
   ·rintro(h|h|h)
    ·exact .inl (.inl h)
    ·exact .inl (.inr h.symm)
    ·exact .inr h
 rw[lr,h];simp
def lu (es:List Ed) (x m:Nat):List Nat:=(es.filter fun e=>decide (mw e x∧m.testBit e.fr.toNat=true)).map fun e=>e.to.toNat
theorem R8 {es:List Ed} {x m i:Nat} (h:i<es.length) (hc:mw es[i] x∧m.testBit es[i].fr.toNat=true):lu (es.take (i+1)) x m=lu (es.take i) x m++[es[i].to.toNat]:=by
 unfold lu;rw[an h,List.filter_append,aL];simp[hc]
theorem HG {es:List Ed} {x m i:Nat} (h:i<es.length) (hc: ¬(mw es[i] x∧m.testBit es[i].fr.toNat=true)):lu (es.take (i+1)) x m=lu (es.take i) x m:=by
 unfold lu;rw[an h,List.filter_append,aL];simp[hc]
theorem R7 (es:List Ed) (x m i:Nat):(lu (es.take i) x m).length≤es.length:=by
 unfold lu;rw[ag];exact cT (List.length_filter_le _ _) (by rw[bC];omega)
theorem I5 {es:List Ed} {x m q:Nat}:q∈lu es x m↔ ∃e∈es,mw e x∧m.testBit e.fr.toNat=true∧e.to.toNat=q:=by
 unfold lu
 simp only[e_,List.mem_filter,bo,and_assoc]
theorem R9 (es:List Ed) (x m:Nat):lr (lu es x m)=qq es x m:=by
 refine Nat.eq_of_testBit_eq fun q=>?_
 rw[fQ,FG,I5,uy]
abbrev fB:Int→Value:=fun a:Int=>Value.int .i64 a
theorem zw {α β:Type} [DecidableEq α] {a:α} {v:β}: ∀ {l:List (α×β)},eN a l=some v→(a,v)∈l
 |q::l,h=>by
  unfold eN at h
  by_cases e:a=q.1
  ·rw[aA e]at h;obtain rfl:=cg h;rw[e];exact List.mem_cons_self
  ·rw[ar e]at h;exact List.mem_cons_of_mem _ (zw h)
theorem zx {α β:Type} [DecidableEq α] {a:α}: ∀ {l:List (α×β)},eN a l=none→a∉l.map Prod.fst
 | [],_=>by simp
 |q::l,h=>by
  unfold eN at h
  by_cases e:a=q.1
  ·rw[aA e]at h;cases h
  ·rw[ar e]at h
   rw[bL,dU]
   exact fun g=>g.elim e (zx h)
def PC (d:fx) (w:List Nat) (s J:Nat):List (Int×Int):=(List.range J).map fun j=>(((gZ d w s j:Nat):Int),((j:Nat):Int))
theorem PD (d:fx) (w:List Nat) (s J:Nat):PC d w s (J+1)=PC d w s J++[(((gZ d w s J:Nat):Int),((J:Nat):Int))]:=by
 unfold PC;rw[List.range_succ,aL];rfl
theorem Tz {d:fx} {w:List Nat} {s J x:Nat} {v:Int} (h:eN ((x:Nat):Int) (PC d w s J)=some v): ∃j:Nat,j<J∧v=(j:Int)∧gZ d w s j=x:=by
 obtain⟨j,hj,e⟩:=List.mem_map.1 (zw h)
 simp only[Prod.mk.injEq]at e
 exact⟨j,List.mem_range.1 hj,e.2.symm,by omega⟩
theorem PF {d:fx} {w:List Nat} {s J x:Nat} (h:eN ((x:Nat):Int) (PC d w s J)=none): ∀j,j<J→gZ d w s j≠x:=fun j hj e=>zx h (by
 rw[←e];exact List.mem_map.2 ⟨_,List.mem_map.2 ⟨j,List.mem_range.2 hj,F⟩,F⟩)
theorem LD {d:fx} {w:List Nat} {s J:Nat} (h: ∀j,j<J→gZ d w s j≠gZ d w s J):((gZ d w s J:Nat):Int)∉(PC d w s J).map Prod.fst:=fun hm=>by
 obtain⟨q,hq,e⟩:=List.mem_map.1 hm
 obtain⟨j,hj,rfl⟩:=List.mem_map.1 hq
 exact h j (List.mem_range.1 hj) (by simp only at e;omega)
def Dc (d:fx) (w:List Nat) (s J:Nat):Prop:= ∀i j,i<j→j<J→gZ d w s i≠gZ d w s j
theorem Dc.zero (d:fx) (w:List Nat) (s:Nat):Dc d w s 0:=fun i j _ h=>by omega
theorem Dc.succ {d:fx} {w:List Nat} {s J:Nat} (h:Dc d w s J) (hn: ∀j,j<J→gZ d w s j≠gZ d w s J):Dc d w s (J+1):=fun i j wK hj=>by
 by_cases e:j=J
 ·subst e;exact hn i wK
 ·exact h i j wK (by omega)
theorem Dd {d:fx} (hv:Val d) {w:List Nat} (hw:Wd d w) {s:Nat} (hs:s<d.next.length): ∀j,gZ d w s j<d.next.length
 |0=>hs
 |j+1=>lU hv (Dd hv hw hs j) w hw
theorem Dc.le {d:fx} (hv:Val d) {w:List Nat} (hw:Wd d w) {s J:Nat} (hs:s<d.next.length) (h:Dc d w s J):J≤d.next.length:=by
 have h1:((List.range J).map (gZ d w s)).Nodup:=by
  refine List.pairwise_map.2 ?_
  exact(List.pairwise_lt_range (n:=J)).imp_of_mem (fun {i j} _ hj wK=>h i j wK (List.mem_range.1 hj))
 have:=gJ h1 (n:=d.next.length) (fun x hx=>by
  obtain⟨j,_,rfl⟩:=List.mem_map.1 hx
  exact Dd hv hw hs j)
 rwa[ag,gR]at this
def p7 (p:dG) (w:List Nat) (s J:Nat):List Int:=(List.range J).map fun j=>((lv p (gZ p.d w s j) w:Nat):Int)
theorem LF (p:dG) (w:List Nat) (s J:Nat):p7 p w s (J+1)=p7 p w s J++[((lv p (gZ p.d w s J) w:Nat):Int)]:=by
 unfold p7;rw[List.range_succ,aL];rfl
theorem uN (p:dG) (w:List Nat) (s J:Nat):(p7 p w s J).length=J:=by unfold p7;simp
theorem LG {p:dG} {w:List Nat} {s J j:Nat} (hj:j≤J):(p7 p w s J).drop j=p7 p w (gZ p.d w s j) (J-j):=by
 unfold p7
 apply List.ext_getElem (by simp)
 intro k h1 h2
 simp only[List.getElem_drop,eV,jw]
 rw[uH]
theorem TA {p:dG} {w:List Nat} {s n:Nat} {m:Int} (hm:m∈p7 p w s n) (ha: ∀x∈p7 p w s n,x≤m):m=((lv p s (p5 w n):Nat):Int):=by
 rw[zg]
 unfold p7 at hm ha
 obtain⟨k,hk,rfl⟩:=List.mem_map.1 hm
 have h1:lv p (gZ p.d w s k) w≤((List.range n).map fun k=>lv p (gZ p.d w s k) w).foldl max 0:=k_ (List.mem_map.2 ⟨k,hk,F⟩)
 have h2:((List.range n).map fun k=>lv p (gZ p.d w s k) w).foldl max 0≤lv p (gZ p.d w s k) w:=uG (fun x hx=>by
  obtain⟨i,hi,rfl⟩:=List.mem_map.1 hx
  have:=ha _ (List.mem_map.2 ⟨i,hi,F⟩);omega)
 omega
theorem TB {p:dG} {l:La} (h0:0<l.loop.length) {j J:Nat} (hj:j<J) (he:gZ p.d l.loop (runN p.d p.d.start.toNat l.pre) j=gZ p.d l.loop (runN p.d p.d.start.toNat l.pre) J) {m:Int}
  (hm:m∈(p7 p l.loop (runN p.d p.d.start.toNat l.pre) J).drop j) (ha: ∀x∈(p7 p l.loop (runN p.d p.d.start.toNat l.pre) J).drop j,x≤m):m=((mW p l.at:Nat):Int):=by
 rw[LG (by omega)]at hm ha
 rw[TA hm ha,k7 (rQ h0 F (j:=j) (m:=J-j) (by omega) (by rw[show j+(J-j)=J by omega];exact he.symm))]
def qt (p:dG) (l:La):Nat:=if b7 p≠0 then b7 p else dA p.vars l
noncomputable def wP (p:dG) (l:La):Nat:=if qt p l=0 then mW p l.at else 0
theorem y6 {p:dG} {l:La}:qt p l=0↔cU p∧dA p.vars l=0:=by
 unfold qt
 by_cases h:b7 p=0
 ·rw[ar (by simp[h])];exact⟨fun g=>⟨de.1 h,g⟩,fun g=>g.2⟩
 ·rw[aA h];exact⟨fun g=>absurd g h,fun g=>absurd (de.2 g.1) h⟩
structure LaV (d:fx) (l:La):Prop where
 l0:0<l.loop.length
 p64:l.pre.length≤64
 l64:l.loop.length≤64
 pw:Wd d l.pre
 lw:Wd d l.loop
theorem y5 {p:dG} {l:La} (hp:cU p) (h:dA p.vars l=0):LaV p.d l:=by
 have h0:0≤p.vars:=hp.val.v0
 have h6:p.vars≤6:=hp.val.v6
 unfold dA pq at h
 rw[ar (by omega)]at h
 split at h;·cases h
 split at h;·cases h
 split at h
 ·rename_i h1 h2 h3
  have hw: ∀x,decide (x<2^p.vars.toNat)=true→x<dF p.d:=fun x hx=>of_decide_eq_true hx
  exact⟨by omega,by omega,by omega,fun x hx=>hw x (List.all_eq_true.1 h3.1 x hx),fun x hx=>hw x (List.all_eq_true.1 h3.2 x hx)⟩
 ·cases h
theorem zy {w:World} {b:Option Addr} {xs:List Int} (h:Sl w b (ints xs)) {c:Nat} (lo:Nat) (hc:xs.length≤c):Sl w (pM b c lo 1) (ints (xs.drop lo)):=by
 have h1:=h.sub c lo 1 xs.length (fun e=>by subst e;rw[Nat.mul_one,List.drop_eq_nil_of_le (by rw[ag];exact hc),List.take_nil])
 rw[Nat.mul_one,←List.map_drop,aN (by rw[ag,List.length_drop];omega)]at h1
 exact h1
theorem TC {p:dG} {s:Nat} {w:List Nat} {i:Nat} (hi:i<w.length):lv p s (w.take (i+1))=max (lv p s (w.take i)) (fC p (runN p.d s (w.take (i+1)))):=by
 rw[an hi];exact Ln p s _ _
theorem De {d:fx} {s:Nat} {w:List Nat} {i:Nat} (hi:i<w.length):runN d s (w.take (i+1))=di d (runN d s (w.take i)) w[i]:=by
 rw[an hi];unfold runN;rw[ep];rfl
theorem cU.to {p:dG} (h:cU p) {s x:Nat} (hs:s<p.next.length) (hx:x<dF p.d):di p.d s x<p.next.length∧ ∃hk:x<p.next[s].length,(ints p.next[s])[x]? =some (.int .i64 ((di p.d s x:Nat):Int))∧p.next[s][x]=((di p.d s x:Nat):Int):=by
 obtain⟨h1,_,h3,h4⟩:=h.val.fG (show s<p.d.next.length from hs) hx
 have e:=eu (xs:=p.d.next[s]) h3
 rw[h4]at e
 exact⟨h1,h3,e,h4⟩
theorem Wd.take {d:fx} {w:List Nat} (h:Wd d w) (i:Nat):Wd d (w.take i):=fun x hx=>h x (List.mem_of_mem_take hx)
theorem zz {P:Program} {r:Option Nat} {base:World} {n:Nat} {c:Code} {Q:iT} {ρ:Env} {O:List Item} (II I:TypeId) (h:T P r base n c Q ρ (pI II I JC UM::O)):T P r base n c Q ρ O:=
 T.dH I 1 (T.dH II 1 (qW (φ:=nums UM.qs=JC.next) (L:=[ak none 0 II 1 [],ak none 0 I 1 []]++[]) (M:=O) F h))
theorem TD {p:dG} (h:b7 p≠0):wJ p=b7 p∧xf p=JC:=by
 have e:wJ p=b7 p:=aA h
 exact⟨e,ar (by rw[e];exact h)⟩
theorem PG {p:dG} (h:b7 p=0) (hm:(16:Int)∈p.dX):wJ p=4∧xf p=JC:=by
 have e:wJ p=4:=by unfold wJ;rw[ar (by simp[h]),aA hm]
 exact⟨e,ar (by rw[e];decide)⟩
theorem YG {p:dG} (h:b7 p=0) (hm:(16:Int)∉p.dX):wJ p=0∧xf p=lD p (fun s=>((fC p s+1:Nat):Int)):=by
 have e:wJ p=0:=by unfold wJ;rw[ar (by simp[h]),ar hm]
 exact⟨e,aA e⟩
theorem vF {α β:Type} [DecidableEq α] {a:α} {v:β} (s:α): ∀(l:List (α×β)),eN s (gH a v l)=if s=a then some v else eN s l
 | []=>by unfold gH eN;rfl
 |q::l=>by
  have ih:=vF (a:=a) (v:=v) s l
  unfold gH
  by_cases e:a=q.1
  ·rw[aA e];unfold eN
   by_cases e2:s=a
   ·rw[aA e2,aA (e2.trans e)]
   ·rw[ar e2,ar (fun h=>e2 (h.trans e.symm)),ar (fun h=>e2 (h.trans e.symm))]
  ·rw[ar e];unfold eN
   by_cases e2:s=q.1
   ·rw[aA e2,aA e2,ar (fun h=>e (h.symm.trans e2))]
   ·rw[ar e2,ar e2];exact ih
theorem eY {P:Program} {base:World} {fv:Value} {args:List Value} {A:List Item} {x:Value} (B:List Item) (h:dS P base fv args A (fun v O'=>v=x∧O'=A)):dS P base fv args (B++A) (fun v O'=>v=x∧O'=B++A):=
 (dS.atR B h).mono fun v O9 ⟨A9,e1,e2,e3⟩=>⟨e2,by rw[e1,e3]⟩
def lX (E:Nat→Nat→Prop) (S:Nat→Prop) (u v:Nat):Prop:=E u v∧S u∧S v
def zh (E:Nat→Nat→Prop) (S:Nat→Prop) (v:Nat):Prop:= ∃u,lX E S v u∧gL (lX E S) u v
def mO (E:Nat→Nat→Prop) (S:Nat→Prop) (v u:Nat):Prop:=S u∧gL (lX E S) v u∧gL (lX E S) u v
def FW (E:Nat→Nat→Prop) (P:Nat→Prop):Prop:=(∃a,P a)∧ ∀a b,P a→P b→ ∃c,lX E P a c∧gL (lX E P) c b
def lE (f:Nat→Nat) (P:Nat→Prop) (m:Nat):Prop:=(∃u,P u∧f u=m)∧ ∀u,P u→f u≤m
def uI (f:Nat→Nat) (P:Nat→Prop) (k:Nat):Prop:=(∀u,P u→f u≤k)∧(k=0∨ ∃u,P u∧f u=k)
inductive km (E:Nat→Nat→Prop) (pr:Nat→Nat) (r:Nat→Nat):(Nat→Prop)→Prop
 |mk {S:Nat→Prop} (h0: ∀v,S v→ ¬zh E S v→r v=0)
   (h1: ∀v,S v→zh E S v→ ∀m,lE pr (mO E S v) m→km E pr r (fun u=>mO E S v u∧pr u<m))
   (h2: ∀v,S v→zh E S v→ ∀m k,lE pr (mO E S v) m→pr v=m→uI r (fun u=>mO E S v u∧pr u<m) k→r v=k+(k+m)%2):km E pr r S
section
variable {E:Nat→Nat→Prop} {pr r:Nat→Nat} {S:Nat→Prop}
theorem lE.unique {f:Nat→Nat} {P:Nat→Prop} {m k:Nat} (h:lE f P m) (g:lE f P k):m=k:=by
 obtain⟨⟨u,hu,rfl⟩,h2⟩:=h
 obtain⟨⟨v,hv,rfl⟩,g2⟩:=g
 exact Nat.le_antisymm (g2 u hu) (h2 v hv)
theorem uI.unique {f:Nat→Nat} {P:Nat→Prop} {m k:Nat} (h:uI f P m) (g:uI f P k):m=k:=by
 obtain⟨h1,h2⟩:=h
 obtain⟨g1,g2⟩:=g
 have a:m≤k:=by rcases h2 with rfl|⟨u,hu,rfl⟩;exact aG _;exact g1 u hu
 have b:k≤m:=by rcases g2 with rfl|⟨u,hu,rfl⟩;exact aG _;exact h1 u hu
 omega
theorem rR (f:Nat→Nat) {P:Nat→Prop}: ∀n,(∀u,P u→u<n)→ ∃k,uI f P k
 |0,h=>⟨0,fun u hu=>absurd (h u hu) (Nat.not_lt_zero _),.inl F⟩
 |n+1,h=>by
  obtain⟨k,h1,h2⟩:=rR f (P:=fun u=>P u∧u<n) n (fun u hu=>hu.2)
  by_cases hn:P n
  ·by_cases hk:f n≤k
   ·refine⟨k,fun u hu=>?_,h2.imp id fun⟨u,hu,e⟩=>⟨u,hu.1,e⟩⟩
    by_cases e:u=n
    ·rw[e];exact hk
    ·exact h1 u ⟨hu,by have:=h u hu;omega⟩
   ·refine⟨f n,fun u hu=>?_,.inr ⟨n,hn,F⟩⟩
    by_cases e:u=n
    ·rw[e];exact aV _
    ·have:=h1 u ⟨hu,by have:=h u hu;omega⟩;omega
  ·refine⟨k,fun u hu=>?_,h2.imp id fun⟨u,hu,e⟩=>⟨u,hu.1,e⟩⟩
   by_cases e:u=n
   ·exact absurd (e▸hu) hn
   ·exact h1 u ⟨hu,by have:=h u hu;omega⟩
theorem uJ (f:Nat→Nat) {P:Nat→Prop} {n:Nat} (h: ∀u,P u→u<n) (mC: ∃u,P u): ∃m,lE f P m:=by
 obtain⟨k,h1,h2⟩:=rR f n h
 obtain⟨u,hu⟩:=mC
 rcases h2 with rfl|⟨v,hv,e⟩
 ·exact⟨0,⟨u,hu,Nat.le_zero.1 (h1 u hu)⟩,h1⟩
 ·exact⟨k,⟨v,hv,e⟩,h1⟩
theorem lX.mono {S T:Nat→Prop} (h: ∀u,S u→T u) {u v:Nat} (e:lX E S u v):lX E T u v:=⟨e.1,h _ e.2.1,h _ e.2.2⟩
theorem zi {S T:Nat→Prop} (h: ∀u,S u→T u) {u v:Nat} (e:gL (lX E S) u v):gL (lX E T) u v:=e.mono fun _ _=>lX.mono h
theorem mO.refl {v:Nat} (h:S v):mO E S v v:=⟨h,.refl _,.refl _⟩
theorem mO.symm {u v:Nat} (hv:S v) (h:mO E S v u):mO E S u v:=⟨hv,h.2.2,h.2.1⟩
theorem mO.trans {u v w:Nat} (h:mO E S u v) (g:mO E S v w):mO E S u w:=⟨g.1,h.2.1.trans g.2.1,g.2.2.trans h.2.2⟩
theorem mO.same {u v:Nat} (hv:S v) (h:mO E S v u):mO E S u=mO E S v:=funext fun w=>propext ⟨fun g=>h.trans g,fun g=>(h.symm hv).trans g⟩
theorem zh.H5 {u v:Nat} (hc:zh E S v) (h:mO E S v u):zh E S u:=by
 obtain⟨c,hc1,hc2⟩:=hc
 have: ∃d,lX E S u d∧gL (lX E S) d v:=by
  have hr:=h.2.2
  cases hr with
  |refl=>exact⟨c,hc1,hc2⟩
  |step e g=>exact⟨_,e,g⟩
 obtain⟨d,h1,h2⟩:=this
 exact⟨d,h1,h2.trans h.2.1⟩
theorem FW.cmp {P:Nat→Prop} (h:FW E P) (hp: ∀u,P u→S u) {a b:Nat} (ha:P a) (hb:P b):mO E S a b∧zh E S a:=by
 have key: ∀a b,P a→P b→ ∃c,lX E S a c∧gL (lX E S) c b:=fun a b ha hb=>by
  obtain⟨c,h1,h2⟩:=h.2 a b ha hb
  exact⟨c,lX.mono hp h1,zi hp h2⟩
 obtain⟨c,h1,h2⟩:=key a b ha hb
 obtain⟨d,h3,h4⟩:=key b a hb ha
 exact⟨⟨hp b hb,.step h1 h2,.step h3 h4⟩,c,h1,h2.trans (.step h3 h4)⟩
theorem mO.loop {v:Nat} (hv:S v) (hc:zh E S v):FW E (mO E S v):=by
 refine⟨⟨v,.refl hv⟩,fun a b ha hb=>?_⟩
 have hcy:=hc.H5 ha
 obtain⟨c,h1,h2⟩:=hcy
 have hac:mO E S a c:=⟨h1.2.2,.one h1,h2⟩
 have ZM:mO E S v c:=ha.trans hac
 have inner: ∀x y,gL (lX E S) x y→mO E S v x→mO E S v y→gL (lX E (mO E S v)) x y:=by
  intro x y hr
  induction hr with
  |refl=>intro _ _;exact .refl _
  | @step x z y e g ih=>
   intro hx hy
   have hz:mO E S v z:=⟨e.2.2,hx.2.1.tail e,g.trans hy.2.2⟩
   exact .step ⟨e.1,hx,hz⟩ (ih hz hy)
 exact⟨c,⟨h1.1,ha,ZM⟩,inner c b (h2.trans ((ha.symm hv).trans hb).2.1) ZM hb⟩
theorem km.ext {r':Nat→Nat} (h:km E pr r S) (he: ∀v,S v→r' v=r v):km E pr r' S:=by
 induction h with
 | @mk S h0 h1 h2 ih=>
  refine .mk (fun v hv hc=>by rw[he v hv,h0 v hv hc]) (fun v hv hc m hm=>ih v hv hc m hm fun u hu=>he u hu.1.1) (fun v hv hc m k hm hp hk=>?_)
  rw[he v hv]
  refine h2 v hv hc m k hm hp ⟨fun u hu=>?_,hk.2.imp id fun⟨u,hu,e⟩=>⟨u,hu,?_⟩⟩
  ·rw[←he u hu.1.1];exact hk.1 u hu
  ·rw[←he u hu.1.1];exact e
theorem km.unique {r':Nat→Nat} {n:Nat} (hn: ∀v,S v→v<n) (h:km E pr r S) (g:km E pr r' S): ∀v,S v→r v=r' v:=by
 induction h with
 | @mk S h0 h1 h2 ih=>
  cases g with
  |mk g0 g1 g2=>
   intro v hv
   by_cases hc:zh E S v
   ·obtain⟨m,hm⟩:=uJ pr (P:=mO E S v) (fun u hu=>hn u hu.1) ⟨v,.refl hv⟩
    have e:=ih v hv hc m hm (fun u hu=>hn u hu.1.1) (g1 v hv hc m hm)
    have mB:=hm.2 v (.refl hv)
    by_cases hp:pr v=m
    ·obtain⟨k,hk⟩:=rR r (P:=fun u=>mO E S v u∧pr u<m) n (fun u hu=>hn u hu.1.1)
     rw[h2 v hv hc m k hm hp hk]
     refine(g2 v hv hc m k hm hp ⟨fun u hu=>?_,hk.2.imp id fun⟨u,hu,e2⟩=>⟨u,hu,?_⟩⟩).symm
     ·rw[←e u hu];exact hk.1 u hu
     ·rw[←e u hu];exact e2
    ·exact e v ⟨.refl hv,by omega⟩
   ·rw[h0 v hv hc,g0 v hv hc]
theorem Pr {k m:Nat} (h:k<m∨k=0):k+(k+m)%2≤m:=by omega
theorem Tp (k m:Nat):(k+(k+m)%2)%2=m%2:=by omega
theorem km.le {n:Nat} (hn: ∀v,S v→v<n) (h:km E pr r S): ∀v,S v→r v≤pr v:=by
 induction h with
 | @mk S h0 h1 h2 ih=>
  intro v hv
  by_cases hc:zh E S v
  ·obtain⟨m,hm⟩:=uJ pr (P:=mO E S v) (fun u hu=>hn u hu.1) ⟨v,.refl hv⟩
   have e:=ih v hv hc m hm (fun u hu=>hn u hu.1.1)
   have mB:=hm.2 v (.refl hv)
   by_cases hp:pr v=m
   ·obtain⟨k,hk⟩:=rR r (P:=fun u=>mO E S v u∧pr u<m) n (fun u hu=>hn u hu.1.1)
    rw[h2 v hv hc m k hm hp hk,hp]
    refine Pr ?_
    rcases hk.2 with h|⟨u,hu,e2⟩
    ·exact .inr h
    ·have:=e u hu;have:=hu.2;exact .inl (by omega)
   ·exact e v ⟨.refl hv,by omega⟩
  ·rw[h0 v hv hc];exact aG _
theorem km.adE {n:Nat} (hn: ∀v,S v→v<n) (h:km E pr r S) {P:Nat→Prop} (hl:FW E P) (hp: ∀u,P u→S u) {m k:Nat} (hm:lE pr P m) (hk:lE r P k):k%2=m%2∧k≤m:=by
 have hr:=h
 induction h generalizing P with
 | @mk S h0 h1 h2 ih=>
  obtain⟨a,ha,ea⟩:=hm.1
  have kL: ∀b,P b→mO E S a b:=fun b hb=>(hl.cmp hp ha hb).1
  have ZM:=(hl.cmp hp ha ha).2
  obtain⟨M,hM⟩:=uJ pr (P:=mO E S a) (fun u hu=>hn u hu.1) ⟨a,.refl (hp a ha)⟩
  have haM:=hM.2 a (.refl (hp a ha))
  by_cases hmM:m=M
  ·subst hmM
   obtain⟨k0,yM⟩:=rR r (P:=fun u=>mO E S a u∧pr u<m) n (fun u hu=>hn u hu.1.1)
   have fM:k0<m∨k0=0:=by
    rcases yM.2 with h|⟨u,hu,e2⟩
    ·exact .inr h
    ·have:=hr.le hn u hu.1.1;have:=hu.2;exact .inl (by omega)
   have OS: ∀b,P b→pr b=m→r b=k0+(k0+m)%2:=fun b hb e=>by
    have hcb:=kL b hb
    have hs:=hcb.same (hp a ha)
    refine h2 b (hp b hb) (ZM.H5 hcb) m k0 (by rw[hs];exact hM) e ?_
    rw[hs];exact yM
   have yG:k=k0+(k0+m)%2:=by
    refine hk.unique ⟨⟨a,ha,OS a ha ea⟩,fun b hb=>?_⟩
    by_cases e:pr b=m
    ·rw[OS b hb e];exact aV _
    ·have:=yM.1 b ⟨kL b hb,by have:=hm.2 b hb;omega⟩;omega
   rw[yG]
   exact⟨Tp _ _,Pr fM⟩
  ·exact ih a (hp a ha) ZM M hM (fun v hv=>hn v hv.1.1) hl (fun u hu=>⟨kL u hu,by have:=hm.2 u hu;omega⟩) hm hk (h1 a (hp a ha) ZM M hM)
noncomputable def ww (n:Nat) (X:Nat→Prop):Nat:=((List.range n).filter fun u=> @decide (X u) (Classical.propDecidable _)).length
theorem zj {n:Nat} {X Y:Nat→Prop} (h: ∀u,Y u→X u) {a:Nat} (ha:a<n) (hx:X a) (hy: ¬Y a):ww n Y<ww n X:=by
 unfold ww
 have sub: ∀l:List Nat,(l.filter fun u=> @decide (Y u) (Classical.propDecidable _)).length≤(l.filter fun u=> @decide (X u) (Classical.propDecidable _)).length:=by
  intro l
  induction l with
  |nil=>exact aV _
  |cons b l ih=>
   by_cases hb:Y b
   ·have wZ:=h b hb
    simp only[List.filter_cons,hb,wZ,decide_true,if_true,cd];omega
   ·by_cases wZ:X b
    ·simp only[List.filter_cons,hb,wZ,decide_true,decide_false,if_true,cd,Bool.false_eq_true,if_false];omega
    ·simp only[List.filter_cons,hb,wZ,decide_false,Bool.false_eq_true,if_false];exact ih
 have key: ∀l:List Nat,a∈l→(l.filter fun u=> @decide (Y u) (Classical.propDecidable _)).length<(l.filter fun u=> @decide (X u) (Classical.propDecidable _)).length:=by
  intro l
  induction l with
  |nil=>intro h;cases h
  |cons b l ih=>
   intro hm
   by_cases e:b=a
   ·subst e
    have:=sub l
    simp only[List.filter_cons,hy,hx,decide_true,decide_false,if_true,cd,Bool.false_eq_true,if_false];omega
   ·have hl:a∈l:=by rcases List.mem_cons.1 hm with h|h;exact absurd h.symm e;exact h
    have:=ih hl
    by_cases hb:Y b
    ·have wZ:=h b hb
     simp only[List.filter_cons,hb,wZ,decide_true,if_true,cd];omega
    ·by_cases wZ:X b
     ·simp only[List.filter_cons,hb,wZ,decide_true,decide_false,if_true,cd,Bool.false_eq_true,if_false];omega
     ·simp only[List.filter_cons,hb,wZ,decide_false,Bool.false_eq_true,if_false];exact this
 exact key _ (List.mem_range.2 ha)
end
def FX (p:dG) (u v:Nat):Prop:=u<p.next.length∧ ∃x,x<dF p.d∧di p.d u x=v
def StS (p:dG) (v:Nat):Prop:=v<p.next.length
theorem FX.lt {p:dG} (h:cU p) {u v:Nat} (e:FX p u v):v<p.next.length:=by
 obtain⟨hu,x,hx,rfl⟩:=e
 exact(h.val.fG hu hx).1
theorem m_ (p:dG) (s:Nat) {w:List Nat} (h:w≠ []):lE (fC p) (fun u=>u∈iK p.d s w) (lv p s w):=by
 have mC:(iK p.d s w).map (fC p)≠ []:=fun e=>by
  have:=av List.length e
  rw[ag,rz,eD]at this
  exact h (List.length_eq_zero_iff.1 this)
 obtain⟨u,hu,e⟩:=List.mem_map.1 (lW mC)
 exact⟨⟨u,hu,e⟩,fun v hv=>k_ (List.mem_map_of_mem hv)⟩
theorem FY {p:dG} (h:cU p) {s:Nat} (hs:s<p.next.length) {w:List Nat} (h0:0<w.length) (hw:Wd p.d w) (hr:runN p.d s w=s):FW (FX p) (fun u=>u∈iK p.d s w):=by
 have wd: ∀r,Wd p.d (w.take r):=fun r x hx=>hw x (List.mem_of_mem_take hx)
 have lt: ∀r,runN p.d s (w.take r)<p.next.length:=fun r=>lU h.val hs _ (wd r)
 have mem: ∀r,r<w.length→runN p.d s (w.take (r+1))∈iK p.d s w:=fun r hr=>bE (nE p.d w s r hr)
 have Ab: ∀r,r<w.length→FX p (runN p.d s (w.take r)) (runN p.d s (w.take (r+1))):=fun r hr=>by
  refine⟨lt r,w[r],hw _ (ap hr),?_⟩
  rw[an hr,jK]
 have chain: ∀i j,i≤j→j<w.length→gL (lX (FX p) fun u=>u∈iK p.d s w) (runN p.d s (w.take (i+1))) (runN p.d s (w.take (j+1))):=by
  intro i j wK
  induction wK with
  |refl=>intro _;exact .refl _
  | @step j _ ih=>
   intro hj
   exact(ih (by omega)).tail ⟨Ab (j+1) hj,mem j (by omega),mem (j+1) hj⟩
 have ua:runN p.d s (w.take (w.length-1+1))=s:=by rw[show w.length-1+1=w.length by omega,aN (aV _),hr]
 have wrap:lX (FX p) (fun u=>u∈iK p.d s w) s (runN p.d s (w.take (0+1))):=by
  have e0:=Ab 0 h0
  have m1:=mem (w.length-1) (by omega)
  rw[ua]at m1
  rw[show runN p.d s (w.take 0)=s by simp[runN]]at e0
  exact⟨e0,m1,mem 0 h0⟩
 have ix: ∀u,u∈iK p.d s w→ ∃i,i<w.length∧u=runN p.d s (w.take (i+1)):=fun u hu=>by
  obtain⟨i,hi⟩:=List.mem_iff_getElem?.1 hu
  have hl:=(List.getElem?_eq_some_iff.1 hi).1
  rw[rz]at hl
  rw[nE p.d w s i hl]at hi
  exact⟨i,hl,(cg hi).symm⟩
 refine⟨⟨_,mem 0 h0⟩,fun a b ha hb=>?_⟩
 obtain⟨i,hi,rfl⟩:=ix a ha
 obtain⟨j,hj,rfl⟩:=ix b hb
 have back:gL (lX (FX p) fun u=>u∈iK p.d s w) s (runN p.d s (w.take (j+1))):=.step wrap (chain 0 j (aG _) hj)
 by_cases hl:i+1<w.length
 ·refine⟨_,⟨Ab (i+1) hl,mem i hi,mem (i+1) hl⟩,?_⟩
  have:=chain (i+1) (w.length-1) (by omega) (by omega)
  rw[ua]at this
  exact this.trans back
 ·have e:i=w.length-1:=by omega
  rw[e,ua]
  exact⟨_,wrap,chain 0 j (aG _) hj⟩
theorem zl {p:dG} (h:cU p): ∀(w:List Nat) (s:Nat),s<p.next.length→Wd p.d w→ ∀u∈iK p.d s w,u<p.next.length
 | [],_,_,_,u,hu=>by cases hu
 |x::w,s,hs,hw,u,hu=>by
  have h1:=(h.val.fG hs (hw x (by simp))).1
  rcases List.mem_cons.1 hu with rfl|hu
  ·exact h1
  ·exact zl h w _ h1 (fun y hy=>hw y (by simp[hy])) u hu
theorem Ps {n:Nat} {f:Nat→Nat} (h: ∀k,f k<n): ∃j m,0<m∧f (j+m)=f j∧j+m≤n:=by
 refine Classical.byContradiction fun kK=>?_
 have kO:((List.range (n+1)).map f).Nodup:=by
  refine List.pairwise_iff_getElem.2 fun i j hi hj wK e=>kK ?_
  simp only[ag,gR]at hi hj
  simp only[eV,jw]at e
  exact⟨i,j-i,by omega,by rw[show i+(j-i)=j by omega];exact e.symm,by omega⟩
 have:=gJ kO (n:=n) (fun x hx=>by
  obtain⟨k,_,rfl⟩:=List.mem_map.1 hx
  exact h k)
 rw[ag,gR]at this
 omega
theorem xr {d:fx} {w:List Nat} (h:Wd d w): ∀m,Wd d (p5 w m)
 |0,x,hx=>by cases hx
 |m+1,x,hx=>by
  rcases List.mem_append.1 hx with hx|hx
  ·exact xr h m x hx
  ·exact h x hx
theorem zm {d:fx} (hv:Val d) {w:List Nat} (hw:Wd d w) {s:Nat} (hs:s<d.next.length): ∀k,gZ d w s k<d.next.length
 |0=>hs
 |k+1=>lU hv (zm hv hw hs k) w hw
structure pa (p:dG) (l:La):Prop where
 pos:0<l.loop.length
 pre:Wd p.d l.pre
 loop:Wd p.d l.loop
theorem C4 {p:dG} (h:cU p) {l:La} (hl:pa p l): ∃s w,s<p.next.length∧0<w.length∧Wd p.d w∧runN p.d s w=s∧ ∀q:dG,q.d=p.d→kZ q l.at (lv q s w):=by
 have h0:runN p.d p.d.start.toNat l.pre<p.next.length:=lU h.val h.st l.pre hl.pre
 obtain⟨j,m,hm,he,_⟩:=Ps (fun k=>zm h.val hl.loop h0 k)
 refine⟨gZ p.d l.loop _ j,p5 l.loop m,zm h.val hl.loop h0 j,by rw[nG];exact Nat.mul_pos hm hl.pos,xr hl.loop m,by rw[rP,uH];exact he,fun q hq=>?_⟩
 have:=rQ (p:=q) hl.pos (s0:=runN q.d q.d.start.toNat l.pre) (j:=j) (m:=m) F hm (by rw[hq];exact he)
 rw[hq]at this;exact this
theorem Tq {p:dG} (h:cU p) {l:La} (hl:pa p l):kZ p l.at (mW p l.at):=by
 obtain⟨s,w,_,_,_,_,h5⟩:=C4 h hl
 have:=h5 p F
 rw[k7 this];exact this
structure nH (p:dG) (f:Nat→Nat):Prop where
 V3:km (FX p) (fC p) f (StS p)
def C5 (p:dG) (f:Nat→Nat):dG:=lD p fun s=>((f s:Nat):Int)
theorem Yz {p:dG} {f:Nat→Nat} {s:Nat} (hs:s<p.next.length):fC (C5 p f) s=f s:=by
 unfold C5;rw[FR hs];exact Int.toNat_natCast _
theorem Lp {p:dG} {f g:Nat→Nat} (h: ∀s,s<p.next.length→f s=g s):C5 p f=C5 p g:=by
 unfold C5 lD
 congr 1
 exact List.map_congr_left fun s hs=>by rw[h s (List.mem_range.1 hs)]
theorem nH.unique {p:dG} {f g:Nat→Nat} (h:nH p f) (k:nH p g):C5 p f=C5 p g:=Lp (h.V3.unique (n:=p.next.length) (fun v hv=>hv) k.V3)
theorem nH.valid {p:dG} {f:Nat→Nat} (hp:cU p) (h:nH p f):cU (C5 p f):=wv hp fun s hs=>by
 have:=h.V3.le (n:=p.next.length) (fun v hv=>hv) s hs
 have:=hp.wR s
 omega
theorem nH.run {p:dG} (hp:cU p) {f:Nat→Nat} (h:nH p f) {s:Int} (h0:0≤s) (h1:s<(p.next.length:Int)) {l:La} (hl:pa p l):
  mW {p with start:=s} l.at%2=mW {C5 p f with start:=s} l.at%2∧mW {C5 p f with start:=s} l.at≤mW {p with start:=s} l.at:=by
 have hv:cU {p with start:=s}:=⟨{hp.val with s0:=h0,s1:=h1},hp.n4,hp.pl,hp.pr⟩
 obtain⟨q,w,hq,AN,V4,Zt,hI⟩:=C4 hv (l:=l) ⟨hl.pos,hl.pre,hl.loop⟩
 rw[k7 (hI {p with start:=s} F),k7 (hI {C5 p f with start:=s} F)]
 have mC:w≠ []:=fun e=>by rw[e]at AN;exact absurd AN (by decide)
 have VZ:=FY hv hq AN V4 Zt
 have hE:FX {p with start:=s}=FX p:=rfl
 rw[hE]at VZ
 have m1:=m_ {p with start:=s} q mC
 have m2:=m_ {C5 p f with start:=s} q mC
 have fM:=zl hv w q hq V4
 have m3:lE f (fun u=>u∈iK ({p with start:=s}:dG).d q w) (lv {C5 p f with start:=s} q w):=by
  obtain⟨⟨u,hu,e⟩,hm⟩:=m2
  have K_: ∀u,u∈iK ({p with start:=s}:dG).d q w→fC {C5 p f with start:=s} u=f u:=fun u hu=>Yz (p:=p) (fM u hu)
  exact⟨⟨u,hu,by rw[←K_ u hu];exact e⟩,fun v hv=>by rw[←K_ v hv];exact hm v hv⟩
 have:=h.V3.adE (n:=p.next.length) (fun v hv=>hv) VZ (fun u hu=>fM u hu) m1 m3
 exact⟨this.1.symm,this.2⟩
def jY (A B:dG):Nat→Nat→Nat→Prop
 |0,s,t=>fC A s=fC B t
 |k+1,s,t=>jY A B k s t∧ ∀x,x<dF A.d→jY A B k (di A.d s x) (di B.d t x)
def qu (A B:dG) (s t:Nat):Prop:= ∀k,jY A B k s t
theorem jY.pred {A B:dG}: ∀ {k j s t:Nat},j≤k→jY A B k s t→jY A B j s t:=by
 intro k j s t h
 induction h with
 |refl=>exact id
 |step _ ih=>exact fun h=>ih h.1
theorem jY.symm {A B:dG} (hv:A.vars=B.vars): ∀ {k s t:Nat},jY A B k s t→jY B A k t s
 |0,_,_,h=>Eq.symm h
 |k+1,_,_,h=>⟨jY.symm hv h.1,fun x hx=>jY.symm hv (h.2 x (by unfold dF at hx⊢;show x<2^A.vars.toNat;rw[hv];exact hx))⟩
theorem jY.trans {A B C:dG} (hv:A.vars=B.vars): ∀ {k s t u:Nat},jY A B k s t→jY B C k t u→jY A C k s u
 |0,_,_,_,h,g=>Eq.trans h g
 |k+1,_,_,_,h,g=>⟨jY.trans hv h.1 g.1,fun x hx=>jY.trans hv (h.2 x hx) (g.2 x (by unfold dF at hx⊢;show x<2^B.vars.toNat;rw[←hv];exact hx))⟩
theorem jY.refl (A:dG): ∀k s,jY A A k s s
 |0,_=>rfl
 |k+1,s=>⟨jY.refl A k s,fun x _=>jY.refl A k _⟩
theorem qu.symm {A B:dG} (hv:A.vars=B.vars) {s t:Nat} (h:qu A B s t):qu B A t s:=fun k=>(h k).symm hv
theorem qu.trans {A B C:dG} (hv:A.vars=B.vars) {s t u:Nat} (h:qu A B s t) (g:qu B C t u):qu A C s u:=fun k=>(h k).trans hv (g k)
theorem qu.refl (A:dG) (s:Nat):qu A A s s:=fun k=>jY.refl A k s
theorem qu.step {A B:dG} {s t x:Nat} (h:qu A B s t) (hx:x<dF A.d):qu A B (di A.d s x) (di B.d t x):=fun k=>(h (k+1)).2 x hx
theorem qu.pr {A B:dG} {s t:Nat} (h:qu A B s t):fC A s=fC B t:=h 0
theorem Pt {A B:dG} {R:Nat→Nat→Prop} (hp: ∀s t,R s t→fC A s=fC B t) (hs: ∀s t x,R s t→x<dF A.d→R (di A.d s x) (di B.d t x)) {s t:Nat} (h:R s t):qu A B s t:=fun k=>by
 induction k generalizing s t with
 |zero=>exact hp s t h
 |succ k ih=>exact⟨ih h,fun x hx=>ih (hs s t x h hx)⟩
theorem Pu {A:dG} (hv:cU A) {k:Nat} (h: ∀s t,s<A.next.length→t<A.next.length→jY A A k s t→jY A A (k+1) s t) {s t:Nat} (hs:s<A.next.length) (ht:t<A.next.length) (h0:jY A A k s t):qu A A s t:=by
 have all: ∀j s t,s<A.next.length→t<A.next.length→jY A A k s t→jY A A (k+j) s t:=by
  intro j
  induction j with
  |zero=>exact fun s t _ _ h=>h
  |succ j ih=>
   intro s t hs ht h0
   have h1:=h s t hs ht h0
   exact⟨ih s t hs ht h0,fun x hx=>ih _ _ (hv.val.fG hs hx).1 (hv.val.fG ht hx).1 (h1.2 x hx)⟩
 exact fun j=>(all j s t hs ht h0).pred (by omega)
def r6 (e:Nat→Nat→Bool) (l:List Nat) (t:Nat):List Nat:=if l.any (fun k=>e k t)=true then l else l++[t]
def gv (e:Nat→Nat→Bool) (t:Nat):List Nat→Nat
 | []=>0
 |k::l=>if e k t=true then 0 else gv e t l+1
def qM (e:Nat→Nat→Bool) (d:fx) (l:List Nat) (s:Nat):Nat→List Nat
 |0=>l
 |x+1=>r6 e (qM e d l s x) (di d s x)
def qN (e:Nat→Nat→Bool) (d:fx):Nat→List Nat
 |0=>[d.start.toNat]
 |i+1=>if i<(qN e d i).length then qM e d (qN e d i) ((qN e d i).getD i 0) (dF d)else qN e d i
def lL (e:Nat→Nat→Bool) (d:fx) (l:List Nat) (s:Nat):List Int:=(List.range (dF d)).map fun x=>((gv e (di d s x) l:Nat):Int)
def C6 (e:Nat→Nat→Bool) (p:dG) (l:List Nat):dG:=⟨p.vars,0,l.map (lL e p.d l),l.map fun s=>((fC p s:Nat):Int)⟩
def nU (e:Nat→Nat→Bool) (p:dG):dG:=C6 e p (qN e p.d p.next.length)
def th (p:dG) (e:Nat→Nat→Bool):Prop:= ∀s t,s<p.next.length→t<p.next.length→(e s t=true↔qu p p s t)
noncomputable def adF (p:dG) (s t:Nat):Bool:= @decide (qu p p s t) (Classical.propDecidable _)
theorem ol (p:dG):th p (adF p):=fun s t _ _=> @decide_eq_true_iff _ (Classical.propDecidable _)
theorem Pv (e:Nat→Nat→Bool) (l:List Nat) (t:Nat):l<+:r6 e l t:=by unfold r6;split;exact List.prefix_rfl;exact List.prefix_append _ _
theorem C7 (e:Nat→Nat→Bool) (d:fx) (l:List Nat) (s:Nat) {x y:Nat} (h:x≤y):qM e d l s x<+:qM e d l s y:=by
 induction h with
 |refl=>exact List.prefix_rfl
 |step _ ih=>exact ih.trans (Pv _ _ _)
theorem xt {e:Nat→Nat→Bool} {d:fx} {i s:Nat} (h:(qN e d i)[i]? =some s):qN e d (i+1)=qM e d (qN e d i) s (dF d):=by
 have hi:=(List.getElem?_eq_some_iff.1 h).1
 rw[qN,aA hi,aj,h];rfl
theorem zo (e:Nat→Nat→Bool) (d:fx) {i j:Nat} (h:i≤j):qN e d i<+:qN e d j:=by
 induction h with
 |refl=>exact List.prefix_rfl
 | @step j _ ih=>
  refine ih.trans ?_
  rw[qN];split
  ·exact C7 e d _ _ (aG _)
  ·exact List.prefix_rfl
theorem C8 {e:Nat→Nat→Bool} {d:fx} {i:Nat} (h:(qN e d i).length≤i): ∀j,i≤j→qN e d j=qN e d i:=by
 intro j hj
 induction hj with
 |refl=>rfl
 | @step j wK ih=>
  rw[qN,ar (by rw[ih];have:i≤j:=wK;omega),ih]
theorem FZ {e:Nat→Nat→Bool} {t:Nat}: ∀ {l:List Nat},l.any (fun k=>e k t)=true→gv e t l<l.length
 | [],h=>by simp at h
 |k::l,h=>by
  rw[gv]
  by_cases hk:e k t=true
  ·rw[aA hk];simp
  ·rw[ar hk]
   have:l.any (fun k=>e k t)=true:=by simpa[hk]using h
   have:=FZ this
   simp only[cd];omega
theorem Bs {e:Nat→Nat→Bool} {t:Nat}: ∀ {l:List Nat},l.any (fun k=>e k t)=true→ ∃k,l[gv e t l]? =some k∧e k t=true
 | [],h=>by simp at h
 |k::l,h=>by
  rw[gv]
  by_cases hk:e k t=true
  ·rw[aA hk];exact⟨k,F,hk⟩
  ·rw[ar hk]
   obtain⟨q,h1,h2⟩:=Bs (l:=l) (by simpa[hk]using h)
   exact⟨q,by simpa using h1,h2⟩
theorem Bt {e:Nat→Nat→Bool} {t:Nat} {l m:List Nat} (h:l<+:m) (ha:l.any (fun k=>e k t)=true):gv e t m=gv e t l:=by
 obtain⟨r,rfl⟩:=h
 induction l with
 |nil=>simp at ha
 |cons k l ih=>
  rw[cj,gv,gv]
  by_cases hk:e k t=true
  ·rw[aA hk,aA hk]
  ·rw[ar hk,ar hk,ih (by simpa[hk]using ha)]
theorem Pw {e:Nat→Nat→Bool} (l:List Nat) {t:Nat} (he:e t t=true):(r6 e l t).any (fun k=>e k t)=true:=by
 unfold r6;split
 ·assumption
 ·simp[he]
theorem JF {e:Nat→Nat→Bool} {t:Nat} {l m:List Nat} (h:l<+:m) (ha:l.any (fun k=>e k t)=true):m.any (fun k=>e k t)=true:=by
 obtain⟨r,rfl⟩:=h
 rw[List.any_append,ha];rfl
section
variable {p:dG} (hp:cU p)
include hp
theorem Bv (e:Nat→Nat→Bool) {l:List Nat} (hl: ∀q∈l,q<p.next.length) {s:Nat} (hs:s<p.next.length): ∀x,x≤dF p.d→ ∀q∈qM e p.d l s x,q<p.next.length
 |0,_,q,hq=>hl q hq
 |x+1,hx,q,hq=>by
  rw[qM,r6]at hq
  split at hq
  ·exact Bv e hl hs x (by omega) q hq
  ·rcases List.mem_append.1 hq with h|h
   ·exact Bv e hl hs x (by omega) q h
   ·rw[List.mem_singleton.1 h];exact(hp.val.fG hs (by exact hx)).1
theorem lf (e:Nat→Nat→Bool): ∀i,∀q∈qN e p.d i,q<p.next.length
 |0,q,hq=>by rw[List.mem_singleton.1 hq];exact hp.st
 |i+1,q,hq=>by
  by_cases h:i<(qN e p.d i).length
  ·have hg:=ah h
   rw[xt hg]at hq
   exact Bv hp e (lf e i) (lf e i _ (ap h)) _ (aV _) q hq
  ·rw[qN,ar h]at hq;exact lf e i q hq
theorem zp {e f:Nat→Nat→Bool} (h: ∀s t,s<p.next.length→t<p.next.length→e s t=f s t) {l:List Nat} (hl: ∀q∈l,q<p.next.length) {t:Nat} (ht:t<p.next.length):r6 e l t=r6 f l t∧gv e t l=gv f t l:=by
 constructor
 ·unfold r6
  have:l.any (fun k=>e k t)=l.any (fun k=>f k t):=by
   rw[fQ,fH,fH]
   exact⟨fun⟨k,h1,h2⟩=>⟨k,h1,by rw[←h k t (hl k h1) ht];exact h2⟩,fun⟨k,h1,h2⟩=>⟨k,h1,by rw[h k t (hl k h1) ht];exact h2⟩⟩
  rw[this]
 ·induction l with
  |nil=>rfl
  |cons k l ih=>rw[gv,gv,h k t (hl k (by simp)) ht,ih fun q hq=>hl q (by simp[hq])]
theorem F0 {e f:Nat→Nat→Bool} (h: ∀s t,s<p.next.length→t<p.next.length→e s t=f s t) {l:List Nat} (hl: ∀q∈l,q<p.next.length) {s:Nat} (hs:s<p.next.length): ∀x,x≤dF p.d→qM e p.d l s x=qM f p.d l s x
 |0,_=>rfl
 |x+1,hx=>by
  have ih:=F0 h hl hs x (by omega)
  rw[qM,qM,←ih]
  exact(zp hp h (Bv hp e hl hs x (by omega)) (hp.val.fG hs hx).1).1
theorem F1 {e f:Nat→Nat→Bool} (h: ∀s t,s<p.next.length→t<p.next.length→e s t=f s t): ∀i,qN e p.d i=qN f p.d i
 |0=>rfl
 |i+1=>by
  have ih:=F1 h i
  rw[qN,qN,←ih]
  split
  ·rename_i hi
   refine F0 hp h (lf hp e i) ?_ _ (aV _)
   rw[aj,ah hi]
   exact lf hp e i _ (ap hi)
  ·rfl
theorem H6 {e f:Nat→Nat→Bool} (h: ∀s t,s<p.next.length→t<p.next.length→e s t=f s t) {l:List Nat} (hl: ∀q∈l,q<p.next.length):C6 e p l=C6 f p l:=by
 unfold C6
 congr 1
 refine List.map_congr_left fun s hs=>?_
 unfold lL
 refine List.map_congr_left fun x hx=>?_
 rw[(zp hp h hl (hp.val.fG (hl s hs) (List.mem_range.1 hx)).1).2]
theorem H7 {e f:Nat→Nat→Bool} (he:th p e) (hf:th p f):nU e p=nU f p:=by
 have h: ∀s t,s<p.next.length→t<p.next.length→e s t=f s t:=fun s t hs ht=>by rw[fQ,he s t hs ht,hf s t hs ht]
 unfold nU
 rw[←F1 hp h]
 exact H6 hp h (lf hp e _)
def Bw (e:Nat→Nat→Bool) (l:List Nat):Prop:=l.Pairwise fun a b=>e a b=false
omit hp in
theorem H8 {e:Nat→Nat→Bool} {l:List Nat} (h:Bw e l) (t:Nat):Bw e (r6 e l t):=by
 unfold r6
 split
 ·exact h
 ·rename_i hn
  refine List.pairwise_append.2 ⟨h,by simp,fun a ha b hb=>?_⟩
  rw[List.mem_singleton.1 hb]
  cases hc:e a t with
  |false=>rfl
  |true=>exact absurd (List.any_eq_true.2 ⟨a,ha,hc⟩) hn
omit hp in
theorem F2 {e:Nat→Nat→Bool} {d:fx} {l:List Nat} (h:Bw e l) (s:Nat): ∀x,Bw e (qM e d l s x)
 |0=>h
 |x+1=>H8 (F2 h s x) _
omit hp in
theorem zq (e:Nat→Nat→Bool) (d:fx): ∀i,Bw e (qN e d i)
 |0=>List.pairwise_singleton _ _
 |i+1=>by rw[qN];split;exact F2 (zq e d i) _ _;exact zq e d i
theorem Lq {e:Nat→Nat→Bool} (he:th p e) {l:List Nat} (h:Bw e l) (hl: ∀q∈l,q<p.next.length):l.length≤p.next.length:=by
 refine gJ ?_ hl
 refine h.imp_of_mem fun {a b} ha hb mH e2=>?_
 subst e2
 rw[(he a a (hl a ha) (hl a ha)).2 (qu.refl p a)]at mH;cases mH
theorem rB {e:Nat→Nat→Bool} (he:th p e) (i:Nat):(qN e p.d i).length≤p.next.length:=Lq hp he (zq e p.d i) (lf hp e i)
theorem Bx {e:Nat→Nat→Bool} (he:th p e) {s x:Nat} (hs:s∈qN e p.d p.next.length) (hx:x<dF p.d):(qN e p.d p.next.length).any (fun k=>e k (di p.d s x))=true:=by
 obtain⟨i,hi⟩:=List.mem_iff_getElem?.1 hs
 have gf:=(List.getElem?_eq_some_iff.1 hi).1
 have jn:=rB hp he p.next.length
 have tG:i<p.next.length:=by omega
 have Xd: ∀j,j≤p.next.length→j<(qN e p.d j).length∨qN e p.d j=qN e p.d p.next.length:=fun j hj=>by
  rcases Nat.lt_or_ge j (qN e p.d j).length with h|h
  ·exact .inl h
  ·exact .inr (C8 h _ hj).symm
 have GG:(qN e p.d i)[i]? =some s:=by
  rcases Xd i (by omega)with h|h
  ·obtain⟨r,hr⟩:=zo e p.d (i:=i) (j:=p.next.length) (by omega)
   rw[←hr,bG h]at hi;exact hi
  ·rw[h];exact hi
 have ET:=xt GG
 have mK:s<p.next.length:=lf hp e _ s hs
 have ht:=(hp.val.fG mK hx).1
 have h1:(qM e p.d (qN e p.d i) s (x+1)).any (fun k=>e k (di p.d s x))=true:=Pw _ ((he _ _ ht ht).2 (qu.refl p _))
 have h2:=JF (C7 e p.d (qN e p.d i) s (show x+1≤dF p.d from hx)) h1
 rw[←ET]at h2
 exact JF (zo e p.d (by omega)) h2
end
section
variable {p:dG} (hp:cU p) {e:Nat→Nat→Bool} (he:th p e)
include hp he
theorem By:(qN e p.d p.next.length)[0]? =some p.start.toNat:=by
 obtain⟨r,hr⟩:=zo e p.d (i:=0) (j:=p.next.length) (aG _)
 rw[←hr];rfl
theorem Tr:0<(qN e p.d p.next.length).length:=(List.getElem?_eq_some_iff.1 (By hp he)).1
theorem YA {i k:Nat} (h:(qN e p.d p.next.length)[i]? =some k):fC (nU e p) i=fC p k:=by
 unfold fC nU C6
 rw[aj,bc,h]
 exact Int.toNat_natCast _
theorem YB {i k x:Nat} (h:(qN e p.d p.next.length)[i]? =some k) (hx:x<dF p.d):di (nU e p).d i x=gv e (di p.d k x) (qN e p.d p.next.length):=by
 show((((qN e p.d p.next.length).map (lL e p.d (qN e p.d p.next.length))).getD i []).getD x 0).toNat=_
 rw[aj (l:=List.map _ _),bc,h]
 unfold lL
 rw[Option.map_some,Option.getD_some,aj,bc,List.getElem?_range hx]
 exact Int.toNat_natCast _
theorem Ts {i k:Nat} (h:(qN e p.d p.next.length)[i]? =some k):qu p (nU e p) k i:=by
 refine Pt (R:=fun s i=>s<p.next.length∧ ∃k,(qN e p.d p.next.length)[i]? =some k∧qu p p s k) ?_ ?_ ⟨lf hp e _ k (bE h),k,h,qu.refl p k⟩
 ·rintro s i ⟨_,k,hk,hb⟩
  rw[YA hp he hk];exact hb.pr
 ·rintro s i x ⟨hs,k,hk,hb⟩ hx
  have O4:=lf hp e _ k (bE hk)
  have ht:=(hp.val.fG O4 hx).1
  rw[YB hp he hk hx]
  obtain⟨q,h1,h2⟩:=Bs (Bx hp he (bE hk) hx)
  have pO:=lf hp e _ q (bE h1)
  exact⟨(hp.val.fG hs hx).1,q,h1,(hb.step hx).trans F (((he q _ pO ht).1 h2).symm F)⟩
theorem JG:(nU e p).next.length=(qN e p.d p.next.length).length:=by simp[nU,C6]
theorem Lr:cU (nU e p):=by
 have hl:=rB hp he p.next.length
 have B6:=Tr hp he
 have jn:=JG hp he
 refine⟨⟨hp.val.v0,hp.val.v6,by rw[show(nU e p).d.next.length=(nU e p).next.length from F,jn];exact B6,by simp[dG.d],Int.le_refl _,?_,?_,?_⟩,by rw[jn];have:=hp.n4;omega,by simp[nU,C6],?_⟩
 ·show(0:Int)<((nU e p).next.length:Int)
  rw[jn];omega
 ·intro r hr
  obtain⟨s,_,rfl⟩:=List.mem_map.1 (show r∈(qN e p.d p.next.length).map (lL e p.d (qN e p.d p.next.length))from hr)
  simp[lL];rfl
 ·intro r hr y hy
  obtain⟨s,hs,rfl⟩:=List.mem_map.1 (show r∈(qN e p.d p.next.length).map (lL e p.d (qN e p.d p.next.length))from hr)
  obtain⟨x,hx,rfl⟩:=List.mem_map.1 (show y∈(List.range (dF p.d)).map _ from hy)
  have:=FZ (Bx hp he hs (List.mem_range.1 hx))
  show(0:Int)≤_∧_<((nU e p).next.length:Int)
  rw[jn];omega
 ·intro y hy
  obtain⟨s,_,rfl⟩:=List.mem_map.1 (show y∈(qN e p.d p.next.length).map _ from hy)
  have:=hp.wR s;omega
end
def F3 (A B:dG) (l m:List Nat):Prop:=l.length=m.length∧ ∀(j a b:Nat),l[j]? =some a→m[j]? =some b→qu A B a b
section
variable {A B:dG} (hA:cU A) (hB:cU B) (hv:A.vars=B.vars) {e f:Nat→Nat→Bool} (he:th A e) (hf:th B f)
include hA hB hv he hf
theorem F4 {l m:List Nat} (h:F3 A B l m) (hl: ∀q∈l,q<A.next.length) (hm: ∀q∈m,q<B.next.length) {t u:Nat} (ht:t<A.next.length) (hu:u<B.next.length) (hb:qu A B t u):l.any (fun k=>e k t)=m.any (fun k=>f k u)∧gv e t l=gv f u m:=by
 have key: ∀a b,a<A.next.length→b<B.next.length→qu A B a b→e a t=f b u:=fun a b ha qd mH=>by
  rw[fQ,he a t ha ht,hf b u qd hu]
  exact⟨fun g=>((mH.symm hv).trans hv.symm g).trans hv.symm hb,fun g=>(mH.trans hv g).trans hv (hb.symm hv)⟩
 induction l generalizing m with
 |nil=>
  have:m=[]:=List.eq_nil_of_length_eq_zero h.1.symm
  subst this;exact⟨F,F⟩
 |cons a l ih=>
  cases m with
  |nil=>simp[F3]at h
  |cons b m=>
   have h1:=key a b (hl a (by simp)) (hm b (by simp)) (h.2 0 a b F F)
   have ih:=ih (m:=m) ⟨by simpa using h.1,fun j a b ha hb=>h.2 (j+1) a b (by simpa using ha) (by simpa using hb)⟩ (fun q hq=>hl q (by simp[hq])) (fun q hq=>hm q (by simp[hq]))
   constructor
   ·rw[List.any_cons,List.any_cons,h1,ih.1]
   ·rw[gv,gv,h1,ih.2]
theorem Tt {l m:List Nat} (h:F3 A B l m) (hl: ∀q∈l,q<A.next.length) (hm: ∀q∈m,q<B.next.length) {t u:Nat} (ht:t<A.next.length) (hu:u<B.next.length) (hb:qu A B t u):F3 A B (r6 e l t) (r6 f m u):=by
 have h1:=(F4 hA hB hv he hf h hl hm ht hu hb).1
 unfold r6
 rw[h1]
 split
 ·exact h
 ·refine⟨by rw[aI,aI,h.1];rfl,fun j a b ha qd=>?_⟩
  by_cases hj:j<l.length
  ·rw[bG hj]at ha
   rw[bG (by rw[←h.1];exact hj)]at qd
   exact h.2 j a b ha qd
  ·rw[bN (by omega)]at ha
   rw[bN (by rw[←h.1];omega),←h.1]at qd
   have hz:j-l.length=0:=by have:=(List.getElem?_eq_some_iff.1 ha).1;simp at this;omega
   rw[hz]at ha qd
   simp at ha qd
   subst ha;subst qd;exact hb
theorem C9:dF A.d=dF B.d:=by show 2^A.vars.toNat=2^B.vars.toNat;rw[hv]
theorem V5 {l m:List Nat} (h:F3 A B l m) (hl: ∀q∈l,q<A.next.length) (hm: ∀q∈m,q<B.next.length) {s u:Nat} (hs:s<A.next.length) (hu:u<B.next.length) (hb:qu A B s u): ∀x,x≤dF A.d→F3 A B (qM e A.d l s x) (qM f B.d m u x)
 |0,_=>h
 |x+1,hx=>by
  have hL:=C9 hA hB hv he hf
  exact Tt hA hB hv he hf (V5 h hl hm hs hu hb x (by omega)) (Bv hA e hl hs x (by omega)) (Bv hB f hm hu x (by omega)) (hA.val.fG hs hx).1 (hB.val.fG hu (by rw[show 2^B.d.vars.toNat=dF B.d from F,←hL];exact hx)).1 (hb.step hx)
theorem V6 (hs:qu A B A.start.toNat B.start.toNat): ∀i,F3 A B (qN e A.d i) (qN f B.d i)
 |0=>⟨F,fun j a b ha hb=>by
   have hj:j=0:=by have:=(List.getElem?_eq_some_iff.1 ha).1;simpa[qN]using this
   subst hj
   have e1:A.start.toNat=a:=by simpa[qN,dG.d]using ha
   have e2:B.start.toNat=b:=by simpa[qN,dG.d]using hb
   rw[←e1,←e2];exact hs⟩
 |i+1=>by
  have ih:=V6 hs i
  rw[qN,qN]
  by_cases hi:i<(qN e A.d i).length
  ·have AS:i<(qN f B.d i).length:=by rw[←ih.1];exact hi
   rw[aA hi,aA AS,←C9 hA hB hv he hf]
   rw[aj,ah hi,aj,ah AS]
   exact V5 hA hB hv he hf ih (lf hA e i) (lf hB f i) (lf hA e i _ (ap hi)) (lf hB f i _ (ap AS)) (ih.2 i _ _ (ah hi) (ah AS)) _ (aV _)
  ·rw[ar hi,ar (by rw[←ih.1];exact hi)];exact ih
theorem Tu {l m:List Nat} (h:F3 A B l m) (hl: ∀q∈l,q<A.next.length) (hm: ∀q∈m,q<B.next.length) {a b:Nat} (ha:a<A.next.length) (hb:b<B.next.length) (mH:qu A B a b):lL e A.d l a=lL f B.d m b:=by
 have hL:=C9 hA hB hv he hf
 unfold lL
 rw[←hL]
 refine List.map_congr_left fun x hx=>?_
 have hx:=List.mem_range.1 hx
 rw[(F4 hA hB hv he hf h hl hm (hA.val.fG ha hx).1 (hB.val.fG hb (by rw[show 2^B.d.vars.toNat=dF B.d from F,←hL];exact hx)).1 (mH.step hx)).2]
theorem H9 (hs:qu A B A.start.toNat B.start.toNat):nU e A=nU f B:=by
 have hN: ∀ {p:dG} (hp:cU p) {e:Nat→Nat→Bool} (he:th p e) (N:Nat),p.next.length≤N→qN e p.d p.next.length=qN e p.d N:=fun {p} hp {e} he N h=>(C8 (rB hp he _) N h).symm
 obtain⟨N,hN1,XK⟩: ∃N,A.next.length≤N∧B.next.length≤N:=⟨max A.next.length B.next.length,by omega,by omega⟩
 have hR:=V6 hA hB hv he hf hs N
 unfold nU
 rw[hN hA he N hN1,hN hB hf N XK]
 unfold C6
 have hlA:=lf hA e N
 have hlB:=lf hB f N
 have ik:(qN e A.d N).map (lL e A.d (qN e A.d N))=(qN f B.d N).map (lL f B.d (qN f B.d N)):=by
  apply List.ext_getElem (by simp[hR.1])
  intro j h1 h2
  simp only[ag]at h1 h2
  simp only[eV]
  have hb:=hR.2 j _ _ (ah h1) (ah h2)
  exact Tu hA hB hv he hf hR hlA hlB (hlA _ (ap h1)) (hlB _ (ap h2)) hb
 have adG:((qN e A.d N).map fun s=>((fC A s:Nat):Int))=(qN f B.d N).map fun s=>((fC B s:Nat):Int):=by
  apply List.ext_getElem (by simp[hR.1])
  intro j h1 h2
  simp only[ag]at h1 h2
  simp only[eV]
  rw[(hR.2 j _ _ (ah h1) (ah h2)).pr]
 rw[ik,adG,hv]
end
noncomputable def C_ (p:dG):dG:=nU (adF p) p
theorem vD {p:dG} (hp:cU p):cU (C_ p):=Lr hp (ol p)
theorem JH {p:dG} (hp:cU p):qu p (C_ p) p.start.toNat 0:=Ts hp (ol p) (By hp (ol p))
theorem Ls {p:dG} (hp:cU p):C_ (C_ p)=C_ p:=H9 (vD hp) hp F (ol _) (ol _) (qu.symm (A:=p) (B:=C_ p) F (JH hp))
theorem Tv {p:dG} (hp:cU p):(C_ p).next.length≤p.next.length:=by
 unfold C_
 rw[JG hp (ol p)];exact rB hp (ol p) _
theorem zr {A B:dG} (hv:A.vars=B.vars) (hs:qu A B A.start.toNat B.start.toNat) {a:Nat→Nat} (ha: ∀i,a i<dF A.d): ∀k,qu A B (oC A.d a k) (oC B.d a k)
 |0=>hs
 |k+1=>(zr hv hs ha k).step (ha k)
theorem Tw {A B:dG} (hv:A.vars=B.vars) (hs:qu A B A.start.toNat B.start.toNat) {a:Nat→Nat} (ha: ∀i,a i<dF A.d) {m:Nat} (h:kZ A a m):kZ B a m:=by
 have e: ∀k,fC A (oC A.d a k)=fC B (oC B.d a k):=fun k=>(zr hv hs ha k).pr
 obtain⟨⟨K,h1⟩,h2⟩:=h
 exact⟨⟨K,fun k hk=>by rw[←e];exact h1 k hk⟩,fun K=>by obtain⟨k,hk,h3⟩:=h2 K;exact⟨k,hk,by rw[←e];exact h3⟩⟩
def DE (d:fx) (u v:Nat):Prop:=u<d.next.length∧ ∃x,x<dF d∧di d u x=v
def Ins (d:fx) (al:Nat→Bool) (v:Nat):Prop:=gL (DE d) d.start.toNat v∧al v=true
def F5 (d:fx) (al one two:Nat→Bool):Prop:= ∃v u,Ins d al v∧mO (DE d) (Ins d al) v u∧zh (DE d) (Ins d al) v∧one v=true∧two u=true
structure V7 (d:fx) (al one two:Nat→Bool) (pre loop:List Nat):Prop where
 pos:0<loop.length
 wp:Wd d pre
 wl:Wd d loop
 back:runN d (runN d d.start.toNat pre) loop=runN d d.start.toNat pre
 al_: ∀v∈iK d (runN d d.start.toNat pre) loop,al v=true
 one: ∃v∈iK d (runN d d.start.toNat pre) loop,one v=true
 two: ∃v∈iK d (runN d d.start.toNat pre) loop,two v=true
 lp:pre.length≤d.next.length
 ll:loop.length≤2*d.next.length
def tk (d:fx) (al one two:Nat→Bool):Option La→Prop
 |none=> ¬F5 d al one two
 |some l=> ∃pre loop,V7 d al one two pre loop∧uq ⟨pre,loop⟩ l
theorem pa.at {p:dG} {l:La} (h:pa p l) (i:Nat):l.at i<dF p.d:=by
 by_cases hi:i<l.pre.length
 ·rw[mq hi];exact h.pre _ (ap hi)
 ·obtain⟨j,rfl⟩:=Nat.exists_eq_add_of_le (show l.pre.length≤i by omega)
  rw[o7 h.pos]
  unfold La.u
  have hm:=Nat.mod_lt j h.pos
  rw[aj,ah hm]
  exact h.loop _ (ap hm)
def Bz (p q:dG) (f:Nat→Nat):dG:=⟨p.vars,((p.start.toNat*q.next.length+q.start.toNat:Nat):Int),gT p.d q.d,(List.range (p.next.length*q.next.length)).map fun v=>((f v:Nat):Int)⟩
def F6 (p q:dG):fx:=(Bz p q fun _=>0).d
theorem V8 (p q:dG) (f:Nat→Nat):(Bz p q f).d=F6 p q:=rfl
def f1 (p q:dG) (v:Nat):Nat:=fC p (v/q.next.length)
def f2 (q:dG) (v:Nat):Nat:=fC q (v%q.next.length)
def Tx (p q:dG) (i j v:Nat):Bool:=decide (f1 p q v≤i)&&decide (f2 q v≤j)
section
variable {p q:dG} (hp:cU p) (hq:cU q) (hv:p.vars=q.vars)
include hp hq hv
theorem JI:(F6 p q).next.length=p.next.length*q.next.length:=by
 show(gT p.d q.d).length=_
 rw[pF];rfl
theorem YD {s t x:Nat} (hs:s<p.next.length) (ht:t<q.next.length) (hx:x<dF p.d):di (F6 p q) (s*q.next.length+t) x=di p.d s x*q.next.length+di q.d t x:=Kn (f:=fun _ _=>false) (a:=p.d) (b:=q.d) hs ht hx
theorem BA {f:Nat→Nat} (hf: ∀v,f v≤16) (hn:p.next.length*q.next.length≤4096):cU (Bz p q f):=by
 have Ax:=M5 (f:=fun _ _=>false) hp.val hq.val hv
 have hl:=JI hp hq hv
 refine⟨⟨hp.val.v0,hp.val.v6,Ax.n0,by simp[dG.d],Ax.s0,Ax.s1,Ax.len,Ax.ok⟩,by show(F6 p q).next.length≤4096;omega,by show((List.range _).map _).length=(F6 p q).next.length;rw[hl];simp,fun x hx=>?_⟩
 obtain⟨v,_,rfl⟩:=List.mem_map.1 hx
 have:=hf v;omega
theorem vE {f:Nat→Nat} {v:Nat} (h:v<p.next.length*q.next.length):fC (Bz p q f) v=f v:=by
 unfold fC Bz
 rw[aj,bc,List.getElem?_range h];exact Int.toNat_natCast _
theorem BB {a:Nat→Nat} (ha: ∀i,a i<dF p.d): ∀k,oC (F6 p q) a k=oC p.d a k*q.next.length+oC q.d a k∧oC p.d a k<p.next.length∧oC q.d a k<q.next.length
 |0=>⟨Int.toNat_natCast _,hp.st,hq.st⟩
 |k+1=>by
  obtain⟨h1,h2,h3⟩:=BB ha k
  have hx:=ha k
  have Kr:a k<dF q.d:=by unfold dF at hx⊢;show a k<2^q.vars.toNat;rw[←hv];exact hx
  refine⟨?_,(hp.val.fG h2 hx).1,(hq.val.fG h3 Kr).1⟩
  rw[oC,h1,YD hp hq hv h2 h3 hx];rfl
theorem Px {a:Nat→Nat} (ha: ∀i,a i<dF p.d) (m:Nat):(kZ (Bz p q (f1 p q)) a m↔kZ p a m)∧(kZ (Bz p q (f2 q)) a m↔kZ q a m):=by
 have hs:=BB hp hq hv ha
 have lt: ∀k,oC (F6 p q) a k<p.next.length*q.next.length:=fun k=>by
  obtain⟨h1,h2,h3⟩:=hs k
  rw[h1];exact vT h2 h3
 have e1: ∀k,fC (Bz p q (f1 p q)) (oC (Bz p q (f1 p q)).d a k)=fC p (oC p.d a k):=fun k=>by
  obtain⟨h1,h2,h3⟩:=hs k
  rw[V8,vE hp hq hv (lt k),h1]
  unfold f1;rw[(B5 h3).1]
 have e2: ∀k,fC (Bz p q (f2 q)) (oC (Bz p q (f2 q)).d a k)=fC q (oC q.d a k):=fun k=>by
  obtain⟨h1,h2,h3⟩:=hs k
  rw[V8,vE hp hq hv (lt k),h1]
  unfold f2;rw[(B5 h3).2]
 unfold kZ
 exact⟨by simp only[e1],by simp only[e2]⟩
end
theorem Py {p:dG} (h:cU p) {l:La} (hl:pa p l): ∃s w,s<p.next.length∧0<w.length∧Wd p.d w∧runN p.d s w=s∧(∃u,Wd p.d u∧runN p.d p.d.start.toNat u=s)∧ ∀q:dG,q.d=p.d→kZ q l.at (lv q s w):=by
 have h0:runN p.d p.d.start.toNat l.pre<p.next.length:=lU h.val h.st l.pre hl.pre
 obtain⟨j,m,hm,he,_⟩:=Ps (fun k=>zm h.val hl.loop h0 k)
 refine⟨gZ p.d l.loop _ j,p5 l.loop m,zm h.val hl.loop h0 j,by rw[nG];exact Nat.mul_pos hm hl.pos,xr hl.loop m,by rw[rP,uH];exact he,⟨l.pre++p5 l.loop j,fun x hx=>(List.mem_append.1 hx).elim (hl.pre x) (xr hl.loop j x),?_⟩,fun q hq=>?_⟩
 ·unfold runN at*
  rw[ep]
  exact rP p.d l.loop _ j
 ·have:=rQ (p:=q) hl.pos (s0:=runN q.d q.d.start.toNat l.pre) (j:=j) (m:=m) F hm (by rw[hq];exact he)
  rw[hq]at this;exact this
theorem JJ {p:dG} (h:cU p): ∀(w:List Nat) (s:Nat),s<p.next.length→Wd p.d w→gL (FX p) s (runN p.d s w)
 | [],s,_,_=>.refl s
 |x::w,s,hs,hw=>by
  have hx:=hw x (by simp)
  exact .step ⟨hs,x,hx,F⟩ (JJ h w _ (h.val.fG hs hx).1 fun y hy=>hw y (by simp[hy]))
theorem JK {p:dG} (h:cU p): ∀(w:List Nat) (s:Nat),s<p.next.length→Wd p.d w→ ∀u∈iK p.d s w,gL (FX p) s u
 | [],_,_,_,u,hu=>by cases hu
 |x::w,s,hs,hw,u,hu=>by
  have hx:=hw x (by simp)
  have he:FX p s (di p.d s x):=⟨hs,x,hx,F⟩
  rcases List.mem_cons.1 hu with rfl|hu
  ·exact .one he
  ·exact .step he (JK h w _ (h.val.fG hs hx).1 (fun y hy=>hw y (by simp[hy])) u hu)
theorem Al {p q:dG} (hp:cU p) (hq:cU q) (hv:p.vars=q.vars) (hn:p.next.length*q.next.length≤4096) {l:La} (hl:pa p l) (mC:mW p l.at%2≠mW q l.at%2):
  ∃i j:Nat,i%2≠j%2∧i≤16∧j≤16∧((i:Int)∈p.dX)∧((j:Int)∈q.dX)∧F5 (F6 p q) (Tx p q i j) (fun v=>decide (f1 p q v=i)) (fun v=>decide (f2 q v=j)):=by
 have b1: ∀v,f1 p q v≤16:=fun v=>hp.wR _
 have b2: ∀v,f2 q v≤16:=fun v=>hq.wR _
 have V:=BA hp hq hv b1 hn
 have hl2:pa (Bz p q (f1 p q)) l:=⟨hl.pos,hl.pre,hl.loop⟩
 obtain⟨s,w,hs,AN,V4,Zt,⟨u0,Mi,UJ⟩,hI⟩:=Py V hl2
 have jn:=JI hp hq hv
 have ha:=hl.at
 have n1:=(Px hp hq hv ha _).1.1 (hI (Bz p q (f1 p q)) F)
 have n2:=(Px hp hq hv ha _).2.1 (hI (Bz p q (f2 q)) F)
 rw[k7 n1,k7 n2]at mC
 have adH:w≠ []:=fun e=>by rw[e]at AN;exact absurd AN (by decide)
 have m1:=m_ (Bz p q (f1 p q)) s adH
 have m2:=m_ (Bz p q (f2 q)) s adH
 have VZ:=FY V hs AN V4 Zt
 have fM:=zl V w s hs V4
 have sI: ∀v,v∈iK (F6 p q) s w→v<p.next.length*q.next.length:=fun v hv'=>by rw[←jn];exact fM v hv'
 obtain⟨⟨v,Re,hv2⟩,hv3⟩:=m1
 obtain⟨⟨u,RA,hu3⟩,hu4⟩:=m2
 rw[vE hp hq hv (sI v Re)]at hv2
 rw[vE hp hq hv (sI u RA)]at hu3
 obtain⟨i,hi⟩: ∃i,lv (Bz p q (f1 p q)) s w=i:=⟨_,F⟩
 obtain⟨j,hj⟩: ∃j,lv (Bz p q (f2 q)) s w=j:=⟨_,F⟩
 rw[hi]at mC hv2 hv3
 rw[hj]at mC hu3 hu4
 have Ux:gL (DE (F6 p q)) (F6 p q).start.toNat s:=by
  have:=JJ V u0 _ V.st Mi
  rw[show(Bz p q (f1 p q)).start.toNat=(Bz p q (f1 p q)).d.start.toNat from F,UJ]at this
  exact this
 have adK: ∀x,x∈iK (F6 p q) s w→Ins (F6 p q) (Tx p q i j) x:=fun x hx=>by
  refine⟨Ux.trans (JK V w s hs V4 x hx),?_⟩
  have h1:=hv3 x hx
  have h2:=hu4 x hx
  rw[vE hp hq hv (sI x hx)]at h1
  rw[vE hp hq hv (sI x hx)]at h2
  unfold Tx
  rw[bz h1,bz h2];rfl
 have hc:=VZ.cmp (S:=Ins (F6 p q) (Tx p q i j)) adK Re RA
 have ahQ:0<q.next.length:=hq.val.n0
 have Yu:v/q.next.length<p.next.length:=(qP (sI v Re)).1
 have JL:u%q.next.length<q.next.length:=Nat.mod_lt _ ahQ
 refine⟨i,j,mC,by rw[←hv2];exact b1 v,by rw[←hu3];exact b2 u,?_,?_,v,u,adK v Re,hc.1,hc.2,bz hv2,bz hu3⟩
 ·have:=hp.tg Yu
  rw[←hv2];exact bE this
 ·have:=hq.tg JL
  rw[←hu3];exact bE this
abbrev tE:=Nat×Int×Nat
def kJ (mJ:Bool) (gD:Nat) (st:List tE) (t:Nat):Prop:=t∈(st.drop 1).map (·.1)∨(mJ=false∧t=gD)
structure uK (d:fx) (al to:Nat→Bool) (gD:Nat) (mJ:Bool) (st:List tE) (i x:Nat):Prop where
 h0:st[0]? =some (gD, -1,0)
 stp: ∀k q,0<k→st[k]? =some q→ ∃(j:Nat) (p:tE),q.2.1=(j:Int)∧j<k∧st[j]? =some p∧q.2.2<dF d∧di d p.1 q.2.2=q.1∧al q.1=true∧to q.1=false
 nd:((st.drop 1).map (·.1)).Nodup
 ndf:mJ=false→gD∉(st.drop 1).map (·.1)
 lt: ∀q∈st,q.1<d.next.length
 wk: ∀k q,st[k]? =some q→ ∀y,y<dF d→(k<i∨k=i∧y<x)→al (di d q.1 y)=true→kJ mJ gD st (di d q.1 y)
 nto:mJ=false→to gD=false
structure rC (d:fx) (al to:Nat→Bool) (gD:Nat) (mJ:Bool) (w:List Nat) (t:Nat):Prop where
 wd:Wd d w
 run:runN d gD w=t
 to_:to t=true
 B2: ∀v∈iK d gD w,al v=true
 ne:mJ=true→w≠ []
 len:w.length≤d.next.length
section
variable {d:fx} {al to:Nat→Bool} {gD:Nat} {mJ:Bool} {st:List tE} {i x:Nat}
theorem uK.len (h:uK d al to gD mJ st i x):st.length≤d.next.length+1:=by
 have h1:=gJ h.nd (n:=d.next.length) (fun y hy=>by
  obtain⟨q,hq,rfl⟩:=List.mem_map.1 hy
  exact h.lt q (List.mem_of_mem_drop hq))
 rw[ag,List.length_drop]at h1
 omega
theorem uK.pos (h:uK d al to gD mJ st i x):0<st.length:=(List.getElem?_eq_some_iff.1 h.h0).1
theorem uK.start (hf:gD<d.next.length) (hn:mJ=false→to gD=false):uK d al to gD mJ [(gD, -1,0)] 0 0 where
 h0:=rfl
 stp:=fun k q hk hq=>by
  have:=(List.getElem?_eq_some_iff.1 hq).1
  simp only[cd,eD]at this;omega
 nd:=List.nodup_nil
 ndf:=fun _ h=>by cases h
 lt:=fun q hq=>by rw[List.mem_singleton.1 hq];exact hf
 wk:=fun k q _ y _ h=>by omega
 nto:=hn
theorem uK.skip (h:uK d al to gD mJ st i x) {q:tE} (hq:st[i]? =some q) (hs:al (di d q.1 x)=true→kJ mJ gD st (di d q.1 x)):uK d al to gD mJ st i (x+1):=by
 refine {h with wk:=?_}
 intro k p hp y hy hk ha
 by_cases e:k=i∧y=x
 ·obtain⟨rfl,rfl⟩:=e
  rw[hq]at hp
  obtain rfl:=cg hp
  exact hs ha
 ·exact h.wk k p hp y hy (by omega) ha
theorem kJ.Cb {t:Nat} (h:kJ mJ gD st t) (q:tE):kJ mJ gD (st++[q]) t:=by
 rcases h with h|h
 ·refine .inl ?_
  cases st with
  |nil=>cases h
  |cons a st=>simp only[cj,List.drop_succ_cons,List.drop_zero,aL]at h⊢;exact a_ _ h
 ·exact .inr h
theorem F7 {st:List tE} (h:0<st.length) (q:tE):((st++[q]).drop 1).map (·.1)=(st.drop 1).map (·.1)++[q.1]:=by
 cases st with
 |nil=>simp at h
 |cons a st=>simp
theorem uK.push (h:uK d al to gD mJ st i x) {q:tE} (hq:st[i]? =some q) (hx:x<dF d) {t:Nat} (ht:di d q.1 x=t) (Me:t<d.next.length) (ha:al t=true) (Li: ¬kJ mJ gD st t) (wS:to t=false):uK d al to gD mJ (st++[(t,(i:Int),x)]) i (x+1):=by
 have B6:=h.pos
 have gf:=(List.getElem?_eq_some_iff.1 hq).1
 have hd:=F7 B6 (t,(i:Int),x)
 have lR: ∀k p,(st++[(t,(i:Int),x)])[k]? =some p→st[k]? =some p∨k=st.length∧p=(t,(i:Int),x):=fun k p hp=>by
  by_cases hk:k<st.length
  ·rw[bG hk]at hp;exact .inl hp
  ·rw[bN (by omega)]at hp
   have hz:k-st.length=0:=by
    have:=(List.getElem?_eq_some_iff.1 hp).1
    simp only[cd,eD]at this;omega
   rw[hz]at hp
   exact .inr ⟨by omega,(cg hp).symm⟩
 have new: ∀k p,st[k]? =some p→(st++[(t,(i:Int),x)])[k]? =some p:=fun k p hp=>by rw[bG (List.getElem?_eq_some_iff.1 hp).1];exact hp
 have htn:(st++[(t,(i:Int),x)])[st.length]? =some (t,(i:Int),x):=by rw[bN (aV _)];simp
 have adM:kJ mJ gD (st++[(t,(i:Int),x)]) t:=.inl (by rw[hd];simp)
 refine {h0:=new 0 _ h.h0,stp:=?_,nd:=?_,ndf:=?_,lt:=?_,wk:=?_,nto:=h.nto}
 ·intro k p hk hp
  rcases lR k p hp with hp|⟨rfl,rfl⟩
  ·obtain⟨j,r,h1,h2,h3,h4,h5,h6,h7⟩:=h.stp k p hk hp
   exact⟨j,r,h1,h2,new j r h3,h4,h5,h6,h7⟩
  ·exact⟨i,q,F,gf,new i q hq,hx,ht,ha,wS⟩
 ·rw[hd]
  refine List.nodup_append.2 ⟨h.nd,by simp,fun a ha2 b hb e=>Li ?_⟩
  rw[List.mem_singleton.1 hb]at e
  subst e;exact .inl ha2
 ·intro hf hm
  rw[hd]at hm
  rcases List.mem_append.1 hm with hm|hm
  ·exact h.ndf hf hm
  ·rw[bM]at hm
   exact Li (.inr ⟨hf,hm.symm⟩)
 ·intro p hp
  rcases List.mem_append.1 hp with hp|hp
  ·exact h.lt p hp
  ·rw[List.mem_singleton.1 hp];exact Me
 ·intro k p hp y hy hk ha2
  rcases lR k p hp with ZD|⟨rfl,rfl⟩
  ·by_cases e:k=i∧y=x
   ·obtain⟨rfl,rfl⟩:=e
    rw[hq]at ZD
    obtain rfl:=cg ZD
    rw[ht];exact adM
   ·exact(h.wk k p ZD y hy (by omega) ha2).Cb _
  ·omega
theorem uK.next (h:uK d al to gD mJ st i (dF d)):uK d al to gD mJ st (i+1) 0:=
 {h with wk:=fun k p hp y hy hk ha=>h.wk k p hp y hy (by omega) ha}
theorem uK.none (h:uK d al to gD mJ st st.length 0) {S:Nat→Prop} (hS: ∀v,S v→al v=true) {t:Nat} (wS:to t=true)
  (hr:(mJ=false∧gL (lX (DE d) S) gD t)∨ ∃c,lX (DE d) S gD c∧gL (lX (DE d) S) c t):False:=by
 have closed: ∀(k:Nat) (q:tE) (c:Nat),st[k]? =some q→lX (DE d) S q.1 c→kJ mJ gD st c:=fun k q c hq hc=>by
  obtain⟨⟨_,y,hy,rfl⟩,_,hs⟩:=hc
  exact h.wk k q hq y hy (.inl (List.getElem?_eq_some_iff.1 hq).1) (hS _ hs)
 have at_: ∀v,kJ mJ gD st v→ ∃(k:Nat) (q:tE),st[k]? =some q∧q.1=v:=fun v hv=>by
  rcases hv with hv|⟨_,rfl⟩
  ·obtain⟨q,hq,rfl⟩:=List.mem_map.1 hv
   obtain⟨k,hk⟩:=List.mem_iff_getElem?.1 (List.mem_of_mem_drop hq)
   exact⟨k,q,hk,F⟩
  ·exact⟨0,_,h.h0,F⟩
 have all: ∀u v,gL (lX (DE d) S) u v→kJ mJ gD st u→kJ mJ gD st v:=fun u v hr=>by
  induction hr with
  |refl=>exact id
  |step e _ ih=>
   intro hu
   obtain⟨k,q,hk,rfl⟩:=at_ _ hu
   exact ih (closed k q _ hk e)
 have no: ∀v,kJ mJ gD st v→to v=false:=fun v hv=>by
  rcases hv with hv|⟨hf,rfl⟩
  ·obtain⟨q,hq,rfl⟩:=List.mem_map.1 hv
   obtain⟨k,hk⟩:=List.mem_iff_getElem?.1 hq
   rw[List.getElem?_drop]at hk
   obtain⟨_,_,_,_,_,_,_,_,h8⟩:=h.stp (1+k) q (by omega) hk
   exact h8
  ·exact h.nto hf
 have kB:kJ mJ gD st t:=by
  rcases hr with⟨hf,hr⟩|⟨c,hc,hr⟩
  ·exact all _ _ hr (.inr ⟨hf,F⟩)
  ·exact all _ _ hr (closed 0 _ c h.h0 hc)
 rw[no t kB]at wS;cases wS
structure Pz (d:fx) (al:Nat→Bool) (st:List tE) (N k:Nat) (w:List Nat) (t:Nat):Prop where
 at_: ∃q,st[k]? =some q∧runN d q.1 w.reverse=t∧ ∀v∈iK d q.1 w.reverse,al v=true
 wd:Wd d w.reverse
 len:w.length+k≤N
theorem uK.nK (h:uK d al to gD mJ st i x) {q:tE} (hq:st[i]? =some q) (hx:x<dF d) {t:Nat} (ht:di d q.1 x=t) (ha:al t=true):Pz d al (st++[(t,(i:Int),x)]) st.length st.length [] t∧Pz d al (st++[(t,(i:Int),x)]) st.length i [x] t:=by
 have gf:=(List.getElem?_eq_some_iff.1 hq).1
 refine⟨⟨⟨(t,(i:Int),x),?_,F,fun v hv=>(by cases hv)⟩,fun y hy=>(by cases hy),?_⟩,⟨⟨q,by rw[bG gf];exact hq,?_,?_⟩,?_,?_⟩⟩
 ·rw[bN (aV _)];simp
 ·show 0+st.length≤st.length;omega
 ·simp[runN,ht]
 ·intro v hv
  simp only[List.reverse_cons,List.reverse_nil,dl,iK,bM]at hv
  rw[hv,ht];exact ha
 ·intro y hy
  simp only[List.reverse_cons,List.reverse_nil,dl,bM]at hy
  rw[hy];exact hx
 ·simp only[cd,eD];omega
theorem Pz.step (h:uK d al to gD mJ st i x) {N k:Nat} {e:tE} {w:List Nat} {t:Nat} (hb:Pz d al (st++[e]) N k w t) (yM:0<k) (hk:k<st.length): ∃(j:Nat) (q:tE),(st++[e])[k]? =some q∧q.2.1=(j:Int)∧Pz d al (st++[e]) N j (w++[q.2.2]) t∧j<k:=by
 obtain⟨⟨q,hq,h1,h2⟩,h3,h4⟩:=hb
 have IN:st[k]? =some q:=by rwa[bG hk]at hq
 obtain⟨j,p,g1,g2,g3,g4,g5,g6,_⟩:=h.stp k q yM IN
 refine⟨j,q,hq,g1,⟨⟨p,by rw[bG (by omega)];exact g3,?_,?_⟩,?_,?_⟩,g2⟩
 ·rw[List.reverse_append]
  show runN d (di d p.1 q.2.2) w.reverse=t
  rw[g5];exact h1
 ·rw[List.reverse_append]
  intro v hv
  rcases List.mem_cons.1 (show v∈di d p.1 q.2.2::iK d (di d p.1 q.2.2) w.reverse from hv)with rfl|hv
  ·rw[g5];exact g6
  ·rw[g5]at hv;exact h2 v hv
 ·intro y hy
  rw[List.reverse_append]at hy
  rcases List.mem_append.1 hy with hy|hy
  ·simp at hy;subst hy;exact g4
  ·exact h3 y hy
 ·rw[aI,List.length_singleton];omega
theorem uK.PA (h:uK d al to gD mJ st i x) {t:Nat} (Me:t<d.next.length) (Li: ¬kJ mJ gD st t):st.length≤d.next.length:=by
 have kO:((st.drop 1).map (·.1)++[t]).Nodup:=List.nodup_append.2 ⟨h.nd,by simp,fun a ha b hb e=>Li (by
  rw[List.mem_singleton.1 hb]at e
  subst e;exact .inl ha)⟩
 have h1:=gJ kO (n:=d.next.length) (fun y hy=>by
  rcases List.mem_append.1 hy with hy|hy
  ·obtain⟨q,hq,rfl⟩:=List.mem_map.1 hy
   exact h.lt q (List.mem_of_mem_drop hq)
  ·rw[List.mem_singleton.1 hy];exact Me)
 rw[aI,ag,List.length_drop,List.length_singleton]at h1
 have:=h.pos
 omega
theorem Pz.done (h:uK d al to gD mJ st i x) {e:tE} {w:List Nat} {t:Nat} (hb:Pz d al (st++[e]) st.length 0 w t) (hl:st.length≤d.next.length) (hw:w≠ []) (wS:to t=true):rC d al to gD mJ w.reverse t:=by
 obtain⟨⟨q,hq,h1,h2⟩,h3,h4⟩:=hb
 rw[bG h.pos,h.h0]at hq
 obtain rfl:=cg hq
 refine⟨h3,h1,wS,h2,fun _ e=>hw (by simpa using e),?_⟩
 rw[List.length_reverse]
 omega
end
structure je (n:Nat) (E:Nat→Nat→Prop) (S:Nat→Prop) (all:List (List Nat)):Prop where
 sub: ∀P∈all,∀v∈P,v<n∧S v
 ne: ∀P∈all,P≠ []
 cmp: ∀P∈all,∀u∈P,∀v,v∈P↔mO E S u v
 cyc: ∀P∈all,∀u∈P,zh E S u
 full: ∀u,u<n→S u→zh E S u→ ∃P∈all,u∈P
 nd:all.flatten.Nodup
theorem je.len {n:Nat} {E:Nat→Nat→Prop} {S:Nat→Prop} {all:List (List Nat)} (h:je n E S all):all.flatten.length≤n:=gJ h.nd fun v hv=>by
 obtain⟨P,hP,hv⟩:=List.mem_flatten.1 hv
 exact(h.sub P hP v hv).1
theorem Lt {d:fx} {al one two:Nat→Bool} (hd: ∀u v,DE d u v→v<d.next.length) (hs:d.start.toNat<d.next.length) {all:List (List Nat)} (h:je d.next.length (DE d) (Ins d al) all):F5 d al one two↔ ∃P∈all,(∃v∈P,one v=true)∧ ∃u∈P,two u=true:=by
 have lt: ∀v,Ins d al v→v<d.next.length:=fun v hv=>gL.closed (S:=fun v=>v<d.next.length) (fun u v _ e=>hd u v e) hv.1 hs
 constructor
 ·rintro⟨v,u,h1,h2,h3,h4,h5⟩
  obtain⟨P,hP,hv⟩:=h.full v (lt v h1) h1 h3
  exact⟨P,hP,⟨v,hv,h4⟩,u,(h.cmp P hP v hv u).2 h2,h5⟩
 ·rintro⟨P,hP,⟨v,hv,h4⟩,u,hu,h5⟩
  exact⟨v,u,(h.sub P hP v hv).2,(h.cmp P hP v hv u).1 hu,h.cyc P hP v hv,h4,h5⟩
theorem Lu {d:fx} {al one two:Nat→Bool} {all:List (List Nat)} (hE: ∀s w,s<d.next.length→Wd d w→runN d s w<d.next.length) (h:je d.next.length (DE d) (Ins d al) all) {P:List Nat} (hP:P∈all) {s:Nat} (hs:s∈P) (ho:one s=true)
  {pre lo back:List Nat} {t:Nat} (h1:rC d (fun _=>true) (fun u=>decide (u=s)) d.start.toNat false pre s) (h2:rC d (fun u=>decide (u∈P)) two s false lo t) (h3:rC d (fun u=>decide (u∈P)) (fun u=>decide (u=s)) t (decide (t=s)) back s):V7 d al one two pre (lo++back):=by
 have Xb:runN d s (lo++back)=s:=by
  unfold runN
  rw[ep]
  have e1:=h2.run
  have e2:=h3.run
  unfold runN at e1 e2
  rw[e1,e2]
 have Mp:back≠ []:=by
  by_cases e:t=s
  ·exact h3.ne (by simp[e])
  ·intro hb
   have:=h3.run
   rw[hb]at this
   exact e this
 have nO: ∀v∈iK d s (lo++back),v∈P:=fun v hv=>by
  rw[rA]at hv
  rcases List.mem_append.1 hv with hv|hv
  ·exact of_decide_eq_true (h2.B2 v hv)
  ·rw[h2.run]at hv;exact of_decide_eq_true (h3.B2 v hv)
 have last: ∀(w:List Nat) (a:Nat),w≠ []→runN d a w∈iK d a w:=fun w a hw=>by
  have hl:0<w.length:=List.length_pos_iff.2 hw
  have:=nE d w a (w.length-1) (by omega)
  rw[show w.length-1+1=w.length by omega,aN (aV _)]at this
  exact bE this
 have IZ:s∈iK d s (lo++back):=by
  rw[rA,h2.run]
  have:=last back t Mp
  rw[h3.run]at this
  exact bl _ this
 have Me:t∈iK d s (lo++back):=by
  by_cases e:lo=[]
  ·have:=h2.run
   rw[e]at this
   have e2:s=t:=this
   rw[←e2];exact IZ
  ·rw[rA]
   have:=last lo s e
   rw[h2.run]at this
   exact a_ _ this
 have hl1:=h2.len
 have hl2:=h3.len
 refine {pos:=by rw[aI];have:=List.length_pos_iff.2 Mp;omega,wp:=h1.wd,wl:=fun x hx=>(List.mem_append.1 hx).elim (h2.wd x) (h3.wd x),back:=by rw[h1.run];exact Xb,al_:=?_,one:=?_,two:=?_,lp:=h1.len,ll:=by rw[aI];omega}
 ·rw[h1.run];exact fun v hv=>((h.sub P hP v (nO v hv)).2).2
 ·rw[h1.run];exact⟨s,IZ,ho⟩
 ·rw[h1.run];exact⟨t,Me,h2.to_⟩
theorem Lv {d:fx} {al:Nat→Bool} {all:List (List Nat)} (h:je d.next.length (DE d) (Ins d al) all) {P:List Nat} (hP:P∈all) {s t:Nat} (hs:s∈P) (ht:t∈P): ∃c,lX (DE d) (fun u=>u∈P) s c∧gL (lX (DE d) fun u=>u∈P) c t:=by
 have hl:=mO.loop (E:=DE d) (S:=Ins d al) (v:=s) (h.sub P hP s hs).2 (h.cyc P hP s hs)
 have e:mO (DE d) (Ins d al) s=fun u=>u∈P:=funext fun u=>propext (h.cmp P hP s hs u).symm
 rw[e]at hl
 exact hl.2 s t hs ht
def tm (v:Int):dG:=⟨v,0,[List.replicate (2^v.toNat) 0],[1]⟩
def Da (p q:dG):Prop:= ∃i j:Nat,i%2≠j%2∧i≤16∧j≤16∧((i:Int)∈p.dX)∧((j:Int)∈q.dX)∧F5 (F6 p q) (Tx p q i j) (fun v=>decide (f1 p q v=i)) (fun v=>decide (f2 q v=j))
def ZN (p:dG) (k v:Nat):Bool:=decide (fC p v≤k)
def Am (p:dG) (k v:Nat):Bool:=decide (fC p v=k)
def ahU (p:dG):Prop:= ∃k,k%2=0∧k≤16∧F5 p.d (ZN p k) (Am p k) (Am p k)
theorem tp {v:Int} (h0:0≤v) (h6:v≤6):cU (tm v):=by
 refine⟨⟨h0,h6,eo _,F,Int.le_refl _,by show(0:Int)<1;decide,fun r hr=>?_,fun r hr x hx=>?_⟩,by show 1≤4096;decide,F,fun x hx=>?_⟩
 ·rw[List.mem_singleton.1 hr];simp[dG.d,tm]
 ·rw[List.mem_singleton.1 hr]at hx
  obtain⟨_,rfl⟩:=List.mem_replicate.1 hx
  exact⟨Int.le_refl _,by show(0:Int)<1;decide⟩
 ·rw[List.mem_singleton.1 hx];decide
def EA (d:fx) (al:Nat→Bool):Nat→Nat→Prop:=lX (DE d) fun v=>al v=true
def TE (d:fx) (al:Nat→Bool) (v:Nat):List Nat:=((List.range (dF d)).map (di d v)).filter al
def kA (d:fx) (al:Nat→Bool) (v x:Nat):Nat:=(((List.range x).map (di d v)).filter al).length
theorem PR {d:fx} {al:Nat→Bool} {v x:Nat} (hx:x<dF d):TE d al v=((List.range x).map (di d v)).filter al++(([di d v x]).filter al++(((List.range (dF d)).map (di d v)).drop (x+1)).filter al):=by
 have hl:x<((List.range (dF d)).map (di d v)).length:=by simpa using hx
 have e1:((List.range (dF d)).map (di d v)).take x=(List.range x).map (di d v):=by
  rw[←List.map_take,List.take_range,Nat.min_eq_left (by omega)]
 have e2:=(List.take_append_drop x ((List.range (dF d)).map (di d v))).symm
 rw[List.drop_eq_getElem_cons hl,e1]at e2
 have e3:((List.range (dF d)).map (di d v))[x]=di d v x:=by simp
 rw[e3]at e2
 unfold TE
 rw[←List.filter_append,←List.filter_append]
 exact av (List.filter al) e2
theorem Ie {d:fx} {al:Nat→Bool} {v x:Nat} (hx:x<dF d) (ha:al (di d v x)=true): ∃h:kA d al v x<(TE d al v).length,(TE d al v)[kA d al v x]=di d v x:=by
 have e:=PR (al:=al) (v:=v) hx
 rw[show([di d v x]).filter al=[di d v x] by simp[ha]]at e
 have h:kA d al v x<(TE d al v).length:=by rw[e];simp[kA]
 refine⟨h,?_⟩
 have h2:(TE d al v)[kA d al v x]? =some (di d v x):=by
  rw[e];unfold kA;rw[bN (aV _)];simp
 rw[ah h]at h2
 exact cg h2
theorem If {d:fx} {al:Nat→Bool} {v x:Nat} (ha:al (di d v x)=true):kA d al v (x+1)=kA d al v x+1:=by
 unfold kA;rw[List.range_succ,aL,List.filter_append];simp[ha]
theorem ad8 {d:fx} {al:Nat→Bool} {v x:Nat} (ha:al (di d v x)=false):kA d al v (x+1)=kA d al v x:=by
 unfold kA;rw[List.range_succ,aL,List.filter_append];simp[ha]
theorem PS (d:fx) (al:Nat→Bool) (v:Nat):kA d al v (dF d)=(TE d al v).length:=rfl
theorem PU {d:fx} {al:Nat→Bool} {v u:Nat} (h:EA d al v u):u∈TE d al v:=by
 obtain⟨⟨_,x,hx,rfl⟩,_,hu⟩:=h
 exact List.mem_filter.2 ⟨List.mem_map.2 ⟨x,List.mem_range.2 hx,F⟩,hu⟩
structure Gc (E:Nat→Nat→Prop) (comp:Nat→Int) (cO:Nat) (all:List (List Nat)):Prop where
 p1: ∀P∈all,∃c:Nat,c<cO∧ ∀x,x∈P↔comp x=(c:Int)
 p2: ∀P∈all,(∃a b,a∈P∧b∈P∧a≠b)∨ ∃v,v∈P∧E v v
 ne: ∀P∈all,P≠ []
 p3: ∀x,0≤comp x→(∃P∈all,x∈P)∨(¬E x x∧ ∀y,comp y=comp x→y=x)
 nd:all.flatten.Nodup
theorem Gc.zero (E:Nat→Nat→Prop):Gc E (fun _=> -1) 0 []:=
 ⟨fun P h=>(List.not_mem_nil h).elim,fun P h=>(List.not_mem_nil h).elim,fun P h=>(List.not_mem_nil h).elim,fun x h=>absurd h (by decide),List.nodup_nil⟩
theorem Gc.pop {E:Nat→Nat→Prop} {comp BD:Nat→Int} {cO:Nat} {all:List (List Nat)} (h:Gc E comp cO all) (fM: ∀x,comp x<cO) {v:Nat} {t:List Nat} (kO:(v::t).Nodup) (hm: ∀x∈v::t,comp x<0)
  (hc: ∀x,BD x=if x∈v::t then(cO:Int)else comp x) {b:Bool} (hb:b=true↔E v v∨1<(v::t).length):Gc E BD (cO+1) (if b=true then all++[v::t]else all):=by
 have lR: ∀P∈all,∃c:Nat,c<cO+1∧ ∀x,x∈P↔BD x=(c:Int):=fun P hP=>by
  obtain⟨c,h1,h2⟩:=h.p1 P hP
  refine⟨c,by omega,fun x=>?_⟩
  rw[h2 x,hc x]
  by_cases e:x∈v::t
  ·rw[aA e];have:=hm x e;omega
  ·rw[ar e]
 have ah1: ∀P∈all,∀x∈P,x∉v::t:=fun P hP x hx hm2=>by
  obtain⟨c,h1,h2⟩:=h.p1 P hP
  have:=(h2 x).1 hx
  have:=hm x hm2;omega
 have keep: ∀x,x∉v::t→0≤BD x→(∃P∈all,x∈P)∨(¬E x x∧ ∀y,BD y=BD x→y=x):=fun x hx h0=>by
  rw[hc x,ar hx]at h0
  rcases h.p3 x h0 with g|⟨g1,g2⟩
  ·exact .inl g
  ·refine .inr ⟨g1,fun y hy=>?_⟩
   rw[hc x,ar hx,hc y]at hy
   by_cases e:y∈v::t
   ·rw[aA e]at hy;have:=fM x;omega
   ·rw[ar e]at hy;exact g2 y hy
 by_cases e:b=true
 ·rw[aA e]
  refine⟨fun P hP=>?_,fun P hP=>?_,fun P hP=>?_,fun x h0=>?_,?_⟩
  ·rcases List.mem_append.1 hP with hP|hP
   ·exact lR P hP
   ·rw[List.mem_singleton.1 hP]
    refine⟨cO,by omega,fun x=>?_⟩
    rw[hc x]
    by_cases e:x∈v::t
    ·rw[aA e];simp[e]
    ·rw[ar e];have:=fM x
     exact⟨fun g=>absurd g e,fun g=>by omega⟩
  ·rcases List.mem_append.1 hP with hP|hP
   ·exact h.p2 P hP
   ·rw[List.mem_singleton.1 hP]
    rcases hb.1 e with g|g
    ·exact .inr ⟨v,List.mem_cons_self,g⟩
    ·cases t with
     |nil=>simp at g
     |cons w t=>exact .inl ⟨v,w,List.mem_cons_self,List.mem_cons_of_mem _ List.mem_cons_self,fun e2=>by
       subst e2;exact(List.nodup_cons.1 kO).1 List.mem_cons_self⟩
  ·rcases List.mem_append.1 hP with hP|hP
   ·exact h.ne P hP
   ·rw[List.mem_singleton.1 hP];simp
  ·by_cases e2:x∈v::t
   ·exact .inl ⟨v::t,bl _ (List.mem_singleton.2 F),e2⟩
   ·rcases keep x e2 h0 with⟨P,hP,hx⟩|g
    ·exact .inl ⟨P,a_ _ hP,hx⟩
    ·exact .inr g
  ·rw[List.flatten_append,List.flatten_singleton]
   refine List.nodup_append.2 ⟨h.nd,kO,fun x hx y hy e2=>?_⟩
   subst e2
   obtain⟨P,hP,hx⟩:=List.mem_flatten.1 hx
   exact ah1 P hP x hx hy
 ·rw[ar e]
  have kK: ¬(E v v∨1<(v::t).length):=fun g=>e (hb.2 g)
  have ht:t=[]:=by
   cases t with
   |nil=>rfl
   |cons w t=>exact absurd (.inr (by simp)) kK
  subst ht
  refine⟨lR,h.p2,h.ne,fun x h0=>?_,h.nd⟩
  by_cases e2:x∈[v]
  ·have e3:=List.mem_singleton.1 e2
   subst e3
   refine .inr ⟨fun g=>kK (.inl g),fun y hy=>?_⟩
   rw[hc x,aA e2,hc y]at hy
   by_cases e4:y∈[x]
   ·exact List.mem_singleton.1 e4
   ·rw[ar e4]at hy;have:=fM y;omega
  ·exact keep x e2 h0
theorem PV {n:Nat} {E:Nat→Nat→Prop} {S:Nat→Prop} (hE: ∀u v,E u v→u<n∧v<n) {s:TS} {all:List (List Nat)} (h:hY n (lX E S) [] s) (hv: ∀v,v<n→S v→s.idx v≠0) (ha: ∀v,s.idx v≠0→S v) (hp:Gc (lX E S) s.comp s.cO all):je n E S all:=by
 have pos: ∀v,s.idx v≠0→0≤s.comp v:=fun v hn=>by
  by_cases hc:s.comp v<0
  ·obtain⟨g,hg,_⟩:=h.dn v ((h.mem v).2 ⟨hn,hc⟩);cases hg
  ·omega
 have mono: ∀u v,gL (lX E S) u v→0≤s.comp u→0≤s.comp v∧s.comp v≤s.comp u:=fun u v hr=>by
  induction hr with
  |refl=>exact fun h0=>⟨h0,Int.le_refl _⟩
  |step e _ ih=>
   intro h0
   have h1:=h.wk _ _ h0 e
   have h2:=ih h1.1
   exact⟨h2.1,by omega⟩
 have first: ∀u w,u≠w→gL (lX E S) u w→gL (lX E S) w u→zh E S u:=fun u w mC h1 h2=>by
  cases h1 with
  |refl=>exact absurd F mC
  |step e r=>exact⟨_,e,r.trans h2⟩
 have inP: ∀P∈all,∀v∈P,0≤s.comp v:=fun P hP v hv=>by
  obtain⟨c,_,h2⟩:=hp.p1 P hP
  rw[(h2 v).1 hv];omega
 have same: ∀P∈all,∀u∈P,∀v,v∈P↔s.comp v=s.comp u:=fun P hP u hu v=>by
  obtain⟨c,_,h2⟩:=hp.p1 P hP
  rw[h2 v,(h2 u).1 hu]
 refine⟨fun P hP v hm=>?_,hp.ne,fun P hP u hu v=>?_,fun P hP u hu=>?_,fun u hn hS hc=>?_,hp.nd⟩
 ·have h1:=(h.cmp v (inP P hP v hm)).1
  exact⟨h.B2 v h1,ha v h1⟩
 ·rw[same P hP u hu v]
  have Mi:=inP P hP u hu
  constructor
  ·intro e
   exact⟨ha v (h.cmp v (by omega)).1,h.wL u v Mi e.symm,h.wL v u (by omega) e⟩
  ·rintro⟨_,h1,h2⟩
   have h3:=mono u v h1 Mi
   have h4:=mono v u h2 h3.1
   omega
 ·have Mi:=inP P hP u hu
  have both: ∀w∈P,gL (lX E S) u w∧gL (lX E S) w u:=fun w hw=>by
   have e:=(same P hP u hu w).1 hw
   exact⟨h.wL u w Mi e.symm,h.wL w u (by omega) e⟩
  rcases hp.p2 P hP with⟨a,b,h1,h2,h3⟩|⟨v,h1,h2⟩
  ·by_cases e:u=a
   ·have hb:=both b h2
    exact first u b (by rw[e];exact h3) hb.1 hb.2
   ·have hb:=both a h1
    exact first u a e hb.1 hb.2
  ·by_cases e:u=v
   ·subst e;exact⟨u,h2,.refl _⟩
   ·have hb:=both v h1
    exact first u v e hb.1 hb.2
 ·have h0:=pos u (hv u hn hS)
  rcases hp.p3 u h0 with g|⟨g1,g2⟩
  ·exact g
  ·obtain⟨c,e,r⟩:=hc
   have h1:=h.wk u c h0 e
   have h2:=mono c u r h1.1
   have:=g2 c (by omega)
   subst this
   exact absurd e g1
structure CL where
 idx:List Nat
 low:List Nat
 dn:List Bool
 ef:List Nat
 d_:Nat
 all:List (List Nat)
 comp:Nat→Int
 cO:Nat
def CL.ts (s:CL):TS:=⟨fn s.idx,fn s.low,s.comp,s.ef,s.d_,s.cO⟩
structure Ig (d:fx) (al:Nat→Bool) (s:CL):Prop where
 li:s.idx.length=d.next.length
 ll:s.low.length=d.next.length
 ld:s.dn.length=d.next.length
 ck:s.d_+s.idx.count 0=d.next.length
 sk:s.ef.length≤s.d_
 dn: ∀x,x<d.next.length→s.dn.getD x false=decide (0≤s.comp x)
 alw: ∀x,s.idx.getD x 0≠0→al x=true
 prt:Gc (EA d al) s.comp s.cO s.all
structure JN (d:fx) (al:Nat→Bool) (dW:List Nat) (s:CL) (v:Nat) (s':CL) (t:List Nat):Prop where
 ok:Ig d al s'
 inv:hY d.next.length (EA d al) dW s'.ts
 ext:Lh s.ts s'.ts t
 post:FL (EA d al) s.ts s'.ts t v
 lt:s'.idx.count 0<s.idx.count 0
structure kN (d:fx) (al:Nat→Bool) (dW:List Nat) (s0:CL) (v x:Nat) (s:CL) (t:List Nat):Prop where
 ok:Ig d al s
 lp:iJ d.next.length (EA d al) dW s0.ts v (TE d al v) (kA d al v x) s.ts t
 lt:s.idx.count 0<s0.idx.count 0
theorem Gd {l:List Nat} {v a:Nat} (h:v<l.length) (h0:l[v]=0) (ha:a≠0):(l.set v a).count 0+1=l.count 0:=by
 rw[List.count_set h,h0]
 have:0<l.count 0:=List.count_pos_iff.2 (by rw[←h0];exact ap h)
 have GN:(a==0)=false:=by simpa using ha
 simp[GN];omega
section
variable {d:fx} {al:Nat→Bool} {dW:List Nat} {s0 s:CL} {v x:Nat} {t:List Nat}
theorem kN.enter (jk:Ig d al s) (h:hY d.next.length (EA d al) dW s.ts) (hn:v<d.next.length) (hv:s.idx[v]'(by rw[jk.li];exact hn)=0) (vB:al v=true) (hg: ∀g∈dW,gL (EA d al) g v):
  kN d al dW s v 0 {s with idx:=s.idx.set v (s.d_+1),low:=s.low.set v (s.d_+1),ef:=s.ef++[v],d_:=s.d_+1} []:=by
 have DI:v<s.idx.length:=by rw[jk.li];exact hn
 have hc:=Gd DI hv (a:=s.d_+1) (by omega)
 have h0:s.ts.idx v=0:=(ot DI).trans hv
 have QU:=jk.ck
 have Rr:=jk.sk
 refine⟨⟨by simp[jk.li],by simp[jk.ll],jk.ld,?_,?_,jk.dn,fun y hy=>?_,jk.prt⟩,?_,?_⟩
 ·show s.d_+1+(s.idx.set v (s.d_+1)).count 0=d.next.length;omega
 ·show(s.ef++[v]).length≤s.d_+1;rw[aI];simpa using Rr
 ·have e:=kv (a:=s.d_+1) DI y
  by_cases e2:y=v
  ·rw[e2];exact vB
  ·rw[ar e2]at e
   exact jk.alw y (by rw[←show(s.idx.set v (s.d_+1)).getD y 0=s.idx.getD y 0 from e];exact hy)
 ·exact iJ.enter h h0 hn hg (fun x=>kv DI x) (fun x=>kv (by rw[jk.ll];exact hn) x) (by
   by_cases Sm:s.ts.comp v<0
   ·exact Sm
   ·exact absurd h0 (h.cmp v (by omega)).1) (fun _=>rfl)
 ·show(s.idx.set v (s.d_+1)).count 0<_;omega
theorem kN.no (h:kN d al dW s0 v x s t) (ha:al (di d v x)=false):kN d al dW s0 v (x+1) s t:=⟨h.ok,by rw[ad8 ha];exact h.lp,h.lt⟩
theorem PY (hv:v<d.next.length) (hx:x<dF d) (vB:al v=true) (ha:al (di d v x)=true):EA d al v (di d v x):=⟨⟨hv,x,hx,F⟩,vB,ha⟩
theorem kN.skip (h:kN d al dW s0 v x s t) (h0:hY d.next.length (EA d al) dW s0.ts) (hx:x<dF d) (tC:di d v x<d.next.length) (ha:al (di d v x)=true) (hi:s.idx.getD (di d v x) 0≠0) (hc:s.dn.getD (di d v x) false=true):kN d al dW s0 v (x+1) s t:=by
 obtain⟨h1,h2⟩:=Ie hx ha
 rw[h.ok.dn _ tC]at hc
 exact⟨h.ok,by rw[If ha];exact h.lp.FM h1 h2 hi (of_decide_eq_true hc) h0,h.lt⟩
theorem kN.back (h:kN d al dW s0 v x s t) (h0:hY d.next.length (EA d al) dW s0.ts) (hv:v<d.next.length) (vB:al v=true) (hx:x<dF d) (tC:di d v x<d.next.length) (ha:al (di d v x)=true) (hi:s.idx.getD (di d v x) 0≠0) (hc:s.dn.getD (di d v x) false=false) {a:Nat} (hm:a=min (s.low.getD v 0) (s.idx.getD (di d v x) 0)):
  kN d al dW s0 v (x+1) {s with low:=s.low.set v a} t:=by
 obtain⟨h1,h2⟩:=Ie hx ha
 rw[h.ok.dn _ tC]at hc
 refine⟨⟨h.ok.li,by simp[h.ok.ll],h.ok.ld,h.ok.ck,h.ok.sk,h.ok.dn,h.ok.alw,h.ok.prt⟩,?_,h.lt⟩
 rw[If ha]
 exact h.lp.FN h1 h2 (PY hv hx vB ha) hi (by have:=of_decide_eq_false hc;show s.comp _<0;omega) h0 (fun y=>by subst hm;exact kv (by rw[h.ok.ll];exact hv) y)
theorem kN.oH (h:kN d al dW s0 v x s t) (h0:hY d.next.length (EA d al) dW s0.ts) (hv:v<d.next.length) (vB:al v=true) (hx:x<dF d) (ha:al (di d v x)=true) (hi:s.idx.getD (di d v x) 0=0) {s':CL} {t2:List Nat} (uV:JN d al (dW++[v]) s (di d v x) s' t2) {a:Nat} (hm:a=min (s'.low.getD v 0) (s'.low.getD (di d v x) 0)):
  kN d al dW s0 v (x+1) {s' with low:=s'.low.set v a} (t++t2):=by
 obtain⟨h1,h2⟩:=Ie hx ha
 have:=h.lt;have:=uV.lt
 refine⟨⟨uV.ok.li,by simp[uV.ok.ll],uV.ok.ld,uV.ok.ck,uV.ok.sk,uV.ok.dn,uV.ok.alw,uV.ok.prt⟩,?_,by show s'.idx.count 0<_;omega⟩
 rw[If ha]
 exact h.lp.FO h1 h2 (PY hv hx vB ha) hi h0 uV.inv uV.ext uV.post (fun y=>by subst hm;exact kv (by rw[uV.ok.ll];exact hv) y)
theorem kN.child (hg: ∀g∈dW,gL (EA d al) g v) (hv:v<d.next.length) (vB:al v=true) (hx:x<dF d) (ha:al (di d v x)=true): ∀g∈dW++[v],gL (EA d al) g (di d v x):=fun g hm=>by
 have hE:=PY hv hx vB ha
 rcases List.mem_append.1 hm with hm|hm
 ·exact(hg g hm).tail hE
 ·simp at hm;subst hm;exact .one hE
theorem kN.AI (h:kN d al dW s0 v x s t) (h0:hY d.next.length (EA d al) dW s0.ts) (hx:x=dF d) (mC:s.low.getD v 0≠s.idx.getD v 0):JN d al dW s0 v s (v::t):=by
 obtain⟨h1,h2,h3⟩:=h.lp.AI h0 (by rw[hx,PS];exact aV _) (fun u hu=>PU hu) mC
 exact⟨h.ok,h1,h2,h3,h.lt⟩
theorem kN.ZR (h:kN d al dW s0 v x s t):s.all.length≤d.next.length:=by
 have h1:s.all.flatten.length≤d.next.length:=gJ h.ok.prt.nd fun u hu=>by
  obtain⟨P,hP,hu⟩:=List.mem_flatten.1 hu
  obtain⟨c,_,h2⟩:=h.ok.prt.p1 P hP
  have hc:0≤s.comp u:=by rw[(h2 u).1 hu];omega
  exact h.lp.inv.B2 u (h.lp.inv.cmp u hc).1
 have h2: ∀l:List (List Nat),(∀P∈l,P≠ [])→l.length≤l.flatten.length:=by
  intro l
  induction l with
  |nil=>intro _;exact aV _
  |cons P l ih=>
   intro hl
   have h3:=List.length_pos_iff.2 (hl P List.mem_cons_self)
   have h4:=ih fun Q hQ=>hl Q (List.mem_cons_of_mem _ hQ)
   rw[List.flatten_cons,aI,cd];omega
 exact cT (h2 _ h.ok.prt.ne) h1
theorem kN.ah3 (h:kN d al dW s0 v x s t):s.ef=s0.ef++v::t:=h.lp.ef
theorem kN.nd (h:kN d al dW s0 v x s t):(v::t).Nodup:=by
 have h1:=h.lp.inv.Pm
 rw[show s.ts.ef=s0.ef++v::t from h.lp.ef]at h1
 exact(List.pairwise_append.1 h1).2.1.imp (fun {a b} mH e=>by subst e;exact Nat.lt_irrefl _ mH)
theorem kN.ah4 (h:kN d al dW s0 v x s t):v∉s0.ef:=fun hm=>by
 have h1:=h.lp.inv.Pm
 rw[show s.ts.ef=s0.ef++v::t from h.lp.ef]at h1
 exact Nat.lt_irrefl _ ((List.pairwise_append.1 h1).2.2 v hm v List.mem_cons_self)
theorem kN.pop (h:kN d al dW s0 v x s t) (h0:hY d.next.length (EA d al) dW s0.ts) (Tm:Ig d al s0) (hx:x=dF d) (he:s.low.getD v 0=s.idx.getD v 0) {dn:List Bool} (hl:dn.length=d.next.length) (BW: ∀y,y<d.next.length→dn.getD y false=(decide (y∈v::t)||s.dn.getD y false)) {b:Bool} (hb:b=true↔EA d al v v∨1<(v::t).length):
  JN d al dW s0 v {s with dn:=dn,ef:=s0.ef,cO:=s.cO+1,comp:=fun y=>if y∈v::t then(s.cO:Int)else s.comp y,all:=if b=true then s.all++[v::t]else s.all} []:=by
 obtain⟨h1,h2,h3⟩:=h.lp.pop h0 (by rw[hx,PS];exact aV _) (fun u hu=>PU hu) he (comp:=fun y=>if y∈v::t then(s.cO:Int)else s.comp y) (fun _=>rfl)
 have h9:s0.d_≤s.d_:=h.lp.d_
 have Rr:=Tm.sk
 have Ev: ∀y∈v::t,s.comp y<0:=fun y hy=>((h.lp.inv.mem y).1 (by rw[show s.ts.ef=s0.ef++v::t from h.lp.ef];exact bl _ hy)).2
 have nN: ∀y,s.comp y<s.cO:=fun y=>by
  by_cases hc:0≤s.comp y
  ·exact(h.lp.inv.cmp y hc).2
  ·omega
 refine⟨⟨h.ok.li,h.ok.ll,hl,h.ok.ck,by show s0.ef.length≤s.d_;omega,fun y hy=>?_,h.ok.alw,h.ok.prt.pop nN h.nd Ev (fun _=>rfl) hb⟩,h1,h2,h3,h.lt⟩
 show dn.getD y false=decide (0≤if y∈v::t then(s.cO:Int)else s.comp y)
 rw[BW y hy,h.ok.dn y hy]
 by_cases e:y∈v::t
 ·rw[aA e];simp[e]
 ·rw[ar e];simp[e]
end
theorem CL.start (d:fx) (al:Nat→Bool):Ig d al {idx:=List.replicate d.next.length 0,low:=List.replicate d.next.length 0,dn:=List.replicate d.next.length false,ef:=[],d_:=0,all:=[],comp:=fun _=> -1,cO:=0}∧hY d.next.length (EA d al) [] (CL.ts {idx:=List.replicate d.next.length 0,low:=List.replicate d.next.length 0,dn:=List.replicate d.next.length false,ef:=[],d_:=0,all:=[],comp:=fun _=> -1,cO:=0}):=by
 have hz: ∀x,(List.replicate d.next.length 0).getD x 0=0:=fun x=>by
  rw[aj,List.getElem?_replicate];split<;>rfl
 refine⟨⟨by simp,by simp,by simp,by simp,by simp,fun x hx=>?_,fun x hx=>absurd (hz x) hx,Gc.zero _⟩,?_⟩
 ·show(List.replicate d.next.length false).getD x false=decide ((0:Int)≤ -1)
  rw[aj,List.getElem?_replicate];split<;>rfl
 ·exact hY.ext (idx:=fn (List.replicate d.next.length 0)) (low:=fn (List.replicate d.next.length 0)) (comp:=fun _=> -1) (hY.start (E:=EA d al) d.next.length (fun _=>0)) (fun x=>hz x) (fun _=>rfl)
def dY (l:List Nat):List Int:=l.map fun x:Nat=>(x:Int)
theorem lN (l:List Nat):ints (dY l)=bn l:=by unfold dY;simp
theorem pf (l:List Nat):(dY l).length=l.length:=by unfold dY;simp
theorem YN {l a t:List Nat} {v i:Nat} (h:l=a++v::t) (hv:v∉a) {hi:i<l.length} (hx:l[i]=v) (h0:v∉l.take i):i=a.length:=by
 subst h
 rcases Nat.lt_trichotomy i a.length with e|e|e
 ·rw[List.getElem_append_left e]at hx
  exact absurd (hx▸ap e) hv
 ·exact e
 ·refine absurd ?_ h0
  rw[List.take_append,aN (by omega)]
  refine bl _ ?_
  rw[show i-a.length=(i-a.length-1)+1 by omega,List.take_succ_cons]
  exact List.mem_cons_self
theorem Ih {w:World} {b:Option Addr} {xs:List Nat} (h:Sl w b (bn xs)) {c:Nat} (lo:Nat) (hc:xs.length≤c):Sl w (pM b c lo 1) (bn (xs.drop lo)):=by
 have h1:=zy (xs:=dY xs) (by rw[lN];exact h) (c:=c) lo (by rw[pf];exact hc)
 rw[show(dY xs).drop lo=dY (xs.drop lo)from List.map_drop.symm,lN]at h1
 exact h1
theorem TF {dn z:List Bool} {n:Nat} {l:List Nat} {j:Nat} (hl:dn.length=n) (hj:j<l.length) (hn:l[j]<n) (h: ∀y,y<n→dn.getD y false=(decide (y∈l.take j)||z.getD y false)): ∀y,y<n→(dn.set l[j] true).getD y false=(decide (y∈l.take (j+1))||z.getD y false):=fun y hy=>by
 have e:=HP (l:=dn) (v:=l[j]) (a:=true) (by omega) y
 have lH:y∈l.take (j+1)↔y∈l.take j∨y=l[j]:=by rw[an hj,cI,bM]
 rw[show(dn.set l[j] true).getD y false=fb (dn.set l[j] true) y from F,e]
 by_cases e2:y=l[j]
 ·rw[aA e2,bz (lH.2 (.inr e2))];rfl
 ·rw[ar e2,show fb dn y=dn.getD y false from F,h y hy]
  have e3:decide (y∈l.take j)=decide (y∈l.take (j+1)):=decide_eq_decide.2 (by rw[lH];exact⟨.inl,fun g=>g.elim id (fun g=>absurd g e2)⟩)
  rw[e3]
def gK (d:fx) (v:Nat):Nat→Bool
 |0=>false
 |x+1=>gK d v x||decide (di d v x=v)
theorem iM {d:fx} {v x:Nat} (h:gK d v x=true):gK d v (x+1)=true:=by unfold gK;rw[h];rfl
theorem iN {d:fx} {v x:Nat} (h:di d v x=v):gK d v (x+1)=true:=by unfold gK;rw[bz h,Bool.or_true]
theorem jP {d:fx} {v x:Nat} (h: ¬gK d v x=true) (h2:di d v x≠v):gK d v (x+1)=false:=by unfold gK;rw[Bool.eq_false_iff.2 h,bT h2];rfl
theorem zE {d:fx} {v:Nat}: ∀ {x:Nat},gK d v x=true↔ ∃y,y<x∧di d v y=v
 |0=>⟨fun h=>(Bool.false_ne_true h).elim,fun⟨y,h,_⟩=>absurd h (Nat.not_lt_zero _)⟩
 |x+1=>by
  constructor
  ·intro h
   by_cases h1:gK d v x=true
   ·obtain⟨y,h2,h3⟩:=zE.1 h1
    exact⟨y,by omega,h3⟩
   ·by_cases h2:di d v x=v
    ·exact⟨x,by omega,h2⟩
    ·rw[jP h1 h2]at h;cases h
  ·rintro⟨y,h1,h2⟩
   rcases Nat.lt_succ_iff_lt_or_eq.1 h1 with h1|rfl
   ·exact iM (zE.2 ⟨y,h1,h2⟩)
   ·exact iN h2
theorem zF {d:fx} {al:Nat→Bool} {v:Nat} (hv:v<d.next.length) (vB:al v=true):gK d v (dF d)=true↔EA d al v v:=zE.trans ⟨fun⟨y,h1,h2⟩=>⟨⟨hv,y,h1,h2⟩,vB,vB⟩,fun⟨⟨_,y,h1,h2⟩,_⟩=>⟨y,h1,h2⟩⟩
theorem wz {L L' OO:List Item} {I:TypeId} {iS:List Rec} {R:Rec} (h:Sub (L'++[R.jS I]) L):Sub (L'++(bQ I (iS++[R])++OO)) (L++(bQ I iS++OO)):=by
 obtain⟨l,h1,h2⟩:=h.Cb (M:=bQ I iS++OO)
 refine⟨l,List.Perm.trans ?_ h1,h2⟩
 have e:bQ I (iS++[R])=bQ I iS++[R.jS I]:=by simp[bQ]
 rw[e,bw,bw]
 exact(List.perm_append_comm_assoc (bQ I iS) [R.jS I] OO).append_left L'
structure lZ (E:Nat→Nat→Prop) (pr r:Nat→Nat) (P:Nat→Prop):Prop where
 sub: ∀m,lE pr P m→km E pr r (fun u=>P u∧pr u<m)
 top: ∀m k,lE pr P m→uI r (fun u=>P u∧pr u<m) k→ ∀v,P v→pr v=m→r v=k+(k+m)%2
theorem zH {n:Nat} {E:Nat→Nat→Prop} {pr r:Nat→Nat} {S:Nat→Prop} (h0: ∀v,S v→ ¬zh E S v→r v=0) (hp: ∀v,S v→zh E S v→lZ E pr r (mO E S v)):km E pr r S:=
 .mk h0 (fun v hv hc m hm=>(hp v hv hc).sub m hm) (fun v hv hc m k hm Ax hk=>(hp v hv hc).top m k hm hk v (.refl hv) Ax)
theorem Dy {n:Nat} {E:Nat→Nat→Prop} {pr r:Nat→Nat} {S:Nat→Prop} {all:List (List Nat)} (h:je n E S all) (hS: ∀v,S v→v<n) (h0: ∀v,S v→(∀P∈all,v∉P)→r v=0) (hp: ∀P∈all,lZ E pr r (fun u=>u∈P)):km E pr r S:=by
 have e: ∀P∈all,∀v∈P,mO E S v=fun u=>u∈P:=fun P hP v hv=>funext fun u=>propext (h.cmp P hP v hv u).symm
 refine zH (n:=n) (fun v hv hc=>h0 v hv fun P hP hvP=>hc (h.cyc P hP v hvP)) (fun v hv hc=>?_)
 obtain⟨P,hP,hvP⟩:=h.full v (hS v hv) hv hc
 rw[e P hP v hvP];exact hp P hP
theorem uI.congr {f g:Nat→Nat} {P:Nat→Prop} {k:Nat} (h:uI f P k) (he: ∀v,P v→g v=f v):uI g P k:=
 ⟨fun u hu=>by rw[he u hu];exact h.1 u hu,h.2.imp id fun⟨u,hu,e⟩=>⟨u,hu,by rw[he u hu];exact e⟩⟩
theorem lZ.ext {E:Nat→Nat→Prop} {pr r r':Nat→Nat} {P:Nat→Prop} (h:lZ E pr r P) (he: ∀v,P v→r' v=r v):lZ E pr r' P:=
 ⟨fun m hm=>(h.sub m hm).ext fun v hv=>he v hv.1,fun m k hm hk v hv Ax=>by
  rw[he v hv]
  exact h.top m k hm (hk.congr fun u hu=>(he u hu.1).symm) v hv Ax⟩
theorem sF {E:Nat→Nat→Prop} {pr o1 o2:Nat→Nat} {P:Nat→Prop} {m k0:Nat} (hm:lE pr P m) (h1:km E pr o1 (fun u=>P u∧pr u<m)) (hk:uI o1 (fun u=>P u∧pr u<m) k0)
  (ht: ∀v,P v→ ¬pr v<m→o2 v=k0+(k0+m)%2) (low: ∀v,P v→pr v<m→o2 v=o1 v):lZ E pr o2 P:=by
 refine⟨fun m' WU=>?_,fun m' k' WU AK v hv Ax=>?_⟩
 ·obtain rfl:=hm.unique WU
  exact h1.ext fun v hv=>low v hv.1 hv.2
 ·obtain rfl:=hm.unique WU
  obtain rfl:=hk.unique (AK.congr fun v hv=>(low v hv.1 hv.2).symm)
  exact ht v hv (by omega)
structure Dl (E:Nat→Nat→Prop) (pr:Nat→Nat) (o0 o:Nat→Nat) (ps:List (List Nat)) (jQ:Nat):Prop where
 parts: ∀P∈ps,lZ E pr o (fun u=>u∈P)
 out: ∀v,(∀P∈ps,v∉P)→o v=o0 v
 max:uI o (fun u=> ∃P∈ps,u∈P) jQ
theorem Dl.start (E:Nat→Nat→Prop) (pr o:Nat→Nat):Dl E pr o o [] 0:=
 ⟨fun P hP=>(List.not_mem_nil hP).elim,fun _ _=>rfl,fun u ⟨P,hP,_⟩=>(List.not_mem_nil hP).elim,.inl F⟩
theorem Dl.step {E:Nat→Nat→Prop} {pr o0 o o1 o2:Nat→Nat} {ps:List (List Nat)} {jQ:Nat} (h:Dl E pr o0 o ps jQ) {P:List Nat} (hd: ∀Q∈ps,∀v∈Q,v∉P) {m k0:Nat} (hm:lE pr (fun u=>u∈P) m)
  (h1:km E pr o1 (fun u=>u∈P∧pr u<m)) (aiE: ∀v,¬(v∈P∧pr v<m)→o1 v=o v) (hk:uI o1 (fun u=>u∈P∧pr u<m) k0) (h2: ∀v,o2 v=if v∈P∧ ¬pr v<m then k0+(k0+m)%2 else o1 v):Dl E pr o0 o2 (ps++[P]) (Nat.max jQ (k0+(k0+m)%2)):=by
 have off: ∀v,v∉P→o2 v=o v:=fun v hv=>by rw[h2 v,ar (fun g=>hv g.1),aiE v (fun g=>hv g.1)]
 have low: ∀v,v∈P∧pr v<m→o2 v=o1 v:=fun v hv=>by rw[h2 v,ar (fun g=>g.2 hv.2)]
 have lR: ∀Q∈ps,∀v∈Q,o2 v=o v:=fun Q hQ v hv=>off v (hd Q hQ v hv)
 have le: ∀u∈P,o2 u≤k0+(k0+m)%2:=fun u hu=>by
  by_cases e:pr u<m
  ·rw[low u ⟨hu,e⟩];have:=hk.1 u ⟨hu,e⟩;omega
  ·rw[h2 u,aA ⟨hu,e⟩];exact aV _
 refine⟨fun Q hQ=>?_,fun v hv=>?_,fun u hu=>?_,?_⟩
 ·rcases List.mem_append.1 hQ with hQ|hQ
  ·exact(h.parts Q hQ).ext (lR Q hQ)
  ·rw[List.mem_singleton.1 hQ]
   exact sF hm h1 hk (fun v hv Yf=>by rw[h2 v,aA ⟨hv,Yf⟩]) (fun v hv fM=>low v ⟨hv,fM⟩)
 ·rw[off v (hv P (bl _ (List.mem_singleton.2 F)))]
  exact h.out v fun Q hQ=>hv Q (a_ _ hQ)
 ·obtain⟨Q,hQ,hu⟩:=hu
  rcases List.mem_append.1 hQ with hQ|hQ
  ·rw[lR Q hQ u hu]
   exact cT (h.max.1 u ⟨Q,hQ,hu⟩) (Nat.le_max_left _ _)
  ·rw[List.mem_singleton.1 hQ]at hu
   exact cT (le u hu) (Nat.le_max_right _ _)
 ·obtain⟨u,hu,e⟩:=hm.1
  have hmP:P∈ps++[P]:=bl _ (List.mem_singleton.2 F)
  rcases Nat.le_total jQ (k0+(k0+m)%2)with g|g
  ·refine .inr ⟨u,⟨P,hmP,hu⟩,?_⟩
   rw[show Nat.max jQ (k0+(k0+m)%2)=k0+(k0+m)%2 from Nat.max_eq_right g,h2 u,aA ⟨hu,by omega⟩]
  ·rw[show Nat.max jQ (k0+(k0+m)%2)=jQ from Nat.max_eq_left g]
   rcases h.max.2 with q|⟨v,⟨Q,hQ,hv⟩,e⟩
   ·exact .inl q
   ·exact .inr ⟨v,⟨Q,a_ _ hQ,hv⟩,by rw[lR Q hQ v hv];exact e⟩
structure LM (E:Nat→Nat→Prop) (pr:Nat→Nat) (S:Nat→Prop) (o0 o:Nat→Nat) (jQ:Nat):Prop where
 V3:km E pr o S
 out: ∀v,¬S v→o v=o0 v
 max:uI o S jQ
theorem Dl.done {n:Nat} {E:Nat→Nat→Prop} {pr o0 o:Nat→Nat} {S:Nat→Prop} {all:List (List Nat)} {jQ:Nat} (h:Dl E pr o0 o all jQ) (hp:je n E S all) (hS: ∀v,S v→v<n) (h0: ∀v,S v→o0 v=0):LM E pr S o0 o jQ:=
 ⟨Dy hp hS (fun v hv kK=>by rw[h.out v kK];exact h0 v hv) h.parts,fun v hv=>h.out v fun P hP hm=>hv (hp.sub P hP v hm).2,fun u hu=>by
  by_cases e: ∃P∈all,u∈P
  ·exact h.max.1 u e
  ·rw[h.out u (fun P hP hm=>e ⟨P,hP,hm⟩),h0 u hu];exact aG _,h.max.2.imp id fun⟨u,⟨P,hP,hu⟩,e⟩=>⟨u,(hp.sub P hP u hu).2,e⟩⟩
theorem LM.le {n:Nat} {E:Nat→Nat→Prop} {pr o0 o:Nat→Nat} {S:Nat→Prop} {jQ b:Nat} (h:LM E pr S o0 o jQ) (hS: ∀v,S v→v<n) (hb: ∀v,pr v≤b):jQ≤b:=by
 rcases h.max.2 with e|⟨u,hu,e⟩
 ·omega
 ·have:=h.V3.le hS u hu;have:=hb u;omega
def qv (pr:Nat→Nat) (l:List Nat):Nat:=(l.map pr).foldl max 0
theorem QO (pr:Nat→Nat) (l:List Nat) (v:Nat):qv pr (l++[v])=max (qv pr l) (pr v):=by unfold qv;rw[aL,oD];simp
theorem Qc {pr:Nat→Nat} {l:List Nat} {j:Nat} (h:j<l.length):qv pr (l.take (j+1))=max (qv pr (l.take j)) (pr l[j]):=by rw[an h,QO]
theorem P_ {pr:Nat→Nat} {l:List Nat} (h:l≠ []):lE pr (fun u=>u∈l) (qv pr l):=by
 have mC:l.map pr≠ []:=fun e=>h (List.map_eq_nil_iff.1 e)
 obtain⟨u,hu,e⟩:=List.mem_map.1 (lW mC)
 exact⟨⟨u,hu,e⟩,fun v hv=>k_ (List.mem_map_of_mem hv)⟩
theorem YY {pr:Nat→Nat} {b:Nat} (hb: ∀v,pr v≤b) (l:List Nat):qv pr l≤b:=uG fun x hx=>by
 obtain⟨v,_,rfl⟩:=List.mem_map.1 hx
 exact hb v
def tF (m:List (Int×Bool)) (v:Nat):Bool:=(eN ((v:Nat):Int) m).getD false
theorem JT (m:List (Int×Bool)) (v u:Nat):tF (gH ((v:Nat):Int) true m) u=(decide (u=v)||tF m u):=by
 unfold tF
 rw[vF]
 by_cases e:u=v
 ·subst e;rw[aA F];simp
 ·rw[ar (by omega),bT e];rfl
theorem JO (v:Nat):tF [] v=false:=rfl
theorem Qd {pr:Nat→Nat} {l:List Nat} {m:Nat} {mm:List (Int×Bool)} {j:Nat} (hj:j<l.length) (h: ∀u,tF mm u=decide (u∈l.take j∧pr u<m)) (fM:pr l[j]<m): ∀u,tF (gH ((l[j]:Nat):Int) true mm) u=decide (u∈l.take (j+1)∧pr u<m):=fun u=>by
 rw[JT,h u,an hj,fQ]
 simp only[Bool.or_eq_true,bo,cI,bM]
 constructor
 ·rintro(rfl|⟨h1,h2⟩)
  ·exact⟨.inr F,fM⟩
  ·exact⟨.inl h1,h2⟩
 ·rintro⟨h1|h1,h2⟩
  ·exact .inr ⟨h1,h2⟩
  ·exact .inl h1
theorem Qe {pr:Nat→Nat} {l:List Nat} {m:Nat} {mm:List (Int×Bool)} {j:Nat} (hj:j<l.length) (h: ∀u,tF mm u=decide (u∈l.take j∧pr u<m)) (fM: ¬pr l[j]<m): ∀u,tF mm u=decide (u∈l.take (j+1)∧pr u<m):=fun u=>by
 rw[h u,an hj,fQ]
 simp only[bo,cI,bM]
 exact⟨fun g=>⟨.inl g.1,g.2⟩,fun g=>⟨g.1.elim id (fun e=>absurd (e▸g.2) fM),g.2⟩⟩
theorem TU {pr:Nat→Nat} {l o o1:List Nat} {m k j:Nat} (hj:j<l.length) (hl:l[j]<o.length) (h: ∀u,fn o u=if u∈l.take j∧ ¬pr u<m then k else fn o1 u) (Yf: ¬pr l[j]<m): ∀u,fn (o.set l[j] k) u=if u∈l.take (j+1)∧ ¬pr u<m then k else fn o1 u:=fun u=>by
 rw[kv hl u,an hj]
 by_cases e:u=l[j]
 ·rw[aA e,aA ⟨bl _ (List.mem_singleton.2 e),by rw[e];exact Yf⟩]
 ·rw[ar e,h u]
  by_cases g:u∈l.take j∧ ¬pr u<m
  ·rw[aA g,aA ⟨a_ _ g.1,g.2⟩]
  ·rw[ar g,ar (fun q=>g ⟨(List.mem_append.1 q.1).elim id (fun q=>absurd (List.mem_singleton.1 q) e),q.2⟩)]
theorem Qg {pr:Nat→Nat} {l o o1:List Nat} {m k j:Nat} (hj:j<l.length) (h: ∀u,fn o u=if u∈l.take j∧ ¬pr u<m then k else fn o1 u) (Yf:pr l[j]<m): ∀u,fn o u=if u∈l.take (j+1)∧ ¬pr u<m then k else fn o1 u:=fun u=>by
 rw[h u,an hj]
 by_cases g:u∈l.take j∧ ¬pr u<m
 ·rw[aA g,aA ⟨a_ _ g.1,g.2⟩]
 ·rw[ar g,ar (fun q=>(List.mem_append.1 q.1).elim (fun q2=>g ⟨q2,q.2⟩) (fun q2=>q.2 (by rw[List.mem_singleton.1 q2];exact Yf)))]
theorem LN {all:List (List Nat)} (h:all.flatten.Nodup) {i:Nat} (hi:i<all.length): ∀Q∈all.take i,∀v∈Q,v∉all[i]:=fun Q hQ v hv hm=>by
 have e:all=all.take i++(all[i]::all.drop (i+1)):=by rw[←List.drop_eq_getElem_cons hi];exact(List.take_append_drop i all).symm
 rw[e,List.flatten_append]at h
 exact(List.nodup_append.1 h).2.2 v (List.mem_flatten.2 ⟨Q,hQ,hv⟩) v (by rw[List.flatten_cons];exact a_ _ hm) F
noncomputable def aiF (p:dG):Nat→Nat:= @Classical.epsilon (Nat→Nat) ⟨fun _=>0⟩ (nH p)
noncomputable def un (p:dG):dG:=if b7 p=0 then C5 p (aiF p)else JC
theorem Ii {p:dG} (h:b7 p=0) {f:Nat→Nat} (hr:nH p f):un p=C5 p f:=by
 unfold un;rw[aA h]
 exact(Classical.epsilon_spec (p:=nH p) ⟨f,hr⟩).unique hr
theorem Y5 {p:dG} (h:b7 p≠0):un p=JC:=ar h
theorem LM.of {p:dG} {S:Nat→Prop} (hS: ∀v,S v↔v<p.next.length) {o0 o:Nat→Nat} {jQ:Nat} (h:LM (DE p.d) (fC p) S o0 o jQ):nH p o:=by
 have e:S=StS p:=funext fun v=>propext (hS v)
 rw[e]at h
 exact⟨h.V3⟩
end Go.Lx
