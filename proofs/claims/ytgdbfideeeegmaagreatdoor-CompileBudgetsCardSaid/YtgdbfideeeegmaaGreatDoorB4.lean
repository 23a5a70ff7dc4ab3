/- Contracts of functions of the program, and what they answer. Conditions: those each theorem names. -/
import Derived.Test.YtgdbfideeeegmaaGreatDoorB3
import Derived.Test.YtgdbfideeeegmaaGreatDoorA1
import Derived.Test.YtgdbfideeeegmaaGreatDoorA2
import Derived.Test.YtgdbfideeeegmaaGreatDoorA5
import Derived.Test.YtgdbfideeeegmaaGreatDoorB2
set_option linter.unusedSectionVars false
set_option linter.unusedSimpArgs false
set_option linter.unusedVariables false
set_option linter.unnecessarySimpa false
set_option maxHeartbeats 8000000
set_option maxRecDepth 20000
namespace Go.Lx
open Go.RowKit Go.Proofs.YtgdbfideeeegmaaGreatDoor
def YP (L x:Nat):PP:=(0,[⟨3,x,L-1-x,0,0⟩])
def Wm:PP:=(1,[⟨1,0,0,0,0⟩])
def YQ:PP:=(2,[⟨2,0,0,0,0⟩])
def Fx (m:bU) (s t:Nat):Nat→PP
 |0=>if s=t then YQ else Wm
 |x+1=>if dY m s x=t then yg (Fx m s t x) (YP (da m) x)else Fx m s t x
def ke (m:bU):Nat→Nat→Nat→PP
 |0,s,t=>Fx m s t (da m)
 |k+1,s,t=>yg (ke m k s t) (z_ (z_ (ke m k s k) (xg (ke m k k k))) (ke m k k t))
def wv (m:bU):Nat→PP
 |0=>Wm
 |t+1=>if cF m t=true then yg (wv m t) (ke m m.next.length 0 t)else wv m t
def Co (m:bU):PP:=wv m m.next.length
def KQ (m:bU):Nat:=if(Co m).1=3 then 4 else 0
def Ho (m:bU):List dF:=if(Co m).1=3 then[]else(Co m).2
theorem Ad {L x:Nat} (h:x<L) (hL:L≤256):ek (YP L x):=.one (by decide) (by decide) (by omega) (by omega)
theorem uZ:ek Wm:=.one (by decide) (by decide) (by decide) (by decide)
theorem Hp:ek YQ:=.one (by decide) (by decide) (by decide) (by decide)
theorem q8 {m:bU} (hL:da m≤256) (s t:Nat): ∀x,x≤da m→ek (Fx m s t x)
 |0,_=>by
  unfold Fx;split
  ·exact Hp
  ·exact uZ
 |x+1,h=>by
  unfold Fx;split
  ·exact sg (q8 hL s t x (by omega)) (Ad (by omega) hL)
  ·exact q8 hL s t x (by omega)
theorem gh {m:bU} (hL:da m≤256): ∀k s t,ek (ke m k s t)
 |0,s,t=>q8 hL s t _ (Nat.le_refl _)
 |k+1,s,t=>sg (gh hL k s t) (pg (pg (gh hL k s k) (uX (gh hL k k k))) (gh hL k k t))
theorem ph {m:bU} (hL:da m≤256): ∀t,ek (wv m t)
 |0=>uZ
 |t+1=>by
  unfold wv;split
  ·exact sg (ph hL t) (gh hL _ _ _)
  ·exact ph hL t
structure MR where
 b:Option Addr
 c:Nat
 l:List PR
instance:Inhabited MR:=⟨⟨none,0,[]⟩⟩
abbrev MR.val (r:MR):Value:=.slice r.b r.l.length r.c
def MR.qG (T:TypeId) (r:MR):Item:=am r.b r.c T 2 (dp r.l)
def dt (T:TypeId) (R:List MR):List Item:=R.map (MR.qG T)
def ja (R:List MR):List Value:=R.map MR.val
structure tS (l:List PR) (p:List ER) (g:Nat→PP):Prop where
 pp: ∀j (h:j<l.length),l[j].pp=g j
 po: ∀x∈l,eJ p x.r
theorem tS.nil {p:List ER} {g:Nat→PP}:tS [] p g:=⟨fun j h=>absurd h (by simp),fun x hx=>by simp at hx⟩
theorem tS.mono {l:List PR} {p q:List ER} {g:Nat→PP} (h:tS l p g) (hq: ∀x∈p,x∈q):tS l q g:=⟨h.pp,fun x hx=>(h.po x hx).mono hq⟩
theorem tS.snoc {l:List PR} {p:List ER} {g:Nat→PP} (h:tS l p g) {c:PR} (hc:c.pp=g l.length) (hp:eJ p c.r):tS (l++[c]) p g:=by
 refine⟨fun j hj=>?_,fun x hx=>?_⟩
 ·rw[List.length_append,List.length_singleton]at hj
  rcases Nat.lt_or_ge j l.length with e|e
  ·rw[List.getElem_append_left e];exact h.pp j e
  ·have:j=l.length:=by omega
   subst this
   rw[List.getElem_append_right (Nat.le_refl _)]
   simpa using hc
 ·rcases List.mem_append.1 hx with hx|hx
  ·exact h.po x hx
  ·rw[List.mem_singleton.1 hx];exact hp
structure nJ (R:List MR) (p:List ER) (n:Nat) (f:Nat→Nat→PP):Prop where
 len: ∀r∈R,r.l.length=n
 row: ∀i (h:i<R.length),tS R[i].l p (f i)
theorem nJ.nil {p:List ER} {n:Nat} {f:Nat→Nat→PP}:nJ [] p n f:=⟨fun r hr=>by simp at hr,fun i h=>absurd h (by simp)⟩
theorem nJ.mono {R:List MR} {p q:List ER} {n:Nat} {f:Nat→Nat→PP} (h:nJ R p n f) (hq: ∀x∈p,x∈q):nJ R q n f:=⟨h.len,fun i hi=>(h.row i hi).mono hq⟩
theorem nJ.snoc {R:List MR} {p:List ER} {n:Nat} {f:Nat→Nat→PP} (h:nJ R p n f) {r:MR} (hl:r.l.length=n) (hr:tS r.l p (f R.length)):nJ (R++[r]) p n f:=by
 refine⟨fun x hx=>?_,fun i hi=>?_⟩
 ·rcases List.mem_append.1 hx with hx|hx
  ·exact h.len x hx
  ·rw[List.mem_singleton.1 hx];exact hl
 ·rw[List.length_append,List.length_singleton]at hi
  rcases Nat.lt_or_ge i R.length with e|e
  ·rw[List.getElem_append_left e];exact h.row i e
  ·have:i=R.length:=by omega
   subst this
   rw[List.getElem_append_right (Nat.le_refl _)]
   simpa using hr
def gA (R:List MR) (n:Nat):List Value:=ja R++List.replicate (n-R.length) (.slice none 0 0)
theorem kg {R:List MR} {n:Nat} (h:R.length≤n):(gA R n).length=n:=by unfold gA ja;rw[List.length_append,List.length_map,List.length_replicate];omega
theorem KR {R:List MR} {n:Nat} (h:R.length<n):(gA R n)[R.length]? =some (.slice none 0 0):=by
 unfold gA ja
 rw[List.getElem?_append_right (by simp),List.length_map,Nat.sub_self,show n-R.length=(n-R.length-1)+1 by omega,List.replicate_succ];rfl
theorem q9 {R:List MR} {n:Nat} (h:R.length<n) (r:MR):(gA R n).set R.length r.val=gA (R++[r]) n:=by
 unfold gA ja
 rw[List.set_append_right _ _ (by simp),List.length_map,Nat.sub_self,show n-R.length=(n-(R++[r]).length)+1 by simp;omega,List.replicate_succ,List.map_append]
 simp
theorem xm {R:List MR} {n:Nat} (h:R.length=n):gA R n=ja R:=by unfold gA;rw[h,Nat.sub_self];simp
theorem mm {R:List MR} {i:Nat} (h:i<R.length):(ja R)[i]? =some R[i].val:=by unfold ja;rw[List.getElem?_map,List.getElem?_eq_getElem h];rfl
theorem mn (R:List MR):(ja R).length=R.length:=List.length_map _
theorem Ae (T:TypeId) (R S:List MR):dt T (R++S)=dt T R++dt T S:=List.map_append
theorem iC {T:TypeId} {R:List MR} {i:Nat} (h:i<R.length):am R[i].b R[i].c T 2 (dp R[i].l)∈dt T R:=List.mem_map.2 ⟨_,List.getElem_mem h,F⟩
theorem Af {R:List MR} {n:Nat} (h:R.length<n):gA R n=gA (R++[⟨none,0,[]⟩]) n:=by
 rw[←q9 h]
 apply List.ext_getElem?
 intro i
 by_cases e:i=R.length
 ·subst e;rw[KR h,List.getElem?_set_self (by rw[kg (by omega)];exact h)];rfl
 ·rw[List.getElem?_set_ne (fun h=>e h.symm)]
theorem Ah {R:List MR} {n:Nat} (h:R.length<n) (r:MR):(gA (R++[r]) n)[R.length]? =some r.val:=by
 rw[←q9 h,List.getElem?_set_self (by rw[kg (by omega)];exact h)]
theorem xn {R:List MR} {n:Nat} (h:R.length<n) (r r2:MR):(gA (R++[r]) n).set R.length r2.val=gA (R++[r2]) n:=by
 rw[←q9 h,List.set_set,q9 h]
theorem Hq {M:bU} {qs:List Rec} (h:nums qs=M.next):qs.length=M.next.length:=by rw[←h];simp
theorem yi {M:bU} {qs:List Rec} (h:nums qs=M.next) (hv:Val M) {s:Nat} (hs:s<qs.length):qs[s].xs.length=da M:=by
 have h1:qs[s].xs∈M.next:=by rw[←h];exact List.mem_map.2 ⟨_,List.getElem_mem hs,F⟩
 exact hv.len _ h1
theorem Sd {M:bU} {qs:List Rec} (h:nums qs=M.next) (hv:Val M) {s:Nat} (hs:s<qs.length) {x:Nat} (hx:x<da M):(ints qs[s].xs)[x]? =some (.int .i64 ((dY M s x:Nat):Int)):=by
 obtain⟨_,h1,h2,h3⟩:=hv.fF (o:=s) (by rw[←Hq h];exact hs) hx
 have h4:qs[s].xs=M.next[s]:=by
  have:(nums qs)[s]? =M.next[s]? :=by rw[h]
  rw[List.getElem?_eq_getElem h1,List.getElem?_map,List.getElem?_eq_getElem hs]at this
  exact Option.some.inj this
 rw[h4,fp h2,h3]
theorem Hr {qs:List Rec} {s:Nat} (hs:s<qs.length):(bO qs)[s]? =some (.slice qs[s].b qs[s].xs.length qs[s].c):=by
 show(qs.map Rec.val)[s]? =_
 rw[List.getElem?_map,List.getElem?_eq_getElem hs];rfl
theorem Hs {qs:List Rec} {s:Nat} (hs:s<qs.length):am qs[s].b qs[s].c 3 1 (ints qs[s].xs)∈a_ 3 qs:=List.mem_map.2 ⟨_,List.getElem_mem hs,F⟩
theorem ld {l:List PR} {i:Nat} {a:PR} (h:l[i]? =some a): ∀j (hj:j<a.cells.length),(dp l)[i*2+j]? =some a.cells[j]:=by
 obtain⟨hi,rfl⟩:=List.getElem?_eq_some_iff.1 h
 exact lI hi
theorem nJ.at {R:List MR} {p:List ER} {n:Nat} {f:Nat→Nat→PP} (h:nJ R p n f) {i j:Nat} (hi:i<R.length) (hj:j<n): ∃a:PR,R[i].l[j]? =some a∧a.pp=f i j∧eJ p a.r:=by
 have hl:=h.len _ (List.getElem_mem hi)
 have h1:=h.row i hi
 have qj:j<R[i].l.length:=by omega
 exact⟨R[i].l[j],List.getElem?_eq_getElem qj,h1.pp j qj,h1.po _ (List.getElem_mem qj)⟩
theorem jr {T:TypeId} {q p:List ER} {O:List Item} (h1: ∀it∈cq T q,it∈O) (h2: ∀it∈cq T p,it∈O): ∀it∈cq T (q++p),it∈O:=fun it dZ=>by
 rw[oq]at dZ
 exact(List.mem_append.1 dZ).elim (h1 it) (h2 it)
theorem s6 {p q:List ER} {a:List PR} {c:PR} (h:eJ q c.r∨ ∃x∈a,c.r=x.r) (ha: ∀x∈a,eJ p x.r):eJ (q++p) c.r:=by
 rcases h with h|⟨x,hx,e⟩
 ·exact h.mono fun y hy=>List.mem_append_left _ hy
 ·rw[e];exact(ha x hx).mono fun y hy=>List.mem_append_right _ hy
theorem s7 (A B E X Y:List Item) (c:Item) (h:Sub (A++[c]) B):Sub (A++(E++((X++[c])++Y))) (B++(E++(X++Y))):=by
 obtain⟨l,h1,h2⟩:=h
 refine⟨l++(E++(X++Y)),?_,h2.append (List.Sublist.refl _)⟩
 refine List.Perm.trans ?_ (h1.append_right (E++(X++Y)))
 rw[List.append_assoc X,List.append_assoc A]
 refine List.Perm.append_left A ?_
 rw[←List.append_assoc E X,←List.append_assoc E X,List.singleton_append]
 exact List.perm_middle
theorem Ai (A B E X Y Z:List Item) (h:Sub A B):Sub (A++(E++(X++Z))) (B++(E++(X++(Y++Z)))):=by
 obtain⟨l,h1,h2⟩:=h
 exact⟨l++(E++(X++Z)),h1.append_right _,h2.append ((List.Sublist.refl E).append ((List.Sublist.refl X).append (List.sublist_append_right Y Z)))⟩
end Go.Lx

namespace Go.Lx
open Go.RowKit Go.Proofs.YtgdbfideeeegmaaGreatDoor
def Ch (S:List UInt8) (i c:Nat):Prop:=S[i]?.map UInt8.toNat=some c
theorem Ch.lt {S:List UInt8} {i c:Nat} (h:Ch S i c):i<S.length:=by
 unfold Ch at h
 rcases Nat.lt_or_ge i S.length with e|e
 ·exact e
 ·rw[List.getElem?_eq_none e]at h;cases h
section
variable {P:Program} {base:World} {ρ:Env} {O:List Item} {dst:Option Nat} {t:TypeId} {p:String} {af:Array Edge} {g:Option (Nat×Bool)}
theorem Sy {x y:Operand} {T:TypeId} {S:List UInt8} {i c:Nat} (hu:P.underlying T=some .string) (hx:ev ρ x=str S) (hy:ev ρ y=.int .i64 (i:Int)) (h:Ch S i c):QT P base ⟨dst,.index T x y,t,p,af,g⟩ ρ O (.int .u8 (c:Int)):=fun w _=>by
 obtain⟨b,hb,rfl⟩:=Option.map_eq_some_iff.1 h
 have zM:(ByteArray.mk S.toArray)[i]? =some b:=by
  have hl:=h.lt
  rw[show(ByteArray.mk S.toArray)[i]? =some ((ByteArray.mk S.toArray)[i]'hl)from dif_pos hl]
  rw[List.getElem?_eq_getElem hl]at hb
  exact hb
 have K2:ev ρ x=.string ⟨S.toArray⟩:=hx
 simp[execOp,K2,hy,Instr.index,asIntOf,aT hu,zM]
end
end Go.Lx

namespace Go.Proofs.YtgdbfideeeegmaaGreatDoor
open Go.Lx Go.RowKit _root_.Go.Proofs.Tryz
theorem q_ (base:World) [cG Tryz.prog base] (rb:Nat) (S:List UInt8) (oy:S.length≤4096) (ia c n lc:Nat) (lb:Option Addr) (h:Ch S ia c):
  bm Tryz.prog base 132 [(.pointer (aD rb))] [oI rb 149 [(str S),vN ia,(.slice lb n lc),vI 0]] (fun v O'=>v=v8 c∧O'=[oI rb 149 [(str S),vN ia,(.slice lb n lc),vI 0]]):=by
 refine aw func132 F ntmps132 F ?_
 have eV:=h.lt
 refine ai (aj F (ae (aB (ai (ah F (ad (aK F) (ad (aN eH F gB F F) (ad (aQ 0 mr F F F F) (ad (aq (cT F F) (decide_eq_false (by decide))) (ae (aL F (av (aB (aB ?_))))))))))))))
 refine eD [(0,0),(1,0),(2,0),(3,0),(4,0),(5,0),(6,0),(7,0),(8,0),(9,0)] ?_
 refine ao F (az F) (ao F (aK F) (ao F (aN eH F aO F F) (ao F (aQ 0 cS F F F F) (ao F (az F) (ao F (aK F) (ao F (aN eH F Cs F F) (ao F (aQ 0 ra F F F F) (ao F (uM ra F) (ao F (aq (aZ F F) (decide_eq_false (by omega))) ?_)))))))))
 refine bw ?_
 refine aL F (av (aB ?_))
 refine eD [(0,0),(1,0),(2,0),(3,0),(4,0),(5,0),(6,0),(7,0),(8,0),(9,0)] ?_
 refine ao F (az F) (ao F (aK F) (ao F (aN eH F Cs F F) (ao F (aQ 0 ra F F F F) (ao F (az F) (ao F (aK F) (ao F (aN eH F aO F F) (ao F (aQ 0 cS F F F F) (ao F (Sy (i:=ia) ra F F h) (ao F (bt F) ?_)))))))))
 refine bw ?_
 refine aA ?_
 refine aE (v8 c) Tryz.results132 F ?_
 exact⟨F,F⟩
theorem K3 (base:World) [cG Tryz.prog base] (rb:Nat) (S:List UInt8) (oy:S.length≤4096) (ia c n lc:Nat) (lb:Option Addr) (h:Ch S ia c):
  bm Tryz.prog base 189 [(.pointer (aD rb)),v8 c] [oI rb 149 [(str S),vN ia,(.slice lb n lc),vI 0]] (fun v O'=>v=.tuple #[]∧O'=[oI rb 149 [(str S),vN (ia+1),(.slice lb n lc),vI 0]]):=by
 refine aw func189 F ntmps189 F ?_
 have eV:=h.lt
 refine ai (ah F ?_)
 have Hy:=(bm.under (A:=[oI rb 149 [(str S),vN ia,(.slice lb n lc),vI 0]]) (B:=[]) (O:=[oI rb 149 [(str S),vN ia,(.slice lb n lc),vI 0]]) (q_ base rb S oy ia c n lc lb h) (by exact Sub.rf))
 refine ak F (aP js Hy F ?_)
 clear Hy
 rintro vr O' ⟨A9,rfl,rfl,rfl⟩
 refine aj F (ae (aB (ai (ah F (ad (aK F) (ad (aN eH F gB F F) (ad (aQ 0 mr F F F F) (ad (aq (aZ F F) (decide_eq_true (by decide))) (ah F (au F F (az F) (au F F (az F) (au F F (aq (cT F F) (decide_eq_false (by omega))) (ad (bu F F) ?_)))))))))))))
 refine ae (aL F (av (ai (ah F (ad (aK F) (ad (aN eH F gB F F) (ad (aQ 0 mr F F F F) (ad (aq (aZ F F) (decide_eq_true (by decide))) (ae ?_)))))))))
 refine bj F ?_
 refine aJ (ah F (ad (aK F) (ad (aN eH F aO F F) (ad (aQ 0 cS F F F F) (ad (cx (a:=ia) (b:=1) F F (by omega)) (ad (aK F) (ad (aN eH F aO F F) (ak F (a8 (vs:=[(vN (ia+1))]) 0 aO F F F F ?_)))))))))
 refine ae ?_
 refine pD.zero Tryz.results189 ?_
 exact⟨F,F⟩
theorem DI (base:World) [cG Tryz.prog base] (rb:Nat) (S:List UInt8) (ia lc:Nat) (lb:Option Addr) (l:List dF) (x:dF) (hl:l.length≤1000):
  bm Tryz.prog base 133 [(.pointer (aD rb)),x.ag] [oI rb 149 [(str S),vN ia,(.slice lb l.length lc),vI 0],am lb lc 72 5 (bg l)] (fun v O'=> ∃rS rT,v=vN l.length∧O'=[oI rb 149 [(str S),vN ia,(.slice rS ((l++[x]).length) rT),vI 0],am rS rT 72 5 (bg (l++[x]))]):=by
 refine aw func133 F ntmps133 F ?_
 refine ai (ak F (cH (cs:=x.cl) F F (fun z1=>?_)))
 refine aj F (ae (aB ?_))
 refine T.ds [oI z1 72 x.cl,oI rb 149 [(str S),vN ia,(.slice lb l.length lc),vI 0]] [(0,0),(1,0),(2,0),(3,0),(4,0),(5,0),(6,1),(7,1),(8,0),(9,0),(10,2)] (by exact Sub.k (.k .z)) ?_
 refine ao F (az F) (ao F (az F) (ao F (aK F) (ao F (aN eH F fJ F F) (ao F (aQ 1 cN F F F F) (ao F (dh 0 bs F bN F F F) ?_)))))
 refine bo F F (bH (m:=1) (parts:=[(0,_)]) (cs:=x.cl) cN bN (by decide) (by kernel_rfl) F (fun z2=>⟨by exact Sub.d (.k (.k .z)),?_⟩))
 refine bo F F (bY 3 cN cN bN F F F F (by rw[bE]) (by decide) (Src.row (j:=0) F (by simp)) (by simp[dS]) (by omega) (by decide) (by decide) (fun z3 l7=>⟨by exact Sub.d (.k (.k .z)),?_⟩))
 refine ao F (aK F) (ao F (aN eH F fJ F F) ?_)
 refine bq F F (a8 (vs:=[(.slice z3 (l.length+1) l7)]) 2 fJ F F F F ?_)
 refine bw ?_
 refine ai (ah F (ad (aK F) (ad (aN eH F fJ F F) (ad (aQ 2 cN F F F F) (ad (bS cN F) (ad (qh (a:=(l.length+1)) (b:=1) F F (by omega) (by omega)) (aj F (ae (aA (ap ?_))))))))))
 refine aE (vN ((l.length+1)-1)) Tryz.results133 F ?_
 exact⟨[oI rb 149 [(str S),vN ia,(.slice z3 (l.length+1) l7),vI 0],am z3 l7 72 5 ((bg l)++x.cl)],(by exact Sub.d (.d (.k (.k .z)))),z3,l7,by simp,by rw[jR,List.length_append];rfl⟩
theorem Sz (base:World) [cG Tryz.prog base] (rb:Nat) (S:List UInt8) (oy:S.length≤4096) (ia n lc:Nat) (lb:Option Addr) (h1:Ch S ia 42) (h2:Ch S (ia+1) 93):
  bm Tryz.prog base 134 [(.pointer (aD rb))] [oI rb 149 [(str S),vN ia,(.slice lb n lc),vI 0]] (fun v O'=>v=.agg #[v8 0,v8 0]∧O'=[oI rb 149 [(str S),vN (ia+1+1),(.slice lb n lc),vI 0]]):=by
 refine aw func134 F ntmps134 F ?_
 have eV:=h1.lt;have jS:=h2.lt
 refine ai (ak F (aR eO F (fun z1=>?_)))
 refine ae (ai (ad (bG gM eO F) (ak F (aR eO F (fun z2=>?_)))))
 refine ak F (a8 (vs:=[(.int .u8 0),(.int .u8 0)]) 0 eO F F F F ?_)
 refine aj F (ae (aB (ai (ah F ?_))))
 have s8:=(bm.under (A:=[oI rb 149 [(str S),vN ia,(.slice lb n lc),vI 0]]) (B:=[oI z2 129 [(.int .u8 0),(.int .u8 0)],oI z1 129 [(.int .u8 0),(.int .u8 0)]]) (O:=[oI z2 129 [(.int .u8 0),(.int .u8 0)],oI z1 129 [(.int .u8 0),(.int .u8 0)],oI rb 149 [(str S),vN ia,(.slice lb n lc),vI 0]]) (q_ base rb S oy ia 42 n lc lb h1) (by exact Sub.dr [oI z2 129 [(.int .u8 0),(.int .u8 0)],oI z1 129 [(.int .u8 0),(.int .u8 0)]] _ (.k (.k .z))))
 refine ak F (aP js s8 F ?_)
 clear s8
 rintro vr O' ⟨A9,rfl,rfl,rfl⟩
 refine ad (aq (aZ F F) (decide_eq_true (by decide))) (ae ?_)
 refine bj F ?_
 refine ai (ah F (ad (aK F) (ad (aN eH F aO F F) (ad (aQ 0 cS F F F F) (ad (cx (a:=ia) (b:=1) F F (by omega)) (ad (aK F) (ad (aN eH F aO F F) (ak F (a8 (vs:=[(vN (ia+1))]) 0 aO F F F F ?_)))))))))
 refine ae (ai (ah F ?_))
 have oz:=(bm.under (A:=[oI rb 149 [(str S),(vN (ia+1)),(.slice lb n lc),vI 0]]) (B:=[oI z2 129 [(.int .u8 0),(.int .u8 0)],oI z1 129 [(.int .u8 0),(.int .u8 0)]]) (O:=[oI rb 149 [(str S),(vN (ia+1)),(.slice lb n lc),vI 0],oI z2 129 [(.int .u8 0),(.int .u8 0)],oI z1 129 [(.int .u8 0),(.int .u8 0)]]) (K3 base rb S oy (ia+1) 93 n lc lb h2) (by exact Sub.rf))
 refine ak F (aP ym oz F ?_)
 clear oz
 rintro vr O' ⟨A9,rfl,rfl,rfl⟩
 refine ae (ai (ad (dh 1 jt F eO F F F) (ak F (a8 (vs:=[(.int .u8 0),(.int .u8 0)]) 2 eO F F F F ?_))))
 refine ae (aA (ap ?_))
 refine bL (i:=2) Tryz.results134 jt F eO F F F ?_
 exact⟨[oI rb 149 [(str S),vN (ia+1+1),(.slice lb n lc),vI 0]],(by exact Sub.k .z),F,F⟩
theorem SA (base:World) [cG Tryz.prog base] (rb:Nat) (S:List UInt8) (oy:S.length≤4096) (ia k n lc:Nat) (lb:Option Addr) (hk:k<6) (h1:Ch S ia (97+k)) (h2:Ch S (ia+1) 93):
  bm Tryz.prog base 134 [(.pointer (aD rb))] [oI rb 149 [(str S),vN ia,(.slice lb n lc),vI 0]] (fun v O'=>v=.agg #[v8 (0|||1*2^k),v8 0]∧O'=[oI rb 149 [(str S),vN (ia+1+1),(.slice lb n lc),vI 0]]):=by
 refine aw func134 F ntmps134 F ?_
 have eV:=h1.lt;have jS:=h2.lt
 have hpk:2^k<256:=Nat.pow_lt_pow_right (a:=2) (by decide) (show k<8 by omega)
 refine ai (ak F (aR eO F (fun z1=>?_)))
 refine ae (ai (ad (bG gM eO F) (ak F (aR eO F (fun z2=>?_)))))
 refine ak F (a8 (vs:=[(.int .u8 0),(.int .u8 0)]) 0 eO F F F F ?_)
 refine aj F (ae (aB (ai (ah F ?_))))
 have s8:=(bm.under (A:=[oI rb 149 [(str S),vN ia,(.slice lb n lc),vI 0]]) (B:=[oI z2 129 [(.int .u8 0),(.int .u8 0)],oI z1 129 [(.int .u8 0),(.int .u8 0)]]) (O:=[oI z2 129 [(.int .u8 0),(.int .u8 0)],oI z1 129 [(.int .u8 0),(.int .u8 0)],oI rb 149 [(str S),vN ia,(.slice lb n lc),vI 0]]) (q_ base rb S oy ia (97+k) n lc lb h1) (by exact Sub.dr [oI z2 129 [(.int .u8 0),(.int .u8 0)],oI z1 129 [(.int .u8 0),(.int .u8 0)]] _ (.k (.k .z))))
 refine ak F (aP js s8 F ?_)
 clear s8
 rintro vr O' ⟨A9,rfl,rfl,rfl⟩
 refine ad (aq (aZ F F) (decide_eq_false (by omega))) (ae (aL F (av (aB (aG ?_)))))
 refine mZ 3 (T.round ?_)
 refine aB (ai (ah F (ad (aK F) (ad (aN eH F gB F F) (ad (aQ 0 mr F F F F) (ad (aq (aZ F F) (decide_eq_true (by decide))) (ae ?_)))))))
 refine bj F ?_
 refine av (aG (ai (ah F ?_)))
 have re:=(bm.under (A:=[oI rb 149 [(str S),vN ia,(.slice lb n lc),vI 0]]) (B:=[oI z2 129 [(.int .u8 0),(.int .u8 0)],oI z1 129 [(.int .u8 0),(.int .u8 0)]]) (O:=[oI rb 149 [(str S),vN ia,(.slice lb n lc),vI 0],oI z2 129 [(.int .u8 0),(.int .u8 0)],oI z1 129 [(.int .u8 0),(.int .u8 0)]]) (q_ base rb S oy ia (97+k) n lc lb h1) (by exact Sub.rf))
 refine ak F (aP js re F ?_)
 clear re
 rintro vr O' ⟨A9,rfl,rfl,rfl⟩
 refine ad (aq (aZ F F) (decide_eq_false (by omega))) (ah F (aF F F (aF F F (ad (bl F F) (aj F (ae (aB (ai (ah F (ae (aL F ?_)))))))))))
 refine av (ai (ah F ?_))
 have u4:=(bm.under (A:=[oI rb 149 [(str S),vN ia,(.slice lb n lc),vI 0]]) (B:=[oI z2 129 [(.int .u8 0),(.int .u8 0)],oI z1 129 [(.int .u8 0),(.int .u8 0)]]) (O:=[oI rb 149 [(str S),vN ia,(.slice lb n lc),vI 0],oI z2 129 [(.int .u8 0),(.int .u8 0)],oI z1 129 [(.int .u8 0),(.int .u8 0)]]) (q_ base rb S oy ia (97+k) n lc lb h1) (by exact Sub.rf))
 refine ak F (aP js u4 F ?_)
 clear u4
 rintro vr O' ⟨A9,rfl,rfl,rfl⟩
 refine aj F (ae (aB (ai (ah F (ad (aq (aZ F F) (decide_eq_false (by omega))) (ah F (aF F F (aF F F (ad (bl F F) (ah F (aF F F (aF F F ?_))))))))))))
 refine ad (bl F F) (ae (aL F (av (aB (ai (ah F (ad (aK F) (ad (aN eH F gB F F) (ad (aQ 0 mr F F F F) (ad (aq (aZ F F) (decide_eq_true (by decide))) (ah F (au F F (az F) (au F F (aq (bT F F) (decide_eq_false (by omega))) ?_)))))))))))))
 refine au F F (az F) (au F F (az F) (au F F (aq (fW F F) (decide_eq_false (by omega))) (au F F (bl F F) (au F F (az F) (au F F (az F) (au F F (a7 (Hf (a:=(97+k)) (b:=97) .u8 F F (by show _<256;omega) (by omega)) (v':=v8 k) (congrArg (Value.int .u8) (by omega))) (au F F (et eu cS F (by first|rfl|exact fz ⟨by omega,by omega⟩|exact ny (by omega)|exact lF (by omega))) ?_)))))))
 refine au F F (az F) (au F F (aq (Dr F F) (decide_eq_false (by omega))) (au F F (bl F F) (ad (bu F F) (ae (aL F (av (aB (ai (ah F (ad (aK F) (ad (aN eH F gB F F) (ad (aQ 0 mr F F F F) ?_))))))))))))
 refine ad (aq (cT F F) (decide_eq_false (by decide))) (ae (aL F (av (ai (ah F (ad (a7 (Hf (a:=(97+k)) (b:=97) .u8 F F (by show _<256;omega) (by omega)) (v':=v8 k) (congrArg (Value.int .u8) (by omega))) (ad (et eu cS F (by first|rfl|exact fz ⟨by omega,by omega⟩|exact ny (by omega)|exact lF (by omega))) (aj F (ae (aB (ai (ah F (ae ?_)))))))))))))
 refine aL F (aJ (ad (aN jt F cI F F) (ad (aQ 1 eu F F F F) (ah F (ad (et cS M8 F (by first|rfl|exact fz ⟨by omega,by omega⟩|exact ny (by omega)|exact lF (by omega))) (ad (OG (a:=1) (b:=k) .u8 F F (by show _≤8;omega) (by show _<256;omega)) (ad (OF (a:=0) (b:=(1*2^k)) .u8 F F (by show _<256;omega) (by show _<256;omega)) (ad (aN jt F cI F F) (ak F (a8 (vs:=[(v8 (0|||(1*2^k)))]) 1 cI F F F F ?_))))))))))
 refine ae (aJ (ah F (ad (aK F) (ad (aN eH F aO F F) (ad (aQ 0 cS F F F F) (ad (cx (a:=ia) (b:=1) F F (by omega)) (ad (aK F) (ad (aN eH F aO F F) (ak F (a8 (vs:=[(vN (ia+1))]) 0 aO F F F F ?_))))))))))
 refine ae ?_
 refine lG [oI rb 149 [(str S),(vN (ia+1)),(.slice lb n lc),vI 0],oI z2 129 [(v8 (0|||(1*2^k))),(.int .u8 0)],oI z1 129 [(.int .u8 0),(.int .u8 0)]] [(0,(.pointer (aD rb))),(2,(.pointer (aD z1))),(3,(.pointer (aD z2))),(4,vN k),(5,.bool false),(6,v8 (97+k)),(7,(.agg #[(.int .u8 0),(.int .u8 0)])),(8,(.pointer (aD rb))),(9,v8 (97+k)),(10,.bool false)] F (.of F) (fun fE=>?_)
 refine T.round ?_
 refine aB (ai (ah F (ad (aK F) (ad (aN eH F gB F F) (ad (aQ 0 mr F F F F) (ad (aq (aZ F F) (decide_eq_true (by decide))) (ae ?_)))))))
 refine bj F ?_
 refine av (aG (ai (ah F ?_)))
 have re:=(bm.under (A:=[oI rb 149 [(str S),(vN (ia+1)),(.slice lb n lc),vI 0]]) (B:=[oI z2 129 [(v8 (0|||(1*2^k))),(.int .u8 0)],oI z1 129 [(.int .u8 0),(.int .u8 0)]]) (O:=[oI rb 149 [(str S),(vN (ia+1)),(.slice lb n lc),vI 0],oI z2 129 [(v8 (0|||(1*2^k))),(.int .u8 0)],oI z1 129 [(.int .u8 0),(.int .u8 0)]]) (q_ base rb S oy (ia+1) 93 n lc lb h2) (by exact Sub.rf))
 refine ak F (aP js re F ?_)
 clear re
 rintro vr O' ⟨A9,rfl,rfl,rfl⟩
 refine ad (aq (aZ F F) (decide_eq_false (by omega))) (ah F (aF F F (aF F F (ad (bl F F) (aj F (ae (aB (ai (ah F (ae (aL F ?_)))))))))))
 refine av (ai (ah F ?_))
 have u4:=(bm.under (A:=[oI rb 149 [(str S),(vN (ia+1)),(.slice lb n lc),vI 0]]) (B:=[oI z2 129 [(v8 (0|||(1*2^k))),(.int .u8 0)],oI z1 129 [(.int .u8 0),(.int .u8 0)]]) (O:=[oI rb 149 [(str S),(vN (ia+1)),(.slice lb n lc),vI 0],oI z2 129 [(v8 (0|||(1*2^k))),(.int .u8 0)],oI z1 129 [(.int .u8 0),(.int .u8 0)]]) (q_ base rb S oy (ia+1) 93 n lc lb h2) (by exact Sub.rf))
 refine ak F (aP js u4 F ?_)
 clear u4
 rintro vr O' ⟨A9,rfl,rfl,rfl⟩
 refine aj F (ae (aB (ai (ah F (ad (aq (aZ F F) (decide_eq_true (by decide))) (ah F (au F F (az F) (au F F (gy F) (ad (bu F F) (ah F (au F F (az F) (au F F (aq (jF F F) (decide_eq_true (by omega))) ?_))))))))))))
 refine ad (bu F F) (ae ?_)
 refine bj F ?_
 refine ai (ah F (ad (aK F) (ad (aN eH F aO F F) (ad (aQ 0 cS F F F F) (ad (cx (a:=(ia+1)) (b:=1) F F (by omega)) (ad (aK F) (ad (aN eH F aO F F) (ak F (a8 (vs:=[(vN ((ia+1)+1))]) 0 aO F F F F ?_)))))))))
 refine ae (ai (ad (dh 1 jt F eO F F F) (ak F (a8 (vs:=[(v8 (0|||(1*2^k))),(.int .u8 0)]) 2 eO F F F F ?_))))
 refine ae (aA (ap ?_))
 refine bL (i:=2) Tryz.results134 jt F eO F F F ?_
 exact⟨[oI rb 149 [(str S),(vN ((ia+1)+1)),(.slice lb n lc),vI 0]],(by exact Sub.k .z),F,F⟩
def rU (f:FuncId) (S:List UInt8) (ia:Nat) (l:List dF) (i ib:Nat) (m:List dF):Prop:= ∀(base:World) [cG Tryz.prog base] (rb:Nat) (lb:Option Addr) (lc:Nat),bm Tryz.prog base f [(.pointer (aD rb))] [cR rb (.cells (List.toArray [(str S),vN ia,(.slice lb l.length lc),vI 0]) 149 (0,0)),am lb lc 72 5 (bg l)] (fun v O'=> ∃rS rT,v=vN i∧O'=[cR rb (.cells (List.toArray [(str S),vN ib,(.slice rS m.length rT),vI 0]) 149 (0,0)),am rS rT 72 5 (bg m)])
theorem M9 {S:List UInt8} (oy:S.length≤4096) {ia pp:Nat} {l:List dF} (hl:l.length≤1000) (h1:Ch S ia 91) (WB: ∀(base:World) [cG Tryz.prog base] (rb:Nat) (lb:Option Addr) (n lc:Nat),bm Tryz.prog base 134 [(.pointer (aD rb))] [oI rb 149 [(str S),vN (ia+1),(.slice lb n lc),vI 0]] (fun v O'=>v=.agg #[v8 pp,v8 0]∧O'=[oI rb 149 [(str S),vN (ia+3),(.slice lb n lc),vI 0]])):rU 96 S ia l l.length (ia+3) (l++[(⟨3,pp,0,0,0⟩:dF)]):=by
 intro base _ rb lb lc
 refine aw func96 F ntmps96 F ?_
 have eV:=h1.lt
 refine ai (aj F (ae (ai (ah F ?_))))
 let eQ:Lx.Item:=am lb lc 72 5 (bg l)
 let jj:Value:=(.slice lb l.length lc)
 have Hy:=(bm.under (A:=[oI rb 149 [(str S),vN ia,jj,vI 0]]) (B:=[eQ]) (O:=[oI rb 149 [(str S),vN ia,jj,vI 0],eQ]) (q_ base rb S oy ia 91 l.length lc lb h1) (by exact Sub.rf))
 refine ak F (aP js Hy F ?_)
 clear Hy
 rintro vr O' ⟨A9,rfl,rfl,rfl⟩
 refine aj F (ae (aB (ai (ah F (ad (aK F) (ad (aN eH F gB F F) (ad (aQ 0 mr F F F F) (ad (aq (cT F F) (decide_eq_false (by decide))) (ae (aL F (av (ai (ah F (ad (aK F) (ad (aN eH F aO F F) (ad (aQ 0 cS F F F F) ?_))))))))))))))))
 refine ad (cx (a:=ia) (b:=1) F F (by omega)) (ad (aK F) (ad (aN eH F aO F F) (ak F (a8 (vs:=[(vN (ia+1))]) 0 aO F F F F ?_))))
 refine ae (aB (ai (ah F (ae (aG (ai (ad (aq (aZ F F) (decide_eq_false (by decide))) (aj F (ae (aL F (ai (ad (aq (aZ F F) (decide_eq_false (by decide))) (aj F ?_)))))))))))))
 refine ae (aL F (ai (ad (aq (aZ F F) (decide_eq_true (by decide))) (aj F (ae ?_)))))
 refine bj F ?_
 refine ai (ah F ?_)
 have u5:=(bm.under (A:=[oI rb 149 [(str S),(vN (ia+1)),jj,vI 0]]) (B:=[eQ]) (O:=[oI rb 149 [(str S),(vN (ia+1)),jj,vI 0],eQ]) (WB base rb lb l.length lc) (by exact Sub.rf))
 refine ak F (aP OU u5 F ?_)
 clear u5
 rintro vr O' ⟨A9,rfl,rfl,rfl⟩
 refine ak F (aR eO F (fun z1=>?_))
 refine ak F (a8 (vs:=[v8 pp,v8 0]) 0 eO F F F F ?_)
 refine ae (ai (ah F (ad (aN jt F cI F F) (ad (aQ 0 eu F F F F) (ad (aN jt F cI F F) (ad (aQ 0 eu F F F F) (ad (bG (cs:=[.int .u8 3,v8 pp,v8 0,(vI 0),(vI 0)]) k_ bN (by kernel_rfl)) ?_)))))))
 let il:Lx.Item:=oI z1 129 [v8 pp,v8 0]
 have mu:=(bm.under (A:=[oI rb 149 [(str S),vN (ia+3),jj,vI 0],eQ]) (B:=[il]) (O:=[il,oI rb 149 [(str S),vN (ia+3),jj,vI 0],eQ]) (DI base rb S (ia+3) lc lb l (⟨3,pp,0,0,0⟩:dF) hl) (by exact Sub.dr [il] _ (.dr [il] _ (.k .z))))
 refine ak F (aP yn mu F ?_)
 clear mu
 rintro vr O' ⟨A9,rfl,rh,ri,rfl,rfl⟩
 refine aj F (ae (aA (ap ?_)))
 refine aE (vN l.length) Tryz.results96 F ?_
 exact⟨[oI rb 149 [(str S),vN (ia+3),(.slice rh ((l++[(⟨3,pp,0,0,0⟩:dF)]).length) ri),vI 0],am rh ri 72 5 (bg (l++[(⟨3,pp,0,0,0⟩:dF)]))],(by exact Sub.k (.k .z)),_,_,F,F⟩
theorem u6 {S:List UInt8} (oy:S.length≤4096) {ia i ib:Nat} {l m:List dF} (h1:Ch S ia 40) (Cb:rU 135 S (ia+1) l i ib m):rU 96 S ia l i ib m:=by
 intro base _ rb lb lc
 refine aw func96 F ntmps96 F ?_
 have eV:=h1.lt
 refine ai (aj F (ae (ai (ah F ?_))))
 have Hy:=(bm.under (A:=[oI rb 149 [(str S),vN ia,(.slice lb l.length lc),vI 0]]) (B:=[am lb lc 72 5 (bg l)]) (O:=[oI rb 149 [(str S),vN ia,(.slice lb l.length lc),vI 0],am lb lc 72 5 (bg l)]) (q_ base rb S oy ia 40 l.length lc lb h1) (by exact Sub.rf))
 refine ak F (aP js Hy F ?_)
 clear Hy
 rintro vr O' ⟨A9,rfl,rfl,rfl⟩
 refine aj F (ae (aB (ai (ah F (ad (aK F) (ad (aN eH F gB F F) (ad (aQ 0 mr F F F F) (ad (aq (cT F F) (decide_eq_false (by decide))) (ae (aL F (av (ai (ah F (ad (aK F) (ad (aN eH F aO F F) (ad (aQ 0 cS F F F F) ?_))))))))))))))))
 refine ad (cx (a:=ia) (b:=1) F F (by omega)) (ad (aK F) (ad (aN eH F aO F F) (ak F (a8 (vs:=[(vN (ia+1))]) 0 aO F F F F ?_))))
 refine ae (aB (ai (ah F (ae (aG (ai (ad (aq (aZ F F) (decide_eq_false (by decide))) (aj F (ae (aL F (ai (ad (aq (aZ F F) (decide_eq_false (by decide))) (aj F ?_)))))))))))))
 refine ae (aL F (ai (ad (aq (aZ F F) (decide_eq_false (by decide))) (aj F (ae (aL F (ai (ad (aq (aZ F F) (decide_eq_true (by decide))) (aj F ?_)))))))))
 refine ae ?_
 refine bj F ?_
 refine ai (ah F ?_)
 let iL:List Lx.Item:=[oI rb 149 [(str S),(vN (ia+1)),(.slice lb l.length lc),vI 0],am lb lc 72 5 (bg l)]
 have Ap:=(bm.under (A:=iL) (B:=[]) (O:=iL) (Cb base rb lb lc) (by exact Sub.rf))
 refine ak F (aP OV Ap F ?_)
 clear Ap
 rintro vr O' ⟨A9,rfl,rh,ri,rfl,rfl⟩
 refine aj F (ae (aA (ap ?_)))
 refine aE (vN i) Tryz.results96 F ?_
 exact⟨[oI rb 149 [(str S),vN ib,(.slice rh m.length ri),vI 0],am rh ri 72 5 (bg m)],(by exact Sub.rf),_,_,F,F⟩
theorem K4 {S:List UInt8} (oy:S.length≤4096) {ia i ib:Nat} {l m:List dF} (hm:m.length≤1000) (h1:Ch S ia 62) (hE:rU 96 S (ia+1) l i ib m) (h2:Ch S ib 41):rU 135 S ia l m.length (ib+1) (m++[(⟨9,0,0,(i:Int),0⟩:dF)]):=by
 intro base _ rb lb lc
 refine aw func135 F ntmps135 F ?_
 have eV:=h1.lt;have jS:=h2.lt
 refine ai (aj F (ae (ai (ah F ?_))))
 have s8:=(bm.under (A:=[oI rb 149 [(str S),vN ia,(.slice lb l.length lc),vI 0]]) (B:=[am lb lc 72 5 (bg l)]) (O:=[oI rb 149 [(str S),vN ia,(.slice lb l.length lc),vI 0],am lb lc 72 5 (bg l)]) (q_ base rb S oy ia 62 l.length lc lb h1) (by exact Sub.rf))
 refine ak F (aP js s8 F ?_)
 clear s8
 rintro vr O' ⟨A9,rfl,rfl,rfl⟩
 refine aj F (ae (ai (aj F (ae (aB (ai (ah F (ae (aG (ai (ad (aq (aZ F F) (decide_eq_false (by omega))) (aj F (ae ?_)))))))))))))
 refine aL F (ai (ad (aq (aZ F F) (decide_eq_true (by omega))) (aj F (ae ?_))))
 refine bj F ?_
 refine aJ (aj F (ae (aB (ai (ah F (ad (aq (cT F F) (decide_eq_true (by decide))) (ae ?_)))))))
 refine bj F ?_
 refine ai (ah F (ad (aK F) (ad (aN eH F aO F F) (ad (aQ 0 cS F F F F) (ad (cx (a:=ia) (b:=1) F F (by omega)) (ad (aK F) (ad (aN eH F aO F F) (ak F (a8 (vs:=[(vN (ia+1))]) 0 aO F F F F ?_)))))))))
 refine ae (ai (ah F ?_))
 let mM:List Lx.Item:=[oI rb 149 [(str S),(vN (ia+1)),(.slice lb l.length lc),vI 0],am lb lc 72 5 (bg l)]
 have re:=(bm.under (A:=mM) (B:=[]) (O:=mM) (hE base rb lb lc) (by exact Sub.rf))
 refine ak F (aP Aq re F ?_)
 clear re
 rintro vr O' ⟨A9,rfl,rh,ri,rfl,rfl⟩
 refine aj F (ae (ai (ah F ?_)))
 have rj:=(bm.under (A:=[oI rb 149 [(str S),vN ib,(.slice rh m.length ri),vI 0]]) (B:=[am rh ri 72 5 (bg m)]) (O:=[oI rb 149 [(str S),vN ib,(.slice rh m.length ri),vI 0],am rh ri 72 5 (bg m)]) (K3 base rb S oy ib 41 m.length ri rh h2) (by exact Sub.rf))
 refine ak F (aP ym rj F ?_)
 clear rj
 rintro vr O' ⟨A9,rfl,rfl,rfl⟩
 refine ae (ai (ah F (ah F (ah F (ad (bG (cs:=[.int .u8 9,(.int .u8 0),(.int .u8 0),vN i,(vI 0)]) k_ bN (by kernel_rfl)) ?_)))))
 let pN:List Lx.Item:=[oI rb 149 [(str S),vN (ib+1),(.slice rh m.length ri),vI 0],am rh ri 72 5 (bg m)]
 have Hz:=(bm.under (A:=pN) (B:=[]) (O:=pN) (DI base rb S (ib+1) ri rh m (⟨9,0,0,(i:Int),0⟩:dF) hm) (by exact Sub.rf))
 refine ak F (aP yn Hz F ?_)
 clear Hz
 rintro vr O' ⟨A9,rfl,M_,Na,rfl,rfl⟩
 refine aj F (ae (aA (ap ?_)))
 refine aE (vN m.length) Tryz.results135 F ?_
 exact⟨[oI rb 149 [(str S),vN (ib+1),(.slice M_ ((m++[(⟨9,0,0,(i:Int),0⟩:dF)]).length) Na),vI 0],am M_ Na 72 5 (bg (m++[(⟨9,0,0,(i:Int),0⟩:dF)]))],(by exact Sub.rf),_,_,F,F⟩
theorem HA {S:List UInt8} (oy:S.length≤4096) {ia i ib c0:Nat} {l m:List dF} (hm:m.length≤1000) (h1:Ch S ia c0) (ww:c0=40∨c0=91) (hE:rU 96 S ia l i ib m) (h2:Ch S ib 42) (h3:Ch S (ib+1) 41):rU 135 S ia l m.length (ib+1+1) (m++[(⟨8,0,0,(i:Int),0⟩:dF)]):=by
 intro base _ rb lb lc
 refine aw func135 F ntmps135 F ?_
 have eV:=h1.lt;have jS:=h2.lt;have WC:=h3.lt
 refine ai (aj F (ae (ai (ah F ?_))))
 let pj:List Lx.Item:=[oI rb 149 [(str S),vN ia,(.slice lb l.length lc),vI 0],am lb lc 72 5 (bg l)]
 have s8:=(bm.under (A:=[oI rb 149 [(str S),vN ia,(.slice lb l.length lc),vI 0]]) (B:=[am lb lc 72 5 (bg l)]) (O:=pj) (q_ base rb S oy ia c0 l.length lc lb h1) (by exact Sub.rf))
 refine ak F (aP js s8 F ?_)
 clear s8
 rintro vr O' ⟨A9,rfl,rfl,rfl⟩
 refine aj F (ae (ai (aj F (ae (aB (ai (ah F (ae (aG (ai (ad (aq (aZ F F) (decide_eq_false (by omega))) (aj F (ae ?_)))))))))))))
 refine aL F (ai (ad (aq (aZ F F) (decide_eq_false (by omega))) (aj F (ae (aL F (ai (ad (aq (aZ F F) (decide_eq_false (by omega))) (aj F (ae ?_)))))))))
 refine aL F (av (aB (ai (ah F (ad (aq (cT F F) (decide_eq_false (by decide))) (ae (aL F (av (ai (ah F ?_))))))))))
 have Ar:=(bm.under (A:=pj) (B:=[]) (O:=pj) (hE base rb lb lc) (by exact Sub.rf))
 refine ak F (aP Aq Ar F ?_)
 clear Ar
 rintro vr O' ⟨A9,rfl,rh,ri,rfl,rfl⟩
 refine aj F (ae (aB (ai (ah F ?_))))
 let Cr:Lx.Item:=am rh ri 72 5 (bg m)
 let Al:Value:=(.slice rh m.length ri)
 have HB:=(bm.under (A:=[oI rb 149 [(str S),vN ib,Al,vI 0]]) (B:=[Cr]) (O:=[oI rb 149 [(str S),vN ib,Al,vI 0],Cr]) (q_ base rb S oy ib 42 m.length ri rh h2) (by exact Sub.rf))
 refine ak F (aP js HB F ?_)
 clear HB
 rintro vr O' ⟨A9,rfl,rfl,rfl⟩
 refine ae (aG (ai (ad (aq (aZ F F) (decide_eq_true (by decide))) (aj F (ae ?_)))))
 refine bj F ?_
 refine ai (ah F (ad (aK F) (ad (aN eH F aO F F) (ad (aQ 0 cS F F F F) (ad (cx (a:=ib) (b:=1) F F (by omega)) (ad (aK F) (ad (aN eH F aO F F) (ak F (a8 (vs:=[(vN (ib+1))]) 0 aO F F F F ?_)))))))))
 refine ae (ai (ah F ?_))
 have As:=(bm.under (A:=[oI rb 149 [(str S),(vN (ib+1)),Al,vI 0]]) (B:=[Cr]) (O:=[oI rb 149 [(str S),(vN (ib+1)),Al,vI 0],Cr]) (K3 base rb S oy (ib+1) 41 m.length ri rh h3) (by exact Sub.rf))
 refine ak F (aP ym As F ?_)
 clear As
 rintro vr O' ⟨A9,rfl,rfl,rfl⟩
 refine ae (ai (ah F (ah F (ad (bG (cs:=[.int .u8 8,(.int .u8 0),(.int .u8 0),vN i,(vI 0)]) k_ bN (by kernel_rfl)) ?_))))
 have u7:=(bm.under (A:=[oI rb 149 [(str S),vN (ib+1+1),Al,vI 0],Cr]) (B:=[]) (O:=[oI rb 149 [(str S),vN (ib+1+1),Al,vI 0],Cr]) (DI base rb S (ib+1+1) ri rh m (⟨8,0,0,(i:Int),0⟩:dF) hm) (by exact Sub.rf))
 refine ak F (aP yn u7 F ?_)
 clear u7
 rintro vr O' ⟨A9,rfl,M_,Na,rfl,rfl⟩
 refine aj F (ae (aA (ap ?_)))
 refine aE (vN m.length) Tryz.results135 F ?_
 exact⟨[oI rb 149 [(str S),vN (ib+1+1),(.slice M_ ((m++[(⟨8,0,0,(i:Int),0⟩:dF)]).length) Na),vI 0],am M_ Na 72 5 (bg (m++[(⟨8,0,0,(i:Int),0⟩:dF)]))],(by exact Sub.rf),_,_,F,F⟩
theorem DJ {S:List UInt8} (oy:S.length≤4096) {ia i ib j ic c0:Nat} {l m m2:List dF} (hm:m2.length≤1000) (h1:Ch S ia c0) (ww:c0=40∨c0=91) (hE:rU 96 S ia l i ib m) (h2:Ch S ib 46) (K5:rU 96 S (ib+1) m j ic m2) (h3:Ch S ic 41):rU 135 S ia l m2.length (ic+1) (m2++[(⟨4,0,0,(i:Int),(j:Int)⟩:dF)]):=by
 intro base _ rb lb lc
 refine aw func135 F ntmps135 F ?_
 have eV:=h1.lt;have jS:=h2.lt;have WC:=h3.lt
 refine ai (aj F (ae (ai (ah F ?_))))
 let yj:List Lx.Item:=[oI rb 149 [(str S),vN ia,(.slice lb l.length lc),vI 0],am lb lc 72 5 (bg l)]
 have s8:=(bm.under (A:=[oI rb 149 [(str S),vN ia,(.slice lb l.length lc),vI 0]]) (B:=[am lb lc 72 5 (bg l)]) (O:=yj) (q_ base rb S oy ia c0 l.length lc lb h1) (by exact Sub.rf))
 refine ak F (aP js s8 F ?_)
 clear s8
 rintro vr O' ⟨A9,rfl,rfl,rfl⟩
 refine aj F (ae (ai (aj F (ae (aB (ai (ah F (ae (aG (ai (ad (aq (aZ F F) (decide_eq_false (by omega))) (aj F (ae ?_)))))))))))))
 refine aL F (ai (ad (aq (aZ F F) (decide_eq_false (by omega))) (aj F (ae (aL F (ai (ad (aq (aZ F F) (decide_eq_false (by omega))) (aj F (ae ?_)))))))))
 refine aL F (av (aB (ai (ah F (ad (aq (cT F F) (decide_eq_false (by decide))) (ae (aL F (av (ai (ah F ?_))))))))))
 have Ar:=(bm.under (A:=yj) (B:=[]) (O:=yj) (hE base rb lb lc) (by exact Sub.rf))
 refine ak F (aP Aq Ar F ?_)
 clear Ar
 rintro vr O' ⟨A9,rfl,rh,ri,rfl,rfl⟩
 refine aj F (ae (aB (ai (ah F ?_))))
 have HB:=(bm.under (A:=[oI rb 149 [(str S),vN ib,(.slice rh m.length ri),vI 0]]) (B:=[am rh ri 72 5 (bg m)]) (O:=[oI rb 149 [(str S),vN ib,(.slice rh m.length ri),vI 0],am rh ri 72 5 (bg m)]) (q_ base rb S oy ib 46 m.length ri rh h2) (by exact Sub.rf))
 refine ak F (aP js HB F ?_)
 clear HB
 rintro vr O' ⟨A9,rfl,rfl,rfl⟩
 refine ae (aG (ai (ad (aq (aZ F F) (decide_eq_false (by decide))) (aj F (ae (aL F (ai (ad (aq (aZ F F) (decide_eq_true (by decide))) (aj F (ae ?_))))))))))
 refine bj F ?_
 refine aJ (aj F (ae (ai (ah F (ad (aK F) (ad (aN eH F aO F F) (ad (aQ 0 cS F F F F) (ad (cx (a:=ib) (b:=1) F F (by omega)) (ad (aK F) (ad (aN eH F aO F F) (ak F (a8 (vs:=[(vN (ib+1))]) 0 aO F F F F ?_))))))))))))
 refine ae (ai (ah F ?_))
 let sj:List Lx.Item:=[oI rb 149 [(str S),(vN (ib+1)),(.slice rh m.length ri),vI 0],am rh ri 72 5 (bg m)]
 have SB:=(bm.under (A:=sj) (B:=[]) (O:=sj) (K5 base rb rh ri) (by exact Sub.rf))
 refine ak F (aP Aq SB F ?_)
 clear SB
 rintro vr O' ⟨A9,rfl,OW,OX,rfl,rfl⟩
 refine aj F (ae (ai (ah F ?_)))
 let qk:Lx.Item:=oI rb 149 [(str S),vN ic,(.slice OW m2.length OX),vI 0]
 have HC:=(bm.under (A:=[qk]) (B:=[am OW OX 72 5 (bg m2)]) (O:=[qk,am OW OX 72 5 (bg m2)]) (K3 base rb S oy ic 41 m2.length OX OW h3) (by exact Sub.rf))
 refine ak F (aP ym HC F ?_)
 clear HC
 rintro vr O' ⟨A9,rfl,rfl,rfl⟩
 refine ae (ai (ah F (ah F (ah F (ah F (ad (bG (cs:=[.int .u8 4,(.int .u8 0),(.int .u8 0),vN i,vN j]) k_ bN (by kernel_rfl)) ?_))))))
 let ox:List Lx.Item:=[oI rb 149 [(str S),vN (ic+1),(.slice OW m2.length OX),vI 0],am OW OX 72 5 (bg m2)]
 have SC:=(bm.under (A:=ox) (B:=[]) (O:=ox) (DI base rb S (ic+1) OX OW m2 (⟨4,0,0,(i:Int),(j:Int)⟩:dF) hm) (by exact Sub.rf))
 refine ak F (aP yn SC F ?_)
 clear SC
 rintro vr O' ⟨A9,rfl,M_,Na,rfl,rfl⟩
 refine aj F (ae (aA (ap ?_)))
 refine aE (vN m2.length) Tryz.results135 F ?_
 exact⟨[oI rb 149 [(str S),vN (ic+1),(.slice M_ ((m2++[(⟨4,0,0,(i:Int),(j:Int)⟩:dF)]).length) Na),vI 0],am M_ Na 72 5 (bg (m2++[(⟨4,0,0,(i:Int),(j:Int)⟩:dF)]))],(by exact Sub.rf),_,_,F,F⟩
end Go.Proofs.YtgdbfideeeegmaaGreatDoor

namespace Go.Proofs.YtgdbfideeeegmaaGreatDoor
open Go.Lx Go.RowKit _root_.Go.Proofs.Tryz
theorem yo (w:World) [cG Tryz.prog w] (o:Nat) (h1:1≤o) (h2:o≤10):
  bI Tryz.prog 48 [v8 o] w fun v N=>v=vI (cZ o:Int)∧N=[]:=by
 refine aw func48 F ntmps48 F ?_
 refine ai (aj F (ae (aB (ai (ah F (ae (aG ?_)))))))
 refine e7 (fun ρ O=>Sub [] O∧cw [(0,v8 o),(2,vI 0),(3,v8 o),(4,.bool (decide (o=1∨o=2∨o=3)))] ρ) ?_ ?_
 ·refine aB ?_
  refine aJ (ad (aZ F F) (aj F (ae (aC F (fun hc=>?_) (fun hc=>?_)))))
  ·have WD:o=1:=by omega
   refine av ?_
   exact⟨(by exact Sub.rf),⟨F,F,F,(congrArg Value.bool (decide_eq_decide.2 (by omega))),trivial⟩⟩
  have WE: ¬o=1:=by omega
  refine ai (ad (aZ F F) (aj F (ae (aC F (fun hc=>?_) (fun hc=>?_)))))
  ·have WD:o=2:=by omega
   refine av ?_
   exact⟨(by exact Sub.rf),⟨F,F,F,(congrArg Value.bool (decide_eq_decide.2 (by omega))),trivial⟩⟩
  have WE: ¬o=2:=by omega
  refine aJ (ad (aZ F F) (aj F (ae ?_)))
  exact⟨(by exact Sub.rf),⟨F,F,F,(congrArg Value.bool (decide_eq_decide.2 (by omega))),trivial⟩⟩
 rintro ρ O ⟨hS,hH⟩
 obtain⟨fE,rfl⟩:=hH.elim
 clear hH
 refine ck hS ?_
 refine aC F (fun hc=>?_) (fun hc=>?_)
 ·refine aB ?_
  refine aJ (aj F (ae (aA ?_)))
  refine aE (vI 0) Tryz.results48 F ?_
  exact⟨congrArg (fun n:Nat=>Value.int .i64 (n:Int)) (show 0=cZ o by unfold cZ;rw[if_neg (by omega),if_neg (by omega)]),F⟩
 refine e7 (fun ρ O=>Sub [] O∧cw [(0,v8 o),(2,vI 0),(3,v8 o),(4,.bool (decide (o=1∨o=2∨o=3))),(8,.bool (decide (o=7∨o=8∨o=9∨o=10)))] ρ) ?_ ?_
 ·refine aB ?_
  refine aJ (ad (aZ F F) (aj F (ae (aC F (fun hc=>?_) (fun hc=>?_)))))
  ·have SD:o=7:=by omega
   refine av ?_
   exact⟨(by exact Sub.rf),⟨F,F,F,F,(congrArg Value.bool (decide_eq_decide.2 (by omega))),trivial⟩⟩
  have SE: ¬o=7:=by omega
  refine ai (ad (aZ F F) (aj F (ae (aC F (fun hc=>?_) (fun hc=>?_)))))
  ·have SD:o=8:=by omega
   refine av ?_
   exact⟨(by exact Sub.rf),⟨F,F,F,F,(congrArg Value.bool (decide_eq_decide.2 (by omega))),trivial⟩⟩
  have SE: ¬o=8:=by omega
  refine ai (ad (aZ F F) (aj F (ae (aC F (fun hc=>?_) (fun hc=>?_)))))
  ·have SD:o=9:=by omega
   refine av ?_
   exact⟨(by exact Sub.rf),⟨F,F,F,F,(congrArg Value.bool (decide_eq_decide.2 (by omega))),trivial⟩⟩
  have SE: ¬o=9:=by omega
  refine aJ (ad (aZ F F) (aj F (ae ?_)))
  exact⟨(by exact Sub.rf),⟨F,F,F,F,(congrArg Value.bool (decide_eq_decide.2 (by omega))),trivial⟩⟩
 rintro ρ O ⟨hS,hH⟩
 obtain⟨fE,rfl⟩:=hH.elim
 clear hH
 refine ck hS ?_
 refine aC F (fun hc=>?_) (fun hc=>?_)
 ·refine aB ?_
  refine aJ (aj F (ae (aA ?_)))
  refine aE (vI 1) Tryz.results48 F ?_
  exact⟨congrArg (fun n:Nat=>Value.int .i64 (n:Int)) (show 1=cZ o by unfold cZ;rw[if_neg (by omega),if_pos (by omega)]),F⟩
 refine e7 (fun ρ O=>Sub [] O∧cw [(0,v8 o),(2,vI 0),(3,v8 o),(4,.bool (decide (o=1∨o=2∨o=3))),(8,.bool (decide (o=7∨o=8∨o=9∨o=10))),(13,.bool (decide (o=4∨o=5∨o=6)))] ρ) ?_ ?_
 ·refine aB ?_
  refine aJ (ad (aZ F F) (aj F (ae (aC F (fun hc=>?_) (fun hc=>?_)))))
  ·have jI:o=4:=by omega
   refine av ?_
   exact⟨(by exact Sub.rf),⟨F,F,F,F,F,(congrArg Value.bool (decide_eq_decide.2 (by omega))),trivial⟩⟩
  have HD: ¬o=4:=by omega
  refine ai (ad (aZ F F) (aj F (ae (aC F (fun hc=>?_) (fun hc=>?_)))))
  ·have jI:o=5:=by omega
   refine av ?_
   exact⟨(by exact Sub.rf),⟨F,F,F,F,F,(congrArg Value.bool (decide_eq_decide.2 (by omega))),trivial⟩⟩
  have HD: ¬o=5:=by omega
  refine aJ (ad (aZ F F) (aj F (ae ?_)))
  exact⟨(by exact Sub.rf),⟨F,F,F,F,F,(congrArg Value.bool (decide_eq_decide.2 (by omega))),trivial⟩⟩
 rintro ρ O ⟨hS,hH⟩
 obtain⟨fE,rfl⟩:=hH.elim
 clear hH
 refine ck hS ?_
 refine aC F (fun hc=>?_) (fun hc=>?_)
 ·refine aB ?_
  refine aJ (aj F (ae (aA ?_)))
  refine aE (vI 2) Tryz.results48 F ?_
  exact⟨congrArg (fun n:Nat=>Value.int .i64 (n:Int)) (show 2=cZ o by unfold cZ;rw[if_pos (by omega)]),F⟩
 refine av (ai (aj F (ae (aA ?_))))
 refine aE (vI (-1)) Tryz.results48 F ?_
 exact absurd h1 (by omega)
theorem OY (w:World) [cG Tryz.prog w] (p n v:Nat) (hp:p<256) (hn:n<256) (hv:v≤6) (h0:na v p n=0):
  bI Tryz.prog 79 [.agg #[v8 p,v8 n],vN v] w fun r N=>r=vI 0∧N=[]:=by
 refine aw func79 F ntmps79 F ?_
 have hb:(p|||n)<2^v∧p&&&n=0:=by
  unfold na at h0;split at h0<;>(try split at h0)<;>omega
 have hvt:(2:Nat)^((v:Int)).toNat=2^v:=by simp
 have Cd:p≤p|||n:=Nat.left_le_or
 have zM:n≤p|||n:=Nat.right_le_or
 refine ai (ak F (cH (cs:=[v8 p,v8 n]) F F (fun lX=>?_)))
 refine aj F (ae (aB (ai (ah F (ad (aq (bT F F) (decide_eq_false (by omega))) (ah F (au F F (az F) (au F F (aq (fW F F) (decide_eq_false (by omega))) (ad (bl F F) (ae (aL F ?_)))))))))))
 refine av (ai (ah F ?_))
 have Au:=fun(w1:World) (hI:Inv w [oI lX 129 [v8 p,v8 n]] w1)=>(haveI:=di hI;GQ w1 (v:Int) (by omega) (by omega))
 refine ak F (aP SF (aI Au) F ?_)
 clear Au
 rintro vr O' ⟨N,rfl,rfl,rfl⟩
 refine aj F (ae (aB (ai (ad (aN jt F cI F F) (ad (aQ 0 eu F F F F) (ad (et eu cS F (by first|rfl|exact fz ⟨by omega,by omega⟩|exact ny (by omega)|exact lF (by omega))) (ah F (ad (aq (jF F F) (decide_eq_false (by omega))) (ah F (au F F (aN jt F cI F F) (au F F (aQ 0 eu F F F F) (au F F (et eu cS F (by first|rfl|exact fz ⟨by omega,by omega⟩|exact ny (by omega)|exact lF (by omega))) (au F F (az F) ?_)))))))))))))
 refine au F F (aq (jF F F) (decide_eq_false (by omega))) (ad (bl F F) (ae (aL F (av (aB (ai (ad (aN jt F cI F F) (ad (aQ 0 eu F F F F) (ad (aN jt F cI F F) (ad (aQ 0 eu F F F F) (ad (Dz (a:=p) (b:=n) .u8 F F (by show _<256;omega) (by show _<256;omega)) (ad (aq (cT F F) (decide_eq_false (by simp only[hb.2];decide))) (ae ?_)))))))))))))
 refine aL F (av (ai (aj F (ae (aA (ap ?_))))))
 refine aE (vI 0) Tryz.results79 F ?_
 exact⟨[],Sub.z,F,F⟩
theorem K6 (w:World) [cG Tryz.prog w] (x:dF) (v:Nat) (hp:x.p<256) (hn:x.n<256) (hv:v≤6) (h0:fR v x=0):
  bI Tryz.prog 47 [x.ag,vN v] w fun r N=>r=vI 0∧N=[]:=by
 refine aw func47 F ntmps47 F ?_
 obtain⟨tT,qH,q1,q2,q3⟩:=jT h0
 have Yr:x.op=3∨(x.p=0∧x.n=0):=by
  by_cases h:x.op=3
  ·exact .inl h
  ·exact .inr (q1 h)
 have Vr: ¬cZ x.op<1∨x.a=0:=by
  by_cases h:cZ x.op<1
  ·exact .inr (q2 h)
  ·exact .inl h
 have Fo: ¬cZ x.op<2∨x.b=0:=by
  by_cases h:cZ x.op<2
  ·exact .inr (q3 h)
  ·exact .inl h
 have WB:x.op=3→na v x.p x.n=0:=fun h=>by unfold fR at h0;rw[if_neg (by omega),if_pos h]at h0;split at h0<;>first|exact h0|omega
 clear q1 q2 q3
 refine ai (ak F (cH (cs:=x.cl) F F (fun lX=>?_)))
 refine aj F (ae (ai (ad (aN bs F cI F F) (ad (aQ 0 eu F F F F) ?_))))
 have DL:=fun(w1:World) (hI:Inv w [oI lX 72 x.cl] w1)=>(haveI:=di hI;yo w1 x.op tT qH)
 refine ak F (aP DM (aI DL) F ?_)
 clear DL
 rintro vr O' ⟨N,rfl,rfl,rfl⟩
 refine aj F (ae (aB (ai (ah F (ad (aq (bT F F) (decide_eq_false (by omega))) (ae (aL F (av ?_))))))))
 refine e7 (fun ρ O=>Sub [oI lX 72 x.cl] O∧cw [(0,x.ag),(1,vN v),(2,(.pointer (aD lX))),(5,vI (cZ x.op:Int)),(41,.bool false)] ρ) ?_ ?_
 ·refine aB ?_
  refine aJ (ad (aN bs F cI F F) (ad (aQ 0 eu F F F F) ?_))
  by_cases h3:((x.op:Nat):Int)≠3
  ·refine ad (aq (cT F F) (decide_eq_true h3)) ?_
   refine ah F (au F F (aN bs F cI F F) (au F F (aQ 0 eu F F F F) (au F F (aq (cT F F) (decide_eq_false (by omega))) (au F F (az F) (au F F (aN bs F cI F F) (au F F (aQ 0 eu F F F F) (au F F (aq (cT F F) (decide_eq_false (by omega))) ?_)))))))
   refine au F F (bl F F) (ad (bu F F) (ah F (au F F (az F) ?_)))
   by_cases ww:((cZ x.op:Nat):Int)<1
   ·refine au F F (aq (bT F F) (decide_eq_true ww)) ?_
    refine au F F (az F) (au F F (aN bs F aO F F) (au F F (aQ 0 cS F F F F) (au F F (aq (cT F F) (decide_eq_false (by omega))) (au F F (bu F F) (ad (bl F F) (ah F (au F F (az F) ?_)))))))
    by_cases pO:((cZ x.op:Nat):Int)<2
    ·refine au F F (aq (bT F F) (decide_eq_true pO)) ?_
     refine au F F (az F) (au F F (aN bs F aO F F) (au F F (aQ 0 cS F F F F) (au F F (aq (cT F F) (decide_eq_false (by omega))) (au F F (bu F F) (ad (bl F F) (ae (aL F ?_)))))))
     refine av ?_
     exact⟨(by exact Sub.rf),(.of F)⟩
    refine au F F (aq (bT F F) (decide_eq_false pO)) (au F F (az F) (aF F F (aF F F (aF F F (au F F (bl F F) (ad (bl F F) (ae ?_)))))))
    refine aL F (av ?_)
    exact⟨(by exact Sub.rf),(.of F)⟩
   refine au F F (aq (bT F F) (decide_eq_false ww)) (au F F (az F) (aF F F (aF F F (aF F F (au F F (bl F F) (ad (bl F F) (ah F (au F F (az F) ?_))))))))
   by_cases pO:((cZ x.op:Nat):Int)<2
   ·refine au F F (aq (bT F F) (decide_eq_true pO)) ?_
    refine au F F (az F) (au F F (aN bs F aO F F) (au F F (aQ 0 cS F F F F) (au F F (aq (cT F F) (decide_eq_false (by omega))) (au F F (bu F F) (ad (bl F F) (ae (aL F ?_)))))))
    refine av ?_
    exact⟨(by exact Sub.rf),(.of F)⟩
   refine au F F (aq (bT F F) (decide_eq_false pO)) (au F F (az F) (aF F F (aF F F (aF F F (au F F (bl F F) (ad (bl F F) (ae ?_)))))))
   refine aL F (av ?_)
   exact⟨(by exact Sub.rf),(.of F)⟩
  refine ad (aq (cT F F) (decide_eq_false h3)) (ah F (aF F F (aF F F (aF F F (aF F F (aF F F (aF F F (aF F F ?_))))))))
  refine aF F F (ad (bl F F) (ah F (au F F (az F) ?_)))
  by_cases ww:((cZ x.op:Nat):Int)<1
  ·refine au F F (aq (bT F F) (decide_eq_true ww)) ?_
   refine au F F (az F) (au F F (aN bs F aO F F) (au F F (aQ 0 cS F F F F) (au F F (aq (cT F F) (decide_eq_false (by omega))) (au F F (bu F F) (ad (bl F F) (ah F (au F F (az F) ?_)))))))
   by_cases pO:((cZ x.op:Nat):Int)<2
   ·refine au F F (aq (bT F F) (decide_eq_true pO)) ?_
    refine au F F (az F) (au F F (aN bs F aO F F) (au F F (aQ 0 cS F F F F) (au F F (aq (cT F F) (decide_eq_false (by omega))) (au F F (bu F F) (ad (bl F F) (ae (aL F ?_)))))))
    refine av ?_
    exact⟨(by exact Sub.rf),(.of F)⟩
   refine au F F (aq (bT F F) (decide_eq_false pO)) (au F F (az F) (aF F F (aF F F (aF F F (au F F (bl F F) (ad (bl F F) (ae ?_)))))))
   refine aL F (av ?_)
   exact⟨(by exact Sub.rf),(.of F)⟩
  refine au F F (aq (bT F F) (decide_eq_false ww)) (au F F (az F) (aF F F (aF F F (aF F F (au F F (bl F F) (ad (bl F F) (ah F (au F F (az F) ?_))))))))
  by_cases pO:((cZ x.op:Nat):Int)<2
  ·refine au F F (aq (bT F F) (decide_eq_true pO)) ?_
   refine au F F (az F) (au F F (aN bs F aO F F) (au F F (aQ 0 cS F F F F) (au F F (aq (cT F F) (decide_eq_false (by omega))) (au F F (bu F F) (ad (bl F F) (ae (aL F ?_)))))))
   refine av ?_
   exact⟨(by exact Sub.rf),(.of F)⟩
  refine au F F (aq (bT F F) (decide_eq_false pO)) (au F F (az F) (aF F F (aF F F (aF F F (au F F (bl F F) (ad (bl F F) (ae ?_)))))))
  refine aL F (av ?_)
  exact⟨(by exact Sub.rf),(.of F)⟩
 rintro ρ O ⟨hS,hH⟩
 obtain⟨fE,rfl⟩:=hH.elim
 clear hH
 refine ck hS ?_
 refine aB (ai (ad (aN bs F cI F F) (ad (aQ 0 eu F F F F) (ad (aZ F F) (ae (aC F (fun hc=>?_) (fun hc=>?_)))))))
 ·have j8:x.op=3:=by omega
  refine ai (ad (aN bs F cI F F) (ad (aQ 0 eu F F F F) (ad (aN bs F cI F F) (ad (aQ 0 eu F F F F) (ad (bG (cs:=[v8 x.p,v8 x.n]) gM eO (by kernel_rfl)) (ah F ?_))))))
  have HE:=fun(w1:World) (hI:Inv w [oI lX 72 x.cl] w1)=>(haveI:=di hI;OY w1 x.p x.n v hp hn hv (WB j8))
  refine ak F (aP SG (aI HE) F ?_)
  clear HE
  rintro vr O' ⟨N,rfl,rfl,rfl⟩
  refine aj F (ae (aA (ap ?_)))
  refine aE (vI 0) Tryz.results47 F ?_
  exact⟨[],Sub.z,F,F⟩
 have MP: ¬x.op=3:=by omega
 refine av (ai (aj F (ae (aA (ap ?_)))))
 refine aE (vI 0) Tryz.results47 F ?_
 exact⟨[],Sub.z,F,F⟩
theorem SH (w:World) [cG Tryz.prog w] (o:Nat):
  bI Tryz.prog 80 [v8 o] w fun v N=>v=.bool (decide (o=9)||decide (o=10))∧N=[]:=by
 refine aw func80 F ntmps80 F ?_
 refine ai (aj F (ae (ai (ah F ?_))))
 by_cases h9:((o:Nat):Int)=9
 ·refine ad (aq (aZ F F) (decide_eq_true h9)) ?_
  refine ah F (aF F F (aF F F (ad (bu F F) (aj F (ae (aA ?_))))))
  refine aE (.bool true) Tryz.results80 F ?_
  exact⟨congrArg Value.bool (by rw[decide_eq_true (show o=9 by omega)];rfl),F⟩
 refine ad (aq (aZ F F) (decide_eq_false h9)) (ah F (au F F (az F) (au F F (aZ F F) (ad (bl F F) (aj F (ae (aA ?_)))))))
 refine aE (.bool (decide (((o:Nat):Int)=10))) Tryz.results80 F ?_
 exact⟨congrArg Value.bool (by rw[decide_eq_false (show¬o=9 by omega)];exact decide_eq_decide.2 (by omega)),F⟩
theorem K7 (w:World) [cG Tryz.prog w] (eb:Option Addr) (ec:Nat) (e:List dF) (hE:Sl w eb (bg e)) (i:Nat) (fr:Bool) (hi:i<e.length) (tT:1≤e[i].op) (qH:e[i].op≤10) (WF:(decide (e[i].op=9)||decide (e[i].op=10))=true→(!fr)=false) (DN:1≤cZ e[i].op→ ∀w1 [cG Tryz.prog w1],Inv w [] w1→bI Tryz.prog 49 [(.slice eb e.length ec),vI e[i].a,.bool (fr&&decide (e[i].op=4∨e[i].op=5))] w1 fun v N=>v=.bool false∧N=[]) (HF:2≤cZ e[i].op→ ∀w1 [cG Tryz.prog w1],Inv w [] w1→bI Tryz.prog 49 [(.slice eb e.length ec),vI e[i].b,.bool (fr&&decide (e[i].op=4∨e[i].op=5))] w1 fun v N=>v=.bool false∧N=[]):
  bI Tryz.prog 49 [(.slice eb e.length ec),vN i,.bool fr] w fun v N=>v=.bool false∧N=[]:=by
 refine aw func49 F ntmps49 F ?_
 refine ai (aj F (ae ?_))
 refine e7 (fun ρ O=>Sub [] O∧cw [(0,(.slice eb e.length ec)),(1,vN i),(2,.bool fr)] ρ) ?_ ?_
 ·refine aB ?_
  refine aJ (ah F (ah F (ad (cY (i:=i) cN bN F F (ay hE) hi (by rw[bE];omega)) (ad (br bs F cI F F (ay hE) (by rw[bE];omega)) ?_))))
  refine ad (cd eu F F (ay hE) (ew (List.getElem?_eq_getElem hi) 0 (by show 0<5;decide))) ?_
  have Au:=fun(w1:World) (hI:Inv w [] w1)=>(haveI:=di hI;SH w1 e[i].op)
  refine ak F (aP SI (aI Au) F ?_)
  clear Au
  rintro vr O' ⟨N,rfl,rfl,rfl⟩
  by_cases OZ:(decide (e[i].op=9)||decide (e[i].op=10))=true
  ·refine ad (aq (az F) (OZ)) ?_
   refine au F F (az F) (au F F (gy F) (ad (bu F F) (ae (aL (congrArg Value.bool (WF OZ)) (av ?_)))))
   exact⟨(by exact Sub.rf),⟨F,F,F,trivial⟩⟩
  refine ad (aq (az F) (Bool.eq_false_iff.2 OZ)) (aF F F (aF F F (ad (bl F F) (ae (aL F (av ?_))))))
  exact⟨(by exact Sub.rf),⟨F,F,F,trivial⟩⟩
 rintro ρ O ⟨hS,hH⟩
 obtain⟨fE,rfl⟩:=hH.elim
 clear hH
 refine ck hS ?_
 refine e7 (fun ρ O=>Sub [] O∧cw [(0,(.slice eb e.length ec)),(1,vN i),(2,.bool fr),(7,.bool (fr&&decide (e[i].op=4∨e[i].op=5)))] ρ) ?_ ?_
 ·refine aJ ?_
  refine ah F ?_
  by_cases HG:fr=true
  ·refine ad (aq (az F) (HG)) ?_
   refine au F F (az F) (au F F (az F) (au F F (cY (i:=i) cN bN F F (ay hE) hi (by rw[bE];omega)) (au F F (br bs F cI F F (ay hE) (by rw[bE];omega)) ?_)))
   refine au F F (cd eu F F (ay hE) (ew (List.getElem?_eq_getElem hi) 0 (by show 0<5;decide))) ?_
   refine au F F (aZ F F) ?_
   by_cases h4:((e[i].op:Nat):Int)=4
   ·refine au F F (aq (az F) (decide_eq_true h4)) ?_
    refine aF F F (aF F F (aF F F (aF F F (aF F F (aF F F (au F F (bu F F) (ad (bu F F) (aj F ?_))))))))
    refine ae ?_
    exact⟨(by exact Sub.rf),⟨F,F,F,(congrArg Value.bool (by rw[HG,decide_eq_true (show e[i].op=4∨e[i].op=5 by omega)];rfl)),trivial⟩⟩
   refine au F F (aq (az F) (decide_eq_false h4)) (au F F (az F) (au F F (az F) (au F F (cY (i:=i) cN bN F F (ay hE) hi (by rw[bE];omega)) (au F F (br bs F cI F F (ay hE) (by rw[bE];omega)) ?_))))
   refine au F F (cd eu F F (ay hE) (ew (List.getElem?_eq_getElem hi) 0 (by show 0<5;decide))) ?_
   refine au F F (aZ F F) (au F F (bl F F) (ad (bu F F) (aj F (ae ?_))))
   exact⟨(by exact Sub.rf),⟨F,F,F,(congrArg Value.bool (by rw[HG,Bool.true_and];exact decide_eq_decide.2 (by omega))),trivial⟩⟩
  refine ad (aq (az F) (Bool.eq_false_iff.2 HG)) (aF F F (aF F F (aF F F (aF F F (aF F F (aF F F (aF F F ?_)))))))
  refine aF F F (aF F F (aF F F (aF F F (aF F F (aF F F (aF F F (ad (bl F F) (aj F ?_))))))))
  refine ae ?_
  exact⟨(by exact Sub.rf),⟨F,F,F,(congrArg Value.bool (by rw[Bool.eq_false_iff.2 HG];rfl)),trivial⟩⟩
 rintro ρ O ⟨hS,hH⟩
 obtain⟨fE,rfl⟩:=hH.elim
 clear hH
 refine ck hS ?_
 refine aB (ai (ah F (ah F (ad (cY (i:=i) cN bN F F (ay hE) hi (by rw[bE];omega)) (ad (br bs F cI F F (ay hE) (by rw[bE];omega)) ?_)))))
 refine ad (cd eu F F (ay hE) (ew (List.getElem?_eq_getElem hi) 0 (by show 0<5;decide))) ?_
 have mu:=fun(w1:World) (hI:Inv w [] w1)=>(haveI:=di hI;yo w1 e[i].op tT qH)
 refine ak F (aP DM (aI mu) F ?_)
 clear mu
 rintro vr O' ⟨N,rfl,rfl,rfl⟩
 refine ae (aG (ai (ad (aZ F F) (aj F (ae (aC F (fun hc=>?_) (fun hc=>?_)))))))
 ·have u3:cZ e[i].op=1:=by omega
  refine ai (ah F (ah F (ah F (ad (cY (i:=i) cN bN F F (ay hE) hi (by rw[bE];omega)) ?_))))
  refine ad (br bs F aO F F (ay hE) (by rw[bE];omega)) (ad (cd cS F F (ay hE) (ew (List.getElem?_eq_getElem hi) 3 (by show 3<5;decide))) (ah F ?_))
  have SJ:=fun(w1:World) (hI:Inv w [] w1)=>(haveI:=di hI;DN (by omega) w1 hI.kw)
  refine ak F (aP DP (aI SJ) F ?_)
  clear SJ
  rintro vr O' ⟨N,rfl,rfl,rfl⟩
  refine aj F (ae (aA ?_))
  refine aE (.bool false) Tryz.results49 F ?_
  exact⟨F,F⟩
 have Sh: ¬cZ e[i].op=1:=by omega
 refine ai (ad (aZ F F) (aj F (ae (aC F (fun hc=>?_) (fun hc=>?_)))))
 ·have YZ:cZ e[i].op=2:=by omega
  refine ai (ah F (ah F (ah F (ad (cY (i:=i) cN bN F F (ay hE) hi (by rw[bE];omega)) ?_))))
  refine ad (br bs F aO F F (ay hE) (by rw[bE];omega)) (ad (cd cS F F (ay hE) (ew (List.getElem?_eq_getElem hi) 3 (by show 3<5;decide))) (ah F ?_))
  have HH:=fun(w1:World) (hI:Inv w [] w1)=>(haveI:=di hI;DN (by omega) w1 hI.kw)
  refine ak F (aP DP (aI HH) F ?_)
  clear HH
  rintro vr O' ⟨N,rfl,rfl,rfl⟩
  refine ah F (au F F (az F) (au F F (az F) (au F F (az F) (au F F (cY (i:=i) cN bN F F (ay hE) hi (by rw[bE];omega)) (au F F (br bs F aO F F (ay hE) (by rw[bE];omega)) ?_)))))
  refine au F F (cd cS F F (ay hE) (ew (List.getElem?_eq_getElem hi) 4 (by show 4<5;decide))) ?_
  refine au F F (az F) ?_
  have HI:=fun(w1:World) (hI:Inv w [] w1)=>(haveI:=di hI;HF (by omega) w1 hI.kw)
  refine fU F F F (aP DP (aI HI) F ?_)
  clear HI
  rintro vr O' ⟨N,rfl,rfl,rfl⟩
  refine ad (bl F F) (aj F (ae (aA ?_)))
  refine aE (.bool false) Tryz.results49 F ?_
  exact⟨F,F⟩
 have Y0: ¬cZ e[i].op=2:=by omega
 refine av (ai (aj F (ae (aA ?_))))
 refine aE (.bool false) Tryz.results49 F ?_
 exact⟨F,F⟩
theorem O0 (eb:Option Addr) (ec:Nat) (e:List dF) {v:Nat} {fs:List Nat} (hb:iw v e=.ok fs): ∀(f i:Nat) (fr:Bool) (w:World) [cG Tryz.prog w] (hE:Sl w eb (bg e)) (hi:i<e.length),i<f→lg e f i fr=true→bI Tryz.prog 49 [(.slice eb e.length ec),vN i,.bool fr] w fun v N=>v=.bool false∧N=[]
 |0,i,fr,w,_,_,hi,hf,_=>absurd hf (by omega)
 |f+1,i,fr,w,_,hE,hi,hf,hv=>by
  have ht:=oA hb i hi
  obtain⟨tT,qH,_⟩:=jT (pk hb hi)
  rw[kG hi]at hv
  split at hv
  ·cases hv
  ·rename_i hn
   rw[Bool.and_eq_true,Bool.or_eq_true,Bool.or_eq_true]at hv
   refine K7 w eb ec e hE i fr hi tT qH (fun h=>?_) (fun h w2 _ nw=>?_) (fun h w2 _ nw=>?_)
   ·cases fr with
    |true=>rfl
    |false=>exact absurd ⟨by simpa using h,F⟩ hn
   ·obtain⟨j,hj,Dq⟩:=ht.1 h
    rw[hj]
    have h2:=hv.1.resolve_left (by rw[decide_eq_true_eq];omega)
    rw[hj,Int.toNat_natCast]at h2
    exact O0 eb ec e hb f j _ w2 (nw.sl hE) (by omega) (by omega) h2
   ·obtain⟨j,hj,Dq⟩:=ht.2 h
    rw[hj]
    have h2:=hv.2.resolve_left (by rw[decide_eq_true_eq];omega)
    rw[hj,Int.toNat_natCast]at h2
    exact O0 eb ec e hb f j _ w2 (nw.sl hE) (by omega) (by omega) h2
theorem xr {fs:List Nat} {i k:Nat} (h1:k<i) (h2:k<fs.length):(aX (fs.take i))[k]? =some (vN (fs.getD k 0)):=by
 show((fs.take i).map _)[k]? =_
 rw[List.getElem?_map,List.getElem?_take,if_pos h1,List.getD_eq_getElem?_getD,List.getElem?_eq_getElem h2];rfl
theorem SK (w:World) [cG Tryz.prog w] (eb:Option Addr) (ec:Nat) (e:List dF) (hE:Sl w eb (bg e)) (nK: ∀x∈e,x.p<256∧x.n<256) (v:Nat) (h0:iD (v:Int) e=0):
  bI Tryz.prog 22 [(.slice eb e.length ec),vN v] w fun r N=>r=vI 0∧N=[]:=by
 refine aw func22 F ntmps22 F ?_
 obtain⟨_,Od,Fk,Ct,fs,kY,O4,WG⟩:=yp h0
 rw[Int.toNat_natCast]at kY
 have pP:fs.length=e.length:=by
  obtain⟨gs,g1,g2,_⟩:=nf kY e.length (Nat.le_refl _)
  rw[List.take_length,kY]at g1
  injection g1 with g1;rw[g1];exact g2
 refine ai (aj F (ae (aB (ai (ah F (ad (aq (bT F F) (decide_eq_false (by omega))) (ah F (au F F (az F) (au F F (aq (fW F F) (decide_eq_false (by omega))) (ad (bl F F) (ae ?_)))))))))))
 refine aL F (av (aB (ai (ah F (ad (bS cN F) (ad (aq (aZ F F) (decide_eq_false (by omega))) (ae (aL F (av (aB (ai (ah F (ad (bS cN F) (ad (aq (fW F F) (decide_eq_false (by omega))) (ae ?_)))))))))))))))
 refine aL F (av (ai (aj F (ae (aB (ai (aj F (ae (aG (T.dJ 3 1 ?_))))))))))
 let jj:Value:=(.slice eb e.length ec)
 refine cM (fun(i:Nat) ρ O=> ∃(b:Option Addr) (c:Nat),O=[am b c 3 1 (aX (fs.take i))]∧i≤e.length∧cw [(0,jj),(1,vN v),(5,(.slice b i c)),(6,vN i)] ρ) (fun i=>e.length-i) 0 ?_ ?_
 ·exact⟨none,0,F,Nat.zero_le _,⟨F,F,F,F,trivial⟩⟩
 rintro i ρ O ⟨b,c,rfl,hi,hH⟩
 obtain⟨fE,rfl⟩:=hH.elim
 clear hH
 refine aB (ai (ah F (ah F (ad (bS cN F) (ad (bT F F) (ae (aC F (fun hc=>?_) (fun hc=>?_))))))))
 ·have jE:i<e.length:=by omega
  have Kd:=nK _ (List.getElem_mem jE)
  have s_:=pk kY jE
  obtain⟨tT,qH,_⟩:=jT s_
  obtain⟨g0,g1,g2,g3⟩:=yr kY jE
  have Vs:cZ e[i].op=0∨cZ e[i].op=1∨cZ e[i].op=2:=Nb _
  refine av (aB (aG (ai (ah F (ah F (ad (cY (i:=i) cN bN F F (ay hE) jE (by rw[bE];omega)) (ad (dy (vs:=e[i].cl) bs F bN F F (Nat.succ_pos _) (ay hE) (jP jE)) (ah F ?_))))))))
  let eQ:List Lx.Item:=[am b c 3 1 (aX (fs.take i))]
  have HJ:=fun(w1:World) (hI:Inv w eQ w1)=>(haveI:=di hI;K6 w1 e[i] v Kd.1 Kd.2 (by omega) s_)
  refine ak F (aP SL (aI HJ) F ?_)
  clear HJ
  rintro vr O' ⟨N,rfl,rfl,rfl⟩
  refine aj F (ae (aB (ai (ah F (ad (aq (cT F F) (decide_eq_false (by decide))) (ae (aL F (av (ai (ah F (aj F (ae ?_))))))))))))
  refine e7 (fun ρ O=>Sub eQ O∧cw [(0,jj),(1,vN v),(5,(.slice b i c)),(6,vN i),(7,vI 0),(8,vN (if cZ e[i].op=1 then fs.getD i 0 else i))] ρ) ?_ ?_
  ·refine aB ?_
   refine aJ (ah F (ah F (ad (cY (i:=i) cN bN F F (ay hE) jE (by rw[bE];omega)) (ad (br bs F cI F F (ay hE) (by rw[bE];omega)) ?_))))
   refine ad (cd eu F F (ay hE) (ew (List.getElem?_eq_getElem jE) 0 (by show 0<5;decide))) ?_
   have u4:=fun(w1:World) (hI:Inv w eQ w1)=>(haveI:=di hI;yo w1 e[i].op tT qH)
   refine ak F (aP DM (aI u4) F ?_)
   clear u4
   rintro vr O' ⟨N,rfl,rfl,rfl⟩
   refine ad (aZ F F) (ae (aC F (fun hc=>?_) (fun hc=>?_)))
   ·have fK:cZ e[i].op=1:=by omega
    obtain⟨k1,k2,k3⟩:=g1 fK
    refine aB (ai (ah F (ah F (ad (cY (i:=i) cN bN F F (ay hE) jE (by rw[bE];omega)) (ad (br bs F aO F F (ay hE) (by rw[bE];omega)) ?_)))))
    refine ad (cd cS F F (ay hE) (ew (List.getElem?_eq_getElem jE) 3 (by show 3<5;decide))) (ah F (ad (a7 (ez F F (by omega)) (v':=vN (i-1)) (congrArg (Value.int .i64) (by omega))) (ad (aq (cT F F) (decide_eq_false (by omega))) ?_)))
    refine ah F (au F F (az F) (au F F (aq (aZ F F) (decide_eq_false (by omega))) (ad (bl F F) (ae (aL F (av (aJ (ah F (ah F (ad (a7 (ez F F (by omega)) (v':=vN (i-1)) (congrArg (Value.int .i64) (by omega))) (ad (cV (i:=(i-1)) bK aO F F (cP (mG 0 F)) (by omega) (by rw[List.length_map,List.length_take];omega)) ?_)))))))))))
    refine ad (cd cS F F (cP (mG 0 F)) (show(aX (fs.take i))[i-1]? =some (vN (fs.getD (i-1) 0))from xr (by omega) (by omega))) (aj F (ae ?_))
    exact⟨(by exact Sub.rf),⟨F,F,F,F,F,(congrArg (fun n9:Nat=>Value.int .i64 ((n9:Nat):Int)) (by rw[if_pos fK];exact k3.symm)),trivial⟩⟩
   have fQ: ¬cZ e[i].op=1:=by omega
   refine av ?_
   exact⟨(by exact Sub.rf),⟨F,F,F,F,F,(congrArg (fun n9:Nat=>Value.int .i64 ((n9:Nat):Int)) (by rw[if_neg fQ])),trivial⟩⟩
  rintro ρ O ⟨hS,hH⟩
  obtain⟨fE,rfl⟩:=hH.elim
  clear hH
  refine ck hS ?_
  refine e7 (fun ρ O=>Sub eQ O∧cw [(0,jj),(1,vN v),(5,(.slice b i c)),(6,vN i),(7,vI 0),(8,vN (fs.getD i 0))] ρ) ?_ ?_
  ·refine aB ?_
   refine aJ (ah F (ah F (ad (cY (i:=i) cN bN F F (ay hE) jE (by rw[bE];omega)) (ad (br bs F cI F F (ay hE) (by rw[bE];omega)) ?_))))
   refine ad (cd eu F F (ay hE) (ew (List.getElem?_eq_getElem jE) 0 (by show 0<5;decide))) ?_
   have SM:=fun(w1:World) (hI:Inv w eQ w1)=>(haveI:=di hI;yo w1 e[i].op tT qH)
   refine ak F (aP DM (aI SM) F ?_)
   clear SM
   rintro vr O' ⟨N,rfl,rfl,rfl⟩
   refine ad (aZ F F) (ae (aC F (fun hc=>?_) (fun hc=>?_)))
   ·have u9:cZ e[i].op=2:=by omega
    obtain⟨k1,k2,k3,k4,k5,k6⟩:=g2 u9
    refine aB (aB ?_)
    refine eD [(0,0),(1,0),(2,0),(3,0),(4,0),(5,0),(6,0),(7,0),(8,0),(9,0),(10,0),(11,0),(12,0),(13,0),(14,0),(15,0),(16,0),(17,0),(18,0),(19,0),(20,0),(21,0),(22,0),(23,0),(24,0),(25,0),(26,0),(27,0),(28,0),(29,0),(30,0),(31,0),(32,0),(33,0)] ?_
    refine ao F (az F) (ao F (az F) (ao F (cY (i:=i) cN bN F F (ay hE) jE (by rw[bE];omega)) (ao F (br bs F aO F F (ay hE) (by rw[bE];omega)) ?_)))
    refine ao F (cd cS F F (ay hE) (ew (List.getElem?_eq_getElem jE) 4 (by show 4<5;decide))) (ao F (az F) (ao F (a7 (ez F F (by omega)) (v':=vN (i-1)) (congrArg (Value.int .i64) (by omega))) (ao F (aq (cT F F) (decide_eq_false (by omega))) ?_)))
    refine ao F (az F) ?_
    refine aS F F F (az F) ?_
    refine aS F F F (aq (aZ F F) (decide_eq_false (by omega))) ?_
    refine ao F (bl F F) (ao F (az F) ?_)
    refine aS F F F (az F) ?_
    refine aS F F F (az F) ?_
    refine aS F F F (a7 (ez F F (by omega)) (v':=vN (i-1)) (congrArg (Value.int .i64) (by omega))) ?_
    refine aS F F F (cV (i:=(i-1)) bK aO F F (cP (mG 0 F)) (by omega) (by rw[List.length_map,List.length_take];omega)) ?_
    refine aS F F F (cd cS F F (cP (mG 0 F)) (show(aX (fs.take i))[i-1]? =some (vN (fs.getD (i-1) 0))from xr (by omega) (by omega))) ?_
    refine aS F F F (aq (aZ F F) (decide_eq_false (by omega))) ?_
    refine ao F (bl F F) (ao F (az F) ?_)
    refine aS F F F (az F) ?_
    refine aS F F F (az F) ?_
    refine aS F F F (cY (i:=i) cN bN F F (ay hE) jE (by rw[bE];omega)) ?_
    refine aS F F F (br bs F aO F F (ay hE) (by rw[bE];omega)) ?_
    refine aS F F F (cd cS F F (ay hE) (ew (List.getElem?_eq_getElem jE) 3 (by show 3<5;decide))) ?_
    refine aS F F F (az F) ?_
    refine aS F F F (az F) ?_
    refine aS F F F (a7 (ez F F (by omega)) (v':=vN (i-1)) (congrArg (Value.int .i64) (by omega))) ?_
    refine aS F F F (cV (i:=(i-1)) bK aO F F (cP (mG 0 F)) (by omega) (by rw[List.length_map,List.length_take];omega)) ?_
    refine aS F F F (cd cS F F (cP (mG 0 F)) (show(aX (fs.take i))[i-1]? =some (vN (fs.getD (i-1) 0))from xr (by omega) (by omega))) ?_
    refine aS F F F (qh (a:=(fs.getD (i-1) 0)) (b:=1) F F (by omega) (by omega)) ?_
    refine aS F F F (aq (cT F F) (decide_eq_false (by omega))) ?_
    refine ao F (bl F F) ?_
    refine bw ?_
    refine aL F (av (aJ (ah F (ah F (ah F (ad (a7 (ez F F (by omega)) (v':=vN (i-1)) (congrArg (Value.int .i64) (by omega))) (ad (cV (i:=(i-1)) bK aO F F (cP (mG 0 F)) (by omega) (by rw[List.length_map,List.length_take];omega)) (ad (cd cS F F (cP (mG 0 F)) (show(aX (fs.take i))[i-1]? =some (vN (fs.getD (i-1) 0))from xr (by omega) (by omega))) (ad (a7 (ez F F (by omega)) (v':=vN (fs.getD (i-1) 0-1)) (congrArg (Value.int .i64) (by omega))) (ad (cV (i:=(fs.getD (i-1) 0-1)) bK aO F F (cP (mG 0 F)) (by omega) (by rw[List.length_map,List.length_take];omega)) (ad (cd cS F F (cP (mG 0 F)) (show(aX (fs.take i))[(fs.getD (i-1) 0-1)]? =some (vN (fs.getD (fs.getD (i-1) 0-1) 0))from xr (by omega) (by omega))) (aj F (ae ?_)))))))))))))
    exact⟨(by exact Sub.rf),⟨F,F,F,F,F,(congrArg (fun n9:Nat=>Value.int .i64 ((n9:Nat):Int)) (by rw[k6,k4];congr 1;omega)),trivial⟩⟩
   have SN: ¬cZ e[i].op=2:=by omega
   refine av ?_
   exact⟨(by exact Sub.rf),⟨F,F,F,F,F,(congrArg (fun n9:Nat=>Value.int .i64 ((n9:Nat):Int)) (by split;rfl;exact(g3 (by omega)).symm)),trivial⟩⟩
  rintro ρ O ⟨hS,hH⟩
  obtain⟨fE,rfl⟩:=hH.elim
  clear hH
  refine ck hS ?_
  refine aJ (ah F (ah F (ak F (bM (v:=vN (fs.getD i 0)) bK aO F F F (fun z1=>?_)))))
  refine ak F (bY 1 bK bK aO F F F F (by rw[List.length_map,List.length_take];omega) (by decide) (Src.row (j:=0) F (by simp)) (by simp[dS]) (by omega) (by decide) (by decide) (fun z2 sk=>?_))
  refine aj F (ae (aJ (ah F (ad (cx (a:=i) (b:=1) F F (by omega)) (aj F (ae ?_))))))
  exact⟨i+1,by omega,[am z2 sk 3 1 ((aX (fs.take i))++[vN (fs.getD i 0)])],(by exact Sub.d (.k .z)),z2,sk,by rw[List.take_succ_eq_append_getElem (show i<fs.length by omega),show aX (fs.take i++[fs[i]])=aX (fs.take i)++[vN (fs[i])]from List.map_append,show fs.getD i 0=fs[i] by rw[List.getD_eq_getElem?_getD,List.getElem?_eq_getElem (by omega)];rfl],by omega,⟨F,F,F,F,trivial⟩⟩
 have zy: ¬i<e.length:=by omega
 have uf:i=e.length:=by omega
 refine bJ ?_
 refine aB (ai (ah F (ah F (ad (bS cN F) (ad (a7 (ez F F (by omega)) (v':=vN (e.length-1)) (congrArg (Value.int .i64) (by omega))) (ad (cV (i:=(e.length-1)) bK aO F F (cP (mG 0 F)) (by omega) (by rw[List.length_map,List.length_take];omega)) (ad (cd cS F F (cP (mG 0 F)) (show(aX (fs.take i))[e.length-1]? =some (vN (fs.getD (e.length-1) 0))from xr (by omega) (by omega))) (ad (aq (cT F F) (decide_eq_false (by omega))) (ae (aL F (av (aB (ai (ah F (ah F (ad (bS cN F) (ad (a7 (ez F F (by omega)) (v':=vN (e.length-1)) (congrArg (Value.int .i64) (by omega))) ?_)))))))))))))))))
 have Nc:=fun(w1:World) (hI:Inv w [am b c 3 1 (aX (fs.take i))] w1)=>(haveI:=di hI;O0 eb ec e kY e.length (e.length-1) true w1 (hI.sl hE) (by omega) (by omega) WG)
 refine ak F (aP DP (aI Nc) F ?_)
 clear Nc
 rintro vr O' ⟨N,rfl,rfl,rfl⟩
 refine ae (aL F (av (ai (aj F (ae (aA (ap ?_)))))))
 refine aE (vI 0) Tryz.results22 F ?_
 exact⟨[],Sub.z,F,F⟩
end Go.Proofs.YtgdbfideeeegmaaGreatDoor

namespace Go.Proofs.YtgdbfideeeegmaaGreatDoor
open Go.Lx Go.RowKit _root_.Go.Proofs.Tryz
theorem O5 (w:World) [cG Tryz.prog w] (S:List UInt8) (oy:S.length≤4096) (v i:Nat) (hv:v≤6) (m:List dF) (hR:rU 96 S 0 [] i S.length m) (nK: ∀x∈m,x.p<256∧x.n<256) (h0:iD (v:Int) m=0):
  bI Tryz.prog 59 [(str S),vN v] w fun v N=> ∃b c,v=.tuple #[.slice b m.length c,vI 0]∧N=[am b c 72 5 (bg m)]:=by
 refine aw func59 F ntmps59 F ?_
 refine ai (aj F (aj F (ae (aB (ai (ah F (ad (aq (bT F F) (decide_eq_false (by omega))) (ah F (au F F (az F) (au F F (aq (fW F F) (decide_eq_false (by omega))) (ad (bl F F) (ae ?_))))))))))))
 refine aL F (av (aB (ai (ah F (ad (uM ra F) (ad (aq (fW F F) (decide_eq_false (by omega))) (ae (aL F (av (ai (ah F (ad (bG (cs:=[(str S),(vI 0),nS,(vI 0)]) K8 O6 (by kernel_rfl)) (ak F (cH (cs:=[(str S),(vI 0),nS,(vI 0)]) F F (fun z1=>?_)))))))))))))))
 refine aj F (ae (aB (T.dJ 72 5 ?_)))
 refine aJ (ah F ?_)
 have lh:=(bm.under (A:=[oI z1 149 [(str S),vN 0,(.slice none (([]:List dF).length) 0),vI 0],am none 0 72 5 (bg [])]) (B:=[]) (O:=[am none 0 72 5 [],oI z1 149 [(str S),(vI 0),nS,(vI 0)]]) (hR w z1 none 0) (by exact Sub.dr [am none 0 72 5 []] _ (.k .z)))
 refine ak F (aP Aq lh F ?_)
 clear lh
 rintro vr O' ⟨A9,rfl,lb,lc,rfl,rfl⟩
 refine ae (aB (ai (ah F (ad (aK F) (ad (aN eH F gB F F) (ad (aQ 0 mr F F F F) (ad (aq (aZ F F) (decide_eq_true (by decide))) (ah F (au F F (az F) (au F F (aK F) (au F F (aN eH F aO F F) (au F F (aQ 0 cS F F F F) (au F F (az F) ?_)))))))))))))
 refine au F F (uM ra F) (au F F (aq (bT F F) (decide_eq_false (by omega))) (ad (bu F F) (ae (aL F (av (aB (ai (ah F (ad (aK F) (ad (aN eH F gB F F) (ad (aQ 0 mr F F F F) (ad (aq (aZ F F) (decide_eq_true (by decide))) ?_))))))))))))
 refine ae ?_
 refine bj F ?_
 refine aJ (ah F (ah F (ad (aK F) (ad (aN eH F fJ F F) (ad (aQ 0 cN F F F F) (ah F ?_))))))
 have SO:=fun(w1:World) (hI:Inv w [oI z1 149 [(str S),vN S.length,(.slice lb m.length lc),vI 0],am lb lc 72 5 (bg m)] w1)=>(haveI:=di hI;SK w1 lb lc m (hI.fV (mG 1 F)) nK v h0)
 refine ak F (aP SP (aI SO) F ?_)
 clear SO
 rintro vr O' ⟨N,rfl,rfl,rfl⟩
 refine ad (aK F) (ad (aN eH F gB F F) (ak F (a8 (vs:=[(vI 0)]) 0 gB F F F F ?_)))
 refine ae (aB (ai (ah F (ad (aK F) (ad (aN eH F gB F F) (ad (aQ 0 mr F F F F) (ad (aq (cT F F) (decide_eq_false (by decide))) (ae (aL F (av (ai (ah F (ad (aK F) (ad (aN eH F fJ F F) (ad (aQ 0 cN F F F F) (aj F (aj F ?_)))))))))))))))))
 refine ae (aA (ap ?_))
 refine cy (.slice lb m.length lc) (vI 0) Tryz.results59 F F ?_
 exact⟨[am lb lc 72 5 (bg m)],(by exact Sub.d (.k .z)),_,_,F,F⟩
theorem HK (w:World) [cG Tryz.prog w] (S:List UInt8) (oy:S.length≤4096) (v i:Nat) (hv:v≤6) (m:List dF) (hR:rU 96 S 0 [] i S.length m) (nK: ∀x∈m,x.p<256∧x.n<256) (h0:iD (v:Int) m=0):
  bI Tryz.prog 32 [(str S),vN v] w fun v N=> ∃b c,v=.slice b m.length c∧N=[am b c 72 5 (bg m)]:=by
 refine aw func32 F ntmps32 F ?_
 refine ai (aj F (ae (ai (ah F (ah F ?_)))))
 have oB:=fun(w1:World) (hI:Inv w [] w1)=>(haveI:=di hI;O5 w1 S oy v i hv m hR nK h0)
 refine ak F (aP SQ (aI oB) F ?_)
 clear oB
 rintro vr O' ⟨N,rfl,b,c,rfl,rfl⟩
 refine ah F (ad (aV (vs:=_) F F) (ad (aV (vs:=_) F F) (aj F (aj F (ae (ai (ah F (aj F (ae (aA (ap ?_)))))))))))
 refine aE (.slice b m.length c) Tryz.results32 F ?_
 exact⟨[am b c 72 5 (bg m)],(by exact Sub.rf),_,_,F,F⟩
end Go.Proofs.YtgdbfideeeegmaaGreatDoor

namespace Go.Proofs.YtgdbfideeeegmaaGreatDoor
open Go.Lx Go.RowKit _root_.Go.Proofs.Tryz
def K9:List UInt8:=[40,40,91,42,93,42,41,46,40,91,97,93,46,91,42,93,41,41]
def Ke:List UInt8:=[40,40,62,40,91,42,93,46,91,98,93,41,41,46,40,91,42,93,42,41,41]
def WH:List UInt8:=[91,42,93]
def wx:List dF:=[⟨3,0,0,0,0⟩,⟨8,0,0,0,0⟩,⟨3,1,0,0,0⟩,⟨3,0,0,0,0⟩,⟨4,0,0,2,3⟩,⟨4,0,0,1,4⟩]
def rk:List dF:=[⟨3,0,0,0,0⟩,⟨3,2,0,0,0⟩,⟨4,0,0,0,1⟩,⟨9,0,0,2,0⟩,⟨3,0,0,0,0⟩,⟨8,0,0,4,0⟩,⟨4,0,0,3,5⟩]
def DQ:List dF:=[⟨3,0,0,0,0⟩]
theorem Av {S:List UInt8} (oy:S.length≤4096) {ia:Nat} {l:List dF} (hl:l.length≤1000) (h1:Ch S ia 91) (h2:Ch S (ia+1) 42) (h3:Ch S (ia+1+1) 93):rU 96 S ia l l.length (ia+3) (l++[(⟨3,0,0,0,0⟩:dF)]):=
 M9 oy hl h1 fun base _ rb lb n lc=>Sz base rb S oy (ia+1) n lc lb h2 h3
theorem Nd {S:List UInt8} (oy:S.length≤4096) {ia k:Nat} {l:List dF} (hk:k<6) (hl:l.length≤1000) (h1:Ch S ia 91) (h2:Ch S (ia+1) (97+k)) (h3:Ch S (ia+1+1) 93):rU 96 S ia l l.length (ia+3) (l++[(⟨3,0|||1*2^k,0,0,0⟩:dF)]):=
 M9 oy hl h1 fun base _ rb lb n lc=>SA base rb S oy (ia+1) k n lc lb hk h2 h3
theorem rd1:rU 96 K9 0 [] 5 18 wx:=by
 have hS:K9.length≤4096:=by decide
 have a:rU 96 K9 2 [] 0 5 (wx.take 1):=Av hS (by decide) F F F
 have b:rU 96 K9 1 [] 1 7 (wx.take 2):=u6 hS F (HA (ia:=2) (c0:=91) hS (by decide) F (.inr F) a F F)
 have c:rU 96 K9 9 (wx.take 2) 2 12 (wx.take 3):=Nd hS (k:=0) (by decide) (by decide) F F F
 have d:rU 96 K9 13 (wx.take 3) 3 16 (wx.take 4):=Av hS (by decide) F F F
 have f:rU 96 K9 8 (wx.take 2) 4 17 (wx.take 5):=u6 hS F (DJ (ia:=9) (c0:=91) hS (by decide) F (.inr F) c F d F)
 exact u6 hS F (DJ (ia:=1) (c0:=40) hS (by decide) F (.inl F) b F f F)
theorem rd2:rU 96 Ke 0 [] 6 21 rk:=by
 have hS:Ke.length≤4096:=by decide
 have a:rU 96 Ke 4 [] 0 7 (rk.take 1):=Av hS (by decide) F F F
 have b:rU 96 Ke 8 (rk.take 1) 1 11 (rk.take 2):=Nd hS (k:=1) (by decide) (by decide) F F F
 have c:rU 96 Ke 3 [] 2 12 (rk.take 3):=u6 hS F (DJ (ia:=4) (c0:=91) hS (by decide) F (.inr F) a F b F)
 have d:rU 96 Ke 1 [] 3 13 (rk.take 4):=u6 hS F (K4 (ia:=2) hS (by decide) F c F)
 have f:rU 96 Ke 15 (rk.take 4) 4 18 (rk.take 5):=Av hS (by decide) F F F
 have g:rU 96 Ke 14 (rk.take 4) 5 20 (rk.take 6):=u6 hS F (HA (ia:=15) (c0:=91) hS (by decide) F (.inr F) f F F)
 exact u6 hS F (DJ (ia:=1) (c0:=40) hS (by decide) F (.inl F) d F g F)
theorem rd3:rU 96 WH 0 [] 0 3 DQ:=Av (by decide) (by decide) F F F
theorem SS:iD (1:Nat) wx=0:=by kernel_rfl
theorem SU:iD (2:Nat) rk=0:=by kernel_rfl
theorem WI:iD (0:Nat) DQ=0:=by kernel_rfl
section
variable (w:World) [cG Tryz.prog w]
theorem SV:bI Tryz.prog 32 [(str K9),.int .i64 ((1:Nat):Int)] w (fun v N=> ∃b c,v=.slice b wx.length c∧N=[am b c 72 5 (bg wx)]):=HK w K9 (by decide) 1 5 (by decide) wx rd1 (by decide) SS
theorem SW:bI Tryz.prog 32 [(str Ke),.int .i64 ((2:Nat):Int)] w (fun v N=> ∃b c,v=.slice b rk.length c∧N=[am b c 72 5 (bg rk)]):=HK w Ke (by decide) 2 6 (by decide) rk rd2 (by decide) SU
theorem SX:bI Tryz.prog 32 [(str WH),.int .i64 ((0:Nat):Int)] w (fun v N=> ∃b c,v=.slice b DQ.length c∧N=[am b c 72 5 (bg DQ)]):=HK w WH (by decide) 0 0 (by decide) DQ rd3 (by decide) WI
end
end Go.Proofs.YtgdbfideeeegmaaGreatDoor

namespace Go.Lx
open Go.RowKit
section
variable (ls:List Lf)
variable {ls}
end
end Go.Lx

namespace Go.Lx
open Go.RowKit
end Go.Lx

namespace Go.Lx
open Go.RowKit
section
variable {v B:Nat} {LS:List Lf} {w:List Nat}
end
end Go.Lx

namespace Go.Lx
open Go.RowKit Go.Proofs.YtgdbfideeeegmaaGreatDoor
theorem Mi {α:Type} [Nonempty α] {G:α→Prop} {kf:α→Key} {nx:α→Nat→α} {fn:α→Bool} {L:Nat} (h:L8 G kf nx fn L) {s:α} (Q:List α) (hG: ∀q∈Q,G q) (h0:s∈Q) (hc: ∀q∈Q,∀x,x<L→nx q x∈Q) {B:Nat} (hB:Q.length≤B):vi (zj G kf nx) L (kf s) B:=by
 refine⟨Q.map kf,⟨List.mem_map.2 ⟨s,h0,F⟩,fun k hk x hx=>?_⟩,by simpa using hB⟩
 obtain⟨q,hq,rfl⟩:=List.mem_map.1 hk
 rw[sw h (hG q hq) hx]
 exact List.mem_map.2 ⟨_,hc q hq x hx,F⟩
section
variable {ls:List Lf}
structure VM (ls:List Lf):Prop where
 len:ls.length=2
 o0:(lf ls 0).op=9
 f0:(lf ls 0).fo=[1]
 l0:(lf ls 0).la=false
 o1:(lf ls 1).op=0
 f1:(lf ls 1).fo=[]
 l1:(lf ls 1).la=true
def Kq (ls:List Lf) (bh:List Nat) (q:Nat) (o:List Ob):St:=⟨bh,⟨1,q,o⟩::(if cF (lf ls 1).d q=true then[⟨-1,0,o⟩]else[])⟩
theorem EE (c:Cf) (f:Bool) (o:List Ob) (h:c.k≠ -1):((c::(if f=true then[(⟨-1,0,o⟩:Cf)]else[])).foldl add [])=c::(if f=true then[⟨-1,0,o⟩]else[]):=by
 cases f with
 |false=>rfl
 |true=>
  show add (add [] c) ⟨-1,0,o⟩=_
  have e:add [] c=[c]:=by unfold add;rw[if_neg (by simp)];rfl
  rw[e];unfold add
  rw[if_neg (by rw[List.mem_singleton];intro e2;exact h (by rw[←e2]))]
  rfl
theorem Bq (h:VM ls) (f:Nat) (bh:List Nat) (o:List Ob):fG ls (f+1) bh 1 o=[⟨-1,0,o⟩]:=by
 unfold fG;rw[h.f1,h.l1];rfl
theorem Jx (h:VM ls):jU ls [0]=Kq ls (ls.map fun l=>l.d.start.toNat) (lf ls 1).d.start.toNat (rv ls [] (0,(lf ls 0).d.start.toNat)):=by
 have e:fg ls (2*ls.length) (ls.map fun l=>l.d.start.toNat) 0 []=⟨1,(lf ls 1).d.start.toNat,rv ls [] (0,(lf ls 0).d.start.toNat)⟩::(if cF (lf ls 1).d (lf ls 1).d.start.toNat=true then[⟨-1,0,rv ls [] (0,(lf ls 0).d.start.toNat)⟩]else[]):=by
  rw[h.len]
  show fg ls (3+1) _ 0 []=_
  unfold fg
  rw[if_pos h.o0]
  show fG ls (2+1) _ 0 _=_
  unfold fG
  rw[h.f0,h.l0]
  show(fg ls (1+1) _ 1 _++[])++[]=_
  rw[List.append_nil,List.append_nil]
  unfold fg
  rw[if_neg (by rw[h.o1];decide),if_neg (by rw[h.o1];decide),Bq h 0]
  rfl
 unfold jU Kq
 rw[show([0]:List Nat).flatMap (fun k=>fg ls (2*ls.length) (ls.map fun l=>l.d.start.toNat) k [])=fg ls (2*ls.length) (ls.map fun l=>l.d.start.toNat) 0 [] by simp,e,EE _ _ _ (by show(1:Int)≠ -1;decide)]
theorem Mj (h:VM ls) (bh:List Nat) (q:Nat) (o:List Ob) (x:Nat):li ls (Kq ls bh q o) x=Kq ls [0,0] (dY (lf ls 1).d q x) (lq ls o x):=by
 have eb:ky ls bh x=[0,0]:=by
  unfold ky
  rw[h.len,show List.range 2=[0,1]from F]
  simp only[List.map_cons,List.map_nil,h.o0,h.o1]
  rfl
 have e1:iv ls [0,0] x ⟨1,q,o⟩=⟨1,dY (lf ls 1).d q x,lq ls o x⟩::(if cF (lf ls 1).d (dY (lf ls 1).d q x)=true then[⟨-1,0,lq ls o x⟩]else[]):=by
  unfold iv
  rw[if_neg (by show¬(1:Int)<0;decide)]
  have e2:fG ls (2*ls.length) [0,0] 1 (lq ls o x)=[⟨-1,0,lq ls o x⟩]:=by rw[h.len];exact Bq h 3 _ _
  show _::(if _ then fG ls (2*ls.length) [0,0] 1 (lq ls o x)else[])=_
  rw[e2];rfl
 have e3:((Kq ls bh q o).cf.flatMap (iv ls [0,0] x))=iv ls [0,0] x ⟨1,q,o⟩:=by
  unfold Kq
  rw[List.flatMap_cons]
  have:(if cF (lf ls 1).d q=true then[(⟨-1,0,o⟩:Cf)]else[]).flatMap (iv ls [0,0] x)=[]:=by
   split
   ·show iv ls [0,0] x ⟨-1,0,o⟩++[]=[]
    unfold iv;rw[if_pos (by show(-1:Int)<0;decide)];rfl
   ·rfl
  rw[this,List.append_nil]
 unfold li
 rw[show(Kq ls bh q o).bh=bh from F,eb,e3,e1]
 unfold Kq
 rw[EE _ _ _ (by show(1:Int)≠ -1;decide)]
theorem O_ {vs:Nat} (hG:gN ls vs) (h:VM ls) {B:Nat} (hB:2*((lf ls 1).d.next.length*((lf ls 0).d.next.length+1))≤B):vi (zj (jw ls) St.key (li ls)) (2^vs) (jU ls [0]).key B:=by
 obtain⟨b0,Fo⟩: ∃b,b=ls.map fun l=>l.d.start.toNat:=⟨_,F⟩
 have k0:0<ls.length:=by rw[h.len];decide
 have k1:1<ls.length:=by rw[h.len];decide
 obtain⟨os,F6⟩: ∃os:List (List Ob),os=[]::(List.range (lf ls 0).d.next.length).map fun q=>[(0,q)]:=⟨_,F⟩
 have VN: ∀o,o∈os↔o=[]∨ ∃q,q<(lf ls 0).d.next.length∧o=[(0,q)]:=fun o=>by
  rw[F6,List.mem_cons,List.mem_map]
  exact or_congr Iff.rfl ⟨fun⟨q,h1,h2⟩=>⟨q,List.mem_range.1 h1,h2.symm⟩,fun⟨q,h1,h2⟩=>⟨q,List.mem_range.2 h1,h2.symm⟩⟩
 have UJ: ∀q,q<(lf ls 0).d.next.length→rv ls [] (0,q)∈os:=fun q hq=>by
  rw[VN];unfold rv;split
  ·exact .inl F
  ·exact .inr ⟨q,hq,F⟩
 have Qi: ∀o∈os,eB ls 1 o:=fun o ho=>by
  rcases(VN o).1 ho with rfl|⟨q,hq,rfl⟩
  ·exact .nil
  ·exact⟨List.pairwise_singleton _ _,fun p hp=>by rw[List.mem_singleton.1 hp];exact⟨Nat.zero_lt_one,hq⟩⟩
 have Kj: ∀o∈os,∀x,x<2^vs→lq ls o x∈os:=fun o ho x hx=>by
  rcases(VN o).1 ho with rfl|⟨q,hq,rfl⟩
  ·exact(VN _).2 (.inl F)
  ·exact UJ _ ((hG.iI k0).toVal.fF hq (by rw[hG.vars _ (iU k0)];exact hx)).1
 obtain⟨Q,hQ⟩: ∃Q:List St,Q=[b0,[0,0]].flatMap fun b=>(List.range (lf ls 1).d.next.length).flatMap fun q=>os.map fun o=>Kq ls b q o:=⟨_,F⟩
 have hm: ∀s,s∈Q↔ ∃b q o,(b=b0∨b=[0,0])∧q<(lf ls 1).d.next.length∧o∈os∧s=Kq ls b q o:=fun s=>by
  rw[hQ]
  simp only[List.mem_flatMap,List.mem_map,List.mem_range,List.mem_cons,List.not_mem_nil,or_false]
  constructor
  ·rintro⟨b,hb,q,hq,o,ho,rfl⟩;exact⟨b,q,o,hb,hq,ho,F⟩
  ·rintro⟨b,q,o,hb,hq,ho,rfl⟩;exact⟨b,hb,q,hq,o,ho,F⟩
 have s0:=dl (hG.iI k0).toVal
 have s1:=dl (hG.iI k1).toVal
 have n0:=(hG.iI k0).n0
 have n1:=(hG.iI k1).n0
 refine Mi (Eb hG) Q (fun s hs=>?_) ?_ (fun s hs x hx=>?_) ?_
 ·obtain⟨b,q,o,hb,hq,ho,rfl⟩:=(hm s).1 hs
  refine⟨?_,?_,fun c hc=>?_⟩
  ·rcases hb with rfl|rfl
   ·rw[Fo];exact oT hG
   ·refine⟨by rw[h.len];rfl,fun k hk=>?_⟩
    rw[h.len]at hk
    rcases(show k=0∨k=1 by omega)with rfl|rfl
    ·exact n0
    ·exact n1
  ·show(_::_:List Cf).Nodup
   split
   ·rw[List.nodup_cons]
    exact⟨by rw[List.mem_singleton];intro e;have:=congrArg Cf.k e;simp at this,by simp⟩
   ·simp
  ·rcases List.mem_cons.1 hc with rfl|hc
   ·exact .inr ⟨1,F,k1,hq,Qi o ho⟩
   ·split at hc
    ·rw[List.mem_singleton.1 hc];exact .inl ⟨F,F,(Qi o ho).mono (by omega)⟩
    ·simp at hc
 ·rw[Jx h,hm]
  exact⟨_,_,_,.inl Fo.symm,s1,UJ _ s0,F⟩
 ·obtain⟨b,q,o,hb,hq,ho,rfl⟩:=(hm s).1 hs
  rw[Mj h,hm]
  exact⟨_,_,_,.inr F,((hG.iI k1).toVal.fF hq (by rw[hG.vars _ (iU k1)];exact hx)).1,Kj o ho x hx,F⟩
 ·have:Q.length=2*((lf ls 1).d.next.length*((lf ls 0).d.next.length+1)):=by
   rw[hQ]
   have hl:os.length=(lf ls 0).d.next.length+1:=by rw[F6];simp
   simp only[List.flatMap_cons,List.flatMap_nil,List.append_nil,List.length_append,List.length_flatMap,List.length_map,hl]
   rw[show(fun _:Nat=>(lf ls 0).d.next.length+1)=Function.const Nat ((lf ls 0).d.next.length+1)from F,List.map_const,List.sum_replicate_nat,List.length_range]
   omega
  omega
end
end Go.Lx

