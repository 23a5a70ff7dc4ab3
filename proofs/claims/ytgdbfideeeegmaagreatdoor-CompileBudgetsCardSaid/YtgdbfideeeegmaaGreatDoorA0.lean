/- Contracts of functions of the program, and what they answer. Conditions: those each theorem names. -/
import Derived.WalkKit
import Derived.Below
import Derived.Orders
import Derived.Calls
import Derived.Control
import Derived.RangeFuncNested
import Derived.TacticsIn
import Derived.OrdersIn
set_option linter.unusedSectionVars false
set_option linter.unusedSimpArgs false
set_option linter.unusedVariables false
set_option linter.unnecessarySimpa false
set_option maxHeartbeats 8000000
set_option maxRecDepth 20000
theorem Go.Lx.F {α:Sort _} {a:α}:a=a:=rfl
namespace Go.Lx
open Go.RowKit
abbrev Env:=Nat→Value
def mS (ρ:Env) (d:Nat) (v:Value):Env:=fun t=>match Nat.beq t d with
 |true=>v
 |false=>ρ t
def ev (ρ:Env):Operand→Value
 | .tmp t=>ρ t
 | .const v=>v
 | .global g=>.pointer (some ⟨g,0,none⟩)
 | .func f=>.func (.func f) #[] #[]
def E_ (ρ:Env):List Operand→List Value
 | []=>[]
 |x::l=>ev ρ x::E_ ρ l
theorem GX (ρ:Env) (l:List Operand):E_ ρ l=l.map (ev ρ):=by
 induction l with
 |nil=>rfl
 |cons x l ih=>simp[E_,ih]
structure Ag (n:Nat) (ds:List Deferred) (a:Act) (ρ:Env):Prop where
 tmp: ∀t,a.tmps.getD t undef=ρ t
 size:a.tmps.size=n
 defers:a.defers=ds
theorem Ag.eval {n:Nat} {ds:List Deferred} {a:Act} {ρ:Env} (h:Ag n ds a ρ):a.eval=ev ρ:=by
 funext x
 cases x with
 |tmp t=>exact h.tmp t
 |_=>rfl
theorem Ag.put {n:Nat} {ds:List Deferred} {a:Act} {ρ:Env} (h:Ag n ds a ρ) {d:Nat} (hd:Nat.blt d n=true) (v:Value):Ag n ds (a.put (some d) v) (mS ρ d v):=by
 have hd':d<a.tmps.size:=by rw[h.size];rw[Nat.blt_eq]at hd;exact hd
 refine⟨fun t=>?_,by simp[Act.put,h.size],by simp[Act.put,h.defers]⟩
 have ht:=h.tmp t
 simp only[Act.put,mS]
 by_cases e:t=d
 ·subst e
  have hb:Nat.beq t t=true:=Nat.beq_refl t
  rw[hb]
  simp[Array.getD_eq_getD_getElem?,hd']
 ·have hb:Nat.beq t d=false:=by
   rcases h':Nat.beq t d with _|_
   ·rfl
   ·exact absurd (Nat.eq_of_beq_eq_true h') e
  rw[hb]
  simp only[Array.getD_eq_getD_getElem?]at ht⊢
  rw[Array.getElem?_setIfInBounds_ne (Ne.symm e)]
  exact ht
structure Item where
 blocks:List Nat
 P:World→Prop
 loc: ∀w w':World,(∀b∈blocks,w'.heap[b]? =w.heap[b]?)→P w→P w'
def cR (b:Nat) (o:Obj):Item:=⟨[b],fun w=>w.heap[b]? =some o,fun w w' h hp=>by rw[h b (by simp)];exact hp⟩
abbrev oI (b:Nat) (T:TypeId) (cs:List Value):Item:=cR b (.cells cs.toArray T (0,0))
structure Inv (base:World) (O:List Item) (w:World):Prop where
 below:Below base.heap.size base w
 holds: ∀it∈O,it.P w
 fresh: ∀it∈O,∀b∈it.blocks,base.heap.size≤b∧b<w.heap.size
 nodup:(O.flatMap Item.blocks).Nodup
theorem Inv.refl (w:World):Inv w [] w:=⟨Below.refl _ _,by simp,by simp,by simp⟩
theorem Inv.same {base:World} {O:List Item} {w w':World} (h:Inv base O w) (hh:w'.heap=w.heap) (ho:w'.os=w.os) (ht:w'.tape=w.tape) (hp:w'.output=w.output):Inv base O w':=by
 refine⟨⟨ho.trans h.below.os,ht.trans h.below.tape,hp.trans h.below.output,by rw[hh];exact h.below.size,fun k hk=>by rw[hh];exact h.below.block k hk⟩,fun it hi=>it.loc w w' (fun b _=>by rw[hh]) (h.holds it hi),fun it hi b hb=>by rw[hh];exact h.fresh it hi b hb,h.nodup⟩
theorem Inv.drew {base:World} {O:List Item} {w:World} (h:Inv base O w):Inv base O w.drew:=h.same rfl rfl rfl rfl
theorem Inv.drawn {base:World} {O:List Item} {w:World} (h:Inv base O w) (n:Nat):Inv base O {w with drawn:=n}:=h.same rfl rfl rfl rfl
theorem tO {O O':List Item} (h:O'.Sublist O):(O'.flatMap Item.blocks).Sublist (O.flatMap Item.blocks):=by
 induction h with
 |slnil=>exact List.Sublist.refl _
 |cons a _ ih=>exact ih.trans (by simp[List.flatMap_cons])
 |cons_cons a _ ih=>simp only[List.flatMap_cons];exact(List.Sublist.refl _).append ih
theorem Inv.sub {base:World} {O O':List Item} {w:World} (h:Inv base O w) (hs:O'.Sublist O):Inv base O' w:=
 ⟨h.below,fun it hi=>h.holds it (hs.subset hi),fun it hi=>h.fresh it (hs.subset hi),(tO hs).nodup h.nodup⟩
theorem Inv.perm {base:World} {O O':List Item} {w:World} (h:Inv base O w) (hs:O'.Perm O):Inv base O' w:=
 ⟨h.below,fun it hi=>h.holds it (hs.mem_iff.1 hi),fun it hi=>h.fresh it (hs.mem_iff.1 hi),((hs.flatMap_right Item.blocks).nodup_iff).2 h.nodup⟩
def Sub (O' O:List Item):Prop:= ∃l,O'.Perm l∧l.Sublist O
theorem bn {O' O:List Item} (h:O'.Sublist O):Sub O' O:=⟨O',List.Perm.refl _,h⟩
theorem Inv.iN {base:World} {O O':List Item} {w:World} (h:Inv base O w) (hs:Sub O' O):Inv base O' w:=by
 obtain⟨l,hp,wm⟩:=hs
 exact(h.sub wm).perm hp
theorem Inv.call {base:World} {O O':List Item} {w w':World} (h:Inv base O w) (h':Inv w O' w'):Inv base (O'++O) w':=by
 have RN: ∀b,b<w.heap.size→w'.heap[b]? =w.heap[b]? :=h'.below.block
 refine⟨?_,?_,?_,?_⟩
 ·exact h.below.trans (h'.below.mono h.below.size)
 ·intro it hi
  rcases List.mem_append.1 hi with hi|hi
  ·exact h'.holds it hi
  ·exact it.loc w w' (fun b hb=>RN b (h.fresh it hi b hb).2) (h.holds it hi)
 ·intro it hi b hb
  rcases List.mem_append.1 hi with hi|hi
  ·have:=h'.fresh it hi b hb
   exact⟨Nat.le_trans h.below.size this.1,this.2⟩
  ·have:=h.fresh it hi b hb
   exact⟨this.1,Nat.lt_of_lt_of_le this.2 h'.below.size⟩
 ·rw[List.flatMap_append,List.nodup_append]
  refine⟨h'.nodup,h.nodup,fun x hx y hy e=>?_⟩
  obtain⟨i,hi,KE⟩:=List.mem_flatMap.1 hx
  obtain⟨j,hj,RP⟩:=List.mem_flatMap.1 hy
  have h1:=(h'.fresh i hi x KE).1
  have h2:=(h.fresh j hj y RP).2
  omega
theorem Inv.step {base:World} {A B N:List Item} {it:Item} {w w':World} (h:Inv base (A++it::B) w)
  (ho:w'.os=w.os) (ht:w'.tape=w.tape) (hp:w'.output=w.output) (hs:w.heap.size≤w'.heap.size)
  (hb: ∀b,b<w.heap.size→b∉it.blocks→w'.heap[b]? =w.heap[b]?)
  (hN: ∀x∈N,x.P w') (hf: ∀x∈N,∀b∈x.blocks,b∈it.blocks∨(w.heap.size≤b∧b<w'.heap.size)) (hn:(N.flatMap Item.blocks).Nodup):
  Inv base (A++N++B) w':=by
 have tP: ∀x∈A++B,x∈A++it::B:=fun x hx=>by
  rcases List.mem_append.1 hx with h|h<;>simp[h]
 have jO:(A.flatMap Item.blocks++(it.blocks++B.flatMap Item.blocks)).Nodup:=by
  have:=h.nodup;simpa[List.flatMap_append,List.flatMap_cons]using this
 have Oh: ∀x∈A++B,∀b∈x.blocks,b∉it.blocks:=by
  intro x hx b hb hi
  rw[List.nodup_append]at jO
  obtain⟨_,h2,h3⟩:=jO
  rw[List.nodup_append]at h2
  rcases List.mem_append.1 hx with hx|hx
  ·exact h3 b (List.mem_flatMap.2 ⟨x,hx,hb⟩) b (List.mem_append.2 (.inl hi)) rfl
  ·exact h2.2.2 b hi b (List.mem_flatMap.2 ⟨x,hx,hb⟩) rfl
 have Oi: ∀b∈it.blocks,base.heap.size≤b∧b<w.heap.size:=h.fresh it (by simp)
 refine⟨?_,?_,?_,?_⟩
 ·refine⟨ho.trans h.below.os,ht.trans h.below.tape,hp.trans h.below.output,Nat.le_trans h.below.size hs,fun k hk=>?_⟩
  rw[hb k (Nat.lt_of_lt_of_le hk h.below.size) (fun hi=>by have:=(Oi k hi).1;omega)]
  exact h.below.block k hk
 ·intro x hx
  rcases List.mem_append.1 hx with hx|hx
  ·rcases List.mem_append.1 hx with hx|hx
   ·have qO:x∈A++B:=by simp[hx]
    exact x.loc w w' (fun b BL=>hb b (h.fresh x (tP x qO) b BL).2 (Oh x qO b BL)) (h.holds x (tP x qO))
   ·exact hN x hx
  ·have qO:x∈A++B:=by simp[hx]
   exact x.loc w w' (fun b BL=>hb b (h.fresh x (tP x qO) b BL).2 (Oh x qO b BL)) (h.holds x (tP x qO))
 ·intro x hx b BL
  rcases List.mem_append.1 hx with hx|hx
  ·rcases List.mem_append.1 hx with hx|hx
   ·have qO:x∈A++B:=by simp[hx]
    have:=h.fresh x (tP x qO) b BL
    exact⟨this.1,Nat.lt_of_lt_of_le this.2 hs⟩
   ·rcases hf x hx b BL with h1|h1
    ·exact⟨(Oi b h1).1,Nat.lt_of_lt_of_le (Oi b h1).2 hs⟩
    ·exact⟨Nat.le_trans h.below.size h1.1,h1.2⟩
  ·have qO:x∈A++B:=by simp[hx]
   have:=h.fresh x (tP x qO) b BL
   exact⟨this.1,Nat.lt_of_lt_of_le this.2 hs⟩
 ·have MQ: ∀x∈A++B,∀b∈x.blocks,∀y∈N,b∉y.blocks:=by
   intro x hx b BL y hy MS
   rcases hf y hy b MS with h1|h1
   ·exact Oh x hx b BL h1
   ·have:=(h.fresh x (tP x hx) b BL).2;omega
  simp only[List.flatMap_append]
  rw[List.nodup_append]at jO
  obtain⟨h1,h2,h3⟩:=jO
  rw[List.nodup_append]at h2
  obtain⟨_,h5,_⟩:=h2
  rw[List.nodup_append]
  refine⟨?_,h5,?_⟩
  ·rw[List.nodup_append]
   refine⟨h1,hn,fun x hx y hy e=>?_⟩
   subst e
   obtain⟨i,hi,KE⟩:=List.mem_flatMap.1 hx
   obtain⟨j,hj,RP⟩:=List.mem_flatMap.1 hy
   exact MQ i (by simp[hi]) x KE j hj RP
  ·intro x hx y hy e
   subst e
   rcases List.mem_append.1 hx with hx|hx
   ·exact h3 x hx x (List.mem_append.2 (.inr hy)) rfl
   ·obtain⟨i,hi,KE⟩:=List.mem_flatMap.1 hx
    obtain⟨j,hj,RP⟩:=List.mem_flatMap.1 hy
    exact MQ j (by simp[hj]) x RP i hi KE
theorem zG {O:List Item} {i:Nat} {it:Item} (h:O[i]? =some it): ∃A B,O=A++it::B∧ ∀x,O.set i x=A++x::B:=by
 induction O generalizing i with
 |nil=>simp at h
 |cons y O ih=>
  cases i with
  |zero=>simp at h;subst h;exact⟨[],O,rfl,fun x=>rfl⟩
  |succ i=>
   obtain⟨A,B,e,GY⟩:=ih (i:=i) (by simpa using h)
   exact⟨y::A,B,by rw[e];rfl,fun x=>by simp[GY x]⟩
theorem Inv.p6 {base:World} {O:List Item} {i:Nat} {it Oj:Item} {w w':World} (h:Inv base O w) (hi:O[i]? =some it)
  (ho:w'.os=w.os) (ht:w'.tape=w.tape) (hp:w'.output=w.output) (hs:w.heap.size≤w'.heap.size)
  (hb: ∀b,b<w.heap.size→b∉it.blocks→w'.heap[b]? =w.heap[b]?)
  (hN:Oj.P w') (hf: ∀b∈Oj.blocks,b∈it.blocks∨(w.heap.size≤b∧b<w'.heap.size)) (hn:Oj.blocks.Nodup):
  Inv base (O.set i Oj) w':=by
 obtain⟨A,B,e,GY⟩:=zG hi
 subst e
 rw[GY Oj]
 have:=Inv.step (N:=[Oj]) h ho ht hp hs hb (by simpa using hN) (by simpa using hf) (by simpa using hn)
 simpa using this
theorem Inv.new {base:World} {O N:List Item} {w w':World} (h:Inv base O w)
  (ho:w'.os=w.os) (ht:w'.tape=w.tape) (hp:w'.output=w.output) (hs:w.heap.size≤w'.heap.size)
  (hb: ∀b,b<w.heap.size→w'.heap[b]? =w.heap[b]?)
  (hN: ∀x∈N,x.P w') (hf: ∀x∈N,∀b∈x.blocks,w.heap.size≤b∧b<w'.heap.size) (hn:(N.flatMap Item.blocks).Nodup):
  Inv base (N++O) w':=
 h.call ⟨⟨ho,ht,hp,hs,hb⟩,hN,hf,hn⟩
theorem Inv.alloc {base:World} {O:List Item} {w:World} (h:Inv base O w) (o:Obj):Inv base (cR w.heap.size o::O) (w.alloc o):=by
 refine Inv.new (N:=[cR w.heap.size o]) h rfl rfl rfl (by simp) (fun b hb=>Below.heap_alloc w o b hb) ?_ ?_ ?_
 ·intro x hx
  simp at hx;subst hx
  show(w.heap.push o)[w.heap.size]? =some o
  simp
 ·intro x hx b hb
  simp at hx;subst hx
  simp[cR]at hb;subst hb
  simp
 ·simp[cR]
def Fr (r:Option Nat):Fence:= {Fence.wide with round:=r}
def RQ (b:Nat):Deferred:= {target:=.collected b,args:= #[]}
def sY (b:Nat):Item:=cR b (.deferred (some []))
abbrev mD (D:List Nat):List Deferred:=D.map RQ
abbrev mI (D:List Nat):List Item:=D.map sY
def Yw:Option Nat→List Item→Prop
 |none,_=>True
 |some l,M=> ∃it∈M,∀w,it.P w→ ∃rc,w.heap[l]? =some (.loop rc)
abbrev jk:=Exit→Env→List Item→Prop
def lift (base:World) (n:Nat) (M:List Item) (Q:jk):Exit→Act→World→Prop:=fun e a w=> ∃ρ O D,Ag n (mD D) a ρ∧Inv base (O++(mI D++M)) w∧Q e ρ O
def T (P:Program) (r:Option Nat) (base:World) (n:Nat) (c:Code) (Q:jk) (ρ:Env) (O:List Item):Prop:=
 ∀a w M D,Yw r M→Ag n (mD D) a ρ→Inv base (O++(mI D++M)) w→c.wpIn (Fr r) 0 P (lift base n M Q) a w
def GZ (K:Env→List Item→Prop) (Q:jk):jk
 | .normal,ρ,O=>K ρ O
 |e,ρ,O=>Q e ρ O
def Yx (id:Nat) (Q:jk):jk
 | .exit Re,ρ,O=>match Nat.beq Re id with
  |true=>Q .normal ρ O
  |false=>Q (.exit Re) ρ O
 |e,ρ,O=>Q e ρ O
section RR
variable {P:Program} {r:Option Nat} {base:World} {n:Nat} {Q:jk} {ρ:Env} {O:List Item}
theorem T.mono {c:Code} {Q':jk} (h:T P r base n c Q ρ O) (hq: ∀e ρ O,Q e ρ O→Q' e ρ O):T P r base n c Q' ρ O:=
 fun a w M D hM ha hi=>wpIn_mono (h a w M D hM ha hi) (fun e _ _ ⟨ρ,O,D,h1,h2,h3⟩=>⟨ρ,O,D,h1,h2,hq e ρ O h3⟩)
theorem av (h:Q .normal ρ O):T P r base n .skip Q ρ O:=fun _ _ _ D _ ha hi=>wpIn_skip ⟨ρ,O,D,ha,hi,h⟩
theorem T.label {l:Nat} (h:Q .normal ρ O):T P r base n (.label l) Q ρ O:=fun _ _ _ D _ ha hi=>wpIn_label ⟨ρ,O,D,ha,hi,h⟩
theorem bJ {id:Nat} (h:Q (.exit id) ρ O):T P r base n (.exit id) Q ρ O:=fun _ _ _ D _ ha hi=>wpIn_exit ⟨ρ,O,D,ha,hi,h⟩
theorem aA (h:Q .ret ρ O):T P r base n .ret Q ρ O:=fun _ _ _ D _ ha hi=>wpIn_ret ⟨ρ,O,D,ha,hi,h⟩
theorem aB {x y:Code} (h:T P r base n x (GZ (fun ρ O=>T P r base n y Q ρ O) Q) ρ O):T P r base n (.seq x y) Q ρ O:=by
 intro a w M D hM ha hi
 refine wpIn_seq (wpIn_mono (h a w M D hM ha hi) ?_)
 rintro e a' w' ⟨fB,O',D',h1,h2,h3⟩
 cases e with
 |normal=>exact h3 a' w' M D' hM h1 h2
 |_=>exact⟨fB,O',D',h1,h2,h3⟩
theorem e7 {x y:Code} (K:Env→List Item→Prop) (h:T P r base n x (GZ K Q) ρ O) (hk: ∀ρ O,K ρ O→T P r base n y Q ρ O):T P r base n (.seq x y) Q ρ O:=
 aB (h.mono fun e ρ O h=>by cases e<;>first|exact hk ρ O h|exact h)
theorem T.cond {c:Operand} {x y:Code} {t:Bool} (hc:ev ρ c=.bool t) (h1:t=true→T P r base n x Q ρ O) (h0:t=false→T P r base n y Q ρ O):T P r base n (.cond c x y) Q ρ O:=by
 intro a w M D hM ha hi
 refine wpIn_cond (t:=t) (by rw[ha.eval];exact hc) ?_
 cases t
 ·exact h0 rfl a w M D hM ha hi
 ·exact h1 rfl a w M D hM ha hi
theorem bj {c:Operand} {x y:Code} (hc:ev ρ c=.bool true) (h:T P r base n x Q ρ O):T P r base n (.cond c x y) Q ρ O:=
 T.cond hc (fun _=>h) (fun e=>by cases e)
theorem aL {c:Operand} {x y:Code} (hc:ev ρ c=.bool false) (h:T P r base n y Q ρ O):T P r base n (.cond c x y) Q ρ O:=
 T.cond hc (fun e=>by cases e) (fun _=>h)
theorem aC {c:Operand} {x y:Code} {p:Prop} [Decidable p] (hc:ev ρ c=.bool (decide p)) (h1:p→T P r base n x Q ρ O) (h0: ¬p→T P r base n y Q ρ O):T P r base n (.cond c x y) Q ρ O:=
 T.cond hc (fun e=>h1 (of_decide_eq_true e)) (fun e=>h0 (of_decide_eq_false e))
theorem aG {id:Nat} {c:Code} (h:T P r base n c (Yx id Q) ρ O):T P r base n (.block id c) Q ρ O:=by
 intro a w M D hM ha hi
 refine wpIn_block (wpIn_mono (h a w M D hM ha hi) ?_)
 rintro e a' w' ⟨fB,O',D',h1,h2,h3⟩
 cases e with
 |exit Re=>
  simp only[Exit.inBlock]
  simp only[Yx]at h3
  by_cases e:Re=id
  ·subst e
   rw[if_pos rfl]
   rw[Nat.beq_refl]at h3
   exact⟨fB,O',D',h1,h2,h3⟩
  ·rw[if_neg e]
   have hb:Nat.beq Re id=false:=by
    rcases h':Nat.beq Re id with _|_
    ·rfl
    ·exact absurd (Nat.eq_of_beq_eq_true h') e
   rw[hb]at h3
   exact⟨fB,O',D',h1,h2,h3⟩
 |_=>exact⟨fB,O',D',h1,h2,h3⟩
theorem dm {c:Code} {α:Type} (I:α→Env→List Item→Prop) (μ:α→Nat) (s:α) (h0:I s ρ O)
  (h: ∀s ρ O,I s ρ O→T P r base n c (GZ (fun fB O'=> ∃s',μ s'<μ s∧I s' fB O') Q) ρ O):T P r base n (.loop c) Q ρ O:=by
 have key: ∀(m:Nat) (s:α) (ρ:Env) (O:List Item) (a:Act) (w:World) (M:List Item) (D:List Nat),μ s=m→I s ρ O→Yw r M→Ag n (mD D) a ρ→Inv base (O++(mI D++M)) w→
   ∀(b:Frame) (k:List Go.Item) (cs:List Frame),b.roundOf=(Fr r).round→(Fr r).fn b.fn→(Fr r).room (cs.length+1+0)→
    ∃e a' w',lift base n M Q e a' w'∧ArrivesIn (Machine.fenced P (Fr r)) P (lone (b.atR a (.code c::.inLoop c::k)) cs w) b k cs e a' w':=by
  intro m
  induction m using Nat.strongRecOn with
  |_ m ih=>
   intro s ρ O a w M D hm hI hM ha hi b k cs uc hb hr
   obtain⟨e,a₁,tQ,hq,p7⟩:=h s ρ O hI a w M D hM ha hi b (.inLoop c::k) cs uc hb hr
   obtain⟨wT,Fa,Fb,wU,wV,hq⟩:=hq
   cases e with
   |normal=>
    obtain⟨s',eV,l6⟩:=hq
    obtain⟨V6,a₂,V7,RS,KF⟩:=ih (μ s') (hm▸eV) s' wT Fa a₁ tQ M Fb rfl l6 hM wU wV b k cs uc hb hr
    exact⟨V6,a₂,V7,RS,.of_steps (StepsIn.trans p7 (.one (fenced_calm hb hr rfl) stepR_inLoop)) KF⟩
   |exit id=>exact⟨_,a₁,tQ,⟨wT,Fa,Fb,wU,wV,hq⟩,.pass (x:=.inLoop c) rfl (fun _ _=>.inl (by simp)) p7⟩
   |goto l=>exact⟨_,a₁,tQ,⟨wT,Fa,Fb,wU,wV,hq⟩,.pass (x:=.inLoop c) rfl (fun _ _=>.inl (by simp)) p7⟩
   |ret=>exact⟨_,a₁,tQ,⟨wT,Fa,Fb,wU,wV,hq⟩,.pass (x:=.inLoop c) rfl (fun _ _=>.inl (by simp)) p7⟩
   |panic ch=>exact⟨_,a₁,tQ,⟨wT,Fa,Fb,wU,wV,hq⟩,.pass (x:=.inLoop c) rfl (fun _ _=>.inl (by simp)) p7⟩
   |outgrown=>exact⟨_,a₁,tQ,⟨wT,Fa,Fb,wU,wV,hq⟩,.pass (x:=.inLoop c) rfl (fun _ _=>.inl (by simp)) p7⟩
 intro a w M D hM ha hi b k cs uc hb hr
 obtain⟨e,a',w',hq,p7⟩:=key _ s ρ O a w M D rfl h0 hM ha hi b k cs uc hb hr
 exact⟨e,a',w',hq,.of_steps (.one (fenced_calm hb hr rfl) stepR_loop) p7⟩
theorem iX {b:Frame} {a:Act} {k:List Go.Item} {cs:List Frame} {w:World} {c:Code}:step P (lone (b.atR a (.code (.scope c)::k)) cs w)=.next (lone (b.atR a (.code c::.inScope c::k)) cs w):=
 step_lone_go (by simp[stepG,stepG.exec,Frame.atR])
theorem wo {b:Frame} {a:Act} {k:List Go.Item} {cs:List Frame} {w:World} {c:Code}:step P (lone (b.atR a (.inScope c::k)) cs w)=.next (lone (b.atR a k) cs w):=
 step_lone_go (by simp[stepG,stepG.exec,Frame.atR])
theorem T.scope {c:Code} (h:T P r base n c Q ρ O) (hg: ∀l ρ O,¬Q (.goto l) ρ O):T P r base n (.scope c) Q ρ O:=by
 intro a w M D hM ha hi b k cs uc hb hr
 obtain⟨e,a₁,tQ,hq,p7⟩:=h a w M D hM ha hi b (.inScope c::k) cs uc hb hr
 have h0:(lone (b.atR a (.code (.scope c)::k)) cs w).fenced P (Fr r):=fenced_calm hb hr rfl
 cases e with
 |normal=>exact⟨.normal,a₁,tQ,hq,.head h0 iX (StepsIn.trans p7 (.one (fenced_calm hb hr rfl) wo))⟩
 |exit id=>
  have hx:exitTo id (.inScope c::k)=exitTo id k:=by simp[exitTo]
  exact⟨.exit id,a₁,tQ,hq,fun k' hk=>.head h0 iX (p7.1 k' (by rw[hx];exact hk)),
   fun Ol hk=>let⟨V8,h1,h2⟩:=p7.2 Ol (by rw[hx];exact hk);⟨V8,h1,.head h0 iX h2⟩⟩
 |goto l=>obtain⟨fB,O',D',_,_,h3⟩:=hq;exact(hg l fB O' h3).elim
 |ret=>exact⟨_,a₁,tQ,hq,.of_steps (.one h0 iX) p7⟩
 |panic ch=>exact⟨_,a₁,tQ,hq,.of_steps (.one h0 iX) p7⟩
 |outgrown=>exact⟨_,a₁,tQ,hq,.of_steps (.one h0 iX) p7⟩
def QT (P:Program) (base:World) (o:Oper) (ρ:Env) (O:List Item) (v:Value):Prop:=
 ∀w,Inv base O w→(execOp (ev ρ) o).run P w=.ok (.value v) w
def LT (P:Program) (r:Option Nat) (base:World) (n:Nat) (o:Oper) (ρ:Env) (O:List Item) (K:Env→List Item→Prop):Prop:=
 ∀a w M ds,Ag n ds a ρ→Inv base (O++M) w→ ∀(next:Act→World→Prop) (Qx:Exit→Act→World→Prop),
  (∀a' fB O' w',Ag n ds a' fB→Inv base (O'++M) w'→K fB O'→next a' w')→o.wpIn (Fr r) 0 P a w next Qx
theorem jX {o:Oper} {a:Act} {w:World} {next:Act→World→Prop} {Qx:Exit→Act→World→Prop} (hd: ∀c,o.op≠.defer c)
  (h:o.uponIn (Fr r) 0 P a next Qx ((execOp a.eval o).run P w)):o.wpIn (Fr r) 0 P a w next Qx:=
 ⟨fun _ _=>trivial,by rw[Oper.semAt_eq _ _ _ hd];exact h⟩
theorem uF {o:Oper} {e:Operand→Value} {w:World} {x:Next} {w':World} (h:(execOp e o).run P w=.ok x w') (hx: ∀d,x≠.defer d): ∀c,o.op≠.defer c:=by
 intro c ec
 unfold execOp at h
 simp only[ec]at h
 rw[Sem.run_bind]at h
 cases hr:(resolve e c o.type).run P w with
 |ok d w1=>rw[hr]at h;simp[Result.andThen]at h;exact hx _ h.1.symm
 |halt y w1=>rw[hr]at h;simp[Result.andThen]at h
abbrev PX:=List PanicEntry→Prop
def TO (X:PX) (P:Program) (r:Option Nat) (base:World) (n:Nat) (ops:Array Oper) (l:List Oper) (K:Env→List Item→Prop) (ρ:Env) (O:List Item):Prop:=
 ∀(Q:jk) a w M D,(∀ρ O,K ρ O→Q .normal ρ O)∧(∀c ρ,X c→Q (.panic c) ρ [])→Ag n (mD D) a ρ→Inv base (O++(mI D++M)) w→wpListIn (Fr r) 0 P ops (lift base n M Q) l a w
theorem aJ {id:Nat} {l:List Oper} (h:TO (fun c=> ∀ρ,Q (.panic c) ρ []) P r base n l.toArray l (fun ρ O=>Q .normal ρ O) ρ O):T P r base n (.region id l.toArray false) Q ρ O:=
 fun a w M D _ ha hi=>wpIn_region_lit (h Q a w M D ⟨fun _ _ h=>h,fun _ ρ h=>h ρ⟩ ha hi)
variable {X:PX}
theorem ae {ops:Array Oper} {K:Env→List Item→Prop} (h:K ρ O):TO X P r base n ops [] K ρ O:=
 fun _ _ _ _ D hk ha hi=>wpListIn_nil ⟨ρ,O,D,ha,hi,hk.1 _ _ h⟩
def J_:Value→Option Bool
 | .bool b=>some b
 |_=>none
theorem g_ {a:Act} {ds:List Deferred} {ops:Array Oper} (ha:Ag n ds a ρ) {j t:Nat} (hj:(ops[j]?).bind (·.dst)=some t):yielded ops a.tmps j=J_ (ρ t):=by
 have h:=ha.tmp t
 unfold yielded
 rw[hj]
 rw[Array.getD_eq_getD_getElem?]at h
 rw[←h]
 show(match a.tmps[t]? with|some (.bool b)=>some b|_=>none)=_
 cases a.tmps[t]? with
 |none=>rfl
 |some v=>cases v<;>rfl
theorem Inv.left {M:List Item} {w:World} (h:Inv base (O++M) w):Inv base O w:=h.sub (List.sublist_append_left O M)
theorem dw {o:Oper} {d:Nat} {v:Value} {K:Env→List Item→Prop} (hd:o.dst=some d) (hn:Nat.blt d n=true) (h:QT P base o ρ O v) (hk:K (mS ρ d v) O):LT P r base n o ρ O K:=by
 intro a w M ds ha hi next Qx dT
 have hr:=h w hi.left
 rw[←ha.eval]at hr
 refine jX (uF hr (by simp)) ?_
 rw[hr]
 show next (a.put o.dst v) w
 rw[hd]
 exact dT _ _ _ _ (ha.put hn v) hi hk
theorem ak {ops:Array Oper} {l:List Oper} {K:Env→List Item→Prop} {o:Oper} (hg:o.guard=none)
  (h:LT P r base n o ρ O (fun fB O'=>TO X P r base n ops l K fB O')):TO X P r base n ops (o::l) K ρ O:=
 fun Q a w M D hk ha hi=>wpListIn_plain hg fun next dT=>h a w _ _ ha hi next _ fun a' _ _ w' h1 h2 h3=>dT a' w' (h3 Q a' w' M D hk h1 h2)
theorem ad {ops:Array Oper} {l:List Oper} {K:Env→List Item→Prop} {d:Nat} {op:Op} {t:TypeId} {p:String} {af:Array Edge} {v:Value}
  (h:QT P base ⟨some d,op,t,p,af,none⟩ ρ O v) (hk:TO X P r base n ops l K (mS ρ d v) O) (hn:Nat.blt d n=true:=by rfl):TO X P r base n ops (⟨some d,op,t,p,af,none⟩::l) K ρ O:=
 ak rfl (dw rfl hn h hk)
theorem fU {ops:Array Oper} {l:List Oper} {K:Env→List Item→Prop} {o:Oper} {j tj:Nat} {want:Bool} (hg:o.guard=some (j,want))
  (hj:(ops[j]?).bind (·.dst)=some tj) (hw:ρ tj=.bool want)
  (h:LT P r base n o ρ O (fun fB O'=>TO X P r base n ops l K fB O')):TO X P r base n ops (o::l) K ρ O:=by
 intro Q a w M D hk ha hi
 refine wpListIn_step fun next dT=>?_
 have hy:=g_ (ops:=ops) ha hj
 rw[hw]at hy
 have nZ:Region.wanted o (yielded ops a.tmps)=true:=by unfold Region.wanted;rw[hg];simp[hy,J_]
 rw[if_pos nZ]
 exact h a w _ _ ha hi next _ fun a' _ _ w' h1 h2 h3=>dT a' w' (h3 Q a' w' M D hk h1 h2)
theorem aF {ops:Array Oper} {l:List Oper} {K:Env→List Item→Prop} {d:Nat} {op:Op} {t:TypeId} {p:String} {af:Array Edge} {j tj:Nat} {want:Bool}
  (hj:(ops[j]?).bind (·.dst)=some tj) (hw:(J_ (ρ tj)==some want)=false) (hk:TO X P r base n ops l K (mS ρ d undef) O) (hn:Nat.blt d n=true:=by rfl):
  TO X P r base n ops (⟨some d,op,t,p,af,some (j,want)⟩::l) K ρ O:=by
 intro Q a w M D hq ha hi
 refine wpListIn_step fun next dT=>?_
 have hy:=g_ (ops:=ops) ha hj
 have nZ:Region.wanted ⟨some d,op,t,p,af,some (j,want)⟩ (yielded ops a.tmps)=false:=by unfold Region.wanted;simp only[hy];exact hw
 rw[nZ]
 exact⟨fun _ _=>trivial,dT _ _ (hk Q _ _ M D hq (ha.put hn undef) hi)⟩
end RR
end Go.Lx

namespace Go.Lx
open Go.RowKit
def iB (ops:Array Oper):Bool:=ops.all fun o=>match o.op with| .defer _=>false|_=>true
theorem mT {ops:Array Oper} (h:iB ops=true) {j:Nat} {o:Oper} (hj:ops[j]? =some o): ∀c,o.op≠.defer c:=by
 intro c e
 unfold iB at h
 rw[Array.all_eq_true']at h
 have:=h o (Array.mem_of_getElem? hj)
 rw[e]at this
 cases this
def Fc (P:Program) (r:Option Nat) (ops:Array Oper) (C:Array Bool→World→Prop) (Q:Exit→Act→World→Prop):Nat→Array Bool→Act→World→Prop
 |0,listed,a,w=>Region.ready .any ops listed=[]∧Q .normal a w
 |eX+1,listed,a,w=>
  (Region.ready .any ops listed=[]→Q .normal a w)∧
  ∀i∈Region.ready .any ops listed,wpOpIn (Fr r) 0 P ops Q i (fun a' w'=>C (listed.setIfInBounds i true) w'∧Fc P r ops C Q eX (listed.setIfInBounds i true) a' w') a w
theorem jY {P:Program} {r:Option Nat} {ops:Array Oper} {C:Array Bool→World→Prop} {Q:Exit→Act→World→Prop}: ∀(eX:Nat) (listed:Array Bool) (a:Act) (w:World),
  Fc P r ops C Q eX listed a w→wpAnyIn (Fr r) 0 P .any ops Q eX listed a w
 |0,_,_,_,h=>h
 |eX+1,_,_,_,h=>⟨h.1,fun i hi=>wpOpIn_mono (fun a' w' h'=>jY eX _ a' w' h'.2) (h.2 i hi)⟩
def closed (ops:Array Oper) (listed:Array Bool):Prop:= ∀k o,listed.getD k false=true→ops[k]? =some o→ ∀e∈o.after,Region.binds .any e=true→listed.getD e.on false=true
theorem mU (ops:Array Oper) (m:Nat):closed ops (Array.replicate m false):=fun k o h=>by
 rw[Array.getD_eq_getD_getElem?,Array.getElem?_replicate]at h
 split at h<;>simp at h
theorem gG {ops:Array Oper} {listed:Array Bool} {i:Nat} (h:closed ops listed) (hi:i∈Region.ready .any ops listed):closed ops (listed.setIfInBounds i true):=by
 intro k o hk ho e he hb
 obtain⟨_,oi,Yy,lS⟩:=mem_ready.1 hi
 by_cases Rf:i=k
 ·subst Rf
  rw[ho]at Yy;cases Yy
  exact getD_set_true (lS e he hb)
 ·rw[getD_set_ne false Rf]at hk
  exact getD_set_true (h k o hk ho e he hb)
def qP:List Edge→Nat
 | []=>0
 |e::l=>(if Region.binds .any e=true then 1<<<e.on else 0)|||qP l
theorem r_ {k:Nat}: ∀ {l:List Edge},(qP l).testBit k=true→ ∃e∈l,Region.binds .any e=true∧e.on=k
 | [],h=>by simp[qP]at h
 |e::l,h=>by
  rw[qP,Nat.testBit_or,Bool.or_eq_true]at h
  rcases h with h|h
  ·by_cases hb:Region.binds .any e=true
   ·rw[if_pos hb,Nat.one_shiftLeft,Nat.testBit_two_pow,decide_eq_true_eq]at h
    exact⟨e,by simp,hb,h⟩
   ·rw[if_neg hb]at h;simp at h
  ·obtain⟨e',h1,h2⟩:=r_ h
   exact⟨e',by simp[h1],h2⟩
def kC (ops:Array Oper) (j:Nat):Nat:=match ops[j]? with
 |some o=>qP o.after.toList
 |none=>0
theorem lE {ops:Array Oper} {j k:Nat} (h:(kC ops j).testBit k=true): ∃o,ops[j]? =some o∧ ∃e∈o.after,Region.binds .any e=true∧e.on=k:=by
 unfold kC at h
 cases ho:ops[j]? with
 |none=>rw[ho]at h;simp at h
 |some o=>
  rw[ho]at h
  obtain⟨e,h1,h2⟩:=r_ h
  exact⟨o,rfl,e,by simpa using h1,h2⟩
def G0 (ops:Array Oper):Nat→Nat→Nat
 |0,m=>m
 |j+1,m=>G0 ops j (if m.testBit j=true then m|||kC ops j else m)
theorem sa {ops:Array Oper} {listed:Array Bool} (hc:closed ops listed): ∀(n m:Nat),(∀k,m.testBit k=true→listed.getD k false=true)→ ∀k,(G0 ops n m).testBit k=true→listed.getD k false=true
 |0,_,h=>h
 |j+1,m,h=>by
  refine sa hc j _ fun k hk=>?_
  by_cases hj:m.testBit j=true
  ·rw[if_pos hj,Nat.testBit_or,Bool.or_eq_true]at hk
   rcases hk with hk|hk
   ·exact h k hk
   ·obtain⟨o,ho,e,he,hb,rfl⟩:=lE hk
    exact hc j o (h j hj) ho e he hb
  ·rw[if_neg hj]at hk;exact h k hk
def n5 (ops:Array Oper) (tl:List Nat) (i:Nat):Bool:=tl.all fun b=>(G0 ops ops.size (kC ops b)).testBit i
theorem B9 {ops:Array Oper} {tl:List Nat} {i:Nat} {listed:Array Bool} (ht:n5 ops tl i=true) (hc:closed ops listed) {b:Nat} (hb:b∈tl) (hr:b∈Region.ready .any ops listed):listed.getD i false=true:=by
 simp only[n5,List.all_eq_true]at ht
 have h1:=ht b hb
 obtain⟨_,o,ho,lS⟩:=mem_ready.1 hr
 refine sa hc ops.size _ ?_ i h1
 intro q hq
 obtain⟨o2,qH,e,he,hb,rfl⟩:=lE hq
 rw[ho]at qH;cases qH
 exact lS e he hb
theorem uG {ops:Array Oper} {tl:List Nat} {i:Nat} {listed:Array Bool} (ht:n5 ops tl i=true) (hc:closed ops listed) {b:Nat} (hb:b∈tl) (hl:listed.getD b false=true):listed.getD i false=true:=by
 simp only[n5,List.all_eq_true]at ht
 have h1:=ht b hb
 refine sa hc ops.size _ ?_ i h1
 intro q hq
 obtain⟨o,ho,e,he,hb,rfl⟩:=lE hq
 exact hc b o hl ho e he hb
structure gw (base:World) (S:List Item) (tail:List Nat) (S2:List Item) (cn:List Nat) (listed:Array Bool) (w:World):Prop where
 kw:Inv base [] w
 one:(tail.any fun b=>listed.getD b false)=true∨Inv base S w
 two:(cn.any fun b=>listed.getD b false)=true∨Inv base S2 w
theorem zH {tail:List Nat} {listed:Array Bool} {i:Nat} (hi:i∉tail) (h:(tail.any fun b=>(listed.setIfInBounds i true).getD b false)=true):(tail.any fun b=>listed.getD b false)=true:=by
 rw[List.any_eq_true]at h⊢
 obtain⟨b,hb,hl⟩:=h
 exact⟨b,hb,by rwa[getD_set_ne (i:=i) (j:=b) false (fun e=>hi (e▸hb))]at hl⟩
theorem gw.keep {base:World} {S S2:List Item} {tail cn:List Nat} {listed:Array Bool} {w:World} {i:Nat} (hi:i∉tail) (Fe:i∉cn) (h:gw base S tail S2 cn (listed.setIfInBounds i true) w):gw base S tail S2 cn listed w:=
 ⟨h.kw,h.one.imp (zH hi) id,h.two.imp (zH Fe) id⟩
def YC (P:Program) (ops:Array Oper) (C:World→Prop) (o:Oper) (v:Value) (a:Act):Prop:=
 (Region.wanted o (yielded ops a.tmps)=true∧ ∀w,C w→(execOp a.eval o).run P w=.ok (.value v) w)∨
 (Region.wanted o (yielded ops a.tmps)=false∧v=undef)
theorem YC.wpOp {P:Program} {r:Option Nat} {ops:Array Oper} {C:World→Prop} {Q:Exit→Act→World→Prop} {i:Nat} {o:Oper} {v:Value} {a:Act} (hi:ops[i]? =some o) (jO: ∀c,o.op≠.defer c) (hy:YC P ops C o v a)
  {K:Act→World→Prop} {w:World} (hC:C w) (h:K (a.put o.dst v) w):wpOpIn (Fr r) 0 P ops Q i K a w:=by
 unfold Go.wpOpIn
 simp only[hi]
 rcases hy with⟨hw,hv⟩|⟨hw,rfl⟩
 ·simp only[hw,if_true]
  refine jX jO ?_
  rw[hv w hC];exact h
 ·simp only[hw,Bool.false_eq_true,if_false];exact⟨fun _ _=>trivial,h⟩
theorem YC.of_same {P:Program} {ops:Array Oper} {C:World→Prop} {o:Oper} {v:Value} {a a':Act} (hy:YC P ops C o v a) (he:execOp a'.eval o=execOp a.eval o)
  (hw:Region.wanted o (yielded ops a'.tmps)=Region.wanted o (yielded ops a.tmps)):YC P ops C o v a':=by
 unfold YC at*
 rw[he,hw]
 exact hy
theorem Ff {P:Program} {r:Option Nat} {ops:Array Oper} {C:World→Prop} {Q:Exit→Act→World→Prop} {j:Nat} {oi oj:Oper} {v:Value} (hj:ops[j]? =some oj) (hap:oi.apart ops oj=true)
  (hsi: ∀cs b,oi.op≠.select cs b) (hsj: ∀cs b,oj.op≠.select cs b) (Yz: ∀c,oj.op≠.defer c)
  (hQ: ∀c a a' w,a'.defers=a.defers→a'.tmps.size=a.tmps.size→Q (.panic c) a w→Q (.panic c) a' w) {K:Act→World→Prop} {a:Act} {w:World}
  (hy:YC P ops C oi v a) (h:wpOpIn (Fr r) 0 P ops Q j (fun a' w'=>C w'∧K a' w') (a.put oi.dst v) w):
  wpOpIn (Fr r) 0 P ops Q j (fun a' w'=>C w'∧YC P ops C oi v a'∧K (a'.put oi.dst v) w') a w:=by
 obtain⟨h1,h2,h3⟩:=Oper.apart_spec hap
 have keep: ∀(a:Act),YC P ops C oi v a→ ∀u,YC P ops C oi v (a.put oj.dst u):=fun a hy u=>
  hy.of_same (execOp_put oi hsi a oj.dst u h3) (wanted_put oi a oj.dst u h3)
 have RT: ∀d,YC P ops C oi v {a with defers:=d::a.defers}:=fun d=>hy.of_same rfl rfl
 unfold wpOpIn at*
 simp only[hj]at*
 rw[wanted_put oj a oi.dst v h1]at h
 split
 ·rename_i hw
  simp only[hw,if_true]at h
  have h:=h.2
  rw[Oper.semAt_eq _ _ _ Yz,execOp_put oj hsj a oi.dst v h1]at h
  refine jX Yz ?_
  generalize(execOp a.eval oj).run P w=r at*
  cases r with
  |ok n w'=>
   cases n<;>simp only[Oper.uponIn]at h⊢
   case value u=>exact⟨h.1,keep a hy u,by rw[←Act.put_comm a v u h2];exact h.2⟩
   case skip=>exact⟨h.1,keep a hy _,by rw[←Act.put_comm a v undef h2];exact h.2⟩
   case defer d=>
    refine⟨h.1,keep _ (RT d) _,?_⟩
    rw[←Act.put_comm _ v undef h2,←Act.put_defers]
    exact h.2
   case enter f args=>
    refine⟨h.1,CallsIn.mono h.2 fun e KG he=>?_⟩
    cases e with
    |returned u=>exact⟨he.1,keep a hy u,by rw[←Act.put_comm a v u h2];exact he.2⟩
    |panicked c=>exact hQ _ (a.put oi.dst v) a _ (by cases oi.dst<;>rfl) (by cases oi.dst<;>simp[Act.put]) he
    |outgrown=>exact he
   case row row args=>exact⟨h.1,RowsIn.mono h.2 fun u KG he=>⟨he.1,keep a hy u,by rw[←Act.put_comm a v u h2];exact he.2⟩⟩
   case round l f tmps assign body=>
    refine⟨h.1,RoundIn.mono h.2 fun e KG he=>?_⟩
    cases e with
    |returned u=>exact⟨he.1,keep a hy u,by rw[←Act.put_comm a v u h2];exact he.2⟩
    |panicked c=>exact hQ _ (a.put oi.dst v) a _ (by cases oi.dst<;>rfl) (by cases oi.dst<;>simp[Act.put]) he
    |outgrown=>exact he
  |halt x w'=>
   cases x<;>simp only[Oper.uponIn]at h⊢
   case panic u=>exact hQ _ (a.put oi.dst v) a _ (by cases oi.dst<;>rfl) (by cases oi.dst<;>simp[Act.put]) h
 ·rename_i hw
  simp only[hw]at h
  exact⟨fun _ _=>trivial,h.2.1,keep a hy _,by rw[←Act.put_comm a v undef h2];exact h.2.2⟩
theorem B_ {P:Program} {r:Option Nat} {ops:Array Oper} {base:World} {S S2 Z:List Item} {tail cn zt:List Nat} {Q:Exit→Act→World→Prop} {i:Nat} {oi:Oper} {v:Value} (hi:ops[i]? =some oi) (dZ:i∉tail) (Om:i∉cn) (ht:n5 ops zt i=true)
  (hz: ∀listed w,gw base S tail S2 cn listed w→(zt.any fun b=>listed.getD b false)=true∨Inv base Z w) (YA:i∉zt)
  (RU: ∀(j:Nat) (o:Oper) cs b,ops[j]? =some o→o.op≠.select cs b) (jO:iB ops=true) (hQ: ∀c a a' w,a'.defers=a.defers→a'.tmps.size=a.tmps.size→Q (.panic c) a w→Q (.panic c) a' w):
  ∀(eX:Nat) (listed:Array Bool) (a:Act) (w:World),closed ops listed→
   (∀j oj,ops[j]? =some oj→j≠i→listed.getD j true=false→(∀e∈oj.after,Region.binds .any e=true→e.on≠i)→oi.apart ops oj=true)→
   i∈Region.ready .any ops listed→YC P ops (Inv base Z) oi v a→Inv base Z w→gw base S tail S2 cn listed w→
   Fc P r ops (gw base S tail S2 cn) Q eX (listed.setIfInBounds i true) (a.put oi.dst v) w→Fc P r ops (gw base S tail S2 cn) Q (eX+1) listed a w:=by
 have up: ∀ {listed:Array Bool} {w:World},gw base S tail S2 cn listed w→gw base S tail S2 cn (listed.setIfInBounds i true) w:=fun {listed w} h=>by
  have grow: ∀tl:List Nat,(tl.any fun b=>listed.getD b false)=true→(tl.any fun b=>(listed.setIfInBounds i true).getD b false)=true:=fun tl h=>by
   rw[List.any_eq_true]at h⊢
   obtain⟨b,hb,hl⟩:=h
   exact⟨b,hb,getD_set_true hl⟩
  exact⟨h.kw,h.one.imp (grow _) id,h.two.imp (grow _) id⟩
 intro eX
 induction eX with
 |zero=>
  intro listed a w l_ _ hr hy hC V9 H
  refine⟨fun h=>(by rw[h]at hr;cases hr),fun j hj=>?_⟩
  by_cases Dq:j=i
  ·subst Dq;exact hy.wpOp hi (mT jO hi) hC ⟨up V9,H⟩
  ·have:=ready_mono hj Dq
   rw[H.1]at this
   cases this
 |succ eX ih=>
  intro listed a w l_ MT hr hy hC V9 H
  refine⟨fun h=>(by rw[h]at hr;cases hr),fun j hj=>?_⟩
  by_cases Dq:j=i
  ·subst Dq;exact hy.wpOp hi (mT jO hi) hC ⟨up V9,H⟩
  ·have On:=(mem_ready.1 hr).1
   have KH: ∀ {x:Array Bool},x.getD i true=false→x.getD i false=true→False:=fun {x} h1 h2=>by
    rcases Nat.lt_or_ge i x.size with h'|h'
    ·simp[h']at h1 h2;rw[h1]at h2;cases h2
    ·simp[Array.getElem?_eq_none h']at h2
   have V_:j∉zt:=fun V_=>KH On (B9 ht l_ V_ hj)
   have h1:=H.2 j (ready_mono hj Dq)
   obtain⟨RV,oj,Oo,lS⟩:=mem_ready.1 hj
   have Oq: ∀e∈oj.after,Region.binds .any e=true→e.on≠i:=fun e he hb heq=>by
    have h1:=lS e he hb
    rw[heq]at h1
    exact KH On h1
   have RW:(zt.any fun b=>(listed.setIfInBounds j true).getD b false)=false:=by
    rw[List.any_eq_false]
    intro b hb hl
    rw[getD_set_ne (i:=j) (j:=b) false (fun e=>V_ (e▸hb))]at hl
    exact KH On (uG ht l_ hb hl)
   have h1':wpOpIn (Fr r) 0 P ops Q j (fun a' w'=>Inv base Z w'∧(gw base S tail S2 cn (listed.setIfInBounds j true) w'∧Fc P r ops (gw base S tail S2 cn) Q eX ((listed.setIfInBounds i true).setIfInBounds j true) a' w')) (a.put oi.dst v) w:=by
    refine wpOpIn_mono (fun a' w' h3=>?_) h1
    have hc:=h3.1
    rw[Array.setIfInBounds_comm _ _ (Ne.symm Dq)]at hc
    have Rg:=hc.keep dZ Om
    refine⟨?_,Rg,h3.2⟩
    rcases hz _ _ Rg with h|h
    ·rw[RW]at h;cases h
    ·exact h
   have h2:=Ff Oo (MT j oj Oo Dq RV Oq) (fun cs b=>RU i oi cs b hi) (fun cs b=>RU j oj cs b Oo) (mT jO Oo) hQ hy h1'
   have Ot: ∀k ok,ops[k]? =some ok→k≠i→(listed.setIfInBounds j true).getD k true=false→
     (∀e∈ok.after,Region.binds .any e=true→e.on≠i)→oi.apart ops ok=true:=fun k ok hk Rf YB KH=>by
    refine MT k ok hk Rf ?_ KH
    by_cases Ou:j=k
    ·subst Ou;exact RV
    ·rw[getD_set_ne true Ou]at YB;exact YB
   refine wpOpIn_mono (fun a' w' h3=>⟨h3.2.2.1,ih (listed.setIfInBounds j true) a' w' (gG l_ hj) Ot (ready_mono hr (Ne.symm Dq)) h3.2.1 h3.1 h3.2.2.1 ?_⟩) h2
   rw[Array.setIfInBounds_comm _ _ Dq]
   exact h3.2.2.2
structure PQ (X:PX) (Q:jk):Prop where
 ind: ∀c ρ fB O,Q (.panic c) ρ O→Q (.panic c) fB O
 pan: ∀c ρ,X c→Q (.panic c) ρ []
theorem PQ.lift {X:PX} {Q:jk} (h:PQ X Q) {base:World} {n:Nat} {M:List Item} (c:List PanicEntry) (a a':Act) (w:World) (hd:a'.defers=a.defers) (hs:a'.tmps.size=a.tmps.size) (hl:Lx.lift base n M Q (.panic c) a w):Lx.lift base n M Q (.panic c) a' w:=by
 obtain⟨ρ,O,D,ha,hI,hq⟩:=hl
 exact⟨fun t=>a'.tmps.getD t undef,O,D,⟨fun _=>rfl,hs.trans ha.size,hd.trans ha.defers⟩,hI,h.ind c ρ _ O hq⟩
def RO (X:PX) (P:Program) (r:Option Nat) (base:World) (n:Nat) (ops:Array Oper) (S:List Item) (tail:List Nat) (S2:List Item) (cn:List Nat) (eX:Nat) (listed:Array Bool) (K:Env→List Item→Prop) (ρ:Env) (O:List Item):Prop:=
 ∀(Q:jk) a w M D,(∀ρ O,K ρ O→Q .normal ρ O)→PQ X Q→Ag n (mD D) a ρ→Inv base (O++(mI D++M)) w→closed ops listed→gw base S tail S2 cn listed w→Fc P r ops (gw base S tail S2 cn) (lift base n M Q) eX listed a w
section
variable {X:PX} {P:Program} {r:Option Nat} {base:World} {n:Nat} {Q:jk} {ρ:Env} {O S S2:List Item} {tail cn:List Nat} {ops:Array Oper} {K:Env→List Item→Prop}
theorem Inv.kw {base:World} {O:List Item} {w:World} (h:Inv base O w):Inv base [] w:=h.sub (List.nil_sublist _)
theorem x6 {tl:List Nat} {listed:Array Bool} {i:Nat} (h:(tl.any fun b=>listed.getD b false)=true):(tl.any fun b=>(listed.setIfInBounds i true).getD b false)=true:=by
 rw[List.any_eq_true]at h⊢
 obtain⟨b,hb,hl⟩:=h
 exact⟨b,hb,getD_set_true hl⟩
theorem hU {eX:Nat} {listed:Array Bool} (i:Nat) {d:Nat} {op:Op} {t:TypeId} {p:String} {af:Array Edge} {g:Option (Nat×Bool)} {v:Value} {Z:List Item} {zt:List Nat} (hi:ops[i]? =some ⟨some d,op,t,p,af,g⟩)
  (hz: ∀listed w,gw base S tail S2 cn listed w→(zt.any fun b=>listed.getD b false)=true∨Inv base Z w) (YA:i∉zt) (ht:n5 ops zt i=true)
  (hs:Region.noSelect ops=true) (jO:iB ops=true) (dZ:i∉tail) (Om:i∉cn) (hf:Region.free .any ops listed i=true) (hr:(Region.ready .any ops listed).contains i=true)
  (h: ∀ds a,Ag n ds a ρ→YC P ops (Inv base Z) ⟨some d,op,t,p,af,g⟩ v a) (hn:Nat.blt d n=true) (hk:RO X P r base n ops S tail S2 cn eX (listed.setIfInBounds i true) K (mS ρ d v) O):
  RO X P r base n ops S tail S2 cn (eX+1) listed K ρ O:=by
 intro Q a w M D hq hp ha hI l_ hS
 have Ol:i∈Region.ready .any ops listed:=by simpa using hr
 have KH:listed.getD i false=true→False:=fun h2=>by
  have h1:=(mem_ready.1 Ol).1
  rcases Nat.lt_or_ge i listed.size with h'|h'
  ·simp[h']at h1 h2;rw[h1]at h2;cases h2
  ·simp[Array.getElem?_eq_none h']at h2
 have hZ:Inv base Z w:=(hz _ _ hS).resolve_left (by
  intro h
  rw[List.any_eq_true]at h
  obtain⟨b,hb,hl⟩:=h
  exact KH (uG ht l_ hb hl))
 exact B_ hi dZ Om ht hz YA (Region.noSelect_spec hs) jO hp.lift eX listed a w l_ (Region.free_spec hi hf) Ol (h _ a ha) hZ hS
  (hk Q _ w M D hq hp (ha.put hn v) hI (gG l_ Ol) ⟨hS.kw,hS.one.imp x6 id,hS.two.imp x6 id⟩)
theorem sd {eX:Nat} {listed:Array Bool} (i:Nat) {o:Oper} (hi:ops[i]? =some o) (hg:o.guard=none) (hr:Region.ready .any ops listed=[i])
  (h:LT P r base n o ρ O (fun fB O'=>(i∈tail∨Sub S O')∧(i∈cn∨Sub S2 O')∧RO X P r base n ops S tail S2 cn eX (listed.setIfInBounds i true) K fB O')):RO X P r base n ops S tail S2 cn (eX+1) listed K ρ O:=by
 intro Q a w M D hq hp ha hI l_ hS
 refine⟨fun h0=>(by rw[hr]at h0;cases h0),fun j hj=>?_⟩
 rw[hr]at hj
 obtain rfl:j=i:=by simpa using hj
 have wW:j∈Region.ready .any ops listed:=by rw[hr];simp
 have eV:j<listed.size:=by
  have:=(mem_ready.1 wW).1
  rcases Nat.lt_or_ge j listed.size with h'|h'
  ·exact h'
  ·simp[Array.getElem?_eq_none h']at this
 unfold wpOpIn
 simp only[hi]
 rw[if_pos (by simp[Region.wanted,hg])]
 refine h a w _ _ ha hI _ _ fun a' fB O' w' h1 h2 h3=>?_
 have pJ: ∀(tl:List Nat) (Z:List Item),(j∈tl∨Sub Z O')→(tl.any fun b=>(listed.setIfInBounds j true).getD b false)=true∨Inv base Z w':=fun tl Z h3=>by
  rcases h3 with h4|h4
  ·refine .inl (List.any_eq_true.2 ⟨j,h4,?_⟩)
   simp[eV]
  ·exact .inr (h2.left.iN h4)
 have n6:gw base S tail S2 cn (listed.setIfInBounds j true) w':=⟨h2.kw,pJ _ _ h3.1,pJ _ _ h3.2.1⟩
 exact⟨n6,h3.2.2 Q a' w' M D hq hp h1 h2 (gG l_ wW) n6⟩
theorem wX {eX:Nat} {listed:Array Bool} (hr:Region.ready .any ops listed=[]) (h:K ρ O):RO X P r base n ops S tail S2 cn eX listed K ρ O:=by
 intro Q a w M D hq hp ha hI _ _
 cases eX with
 |zero=>exact⟨hr,ρ,O,D,ha,hI,hq _ _ h⟩
 |succ f=>exact⟨fun _=>⟨ρ,O,D,ha,hI,hq _ _ h⟩,by rw[hr];simp⟩
def lT (l:List (Nat×Nat)):List Nat:=(l.filter (·.2==2)).map (·.1)
def jZ (l:List (Nat×Nat)):List Nat:=(l.filter fun q=>q.2==2||q.2==4).map (·.1)
def h_ (ops:Array Oper) (tail cn:List Nat):List (Nat×Nat)→Array Bool→Bool
 | [],listed=>(Region.ready .any ops listed).isEmpty
 |(i,0)::l,listed=>n5 ops tail i&&Region.free .any ops listed i&&(Region.ready .any ops listed).contains i&&h_ ops tail cn l (listed.setIfInBounds i true)
 |(i,3)::l,listed=>n5 ops cn i&&Region.free .any ops listed i&&(Region.ready .any ops listed).contains i&&h_ ops tail cn l (listed.setIfInBounds i true)
 |(i,_)::l,listed=>(Region.ready .any ops listed== [i])&&h_ ops tail cn l (listed.setIfInBounds i true)
def uH (ops:Array Oper) (l:List (Nat×Nat)):Bool:=Region.noSelect ops&&iB ops&&l.length==ops.size&&(l.all fun q=>(q.2==2||!(lT l).contains q.1)&&(q.2==2||q.2==4||!(jZ l).contains q.1))&&h_ ops (lT l) (jZ l) l (Array.replicate ops.size false)
def DO (X:PX) (P:Program) (r:Option Nat) (base:World) (n:Nat) (ops:Array Oper) (S:List Item) (tail:List Nat) (S2:List Item) (cn:List Nat) (l:List (Nat×Nat)) (K:Env→List Item→Prop) (ρ:Env) (O:List Item):Prop:=
 Region.noSelect ops=true→iB ops=true→(∀q∈l,((q.2=2→q.1∈tail)∧(q.2≠2→q.1∉tail))∧((q.2=2∨q.2=4→q.1∈cn)∧(q.2≠2→q.2≠4→q.1∉cn)))→ ∀listed,h_ ops tail cn l listed=true→RO X P r base n ops S tail S2 cn l.length listed K ρ O
theorem ao {l:List (Nat×Nat)} {i:Nat} {d:Nat} {op:Op} {t:TypeId} {p:String} {af:Array Edge} {v:Value} (hi:ops[i]? =some ⟨some d,op,t,p,af,none⟩)
  (h:QT P base ⟨some d,op,t,p,af,none⟩ ρ S v) (hk:DO X P r base n ops S tail S2 cn l K (mS ρ d v) O) (hn:Nat.blt d n=true:=by rfl):
  DO X P r base n ops S tail S2 cn ((i,0)::l) K ρ O:=fun hs jO hl listed hw=>by
 simp only[h_,Bool.and_eq_true]at hw
 have h0:=hl (i,0) (by simp)
 exact hU (zt:=tail) i hi (fun _ _ h=>h.one) (h0.1.2 (by simp)) hw.1.1.1 hs jO (h0.1.2 (by simp)) (h0.2.2 (by simp) (by simp)) hw.1.1.2 hw.1.2 (fun ds a ha=>.inl ⟨rfl,fun w hw=>by rw[ha.eval];exact h w hw⟩) hn (hk hs jO (fun q hq=>hl q (List.mem_cons_of_mem _ hq)) _ hw.2)
theorem cK {l:List (Nat×Nat)} {i:Nat} {d:Nat} {op:Op} {t:TypeId} {p:String} {af:Array Edge} {v:Value} (hi:ops[i]? =some ⟨some d,op,t,p,af,none⟩)
  (h:QT P base ⟨some d,op,t,p,af,none⟩ ρ S2 v) (hk:DO X P r base n ops S tail S2 cn l K (mS ρ d v) O) (hn:Nat.blt d n=true:=by rfl):
  DO X P r base n ops S tail S2 cn ((i,3)::l) K ρ O:=fun hs jO hl listed hw=>by
 simp only[h_,Bool.and_eq_true]at hw
 have h0:=hl (i,3) (by simp)
 exact hU (zt:=cn) i hi (fun _ _ h=>h.two) (h0.2.2 (by simp) (by simp)) hw.1.1.1 hs jO (h0.1.2 (by simp)) (h0.2.2 (by simp) (by simp)) hw.1.1.2 hw.1.2 (fun ds a ha=>.inl ⟨rfl,fun w hw=>by rw[ha.eval];exact h w hw⟩) hn (hk hs jO (fun q hq=>hl q (List.mem_cons_of_mem _ hq)) _ hw.2)
theorem aS {l:List (Nat×Nat)} {i:Nat} {d:Nat} {op:Op} {t:TypeId} {p:String} {af:Array Edge} {v:Value} {j tj:Nat} {want:Bool} (hi:ops[i]? =some ⟨some d,op,t,p,af,some (j,want)⟩)
  (hj:(ops[j]?).bind (·.dst)=some tj) (hw:ρ tj=.bool want)
  (h:QT P base ⟨some d,op,t,p,af,some (j,want)⟩ ρ S v) (hk:DO X P r base n ops S tail S2 cn l K (mS ρ d v) O) (hn:Nat.blt d n=true:=by rfl):
  DO X P r base n ops S tail S2 cn ((i,0)::l) K ρ O:=fun hs jO hl listed hb=>by
 simp only[h_,Bool.and_eq_true]at hb
 have h0:=hl (i,0) (by simp)
 refine hU (zt:=tail) i hi (fun _ _ h=>h.one) (h0.1.2 (by simp)) hb.1.1.1 hs jO (h0.1.2 (by simp)) (h0.2.2 (by simp) (by simp)) hb.1.1.2 hb.1.2 (fun ds a ha=>?_) hn (hk hs jO (fun q hq=>hl q (List.mem_cons_of_mem _ hq)) _ hb.2)
 have hy:=g_ (ops:=ops) ha hj
 rw[hw]at hy
 exact .inl ⟨by unfold Region.wanted;simp[hy,J_],fun w hw=>by rw[ha.eval];exact h w hw⟩
theorem a6 {l:List (Nat×Nat)} {i:Nat} {d:Nat} {op:Op} {t:TypeId} {p:String} {af:Array Edge} {j tj:Nat} {want:Bool} (hi:ops[i]? =some ⟨some d,op,t,p,af,some (j,want)⟩)
  (hj:(ops[j]?).bind (·.dst)=some tj) (hw:(J_ (ρ tj)==some want)=false)
  (hk:DO X P r base n ops S tail S2 cn l K (mS ρ d undef) O) (hn:Nat.blt d n=true:=by rfl):
  DO X P r base n ops S tail S2 cn ((i,0)::l) K ρ O:=fun hs jO hl listed hb=>by
 simp only[h_,Bool.and_eq_true]at hb
 have h0:=hl (i,0) (by simp)
 refine hU (zt:=tail) i hi (fun _ _ h=>h.one) (h0.1.2 (by simp)) hb.1.1.1 hs jO (h0.1.2 (by simp)) (h0.2.2 (by simp) (by simp)) hb.1.1.2 hb.1.2 (fun ds a ha=>?_) hn (hk hs jO (fun q hq=>hl q (List.mem_cons_of_mem _ hq)) _ hb.2)
 have hy:=g_ (ops:=ops) ha hj
 exact .inr ⟨by unfold Region.wanted;simp only[hy];exact hw,rfl⟩
theorem p8 {l:List (Nat×Nat)} {i:Nat} {o:Oper} (hi:ops[i]? =some o) (hg:o.guard=none)
  (h:LT P r base n o ρ O (fun fB O'=>Sub S O'∧Sub S2 O'∧DO X P r base n ops S tail S2 cn l K fB O')):DO X P r base n ops S tail S2 cn ((i,1)::l) K ρ O:=fun hs jO hl listed hb=>by
 simp only[h_,Bool.and_eq_true,beq_iff_eq]at hb
 refine sd i hi hg hb.1 ?_
 intro a w M ds ha hI next Qx dT
 exact h a w M ds ha hI next Qx fun a' fB O' w' h1 h2 h3=>dT a' fB O' w' h1 h2 ⟨.inr h3.1,.inr h3.2.1,h3.2.2 hs jO (fun q hq=>hl q (List.mem_cons_of_mem _ hq)) _ hb.2⟩
theorem bo {l:List (Nat×Nat)} {i:Nat} {o:Oper} (hi:ops[i]? =some o) (hg:o.guard=none)
  (h:LT P r base n o ρ O (fun fB O'=>Sub S O'∧DO X P r base n ops S tail [] cn l K fB O')):DO X P r base n ops S tail [] cn ((i,1)::l) K ρ O:=
 p8 hi hg fun a w M ds ha hI next Qx dT=>h a w M ds ha hI next Qx fun a' fB O' w' h1 h2 h3=>dT a' fB O' w' h1 h2 ⟨h3.1,bn (List.nil_sublist _),h3.2⟩
theorem uI {l:List (Nat×Nat)} {i:Nat} {o:Oper} (hi:ops[i]? =some o) (hg:o.guard=none)
  (h:LT P r base n o ρ O (fun fB O'=>Sub S O'∧DO X P r base n ops S tail S2 cn l K fB O')):DO X P r base n ops S tail S2 cn ((i,4)::l) K ρ O:=fun hs jO hl listed hb=>by
 simp only[h_,Bool.and_eq_true,beq_iff_eq]at hb
 refine sd i hi hg hb.1 ?_
 intro a w M ds ha hI next Qx dT
 exact h a w M ds ha hI next Qx fun a' fB O' w' h1 h2 h3=>dT a' fB O' w' h1 h2 ⟨.inr h3.1,.inl ((hl (i,4) (by simp)).2.1 (.inr rfl)),h3.2 hs jO (fun q hq=>hl q (List.mem_cons_of_mem _ hq)) _ hb.2⟩
theorem bq {l:List (Nat×Nat)} {i:Nat} {o:Oper} (hi:ops[i]? =some o) (hg:o.guard=none)
  (h:LT P r base n o ρ O (fun fB O'=>DO X P r base n ops S tail S2 cn l K fB O')):DO X P r base n ops S tail S2 cn ((i,2)::l) K ρ O:=fun hs jO hl listed hb=>by
 simp only[h_,Bool.and_eq_true,beq_iff_eq]at hb
 refine sd i hi hg hb.1 ?_
 intro a w M ds ha hI next Qx dT
 exact h a w M ds ha hI next Qx fun a' fB O' w' h1 h2 h3=>dT a' fB O' w' h1 h2 ⟨.inl ((hl (i,2) (by simp)).1.1 rfl),.inl ((hl (i,2) (by simp)).2.1 (.inl rfl)),h3 hs jO (fun q hq=>hl q (List.mem_cons_of_mem _ hq)) _ hb.2⟩
theorem bw (h:K ρ O):DO X P r base n ops S tail S2 cn [] K ρ O:=fun _ _ _ listed hb=>wX (by simpa[h_]using hb) h
theorem p9 (S S2:List Item) (l:List (Nat×Nat)) {id:Nat} {ops:Array Oper} (hm:P.follows .mixedOrders=true) (hB:uH ops l=true) (hS:Sub S O) (RX:Sub S2 O) (hp: ∀c ρ fB O,Q (.panic c) ρ O→Q (.panic c) fB O)
  (h:DO (fun c=> ∀ρ,Q (.panic c) ρ []) P r base n ops S (lT l) S2 (jZ l) l (fun ρ O=>Q .normal ρ O) ρ O):T P r base n (.region id ops true) Q ρ O:=by
 simp only[uH,Bool.and_eq_true,beq_iff_eq]at hB
 obtain⟨⟨⟨⟨h1,jO⟩,h2⟩,h4⟩,h5⟩:=hB
 have hl: ∀q∈l,((q.2=2→q.1∈lT l)∧(q.2≠2→q.1∉lT l))∧((q.2=2∨q.2=4→q.1∈jZ l)∧(q.2≠2→q.2≠4→q.1∉jZ l)):=fun q hq=>by
  have:=List.all_eq_true.1 h4 q hq
  simp only[Bool.and_eq_true,Bool.or_eq_true,beq_iff_eq,Bool.not_eq_true',List.contains_eq_mem,decide_eq_false_iff_not]at this
  refine⟨⟨fun e=>List.mem_map.2 ⟨q,List.mem_filter.2 ⟨hq,by simp[e]⟩,rfl⟩,fun e=>this.1.resolve_left e⟩,fun e=>List.mem_map.2 ⟨q,List.mem_filter.2 ⟨hq,by rcases e with e|e<;>simp[e]⟩,rfl⟩,fun e e2=>this.2.resolve_left (fun h=>h.elim e e2)⟩
 have:=h h1 jO hl _ h5
 rw[h2]at this
 intro a w M D _ ha hi
 refine wpIn_region_any hm (jY _ _ _ _ (this Q a _ M D (fun _ _ h=>h) ⟨hp,fun _ ρ h=>h ρ⟩ ha (hi.drawn _) (mU _ _) ⟨(hi.drawn _).kw,.inr ((hi.drawn _).left.iN hS),.inr ((hi.drawn _).left.iN RX)⟩))
theorem wY (S:List Item) (l:List (Nat×Nat)) {id:Nat} {ops:Array Oper} (hm:P.follows .mixedOrders=true) (hB:uH ops l=true) (hS:Sub S O) (hp: ∀c ρ fB O,Q (.panic c) ρ O→Q (.panic c) fB O)
  (h:DO (fun c=> ∀ρ,Q (.panic c) ρ []) P r base n ops S (lT l) [] (jZ l) l (fun ρ O=>Q .normal ρ O) ρ O):T P r base n (.region id ops true) Q ρ O:=
 p9 S [] l hm hB hS (bn (List.nil_sublist _)) hp h
def Fg (p:Nat→Prop):List Nat→Prop
 | []=>True
 |i::is=>p i∧Fg p is
theorem Fg.mem {p:Nat→Prop}: ∀ {is:List Nat},Fg p is→ ∀i∈is,p i
 |i::is,h,j,hj=>by
  rcases List.mem_cons.1 hj with rfl|hj
  ·exact h.1
  ·exact Fg.mem h.2 j hj
theorem aM {eX:Nat} {listed:Array Bool} (is:List Nat) (hr:Region.ready .any ops listed=is) (h0:is.isEmpty=false)
  (h:Fg (fun i=> ∃o,ops[i]? =some o∧o.guard=none∧LT P r base n o ρ O (fun fB O'=>Sub S O'∧RO X P r base n ops S [] [] [] eX (listed.setIfInBounds i true) K fB O')) is):RO X P r base n ops S [] [] [] (eX+1) listed K ρ O:=by
 intro Q a w M D hq hp ha hI l_ hS
 refine⟨fun h1=>?_,fun j hj=>?_⟩
 ·rw[hr]at h1;subst h1;cases h0
 obtain⟨o,hi,hg,hl⟩:=h.mem j (hr▸hj)
 unfold wpOpIn
 simp only[hi]
 rw[if_pos (by simp[Region.wanted,hg])]
 refine hl a w _ _ ha hI _ _ fun a' fB O' w' h1 h2 h3=>?_
 have n6:gw base S [] [] [] (listed.setIfInBounds j true) w':=⟨h2.kw,.inr (h2.left.iN h3.1),.inr h2.kw⟩
 exact⟨n6,h3.2 Q a' w' M D hq hp h1 h2 (gG l_ hj) n6⟩
theorem bF {eX:Nat} {listed:Array Bool} (i:Nat) {d:Nat} {op:Op} {t:TypeId} {p:String} {af:Array Edge} {v:Value} (hi:ops[i]? =some ⟨some d,op,t,p,af,none⟩)
  (hb:(Region.noSelect ops&&iB ops&&Region.free .any ops listed i&&(Region.ready .any ops listed).contains i)=true)
  (h:QT P base ⟨some d,op,t,p,af,none⟩ ρ S v) (hk:RO X P r base n ops S [] [] [] eX (listed.setIfInBounds i true) K (mS ρ d v) O) (hn:Nat.blt d n=true:=by rfl):
  RO X P r base n ops S [] [] [] (eX+1) listed K ρ O:=by
 simp only[Bool.and_eq_true]at hb
 exact hU (zt:=[]) i hi (fun _ _ h=>h.one) (by simp) rfl hb.1.1.1 hb.1.1.2 (by simp) (by simp) hb.1.2 hb.2 (fun ds a ha=>.inl ⟨rfl,fun w hw=>by rw[ha.eval];exact h w hw⟩) hn hk
theorem eC {eX:Nat} {listed:Array Bool} (is:List Nat) (hr:Region.ready .any ops listed=is) (h0:is.isEmpty=false)
  (h:Fg (fun i=> ∃o,ops[i]? =some o∧o.guard=none∧LT P r base n o ρ O (fun fB O'=>(i∈tail∨Sub S O')∧RO X P r base n ops S tail [] [] eX (listed.setIfInBounds i true) K fB O')) is) (gv:is.all (fun i=>Nat.blt i listed.size)=true):RO X P r base n ops S tail [] [] (eX+1) listed K ρ O:=by
 intro Q a w M D hq hp ha hI l_ hS
 refine⟨fun h1=>?_,fun j hj=>?_⟩
 ·rw[hr]at h1;subst h1;cases h0
 obtain⟨o,hi,hg,hl⟩:=h.mem j (hr▸hj)
 have eV:j<listed.size:=by
  have:=List.all_eq_true.1 gv j (hr▸hj)
  rwa[Nat.blt_eq]at this
 unfold wpOpIn
 simp only[hi]
 rw[if_pos (by simp[Region.wanted,hg])]
 refine hl a w _ _ ha hI _ _ fun a' fB O' w' h1 h2 h3=>?_
 have pJ:(tail.any fun b=>(listed.setIfInBounds j true).getD b false)=true∨Inv base S w':=by
  rcases h3.1 with h4|h4
  ·refine .inl (List.any_eq_true.2 ⟨j,h4,?_⟩)
   simp[eV]
  ·exact .inr (h2.left.iN h4)
 have n6:gw base S tail [] [] (listed.setIfInBounds j true) w':=⟨h2.kw,pJ,.inr h2.kw⟩
 exact⟨n6,h3.2 Q a' w' M D hq hp h1 h2 (gG l_ hj) n6⟩
theorem fj {eX:Nat} {listed:Array Bool} (i:Nat) {d:Nat} {op:Op} {t:TypeId} {p:String} {af:Array Edge} {v:Value} (hi:ops[i]? =some ⟨some d,op,t,p,af,none⟩)
  (hb:(Region.noSelect ops&&iB ops&&Region.free .any ops listed i&&(Region.ready .any ops listed).contains i&&n5 ops tail i&&!tail.contains i)=true)
  (h:QT P base ⟨some d,op,t,p,af,none⟩ ρ S v) (hk:RO X P r base n ops S tail [] [] eX (listed.setIfInBounds i true) K (mS ρ d v) O) (hn:Nat.blt d n=true:=by rfl):
  RO X P r base n ops S tail [] [] (eX+1) listed K ρ O:=by
 simp only[Bool.and_eq_true,Bool.not_eq_true',List.contains_eq_mem,decide_eq_false_iff_not]at hb
 exact hU (zt:=tail) i hi (fun _ _ h=>h.one) hb.2 hb.1.2 hb.1.1.1.1.1 hb.1.1.1.1.2 hb.2 (by simp) hb.1.1.1.2 (by simpa using hb.1.1.2) (fun ds a ha=>.inl ⟨rfl,fun w hw=>by rw[ha.eval];exact h w hw⟩) hn hk
theorem iY {eX:Nat} {listed:Array Bool} (i:Nat) {d:Nat} {op:Op} {t:TypeId} {p:String} {af:Array Edge} {v:Value} (hi:ops[i]? =some ⟨some d,op,t,p,af,none⟩)
  (hb:(Region.noSelect ops&&iB ops&&Region.free .any ops listed i&&(Region.ready .any ops listed).contains i&&!tail.contains i)=true)
  (h:QT P base ⟨some d,op,t,p,af,none⟩ ρ [] v) (hk:RO X P r base n ops S tail [] [] eX (listed.setIfInBounds i true) K (mS ρ d v) O) (hn:Nat.blt d n=true:=by rfl):
  RO X P r base n ops S tail [] [] (eX+1) listed K ρ O:=by
 simp only[Bool.and_eq_true,Bool.not_eq_true',List.contains_eq_mem,decide_eq_false_iff_not]at hb
 exact hU (zt:=[]) (Z:=[]) i hi (fun _ _ h=>.inr h.kw) (by simp) rfl hb.1.1.1.1 hb.1.1.1.2 hb.2 (by simp) hb.1.1.2 (by simpa using hb.1.2) (fun ds a ha=>.inl ⟨rfl,fun w hw=>by rw[ha.eval];exact h w hw⟩) hn hk
theorem Fh (S:List Item) (tail:List Nat) (m:Nat) {id:Nat} {ops:Array Oper} (hm:P.follows .mixedOrders=true) (rZ:ops.size=m) (hS:Sub S O) (hp: ∀c ρ fB O,Q (.panic c) ρ O→Q (.panic c) fB O)
  (h:RO (fun c=> ∀ρ,Q (.panic c) ρ []) P r base n ops S tail [] [] m (Array.replicate m false) (fun ρ O=>Q .normal ρ O) ρ O):T P r base n (.region id ops true) Q ρ O:=by
 subst rZ
 intro a w M D _ ha hi
 refine wpIn_region_any hm (jY _ _ _ _ (h Q a _ M D (fun _ _ h=>h) ⟨hp,fun _ ρ h=>h ρ⟩ ha (hi.drawn _) (mU _ _) ⟨(hi.drawn _).kw,.inr ((hi.drawn _).left.iN hS),.inr (hi.drawn _).kw⟩))
theorem ma (S:List Item) (m:Nat) {id:Nat} {ops:Array Oper} (hm:P.follows .mixedOrders=true) (rZ:ops.size=m) (hS:Sub S O) (hp: ∀c ρ fB O,Q (.panic c) ρ O→Q (.panic c) fB O)
  (h:RO (fun c=> ∀ρ,Q (.panic c) ρ []) P r base n ops S [] [] [] m (Array.replicate m false) (fun ρ O=>Q .normal ρ O) ρ O):T P r base n (.region id ops true) Q ρ O:=by
 subst rZ
 intro a w M D _ ha hi
 refine wpIn_region_any hm (jY _ _ _ _ (h Q a _ M D (fun _ _ h=>h) ⟨hp,fun _ ρ h=>h ρ⟩ ha (hi.drawn _) (mU _ _) ⟨(hi.drawn _).kw,.inr ((hi.drawn _).left.iN hS),.inr (hi.drawn _).kw⟩))
theorem RO.sub {O':List Item} {eX:Nat} {listed:Array Bool} (hs:Sub O' O) (h:RO X P r base n ops S tail S2 cn eX listed K ρ O'):RO X P r base n ops S tail S2 cn eX listed K ρ O:=
 fun Q a w M D hq hp ha hI l_ hS=>h Q a w M D hq hp ha (hI.iN (by obtain⟨l,h1,h2⟩:=hs;exact⟨l++(mI D++M),h1.append_right _,h2.append (List.Sublist.refl _)⟩)) l_ hS
theorem cz {O':List Item} {eX:Nat} {listed:Array Bool} (hr:Region.ready .any ops listed=[]) (h:K ρ O') (hs:Sub O' O):RO X P r base n ops S tail S2 cn eX listed K ρ O:=RO.sub hs (wX hr h)
end
end Go.Lx

namespace Go.Lx
open Go.RowKit
def ey (P:Program) (t:TypeId) (z:Value) (s b:Nat):Prop:=(P.info? t).map (fun i=>(i.zero,i.size,i.bytes))=some (some z,s,b)
theorem ey.get {P:Program} {t:TypeId} {z:Value} {s b:Nat} (h:ey P t z s b): ∃i,P.info? t=some i∧i.zero=some z∧i.size=s∧i.bytes=b:=by
 unfold ey at h
 cases hi:P.info? t with
 |none=>rw[hi]at h;cases h
 |some i=>
  rw[hi]at h
  simp only[Option.map_some,Option.some.injEq,Prod.mk.injEq]at h
  exact⟨i,rfl,h.1,h.2.1,h.2.2⟩
theorem j3 {P:Program} {t:TypeId} {i:TypeInfo} (h:P.info? t=some i) (w:World):(typeInfo t).run P w=.ok i w:=by
 unfold typeInfo;simp[h]
theorem bi {P:Program} {t:TypeId} {z:Value} {s b:Nat} (h:ey P t z s b) (w:World):(sizeOf t).run P w=.ok s w:=by
 obtain⟨i,hi,_,hs,_⟩:=h.get
 unfold sizeOf;simp[j3 hi,hs]
theorem fq {P:Program} {t:TypeId} {z:Value} {s b:Nat} (h:ey P t z s b) (w:World):(zeroValue t).run P w=.ok z w:=by
 obtain⟨i,hi,hz,_,_⟩:=h.get
 unfold zeroValue;simp[j3 hi,hz]
theorem aT {P:Program} {t:TypeId} {d:TypeDesc} (h:P.underlying t=some d) (w:World):(underlying t).run P w=.ok d w:=by
 unfold underlying;simp[h]
theorem run_equal_bool {P:Program} {T:TypeId} (h:P.underlying T=some .bool) (a b:Bool) (w:World):(Op.equal T (.bool a) (.bool b)).run P w=.ok (a==b) w:=by
 show(Op.equalIn (9999+1) T (.bool a) (.bool b)).run P w=_
 rw[Op.equalIn]
 simp[aT h]
def mV:TypeDesc→Bool
 | .struct _| .array _ _=>true
 |_=>false
theorem gK {P:Program} {t:TypeId} {d:TypeDesc} (h:P.underlying t=some d) (w:World):(isAgg t).run P w=.ok (mV d) w:=by
 unfold isAgg;simp[aT h];cases d<;>rfl
section
variable {P:Program} {base:World} {ρ:Env} {O:List Item} {dst:Option Nat} {t:TypeId} {p:String} {af:Array Edge} {g:Option (Nat×Bool)}
theorem az {x:Operand} {v:Value} (h:ev ρ x=v):QT P base ⟨dst,.move x,t,p,af,g⟩ ρ O v:=fun w _=>by simp[execOp,h]
theorem bt {x:Operand} {v:Value} (h:ev ρ x=v):QT P base ⟨dst,.assign x,t,p,af,g⟩ ρ O v:=fun w _=>by simp[execOp,h]
theorem bT {x y:Operand} {T U:TypeId} {k:IntKind} {a b:Int} (hx:ev ρ x=.int k a) (hy:ev ρ y=.int k b):QT P base ⟨dst,.binOp .lss T x y U,t,p,af,g⟩ ρ O (.bool (decide (a<b))):=fun w _=>by
 simp[execOp,hx,hy,eqGuard,binOp,Op.intCmp]
theorem Dr {x y:Operand} {T U:TypeId} {k:IntKind} {a b:Int} (hx:ev ρ x=.int k a) (hy:ev ρ y=.int k b):QT P base ⟨dst,.binOp .leq T x y U,t,p,af,g⟩ ρ O (.bool (decide (a≤b))):=fun w _=>by
 simp[execOp,hx,hy,eqGuard,binOp,Op.intCmp]
theorem fW {x y:Operand} {T U:TypeId} {k:IntKind} {a b:Int} (hx:ev ρ x=.int k a) (hy:ev ρ y=.int k b):QT P base ⟨dst,.binOp .gtr T x y U,t,p,af,g⟩ ρ O (.bool (decide (b<a))):=fun w _=>by
 simp[execOp,hx,hy,eqGuard,binOp,Op.intCmp]
theorem jF {x y:Operand} {T U:TypeId} {k:IntKind} {a b:Int} (hx:ev ρ x=.int k a) (hy:ev ρ y=.int k b):QT P base ⟨dst,.binOp .geq T x y U,t,p,af,g⟩ ρ O (.bool (decide (b≤a))):=fun w _=>by
 simp[execOp,hx,hy,eqGuard,binOp,Op.intCmp]
theorem aZ {x y:Operand} {T U:TypeId} {k:IntKind} {a b:Int} (hx:ev ρ x=.int k a) (hy:ev ρ y=.int k b):QT P base ⟨dst,.binOp .eql T x y U,t,p,af,g⟩ ρ O (.bool (decide (a=b))):=fun w _=>by
 simp[execOp,hx,hy,eqGuard,binOp,Op.intCmp];rfl
theorem cT {x y:Operand} {T U:TypeId} {k:IntKind} {a b:Int} (hx:ev ρ x=.int k a) (hy:ev ρ y=.int k b):QT P base ⟨dst,.binOp .neq T x y U,t,p,af,g⟩ ρ O (.bool (decide (a≠b))):=fun w _=>by
 simp[execOp,hx,hy,eqGuard,binOp,Op.intCmp,bne];rfl
theorem RY {x y:Operand} {T U:TypeId} {k:IntKind} {a b:Int} (hx:ev ρ x=.int k a) (hy:ev ρ y=.int k b):QT P base ⟨dst,.binOp .add T x y U,t,p,af,g⟩ ρ O (.int k (k.wrap (a+b))):=fun w _=>by
 simp[execOp,hx,hy,eqGuard,binOp,Op.intArith]
theorem MU {x y:Operand} {T U:TypeId} {k:IntKind} {a b:Int} (hx:ev ρ x=.int k a) (hy:ev ρ y=.int k b):QT P base ⟨dst,.binOp .sub T x y U,t,p,af,g⟩ ρ O (.int k (k.wrap (a-b))):=fun w _=>by
 simp[execOp,hx,hy,eqGuard,binOp,Op.intArith]
theorem fz {n:Int} (h: -9223372036854775808≤n∧n≤9223372036854775807):IntKind.i64.wrap n=n:=IntWalk.i64_in n h
theorem cL {x y:Operand} {T U:TypeId} {a b:Int} (hx:ev ρ x=.int .i64 a) (hy:ev ρ y=.int .i64 b) (h: -9223372036854775808≤a+b∧a+b≤9223372036854775807):
  QT P base ⟨dst,.binOp .add T x y U,t,p,af,g⟩ ρ O (.int .i64 (a+b)):=by have:=RY (P:=P) (base:=base) (O:=O) (dst:=dst) (t:=t) (p:=p) (af:=af) (g:=g) (T:=T) (U:=U) hx hy;rwa[fz h]at this
theorem ez {x y:Operand} {T U:TypeId} {a b:Int} (hx:ev ρ x=.int .i64 a) (hy:ev ρ y=.int .i64 b) (h: -9223372036854775808≤a-b∧a-b≤9223372036854775807):
  QT P base ⟨dst,.binOp .sub T x y U,t,p,af,g⟩ ρ O (.int .i64 (a-b)):=by have:=MU (P:=P) (base:=base) (O:=O) (dst:=dst) (t:=t) (p:=p) (af:=af) (g:=g) (T:=T) (U:=U) hx hy;rwa[fz h]at this
theorem jD {x y:Operand} {T U:TypeId} {a:Nat} (hx:ev ρ x=.int .i64 (a:Int)) (hy:ev ρ y=.int .i64 1) (h:a<9223372036854775807):
  QT P base ⟨dst,.binOp .add T x y U,t,p,af,g⟩ ρ O (.int .i64 ((a+1:Nat):Int)):=by
 have:=cL (P:=P) (base:=base) (O:=O) (dst:=dst) (t:=t) (p:=p) (af:=af) (g:=g) (T:=T) (U:=U) hx hy (by omega);rwa[←Int.natCast_succ]at this
theorem gy {x:Operand} {T:TypeId} {b:Bool} (hx:ev ρ x=.bool b):QT P base ⟨dst,.unOp .not T x,t,p,af,g⟩ ρ O (.bool !b):=fun w _=>by
 simp[execOp,hx,Op.unary]
theorem G1 {x y:Operand} {T U:TypeId} {a b:Bool} (hu:P.underlying T=some .bool) (hx:ev ρ x=.bool a) (hy:ev ρ y=.bool b):QT P base ⟨dst,.binOp .neq T x y U,t,p,af,g⟩ ρ O (.bool (a !=b)):=fun w _=>by
 simp[execOp,hx,hy,eqGuard,binOp,run_equal_bool hu,bne]
theorem G2 {x:Operand} {S D:TypeId} {ds:TypeDesc} {k k':IntKind} {a:Int} (hs:P.underlying S=some ds) (hd:P.underlying D=some (.int k)) (hx:ev ρ x=.int k' a):
  QT P base ⟨dst,.convert S D x,t,p,af,g⟩ ρ O (.int k (k.wrap a)):=fun w _=>by
 simp[execOp,hx,convert,aT hs,aT hd,Conv.intToInt]
theorem et {x:Operand} {S D:TypeId} {ds:TypeDesc} {k k':IntKind} {a:Int} (hs:P.underlying S=some ds) (hd:P.underlying D=some (.int k)) (hx:ev ρ x=.int k' a) (hw:k.wrap a=a):
  QT P base ⟨dst,.convert S D x,t,p,af,g⟩ ρ O (.int k a):=by have:=G2 (P:=P) (base:=base) (O:=O) (dst:=dst) (t:=t) (p:=p) (af:=af) (g:=g) hs hd hx;rwa[hw]at this
theorem bS {x:Operand} {T:TypeId} {E:TypeId} {b:Option Addr} {n c:Nat} (hu:P.underlying T=some (.slice E)) (hx:ev ρ x=.slice b n c):
  QT P base ⟨dst,.call ⟨.builtin .len,#[x],#[T]⟩,t,p,af,g⟩ ρ O (.int .i64 (n:Int)):=fun w _=>by
 simp[execOp,resolve,hx,invoke,builtin,Builtin.len_,aT hu,goInt]
theorem aV {x:Operand} {i:Nat} {vs:List Value} {v:Value} (hx:ev ρ x=.tuple vs.toArray) (hv:vs[i]? =some v):QT P base ⟨dst,.extract x i,t,p,af,g⟩ ρ O v:=fun w _=>by
 simp[execOp,hx,Instr.extract,hv]
theorem dQ {fn:Fn} {first captured:List Operand}:QT P base ⟨dst,.makeFunc fn first.toArray captured.toArray,t,p,af,g⟩ ρ O (.func fn (E_ ρ first).toArray (E_ ρ captured).toArray):=fun w _=>by
 simp[execOp,Instr.makeFunc,GX]
theorem aN {x:Operand} {S:TypeId} {fs:Array Field} {i:Nat} {f:Field} {b o:Nat} {z:Value} {s fy:Nat} (hu:P.underlying S=some (.struct fs)) (hf:fs[i]? =some f) (hi:ey P f.type z s fy) (hs:(s==0)=false)
  (hx:ev ρ x=.pointer (some ⟨b,o,none⟩)):QT P base ⟨dst,.fieldAddr S x i,t,p,af,g⟩ ρ O (.pointer (some ⟨b,o+f.offset,none⟩)):=fun w _=>by
 have Ov:s≠0:=by simpa using hs
 simp[execOp,hx,Instr.fieldAt,aT hu,hf,Instr.sureAddr,fieldPlace,bi hi,Ov,Addr.add]
 try (intro h;simp[h])
theorem sZ {x y:Operand} {T E:TypeId} {b o n c i:Nat} {k:IntKind} {z:Value} {s fy:Nat} (hu:P.underlying T=some (.slice E)) (hi:ey P E z s fy) (hx:ev ρ x=.slice (some ⟨b,o,none⟩) n c) (hy:ev ρ y=.int k (i:Int)) (eV:i<n):
  QT P base ⟨dst,.indexAddr T x y,t,p,af,g⟩ ρ O (.pointer (some ⟨b,o+i*s,none⟩)):=fun w _=>by
 have h2:(i:Int)<(n:Int):=by omega
 simp[execOp,hx,hy,Instr.indexAt,asIntOf,aT hu,eV,bi hi,Addr.add]
 try (intro h;rcases h with h|h<;>simp[h])
theorem n7 {x:Operand} {T:TypeId} {d:TypeDesc} {b o:Nat} {v:Value} (hu:P.underlying T=some d) (ha:mV d=false) (hx:ev ρ x=.pointer (some ⟨b,o,none⟩))
  (hc: ∀w,Inv base O w→w.cell? ⟨b,o,none⟩=some v):QT P base ⟨dst,.load T x,t,p,af,g⟩ ρ O v:=fun w hI=>by
 simp[execOp,hx,Instr.loadAt,Instr.sureAddr,loadVar,gK hu,ha,hc w hI]
theorem j4 {P:Program} {w:World} {a:Addr}: ∀(cs:List Value) (i:Nat) (gq:Array Value),(∀j (h:j<cs.length),w.cell? (a.add (i+j))=some cs[j])→
  (loadCellsFrom a i cs.length gq).run P w=.ok (gq++cs.toArray) w
 | [],i,gq,_=>by simp[loadCellsFrom]
 |v::cs,i,gq,h=>by
  have h0:w.cell? (a.add i)=some v:=h 0 (by simp)
  have ih:=j4 (P:=P) cs (i+1) (gq.push v) (fun j hj=>by have:=h (j+1) (by simp;omega);simpa[Nat.add_assoc,Nat.add_comm 1 j]using this)
  simp only[List.length_cons,loadCellsFrom,Sem.run_bind,run_load,h0,Result.andThen_ok,ih]
  simp
theorem uJ {x:Operand} {T:TypeId} {d:TypeDesc} {b o:Nat} {cs:List Value} {z:Value} {s fy:Nat} (hu:P.underlying T=some d) (ha:mV d=true) (hi:ey P T z s fy) (hx:ev ρ x=.pointer (some ⟨b,o,none⟩)) (hl:cs.length=s)
  (hc: ∀w,Inv base O w→ ∀j (h:j<cs.length),w.cell? ⟨b,o+j,none⟩=some cs[j]):QT P base ⟨dst,.load T x,t,p,af,g⟩ ρ O (.agg cs.toArray):=fun w hI=>by
 have h:=j4 (P:=P) (w:=w) (a:=⟨b,o,none⟩) cs 0 #[] (fun j hj=>by
  have:=hc w hI j hj
  simp only[Nat.zero_add,Addr.add]
  split<;>rename_i e
  ·subst e;simpa using this
  ·exact this)
 simp[execOp,hx,Instr.loadAt,Instr.sureAddr,loadVar,gK hu,ha,bi hi,loadCells,←hl,h]
end
def Sl (w:World) (b:Option Addr) (cs:List Value):Prop:= ∀i (h:i<cs.length),∃a,b=some a∧a.spot=none∧w.cell? ⟨a.block,a.off+i,none⟩=some cs[i]
theorem Sl.nil (w:World) (b:Option Addr):Sl w b []:=fun i h=>by simp at h
theorem Sl.keep {w w':World} {b:Option Addr} {cs:List Value} (h:Sl w b cs) (hb: ∀k,k<w.heap.size→w'.heap[k]? =w.heap[k]?):Sl w' b cs:=fun i hi=>by
 obtain⟨a,h1,h2,h3⟩:=h i hi
 refine⟨a,h1,h2,?_⟩
 have eV:=World.block_lt_of_cell? _ _ h3
 unfold World.cell? at h3⊢
 rw[hb _ eV]
 exact h3
theorem Sl.below {w w':World} {b:Option Addr} {cs:List Value} (h:Sl w b cs) (hb:Below w.heap.size w w'):Sl w' b cs:=h.keep hb.block
theorem Inv.sl {base:World} {O:List Item} {w:World} (hI:Inv base O w) {b:Option Addr} {cs:List Value} (h:Sl base b cs):Sl w b cs:=h.below hI.below
theorem Sl.addr {w:World} {b:Option Addr} {cs:List Value} (h:Sl w b cs) {i:Nat} (hi:i<cs.length): ∃k o,b=some ⟨k,o,none⟩:=by
 obtain⟨⟨k,o,s⟩,h1,h2,_⟩:=h i hi
 simp only at h2;subst h2
 exact⟨k,o,h1⟩
theorem Sl.get {w:World} {k o:Nat} {cs:List Value} (h:Sl w (some ⟨k,o,none⟩) cs) {i:Nat} {v:Value} (hv:cs[i]? =some v):w.cell? ⟨k,o+i,none⟩=some v:=by
 obtain⟨hi,e⟩:=List.getElem?_eq_some_iff.1 hv
 obtain⟨a,h1,_,h3⟩:=h i hi
 cases h1
 rw[h3,e]
def rowP (b:Option Addr) (c:Nat) (T:TypeId) (k:Nat) (cs:List Value) (w:World):Prop:=
 match b with
 |none=>cs=[]∧c=0
 |some a=>a.spot=none∧ ∃full,w.heap[a.block]? =some (.cells full T (0,0))∧cs.length≤c*k∧a.off+c*k≤full.size∧ ∀i (h:i<cs.length),full[a.off+i]? =some cs[i]
def am (b:Option Addr) (c:Nat) (T:TypeId) (k:Nat) (cs:List Value):Item where
 blocks:=match b with|none=>[]|some a=>[a.block]
 P:=rowP b c T k cs
 loc:=fun w w' h hp=>by
  cases b with
  |none=>exact hp
  |some a=>
   obtain⟨h1,full,h2,h3⟩:=hp
   exact⟨h1,full,(h a.block (by simp)).trans h2,h3⟩
theorem rowP.sl {b:Option Addr} {c:Nat} {T:TypeId} {k:Nat} {cs:List Value} {w:World} (h:rowP b c T k cs w):Sl w b cs:=fun i hi=>by
 cases b with
 |none=>rw[h.1]at hi;simp at hi
 |some a=>
  obtain⟨h1,full,h2,_,_,h5⟩:=h
  refine⟨a,rfl,h1,?_⟩
  unfold World.cell?
  simp[h2,h5 i hi]
theorem Inv.row {base:World} {O:List Item} {w:World} (hI:Inv base O w) {i:Nat} {b:Option Addr} {c:Nat} {T:TypeId} {k:Nat} {cs:List Value} (h:O[i]? =some (am b c T k cs)):rowP b c T k cs w:=
 hI.holds _ (List.mem_of_getElem? h)
theorem Inv.s4 {base:World} {O:List Item} {w:World} (hI:Inv base O w) {i:Nat} {b:Nat} {o:Obj} (h:O[i]? =some (cR b o)):w.heap[b]? =some o:=
 hI.holds _ (List.mem_of_getElem? h)
section
variable {P:Program} {base:World} {ρ:Env} {O:List Item} {dst:Option Nat} {t:TypeId} {p:String} {af:Array Edge} {g:Option (Nat×Bool)}
theorem aQ (i:Nat) {x:Operand} {T E:TypeId} {d:TypeDesc} {b o:Nat} {cs:List Value} {fr:Nat×Nat} {v:Value} (hu:P.underlying T=some d) (ha:mV d=false) (hx:ev ρ x=.pointer (some ⟨b,o,none⟩))
  (hO:O[i]? =some (cR b (.cells cs.toArray E fr))) (hv:cs[o]? =some v):QT P base ⟨dst,.load T x,t,p,af,g⟩ ρ O v:=
 n7 hu ha hx fun w hI=>by have:=hI.s4 hO;unfold World.cell?;simp[this,hv]
theorem dh (i:Nat) {x:Operand} {T E:TypeId} {d:TypeDesc} {b:Nat} {cs:List Value} {fr:Nat×Nat} {z:Value} {s fy:Nat} (hu:P.underlying T=some d) (ha:mV d=true) (hi:ey P T z s fy) (hx:ev ρ x=.pointer (some ⟨b,0,none⟩)) (hl:cs.length=s)
  (hO:O[i]? =some (cR b (.cells cs.toArray E fr))):QT P base ⟨dst,.load T x,t,p,af,g⟩ ρ O (.agg cs.toArray):=
 uJ hu ha hi hx hl fun w hI j hj=>by have:=hI.s4 hO;unfold World.cell?;simp[this]
theorem kP {x:Operand} {T:TypeId} {d:TypeDesc} {b o i:Nat} {cs:List Value} {v:Value} (hu:P.underlying T=some d) (ha:mV d=false) (hx:ev ρ x=.pointer (some ⟨b,o+i,none⟩))
  (hs:Sl base (some ⟨b,o,none⟩) cs) (hv:cs[i]? =some v):QT P base ⟨dst,.load T x,t,p,af,g⟩ ρ O v:=
 n7 hu ha hx fun _ hI=>(hI.sl hs).get hv
end
end Go.Lx

