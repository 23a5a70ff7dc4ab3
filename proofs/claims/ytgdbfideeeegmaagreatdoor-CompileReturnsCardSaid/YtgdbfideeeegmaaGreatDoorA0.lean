/- Contracts of functions of the program, and what they answer. Conditions: those each theorem names. -/
import Derived.WalkKit
import Derived.Below
import Derived.Orders
import Derived.Calls
import Derived.Control
import Derived.RangeFuncNested
import Derived.TacticsIn
import Derived.OrdersIn
set_option linter.unusedSectionVars false
set_option linter.unusedSimpArgs false
set_option linter.unusedVariables false
set_option linter.unnecessarySimpa false
set_option maxHeartbeats 8000000
set_option maxRecDepth 20000
theorem Go.Lx.F {α:Sort _} {a:α}:a=a:=rfl
theorem dp:type_of% @Array.getD_eq_getD_getElem?:=@Array.getD_eq_getD_getElem?
theorem aM:type_of% @Bool.and_eq_true:=@Bool.and_eq_true
theorem eB:type_of% @Bool.eq_iff_iff:=@Bool.eq_iff_iff
theorem dn:type_of% @Int.toNat_of_nonneg:=@Int.toNat_of_nonneg
theorem aZ:type_of% @List.Sublist.refl:=@List.Sublist.refl
theorem fy:type_of% @List.all_eq_true:=@List.all_eq_true
theorem dW:type_of% @List.any_eq_true:=@List.any_eq_true
theorem aI:type_of% @List.append_assoc:=@List.append_assoc
theorem cT:type_of% @List.append_nil:=@List.append_nil
theorem cJ:type_of% @List.cons_append:=@List.cons_append
theorem cY:type_of% @List.foldl_append:=@List.foldl_append
theorem cV:type_of% @List.foldl_cons:=@List.foldl_cons
theorem aw:type_of% @List.getD_eq_getElem?_getD:=@List.getD_eq_getElem?_getD
theorem bI:type_of% @List.getElem?_append_left:=@List.getElem?_append_left
theorem bY:type_of% @List.getElem?_append_right:=@List.getElem?_append_right
theorem ap:type_of% @List.getElem?_eq_getElem:=@List.getElem?_eq_getElem
theorem bQ:type_of% @List.getElem?_eq_none:=@List.getElem?_eq_none
theorem bq:type_of% @List.getElem?_map:=@List.getElem?_map
theorem il:type_of% @List.getElem_append_left:=@List.getElem_append_left
theorem aL:type_of% @List.getElem_mem:=@List.getElem_mem
theorem aF:type_of% @List.length_append:=@List.length_append
theorem bL:type_of% @List.length_cons:=@List.length_cons
theorem ar:type_of% @List.length_map:=@List.length_map
theorem cN:type_of% @List.length_nil:=@List.length_nil
theorem iQ:type_of% @List.length_replicate:=@List.length_replicate
theorem eX:type_of% @List.length_set:=@List.length_set
theorem cw:type_of% @List.length_take:=@List.length_take
theorem bo:type_of% @List.map_append:=@List.map_append
theorem cD:type_of% @List.map_cons:=@List.map_cons
theorem fz:type_of% @List.map_nil:=@List.map_nil
theorem jr:type_of% @List.mem_append:=@List.mem_append
theorem aQ:type_of% @List.mem_append_left:=@List.mem_append_left
theorem am:type_of% @List.mem_append_right:=@List.mem_append_right
theorem df:type_of% @List.mem_cons:=@List.mem_cons
theorem iu:type_of% @List.mem_map:=@List.mem_map
theorem bS:type_of% @List.mem_of_getElem?:=@List.mem_of_getElem?
theorem fj:type_of% @List.mem_range:=@List.mem_range
theorem db:type_of% @List.mem_singleton:=@List.mem_singleton
theorem c8:type_of% @List.nil_append:=@List.nil_append
theorem cm:type_of% @List.nil_sublist:=@List.nil_sublist
theorem bt:type_of% @List.take_of_length_le:=@List.take_of_length_le
theorem aH:type_of% @List.take_succ_eq_append_getElem:=@List.take_succ_eq_append_getElem
theorem a8:type_of% @Nat.le_refl:=@Nat.le_refl
theorem bE:type_of% @Nat.le_trans:=@Nat.le_trans
theorem jz:type_of% @Nat.lt_of_le_of_lt:=@Nat.lt_of_le_of_lt
theorem eA:type_of% @Nat.lt_of_lt_of_le:=@Nat.lt_of_lt_of_le
theorem bO:type_of% @Nat.pow_le_pow_right:=@Nat.pow_le_pow_right
theorem gL:type_of% @Nat.sub_self:=@Nat.sub_self
theorem bw:type_of% @Nat.succ_pos:=@Nat.succ_pos
theorem bs:type_of% @Nat.zero_le:=@Nat.zero_le
theorem cZ:type_of% @Option.some.inj:=@Option.some.inj
theorem ax:type_of% @congrArg:=@congrArg
theorem ak:type_of% @decide_eq_false:=@decide_eq_false
theorem av:type_of% @decide_eq_true:=@decide_eq_true
theorem dm:type_of% @decide_eq_true_eq:=@decide_eq_true_eq
theorem ay:type_of% @if_neg:=@if_neg
theorem aR:type_of% @if_pos:=@if_pos
namespace Go.Lx
open Go.RowKit
abbrev Env:=Nat→Value
def oX (ρ:Env) (d:Nat) (v:Value):Env:=fun t=>match Nat.beq t d with
 |true=>v
 |false=>ρ t
def ev (ρ:Env):Operand→Value
 | .tmp t=>ρ t
 | .const v=>v
 | .global g=>.pointer (some ⟨g,0,none⟩)
 | .func f=>.func (.func f) #[] #[]
def G_ (ρ:Env):List Operand→List Value
 | []=>[]
 |x::l=>ev ρ x::G_ ρ l
theorem I3 (ρ:Env) (l:List Operand):G_ ρ l=l.map (ev ρ):=by
 induction l with
 |nil=>rfl
 |cons x l ih=>simp[G_,ih]
structure Ag (n:Nat) (ds:List Deferred) (a:Act) (ρ:Env):Prop where
 tmp: ∀t,a.tmps.getD t undef=ρ t
 size:a.tmps.size=n
 defers:a.defers=ds
theorem Ag.eval {n:Nat} {ds:List Deferred} {a:Act} {ρ:Env} (h:Ag n ds a ρ):a.eval=ev ρ:=by
 funext x
 cases x with
 |tmp t=>exact h.tmp t
 |_=>rfl
theorem Ag.put {n:Nat} {ds:List Deferred} {a:Act} {ρ:Env} (h:Ag n ds a ρ) {d:Nat} (hd:Nat.blt d n=true) (v:Value):Ag n ds (a.put (some d) v) (oX ρ d v):=by
 have hd':d<a.tmps.size:=by rw[h.size];rw[Nat.blt_eq]at hd;exact hd
 refine⟨fun t=>?_,by simp[Act.put,h.size],by simp[Act.put,h.defers]⟩
 have ht:=h.tmp t
 simp only[Act.put,oX]
 by_cases e:t=d
 ·subst e
  have hb:Nat.beq t t=true:=Nat.beq_refl t
  rw[hb]
  simp[dp,hd']
 ·have hb:Nat.beq t d=false:=by
   rcases h':Nat.beq t d with _|_
   ·rfl
   ·exact absurd (Nat.eq_of_beq_eq_true h') e
  rw[hb]
  simp only[dp]at ht⊢
  rw[Array.getElem?_setIfInBounds_ne (Ne.symm e)]
  exact ht
structure Item where
 blocks:List Nat
 P:World→Prop
 loc: ∀w w':World,(∀b∈blocks,w'.heap[b]? =w.heap[b]?)→P w→P w'
def dR (b:Nat) (o:Obj):Item:=⟨[b],fun w=>w.heap[b]? =some o,fun w w' h hp=>by rw[h b (by simp)];exact hp⟩
abbrev oI (b:Nat) (T:TypeId) (cs:List Value):Item:=dR b (.cells cs.toArray T (0,0))
structure Inv (base:World) (O:List Item) (w:World):Prop where
 below:Below base.heap.size base w
 holds: ∀it∈O,it.P w
 fresh: ∀it∈O,∀b∈it.blocks,base.heap.size≤b∧b<w.heap.size
 nodup:(O.flatMap Item.blocks).Nodup
theorem Inv.refl (w:World):Inv w [] w:=⟨Below.refl _ _,by simp,by simp,by simp⟩
theorem Inv.same {base:World} {O:List Item} {w w':World} (h:Inv base O w) (hh:w'.heap=w.heap) (ho:w'.os=w.os) (ht:w'.tape=w.tape) (hp:w'.output=w.output):Inv base O w':=by
 refine⟨⟨ho.trans h.below.os,ht.trans h.below.tape,hp.trans h.below.output,by rw[hh];exact h.below.size,fun k hk=>by rw[hh];exact h.below.block k hk⟩,fun it hi=>it.loc w w' (fun b _=>by rw[hh]) (h.holds it hi),fun it hi b hb=>by rw[hh];exact h.fresh it hi b hb,h.nodup⟩
theorem Inv.drew {base:World} {O:List Item} {w:World} (h:Inv base O w):Inv base O w.drew:=h.same rfl rfl rfl rfl
theorem Inv.drawn {base:World} {O:List Item} {w:World} (h:Inv base O w) (n:Nat):Inv base O {w with drawn:=n}:=h.same rfl rfl rfl rfl
theorem vF {O O':List Item} (h:O'.Sublist O):(O'.flatMap Item.blocks).Sublist (O.flatMap Item.blocks):=by
 induction h with
 |slnil=>exact aZ _
 |cons a _ ih=>exact ih.trans (by simp[List.flatMap_cons])
 |cons_cons a _ ih=>simp only[List.flatMap_cons];exact(aZ _).append ih
theorem Inv.sub {base:World} {O O':List Item} {w:World} (h:Inv base O w) (hs:O'.Sublist O):Inv base O' w:=
 ⟨h.below,fun it hi=>h.holds it (hs.subset hi),fun it hi=>h.fresh it (hs.subset hi),(vF hs).nodup h.nodup⟩
theorem Inv.perm {base:World} {O O':List Item} {w:World} (h:Inv base O w) (hs:O'.Perm O):Inv base O' w:=
 ⟨h.below,fun it hi=>h.holds it (hs.mem_iff.1 hi),fun it hi=>h.fresh it (hs.mem_iff.1 hi),((hs.flatMap_right Item.blocks).nodup_iff).2 h.nodup⟩
def Sub (O' O:List Item):Prop:= ∃l,O'.Perm l∧l.Sublist O
theorem cj {O' O:List Item} (h:O'.Sublist O):Sub O' O:=⟨O',List.Perm.refl _,h⟩
theorem Inv.j_ {base:World} {O O':List Item} {w:World} (h:Inv base O w) (hs:Sub O' O):Inv base O' w:=by
 obtain⟨l,hp,yy⟩:=hs
 exact(h.sub yy).perm hp
theorem Inv.call {base:World} {O O':List Item} {w w':World} (h:Inv base O w) (h':Inv w O' w'):Inv base (O'++O) w':=by
 have Uy: ∀b,b<w.heap.size→w'.heap[b]? =w.heap[b]? :=h'.below.block
 refine⟨?_,?_,?_,?_⟩
 ·exact h.below.trans (h'.below.mono h.below.size)
 ·intro it hi
  rcases List.mem_append.1 hi with hi|hi
  ·exact h'.holds it hi
  ·exact it.loc w w' (fun b hb=>Uy b (h.fresh it hi b hb).2) (h.holds it hi)
 ·intro it hi b hb
  rcases List.mem_append.1 hi with hi|hi
  ·have:=h'.fresh it hi b hb
   exact⟨bE h.below.size this.1,this.2⟩
  ·have:=h.fresh it hi b hb
   exact⟨this.1,eA this.2 h'.below.size⟩
 ·rw[List.flatMap_append,List.nodup_append]
  refine⟨h'.nodup,h.nodup,fun x hx y hy e=>?_⟩
  obtain⟨i,hi,MX⟩:=List.mem_flatMap.1 hx
  obtain⟨j,hj,Uz⟩:=List.mem_flatMap.1 hy
  have h1:=(h'.fresh i hi x MX).1
  have h2:=(h.fresh j hj y Uz).2
  omega
theorem Inv.step {base:World} {A B N:List Item} {it:Item} {w w':World} (h:Inv base (A++it::B) w)
  (ho:w'.os=w.os) (ht:w'.tape=w.tape) (hp:w'.output=w.output) (hs:w.heap.size≤w'.heap.size)
  (hb: ∀b,b<w.heap.size→b∉it.blocks→w'.heap[b]? =w.heap[b]?)
  (hN: ∀x∈N,x.P w') (hf: ∀x∈N,∀b∈x.blocks,b∈it.blocks∨(w.heap.size≤b∧b<w'.heap.size)) (hn:(N.flatMap Item.blocks).Nodup):
  Inv base (A++N++B) w':=by
 have vG: ∀x∈A++B,x∈A++it::B:=fun x hx=>by
  rcases List.mem_append.1 hx with h|h<;>simp[h]
 have lx:(A.flatMap Item.blocks++(it.blocks++B.flatMap Item.blocks)).Nodup:=by
  have:=h.nodup;simpa[List.flatMap_append,List.flatMap_cons]using this
 have QO: ∀x∈A++B,∀b∈x.blocks,b∉it.blocks:=by
  intro x hx b hb hi
  rw[List.nodup_append]at lx
  obtain⟨_,h2,h3⟩:=lx
  rw[List.nodup_append]at h2
  rcases List.mem_append.1 hx with hx|hx
  ·exact h3 b (List.mem_flatMap.2 ⟨x,hx,hb⟩) b (List.mem_append.2 (.inl hi)) rfl
  ·exact h2.2.2 b hi b (List.mem_flatMap.2 ⟨x,hx,hb⟩) rfl
 have QP: ∀b∈it.blocks,base.heap.size≤b∧b<w.heap.size:=h.fresh it (by simp)
 refine⟨?_,?_,?_,?_⟩
 ·refine⟨ho.trans h.below.os,ht.trans h.below.tape,hp.trans h.below.output,bE h.below.size hs,fun k hk=>?_⟩
  rw[hb k (eA hk h.below.size) (fun hi=>by have:=(QP k hi).1;omega)]
  exact h.below.block k hk
 ·intro x hx
  rcases List.mem_append.1 hx with hx|hx
  ·rcases List.mem_append.1 hx with hx|hx
   ·have sQ:x∈A++B:=by simp[hx]
    exact x.loc w w' (fun b yz=>hb b (h.fresh x (vG x sQ) b yz).2 (QO x sQ b yz)) (h.holds x (vG x sQ))
   ·exact hN x hx
  ·have sQ:x∈A++B:=by simp[hx]
   exact x.loc w w' (fun b yz=>hb b (h.fresh x (vG x sQ) b yz).2 (QO x sQ b yz)) (h.holds x (vG x sQ))
 ·intro x hx b yz
  rcases List.mem_append.1 hx with hx|hx
  ·rcases List.mem_append.1 hx with hx|hx
   ·have sQ:x∈A++B:=by simp[hx]
    have:=h.fresh x (vG x sQ) b yz
    exact⟨this.1,eA this.2 hs⟩
   ·rcases hf x hx b yz with h1|h1
    ·exact⟨(QP b h1).1,eA (QP b h1).2 hs⟩
    ·exact⟨bE h.below.size h1.1,h1.2⟩
  ·have sQ:x∈A++B:=by simp[hx]
   have:=h.fresh x (vG x sQ) b yz
   exact⟨this.1,eA this.2 hs⟩
 ·have Pf: ∀x∈A++B,∀b∈x.blocks,∀y∈N,b∉y.blocks:=by
   intro x hx b yz y hy Pg
   rcases hf y hy b Pg with h1|h1
   ·exact QO x hx b yz h1
   ·have:=(h.fresh x (vG x hx) b yz).2;omega
  simp only[List.flatMap_append]
  rw[List.nodup_append]at lx
  obtain⟨h1,h2,h3⟩:=lx
  rw[List.nodup_append]at h2
  obtain⟨_,h5,_⟩:=h2
  rw[List.nodup_append]
  refine⟨?_,h5,?_⟩
  ·rw[List.nodup_append]
   refine⟨h1,hn,fun x hx y hy e=>?_⟩
   subst e
   obtain⟨i,hi,MX⟩:=List.mem_flatMap.1 hx
   obtain⟨j,hj,Uz⟩:=List.mem_flatMap.1 hy
   exact Pf i (by simp[hi]) x MX j hj Uz
  ·intro x hx y hy e
   subst e
   rcases List.mem_append.1 hx with hx|hx
   ·exact h3 x hx x (List.mem_append.2 (.inr hy)) rfl
   ·obtain⟨i,hi,MX⟩:=List.mem_flatMap.1 hx
    obtain⟨j,hj,Uz⟩:=List.mem_flatMap.1 hy
    exact Pf j (by simp[hj]) x Uz i hi MX
theorem Bw {O:List Item} {i:Nat} {it:Item} (h:O[i]? =some it): ∃A B,O=A++it::B∧ ∀x,O.set i x=A++x::B:=by
 induction O generalizing i with
 |nil=>simp at h
 |cons y O ih=>
  cases i with
  |zero=>simp at h;subst h;exact⟨[],O,rfl,fun x=>rfl⟩
  |succ i=>
   obtain⟨A,B,e,I4⟩:=ih (i:=i) (by simpa using h)
   exact⟨y::A,B,by rw[e];rfl,fun x=>by simp[I4 x]⟩
theorem Inv.rU {base:World} {O:List Item} {i:Nat} {it QQ:Item} {w w':World} (h:Inv base O w) (hi:O[i]? =some it)
  (ho:w'.os=w.os) (ht:w'.tape=w.tape) (hp:w'.output=w.output) (hs:w.heap.size≤w'.heap.size)
  (hb: ∀b,b<w.heap.size→b∉it.blocks→w'.heap[b]? =w.heap[b]?)
  (hN:QQ.P w') (hf: ∀b∈QQ.blocks,b∈it.blocks∨(w.heap.size≤b∧b<w'.heap.size)) (hn:QQ.blocks.Nodup):
  Inv base (O.set i QQ) w':=by
 obtain⟨A,B,e,I4⟩:=Bw hi
 subst e
 rw[I4 QQ]
 have:=Inv.step (N:=[QQ]) h ho ht hp hs hb (by simpa using hN) (by simpa using hf) (by simpa using hn)
 simpa using this
theorem Inv.new {base:World} {O N:List Item} {w w':World} (h:Inv base O w)
  (ho:w'.os=w.os) (ht:w'.tape=w.tape) (hp:w'.output=w.output) (hs:w.heap.size≤w'.heap.size)
  (hb: ∀b,b<w.heap.size→w'.heap[b]? =w.heap[b]?)
  (hN: ∀x∈N,x.P w') (hf: ∀x∈N,∀b∈x.blocks,w.heap.size≤b∧b<w'.heap.size) (hn:(N.flatMap Item.blocks).Nodup):
  Inv base (N++O) w':=
 h.call ⟨⟨ho,ht,hp,hs,hb⟩,hN,hf,hn⟩
theorem Inv.alloc {base:World} {O:List Item} {w:World} (h:Inv base O w) (o:Obj):Inv base (dR w.heap.size o::O) (w.alloc o):=by
 refine Inv.new (N:=[dR w.heap.size o]) h rfl rfl rfl (by simp) (fun b hb=>Below.heap_alloc w o b hb) ?_ ?_ ?_
 ·intro x hx
  simp at hx;subst hx
  show(w.heap.push o)[w.heap.size]? =some o
  simp
 ·intro x hx b hb
  simp at hx;subst hx
  simp[dR]at hb;subst hb
  simp
 ·simp[dR]
def Fr (r:Option Nat):Fence:= {Fence.wide with round:=r}
def UA (b:Nat):Deferred:= {target:=.collected b,args:= #[]}
def uX (b:Nat):Item:=dR b (.deferred (some []))
abbrev mD (D:List Nat):List Deferred:=D.map UA
abbrev mI (D:List Nat):List Item:=D.map uX
def MOk:Option Nat→List Item→Prop
 |none,_=>True
 |some l,M=> ∃it∈M,∀w,it.P w→ ∃rc,w.heap[l]? =some (.loop rc)
abbrev kF:=Exit→Env→List Item→Prop
def lift (base:World) (n:Nat) (M:List Item) (Q:kF):Exit→Act→World→Prop:=fun e a w=> ∃ρ O D,Ag n (mD D) a ρ∧Inv base (O++(mI D++M)) w∧Q e ρ O
def T (P:Program) (r:Option Nat) (base:World) (n:Nat) (c:Code) (Q:kF) (ρ:Env) (O:List Item):Prop:=
 ∀a w M D,MOk r M→Ag n (mD D) a ρ→Inv base (O++(mI D++M)) w→c.wpIn (Fr r) 0 P (lift base n M Q) a w
def I5 (K:Env→List Item→Prop) (Q:kF):kF
 | .normal,ρ,O=>K ρ O
 |e,ρ,O=>Q e ρ O
def inB (id:Nat) (Q:kF):kF
 | .exit TS,ρ,O=>match Nat.beq TS id with
  |true=>Q .normal ρ O
  |false=>Q (.exit TS) ρ O
 |e,ρ,O=>Q e ρ O
section UB
variable {P:Program} {r:Option Nat} {base:World} {n:Nat} {Q:kF} {ρ:Env} {O:List Item}
theorem T.mono {c:Code} {Q':kF} (h:T P r base n c Q ρ O) (hq: ∀e ρ O,Q e ρ O→Q' e ρ O):T P r base n c Q' ρ O:=
 fun a w M D hM ha hi=>wpIn_mono (h a w M D hM ha hi) (fun e _ _ ⟨ρ,O,D,h1,h2,h3⟩=>⟨ρ,O,D,h1,h2,hq e ρ O h3⟩)
theorem aE (h:Q .normal ρ O):T P r base n .skip Q ρ O:=fun _ _ _ D _ ha hi=>wpIn_skip ⟨ρ,O,D,ha,hi,h⟩
theorem T.label {l:Nat} (h:Q .normal ρ O):T P r base n (.label l) Q ρ O:=fun _ _ _ D _ ha hi=>wpIn_label ⟨ρ,O,D,ha,hi,h⟩
theorem cG {id:Nat} (h:Q (.exit id) ρ O):T P r base n (.exit id) Q ρ O:=fun _ _ _ D _ ha hi=>wpIn_exit ⟨ρ,O,D,ha,hi,h⟩
theorem aN (h:Q .ret ρ O):T P r base n .ret Q ρ O:=fun _ _ _ D _ ha hi=>wpIn_ret ⟨ρ,O,D,ha,hi,h⟩
theorem aO {x y:Code} (h:T P r base n x (I5 (fun ρ O=>T P r base n y Q ρ O) Q) ρ O):T P r base n (.seq x y) Q ρ O:=by
 intro a w M D hM ha hi
 refine wpIn_seq (wpIn_mono (h a w M D hM ha hi) ?_)
 rintro e a' w' ⟨gR,O',D',h1,h2,h3⟩
 cases e with
 |normal=>exact h3 a' w' M D' hM h1 h2
 |_=>exact⟨gR,O',D',h1,h2,h3⟩
theorem gh {x y:Code} (K:Env→List Item→Prop) (h:T P r base n x (I5 K Q) ρ O) (hk: ∀ρ O,K ρ O→T P r base n y Q ρ O):T P r base n (.seq x y) Q ρ O:=
 aO (h.mono fun e ρ O h=>by cases e<;>first|exact hk ρ O h|exact h)
theorem T.cond {c:Operand} {x y:Code} {t:Bool} (hc:ev ρ c=.bool t) (h1:t=true→T P r base n x Q ρ O) (h0:t=false→T P r base n y Q ρ O):T P r base n (.cond c x y) Q ρ O:=by
 intro a w M D hM ha hi
 refine wpIn_cond (t:=t) (by rw[ha.eval];exact hc) ?_
 cases t
 ·exact h0 rfl a w M D hM ha hi
 ·exact h1 rfl a w M D hM ha hi
theorem bW {c:Operand} {x y:Code} (hc:ev ρ c=.bool true) (h:T P r base n x Q ρ O):T P r base n (.cond c x y) Q ρ O:=
 T.cond hc (fun _=>h) (fun e=>by cases e)
theorem a_ {c:Operand} {x y:Code} (hc:ev ρ c=.bool false) (h:T P r base n y Q ρ O):T P r base n (.cond c x y) Q ρ O:=
 T.cond hc (fun e=>by cases e) (fun _=>h)
theorem aP {c:Operand} {x y:Code} {p:Prop} [Decidable p] (hc:ev ρ c=.bool (decide p)) (h1:p→T P r base n x Q ρ O) (h0: ¬p→T P r base n y Q ρ O):T P r base n (.cond c x y) Q ρ O:=
 T.cond hc (fun e=>h1 (of_decide_eq_true e)) (fun e=>h0 (of_decide_eq_false e))
theorem aU {id:Nat} {c:Code} (h:T P r base n c (inB id Q) ρ O):T P r base n (.block id c) Q ρ O:=by
 intro a w M D hM ha hi
 refine wpIn_block (wpIn_mono (h a w M D hM ha hi) ?_)
 rintro e a' w' ⟨gR,O',D',h1,h2,h3⟩
 cases e with
 |exit TS=>
  simp only[Exit.inBlock]
  simp only[inB]at h3
  by_cases e:TS=id
  ·subst e
   rw[aR rfl]
   rw[Nat.beq_refl]at h3
   exact⟨gR,O',D',h1,h2,h3⟩
  ·rw[ay e]
   have hb:Nat.beq TS id=false:=by
    rcases h':Nat.beq TS id with _|_
    ·rfl
    ·exact absurd (Nat.eq_of_beq_eq_true h') e
   rw[hb]at h3
   exact⟨gR,O',D',h1,h2,h3⟩
 |_=>exact⟨gR,O',D',h1,h2,h3⟩
theorem et {c:Code} {α:Type} (I:α→Env→List Item→Prop) (μ:α→Nat) (s:α) (h0:I s ρ O)
  (h: ∀s ρ O,I s ρ O→T P r base n c (I5 (fun gR O'=> ∃s',μ s'<μ s∧I s' gR O') Q) ρ O):T P r base n (.loop c) Q ρ O:=by
 have key: ∀(m:Nat) (s:α) (ρ:Env) (O:List Item) (a:Act) (w:World) (M:List Item) (D:List Nat),μ s=m→I s ρ O→MOk r M→Ag n (mD D) a ρ→Inv base (O++(mI D++M)) w→
   ∀(b:Frame) (k:List Go.Item) (cs:List Frame),b.roundOf=(Fr r).round→(Fr r).fn b.fn→(Fr r).room (cs.length+1+0)→
    ∃e a' w',lift base n M Q e a' w'∧ArrivesIn (Machine.fenced P (Fr r)) P (lone (b.atR a (.code c::.inLoop c::k)) cs w) b k cs e a' w':=by
  intro m
  induction m using Nat.strongRecOn with
  |_ m ih=>
   intro s ρ O a w M D hm hI hM ha hi b k cs we hb hr
   obtain⟨e,a₁,vH,hq,rV⟩:=h s ρ O hI a w M D hM ha hi b (.inLoop c::k) cs we hb hr
   obtain⟨yZ,Ha,Hb,y3,y4,hq⟩:=hq
   cases e with
   |normal=>
    obtain⟨s',gn,nT⟩:=hq
    obtain⟨YR,a₂,YS,UC,MY⟩:=ih (μ s') (hm▸gn) s' yZ Ha a₁ vH M Hb rfl nT hM y3 y4 b k cs we hb hr
    exact⟨YR,a₂,YS,UC,.of_steps (StepsIn.trans rV (.one (fenced_calm hb hr rfl) stepR_inLoop)) MY⟩
   |exit id=>exact⟨_,a₁,vH,⟨yZ,Ha,Hb,y3,y4,hq⟩,.pass (x:=.inLoop c) rfl (fun _ _=>.inl (by simp)) rV⟩
   |goto l=>exact⟨_,a₁,vH,⟨yZ,Ha,Hb,y3,y4,hq⟩,.pass (x:=.inLoop c) rfl (fun _ _=>.inl (by simp)) rV⟩
   |ret=>exact⟨_,a₁,vH,⟨yZ,Ha,Hb,y3,y4,hq⟩,.pass (x:=.inLoop c) rfl (fun _ _=>.inl (by simp)) rV⟩
   |panic ch=>exact⟨_,a₁,vH,⟨yZ,Ha,Hb,y3,y4,hq⟩,.pass (x:=.inLoop c) rfl (fun _ _=>.inl (by simp)) rV⟩
   |outgrown=>exact⟨_,a₁,vH,⟨yZ,Ha,Hb,y3,y4,hq⟩,.pass (x:=.inLoop c) rfl (fun _ _=>.inl (by simp)) rV⟩
 intro a w M D hM ha hi b k cs we hb hr
 obtain⟨e,a',w',hq,rV⟩:=key _ s ρ O a w M D rfl h0 hM ha hi b k cs we hb hr
 exact⟨e,a',w',hq,.of_steps (.one (fenced_calm hb hr rfl) stepR_loop) rV⟩
theorem kv {b:Frame} {a:Act} {k:List Go.Item} {cs:List Frame} {w:World} {c:Code}:step P (lone (b.atR a (.code (.scope c)::k)) cs w)=.next (lone (b.atR a (.code c::.inScope c::k)) cs w):=
 step_lone_go (by simp[stepG,stepG.exec,Frame.atR])
theorem yA {b:Frame} {a:Act} {k:List Go.Item} {cs:List Frame} {w:World} {c:Code}:step P (lone (b.atR a (.inScope c::k)) cs w)=.next (lone (b.atR a k) cs w):=
 step_lone_go (by simp[stepG,stepG.exec,Frame.atR])
theorem T.scope {c:Code} (h:T P r base n c Q ρ O) (hg: ∀l ρ O,¬Q (.goto l) ρ O):T P r base n (.scope c) Q ρ O:=by
 intro a w M D hM ha hi b k cs we hb hr
 obtain⟨e,a₁,vH,hq,rV⟩:=h a w M D hM ha hi b (.inScope c::k) cs we hb hr
 have h0:(lone (b.atR a (.code (.scope c)::k)) cs w).fenced P (Fr r):=fenced_calm hb hr rfl
 cases e with
 |normal=>exact⟨.normal,a₁,vH,hq,.head h0 kv (StepsIn.trans rV (.one (fenced_calm hb hr rfl) yA))⟩
 |exit id=>
  have hx:exitTo id (.inScope c::k)=exitTo id k:=by simp[exitTo]
  exact⟨.exit id,a₁,vH,hq,fun k' hk=>.head h0 kv (rV.1 k' (by rw[hx];exact hk)),
   fun QR hk=>let⟨YT,h1,h2⟩:=rV.2 QR (by rw[hx];exact hk);⟨YT,h1,.head h0 kv h2⟩⟩
 |goto l=>obtain⟨gR,O',D',_,_,h3⟩:=hq;exact(hg l gR O' h3).elim
 |ret=>exact⟨_,a₁,vH,hq,.of_steps (.one h0 kv) rV⟩
 |panic ch=>exact⟨_,a₁,vH,hq,.of_steps (.one h0 kv) rV⟩
 |outgrown=>exact⟨_,a₁,vH,hq,.of_steps (.one h0 kv) rV⟩
def QT (P:Program) (base:World) (o:Oper) (ρ:Env) (O:List Item) (v:Value):Prop:=
 ∀w,Inv base O w→(execOp (ev ρ) o).run P w=.ok (.value v) w
def LT (P:Program) (r:Option Nat) (base:World) (n:Nat) (o:Oper) (ρ:Env) (O:List Item) (K:Env→List Item→Prop):Prop:=
 ∀a w M ds,Ag n ds a ρ→Inv base (O++M) w→ ∀(next:Act→World→Prop) (Qx:Exit→Act→World→Prop),
  (∀a' gR O' w',Ag n ds a' gR→Inv base (O'++M) w'→K gR O'→next a' w')→o.wpIn (Fr r) 0 P a w next Qx
theorem lJ {o:Oper} {a:Act} {w:World} {next:Act→World→Prop} {Qx:Exit→Act→World→Prop} (hd: ∀c,o.op≠.defer c)
  (h:o.uponIn (Fr r) 0 P a next Qx ((execOp a.eval o).run P w)):o.wpIn (Fr r) 0 P a w next Qx:=
 ⟨fun _ _=>trivial,by rw[Oper.semAt_eq _ _ _ hd];exact h⟩
theorem wT {o:Oper} {e:Operand→Value} {w:World} {x:Next} {w':World} (h:(execOp e o).run P w=.ok x w') (hx: ∀d,x≠.defer d): ∀c,o.op≠.defer c:=by
 intro c ec
 unfold execOp at h
 simp only[ec]at h
 rw[Sem.run_bind]at h
 cases hr:(resolve e c o.type).run P w with
 |ok d w1=>rw[hr]at h;simp[Result.andThen]at h;exact hx _ h.1.symm
 |halt y w1=>rw[hr]at h;simp[Result.andThen]at h
abbrev PX:=List PanicEntry→Prop
def TO (X:PX) (P:Program) (r:Option Nat) (base:World) (n:Nat) (ops:Array Oper) (l:List Oper) (K:Env→List Item→Prop) (ρ:Env) (O:List Item):Prop:=
 ∀(Q:kF) a w M D,(∀ρ O,K ρ O→Q .normal ρ O)∧(∀c ρ,X c→Q (.panic c) ρ [])→Ag n (mD D) a ρ→Inv base (O++(mI D++M)) w→wpListIn (Fr r) 0 P ops (lift base n M Q) l a w
theorem be {id:Nat} {l:List Oper} (h:TO (fun c=> ∀ρ,Q (.panic c) ρ []) P r base n l.toArray l (fun ρ O=>Q .normal ρ O) ρ O):T P r base n (.region id l.toArray false) Q ρ O:=
 fun a w M D _ ha hi=>wpIn_region_lit (h Q a w M D ⟨fun _ _ h=>h,fun _ ρ h=>h ρ⟩ ha hi)
variable {X:PX}
theorem ae {ops:Array Oper} {K:Env→List Item→Prop} (h:K ρ O):TO X P r base n ops [] K ρ O:=
 fun _ _ _ _ D hk ha hi=>wpListIn_nil ⟨ρ,O,D,ha,hi,hk.1 _ _ h⟩
def Mq:Value→Option Bool
 | .bool b=>some b
 |_=>none
theorem jA {a:Act} {ds:List Deferred} {ops:Array Oper} (ha:Ag n ds a ρ) {j t:Nat} (hj:(ops[j]?).bind (·.dst)=some t):yielded ops a.tmps j=Mq (ρ t):=by
 have h:=ha.tmp t
 unfold yielded
 rw[hj]
 rw[dp]at h
 rw[←h]
 show(match a.tmps[t]? with|some (.bool b)=>some b|_=>none)=_
 cases a.tmps[t]? with
 |none=>rfl
 |some v=>cases v<;>rfl
theorem Inv.left {M:List Item} {w:World} (h:Inv base (O++M) w):Inv base O w:=h.sub (List.sublist_append_left O M)
theorem eO {o:Oper} {d:Nat} {v:Value} {K:Env→List Item→Prop} (hd:o.dst=some d) (hn:Nat.blt d n=true) (h:QT P base o ρ O v) (hk:K (oX ρ d v) O):LT P r base n o ρ O K:=by
 intro a w M ds ha hi next Qx fm
 have hr:=h w hi.left
 rw[←ha.eval]at hr
 refine lJ (wT hr (by simp)) ?_
 rw[hr]
 show next (a.put o.dst v) w
 rw[hd]
 exact fm _ _ _ _ (ha.put hn v) hi hk
theorem ao {ops:Array Oper} {l:List Oper} {K:Env→List Item→Prop} {o:Oper} (hg:o.guard=none)
  (h:LT P r base n o ρ O (fun gR O'=>TO X P r base n ops l K gR O')):TO X P r base n ops (o::l) K ρ O:=
 fun Q a w M D hk ha hi=>wpListIn_plain hg fun next fm=>h a w _ _ ha hi next _ fun a' _ _ w' h1 h2 h3=>fm a' w' (h3 Q a' w' M D hk h1 h2)
theorem ad {ops:Array Oper} {l:List Oper} {K:Env→List Item→Prop} {d:Nat} {op:Op} {t:TypeId} {p:String} {af:Array Edge} {v:Value}
  (h:QT P base ⟨some d,op,t,p,af,none⟩ ρ O v) (hk:TO X P r base n ops l K (oX ρ d v) O) (hn:Nat.blt d n=true:=by rfl):TO X P r base n ops (⟨some d,op,t,p,af,none⟩::l) K ρ O:=
 ao rfl (eO rfl hn h hk)
theorem iv {ops:Array Oper} {l:List Oper} {K:Env→List Item→Prop} {o:Oper} {j tj:Nat} {want:Bool} (hg:o.guard=some (j,want))
  (hj:(ops[j]?).bind (·.dst)=some tj) (hw:ρ tj=.bool want)
  (h:LT P r base n o ρ O (fun gR O'=>TO X P r base n ops l K gR O')):TO X P r base n ops (o::l) K ρ O:=by
 intro Q a w M D hk ha hi
 refine wpListIn_step fun next fm=>?_
 have hy:=jA (ops:=ops) ha hj
 rw[hw]at hy
 have p6:Region.wanted o (yielded ops a.tmps)=true:=by unfold Region.wanted;rw[hg];simp[hy,Mq]
 rw[aR p6]
 exact h a w _ _ ha hi next _ fun a' _ _ w' h1 h2 h3=>fm a' w' (h3 Q a' w' M D hk h1 h2)
theorem aS {ops:Array Oper} {l:List Oper} {K:Env→List Item→Prop} {d:Nat} {op:Op} {t:TypeId} {p:String} {af:Array Edge} {j tj:Nat} {want:Bool}
  (hj:(ops[j]?).bind (·.dst)=some tj) (hw:(Mq (ρ tj)==some want)=false) (hk:TO X P r base n ops l K (oX ρ d undef) O) (hn:Nat.blt d n=true:=by rfl):
  TO X P r base n ops (⟨some d,op,t,p,af,some (j,want)⟩::l) K ρ O:=by
 intro Q a w M D hq ha hi
 refine wpListIn_step fun next fm=>?_
 have hy:=jA (ops:=ops) ha hj
 have p6:Region.wanted ⟨some d,op,t,p,af,some (j,want)⟩ (yielded ops a.tmps)=false:=by unfold Region.wanted;simp only[hy];exact hw
 rw[p6]
 exact⟨fun _ _=>trivial,fm _ _ (hk Q _ _ M D hq (ha.put hn undef) hi)⟩
end UB
end Go.Lx

namespace Go.Lx
open Go.RowKit
def jW (ops:Array Oper):Bool:=ops.all fun o=>match o.op with| .defer _=>false|_=>true
theorem oY {ops:Array Oper} (h:jW ops=true) {j:Nat} {o:Oper} (hj:ops[j]? =some o): ∀c,o.op≠.defer c:=by
 intro c e
 unfold jW at h
 rw[Array.all_eq_true']at h
 have:=h o (Array.mem_of_getElem? hj)
 rw[e]at this
 cases this
def Hc (P:Program) (r:Option Nat) (ops:Array Oper) (C:Array Bool→World→Prop) (Q:Exit→Act→World→Prop):Nat→Array Bool→Act→World→Prop
 |0,listed,a,w=>Region.ready .any ops listed=[]∧Q .normal a w
 |gu+1,listed,a,w=>
  (Region.ready .any ops listed=[]→Q .normal a w)∧
  ∀i∈Region.ready .any ops listed,wpOpIn (Fr r) 0 P ops Q i (fun a' w'=>C (listed.setIfInBounds i true) w'∧Hc P r ops C Q gu (listed.setIfInBounds i true) a' w') a w
theorem lK {P:Program} {r:Option Nat} {ops:Array Oper} {C:Array Bool→World→Prop} {Q:Exit→Act→World→Prop}: ∀(gu:Nat) (listed:Array Bool) (a:Act) (w:World),
  Hc P r ops C Q gu listed a w→wpAnyIn (Fr r) 0 P .any ops Q gu listed a w
 |0,_,_,_,h=>h
 |gu+1,_,_,_,h=>⟨h.1,fun i hi=>wpOpIn_mono (fun a' w' h'=>lK gu _ a' w' h'.2) (h.2 i hi)⟩
def closed (ops:Array Oper) (listed:Array Bool):Prop:= ∀k o,listed.getD k false=true→ops[k]? =some o→ ∀e∈o.after,Region.binds .any e=true→listed.getD e.on false=true
theorem oZ (ops:Array Oper) (m:Nat):closed ops (Array.replicate m false):=fun k o h=>by
 rw[dp,Array.getElem?_replicate]at h
 split at h<;>simp at h
theorem iZ {ops:Array Oper} {listed:Array Bool} {i:Nat} (h:closed ops listed) (hi:i∈Region.ready .any ops listed):closed ops (listed.setIfInBounds i true):=by
 intro k o hk ho e he hb
 obtain⟨_,oi,hoi,lQ⟩:=mem_ready.1 hi
 by_cases TT:i=k
 ·subst TT
  rw[ho]at hoi;cases hoi
  exact getD_set_true (lQ e he hb)
 ·rw[getD_set_ne false TT]at hk
  exact getD_set_true (h k o hk ho e he hb)
def sR:List Edge→Nat
 | []=>0
 |e::l=>(if Region.binds .any e=true then 1<<<e.on else 0)|||sR l
theorem ue {k:Nat}: ∀ {l:List Edge},(sR l).testBit k=true→ ∃e∈l,Region.binds .any e=true∧e.on=k
 | [],h=>by simp[sR]at h
 |e::l,h=>by
  rw[sR,Nat.testBit_or,Bool.or_eq_true]at h
  rcases h with h|h
  ·by_cases hb:Region.binds .any e=true
   ·rw[aR hb,Nat.one_shiftLeft,Nat.testBit_two_pow,dm]at h
    exact⟨e,by simp,hb,h⟩
   ·rw[ay hb]at h;simp at h
  ·obtain⟨e',h1,h2⟩:=ue h
   exact⟨e',by simp[h1],h2⟩
def mn (ops:Array Oper) (j:Nat):Nat:=match ops[j]? with
 |some o=>sR o.after.toList
 |none=>0
theorem nz {ops:Array Oper} {j k:Nat} (h:(mn ops j).testBit k=true): ∃o,ops[j]? =some o∧ ∃e∈o.after,Region.binds .any e=true∧e.on=k:=by
 unfold mn at h
 cases ho:ops[j]? with
 |none=>rw[ho]at h;simp at h
 |some o=>
  rw[ho]at h
  obtain⟨e,h1,h2⟩:=ue h
  exact⟨o,rfl,e,by simpa using h1,h2⟩
def I6 (ops:Array Oper):Nat→Nat→Nat
 |0,m=>m
 |j+1,m=>I6 ops j (if m.testBit j=true then m|||mn ops j else m)
theorem uf {ops:Array Oper} {listed:Array Bool} (hc:closed ops listed): ∀(n m:Nat),(∀k,m.testBit k=true→listed.getD k false=true)→ ∀k,(I6 ops n m).testBit k=true→listed.getD k false=true
 |0,_,h=>h
 |j+1,m,h=>by
  refine uf hc j _ fun k hk=>?_
  by_cases hj:m.testBit j=true
  ·rw[aR hj,Nat.testBit_or,Bool.or_eq_true]at hk
   rcases hk with hk|hk
   ·exact h k hk
   ·obtain⟨o,ho,e,he,hb,rfl⟩:=nz hk
    exact hc j o (h j hj) ho e he hb
  ·rw[ay hj]at hk;exact h k hk
def p7 (ops:Array Oper) (tl:List Nat) (i:Nat):Bool:=tl.all fun b=>(I6 ops ops.size (mn ops b)).testBit i
theorem DR {ops:Array Oper} {tl:List Nat} {i:Nat} {listed:Array Bool} (ht:p7 ops tl i=true) (hc:closed ops listed) {b:Nat} (hb:b∈tl) (hr:b∈Region.ready .any ops listed):listed.getD i false=true:=by
 simp only[p7,fy]at ht
 have h1:=ht b hb
 obtain⟨_,o,ho,lQ⟩:=mem_ready.1 hr
 refine uf hc ops.size _ ?_ i h1
 intro q hq
 obtain⟨o2,sH,e,he,hb,rfl⟩:=nz hq
 rw[ho]at sH;cases sH
 exact lQ e he hb
theorem wU {ops:Array Oper} {tl:List Nat} {i:Nat} {listed:Array Bool} (ht:p7 ops tl i=true) (hc:closed ops listed) {b:Nat} (hb:b∈tl) (hl:listed.getD b false=true):listed.getD i false=true:=by
 simp only[p7,fy]at ht
 have h1:=ht b hb
 refine uf hc ops.size _ ?_ i h1
 intro q hq
 obtain⟨o,ho,e,he,hb,rfl⟩:=nz hq
 exact hc b o hl ho e he hb
structure iR (base:World) (S:List Item) (tail:List Nat) (S2:List Item) (dq:List Nat) (listed:Array Bool) (w:World):Prop where
 mq:Inv base [] w
 one:(tail.any fun b=>listed.getD b false)=true∨Inv base S w
 two:(dq.any fun b=>listed.getD b false)=true∨Inv base S2 w
theorem Bx {tail:List Nat} {listed:Array Bool} {i:Nat} (hi:i∉tail) (h:(tail.any fun b=>(listed.setIfInBounds i true).getD b false)=true):(tail.any fun b=>listed.getD b false)=true:=by
 rw[dW]at h⊢
 obtain⟨b,hb,hl⟩:=h
 exact⟨b,hb,by rwa[getD_set_ne (i:=i) (j:=b) false (fun e=>hi (e▸hb))]at hl⟩
theorem iR.keep {base:World} {S S2:List Item} {tail dq:List Nat} {listed:Array Bool} {w:World} {i:Nat} (hi:i∉tail) (Hd:i∉dq) (h:iR base S tail S2 dq (listed.setIfInBounds i true) w):iR base S tail S2 dq listed w:=
 ⟨h.mq,h.one.imp (Bx hi) id,h.two.imp (Bx Hd) id⟩
def YC (P:Program) (ops:Array Oper) (C:World→Prop) (o:Oper) (v:Value) (a:Act):Prop:=
 (Region.wanted o (yielded ops a.tmps)=true∧ ∀w,C w→(execOp a.eval o).run P w=.ok (.value v) w)∨
 (Region.wanted o (yielded ops a.tmps)=false∧v=undef)
theorem YC.wpOp {P:Program} {r:Option Nat} {ops:Array Oper} {C:World→Prop} {Q:Exit→Act→World→Prop} {i:Nat} {o:Oper} {v:Value} {a:Act} (hi:ops[i]? =some o) (lx: ∀c,o.op≠.defer c) (hy:YC P ops C o v a)
  {K:Act→World→Prop} {w:World} (hC:C w) (h:K (a.put o.dst v) w):wpOpIn (Fr r) 0 P ops Q i K a w:=by
 unfold Go.wpOpIn
 simp only[hi]
 rcases hy with⟨hw,hv⟩|⟨hw,rfl⟩
 ·simp only[hw,if_true]
  refine lJ lx ?_
  rw[hv w hC];exact h
 ·simp only[hw,Bool.false_eq_true,if_false];exact⟨fun _ _=>trivial,h⟩
theorem YC.of_same {P:Program} {ops:Array Oper} {C:World→Prop} {o:Oper} {v:Value} {a a':Act} (hy:YC P ops C o v a) (he:execOp a'.eval o=execOp a.eval o)
  (hw:Region.wanted o (yielded ops a'.tmps)=Region.wanted o (yielded ops a.tmps)):YC P ops C o v a':=by
 unfold YC at*
 rw[he,hw]
 exact hy
theorem He {P:Program} {r:Option Nat} {ops:Array Oper} {C:World→Prop} {Q:Exit→Act→World→Prop} {j:Nat} {oi oj:Oper} {v:Value} (hj:ops[j]? =some oj) (hap:oi.apart ops oj=true)
  (hsi: ∀cs b,oi.op≠.select cs b) (hsj: ∀cs b,oj.op≠.select cs b) (hdj: ∀c,oj.op≠.defer c)
  (hQ: ∀c a a' w,a'.defers=a.defers→a'.tmps.size=a.tmps.size→Q (.panic c) a w→Q (.panic c) a' w) {K:Act→World→Prop} {a:Act} {w:World}
  (hy:YC P ops C oi v a) (h:wpOpIn (Fr r) 0 P ops Q j (fun a' w'=>C w'∧K a' w') (a.put oi.dst v) w):
  wpOpIn (Fr r) 0 P ops Q j (fun a' w'=>C w'∧YC P ops C oi v a'∧K (a'.put oi.dst v) w') a w:=by
 obtain⟨h1,h2,h3⟩:=Oper.apart_spec hap
 have keep: ∀(a:Act),YC P ops C oi v a→ ∀u,YC P ops C oi v (a.put oj.dst u):=fun a hy u=>
  hy.of_same (execOp_put oi hsi a oj.dst u h3) (wanted_put oi a oj.dst u h3)
 have UD: ∀d,YC P ops C oi v {a with defers:=d::a.defers}:=fun d=>hy.of_same rfl rfl
 unfold wpOpIn at*
 simp only[hj]at*
 rw[wanted_put oj a oi.dst v h1]at h
 split
 ·rename_i hw
  simp only[hw,if_true]at h
  have h:=h.2
  rw[Oper.semAt_eq _ _ _ hdj,execOp_put oj hsj a oi.dst v h1]at h
  refine lJ hdj ?_
  generalize(execOp a.eval oj).run P w=r at*
  cases r with
  |ok n w'=>
   cases n<;>simp only[Oper.uponIn]at h⊢
   case value u=>exact⟨h.1,keep a hy u,by rw[←Act.put_comm a v u h2];exact h.2⟩
   case skip=>exact⟨h.1,keep a hy _,by rw[←Act.put_comm a v undef h2];exact h.2⟩
   case defer d=>
    refine⟨h.1,keep _ (UD d) _,?_⟩
    rw[←Act.put_comm _ v undef h2,←Act.put_defers]
    exact h.2
   case enter f args=>
    refine⟨h.1,CallsIn.mono h.2 fun e MZ he=>?_⟩
    cases e with
    |returned u=>exact⟨he.1,keep a hy u,by rw[←Act.put_comm a v u h2];exact he.2⟩
    |panicked c=>exact hQ _ (a.put oi.dst v) a _ (by cases oi.dst<;>rfl) (by cases oi.dst<;>simp[Act.put]) he
    |outgrown=>exact he
   case row row args=>exact⟨h.1,RowsIn.mono h.2 fun u MZ he=>⟨he.1,keep a hy u,by rw[←Act.put_comm a v u h2];exact he.2⟩⟩
   case round l f tmps assign body=>
    refine⟨h.1,RoundIn.mono h.2 fun e MZ he=>?_⟩
    cases e with
    |returned u=>exact⟨he.1,keep a hy u,by rw[←Act.put_comm a v u h2];exact he.2⟩
    |panicked c=>exact hQ _ (a.put oi.dst v) a _ (by cases oi.dst<;>rfl) (by cases oi.dst<;>simp[Act.put]) he
    |outgrown=>exact he
  |halt x w'=>
   cases x<;>simp only[Oper.uponIn]at h⊢
   case panic u=>exact hQ _ (a.put oi.dst v) a _ (by cases oi.dst<;>rfl) (by cases oi.dst<;>simp[Act.put]) h
 ·rename_i hw
  simp only[hw]at h
  exact⟨fun _ _=>trivial,h.2.1,keep a hy _,by rw[←Act.put_comm a v undef h2];exact h.2.2⟩
theorem DS {P:Program} {r:Option Nat} {ops:Array Oper} {base:World} {S S2 Z:List Item} {tail dq zt:List Nat} {Q:Exit→Act→World→Prop} {i:Nat} {oi:Oper} {v:Value} (hi:ops[i]? =some oi) (fC:i∉tail) (QS:i∉dq) (ht:p7 ops zt i=true)
  (hz: ∀listed w,iR base S tail S2 dq listed w→(zt.any fun b=>listed.getD b false)=true∨Inv base Z w) (X2:i∉zt)
  (UE: ∀(j:Nat) (o:Oper) cs b,ops[j]? =some o→o.op≠.select cs b) (lx:jW ops=true) (hQ: ∀c a a' w,a'.defers=a.defers→a'.tmps.size=a.tmps.size→Q (.panic c) a w→Q (.panic c) a' w):
  ∀(gu:Nat) (listed:Array Bool) (a:Act) (w:World),closed ops listed→
   (∀j oj,ops[j]? =some oj→j≠i→listed.getD j true=false→(∀e∈oj.after,Region.binds .any e=true→e.on≠i)→oi.apart ops oj=true)→
   i∈Region.ready .any ops listed→YC P ops (Inv base Z) oi v a→Inv base Z w→iR base S tail S2 dq listed w→
   Hc P r ops (iR base S tail S2 dq) Q gu (listed.setIfInBounds i true) (a.put oi.dst v) w→Hc P r ops (iR base S tail S2 dq) Q (gu+1) listed a w:=by
 have up: ∀ {listed:Array Bool} {w:World},iR base S tail S2 dq listed w→iR base S tail S2 dq (listed.setIfInBounds i true) w:=fun {listed w} h=>by
  have grow: ∀tl:List Nat,(tl.any fun b=>listed.getD b false)=true→(tl.any fun b=>(listed.setIfInBounds i true).getD b false)=true:=fun tl h=>by
   rw[dW]at h⊢
   obtain⟨b,hb,hl⟩:=h
   exact⟨b,hb,getD_set_true hl⟩
  exact⟨h.mq,h.one.imp (grow _) id,h.two.imp (grow _) id⟩
 intro gu
 induction gu with
 |zero=>
  intro listed a w n3 _ hr hy hC YU H
  refine⟨fun h=>(by rw[h]at hr;cases hr),fun j hj=>?_⟩
  by_cases Fi:j=i
  ·subst Fi;exact hy.wpOp hi (oY lx hi) hC ⟨up YU,H⟩
  ·have:=ready_mono hj Fi
   rw[H.1]at this
   cases this
 |succ gu ih=>
  intro listed a w n3 Ph hr hy hC YU H
  refine⟨fun h=>(by rw[h]at hr;cases hr),fun j hj=>?_⟩
  by_cases Fi:j=i
  ·subst Fi;exact hy.wpOp hi (oY lx hi) hC ⟨up YU,H⟩
  ·have QU:=(mem_ready.1 hr).1
   have M0: ∀ {x:Array Bool},x.getD i true=false→x.getD i false=true→False:=fun {x} h1 h2=>by
    rcases Nat.lt_or_ge i x.size with h'|h'
    ·simp[h']at h1 h2;rw[h1]at h2;cases h2
    ·simp[Array.getElem?_eq_none h']at h2
   have YV:j∉zt:=fun YV=>M0 QU (DR ht n3 YV hj)
   have h1:=H.2 j (ready_mono hj Fi)
   obtain⟨UF,oj,QV,lQ⟩:=mem_ready.1 hj
   have QW: ∀e∈oj.after,Region.binds .any e=true→e.on≠i:=fun e he hb heq=>by
    have h1:=lQ e he hb
    rw[heq]at h1
    exact M0 QU h1
   have UG:(zt.any fun b=>(listed.setIfInBounds j true).getD b false)=false:=by
    rw[List.any_eq_false]
    intro b hb hl
    rw[getD_set_ne (i:=j) (j:=b) false (fun e=>YV (e▸hb))]at hl
    exact M0 QU (wU ht n3 hb hl)
   have h1':wpOpIn (Fr r) 0 P ops Q j (fun a' w'=>Inv base Z w'∧(iR base S tail S2 dq (listed.setIfInBounds j true) w'∧Hc P r ops (iR base S tail S2 dq) Q gu ((listed.setIfInBounds i true).setIfInBounds j true) a' w')) (a.put oi.dst v) w:=by
    refine wpOpIn_mono (fun a' w' h3=>?_) h1
    have hc:=h3.1
    rw[Array.setIfInBounds_comm _ _ (Ne.symm Fi)]at hc
    have TU:=hc.keep fC QS
    refine⟨?_,TU,h3.2⟩
    rcases hz _ _ TU with h|h
    ·rw[UG]at h;cases h
    ·exact h
   have h2:=He QV (Ph j oj QV Fi UF QW) (fun cs b=>UE i oi cs b hi) (fun cs b=>UE j oj cs b QV) (oY lx QV) hQ hy h1'
   have QX: ∀k ok,ops[k]? =some ok→k≠i→(listed.setIfInBounds j true).getD k true=false→
     (∀e∈ok.after,Region.binds .any e=true→e.on≠i)→oi.apart ops ok=true:=fun k ok hk TT hun M0=>by
    refine Ph k ok hk TT ?_ M0
    by_cases QY:j=k
    ·subst QY;exact UF
    ·rw[getD_set_ne true QY]at hun;exact hun
   refine wpOpIn_mono (fun a' w' h3=>⟨h3.2.2.1,ih (listed.setIfInBounds j true) a' w' (iZ n3 hj) QX (ready_mono hr (Ne.symm Fi)) h3.2.1 h3.1 h3.2.2.1 ?_⟩) h2
   rw[Array.setIfInBounds_comm _ _ Fi]
   exact h3.2.2.2
structure PQ (X:PX) (Q:kF):Prop where
 ind: ∀c ρ gR O,Q (.panic c) ρ O→Q (.panic c) gR O
 pan: ∀c ρ,X c→Q (.panic c) ρ []
theorem PQ.lift {X:PX} {Q:kF} (h:PQ X Q) {base:World} {n:Nat} {M:List Item} (c:List PanicEntry) (a a':Act) (w:World) (hd:a'.defers=a.defers) (hs:a'.tmps.size=a.tmps.size) (hl:Lx.lift base n M Q (.panic c) a w):Lx.lift base n M Q (.panic c) a' w:=by
 obtain⟨ρ,O,D,ha,hI,hq⟩:=hl
 exact⟨fun t=>a'.tmps.getD t undef,O,D,⟨fun _=>rfl,hs.trans ha.size,hd.trans ha.defers⟩,hI,h.ind c ρ _ O hq⟩
def RO (X:PX) (P:Program) (r:Option Nat) (base:World) (n:Nat) (ops:Array Oper) (S:List Item) (tail:List Nat) (S2:List Item) (dq:List Nat) (gu:Nat) (listed:Array Bool) (K:Env→List Item→Prop) (ρ:Env) (O:List Item):Prop:=
 ∀(Q:kF) a w M D,(∀ρ O,K ρ O→Q .normal ρ O)→PQ X Q→Ag n (mD D) a ρ→Inv base (O++(mI D++M)) w→closed ops listed→iR base S tail S2 dq listed w→Hc P r ops (iR base S tail S2 dq) (lift base n M Q) gu listed a w
section
variable {X:PX} {P:Program} {r:Option Nat} {base:World} {n:Nat} {Q:kF} {ρ:Env} {O S S2:List Item} {tail dq:List Nat} {ops:Array Oper} {K:Env→List Item→Prop}
theorem Inv.mq {base:World} {O:List Item} {w:World} (h:Inv base O w):Inv base [] w:=h.sub (cm _)
theorem Af {tl:List Nat} {listed:Array Bool} {i:Nat} (h:(tl.any fun b=>listed.getD b false)=true):(tl.any fun b=>(listed.setIfInBounds i true).getD b false)=true:=by
 rw[dW]at h⊢
 obtain⟨b,hb,hl⟩:=h
 exact⟨b,hb,getD_set_true hl⟩
theorem jB {gu:Nat} {listed:Array Bool} (i:Nat) {d:Nat} {op:Op} {t:TypeId} {p:String} {af:Array Edge} {g:Option (Nat×Bool)} {v:Value} {Z:List Item} {zt:List Nat} (hi:ops[i]? =some ⟨some d,op,t,p,af,g⟩)
  (hz: ∀listed w,iR base S tail S2 dq listed w→(zt.any fun b=>listed.getD b false)=true∨Inv base Z w) (X2:i∉zt) (ht:p7 ops zt i=true)
  (hs:Region.noSelect ops=true) (lx:jW ops=true) (fC:i∉tail) (QS:i∉dq) (hf:Region.free .any ops listed i=true) (hr:(Region.ready .any ops listed).contains i=true)
  (h: ∀ds a,Ag n ds a ρ→YC P ops (Inv base Z) ⟨some d,op,t,p,af,g⟩ v a) (hn:Nat.blt d n=true) (hk:RO X P r base n ops S tail S2 dq gu (listed.setIfInBounds i true) K (oX ρ d v) O):
  RO X P r base n ops S tail S2 dq (gu+1) listed K ρ O:=by
 intro Q a w M D hq hp ha hI n3 hS
 have QR:i∈Region.ready .any ops listed:=by simpa using hr
 have M0:listed.getD i false=true→False:=fun h2=>by
  have h1:=(mem_ready.1 QR).1
  rcases Nat.lt_or_ge i listed.size with h'|h'
  ·simp[h']at h1 h2;rw[h1]at h2;cases h2
  ·simp[Array.getElem?_eq_none h']at h2
 have hZ:Inv base Z w:=(hz _ _ hS).resolve_left (by
  intro h
  rw[dW]at h
  obtain⟨b,hb,hl⟩:=h
  exact M0 (wU ht n3 hb hl))
 exact DS hi fC QS ht hz X2 (Region.noSelect_spec hs) lx hp.lift gu listed a w n3 (Region.free_spec hi hf) QR (h _ a ha) hZ hS
  (hk Q _ w M D hq hp (ha.put hn v) hI (iZ n3 QR) ⟨hS.mq,hS.one.imp Af id,hS.two.imp Af id⟩)
theorem ug {gu:Nat} {listed:Array Bool} (i:Nat) {o:Oper} (hi:ops[i]? =some o) (hg:o.guard=none) (hr:Region.ready .any ops listed=[i])
  (h:LT P r base n o ρ O (fun gR O'=>(i∈tail∨Sub S O')∧(i∈dq∨Sub S2 O')∧RO X P r base n ops S tail S2 dq gu (listed.setIfInBounds i true) K gR O')):RO X P r base n ops S tail S2 dq (gu+1) listed K ρ O:=by
 intro Q a w M D hq hp ha hI n3 hS
 refine⟨fun h0=>(by rw[hr]at h0;cases h0),fun j hj=>?_⟩
 rw[hr]at hj
 obtain rfl:j=i:=by simpa using hj
 have wP:j∈Region.ready .any ops listed:=by rw[hr];simp
 have gn:j<listed.size:=by
  have:=(mem_ready.1 wP).1
  rcases Nat.lt_or_ge j listed.size with h'|h'
  ·exact h'
  ·simp[Array.getElem?_eq_none h']at this
 unfold wpOpIn
 simp only[hi]
 rw[aR (by simp[Region.wanted,hg])]
 refine h a w _ _ ha hI _ _ fun a' gR O' w' h1 h2 h3=>?_
 have rC: ∀(tl:List Nat) (Z:List Item),(j∈tl∨Sub Z O')→(tl.any fun b=>(listed.setIfInBounds j true).getD b false)=true∨Inv base Z w':=fun tl Z h3=>by
  rcases h3 with h4|h4
  ·refine .inl (List.any_eq_true.2 ⟨j,h4,?_⟩)
   simp[gn]
  ·exact .inr (h2.left.j_ h4)
 have p8:iR base S tail S2 dq (listed.setIfInBounds j true) w':=⟨h2.mq,rC _ _ h3.1,rC _ _ h3.2.1⟩
 exact⟨p8,h3.2.2 Q a' w' M D hq hp h1 h2 (iZ n3 wP) p8⟩
theorem y5 {gu:Nat} {listed:Array Bool} (hr:Region.ready .any ops listed=[]) (h:K ρ O):RO X P r base n ops S tail S2 dq gu listed K ρ O:=by
 intro Q a w M D hq hp ha hI _ _
 cases gu with
 |zero=>exact⟨hr,ρ,O,D,ha,hI,hq _ _ h⟩
 |succ f=>exact⟨fun _=>⟨ρ,O,D,ha,hI,hq _ _ h⟩,by rw[hr];simp⟩
def nM (l:List (Nat×Nat)):List Nat:=(l.filter (·.2==2)).map (·.1)
def lL (l:List (Nat×Nat)):List Nat:=(l.filter fun q=>q.2==2||q.2==4).map (·.1)
def jC (ops:Array Oper) (tail dq:List Nat):List (Nat×Nat)→Array Bool→Bool
 | [],listed=>(Region.ready .any ops listed).isEmpty
 |(i,0)::l,listed=>p7 ops tail i&&Region.free .any ops listed i&&(Region.ready .any ops listed).contains i&&jC ops tail dq l (listed.setIfInBounds i true)
 |(i,3)::l,listed=>p7 ops dq i&&Region.free .any ops listed i&&(Region.ready .any ops listed).contains i&&jC ops tail dq l (listed.setIfInBounds i true)
 |(i,_)::l,listed=>(Region.ready .any ops listed== [i])&&jC ops tail dq l (listed.setIfInBounds i true)
def wV (ops:Array Oper) (l:List (Nat×Nat)):Bool:=Region.noSelect ops&&jW ops&&l.length==ops.size&&(l.all fun q=>(q.2==2||!(nM l).contains q.1)&&(q.2==2||q.2==4||!(lL l).contains q.1))&&jC ops (nM l) (lL l) l (Array.replicate ops.size false)
def DO (X:PX) (P:Program) (r:Option Nat) (base:World) (n:Nat) (ops:Array Oper) (S:List Item) (tail:List Nat) (S2:List Item) (dq:List Nat) (l:List (Nat×Nat)) (K:Env→List Item→Prop) (ρ:Env) (O:List Item):Prop:=
 Region.noSelect ops=true→jW ops=true→(∀q∈l,((q.2=2→q.1∈tail)∧(q.2≠2→q.1∉tail))∧((q.2=2∨q.2=4→q.1∈dq)∧(q.2≠2→q.2≠4→q.1∉dq)))→ ∀listed,jC ops tail dq l listed=true→RO X P r base n ops S tail S2 dq l.length listed K ρ O
theorem au {l:List (Nat×Nat)} {i:Nat} {d:Nat} {op:Op} {t:TypeId} {p:String} {af:Array Edge} {v:Value} (hi:ops[i]? =some ⟨some d,op,t,p,af,none⟩)
  (h:QT P base ⟨some d,op,t,p,af,none⟩ ρ S v) (hk:DO X P r base n ops S tail S2 dq l K (oX ρ d v) O) (hn:Nat.blt d n=true:=by rfl):
  DO X P r base n ops S tail S2 dq ((i,0)::l) K ρ O:=fun hs lx hl listed hw=>by
 simp only[jC,aM]at hw
 have h0:=hl (i,0) (by simp)
 exact jB (zt:=tail) i hi (fun _ _ h=>h.one) (h0.1.2 (by simp)) hw.1.1.1 hs lx (h0.1.2 (by simp)) (h0.2.2 (by simp) (by simp)) hw.1.1.2 hw.1.2 (fun ds a ha=>.inl ⟨rfl,fun w hw=>by rw[ha.eval];exact h w hw⟩) hn (hk hs lx (fun q hq=>hl q (List.mem_cons_of_mem _ hq)) _ hw.2)
theorem dH {l:List (Nat×Nat)} {i:Nat} {d:Nat} {op:Op} {t:TypeId} {p:String} {af:Array Edge} {v:Value} (hi:ops[i]? =some ⟨some d,op,t,p,af,none⟩)
  (h:QT P base ⟨some d,op,t,p,af,none⟩ ρ S2 v) (hk:DO X P r base n ops S tail S2 dq l K (oX ρ d v) O) (hn:Nat.blt d n=true:=by rfl):
  DO X P r base n ops S tail S2 dq ((i,3)::l) K ρ O:=fun hs lx hl listed hw=>by
 simp only[jC,aM]at hw
 have h0:=hl (i,3) (by simp)
 exact jB (zt:=dq) i hi (fun _ _ h=>h.two) (h0.2.2 (by simp) (by simp)) hw.1.1.1 hs lx (h0.1.2 (by simp)) (h0.2.2 (by simp) (by simp)) hw.1.1.2 hw.1.2 (fun ds a ha=>.inl ⟨rfl,fun w hw=>by rw[ha.eval];exact h w hw⟩) hn (hk hs lx (fun q hq=>hl q (List.mem_cons_of_mem _ hq)) _ hw.2)
theorem bF {l:List (Nat×Nat)} {i:Nat} {d:Nat} {op:Op} {t:TypeId} {p:String} {af:Array Edge} {v:Value} {j tj:Nat} {want:Bool} (hi:ops[i]? =some ⟨some d,op,t,p,af,some (j,want)⟩)
  (hj:(ops[j]?).bind (·.dst)=some tj) (hw:ρ tj=.bool want)
  (h:QT P base ⟨some d,op,t,p,af,some (j,want)⟩ ρ S v) (hk:DO X P r base n ops S tail S2 dq l K (oX ρ d v) O) (hn:Nat.blt d n=true:=by rfl):
  DO X P r base n ops S tail S2 dq ((i,0)::l) K ρ O:=fun hs lx hl listed hb=>by
 simp only[jC,aM]at hb
 have h0:=hl (i,0) (by simp)
 refine jB (zt:=tail) i hi (fun _ _ h=>h.one) (h0.1.2 (by simp)) hb.1.1.1 hs lx (h0.1.2 (by simp)) (h0.2.2 (by simp) (by simp)) hb.1.1.2 hb.1.2 (fun ds a ha=>?_) hn (hk hs lx (fun q hq=>hl q (List.mem_cons_of_mem _ hq)) _ hb.2)
 have hy:=jA (ops:=ops) ha hj
 rw[hw]at hy
 exact .inl ⟨by unfold Region.wanted;simp[hy,Mq],fun w hw=>by rw[ha.eval];exact h w hw⟩
theorem bN {l:List (Nat×Nat)} {i:Nat} {d:Nat} {op:Op} {t:TypeId} {p:String} {af:Array Edge} {j tj:Nat} {want:Bool} (hi:ops[i]? =some ⟨some d,op,t,p,af,some (j,want)⟩)
  (hj:(ops[j]?).bind (·.dst)=some tj) (hw:(Mq (ρ tj)==some want)=false)
  (hk:DO X P r base n ops S tail S2 dq l K (oX ρ d undef) O) (hn:Nat.blt d n=true:=by rfl):
  DO X P r base n ops S tail S2 dq ((i,0)::l) K ρ O:=fun hs lx hl listed hb=>by
 simp only[jC,aM]at hb
 have h0:=hl (i,0) (by simp)
 refine jB (zt:=tail) i hi (fun _ _ h=>h.one) (h0.1.2 (by simp)) hb.1.1.1 hs lx (h0.1.2 (by simp)) (h0.2.2 (by simp) (by simp)) hb.1.1.2 hb.1.2 (fun ds a ha=>?_) hn (hk hs lx (fun q hq=>hl q (List.mem_cons_of_mem _ hq)) _ hb.2)
 have hy:=jA (ops:=ops) ha hj
 exact .inr ⟨by unfold Region.wanted;simp only[hy];exact hw,rfl⟩
theorem rW {l:List (Nat×Nat)} {i:Nat} {o:Oper} (hi:ops[i]? =some o) (hg:o.guard=none)
  (h:LT P r base n o ρ O (fun gR O'=>Sub S O'∧Sub S2 O'∧DO X P r base n ops S tail S2 dq l K gR O')):DO X P r base n ops S tail S2 dq ((i,1)::l) K ρ O:=fun hs lx hl listed hb=>by
 simp only[jC,aM,beq_iff_eq]at hb
 refine ug i hi hg hb.1 ?_
 intro a w M ds ha hI next Qx fm
 exact h a w M ds ha hI next Qx fun a' gR O' w' h1 h2 h3=>fm a' gR O' w' h1 h2 ⟨.inr h3.1,.inr h3.2.1,h3.2.2 hs lx (fun q hq=>hl q (List.mem_cons_of_mem _ hq)) _ hb.2⟩
theorem cx {l:List (Nat×Nat)} {i:Nat} {o:Oper} (hi:ops[i]? =some o) (hg:o.guard=none)
  (h:LT P r base n o ρ O (fun gR O'=>Sub S O'∧DO X P r base n ops S tail [] dq l K gR O')):DO X P r base n ops S tail [] dq ((i,1)::l) K ρ O:=
 rW hi hg fun a w M ds ha hI next Qx fm=>h a w M ds ha hI next Qx fun a' gR O' w' h1 h2 h3=>fm a' gR O' w' h1 h2 ⟨h3.1,cj (cm _),h3.2⟩
theorem wW {l:List (Nat×Nat)} {i:Nat} {o:Oper} (hi:ops[i]? =some o) (hg:o.guard=none)
  (h:LT P r base n o ρ O (fun gR O'=>Sub S O'∧DO X P r base n ops S tail S2 dq l K gR O')):DO X P r base n ops S tail S2 dq ((i,4)::l) K ρ O:=fun hs lx hl listed hb=>by
 simp only[jC,aM,beq_iff_eq]at hb
 refine ug i hi hg hb.1 ?_
 intro a w M ds ha hI next Qx fm
 exact h a w M ds ha hI next Qx fun a' gR O' w' h1 h2 h3=>fm a' gR O' w' h1 h2 ⟨.inr h3.1,.inl ((hl (i,4) (by simp)).2.1 (.inr rfl)),h3.2 hs lx (fun q hq=>hl q (List.mem_cons_of_mem _ hq)) _ hb.2⟩
theorem cu {l:List (Nat×Nat)} {i:Nat} {o:Oper} (hi:ops[i]? =some o) (hg:o.guard=none)
  (h:LT P r base n o ρ O (fun gR O'=>DO X P r base n ops S tail S2 dq l K gR O')):DO X P r base n ops S tail S2 dq ((i,2)::l) K ρ O:=fun hs lx hl listed hb=>by
 simp only[jC,aM,beq_iff_eq]at hb
 refine ug i hi hg hb.1 ?_
 intro a w M ds ha hI next Qx fm
 exact h a w M ds ha hI next Qx fun a' gR O' w' h1 h2 h3=>fm a' gR O' w' h1 h2 ⟨.inl ((hl (i,2) (by simp)).1.1 rfl),.inl ((hl (i,2) (by simp)).2.1 (.inl rfl)),h3 hs lx (fun q hq=>hl q (List.mem_cons_of_mem _ hq)) _ hb.2⟩
theorem cy (h:K ρ O):DO X P r base n ops S tail S2 dq [] K ρ O:=fun _ _ _ listed hb=>y5 (by simpa[jC]using hb) h
theorem rX (S S2:List Item) (l:List (Nat×Nat)) {id:Nat} {ops:Array Oper} (hm:P.follows .mixedOrders=true) (hB:wV ops l=true) (hS:Sub S O) (UH:Sub S2 O) (hp: ∀c ρ gR O,Q (.panic c) ρ O→Q (.panic c) gR O)
  (h:DO (fun c=> ∀ρ,Q (.panic c) ρ []) P r base n ops S (nM l) S2 (lL l) l (fun ρ O=>Q .normal ρ O) ρ O):T P r base n (.region id ops true) Q ρ O:=by
 simp only[wV,aM,beq_iff_eq]at hB
 obtain⟨⟨⟨⟨h1,lx⟩,h2⟩,h4⟩,h5⟩:=hB
 have hl: ∀q∈l,((q.2=2→q.1∈nM l)∧(q.2≠2→q.1∉nM l))∧((q.2=2∨q.2=4→q.1∈lL l)∧(q.2≠2→q.2≠4→q.1∉lL l)):=fun q hq=>by
  have:=List.all_eq_true.1 h4 q hq
  simp only[aM,Bool.or_eq_true,beq_iff_eq,Bool.not_eq_true',List.contains_eq_mem,decide_eq_false_iff_not]at this
  refine⟨⟨fun e=>List.mem_map.2 ⟨q,List.mem_filter.2 ⟨hq,by simp[e]⟩,rfl⟩,fun e=>this.1.resolve_left e⟩,fun e=>List.mem_map.2 ⟨q,List.mem_filter.2 ⟨hq,by rcases e with e|e<;>simp[e]⟩,rfl⟩,fun e e2=>this.2.resolve_left (fun h=>h.elim e e2)⟩
 have:=h h1 lx hl _ h5
 rw[h2]at this
 intro a w M D _ ha hi
 refine wpIn_region_any hm (lK _ _ _ _ (this Q a _ M D (fun _ _ h=>h) ⟨hp,fun _ ρ h=>h ρ⟩ ha (hi.drawn _) (oZ _ _) ⟨(hi.drawn _).mq,.inr ((hi.drawn _).left.j_ hS),.inr ((hi.drawn _).left.j_ UH)⟩))
theorem y6 (S:List Item) (l:List (Nat×Nat)) {id:Nat} {ops:Array Oper} (hm:P.follows .mixedOrders=true) (hB:wV ops l=true) (hS:Sub S O) (hp: ∀c ρ gR O,Q (.panic c) ρ O→Q (.panic c) gR O)
  (h:DO (fun c=> ∀ρ,Q (.panic c) ρ []) P r base n ops S (nM l) [] (lL l) l (fun ρ O=>Q .normal ρ O) ρ O):T P r base n (.region id ops true) Q ρ O:=
 rX S [] l hm hB hS (cj (cm _)) hp h
def Hf (p:Nat→Prop):List Nat→Prop
 | []=>True
 |i::is=>p i∧Hf p is
theorem Hf.mem {p:Nat→Prop}: ∀ {is:List Nat},Hf p is→ ∀i∈is,p i
 |i::is,h,j,hj=>by
  rcases List.mem_cons.1 hj with rfl|hj
  ·exact h.1
  ·exact Hf.mem h.2 j hj
theorem bg {gu:Nat} {listed:Array Bool} (is:List Nat) (hr:Region.ready .any ops listed=is) (h0:is.isEmpty=false)
  (h:Hf (fun i=> ∃o,ops[i]? =some o∧o.guard=none∧LT P r base n o ρ O (fun gR O'=>Sub S O'∧RO X P r base n ops S [] [] [] gu (listed.setIfInBounds i true) K gR O')) is):RO X P r base n ops S [] [] [] (gu+1) listed K ρ O:=by
 intro Q a w M D hq hp ha hI n3 hS
 refine⟨fun h1=>?_,fun j hj=>?_⟩
 ·rw[hr]at h1;subst h1;cases h0
 obtain⟨o,hi,hg,hl⟩:=h.mem j (hr▸hj)
 unfold wpOpIn
 simp only[hi]
 rw[aR (by simp[Region.wanted,hg])]
 refine hl a w _ _ ha hI _ _ fun a' gR O' w' h1 h2 h3=>?_
 have p8:iR base S [] [] [] (listed.setIfInBounds j true) w':=⟨h2.mq,.inr (h2.left.j_ h3.1),.inr h2.mq⟩
 exact⟨p8,h3.2 Q a' w' M D hq hp h1 h2 (iZ n3 hj) p8⟩
theorem cB {gu:Nat} {listed:Array Bool} (i:Nat) {d:Nat} {op:Op} {t:TypeId} {p:String} {af:Array Edge} {v:Value} (hi:ops[i]? =some ⟨some d,op,t,p,af,none⟩)
  (hb:(Region.noSelect ops&&jW ops&&Region.free .any ops listed i&&(Region.ready .any ops listed).contains i)=true)
  (h:QT P base ⟨some d,op,t,p,af,none⟩ ρ S v) (hk:RO X P r base n ops S [] [] [] gu (listed.setIfInBounds i true) K (oX ρ d v) O) (hn:Nat.blt d n=true:=by rfl):
  RO X P r base n ops S [] [] [] (gu+1) listed K ρ O:=by
 simp only[aM]at hb
 exact jB (zt:=[]) i hi (fun _ _ h=>h.one) (by simp) rfl hb.1.1.1 hb.1.1.2 (by simp) (by simp) hb.1.2 hb.2 (fun ds a ha=>.inl ⟨rfl,fun w hw=>by rw[ha.eval];exact h w hw⟩) hn hk
theorem fP {gu:Nat} {listed:Array Bool} (is:List Nat) (hr:Region.ready .any ops listed=is) (h0:is.isEmpty=false)
  (h:Hf (fun i=> ∃o,ops[i]? =some o∧o.guard=none∧LT P r base n o ρ O (fun gR O'=>(i∈tail∨Sub S O')∧RO X P r base n ops S tail [] [] gu (listed.setIfInBounds i true) K gR O')) is) (iM:is.all (fun i=>Nat.blt i listed.size)=true):RO X P r base n ops S tail [] [] (gu+1) listed K ρ O:=by
 intro Q a w M D hq hp ha hI n3 hS
 refine⟨fun h1=>?_,fun j hj=>?_⟩
 ·rw[hr]at h1;subst h1;cases h0
 obtain⟨o,hi,hg,hl⟩:=h.mem j (hr▸hj)
 have gn:j<listed.size:=by
  have:=List.all_eq_true.1 iM j (hr▸hj)
  rwa[Nat.blt_eq]at this
 unfold wpOpIn
 simp only[hi]
 rw[aR (by simp[Region.wanted,hg])]
 refine hl a w _ _ ha hI _ _ fun a' gR O' w' h1 h2 h3=>?_
 have rC:(tail.any fun b=>(listed.setIfInBounds j true).getD b false)=true∨Inv base S w':=by
  rcases h3.1 with h4|h4
  ·refine .inl (List.any_eq_true.2 ⟨j,h4,?_⟩)
   simp[gn]
  ·exact .inr (h2.left.j_ h4)
 have p8:iR base S tail [] [] (listed.setIfInBounds j true) w':=⟨h2.mq,rC,.inr h2.mq⟩
 exact⟨p8,h3.2 Q a' w' M D hq hp h1 h2 (iZ n3 hj) p8⟩
theorem gE {gu:Nat} {listed:Array Bool} (i:Nat) {d:Nat} {op:Op} {t:TypeId} {p:String} {af:Array Edge} {v:Value} (hi:ops[i]? =some ⟨some d,op,t,p,af,none⟩)
  (hb:(Region.noSelect ops&&jW ops&&Region.free .any ops listed i&&(Region.ready .any ops listed).contains i&&p7 ops tail i&&!tail.contains i)=true)
  (h:QT P base ⟨some d,op,t,p,af,none⟩ ρ S v) (hk:RO X P r base n ops S tail [] [] gu (listed.setIfInBounds i true) K (oX ρ d v) O) (hn:Nat.blt d n=true:=by rfl):
  RO X P r base n ops S tail [] [] (gu+1) listed K ρ O:=by
 simp only[aM,Bool.not_eq_true',List.contains_eq_mem,decide_eq_false_iff_not]at hb
 exact jB (zt:=tail) i hi (fun _ _ h=>h.one) hb.2 hb.1.2 hb.1.1.1.1.1 hb.1.1.1.1.2 hb.2 (by simp) hb.1.1.1.2 (by simpa using hb.1.1.2) (fun ds a ha=>.inl ⟨rfl,fun w hw=>by rw[ha.eval];exact h w hw⟩) hn hk
theorem kw {gu:Nat} {listed:Array Bool} (i:Nat) {d:Nat} {op:Op} {t:TypeId} {p:String} {af:Array Edge} {v:Value} (hi:ops[i]? =some ⟨some d,op,t,p,af,none⟩)
  (hb:(Region.noSelect ops&&jW ops&&Region.free .any ops listed i&&(Region.ready .any ops listed).contains i&&!tail.contains i)=true)
  (h:QT P base ⟨some d,op,t,p,af,none⟩ ρ [] v) (hk:RO X P r base n ops S tail [] [] gu (listed.setIfInBounds i true) K (oX ρ d v) O) (hn:Nat.blt d n=true:=by rfl):
  RO X P r base n ops S tail [] [] (gu+1) listed K ρ O:=by
 simp only[aM,Bool.not_eq_true',List.contains_eq_mem,decide_eq_false_iff_not]at hb
 exact jB (zt:=[]) (Z:=[]) i hi (fun _ _ h=>.inr h.mq) (by simp) rfl hb.1.1.1.1 hb.1.1.1.2 hb.2 (by simp) hb.1.1.2 (by simpa using hb.1.2) (fun ds a ha=>.inl ⟨rfl,fun w hw=>by rw[ha.eval];exact h w hw⟩) hn hk
theorem Hg (S:List Item) (tail:List Nat) (m:Nat) {id:Nat} {ops:Array Oper} (hm:P.follows .mixedOrders=true) (sN:ops.size=m) (hS:Sub S O) (hp: ∀c ρ gR O,Q (.panic c) ρ O→Q (.panic c) gR O)
  (h:RO (fun c=> ∀ρ,Q (.panic c) ρ []) P r base n ops S tail [] [] m (Array.replicate m false) (fun ρ O=>Q .normal ρ O) ρ O):T P r base n (.region id ops true) Q ρ O:=by
 subst sN
 intro a w M D _ ha hi
 refine wpIn_region_any hm (lK _ _ _ _ (h Q a _ M D (fun _ _ h=>h) ⟨hp,fun _ ρ h=>h ρ⟩ ha (hi.drawn _) (oZ _ _) ⟨(hi.drawn _).mq,.inr ((hi.drawn _).left.j_ hS),.inr (hi.drawn _).mq⟩))
theorem n5 (S:List Item) (m:Nat) {id:Nat} {ops:Array Oper} (hm:P.follows .mixedOrders=true) (sN:ops.size=m) (hS:Sub S O) (hp: ∀c ρ gR O,Q (.panic c) ρ O→Q (.panic c) gR O)
  (h:RO (fun c=> ∀ρ,Q (.panic c) ρ []) P r base n ops S [] [] [] m (Array.replicate m false) (fun ρ O=>Q .normal ρ O) ρ O):T P r base n (.region id ops true) Q ρ O:=by
 subst sN
 intro a w M D _ ha hi
 refine wpIn_region_any hm (lK _ _ _ _ (h Q a _ M D (fun _ _ h=>h) ⟨hp,fun _ ρ h=>h ρ⟩ ha (hi.drawn _) (oZ _ _) ⟨(hi.drawn _).mq,.inr ((hi.drawn _).left.j_ hS),.inr (hi.drawn _).mq⟩))
theorem RO.sub {O':List Item} {gu:Nat} {listed:Array Bool} (hs:Sub O' O) (h:RO X P r base n ops S tail S2 dq gu listed K ρ O'):RO X P r base n ops S tail S2 dq gu listed K ρ O:=
 fun Q a w M D hq hp ha hI n3 hS=>h Q a w M D hq hp ha (hI.j_ (by obtain⟨l,h1,h2⟩:=hs;exact⟨l++(mI D++M),h1.append_right _,h2.append (aZ _)⟩)) n3 hS
theorem dw {O':List Item} {gu:Nat} {listed:Array Bool} (hr:Region.ready .any ops listed=[]) (h:K ρ O') (hs:Sub O' O):RO X P r base n ops S tail S2 dq gu listed K ρ O:=RO.sub hs (y5 hr h)
end
end Go.Lx

namespace Go.Lx
open Go.RowKit
def fK (P:Program) (t:TypeId) (z:Value) (s b:Nat):Prop:=(P.info? t).map (fun i=>(i.zero,i.size,i.bytes))=some (some z,s,b)
theorem fK.get {P:Program} {t:TypeId} {z:Value} {s b:Nat} (h:fK P t z s b): ∃i,P.info? t=some i∧i.zero=some z∧i.size=s∧i.bytes=b:=by
 unfold fK at h
 cases hi:P.info? t with
 |none=>rw[hi]at h;cases h
 |some i=>
  rw[hi]at h
  simp only[Option.map_some,Option.some.injEq,Prod.mk.injEq]at h
  exact⟨i,rfl,h.1,h.2.1,h.2.2⟩
theorem lM {P:Program} {t:TypeId} {i:TypeInfo} (h:P.info? t=some i) (w:World):(typeInfo t).run P w=.ok i w:=by
 unfold typeInfo;simp[h]
theorem bZ {P:Program} {t:TypeId} {z:Value} {s b:Nat} (h:fK P t z s b) (w:World):(sizeOf t).run P w=.ok s w:=by
 obtain⟨i,hi,_,hs,_⟩:=h.get
 unfold sizeOf;simp[lM hi,hs]
theorem gJ {P:Program} {t:TypeId} {z:Value} {s b:Nat} (h:fK P t z s b) (w:World):(zeroValue t).run P w=.ok z w:=by
 obtain⟨i,hi,hz,_,_⟩:=h.get
 unfold zeroValue;simp[lM hi,hz]
theorem bH {P:Program} {t:TypeId} {d:TypeDesc} (h:P.underlying t=some d) (w:World):(underlying t).run P w=.ok d w:=by
 unfold underlying;simp[h]
theorem run_equal_bool {P:Program} {T:TypeId} (h:P.underlying T=some .bool) (a b:Bool) (w:World):(Op.equal T (.bool a) (.bool b)).run P w=.ok (a==b) w:=by
 show(Op.equalIn (9999+1) T (.bool a) (.bool b)).run P w=_
 rw[Op.equalIn]
 simp[bH h]
def o4:TypeDesc→Bool
 | .struct _| .array _ _=>true
 |_=>false
theorem jg {P:Program} {t:TypeId} {d:TypeDesc} (h:P.underlying t=some d) (w:World):(isAgg t).run P w=.ok (o4 d) w:=by
 unfold isAgg;simp[bH h];cases d<;>rfl
section
variable {P:Program} {base:World} {ρ:Env} {O:List Item} {dst:Option Nat} {t:TypeId} {p:String} {af:Array Edge} {g:Option (Nat×Bool)}
theorem aK {x:Operand} {v:Value} (h:ev ρ x=v):QT P base ⟨dst,.move x,t,p,af,g⟩ ρ O v:=fun w _=>by simp[execOp,h]
theorem cq {x:Operand} {v:Value} (h:ev ρ x=v):QT P base ⟨dst,.assign x,t,p,af,g⟩ ρ O v:=fun w _=>by simp[execOp,h]
theorem cR {x y:Operand} {T U:TypeId} {k:IntKind} {a b:Int} (hx:ev ρ x=.int k a) (hy:ev ρ y=.int k b):QT P base ⟨dst,.binOp .lss T x y U,t,p,af,g⟩ ρ O (.bool (decide (a<b))):=fun w _=>by
 simp[execOp,hx,hy,eqGuard,binOp,Op.intCmp]
theorem I7 {x y:Operand} {T U:TypeId} {k:IntKind} {a b:Int} (hx:ev ρ x=.int k a) (hy:ev ρ y=.int k b):QT P base ⟨dst,.binOp .leq T x y U,t,p,af,g⟩ ρ O (.bool (decide (a≤b))):=fun w _=>by
 simp[execOp,hx,hy,eqGuard,binOp,Op.intCmp]
theorem gH {x y:Operand} {T U:TypeId} {k:IntKind} {a b:Int} (hx:ev ρ x=.int k a) (hy:ev ρ y=.int k b):QT P base ⟨dst,.binOp .gtr T x y U,t,p,af,g⟩ ρ O (.bool (decide (b<a))):=fun w _=>by
 simp[execOp,hx,hy,eqGuard,binOp,Op.intCmp]
theorem lR {x y:Operand} {T U:TypeId} {k:IntKind} {a b:Int} (hx:ev ρ x=.int k a) (hy:ev ρ y=.int k b):QT P base ⟨dst,.binOp .geq T x y U,t,p,af,g⟩ ρ O (.bool (decide (b≤a))):=fun w _=>by
 simp[execOp,hx,hy,eqGuard,binOp,Op.intCmp]
theorem bM {x y:Operand} {T U:TypeId} {k:IntKind} {a b:Int} (hx:ev ρ x=.int k a) (hy:ev ρ y=.int k b):QT P base ⟨dst,.binOp .eql T x y U,t,p,af,g⟩ ρ O (.bool (decide (a=b))):=fun w _=>by
 simp[execOp,hx,hy,eqGuard,binOp,Op.intCmp];rfl
theorem dP {x y:Operand} {T U:TypeId} {k:IntKind} {a b:Int} (hx:ev ρ x=.int k a) (hy:ev ρ y=.int k b):QT P base ⟨dst,.binOp .neq T x y U,t,p,af,g⟩ ρ O (.bool (decide (a≠b))):=fun w _=>by
 simp[execOp,hx,hy,eqGuard,binOp,Op.intCmp,bne];rfl
theorem UI {x y:Operand} {T U:TypeId} {k:IntKind} {a b:Int} (hx:ev ρ x=.int k a) (hy:ev ρ y=.int k b):QT P base ⟨dst,.binOp .add T x y U,t,p,af,g⟩ ρ O (.int k (k.wrap (a+b))):=fun w _=>by
 simp[execOp,hx,hy,eqGuard,binOp,Op.intArith]
theorem Pj {x y:Operand} {T U:TypeId} {k:IntKind} {a b:Int} (hx:ev ρ x=.int k a) (hy:ev ρ y=.int k b):QT P base ⟨dst,.binOp .sub T x y U,t,p,af,g⟩ ρ O (.int k (k.wrap (a-b))):=fun w _=>by
 simp[execOp,hx,hy,eqGuard,binOp,Op.intArith]
theorem gO {n:Int} (h: -9223372036854775808≤n∧n≤9223372036854775807):IntKind.i64.wrap n=n:=IntWalk.i64_in n h
theorem dK {x y:Operand} {T U:TypeId} {a b:Int} (hx:ev ρ x=.int .i64 a) (hy:ev ρ y=.int .i64 b) (h: -9223372036854775808≤a+b∧a+b≤9223372036854775807):
  QT P base ⟨dst,.binOp .add T x y U,t,p,af,g⟩ ρ O (.int .i64 (a+b)):=by have:=UI (P:=P) (base:=base) (O:=O) (dst:=dst) (t:=t) (p:=p) (af:=af) (g:=g) (T:=T) (U:=U) hx hy;rwa[gO h]at this
theorem fL {x y:Operand} {T U:TypeId} {a b:Int} (hx:ev ρ x=.int .i64 a) (hy:ev ρ y=.int .i64 b) (h: -9223372036854775808≤a-b∧a-b≤9223372036854775807):
  QT P base ⟨dst,.binOp .sub T x y U,t,p,af,g⟩ ρ O (.int .i64 (a-b)):=by have:=Pj (P:=P) (base:=base) (O:=O) (dst:=dst) (t:=t) (p:=p) (af:=af) (g:=g) (T:=T) (U:=U) hx hy;rwa[gO h]at this
theorem kp {x y:Operand} {T U:TypeId} {a:Nat} (hx:ev ρ x=.int .i64 (a:Int)) (hy:ev ρ y=.int .i64 1) (h:a<9223372036854775807):
  QT P base ⟨dst,.binOp .add T x y U,t,p,af,g⟩ ρ O (.int .i64 ((a+1:Nat):Int)):=by
 have:=dK (P:=P) (base:=base) (O:=O) (dst:=dst) (t:=t) (p:=p) (af:=af) (g:=g) (T:=T) (U:=U) hx hy (by omega);rwa[←Int.natCast_succ]at this
theorem i_ {x:Operand} {T:TypeId} {b:Bool} (hx:ev ρ x=.bool b):QT P base ⟨dst,.unOp .not T x,t,p,af,g⟩ ρ O (.bool !b):=fun w _=>by
 simp[execOp,hx,Op.unary]
theorem I8 {x y:Operand} {T U:TypeId} {a b:Bool} (hu:P.underlying T=some .bool) (hx:ev ρ x=.bool a) (hy:ev ρ y=.bool b):QT P base ⟨dst,.binOp .neq T x y U,t,p,af,g⟩ ρ O (.bool (a !=b)):=fun w _=>by
 simp[execOp,hx,hy,eqGuard,binOp,run_equal_bool hu,bne]
theorem I9 {x:Operand} {S D:TypeId} {ds:TypeDesc} {k k':IntKind} {a:Int} (hs:P.underlying S=some ds) (hd:P.underlying D=some (.int k)) (hx:ev ρ x=.int k' a):
  QT P base ⟨dst,.convert S D x,t,p,af,g⟩ ρ O (.int k (k.wrap a)):=fun w _=>by
 simp[execOp,hx,convert,bH hs,bH hd,Conv.intToInt]
theorem fS {x:Operand} {S D:TypeId} {ds:TypeDesc} {k k':IntKind} {a:Int} (hs:P.underlying S=some ds) (hd:P.underlying D=some (.int k)) (hx:ev ρ x=.int k' a) (hw:k.wrap a=a):
  QT P base ⟨dst,.convert S D x,t,p,af,g⟩ ρ O (.int k a):=by have:=I9 (P:=P) (base:=base) (O:=O) (dst:=dst) (t:=t) (p:=p) (af:=af) (g:=g) hs hd hx;rwa[hw]at this
theorem cP {x:Operand} {T:TypeId} {E:TypeId} {b:Option Addr} {n c:Nat} (hu:P.underlying T=some (.slice E)) (hx:ev ρ x=.slice b n c):
  QT P base ⟨dst,.call ⟨.builtin .len,#[x],#[T]⟩,t,p,af,g⟩ ρ O (.int .i64 (n:Int)):=fun w _=>by
 simp[execOp,resolve,hx,invoke,builtin,Builtin.len_,bH hu,goInt]
theorem bG {x:Operand} {i:Nat} {vs:List Value} {v:Value} (hx:ev ρ x=.tuple vs.toArray) (hv:vs[i]? =some v):QT P base ⟨dst,.extract x i,t,p,af,g⟩ ρ O v:=fun w _=>by
 simp[execOp,hx,Instr.extract,hv]
theorem e8 {fn:Fn} {first captured:List Operand}:QT P base ⟨dst,.makeFunc fn first.toArray captured.toArray,t,p,af,g⟩ ρ O (.func fn (G_ ρ first).toArray (G_ ρ captured).toArray):=fun w _=>by
 simp[execOp,Instr.makeFunc,I3]
theorem bj {x:Operand} {S:TypeId} {fs:Array Field} {i:Nat} {f:Field} {b o:Nat} {z:Value} {s gN:Nat} (hu:P.underlying S=some (.struct fs)) (hf:fs[i]? =some f) (hi:fK P f.type z s gN) (hs:(s==0)=false)
  (hx:ev ρ x=.pointer (some ⟨b,o,none⟩)):QT P base ⟨dst,.fieldAddr S x i,t,p,af,g⟩ ρ O (.pointer (some ⟨b,o+f.offset,none⟩)):=fun w _=>by
 have QZ:s≠0:=by simpa using hs
 simp[execOp,hx,Instr.fieldAt,bH hu,hf,Instr.sureAddr,fieldPlace,bZ hi,QZ,Addr.add]
 try (intro h;simp[h])
theorem uY {x y:Operand} {T E:TypeId} {b o n c i:Nat} {k:IntKind} {z:Value} {s gN:Nat} (hu:P.underlying T=some (.slice E)) (hi:fK P E z s gN) (hx:ev ρ x=.slice (some ⟨b,o,none⟩) n c) (hy:ev ρ y=.int k (i:Int)) (gn:i<n):
  QT P base ⟨dst,.indexAddr T x y,t,p,af,g⟩ ρ O (.pointer (some ⟨b,o+i*s,none⟩)):=fun w _=>by
 have h2:(i:Int)<(n:Int):=by omega
 simp[execOp,hx,hy,Instr.indexAt,asIntOf,bH hu,gn,bZ hi,Addr.add]
 try (intro h;rcases h with h|h<;>simp[h])
theorem p9 {x:Operand} {T:TypeId} {d:TypeDesc} {b o:Nat} {v:Value} (hu:P.underlying T=some d) (ha:o4 d=false) (hx:ev ρ x=.pointer (some ⟨b,o,none⟩))
  (hc: ∀w,Inv base O w→w.cell? ⟨b,o,none⟩=some v):QT P base ⟨dst,.load T x,t,p,af,g⟩ ρ O v:=fun w hI=>by
 simp[execOp,hx,Instr.loadAt,Instr.sureAddr,loadVar,jg hu,ha,hc w hI]
theorem lN {P:Program} {w:World} {a:Addr}: ∀(cs:List Value) (i:Nat) (iI:Array Value),(∀j (h:j<cs.length),w.cell? (a.add (i+j))=some cs[j])→
  (loadCellsFrom a i cs.length iI).run P w=.ok (iI++cs.toArray) w
 | [],i,iI,_=>by simp[loadCellsFrom]
 |v::cs,i,iI,h=>by
  have h0:w.cell? (a.add i)=some v:=h 0 (by simp)
  have ih:=lN (P:=P) cs (i+1) (iI.push v) (fun j hj=>by have:=h (j+1) (by simp;omega);simpa[Nat.add_assoc,Nat.add_comm 1 j]using this)
  simp only[bL,loadCellsFrom,Sem.run_bind,run_load,h0,Result.andThen_ok,ih]
  simp
theorem wX {x:Operand} {T:TypeId} {d:TypeDesc} {b o:Nat} {cs:List Value} {z:Value} {s gN:Nat} (hu:P.underlying T=some d) (ha:o4 d=true) (hi:fK P T z s gN) (hx:ev ρ x=.pointer (some ⟨b,o,none⟩)) (hl:cs.length=s)
  (hc: ∀w,Inv base O w→ ∀j (h:j<cs.length),w.cell? ⟨b,o+j,none⟩=some cs[j]):QT P base ⟨dst,.load T x,t,p,af,g⟩ ρ O (.agg cs.toArray):=fun w hI=>by
 have h:=lN (P:=P) (w:=w) (a:=⟨b,o,none⟩) cs 0 #[] (fun j hj=>by
  have:=hc w hI j hj
  simp only[Nat.zero_add,Addr.add]
  split<;>rename_i e
  ·subst e;simpa using this
  ·exact this)
 simp[execOp,hx,Instr.loadAt,Instr.sureAddr,loadVar,jg hu,ha,bZ hi,loadCells,←hl,h]
end
def Sl (w:World) (b:Option Addr) (cs:List Value):Prop:= ∀i (h:i<cs.length),∃a,b=some a∧a.spot=none∧w.cell? ⟨a.block,a.off+i,none⟩=some cs[i]
theorem Sl.nil (w:World) (b:Option Addr):Sl w b []:=fun i h=>by simp at h
theorem Sl.keep {w w':World} {b:Option Addr} {cs:List Value} (h:Sl w b cs) (hb: ∀k,k<w.heap.size→w'.heap[k]? =w.heap[k]?):Sl w' b cs:=fun i hi=>by
 obtain⟨a,h1,h2,h3⟩:=h i hi
 refine⟨a,h1,h2,?_⟩
 have gn:=World.block_lt_of_cell? _ _ h3
 unfold World.cell? at h3⊢
 rw[hb _ gn]
 exact h3
theorem Sl.below {w w':World} {b:Option Addr} {cs:List Value} (h:Sl w b cs) (hb:Below w.heap.size w w'):Sl w' b cs:=h.keep hb.block
theorem Inv.sl {base:World} {O:List Item} {w:World} (hI:Inv base O w) {b:Option Addr} {cs:List Value} (h:Sl base b cs):Sl w b cs:=h.below hI.below
theorem Sl.addr {w:World} {b:Option Addr} {cs:List Value} (h:Sl w b cs) {i:Nat} (hi:i<cs.length): ∃k o,b=some ⟨k,o,none⟩:=by
 obtain⟨⟨k,o,s⟩,h1,h2,_⟩:=h i hi
 simp only at h2;subst h2
 exact⟨k,o,h1⟩
theorem Sl.get {w:World} {k o:Nat} {cs:List Value} (h:Sl w (some ⟨k,o,none⟩) cs) {i:Nat} {v:Value} (hv:cs[i]? =some v):w.cell? ⟨k,o+i,none⟩=some v:=by
 obtain⟨hi,e⟩:=List.getElem?_eq_some_iff.1 hv
 obtain⟨a,h1,_,h3⟩:=h i hi
 cases h1
 rw[h3,e]
def rowP (b:Option Addr) (c:Nat) (T:TypeId) (k:Nat) (cs:List Value) (w:World):Prop:=
 match b with
 |none=>cs=[]∧c=0
 |some a=>a.spot=none∧ ∃full,w.heap[a.block]? =some (.cells full T (0,0))∧cs.length≤c*k∧a.off+c*k≤full.size∧ ∀i (h:i<cs.length),full[a.off+i]? =some cs[i]
def aq (b:Option Addr) (c:Nat) (T:TypeId) (k:Nat) (cs:List Value):Item where
 blocks:=match b with|none=>[]|some a=>[a.block]
 P:=rowP b c T k cs
 loc:=fun w w' h hp=>by
  cases b with
  |none=>exact hp
  |some a=>
   obtain⟨h1,full,h2,h3⟩:=hp
   exact⟨h1,full,(h a.block (by simp)).trans h2,h3⟩
theorem rowP.sl {b:Option Addr} {c:Nat} {T:TypeId} {k:Nat} {cs:List Value} {w:World} (h:rowP b c T k cs w):Sl w b cs:=fun i hi=>by
 cases b with
 |none=>rw[h.1]at hi;simp at hi
 |some a=>
  obtain⟨h1,full,h2,_,_,h5⟩:=h
  refine⟨a,rfl,h1,?_⟩
  unfold World.cell?
  simp[h2,h5 i hi]
theorem Inv.row {base:World} {O:List Item} {w:World} (hI:Inv base O w) {i:Nat} {b:Option Addr} {c:Nat} {T:TypeId} {k:Nat} {cs:List Value} (h:O[i]? =some (aq b c T k cs)):rowP b c T k cs w:=
 hI.holds _ (bS h)
theorem Inv.uZ {base:World} {O:List Item} {w:World} (hI:Inv base O w) {i:Nat} {b:Nat} {o:Obj} (h:O[i]? =some (dR b o)):w.heap[b]? =some o:=
 hI.holds _ (bS h)
section
variable {P:Program} {base:World} {ρ:Env} {O:List Item} {dst:Option Nat} {t:TypeId} {p:String} {af:Array Edge} {g:Option (Nat×Bool)}
theorem bn (i:Nat) {x:Operand} {T E:TypeId} {d:TypeDesc} {b o:Nat} {cs:List Value} {fr:Nat×Nat} {v:Value} (hu:P.underlying T=some d) (ha:o4 d=false) (hx:ev ρ x=.pointer (some ⟨b,o,none⟩))
  (hO:O[i]? =some (dR b (.cells cs.toArray E fr))) (hv:cs[o]? =some v):QT P base ⟨dst,.load T x,t,p,af,g⟩ ρ O v:=
 p9 hu ha hx fun w hI=>by have:=hI.uZ hO;unfold World.cell?;simp[this,hv]
theorem ew (i:Nat) {x:Operand} {T E:TypeId} {d:TypeDesc} {b:Nat} {cs:List Value} {fr:Nat×Nat} {z:Value} {s gN:Nat} (hu:P.underlying T=some d) (ha:o4 d=true) (hi:fK P T z s gN) (hx:ev ρ x=.pointer (some ⟨b,0,none⟩)) (hl:cs.length=s)
  (hO:O[i]? =some (dR b (.cells cs.toArray E fr))):QT P base ⟨dst,.load T x,t,p,af,g⟩ ρ O (.agg cs.toArray):=
 wX hu ha hi hx hl fun w hI j hj=>by have:=hI.uZ hO;unfold World.cell?;simp[this]
theorem mC {x:Operand} {T:TypeId} {d:TypeDesc} {b o i:Nat} {cs:List Value} {v:Value} (hu:P.underlying T=some d) (ha:o4 d=false) (hx:ev ρ x=.pointer (some ⟨b,o+i,none⟩))
  (hs:Sl base (some ⟨b,o,none⟩) cs) (hv:cs[i]? =some v):QT P base ⟨dst,.load T x,t,p,af,g⟩ ρ O v:=
 p9 hu ha hx fun _ hI=>(hI.sl hs).get hv
end
end Go.Lx

