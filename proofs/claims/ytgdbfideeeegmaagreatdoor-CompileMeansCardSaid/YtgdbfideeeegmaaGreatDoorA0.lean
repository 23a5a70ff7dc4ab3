/- Contracts of functions; conditions: those each theorem names. -/
import Derived.WalkKit
import Derived.Below
import Derived.Orders
import Derived.Calls
import Derived.Control
import Derived.RangeFuncNested
import Derived.TacticsIn
import Derived.OrdersIn
import Derived.Lib.ItoaNum
set_option linter.unusedSectionVars false
set_option linter.unusedSimpArgs false
set_option linter.unusedVariables false
set_option linter.unnecessarySimpa false
set_option maxHeartbeats 8000000
set_option maxRecDepth 20000
theorem Go.Lx.F {α:Sort _} {a:α}:a=a:=rfl
theorem dv:type_of% @Array.getD_eq_getD_getElem?:=@Array.getD_eq_getD_getElem?
theorem ay:type_of% @Bool.and_eq_true:=@Bool.and_eq_true
theorem dB:type_of% @Bool.eq_iff_iff:=@Bool.eq_iff_iff
theorem cM:type_of% @Int.toNat_of_nonneg:=@Int.toNat_of_nonneg
theorem aY:type_of% @List.Sublist.refl:=@List.Sublist.refl
theorem fJ:type_of% @List.all_eq_true:=@List.all_eq_true
theorem cY:type_of% @List.any_eq_true:=@List.any_eq_true
theorem a6:type_of% @List.append_assoc:=@List.append_assoc
theorem c_:type_of% @List.append_nil:=@List.append_nil
theorem cF:type_of% @List.cons_append:=@List.cons_append
theorem cO:type_of% @List.foldl_append:=@List.foldl_append
theorem cP:type_of% @List.foldl_cons:=@List.foldl_cons
theorem az:type_of% @List.getD_eq_getElem?_getD:=@List.getD_eq_getElem?_getD
theorem bE:type_of% @List.getElem?_append_left:=@List.getElem?_append_left
theorem bM:type_of% @List.getElem?_append_right:=@List.getElem?_append_right
theorem ap:type_of% @List.getElem?_eq_getElem:=@List.getElem?_eq_getElem
theorem bY:type_of% @List.getElem?_eq_none:=@List.getElem?_eq_none
theorem bi:type_of% @List.getElem?_map:=@List.getElem?_map
theorem iy:type_of% @List.getElem_append_left:=@List.getElem_append_left
theorem jv:type_of% @List.getElem_map:=@List.getElem_map
theorem aN:type_of% @List.getElem_mem:=@List.getElem_mem
theorem aP:type_of% @List.length_append:=@List.length_append
theorem bG:type_of% @List.length_cons:=@List.length_cons
theorem ar:type_of% @List.length_map:=@List.length_map
theorem dl:type_of% @List.length_nil:=@List.length_nil
theorem g_:type_of% @List.length_range:=@List.length_range
theorem jd:type_of% @List.length_replicate:=@List.length_replicate
theorem eE:type_of% @List.length_set:=@List.length_set
theorem cw:type_of% @List.length_take:=@List.length_take
theorem bj:type_of% @List.map_append:=@List.map_append
theorem cD:type_of% @List.map_cons:=@List.map_cons
theorem fV:type_of% @List.map_nil:=@List.map_nil
theorem gR:type_of% @List.mem_append:=@List.mem_append
theorem aO:type_of% @List.mem_append_left:=@List.mem_append_left
theorem ao:type_of% @List.mem_append_right:=@List.mem_append_right
theorem dm:type_of% @List.mem_cons:=@List.mem_cons
theorem iF:type_of% @List.mem_map:=@List.mem_map
theorem bJ:type_of% @List.mem_of_getElem?:=@List.mem_of_getElem?
theorem e_:type_of% @List.mem_range:=@List.mem_range
theorem da:type_of% @List.mem_singleton:=@List.mem_singleton
theorem du:type_of% @List.nil_append:=@List.nil_append
theorem cr:type_of% @List.nil_sublist:=@List.nil_sublist
theorem jV:type_of% @List.set_cons_succ:=@List.set_cons_succ
theorem jU:type_of% @List.set_cons_zero:=@List.set_cons_zero
theorem br:type_of% @List.take_of_length_le:=@List.take_of_length_le
theorem aH:type_of% @List.take_succ_eq_append_getElem:=@List.take_succ_eq_append_getElem
theorem aS:type_of% @Nat.le_refl:=@Nat.le_refl
theorem bo:type_of% @Nat.le_trans:=@Nat.le_trans
theorem jW:type_of% @Nat.lt_of_le_of_lt:=@Nat.lt_of_le_of_lt
theorem eG:type_of% @Nat.lt_of_lt_of_le:=@Nat.lt_of_lt_of_le
theorem bV:type_of% @Nat.pow_le_pow_right:=@Nat.pow_le_pow_right
theorem fL:type_of% @Nat.sub_self:=@Nat.sub_self
theorem bu:type_of% @Nat.succ_pos:=@Nat.succ_pos
theorem bl:type_of% @Nat.zero_le:=@Nat.zero_le
theorem db:type_of% @Option.some.inj:=@Option.some.inj
theorem au:type_of% @congrArg:=@congrArg
theorem am:type_of% @decide_eq_false:=@decide_eq_false
theorem ax:type_of% @decide_eq_true:=@decide_eq_true
theorem bT:type_of% @decide_eq_true_eq:=@decide_eq_true_eq
theorem aA:type_of% @if_neg:=@if_neg
theorem aJ:type_of% @if_pos:=@if_pos
namespace Go.Lx
open Go.RowKit
abbrev Env:=Nat→Value
def pE (ρ:Env) (d:Nat) (v:Value):Env:=fun t=>match Nat.beq t d with
 |true=>v
 |false=>ρ t
def ev (ρ:Env):Operand→Value
 | .tmp t=>ρ t
 | .const v=>v
 | .global g=>.pointer (some ⟨g,0,none⟩)
 | .func f=>.func (.func f) #[] #[]
def IS (ρ:Env):List Operand→List Value
 | []=>[]
 |x::l=>ev ρ x::IS ρ l
theorem K4 (ρ:Env) (l:List Operand):IS ρ l=l.map (ev ρ):=by
 induction l with
 |nil=>rfl
 |cons x l ih=>simp[IS,ih]
structure Ag (n:Nat) (ds:List Deferred) (a:Act) (ρ:Env):Prop where
 tmp: ∀t,a.tmps.getD t undef=ρ t
 size:a.tmps.size=n
 defers:a.defers=ds
theorem Ag.eval {n:Nat} {ds:List Deferred} {a:Act} {ρ:Env} (h:Ag n ds a ρ):a.eval=ev ρ:=by
 funext x
 cases x with
 |tmp t=>exact h.tmp t
 |_=>rfl
theorem Ag.put {n:Nat} {ds:List Deferred} {a:Act} {ρ:Env} (h:Ag n ds a ρ) {d:Nat} (hd:Nat.blt d n=true) (v:Value):Ag n ds (a.put (some d) v) (pE ρ d v):=by
 have hd':d<a.tmps.size:=by rw[h.size];rw[Nat.blt_eq]at hd;exact hd
 refine⟨fun t=>?_,by simp[Act.put,h.size],by simp[Act.put,h.defers]⟩
 have ht:=h.tmp t
 simp only[Act.put,pE]
 by_cases e:t=d
 ·subst e
  have hb:Nat.beq t t=true:=Nat.beq_refl t
  rw[hb]
  simp[dv,hd']
 ·have hb:Nat.beq t d=false:=by
   rcases h':Nat.beq t d with _|_
   ·rfl
   ·exact absurd (Nat.eq_of_beq_eq_true h') e
  rw[hb]
  simp only[dv]at ht⊢
  rw[Array.getElem?_setIfInBounds_ne (Ne.symm e)]
  exact ht
structure Item where
 blocks:List Nat
 P:World→Prop
 loc: ∀w w':World,(∀b∈blocks,w'.heap[b]? =w.heap[b]?)→P w→P w'
def dY (b:Nat) (o:Obj):Item:=⟨[b],fun w=>w.heap[b]? =some o,fun w w' h hp=>by rw[h b (by simp)];exact hp⟩
abbrev oI (b:Nat) (T:TypeId) (cs:List Value):Item:=dY b (.cells cs.toArray T (0,0))
structure Inv (base:World) (O:List Item) (w:World):Prop where
 below:Below base.heap.size base w
 holds: ∀it∈O,it.P w
 fresh: ∀it∈O,∀b∈it.blocks,base.heap.size≤b∧b<w.heap.size
 nodup:(O.flatMap Item.blocks).Nodup
theorem Inv.refl (w:World):Inv w [] w:=⟨Below.refl _ _,by simp,by simp,by simp⟩
theorem Inv.same {base:World} {O:List Item} {w w':World} (h:Inv base O w) (hh:w'.heap=w.heap) (ho:w'.os=w.os) (ht:w'.tape=w.tape) (hp:w'.output=w.output):Inv base O w':=by
 refine⟨⟨ho.trans h.below.os,ht.trans h.below.tape,hp.trans h.below.output,by rw[hh];exact h.below.size,fun k hk=>by rw[hh];exact h.below.block k hk⟩,fun it hi=>it.loc w w' (fun b _=>by rw[hh]) (h.holds it hi),fun it hi b hb=>by rw[hh];exact h.fresh it hi b hb,h.nodup⟩
theorem Inv.drew {base:World} {O:List Item} {w:World} (h:Inv base O w):Inv base O w.drew:=h.same rfl rfl rfl rfl
theorem Inv.drawn {base:World} {O:List Item} {w:World} (h:Inv base O w) (n:Nat):Inv base O {w with drawn:=n}:=h.same rfl rfl rfl rfl
theorem wJ {O O':List Item} (h:O'.Sublist O):(O'.flatMap Item.blocks).Sublist (O.flatMap Item.blocks):=by
 induction h with
 |slnil=>exact aY _
 |cons a _ ih=>exact ih.trans (by simp[List.flatMap_cons])
 |cons_cons a _ ih=>simp only[List.flatMap_cons];exact(aY _).append ih
theorem Inv.sub {base:World} {O O':List Item} {w:World} (h:Inv base O w) (hs:O'.Sublist O):Inv base O' w:=
 ⟨h.below,fun it hi=>h.holds it (hs.subset hi),fun it hi=>h.fresh it (hs.subset hi),(wJ hs).nodup h.nodup⟩
theorem Inv.perm {base:World} {O O':List Item} {w:World} (h:Inv base O w) (hs:O'.Perm O):Inv base O' w:=
 ⟨h.below,fun it hi=>h.holds it (hs.mem_iff.1 hi),fun it hi=>h.fresh it (hs.mem_iff.1 hi),((hs.flatMap_right Item.blocks).nodup_iff).2 h.nodup⟩
def Sub (O' O:List Item):Prop:= ∃l,O'.Perm l∧l.Sublist O
theorem ck {O' O:List Item} (h:O'.Sublist O):Sub O' O:=⟨O',List.Perm.refl _,h⟩
theorem Inv.kN {base:World} {O O':List Item} {w:World} (h:Inv base O w) (hs:Sub O' O):Inv base O' w:=by
 obtain⟨l,hp,zJ⟩:=hs
 exact(h.sub zJ).perm hp
theorem Inv.call {base:World} {O O':List Item} {w w':World} (h:Inv base O w) (h':Inv w O' w'):Inv base (O'++O) w':=by
 have XL: ∀b,b<w.heap.size→w'.heap[b]? =w.heap[b]? :=h'.below.block
 refine⟨?_,?_,?_,?_⟩
 ·exact h.below.trans (h'.below.mono h.below.size)
 ·intro it hi
  rcases List.mem_append.1 hi with hi|hi
  ·exact h'.holds it hi
  ·exact it.loc w w' (fun b hb=>XL b (h.fresh it hi b hb).2) (h.holds it hi)
 ·intro it hi b hb
  rcases List.mem_append.1 hi with hi|hi
  ·have:=h'.fresh it hi b hb
   exact⟨bo h.below.size this.1,this.2⟩
  ·have:=h.fresh it hi b hb
   exact⟨this.1,eG this.2 h'.below.size⟩
 ·rw[List.flatMap_append,List.nodup_append]
  refine⟨h'.nodup,h.nodup,fun x hx y hy e=>?_⟩
  obtain⟨i,hi,PB⟩:=List.mem_flatMap.1 hx
  obtain⟨j,hj,XM⟩:=List.mem_flatMap.1 hy
  have h1:=(h'.fresh i hi x PB).1
  have h2:=(h.fresh j hj y XM).2
  omega
theorem Inv.step {base:World} {A B N:List Item} {it:Item} {w w':World} (h:Inv base (A++it::B) w)
  (ho:w'.os=w.os) (ht:w'.tape=w.tape) (hp:w'.output=w.output) (hs:w.heap.size≤w'.heap.size)
  (hb: ∀b,b<w.heap.size→b∉it.blocks→w'.heap[b]? =w.heap[b]?)
  (hN: ∀x∈N,x.P w') (hf: ∀x∈N,∀b∈x.blocks,b∈it.blocks∨(w.heap.size≤b∧b<w'.heap.size)) (hn:(N.flatMap Item.blocks).Nodup):
  Inv base (A++N++B) w':=by
 have sd: ∀x∈A++B,x∈A++it::B:=fun x hx=>by
  rcases List.mem_append.1 hx with h|h<;>simp[h]
 have lZ:(A.flatMap Item.blocks++(it.blocks++B.flatMap Item.blocks)).Nodup:=by
  have:=h.nodup;simpa[List.flatMap_append,List.flatMap_cons]using this
 have TH: ∀x∈A++B,∀b∈x.blocks,b∉it.blocks:=by
  intro x hx b hb hi
  rw[List.nodup_append]at lZ
  obtain⟨_,h2,h3⟩:=lZ
  rw[List.nodup_append]at h2
  rcases List.mem_append.1 hx with hx|hx
  ·exact h3 b (List.mem_flatMap.2 ⟨x,hx,hb⟩) b (List.mem_append.2 (.inl hi)) rfl
  ·exact h2.2.2 b hi b (List.mem_flatMap.2 ⟨x,hx,hb⟩) rfl
 have TI: ∀b∈it.blocks,base.heap.size≤b∧b<w.heap.size:=h.fresh it (by simp)
 refine⟨?_,?_,?_,?_⟩
 ·refine⟨ho.trans h.below.os,ht.trans h.below.tape,hp.trans h.below.output,bo h.below.size hs,fun k hk=>?_⟩
  rw[hb k (eG hk h.below.size) (fun hi=>by have:=(TI k hi).1;omega)]
  exact h.below.block k hk
 ·intro x hx
  rcases List.mem_append.1 hx with hx|hx
  ·rcases List.mem_append.1 hx with hx|hx
   ·have tK:x∈A++B:=by simp[hx]
    exact x.loc w w' (fun b zm=>hb b (h.fresh x (sd x tK) b zm).2 (TH x tK b zm)) (h.holds x (sd x tK))
   ·exact hN x hx
  ·have tK:x∈A++B:=by simp[hx]
   exact x.loc w w' (fun b zm=>hb b (h.fresh x (sd x tK) b zm).2 (TH x tK b zm)) (h.holds x (sd x tK))
 ·intro x hx b zm
  rcases List.mem_append.1 hx with hx|hx
  ·rcases List.mem_append.1 hx with hx|hx
   ·have tK:x∈A++B:=by simp[hx]
    have:=h.fresh x (sd x tK) b zm
    exact⟨this.1,eG this.2 hs⟩
   ·rcases hf x hx b zm with h1|h1
    ·exact⟨(TI b h1).1,eG (TI b h1).2 hs⟩
    ·exact⟨bo h.below.size h1.1,h1.2⟩
  ·have tK:x∈A++B:=by simp[hx]
   have:=h.fresh x (sd x tK) b zm
   exact⟨this.1,eG this.2 hs⟩
 ·have R3: ∀x∈A++B,∀b∈x.blocks,∀y∈N,b∉y.blocks:=by
   intro x hx b zm y hy R4
   rcases hf y hy b R4 with h1|h1
   ·exact TH x hx b zm h1
   ·have:=(h.fresh x (sd x hx) b zm).2;omega
  simp only[List.flatMap_append]
  rw[List.nodup_append]at lZ
  obtain⟨h1,h2,h3⟩:=lZ
  rw[List.nodup_append]at h2
  obtain⟨_,h5,_⟩:=h2
  rw[List.nodup_append]
  refine⟨?_,h5,?_⟩
  ·rw[List.nodup_append]
   refine⟨h1,hn,fun x hx y hy e=>?_⟩
   subst e
   obtain⟨i,hi,PB⟩:=List.mem_flatMap.1 hx
   obtain⟨j,hj,XM⟩:=List.mem_flatMap.1 hy
   exact R3 i (by simp[hi]) x PB j hj XM
  ·intro x hx y hy e
   subst e
   rcases List.mem_append.1 hx with hx|hx
   ·exact h3 x hx x (List.mem_append.2 (.inr hy)) rfl
   ·obtain⟨i,hi,PB⟩:=List.mem_flatMap.1 hx
    obtain⟨j,hj,XM⟩:=List.mem_flatMap.1 hy
    exact R3 j (by simp[hj]) x XM i hi PB
theorem CL {O:List Item} {i:Nat} {it:Item} (h:O[i]? =some it): ∃A B,O=A++it::B∧ ∀x,O.set i x=A++x::B:=by
 induction O generalizing i with
 |nil=>simp at h
 |cons y O ih=>
  cases i with
  |zero=>simp at h;subst h;exact⟨[],O,rfl,fun x=>rfl⟩
  |succ i=>
   obtain⟨A,B,e,K5⟩:=ih (i:=i) (by simpa using h)
   exact⟨y::A,B,by rw[e];rfl,fun x=>by simp[K5 x]⟩
theorem Inv.sE {base:World} {O:List Item} {i:Nat} {it TJ:Item} {w w':World} (h:Inv base O w) (hi:O[i]? =some it)
  (ho:w'.os=w.os) (ht:w'.tape=w.tape) (hp:w'.output=w.output) (hs:w.heap.size≤w'.heap.size)
  (hb: ∀b,b<w.heap.size→b∉it.blocks→w'.heap[b]? =w.heap[b]?)
  (hN:TJ.P w') (hf: ∀b∈TJ.blocks,b∈it.blocks∨(w.heap.size≤b∧b<w'.heap.size)) (hn:TJ.blocks.Nodup):
  Inv base (O.set i TJ) w':=by
 obtain⟨A,B,e,K5⟩:=CL hi
 subst e
 rw[K5 TJ]
 have:=Inv.step (N:=[TJ]) h ho ht hp hs hb (by simpa using hN) (by simpa using hf) (by simpa using hn)
 simpa using this
theorem Inv.new {base:World} {O N:List Item} {w w':World} (h:Inv base O w)
  (ho:w'.os=w.os) (ht:w'.tape=w.tape) (hp:w'.output=w.output) (hs:w.heap.size≤w'.heap.size)
  (hb: ∀b,b<w.heap.size→w'.heap[b]? =w.heap[b]?)
  (hN: ∀x∈N,x.P w') (hf: ∀x∈N,∀b∈x.blocks,w.heap.size≤b∧b<w'.heap.size) (hn:(N.flatMap Item.blocks).Nodup):
  Inv base (N++O) w':=
 h.call ⟨⟨ho,ht,hp,hs,hb⟩,hN,hf,hn⟩
theorem Inv.alloc {base:World} {O:List Item} {w:World} (h:Inv base O w) (o:Obj):Inv base (dY w.heap.size o::O) (w.alloc o):=by
 refine Inv.new (N:=[dY w.heap.size o]) h rfl rfl rfl (by simp) (fun b hb=>Below.heap_alloc w o b hb) ?_ ?_ ?_
 ·intro x hx
  simp at hx;subst hx
  show(w.heap.push o)[w.heap.size]? =some o
  simp
 ·intro x hx b hb
  simp at hx;subst hx
  simp[dY]at hb;subst hb
  simp
 ·simp[dY]
def Fr (r:Option Nat):Fence:= {Fence.wide with round:=r}
def XN (b:Nat):Deferred:= {target:=.collected b,args:= #[]}
def vV (b:Nat):Item:=dY b (.deferred (some []))
abbrev mD (D:List Nat):List Deferred:=D.map XN
abbrev mI (D:List Nat):List Item:=D.map vV
def MOk:Option Nat→List Item→Prop
 |none,_=>True
 |some l,M=> ∃it∈M,∀w,it.P w→ ∃rc,w.heap[l]? =some (.loop rc)
abbrev ll:=Exit→Env→List Item→Prop
def lift (base:World) (n:Nat) (M:List Item) (Q:ll):Exit→Act→World→Prop:=fun e a w=> ∃ρ O D,Ag n (mD D) a ρ∧Inv base (O++(mI D++M)) w∧Q e ρ O
def T (P:Program) (r:Option Nat) (base:World) (n:Nat) (c:Code) (Q:ll) (ρ:Env) (O:List Item):Prop:=
 ∀a w M D,MOk r M→Ag n (mD D) a ρ→Inv base (O++(mI D++M)) w→c.wpIn (Fr r) 0 P (lift base n M Q) a w
def K6 (K:Env→List Item→Prop) (Q:ll):ll
 | .normal,ρ,O=>K ρ O
 |e,ρ,O=>Q e ρ O
def inB (id:Nat) (Q:ll):ll
 | .exit W9,ρ,O=>match Nat.beq W9 id with
  |true=>Q .normal ρ O
  |false=>Q (.exit W9) ρ O
 |e,ρ,O=>Q e ρ O
section XO
variable {P:Program} {r:Option Nat} {base:World} {n:Nat} {Q:ll} {ρ:Env} {O:List Item}
theorem T.mono {c:Code} {Q':ll} (h:T P r base n c Q ρ O) (hq: ∀e ρ O,Q e ρ O→Q' e ρ O):T P r base n c Q' ρ O:=
 fun a w M D hM ha hi=>wpIn_mono (h a w M D hM ha hi) (fun e _ _ ⟨ρ,O,D,h1,h2,h3⟩=>⟨ρ,O,D,h1,h2,hq e ρ O h3⟩)
theorem aL (h:Q .normal ρ O):T P r base n .skip Q ρ O:=fun _ _ _ D _ ha hi=>wpIn_skip ⟨ρ,O,D,ha,hi,h⟩
theorem T.label {l:Nat} (h:Q .normal ρ O):T P r base n (.label l) Q ρ O:=fun _ _ _ D _ ha hi=>wpIn_label ⟨ρ,O,D,ha,hi,h⟩
theorem cG {id:Nat} (h:Q (.exit id) ρ O):T P r base n (.exit id) Q ρ O:=fun _ _ _ D _ ha hi=>wpIn_exit ⟨ρ,O,D,ha,hi,h⟩
theorem aM (h:Q .ret ρ O):T P r base n .ret Q ρ O:=fun _ _ _ D _ ha hi=>wpIn_ret ⟨ρ,O,D,ha,hi,h⟩
theorem aR {x y:Code} (h:T P r base n x (K6 (fun ρ O=>T P r base n y Q ρ O) Q) ρ O):T P r base n (.seq x y) Q ρ O:=by
 intro a w M D hM ha hi
 refine wpIn_seq (wpIn_mono (h a w M D hM ha hi) ?_)
 rintro e a' w' ⟨gX,O',D',h1,h2,h3⟩
 cases e with
 |normal=>exact h3 a' w' M D' hM h1 h2
 |_=>exact⟨gX,O',D',h1,h2,h3⟩
theorem fg {x y:Code} (K:Env→List Item→Prop) (h:T P r base n x (K6 K Q) ρ O) (hk: ∀ρ O,K ρ O→T P r base n y Q ρ O):T P r base n (.seq x y) Q ρ O:=
 aR (h.mono fun e ρ O h=>by cases e<;>first|exact hk ρ O h|exact h)
theorem T.cond {c:Operand} {x y:Code} {t:Bool} (hc:ev ρ c=.bool t) (h1:t=true→T P r base n x Q ρ O) (h0:t=false→T P r base n y Q ρ O):T P r base n (.cond c x y) Q ρ O:=by
 intro a w M D hM ha hi
 refine wpIn_cond (t:=t) (by rw[ha.eval];exact hc) ?_
 cases t
 ·exact h0 rfl a w M D hM ha hi
 ·exact h1 rfl a w M D hM ha hi
theorem b_ {c:Operand} {x y:Code} (h:T P r base n x Q ρ O) (hc:ev ρ c=.bool true:=by exact rfl):T P r base n (.cond c x y) Q ρ O:=
 T.cond hc (fun _=>h) (fun e=>by cases e)
theorem a8 {c:Operand} {x y:Code} (h:T P r base n y Q ρ O) (hc:ev ρ c=.bool false:=by exact rfl):T P r base n (.cond c x y) Q ρ O:=
 T.cond hc (fun e=>by cases e) (fun _=>h)
theorem aZ {c:Operand} {x y:Code} {p:Prop} [Decidable p] (hc:ev ρ c=.bool (decide p)) (h1:p→T P r base n x Q ρ O) (h0: ¬p→T P r base n y Q ρ O):T P r base n (.cond c x y) Q ρ O:=
 T.cond hc (fun e=>h1 (of_decide_eq_true e)) (fun e=>h0 (of_decide_eq_false e))
theorem aV {id:Nat} {c:Code} (h:T P r base n c (inB id Q) ρ O):T P r base n (.block id c) Q ρ O:=by
 intro a w M D hM ha hi
 refine wpIn_block (wpIn_mono (h a w M D hM ha hi) ?_)
 rintro e a' w' ⟨gX,O',D',h1,h2,h3⟩
 cases e with
 |exit W9=>
  simp only[Exit.inBlock]
  simp only[inB]at h3
  by_cases e:W9=id
  ·subst e
   rw[aJ rfl]
   rw[Nat.beq_refl]at h3
   exact⟨gX,O',D',h1,h2,h3⟩
  ·rw[aA e]
   have hb:Nat.beq W9 id=false:=by
    rcases h':Nat.beq W9 id with _|_
    ·rfl
    ·exact absurd (Nat.eq_of_beq_eq_true h') e
   rw[hb]at h3
   exact⟨gX,O',D',h1,h2,h3⟩
 |_=>exact⟨gX,O',D',h1,h2,h3⟩
theorem ek {c:Code} {α:Type} (I:α→Env→List Item→Prop) (μ:α→Nat) (s:α) (h0:I s ρ O)
  (h: ∀s ρ O,I s ρ O→T P r base n c (K6 (fun gX O'=> ∃s',μ s'<μ s∧I s' gX O') Q) ρ O):T P r base n (.loop c) Q ρ O:=by
 have key: ∀(m:Nat) (s:α) (ρ:Env) (O:List Item) (a:Act) (w:World) (M:List Item) (D:List Nat),μ s=m→I s ρ O→MOk r M→Ag n (mD D) a ρ→Inv base (O++(mI D++M)) w→
   ∀(b:Frame) (k:List Go.Item) (cs:List Frame),b.roundOf=(Fr r).round→(Fr r).fn b.fn→(Fr r).room (cs.length+1+0)→
    ∃e a' w',lift base n M Q e a' w'∧ArrivesIn (Machine.fenced P (Fr r)) P (lone (b.atR a (.code c::.inLoop c::k)) cs w) b k cs e a' w':=by
  intro m
  induction m using Nat.strongRecOn with
  |_ m ih=>
   intro s ρ O a w M D hm hI hM ha hi b k cs w_ hb hr
   obtain⟨e,a₁,wK,hq,sF⟩:=h s ρ O hI a w M D hM ha hi b (.inLoop c::k) cs w_ hb hr
   obtain⟨Ak,IT,IU,Al,Am,hq⟩:=hq
   cases e with
   |normal=>
    obtain⟨s',gw,oH⟩:=hq
    obtain⟨acf,a₂,acg,XP,PC⟩:=ih (μ s') (hm▸gw) s' Ak IT a₁ wK M IU rfl oH hM Al Am b k cs w_ hb hr
    exact⟨acf,a₂,acg,XP,.of_steps (StepsIn.trans sF (.one (fenced_calm hb hr rfl) stepR_inLoop)) PC⟩
   |exit id=>exact⟨_,a₁,wK,⟨Ak,IT,IU,Al,Am,hq⟩,.pass (x:=.inLoop c) rfl (fun _ _=>.inl (by simp)) sF⟩
   |goto l=>exact⟨_,a₁,wK,⟨Ak,IT,IU,Al,Am,hq⟩,.pass (x:=.inLoop c) rfl (fun _ _=>.inl (by simp)) sF⟩
   |ret=>exact⟨_,a₁,wK,⟨Ak,IT,IU,Al,Am,hq⟩,.pass (x:=.inLoop c) rfl (fun _ _=>.inl (by simp)) sF⟩
   |panic ch=>exact⟨_,a₁,wK,⟨Ak,IT,IU,Al,Am,hq⟩,.pass (x:=.inLoop c) rfl (fun _ _=>.inl (by simp)) sF⟩
   |outgrown=>exact⟨_,a₁,wK,⟨Ak,IT,IU,Al,Am,hq⟩,.pass (x:=.inLoop c) rfl (fun _ _=>.inl (by simp)) sF⟩
 intro a w M D hM ha hi b k cs w_ hb hr
 obtain⟨e,a',w',hq,sF⟩:=key _ s ρ O a w M D rfl h0 hM ha hi b k cs w_ hb hr
 exact⟨e,a',w',hq,.of_steps (.one (fenced_calm hb hr rfl) stepR_loop) sF⟩
theorem kW {b:Frame} {a:Act} {k:List Go.Item} {cs:List Frame} {w:World} {c:Code}:step P (lone (b.atR a (.code (.scope c)::k)) cs w)=.next (lone (b.atR a (.code c::.inScope c::k)) cs w):=
 step_lone_go (by simp[stepG,stepG.exec,Frame.atR])
theorem zK {b:Frame} {a:Act} {k:List Go.Item} {cs:List Frame} {w:World} {c:Code}:step P (lone (b.atR a (.inScope c::k)) cs w)=.next (lone (b.atR a k) cs w):=
 step_lone_go (by simp[stepG,stepG.exec,Frame.atR])
theorem T.scope {c:Code} (h:T P r base n c Q ρ O) (hg: ∀l ρ O,¬Q (.goto l) ρ O):T P r base n (.scope c) Q ρ O:=by
 intro a w M D hM ha hi b k cs w_ hb hr
 obtain⟨e,a₁,wK,hq,sF⟩:=h a w M D hM ha hi b (.inScope c::k) cs w_ hb hr
 have h0:(lone (b.atR a (.code (.scope c)::k)) cs w).fenced P (Fr r):=fenced_calm hb hr rfl
 cases e with
 |normal=>exact⟨.normal,a₁,wK,hq,.head h0 kW (StepsIn.trans sF (.one (fenced_calm hb hr rfl) zK))⟩
 |exit id=>
  have hx:exitTo id (.inScope c::k)=exitTo id k:=by simp[exitTo]
  exact⟨.exit id,a₁,wK,hq,fun k' hk=>.head h0 kW (sF.1 k' (by rw[hx];exact hk)),
   fun TK hk=>let⟨ach,h1,h2⟩:=sF.2 TK (by rw[hx];exact hk);⟨ach,h1,.head h0 kW h2⟩⟩
 |goto l=>obtain⟨gX,O',D',_,_,h3⟩:=hq;exact(hg l gX O' h3).elim
 |ret=>exact⟨_,a₁,wK,hq,.of_steps (.one h0 kW) sF⟩
 |panic ch=>exact⟨_,a₁,wK,hq,.of_steps (.one h0 kW) sF⟩
 |outgrown=>exact⟨_,a₁,wK,hq,.of_steps (.one h0 kW) sF⟩
def QT (P:Program) (base:World) (o:Oper) (ρ:Env) (O:List Item) (v:Value):Prop:=
 ∀w,Inv base O w→(execOp (ev ρ) o).run P w=.ok (.value v) w
def LT (P:Program) (r:Option Nat) (base:World) (n:Nat) (o:Oper) (ρ:Env) (O:List Item) (K:Env→List Item→Prop):Prop:=
 ∀a w M ds,Ag n ds a ρ→Inv base (O++M) w→ ∀(next:Act→World→Prop) (Qx:Exit→Act→World→Prop),
  (∀a' gX O' w',Ag n ds a' gX→Inv base (O'++M) w'→K gX O'→next a' w')→o.wpIn (Fr r) 0 P a w next Qx
theorem mg {o:Oper} {a:Act} {w:World} {next:Act→World→Prop} {Qx:Exit→Act→World→Prop} (hd: ∀c,o.op≠.defer c)
  (h:o.uponIn (Fr r) 0 P a next Qx ((execOp a.eval o).run P w)):o.wpIn (Fr r) 0 P a w next Qx:=
 ⟨fun _ _=>trivial,by rw[Oper.semAt_eq _ _ _ hd];exact h⟩
theorem xK {o:Oper} {e:Operand→Value} {w:World} {x:Next} {w':World} (h:(execOp e o).run P w=.ok x w') (hx: ∀d,x≠.defer d): ∀c,o.op≠.defer c:=by
 intro c ec
 unfold execOp at h
 simp only[ec]at h
 rw[Sem.run_bind]at h
 cases hr:(resolve e c o.type).run P w with
 |ok d w1=>rw[hr]at h;simp[Result.andThen]at h;exact hx _ h.1.symm
 |halt y w1=>rw[hr]at h;simp[Result.andThen]at h
abbrev PX:=List PanicEntry→Prop
def TO (X:PX) (P:Program) (r:Option Nat) (base:World) (n:Nat) (ops:Array Oper) (l:List Oper) (K:Env→List Item→Prop) (ρ:Env) (O:List Item):Prop:=
 ∀(Q:ll) a w M D,(∀ρ O,K ρ O→Q .normal ρ O)∧(∀c ρ,X c→Q (.panic c) ρ [])→Ag n (mD D) a ρ→Inv base (O++(mI D++M)) w→wpListIn (Fr r) 0 P ops (lift base n M Q) l a w
theorem bg {id:Nat} {l:List Oper} (h:TO (fun c=> ∀ρ,Q (.panic c) ρ []) P r base n l.toArray l (fun ρ O=>Q .normal ρ O) ρ O):T P r base n (.region id l.toArray false) Q ρ O:=
 fun a w M D _ ha hi=>wpIn_region_lit (h Q a w M D ⟨fun _ _ h=>h,fun _ ρ h=>h ρ⟩ ha hi)
variable {X:PX}
theorem ah {ops:Array Oper} {K:Env→List Item→Prop} (h:K ρ O):TO X P r base n ops [] K ρ O:=
 fun _ _ _ _ D hk ha hi=>wpListIn_nil ⟨ρ,O,D,ha,hi,hk.1 _ _ h⟩
def OT:Value→Option Bool
 | .bool b=>some b
 |_=>none
theorem jQ {a:Act} {ds:List Deferred} {ops:Array Oper} (ha:Ag n ds a ρ) {j t:Nat} (hj:(ops[j]?).bind (·.dst)=some t):yielded ops a.tmps j=OT (ρ t):=by
 have h:=ha.tmp t
 unfold yielded
 rw[hj]
 rw[dv]at h
 rw[←h]
 show(match a.tmps[t]? with|some (.bool b)=>some b|_=>none)=_
 cases a.tmps[t]? with
 |none=>rfl
 |some v=>cases v<;>rfl
theorem Inv.left {M:List Item} {w:World} (h:Inv base (O++M) w):Inv base O w:=h.sub (List.sublist_append_left O M)
theorem eK {o:Oper} {d:Nat} {v:Value} {K:Env→List Item→Prop} (hd:o.dst=some d) (hn:Nat.blt d n=true) (h:QT P base o ρ O v) (hk:K (pE ρ d v) O):LT P r base n o ρ O K:=by
 intro a w M ds ha hi next Qx fy
 have hr:=h w hi.left
 rw[←ha.eval]at hr
 refine mg (xK hr (by simp)) ?_
 rw[hr]
 show next (a.put o.dst v) w
 rw[hd]
 exact fy _ _ _ _ (ha.put hn v) hi hk
theorem aq {ops:Array Oper} {l:List Oper} {K:Env→List Item→Prop} {o:Oper} (h:LT P r base n o ρ O (fun gX O'=>TO X P r base n ops l K gX O')) (hg:o.guard=none:=by exact rfl):TO X P r base n ops (o::l) K ρ O:=
 fun Q a w M D hk ha hi=>wpListIn_plain hg fun next fy=>h a w _ _ ha hi next _ fun a' _ _ w' h1 h2 h3=>fy a' w' (h3 Q a' w' M D hk h1 h2)
theorem ae {ops:Array Oper} {l:List Oper} {K:Env→List Item→Prop} {d:Nat} {op:Op} {t:TypeId} {p:String} {af:Array Edge} {v:Value}
  (h:QT P base ⟨some d,op,t,p,af,none⟩ ρ O v) (hk:TO X P r base n ops l K (pE ρ d v) O) (hn:Nat.blt d n=true:=by rfl):TO X P r base n ops (⟨some d,op,t,p,af,none⟩::l) K ρ O:=
 aq (eK rfl hn h hk)
theorem gk {ops:Array Oper} {l:List Oper} {K:Env→List Item→Prop} {o:Oper} {j tj:Nat} {want:Bool} (hg:o.guard=some (j,want))
  (hj:(ops[j]?).bind (·.dst)=some tj) (hw:ρ tj=.bool want)
  (h:LT P r base n o ρ O (fun gX O'=>TO X P r base n ops l K gX O')):TO X P r base n ops (o::l) K ρ O:=by
 intro Q a w M D hk ha hi
 refine wpListIn_step fun next fy=>?_
 have hy:=jQ (ops:=ops) ha hj
 rw[hw]at hy
 have qu:Region.wanted o (yielded ops a.tmps)=true:=by unfold Region.wanted;rw[hg];simp[hy,OT]
 rw[aJ qu]
 exact h a w _ _ ha hi next _ fun a' _ _ w' h1 h2 h3=>fy a' w' (h3 Q a' w' M D hk h1 h2)
theorem aQ {ops:Array Oper} {l:List Oper} {K:Env→List Item→Prop} {d:Nat} {op:Op} {t:TypeId} {p:String} {af:Array Edge} {j tj:Nat} {want:Bool}
  (hk:TO X P r base n ops l K (pE ρ d undef) O) (hj:(ops[j]?).bind (·.dst)=some tj:=by exact rfl) (hw:(OT (ρ tj)==some want)=false:=by exact rfl) (hn:Nat.blt d n=true:=by rfl):
  TO X P r base n ops (⟨some d,op,t,p,af,some (j,want)⟩::l) K ρ O:=by
 intro Q a w M D hq ha hi
 refine wpListIn_step fun next fy=>?_
 have hy:=jQ (ops:=ops) ha hj
 have qu:Region.wanted ⟨some d,op,t,p,af,some (j,want)⟩ (yielded ops a.tmps)=false:=by unfold Region.wanted;simp only[hy];exact hw
 rw[qu]
 exact⟨fun _ _=>trivial,fy _ _ (hk Q _ _ M D hq (ha.put hn undef) hi)⟩
end XO
def ky (ops:Array Oper):Bool:=ops.all fun o=>match o.op with| .defer _=>false|_=>true
theorem pF {ops:Array Oper} (h:ky ops=true) {j:Nat} {o:Oper} (hj:ops[j]? =some o): ∀c,o.op≠.defer c:=by
 intro c e
 unfold ky at h
 rw[Array.all_eq_true']at h
 have:=h o (Array.mem_of_getElem? hj)
 rw[e]at this
 cases this
def IV (P:Program) (r:Option Nat) (ops:Array Oper) (C:Array Bool→World→Prop) (Q:Exit→Act→World→Prop):Nat→Array Bool→Act→World→Prop
 |0,listed,a,w=>Region.ready .any ops listed=[]∧Q .normal a w
 |gv+1,listed,a,w=>
  (Region.ready .any ops listed=[]→Q .normal a w)∧
  ∀i∈Region.ready .any ops listed,wpOpIn (Fr r) 0 P ops Q i (fun a' w'=>C (listed.setIfInBounds i true) w'∧IV P r ops C Q gv (listed.setIfInBounds i true) a' w') a w
theorem mh {P:Program} {r:Option Nat} {ops:Array Oper} {C:Array Bool→World→Prop} {Q:Exit→Act→World→Prop}: ∀(gv:Nat) (listed:Array Bool) (a:Act) (w:World),
  IV P r ops C Q gv listed a w→wpAnyIn (Fr r) 0 P .any ops Q gv listed a w
 |0,_,_,_,h=>h
 |gv+1,_,_,_,h=>⟨h.1,fun i hi=>wpOpIn_mono (fun a' w' h'=>mh gv _ a' w' h'.2) (h.2 i hi)⟩
def closed (ops:Array Oper) (listed:Array Bool):Prop:= ∀k o,listed.getD k false=true→ops[k]? =some o→ ∀e∈o.after,Region.binds .any e=true→listed.getD e.on false=true
theorem pG (ops:Array Oper) (m:Nat):closed ops (Array.replicate m false):=fun k o h=>by
 rw[dv,Array.getElem?_replicate]at h
 split at h<;>simp at h
theorem jp {ops:Array Oper} {listed:Array Bool} {i:Nat} (h:closed ops listed) (hi:i∈Region.ready .any ops listed):closed ops (listed.setIfInBounds i true):=by
 intro k o hk ho e he hb
 obtain⟨_,oi,hoi,lj⟩:=mem_ready.1 hi
 by_cases W_:i=k
 ·subst W_
  rw[ho]at hoi;cases hoi
  exact getD_set_true (lj e he hb)
 ·rw[getD_set_ne false W_]at hk
  exact getD_set_true (h k o hk ho e he hb)
def tM:List Edge→Nat
 | []=>0
 |e::l=>(if Region.binds .any e=true then 1<<<e.on else 0)|||tM l
theorem u0 {k:Nat}: ∀ {l:List Edge},(tM l).testBit k=true→ ∃e∈l,Region.binds .any e=true∧e.on=k
 | [],h=>by simp[tM]at h
 |e::l,h=>by
  rw[tM,Nat.testBit_or,Bool.or_eq_true]at h
  rcases h with h|h
  ·by_cases hb:Region.binds .any e=true
   ·rw[aJ hb,Nat.one_shiftLeft,Nat.testBit_two_pow,bT]at h
    exact⟨e,by simp,hb,h⟩
   ·rw[aA hb]at h;simp at h
  ·obtain⟨e',h1,h2⟩:=u0 h
   exact⟨e',by simp[h1],h2⟩
def mU (ops:Array Oper) (j:Nat):Nat:=match ops[j]? with
 |some o=>tM o.after.toList
 |none=>0
theorem oe {ops:Array Oper} {j k:Nat} (h:(mU ops j).testBit k=true): ∃o,ops[j]? =some o∧ ∃e∈o.after,Region.binds .any e=true∧e.on=k:=by
 unfold mU at h
 cases ho:ops[j]? with
 |none=>rw[ho]at h;simp at h
 |some o=>
  rw[ho]at h
  obtain⟨e,h1,h2⟩:=u0 h
  exact⟨o,rfl,e,by simpa using h1,h2⟩
def K7 (ops:Array Oper):Nat→Nat→Nat
 |0,m=>m
 |j+1,m=>K7 ops j (if m.testBit j=true then m|||mU ops j else m)
theorem u3 {ops:Array Oper} {listed:Array Bool} (hc:closed ops listed): ∀(n m:Nat),(∀k,m.testBit k=true→listed.getD k false=true)→ ∀k,(K7 ops n m).testBit k=true→listed.getD k false=true
 |0,_,h=>h
 |j+1,m,h=>by
  refine u3 hc j _ fun k hk=>?_
  by_cases hj:m.testBit j=true
  ·rw[aJ hj,Nat.testBit_or,Bool.or_eq_true]at hk
   rcases hk with hk|hk
   ·exact h k hk
   ·obtain⟨o,ho,e,he,hb,rfl⟩:=oe hk
    exact hc j o (h j hj) ho e he hb
  ·rw[aA hj]at hk;exact h k hk
def qv (ops:Array Oper) (tl:List Nat) (i:Nat):Bool:=tl.all fun b=>(K7 ops ops.size (mU ops b)).testBit i
theorem Fu {ops:Array Oper} {tl:List Nat} {i:Nat} {listed:Array Bool} (ht:qv ops tl i=true) (hc:closed ops listed) {b:Nat} (hb:b∈tl) (hr:b∈Region.ready .any ops listed):listed.getD i false=true:=by
 simp only[qv,fJ]at ht
 have h1:=ht b hb
 obtain⟨_,o,ho,lj⟩:=mem_ready.1 hr
 refine u3 hc ops.size _ ?_ i h1
 intro q hq
 obtain⟨o2,tD,e,he,hb,rfl⟩:=oe hq
 rw[ho]at tD;cases tD
 exact lj e he hb
theorem xL {ops:Array Oper} {tl:List Nat} {i:Nat} {listed:Array Bool} (ht:qv ops tl i=true) (hc:closed ops listed) {b:Nat} (hb:b∈tl) (hl:listed.getD b false=true):listed.getD i false=true:=by
 simp only[qv,fJ]at ht
 have h1:=ht b hb
 refine u3 hc ops.size _ ?_ i h1
 intro q hq
 obtain⟨o,ho,e,he,hb,rfl⟩:=oe hq
 exact hc b o hl ho e he hb
structure je (base:World) (S:List Item) (tail:List Nat) (S2:List Item) (dw:List Nat) (listed:Array Bool) (w:World):Prop where
 lK:Inv base [] w
 one:(tail.any fun b=>listed.getD b false)=true∨Inv base S w
 two:(dw.any fun b=>listed.getD b false)=true∨Inv base S2 w
theorem CM {tail:List Nat} {listed:Array Bool} {i:Nat} (hi:i∉tail) (h:(tail.any fun b=>(listed.setIfInBounds i true).getD b false)=true):(tail.any fun b=>listed.getD b false)=true:=by
 rw[cY]at h⊢
 obtain⟨b,hb,hl⟩:=h
 exact⟨b,hb,by rwa[getD_set_ne (i:=i) (j:=b) false (fun e=>hi (e▸hb))]at hl⟩
theorem je.keep {base:World} {S S2:List Item} {tail dw:List Nat} {listed:Array Bool} {w:World} {i:Nat} (hi:i∉tail) (IW:i∉dw) (h:je base S tail S2 dw (listed.setIfInBounds i true) w):je base S tail S2 dw listed w:=
 ⟨h.lK,h.one.imp (CM hi) id,h.two.imp (CM IW) id⟩
def YC (P:Program) (ops:Array Oper) (C:World→Prop) (o:Oper) (v:Value) (a:Act):Prop:=
 (Region.wanted o (yielded ops a.tmps)=true∧ ∀w,C w→(execOp a.eval o).run P w=.ok (.value v) w)∨
 (Region.wanted o (yielded ops a.tmps)=false∧v=undef)
theorem YC.wpOp {P:Program} {r:Option Nat} {ops:Array Oper} {C:World→Prop} {Q:Exit→Act→World→Prop} {i:Nat} {o:Oper} {v:Value} {a:Act} (hi:ops[i]? =some o) (lZ: ∀c,o.op≠.defer c) (hy:YC P ops C o v a)
  {K:Act→World→Prop} {w:World} (hC:C w) (h:K (a.put o.dst v) w):wpOpIn (Fr r) 0 P ops Q i K a w:=by
 unfold Go.wpOpIn
 simp only[hi]
 rcases hy with⟨hw,hv⟩|⟨hw,rfl⟩
 ·simp only[hw,if_true]
  refine mg lZ ?_
  rw[hv w hC];exact h
 ·simp only[hw,Bool.false_eq_true,if_false];exact⟨fun _ _=>trivial,h⟩
theorem YC.of_same {P:Program} {ops:Array Oper} {C:World→Prop} {o:Oper} {v:Value} {a a':Act} (hy:YC P ops C o v a) (he:execOp a'.eval o=execOp a.eval o)
  (hw:Region.wanted o (yielded ops a'.tmps)=Region.wanted o (yielded ops a.tmps)):YC P ops C o v a':=by
 unfold YC at*
 rw[he,hw]
 exact hy
theorem IX {P:Program} {r:Option Nat} {ops:Array Oper} {C:World→Prop} {Q:Exit→Act→World→Prop} {j:Nat} {oi oj:Oper} {v:Value} (hj:ops[j]? =some oj) (hap:oi.apart ops oj=true)
  (hsi: ∀cs b,oi.op≠.select cs b) (hsj: ∀cs b,oj.op≠.select cs b) (hdj: ∀c,oj.op≠.defer c)
  (hQ: ∀c a a' w,a'.defers=a.defers→a'.tmps.size=a.tmps.size→Q (.panic c) a w→Q (.panic c) a' w) {K:Act→World→Prop} {a:Act} {w:World}
  (hy:YC P ops C oi v a) (h:wpOpIn (Fr r) 0 P ops Q j (fun a' w'=>C w'∧K a' w') (a.put oi.dst v) w):
  wpOpIn (Fr r) 0 P ops Q j (fun a' w'=>C w'∧YC P ops C oi v a'∧K (a'.put oi.dst v) w') a w:=by
 obtain⟨h1,h2,h3⟩:=Oper.apart_spec hap
 have keep: ∀(a:Act),YC P ops C oi v a→ ∀u,YC P ops C oi v (a.put oj.dst u):=fun a hy u=>
  hy.of_same (execOp_put oi hsi a oj.dst u h3) (wanted_put oi a oj.dst u h3)
 have XQ: ∀d,YC P ops C oi v {a with defers:=d::a.defers}:=fun d=>hy.of_same rfl rfl
 unfold wpOpIn at*
 simp only[hj]at*
 rw[wanted_put oj a oi.dst v h1]at h
 split
 ·rename_i hw
  simp only[hw,if_true]at h
  have h:=h.2
  rw[Oper.semAt_eq _ _ _ hdj,execOp_put oj hsj a oi.dst v h1]at h
  refine mg hdj ?_
  generalize(execOp a.eval oj).run P w=r at*
  cases r with
  |ok n w'=>
   cases n<;>simp only[Oper.uponIn]at h⊢
   case value u=>exact⟨h.1,keep a hy u,by rw[←Act.put_comm a v u h2];exact h.2⟩
   case skip=>exact⟨h.1,keep a hy _,by rw[←Act.put_comm a v undef h2];exact h.2⟩
   case defer d=>
    refine⟨h.1,keep _ (XQ d) _,?_⟩
    rw[←Act.put_comm _ v undef h2,←Act.put_defers]
    exact h.2
   case enter f args=>
    refine⟨h.1,CallsIn.mono h.2 fun e PD he=>?_⟩
    cases e with
    |returned u=>exact⟨he.1,keep a hy u,by rw[←Act.put_comm a v u h2];exact he.2⟩
    |panicked c=>exact hQ _ (a.put oi.dst v) a _ (by cases oi.dst<;>rfl) (by cases oi.dst<;>simp[Act.put]) he
    |outgrown=>exact he
   case row row args=>exact⟨h.1,RowsIn.mono h.2 fun u PD he=>⟨he.1,keep a hy u,by rw[←Act.put_comm a v u h2];exact he.2⟩⟩
   case round l f tmps assign body=>
    refine⟨h.1,RoundIn.mono h.2 fun e PD he=>?_⟩
    cases e with
    |returned u=>exact⟨he.1,keep a hy u,by rw[←Act.put_comm a v u h2];exact he.2⟩
    |panicked c=>exact hQ _ (a.put oi.dst v) a _ (by cases oi.dst<;>rfl) (by cases oi.dst<;>simp[Act.put]) he
    |outgrown=>exact he
  |halt x w'=>
   cases x<;>simp only[Oper.uponIn]at h⊢
   case panic u=>exact hQ _ (a.put oi.dst v) a _ (by cases oi.dst<;>rfl) (by cases oi.dst<;>simp[Act.put]) h
 ·rename_i hw
  simp only[hw]at h
  exact⟨fun _ _=>trivial,h.2.1,keep a hy _,by rw[←Act.put_comm a v undef h2];exact h.2.2⟩
theorem Fv {P:Program} {r:Option Nat} {ops:Array Oper} {base:World} {S S2 Z:List Item} {tail dw zt:List Nat} {Q:Exit→Act→World→Prop} {i:Nat} {oi:Oper} {v:Value} (hi:ops[i]? =some oi) (fO:i∉tail) (TL:i∉dw) (ht:qv ops zt i=true)
  (hz: ∀listed w,je base S tail S2 dw listed w→(zt.any fun b=>listed.getD b false)=true∨Inv base Z w) (W8:i∉zt)
  (XR: ∀(j:Nat) (o:Oper) cs b,ops[j]? =some o→o.op≠.select cs b) (lZ:ky ops=true) (hQ: ∀c a a' w,a'.defers=a.defers→a'.tmps.size=a.tmps.size→Q (.panic c) a w→Q (.panic c) a' w):
  ∀(gv:Nat) (listed:Array Bool) (a:Act) (w:World),closed ops listed→
   (∀j oj,ops[j]? =some oj→j≠i→listed.getD j true=false→(∀e∈oj.after,Region.binds .any e=true→e.on≠i)→oi.apart ops oj=true)→
   i∈Region.ready .any ops listed→YC P ops (Inv base Z) oi v a→Inv base Z w→je base S tail S2 dw listed w→
   IV P r ops (je base S tail S2 dw) Q gv (listed.setIfInBounds i true) (a.put oi.dst v) w→IV P r ops (je base S tail S2 dw) Q (gv+1) listed a w:=by
 have up: ∀ {listed:Array Bool} {w:World},je base S tail S2 dw listed w→je base S tail S2 dw (listed.setIfInBounds i true) w:=fun {listed w} h=>by
  have grow: ∀tl:List Nat,(tl.any fun b=>listed.getD b false)=true→(tl.any fun b=>(listed.setIfInBounds i true).getD b false)=true:=fun tl h=>by
   rw[cY]at h⊢
   obtain⟨b,hb,hl⟩:=h
   exact⟨b,hb,getD_set_true hl⟩
  exact⟨h.lK,h.one.imp (grow _) id,h.two.imp (grow _) id⟩
 intro gv
 induction gv with
 |zero=>
  intro listed a w oO _ hr hy hC hC0 H
  refine⟨fun h=>(by rw[h]at hr;cases hr),fun j hj=>?_⟩
  by_cases Bp:j=i
  ·subst Bp;exact hy.wpOp hi (pF lZ hi) hC ⟨up hC0,H⟩
  ·have:=ready_mono hj Bp
   rw[H.1]at this
   cases this
 |succ gv ih=>
  intro listed a w oO R5 hr hy hC hC0 H
  refine⟨fun h=>(by rw[h]at hr;cases hr),fun j hj=>?_⟩
  by_cases Bp:j=i
  ·subst Bp;exact hy.wpOp hi (pF lZ hi) hC ⟨up hC0,H⟩
  ·have TM:=(mem_ready.1 hr).1
   have E8: ∀ {x:Array Bool},x.getD i true=false→x.getD i false=true→False:=fun {x} h1 h2=>by
    rcases Nat.lt_or_ge i x.size with h'|h'
    ·simp[h']at h1 h2;rw[h1]at h2;cases h2
    ·simp[Array.getElem?_eq_none h']at h2
   have hjt:j∉zt:=fun hjt=>E8 TM (Fu ht oO hjt hj)
   have h1:=H.2 j (ready_mono hj Bp)
   obtain⟨XT,oj,TN,lj⟩:=mem_ready.1 hj
   have TP: ∀e∈oj.after,Region.binds .any e=true→e.on≠i:=fun e he hb Kv=>by
    have h1:=lj e he hb
    rw[Kv]at h1
    exact E8 TM h1
   have XU:(zt.any fun b=>(listed.setIfInBounds j true).getD b false)=false:=by
    rw[List.any_eq_false]
    intro b hb hl
    rw[getD_set_ne (i:=j) (j:=b) false (fun e=>hjt (e▸hb))]at hl
    exact E8 TM (xL ht oO hb hl)
   have h1':wpOpIn (Fr r) 0 P ops Q j (fun a' w'=>Inv base Z w'∧(je base S tail S2 dw (listed.setIfInBounds j true) w'∧IV P r ops (je base S tail S2 dw) Q gv ((listed.setIfInBounds i true).setIfInBounds j true) a' w')) (a.put oi.dst v) w:=by
    refine wpOpIn_mono (fun a' w' h3=>?_) h1
    have hc:=h3.1
    rw[Array.setIfInBounds_comm _ _ (Ne.symm Bp)]at hc
    have Xa:=hc.keep fO TL
    refine⟨?_,Xa,h3.2⟩
    rcases hz _ _ Xa with h|h
    ·rw[XU]at h;cases h
    ·exact h
   have h2:=IX TN (R5 j oj TN Bp XT TP) (fun cs b=>XR i oi cs b hi) (fun cs b=>XR j oj cs b TN) (pF lZ TN) hQ hy h1'
   have TQ: ∀k ok,ops[k]? =some ok→k≠i→(listed.setIfInBounds j true).getD k true=false→
     (∀e∈ok.after,Region.binds .any e=true→e.on≠i)→oi.apart ops ok=true:=fun k ok hk W_ hun E8=>by
    refine R5 k ok hk W_ ?_ E8
    by_cases TS:j=k
    ·subst TS;exact XT
    ·rw[getD_set_ne true TS]at hun;exact hun
   refine wpOpIn_mono (fun a' w' h3=>⟨h3.2.2.1,ih (listed.setIfInBounds j true) a' w' (jp oO hj) TQ (ready_mono hr (Ne.symm Bp)) h3.2.1 h3.1 h3.2.2.1 ?_⟩) h2
   rw[Array.setIfInBounds_comm _ _ Bp]
   exact h3.2.2.2
structure PQ (X:PX) (Q:ll):Prop where
 ind: ∀c ρ gX O,Q (.panic c) ρ O→Q (.panic c) gX O
 pan: ∀c ρ,X c→Q (.panic c) ρ []
theorem PQ.lift {X:PX} {Q:ll} (h:PQ X Q) {base:World} {n:Nat} {M:List Item} (c:List PanicEntry) (a a':Act) (w:World) (hd:a'.defers=a.defers) (hs:a'.tmps.size=a.tmps.size) (hl:Lx.lift base n M Q (.panic c) a w):Lx.lift base n M Q (.panic c) a' w:=by
 obtain⟨ρ,O,D,ha,hI,hq⟩:=hl
 exact⟨fun t=>a'.tmps.getD t undef,O,D,⟨fun _=>rfl,hs.trans ha.size,hd.trans ha.defers⟩,hI,h.ind c ρ _ O hq⟩
def RO (X:PX) (P:Program) (r:Option Nat) (base:World) (n:Nat) (ops:Array Oper) (S:List Item) (tail:List Nat) (S2:List Item) (dw:List Nat) (gv:Nat) (listed:Array Bool) (K:Env→List Item→Prop) (ρ:Env) (O:List Item):Prop:=
 ∀(Q:ll) a w M D,(∀ρ O,K ρ O→Q .normal ρ O)→PQ X Q→Ag n (mD D) a ρ→Inv base (O++(mI D++M)) w→closed ops listed→je base S tail S2 dw listed w→IV P r ops (je base S tail S2 dw) (lift base n M Q) gv listed a w
section
variable {X:PX} {P:Program} {r:Option Nat} {base:World} {n:Nat} {Q:ll} {ρ:Env} {O S S2:List Item} {tail dw:List Nat} {ops:Array Oper} {K:Env→List Item→Prop}
theorem Inv.lK {base:World} {O:List Item} {w:World} (h:Inv base O w):Inv base [] w:=h.sub (cr _)
theorem Bq {tl:List Nat} {listed:Array Bool} {i:Nat} (h:(tl.any fun b=>listed.getD b false)=true):(tl.any fun b=>(listed.setIfInBounds i true).getD b false)=true:=by
 rw[cY]at h⊢
 obtain⟨b,hb,hl⟩:=h
 exact⟨b,hb,getD_set_true hl⟩
theorem jR {gv:Nat} {listed:Array Bool} (i:Nat) {d:Nat} {op:Op} {t:TypeId} {p:String} {af:Array Edge} {g:Option (Nat×Bool)} {v:Value} {Z:List Item} {zt:List Nat} (hi:ops[i]? =some ⟨some d,op,t,p,af,g⟩)
  (hz: ∀listed w,je base S tail S2 dw listed w→(zt.any fun b=>listed.getD b false)=true∨Inv base Z w) (W8:i∉zt) (ht:qv ops zt i=true)
  (hs:Region.noSelect ops=true) (lZ:ky ops=true) (fO:i∉tail) (TL:i∉dw) (hf:Region.free .any ops listed i=true) (hr:(Region.ready .any ops listed).contains i=true)
  (h: ∀ds a,Ag n ds a ρ→YC P ops (Inv base Z) ⟨some d,op,t,p,af,g⟩ v a) (hn:Nat.blt d n=true) (hk:RO X P r base n ops S tail S2 dw gv (listed.setIfInBounds i true) K (pE ρ d v) O):
  RO X P r base n ops S tail S2 dw (gv+1) listed K ρ O:=by
 intro Q a w M D hq hp ha hI oO hS
 have TK:i∈Region.ready .any ops listed:=by simpa using hr
 have E8:listed.getD i false=true→False:=fun h2=>by
  have h1:=(mem_ready.1 TK).1
  rcases Nat.lt_or_ge i listed.size with h'|h'
  ·simp[h']at h1 h2;rw[h1]at h2;cases h2
  ·simp[Array.getElem?_eq_none h']at h2
 have hZ:Inv base Z w:=(hz _ _ hS).resolve_left (by
  intro h
  rw[cY]at h
  obtain⟨b,hb,hl⟩:=h
  exact E8 (xL ht oO hb hl))
 exact Fv hi fO TL ht hz W8 (Region.noSelect_spec hs) lZ hp.lift gv listed a w oO (Region.free_spec hi hf) TK (h _ a ha) hZ hS
  (hk Q _ w M D hq hp (ha.put hn v) hI (jp oO TK) ⟨hS.lK,hS.one.imp Bq id,hS.two.imp Bq id⟩)
theorem u4 {gv:Nat} {listed:Array Bool} (i:Nat) {o:Oper} (hi:ops[i]? =some o) (hg:o.guard=none) (hr:Region.ready .any ops listed=[i])
  (h:LT P r base n o ρ O (fun gX O'=>(i∈tail∨Sub S O')∧(i∈dw∨Sub S2 O')∧RO X P r base n ops S tail S2 dw gv (listed.setIfInBounds i true) K gX O')):RO X P r base n ops S tail S2 dw (gv+1) listed K ρ O:=by
 intro Q a w M D hq hp ha hI oO hS
 refine⟨fun h0=>(by rw[hr]at h0;cases h0),fun j hj=>?_⟩
 rw[hr]at hj
 obtain rfl:j=i:=by simpa using hj
 have An:j∈Region.ready .any ops listed:=by rw[hr];simp
 have gw:j<listed.size:=by
  have:=(mem_ready.1 An).1
  rcases Nat.lt_or_ge j listed.size with h'|h'
  ·exact h'
  ·simp[Array.getElem?_eq_none h']at this
 unfold wpOpIn
 simp only[hi]
 rw[aJ (by simp[Region.wanted,hg])]
 refine h a w _ _ ha hI _ _ fun a' gX O' w' h1 h2 h3=>?_
 have si: ∀(tl:List Nat) (Z:List Item),(j∈tl∨Sub Z O')→(tl.any fun b=>(listed.setIfInBounds j true).getD b false)=true∨Inv base Z w':=fun tl Z h3=>by
  rcases h3 with h4|h4
  ·refine .inl (List.any_eq_true.2 ⟨j,h4,?_⟩)
   simp[gw]
  ·exact .inr (h2.left.kN h4)
 have qw:je base S tail S2 dw (listed.setIfInBounds j true) w':=⟨h2.lK,si _ _ h3.1,si _ _ h3.2.1⟩
 exact⟨qw,h3.2.2 Q a' w' M D hq hp h1 h2 (jp oO An) qw⟩
theorem Ao {gv:Nat} {listed:Array Bool} (hr:Region.ready .any ops listed=[]) (h:K ρ O):RO X P r base n ops S tail S2 dw gv listed K ρ O:=by
 intro Q a w M D hq hp ha hI _ _
 cases gv with
 |zero=>exact⟨hr,ρ,O,D,ha,hI,hq _ _ h⟩
 |succ f=>exact⟨fun _=>⟨ρ,O,D,ha,hI,hq _ _ h⟩,by rw[hr];simp⟩
def oB (l:List (Nat×Nat)):List Nat:=(l.filter (·.2==2)).map (·.1)
def mi (l:List (Nat×Nat)):List Nat:=(l.filter fun q=>q.2==2||q.2==4).map (·.1)
def jS (ops:Array Oper) (tail dw:List Nat):List (Nat×Nat)→Array Bool→Bool
 | [],listed=>(Region.ready .any ops listed).isEmpty
 |(i,0)::l,listed=>qv ops tail i&&Region.free .any ops listed i&&(Region.ready .any ops listed).contains i&&jS ops tail dw l (listed.setIfInBounds i true)
 |(i,3)::l,listed=>qv ops dw i&&Region.free .any ops listed i&&(Region.ready .any ops listed).contains i&&jS ops tail dw l (listed.setIfInBounds i true)
 |(i,_)::l,listed=>(Region.ready .any ops listed== [i])&&jS ops tail dw l (listed.setIfInBounds i true)
def xM (ops:Array Oper) (l:List (Nat×Nat)):Bool:=Region.noSelect ops&&ky ops&&l.length==ops.size&&(l.all fun q=>(q.2==2||!(oB l).contains q.1)&&(q.2==2||q.2==4||!(mi l).contains q.1))&&jS ops (oB l) (mi l) l (Array.replicate ops.size false)
def DO (X:PX) (P:Program) (r:Option Nat) (base:World) (n:Nat) (ops:Array Oper) (S:List Item) (tail:List Nat) (S2:List Item) (dw:List Nat) (l:List (Nat×Nat)) (K:Env→List Item→Prop) (ρ:Env) (O:List Item):Prop:=
 Region.noSelect ops=true→ky ops=true→(∀q∈l,((q.2=2→q.1∈tail)∧(q.2≠2→q.1∉tail))∧((q.2=2∨q.2=4→q.1∈dw)∧(q.2≠2→q.2≠4→q.1∉dw)))→ ∀listed,jS ops tail dw l listed=true→RO X P r base n ops S tail S2 dw l.length listed K ρ O
theorem aw {l:List (Nat×Nat)} {i:Nat} {d:Nat} {op:Op} {t:TypeId} {p:String} {af:Array Edge} {v:Value} (hi:ops[i]? =some ⟨some d,op,t,p,af,none⟩)
  (h:QT P base ⟨some d,op,t,p,af,none⟩ ρ S v) (hk:DO X P r base n ops S tail S2 dw l K (pE ρ d v) O) (hn:Nat.blt d n=true:=by rfl):
  DO X P r base n ops S tail S2 dw ((i,0)::l) K ρ O:=fun hs lZ hl listed hw=>by
 simp only[jS,ay]at hw
 have h0:=hl (i,0) (by simp)
 exact jR (zt:=tail) i hi (fun _ _ h=>h.one) (h0.1.2 (by simp)) hw.1.1.1 hs lZ (h0.1.2 (by simp)) (h0.2.2 (by simp) (by simp)) hw.1.1.2 hw.1.2 (fun ds a ha=>.inl ⟨rfl,fun w hw=>by rw[ha.eval];exact h w hw⟩) hn (hk hs lZ (fun q hq=>hl q (List.mem_cons_of_mem _ hq)) _ hw.2)
theorem dQ {l:List (Nat×Nat)} {i:Nat} {d:Nat} {op:Op} {t:TypeId} {p:String} {af:Array Edge} {v:Value} (hi:ops[i]? =some ⟨some d,op,t,p,af,none⟩)
  (h:QT P base ⟨some d,op,t,p,af,none⟩ ρ S2 v) (hk:DO X P r base n ops S tail S2 dw l K (pE ρ d v) O) (hn:Nat.blt d n=true:=by rfl):
  DO X P r base n ops S tail S2 dw ((i,3)::l) K ρ O:=fun hs lZ hl listed hw=>by
 simp only[jS,ay]at hw
 have h0:=hl (i,3) (by simp)
 exact jR (zt:=dw) i hi (fun _ _ h=>h.two) (h0.2.2 (by simp) (by simp)) hw.1.1.1 hs lZ (h0.1.2 (by simp)) (h0.2.2 (by simp) (by simp)) hw.1.1.2 hw.1.2 (fun ds a ha=>.inl ⟨rfl,fun w hw=>by rw[ha.eval];exact h w hw⟩) hn (hk hs lZ (fun q hq=>hl q (List.mem_cons_of_mem _ hq)) _ hw.2)
theorem bn {l:List (Nat×Nat)} {i:Nat} {d:Nat} {op:Op} {t:TypeId} {p:String} {af:Array Edge} {v:Value} {j tj:Nat} {want:Bool} (hi:ops[i]? =some ⟨some d,op,t,p,af,some (j,want)⟩)
  (hj:(ops[j]?).bind (·.dst)=some tj) (hw:ρ tj=.bool want)
  (h:QT P base ⟨some d,op,t,p,af,some (j,want)⟩ ρ S v) (hk:DO X P r base n ops S tail S2 dw l K (pE ρ d v) O) (hn:Nat.blt d n=true:=by rfl):
  DO X P r base n ops S tail S2 dw ((i,0)::l) K ρ O:=fun hs lZ hl listed hb=>by
 simp only[jS,ay]at hb
 have h0:=hl (i,0) (by simp)
 refine jR (zt:=tail) i hi (fun _ _ h=>h.one) (h0.1.2 (by simp)) hb.1.1.1 hs lZ (h0.1.2 (by simp)) (h0.2.2 (by simp) (by simp)) hb.1.1.2 hb.1.2 (fun ds a ha=>?_) hn (hk hs lZ (fun q hq=>hl q (List.mem_cons_of_mem _ hq)) _ hb.2)
 have hy:=jQ (ops:=ops) ha hj
 rw[hw]at hy
 exact .inl ⟨by unfold Region.wanted;simp[hy,OT],fun w hw=>by rw[ha.eval];exact h w hw⟩
theorem bH {l:List (Nat×Nat)} {i:Nat} {d:Nat} {op:Op} {t:TypeId} {p:String} {af:Array Edge} {j tj:Nat} {want:Bool} (hi:ops[i]? =some ⟨some d,op,t,p,af,some (j,want)⟩)
  (hj:(ops[j]?).bind (·.dst)=some tj) (hw:(OT (ρ tj)==some want)=false)
  (hk:DO X P r base n ops S tail S2 dw l K (pE ρ d undef) O) (hn:Nat.blt d n=true:=by rfl):
  DO X P r base n ops S tail S2 dw ((i,0)::l) K ρ O:=fun hs lZ hl listed hb=>by
 simp only[jS,ay]at hb
 have h0:=hl (i,0) (by simp)
 refine jR (zt:=tail) i hi (fun _ _ h=>h.one) (h0.1.2 (by simp)) hb.1.1.1 hs lZ (h0.1.2 (by simp)) (h0.2.2 (by simp) (by simp)) hb.1.1.2 hb.1.2 (fun ds a ha=>?_) hn (hk hs lZ (fun q hq=>hl q (List.mem_cons_of_mem _ hq)) _ hb.2)
 have hy:=jQ (ops:=ops) ha hj
 exact .inr ⟨by unfold Region.wanted;simp only[hy];exact hw,rfl⟩
theorem sG {l:List (Nat×Nat)} {i:Nat} {o:Oper} (hi:ops[i]? =some o) (hg:o.guard=none)
  (h:LT P r base n o ρ O (fun gX O'=>Sub S O'∧Sub S2 O'∧DO X P r base n ops S tail S2 dw l K gX O')):DO X P r base n ops S tail S2 dw ((i,1)::l) K ρ O:=fun hs lZ hl listed hb=>by
 simp only[jS,ay,beq_iff_eq]at hb
 refine u4 i hi hg hb.1 ?_
 intro a w M ds ha hI next Qx fy
 exact h a w M ds ha hI next Qx fun a' gX O' w' h1 h2 h3=>fy a' gX O' w' h1 h2 ⟨.inr h3.1,.inr h3.2.1,h3.2.2 hs lZ (fun q hq=>hl q (List.mem_cons_of_mem _ hq)) _ hb.2⟩
theorem cH {l:List (Nat×Nat)} {i:Nat} {o:Oper} (hi:ops[i]? =some o) (hg:o.guard=none)
  (h:LT P r base n o ρ O (fun gX O'=>Sub S O'∧DO X P r base n ops S tail [] dw l K gX O')):DO X P r base n ops S tail [] dw ((i,1)::l) K ρ O:=
 sG hi hg fun a w M ds ha hI next Qx fy=>h a w M ds ha hI next Qx fun a' gX O' w' h1 h2 h3=>fy a' gX O' w' h1 h2 ⟨h3.1,ck (cr _),h3.2⟩
theorem xN {l:List (Nat×Nat)} {i:Nat} {o:Oper} (hi:ops[i]? =some o) (hg:o.guard=none)
  (h:LT P r base n o ρ O (fun gX O'=>Sub S O'∧DO X P r base n ops S tail S2 dw l K gX O')):DO X P r base n ops S tail S2 dw ((i,4)::l) K ρ O:=fun hs lZ hl listed hb=>by
 simp only[jS,ay,beq_iff_eq]at hb
 refine u4 i hi hg hb.1 ?_
 intro a w M ds ha hI next Qx fy
 exact h a w M ds ha hI next Qx fun a' gX O' w' h1 h2 h3=>fy a' gX O' w' h1 h2 ⟨.inr h3.1,.inl ((hl (i,4) (by simp)).2.1 (.inr rfl)),h3.2 hs lZ (fun q hq=>hl q (List.mem_cons_of_mem _ hq)) _ hb.2⟩
theorem cy {l:List (Nat×Nat)} {i:Nat} {o:Oper} (hi:ops[i]? =some o) (hg:o.guard=none)
  (h:LT P r base n o ρ O (fun gX O'=>DO X P r base n ops S tail S2 dw l K gX O')):DO X P r base n ops S tail S2 dw ((i,2)::l) K ρ O:=fun hs lZ hl listed hb=>by
 simp only[jS,ay,beq_iff_eq]at hb
 refine u4 i hi hg hb.1 ?_
 intro a w M ds ha hI next Qx fy
 exact h a w M ds ha hI next Qx fun a' gX O' w' h1 h2 h3=>fy a' gX O' w' h1 h2 ⟨.inl ((hl (i,2) (by simp)).1.1 rfl),.inl ((hl (i,2) (by simp)).2.1 (.inl rfl)),h3 hs lZ (fun q hq=>hl q (List.mem_cons_of_mem _ hq)) _ hb.2⟩
theorem cA (h:K ρ O):DO X P r base n ops S tail S2 dw [] K ρ O:=fun _ _ _ listed hb=>Ao (by simpa[jS]using hb) h
theorem sH (S S2:List Item) (l:List (Nat×Nat)) {id:Nat} {ops:Array Oper} (hm:P.follows .mixedOrders=true) (hB:xM ops l=true) (hS:Sub S O) (XV:Sub S2 O) (hp: ∀c ρ gX O,Q (.panic c) ρ O→Q (.panic c) gX O)
  (h:DO (fun c=> ∀ρ,Q (.panic c) ρ []) P r base n ops S (oB l) S2 (mi l) l (fun ρ O=>Q .normal ρ O) ρ O):T P r base n (.region id ops true) Q ρ O:=by
 simp only[xM,ay,beq_iff_eq]at hB
 obtain⟨⟨⟨⟨h1,lZ⟩,h2⟩,h4⟩,h5⟩:=hB
 have hl: ∀q∈l,((q.2=2→q.1∈oB l)∧(q.2≠2→q.1∉oB l))∧((q.2=2∨q.2=4→q.1∈mi l)∧(q.2≠2→q.2≠4→q.1∉mi l)):=fun q hq=>by
  have:=List.all_eq_true.1 h4 q hq
  simp only[ay,Bool.or_eq_true,beq_iff_eq,Bool.not_eq_true',List.contains_eq_mem,decide_eq_false_iff_not]at this
  refine⟨⟨fun e=>List.mem_map.2 ⟨q,List.mem_filter.2 ⟨hq,by simp[e]⟩,rfl⟩,fun e=>this.1.resolve_left e⟩,fun e=>List.mem_map.2 ⟨q,List.mem_filter.2 ⟨hq,by rcases e with e|e<;>simp[e]⟩,rfl⟩,fun e e2=>this.2.resolve_left (fun h=>h.elim e e2)⟩
 have:=h h1 lZ hl _ h5
 rw[h2]at this
 intro a w M D _ ha hi
 refine wpIn_region_any hm (mh _ _ _ _ (this Q a _ M D (fun _ _ h=>h) ⟨hp,fun _ ρ h=>h ρ⟩ ha (hi.drawn _) (pG _ _) ⟨(hi.drawn _).lK,.inr ((hi.drawn _).left.kN hS),.inr ((hi.drawn _).left.kN XV)⟩))
theorem Ap (S:List Item) (l:List (Nat×Nat)) {id:Nat} {ops:Array Oper} (hm:P.follows .mixedOrders=true) (hB:xM ops l=true) (hS:Sub S O) (hp: ∀c ρ gX O,Q (.panic c) ρ O→Q (.panic c) gX O)
  (h:DO (fun c=> ∀ρ,Q (.panic c) ρ []) P r base n ops S (oB l) [] (mi l) l (fun ρ O=>Q .normal ρ O) ρ O):T P r base n (.region id ops true) Q ρ O:=
 sH S [] l hm hB hS (ck (cr _)) hp h
def IY (p:Nat→Prop):List Nat→Prop
 | []=>True
 |i::is=>p i∧IY p is
theorem IY.mem {p:Nat→Prop}: ∀ {is:List Nat},IY p is→ ∀i∈is,p i
 |i::is,h,j,hj=>by
  rcases List.mem_cons.1 hj with rfl|hj
  ·exact h.1
  ·exact IY.mem h.2 j hj
theorem bf {gv:Nat} {listed:Array Bool} (is:List Nat) (hr:Region.ready .any ops listed=is) (h0:is.isEmpty=false)
  (h:IY (fun i=> ∃o,ops[i]? =some o∧o.guard=none∧LT P r base n o ρ O (fun gX O'=>Sub S O'∧RO X P r base n ops S [] [] [] gv (listed.setIfInBounds i true) K gX O')) is):RO X P r base n ops S [] [] [] (gv+1) listed K ρ O:=by
 intro Q a w M D hq hp ha hI oO hS
 refine⟨fun h1=>?_,fun j hj=>?_⟩
 ·rw[hr]at h1;subst h1;cases h0
 obtain⟨o,hi,hg,hl⟩:=h.mem j (hr▸hj)
 unfold wpOpIn
 simp only[hi]
 rw[aJ (by simp[Region.wanted,hg])]
 refine hl a w _ _ ha hI _ _ fun a' gX O' w' h1 h2 h3=>?_
 have qw:je base S [] [] [] (listed.setIfInBounds j true) w':=⟨h2.lK,.inr (h2.left.kN h3.1),.inr h2.lK⟩
 exact⟨qw,h3.2 Q a' w' M D hq hp h1 h2 (jp oO hj) qw⟩
theorem cE {gv:Nat} {listed:Array Bool} (i:Nat) {d:Nat} {op:Op} {t:TypeId} {p:String} {af:Array Edge} {v:Value} (hi:ops[i]? =some ⟨some d,op,t,p,af,none⟩)
  (hb:(Region.noSelect ops&&ky ops&&Region.free .any ops listed i&&(Region.ready .any ops listed).contains i)=true)
  (h:QT P base ⟨some d,op,t,p,af,none⟩ ρ S v) (hk:RO X P r base n ops S [] [] [] gv (listed.setIfInBounds i true) K (pE ρ d v) O) (hn:Nat.blt d n=true:=by rfl):
  RO X P r base n ops S [] [] [] (gv+1) listed K ρ O:=by
 simp only[ay]at hb
 exact jR (zt:=[]) i hi (fun _ _ h=>h.one) (by simp) rfl hb.1.1.1 hb.1.1.2 (by simp) (by simp) hb.1.2 hb.2 (fun ds a ha=>.inl ⟨rfl,fun w hw=>by rw[ha.eval];exact h w hw⟩) hn hk
theorem gf {gv:Nat} {listed:Array Bool} (is:List Nat) (hr:Region.ready .any ops listed=is) (h0:is.isEmpty=false)
  (h:IY (fun i=> ∃o,ops[i]? =some o∧o.guard=none∧LT P r base n o ρ O (fun gX O'=>(i∈tail∨Sub S O')∧RO X P r base n ops S tail [] [] gv (listed.setIfInBounds i true) K gX O')) is) (ig:is.all (fun i=>Nat.blt i listed.size)=true):RO X P r base n ops S tail [] [] (gv+1) listed K ρ O:=by
 intro Q a w M D hq hp ha hI oO hS
 refine⟨fun h1=>?_,fun j hj=>?_⟩
 ·rw[hr]at h1;subst h1;cases h0
 obtain⟨o,hi,hg,hl⟩:=h.mem j (hr▸hj)
 have gw:j<listed.size:=by
  have:=List.all_eq_true.1 ig j (hr▸hj)
  rwa[Nat.blt_eq]at this
 unfold wpOpIn
 simp only[hi]
 rw[aJ (by simp[Region.wanted,hg])]
 refine hl a w _ _ ha hI _ _ fun a' gX O' w' h1 h2 h3=>?_
 have si:(tail.any fun b=>(listed.setIfInBounds j true).getD b false)=true∨Inv base S w':=by
  rcases h3.1 with h4|h4
  ·refine .inl (List.any_eq_true.2 ⟨j,h4,?_⟩)
   simp[gw]
  ·exact .inr (h2.left.kN h4)
 have qw:je base S tail [] [] (listed.setIfInBounds j true) w':=⟨h2.lK,si,.inr h2.lK⟩
 exact⟨qw,h3.2 Q a' w' M D hq hp h1 h2 (jp oO hj) qw⟩
theorem gJ {gv:Nat} {listed:Array Bool} (i:Nat) {d:Nat} {op:Op} {t:TypeId} {p:String} {af:Array Edge} {v:Value} (hi:ops[i]? =some ⟨some d,op,t,p,af,none⟩)
  (hb:(Region.noSelect ops&&ky ops&&Region.free .any ops listed i&&(Region.ready .any ops listed).contains i&&qv ops tail i&&!tail.contains i)=true)
  (h:QT P base ⟨some d,op,t,p,af,none⟩ ρ S v) (hk:RO X P r base n ops S tail [] [] gv (listed.setIfInBounds i true) K (pE ρ d v) O) (hn:Nat.blt d n=true:=by rfl):
  RO X P r base n ops S tail [] [] (gv+1) listed K ρ O:=by
 simp only[ay,Bool.not_eq_true',List.contains_eq_mem,decide_eq_false_iff_not]at hb
 exact jR (zt:=tail) i hi (fun _ _ h=>h.one) hb.2 hb.1.2 hb.1.1.1.1.1 hb.1.1.1.1.2 hb.2 (by simp) hb.1.1.1.2 (by simpa using hb.1.1.2) (fun ds a ha=>.inl ⟨rfl,fun w hw=>by rw[ha.eval];exact h w hw⟩) hn hk
theorem kX {gv:Nat} {listed:Array Bool} (i:Nat) {d:Nat} {op:Op} {t:TypeId} {p:String} {af:Array Edge} {v:Value} (hi:ops[i]? =some ⟨some d,op,t,p,af,none⟩)
  (hb:(Region.noSelect ops&&ky ops&&Region.free .any ops listed i&&(Region.ready .any ops listed).contains i&&!tail.contains i)=true)
  (h:QT P base ⟨some d,op,t,p,af,none⟩ ρ [] v) (hk:RO X P r base n ops S tail [] [] gv (listed.setIfInBounds i true) K (pE ρ d v) O) (hn:Nat.blt d n=true:=by rfl):
  RO X P r base n ops S tail [] [] (gv+1) listed K ρ O:=by
 simp only[ay,Bool.not_eq_true',List.contains_eq_mem,decide_eq_false_iff_not]at hb
 exact jR (zt:=[]) (Z:=[]) i hi (fun _ _ h=>.inr h.lK) (by simp) rfl hb.1.1.1.1 hb.1.1.1.2 hb.2 (by simp) hb.1.1.2 (by simpa using hb.1.2) (fun ds a ha=>.inl ⟨rfl,fun w hw=>by rw[ha.eval];exact h w hw⟩) hn hk
theorem IZ (S:List Item) (tail:List Nat) (m:Nat) {id:Nat} {ops:Array Oper} (hm:P.follows .mixedOrders=true) (rD:ops.size=m) (hS:Sub S O) (hp: ∀c ρ gX O,Q (.panic c) ρ O→Q (.panic c) gX O)
  (h:RO (fun c=> ∀ρ,Q (.panic c) ρ []) P r base n ops S tail [] [] m (Array.replicate m false) (fun ρ O=>Q .normal ρ O) ρ O):T P r base n (.region id ops true) Q ρ O:=by
 subst rD
 intro a w M D _ ha hi
 refine wpIn_region_any hm (mh _ _ _ _ (h Q a _ M D (fun _ _ h=>h) ⟨hp,fun _ ρ h=>h ρ⟩ ha (hi.drawn _) (pG _ _) ⟨(hi.drawn _).lK,.inr ((hi.drawn _).left.kN hS),.inr (hi.drawn _).lK⟩))
theorem oP (S:List Item) (m:Nat) {id:Nat} {ops:Array Oper} (hm:P.follows .mixedOrders=true) (rD:ops.size=m) (hS:Sub S O) (hp: ∀c ρ gX O,Q (.panic c) ρ O→Q (.panic c) gX O)
  (h:RO (fun c=> ∀ρ,Q (.panic c) ρ []) P r base n ops S [] [] [] m (Array.replicate m false) (fun ρ O=>Q .normal ρ O) ρ O):T P r base n (.region id ops true) Q ρ O:=by
 subst rD
 intro a w M D _ ha hi
 refine wpIn_region_any hm (mh _ _ _ _ (h Q a _ M D (fun _ _ h=>h) ⟨hp,fun _ ρ h=>h ρ⟩ ha (hi.drawn _) (pG _ _) ⟨(hi.drawn _).lK,.inr ((hi.drawn _).left.kN hS),.inr (hi.drawn _).lK⟩))
theorem RO.sub {O':List Item} {gv:Nat} {listed:Array Bool} (hs:Sub O' O) (h:RO X P r base n ops S tail S2 dw gv listed K ρ O'):RO X P r base n ops S tail S2 dw gv listed K ρ O:=
 fun Q a w M D hq hp ha hI oO hS=>h Q a w M D hq hp ha (hI.kN (by obtain⟨l,h1,h2⟩:=hs;exact⟨l++(mI D++M),h1.append_right _,h2.append (aY _)⟩)) oO hS
theorem dD {O':List Item} {gv:Nat} {listed:Array Bool} (hr:Region.ready .any ops listed=[]) (h:K ρ O') (hs:Sub O' O):RO X P r base n ops S tail S2 dw gv listed K ρ O:=RO.sub hs (Ao hr h)
end
def fT (P:Program) (t:TypeId) (z:Value) (s b:Nat):Prop:=(P.info? t).map (fun i=>(i.zero,i.size,i.bytes))=some (some z,s,b)
theorem fT.get {P:Program} {t:TypeId} {z:Value} {s b:Nat} (h:fT P t z s b): ∃i,P.info? t=some i∧i.zero=some z∧i.size=s∧i.bytes=b:=by
 unfold fT at h
 cases hi:P.info? t with
 |none=>rw[hi]at h;cases h
 |some i=>
  rw[hi]at h
  simp only[Option.map_some,Option.some.injEq,Prod.mk.injEq]at h
  exact⟨i,rfl,h.1,h.2.1,h.2.2⟩
theorem mj {P:Program} {t:TypeId} {i:TypeInfo} (h:P.info? t=some i) (w:World):(typeInfo t).run P w=.ok i w:=by
 unfold typeInfo;simp[h]
theorem cd {P:Program} {t:TypeId} {z:Value} {s b:Nat} (h:fT P t z s b) (w:World):(sizeOf t).run P w=.ok s w:=by
 obtain⟨i,hi,_,hs,_⟩:=h.get
 unfold sizeOf;simp[mj hi,hs]
theorem gM {P:Program} {t:TypeId} {z:Value} {s b:Nat} (h:fT P t z s b) (w:World):(zeroValue t).run P w=.ok z w:=by
 obtain⟨i,hi,hz,_,_⟩:=h.get
 unfold zeroValue;simp[mj hi,hz]
theorem bw {P:Program} {t:TypeId} {d:TypeDesc} (h:P.underlying t=some d) (w:World):(underlying t).run P w=.ok d w:=by
 unfold underlying;simp[h]
theorem run_equal_bool {P:Program} {T:TypeId} (h:P.underlying T=some .bool) (a b:Bool) (w:World):(Op.equal T (.bool a) (.bool b)).run P w=.ok (a==b) w:=by
 show(Op.equalIn (9999+1) T (.bool a) (.bool b)).run P w=_
 rw[Op.equalIn]
 simp[bw h]
def pH:TypeDesc→Bool
 | .struct _| .array _ _=>true
 |_=>false
theorem jw {P:Program} {t:TypeId} {d:TypeDesc} (h:P.underlying t=some d) (w:World):(isAgg t).run P w=.ok (pH d) w:=by
 unfold isAgg;simp[bw h];cases d<;>rfl
section
variable {P:Program} {base:World} {ρ:Env} {O:List Item} {dst:Option Nat} {t:TypeId} {p:String} {af:Array Edge} {g:Option (Nat×Bool)}
theorem aI {x:Operand} {v:Value} (h:ev ρ x=v:=by exact rfl):QT P base ⟨dst,.move x,t,p,af,g⟩ ρ O v:=fun w _=>by simp[execOp,h]
theorem cx {x:Operand} {v:Value} (h:ev ρ x=v:=by exact rfl):QT P base ⟨dst,.assign x,t,p,af,g⟩ ρ O v:=fun w _=>by simp[execOp,h]
theorem cU {x y:Operand} {T U:TypeId} {k:IntKind} {a b:Int} (hx:ev ρ x=.int k a:=by exact rfl) (hy:ev ρ y=.int k b:=by exact rfl):QT P base ⟨dst,.binOp .lss T x y U,t,p,af,g⟩ ρ O (.bool (decide (a<b))):=fun w _=>by
 simp[execOp,hx,hy,eqGuard,binOp,Op.intCmp]
theorem GY {x y:Operand} {T U:TypeId} {k:IntKind} {a b:Int} (hx:ev ρ x=.int k a:=by exact rfl) (hy:ev ρ y=.int k b:=by exact rfl):QT P base ⟨dst,.binOp .leq T x y U,t,p,af,g⟩ ρ O (.bool (decide (a≤b))):=fun w _=>by
 simp[execOp,hx,hy,eqGuard,binOp,Op.intCmp]
theorem ij {x y:Operand} {T U:TypeId} {k:IntKind} {a b:Int} (hx:ev ρ x=.int k a:=by exact rfl) (hy:ev ρ y=.int k b:=by exact rfl):QT P base ⟨dst,.binOp .gtr T x y U,t,p,af,g⟩ ρ O (.bool (decide (b<a))):=fun w _=>by
 simp[execOp,hx,hy,eqGuard,binOp,Op.intCmp]
theorem kV {x y:Operand} {T U:TypeId} {k:IntKind} {a b:Int} (hx:ev ρ x=.int k a:=by exact rfl) (hy:ev ρ y=.int k b:=by exact rfl):QT P base ⟨dst,.binOp .geq T x y U,t,p,af,g⟩ ρ O (.bool (decide (b≤a))):=fun w _=>by
 simp[execOp,hx,hy,eqGuard,binOp,Op.intCmp]
theorem bK {x y:Operand} {T U:TypeId} {k:IntKind} {a b:Int} (hx:ev ρ x=.int k a:=by exact rfl) (hy:ev ρ y=.int k b:=by exact rfl):QT P base ⟨dst,.binOp .eql T x y U,t,p,af,g⟩ ρ O (.bool (decide (a=b))):=fun w _=>by
 simp[execOp,hx,hy,eqGuard,binOp,Op.intCmp];rfl
theorem dW {x y:Operand} {T U:TypeId} {k:IntKind} {a b:Int} (hx:ev ρ x=.int k a:=by exact rfl) (hy:ev ρ y=.int k b:=by exact rfl):QT P base ⟨dst,.binOp .neq T x y U,t,p,af,g⟩ ρ O (.bool (decide (a≠b))):=fun w _=>by
 simp[execOp,hx,hy,eqGuard,binOp,Op.intCmp,bne];rfl
theorem XW {x y:Operand} {T U:TypeId} {k:IntKind} {a b:Int} (hx:ev ρ x=.int k a) (hy:ev ρ y=.int k b):QT P base ⟨dst,.binOp .add T x y U,t,p,af,g⟩ ρ O (.int k (k.wrap (a+b))):=fun w _=>by
 simp[execOp,hx,hy,eqGuard,binOp,Op.intArith]
theorem R6 {x y:Operand} {T U:TypeId} {k:IntKind} {a b:Int} (hx:ev ρ x=.int k a) (hy:ev ρ y=.int k b):QT P base ⟨dst,.binOp .sub T x y U,t,p,af,g⟩ ρ O (.int k (k.wrap (a-b))):=fun w _=>by
 simp[execOp,hx,hy,eqGuard,binOp,Op.intArith]
theorem gD {n:Int} (h: -9223372036854775808≤n∧n≤9223372036854775807):IntKind.i64.wrap n=n:=IntWalk.i64_in n h
theorem jx {x y:Operand} {T U:TypeId} {a b:Int} (hx:ev ρ x=.int .i64 a) (hy:ev ρ y=.int .i64 b) (h: -9223372036854775808≤a+b∧a+b≤9223372036854775807):
  QT P base ⟨dst,.binOp .add T x y U,t,p,af,g⟩ ρ O (.int .i64 (a+b)):=by have:=XW (P:=P) (base:=base) (O:=O) (dst:=dst) (t:=t) (p:=p) (af:=af) (g:=g) (T:=T) (U:=U) hx hy;rwa[gD h]at this
theorem fI {x y:Operand} {T U:TypeId} {a b:Int} (hx:ev ρ x=.int .i64 a) (hy:ev ρ y=.int .i64 b) (h: -9223372036854775808≤a-b∧a-b≤9223372036854775807):
  QT P base ⟨dst,.binOp .sub T x y U,t,p,af,g⟩ ρ O (.int .i64 (a-b)):=by have:=R6 (P:=P) (base:=base) (O:=O) (dst:=dst) (t:=t) (p:=p) (af:=af) (g:=g) (T:=T) (U:=U) hx hy;rwa[gD h]at this
theorem lR {x y:Operand} {T U:TypeId} {a:Nat} (hx:ev ρ x=.int .i64 (a:Int)) (hy:ev ρ y=.int .i64 1) (h:a<9223372036854775807):
  QT P base ⟨dst,.binOp .add T x y U,t,p,af,g⟩ ρ O (.int .i64 ((a+1:Nat):Int)):=by
 have:=jx (P:=P) (base:=base) (O:=O) (dst:=dst) (t:=t) (p:=p) (af:=af) (g:=g) (T:=T) (U:=U) hx hy (by omega);rwa[←Int.natCast_succ]at this
theorem iV {x:Operand} {T:TypeId} {b:Bool} (hx:ev ρ x=.bool b:=by exact rfl):QT P base ⟨dst,.unOp .not T x,t,p,af,g⟩ ρ O (.bool !b):=fun w _=>by
 simp[execOp,hx,Op.unary]
theorem TT {x y:Operand} {T U:TypeId} {a b:Bool} (hu:P.underlying T=some .bool) (hx:ev ρ x=.bool a) (hy:ev ρ y=.bool b):QT P base ⟨dst,.binOp .eql T x y U,t,p,af,g⟩ ρ O (.bool (a==b)):=fun w _=>by
 simp[execOp,hx,hy,eqGuard,binOp,run_equal_bool hu]
theorem K8 {x y:Operand} {T U:TypeId} {a b:Bool} (hu:P.underlying T=some .bool) (hx:ev ρ x=.bool a) (hy:ev ρ y=.bool b):QT P base ⟨dst,.binOp .neq T x y U,t,p,af,g⟩ ρ O (.bool (a !=b)):=fun w _=>by
 simp[execOp,hx,hy,eqGuard,binOp,run_equal_bool hu,bne]
theorem K9 {x:Operand} {S D:TypeId} {ds:TypeDesc} {k k':IntKind} {a:Int} (hs:P.underlying S=some ds) (hd:P.underlying D=some (.int k)) (hx:ev ρ x=.int k' a):
  QT P base ⟨dst,.convert S D x,t,p,af,g⟩ ρ O (.int k (k.wrap a)):=fun w _=>by
 simp[execOp,hx,convert,bw hs,bw hd,Conv.intToInt]
theorem fU {x:Operand} {S D:TypeId} {ds:TypeDesc} {k k':IntKind} {a:Int} (hs:P.underlying S=some ds) (hd:P.underlying D=some (.int k)) (hx:ev ρ x=.int k' a) (hw:k.wrap a=a):
  QT P base ⟨dst,.convert S D x,t,p,af,g⟩ ρ O (.int k a):=by have:=K9 (P:=P) (base:=base) (O:=O) (dst:=dst) (t:=t) (p:=p) (af:=af) (g:=g) hs hd hx;rwa[hw]at this
theorem cQ {x:Operand} {T:TypeId} {E:TypeId} {b:Option Addr} {n c:Nat} (hu:P.underlying T=some (.slice E)) (hx:ev ρ x=.slice b n c:=by exact rfl):
  QT P base ⟨dst,.call ⟨.builtin .len,#[x],#[T]⟩,t,p,af,g⟩ ρ O (.int .i64 (n:Int)):=fun w _=>by
 simp[execOp,resolve,hx,invoke,builtin,Builtin.len_,bw hu,goInt]
theorem bI {x:Operand} {i:Nat} {vs:List Value} {v:Value} (hx:ev ρ x=.tuple vs.toArray:=by exact rfl) (hv:vs[i]? =some v:=by exact rfl):QT P base ⟨dst,.extract x i,t,p,af,g⟩ ρ O v:=fun w _=>by
 simp[execOp,hx,Instr.extract,hv]
theorem dx {fn:Fn} {first captured:List Operand}:QT P base ⟨dst,.makeFunc fn first.toArray captured.toArray,t,p,af,g⟩ ρ O (.func fn (IS ρ first).toArray (IS ρ captured).toArray):=fun w _=>by
 simp[execOp,Instr.makeFunc,K4]
theorem bt {x:Operand} {S:TypeId} {fs:Array Field} {i:Nat} {f:Field} {b o:Nat} {z:Value} {s gQ:Nat} {E:TypeId} (hu:P.underlying S=some (.struct fs)) (hi:fT P E z s gQ) (hf:fs[i]? =some f:=by exact rfl) (hs:(s==0)=false:=by exact rfl) (hx:ev ρ x=.pointer (some ⟨b,o,none⟩):=by exact rfl) (TU:f.type=E:=by exact rfl):QT P base ⟨dst,.fieldAddr S x i,t,p,af,g⟩ ρ O (.pointer (some ⟨b,o+f.offset,none⟩)):=fun w _=>by
 subst TU
 have TV:s≠0:=by simpa using hs
 simp[execOp,hx,Instr.fieldAt,bw hu,hf,Instr.sureAddr,fieldPlace,cd hi,TV,Addr.add]
 try (intro h;simp[h])
theorem vW {x y:Operand} {T E:TypeId} {b o n c i:Nat} {k:IntKind} {z:Value} {s gQ:Nat} (hu:P.underlying T=some (.slice E)) (hi:fT P E z s gQ) (hx:ev ρ x=.slice (some ⟨b,o,none⟩) n c) (hy:ev ρ y=.int k (i:Int)) (gw:i<n):
  QT P base ⟨dst,.indexAddr T x y,t,p,af,g⟩ ρ O (.pointer (some ⟨b,o+i*s,none⟩)):=fun w _=>by
 have h2:(i:Int)<(n:Int):=by omega
 simp[execOp,hx,hy,Instr.indexAt,asIntOf,bw hu,gw,cd hi,Addr.add]
 try (intro h;rcases h with h|h<;>simp[h])
theorem qx {x:Operand} {T:TypeId} {d:TypeDesc} {b o:Nat} {v:Value} (hu:P.underlying T=some d) (ha:pH d=false) (hx:ev ρ x=.pointer (some ⟨b,o,none⟩))
  (hc: ∀w,Inv base O w→w.cell? ⟨b,o,none⟩=some v):QT P base ⟨dst,.load T x,t,p,af,g⟩ ρ O v:=fun w hI=>by
 simp[execOp,hx,Instr.loadAt,Instr.sureAddr,loadVar,jw hu,ha,hc w hI]
theorem ml {P:Program} {w:World} {a:Addr}: ∀(cs:List Value) (i:Nat) (iH:Array Value),(∀j (h:j<cs.length),w.cell? (a.add (i+j))=some cs[j])→
  (loadCellsFrom a i cs.length iH).run P w=.ok (iH++cs.toArray) w
 | [],i,iH,_=>by simp[loadCellsFrom]
 |v::cs,i,iH,h=>by
  have h0:w.cell? (a.add i)=some v:=h 0 (by simp)
  have ih:=ml (P:=P) cs (i+1) (iH.push v) (fun j hj=>by have:=h (j+1) (by simp;omega);simpa[Nat.add_assoc,Nat.add_comm 1 j]using this)
  simp only[bG,loadCellsFrom,Sem.run_bind,run_load,h0,Result.andThen_ok,ih]
  simp
theorem xO {x:Operand} {T:TypeId} {d:TypeDesc} {b o:Nat} {cs:List Value} {z:Value} {s gQ:Nat} (hu:P.underlying T=some d) (ha:pH d=true) (hi:fT P T z s gQ) (hx:ev ρ x=.pointer (some ⟨b,o,none⟩)) (hl:cs.length=s)
  (hc: ∀w,Inv base O w→ ∀j (h:j<cs.length),w.cell? ⟨b,o+j,none⟩=some cs[j]):QT P base ⟨dst,.load T x,t,p,af,g⟩ ρ O (.agg cs.toArray):=fun w hI=>by
 have h:=ml (P:=P) (w:=w) (a:=⟨b,o,none⟩) cs 0 #[] (fun j hj=>by
  have:=hc w hI j hj
  simp only[Nat.zero_add,Addr.add]
  split<;>rename_i e
  ·subst e;simpa using this
  ·exact this)
 simp[execOp,hx,Instr.loadAt,Instr.sureAddr,loadVar,jw hu,ha,cd hi,loadCells,←hl,h]
end
def Sl (w:World) (b:Option Addr) (cs:List Value):Prop:= ∀i (h:i<cs.length),∃a,b=some a∧a.spot=none∧w.cell? ⟨a.block,a.off+i,none⟩=some cs[i]
theorem Sl.nil (w:World) (b:Option Addr):Sl w b []:=fun i h=>by simp at h
theorem Sl.keep {w w':World} {b:Option Addr} {cs:List Value} (h:Sl w b cs) (hb: ∀k,k<w.heap.size→w'.heap[k]? =w.heap[k]?):Sl w' b cs:=fun i hi=>by
 obtain⟨a,h1,h2,h3⟩:=h i hi
 refine⟨a,h1,h2,?_⟩
 have gw:=World.block_lt_of_cell? _ _ h3
 unfold World.cell? at h3⊢
 rw[hb _ gw]
 exact h3
theorem Sl.below {w w':World} {b:Option Addr} {cs:List Value} (h:Sl w b cs) (hb:Below w.heap.size w w'):Sl w' b cs:=h.keep hb.block
theorem Inv.sl {base:World} {O:List Item} {w:World} (hI:Inv base O w) {b:Option Addr} {cs:List Value} (h:Sl base b cs):Sl w b cs:=h.below hI.below
theorem Sl.addr {w:World} {b:Option Addr} {cs:List Value} (h:Sl w b cs) {i:Nat} (hi:i<cs.length): ∃k o,b=some ⟨k,o,none⟩:=by
 obtain⟨⟨k,o,s⟩,h1,h2,_⟩:=h i hi
 simp only at h2;subst h2
 exact⟨k,o,h1⟩
theorem Sl.get {w:World} {k o:Nat} {cs:List Value} (h:Sl w (some ⟨k,o,none⟩) cs) {i:Nat} {v:Value} (hv:cs[i]? =some v):w.cell? ⟨k,o+i,none⟩=some v:=by
 obtain⟨hi,e⟩:=List.getElem?_eq_some_iff.1 hv
 obtain⟨a,h1,_,h3⟩:=h i hi
 cases h1
 rw[h3,e]
def rowP (b:Option Addr) (c:Nat) (T:TypeId) (k:Nat) (cs:List Value) (w:World):Prop:=
 match b with
 |none=>cs=[]∧c=0
 |some a=>a.spot=none∧ ∃full,w.heap[a.block]? =some (.cells full T (0,0))∧cs.length≤c*k∧a.off+c*k≤full.size∧ ∀i (h:i<cs.length),full[a.off+i]? =some cs[i]
def av (b:Option Addr) (c:Nat) (T:TypeId) (k:Nat) (cs:List Value):Item where
 blocks:=match b with|none=>[]|some a=>[a.block]
 P:=rowP b c T k cs
 loc:=fun w w' h hp=>by
  cases b with
  |none=>exact hp
  |some a=>
   obtain⟨h1,full,h2,h3⟩:=hp
   exact⟨h1,full,(h a.block (by simp)).trans h2,h3⟩
theorem rowP.sl {b:Option Addr} {c:Nat} {T:TypeId} {k:Nat} {cs:List Value} {w:World} (h:rowP b c T k cs w):Sl w b cs:=fun i hi=>by
 cases b with
 |none=>rw[h.1]at hi;simp at hi
 |some a=>
  obtain⟨h1,full,h2,_,_,h5⟩:=h
  refine⟨a,rfl,h1,?_⟩
  unfold World.cell?
  simp[h2,h5 i hi]
theorem Inv.row {base:World} {O:List Item} {w:World} (hI:Inv base O w) {i:Nat} {b:Option Addr} {c:Nat} {T:TypeId} {k:Nat} {cs:List Value} (h:O[i]? =some (av b c T k cs)):rowP b c T k cs w:=
 hI.holds _ (bJ h)
theorem Inv.vX {base:World} {O:List Item} {w:World} (hI:Inv base O w) {i:Nat} {b:Nat} {o:Obj} (h:O[i]? =some (dY b o)):w.heap[b]? =some o:=
 hI.holds _ (bJ h)
section
variable {P:Program} {base:World} {ρ:Env} {O:List Item} {dst:Option Nat} {t:TypeId} {p:String} {af:Array Edge} {g:Option (Nat×Bool)}
theorem bq (i:Nat) {x:Operand} {T E:TypeId} {d:TypeDesc} {b o:Nat} {cs:List Value} {fr:Nat×Nat} {v:Value} (hu:P.underlying T=some d) (ha:pH d=false:=by exact rfl) (hx:ev ρ x=.pointer (some ⟨b,o,none⟩):=by exact rfl)
  (hO:O[i]? =some (dY b (.cells cs.toArray E fr)):=by exact rfl) (hv:cs[o]? =some v:=by exact rfl):QT P base ⟨dst,.load T x,t,p,af,g⟩ ρ O v:=
 qx hu ha hx fun w hI=>by have:=hI.vX hO;unfold World.cell?;simp[this,hv]
theorem eN {x:Operand} {T E:TypeId} {d:TypeDesc} {b:Nat} {cs:List Value} {fr:Nat×Nat} {z:Value} {s gQ:Nat} (i:Nat) (hu:P.underlying T=some d) (hi:fT P T z s gQ) (ha:pH d=true:=by exact rfl) (hx:ev ρ x=.pointer (some ⟨b,0,none⟩):=by exact rfl) (hO:O[i]? =some (dY b (.cells cs.toArray E fr)):=by exact rfl) (hl:cs.length=s:=by exact rfl):QT P base ⟨dst,.load T x,t,p,af,g⟩ ρ O (.agg cs.toArray):=
 xO hu ha hi hx hl fun w hI j hj=>by have:=hI.vX hO;unfold World.cell?;simp[this]
theorem nm {x:Operand} {T:TypeId} {d:TypeDesc} {b o i:Nat} {cs:List Value} {v:Value} (hu:P.underlying T=some d) (ha:pH d=false) (hx:ev ρ x=.pointer (some ⟨b,o+i,none⟩))
  (hs:Sl base (some ⟨b,o,none⟩) cs) (hv:cs[i]? =some v):QT P base ⟨dst,.load T x,t,p,af,g⟩ ρ O v:=
 qx hu ha hx fun _ hI=>(hI.sl hs).get hv
end
def fF:Value→Bool
 | .agg _| .tuple _=>false
 |_=>true
def eZ (cs:List Value):Nat→List Value→List Value
 |_,[]=>cs
 |o,v::vs=>eZ (cs.set o v) (o+1) vs
theorem iM (vs:List Value): ∀(cs:List Value) (o:Nat),(eZ cs o vs).length=cs.length:=by
 induction vs with
 |nil=>intro cs o;rfl
 |cons v vs ih=>intro cs o;simp[eZ,ih]
theorem nB (vs:List Value): ∀(cs:List Value) (o i:Nat),o+vs.length≤cs.length→(eZ cs o vs)[i]? =if o≤i∧i<o+vs.length then vs[i-o]? else cs[i]? :=by
 induction vs with
 |nil=>intro cs o i h;simp[eZ];intro h1 h2;omega
 |cons v vs ih=>
  intro cs o i h
  simp only[eZ,bG]at h⊢
  rw[ih _ _ _ (by simp;omega)]
  by_cases h1:o+1≤i∧i<o+1+vs.length
  ·rw[aJ h1,aJ (by omega)]
   have:i-o=(i-(o+1))+1:=by omega
   rw[this];simp
  ·rw[aA h1]
   by_cases h2:i=o
   ·subst h2
    rw[aJ (by omega)]
    simp
    rw[List.getElem?_set_self (by omega)]
   ·rw[aA (by omega),List.getElem?_set_ne (by omega)]
def j7 (w:World) (b:Nat) (o:Obj):World:= {w with heap:=w.heap.setIfInBounds b o}
theorem l6 {w:World} {b:Nat} {o:Obj} (h:b<w.heap.size):(j7 w b o).heap[b]? =some o:=by simp[j7,h]
theorem sI {w:World} {b k:Nat} {o:Obj} (h:k≠b):(j7 w b o).heap[k]? =w.heap[k]? :=by simp[j7,Array.getElem?_setIfInBounds_ne (Ne.symm h)]
theorem u5 {w:World} {b:Nat} {o:Obj}:(j7 w b o).heap.size=w.heap.size:=by simp[j7]
theorem tN {w:World} {b o:Nat} {v:Value} {cs:List Value} {T:TypeId} {fr:Nat×Nat} (h:w.heap[b]? =some (.cells cs.toArray T fr)):w.setCell ⟨b,o,none⟩ v=j7 w b (.cells (cs.set o v).toArray T fr):=by
 unfold World.setCell j7
 congr 1
 apply Array.ext_getElem?
 intro i
 rw[Array.getElem?_modify]
 by_cases e:b=i
 ·subst e
  obtain⟨gw,e⟩:=Array.getElem?_eq_some_iff.1 h
  simp[gw,e]
 ·simp[e,Array.getElem?_setIfInBounds_ne e]
theorem Aq {w:World} {b:Nat} {o o':Obj}:j7 (j7 w b o) b o'=j7 w b o':=by
 unfold j7;simp
theorem Fw {P:Program} {w:World} {b o:Nat} {v:Value} {cs:List Value} {T:TypeId} (h:w.heap[b]? =some (.cells cs.toArray T (0,0))) (ho:o<cs.length) (hv:fF v=true):
  (store ⟨b,o,none⟩ v).run P w=.ok () (j7 w b (.cells (cs.set o v).toArray T (0,0))):=by
 have hc:w.cell? ⟨b,o,none⟩=some cs[o]:=by unfold World.cell?;simp[h,ho]
 have hf:w.frozen? ⟨b,o,none⟩=false:=by unfold World.frozen?;simp[h]
 have hv':v.oneCell'=true:=by cases v<;>simp_all[fF,Value.oneCell']
 rw[run_store P w _ _ _ hv',hc]
 simp[hf,tN h]
theorem lu {P:Program} {b o:Nat} {T:TypeId}: ∀(vs:List Value) (cs:List Value) (i:Nat) (w:World),w.heap[b]? =some (.cells cs.toArray T (0,0))→o+i+vs.length≤cs.length→(vs.all fF)=true→
  (storeCells ⟨b,o,none⟩ vs i).run P w=.ok () (j7 w b (.cells (eZ cs (o+i) vs).toArray T (0,0)))
 | [],cs,i,w,h,_,_=>by
  have:j7 w b (.cells cs.toArray T (0,0))=w:=by
   unfold j7
   have:w.heap.setIfInBounds b (.cells cs.toArray T (0,0))=w.heap:=by
    apply Array.ext_getElem?
    intro k
    by_cases e:b=k
    ·subst e
     obtain⟨gw,e⟩:=Array.getElem?_eq_some_iff.1 h
     simp[gw,e]
    ·rw[Array.getElem?_setIfInBounds_ne e]
   rw[this]
  simp[storeCells,eZ,this]
 |v::vs,cs,i,w,h,hl,hv=>by
  simp only[bG,List.all_cons,ay]at hl hv
  have e:(Addr.add ⟨b,o,none⟩ i)=⟨b,o+i,none⟩:=by
   unfold Addr.add;split<;>rename_i h<;>first|(subst h;rfl)|rfl
  have h1:=Fw (P:=P) h (o:=o+i) (v:=v) (by omega) hv.1
  have gw:=(Array.getElem?_eq_some_iff.1 h).1
  have h2:=lu (P:=P) (b:=b) (o:=o) (T:=T) vs (cs.set (o+i) v) (i+1) (j7 w b (.cells (cs.set (o+i) v).toArray T (0,0))) (l6 gw) (by simp;omega) hv.2
  simp only[storeCells,e,Sem.run_bind,h1,Result.andThen_ok,h2,Aq,eZ]
  rfl
section
variable {P:Program} {r:Option Nat} {base:World} {n:Nat} {ρ:Env} {O:List Item} {K:Env→List Item→Prop} {d:Nat} {t:TypeId} {p:String} {af:Array Edge} {g:Option (Nat×Bool)}
theorem nC {M:List Item} {j:Nat} {it:Item} (h:O[j]? =some it):(O++M)[j]? =some it:=by
 rw[bE (List.getElem?_eq_some_iff.1 h).1];exact h
theorem pI {M:List Item} {j:Nat} {it:Item} (h:O[j]? =some it) (x:Item):(O++M).set j x=O.set j x++M:=
 List.set_append_left _ _ (List.getElem?_eq_some_iff.1 h).1
theorem jq {op:Op} (hn:Nat.blt d n=true)
  (h: ∀w M,Inv base (O++M) w→ ∃v w' O',(execOp (ev ρ) ⟨some d,op,t,p,af,g⟩).run P w=.ok (.value v) w'∧Inv base (O'++M) w'∧K (pE ρ d v) O'):LT P r base n ⟨some d,op,t,p,af,g⟩ ρ O K:=by
 intro a w M ds ha hi next Qx fy
 obtain⟨v,w',O',hr,hI,hK⟩:=h w M hi
 rw[←ha.eval]at hr
 refine mg (xK hr (by simp)) ?_
 rw[hr]
 exact fy _ _ _ _ (ha.put hn v) hI hK
theorem mW {op:Op}
  (h: ∀w M,Inv base (O++M) w→ ∃w' O',(execOp (ev ρ) ⟨none,op,t,p,af,g⟩).run P w=.ok .skip w'∧Inv base (O'++M) w'∧K ρ O'):LT P r base n ⟨none,op,t,p,af,g⟩ ρ O K:=by
 intro a w M ds ha hi next Qx fy
 obtain⟨w',O',hr,hI,hK⟩:=h w M hi
 rw[←ha.eval]at hr
 refine mg (xK hr (by simp)) ?_
 rw[hr]
 exact fy _ _ _ _ ha hI hK
theorem Sub.sJ {O' M:List Item} (h:Sub O' O):Sub (O'++M) (O++M):=by
 obtain⟨l,hp,hs⟩:=h
 exact⟨l++M,hp.append_right M,hs.append (aY M)⟩
theorem Inv.fq {w:World} (h:Inv base O w) (E:TypeId) (k:Nat):Inv base (av none 0 E k []::O) w:=
 Inv.new (N:=[av none 0 E k []]) h rfl rfl rfl (aS _) (fun _ _=>rfl) (by simp[av,rowP]) (by simp[av]) (by simp[av])
theorem T.fq {c:Code} {Q:ll} (E:TypeId) (k:Nat) (h:T P r base n c Q ρ (av none 0 E k []::O)):T P r base n c Q ρ O:=
 fun a w M D hM ha hi=>h a w M D hM ha (hi.fq E k)
theorem dc {c:Code} {Q:ll} {O':List Item} (hs:Sub O' O) (h:T P r base n c Q ρ O'):T P r base n c Q ρ O:=
 fun a w M D hM ha hi=>h a w M D hM ha (hi.kN hs.sJ)
theorem bs {E:TypeId} {z:Value} {s gQ:Nat} {cs:List Value} (hi:fT P E z s gQ) (h: ∀b,K (pE ρ d (.pointer (some ⟨b,0,none⟩))) (dY b (.cells cs.toArray E (0,0))::O)) (hz:z.cells=cs.toArray:=by exact rfl) (hn:Nat.blt d n=true:=by rfl):LT P r base n ⟨some d,.alloc E,t,p,af,g⟩ ρ O K:=
 jq hn fun w M hI=>⟨_,_,_,by simp[execOp,Instr.alloc,gM hi,newVar,newRow,hz],hI.alloc _,h _⟩
theorem dE {E:TypeId} {x:Operand} {v:Value} {cs:List Value} (h: ∀b,K (pE ρ d (.pointer (some ⟨b,0,none⟩))) (dY b (.cells cs.toArray E (0,0))::O)) (hx:ev ρ x=v:=by exact rfl) (hv:v.cells=cs.toArray:=by exact rfl) (hn:Nat.blt d n=true:=by rfl):LT P r base n ⟨some d,.box E x,t,p,af,g⟩ ρ O K:=
 jq hn fun w M hI=>⟨_,_,_,by simp[execOp,Instr.box,newVar,newRow,hx,hv],hI.alloc _,h _⟩
theorem Inv.TW {w:World} (hI:Inv base O w) {i:Nat} {b:Nat} {o:Obj} (hO:O[i]? =some (dY b o)) (o':Obj):Inv base (O.set i (dY b o')) (j7 w b o'):=by
 have hb:=hI.vX hO
 have gw:=(Array.getElem?_eq_some_iff.1 hb).1
 refine hI.sE hO rfl rfl rfl (by rw[u5];exact aS _) (fun k _ hk=>sI (fun e=>hk (by simp[dY,e]))) (l6 gw) (fun k hk=>.inl hk) (by simp[dY])
theorem Inv.setRow {w:World} (hI:Inv base O w) {i b o c:Nat} {T:TypeId} {k:Nat} {cs Bn:List Value} {full:Array Value} (hO:O[i]? =some (av (some ⟨b,o,none⟩) c T k cs)) (hl:Bn.length≤c*k)
  (hf:o+c*k≤full.size) (hc: ∀j (h:j<Bn.length),full[o+j]? =some Bn[j]):Inv base (O.set i (av (some ⟨b,o,none⟩) c T k Bn)) (j7 w b (.cells full T (0,0))):=by
 obtain⟨_,afe,hb,_,_⟩:=hI.row hO
 have gw:=(Array.getElem?_eq_some_iff.1 hb).1
 refine hI.sE hO rfl rfl rfl (by rw[u5];exact aS _) (fun k _ hk=>sI (fun e=>hk (by simp[av,e]))) ⟨rfl,full,l6 gw,hl,hf,hc⟩ (fun k hk=>.inl hk) (by simp[av])
theorem tO {T:TypeId} {z:Value} {s gQ b o:Nat} {v:Value} {vs cs:List Value} {E:TypeId} {w:World} (hi:fT P T z s gQ) (hv:v.cells=vs.toArray) (hl:vs.length=s) (ho:(vs.all fF)=true)
  (h:w.heap[b]? =some (.cells cs.toArray E (0,0))) (hr:o+vs.length≤cs.length):(storeVar T ⟨b,o,none⟩ v).run P w=.ok () (j7 w b (.cells (eZ cs o vs).toArray E (0,0))):=by
 have:=lu (P:=P) (b:=b) (o:=o) (T:=E) vs cs 0 w h (by omega) ho
 unfold storeVar
 simp[cd hi,hv,hl]
 exact this
theorem u6 (i:Nat) {T E:TypeId} {x y:Operand} {b o:Nat} {v:Value} {vs cs:List Value} {z:Value} {s gQ:Nat} (hi:fT P T z s gQ) (hx:ev ρ x=.pointer (some ⟨b,o,none⟩)) (hy:ev ρ y=v) (hv:v.cells=vs.toArray) (hl:vs.length=s) (ho:(vs.all fF)=true)
  (hO:O[i]? =some (dY b (.cells cs.toArray E (0,0)))) (hr:o+vs.length≤cs.length)
  (h:K ρ (O.set i (dY b (.cells (eZ cs o vs).toArray E (0,0))))):LT P r base n ⟨none,.store T x y,t,p,af,g⟩ ρ O K:=
 mW fun w M hI=>⟨j7 w b (.cells (eZ cs o vs).toArray E (0,0)),_,by
  simp only[execOp,hx,hy,Instr.storeAt,Instr.sureAddr]
  simp[tO hi hv hl ho (hI.vX (nC hO)) hr],by have:=hI.TW (nC hO) (.cells (eZ cs o vs).toArray E (0,0));rwa[pI hO]at this,h⟩
theorem CN (i:Nat) {T E:TypeId} {x y:Operand} {b o j c k:Nat} {v:Value} {vs cs:List Value} {z:Value} {s gQ:Nat} (hi:fT P T z s gQ) (hx:ev ρ x=.pointer (some ⟨b,o+j,none⟩)) (hy:ev ρ y=v) (hv:v.cells=vs.toArray) (hl:vs.length=s) (ho:(vs.all fF)=true)
  (hO:O[i]? =some (av (some ⟨b,o,none⟩) c E k cs)) (hr:j+vs.length≤cs.length)
  (h:K ρ (O.set i (av (some ⟨b,o,none⟩) c E k (eZ cs j vs)))):LT P r base n ⟨none,.store T x y,t,p,af,g⟩ ρ O K:=
 mW fun w M hI=>by
  obtain⟨_,full,hb,h1,h2,h3⟩:=hI.row (nC hO)
  simp only at hb h2 h3
  obtain⟨fl,rfl⟩: ∃fl:List Value,full=fl.toArray:=⟨full.toList,by simp⟩
  simp only[List.size_toArray]at h2
  refine⟨j7 w b (.cells (eZ fl (o+j) vs).toArray E (0,0)),_,?_,pI hO (av (some ⟨b,o,none⟩) c E k (eZ cs j vs))▸hI.setRow (nC hO) (Bn:=eZ cs j vs) (by rw[iM];exact h1) (by simp[iM];exact h2) ?_,h⟩
  ·have TK:o+j+vs.length≤fl.length:=by omega
   simp only[execOp,hx,hy,Instr.storeAt,Instr.sureAddr]
   simp[tO hi hv hl ho hb TK]
  ·intro m hm
   rw[iM]at hm
   have e1:(eZ fl (o+j) vs).toArray[o+m]? =(eZ fl (o+j) vs)[o+m]? :=by simp
   have e2:(eZ cs j vs)[m]? =some ((eZ cs j vs)[m]'(by rw[iM];exact hm)):=ap _
   rw[e1,←e2,nB vs fl (o+j) (o+m) (by omega),nB vs cs j m (by omega)]
   by_cases Fx:j≤m∧m<j+vs.length
   ·rw[aJ Fx,aJ (by omega)]
    congr 1;omega
   ·rw[aA Fx,aA (by omega)]
    have:=h3 m hm
    simpa[ap hm]using this
theorem sK {α:Type} (f:Nat→α):(Array.range 0).map f= #[]:=by simp
theorem rE (z:Value) (m:Nat):((Array.range m).map fun i=>(#[z]:Array Value)[i%(#[z]:Array Value).size]!)=(List.replicate m z).toArray:=by
 apply Array.ext_getElem?
 intro i
 rw[Array.getElem?_map,Array.getElem?_range]
 by_cases h:i<m
 ·simp[h,Nat.mod_one]
 ·simp[h]
theorem cX {T E:TypeId} {x:Operand} {k:IntKind} {m:Nat} {z:Value} {gQ:Nat} (hu:P.underlying T=some (.slice E)) (hi:fT P E z 1 gQ) (hz:z.cells= #[z]) (hx:ev ρ x=.int k (m:Int)) (hm:m*gQ≤140737488355328) (hm':m≤9223372036854775807)
  (h: ∀b,K (pE ρ d (.slice (some ⟨b,0,none⟩) m m)) (av (some ⟨b,0,none⟩) m E 1 (List.replicate m z)::O)) (hn:Nat.blt d n=true:=by rfl):LT P r base n ⟨some d,.makeSlice T x x,t,p,af,g⟩ ρ O K:=
 jq hn fun w M hI=>by
  obtain⟨i,hi1,IW,hi3,hi4⟩:=hi.get
  have hw:IntKind.i64.wrap (m:Int)=(m:Int):=gD (by omega)
  have TP: ¬((gQ:Int)*(m:Int)>2^48):=by
   have h1:((m*gQ:Nat):Int)≤140737488355328:=Int.ofNat_le.2 hm
   rw[Nat.mul_comm,Int.natCast_mul]at h1
   have h2:(2:Int)^48=281474976710656:=by rfl
   rw[h2];omega
  have XX:decide ((gQ:Int)*(m:Int)>2^48)=false:=am TP
  refine⟨.slice (some ⟨w.heap.size,0,none⟩) m m,w.alloc (.cells (List.replicate m z).toArray E),_,?_,Inv.new (O:=O++M) (w':=w.alloc (.cells (List.replicate m z).toArray E)) (N:=[av (some ⟨w.heap.size,0,none⟩) m E 1 (List.replicate m z)]) hI rfl rfl rfl (by simp) (fun b hb=>Below.heap_alloc w _ b hb) ?_ ?_ ?_,h _⟩
  ·have acm:decide ((m:Int)<0)=false:=by simp
   simp only[execOp,hx,Instr.makeSlice,Sem.run_bind,bw hu,Result.andThen_ok,asInt,asIntOf,Sem.run_pure,mj hi1,hi4,hw,XX,acm,Bool.or_false,Bool.or_self,Int.lt_irrefl,gt_iff_lt,decide_false,Bool.false_eq_true,if_false,run_askRoom,cd hi,Nat.mul_one,Int.toNat_natCast]
   by_cases h0:m=0
   ·subst h0
    simp[newRow,sK]
   ·simp[h0,hz,newRow,gM hi]
    have:=rE z m
    simp at this
    rw[this]
  ·intro x hx
   simp at hx;subst hx
   refine⟨rfl,(List.replicate m z).toArray,?_,by simp,by simp,fun j hj=>by simp at hj;simp[hj]⟩
   show(w.heap.push _)[w.heap.size]? =_
   simp
  ·intro x hx b hb
   simp at hx;subst hx
   simp[av]at hb;subst hb
   simp
  ·simp[av]
theorem cK {T E:TypeId} {m:Nat} {parts:List (Nat×Operand)} {z:Value} {s gQ:Nat} {cs:List Value} (hu:P.underlying T=some (.slice E)) (hi:fT P E z s gQ) (I0:m*s≤16777216)
  (hf:Instr.fill (fun i=>some (i*s,s)) ((Array.range (m*s)).map (z.cells[· %z.cells.size]!)) (parts.map fun q=>(q.1,ev ρ q.2))=some cs.toArray) (hl:cs.length=m*s)
  (h: ∀b,K (pE ρ d (.slice (some ⟨b,0,none⟩) m m)) (av (some ⟨b,0,none⟩) m E s cs::O)) (hn:Nat.blt d n=true:=by rfl):LT P r base n ⟨some d,.buildSlice T m parts.toArray,t,p,af,g⟩ ρ O K:=
 jq hn fun w M hI=>by
  refine⟨.slice (some ⟨w.heap.size,0,none⟩) m m,w.alloc (.cells cs.toArray E),_,?_,Inv.new (O:=O++M) (w':=w.alloc (.cells cs.toArray E)) (N:=[av (some ⟨w.heap.size,0,none⟩) m E s cs]) hI rfl rfl rfl (by simp) (fun b hb=>Below.heap_alloc w _ b hb) ?_ ?_ ?_,h _⟩
  ·have E8: ¬(m*s>2^24):=by omega
   by_cases h0:m*s=0
   ·have hf':Instr.fill (fun i=>some (i*s,s)) #[] (parts.map fun q=>(q.1,ev ρ q.2))=some cs.toArray:=by rw[h0,sK]at hf;exact hf
    simp only[execOp,Instr.buildSlice,Sem.run_bind,bw hu,cd hi,Result.andThen_ok,h0,gt_iff_lt,if_true,Sem.run_pure,sK]
    have gw: ¬(2^24<0):=by omega
    simp[hf',newRow]
   ·simp[execOp,Instr.buildSlice,bw hu,cd hi,E8,h0,gM hi,hf,newRow]
  ·intro x hx
   simp at hx;subst hx
   refine⟨rfl,cs.toArray,?_,by rw[hl];exact aS _,by simp[hl],fun j hj=>by simp[hj]⟩
   show(w.heap.push _)[w.heap.size]? =_
   simp
  ·intro x hx b hb
   simp at hx;subst hx
   simp[av]at hb;subst hb
   simp
  ·simp[av]
theorem I1 (z:Array Value) (m:Nat):(Builtin.zeroCells z m).size=m*z.size:=by simp[Builtin.zeroCells]
theorem Ar (sL:Nat): ∀(r c:Nat),c≤2*sL→Builtin.growBy sL r c≤2*sL+192
 |0,c,h=>by simp[Builtin.growBy];omega
 |r+1,c,h=>by
  simp only[Builtin.growBy]
  split
  ·omega
  ·by_cases h2:c+(c+768)/4≤2*sL
   ·exact Ar sL r _ h2
   ·have: ∀r,Builtin.growBy sL r (c+(c+768)/4)=c+(c+768)/4:=by
     intro r
     cases r with
     |zero=>rfl
     |succ r=>simp only[Builtin.growBy];rw[aJ (by omega)]
    rw[this];omega
theorem Fy {sL cap:Nat} (h:cap<sL):Builtin.nextslicecap sL cap≤2*sL+192:=by
 unfold Builtin.nextslicecap
 split
 ·omega
 ·split
  ·omega
  ·exact Ar sL 4 cap (by omega)
theorem jf {P:Program} {w:World} {b:Option Addr} {m c s:Nat} {cs:List Value} (h:Sl w b cs) (hl:cs.length=m*s) (hb:b=none→cs=[]):
  (Builtin.firstCells s m (.slice b m c)).run P w=.ok cs.toArray w:=by
 cases b with
 |none=>rw[hb rfl];rfl
 |some a=>
  obtain⟨k,o,sp⟩:=a
  simp only[Builtin.firstCells,←hl,loadCells]
  by_cases h0:cs.length=0
  ·have:cs=[]:=List.length_eq_zero_iff.1 h0
   subst this;rfl
  ·obtain⟨a',e1,e2,_⟩:=h 0 (by omega)
   cases e1
   simp only at e2;subst e2
   have:=ml (P:=P) (w:=w) (a:=⟨k,o,none⟩) cs 0 #[] (fun j hj=>by
    have:=h.get (ap hj)
    simp only[Nat.zero_add,Addr.add]
    split<;>rename_i e
    ·subst e;simpa using this
    ·exact this)
   simpa using this
def Src (P:Program) (base:World) (O:List Item) (s m:Nat) (x:Value) (cs:List Value):Prop:=
 cs.length=m*s∧(∀w,(Builtin.lenOf x).run P w=.ok m w)∧ ∀w,Inv base O w→(Builtin.firstCells s m x).run P w=.ok cs.toArray w
theorem Src.sJ {b:World} {M:List Item} {s m:Nat} {x:Value} {cs:List Value} (h:Src P b O s m x cs):Src P b (O++M) s m x cs:=⟨h.1,h.2.1,fun w hI=>h.2.2 w hI.left⟩
theorem Src.row {j:Nat} {b:Option Addr} {c k m:Nat} {E:TypeId} {cs:List Value} (hO:O[j]? =some (av b c E k cs)) (hl:cs.length=m*k) (c':Nat:=c):Src P base O k m (.slice b m c') cs:=
 ⟨hl,fun w=>by simp[Builtin.lenOf],fun w hI=>jf (hI.row hO).sl hl (fun e=>by subst e;exact(hI.row hO).1)⟩
theorem Src.sl {b:Option Addr} {c k m:Nat} {cs:List Value} (h:Sl base b cs) (hl:cs.length=m*k):Src P base O k m (.slice b m c) cs:=
 ⟨hl,fun w=>by simp[Builtin.lenOf],fun w hI=>jf (hI.sl h) hl (fun e=>by
  cases cs with
  |nil=>rfl
  |cons v cs=>obtain⟨a,h1,_⟩:=h 0 (by simp);rw[e]at h1;cases h1)⟩
theorem rF {b o i:Nat}:(Addr.add ⟨b,o,none⟩ i)=⟨b,o+i,none⟩:=by
 unfold Addr.add;split<;>rename_i h<;>first|(subst h;rfl)|rfl
theorem PE (sL old t:Nat) (e:TypeId):sL≤(Question.appendCap sL old e).cut t:=Nat.le_add_right _ _
theorem sM {T U E:TypeId} {xd:TypeDesc} {b:Option Addr} {m c l s gQ:Nat} {x z:Value} {cs new:List Value} {j:Nat} {ty:TypeId}
  (hu:P.underlying T=some (.slice E)) (PF:P.underlying U=some xd) (PB:(∃XE,xd=.slice XE)∨xd=.string) (hi:fT P E z s gQ) (hz:z.cells.size=s)
  (hO:O[j]? =some (av b c E s cs)) (hl:cs.length=m*s) (_hs:0<s)
  (hx:Src P base O s l x new) (wL:(new.all fF)=true) (rD:(m+l)*gQ≤70368744177664) (R4:gQ≤1000000) (I2:0<gQ) {w:World} (hI:Inv base O w):
  ∃b' c' w',(Builtin.append_ #[T,U] ty #[.slice b m c,x]).run P w=.ok (.slice b' (m+l) c') w'∧Inv base (O.set j (av b' c' E s (cs++new))) w':=by
 obtain⟨OU,ig,K_⟩:=hx
 obtain⟨i,hi1,IW,hi3,hi4⟩:=hi.get
 have qy:=hI.row hO
 have XY:=K_ w hI
 have oJ:(Builtin.firstCells s m (.slice b m c)).run P w=.ok cs.toArray w:=jf qy.sl hl (fun e=>by subst e;exact qy.1)
 by_cases TX:m+l≤c
 ·-- there is room
  cases b with
  |none=>
   obtain⟨rfl,rfl⟩:=qy
   have hm0:m=0:=by omega
   have I3:l=0:=by omega
   subst hm0;subst I3
   have TY:new=[]:=List.length_eq_zero_iff.1 (by omega)
   subst TY
   refine⟨none,0,w,?_,?_⟩
   ·rcases PB with⟨XE,rfl⟩|rfl<;>simp[Builtin.append_,bw hu,bw PF,cd hi,ig,XY]
   ·simp only[c_]
    obtain⟨A,B,e,K5⟩:=CL hO
    rw[K5,←e]
    exact hI
  |some a=>
   obtain⟨k,o,sp⟩:=a
   obtain⟨zI,full,hb,h1,h2,h3⟩:=qy
   simp only at zI hb h1 h2 h3
   subst zI
   obtain⟨fl,rfl⟩: ∃fl:List Value,full=fl.toArray:=⟨full.toList,by simp⟩
   simp only[List.size_toArray]at h2
   have hmul:m*s+l*s≤c*s:=by rw[←Nat.add_mul];exact Nat.mul_le_mul_right s TX
   have hr:o+m*s+0+new.length≤fl.length:=by omega
   have zL:=lu (P:=P) (b:=k) (o:=o+m*s) (T:=E) new fl 0 w hb hr wL
   refine⟨some ⟨k,o,none⟩,c,_,?_,hI.setRow hO (Bn:=cs++new) (full:=(eZ fl (o+m*s+0) new).toArray) (by simp;omega) (by simp[iM];exact h2) ?_⟩
   ·rcases PB with⟨XE,rfl⟩|rfl<;>simp[Builtin.append_,bw hu,bw PF,cd hi,ig,XY,TX,rF]
    all_goals (simp at zL;rw[zL];rfl)
   ·intro q hq
    simp only[aP]at hq
    have e1:(eZ fl (o+m*s+0) new).toArray[o+q]? =(eZ fl (o+m*s) new)[o+q]? :=by simp
    have e2:some ((cs++new)[q]'(by simp;omega))=(cs++new)[q]? :=(ap _).symm
    rw[e1,e2,nB new fl (o+m*s) (o+q) (by omega)]
    by_cases Fx:m*s≤q
    ·rw[aJ (by omega),bM (by omega)]
     congr 1;omega
    ·rw[aA (by omega),bE (by omega)]
     have:=h3 q (by omega)
     simpa[ap (show q<cs.length by omega)]using this
 ·-- a new array
  obtain⟨cap,PG⟩: ∃cap,(Question.appendCap (m+l) c E).cut (w.tape w.drawn (Question.appendCap (m+l) c E))=cap:=⟨_,rfl⟩
  have GZ:m+l≤cap:=PG▸PE (m+l) c _ E
  have PH:(Question.appendCap (m+l) c E).forced=false:=rfl
  have oH:Inv base O w.drew:=hI.drew
  have aco:=K_ _ oH
  have R7:=oH.row hO
  have acp:(Builtin.firstCells s m (.slice b m c)).run P w.drew=.ok cs.toArray w.drew:=jf R7.sl hl (fun e=>by subst e;exact R7.1)
  have fy: ¬(Builtin.nextslicecap (m+l) c*gQ>2^48):=by
   have h1:=Fy (sL:=m+l) (cap:=c) (by omega)
   have h2:Builtin.nextslicecap (m+l) c*gQ≤(2*(m+l)+192)*gQ:=Nat.mul_le_mul_right _ h1
   have h3:(2*(m+l)+192)*gQ=2*((m+l)*gQ)+192*gQ:=by rw[Nat.add_mul,Nat.mul_assoc]
   omega
  obtain⟨w',I4⟩: ∃w':World,w'=w.drew.alloc (.cells (cs.toArray++new.toArray++Builtin.zeroCells z.cells (cap-(m+l))) E):=⟨_,rfl⟩
  refine⟨some ⟨w.heap.size,0,none⟩,cap,w',?_,?_⟩
  ·have XZ: ¬(9223372036854775807<((m:Int)+(l:Int))∧gQ=0):=by rintro⟨_,h⟩;omega
   have TZ: ¬(281474976710656<Builtin.nextslicecap (m+l) c*gQ):=by simpa using fy
   rcases PB with⟨XE,rfl⟩|rfl<;>simp[Builtin.append_,bw hu,bw PF,cd hi,ig,TX,mj hi1,hi4,XZ,TZ,PH,PG,acp,aco,gM hi,newRow,I4]
   all_goals (have e:(cs++new).toArray=cs.toArray++new.toArray:=by simp)
   all_goals rw[e,Array.append_assoc]
  ·subst I4
   refine hI.sE hO rfl rfl rfl (by simp) (fun q hq _=>?_) ⟨rfl,cs.toArray++new.toArray++Builtin.zeroCells z.cells (cap-(m+l)),?_,?_,?_,?_⟩ ?_ (by simp[av])
   ·show(w.heap.push _)[q]? =_
    rw[Array.getElem?_push,aA (by omega)]
   ·show(w.heap.push _)[w.heap.size]? =_
    simp
   ·simp only[aP,hl,OU,←Nat.add_mul];exact Nat.mul_le_mul_right s GZ
   ·simp only[Array.size_append,List.size_toArray,I1,hz,hl,OU,←Nat.add_mul,Nat.zero_add]
    exact Nat.mul_le_mul_right s (by omega)
   ·intro q hq
    simp only[Nat.zero_add]
    rw[Array.getElem?_append_left (by simp at hq⊢;exact hq)]
    simp
   ·intro q hq
    simp[av]at hq
    subst hq
    exact .inr ⟨aS _,by simp⟩
theorem dq {T U E XE:TypeId} {b:Option Addr} {m c l s gQ:Nat} {x y:Operand} {xv z:Value} {cs new:List Value} (j:Nat)
  (hu:P.underlying T=some (.slice E)) (PF:P.underlying U=some (.slice XE)) (hi:fT P E z s gQ) (hz:z.cells.size=s)
  (hx:ev ρ x=.slice b m c) (hy:ev ρ y=xv) (hO:O[j]? =some (av b c E s cs)) (hl:cs.length=m*s) (hs:0<s)
  (T1:Src P base O s l xv new) (wL:(new.all fF)=true) (rD:(m+l)*gQ≤70368744177664) (R4:gQ≤1000000) (I2:0<gQ)
  (h: ∀b' c',K (pE ρ d (.slice b' (m+l) c')) (O.set j (av b' c' E s (cs++new)))) (hn:Nat.blt d n=true:=by rfl):
  LT P r base n ⟨some d,.call ⟨.builtin .append,#[x,y],#[T,U]⟩,t,p,af,g⟩ ρ O K:=
 jq hn fun w M hI=>by
  obtain⟨b',c',w',hr,oH⟩:=sM (ty:=t) hu PF (.inl ⟨_,rfl⟩) hi hz (nC hO) hl hs T1.sJ wL rD R4 I2 hI
  rw[pI hO]at oH
  refine⟨_,w',_,?_,oH,h b' c'⟩
  simp[execOp,resolve,hx,hy,invoke,builtin,hr]
def Enters (P:Program) (f:FuncId) (fn:Func):Prop:=P.funcs[f]? =some fn∧(fn.name== "runtime.NumGoroutine")=false∧fn.body.isSome=true
def cj (P:Program) (base:World) (f:FuncId) (args:List Value) (O:List Item) (R:Value→List Item→Prop):Prop:=
 ∀w M,Inv base (O++M) w→Calls P f args.toArray w fun e w'=> ∃v O',e=.returned v∧Inv base (O'++M) w'∧R v O'
theorem cj.mono {f:FuncId} {args:List Value} {R R':Value→List Item→Prop} (h:cj P base f args O R) (hr: ∀v O',R v O'→R' v O'):cj P base f args O R':=
 fun w M hI=>(h w M hI).mono fun _ _ ⟨v,O',h1,h2,h3⟩=>⟨v,O',h1,h2,hr v O' h3⟩
def cn (P:Program) (f:FuncId) (args:List Value) (w:World) (R:Value→List Item→Prop):Prop:=cj P w f args [] R
theorem aX {f:FuncId} {args:List Value} {R:Value→List Item→Prop} (h: ∀w,Inv base O w→cn P f args w R):cj P base f args O (fun v O'=> ∃N,O'=N++O∧R v N):=
 fun w M hI=>(h w hI.left w [] (Inv.refl w)).mono fun _ _ ⟨v,N,h1,h2,h3⟩=>⟨v,N++O,h1,by
  have:=hI.call h2
  simpa[a6]using this,N,rfl,h3⟩
theorem cj.under {f:FuncId} {args:List Value} {A B:List Item} {R:Value→List Item→Prop} (h:cj P base f args A R) (hs:Sub (A++B) O):cj P base f args O (fun v O'=> ∃A',O'=A'++B∧R v A'):=
 fun w M hI=>(h w (B++M) (by have:=hI.kN hs.sJ;rwa[a6]at this)).mono fun _ _ ⟨v,A',h1,h2,h3⟩=>⟨v,A'++B,h1,by rwa[a6],A',rfl,h3⟩
def G0 (P:Program) (base:World) (M:List Item) (R:Value→List Item→Prop):Result Next→Prop
 | .ok (.enter f args) w=>Calls P f args w fun e w'=> ∃v O',e=.returned v∧Inv base (O'++M) w'∧R v O'
 | .ok (.round l f tmps assign body) w=>RoundIn Fence.wide 0 P l f tmps assign body w fun e w'=> ∃v O',e=.returned v∧Inv base (O'++M) w'∧R v O'
 |_=>False
def lw (fv:Value) (args:Array Value):Sem Next:=do
 let d←Deferred.ofValue fv args
 invoke d.target d.args
def eH (P:Program) (base:World) (fv:Value) (args:List Value) (O:List Item) (R:Value→List Item→Prop):Prop:=
 ∀w M,Inv base (O++M) w→G0 P base M R ((lw fv args.toArray).run P w)
theorem G0.mono {M:List Item} {R R':Value→List Item→Prop} {x:Result Next} (h:G0 P base M R x) (hr: ∀v O',R v O'→R' v O'):G0 P base M R' x:=by
 cases x with
 |halt e w=>exact h
 |ok y w=>
  cases y<;>first
   |exact h
   |exact Calls.mono h fun _ _ ⟨v,O',h1,h2,h3⟩=>⟨v,O',h1,h2,hr v O' h3⟩
   |exact RoundIn.mono h fun _ _ ⟨v,O',h1,h2,h3⟩=>⟨v,O',h1,h2,hr v O' h3⟩
theorem eH.mono {fv:Value} {args:List Value} {R R':Value→List Item→Prop} (h:eH P base fv args O R) (hr: ∀v O',R v O'→R' v O'):eH P base fv args O R':=
 fun w M hI=>(h w M hI).mono hr
theorem eH.under {fv:Value} {args:List Value} {A B:List Item} {R:Value→List Item→Prop} (h:eH P base fv args A R) (hs:Sub (A++B) O):eH P base fv args O (fun v O'=> ∃A',O'=A'++B∧R v A'):=fun w M hI=>by
 have h1:=h w (B++M) (by have:=hI.kN hs.sJ;rwa[a6]at this)
 revert h1
 cases(lw fv args.toArray).run P w with
 |halt e w=>exact id
 |ok y w=>
  cases y<;>first
   |exact id
   |exact fun h=>Calls.mono h fun _ _ ⟨v,A',h1,h2,h3⟩=>⟨v,A'++B,h1,by rwa[a6],A',rfl,h3⟩
   |exact fun h=>RoundIn.mono h fun _ _ ⟨v,A',h1,h2,h3⟩=>⟨v,A'++B,h1,by rwa[a6],A',rfl,h3⟩
theorem bU {f:FuncId} {fn:Func} {first args fG:List Value} {R:Value→List Item→Prop} (he:Enters P f fn) (h:cj P base f (first++args++fG) O R):eH P base (.func (.func f) first.toArray fG.toArray) args O R:=fun w M hI=>by
 have tP: ¬fn.name= "runtime.NumGoroutine" :=by simpa using he.2.1
 obtain⟨bd,PI⟩:=Option.isSome_iff_exists.1 he.2.2
 have hr:(lw (.func (.func f) first.toArray fG.toArray) args.toArray).run P w=.ok (.enter f (first++args++fG).toArray) w:=by
  have e:(first++args++fG).toArray=first.toArray++args.toArray++fG.toArray:=by simp
  rw[e]
  simp[lw,Deferred.ofValue,invoke,callFunc,he.1,tP,PI]
 rw[hr]
 exact h w M hI
theorem sN {x:Operand} {args:List Operand} {zM:Array TypeId} {dst:Option Nat} {w:World}:(execOp (ev ρ) ⟨dst,.call ⟨.value x,args.toArray,zM⟩,t,p,af,g⟩).run P w=(lw (ev ρ x) (IS ρ args).toArray).run P w:=by
 have GW:(args.toArray.map (ev ρ))=(IS ρ args).toArray:=by simp[K4]
 simp only[execOp,resolve,lw,GW,Sem.run_bind]
theorem nD {r:Option Nat} {f:FuncId} {args:Array Value} {w:World} {R:Ending→World→Prop} (h:Calls P f args w R):CallsIn (Fr r) (0-1) P f args w R:=callsIn_wide.2 h
theorem eu {x:Operand} {args:List Operand} {zM:Array TypeId} {fv:Value} {vs:List Value} {R:Value→List Item→Prop} (hc:eH P base fv vs O R) (hx:ev ρ x=fv) (ha:IS ρ args=vs)
  (h: ∀v O',R v O'→K (pE ρ d v) O') (hn:Nat.blt d n=true:=by rfl):LT P r base n ⟨some d,.call ⟨.value x,args.toArray,zM⟩,t,p,af,g⟩ ρ O K:=by
 subst hx;subst ha
 intro a w M ds ha hi next Qx fy
 have h1:=hc w M hi
 rw[←sN (t:=t) (p:=p) (af:=af) (g:=g) (zM:=zM) (dst:=some d)]at h1
 rw[←ha.eval]at h1
 revert h1
 generalize hr:(execOp a.eval ⟨some d,.call ⟨.value x,args.toArray,zM⟩,t,p,af,g⟩).run P w=y
 intro h1
 refine mg (by intro c e;cases e) ?_
 rw[hr]
 cases y with
 |halt e w=>exact h1.elim
 |ok y w1=>
  cases y with
  |enter f aff=>
   rw[Oper.uponIn_enter]
   refine⟨fun e=>by simp[Fr,Fence.wide]at e,nD (Calls.mono h1 ?_)⟩
   rintro e w' ⟨v,O',rfl,oH,hR⟩
   exact fy _ _ _ _ (ha.put hn v) oH (h v O' hR)
  |round l f tmps assign body=>
   rw[Oper.uponIn_round]
   refine⟨fun e=>by simp[Fr,Fence.wide]at e,RoundIn.mono h1 ?_⟩
   rintro e w' ⟨v,O',rfl,oH,hR⟩
   exact fy _ _ _ _ (ha.put hn v) oH (h v O' hR)
  |_=>exact h1.elim
theorem bm {f:FuncId} {fn:Func} {args:List Operand} {zM:Array TypeId} {vs:List Value} {R:Value→List Item→Prop} (he:Enters P f fn) (hc:cj P base f vs O R) (h: ∀v O',R v O'→K (pE ρ d v) O') (ha:IS ρ args=vs:=by exact rfl) (hn:Nat.blt d n=true:=by rfl):LT P r base n ⟨some d,.call ⟨.value (.func f),args.toArray,zM⟩,t,p,af,g⟩ ρ O K:=
 eu (bU (first:=[]) (fG:=[]) he (by simpa using hc)) rfl ha h hn
def entry (args:List Value):Env:=fun t=>args.getD t undef
structure rG (P:Program) (base:World) (fn:Func) (ρ:Env) (O:List Item) (R:Value→List Item→Prop):Prop where
 ex: ∃v O',Sub O' O∧R v O'∧ ∀w tmps,Inv base O w→(∀t,tmps.getD t undef=ρ t)→(results fn tmps).run P w=.ok v w
def X0 (P:Program) (base:World) (fn:Func) (R:Value→List Item→Prop):ll
 | .normal,ρ,O=>rG P base fn ρ O R
 | .ret,ρ,O=>rG P base fn ρ O R
 |_,_,_=>False
theorem pJ {fn:Func} {tmps:Array Value} {M O':List Item} {Rx:Ending→World→Prop} (h: ∀w,Inv base (O'++M) w→ ∃v,(results fn tmps).run P w=.ok v w∧Rx (.returned v) w):
  ∀(D:List Nat) (w:World),Inv base (O'++(mI D++M)) w→LeavesInM Fence.wide 0 P fn tmps Rx (mD D) .returning w
 | [],w,hI=>h w hI
 |b::D,w,hI=>by
  have oH:Inv base (O'++vV b::(mI D++M)) w:=hI
  have hb:w.heap[b]? =some (.deferred (some [])):=oH.holds (vV b) (by simp)
  have gw:=(Array.getElem?_eq_some_iff.1 hb).1
  refine⟨by simp,.inl ⟨b,w.putObj b (.deferred none),rfl,run_takeDeferred hb,pJ h D _ ?_⟩⟩
  have:=Inv.step (N:=[]) (w':=w.putObj b (.deferred none)) oH rfl rfl rfl (by simp) (fun k _ hk=>World.putObj_heap_other (fun e=>hk (by simp[vV,dY,e]))) (by simp) (by simp) (by simp)
  simpa using this
theorem aE {f:FuncId} {fn:Func} {c:Code} {args:List Value} {R:Value→List Item→Prop} (hf:P.funcs[f]? =some fn) (hb:fn.body=some c) (hn:fn.ntmps=n) (hl:Nat.ble args.length n=true)
  (h:T P none base n c (X0 P base fn R) (entry args) O):cj P base f args O R:=by
 have hl:=Nat.le_of_ble_eq_true hl
 intro w M hI
 rw[←callsIn_wide (n:=0)]
 refine callsIn_of_wp_marks hf hb trivial (wpIn_mono (h _ w M [] trivial ⟨?_,?_,rfl⟩ hI) ?_)
 ·intro t
  show(args.toArray++Array.replicate (fn.ntmps-args.toArray.size) undef).getD t undef=args.getD t undef
  rw[dv,az]
  by_cases h:t<args.length
  ·rw[Array.getElem?_append_left (by simpa using h)];simp
  ·rw[Array.getElem?_append_right (by simpa using h)]
   have:args[t]? =none:=by simp;omega
   rw[this,Array.getElem?_replicate]
   split<;>rfl
 ·simp;omega
 ·have key: ∀(a':Act) (w':World) (gX:Env) (O':List Item) (D:List Nat),Ag n (mD D) a' gX→Inv base (O'++(mI D++M)) w'→rG P base fn gX O' R→
    LeavesInM Fence.wide 0 P fn a'.tmps (fun e PD=> ∃v O',e=.returned v∧Inv base (O'++M) PD∧R v O') a'.defers .returning w':=by
   intro a' w' gX O' D h1 h2 h3
   obtain⟨v,zn,zJ,hR,hr⟩:=h3.ex
   rw[h1.defers]
   exact pJ (fun w hI=>⟨v,hr w a'.tmps hI.left h1.tmp,v,zn,rfl,hI.kN zJ.sJ,hR⟩) D w' h2
  rintro e a' w' ⟨gX,O',D,h1,h2,h3⟩
  cases e with
  |normal=>exact key a' w' gX O' D h1 h2 h3
  |ret=>exact key a' w' gX O' D h1 h2 h3
  |_=>exact h3.elim
def lp (q:Loop) (j:Option Code):Obj:=.loop {q with state:=if j.isNone then .ready else .done,pending:=j}
structure La (q:Loop) (n:Nat) (ρ:Env) (ps:Array Nat) (assign body:Code):Prop where
 params:q.params=ps
 assign:q.assign=assign
 body:q.body=body
 tmp: ∀t,q.tmps.getD t undef=ρ t
 size:q.tmps.size=n
def R8 (Q:ll) (ρ:Env) (O:List Item):Option Code→Prop
 |none=>Q .normal ρ O
 |some .ret=>Q .ret ρ O
 |some (.exit id)=>Q (.exit id) ρ O
 |_=>False
theorem T.rangeFunc {gx:Operand} {ps:Array Nat} {assign body:Code} {Q:ll} {f:FuncId} {fn:Func} {first fG:List Value} (hg:ev ρ gx=.func (.func f) first.toArray fG.toArray) (he:Enters P f fn)
  (h: ∀(l:Nat) (q:Loop),La q n ρ ps assign body→cj P base f (first++[.func (.yield l) #[] #[]]++fG) (dY l (lp q none)::O) (fun _ O'=> ∃j zn,O'=dY l (lp q j)::zn∧R8 Q ρ zn j)):
  T P r base n (.rangeFunc gx ps assign body) Q ρ O:=by
 have tP: ¬fn.name= "runtime.NumGoroutine" :=by simpa using he.2.1
 obtain⟨bd,PI⟩:=Option.isSome_iff_exists.1 he.2.2
 intro a w M D hM ha hI
 refine wpIn_rangeFunc fun CO _=>?_
 have hev:a.eval gx=.func (.func f) first.toArray fG.toArray:=by rw[ha.eval];exact hg
 have R9: ∀(l:Nat) (w1:World),(resolve a.eval (rangeCall gx l) 0).run P w1=.ok ⟨.fn (.func f) fG.toArray,(first++[Value.func (.yield l) #[] #[]]).toArray⟩ w1:=fun l w1=>by
  have e:(first++[Value.func (.yield l) #[] #[]]).toArray=first.toArray++ #[.func (.yield l) #[] #[]]:=by simp
  rw[e]
  have hc:a.eval (.const (.func (.yield l) #[] #[]))=.func (.yield l) #[] #[]:=rfl
  simp[resolve,hev,hc,Deferred.ofValue]
 have hinv: ∀(l:Nat) (w1:World),(invoke (.fn (.func f) fG.toArray) (first++[Value.func (.yield l) #[] #[]]).toArray).run P w1=.ok (.enter f (first++[Value.func (.yield l) #[] #[]]++fG).toArray) w1:=fun l w1=>by
  have e:(first++[Value.func (.yield l) #[] #[]]++fG).toArray=(first++[Value.func (.yield l) #[] #[]]).toArray++fG.toArray:=by simp
  rw[e]
  simp[invoke,callFunc,he.1,tP,PI]
 have post: ∀(l:Nat) (q:Loop) (mark:List Deferred) (D':List Nat),mark++mD D=mD D'→ ∀e w',(∃v O',e=Ending.returned v∧Inv base (O'++(mI D'++M)) w'∧ ∃j zn,O'=dY l (lp q j)::zn∧R8 Q ρ zn j)→
   rangePost (Fr r) 0 P l (lift base n M Q) {a with defers:=mark++a.defers} e w':=by
  rintro l q mark D' X1 e w' ⟨v,O',rfl,oH,j,zn,rfl,hj⟩
  have hl:w'.heap[l]? =some (lp q j):=oH.holds (dY l (lp q j)) (by simp)
  have gw:=(Array.getElem?_eq_some_iff.1 hl).1
  refine⟨j,_,run_endLoop (P:=P) hl (by simp;split<;>simp),?_⟩
  have kY:Inv base (zn++(mI D'++M)) (w'.putObj l (.loop {({q with state:=if j.isNone then .ready else .done,pending:=j}:Loop)with state:=.exhausted})):=by
   have:=Inv.step (A:=[]) (N:=[]) (w':=w'.putObj l (.loop {({q with state:=if j.isNone then .ready else .done,pending:=j}:Loop)with state:=.exhausted})) (B:=zn++(mI D'++M)) (it:=dY l (lp q j)) oH
    rfl rfl rfl (by simp) (fun k _ hk=>World.putObj_heap_other (fun e=>hk (by simp[dY,e]))) (by simp) (by simp) (by simp)
   simpa using this
  have T2:Ag n (mD D') ({a with defers:=mark++a.defers}:Act) ρ:=⟨ha.tmp,ha.size,by simp[ha.defers];exact X1⟩
  cases j with
  |none=>exact⟨ρ,zn,D',T2,kY,hj⟩
  |some c=>
   cases c with
   |ret=>exact wpIn_ret ⟨ρ,zn,D',T2,kY,hj⟩
   |exit id=>exact wpIn_exit ⟨ρ,zn,D',T2,kY,hj⟩
   |_=>exact hj.elim
 cases r with
 |none=>
  have X2:Inv base (vV w.heap.size::(O++(mI D++M))) (w.alloc (.deferred (some []))):=hI.alloc _
  have kY:=X2.alloc (.loop {state:=.ready,pending:=none,fn:=CO,tmps:=a.tmps,params:=ps,assign,body,defers:=w.heap.size})
  have hI3:Inv base ((dY (w.heap.size+1) (lp {state:=.ready,pending:=none,fn:=CO,tmps:=a.tmps,params:=ps,assign,body,defers:=w.heap.size} none)::O)++(mI (w.heap.size::D)++M))
    ((w.alloc (.deferred (some []))).alloc (.loop {state:=.ready,pending:=none,fn:=CO,tmps:=a.tmps,params:=ps,assign,body,defers:=w.heap.size})):=by
   refine kY.perm ?_
   have e:(w.alloc (.deferred (some []))).heap.size=w.heap.size+1:=by simp
   rw[e]
   exact List.Perm.cons _ List.perm_middle
  refine⟨_,_,_,_,_,f,_,_,run_enterLoop_outer (P:=P) (w:=w) CO a.tmps ps assign body,R9 _ _,fun _ _=>trivial,hinv _ _,fun e=>by simp[Fr,Fence.wide]at e,nD ?_⟩
  refine Calls.mono (h (w.heap.size+1) {state:=.ready,pending:=none,fn:=CO,tmps:=a.tmps,params:=ps,assign,body,defers:=w.heap.size} ⟨rfl,rfl,rfl,ha.tmp,ha.size⟩ _ _ hI3) ?_
  exact post _ _ _ (w.heap.size::D) rfl
 |some l0=>
  obtain⟨it,fO,X3⟩:=hM
  obtain⟨rc,hrc⟩:=X3 w (hI.holds it (by simp[fO]))
  have kY:=hI.alloc (.loop {state:=.ready,pending:=none,fn:=CO,tmps:=a.tmps,params:=ps,assign,body,defers:=rc.defers})
  refine⟨_,_,_,_,_,f,_,_,run_enterLoop_inner (P:=P) (w:=w) hrc CO a.tmps ps assign body,R9 _ _,fun _ _=>trivial,hinv _ _,fun e=>by simp[Fr,Fence.wide]at e,nD ?_⟩
  refine Calls.mono (h w.heap.size {state:=.ready,pending:=none,fn:=CO,tmps:=a.tmps,params:=ps,assign,body,defers:=rc.defers} ⟨rfl,rfl,rfl,ha.tmp,ha.size⟩ _ (mI D++M) kY) ?_
  exact post _ _ _ D rfl
def Lb:List Nat→List Value→Env→Env
 |t::ts,v::vs,ρ=>Lb ts vs (pE ρ t v)
 |_,_,ρ=>ρ
theorem CP: ∀(ts:List Nat) (vs:List Value) (tmps:Array Value) (ρ:Env),(ts.all fun t=>Nat.blt t n)=true→tmps.size=n→(∀t,tmps.getD t undef=ρ t)→
  (((ts.zip vs).foldl (fun tmps q=>tmps.setIfInBounds q.1 q.2) tmps).size=n∧ ∀t,((ts.zip vs).foldl (fun tmps q=>tmps.setIfInBounds q.1 q.2) tmps).getD t undef=Lb ts vs ρ t)
 | [],vs,tmps,ρ,_,hs,ht=>⟨hs,ht⟩
 |t::ts,[],tmps,ρ,_,hs,ht=>⟨hs,ht⟩
 |t::ts,v::vs,tmps,ρ,hb,hs,ht=>by
  simp only[List.all_cons,ay]at hb
  have h1:=Ag.put (a:= {tmps:=tmps,defers:=[]}) (ds:=[]) ⟨ht,hs,rfl⟩ hb.1 v
  exact CP ts vs _ (pE ρ t v) hb.2 h1.size h1.tmp
def T3 (l:Nat) (q:Loop) (R:Value→List Item→Prop):ll
 | .normal,_,O=>R (.bool true) (dY l (lp q none)::O)
 | .ret,_,O=>R (.bool false) (dY l (lp q (some .ret))::O)
 | .exit id,_,O=>R (.bool false) (dY l (lp q (some (.exit id)))::O)
 |_,_,_=>False
theorem Inv.CQ {O M:List Item} {w:World} {l:Nat} {o o':Obj} (hI:Inv base (dY l o::O++M) w):Inv base (dY l o'::O++M) (w.putObj l o'):=by
 have hl:w.heap[l]? =some o:=hI.holds (dY l o) (by simp)
 have gw:=(Array.getElem?_eq_some_iff.1 hl).1
 have:=Inv.step (A:=[]) (N:=[dY l o']) (w':=w.putObj l o') (B:=O++M) (it:=dY l o) hI rfl rfl rfl (by simp) (fun k _ hk=>World.putObj_heap_other (fun e=>hk (by simp[dY,e])))
  (by intro x hx;simp at hx;subst hx;exact World.putObj_heap_same gw) (by intro x hx b hb;simp at hx;subst hx;exact .inl hb) (by simp[dY])
 simpa using this
theorem eH.yield {l:Nat} {q:Loop} {ps:Array Nat} {assign body:Code} {args:List Value} {R:Value→List Item→Prop} (hq:La q n ρ ps assign body) (hl:args.length=ps.size) (Lc:(ps.toList.all fun t=>Nat.blt t n)=true)
  (h:T P (some l) base n assign (K6 (fun ρ O=>T P (some l) base n body (T3 l q R) ρ O) (fun _ _ _=>False)) (Lb ps.toList args ρ) O):
  eH P base (.func (.yield l) #[] #[]) args (dY l (lp q none)::O) R:=by
 obtain⟨rfl,rfl,rfl,ht,hs⟩:=hq
 intro w M hI
 have hb:w.heap[l]? =some (.loop {q with state:=.ready,pending:=none}):=hI.holds (dY l (lp q none)) (by simp)
 have Ld:(lw (.func (.yield l) #[] #[]) args.toArray).run P w=.ok (.round l q.fn ((q.params.toList.zip args).foldl (fun tmps p=>tmps.setIfInBounds p.1 p.2) q.tmps) q.assign q.body) w:=by
  have h1:=run_yield (P:=P) (args:=args.toArray) hb (by simpa using hl)
  simp only[lw,Deferred.ofValue,invoke,Sem.run_bind,Sem.run_pure,Result.andThen_ok]
  have e:(#[]:Array Value)++args.toArray=args.toArray:=by simp
  rw[e,h1]
  congr 2
  rw[←Array.foldl_toList]
  congr 1
  simp
 rw[Ld]
 obtain⟨rD,htm⟩:=CP q.params.toList args q.tmps ρ Lc hs ht
 refine roundIn_of_wpIn trivial ?_
 have X2:Inv base (O++(mI []++(dY l (lp q none)::M))) w:=hI.perm List.perm_middle
 refine wpIn_mono (h {tmps:=_,defers:=[]} w (dY l (lp q none)::M) [] ⟨dY l (lp q none),by simp,fun w hw=>⟨_,hw⟩⟩ ⟨htm,rD,rfl⟩ X2) ?_
 rintro e a1 w1 ⟨ρ1,O1,D1,h1,h2,h3⟩
 cases e with
 |normal=>
  have Xb:Inv base (dY l (lp q none)::(O1++mI D1)++M) w1:=h2.perm (by
   have:(O1++(mI D1++dY l (lp q none)::M))=((O1++mI D1)++dY l (lp q none)::M):=by simp
   rw[this]
   exact List.perm_middle.symm)
  have I5:w1.heap[l]? =some (.loop {q with state:=.ready,pending:=none}):=Xb.holds (dY l (lp q none)) (by simp)
  refine⟨_,run_beginRound (P:=P) I5 rfl,?_⟩
  have hI3:=Xb.CQ (o':=.loop {({q with state:=.ready,pending:=none}:Loop)with state:=.busy})
  have hI4:Inv base (O1++(mI D1++(dY l (.loop {({q with state:=.ready,pending:=none}:Loop)with state:=.busy})::M))) (w1.putObj l (.loop {({q with state:=.ready,pending:=none}:Loop)with state:=.busy})):=hI3.perm (by
   have:(O1++(mI D1++dY l (.loop {({q with state:=.ready,pending:=none}:Loop)with state:=.busy})::M))=((O1++mI D1)++dY l (.loop {({q with state:=.ready,pending:=none}:Loop)with state:=.busy})::M):=by simp
   rw[this]
   exact List.perm_middle)
  refine wpIn_mono (h3 a1 _ _ D1 ⟨dY l (.loop {({q with state:=.ready,pending:=none}:Loop)with state:=.busy}),by simp,fun w hw=>⟨_,hw⟩⟩ h1 hI4) ?_
  rintro e a2 w2 ⟨ρ2,O2,D2,k1,k2,k3⟩
  have k2':Inv base (dY l (.loop {({q with state:=.ready,pending:=none}:Loop)with state:=.busy})::(O2++mI D2)++M) w2:=k2.perm (by
   have:(O2++(mI D2++dY l (.loop {({q with state:=.ready,pending:=none}:Loop)with state:=.busy})::M))=((O2++mI D2)++dY l (.loop {({q with state:=.ready,pending:=none}:Loop)with state:=.busy})::M):=by simp
   rw[this]
   exact List.perm_middle.symm)
  have Fz:w2.heap[l]? =some (.loop {({q with state:=.ready,pending:=none}:Loop)with state:=.busy}):=k2'.holds (dY l (.loop {({q with state:=.ready,pending:=none}:Loop)with state:=.busy})) (by simp)
  have fin: ∀j:Option Code,Inv base (dY l (lp q j)::O2++M) (w2.putObj l (lp q j)):=fun j=>by
   have:=k2'.CQ (o':=lp q j)
   refine this.sub ?_
   simp only[cF,a6]
   exact List.Sublist.cons_cons _ (List.Sublist.append (aY _) (List.sublist_append_right _ _))
  cases e with
  |normal=>exact⟨_,_,run_endRound (P:=P) none Fz,_,_,rfl,fin none,k3⟩
  |ret=>exact⟨_,_,run_endRound (P:=P) (some .ret) Fz,_,_,rfl,fin (some .ret),k3⟩
  |exit id=>exact⟨_,_,run_endRound (P:=P) (some (.exit id)) Fz,_,_,rfl,fin (some (.exit id)),k3⟩
  |_=>exact k3.elim
 |_=>exact h3.elim
theorem rG.zero {fn:Func} {R:Value→List Item→Prop} (hr:fn.results= #[]) (h:R (.tuple #[]) O):rG P base fn ρ O R:=
 ⟨⟨_,O,ck (aY _),h,fun w tmps _ _=>results_none hr tmps P w⟩⟩
theorem aT {fn:Func} {R:Value→List Item→Prop} {a:Nat} (v:Value) (hr:fn.results= #[.tmp a]) (hv:ρ a=v) (h:R v O):rG P base fn ρ O R:=
 ⟨⟨_,O,ck (aY _),h,fun w tmps _ ht=>by rw[results_tmp hr tmps P w,ht,hv]⟩⟩
theorem de {fn:Func} {R:Value→List Item→Prop} {a b:Nat} (v u:Value) (hr:fn.results= #[.tmp a,.tmp b]) (hv:ρ a=v) (hu:ρ b=u) (h:R (.tuple #[v,u]) O):rG P base fn ρ O R:=
 ⟨⟨_,O,ck (aY _),h,fun w tmps _ ht=>by rw[results_tmp2 hr tmps P w,ht,ht,hv,hu]⟩⟩
theorem aB {fn:Func} {R:Value→List Item→Prop} (h:rG P base fn ρ O (fun v O1=> ∃O2,Sub O2 O1∧R v O2)):rG P base fn ρ O R:=by
 obtain⟨v,O1,hs,⟨O2,E9,hR⟩,hr⟩:=h.ex
 refine⟨⟨v,O2,?_,hR,hr⟩⟩
 obtain⟨l2,p2,s2⟩:=E9
 obtain⟨l1,p1,s1⟩:=hs
 obtain⟨l3,p3,s3⟩:=List.exists_perm_sublist s2 p1
 exact⟨l3,p2.trans p3.symm,s3.trans s1⟩
theorem qz {T E:TypeId} {d:TypeDesc} {z:Value} {s gQ b:Nat} {cs:List Value} {fr:Nat×Nat} {w:World} (hu:P.underlying T=some d) (ha:pH d=true) (hi:fT P T z s gQ) (hl:cs.length=s) (hw:w.heap[b]? =some (.cells cs.toArray E fr)):
  (loadVar T ⟨b,0,none⟩).run P w=.ok (.agg cs.toArray) w:=by
 have h:=ml (P:=P) (w:=w) (a:=⟨b,0,none⟩) cs 0 #[] (fun j hj=>by
  rw[rF];unfold World.cell?;simp[hw])
 simp[loadVar,jw hu,ha,cd hi,loadCells,←hl,h]
theorem cN {fn:Func} {R:Value→List Item→Prop} {a i:Nat} {T E:TypeId} {d:TypeDesc} {z:Value} {s gQ b:Nat} {cs:List Value} {fr:Nat×Nat} (hr:fn.results= #[.cell a T]) (hu:P.underlying T=some d) (ha:pH d=true) (hi:fT P T z s gQ) (hp:ρ a=.pointer (some ⟨b,0,none⟩)) (hO:O[i]? =some (dY b (.cells cs.toArray E fr))) (hl:cs.length=s)
  (h:R (.agg cs.toArray) O):rG P base fn ρ O R:=
 ⟨⟨_,O,ck (aY _),h,fun w tmps hI ht=>by
  have:=qz (P:=P) hu ha hi hl (hI.vX hO)
  have OV:=ht a
  simp only[dv]at OV
  simp[results,hr,OV,hp,asAddr,this]⟩⟩
theorem j8 {fn:Func} {R:Value→List Item→Prop} {a i c:Nat} (u:Value) {T E:TypeId} {d:TypeDesc} {z:Value} {s gQ b:Nat} {cs:List Value} {fr:Nat×Nat} (hr:fn.results= #[.cell a T,.tmp c]) (hu:P.underlying T=some d) (ha:pH d=true) (hi:fT P T z s gQ) (hp:ρ a=.pointer (some ⟨b,0,none⟩)) (hO:O[i]? =some (dY b (.cells cs.toArray E fr))) (hl:cs.length=s) (Xa:ρ c=u)
  (h:R (.tuple #[.agg cs.toArray,u]) O):rG P base fn ρ O R:=
 ⟨⟨_,O,ck (aY _),h,fun w tmps hI ht=>by
  have:=qz (P:=P) hu ha hi hl (hI.vX hO)
  have OV:=ht a
  have hc:=ht c
  simp only[dv]at OV hc
  simp[results,hr,OV,hc,Xa,hp,asAddr,this]⟩⟩
end
def df:List (Nat×Value)→Env→Prop
 | [],_=>True
 |q::L,ρ=>ρ q.1=q.2∧df L ρ
def CS (L:List (Nat×Value)) (ρ:Env):Env:=L.foldr (fun q r=>pE r q.1 q.2) ρ
theorem df.of {ρ:Env}: ∀ {L:List (Nat×Value)},L.map (fun q=>ρ q.1)=L.map (·.2)→df L ρ
 | [],_=>trivial
 |_::_,h=>⟨(List.cons.inj h).1,df.of (List.cons.inj h).2⟩
theorem xP {ρ:Env}: ∀ {L:List (Nat×Value)},df L ρ→CS L ρ=ρ
 | [],_=>rfl
 |q::L,h=>by
  have ih:=xP h.2
  show pE (CS L ρ) q.1 q.2=ρ
  rw[ih]
  funext t
  unfold pE
  cases e:Nat.beq t q.1 with
  |false=>rfl
  |true=>rw[Nat.eq_of_beq_eq_true e];exact h.1.symm
theorem df.elim {L:List (Nat×Value)} {ρ:Env} (h:df L ρ): ∃gA,ρ=CS L gA:=⟨ρ,(xP h).symm⟩
abbrev ints (xs:List Int):List Value:=xs.map (Value.int .i64)
abbrev bW (xs:List Nat):List Value:=xs.map fun x:Nat=>Value.int .i64 (x:Int)
abbrev cI (xs:List Bool):List Value:=xs.map Value.bool
abbrev pD (xs:List Nat):List Value:=xs.map fun x:Nat=>Value.int .u8 (x:Int)
theorem gL {xs:List Int} {k:Nat} (h:k<xs.length:=by first|assumption|omega|(simp;omega)|simp_all):(ints xs)[k]? =some (.int .i64 xs[k]):=by simp[h]
theorem iw {xs:List Nat} {k:Nat} (h:k<xs.length:=by first|assumption|omega|(simp;omega)|simp_all):(bW xs)[k]? =some (.int .i64 ((xs[k]:Nat):Int)):=by simp[h]
theorem jE {xs:List Bool} {k:Nat} (h:k<xs.length:=by first|assumption|omega|(simp;omega)|simp_all):(cI xs)[k]? =some (.bool xs[k]):=by simp[h]
theorem CT {xs:List Nat} {k:Nat} (h:k<xs.length:=by first|assumption|omega|(simp;omega)|simp_all):(pD xs)[k]? =some (.int .u8 ((xs[k]:Nat):Int)):=by simp[h]
def qA (P:Program) (T:TypeId) (pl:List (Nat×Nat)):Prop:=
 ∃fields,P.underlying T=some (.struct fields)∧ ∀w:World,(fields.mapM fun f=>do pure (f.offset,←sizeOf f.type):Sem (Array (Nat×Nat))).run P w=.ok pl.toArray w
section
variable {P:Program} {base:World} {ρ:Env} {O:List Item} {dst:Option Nat} {t:TypeId} {p:String} {af:Array Edge} {g:Option (Nat×Bool)}
theorem As {x y:Operand} {T E:TypeId} {b o n c i:Nat} {k:IntKind} {z:Value} {gQ:Nat} (hu:P.underlying T=some (.slice E)) (hi:fT P E z 1 gQ) (hx:ev ρ x=.slice (some ⟨b,o,none⟩) n c) (hy:ev ρ y=.int k (i:Int)) (gw:i<n):
  QT P base ⟨dst,.indexAddr T x y,t,p,af,g⟩ ρ O (.pointer (some ⟨b,o+i,none⟩)):=by
 have:=vW (P:=P) (base:=base) (O:=O) (dst:=dst) (t:=t) (p:=p) (af:=af) (g:=g) hu hi hx hy gw
 rwa[Nat.mul_one]at this
theorem cm {c a b:Operand} {v:Value} (hc:ev ρ c=.bool true:=by exact rfl) (ha:ev ρ a=v:=by exact rfl):QT P base ⟨dst,.pick c a b,t,p,af,g⟩ ρ O v:=fun w _=>by simp[execOp,hc,ha,asBool]
theorem bX {c a b:Operand} {v:Value} (hc:ev ρ c=.bool false:=by exact rfl) (hb:ev ρ b=v:=by exact rfl):QT P base ⟨dst,.pick c a b,t,p,af,g⟩ ρ O v:=fun w _=>by simp[execOp,hc,hb,asBool]
theorem cT {T:TypeId} {parts:List (Nat×Operand)} {pl:List (Nat×Nat)} {z:Value} {s gQ:Nat} {cs:List Value} (hp:qA P T pl) (hi:fT P T z s gQ) (hf:Instr.fill (fun i=>pl[i]?) z.cells (parts.map fun q=>(q.1,ev ρ q.2))=some cs.toArray):
  QT P base ⟨dst,.build T parts.toArray,t,p,af,g⟩ ρ O (.agg cs.toArray):=fun w _=>by
 obtain⟨fields,hu,hm⟩:=hp
 have hf':Instr.fill (fun i=>pl.toArray[i]?) z.cells (parts.map fun q=>(q.1,ev ρ q.2))=some cs.toArray:=by simpa using hf
 simp only[execOp,Instr.build,Sem.run_bind,gM hi,Result.andThen_ok,bw hu,hm w]
 simp at hf'
 simp[hf']
end
theorem aC {P:Program} {base:World} {o:Oper} {ρ:Env} {O:List Item} {b b':Bool} (h:QT P base o ρ O (.bool b)) (e:b=b'):QT P base o ρ O (.bool b'):=e▸h
def qB (w:World) (vs:List Value) (rs:List (List Int)):Prop:=
 vs.length=rs.length∧ ∀(i:Nat) (r:List Int),rs[i]? =some r→ ∃b c,vs[i]? =some (Value.slice b r.length c)∧Sl w b (ints r)
theorem qB.get {w:World} {vs:List Value} {rs:List (List Int)} (h:qB w vs rs) {i:Nat} (hi:i<rs.length): ∃b c,vs[i]? =some (Value.slice b rs[i].length c)∧Sl w b (ints rs[i]):=
 h.2 i rs[i] (ap hi)
theorem qB.keep {w w':World} {vs:List Value} {rs:List (List Int)} (h:qB w vs rs) (hb: ∀k,k<w.heap.size→w'.heap[k]? =w.heap[k]?):qB w' vs rs:=
 ⟨h.1,fun i r hr=>by obtain⟨b,c,h1,h2⟩:=h.2 i r hr;exact⟨b,c,h1,h2.keep hb⟩⟩
theorem Inv.rows {base:World} {O:List Item} {w:World} (hI:Inv base O w) {vs:List Value} {rs:List (List Int)} (h:qB base vs rs):qB w vs rs:=h.keep hI.below.block
structure Rec where
 b:Option Addr
 c:Nat
 xs:List Int
def Rec.val (q:Rec):Value:=.slice q.b q.xs.length q.c
def Rec.qt (E:TypeId) (q:Rec):Item:=av q.b q.c E 1 (ints q.xs)
abbrev dG (qs:List Rec):List Value:=qs.map Rec.val
abbrev cg (E:TypeId) (qs:List Rec):List Item:=qs.map (Rec.qt E)
abbrev nums (qs:List Rec):List (List Int):=qs.map Rec.xs
theorem Inv.X4 {base:World} {O:List Item} {w:World} (hI:Inv base O w) {E:TypeId} {qs:List Rec} (h: ∀q∈qs,q.qt E∈O):qB w (dG qs) (nums qs):=by
 refine⟨by simp,fun i r hr=>?_⟩
 obtain⟨q,hq,rfl⟩: ∃q,qs[i]? =some q∧q.xs=r:=by
  rw[bi]at hr
  cases e:qs[i]? with
  |none=>rw[e]at hr;cases hr
  |some q=>rw[e]at hr;exact⟨q,rfl,by simpa using hr⟩
 refine⟨q.b,q.c,by simp[hq,Rec.val],?_⟩
 exact rowP.sl (hI.holds _ (h q (bJ hq)))
theorem Inv.gV {base:World} {O:List Item} {w:World} (hI:Inv base O w) {b:Option Addr} {c:Nat} {T:TypeId} {k:Nat} {cs:List Value} (h:av b c T k cs∈O):Sl w b cs:=rowP.sl (hI.holds _ h)
section
variable {P:Program} {r:Option Nat} {base:World} {n:Nat} {ρ:Env} {O:List Item} {K:Env→List Item→Prop} {d:Nat} {t:TypeId} {p:String} {af:Array Edge} {g:Option (Nat×Bool)} {dst:Option Nat}
theorem cR {T E:TypeId} {x:Operand} {v:Value} {z:Value} {gQ:Nat} (hu:P.underlying T=some (.slice E)) (hi:fT P E z 1 gQ) (_hz:z.cells.size=1) (hx:ev ρ x=v) (hv:fF v=true)
  (h: ∀b,K (pE ρ d (.slice (some ⟨b,0,none⟩) 1 1)) (av (some ⟨b,0,none⟩) 1 E 1 [v]::O)) (hn:Nat.blt d n=true:=by rfl):LT P r base n ⟨some d,.buildSlice T 1 #[(0,x)],t,p,af,g⟩ ρ O K:=by
 refine cK (parts:=[(0,x)]) (cs:=[v]) hu hi (by omega) ?_ (by simp) h hn
 have hc:v.cells= #[v]:=by cases v<;>simp_all[fF,Value.cells]
 simp[Instr.fill,hx,hc]
 apply Array.ext_getElem?
 intro i
 cases i with
 |zero=>simp
 |succ i=>simp
end
structure cV where
 vars:Int
 start:Int
 next:List (List Int)
 a7:List Bool
 deriving DecidableEq
structure jB (w:World) (d:cV) (nb:Option Addr) (vs:List Value) (fb:Option Addr):Prop where
 outer:Sl w nb vs
 rows:qB w vs d.next
 a7:Sl w fb (cI d.a7)
theorem jB.keep {w w':World} {d:cV} {nb:Option Addr} {vs:List Value} {fb:Option Addr} (h:jB w d nb vs fb) (hb: ∀k,k<w.heap.size→w'.heap[k]? =w.heap[k]?):jB w' d nb vs fb:=
 ⟨h.outer.keep hb,h.rows.keep hb,h.a7.keep hb⟩
theorem Inv.CU {base:World} {O:List Item} {w:World} (hI:Inv base O w) {d:cV} {nb:Option Addr} {vs:List Value} {fb:Option Addr} (h:jB base d nb vs fb):jB w d nb vs fb:=h.keep hI.below.block
abbrev fE (d:cV) (nb:Option Addr) (nc:Nat) (fb:Option Addr) (fc:Nat):List Value:=[.int .i64 d.vars,.int .i64 d.start,.slice nb d.next.length nc,.slice fb d.a7.length fc]
def vS (n:Nat) (r:List Int):Bool:=r.all fun x=>decide (0≤x)&&decide (x<(n:Int))
def tI (L n:Nat):List (List Int)→Nat
 | []=>0
 |r::rs=>if r.length≠L then 2 else if vS n r=true then tI L n rs else 8
def dL (d:cV):Nat:=
 if¬(0≤d.vars∧d.vars≤6)then 7
 else if d.next.length=0 then 3
 else if 4096<d.next.length then 4
 else if d.a7.length≠d.next.length then 2
 else if d.start<0∨(d.next.length:Int)≤d.start then 8
 else tI (2^d.vars.toNat) d.next.length d.next
theorem tJ {L n:Nat} {rs:List (List Int)} {k:Nat} (hk:k<rs.length):tI L n (rs.drop k)=if rs[k].length≠L then 2 else if vS n rs[k]=true then tI L n (rs.drop (k+1))else 8:=by
 rw[List.drop_eq_getElem_cons hk];rfl
theorem IQ {L n:Nat} {rs:List (List Int)} {k:Nat} (hk:rs.length≤k):tI L n (rs.drop k)=0:=by
 rw[List.drop_eq_nil_of_le hk];rfl
structure Val (d:cV):Prop where
 v0:0≤d.vars
 v6:d.vars≤6
 n0:0<d.next.length
 fin:d.a7.length=d.next.length
 s0:0≤d.start
 s1:d.start<(d.next.length:Int)
 len: ∀r∈d.next,r.length=2^d.vars.toNat
 ok: ∀r∈d.next,∀x∈r,0≤x∧x<(d.next.length:Int)
structure Valid (d:cV):Prop extends Val d where
 n4:d.next.length≤4096
instance {d:cV}:Coe (Valid d) (Val d):=⟨Valid.toVal⟩
theorem tx {L n:Nat}: ∀ {rs:List (List Int)},tI L n rs=0↔(∀r∈rs,r.length=L)∧ ∀r∈rs,∀x∈r,0≤x∧x<(n:Int)
 | []=>by simp[tI]
 |r::rs=>by
  have ih:=tx (L:=L) (n:=n) (rs:=rs)
  simp only[tI]
  by_cases h:r.length=L
  ·by_cases h2:vS n r=true
   ·simp only[h,ne_eq,not_true_eq_false,if_false,h2,if_true,ih,dm,forall_eq_or_imp,true_and]
    have h3: ∀x∈r,0≤x∧x<(n:Int):=by simpa[vS]using h2
    exact⟨fun q=>⟨q.1,h3,q.2⟩,fun q=>⟨q.1,q.2.2⟩⟩
   ·simp only[h,ne_eq,not_true_eq_false,if_false,h2]
    refine⟨fun q=>by simp at q,fun q=>(h2 ?_).elim⟩
    have:=q.2 r (by simp)
    simpa[vS]using this
  ·simp only[ne_eq,h,not_false_eq_true,if_true]
   exact⟨fun q=>by simp at q,fun q=>(h (q.1 r (by simp))).elim⟩
theorem eF {d:cV}:dL d=0↔Valid d:=by
 unfold dL
 constructor
 ·intro h
  split at h;·cases h
  split at h;·cases h
  split at h;·cases h
  split at h;·cases h
  split at h;·cases h
  rename_i h1 h2 h3 h4 h5
  obtain⟨h6,h7⟩:=tx.1 h
  simp only[Classical.not_not]at h1 h4
  exact⟨⟨h1.1,h1.2,by omega,h4,by omega,by omega,h6,h7⟩,by omega⟩
 ·intro h
  rw[aA (by have:=h.v0;have:=h.v6;simp;omega),aA (by have:=h.n0;omega),aA (by have:=h.n4;omega),aA (by simp[h.fin]),aA (by have:=h.s0;have:=h.s1;omega)]
  exact tx.2 ⟨h.len,h.ok⟩
theorem Val.width {d:cV} (h:Val d):2^d.vars.toNat≤64:=
 bo (bV (by omega) (show d.vars.toNat≤6 by have:=h.v0;have:=h.v6;omega)) (by decide)
theorem Val.xE {d:cV} (h:Val d): ∀r∈d.next,r.length<9223372036854775807:=fun r hr=>by
 have:=h.len r hr;have:=h.width;omega
noncomputable def one (a b:Item):Nat:=open Classical in if b=a then 1 else 0
noncomputable def wM (a:Item):List Item→Nat
 | []=>0
 |b::l=>one a b+wM a l
theorem Br (a:Item):wM a []=0:=rfl
theorem nE (a b:Item) (l:List Item):wM a (b::l)=one a b+wM a l:=rfl
theorem nF (a:Item) (l m:List Item):wM a (l++m)=wM a l+wM a m:=by
 induction l with
 |nil=>simp[wM]
 |cons b l ih=>rw[cF,nE,ih,nE];omega
theorem PJ {a:Item} {l:List Item} (h:0<wM a l): ∃l1 l2,l=l1++a::l2:=by
 induction l with
 |nil=>simp[wM]at h
 |cons b l ih=>
  by_cases e:b=a
  ·subst e;exact⟨[],l,rfl⟩
  ·obtain⟨l1,l2,rfl⟩:=ih (by simpa[wM,one,e]using h)
   exact⟨b::l1,l2,rfl⟩
theorem vY: ∀ {l m:List Item},(∀a,wM a l=wM a m)→l.Perm m
 | [],m,h=>by
  cases m with
  |nil=>exact List.Perm.refl _
  |cons b m=>have:=h b;simp[wM,one]at this;omega
 |b::l,m,h=>by
  obtain⟨m1,m2,rfl⟩:=PJ (a:=b) (l:=m) (by rw[←h b];simp[wM,one];omega)
  have h': ∀a,wM a l=wM a (m1++m2):=fun a=>by
   have:=h a
   rw[nE,nF,nE]at this
   rw[nF];omega
  exact(List.Perm.cons b (vY h')).trans List.perm_middle.symm
theorem Sub.wM {O' O:List Item} (D:List Item) (h: ∀a,Lx.wM a (O'++D)=Lx.wM a O):Sub O' O:=by
 have hp:=vY h
 obtain⟨l,h1,h2⟩:=List.exists_perm_sublist (List.sublist_append_left O' D) hp
 exact⟨l,h1.symm,h2⟩
def Le:List Item→Nat→List Item
 | [],_=>[]
 |a::_,0=>[a]
 |_::l,i+1=>Le l i
def tQ:List Item→Nat→List Item
 | [],_=>[]
 |_::l,0=>l
 |a::l,i+1=>a::tQ l i
def xQ:List Nat→List Item→List Item
 | [],_=>[]
 |i::is,L=>Le L i++xQ is (tQ L i)
def Au:List Nat→List Item→List Item
 | [],L=>L
 |i::is,L=>Au is (tQ L i)
theorem Av: ∀(L:List Item) (i:Nat),(Le L i++tQ L i).Perm L
 | [],i=>List.Perm.refl _
 |a::l,0=>List.Perm.refl _
 |a::l,i+1=>by
  have ih:=Av l i
  show(Le l i++a::tQ l i).Perm (a::l)
  exact List.perm_middle.trans (List.Perm.cons a ih)
theorem rH: ∀(is:List Nat) (L:List Item),(xQ is L++Au is L).Perm L
 | [],L=>List.Perm.refl _
 |i::is,L=>by
  show((Le L i++xQ is (tQ L i))++Au is (tQ L i)).Perm L
  rw[a6]
  exact((rH is (tQ L i)).append_left _).trans (Av L i)
theorem oC {O' D O:List Item} (h:(O'++D).Perm O):Sub O' O:=by
 obtain⟨l,h1,h2⟩:=List.exists_perm_sublist (List.sublist_append_left O' D) h
 exact⟨l,h1.symm,h2⟩
theorem aG (is:List Nat) {L O':List Item} (h:xQ is L=O':=by exact rfl):Sub O' L:=h▸oC (rH is L)
theorem kZ (is:List Nat) (L R:List Item) {O' O:List Item} (h:xQ is L++R=O') (h2:L++R=O):Sub O' O:=by
 subst h;subst h2;exact(aG is).sJ
theorem fz (is:List Nat) (L R:List Item) {O' O:List Item} (h:xQ is L=O') (h2:L++R=O):Sub O' O:=by
 subst h;subst h2;exact oC (D:=Au is L++R) (by rw[←a6];exact(rH is L).append_right R)
section
variable {X:PX} {P:Program} {r:Option Nat} {base:World} {n:Nat} {ρ:Env} {O O' S:List Item} {K:Env→List Item→Prop} {ops:Array Oper} {l:List Oper} {tail:List Nat} {od:List (Nat×Nat)}
theorem dM (hs:Sub O' O) (h:TO X P r base n ops l K ρ O'):TO X P r base n ops l K ρ O:=fun Q a w M D hk ha hi=>h Q a w M D hk ha (hi.kN hs.sJ)
theorem eR {S2:List Item} {dw:List Nat} (hs:Sub O' O) (h:DO X P r base n ops S tail S2 dw od K ρ O'):DO X P r base n ops S tail S2 dw od K ρ O:=
 fun h1 lZ h3 listed h4 Q a w M D hq hp ha hI oO hS=>h h1 lZ h3 listed h4 Q a w M D hq hp ha (hI.kN hs.sJ) oO hS
theorem cj.sub {f:FuncId} {args:List Value} {R:Value→List Item→Prop} (hs:Sub O' O) (h:cj P base f args O' R):cj P base f args O R:=fun w M hI=>h w M (hI.kN hs.sJ)
end
section
variable {P:Program} {base:World} {ρ:Env} {O:List Item} {dst:Option Nat} {t:TypeId} {p:String} {af:Array Edge} {g:Option (Nat×Bool)}
theorem X5 {x y:Operand} {T U:TypeId} {k k':IntKind} {a b:Int} (hx:ev ρ x=.int k a) (hy:ev ρ y=.int k' b) (h0:0≤b):QT P base ⟨dst,.binOp .shl T x y U,t,p,af,g⟩ ρ O (.int k (k.wrap (a*2^(min b.toNat k.bits)))):=fun w _=>by
 have: ¬b<0:=by omega
 simp[execOp,hx,hy,eqGuard,binOp,Op.shift,this]
theorem nA {x y:Operand} {T U:TypeId} {k':IntKind} {v:Nat} (hx:ev ρ x=.int .i64 1) (hy:ev ρ y=.int k' (v:Int)) (hv:v≤60):QT P base ⟨dst,.binOp .shl T x y U,t,p,af,g⟩ ρ O (.int .i64 ((2^v:Nat):Int)):=by
 have h:=X5 (P:=P) (base:=base) (O:=O) (dst:=dst) (t:=t) (p:=p) (af:=af) (g:=g) (T:=T) (U:=U) hx hy (by omega)
 have e:min (v:Int).toNat (IntKind.i64.bits)=v:=by
  have:IntKind.i64.bits=64:=rfl
  rw[this];simp;omega
 rw[e]at h
 have GZ:(2:Nat)^v≤2^60:=bV (by omega) hv
 have h60:(2:Nat)^60=1152921504606846976:=by rfl
 have e2:(1:Int)*2^v=((2^v:Nat):Int):=by rw[Int.one_mul,Int.natCast_pow];rfl
 rw[e2]at h
 rw[h60]at GZ
 generalize(2:Nat)^v=q at*
 rwa[gD (by omega)]at h
theorem XD {x y:Operand} {zM:Array TypeId} {k k':IntKind} {a b:Int} (hx:ev ρ x=.int k a) (hy:ev ρ y=.int k' b):QT P base ⟨dst,.call ⟨.builtin .min,#[x,y],zM⟩,t,p,af,g⟩ ρ O (.int k (if b<a then b else a)):=fun w _=>by
 simp[execOp,resolve,hx,hy,invoke,builtin,Builtin.min_,Builtin.min2]
theorem XF {x y:Operand} {zM:Array TypeId} {k k':IntKind} {a b:Int} (hx:ev ρ x=.int k a) (hy:ev ρ y=.int k' b):QT P base ⟨dst,.call ⟨.builtin .max,#[x,y],zM⟩,t,p,af,g⟩ ρ O (.int k (if b>a then b else a)):=fun w _=>by
 simp[execOp,resolve,hx,hy,invoke,builtin,Builtin.max_,Builtin.max2]
def str (l:List UInt8):Value:=.string ⟨l.toArray⟩
theorem xR {x:Operand} {T:TypeId} {l:List UInt8} (hu:P.underlying T=some .string) (hx:ev ρ x=str l):QT P base ⟨dst,.call ⟨.builtin .len,#[x],#[T]⟩,t,p,af,g⟩ ρ O (.int .i64 (l.length:Int)):=fun w _=>by
 have e:(ByteArray.mk l.toArray).size=l.length:=by show l.toArray.size=_;simp
 simp[execOp,resolve,hx,str,invoke,builtin,Builtin.len_,bw hu,goInt,e]
abbrev dn (l:List UInt8):List Value:=l.map fun b:UInt8=>Value.int .u8 (b.toNat:Int)
theorem xS (l:List UInt8):((dn l).all fF)=true:=by simp[fF]
theorem PK {w:World} {b:Option Addr} {n c:Nat} {l:List UInt8} (h:Sl w b (dn l)) (hl:l.length=n):(Conv.bytesToString (.slice b n c)).run P w=.ok (str l) w:=by
 subst hl
 cases b with
 |none=>
  have:l=[]:=by
   cases l with
   |nil=>rfl
   |cons a l=>obtain⟨_,h1,_⟩:=h 0 (by simp);cases h1
  subst this;rfl
 |some a=>
  obtain⟨k,o,sp⟩:=a
  have hl:=jf (P:=P) (c:=c) (m:=l.length) (s:=1) h (by simp) (by simp)
  simp only[Builtin.firstCells,Nat.mul_one]at hl
  have fold: ∀(l:List UInt8) (iH:ByteArray),List.foldl (fun(b:ByteArray) (a:UInt8)=>ByteArray.mk (b.data.push a)) iH l=⟨(iH.data.toList++l).toArray⟩:=by
   intro l
   induction l with
   |nil=>intro iH;simp
   |cons b l ih=>intro iH;rw[cP,ih];simp
  simp only[Conv.bytesToString,Sem.run_bind,hl,Result.andThen_ok]
  simp[dn,ByteArray.push,fold,str]
theorem CV {x:Operand} {S D E:TypeId} {b:Option Addr} {n c c' k:Nat} {l:List UInt8} (hs:P.underlying S=some (.slice E)) (hd:P.underlying D=some .string) (he:P.underlying E=some (.int .u8)) (hx:ev ρ x=.slice b n c)
  (hO:av b c' E k (dn l)∈O) (hl:l.length=n):QT P base ⟨dst,.convert S D x,t,p,af,g⟩ ρ O (str l):=fun w hI=>by
 simp[execOp,hx,convert,bw hs,bw hd,bw he,PK (hI.gV hO) hl]
def T4 {α β:Type} (K:α→Value) (V:β→Value) (m:Nat) (l:List (α×β)) (w:World):Prop:=
 ∃es zq,w.heap[m]? =some (.map es zq)∧es.toList.map (fun e=>(e.key,e.val))=(l.map fun q=>(K q.1,V q.2))∧(es.toList.map (·.born)).Nodup∧ ∀e∈es.toList,e.born<zq
def dO {α β:Type} (K:α→Value) (V:β→Value) (m:Nat) (l:List (α×β)):Item where
 blocks:=[m]
 P:=T4 K V m l
 loc:=fun w w' h hp=>by
  obtain⟨es,zq,h1,h2⟩:=hp
  exact⟨es,zq,by rw[h m (by simp)];exact h1,h2⟩
def lT {α:Type} [DecidableEq α] (a:α):List α→List MapEntry→Nat→Option (Nat×Value)
 |k::ks,e::es,i=>if a=k then some (i,e.val)else lT a ks es (i+1)
 |_,_,_=>none
structure gG (P:Program) {α:Type} [DecidableEq α] (kt:TypeId) (K:α→Value):Prop where
 check: ∀e a w,(Instr.checkKey e 10000 kt (K a)).run P w=.ok () w
 find: ∀(es:List MapEntry) (ks:List α) (a:α) (w:World),es.map (·.key)=ks.map K→(Instr.findKey kt (K a) es).run P w=.ok (lT a ks es 0) w
theorem Lh (a b:List UInt8):((⟨a.toArray⟩:ByteArray)==⟨b.toArray⟩)=decide (a=b):=by
 show(a.toArray==b.toArray)=_
 by_cases e:a=b
 ·subst e;simp
 ·simp[e]
theorem gG.string {kt:TypeId} (hu:P.underlying kt=some .string):gG P kt str where
 check:=fun e a w=>by
  show(Instr.checkKey e (9999+1) kt _).run P w=_
  rw[Instr.checkKey]
  simp[bw hu,str]
 find:=fun es ks a w h=>by
  have key: ∀(es:List MapEntry) (ks:List (List UInt8)) (i:Nat),es.map (·.key)=ks.map str→Instr.findNow .string (str a) es i=some (lT a ks es i):=by
   intro es
   induction es with
   |nil=>intro ks i h;cases ks<;>simp_all[Instr.findNow,lT]
   |cons e es ih=>
    intro ks i h
    cases ks with
    |nil=>simp at h
    |cons b ks=>
     simp only[cD,List.cons.injEq]at h
     simp only[Instr.findNow,h.1,Instr.sameNow,str,Lh,lT]
     by_cases e:a=b
     ·simp[e]
     ·have:=ih ks (i+1) h.2
      simp only[str]at this
      simp[e,this]
  simp[Instr.findKey,bw hu,key es ks 0 h]
theorem xT {α:Type} [DecidableEq α] {a:α}: ∀(ks:List α) (es:List MapEntry) (i:Nat),a∉ks→lT a ks es i=none
 | [],_,_,_=>rfl
 |k::ks,[],_,_=>rfl
 |k::ks,e::es,i,h=>by
  simp only[dm,not_or]at h
  simp[lT,h.1,xT ks es (i+1) h.2]
def mq {α β:Type} [DecidableEq α] (a:α):List (α×β)→Option β
 | []=>none
 |q::l=>if a=q.1 then some q.2 else mq a l
theorem xU {α β:Type} [DecidableEq α] {K:α→Value} {V:β→Value} {a:α}: ∀(l:List (α×β)) (es:List MapEntry) (i:Nat),es.map (fun e=>(e.key,e.val))=l.map (fun q=>(K q.1,V q.2))→(lT a (l.map Prod.fst) es i).map Prod.snd=(mq a l).map V
 | [],es,i,h=>by cases es<;>rfl
 |q::l,[],i,h=>by simp at h
 |q::l,e::es,i,h=>by
  simp only[cD,List.cons.injEq,Prod.mk.injEq]at h
  simp only[cD,lT,mq]
  by_cases e:a=q.1
  ·simp[e,h.1.2]
  ·simp only[e,if_false];exact xU l es (i+1) h.2
theorem G1 {α β:Type} {K:α→Value} {V:β→Value} {es:List MapEntry} {l:List (α×β)} (h:es.map (fun e=>(e.key,e.val))=l.map (fun q=>(K q.1,V q.2))):es.map (·.key)=(l.map Prod.fst).map K:=by
 have:=au (List.map Prod.fst) h
 simpa[Function.comp_def]using this
theorem qC {x:Operand} {T kt vt:TypeId} {m:Nat} {α β:Type} {K:α→Value} {V:β→Value} {l:List (α×β)} (hu:P.underlying T=some (.map kt vt)) (hx:ev ρ x=.map (some m)) (hO:dO K V m l∈O):
  QT P base ⟨dst,.call ⟨.builtin .len,#[x],#[T]⟩,t,p,af,g⟩ ρ O (.int .i64 (l.length:Int)):=fun w hI=>by
 obtain⟨es,zq,h1,h2,_⟩:=hI.holds _ hO
 have hl:es.size=l.length:=by have:=au List.length h2;simpa using this
 simp[execOp,resolve,hx,invoke,builtin,Builtin.len_,bw hu,getObj,Sem.run,h1,goInt,hl]
theorem xV {T kt vt:TypeId} {m:Nat} {α β:Type} [DecidableEq α] {K:α→Value} {V:β→Value} {l:List (α×β)} {z:Value} {s gQ:Nat} {w:World} (hu:P.underlying T=some (.map kt vt)) (hz:fT P vt z s gQ) (hk:gG P kt K) (h:T4 K V m l w) (a:α) (ok:Bool):
  (Instr.lookup T (.map (some m)) (K a) ok).run P w=.ok (if ok then .tuple #[((mq a l).map V).getD z,.bool (mq a l).isSome]else((mq a l).map V).getD z) w:=by
 obtain⟨es,zq,h1,h2,h3,h4⟩:=h
 have hf:=hk.find es.toList (l.map Prod.fst) a w (G1 h2)
 have hl:=xU (a:=a) l es.toList 0 h2
 have hg:(getObj m).run P w=.ok (.map es zq) w:=by simp[getObj,Sem.run,h1]
 simp only[Instr.lookup,Sem.run_bind,bw hu,Result.andThen_ok,hg,Sem.run_pure,hk.check,hf]
 cases e:lT a (l.map Prod.fst) es.toList 0 with
 |none=>
  rw[e]at hl
  have:mq a l=none:=by cases e2:mq a l with|none=>rfl|some v=>rw[e2]at hl;cases hl
  simp[gM hz,this]
 |some q=>
  rw[e]at hl
  obtain⟨i,v⟩:=q
  cases e2:mq a l with
  |none=>rw[e2]at hl;cases hl
  |some u=>
   rw[e2]at hl
   simp at hl
   simp[hl]
theorem qD {x y:Operand} {T kt vt:TypeId} {m:Nat} {α β:Type} [DecidableEq α] {K:α→Value} {V:β→Value} {l:List (α×β)} {z:Value} {s gQ:Nat} {a:α} (hu:P.underlying T=some (.map kt vt)) (hz:fT P vt z s gQ) (hk:gG P kt K)
  (hx:ev ρ x=.map (some m)) (hy:ev ρ y=K a) (hO:dO K V m l∈O):QT P base ⟨dst,.lookup T x y false,t,p,af,g⟩ ρ O (((mq a l).map V).getD z):=fun w hI=>by
 have:=xV hu hz hk (hI.holds _ hO) a false
 simp[execOp,hx,hy,this]
theorem jT {x y:Operand} {T kt vt:TypeId} {m:Nat} {α β:Type} [DecidableEq α] {K:α→Value} {V:β→Value} {l:List (α×β)} {z:Value} {s gQ:Nat} {a:α} (hu:P.underlying T=some (.map kt vt)) (hz:fT P vt z s gQ) (hk:gG P kt K)
  (hx:ev ρ x=.map (some m)) (hy:ev ρ y=K a) (hO:dO K V m l∈O):QT P base ⟨dst,.lookup T x y true,t,p,af,g⟩ ρ O (.tuple #[((mq a l).map V).getD z,.bool (mq a l).isSome]):=fun w hI=>by
 have:=xV hu hz hk (hI.holds _ hO) a true
 simp[execOp,hx,hy,this]
end
section
variable {P:Program} {r:Option Nat} {base:World} {n:Nat} {ρ:Env} {O:List Item} {K':Env→List Item→Prop} {d:Nat} {t:TypeId} {p:String} {af:Array Edge} {g:Option (Nat×Bool)}
theorem l7 {T:TypeId} {α β:Type} (K:α→Value) (V:β→Value) (h: ∀m,K' (pE ρ d (.map (some m))) (dO K V m []::O)) (hn:Nat.blt d n=true:=by rfl):LT P r base n ⟨some d,.makeMap T none,t,p,af,g⟩ ρ O K':=
 jq hn fun w M hI=>⟨.map (some w.heap.size),w.alloc (.map #[] 0),_,by simp[execOp,Instr.makeMap],by
  refine Inv.new (O:=O++M) (N:=[dO K V w.heap.size []]) (w':=w.alloc (.map #[] 0)) hI rfl rfl rfl (by simp) (fun b hb=>Below.heap_alloc w _ b hb) ?_ ?_ (by simp[dO])
  ·intro x hx
   simp at hx;subst hx
   exact⟨#[],0,by show(w.heap.push _)[w.heap.size]? =_;simp,rfl,by simp,by simp⟩
  ·intro x hx b hb
   simp at hx;subst hx
   simp[dO]at hb;subst hb
   simp,h _⟩
theorem G2 {T kt vt:TypeId} {m:Nat} {α β:Type} [DecidableEq α] {K:α→Value} {V:β→Value} {l:List (α×β)} {w:World} {a:α} {v:β} (hu:P.underlying T=some (.map kt vt)) (hk:gG P kt K) (h:T4 K V m l w) (xW:a∉l.map Prod.fst):
  ∃es zq,(Instr.mapUpdate T (.map (some m)) (K a) (V v)).run P w=.ok () (j7 w m (.map es zq))∧es.toList.map (fun e=>(e.key,e.val))=((l++[(a,v)]).map fun q=>(K q.1,V q.2))∧(es.toList.map (·.born)).Nodup∧ ∀e∈es.toList,e.born<zq:=by
 obtain⟨es,zq,h1,h2,h3,h4⟩:=h
 have hf:=hk.find es.toList (l.map Prod.fst) a w (G1 h2)
 rw[xT _ _ _ xW]at hf
 have hg:(getObj m).run P w=.ok (.map es zq) w:=by simp[getObj,Sem.run,h1]
 have hs: ∀o,(setObj m o).run P w=.ok () (j7 w m o):=fun o=>by simp[setObj,Sem.run,h1,j7]
 refine⟨es.push {key:=K a,val:=V v,born:=zq},zq+1,?_,by simp[h2],?_,?_⟩
 rotate_left
 ·simp only[Array.toList_push,bj,cD,fV,List.nodup_append]
  refine⟨h3,by simp,fun x hx y hy e=>?_⟩
  obtain⟨z,hz,rfl⟩:=List.mem_map.1 hx
  simp at hy;have:=h4 z hz;omega
 ·intro e he
  simp only[Array.toList_push,gR,da]at he
  rcases he with he|rfl
  ·have:=h4 e he;omega
  ·simp
 simp only[Instr.mapUpdate,Sem.run_bind,bw hu,Result.andThen_ok,hg,hk.check,hf,hs]
theorem Inv.Li {w:World} {M:List Item} {α β:Type} {K:α→Value} {V:β→Value} {m i:Nat} {l l':List (α×β)} (hI:Inv base (O++M) w) (hO:O[i]? =some (dO K V m l)) {es:Array MapEntry} {zq:Nat} (h:es.toList.map (fun e=>(e.key,e.val))=(l'.map fun q=>(K q.1,V q.2))∧(es.toList.map (·.born)).Nodup∧ ∀e∈es.toList,e.born<zq):
  Inv base (O.set i (dO K V m l')++M) (j7 w m (.map es zq)):=by
 obtain⟨es0,ahn,h1,_,_⟩:=hI.holds (dO K V m l) (aO _ (bJ hO))
 have gw:=(Array.getElem?_eq_some_iff.1 h1).1
 rw[←pI hO]
 exact hI.sE (nC hO) rfl rfl rfl (by rw[u5];exact aS _) (fun k _ hk=>sI (fun e=>hk (by simp[dO,e]))) ⟨es,zq,l6 gw,h⟩ (fun k hk=>.inl hk) (by simp[dO])
theorem qE (i:Nat) {x y z:Operand} {T kt vt:TypeId} {m:Nat} {α β:Type} [DecidableEq α] {K:α→Value} {V:β→Value} {l:List (α×β)} {a:α} {v:β} (hu:P.underlying T=some (.map kt vt)) (hk:gG P kt K) (hx:ev ρ x=.map (some m)) (hy:ev ρ y=K a) (hz:ev ρ z=V v)
  (hO:O[i]? =some (dO K V m l)) (xW:a∉l.map Prod.fst) (h:K' ρ (O.set i (dO K V m (l++[(a,v)])))):LT P r base n ⟨none,.mapUpdate T x y z,t,p,af,g⟩ ρ O K':=
 mW fun w M hI=>by
  obtain⟨es,zq,hr,hes⟩:=G2 (v:=v) hu hk (hI.holds (dO K V m l) (aO _ (bJ hO))) xW
  exact⟨j7 w m (.map es zq),_,by simp[execOp,hx,hy,hz,hr],hI.Li hO hes,h⟩
theorem gg (i:Nat) {x y z:Operand} {T kt vt:TypeId} {m:Nat} {α β:Type} [DecidableEq α] {K:α→Value} {V:β→Value} {l:List (α×β)} {a:α} {v:β} (hu:P.underlying T=some (.map kt vt)) (hk:gG P kt K) (hx:ev ρ x=.map (some m)) (hy:ev ρ y=K a) (hz:ev ρ z=V v)
  (hO:O[i]? =some (dO K V m l)) (xW:a∉l.map Prod.fst) (h:K' ρ (O.set i (dO K V m (l++[(a,v)])))):LT P r base n ⟨none,.insert T x y z,t,p,af,g⟩ ρ O K':=
 mW fun w M hI=>by
  obtain⟨es,zq,hr,hes⟩:=G2 (v:=v) hu hk (hI.holds (dO K V m l) (aO _ (bJ hO))) xW
  exact⟨j7 w m (.map es zq),_,by simp[execOp,hx,hy,hz,hr],hI.Li hO hes,h⟩
end
section
variable {P:Program} {base:World} {ρ:Env} {O:List Item} {dst:Option Nat} {t:TypeId} {p:String} {af:Array Edge} {g:Option (Nat×Bool)}
end
section
variable {P:Program} {r:Option Nat} {base:World} {n:Nat} {ρ:Env} {O:List Item} {K:Env→List Item→Prop} {d:Nat} {t:TypeId} {p:String} {af:Array Edge} {g:Option (Nat×Bool)}
theorem Src.str {s:List UInt8} {m:Nat} (hl:s.length=m):Src P base O 1 m (str s) (dn s):=
 ⟨by simp[hl],fun w=>by
  have e:(ByteArray.mk s.toArray).size=m:=by show s.toArray.size=_;simp[hl]
  simp[Lx.str,Builtin.lenOf,e],fun w _=>by
  subst hl
  have e:(ByteArray.mk s.toArray).extract 0 s.length=ByteArray.mk s.toArray:=by
   have:=ByteArray.extract_zero_size (b:=ByteArray.mk s.toArray)
   simpa[ByteArray.size]using this
  simp[Lx.str,Builtin.firstCells,e,dn]⟩
theorem Aw {T U E:TypeId} {b:Option Addr} {m c l gQ:Nat} {x y:Operand} {z:Value} {cs:List Value} {s:List UInt8} (j:Nat)
  (hu:P.underlying T=some (.slice E)) (PF:P.underlying U=some .string) (hi:fT P E z 1 gQ) (hz:z.cells.size=1)
  (hx:ev ρ x=.slice b m c) (hy:ev ρ y=str s) (hO:O[j]? =some (av b c E 1 cs)) (hl:cs.length=m) (hs:s.length=l)
  (rD:(m+l)*gQ≤70368744177664) (R4:gQ≤1000000) (I2:0<gQ)
  (h: ∀b' c',K (pE ρ d (.slice b' (m+l) c')) (O.set j (av b' c' E 1 (cs++dn s)))) (hn:Nat.blt d n=true:=by rfl):
  LT P r base n ⟨some d,.call ⟨.builtin .append,#[x,y],#[T,U]⟩,t,p,af,g⟩ ρ O K:=
 jq hn fun w M hI=>by
  obtain⟨b',c',w',hr,oH⟩:=sM (ty:=t) hu PF (.inr rfl) hi hz (nC hO) (by simpa using hl) (by decide) (Src.sJ (Src.str hs)) (xS s) rD R4 I2 hI
  rw[pI hO]at oH
  refine⟨_,w',_,?_,oH,h b' c'⟩
  simp[execOp,resolve,hx,hy,invoke,builtin,hr]
end
theorem bL {P:Program} {base:World} {o:Oper} {ρ:Env} {O:List Item} {v v':Value} (h:QT P base o ρ O v) (e:v=v'):QT P base o ρ O v':=e▸h
def dJ (b:Option Addr) (i:Nat):Value:=.pointer (b.map fun a=>⟨a.block,a.off+i,none⟩)
theorem aK {base:World} {O:List Item} {b:Option Addr} {cs:List Value} (h:Sl base b cs): ∀w,Inv base O w→Sl w b cs:=fun _ hI=>hI.sl h
theorem dT {base:World} {O:List Item} {b:Option Addr} {c k:Nat} {E:TypeId} {cs:List Value} (h:av b c E k cs∈O): ∀w,Inv base O w→Sl w b cs:=fun _ hI=>hI.gV h
section
variable {P:Program} {base:World} {ρ:Env} {O:List Item} {dst:Option Nat} {t:TypeId} {p:String} {af:Array Edge} {g:Option (Nat×Bool)}
theorem eA {x y:Operand} {T E:TypeId} {b:Option Addr} {n c i:Nat} {kk:IntKind} {z:Value} {s gQ:Nat} {cs:List Value} (hu:P.underlying T=some (.slice E)) (hi:fT P E z s gQ) (hx:ev ρ x=.slice b n c) (hy:ev ρ y=.int kk (i:Int)) (hs: ∀w,Inv base O w→Sl w b cs) (gw:i<n) (hl:i*s<cs.length):
  QT P base ⟨dst,.indexAddr T x y,t,p,af,g⟩ ρ O (dJ b (i*s)):=fun w hI=>by
 obtain⟨bk,o,rfl⟩:=(hs w hI).addr hl
 exact vW hu hi hx hy gw w hI
theorem dX {x y:Operand} {T E:TypeId} {b:Option Addr} {n c i:Nat} {kk:IntKind} {z:Value} {gQ:Nat} {cs:List Value} (hu:P.underlying T=some (.slice E)) (hi:fT P E z 1 gQ) (hx:ev ρ x=.slice b n c) (hy:ev ρ y=.int kk (i:Int)) (hs: ∀w,Inv base O w→Sl w b cs) (gw:i<n:=by first|assumption|omega|(simp;omega)|simp_all) (hl:i<cs.length:=by first|omega|(simp;done)|(simp;omega)|(simp_all;done)|(simp_all;omega)):
  QT P base ⟨dst,.indexAddr T x y,t,p,af,g⟩ ρ O (dJ b i):=by
 have:=eA (P:=P) (base:=base) (O:=O) (dst:=dst) (t:=t) (p:=p) (af:=af) (g:=g) hu hi hx hy hs gw (by simpa using hl)
 rwa[Nat.mul_one]at this
theorem G3 {x y:Operand} {T E:TypeId} {b:Option Addr} {n c:Nat} {i:Int} {kk:IntKind} {z:Value} {gQ:Nat} {cs:List Value} (hu:P.underlying T=some (.slice E)) (hi:fT P E z 1 gQ) (hx:ev ρ x=.slice b n c) (hy:ev ρ y=.int kk i) (hs: ∀w,Inv base O w→Sl w b cs) (h0:0≤i) (gw:i.toNat<n) (hl:i.toNat<cs.length):
  QT P base ⟨dst,.indexAddr T x y,t,p,af,g⟩ ρ O (dJ b i.toNat):=
 dX hu hi hx (by rw[hy,cM h0]) hs gw hl
theorem cS {x:Operand} {T:TypeId} {d:TypeDesc} {b:Option Addr} {i:Nat} {cs:List Value} {v:Value} (hu:P.underlying T=some d) (ha:pH d=false) (hx:ev ρ x=dJ b i)
  (hs: ∀w,Inv base O w→Sl w b cs) (hv:cs[i]? =some v):QT P base ⟨dst,.load T x,t,p,af,g⟩ ρ O v:=fun w hI=>by
 obtain⟨hi,_⟩:=List.getElem?_eq_some_iff.1 hv
 obtain⟨bk,o,rfl⟩:=(hs w hI).addr hi
 exact qx hu ha hx (fun w hI=>(hs w hI).get hv) w hI
theorem eW {x:Operand} {T:TypeId} {d:TypeDesc} {b:Option Addr} {i:Nat} {cs vs:List Value} {z:Value} {s gQ:Nat} (hu:P.underlying T=some d) (ha:pH d=true) (hi:fT P T z s gQ) (hx:ev ρ x=dJ b i) (hl:vs.length=s) (Lj:0<vs.length)
  (hs: ∀w,Inv base O w→Sl w b cs) (hv: ∀j (h:j<vs.length),cs[i+j]? =some vs[j]):QT P base ⟨dst,.load T x,t,p,af,g⟩ ρ O (.agg vs.toArray):=fun w hI=>by
 obtain⟨h0,_⟩:=List.getElem?_eq_some_iff.1 (hv 0 Lj)
 obtain⟨bk,o,rfl⟩:=(hs w hI).addr (i:=i) (by omega)
 exact xO hu ha hi hx hl (fun w hI j hj=>by have:=(hs w hI).get (hv j hj);rwa[←Nat.add_assoc]at this) w hI
theorem cz {x:Operand} {S:TypeId} {fs:Array Field} {i:Nat} {f:Field} {b:Option Addr} {o:Nat} {z:Value} {s gQ:Nat} {cs:List Value} (hu:P.underlying S=some (.struct fs)) (hf:fs[i]? =some f) (hi:fT P f.type z s gQ) (hs:(s==0)=false)
  (hx:ev ρ x=dJ b o) (OW: ∀w,Inv base O w→Sl w b cs) (ho:o<cs.length):QT P base ⟨dst,.fieldAddr S x i,t,p,af,g⟩ ρ O (dJ b (o+f.offset)):=fun w hI=>by
 obtain⟨bk,o',rfl⟩:=(OW w hI).addr ho
 have:=bt (P:=P) (base:=base) (O:=O) (dst:=dst) (t:=t) (p:=p) (af:=af) (g:=g) (b:=bk) (o:=o'+o) hu hi hf hs hx rfl w hI
 rw[this];simp[dJ,Nat.add_assoc]
end
section
variable {P:Program} {r:Option Nat} {base:World} {n:Nat} {ρ:Env} {O:List Item} {K:Env→List Item→Prop} {d:Nat} {t:TypeId} {p:String} {af:Array Edge} {g:Option (Nat×Bool)}
theorem n7 (i:Nat) {T E:TypeId} {x y:Operand} {b:Option Addr} {j c k:Nat} {v:Value} {vs cs:List Value} {z:Value} {s gQ:Nat} (hi:fT P T z s gQ) (hx:ev ρ x=dJ b j) (hy:ev ρ y=v) (hv:v.cells=vs.toArray) (hl:vs.length=s) (ho:(vs.all fF)=true) (hs:0<vs.length)
  (hO:O[i]? =some (av b c E k cs)) (hr:j+vs.length≤cs.length)
  (h:K ρ (O.set i (av b c E k (eZ cs j vs)))):LT P r base n ⟨none,.store T x y,t,p,af,g⟩ ρ O K:=fun a w M ds ha hI=>by
 obtain⟨bk,o,rfl⟩:=(hI.left.gV (bJ hO)).addr (i:=j) (by omega)
 exact CN i hi hx hy hv hl ho hO hr h a w M ds ha hI
end
def fm (q:Int×Int):Value:=.agg #[.int .i64 q.1,.int .i64 q.2]
theorem sj {P:Program} {T:TypeId} {k:IntKind} (h:P.underlying T=some (.int k)) (d:Nat) (a b:Int) (w:World):(Op.equalIn (d+1) T (.int .i64 a) (.int .i64 b)).run P w=.ok (a==b) w:=by
 rw[Op.equalIn]
 simp[bw h]
structure G4 (P:Program) (kt:TypeId) (f1 f2:Field):Prop where
 under:P.underlying kt=some (.struct #[f1,f2])
 u1:P.underlying f1.type=some (.int .i64)
 u2:P.underlying f2.type=some (.int .i64)
 o1:f1.offset=0
 o2:f2.offset=1
 n1:f1.name≠ "_"
 n2:f2.name≠ "_"
 held:P.stoodInHeld kt=false
theorem G4.equal {P:Program} {kt:TypeId} {f1 f2:Field} (h:G4 P kt f1 f2) (a b:Int×Int) (w:World):(Op.equal kt (fm a) (fm b)).run P w=.ok (decide (a=b)) w:=by
 show(Op.equalIn (9998+1+1) kt (fm a) (fm b)).run P w=_
 rw[Op.equalIn]
 have Xc: ∀(c:Int×Int),(part f1.type #[.int .i64 c.1,.int .i64 c.2] f1.offset).run P w=.ok (.int .i64 c.1) w:=fun c=>by
  simp[part,jw h.u1,pH,h.o1]
 have Ax: ∀(c:Int×Int),(part f2.type #[.int .i64 c.1,.int .i64 c.2] f2.offset).run P w=.ok (.int .i64 c.2) w:=fun c=>by
  simp[part,jw h.u2,pH,h.o2]
 simp[bw h.under,fm,h.held,h.n1,h.n2,Xc,Ax,sj h.u1,sj h.u2]
 by_cases e1:a.1=b.1
 ·by_cases e2:a.2=b.2
  ·have:a=b:=by cases a;cases b;simp_all
   simp[e1,e2,this]
  ·have: ¬a=b:=fun e=>e2 (by rw[e])
   simp[e1,e2,this]
 ·have: ¬a=b:=fun e=>e1 (by rw[e])
  simp[e1,this]
theorem j_ {P:Program} {kt:TypeId} {f1 f2:Field} (h:G4 P kt f1 f2):gG P kt fm where
 check:=fun e a w=>by
  show(Instr.checkKey e (9998+1+1) kt _).run P w=_
  rw[Instr.checkKey]
  have Xc: ∀(c:Int×Int),(part f1.type #[.int .i64 c.1,.int .i64 c.2] f1.offset).run P w=.ok (.int .i64 c.1) w:=fun c=>by
   simp[part,jw h.u1,pH,h.o1]
  have Ax: ∀(c:Int×Int),(part f2.type #[.int .i64 c.1,.int .i64 c.2] f2.offset).run P w=.ok (.int .i64 c.2) w:=fun c=>by
   simp[part,jw h.u2,pH,h.o2]
  have hk: ∀(tt:TypeId) (v:Int),P.underlying tt=some (.int .i64)→(Instr.checkKey e (9998+1) tt (.int .i64 v)).run P w=.ok () w:=fun tt v hu=>by
   rw[Instr.checkKey];simp[bw hu]
  simp[bw h.under,fm,h.n1,h.n2,Xc,Ax,hk _ _ h.u1,hk _ _ h.u2]
 find:=fun es ks a w oQ=>by
  have ask: ∀(es:List MapEntry) (ks:List (Int×Int)) (i:Nat),es.map (·.key)=ks.map fm→(Instr.findAsking kt (fm a) es i).run P w=.ok (lT a ks es i) w:=by
   intro es
   induction es with
   |nil=>intro ks i h;cases ks<;>simp_all[Instr.findAsking,lT]
   |cons e es ih=>
    intro ks i hh
    cases ks with
    |nil=>simp at hh
    |cons b ks=>
     simp only[cD,List.cons.injEq]at hh
     simp only[Instr.findAsking,hh.1,Sem.run_bind,h.equal,Result.andThen_ok,lT]
     by_cases e:a=b
     ·simp[e]
     ·simp[e,ih ks (i+1) hh.2]
  have key: ∀(es:List MapEntry) (ks:List (Int×Int)),es.map (·.key)=ks.map fm→Instr.findNow (.struct #[f1,f2]) (fm a) es 0=some (lT a ks es 0)∨Instr.findNow (.struct #[f1,f2]) (fm a) es 0=none:=by
   intro es ks hh
   cases es with
   |nil=>left;cases ks<;>simp_all[Instr.findNow,lT]
   |cons e es=>right;simp[Instr.findNow,Instr.sameNow]
  rcases key es ks oQ with hk|hk
  ·simp[Instr.findKey,bw h.under,hk]
  ·simp[Instr.findKey,bw h.under,hk,ask es ks 0 oQ]
@[reducible] def aD (n:Nat):Option Addr:=some ⟨n,0,none⟩
@[reducible] def nS:Value:=.slice none 0 0
@[reducible] def vI (v:Int):Value:=.int .i64 v
@[reducible] def vN (n:Nat):Value:=.int .i64 (n:Int)
@[reducible] def v8 (n:Nat):Value:=.int .u8 (n:Int)
section
variable {X:PX} {P:Program} {r:Option Nat} {base:World} {n:Nat} {ρ:Env} {O:List Item} {ops:Array Oper} {l:List Oper} {K:Env→List Item→Prop} {t:TypeId} {p:String} {af:Array Edge}
theorem ai {d:Nat} {x:Operand} {v:Value} (h:ev ρ x=v) (hk:TO X P r base n ops l K (pE ρ d v) O) (hn:Nat.blt d n=true:=by rfl):TO X P r base n ops (⟨some d,.move x,t,p,af,none⟩::l) K ρ O:=ae (aI h) hk hn
theorem ak {d:Nat} {x:Operand} {v:Value} (h:ev ρ x=v) (hk:TO X P r base n ops l K (pE ρ d v) O) (hn:Nat.blt d n=true:=by rfl):TO X P r base n ops (⟨some d,.assign x,t,p,af,none⟩::l) K ρ O:=ae (cx h) hk hn
theorem mG {α:Type} {l:List α} {a:α} (i:Nat) (h:l[i]? =some a:=by exact rfl):a∈l:=bJ h
theorem gq {O' O:List Item} (D:List Item) (h: ∀a,Lx.wM a (O'++D)=Lx.wM a O:=by intro a;simp+zetaDelta only[cg,oI,jU,jV,eZ,cF,du,c_,a6,bj,cD,fV,nF,nE,Br,vI,nS,aD]<;>omega):Sub O' O:=Sub.wM D h
theorem aF {d j tj:Nat} {want:Bool} {op:Op} {v:Value} (h:QT P base ⟨some d,op,t,p,af,some (j,want)⟩ ρ O v) (hk:TO X P r base n ops l K (pE ρ d v) O) (hj:(ops[j]?).bind (·.dst)=some tj:=by exact rfl) (hw:ρ tj=.bool want:=by exact rfl) (hn:Nat.blt d n=true:=by rfl):TO X P r base n ops (⟨some d,op,t,p,af,some (j,want)⟩::l) K ρ O:=gk rfl hj hw (eK rfl hn h hk)
theorem nG (is:List Nat) {f:FuncId} {args:List Value} {A B O:List Item} {R:Value→List Item→Prop} (h:cj P base f args A R) (hA:xQ is O=A:=by rfl) (hB:Au is O=B:=by simp only[Au,tQ,cg,oI,jU,jV,eZ,cF,du,c_];rfl):cj P base f args O (fun v O'=> ∃A',O'=A'++B∧R v A'):=
 cj.under h (by subst hA hB;exact⟨_,rH is O,aY _⟩)
end
section
variable {P:Program} {r:Option Nat} {base:World} {n:Nat} {ρ:Env} {O:List Item} {Q:ll} {K:Env→List Item→Prop} {t:TypeId} {p:String} {af:Array Edge} {g:Option (Nat×Bool)}
theorem aj {id:Nat} {l:List Oper} {y:Code} (h:TO (fun c=> ∀ρ,K6 (fun ρ O=>T P r base n y Q ρ O) Q (.panic c) ρ []) P r base n l.toArray l (fun ρ O=>K6 (fun ρ O=>T P r base n y Q ρ O) Q .normal ρ O) ρ O):T P r base n (.seq (.region id l.toArray false) y) Q ρ O:=aR (bg h)
theorem fS (l:List (Nat×Nat)) {id:Nat} {ops:Array Oper} (h:DO (fun c=> ∀ρ,Q (.panic c) ρ []) P r base n ops O (oB l) [] (mi l) l (fun ρ O=>Q .normal ρ O) ρ O) (hm:P.follows .mixedOrders=true:=by exact mixed) (hB:xM ops l=true:=by first|exact xX (by kernel_rfl)|kernel_rfl) (hp: ∀c ρ gX O,Q (.panic c) ρ O→Q (.panic c) gX O:=by exact fun _ _ _ _ h=>h):T P r base n (.region id ops true) Q ρ O:=Ap O l hm hB (ck (aY _)) hp h
theorem T.ds (S:List Item) (l:List (Nat×Nat)) {id:Nat} {ops:Array Oper} (hS:Sub S O) (h:DO (fun c=> ∀ρ,Q (.panic c) ρ []) P r base n ops S (oB l) [] (mi l) l (fun ρ O=>Q .normal ρ O) ρ O) (hm:P.follows .mixedOrders=true:=by exact mixed) (hB:xM ops l=true:=by first|exact xX (by kernel_rfl)|kernel_rfl) (hp: ∀c ρ gX O,Q (.panic c) ρ O→Q (.panic c) gX O:=by exact fun _ _ _ _ h=>h):T P r base n (.region id ops true) Q ρ O:=Ap S l hm hB hS hp h
theorem cq {T E:TypeId} {x y:Operand} {b o:Nat} {v:Value} {vs cs:List Value} {z:Value} {s gQ:Nat} (i:Nat) (hi:fT P T z s gQ) (h:K ρ (O.set i (dY b (.cells (eZ cs o vs).toArray E (0,0))))) (hx:ev ρ x=.pointer (some ⟨b,o,none⟩):=by exact rfl) (hy:ev ρ y=v:=by exact rfl) (hv:v.cells=vs.toArray:=by exact rfl) (hO:O[i]? =some (dY b (.cells cs.toArray E (0,0))):=by exact rfl) (hl:vs.length=s:=by rfl) (ho:(vs.all fF)=true:=by rfl) (hr:o+vs.length≤cs.length:=by simp[eZ]):LT P r base n ⟨none,.store T x y,t,p,af,g⟩ ρ O K:=u6 i hi hx hy hv hl ho hO hr h
end
open Go.Lib
theorem ke {u:Nat} (h:u<10):decDigits u=[UInt8.ofNat (48+u)]:=by rw[decDigits,dif_pos h]
theorem ol {u:Nat} (h: ¬u<10):decDigits u=decDigits (u/10)++[UInt8.ofNat (48+u%10)]:=by rw[decDigits,dif_neg h]
theorem x0 (u:Nat):decDigits u≠ []:=by
 by_cases h:u<10
 ·rw[ke h];simp
 ·rw[ol h];simp
theorem jr {k:Nat} (h:k<10):(UInt8.ofNat (48+k)).toNat=48+k:=by
 rw[UInt8.toNat_ofNat'];omega
theorem rJ (u:Nat): ∀b∈decDigits u,48≤b.toNat∧b.toNat<58:=by
 induction u using Nat.strongRecOn with
 |_ u ih=>
  by_cases h:u<10
  ·rw[ke h];intro b hb;rw[da]at hb;subst hb;rw[jr h];omega
  ·rw[ol h]
   intro b hb
   rcases List.mem_append.1 hb with hb|hb
   ·exact ih (u/10) (by omega) b hb
   ·rw[da]at hb;subst hb;rw[jr (by omega)];omega
theorem pN: ∀(a b:Nat),decDigits a=decDigits b→a=b:=by
 intro a
 induction a using Nat.strongRecOn with
 |_ a ih=>
  intro b h
  by_cases ha:a<10
  ·by_cases hb:b<10
   ·rw[ke ha,ke hb]at h
    have:=au UInt8.toNat (List.cons.inj h).1
    rw[jr ha,jr hb]at this
    omega
   ·rw[ke ha,ol hb]at h
    have h1:=au List.length h
    have h2:0<(decDigits (b/10)).length:=List.length_pos_iff.2 (x0 _)
    simp only[aP,bG,dl]at h1;omega
  ·by_cases hb:b<10
   ·rw[ol ha,ke hb]at h
    have h1:=au List.length h
    have h2:0<(decDigits (a/10)).length:=List.length_pos_iff.2 (x0 _)
    simp only[aP,bG,dl]at h1;omega
   ·rw[ol ha,ol hb]at h
    obtain⟨h1,h2⟩:=List.append_inj' h rfl
    have e1:=ih (a/10) (by omega) (b/10) h1
    have e2:=au UInt8.toNat (List.cons.inj h2).1
    rw[jr (by omega),jr (by omega)]at e2
    omega
def jK:List Nat→List UInt8
 | []=>[]
 |n::l=>32::(decDigits n++jK l)
def jg (a:Nat) (l:List Nat):List UInt8:=decDigits a++jK l
theorem Bx (l:List Nat) (n:Nat):jK (l++[n])=jK l++32::decDigits n:=by
 induction l with
 |nil=>simp[jK]
 |cons a l ih=>simp[jK,ih]
theorem mY (u:Nat):(32:UInt8)∉decDigits u:=fun h=>by have:=rJ u 32 h;simp at this
theorem qG: ∀ {x y:List UInt8} {a b:List Nat},(32:UInt8)∉x→(32:UInt8)∉y→x++jK a=y++jK b→x=y∧jK a=jK b
 | [],[],a,b,_,_,h=>⟨rfl,by simpa using h⟩
 | [],c::y,a,b,_,hy,h=>by
  cases a with
  |nil=>simp[jK]at h
  |cons n a=>simp only[jK,du,cF,List.cons.injEq]at h;exact(hy (by simp[←h.1])).elim
 |c::x,[],a,b,hx,_,h=>by
  cases b with
  |nil=>simp[jK]at h
  |cons n b=>simp only[jK,du,cF,List.cons.injEq]at h;exact(hx (by simp[h.1])).elim
 |c::x,c'::y,a,b,hx,hy,h=>by
  simp only[cF,List.cons.injEq]at h
  simp only[dm,not_or]at hx hy
  obtain⟨h1,h2⟩:=qG hx.2 hy.2 h.2
  exact⟨by rw[h.1,h1],h2⟩
theorem Ay: ∀ {l m:List Nat},jK l=jK m→l=m
 | [],[],_=>rfl
 | [],b::m,h=>by simp[jK]at h
 |a::l,[],h=>by simp[jK]at h
 |a::l,b::m,h=>by
  simp only[jK,List.cons.injEq,true_and]at h
  obtain⟨h1,h2⟩:=qG (mY a) (mY b) h
  rw[pN a b h1,Ay h2]
theorem Lo {a b:Nat} {l m:List Nat} (h:jg a l=jg b m):a=b∧l=m:=by
 obtain⟨h1,h2⟩:=qG (mY a) (mY b) h
 exact⟨pN a b h1,Ay h2⟩
theorem tV: ∀(k u:Nat),u<10^(k+1)→(decDigits u).length≤k+1
 |0,u,h=>by rw[ke (by simpa using h)];simp
 |k+1,u,h=>by
  by_cases h0:u<10
  ·rw[ke h0];simp
  ·rw[ol h0,aP]
   have:=tV k (u/10) (by rw[Nat.pow_succ]at h;omega)
   simp only[bG,dl]
   omega
section
variable {α:Type} [DecidableEq α]
def ix (x:α):List α→Nat
 | []=>0
 |k::ks=>if x=k then 0 else ix x ks+1
theorem sr {x:α}: ∀ {ks:List α},x∈ks→ix x ks<ks.length
 |k::ks,h=>by
  simp only[ix]
  split
  ·simp
  ·rename_i e
   have:=sr ((List.mem_cons.1 h).resolve_left e)
   simp;omega
theorem pY {x:α}: ∀ {ks:List α},x∈ks→ks[ix x ks]? =some x
 |k::ks,h=>by
  simp only[ix]
  split
  ·rename_i e;simp[e]
  ·rename_i e
   simpa using pY ((List.mem_cons.1 h).resolve_left e)
theorem Wr {x y:α} {ks:List α} (hx:x∈ks) (hy:y∈ks) (h:ix x ks=ix y ks):x=y:=by
 have h1:=pY hx
 rw[h,pY hy]at h1
 exact(db h1).symm
theorem lI {x:α} {ms:List α}: ∀ {ks:List α},x∈ks→ix x (ks++ms)=ix x ks
 |k::ks,h=>by
  simp only[cF,ix]
  split
  ·rfl
  ·rename_i e;rw[lI ((List.mem_cons.1 h).resolve_left e)]
theorem fZ {x:α} {ms:List α}: ∀ {ks:List α},x∉ks→ix x (ks++ms)=ks.length+ix x ms
 | [],_=>by simp
 |k::ks,h=>by
  simp only[dm,not_or]at h
  simp only[cF,ix,h.1,if_false,fZ h.2,bG]
  omega
def add (ks:List α) (k:α):List α:=if k∈ks then ks else ks++[k]
def dd (l:List α):List α:=l.foldl add []
theorem rY {ks:List α} {k x:α}:x∈add ks k↔x∈ks∨x=k:=by
 unfold add
 split
 ·rename_i h
  exact⟨.inl,fun h'=>h'.elim id (fun e=>e▸h)⟩
 ·simp
theorem nr {ks:List α} {k:α} (h:ks.Nodup):(add ks k).Nodup:=by
 unfold add
 split
 ·exact h
 ·rename_i hk
  rw[List.nodup_append]
  refine⟨h,by simp,fun a ha b hb e=>?_⟩
  simp at hb;subst hb;subst e;exact hk ha
theorem jY (ks:List α) (k:α):ks<+:add ks k:=by
 unfold add
 split
 ·exact List.prefix_refl _
 ·exact List.prefix_append _ _
theorem gI: ∀(l ks:List α),ks<+:l.foldl add ks
 | [],ks=>List.prefix_refl _
 |k::l,ks=>(jY ks k).trans (gI l (add ks k))
theorem vx (l m:List α):dd (l++m)=m.foldl add (dd l):=by simp[dd]
theorem Ce (l:List α) (k:α):dd (l++[k])=add (dd l) k:=by simp[dd]
theorem ku {l:List α} {x:α}:x∈dd l↔x∈l:=by
 have: ∀(l ks:List α),x∈l.foldl add ks↔x∈ks∨x∈l:=by
  intro l
  induction l with
  |nil=>intro ks;simp
  |cons k l ih=>intro ks;rw[cP,ih,rY,dm,or_assoc]
 rw[dd,this];simp
theorem ir {ks ms:List α} (h:ks<+:ms) {x:α} (hx:x∈ks):ix x ms=ix x ks:=by
 obtain⟨t,rfl⟩:=h
 exact lI hx
theorem lD {x:α}: ∀(ks:List α) (i:Nat),mq x (ks.zipIdx i)=if x∈ks then some (i+ix x ks)else none
 | [],i=>by simp[mq]
 |k::ks,i=>by
  simp only[List.zipIdx_cons,mq]
  by_cases e:x=k
  ·subst e;simp[ix]
  ·rw[aA e,lD ks (i+1)]
   by_cases h:x∈ks
   ·simp[h,e,ix];omega
   ·simp[h,e]
theorem nz (ks:List α) (i:Nat):(ks.zipIdx i).map Prod.fst=ks:=by
 induction ks generalizing i with
 |nil=>rfl
 |cons k ks ih=>simp[List.zipIdx_cons]
end
def gj (cs:List Nat) (r:List Int):List Nat:=r.map fun to=>cs.getD to.toNat 0
def yN (d:cV) (cs:List Nat) (s:Nat):List UInt8:=jg (cs.getD s 0) (gj cs (d.next.getD s []))
def jl (d:cV) (cs:List Nat):List (List UInt8):=(List.range d.next.length).map (yN d cs)
def i_ (d:cV) (cs:List Nat):List Nat:=(jl d cs).map fun k=>ix k (dd (jl d cs))
theorem EA (l:List UInt8):dn (l++[32])=dn l++[Value.int .u8 32]:=by simp
theorem Kc {a j:Nat} {l:List Nat} (hj:j<l.length):jg a (l.take (j+1))=jg a (l.take j)++[32]++Lib.decDigits l[j]:=by
 rw[aH hj,jg,jg,Bx];simp
theorem Ba: ∀ {l:List Nat},(∀x∈l,x<10000)→(jK l).length≤5*l.length
 | [],_=>by simp[jK]
 |a::l,h=>by
  have h1:=tV 3 a (by have:=h a (by simp);omega)
  have h2:=Ba (l:=l) (fun x hx=>h x (by simp[hx]))
  simp only[jK,bG,aP]
  omega
theorem NY {a:Nat} {l:List Nat} (ha:a<10000) (h: ∀x∈l,x<10000):(jg a l).length≤4+5*l.length:=by
 have h1:=tV 3 a (by omega)
 have h2:=Ba h
 simp only[jg,aP]
 omega
theorem Gu {d:cV} {cs:List Nat} {k:Nat} (hk:k<d.next.length):(jl d cs).take (k+1)=(jl d cs).take k++[yN d cs k]:=by
 have hl:k<(jl d cs).length:=by simpa[jl]using hk
 rw[aH hl]
 simp[jl]
theorem Rk {d:cV} {cs:List Nat} {k:Nat} (hk:k<d.next.length) (hc:k<cs.length):yN d cs k=jg cs[k] (gj cs d.next[k]):=by
 simp[yN,hk,hc]
theorem Rj {cs:List Nat} (h: ∀x∈cs,x<10000) {r:List Int}: ∀x∈gj cs r,x<10000:=by
 intro x hx
 obtain⟨to,_,rfl⟩:=List.mem_map.1 hx
 rw[az]
 cases e:cs[to.toNat]? with
 |none=>simp
 |some y=>exact h y (bJ e)
theorem vw {α:Type} [DecidableEq α] (l:List α):(dd l).length≤l.length:=by
 have: ∀(l ks:List α),(l.foldl add ks).length≤ks.length+l.length:=by
  intro l
  induction l with
  |nil=>intro ks;simp
  |cons k l ih=>
   intro ks
   have h1:=ih (add ks k)
   have h2:(add ks k).length≤ks.length+1:=by unfold add;split<;>simp
   simp only[cP,bG]
   omega
 simpa[dd]using this l []
theorem N0 {d:cV} {cs:List Nat} {k s:Nat} (hs:s<k) (hk:k≤d.next.length):yN d cs s∈(jl d cs).take k:=by
 rw[jl,←List.map_take]
 refine List.mem_map_of_mem ?_
 rw[List.take_range]
 simp;omega
theorem iS (cs:List Nat) (r:List Int):(gj cs r).length=r.length:=ar _
theorem EP {cs:List Nat} {r:List Int} {j:Nat} (hj:j<r.length) (h:r[j].toNat<cs.length):(gj cs r)[j]'(by rw[iS];exact hj)=cs[r[j].toNat]:=by
 simp[gj,h]
theorem NZ {cs:List Nat} {r:List Int} {a j:Nat} (hj:j<r.length) (h:r[j].toNat<cs.length):jg a ((gj cs r).take (j+1))=jg a ((gj cs r).take j)++[32]++Lib.decDigits cs[r[j].toNat]:=by
 rw[Kc (by rw[iS];exact hj),EP hj h]
def mN (d:cV):List Nat:=(List.range d.next.length).map fun s=>if d.a7.getD s false≠d.a7.getD 0 false then 1 else 0
def iq (d:cV):Nat→List Nat
 |0=>mN d
 |i+1=>i_ d (iq d i)
theorem fD (d:cV) (i:Nat):(iq d i).length=d.next.length:=by
 cases i<;>simp[iq,mN,i_,jl]
theorem GH {d:cV} {cs:List Nat} {x:Nat} (h:x∈i_ d cs):x<d.next.length:=by
 obtain⟨k,hk,rfl⟩:=List.mem_map.1 h
 have h1:=sr (ku.2 hk)
 have h2:=vw (jl d cs)
 have h3:(jl d cs).length=d.next.length:=by simp[jl]
 omega
theorem N4 {d:cV} (hn:d.next.length<10000) (i:Nat): ∀x∈iq d i,x<10000:=by
 cases i with
 |zero=>
  intro x hx
  obtain⟨s,_,rfl⟩:=List.mem_map.1 hx
  split<;>omega
 |succ i=>intro x hx;have:=GH hx;omega
theorem tn {d:cV} {i:Nat} (h:i_ d (iq d i)=iq d i): ∀m,i≤m→iq d m=iq d i:=by
 intro m hm
 induction hm with
 |refl=>rfl
 |step _ ih=>rw[iq,ih,h]
def yi (tr:List UInt8→Nat→List UInt8) (L:Nat) (start:List UInt8):Nat→List (List UInt8)
 |0=>[start]
 |s+1=>((List.range L).map (tr ((yi tr L start s).getD s []))).foldl add (yi tr L start s)
def lE (tr:List UInt8→Nat→List UInt8) (L:Nat) (ks:List (List UInt8)) (s:Nat):List Int:=
 (List.range L).map fun x=>((ix (tr (ks.getD s []) x) ks:Nat):Int)
theorem jk {α:Type} [DecidableEq α] (f:Nat→α) (ks:List α) (x:Nat):((List.range (x+1)).map f).foldl add ks=add (((List.range x).map f).foldl add ks) (f x):=by
 rw[List.range_succ,bj,cO];rfl
theorem d_ {α:Type} [DecidableEq α] {y:α}: ∀(l ks:List α),y∈l.foldl add ks↔y∈ks∨y∈l
 | [],ks=>by simp
 |k::l,ks=>by rw[cP,d_ l,rY,dm,or_assoc]
theorem mz {ks ms:List (List UInt8)} (h:ks<+:ms) {s:Nat} (hs:s<ks.length):ms.getD s []=ks.getD s []:=by
 obtain⟨t,rfl⟩:=h
 rw[az,az,bE hs]
structure qW (tr:List UInt8→Nat→List UInt8) (L:Nat) (ks:List (List UInt8)) (s:Nat) (rs:List (List Int)):Prop where
 len:rs.length=s
 le:s≤ks.length
 row: ∀i,i<s→rs[i]? =some (lE tr L ks i)
 mem: ∀i,i<s→ ∀x,x<L→tr (ks.getD i []) x∈ks
theorem Cm {tr:List UInt8→Nat→List UInt8} {L:Nat} {ks ms:List (List UInt8)} (h:ks<+:ms) {s:Nat} (hs:s<ks.length) (hm: ∀x,x<L→tr (ks.getD s []) x∈ks):lE tr L ms s=lE tr L ks s:=by
 unfold lE
 apply List.map_congr_left
 intro x hx
 rw[mz h hs,ir h (hm x (List.mem_range.1 hx))]
theorem qW.snoc {tr:List UInt8→Nat→List UInt8} {L:Nat} {ks ms:List (List UInt8)} {s:Nat} {rs:List (List Int)} {ys:List Int} (h:qW tr L ks s rs) (hp:ks<+:ms) (hs:s<ks.length) (hy:ys=lE tr L ms s) (hm: ∀x,x<L→tr (ms.getD s []) x∈ms):qW tr L ms (s+1) (rs++[ys]):=by
 have GZ:=hp.length_le
 refine⟨by simp[h.len],by omega,fun i hi=>?_,fun i hi=>?_⟩
 ·by_cases e:i=s
  ·subst e;rw[bM (by rw[h.len];exact aS _),h.len,hy];simp
  ·rw[bE (by rw[h.len];omega),h.row i (by omega),Cm hp (by omega) (h.mem i (by omega))]
 ·by_cases e:i=s
  ·subst e;exact hm
  ·intro x hx
   rw[mz hp (by omega)]
   exact hp.subset (h.mem i (by omega) x hx)
def Io (l:List UInt8):Nat:=l.foldl (fun a b=>a*10+(b.toNat-48)) 0
theorem vK (u:Nat):Io (Lib.decDigits u)=u:=by
 induction u using Nat.strongRecOn with
 |_ u ih=>
  by_cases h:u<10
  ·rw[ke h]
   show 0*10+((UInt8.ofNat (48+u)).toNat-48)=u
   rw[jr h];omega
  ·rw[ol h,Io,cO]
   have:=ih (u/10) (by omega)
   rw[Io]at this
   rw[this]
   show u/10*10+((UInt8.ofNat (48+u%10)).toNat-48)=u
   rw[jr (by omega)];omega
def eS (d:cV) (o x:Nat):Nat:=((d.next.getD o []).getD x 0).toNat
def Ff (d:cV) (k:List UInt8) (x:Nat):List UInt8:=Lib.decDigits (eS d (Io k) x)
def nj (d:cV) (o:Nat):List Nat:=(List.range (2^d.vars.toNat)).map (eS d o)
def dN (d:cV):Nat→List Nat
 |0=>[d.start.toNat]
 |s+1=>if s<(dN d s).length then(nj d ((dN d s).getD s 0)).foldl add (dN d s)else dN d s
def order (d:cV):List Nat:=dN d d.next.length
def eo (d:cV):cV where
 vars:=d.vars
 start:=0
 next:=(order d).map fun o=>(nj d o).map fun t=>((ix t (order d):Nat):Int)
 a7:=(order d).map fun o=>d.a7.getD o false
theorem Val.gT {d:cV} (hv:Val d) {o x:Nat} (ho:o<d.next.length) (hx:x<2^d.vars.toNat):eS d o x<d.next.length∧ ∃h:o<d.next.length,∃tK:x<d.next[o].length,d.next[o][x]=(eS d o x:Int):=by
 have hl:d.next[o].length=2^d.vars.toNat:=hv.len _ (aN ho)
 have tK:x<d.next[o].length:=by omega
 have h1:=hv.ok _ (aN ho) _ (aN tK)
 have e:eS d o x=d.next[o][x].toNat:=by simp[eS,ho,tK]
 exact⟨by omega,ho,tK,by omega⟩
theorem eX: ∀ {n:Nat} {l:List Nat},l.Nodup→(∀x∈l,x<n)→l.length≤n
 |0,l,_,hb=>by
  cases l with
  |nil=>simp
  |cons a l=>exact absurd (hb a (by simp)) (by omega)
 |n+1,l,h,hb=>by
  by_cases hn:n∈l
  ·have h1:=eX (n:=n) (h.erase n) fun x hx=>by
    have:=(List.Nodup.mem_erase_iff h).1 hx
    have:=hb x this.2
    omega
   rw[List.length_erase_of_mem hn]at h1
   omega
  ·have:=eX (n:=n) h fun x hx=>by
    have:=hb x hx
    have:x≠n:=fun e=>hn (e▸hx)
    omega
   omega
theorem Ip {α β:Type} [DecidableEq α] [DecidableEq β] {f:α→β} (hf: ∀a b,f a=f b→a=b) (ks:List α) (k:α):(add ks k).map f=add (ks.map f) (f k):=by
 unfold add
 by_cases h:k∈ks
 ·rw[aJ h,aJ (List.mem_map_of_mem h)]
 ·rw[aA h,aA (fun hh=>by obtain⟨a,ha,e⟩:=List.mem_map.1 hh;exact h (hf _ _ e▸ha))]
  simp
theorem sw {α β:Type} [DecidableEq α] [DecidableEq β] {f:α→β} (hf: ∀a b,f a=f b→a=b): ∀(l ks:List α),(l.foldl add ks).map f=(l.map f).foldl add (ks.map f)
 | [],ks=>rfl
 |k::l,ks=>by rw[cP,sw hf l,Ip hf,cD,cP]
theorem Iq (d:cV): ∀(N:Nat),(∀i,i<N→i<(yi (Ff d) (2^d.vars.toNat) (Lib.decDigits d.start.toNat) i).length)→
  yi (Ff d) (2^d.vars.toNat) (Lib.decDigits d.start.toNat) N=(dN d N).map Lib.decDigits
 |0,_=>rfl
 |N+1,h=>by
  have ih:=Iq d N fun i hi=>h i (by omega)
  have hN:=h N (by omega)
  rw[ih,ar]at hN
  rw[yi,ih,dN,aJ hN,sw pN]
  congr 1
  rw[nj,List.map_map]
  apply List.map_congr_left
  intro x _
  have e:((dN d N).map Lib.decDigits).getD N []=Lib.decDigits ((dN d N).getD N 0):=by
   simp[hN]
  rw[e,Ff,vK];rfl
theorem EQ {d:cV} {N:Nat} (h:(dN d N).length=N): ∀m,N≤m→dN d m=dN d N:=by
 intro m hm
 induction hm with
 |refl=>rfl
 | @step m hm ih=>
  have hm':N≤m:=hm
  rw[dN,ih,aA (by omega)]
theorem qq {d:cV} {N:Nat} (h:(dN d N).length=N) (hn:N≤d.next.length):order d=dN d N:=EQ h _ hn
theorem WG (os:List Nat) (t:Nat):ix (Lib.decDigits t) (os.map Lib.decDigits)=ix t os:=by
 induction os with
 |nil=>rfl
 |cons o os ih=>
  simp only[cD,ix,ih]
  by_cases e:t=o
  ·simp[e]
  ·rw[aA e,aA (fun h=>e (pN _ _ h))]
theorem wH: ∀ {a b:List Nat},a.map Lib.decDigits=b.map Lib.decDigits→a=b
 | [],[],_=>rfl
 | [],_::_,h=>by simp at h
 |_::_,[],h=>by simp at h
 |x::a,y::b,h=>by
  simp only[cD,List.cons.injEq]at h
  rw[pN x y h.1,wH h.2]
theorem Kd {d:cV} {os:List Nat} {N:Nat} (kw: ∀i,i<N→i<(yi (Ff d) (2^d.vars.toNat) (Lib.decDigits d.start.toNat) i).length)
  (oQ:yi (Ff d) (2^d.vars.toNat) (Lib.decDigits d.start.toNat) N=os.map Lib.decDigits) (ig:(yi (Ff d) (2^d.vars.toNat) (Lib.decDigits d.start.toNat) N).length=N) (GZ:os.length≤d.next.length):os=order d∧os.length=N:=by
 have h1:os.length=N:=by rw[←ig,oQ,ar]
 have h2:os=dN d N:=wH (by rw[←oQ,Iq d N kw])
 exact⟨by rw[qq (N:=N) (by rw[←h2];exact h1) (by omega)];exact h2,h1⟩
theorem Oj {d:cV} {os:List Nat} {N:Nat} {rs:List (List Int)} (oQ:yi (Ff d) (2^d.vars.toNat) (Lib.decDigits d.start.toNat) N=os.map Lib.decDigits) (hE:qW (Ff d) (2^d.vars.toNat) (yi (Ff d) (2^d.vars.toNat) (Lib.decDigits d.start.toNat) N) N rs) (ho:os=order d) (hN:os.length=N):rs=(eo d).next:=by
 apply List.ext_getElem?
 intro i
 by_cases hi:i<N
 ·rw[hE.row i hi,oQ]
  have wI:i<os.length:=by omega
  have e:(os.map Lib.decDigits).getD i []=Lib.decDigits os[i]:=by simp[wI]
  simp only[eo,bi,←ho,ap wI,Option.map_some,lE,e,Ff,vK,nj,List.map_map]
  refine au some (List.map_congr_left fun x _=>?_)
  simp only[Function.comp_def,WG]
 ·rw[bY (by rw[hE.len];omega),bY (by simp[eo,←ho];omega)]
def iZ (d:cV) (cs:List Nat):Nat→List (List Int)×List Bool
 |0=>([],[])
 |k+1=>if cs.getD k 0<(iZ d cs k).1.length then iZ d cs k else
   ((iZ d cs k).1++[(gj cs (d.next.getD k [])).map fun c:Nat=>(c:Int)],(iZ d cs k).2++[d.a7.getD k false])
def quo (d:cV) (cs:List Nat):cV where
 vars:=d.vars
 start:=((cs.getD d.start.toNat 0:Nat):Int)
 next:=(iZ d cs d.next.length).1
 a7:=(iZ d cs d.next.length).2
theorem lq (d:cV) (cs:List Nat): ∀k,(iZ d cs k).1.length=(iZ d cs k).2.length∧(iZ d cs k).1.length≤k
 |0=>by simp[iZ]
 |k+1=>by
  have ih:=lq d cs k
  rw[iZ]
  split
  ·exact⟨ih.1,by omega⟩
  ·simp;omega
theorem pw {α:Type} {p:List α→Prop} (h0:p []) (h1: ∀l x,p l→p (l++[x])): ∀l,p l:=fun l=>by
 rw[←List.reverse_reverse l]
 generalize l.reverse=m
 induction m with
 |nil=>exact h0
 |cons a m ih=>rw[List.reverse_cons];exact h1 _ _ ih
abbrev ez (d:cV):Nat:=2^d.vars.toNat
def runN (d:cV) (s:Nat) (w:List Nat):Nat:=w.foldl (eS d) s
def dF (d:cV) (s:Nat):Bool:=d.a7.getD s false
def dst (d:cV) (s t:Nat) (w:List Nat):Prop:=dF d (runN d s w)≠dF d (runN d t w)
def Wd (d:cV) (w:List Nat):Prop:= ∀x∈w,x<ez d
def code (w:List Nat):Nat:=w.foldl (fun a x=>a*65+(x+1)) 0
theorem eQ (d:cV) (s:Nat) (w:List Nat) (x:Nat):runN d s (w++[x])=eS d (runN d s w) x:=by simp[runN]
section
variable {P:Program} {r:Option Nat} {base:World} {n:Nat} {ρ:Env} {O:List Item} {Q:ll}
theorem Lk {x:Code} (K:Env→List Item→Prop) (h:T P r base n x (K6 K Q) ρ O) (hk: ∀ρ O,K ρ O→Q .normal ρ O):T P r base n x Q ρ O:=
 h.mono fun e ρ O h=>by cases e<;>first|exact hk ρ O h|exact h
variable {t:TypeId} {p:String} {af:Array Edge} {g:Option (Nat×Bool)} {dst:Option Nat}
theorem CW {x y:Operand} {T E U:TypeId} {b:Option Addr} {n c:Nat} (hu:P.underlying T=some (.slice E)) (hx:ev ρ x=.slice b n c) (hy:ev ρ y=.slice none 0 0):QT P base ⟨dst,.binOp .eql T x y U,t,p,af,g⟩ ρ O (.bool b.isNone):=fun w _=>by
 have h:(Op.equal T (.slice b n c) (.slice none 0 0)).run P w=.ok b.isNone w:=by
  show(Op.equalIn (9999+1) T _ _).run P w=_
  rw[Op.equalIn]
  cases b<;>simp[bw hu]
 simp[execOp,hx,hy,eqGuard,binOp,h]
theorem qF {x:Nat} (h:x<256):IntKind.u8.wrap (x:Int)=(x:Int):=by
 simp only[IntKind.wrap,IntKind.signed,IntKind.bits]
 simp
 omega
end
theorem jI {d:cV} (hv:Val d) {s:Nat} (hs:s<d.next.length): ∀w,Wd d w→runN d s w<d.next.length:=by
 refine pw (fun _=>hs) ?_
 intro w x ih hw
 rw[eQ]
 exact(hv.gT (ih fun y hy=>hw y (by simp[hy])) (hw x (by simp))).1
end Go.Lx
namespace Go.Lx
open Go.RowKit
end Go.Lx

