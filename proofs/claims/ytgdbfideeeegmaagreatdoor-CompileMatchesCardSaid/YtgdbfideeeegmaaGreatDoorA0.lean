/- Contracts of functions; conditions: those each theorem names. -/
import Derived.WalkKit
import Derived.Below
import Derived.Orders
import Derived.Calls
import Derived.Control
import Derived.RangeFuncNested
import Derived.TacticsIn
import Derived.OrdersIn
set_option linter.unusedSectionVars false
set_option linter.unusedSimpArgs false
set_option linter.unusedVariables false
set_option linter.unnecessarySimpa false
set_option maxHeartbeats 8000000
set_option maxRecDepth 20000
theorem Go.Lx.F {α:Sort _} {a:α}:a=a:=rfl
theorem dF:type_of% @Array.getD_eq_getD_getElem?:=@Array.getD_eq_getD_getElem?
theorem ar:type_of% @Bool.and_eq_true:=@Bool.and_eq_true
theorem dN:type_of% @Bool.eq_iff_iff:=@Bool.eq_iff_iff
theorem cW:type_of% @Int.toNat_of_nonneg:=@Int.toNat_of_nonneg
theorem aP:type_of% @List.Sublist.refl:=@List.Sublist.refl
theorem fp:type_of% @List.all_eq_true:=@List.all_eq_true
theorem df:type_of% @List.any_eq_true:=@List.any_eq_true
theorem aV:type_of% @List.append_assoc:=@List.append_assoc
theorem dp:type_of% @List.append_nil:=@List.append_nil
theorem cN:type_of% @List.cons_append:=@List.cons_append
theorem cT:type_of% @List.foldl_append:=@List.foldl_append
theorem cU:type_of% @List.foldl_cons:=@List.foldl_cons
theorem au:type_of% @List.getD_eq_getElem?_getD:=@List.getD_eq_getElem?_getD
theorem bG:type_of% @List.getElem?_append_left:=@List.getElem?_append_left
theorem bZ:type_of% @List.getElem?_append_right:=@List.getElem?_append_right
theorem ak:type_of% @List.getElem?_eq_getElem:=@List.getElem?_eq_getElem
theorem cn:type_of% @List.getElem?_eq_none:=@List.getElem?_eq_none
theorem bl:type_of% @List.getElem?_map:=@List.getElem?_map
theorem iU:type_of% @List.getElem_append_left:=@List.getElem_append_left
theorem jU:type_of% @List.getElem_map:=@List.getElem_map
theorem av:type_of% @List.getElem_mem:=@List.getElem_mem
theorem aJ:type_of% @List.length_append:=@List.length_append
theorem bQ:type_of% @List.length_cons:=@List.length_cons
theorem ai:type_of% @List.length_map:=@List.length_map
theorem dx:type_of% @List.length_nil:=@List.length_nil
theorem iE:type_of% @List.length_range:=@List.length_range
theorem jE:type_of% @List.length_replicate:=@List.length_replicate
theorem eI:type_of% @List.length_set:=@List.length_set
theorem db:type_of% @List.length_take:=@List.length_take
theorem bm:type_of% @List.map_append:=@List.map_append
theorem cJ:type_of% @List.map_cons:=@List.map_cons
theorem gM:type_of% @List.map_nil:=@List.map_nil
theorem iv:type_of% @List.mem_append:=@List.mem_append
theorem aH:type_of% @List.mem_append_left:=@List.mem_append_left
theorem ah:type_of% @List.mem_append_right:=@List.mem_append_right
theorem dt:type_of% @List.mem_cons:=@List.mem_cons
theorem i_:type_of% @List.mem_map:=@List.mem_map
theorem bT:type_of% @List.mem_of_getElem?:=@List.mem_of_getElem?
theorem fE:type_of% @List.mem_range:=@List.mem_range
theorem dl:type_of% @List.mem_singleton:=@List.mem_singleton
theorem dM:type_of% @List.nil_append:=@List.nil_append
theorem bV:type_of% @List.nil_sublist:=@List.nil_sublist
theorem bt:type_of% @List.take_of_length_le:=@List.take_of_length_le
theorem aC:type_of% @List.take_succ_eq_append_getElem:=@List.take_succ_eq_append_getElem
theorem aI:type_of% @Nat.le_refl:=@Nat.le_refl
theorem bE:type_of% @Nat.le_trans:=@Nat.le_trans
theorem kG:type_of% @Nat.lt_of_le_of_lt:=@Nat.lt_of_le_of_lt
theorem eQ:type_of% @Nat.lt_of_lt_of_le:=@Nat.lt_of_lt_of_le
theorem ck:type_of% @Nat.pow_le_pow_right:=@Nat.pow_le_pow_right
theorem fX:type_of% @Nat.sub_self:=@Nat.sub_self
theorem bK:type_of% @Nat.succ_pos:=@Nat.succ_pos
theorem bj:type_of% @Nat.zero_le:=@Nat.zero_le
theorem dn:type_of% @Option.some.inj:=@Option.some.inj
theorem am:type_of% @congrArg:=@congrArg
theorem a8:type_of% @decide_eq_false:=@decide_eq_false
theorem aZ:type_of% @decide_eq_true:=@decide_eq_true
theorem cj:type_of% @decide_eq_true_eq:=@decide_eq_true_eq
theorem aq:type_of% @if_neg:=@if_neg
theorem aB:type_of% @if_pos:=@if_pos
namespace Go.Lx
open Go.RowKit
abbrev Env:=Nat→Value
def kz (ρ:Env) (d:Nat) (v:Value):Env:=fun t=>match Nat.beq t d with
 |true=>v
 |false=>ρ t
def ev (ρ:Env):Operand→Value
 | .tmp t=>ρ t
 | .const v=>v
 | .global g=>.pointer (some ⟨g,0,none⟩)
 | .func f=>.func (.func f) #[] #[]
def HQ (ρ:Env):List Operand→List Value
 | []=>[]
 |x::l=>ev ρ x::HQ ρ l
theorem Me (ρ:Env) (l:List Operand):HQ ρ l=l.map (ev ρ):=by
 induction l with
 |nil=>rfl
 |cons x l ih=>simp[HQ,ih]
structure Ag (n:Nat) (ds:List Deferred) (a:Act) (ρ:Env):Prop where
 tmp: ∀t,a.tmps.getD t undef=ρ t
 size:a.tmps.size=n
 defers:a.defers=ds
theorem Ag.eval {n:Nat} {ds:List Deferred} {a:Act} {ρ:Env} (h:Ag n ds a ρ):a.eval=ev ρ:=by
 funext x
 cases x with
 |tmp t=>exact h.tmp t
 |_=>rfl
theorem Ag.put {n:Nat} {ds:List Deferred} {a:Act} {ρ:Env} (h:Ag n ds a ρ) {d:Nat} (hd:Nat.blt d n=true) (v:Value):Ag n ds (a.put (some d) v) (kz ρ d v):=by
 have hd':d<a.tmps.size:=by rw[h.size];rw[Nat.blt_eq]at hd;exact hd
 refine⟨fun t=>?_,by simp[Act.put,h.size],by simp[Act.put,h.defers]⟩
 have ht:=h.tmp t
 simp only[Act.put,kz]
 by_cases e:t=d
 ·subst e
  have hb:Nat.beq t t=true:=Nat.beq_refl t
  rw[hb]
  simp[dF,hd']
 ·have hb:Nat.beq t d=false:=by
   rcases h':Nat.beq t d with _|_
   ·rfl
   ·exact absurd (Nat.eq_of_beq_eq_true h') e
  rw[hb]
  simp only[dF]at ht⊢
  rw[Array.getElem?_setIfInBounds_ne (Ne.symm e)]
  exact ht
structure Item where
 blocks:List Nat
 P:World→Prop
 loc: ∀w w':World,(∀b∈blocks,w'.heap[b]? =w.heap[b]?)→P w→P w'
def eu (b:Nat) (o:Obj):Item:=⟨[b],fun w=>w.heap[b]? =some o,fun w w' h hp=>by rw[h b (by simp)];exact hp⟩
abbrev oI (b:Nat) (T:TypeId) (cs:List Value):Item:=eu b (.cells cs.toArray T (0,0))
structure Inv (base:World) (O:List Item) (w:World):Prop where
 below:Below base.heap.size base w
 holds: ∀it∈O,it.P w
 fresh: ∀it∈O,∀b∈it.blocks,base.heap.size≤b∧b<w.heap.size
 nodup:(O.flatMap Item.blocks).Nodup
theorem Inv.refl (w:World):Inv w [] w:=⟨Below.refl _ _,by simp,by simp,by simp⟩
theorem Inv.same {base:World} {O:List Item} {w w':World} (h:Inv base O w) (hh:w'.heap=w.heap) (ho:w'.os=w.os) (ht:w'.tape=w.tape) (hp:w'.output=w.output):Inv base O w':=by
 refine⟨⟨ho.trans h.below.os,ht.trans h.below.tape,hp.trans h.below.output,by rw[hh];exact h.below.size,fun k hk=>by rw[hh];exact h.below.block k hk⟩,fun it hi=>it.loc w w' (fun b _=>by rw[hh]) (h.holds it hi),fun it hi b hb=>by rw[hh];exact h.fresh it hi b hb,h.nodup⟩
theorem Inv.drew {base:World} {O:List Item} {w:World} (h:Inv base O w):Inv base O w.drew:=h.same rfl rfl rfl rfl
theorem Inv.drawn {base:World} {O:List Item} {w:World} (h:Inv base O w) (n:Nat):Inv base O {w with drawn:=n}:=h.same rfl rfl rfl rfl
theorem xy {O O':List Item} (h:O'.Sublist O):(O'.flatMap Item.blocks).Sublist (O.flatMap Item.blocks):=by
 induction h with
 |slnil=>exact aP _
 |cons a _ ih=>exact ih.trans (by simp[List.flatMap_cons])
 |cons_cons a _ ih=>simp only[List.flatMap_cons];exact(aP _).append ih
theorem Inv.sub {base:World} {O O':List Item} {w:World} (h:Inv base O w) (hs:O'.Sublist O):Inv base O' w:=
 ⟨h.below,fun it hi=>h.holds it (hs.subset hi),fun it hi=>h.fresh it (hs.subset hi),(xy hs).nodup h.nodup⟩
theorem Inv.perm {base:World} {O O':List Item} {w:World} (h:Inv base O w) (hs:O'.Perm O):Inv base O' w:=
 ⟨h.below,fun it hi=>h.holds it (hs.mem_iff.1 hi),fun it hi=>h.fresh it (hs.mem_iff.1 hi),((hs.flatMap_right Item.blocks).nodup_iff).2 h.nodup⟩
def Sub (O' O:List Item):Prop:= ∃l,O'.Perm l∧l.Sublist O
theorem cd {O' O:List Item} (h:O'.Sublist O):Sub O' O:=⟨O',List.Perm.refl _,h⟩
theorem Inv.lz {base:World} {O O':List Item} {w:World} (h:Inv base O w) (hs:Sub O' O):Inv base O' w:=by
 obtain⟨l,hp,Ax⟩:=hs
 exact(h.sub Ax).perm hp
theorem Inv.call {base:World} {O O':List Item} {w w':World} (h:Inv base O w) (h':Inv w O' w'):Inv base (O'++O) w':=by
 have YW: ∀b,b<w.heap.size→w'.heap[b]? =w.heap[b]? :=h'.below.block
 refine⟨?_,?_,?_,?_⟩
 ·exact h.below.trans (h'.below.mono h.below.size)
 ·intro it hi
  rcases List.mem_append.1 hi with hi|hi
  ·exact h'.holds it hi
  ·exact it.loc w w' (fun b hb=>YW b (h.fresh it hi b hb).2) (h.holds it hi)
 ·intro it hi b hb
  rcases List.mem_append.1 hi with hi|hi
  ·have:=h'.fresh it hi b hb
   exact⟨bE h.below.size this.1,this.2⟩
  ·have:=h.fresh it hi b hb
   exact⟨this.1,eQ this.2 h'.below.size⟩
 ·rw[List.flatMap_append,List.nodup_append]
  refine⟨h'.nodup,h.nodup,fun x hx y hy e=>?_⟩
  obtain⟨i,hi,QU⟩:=List.mem_flatMap.1 hx
  obtain⟨j,hj,YX⟩:=List.mem_flatMap.1 hy
  have h1:=(h'.fresh i hi x QU).1
  have h2:=(h.fresh j hj y YX).2
  omega
theorem Inv.step {base:World} {A B N:List Item} {it:Item} {w w':World} (h:Inv base (A++it::B) w)
  (ho:w'.os=w.os) (ht:w'.tape=w.tape) (hp:w'.output=w.output) (hs:w.heap.size≤w'.heap.size)
  (hb: ∀b,b<w.heap.size→b∉it.blocks→w'.heap[b]? =w.heap[b]?)
  (hN: ∀x∈N,x.P w') (hf: ∀x∈N,∀b∈x.blocks,b∈it.blocks∨(w.heap.size≤b∧b<w'.heap.size)) (hn:(N.flatMap Item.blocks).Nodup):
  Inv base (A++N++B) w':=by
 have s9: ∀x∈A++B,x∈A++it::B:=fun x hx=>by
  rcases List.mem_append.1 hx with h|h<;>simp[h]
 have my:(A.flatMap Item.blocks++(it.blocks++B.flatMap Item.blocks)).Nodup:=by
  have:=h.nodup;simpa[List.flatMap_append,List.flatMap_cons]using this
 have UZ: ∀x∈A++B,∀b∈x.blocks,b∉it.blocks:=by
  intro x hx b hb hi
  rw[List.nodup_append]at my
  obtain⟨_,h2,h3⟩:=my
  rw[List.nodup_append]at h2
  rcases List.mem_append.1 hx with hx|hx
  ·exact h3 b (List.mem_flatMap.2 ⟨x,hx,hb⟩) b (List.mem_append.2 (.inl hi)) rfl
  ·exact h2.2.2 b hi b (List.mem_flatMap.2 ⟨x,hx,hb⟩) rfl
 have U0: ∀b∈it.blocks,base.heap.size≤b∧b<w.heap.size:=h.fresh it (by simp)
 refine⟨?_,?_,?_,?_⟩
 ·refine⟨ho.trans h.below.os,ht.trans h.below.tape,hp.trans h.below.output,bE h.below.size hs,fun k hk=>?_⟩
  rw[hb k (eQ hk h.below.size) (fun hi=>by have:=(U0 k hi).1;omega)]
  exact h.below.block k hk
 ·intro x hx
  rcases List.mem_append.1 hx with hx|hx
  ·rcases List.mem_append.1 hx with hx|hx
   ·have uC:x∈A++B:=by simp[hx]
    exact x.loc w w' (fun b Am=>hb b (h.fresh x (s9 x uC) b Am).2 (UZ x uC b Am)) (h.holds x (s9 x uC))
   ·exact hN x hx
  ·have uC:x∈A++B:=by simp[hx]
   exact x.loc w w' (fun b Am=>hb b (h.fresh x (s9 x uC) b Am).2 (UZ x uC b Am)) (h.holds x (s9 x uC))
 ·intro x hx b Am
  rcases List.mem_append.1 hx with hx|hx
  ·rcases List.mem_append.1 hx with hx|hx
   ·have uC:x∈A++B:=by simp[hx]
    have:=h.fresh x (s9 x uC) b Am
    exact⟨this.1,eQ this.2 hs⟩
   ·rcases hf x hx b Am with h1|h1
    ·exact⟨(U0 b h1).1,eQ (U0 b h1).2 hs⟩
    ·exact⟨bE h.below.size h1.1,h1.2⟩
  ·have uC:x∈A++B:=by simp[hx]
   have:=h.fresh x (s9 x uC) b Am
   exact⟨this.1,eQ this.2 hs⟩
 ·have Tn: ∀x∈A++B,∀b∈x.blocks,∀y∈N,b∉y.blocks:=by
   intro x hx b Am y hy Qg
   rcases hf y hy b Qg with h1|h1
   ·exact UZ x hx b Am h1
   ·have:=(h.fresh x (s9 x hx) b Am).2;omega
  simp only[List.flatMap_append]
  rw[List.nodup_append]at my
  obtain⟨h1,h2,h3⟩:=my
  rw[List.nodup_append]at h2
  obtain⟨_,h5,_⟩:=h2
  rw[List.nodup_append]
  refine⟨?_,h5,?_⟩
  ·rw[List.nodup_append]
   refine⟨h1,hn,fun x hx y hy e=>?_⟩
   subst e
   obtain⟨i,hi,QU⟩:=List.mem_flatMap.1 hx
   obtain⟨j,hj,YX⟩:=List.mem_flatMap.1 hy
   exact Tn i (by simp[hi]) x QU j hj YX
  ·intro x hx y hy e
   subst e
   rcases List.mem_append.1 hx with hx|hx
   ·exact h3 x hx x (List.mem_append.2 (.inr hy)) rfl
   ·obtain⟨i,hi,QU⟩:=List.mem_flatMap.1 hx
    obtain⟨j,hj,YX⟩:=List.mem_flatMap.1 hy
    exact Tn j (by simp[hj]) x YX i hi QU
theorem Dr {O:List Item} {i:Nat} {it:Item} (h:O[i]? =some it): ∃A B,O=A++it::B∧ ∀x,O.set i x=A++x::B:=by
 induction O generalizing i with
 |nil=>simp at h
 |cons y O ih=>
  cases i with
  |zero=>simp at h;subst h;exact⟨[],O,rfl,fun x=>rfl⟩
  |succ i=>
   obtain⟨A,B,e,Mf⟩:=ih (i:=i) (by simpa using h)
   exact⟨y::A,B,by rw[e];rfl,fun x=>by simp[Mf x]⟩
theorem Inv.tK {base:World} {O:List Item} {i:Nat} {it U1:Item} {w w':World} (h:Inv base O w) (hi:O[i]? =some it)
  (ho:w'.os=w.os) (ht:w'.tape=w.tape) (hp:w'.output=w.output) (hs:w.heap.size≤w'.heap.size)
  (hb: ∀b,b<w.heap.size→b∉it.blocks→w'.heap[b]? =w.heap[b]?)
  (hN:U1.P w') (hf: ∀b∈U1.blocks,b∈it.blocks∨(w.heap.size≤b∧b<w'.heap.size)) (hn:U1.blocks.Nodup):
  Inv base (O.set i U1) w':=by
 obtain⟨A,B,e,Mf⟩:=Dr hi
 subst e
 rw[Mf U1]
 have:=Inv.step (N:=[U1]) h ho ht hp hs hb (by simpa using hN) (by simpa using hf) (by simpa using hn)
 simpa using this
theorem Inv.new {base:World} {O N:List Item} {w w':World} (h:Inv base O w)
  (ho:w'.os=w.os) (ht:w'.tape=w.tape) (hp:w'.output=w.output) (hs:w.heap.size≤w'.heap.size)
  (hb: ∀b,b<w.heap.size→w'.heap[b]? =w.heap[b]?)
  (hN: ∀x∈N,x.P w') (hf: ∀x∈N,∀b∈x.blocks,w.heap.size≤b∧b<w'.heap.size) (hn:(N.flatMap Item.blocks).Nodup):
  Inv base (N++O) w':=
 h.call ⟨⟨ho,ht,hp,hs,hb⟩,hN,hf,hn⟩
theorem Inv.alloc {base:World} {O:List Item} {w:World} (h:Inv base O w) (o:Obj):Inv base (eu w.heap.size o::O) (w.alloc o):=by
 refine Inv.new (N:=[eu w.heap.size o]) h rfl rfl rfl (by simp) (fun b hb=>Below.heap_alloc w o b hb) ?_ ?_ ?_
 ·intro x hx
  simp at hx;subst hx
  show(w.heap.push o)[w.heap.size]? =some o
  simp
 ·intro x hx b hb
  simp at hx;subst hx
  simp[eu]at hb;subst hb
  simp
 ·simp[eu]
def Fr (r:Option Nat):Fence:= {Fence.wide with round:=r}
def YY (b:Nat):Deferred:= {target:=.collected b,args:= #[]}
def wS (b:Nat):Item:=eu b (.deferred (some []))
abbrev mD (D:List Nat):List Deferred:=D.map YY
abbrev mI (D:List Nat):List Item:=D.map wS
def MOk:Option Nat→List Item→Prop
 |none,_=>True
 |some l,M=> ∃it∈M,∀w,it.P w→ ∃rc,w.heap[l]? =some (.loop rc)
abbrev kv:=Exit→Env→List Item→Prop
def lift (base:World) (n:Nat) (M:List Item) (Q:kv):Exit→Act→World→Prop:=fun e a w=> ∃ρ O D,Ag n (mD D) a ρ∧Inv base (O++(mI D++M)) w∧Q e ρ O
def T (P:Program) (r:Option Nat) (base:World) (n:Nat) (c:Code) (Q:kv) (ρ:Env) (O:List Item):Prop:=
 ∀a w M D,MOk r M→Ag n (mD D) a ρ→Inv base (O++(mI D++M)) w→c.wpIn (Fr r) 0 P (lift base n M Q) a w
def tn (K:Env→List Item→Prop) (Q:kv):kv
 | .normal,ρ,O=>K ρ O
 |e,ρ,O=>Q e ρ O
def inB (id:Nat) (Q:kv):kv
 | .exit Yd,ρ,O=>match Nat.beq Yd id with
  |true=>Q .normal ρ O
  |false=>Q (.exit Yd) ρ O
 |e,ρ,O=>Q e ρ O
section YZ
variable {P:Program} {r:Option Nat} {base:World} {n:Nat} {Q:kv} {ρ:Env} {O:List Item}
theorem T.mono {c:Code} {Q':kv} (h:T P r base n c Q ρ O) (hq: ∀e ρ O,Q e ρ O→Q' e ρ O):T P r base n c Q' ρ O:=
 fun a w M D hM ha hi=>wpIn_mono (h a w M D hM ha hi) (fun e _ _ ⟨ρ,O,D,h1,h2,h3⟩=>⟨ρ,O,D,h1,h2,hq e ρ O h3⟩)
theorem aE (h:Q .normal ρ O):T P r base n .skip Q ρ O:=fun _ _ _ D _ ha hi=>wpIn_skip ⟨ρ,O,D,ha,hi,h⟩
theorem T.label {l:Nat} (h:Q .normal ρ O):T P r base n (.label l) Q ρ O:=fun _ _ _ D _ ha hi=>wpIn_label ⟨ρ,O,D,ha,hi,h⟩
theorem cD {id:Nat} (h:Q (.exit id) ρ O):T P r base n (.exit id) Q ρ O:=fun _ _ _ D _ ha hi=>wpIn_exit ⟨ρ,O,D,ha,hi,h⟩
theorem cM (h:Q .ret ρ O):T P r base n .ret Q ρ O:=fun _ _ _ D _ ha hi=>wpIn_ret ⟨ρ,O,D,ha,hi,h⟩
theorem br {x y:Code} (h:T P r base n x (tn (fun ρ O=>T P r base n y Q ρ O) Q) ρ O):T P r base n (.seq x y) Q ρ O:=by
 intro a w M D hM ha hi
 refine wpIn_seq (wpIn_mono (h a w M D hM ha hi) ?_)
 rintro e a' w' ⟨iA,O',D',h1,h2,h3⟩
 cases e with
 |normal=>exact h3 a' w' M D' hM h1 h2
 |_=>exact⟨iA,O',D',h1,h2,h3⟩
theorem fF {x y:Code} (K:Env→List Item→Prop) (h:T P r base n x (tn K Q) ρ O) (hk: ∀ρ O,K ρ O→T P r base n y Q ρ O):T P r base n (.seq x y) Q ρ O:=
 br (h.mono fun e ρ O h=>by cases e<;>first|exact hk ρ O h|exact h)
theorem T.cond {c:Operand} {x y:Code} {t:Bool} (hc:ev ρ c=.bool t) (h1:t=true→T P r base n x Q ρ O) (h0:t=false→T P r base n y Q ρ O):T P r base n (.cond c x y) Q ρ O:=by
 intro a w M D hM ha hi
 refine wpIn_cond (t:=t) (by rw[ha.eval];exact hc) ?_
 cases t
 ·exact h0 rfl a w M D hM ha hi
 ·exact h1 rfl a w M D hM ha hi
theorem bW {c:Operand} {x y:Code} (h:T P r base n x Q ρ O) (hc:ev ρ c=.bool true:=by exact rfl):T P r base n (.cond c x y) Q ρ O:=
 T.cond hc (fun _=>h) (fun e=>by cases e)
theorem bf {c:Operand} {x y:Code} (h:T P r base n y Q ρ O) (hc:ev ρ c=.bool false:=by exact rfl):T P r base n (.cond c x y) Q ρ O:=
 T.cond hc (fun e=>by cases e) (fun _=>h)
theorem aL {c:Operand} {x y:Code} {p:Prop} [Decidable p] (hc:ev ρ c=.bool (decide p)) (h1:p→T P r base n x Q ρ O) (h0: ¬p→T P r base n y Q ρ O):T P r base n (.cond c x y) Q ρ O:=
 T.cond hc (fun e=>h1 (of_decide_eq_true e)) (fun e=>h0 (of_decide_eq_false e))
theorem aK {id:Nat} {c:Code} (h:T P r base n c (inB id Q) ρ O):T P r base n (.block id c) Q ρ O:=by
 intro a w M D hM ha hi
 refine wpIn_block (wpIn_mono (h a w M D hM ha hi) ?_)
 rintro e a' w' ⟨iA,O',D',h1,h2,h3⟩
 cases e with
 |exit Yd=>
  simp only[Exit.inBlock]
  simp only[inB]at h3
  by_cases e:Yd=id
  ·subst e
   rw[aB rfl]
   rw[Nat.beq_refl]at h3
   exact⟨iA,O',D',h1,h2,h3⟩
  ·rw[aq e]
   have hb:Nat.beq Yd id=false:=by
    rcases h':Nat.beq Yd id with _|_
    ·rfl
    ·exact absurd (Nat.eq_of_beq_eq_true h') e
   rw[hb]at h3
   exact⟨iA,O',D',h1,h2,h3⟩
 |_=>exact⟨iA,O',D',h1,h2,h3⟩
theorem dU {c:Code} {α:Type} (I:α→Env→List Item→Prop) (μ:α→Nat) (s:α) (h0:I s ρ O)
  (h: ∀s ρ O,I s ρ O→T P r base n c (tn (fun iA O'=> ∃s',μ s'<μ s∧I s' iA O') Q) ρ O):T P r base n (.loop c) Q ρ O:=by
 have key: ∀(m:Nat) (s:α) (ρ:Env) (O:List Item) (a:Act) (w:World) (M:List Item) (D:List Nat),μ s=m→I s ρ O→MOk r M→Ag n (mD D) a ρ→Inv base (O++(mI D++M)) w→
   ∀(b:Frame) (k:List Go.Item) (cs:List Frame),b.roundOf=(Fr r).round→(Fr r).fn b.fn→(Fr r).room (cs.length+1+0)→
    ∃e a' w',lift base n M Q e a' w'∧ArrivesIn (Machine.fenced P (Fr r)) P (lone (b.atR a (.code c::.inLoop c::k)) cs w) b k cs e a' w':=by
  intro m
  induction m using Nat.strongRecOn with
  |_ m ih=>
   intro s ρ O a w M D hm hI hM ha hi b k cs xR hb hr
   obtain⟨e,a₁,xz,hq,tL⟩:=h s ρ O hI a w M D hM ha hi b (.inLoop c::k) cs xR hb hr
   obtain⟨A6,JO,JP,A7,A8,hq⟩:=hq
   cases e with
   |normal=>
    obtain⟨s',gQ,oM⟩:=hq
    obtain⟨adp,a₂,adq,Y0,QV⟩:=ih (μ s') (hm▸gQ) s' A6 JO a₁ xz M JP rfl oM hM A7 A8 b k cs xR hb hr
    exact⟨adp,a₂,adq,Y0,.of_steps (StepsIn.trans tL (.one (fenced_calm hb hr rfl) stepR_inLoop)) QV⟩
   |exit id=>exact⟨_,a₁,xz,⟨A6,JO,JP,A7,A8,hq⟩,.pass (x:=.inLoop c) rfl (fun _ _=>.inl (by simp)) tL⟩
   |goto l=>exact⟨_,a₁,xz,⟨A6,JO,JP,A7,A8,hq⟩,.pass (x:=.inLoop c) rfl (fun _ _=>.inl (by simp)) tL⟩
   |ret=>exact⟨_,a₁,xz,⟨A6,JO,JP,A7,A8,hq⟩,.pass (x:=.inLoop c) rfl (fun _ _=>.inl (by simp)) tL⟩
   |panic ch=>exact⟨_,a₁,xz,⟨A6,JO,JP,A7,A8,hq⟩,.pass (x:=.inLoop c) rfl (fun _ _=>.inl (by simp)) tL⟩
   |outgrown=>exact⟨_,a₁,xz,⟨A6,JO,JP,A7,A8,hq⟩,.pass (x:=.inLoop c) rfl (fun _ _=>.inl (by simp)) tL⟩
 intro a w M D hM ha hi b k cs xR hb hr
 obtain⟨e,a',w',hq,tL⟩:=key _ s ρ O a w M D rfl h0 hM ha hi b k cs xR hb hr
 exact⟨e,a',w',hq,.of_steps (.one (fenced_calm hb hr rfl) stepR_loop) tL⟩
theorem lG {b:Frame} {a:Act} {k:List Go.Item} {cs:List Frame} {w:World} {c:Code}:step P (lone (b.atR a (.code (.scope c)::k)) cs w)=.next (lone (b.atR a (.code c::.inScope c::k)) cs w):=
 step_lone_go (by simp[stepG,stepG.exec,Frame.atR])
theorem Ay {b:Frame} {a:Act} {k:List Go.Item} {cs:List Frame} {w:World} {c:Code}:step P (lone (b.atR a (.inScope c::k)) cs w)=.next (lone (b.atR a k) cs w):=
 step_lone_go (by simp[stepG,stepG.exec,Frame.atR])
theorem T.scope {c:Code} (h:T P r base n c Q ρ O) (hg: ∀l ρ O,¬Q (.goto l) ρ O):T P r base n (.scope c) Q ρ O:=by
 intro a w M D hM ha hi b k cs xR hb hr
 obtain⟨e,a₁,xz,hq,tL⟩:=h a w M D hM ha hi b (.inScope c::k) cs xR hb hr
 have h0:(lone (b.atR a (.code (.scope c)::k)) cs w).fenced P (Fr r):=fenced_calm hb hr rfl
 cases e with
 |normal=>exact⟨.normal,a₁,xz,hq,.head h0 lG (StepsIn.trans tL (.one (fenced_calm hb hr rfl) Ay))⟩
 |exit id=>
  have hx:exitTo id (.inScope c::k)=exitTo id k:=by simp[exitTo]
  exact⟨.exit id,a₁,xz,hq,fun k' hk=>.head h0 lG (tL.1 k' (by rw[hx];exact hk)),
   fun U2 hk=>let⟨adr,h1,h2⟩:=tL.2 U2 (by rw[hx];exact hk);⟨adr,h1,.head h0 lG h2⟩⟩
 |goto l=>obtain⟨iA,O',D',_,_,h3⟩:=hq;exact(hg l iA O' h3).elim
 |ret=>exact⟨_,a₁,xz,hq,.of_steps (.one h0 lG) tL⟩
 |panic ch=>exact⟨_,a₁,xz,hq,.of_steps (.one h0 lG) tL⟩
 |outgrown=>exact⟨_,a₁,xz,hq,.of_steps (.one h0 lG) tL⟩
def QT (P:Program) (base:World) (o:Oper) (ρ:Env) (O:List Item) (v:Value):Prop:=
 ∀w,Inv base O w→(execOp (ev ρ) o).run P w=.ok (.value v) w
def LT (P:Program) (r:Option Nat) (base:World) (n:Nat) (o:Oper) (ρ:Env) (O:List Item) (K:Env→List Item→Prop):Prop:=
 ∀a w M ds,Ag n ds a ρ→Inv base (O++M) w→ ∀(next:Act→World→Prop) (Qx:Exit→Act→World→Prop),
  (∀a' iA O' w',Ag n ds a' iA→Inv base (O'++M) w'→K iA O'→next a' w')→o.wpIn (Fr r) 0 P a w next Qx
theorem mL {o:Oper} {a:Act} {w:World} {next:Act→World→Prop} {Qx:Exit→Act→World→Prop} (hd: ∀c,o.op≠.defer c)
  (h:o.uponIn (Fr r) 0 P a next Qx ((execOp a.eval o).run P w)):o.wpIn (Fr r) 0 P a w next Qx:=
 ⟨fun _ _=>trivial,by rw[Oper.semAt_eq _ _ _ hd];exact h⟩
theorem yA {o:Oper} {e:Operand→Value} {w:World} {x:Next} {w':World} (h:(execOp e o).run P w=.ok x w') (hx: ∀d,x≠.defer d): ∀c,o.op≠.defer c:=by
 intro c ec
 unfold execOp at h
 simp only[ec]at h
 rw[Sem.run_bind]at h
 cases hr:(resolve e c o.type).run P w with
 |ok d w1=>rw[hr]at h;simp[Result.andThen]at h;exact hx _ h.1.symm
 |halt y w1=>rw[hr]at h;simp[Result.andThen]at h
abbrev PX:=List PanicEntry→Prop
def TO (X:PX) (P:Program) (r:Option Nat) (base:World) (n:Nat) (ops:Array Oper) (l:List Oper) (K:Env→List Item→Prop) (ρ:Env) (O:List Item):Prop:=
 ∀(Q:kv) a w M D,(∀ρ O,K ρ O→Q .normal ρ O)∧(∀c ρ,X c→Q (.panic c) ρ [])→Ag n (mD D) a ρ→Inv base (O++(mI D++M)) w→wpListIn (Fr r) 0 P ops (lift base n M Q) l a w
theorem a_ {id:Nat} {l:List Oper} (h:TO (fun c=> ∀ρ,Q (.panic c) ρ []) P r base n l.toArray l (fun ρ O=>Q .normal ρ O) ρ O):T P r base n (.region id l.toArray false) Q ρ O:=
 fun a w M D _ ha hi=>wpIn_region_lit (h Q a w M D ⟨fun _ _ h=>h,fun _ ρ h=>h ρ⟩ ha hi)
variable {X:PX}
theorem bi {ops:Array Oper} {K:Env→List Item→Prop} (h:K ρ O):TO X P r base n ops [] K ρ O:=
 fun _ _ _ _ D hk ha hi=>wpListIn_nil ⟨ρ,O,D,ha,hi,hk.1 _ _ h⟩
def FT:Value→Option Bool
 | .bool b=>some b
 |_=>none
theorem kC {a:Act} {ds:List Deferred} {ops:Array Oper} (ha:Ag n ds a ρ) {j t:Nat} (hj:(ops[j]?).bind (·.dst)=some t):yielded ops a.tmps j=FT (ρ t):=by
 have h:=ha.tmp t
 unfold yielded
 rw[hj]
 rw[dF]at h
 rw[←h]
 show(match a.tmps[t]? with|some (.bool b)=>some b|_=>none)=_
 cases a.tmps[t]? with
 |none=>rfl
 |some v=>cases v<;>rfl
theorem Inv.left {M:List Item} {w:World} (h:Inv base (O++M) w):Inv base O w:=h.sub (List.sublist_append_left O M)
theorem eV {o:Oper} {d:Nat} {v:Value} {K:Env→List Item→Prop} (hd:o.dst=some d) (hn:Nat.blt d n=true) (h:QT P base o ρ O v) (hk:K (kz ρ d v) O):LT P r base n o ρ O K:=by
 intro a w M ds ha hi next Qx fN
 have hr:=h w hi.left
 rw[←ha.eval]at hr
 refine mL (yA hr (by simp)) ?_
 rw[hr]
 show next (a.put o.dst v) w
 rw[hd]
 exact fN _ _ _ _ (ha.put hn v) hi hk
theorem ax {ops:Array Oper} {l:List Oper} {K:Env→List Item→Prop} {o:Oper} (h:LT P r base n o ρ O (fun iA O'=>TO X P r base n ops l K iA O')) (hg:o.guard=none:=by exact rfl):TO X P r base n ops (o::l) K ρ O:=
 fun Q a w M D hk ha hi=>wpListIn_plain hg fun next fN=>h a w _ _ ha hi next _ fun a' _ _ w' h1 h2 h3=>fN a' w' (h3 Q a' w' M D hk h1 h2)
theorem ae {ops:Array Oper} {l:List Oper} {K:Env→List Item→Prop} {d:Nat} {op:Op} {t:TypeId} {p:String} {af:Array Edge} {v:Value}
  (h:QT P base ⟨some d,op,t,p,af,none⟩ ρ O v) (hk:TO X P r base n ops l K (kz ρ d v) O) (hn:Nat.blt d n=true:=by rfl):TO X P r base n ops (⟨some d,op,t,p,af,none⟩::l) K ρ O:=
 ax (eV rfl hn h hk)
theorem gF {ops:Array Oper} {l:List Oper} {K:Env→List Item→Prop} {o:Oper} {j tj:Nat} {want:Bool} (hg:o.guard=some (j,want))
  (hj:(ops[j]?).bind (·.dst)=some tj) (hw:ρ tj=.bool want)
  (h:LT P r base n o ρ O (fun iA O'=>TO X P r base n ops l K iA O')):TO X P r base n ops (o::l) K ρ O:=by
 intro Q a w M D hk ha hi
 refine wpListIn_step fun next fN=>?_
 have hy:=kC (ops:=ops) ha hj
 rw[hw]at hy
 have rj:Region.wanted o (yielded ops a.tmps)=true:=by unfold Region.wanted;rw[hg];simp[hy,FT]
 rw[aB rj]
 exact h a w _ _ ha hi next _ fun a' _ _ w' h1 h2 h3=>fN a' w' (h3 Q a' w' M D hk h1 h2)
theorem cY {ops:Array Oper} {l:List Oper} {K:Env→List Item→Prop} {d:Nat} {op:Op} {t:TypeId} {p:String} {af:Array Edge} {j tj:Nat} {want:Bool}
  (hk:TO X P r base n ops l K (kz ρ d undef) O) (hj:(ops[j]?).bind (·.dst)=some tj:=by exact rfl) (hw:(FT (ρ tj)==some want)=false:=by exact rfl) (hn:Nat.blt d n=true:=by rfl):
  TO X P r base n ops (⟨some d,op,t,p,af,some (j,want)⟩::l) K ρ O:=by
 intro Q a w M D hq ha hi
 refine wpListIn_step fun next fN=>?_
 have hy:=kC (ops:=ops) ha hj
 have rj:Region.wanted ⟨some d,op,t,p,af,some (j,want)⟩ (yielded ops a.tmps)=false:=by unfold Region.wanted;simp only[hy];exact hw
 rw[rj]
 exact⟨fun _ _=>trivial,fN _ _ (hk Q _ _ M D hq (ha.put hn undef) hi)⟩
end YZ
def lg (ops:Array Oper):Bool:=ops.all fun o=>match o.op with| .defer _=>false|_=>true
theorem qf {ops:Array Oper} (h:lg ops=true) {j:Nat} {o:Oper} (hj:ops[j]? =some o): ∀c,o.op≠.defer c:=by
 intro c e
 unfold lg at h
 rw[Array.all_eq_true']at h
 have:=h o (Array.mem_of_getElem? hj)
 rw[e]at this
 cases this
def JQ (P:Program) (r:Option Nat) (ops:Array Oper) (C:Array Bool→World→Prop) (Q:Exit→Act→World→Prop):Nat→Array Bool→Act→World→Prop
 |0,listed,a,w=>Region.ready .any ops listed=[]∧Q .normal a w
 |gP+1,listed,a,w=>
  (Region.ready .any ops listed=[]→Q .normal a w)∧
  ∀i∈Region.ready .any ops listed,wpOpIn (Fr r) 0 P ops Q i (fun a' w'=>C (listed.setIfInBounds i true) w'∧JQ P r ops C Q gP (listed.setIfInBounds i true) a' w') a w
theorem mM {P:Program} {r:Option Nat} {ops:Array Oper} {C:Array Bool→World→Prop} {Q:Exit→Act→World→Prop}: ∀(gP:Nat) (listed:Array Bool) (a:Act) (w:World),
  JQ P r ops C Q gP listed a w→wpAnyIn (Fr r) 0 P .any ops Q gP listed a w
 |0,_,_,_,h=>h
 |gP+1,_,_,_,h=>⟨h.1,fun i hi=>wpOpIn_mono (fun a' w' h'=>mM gP _ a' w' h'.2) (h.2 i hi)⟩
def closed (ops:Array Oper) (listed:Array Bool):Prop:= ∀k o,listed.getD k false=true→ops[k]? =some o→ ∀e∈o.after,Region.binds .any e=true→listed.getD e.on false=true
theorem qg (ops:Array Oper) (m:Nat):closed ops (Array.replicate m false):=fun k o h=>by
 rw[dF,Array.getElem?_replicate]at h
 split at h<;>simp at h
theorem jQ {ops:Array Oper} {listed:Array Bool} {i:Nat} (h:closed ops listed) (hi:i∈Region.ready .any ops listed):closed ops (listed.setIfInBounds i true):=by
 intro k o hk ho e he hb
 obtain⟨_,oi,hoi,ld⟩:=mem_ready.1 hi
 by_cases Ye:i=k
 ·subst Ye
  rw[ho]at hoi;cases hoi
  exact getD_set_true (ld e he hb)
 ·rw[getD_set_ne false Ye]at hk
  exact getD_set_true (h k o hk ho e he hb)
def uE:List Edge→Nat
 | []=>0
 |e::l=>(if Region.binds .any e=true then 1<<<e.on else 0)|||uE l
theorem vQ {k:Nat}: ∀ {l:List Edge},(uE l).testBit k=true→ ∃e∈l,Region.binds .any e=true∧e.on=k
 | [],h=>by simp[uE]at h
 |e::l,h=>by
  rw[uE,Nat.testBit_or,Bool.or_eq_true]at h
  rcases h with h|h
  ·by_cases hb:Region.binds .any e=true
   ·rw[aB hb,Nat.one_shiftLeft,Nat.testBit_two_pow,cj]at h
    exact⟨e,by simp,hb,h⟩
   ·rw[aq hb]at h;simp at h
  ·obtain⟨e',h1,h2⟩:=vQ h
   exact⟨e',by simp[h1],h2⟩
def nA (ops:Array Oper) (j:Nat):Nat:=match ops[j]? with
 |some o=>uE o.after.toList
 |none=>0
theorem oN {ops:Array Oper} {j k:Nat} (h:(nA ops j).testBit k=true): ∃o,ops[j]? =some o∧ ∃e∈o.after,Region.binds .any e=true∧e.on=k:=by
 unfold nA at h
 cases ho:ops[j]? with
 |none=>rw[ho]at h;simp at h
 |some o=>
  rw[ho]at h
  obtain⟨e,h1,h2⟩:=vQ h
  exact⟨o,rfl,e,by simpa using h1,h2⟩
def Mg (ops:Array Oper):Nat→Nat→Nat
 |0,m=>m
 |j+1,m=>Mg ops j (if m.testBit j=true then m|||nA ops j else m)
theorem vS {ops:Array Oper} {listed:Array Bool} (hc:closed ops listed): ∀(n m:Nat),(∀k,m.testBit k=true→listed.getD k false=true)→ ∀k,(Mg ops n m).testBit k=true→listed.getD k false=true
 |0,_,h=>h
 |j+1,m,h=>by
  refine vS hc j _ fun k hk=>?_
  by_cases hj:m.testBit j=true
  ·rw[aB hj,Nat.testBit_or,Bool.or_eq_true]at hk
   rcases hk with hk|hk
   ·exact h k hk
   ·obtain⟨o,ho,e,he,hb,rfl⟩:=oN hk
    exact hc j o (h j hj) ho e he hb
  ·rw[aq hj]at hk;exact h k hk
def rk (ops:Array Oper) (tl:List Nat) (i:Nat):Bool:=tl.all fun b=>(Mg ops ops.size (nA ops b)).testBit i
theorem Gj {ops:Array Oper} {tl:List Nat} {i:Nat} {listed:Array Bool} (ht:rk ops tl i=true) (hc:closed ops listed) {b:Nat} (hb:b∈tl) (hr:b∈Region.ready .any ops listed):listed.getD i false=true:=by
 simp only[rk,fp]at ht
 have h1:=ht b hb
 obtain⟨_,o,ho,ld⟩:=mem_ready.1 hr
 refine vS hc ops.size _ ?_ i h1
 intro q hq
 obtain⟨o2,uw,e,he,hb,rfl⟩:=oN hq
 rw[ho]at uw;cases uw
 exact ld e he hb
theorem yB {ops:Array Oper} {tl:List Nat} {i:Nat} {listed:Array Bool} (ht:rk ops tl i=true) (hc:closed ops listed) {b:Nat} (hb:b∈tl) (hl:listed.getD b false=true):listed.getD i false=true:=by
 simp only[rk,fp]at ht
 have h1:=ht b hb
 refine vS hc ops.size _ ?_ i h1
 intro q hq
 obtain⟨o,ho,e,he,hb,rfl⟩:=oN hq
 exact hc b o hl ho e he hb
structure jF (base:World) (S:List Item) (tail:List Nat) (S2:List Item) (dG:List Nat) (listed:Array Bool) (w:World):Prop where
 oE:Inv base [] w
 one:(tail.any fun b=>listed.getD b false)=true∨Inv base S w
 two:(dG.any fun b=>listed.getD b false)=true∨Inv base S2 w
theorem Ds {tail:List Nat} {listed:Array Bool} {i:Nat} (hi:i∉tail) (h:(tail.any fun b=>(listed.setIfInBounds i true).getD b false)=true):(tail.any fun b=>listed.getD b false)=true:=by
 rw[df]at h⊢
 obtain⟨b,hb,hl⟩:=h
 exact⟨b,hb,by rwa[getD_set_ne (i:=i) (j:=b) false (fun e=>hi (e▸hb))]at hl⟩
theorem jF.keep {base:World} {S S2:List Item} {tail dG:List Nat} {listed:Array Bool} {w:World} {i:Nat} (hi:i∉tail) (JR:i∉dG) (h:jF base S tail S2 dG (listed.setIfInBounds i true) w):jF base S tail S2 dG listed w:=
 ⟨h.oE,h.one.imp (Ds hi) id,h.two.imp (Ds JR) id⟩
def YC (P:Program) (ops:Array Oper) (C:World→Prop) (o:Oper) (v:Value) (a:Act):Prop:=
 (Region.wanted o (yielded ops a.tmps)=true∧ ∀w,C w→(execOp a.eval o).run P w=.ok (.value v) w)∨
 (Region.wanted o (yielded ops a.tmps)=false∧v=undef)
theorem YC.wpOp {P:Program} {r:Option Nat} {ops:Array Oper} {C:World→Prop} {Q:Exit→Act→World→Prop} {i:Nat} {o:Oper} {v:Value} {a:Act} (hi:ops[i]? =some o) (my: ∀c,o.op≠.defer c) (hy:YC P ops C o v a)
  {K:Act→World→Prop} {w:World} (hC:C w) (h:K (a.put o.dst v) w):wpOpIn (Fr r) 0 P ops Q i K a w:=by
 unfold Go.wpOpIn
 simp only[hi]
 rcases hy with⟨hw,hv⟩|⟨hw,rfl⟩
 ·simp only[hw,if_true]
  refine mL my ?_
  rw[hv w hC];exact h
 ·simp only[hw,Bool.false_eq_true,if_false];exact⟨fun _ _=>trivial,h⟩
theorem YC.of_same {P:Program} {ops:Array Oper} {C:World→Prop} {o:Oper} {v:Value} {a a':Act} (hy:YC P ops C o v a) (he:execOp a'.eval o=execOp a.eval o)
  (hw:Region.wanted o (yielded ops a'.tmps)=Region.wanted o (yielded ops a.tmps)):YC P ops C o v a':=by
 unfold YC at*
 rw[he,hw]
 exact hy
theorem JS {P:Program} {r:Option Nat} {ops:Array Oper} {C:World→Prop} {Q:Exit→Act→World→Prop} {j:Nat} {oi oj:Oper} {v:Value} (hj:ops[j]? =some oj) (hap:oi.apart ops oj=true)
  (hsi: ∀cs b,oi.op≠.select cs b) (hsj: ∀cs b,oj.op≠.select cs b) (hdj: ∀c,oj.op≠.defer c)
  (hQ: ∀c a a' w,a'.defers=a.defers→a'.tmps.size=a.tmps.size→Q (.panic c) a w→Q (.panic c) a' w) {K:Act→World→Prop} {a:Act} {w:World}
  (hy:YC P ops C oi v a) (h:wpOpIn (Fr r) 0 P ops Q j (fun a' w'=>C w'∧K a' w') (a.put oi.dst v) w):
  wpOpIn (Fr r) 0 P ops Q j (fun a' w'=>C w'∧YC P ops C oi v a'∧K (a'.put oi.dst v) w') a w:=by
 obtain⟨h1,h2,h3⟩:=Oper.apart_spec hap
 have keep: ∀(a:Act),YC P ops C oi v a→ ∀u,YC P ops C oi v (a.put oj.dst u):=fun a hy u=>
  hy.of_same (execOp_put oi hsi a oj.dst u h3) (wanted_put oi a oj.dst u h3)
 have Y1: ∀d,YC P ops C oi v {a with defers:=d::a.defers}:=fun d=>hy.of_same rfl rfl
 unfold wpOpIn at*
 simp only[hj]at*
 rw[wanted_put oj a oi.dst v h1]at h
 split
 ·rename_i hw
  simp only[hw,if_true]at h
  have h:=h.2
  rw[Oper.semAt_eq _ _ _ hdj,execOp_put oj hsj a oi.dst v h1]at h
  refine mL hdj ?_
  generalize(execOp a.eval oj).run P w=r at*
  cases r with
  |ok n w'=>
   cases n<;>simp only[Oper.uponIn]at h⊢
   case value u=>exact⟨h.1,keep a hy u,by rw[←Act.put_comm a v u h2];exact h.2⟩
   case skip=>exact⟨h.1,keep a hy _,by rw[←Act.put_comm a v undef h2];exact h.2⟩
   case defer d=>
    refine⟨h.1,keep _ (Y1 d) _,?_⟩
    rw[←Act.put_comm _ v undef h2,←Act.put_defers]
    exact h.2
   case enter f args=>
    refine⟨h.1,CallsIn.mono h.2 fun e QW he=>?_⟩
    cases e with
    |returned u=>exact⟨he.1,keep a hy u,by rw[←Act.put_comm a v u h2];exact he.2⟩
    |panicked c=>exact hQ _ (a.put oi.dst v) a _ (by cases oi.dst<;>rfl) (by cases oi.dst<;>simp[Act.put]) he
    |outgrown=>exact he
   case row row args=>exact⟨h.1,RowsIn.mono h.2 fun u QW he=>⟨he.1,keep a hy u,by rw[←Act.put_comm a v u h2];exact he.2⟩⟩
   case round l f tmps assign body=>
    refine⟨h.1,RoundIn.mono h.2 fun e QW he=>?_⟩
    cases e with
    |returned u=>exact⟨he.1,keep a hy u,by rw[←Act.put_comm a v u h2];exact he.2⟩
    |panicked c=>exact hQ _ (a.put oi.dst v) a _ (by cases oi.dst<;>rfl) (by cases oi.dst<;>simp[Act.put]) he
    |outgrown=>exact he
  |halt x w'=>
   cases x<;>simp only[Oper.uponIn]at h⊢
   case panic u=>exact hQ _ (a.put oi.dst v) a _ (by cases oi.dst<;>rfl) (by cases oi.dst<;>simp[Act.put]) h
 ·rename_i hw
  simp only[hw]at h
  exact⟨fun _ _=>trivial,h.2.1,keep a hy _,by rw[←Act.put_comm a v undef h2];exact h.2.2⟩
theorem Gk {P:Program} {r:Option Nat} {ops:Array Oper} {base:World} {S S2 Z:List Item} {tail dG zt:List Nat} {Q:Exit→Act→World→Prop} {i:Nat} {oi:Oper} {v:Value} (hi:ops[i]? =some oi) (gf:i∉tail) (U3:i∉dG) (ht:rk ops zt i=true)
  (hz: ∀listed w,jF base S tail S2 dG listed w→(zt.any fun b=>listed.getD b false)=true∨Inv base Z w) (Yc:i∉zt)
  (Y2: ∀(j:Nat) (o:Oper) cs b,ops[j]? =some o→o.op≠.select cs b) (my:lg ops=true) (hQ: ∀c a a' w,a'.defers=a.defers→a'.tmps.size=a.tmps.size→Q (.panic c) a w→Q (.panic c) a' w):
  ∀(gP:Nat) (listed:Array Bool) (a:Act) (w:World),closed ops listed→
   (∀j oj,ops[j]? =some oj→j≠i→listed.getD j true=false→(∀e∈oj.after,Region.binds .any e=true→e.on≠i)→oi.apart ops oj=true)→
   i∈Region.ready .any ops listed→YC P ops (Inv base Z) oi v a→Inv base Z w→jF base S tail S2 dG listed w→
   JQ P r ops (jF base S tail S2 dG) Q gP (listed.setIfInBounds i true) (a.put oi.dst v) w→JQ P r ops (jF base S tail S2 dG) Q (gP+1) listed a w:=by
 have up: ∀ {listed:Array Bool} {w:World},jF base S tail S2 dG listed w→jF base S tail S2 dG (listed.setIfInBounds i true) w:=fun {listed w} h=>by
  have grow: ∀tl:List Nat,(tl.any fun b=>listed.getD b false)=true→(tl.any fun b=>(listed.setIfInBounds i true).getD b false)=true:=fun tl h=>by
   rw[df]at h⊢
   obtain⟨b,hb,hl⟩:=h
   exact⟨b,hb,getD_set_true hl⟩
  exact⟨h.oE,h.one.imp (grow _) id,h.two.imp (grow _) id⟩
 intro gP
 induction gP with
 |zero=>
  intro listed a w pm _ hr hy hC hC0 H
  refine⟨fun h=>(by rw[h]at hr;cases hr),fun j hj=>?_⟩
  by_cases B6:j=i
  ·subst B6;exact hy.wpOp hi (qf my hi) hC ⟨up hC0,H⟩
  ·have:=ready_mono hj B6
   rw[H.1]at this
   cases this
 |succ gP ih=>
  intro listed a w pm To hr hy hC hC0 H
  refine⟨fun h=>(by rw[h]at hr;cases hr),fun j hj=>?_⟩
  by_cases B6:j=i
  ·subst B6;exact hy.wpOp hi (qf my hi) hC ⟨up hC0,H⟩
  ·have U4:=(mem_ready.1 hr).1
   have FU: ∀ {x:Array Bool},x.getD i true=false→x.getD i false=true→False:=fun {x} h1 h2=>by
    rcases Nat.lt_or_ge i x.size with h'|h'
    ·simp[h']at h1 h2;rw[h1]at h2;cases h2
    ·simp[Array.getElem?_eq_none h']at h2
   have hjt:j∉zt:=fun hjt=>FU U4 (Gj ht pm hjt hj)
   have h1:=H.2 j (ready_mono hj B6)
   obtain⟨Y3,oj,U5,ld⟩:=mem_ready.1 hj
   have U6: ∀e∈oj.after,Region.binds .any e=true→e.on≠i:=fun e he hb Ls=>by
    have h1:=ld e he hb
    rw[Ls]at h1
    exact FU U4 h1
   have Y4:(zt.any fun b=>(listed.setIfInBounds j true).getD b false)=false:=by
    rw[List.any_eq_false]
    intro b hb hl
    rw[getD_set_ne (i:=j) (j:=b) false (fun e=>hjt (e▸hb))]at hl
    exact FU U4 (yB ht pm hb hl)
   have h1':wpOpIn (Fr r) 0 P ops Q j (fun a' w'=>Inv base Z w'∧(jF base S tail S2 dG (listed.setIfInBounds j true) w'∧JQ P r ops (jF base S tail S2 dG) Q gP ((listed.setIfInBounds i true).setIfInBounds j true) a' w')) (a.put oi.dst v) w:=by
    refine wpOpIn_mono (fun a' w' h3=>?_) h1
    have hc:=h3.1
    rw[Array.setIfInBounds_comm _ _ (Ne.symm B6)]at hc
    have Yf:=hc.keep gf U3
    refine⟨?_,Yf,h3.2⟩
    rcases hz _ _ Yf with h|h
    ·rw[Y4]at h;cases h
    ·exact h
   have h2:=JS U5 (To j oj U5 B6 Y3 U6) (fun cs b=>Y2 i oi cs b hi) (fun cs b=>Y2 j oj cs b U5) (qf my U5) hQ hy h1'
   have U7: ∀k ok,ops[k]? =some ok→k≠i→(listed.setIfInBounds j true).getD k true=false→
     (∀e∈ok.after,Region.binds .any e=true→e.on≠i)→oi.apart ops ok=true:=fun k ok hk Ye hun FU=>by
    refine To k ok hk Ye ?_ FU
    by_cases U8:j=k
    ·subst U8;exact Y3
    ·rw[getD_set_ne true U8]at hun;exact hun
   refine wpOpIn_mono (fun a' w' h3=>⟨h3.2.2.1,ih (listed.setIfInBounds j true) a' w' (jQ pm hj) U7 (ready_mono hr (Ne.symm B6)) h3.2.1 h3.1 h3.2.2.1 ?_⟩) h2
   rw[Array.setIfInBounds_comm _ _ B6]
   exact h3.2.2.2
structure PQ (X:PX) (Q:kv):Prop where
 ind: ∀c ρ iA O,Q (.panic c) ρ O→Q (.panic c) iA O
 pan: ∀c ρ,X c→Q (.panic c) ρ []
theorem PQ.lift {X:PX} {Q:kv} (h:PQ X Q) {base:World} {n:Nat} {M:List Item} (c:List PanicEntry) (a a':Act) (w:World) (hd:a'.defers=a.defers) (hs:a'.tmps.size=a.tmps.size) (hl:Lx.lift base n M Q (.panic c) a w):Lx.lift base n M Q (.panic c) a' w:=by
 obtain⟨ρ,O,D,ha,hI,hq⟩:=hl
 exact⟨fun t=>a'.tmps.getD t undef,O,D,⟨fun _=>rfl,hs.trans ha.size,hd.trans ha.defers⟩,hI,h.ind c ρ _ O hq⟩
def RO (X:PX) (P:Program) (r:Option Nat) (base:World) (n:Nat) (ops:Array Oper) (S:List Item) (tail:List Nat) (S2:List Item) (dG:List Nat) (gP:Nat) (listed:Array Bool) (K:Env→List Item→Prop) (ρ:Env) (O:List Item):Prop:=
 ∀(Q:kv) a w M D,(∀ρ O,K ρ O→Q .normal ρ O)→PQ X Q→Ag n (mD D) a ρ→Inv base (O++(mI D++M)) w→closed ops listed→jF base S tail S2 dG listed w→JQ P r ops (jF base S tail S2 dG) (lift base n M Q) gP listed a w
section
variable {X:PX} {P:Program} {r:Option Nat} {base:World} {n:Nat} {Q:kv} {ρ:Env} {O S S2:List Item} {tail dG:List Nat} {ops:Array Oper} {K:Env→List Item→Prop}
theorem Inv.oE {base:World} {O:List Item} {w:World} (h:Inv base O w):Inv base [] w:=h.sub (bV _)
theorem B7 {tl:List Nat} {listed:Array Bool} {i:Nat} (h:(tl.any fun b=>listed.getD b false)=true):(tl.any fun b=>(listed.setIfInBounds i true).getD b false)=true:=by
 rw[df]at h⊢
 obtain⟨b,hb,hl⟩:=h
 exact⟨b,hb,getD_set_true hl⟩
theorem kD {gP:Nat} {listed:Array Bool} (i:Nat) {d:Nat} {op:Op} {t:TypeId} {p:String} {af:Array Edge} {g:Option (Nat×Bool)} {v:Value} {Z:List Item} {zt:List Nat} (hi:ops[i]? =some ⟨some d,op,t,p,af,g⟩)
  (hz: ∀listed w,jF base S tail S2 dG listed w→(zt.any fun b=>listed.getD b false)=true∨Inv base Z w) (Yc:i∉zt) (ht:rk ops zt i=true)
  (hs:Region.noSelect ops=true) (my:lg ops=true) (gf:i∉tail) (U3:i∉dG) (hf:Region.free .any ops listed i=true) (hr:(Region.ready .any ops listed).contains i=true)
  (h: ∀ds a,Ag n ds a ρ→YC P ops (Inv base Z) ⟨some d,op,t,p,af,g⟩ v a) (hn:Nat.blt d n=true) (hk:RO X P r base n ops S tail S2 dG gP (listed.setIfInBounds i true) K (kz ρ d v) O):
  RO X P r base n ops S tail S2 dG (gP+1) listed K ρ O:=by
 intro Q a w M D hq hp ha hI pm hS
 have U2:i∈Region.ready .any ops listed:=by simpa using hr
 have FU:listed.getD i false=true→False:=fun h2=>by
  have h1:=(mem_ready.1 U2).1
  rcases Nat.lt_or_ge i listed.size with h'|h'
  ·simp[h']at h1 h2;rw[h1]at h2;cases h2
  ·simp[Array.getElem?_eq_none h']at h2
 have hZ:Inv base Z w:=(hz _ _ hS).resolve_left (by
  intro h
  rw[df]at h
  obtain⟨b,hb,hl⟩:=h
  exact FU (yB ht pm hb hl))
 exact Gk hi gf U3 ht hz Yc (Region.noSelect_spec hs) my hp.lift gP listed a w pm (Region.free_spec hi hf) U2 (h _ a ha) hZ hS
  (hk Q _ w M D hq hp (ha.put hn v) hI (jQ pm U2) ⟨hS.oE,hS.one.imp B7 id,hS.two.imp B7 id⟩)
theorem vT {gP:Nat} {listed:Array Bool} (i:Nat) {o:Oper} (hi:ops[i]? =some o) (hg:o.guard=none) (hr:Region.ready .any ops listed=[i])
  (h:LT P r base n o ρ O (fun iA O'=>(i∈tail∨Sub S O')∧(i∈dG∨Sub S2 O')∧RO X P r base n ops S tail S2 dG gP (listed.setIfInBounds i true) K iA O')):RO X P r base n ops S tail S2 dG (gP+1) listed K ρ O:=by
 intro Q a w M D hq hp ha hI pm hS
 refine⟨fun h0=>(by rw[hr]at h0;cases h0),fun j hj=>?_⟩
 rw[hr]at hj
 obtain rfl:j=i:=by simpa using hj
 have A_:j∈Region.ready .any ops listed:=by rw[hr];simp
 have gQ:j<listed.size:=by
  have:=(mem_ready.1 A_).1
  rcases Nat.lt_or_ge j listed.size with h'|h'
  ·exact h'
  ·simp[Array.getElem?_eq_none h']at this
 unfold wpOpIn
 simp only[hi]
 rw[aB (by simp[Region.wanted,hg])]
 refine h a w _ _ ha hI _ _ fun a' iA O' w' h1 h2 h3=>?_
 have tp: ∀(tl:List Nat) (Z:List Item),(j∈tl∨Sub Z O')→(tl.any fun b=>(listed.setIfInBounds j true).getD b false)=true∨Inv base Z w':=fun tl Z h3=>by
  rcases h3 with h4|h4
  ·refine .inl (List.any_eq_true.2 ⟨j,h4,?_⟩)
   simp[gQ]
  ·exact .inr (h2.left.lz h4)
 have rl:jF base S tail S2 dG (listed.setIfInBounds j true) w':=⟨h2.oE,tp _ _ h3.1,tp _ _ h3.2.1⟩
 exact⟨rl,h3.2.2 Q a' w' M D hq hp h1 h2 (jQ pm A_) rl⟩
theorem Ba {gP:Nat} {listed:Array Bool} (hr:Region.ready .any ops listed=[]) (h:K ρ O):RO X P r base n ops S tail S2 dG gP listed K ρ O:=by
 intro Q a w M D hq hp ha hI _ _
 cases gP with
 |zero=>exact⟨hr,ρ,O,D,ha,hI,hq _ _ h⟩
 |succ f=>exact⟨fun _=>⟨ρ,O,D,ha,hI,hq _ _ h⟩,by rw[hr];simp⟩
def o9 (l:List (Nat×Nat)):List Nat:=(l.filter (·.2==2)).map (·.1)
def mN (l:List (Nat×Nat)):List Nat:=(l.filter fun q=>q.2==2||q.2==4).map (·.1)
def kE (ops:Array Oper) (tail dG:List Nat):List (Nat×Nat)→Array Bool→Bool
 | [],listed=>(Region.ready .any ops listed).isEmpty
 |(i,0)::l,listed=>rk ops tail i&&Region.free .any ops listed i&&(Region.ready .any ops listed).contains i&&kE ops tail dG l (listed.setIfInBounds i true)
 |(i,3)::l,listed=>rk ops dG i&&Region.free .any ops listed i&&(Region.ready .any ops listed).contains i&&kE ops tail dG l (listed.setIfInBounds i true)
 |(i,_)::l,listed=>(Region.ready .any ops listed== [i])&&kE ops tail dG l (listed.setIfInBounds i true)
def yC (ops:Array Oper) (l:List (Nat×Nat)):Bool:=Region.noSelect ops&&lg ops&&l.length==ops.size&&(l.all fun q=>(q.2==2||!(o9 l).contains q.1)&&(q.2==2||q.2==4||!(mN l).contains q.1))&&kE ops (o9 l) (mN l) l (Array.replicate ops.size false)
def DO (X:PX) (P:Program) (r:Option Nat) (base:World) (n:Nat) (ops:Array Oper) (S:List Item) (tail:List Nat) (S2:List Item) (dG:List Nat) (l:List (Nat×Nat)) (K:Env→List Item→Prop) (ρ:Env) (O:List Item):Prop:=
 Region.noSelect ops=true→lg ops=true→(∀q∈l,((q.2=2→q.1∈tail)∧(q.2≠2→q.1∉tail))∧((q.2=2∨q.2=4→q.1∈dG)∧(q.2≠2→q.2≠4→q.1∉dG)))→ ∀listed,kE ops tail dG l listed=true→RO X P r base n ops S tail S2 dG l.length listed K ρ O
theorem ap {l:List (Nat×Nat)} {i:Nat} {d:Nat} {op:Op} {t:TypeId} {p:String} {af:Array Edge} {v:Value} (hi:ops[i]? =some ⟨some d,op,t,p,af,none⟩)
  (h:QT P base ⟨some d,op,t,p,af,none⟩ ρ S v) (hk:DO X P r base n ops S tail S2 dG l K (kz ρ d v) O) (hn:Nat.blt d n=true:=by rfl):
  DO X P r base n ops S tail S2 dG ((i,0)::l) K ρ O:=fun hs my hl listed hw=>by
 simp only[kE,ar]at hw
 have h0:=hl (i,0) (by simp)
 exact kD (zt:=tail) i hi (fun _ _ h=>h.one) (h0.1.2 (by simp)) hw.1.1.1 hs my (h0.1.2 (by simp)) (h0.2.2 (by simp) (by simp)) hw.1.1.2 hw.1.2 (fun ds a ha=>.inl ⟨rfl,fun w hw=>by rw[ha.eval];exact h w hw⟩) hn (hk hs my (fun q hq=>hl q (List.mem_cons_of_mem _ hq)) _ hw.2)
theorem eg {l:List (Nat×Nat)} {i:Nat} {d:Nat} {op:Op} {t:TypeId} {p:String} {af:Array Edge} {v:Value} (hi:ops[i]? =some ⟨some d,op,t,p,af,none⟩)
  (h:QT P base ⟨some d,op,t,p,af,none⟩ ρ S2 v) (hk:DO X P r base n ops S tail S2 dG l K (kz ρ d v) O) (hn:Nat.blt d n=true:=by rfl):
  DO X P r base n ops S tail S2 dG ((i,3)::l) K ρ O:=fun hs my hl listed hw=>by
 simp only[kE,ar]at hw
 have h0:=hl (i,3) (by simp)
 exact kD (zt:=dG) i hi (fun _ _ h=>h.two) (h0.2.2 (by simp) (by simp)) hw.1.1.1 hs my (h0.1.2 (by simp)) (h0.2.2 (by simp) (by simp)) hw.1.1.2 hw.1.2 (fun ds a ha=>.inl ⟨rfl,fun w hw=>by rw[ha.eval];exact h w hw⟩) hn (hk hs my (fun q hq=>hl q (List.mem_cons_of_mem _ hq)) _ hw.2)
theorem bs {l:List (Nat×Nat)} {i:Nat} {d:Nat} {op:Op} {t:TypeId} {p:String} {af:Array Edge} {v:Value} {j tj:Nat} {want:Bool} (hi:ops[i]? =some ⟨some d,op,t,p,af,some (j,want)⟩)
  (hj:(ops[j]?).bind (·.dst)=some tj) (hw:ρ tj=.bool want)
  (h:QT P base ⟨some d,op,t,p,af,some (j,want)⟩ ρ S v) (hk:DO X P r base n ops S tail S2 dG l K (kz ρ d v) O) (hn:Nat.blt d n=true:=by rfl):
  DO X P r base n ops S tail S2 dG ((i,0)::l) K ρ O:=fun hs my hl listed hb=>by
 simp only[kE,ar]at hb
 have h0:=hl (i,0) (by simp)
 refine kD (zt:=tail) i hi (fun _ _ h=>h.one) (h0.1.2 (by simp)) hb.1.1.1 hs my (h0.1.2 (by simp)) (h0.2.2 (by simp) (by simp)) hb.1.1.2 hb.1.2 (fun ds a ha=>?_) hn (hk hs my (fun q hq=>hl q (List.mem_cons_of_mem _ hq)) _ hb.2)
 have hy:=kC (ops:=ops) ha hj
 rw[hw]at hy
 exact .inl ⟨by unfold Region.wanted;simp[hy,FT],fun w hw=>by rw[ha.eval];exact h w hw⟩
theorem aU {l:List (Nat×Nat)} {i:Nat} {d:Nat} {op:Op} {t:TypeId} {p:String} {af:Array Edge} {j tj:Nat} {want:Bool} (hi:ops[i]? =some ⟨some d,op,t,p,af,some (j,want)⟩)
  (hj:(ops[j]?).bind (·.dst)=some tj) (hw:(FT (ρ tj)==some want)=false)
  (hk:DO X P r base n ops S tail S2 dG l K (kz ρ d undef) O) (hn:Nat.blt d n=true:=by rfl):
  DO X P r base n ops S tail S2 dG ((i,0)::l) K ρ O:=fun hs my hl listed hb=>by
 simp only[kE,ar]at hb
 have h0:=hl (i,0) (by simp)
 refine kD (zt:=tail) i hi (fun _ _ h=>h.one) (h0.1.2 (by simp)) hb.1.1.1 hs my (h0.1.2 (by simp)) (h0.2.2 (by simp) (by simp)) hb.1.1.2 hb.1.2 (fun ds a ha=>?_) hn (hk hs my (fun q hq=>hl q (List.mem_cons_of_mem _ hq)) _ hb.2)
 have hy:=kC (ops:=ops) ha hj
 exact .inr ⟨by unfold Region.wanted;simp only[hy];exact hw,rfl⟩
theorem tM {l:List (Nat×Nat)} {i:Nat} {o:Oper} (hi:ops[i]? =some o) (hg:o.guard=none)
  (h:LT P r base n o ρ O (fun iA O'=>Sub S O'∧Sub S2 O'∧DO X P r base n ops S tail S2 dG l K iA O')):DO X P r base n ops S tail S2 dG ((i,1)::l) K ρ O:=fun hs my hl listed hb=>by
 simp only[kE,ar,beq_iff_eq]at hb
 refine vT i hi hg hb.1 ?_
 intro a w M ds ha hI next Qx fN
 exact h a w M ds ha hI next Qx fun a' iA O' w' h1 h2 h3=>fN a' iA O' w' h1 h2 ⟨.inr h3.1,.inr h3.2.1,h3.2.2 hs my (fun q hq=>hl q (List.mem_cons_of_mem _ hq)) _ hb.2⟩
theorem cG {l:List (Nat×Nat)} {i:Nat} {o:Oper} (hi:ops[i]? =some o) (hg:o.guard=none)
  (h:LT P r base n o ρ O (fun iA O'=>Sub S O'∧DO X P r base n ops S tail [] dG l K iA O')):DO X P r base n ops S tail [] dG ((i,1)::l) K ρ O:=
 tM hi hg fun a w M ds ha hI next Qx fN=>h a w M ds ha hI next Qx fun a' iA O' w' h1 h2 h3=>fN a' iA O' w' h1 h2 ⟨h3.1,cd (bV _),h3.2⟩
theorem yD {l:List (Nat×Nat)} {i:Nat} {o:Oper} (hi:ops[i]? =some o) (hg:o.guard=none)
  (h:LT P r base n o ρ O (fun iA O'=>Sub S O'∧DO X P r base n ops S tail S2 dG l K iA O')):DO X P r base n ops S tail S2 dG ((i,4)::l) K ρ O:=fun hs my hl listed hb=>by
 simp only[kE,ar,beq_iff_eq]at hb
 refine vT i hi hg hb.1 ?_
 intro a w M ds ha hI next Qx fN
 exact h a w M ds ha hI next Qx fun a' iA O' w' h1 h2 h3=>fN a' iA O' w' h1 h2 ⟨.inr h3.1,.inl ((hl (i,4) (by simp)).2.1 (.inr rfl)),h3.2 hs my (fun q hq=>hl q (List.mem_cons_of_mem _ hq)) _ hb.2⟩
theorem cA {l:List (Nat×Nat)} {i:Nat} {o:Oper} (hi:ops[i]? =some o) (hg:o.guard=none)
  (h:LT P r base n o ρ O (fun iA O'=>DO X P r base n ops S tail S2 dG l K iA O')):DO X P r base n ops S tail S2 dG ((i,2)::l) K ρ O:=fun hs my hl listed hb=>by
 simp only[kE,ar,beq_iff_eq]at hb
 refine vT i hi hg hb.1 ?_
 intro a w M ds ha hI next Qx fN
 exact h a w M ds ha hI next Qx fun a' iA O' w' h1 h2 h3=>fN a' iA O' w' h1 h2 ⟨.inl ((hl (i,2) (by simp)).1.1 rfl),.inl ((hl (i,2) (by simp)).2.1 (.inl rfl)),h3 hs my (fun q hq=>hl q (List.mem_cons_of_mem _ hq)) _ hb.2⟩
theorem cy (h:K ρ O):DO X P r base n ops S tail S2 dG [] K ρ O:=fun _ _ _ listed hb=>Ba (by simpa[kE]using hb) h
theorem tN (S S2:List Item) (l:List (Nat×Nat)) {id:Nat} {ops:Array Oper} (hm:P.follows .mixedOrders=true) (hB:yC ops l=true) (hS:Sub S O) (Y5:Sub S2 O) (hp: ∀c ρ iA O,Q (.panic c) ρ O→Q (.panic c) iA O)
  (h:DO (fun c=> ∀ρ,Q (.panic c) ρ []) P r base n ops S (o9 l) S2 (mN l) l (fun ρ O=>Q .normal ρ O) ρ O):T P r base n (.region id ops true) Q ρ O:=by
 simp only[yC,ar,beq_iff_eq]at hB
 obtain⟨⟨⟨⟨h1,my⟩,h2⟩,h4⟩,h5⟩:=hB
 have hl: ∀q∈l,((q.2=2→q.1∈o9 l)∧(q.2≠2→q.1∉o9 l))∧((q.2=2∨q.2=4→q.1∈mN l)∧(q.2≠2→q.2≠4→q.1∉mN l)):=fun q hq=>by
  have:=List.all_eq_true.1 h4 q hq
  simp only[ar,Bool.or_eq_true,beq_iff_eq,Bool.not_eq_true',List.contains_eq_mem,decide_eq_false_iff_not]at this
  refine⟨⟨fun e=>List.mem_map.2 ⟨q,List.mem_filter.2 ⟨hq,by simp[e]⟩,rfl⟩,fun e=>this.1.resolve_left e⟩,fun e=>List.mem_map.2 ⟨q,List.mem_filter.2 ⟨hq,by rcases e with e|e<;>simp[e]⟩,rfl⟩,fun e e2=>this.2.resolve_left (fun h=>h.elim e e2)⟩
 have:=h h1 my hl _ h5
 rw[h2]at this
 intro a w M D _ ha hi
 refine wpIn_region_any hm (mM _ _ _ _ (this Q a _ M D (fun _ _ h=>h) ⟨hp,fun _ ρ h=>h ρ⟩ ha (hi.drawn _) (qg _ _) ⟨(hi.drawn _).oE,.inr ((hi.drawn _).left.lz hS),.inr ((hi.drawn _).left.lz Y5)⟩))
theorem Bb (S:List Item) (l:List (Nat×Nat)) {id:Nat} {ops:Array Oper} (hm:P.follows .mixedOrders=true) (hB:yC ops l=true) (hS:Sub S O) (hp: ∀c ρ iA O,Q (.panic c) ρ O→Q (.panic c) iA O)
  (h:DO (fun c=> ∀ρ,Q (.panic c) ρ []) P r base n ops S (o9 l) [] (mN l) l (fun ρ O=>Q .normal ρ O) ρ O):T P r base n (.region id ops true) Q ρ O:=
 tN S [] l hm hB hS (cd (bV _)) hp h
def JT (p:Nat→Prop):List Nat→Prop
 | []=>True
 |i::is=>p i∧JT p is
theorem JT.mem {p:Nat→Prop}: ∀ {is:List Nat},JT p is→ ∀i∈is,p i
 |i::is,h,j,hj=>by
  rcases List.mem_cons.1 hj with rfl|hj
  ·exact h.1
  ·exact JT.mem h.2 j hj
theorem cS {gP:Nat} {listed:Array Bool} (is:List Nat) (hr:Region.ready .any ops listed=is) (h0:is.isEmpty=false)
  (h:JT (fun i=> ∃o,ops[i]? =some o∧o.guard=none∧LT P r base n o ρ O (fun iA O'=>Sub S O'∧RO X P r base n ops S [] [] [] gP (listed.setIfInBounds i true) K iA O')) is):RO X P r base n ops S [] [] [] (gP+1) listed K ρ O:=by
 intro Q a w M D hq hp ha hI pm hS
 refine⟨fun h1=>?_,fun j hj=>?_⟩
 ·rw[hr]at h1;subst h1;cases h0
 obtain⟨o,hi,hg,hl⟩:=h.mem j (hr▸hj)
 unfold wpOpIn
 simp only[hi]
 rw[aB (by simp[Region.wanted,hg])]
 refine hl a w _ _ ha hI _ _ fun a' iA O' w' h1 h2 h3=>?_
 have rl:jF base S [] [] [] (listed.setIfInBounds j true) w':=⟨h2.oE,.inr (h2.left.lz h3.1),.inr h2.oE⟩
 exact⟨rl,h3.2 Q a' w' M D hq hp h1 h2 (jQ pm hj) rl⟩
theorem cI {gP:Nat} {listed:Array Bool} (i:Nat) {d:Nat} {op:Op} {t:TypeId} {p:String} {af:Array Edge} {v:Value} (hi:ops[i]? =some ⟨some d,op,t,p,af,none⟩)
  (hb:(Region.noSelect ops&&lg ops&&Region.free .any ops listed i&&(Region.ready .any ops listed).contains i)=true)
  (h:QT P base ⟨some d,op,t,p,af,none⟩ ρ S v) (hk:RO X P r base n ops S [] [] [] gP (listed.setIfInBounds i true) K (kz ρ d v) O) (hn:Nat.blt d n=true:=by rfl):
  RO X P r base n ops S [] [] [] (gP+1) listed K ρ O:=by
 simp only[ar]at hb
 exact kD (zt:=[]) i hi (fun _ _ h=>h.one) (by simp) rfl hb.1.1.1 hb.1.1.2 (by simp) (by simp) hb.1.2 hb.2 (fun ds a ha=>.inl ⟨rfl,fun w hw=>by rw[ha.eval];exact h w hw⟩) hn hk
theorem gz {gP:Nat} {listed:Array Bool} (is:List Nat) (hr:Region.ready .any ops listed=is) (h0:is.isEmpty=false)
  (h:JT (fun i=> ∃o,ops[i]? =some o∧o.guard=none∧LT P r base n o ρ O (fun iA O'=>(i∈tail∨Sub S O')∧RO X P r base n ops S tail [] [] gP (listed.setIfInBounds i true) K iA O')) is) (iH:is.all (fun i=>Nat.blt i listed.size)=true):RO X P r base n ops S tail [] [] (gP+1) listed K ρ O:=by
 intro Q a w M D hq hp ha hI pm hS
 refine⟨fun h1=>?_,fun j hj=>?_⟩
 ·rw[hr]at h1;subst h1;cases h0
 obtain⟨o,hi,hg,hl⟩:=h.mem j (hr▸hj)
 have gQ:j<listed.size:=by
  have:=List.all_eq_true.1 iH j (hr▸hj)
  rwa[Nat.blt_eq]at this
 unfold wpOpIn
 simp only[hi]
 rw[aB (by simp[Region.wanted,hg])]
 refine hl a w _ _ ha hI _ _ fun a' iA O' w' h1 h2 h3=>?_
 have tp:(tail.any fun b=>(listed.setIfInBounds j true).getD b false)=true∨Inv base S w':=by
  rcases h3.1 with h4|h4
  ·refine .inl (List.any_eq_true.2 ⟨j,h4,?_⟩)
   simp[gQ]
  ·exact .inr (h2.left.lz h4)
 have rl:jF base S tail [] [] (listed.setIfInBounds j true) w':=⟨h2.oE,tp,.inr h2.oE⟩
 exact⟨rl,h3.2 Q a' w' M D hq hp h1 h2 (jQ pm hj) rl⟩
theorem ii {gP:Nat} {listed:Array Bool} (i:Nat) {d:Nat} {op:Op} {t:TypeId} {p:String} {af:Array Edge} {v:Value} (hi:ops[i]? =some ⟨some d,op,t,p,af,none⟩)
  (hb:(Region.noSelect ops&&lg ops&&Region.free .any ops listed i&&(Region.ready .any ops listed).contains i&&rk ops tail i&&!tail.contains i)=true)
  (h:QT P base ⟨some d,op,t,p,af,none⟩ ρ S v) (hk:RO X P r base n ops S tail [] [] gP (listed.setIfInBounds i true) K (kz ρ d v) O) (hn:Nat.blt d n=true:=by rfl):
  RO X P r base n ops S tail [] [] (gP+1) listed K ρ O:=by
 simp only[ar,Bool.not_eq_true',List.contains_eq_mem,decide_eq_false_iff_not]at hb
 exact kD (zt:=tail) i hi (fun _ _ h=>h.one) hb.2 hb.1.2 hb.1.1.1.1.1 hb.1.1.1.1.2 hb.2 (by simp) hb.1.1.1.2 (by simpa using hb.1.1.2) (fun ds a ha=>.inl ⟨rfl,fun w hw=>by rw[ha.eval];exact h w hw⟩) hn hk
theorem lH {gP:Nat} {listed:Array Bool} (i:Nat) {d:Nat} {op:Op} {t:TypeId} {p:String} {af:Array Edge} {v:Value} (hi:ops[i]? =some ⟨some d,op,t,p,af,none⟩)
  (hb:(Region.noSelect ops&&lg ops&&Region.free .any ops listed i&&(Region.ready .any ops listed).contains i&&!tail.contains i)=true)
  (h:QT P base ⟨some d,op,t,p,af,none⟩ ρ [] v) (hk:RO X P r base n ops S tail [] [] gP (listed.setIfInBounds i true) K (kz ρ d v) O) (hn:Nat.blt d n=true:=by rfl):
  RO X P r base n ops S tail [] [] (gP+1) listed K ρ O:=by
 simp only[ar,Bool.not_eq_true',List.contains_eq_mem,decide_eq_false_iff_not]at hb
 exact kD (zt:=[]) (Z:=[]) i hi (fun _ _ h=>.inr h.oE) (by simp) rfl hb.1.1.1.1 hb.1.1.1.2 hb.2 (by simp) hb.1.1.2 (by simpa using hb.1.2) (fun ds a ha=>.inl ⟨rfl,fun w hw=>by rw[ha.eval];exact h w hw⟩) hn hk
theorem JU (S:List Item) (tail:List Nat) (m:Nat) {id:Nat} {ops:Array Oper} (hm:P.follows .mixedOrders=true) (qX:ops.size=m) (hS:Sub S O) (hp: ∀c ρ iA O,Q (.panic c) ρ O→Q (.panic c) iA O)
  (h:RO (fun c=> ∀ρ,Q (.panic c) ρ []) P r base n ops S tail [] [] m (Array.replicate m false) (fun ρ O=>Q .normal ρ O) ρ O):T P r base n (.region id ops true) Q ρ O:=by
 subst qX
 intro a w M D _ ha hi
 refine wpIn_region_any hm (mM _ _ _ _ (h Q a _ M D (fun _ _ h=>h) ⟨hp,fun _ ρ h=>h ρ⟩ ha (hi.drawn _) (qg _ _) ⟨(hi.drawn _).oE,.inr ((hi.drawn _).left.lz hS),.inr (hi.drawn _).oE⟩))
theorem pq (S:List Item) (m:Nat) {id:Nat} {ops:Array Oper} (hm:P.follows .mixedOrders=true) (qX:ops.size=m) (hS:Sub S O) (hp: ∀c ρ iA O,Q (.panic c) ρ O→Q (.panic c) iA O)
  (h:RO (fun c=> ∀ρ,Q (.panic c) ρ []) P r base n ops S [] [] [] m (Array.replicate m false) (fun ρ O=>Q .normal ρ O) ρ O):T P r base n (.region id ops true) Q ρ O:=by
 subst qX
 intro a w M D _ ha hi
 refine wpIn_region_any hm (mM _ _ _ _ (h Q a _ M D (fun _ _ h=>h) ⟨hp,fun _ ρ h=>h ρ⟩ ha (hi.drawn _) (qg _ _) ⟨(hi.drawn _).oE,.inr ((hi.drawn _).left.lz hS),.inr (hi.drawn _).oE⟩))
theorem RO.sub {O':List Item} {gP:Nat} {listed:Array Bool} (hs:Sub O' O) (h:RO X P r base n ops S tail S2 dG gP listed K ρ O'):RO X P r base n ops S tail S2 dG gP listed K ρ O:=
 fun Q a w M D hq hp ha hI pm hS=>h Q a w M D hq hp ha (hI.lz (by obtain⟨l,h1,h2⟩:=hs;exact⟨l++(mI D++M),h1.append_right _,h2.append (aP _)⟩)) pm hS
theorem im {O':List Item} {gP:Nat} {listed:Array Bool} (hr:Region.ready .any ops listed=[]) (h:K ρ O') (hs:Sub O' O):RO X P r base n ops S tail S2 dG gP listed K ρ O:=RO.sub hs (Ba hr h)
end
def gj (P:Program) (t:TypeId) (z:Value) (s b:Nat):Prop:=(P.info? t).map (fun i=>(i.zero,i.size,i.bytes))=some (some z,s,b)
theorem gj.get {P:Program} {t:TypeId} {z:Value} {s b:Nat} (h:gj P t z s b): ∃i,P.info? t=some i∧i.zero=some z∧i.size=s∧i.bytes=b:=by
 unfold gj at h
 cases hi:P.info? t with
 |none=>rw[hi]at h;cases h
 |some i=>
  rw[hi]at h
  simp only[Option.map_some,Option.some.injEq,Prod.mk.injEq]at h
  exact⟨i,rfl,h.1,h.2.1,h.2.2⟩
theorem mP {P:Program} {t:TypeId} {i:TypeInfo} (h:P.info? t=some i) (w:World):(typeInfo t).run P w=.ok i w:=by
 unfold typeInfo;simp[h]
theorem cr {P:Program} {t:TypeId} {z:Value} {s b:Nat} (h:gj P t z s b) (w:World):(sizeOf t).run P w=.ok s w:=by
 obtain⟨i,hi,_,hs,_⟩:=h.get
 unfold sizeOf;simp[mP hi,hs]
theorem io {P:Program} {t:TypeId} {z:Value} {s b:Nat} (h:gj P t z s b) (w:World):(zeroValue t).run P w=.ok z w:=by
 obtain⟨i,hi,hz,_,_⟩:=h.get
 unfold zeroValue;simp[mP hi,hz]
theorem bL {P:Program} {t:TypeId} {d:TypeDesc} (h:P.underlying t=some d) (w:World):(underlying t).run P w=.ok d w:=by
 unfold underlying;simp[h]
theorem run_equal_bool {P:Program} {T:TypeId} (h:P.underlying T=some .bool) (a b:Bool) (w:World):(Op.equal T (.bool a) (.bool b)).run P w=.ok (a==b) w:=by
 show(Op.equalIn (9999+1) T (.bool a) (.bool b)).run P w=_
 rw[Op.equalIn]
 simp[bL h]
def pr:TypeDesc→Bool
 | .struct _| .array _ _=>true
 |_=>false
theorem jV {P:Program} {t:TypeId} {d:TypeDesc} (h:P.underlying t=some d) (w:World):(isAgg t).run P w=.ok (pr d) w:=by
 unfold isAgg;simp[bL h];cases d<;>rfl
section
variable {P:Program} {base:World} {ρ:Env} {O:List Item} {dst:Option Nat} {t:TypeId} {p:String} {af:Array Edge} {g:Option (Nat×Bool)}
theorem aw {x:Operand} {v:Value} (h:ev ρ x=v:=by exact rfl):QT P base ⟨dst,.move x,t,p,af,g⟩ ρ O v:=fun w _=>by simp[execOp,h]
theorem cz {x:Operand} {v:Value} (h:ev ρ x=v:=by exact rfl):QT P base ⟨dst,.assign x,t,p,af,g⟩ ρ O v:=fun w _=>by simp[execOp,h]
theorem cV {x y:Operand} {T U:TypeId} {k:IntKind} {a b:Int} (hx:ev ρ x=.int k a:=by exact rfl) (hy:ev ρ y=.int k b:=by exact rfl):QT P base ⟨dst,.binOp .lss T x y U,t,p,af,g⟩ ρ O (.bool (decide (a<b))):=fun w _=>by
 simp[execOp,hx,hy,eqGuard,binOp,Op.intCmp]
theorem tg {x y:Operand} {T U:TypeId} {k:IntKind} {a b:Int} (hx:ev ρ x=.int k a:=by exact rfl) (hy:ev ρ y=.int k b:=by exact rfl):QT P base ⟨dst,.binOp .leq T x y U,t,p,af,g⟩ ρ O (.bool (decide (a≤b))):=fun w _=>by
 simp[execOp,hx,hy,eqGuard,binOp,Op.intCmp]
theorem gT {x y:Operand} {T U:TypeId} {k:IntKind} {a b:Int} (hx:ev ρ x=.int k a:=by exact rfl) (hy:ev ρ y=.int k b:=by exact rfl):QT P base ⟨dst,.binOp .gtr T x y U,t,p,af,g⟩ ρ O (.bool (decide (b<a))):=fun w _=>by
 simp[execOp,hx,hy,eqGuard,binOp,Op.intCmp]
theorem km {x y:Operand} {T U:TypeId} {k:IntKind} {a b:Int} (hx:ev ρ x=.int k a:=by exact rfl) (hy:ev ρ y=.int k b:=by exact rfl):QT P base ⟨dst,.binOp .geq T x y U,t,p,af,g⟩ ρ O (.bool (decide (b≤a))):=fun w _=>by
 simp[execOp,hx,hy,eqGuard,binOp,Op.intCmp]
theorem bN {x y:Operand} {T U:TypeId} {k:IntKind} {a b:Int} (hx:ev ρ x=.int k a:=by exact rfl) (hy:ev ρ y=.int k b:=by exact rfl):QT P base ⟨dst,.binOp .eql T x y U,t,p,af,g⟩ ρ O (.bool (decide (a=b))):=fun w _=>by
 simp[execOp,hx,hy,eqGuard,binOp,Op.intCmp];rfl
theorem d_ {x y:Operand} {T U:TypeId} {k:IntKind} {a b:Int} (hx:ev ρ x=.int k a:=by exact rfl) (hy:ev ρ y=.int k b:=by exact rfl):QT P base ⟨dst,.binOp .neq T x y U,t,p,af,g⟩ ρ O (.bool (decide (a≠b))):=fun w _=>by
 simp[execOp,hx,hy,eqGuard,binOp,Op.intCmp,bne];rfl
theorem Y6 {x y:Operand} {T U:TypeId} {k:IntKind} {a b:Int} (hx:ev ρ x=.int k a) (hy:ev ρ y=.int k b):QT P base ⟨dst,.binOp .add T x y U,t,p,af,g⟩ ρ O (.int k (k.wrap (a+b))):=fun w _=>by
 simp[execOp,hx,hy,eqGuard,binOp,Op.intArith]
theorem Tp {x y:Operand} {T U:TypeId} {k:IntKind} {a b:Int} (hx:ev ρ x=.int k a) (hy:ev ρ y=.int k b):QT P base ⟨dst,.binOp .sub T x y U,t,p,af,g⟩ ρ O (.int k (k.wrap (a-b))):=fun w _=>by
 simp[execOp,hx,hy,eqGuard,binOp,Op.intArith]
theorem gX {n:Int} (h: -9223372036854775808≤n∧n≤9223372036854775807):IntKind.i64.wrap n=n:=IntWalk.i64_in n h
theorem jW {x y:Operand} {T U:TypeId} {a b:Int} (hx:ev ρ x=.int .i64 a) (hy:ev ρ y=.int .i64 b) (h: -9223372036854775808≤a+b∧a+b≤9223372036854775807):
  QT P base ⟨dst,.binOp .add T x y U,t,p,af,g⟩ ρ O (.int .i64 (a+b)):=by have:=Y6 (P:=P) (base:=base) (O:=O) (dst:=dst) (t:=t) (p:=p) (af:=af) (g:=g) (T:=T) (U:=U) hx hy;rwa[gX h]at this
theorem ga {x y:Operand} {T U:TypeId} {a b:Int} (hx:ev ρ x=.int .i64 a) (hy:ev ρ y=.int .i64 b) (h: -9223372036854775808≤a-b∧a-b≤9223372036854775807):
  QT P base ⟨dst,.binOp .sub T x y U,t,p,af,g⟩ ρ O (.int .i64 (a-b)):=by have:=Tp (P:=P) (base:=base) (O:=O) (dst:=dst) (t:=t) (p:=p) (af:=af) (g:=g) (T:=T) (U:=U) hx hy;rwa[gX h]at this
theorem lF {x y:Operand} {T U:TypeId} {a:Nat} (hx:ev ρ x=.int .i64 (a:Int)) (hy:ev ρ y=.int .i64 1) (h:a<9223372036854775807):
  QT P base ⟨dst,.binOp .add T x y U,t,p,af,g⟩ ρ O (.int .i64 ((a+1:Nat):Int)):=by
 have:=jW (P:=P) (base:=base) (O:=O) (dst:=dst) (t:=t) (p:=p) (af:=af) (g:=g) (T:=T) (U:=U) hx hy (by omega);rwa[←Int.natCast_succ]at this
theorem g_ {x:Operand} {T:TypeId} {b:Bool} (hx:ev ρ x=.bool b:=by exact rfl):QT P base ⟨dst,.unOp .not T x,t,p,af,g⟩ ρ O (.bool !b):=fun w _=>by
 simp[execOp,hx,Op.unary]
theorem U9 {x y:Operand} {T U:TypeId} {a b:Bool} (hu:P.underlying T=some .bool) (hx:ev ρ x=.bool a) (hy:ev ρ y=.bool b):QT P base ⟨dst,.binOp .eql T x y U,t,p,af,g⟩ ρ O (.bool (a==b)):=fun w _=>by
 simp[execOp,hx,hy,eqGuard,binOp,run_equal_bool hu]
theorem Mh {x y:Operand} {T U:TypeId} {a b:Bool} (hu:P.underlying T=some .bool) (hx:ev ρ x=.bool a) (hy:ev ρ y=.bool b):QT P base ⟨dst,.binOp .neq T x y U,t,p,af,g⟩ ρ O (.bool (a !=b)):=fun w _=>by
 simp[execOp,hx,hy,eqGuard,binOp,run_equal_bool hu,bne]
theorem Mi {x:Operand} {S D:TypeId} {ds:TypeDesc} {k k':IntKind} {a:Int} (hs:P.underlying S=some ds) (hd:P.underlying D=some (.int k)) (hx:ev ρ x=.int k' a):
  QT P base ⟨dst,.convert S D x,t,p,af,g⟩ ρ O (.int k (k.wrap a)):=fun w _=>by
 simp[execOp,hx,convert,bL hs,bL hd,Conv.intToInt]
theorem gi {x:Operand} {S D:TypeId} {ds:TypeDesc} {k k':IntKind} {a:Int} (hs:P.underlying S=some ds) (hd:P.underlying D=some (.int k)) (hx:ev ρ x=.int k' a) (hw:k.wrap a=a):
  QT P base ⟨dst,.convert S D x,t,p,af,g⟩ ρ O (.int k a):=by have:=Mi (P:=P) (base:=base) (O:=O) (dst:=dst) (t:=t) (p:=p) (af:=af) (g:=g) hs hd hx;rwa[hw]at this
theorem cL {x:Operand} {T:TypeId} {E:TypeId} {b:Option Addr} {n c:Nat} (hu:P.underlying T=some (.slice E)) (hx:ev ρ x=.slice b n c:=by exact rfl):
  QT P base ⟨dst,.call ⟨.builtin .len,#[x],#[T]⟩,t,p,af,g⟩ ρ O (.int .i64 (n:Int)):=fun w _=>by
 simp[execOp,resolve,hx,invoke,builtin,Builtin.len_,bL hu,goInt]
theorem bI (vs:List Value) {x:Operand} {i:Nat} {v:Value} (hx:ev ρ x=.tuple vs.toArray:=by exact rfl) (hv:vs[i]? =some v:=by exact rfl):QT P base ⟨dst,.extract x i,t,p,af,g⟩ ρ O v:=fun w _=>by
 simp[execOp,hx,Instr.extract,hv]
theorem fI {fn:Fn} {first captured:List Operand}:QT P base ⟨dst,.makeFunc fn first.toArray captured.toArray,t,p,af,g⟩ ρ O (.func fn (HQ ρ first).toArray (HQ ρ captured).toArray):=fun w _=>by
 simp[execOp,Instr.makeFunc,Me]
theorem bu {x:Operand} {S:TypeId} {fs:Array Field} {i:Nat} {f:Field} {b o:Nat} {z:Value} {s h_:Nat} {E:TypeId} (hu:P.underlying S=some (.struct fs)) (hi:gj P E z s h_) (hf:fs[i]? =some f:=by exact rfl) (hs:(s==0)=false:=by exact rfl) (hx:ev ρ x=.pointer (some ⟨b,o,none⟩):=by exact rfl) (U_:f.type=E:=by exact rfl):QT P base ⟨dst,.fieldAddr S x i,t,p,af,g⟩ ρ O (.pointer (some ⟨b,o+f.offset,none⟩)):=fun w _=>by
 subst U_
 have Va:s≠0:=by simpa using hs
 simp[execOp,hx,Instr.fieldAt,bL hu,hf,Instr.sureAddr,fieldPlace,cr hi,Va,Addr.add]
 try (intro h;simp[h])
theorem wT {x y:Operand} {T E:TypeId} {b o n c i:Nat} {k:IntKind} {z:Value} {s h_:Nat} (hu:P.underlying T=some (.slice E)) (hi:gj P E z s h_) (hx:ev ρ x=.slice (some ⟨b,o,none⟩) n c) (hy:ev ρ y=.int k (i:Int)) (gQ:i<n):
  QT P base ⟨dst,.indexAddr T x y,t,p,af,g⟩ ρ O (.pointer (some ⟨b,o+i*s,none⟩)):=fun w _=>by
 have h2:(i:Int)<(n:Int):=by omega
 simp[execOp,hx,hy,Instr.indexAt,asIntOf,bL hu,gQ,cr hi,Addr.add]
 try (intro h;rcases h with h|h<;>simp[h])
theorem rm {x:Operand} {T:TypeId} {d:TypeDesc} {b o:Nat} {v:Value} (hu:P.underlying T=some d) (ha:pr d=false) (hx:ev ρ x=.pointer (some ⟨b,o,none⟩))
  (hc: ∀w,Inv base O w→w.cell? ⟨b,o,none⟩=some v):QT P base ⟨dst,.load T x,t,p,af,g⟩ ρ O v:=fun w hI=>by
 simp[execOp,hx,Instr.loadAt,Instr.sureAddr,loadVar,jV hu,ha,hc w hI]
theorem mQ {P:Program} {w:World} {a:Addr}: ∀(cs:List Value) (i:Nat) (jf:Array Value),(∀j (h:j<cs.length),w.cell? (a.add (i+j))=some cs[j])→
  (loadCellsFrom a i cs.length jf).run P w=.ok (jf++cs.toArray) w
 | [],i,jf,_=>by simp[loadCellsFrom]
 |v::cs,i,jf,h=>by
  have h0:w.cell? (a.add i)=some v:=h 0 (by simp)
  have ih:=mQ (P:=P) cs (i+1) (jf.push v) (fun j hj=>by have:=h (j+1) (by simp;omega);simpa[Nat.add_assoc,Nat.add_comm 1 j]using this)
  simp only[bQ,loadCellsFrom,Sem.run_bind,run_load,h0,Result.andThen_ok,ih]
  simp
theorem yE {x:Operand} {T:TypeId} {d:TypeDesc} {b o:Nat} {cs:List Value} {z:Value} {s h_:Nat} (hu:P.underlying T=some d) (ha:pr d=true) (hi:gj P T z s h_) (hx:ev ρ x=.pointer (some ⟨b,o,none⟩)) (hl:cs.length=s)
  (hc: ∀w,Inv base O w→ ∀j (h:j<cs.length),w.cell? ⟨b,o+j,none⟩=some cs[j]):QT P base ⟨dst,.load T x,t,p,af,g⟩ ρ O (.agg cs.toArray):=fun w hI=>by
 have h:=mQ (P:=P) (w:=w) (a:=⟨b,o,none⟩) cs 0 #[] (fun j hj=>by
  have:=hc w hI j hj
  simp only[Nat.zero_add,Addr.add]
  split<;>rename_i e
  ·subst e;simpa using this
  ·exact this)
 simp[execOp,hx,Instr.loadAt,Instr.sureAddr,loadVar,jV hu,ha,cr hi,loadCells,←hl,h]
end
def Sl (w:World) (b:Option Addr) (cs:List Value):Prop:= ∀i (h:i<cs.length),∃a,b=some a∧a.spot=none∧w.cell? ⟨a.block,a.off+i,none⟩=some cs[i]
theorem Sl.nil (w:World) (b:Option Addr):Sl w b []:=fun i h=>by simp at h
theorem Sl.keep {w w':World} {b:Option Addr} {cs:List Value} (h:Sl w b cs) (hb: ∀k,k<w.heap.size→w'.heap[k]? =w.heap[k]?):Sl w' b cs:=fun i hi=>by
 obtain⟨a,h1,h2,h3⟩:=h i hi
 refine⟨a,h1,h2,?_⟩
 have gQ:=World.block_lt_of_cell? _ _ h3
 unfold World.cell? at h3⊢
 rw[hb _ gQ]
 exact h3
theorem Sl.below {w w':World} {b:Option Addr} {cs:List Value} (h:Sl w b cs) (hb:Below w.heap.size w w'):Sl w' b cs:=h.keep hb.block
theorem Inv.sl {base:World} {O:List Item} {w:World} (hI:Inv base O w) {b:Option Addr} {cs:List Value} (h:Sl base b cs):Sl w b cs:=h.below hI.below
theorem Sl.addr {w:World} {b:Option Addr} {cs:List Value} (h:Sl w b cs) {i:Nat} (hi:i<cs.length): ∃k o,b=some ⟨k,o,none⟩:=by
 obtain⟨⟨k,o,s⟩,h1,h2,_⟩:=h i hi
 simp only at h2;subst h2
 exact⟨k,o,h1⟩
theorem Sl.get {w:World} {k o:Nat} {cs:List Value} (h:Sl w (some ⟨k,o,none⟩) cs) {i:Nat} {v:Value} (hv:cs[i]? =some v):w.cell? ⟨k,o+i,none⟩=some v:=by
 obtain⟨hi,e⟩:=List.getElem?_eq_some_iff.1 hv
 obtain⟨a,h1,_,h3⟩:=h i hi
 cases h1
 rw[h3,e]
def rowP (b:Option Addr) (c:Nat) (T:TypeId) (k:Nat) (cs:List Value) (w:World):Prop:=
 match b with
 |none=>cs=[]∧c=0
 |some a=>a.spot=none∧ ∃full,w.heap[a.block]? =some (.cells full T (0,0))∧cs.length≤c*k∧a.off+c*k≤full.size∧ ∀i (h:i<cs.length),full[a.off+i]? =some cs[i]
def az (b:Option Addr) (c:Nat) (T:TypeId) (k:Nat) (cs:List Value):Item where
 blocks:=match b with|none=>[]|some a=>[a.block]
 P:=rowP b c T k cs
 loc:=fun w w' h hp=>by
  cases b with
  |none=>exact hp
  |some a=>
   obtain⟨h1,full,h2,h3⟩:=hp
   exact⟨h1,full,(h a.block (by simp)).trans h2,h3⟩
theorem rowP.sl {b:Option Addr} {c:Nat} {T:TypeId} {k:Nat} {cs:List Value} {w:World} (h:rowP b c T k cs w):Sl w b cs:=fun i hi=>by
 cases b with
 |none=>rw[h.1]at hi;simp at hi
 |some a=>
  obtain⟨h1,full,h2,_,_,h5⟩:=h
  refine⟨a,rfl,h1,?_⟩
  unfold World.cell?
  simp[h2,h5 i hi]
theorem Inv.row {base:World} {O:List Item} {w:World} (hI:Inv base O w) {i:Nat} {b:Option Addr} {c:Nat} {T:TypeId} {k:Nat} {cs:List Value} (h:O[i]? =some (az b c T k cs)):rowP b c T k cs w:=
 hI.holds _ (bT h)
theorem Inv.wU {base:World} {O:List Item} {w:World} (hI:Inv base O w) {i:Nat} {b:Nat} {o:Obj} (h:O[i]? =some (eu b o)):w.heap[b]? =some o:=
 hI.holds _ (bT h)
section
variable {P:Program} {base:World} {ρ:Env} {O:List Item} {dst:Option Nat} {t:TypeId} {p:String} {af:Array Edge} {g:Option (Nat×Bool)}
theorem bF (i:Nat) {x:Operand} {T E:TypeId} {d:TypeDesc} {b o:Nat} {cs:List Value} {fr:Nat×Nat} {v:Value} (hu:P.underlying T=some d) (ha:pr d=false:=by exact rfl) (hx:ev ρ x=.pointer (some ⟨b,o,none⟩):=by exact rfl)
  (hO:O[i]? =some (eu b (.cells cs.toArray E fr)):=by exact rfl) (hv:cs[o]? =some v:=by exact rfl):QT P base ⟨dst,.load T x,t,p,af,g⟩ ρ O v:=
 rm hu ha hx fun w hI=>by have:=hI.wU hO;unfold World.cell?;simp[this,hv]
theorem eR {x:Operand} {T E:TypeId} {d:TypeDesc} {b:Nat} {cs:List Value} {fr:Nat×Nat} {z:Value} {s h_:Nat} (i:Nat) (hu:P.underlying T=some d) (hi:gj P T z s h_) (ha:pr d=true:=by exact rfl) (hx:ev ρ x=.pointer (some ⟨b,0,none⟩):=by exact rfl) (hO:O[i]? =some (eu b (.cells cs.toArray E fr)):=by exact rfl) (hl:cs.length=s:=by exact rfl):QT P base ⟨dst,.load T x,t,p,af,g⟩ ρ O (.agg cs.toArray):=
 yE hu ha hi hx hl fun w hI j hj=>by have:=hI.wU hO;unfold World.cell?;simp[this]
theorem nM {x:Operand} {T:TypeId} {d:TypeDesc} {b o i:Nat} {cs:List Value} {v:Value} (hu:P.underlying T=some d) (ha:pr d=false) (hx:ev ρ x=.pointer (some ⟨b,o+i,none⟩))
  (hs:Sl base (some ⟨b,o,none⟩) cs) (hv:cs[i]? =some v):QT P base ⟨dst,.load T x,t,p,af,g⟩ ρ O v:=
 rm hu ha hx fun _ hI=>(hI.sl hs).get hv
end
def fS:Value→Bool
 | .agg _| .tuple _=>false
 |_=>true
def fC (cs:List Value):Nat→List Value→List Value
 |_,[]=>cs
 |o,v::vs=>fC (cs.set o v) (o+1) vs
theorem jl (vs:List Value): ∀(cs:List Value) (o:Nat),(fC cs o vs).length=cs.length:=by
 induction vs with
 |nil=>intro cs o;rfl
 |cons v vs ih=>intro cs o;simp[fC,ih]
theorem nZ (vs:List Value): ∀(cs:List Value) (o i:Nat),o+vs.length≤cs.length→(fC cs o vs)[i]? =if o≤i∧i<o+vs.length then vs[i-o]? else cs[i]? :=by
 induction vs with
 |nil=>intro cs o i h;simp[fC];intro h1 h2;omega
 |cons v vs ih=>
  intro cs o i h
  simp only[fC,bQ]at h⊢
  rw[ih _ _ _ (by simp;omega)]
  by_cases h1:o+1≤i∧i<o+1+vs.length
  ·rw[aB h1,aB (by omega)]
   have:i-o=(i-(o+1))+1:=by omega
   rw[this];simp
  ·rw[aq h1]
   by_cases h2:i=o
   ·subst h2
    rw[aB (by omega)]
    simp
    rw[List.getElem?_set_self (by omega)]
   ·rw[aq (by omega),List.getElem?_set_ne (by omega)]
def kN (w:World) (b:Nat) (o:Obj):World:= {w with heap:=w.heap.setIfInBounds b o}
theorem mz {w:World} {b:Nat} {o:Obj} (h:b<w.heap.size):(kN w b o).heap[b]? =some o:=by simp[kN,h]
theorem tO {w:World} {b k:Nat} {o:Obj} (h:k≠b):(kN w b o).heap[k]? =w.heap[k]? :=by simp[kN,Array.getElem?_setIfInBounds_ne (Ne.symm h)]
theorem vU {w:World} {b:Nat} {o:Obj}:(kN w b o).heap.size=w.heap.size:=by simp[kN]
theorem uF {w:World} {b o:Nat} {v:Value} {cs:List Value} {T:TypeId} {fr:Nat×Nat} (h:w.heap[b]? =some (.cells cs.toArray T fr)):w.setCell ⟨b,o,none⟩ v=kN w b (.cells (cs.set o v).toArray T fr):=by
 unfold World.setCell kN
 congr 1
 apply Array.ext_getElem?
 intro i
 rw[Array.getElem?_modify]
 by_cases e:b=i
 ·subst e
  obtain⟨gQ,e⟩:=Array.getElem?_eq_some_iff.1 h
  simp[gQ,e]
 ·simp[e,Array.getElem?_setIfInBounds_ne e]
theorem Bc {w:World} {b:Nat} {o o':Obj}:kN (kN w b o) b o'=kN w b o':=by
 unfold kN;simp
theorem Gl {P:Program} {w:World} {b o:Nat} {v:Value} {cs:List Value} {T:TypeId} (h:w.heap[b]? =some (.cells cs.toArray T (0,0))) (ho:o<cs.length) (hv:fS v=true):
  (store ⟨b,o,none⟩ v).run P w=.ok () (kN w b (.cells (cs.set o v).toArray T (0,0))):=by
 have hc:w.cell? ⟨b,o,none⟩=some cs[o]:=by unfold World.cell?;simp[h,ho]
 have hf:w.frozen? ⟨b,o,none⟩=false:=by unfold World.frozen?;simp[h]
 have hv':v.oneCell'=true:=by cases v<;>simp_all[fS,Value.oneCell']
 rw[run_store P w _ _ _ hv',hc]
 simp[hf,uF h]
theorem lV {P:Program} {b o:Nat} {T:TypeId}: ∀(vs:List Value) (cs:List Value) (i:Nat) (w:World),w.heap[b]? =some (.cells cs.toArray T (0,0))→o+i+vs.length≤cs.length→(vs.all fS)=true→
  (storeCells ⟨b,o,none⟩ vs i).run P w=.ok () (kN w b (.cells (fC cs (o+i) vs).toArray T (0,0)))
 | [],cs,i,w,h,_,_=>by
  have:kN w b (.cells cs.toArray T (0,0))=w:=by
   unfold kN
   have:w.heap.setIfInBounds b (.cells cs.toArray T (0,0))=w.heap:=by
    apply Array.ext_getElem?
    intro k
    by_cases e:b=k
    ·subst e
     obtain⟨gQ,e⟩:=Array.getElem?_eq_some_iff.1 h
     simp[gQ,e]
    ·rw[Array.getElem?_setIfInBounds_ne e]
   rw[this]
  simp[storeCells,fC,this]
 |v::vs,cs,i,w,h,hl,hv=>by
  simp only[bQ,List.all_cons,ar]at hl hv
  have e:(Addr.add ⟨b,o,none⟩ i)=⟨b,o+i,none⟩:=by
   unfold Addr.add;split<;>rename_i h<;>first|(subst h;rfl)|rfl
  have h1:=Gl (P:=P) h (o:=o+i) (v:=v) (by omega) hv.1
  have gQ:=(Array.getElem?_eq_some_iff.1 h).1
  have h2:=lV (P:=P) (b:=b) (o:=o) (T:=T) vs (cs.set (o+i) v) (i+1) (kN w b (.cells (cs.set (o+i) v).toArray T (0,0))) (mz gQ) (by simp;omega) hv.2
  simp only[storeCells,e,Sem.run_bind,h1,Result.andThen_ok,h2,Bc,fC]
  rfl
section
variable {P:Program} {r:Option Nat} {base:World} {n:Nat} {ρ:Env} {O:List Item} {K:Env→List Item→Prop} {d:Nat} {t:TypeId} {p:String} {af:Array Edge} {g:Option (Nat×Bool)}
theorem n5 {M:List Item} {j:Nat} {it:Item} (h:O[j]? =some it):(O++M)[j]? =some it:=by
 rw[bG (List.getElem?_eq_some_iff.1 h).1];exact h
theorem qh {M:List Item} {j:Nat} {it:Item} (h:O[j]? =some it) (x:Item):(O++M).set j x=O.set j x++M:=
 List.set_append_left _ _ (List.getElem?_eq_some_iff.1 h).1
theorem jm {op:Op} (hn:Nat.blt d n=true)
  (h: ∀w M,Inv base (O++M) w→ ∃v w' O',(execOp (ev ρ) ⟨some d,op,t,p,af,g⟩).run P w=.ok (.value v) w'∧Inv base (O'++M) w'∧K (kz ρ d v) O'):LT P r base n ⟨some d,op,t,p,af,g⟩ ρ O K:=by
 intro a w M ds ha hi next Qx fN
 obtain⟨v,w',O',hr,hI,hK⟩:=h w M hi
 rw[←ha.eval]at hr
 refine mL (yA hr (by simp)) ?_
 rw[hr]
 exact fN _ _ _ _ (ha.put hn v) hI hK
theorem nB {op:Op}
  (h: ∀w M,Inv base (O++M) w→ ∃w' O',(execOp (ev ρ) ⟨none,op,t,p,af,g⟩).run P w=.ok .skip w'∧Inv base (O'++M) w'∧K ρ O'):LT P r base n ⟨none,op,t,p,af,g⟩ ρ O K:=by
 intro a w M ds ha hi next Qx fN
 obtain⟨w',O',hr,hI,hK⟩:=h w M hi
 rw[←ha.eval]at hr
 refine mL (yA hr (by simp)) ?_
 rw[hr]
 exact fN _ _ _ _ ha hI hK
theorem Sub.tP {O' M:List Item} (h:Sub O' O):Sub (O'++M) (O++M):=by
 obtain⟨l,hp,hs⟩:=h
 exact⟨l++M,hp.append_right M,hs.append (aP M)⟩
theorem Inv.fJ {w:World} (h:Inv base O w) (E:TypeId) (k:Nat):Inv base (az none 0 E k []::O) w:=
 Inv.new (N:=[az none 0 E k []]) h rfl rfl rfl (aI _) (fun _ _=>rfl) (by simp[az,rowP]) (by simp[az]) (by simp[az])
theorem T.fJ {c:Code} {Q:kv} (E:TypeId) (k:Nat) (h:T P r base n c Q ρ (az none 0 E k []::O)):T P r base n c Q ρ O:=
 fun a w M D hM ha hi=>h a w M D hM ha (hi.fJ E k)
theorem dq {c:Code} {Q:kv} {O':List Item} (hs:Sub O' O) (h:T P r base n c Q ρ O'):T P r base n c Q ρ O:=
 fun a w M D hM ha hi=>h a w M D hM ha (hi.lz hs.tP)
theorem b_ {E:TypeId} {z:Value} {s h_:Nat} {cs:List Value} (hi:gj P E z s h_) (h: ∀b,K (kz ρ d (.pointer (some ⟨b,0,none⟩))) (eu b (.cells cs.toArray E (0,0))::O)) (hz:z.cells=cs.toArray:=by exact rfl) (hn:Nat.blt d n=true:=by rfl):LT P r base n ⟨some d,.alloc E,t,p,af,g⟩ ρ O K:=
 jm hn fun w M hI=>⟨_,_,_,by simp[execOp,Instr.alloc,io hi,newVar,newRow,hz],hI.alloc _,h _⟩
theorem ef (cs:List Value) {E:TypeId} {x:Operand} {v:Value} (h: ∀b,K (kz ρ d (.pointer (some ⟨b,0,none⟩))) (eu b (.cells cs.toArray E (0,0))::O)) (hx:ev ρ x=v:=by exact rfl) (hv:v.cells=cs.toArray:=by exact rfl) (hn:Nat.blt d n=true:=by rfl):LT P r base n ⟨some d,.box E x,t,p,af,g⟩ ρ O K:=
 jm hn fun w M hI=>⟨_,_,_,by simp[execOp,Instr.box,newVar,newRow,hx,hv],hI.alloc _,h _⟩
theorem Inv.Vb {w:World} (hI:Inv base O w) {i:Nat} {b:Nat} {o:Obj} (hO:O[i]? =some (eu b o)) (o':Obj):Inv base (O.set i (eu b o')) (kN w b o'):=by
 have hb:=hI.wU hO
 have gQ:=(Array.getElem?_eq_some_iff.1 hb).1
 refine hI.tK hO rfl rfl rfl (by rw[vU];exact aI _) (fun k _ hk=>tO (fun e=>hk (by simp[eu,e]))) (mz gQ) (fun k hk=>.inl hk) (by simp[eu])
theorem Inv.setRow {w:World} (hI:Inv base O w) {i b o c:Nat} {T:TypeId} {k:Nat} {cs B5:List Value} {full:Array Value} (hO:O[i]? =some (az (some ⟨b,o,none⟩) c T k cs)) (hl:B5.length≤c*k)
  (hf:o+c*k≤full.size) (hc: ∀j (h:j<B5.length),full[o+j]? =some B5[j]):Inv base (O.set i (az (some ⟨b,o,none⟩) c T k B5)) (kN w b (.cells full T (0,0))):=by
 obtain⟨_,agD,hb,_,_⟩:=hI.row hO
 have gQ:=(Array.getElem?_eq_some_iff.1 hb).1
 refine hI.tK hO rfl rfl rfl (by rw[vU];exact aI _) (fun k _ hk=>tO (fun e=>hk (by simp[az,e]))) ⟨rfl,full,mz gQ,hl,hf,hc⟩ (fun k hk=>.inl hk) (by simp[az])
theorem uG {T:TypeId} {z:Value} {s h_ b o:Nat} {v:Value} {vs cs:List Value} {E:TypeId} {w:World} (hi:gj P T z s h_) (hv:v.cells=vs.toArray) (hl:vs.length=s) (ho:(vs.all fS)=true)
  (h:w.heap[b]? =some (.cells cs.toArray E (0,0))) (hr:o+vs.length≤cs.length):(storeVar T ⟨b,o,none⟩ v).run P w=.ok () (kN w b (.cells (fC cs o vs).toArray E (0,0))):=by
 have:=lV (P:=P) (b:=b) (o:=o) (T:=E) vs cs 0 w h (by omega) ho
 unfold storeVar
 simp[cr hi,hv,hl]
 exact this
theorem xA (i:Nat) {T E:TypeId} {x y:Operand} {b o:Nat} {v:Value} {vs cs:List Value} {z:Value} {s h_:Nat} (hi:gj P T z s h_) (hx:ev ρ x=.pointer (some ⟨b,o,none⟩)) (hy:ev ρ y=v) (hv:v.cells=vs.toArray) (hl:vs.length=s) (ho:(vs.all fS)=true)
  (hO:O[i]? =some (eu b (.cells cs.toArray E (0,0)))) (hr:o+vs.length≤cs.length)
  (h:K ρ (O.set i (eu b (.cells (fC cs o vs).toArray E (0,0))))):LT P r base n ⟨none,.store T x y,t,p,af,g⟩ ρ O K:=
 nB fun w M hI=>⟨kN w b (.cells (fC cs o vs).toArray E (0,0)),_,by
  simp only[execOp,hx,hy,Instr.storeAt,Instr.sureAddr]
  simp[uG hi hv hl ho (hI.wU (n5 hO)) hr],by have:=hI.Vb (n5 hO) (.cells (fC cs o vs).toArray E (0,0));rwa[qh hO]at this,h⟩
theorem Dt (i:Nat) {T E:TypeId} {x y:Operand} {b o j c k:Nat} {v:Value} {vs cs:List Value} {z:Value} {s h_:Nat} (hi:gj P T z s h_) (hx:ev ρ x=.pointer (some ⟨b,o+j,none⟩)) (hy:ev ρ y=v) (hv:v.cells=vs.toArray) (hl:vs.length=s) (ho:(vs.all fS)=true)
  (hO:O[i]? =some (az (some ⟨b,o,none⟩) c E k cs)) (hr:j+vs.length≤cs.length)
  (h:K ρ (O.set i (az (some ⟨b,o,none⟩) c E k (fC cs j vs)))):LT P r base n ⟨none,.store T x y,t,p,af,g⟩ ρ O K:=
 nB fun w M hI=>by
  obtain⟨_,full,hb,h1,h2,h3⟩:=hI.row (n5 hO)
  simp only at hb h2 h3
  obtain⟨fl,rfl⟩: ∃fl:List Value,full=fl.toArray:=⟨full.toList,by simp⟩
  simp only[List.size_toArray]at h2
  refine⟨kN w b (.cells (fC fl (o+j) vs).toArray E (0,0)),_,?_,qh hO (az (some ⟨b,o,none⟩) c E k (fC cs j vs))▸hI.setRow (n5 hO) (B5:=fC cs j vs) (by rw[jl];exact h1) (by simp[jl];exact h2) ?_,h⟩
  ·have U2:o+j+vs.length≤fl.length:=by omega
   simp only[execOp,hx,hy,Instr.storeAt,Instr.sureAddr]
   simp[uG hi hv hl ho hb U2]
  ·intro m hm
   rw[jl]at hm
   have e1:(fC fl (o+j) vs).toArray[o+m]? =(fC fl (o+j) vs)[o+m]? :=by simp
   have e2:(fC cs j vs)[m]? =some ((fC cs j vs)[m]'(by rw[jl];exact hm)):=ak _
   rw[e1,←e2,nZ vs fl (o+j) (o+m) (by omega),nZ vs cs j m (by omega)]
   by_cases Gm:j≤m∧m<j+vs.length
   ·rw[aB Gm,aB (by omega)]
    congr 1;omega
   ·rw[aq Gm,aq (by omega)]
    have:=h3 m hm
    simpa[ak hm]using this
theorem tQ {α:Type} (f:Nat→α):(Array.range 0).map f= #[]:=by simp
theorem sB (z:Value) (m:Nat):((Array.range m).map fun i=>(#[z]:Array Value)[i%(#[z]:Array Value).size]!)=(List.replicate m z).toArray:=by
 apply Array.ext_getElem?
 intro i
 rw[Array.getElem?_map,Array.getElem?_range]
 by_cases h:i<m
 ·simp[h,Nat.mod_one]
 ·simp[h]
theorem fg (m:Nat) {T E:TypeId} {x:Operand} {k:IntKind} {z:Value} {h_:Nat} (hu:P.underlying T=some (.slice E)) (hi:gj P E z 1 h_) (hz:z.cells= #[z]) (hx:ev ρ x=.int k (m:Int)) (hm:m*h_≤140737488355328) (hm':m≤9223372036854775807)
  (h: ∀b,K (kz ρ d (.slice (some ⟨b,0,none⟩) m m)) (az (some ⟨b,0,none⟩) m E 1 (List.replicate m z)::O)) (hn:Nat.blt d n=true:=by rfl):LT P r base n ⟨some d,.makeSlice T x x,t,p,af,g⟩ ρ O K:=
 jm hn fun w M hI=>by
  obtain⟨i,hi1,JR,hi3,hi4⟩:=hi.get
  have hw:IntKind.i64.wrap (m:Int)=(m:Int):=gX (by omega)
  have U6: ¬((h_:Int)*(m:Int)>2^48):=by
   have h1:((m*h_:Nat):Int)≤140737488355328:=Int.ofNat_le.2 hm
   rw[Nat.mul_comm,Int.natCast_mul]at h1
   have h2:(2:Int)^48=281474976710656:=by rfl
   rw[h2];omega
  have Y7:decide ((h_:Int)*(m:Int)>2^48)=false:=a8 U6
  refine⟨.slice (some ⟨w.heap.size,0,none⟩) m m,w.alloc (.cells (List.replicate m z).toArray E),_,?_,Inv.new (O:=O++M) (w':=w.alloc (.cells (List.replicate m z).toArray E)) (N:=[az (some ⟨w.heap.size,0,none⟩) m E 1 (List.replicate m z)]) hI rfl rfl rfl (by simp) (fun b hb=>Below.heap_alloc w _ b hb) ?_ ?_ ?_,h _⟩
  ·have adw:decide ((m:Int)<0)=false:=by simp
   simp only[execOp,hx,Instr.makeSlice,Sem.run_bind,bL hu,Result.andThen_ok,asInt,asIntOf,Sem.run_pure,mP hi1,hi4,hw,Y7,adw,Bool.or_false,Bool.or_self,Int.lt_irrefl,gt_iff_lt,decide_false,Bool.false_eq_true,if_false,run_askRoom,cr hi,Nat.mul_one,Int.toNat_natCast]
   by_cases h0:m=0
   ·subst h0
    simp[newRow,tQ]
   ·simp[h0,hz,newRow,io hi]
    have:=sB z m
    simp at this
    rw[this]
  ·intro x hx
   simp at hx;subst hx
   refine⟨rfl,(List.replicate m z).toArray,?_,by simp,by simp,fun j hj=>by simp at hj;simp[hj]⟩
   show(w.heap.push _)[w.heap.size]? =_
   simp
  ·intro x hx b hb
   simp at hx;subst hx
   simp[az]at hb;subst hb
   simp
  ·simp[az]
theorem cP {T E:TypeId} {m:Nat} {parts:List (Nat×Operand)} {z:Value} {s h_:Nat} {cs:List Value} (hu:P.underlying T=some (.slice E)) (hi:gj P E z s h_) (FV:m*s≤16777216)
  (hf:Instr.fill (fun i=>some (i*s,s)) ((Array.range (m*s)).map (z.cells[· %z.cells.size]!)) (parts.map fun q=>(q.1,ev ρ q.2))=some cs.toArray) (hl:cs.length=m*s)
  (h: ∀b,K (kz ρ d (.slice (some ⟨b,0,none⟩) m m)) (az (some ⟨b,0,none⟩) m E s cs::O)) (hn:Nat.blt d n=true:=by rfl):LT P r base n ⟨some d,.buildSlice T m parts.toArray,t,p,af,g⟩ ρ O K:=
 jm hn fun w M hI=>by
  refine⟨.slice (some ⟨w.heap.size,0,none⟩) m m,w.alloc (.cells cs.toArray E),_,?_,Inv.new (O:=O++M) (w':=w.alloc (.cells cs.toArray E)) (N:=[az (some ⟨w.heap.size,0,none⟩) m E s cs]) hI rfl rfl rfl (by simp) (fun b hb=>Below.heap_alloc w _ b hb) ?_ ?_ ?_,h _⟩
  ·have FU: ¬(m*s>2^24):=by omega
   by_cases h0:m*s=0
   ·have hf':Instr.fill (fun i=>some (i*s,s)) #[] (parts.map fun q=>(q.1,ev ρ q.2))=some cs.toArray:=by rw[h0,tQ]at hf;exact hf
    simp only[execOp,Instr.buildSlice,Sem.run_bind,bL hu,cr hi,Result.andThen_ok,h0,gt_iff_lt,if_true,Sem.run_pure,tQ]
    have gQ: ¬(2^24<0):=by omega
    simp[hf',newRow]
   ·simp[execOp,Instr.buildSlice,bL hu,cr hi,FU,h0,io hi,hf,newRow]
  ·intro x hx
   simp at hx;subst hx
   refine⟨rfl,cs.toArray,?_,by rw[hl];exact aI _,by simp[hl],fun j hj=>by simp[hj]⟩
   show(w.heap.push _)[w.heap.size]? =_
   simp
  ·intro x hx b hb
   simp at hx;subst hx
   simp[az]at hb;subst hb
   simp
  ·simp[az]
theorem JV (z:Array Value) (m:Nat):(Builtin.zeroCells z m).size=m*z.size:=by simp[Builtin.zeroCells]
theorem Bd (tR:Nat): ∀(r c:Nat),c≤2*tR→Builtin.growBy tR r c≤2*tR+192
 |0,c,h=>by simp[Builtin.growBy];omega
 |r+1,c,h=>by
  simp only[Builtin.growBy]
  split
  ·omega
  ·by_cases h2:c+(c+768)/4≤2*tR
   ·exact Bd tR r _ h2
   ·have: ∀r,Builtin.growBy tR r (c+(c+768)/4)=c+(c+768)/4:=by
     intro r
     cases r with
     |zero=>rfl
     |succ r=>simp only[Builtin.growBy];rw[aB (by omega)]
    rw[this];omega
theorem Gn {tR cap:Nat} (h:cap<tR):Builtin.nextslicecap tR cap≤2*tR+192:=by
 unfold Builtin.nextslicecap
 split
 ·omega
 ·split
  ·omega
  ·exact Bd tR 4 cap (by omega)
theorem jG {P:Program} {w:World} {b:Option Addr} {m c s:Nat} {cs:List Value} (h:Sl w b cs) (hl:cs.length=m*s) (hb:b=none→cs=[]):
  (Builtin.firstCells s m (.slice b m c)).run P w=.ok cs.toArray w:=by
 cases b with
 |none=>rw[hb rfl];rfl
 |some a=>
  obtain⟨k,o,sp⟩:=a
  simp only[Builtin.firstCells,←hl,loadCells]
  by_cases h0:cs.length=0
  ·have:cs=[]:=List.length_eq_zero_iff.1 h0
   subst this;rfl
  ·obtain⟨a',e1,e2,_⟩:=h 0 (by omega)
   cases e1
   simp only at e2;subst e2
   have:=mQ (P:=P) (w:=w) (a:=⟨k,o,none⟩) cs 0 #[] (fun j hj=>by
    have:=h.get (ak hj)
    simp only[Nat.zero_add,Addr.add]
    split<;>rename_i e
    ·subst e;simpa using this
    ·exact this)
   simpa using this
def Src (P:Program) (base:World) (O:List Item) (s m:Nat) (x:Value) (cs:List Value):Prop:=
 cs.length=m*s∧(∀w,(Builtin.lenOf x).run P w=.ok m w)∧ ∀w,Inv base O w→(Builtin.firstCells s m x).run P w=.ok cs.toArray w
theorem Src.tP {b:World} {M:List Item} {s m:Nat} {x:Value} {cs:List Value} (h:Src P b O s m x cs):Src P b (O++M) s m x cs:=⟨h.1,h.2.1,fun w hI=>h.2.2 w hI.left⟩
theorem Src.row {j:Nat} {b:Option Addr} {c k m:Nat} {E:TypeId} {cs:List Value} (hO:O[j]? =some (az b c E k cs)) (hl:cs.length=m*k) (c':Nat:=c):Src P base O k m (.slice b m c') cs:=
 ⟨hl,fun w=>by simp[Builtin.lenOf],fun w hI=>jG (hI.row hO).sl hl (fun e=>by subst e;exact(hI.row hO).1)⟩
theorem Src.sl {b:Option Addr} {c k m:Nat} {cs:List Value} (h:Sl base b cs) (hl:cs.length=m*k):Src P base O k m (.slice b m c) cs:=
 ⟨hl,fun w=>by simp[Builtin.lenOf],fun w hI=>jG (hI.sl h) hl (fun e=>by
  cases cs with
  |nil=>rfl
  |cons v cs=>obtain⟨a,h1,_⟩:=h 0 (by simp);rw[e]at h1;cases h1)⟩
theorem sC {b o i:Nat}:(Addr.add ⟨b,o,none⟩ i)=⟨b,o+i,none⟩:=by
 unfold Addr.add;split<;>rename_i h<;>first|(subst h;rfl)|rfl
theorem QX (tR old t:Nat) (e:TypeId):tR≤(Question.appendCap tR old e).cut t:=Nat.le_add_right _ _
theorem qi {T U E:TypeId} {xd:TypeDesc} {b:Option Addr} {m c l s h_:Nat} {x z:Value} {cs new:List Value} {j:Nat} {ty:TypeId}
  (hu:P.underlying T=some (.slice E)) (Mj:P.underlying U=some xd) (QU:(∃XE,xd=.slice XE)∨xd=.string) (hi:gj P E z s h_) (hz:z.cells.size=s)
  (hO:O[j]? =some (az b c E s cs)) (hl:cs.length=m*s) (_hs:0<s)
  (hx:Src P base O s l x new) (uH:(new.all fS)=true) (qX:(m+l)*h_≤70368744177664) (Qg:h_≤1000000) (Du:0<h_) {w:World} (hI:Inv base O w):
  ∃b' c' w',(Builtin.append_ #[T,U] ty #[.slice b m c,x]).run P w=.ok (.slice b' (m+l) c') w'∧Inv base (O.set j (az b' c' E s (cs++new))) w':=by
 obtain⟨Qh,iH,Ml⟩:=hx
 obtain⟨i,hi1,JR,hi3,hi4⟩:=hi.get
 have rn:=hI.row hO
 have Lt:=Ml w hI
 have oF:(Builtin.firstCells s m (.slice b m c)).run P w=.ok cs.toArray w:=jG rn.sl hl (fun e=>by subst e;exact rn.1)
 by_cases Vc:m+l≤c
 ·-- there is room
  cases b with
  |none=>
   obtain⟨rfl,rfl⟩:=rn
   have hm0:m=0:=by omega
   have xS:l=0:=by omega
   subst hm0;subst xS
   have Mm:new=[]:=List.length_eq_zero_iff.1 (by omega)
   subst Mm
   refine⟨none,0,w,?_,?_⟩
   ·rcases QU with⟨XE,rfl⟩|rfl<;>simp[Builtin.append_,bL hu,bL Mj,cr hi,iH,Lt]
   ·simp only[dp]
    obtain⟨A,B,e,Mf⟩:=Dr hO
    rw[Mf,←e]
    exact hI
  |some a=>
   obtain⟨k,o,sp⟩:=a
   obtain⟨Aw,full,hb,h1,h2,h3⟩:=rn
   simp only at Aw hb h1 h2 h3
   subst Aw
   obtain⟨fl,rfl⟩: ∃fl:List Value,full=fl.toArray:=⟨full.toList,by simp⟩
   simp only[List.size_toArray]at h2
   have hmul:m*s+l*s≤c*s:=by rw[←Nat.add_mul];exact Nat.mul_le_mul_right s Vc
   have hr:o+m*s+0+new.length≤fl.length:=by omega
   have Az:=lV (P:=P) (b:=k) (o:=o+m*s) (T:=E) new fl 0 w hb hr uH
   refine⟨some ⟨k,o,none⟩,c,_,?_,hI.setRow hO (B5:=cs++new) (full:=(fC fl (o+m*s+0) new).toArray) (by simp;omega) (by simp[jl];exact h2) ?_⟩
   ·rcases QU with⟨XE,rfl⟩|rfl<;>simp[Builtin.append_,bL hu,bL Mj,cr hi,iH,Lt,Vc,sC]
    all_goals (simp at Az;rw[Az];rfl)
   ·intro q hq
    simp only[aJ]at hq
    have e1:(fC fl (o+m*s+0) new).toArray[o+q]? =(fC fl (o+m*s) new)[o+q]? :=by simp
    have e2:some ((cs++new)[q]'(by simp;omega))=(cs++new)[q]? :=(ak _).symm
    rw[e1,e2,nZ new fl (o+m*s) (o+q) (by omega)]
    by_cases Gm:m*s≤q
    ·rw[aB (by omega),bZ (by omega)]
     congr 1;omega
    ·rw[aq (by omega),bG (by omega)]
     have:=h3 q (by omega)
     simpa[ak (show q<cs.length by omega)]using this
 ·-- a new array
  obtain⟨cap,QY⟩: ∃cap,(Question.appendCap (m+l) c E).cut (w.tape w.drawn (Question.appendCap (m+l) c E))=cap:=⟨_,rfl⟩
  have HR:m+l≤cap:=QY▸QX (m+l) c _ E
  have QZ:(Question.appendCap (m+l) c E).forced=false:=rfl
  have oM:Inv base O w.drew:=hI.drew
  have ady:=Ml _ oM
  have Tq:=oM.row hO
  have adz:(Builtin.firstCells s m (.slice b m c)).run P w.drew=.ok cs.toArray w.drew:=jG Tq.sl hl (fun e=>by subst e;exact Tq.1)
  have fN: ¬(Builtin.nextslicecap (m+l) c*h_>2^48):=by
   have h1:=Gn (tR:=m+l) (cap:=c) (by omega)
   have h2:Builtin.nextslicecap (m+l) c*h_≤(2*(m+l)+192)*h_:=Nat.mul_le_mul_right _ h1
   have h3:(2*(m+l)+192)*h_=2*((m+l)*h_)+192*h_:=by rw[Nat.add_mul,Nat.mul_assoc]
   omega
  obtain⟨w',JW⟩: ∃w':World,w'=w.drew.alloc (.cells (cs.toArray++new.toArray++Builtin.zeroCells z.cells (cap-(m+l))) E):=⟨_,rfl⟩
  refine⟨some ⟨w.heap.size,0,none⟩,cap,w',?_,?_⟩
  ·have Y8: ¬(9223372036854775807<((m:Int)+(l:Int))∧h_=0):=by rintro⟨_,h⟩;omega
   have Vd: ¬(281474976710656<Builtin.nextslicecap (m+l) c*h_):=by simpa using fN
   rcases QU with⟨XE,rfl⟩|rfl<;>simp[Builtin.append_,bL hu,bL Mj,cr hi,iH,Vc,mP hi1,hi4,Y8,Vd,QZ,QY,adz,ady,io hi,newRow,JW]
   all_goals (have e:(cs++new).toArray=cs.toArray++new.toArray:=by simp)
   all_goals rw[e,Array.append_assoc]
  ·subst JW
   refine hI.tK hO rfl rfl rfl (by simp) (fun q hq _=>?_) ⟨rfl,cs.toArray++new.toArray++Builtin.zeroCells z.cells (cap-(m+l)),?_,?_,?_,?_⟩ ?_ (by simp[az])
   ·show(w.heap.push _)[q]? =_
    rw[Array.getElem?_push,aq (by omega)]
   ·show(w.heap.push _)[w.heap.size]? =_
    simp
   ·simp only[aJ,hl,Qh,←Nat.add_mul];exact Nat.mul_le_mul_right s HR
   ·simp only[Array.size_append,List.size_toArray,JV,hz,hl,Qh,←Nat.add_mul,Nat.zero_add]
    exact Nat.mul_le_mul_right s (by omega)
   ·intro q hq
    simp only[Nat.zero_add]
    rw[Array.getElem?_append_left (by simp at hq⊢;exact hq)]
    simp
   ·intro q hq
    simp[az]at hq
    subst hq
    exact .inr ⟨aI _,by simp⟩
theorem dE {T U E XE:TypeId} {b:Option Addr} {m c l s h_:Nat} {x y:Operand} {xv z:Value} {cs new:List Value} (j:Nat)
  (hu:P.underlying T=some (.slice E)) (Mj:P.underlying U=some (.slice XE)) (hi:gj P E z s h_) (hz:z.cells.size=s)
  (hx:ev ρ x=.slice b m c) (hy:ev ρ y=xv) (hO:O[j]? =some (az b c E s cs)) (hl:cs.length=m*s) (hs:0<s)
  (Gp:Src P base O s l xv new) (uH:(new.all fS)=true) (qX:(m+l)*h_≤70368744177664) (Qg:h_≤1000000) (Du:0<h_)
  (h: ∀b' c',K (kz ρ d (.slice b' (m+l) c')) (O.set j (az b' c' E s (cs++new)))) (hn:Nat.blt d n=true:=by rfl):
  LT P r base n ⟨some d,.call ⟨.builtin .append,#[x,y],#[T,U]⟩,t,p,af,g⟩ ρ O K:=
 jm hn fun w M hI=>by
  obtain⟨b',c',w',hr,oM⟩:=qi (ty:=t) hu Mj (.inl ⟨_,rfl⟩) hi hz (n5 hO) hl hs Gp.tP uH qX Qg Du hI
  rw[qh hO]at oM
  refine⟨_,w',_,?_,oM,h b' c'⟩
  simp[execOp,resolve,hx,hy,invoke,builtin,hr]
def Enters (P:Program) (f:FuncId) (fn:Func):Prop:=P.funcs[f]? =some fn∧(fn.name== "runtime.NumGoroutine")=false∧fn.body.isSome=true
def cx (P:Program) (base:World) (f:FuncId) (args:List Value) (O:List Item) (R:Value→List Item→Prop):Prop:=
 ∀w M,Inv base (O++M) w→Calls P f args.toArray w fun e w'=> ∃v O',e=.returned v∧Inv base (O'++M) w'∧R v O'
theorem cx.mono {f:FuncId} {args:List Value} {R R':Value→List Item→Prop} (h:cx P base f args O R) (hr: ∀v O',R v O'→R' v O'):cx P base f args O R':=
 fun w M hI=>(h w M hI).mono fun _ _ ⟨v,O',h1,h2,h3⟩=>⟨v,O',h1,h2,hr v O' h3⟩
def cB (P:Program) (f:FuncId) (args:List Value) (w:World) (R:Value→List Item→Prop):Prop:=cx P w f args [] R
theorem aO {f:FuncId} {args:List Value} {R:Value→List Item→Prop} (h: ∀w,Inv base O w→cB P f args w R):cx P base f args O (fun v O'=> ∃N,O'=N++O∧R v N):=
 fun w M hI=>(h w hI.left w [] (Inv.refl w)).mono fun _ _ ⟨v,N,h1,h2,h3⟩=>⟨v,N++O,h1,by
  have:=hI.call h2
  simpa[aV]using this,N,rfl,h3⟩
theorem cx.under {f:FuncId} {args:List Value} {A B:List Item} {R:Value→List Item→Prop} (h:cx P base f args A R) (hs:Sub (A++B) O):cx P base f args O (fun v O'=> ∃A',O'=A'++B∧R v A'):=
 fun w M hI=>(h w (B++M) (by have:=hI.lz hs.tP;rwa[aV]at this)).mono fun _ _ ⟨v,A',h1,h2,h3⟩=>⟨v,A'++B,h1,by rwa[aV],A',rfl,h3⟩
def HS (P:Program) (base:World) (M:List Item) (R:Value→List Item→Prop):Result Next→Prop
 | .ok (.enter f args) w=>Calls P f args w fun e w'=> ∃v O',e=.returned v∧Inv base (O'++M) w'∧R v O'
 | .ok (.round l f tmps assign body) w=>RoundIn Fence.wide 0 P l f tmps assign body w fun e w'=> ∃v O',e=.returned v∧Inv base (O'++M) w'∧R v O'
 |_=>False
def lW (fv:Value) (args:Array Value):Sem Next:=do
 let d←Deferred.ofValue fv args
 invoke d.target d.args
def fh (P:Program) (base:World) (fv:Value) (args:List Value) (O:List Item) (R:Value→List Item→Prop):Prop:=
 ∀w M,Inv base (O++M) w→HS P base M R ((lW fv args.toArray).run P w)
theorem HS.mono {M:List Item} {R R':Value→List Item→Prop} {x:Result Next} (h:HS P base M R x) (hr: ∀v O',R v O'→R' v O'):HS P base M R' x:=by
 cases x with
 |halt e w=>exact h
 |ok y w=>
  cases y<;>first
   |exact h
   |exact Calls.mono h fun _ _ ⟨v,O',h1,h2,h3⟩=>⟨v,O',h1,h2,hr v O' h3⟩
   |exact RoundIn.mono h fun _ _ ⟨v,O',h1,h2,h3⟩=>⟨v,O',h1,h2,hr v O' h3⟩
theorem fh.mono {fv:Value} {args:List Value} {R R':Value→List Item→Prop} (h:fh P base fv args O R) (hr: ∀v O',R v O'→R' v O'):fh P base fv args O R':=
 fun w M hI=>(h w M hI).mono hr
theorem fh.under {fv:Value} {args:List Value} {A B:List Item} {R:Value→List Item→Prop} (h:fh P base fv args A R) (hs:Sub (A++B) O):fh P base fv args O (fun v O'=> ∃A',O'=A'++B∧R v A'):=fun w M hI=>by
 have h1:=h w (B++M) (by have:=hI.lz hs.tP;rwa[aV]at this)
 revert h1
 cases(lW fv args.toArray).run P w with
 |halt e w=>exact id
 |ok y w=>
  cases y<;>first
   |exact id
   |exact fun h=>Calls.mono h fun _ _ ⟨v,A',h1,h2,h3⟩=>⟨v,A'++B,h1,by rwa[aV],A',rfl,h3⟩
   |exact fun h=>RoundIn.mono h fun _ _ ⟨v,A',h1,h2,h3⟩=>⟨v,A'++B,h1,by rwa[aV],A',rfl,h3⟩
theorem cZ {f:FuncId} {fn:Func} {first args gU:List Value} {R:Value→List Item→Prop} (he:Enters P f fn) (h:cx P base f (first++args++gU) O R):fh P base (.func (.func f) first.toArray gU.toArray) args O R:=fun w M hI=>by
 have uI: ¬fn.name= "runtime.NumGoroutine" :=by simpa using he.2.1
 obtain⟨bd,Q0⟩:=Option.isSome_iff_exists.1 he.2.2
 have hr:(lW (.func (.func f) first.toArray gU.toArray) args.toArray).run P w=.ok (.enter f (first++args++gU).toArray) w:=by
  have e:(first++args++gU).toArray=first.toArray++args.toArray++gU.toArray:=by simp
  rw[e]
  simp[lW,Deferred.ofValue,invoke,callFunc,he.1,uI,Q0]
 rw[hr]
 exact h w M hI
theorem tS {x:Operand} {args:List Operand} {yF:Array TypeId} {dst:Option Nat} {w:World}:(execOp (ev ρ) ⟨dst,.call ⟨.value x,args.toArray,yF⟩,t,p,af,g⟩).run P w=(lW (ev ρ x) (HQ ρ args).toArray).run P w:=by
 have HO:(args.toArray.map (ev ρ))=(HQ ρ args).toArray:=by simp[Me]
 simp only[execOp,resolve,lW,HO,Sem.run_bind]
theorem n6 {r:Option Nat} {f:FuncId} {args:Array Value} {w:World} {R:Ending→World→Prop} (h:Calls P f args w R):CallsIn (Fr r) (0-1) P f args w R:=callsIn_wide.2 h
theorem fT {x:Operand} {args:List Operand} {yF:Array TypeId} {fv:Value} {vs:List Value} {R:Value→List Item→Prop} (hc:fh P base fv vs O R) (hx:ev ρ x=fv) (ha:HQ ρ args=vs)
  (h: ∀v O',R v O'→K (kz ρ d v) O') (hn:Nat.blt d n=true:=by rfl):LT P r base n ⟨some d,.call ⟨.value x,args.toArray,yF⟩,t,p,af,g⟩ ρ O K:=by
 subst hx;subst ha
 intro a w M ds ha hi next Qx fN
 have h1:=hc w M hi
 rw[←tS (t:=t) (p:=p) (af:=af) (g:=g) (yF:=yF) (dst:=some d)]at h1
 rw[←ha.eval]at h1
 revert h1
 generalize hr:(execOp a.eval ⟨some d,.call ⟨.value x,args.toArray,yF⟩,t,p,af,g⟩).run P w=y
 intro h1
 refine mL (by intro c e;cases e) ?_
 rw[hr]
 cases y with
 |halt e w=>exact h1.elim
 |ok y w1=>
  cases y with
  |enter f agE=>
   rw[Oper.uponIn_enter]
   refine⟨fun e=>by simp[Fr,Fence.wide]at e,n6 (Calls.mono h1 ?_)⟩
   rintro e w' ⟨v,O',rfl,oM,hR⟩
   exact fN _ _ _ _ (ha.put hn v) oM (h v O' hR)
  |round l f tmps assign body=>
   rw[Oper.uponIn_round]
   refine⟨fun e=>by simp[Fr,Fence.wide]at e,RoundIn.mono h1 ?_⟩
   rintro e w' ⟨v,O',rfl,oM,hR⟩
   exact fN _ _ _ _ (ha.put hn v) oM (h v O' hR)
  |_=>exact h1.elim
theorem eh {f:FuncId} {fn:Func} {args:List Operand} {yF:Array TypeId} {vs:List Value} {R:Value→List Item→Prop} (he:Enters P f fn) (hc:cx P base f vs O R) (h: ∀v O',R v O'→K (kz ρ d v) O') (ha:HQ ρ args=vs:=by exact rfl) (hn:Nat.blt d n=true:=by rfl):LT P r base n ⟨some d,.call ⟨.value (.func f),args.toArray,yF⟩,t,p,af,g⟩ ρ O K:=
 fT (cZ (first:=[]) (gU:=[]) he (by simpa using hc)) rfl ha h hn
def entry (args:List Value):Env:=fun t=>args.getD t undef
structure qS (P:Program) (base:World) (fn:Func) (ρ:Env) (O:List Item) (R:Value→List Item→Prop):Prop where
 ex: ∃v O',Sub O' O∧R v O'∧ ∀w tmps,Inv base O w→(∀t,tmps.getD t undef=ρ t)→(results fn tmps).run P w=.ok v w
def Y9 (P:Program) (base:World) (fn:Func) (R:Value→List Item→Prop):kv
 | .normal,ρ,O=>qS P base fn ρ O R
 | .ret,ρ,O=>qS P base fn ρ O R
 |_,_,_=>False
theorem qj {fn:Func} {tmps:Array Value} {M O':List Item} {Rx:Ending→World→Prop} (h: ∀w,Inv base (O'++M) w→ ∃v,(results fn tmps).run P w=.ok v w∧Rx (.returned v) w):
  ∀(D:List Nat) (w:World),Inv base (O'++(mI D++M)) w→LeavesInM Fence.wide 0 P fn tmps Rx (mD D) .returning w
 | [],w,hI=>h w hI
 |b::D,w,hI=>by
  have oM:Inv base (O'++wS b::(mI D++M)) w:=hI
  have hb:w.heap[b]? =some (.deferred (some [])):=oM.holds (wS b) (by simp)
  have gQ:=(Array.getElem?_eq_some_iff.1 hb).1
  refine⟨by simp,.inl ⟨b,w.putObj b (.deferred none),rfl,run_takeDeferred hb,qj h D _ ?_⟩⟩
  have:=Inv.step (N:=[]) (w':=w.putObj b (.deferred none)) oM rfl rfl rfl (by simp) (fun k _ hk=>World.putObj_heap_other (fun e=>hk (by simp[wS,eu,e]))) (by simp) (by simp) (by simp)
  simpa using this
theorem aA {f:FuncId} {fn:Func} {c:Code} {args:List Value} {R:Value→List Item→Prop} (hf:P.funcs[f]? =some fn) (hb:fn.body=some c) (hn:fn.ntmps=n) (hl:Nat.ble args.length n=true)
  (h:T P none base n c (Y9 P base fn R) (entry args) O):cx P base f args O R:=by
 have hl:=Nat.le_of_ble_eq_true hl
 intro w M hI
 rw[←callsIn_wide (n:=0)]
 refine callsIn_of_wp_marks hf hb trivial (wpIn_mono (h _ w M [] trivial ⟨?_,?_,rfl⟩ hI) ?_)
 ·intro t
  show(args.toArray++Array.replicate (fn.ntmps-args.toArray.size) undef).getD t undef=args.getD t undef
  rw[dF,au]
  by_cases h:t<args.length
  ·rw[Array.getElem?_append_left (by simpa using h)];simp
  ·rw[Array.getElem?_append_right (by simpa using h)]
   have:args[t]? =none:=by simp;omega
   rw[this,Array.getElem?_replicate]
   split<;>rfl
 ·simp;omega
 ·have key: ∀(a':Act) (w':World) (iA:Env) (O':List Item) (D:List Nat),Ag n (mD D) a' iA→Inv base (O'++(mI D++M)) w'→qS P base fn iA O' R→
    LeavesInM Fence.wide 0 P fn a'.tmps (fun e QW=> ∃v O',e=.returned v∧Inv base (O'++M) QW∧R v O') a'.defers .returning w':=by
   intro a' w' iA O' D h1 h2 h3
   obtain⟨v,An,Ax,hR,hr⟩:=h3.ex
   rw[h1.defers]
   exact qj (fun w hI=>⟨v,hr w a'.tmps hI.left h1.tmp,v,An,rfl,hI.lz Ax.tP,hR⟩) D w' h2
  rintro e a' w' ⟨iA,O',D,h1,h2,h3⟩
  cases e with
  |normal=>exact key a' w' iA O' D h1 h2 h3
  |ret=>exact key a' w' iA O' D h1 h2 h3
  |_=>exact h3.elim
def lp (q:Loop) (j:Option Code):Obj:=.loop {q with state:=if j.isNone then .ready else .done,pending:=j}
structure Mn (q:Loop) (n:Nat) (ρ:Env) (ps:Array Nat) (assign body:Code):Prop where
 params:q.params=ps
 assign:q.assign=assign
 body:q.body=body
 tmp: ∀t,q.tmps.getD t undef=ρ t
 size:q.tmps.size=n
def Tr (Q:kv) (ρ:Env) (O:List Item):Option Code→Prop
 |none=>Q .normal ρ O
 |some .ret=>Q .ret ρ O
 |some (.exit id)=>Q (.exit id) ρ O
 |_=>False
theorem T.rangeFunc {gx:Operand} {ps:Array Nat} {assign body:Code} {Q:kv} {f:FuncId} {fn:Func} {first gU:List Value} (hg:ev ρ gx=.func (.func f) first.toArray gU.toArray) (he:Enters P f fn)
  (h: ∀(l:Nat) (q:Loop),Mn q n ρ ps assign body→cx P base f (first++[.func (.yield l) #[] #[]]++gU) (eu l (lp q none)::O) (fun _ O'=> ∃j An,O'=eu l (lp q j)::An∧Tr Q ρ An j)):
  T P r base n (.rangeFunc gx ps assign body) Q ρ O:=by
 have uI: ¬fn.name= "runtime.NumGoroutine" :=by simpa using he.2.1
 obtain⟨bd,Q0⟩:=Option.isSome_iff_exists.1 he.2.2
 intro a w M D hM ha hI
 refine wpIn_rangeFunc fun Dv _=>?_
 have hev:a.eval gx=.func (.func f) first.toArray gU.toArray:=by rw[ha.eval];exact hg
 have Ts: ∀(l:Nat) (w1:World),(resolve a.eval (rangeCall gx l) 0).run P w1=.ok ⟨.fn (.func f) gU.toArray,(first++[Value.func (.yield l) #[] #[]]).toArray⟩ w1:=fun l w1=>by
  have e:(first++[Value.func (.yield l) #[] #[]]).toArray=first.toArray++ #[.func (.yield l) #[] #[]]:=by simp
  rw[e]
  have hc:a.eval (.const (.func (.yield l) #[] #[]))=.func (.yield l) #[] #[]:=rfl
  simp[resolve,hev,hc,Deferred.ofValue]
 have hinv: ∀(l:Nat) (w1:World),(invoke (.fn (.func f) gU.toArray) (first++[Value.func (.yield l) #[] #[]]).toArray).run P w1=.ok (.enter f (first++[Value.func (.yield l) #[] #[]]++gU).toArray) w1:=fun l w1=>by
  have e:(first++[Value.func (.yield l) #[] #[]]++gU).toArray=(first++[Value.func (.yield l) #[] #[]]).toArray++gU.toArray:=by simp
  rw[e]
  simp[invoke,callFunc,he.1,uI,Q0]
 have post: ∀(l:Nat) (q:Loop) (mark:List Deferred) (D':List Nat),mark++mD D=mD D'→ ∀e w',(∃v O',e=Ending.returned v∧Inv base (O'++(mI D'++M)) w'∧ ∃j An,O'=eu l (lp q j)::An∧Tr Q ρ An j)→
   rangePost (Fr r) 0 P l (lift base n M Q) {a with defers:=mark++a.defers} e w':=by
  rintro l q mark D' Y_ e w' ⟨v,O',rfl,oM,j,An,rfl,hj⟩
  have hl:w'.heap[l]? =some (lp q j):=oM.holds (eu l (lp q j)) (by simp)
  have gQ:=(Array.getElem?_eq_some_iff.1 hl).1
  refine⟨j,_,run_endLoop (P:=P) hl (by simp;split<;>simp),?_⟩
  have qK:Inv base (An++(mI D'++M)) (w'.putObj l (.loop {({q with state:=if j.isNone then .ready else .done,pending:=j}:Loop)with state:=.exhausted})):=by
   have:=Inv.step (A:=[]) (N:=[]) (w':=w'.putObj l (.loop {({q with state:=if j.isNone then .ready else .done,pending:=j}:Loop)with state:=.exhausted})) (B:=An++(mI D'++M)) (it:=eu l (lp q j)) oM
    rfl rfl rfl (by simp) (fun k _ hk=>World.putObj_heap_other (fun e=>hk (by simp[eu,e]))) (by simp) (by simp) (by simp)
   simpa using this
  have Ve:Ag n (mD D') ({a with defers:=mark++a.defers}:Act) ρ:=⟨ha.tmp,ha.size,by simp[ha.defers];exact Y_⟩
  cases j with
  |none=>exact⟨ρ,An,D',Ve,qK,hj⟩
  |some c=>
   cases c with
   |ret=>exact wpIn_ret ⟨ρ,An,D',Ve,qK,hj⟩
   |exit id=>exact wpIn_exit ⟨ρ,An,D',Ve,qK,hj⟩
   |_=>exact hj.elim
 cases r with
 |none=>
  have Za:Inv base (wS w.heap.size::(O++(mI D++M))) (w.alloc (.deferred (some []))):=hI.alloc _
  have qK:=Za.alloc (.loop {state:=.ready,pending:=none,fn:=Dv,tmps:=a.tmps,params:=ps,assign,body,defers:=w.heap.size})
  have hI3:Inv base ((eu (w.heap.size+1) (lp {state:=.ready,pending:=none,fn:=Dv,tmps:=a.tmps,params:=ps,assign,body,defers:=w.heap.size} none)::O)++(mI (w.heap.size::D)++M))
    ((w.alloc (.deferred (some []))).alloc (.loop {state:=.ready,pending:=none,fn:=Dv,tmps:=a.tmps,params:=ps,assign,body,defers:=w.heap.size})):=by
   refine qK.perm ?_
   have e:(w.alloc (.deferred (some []))).heap.size=w.heap.size+1:=by simp
   rw[e]
   exact List.Perm.cons _ List.perm_middle
  refine⟨_,_,_,_,_,f,_,_,run_enterLoop_outer (P:=P) (w:=w) Dv a.tmps ps assign body,Ts _ _,fun _ _=>trivial,hinv _ _,fun e=>by simp[Fr,Fence.wide]at e,n6 ?_⟩
  refine Calls.mono (h (w.heap.size+1) {state:=.ready,pending:=none,fn:=Dv,tmps:=a.tmps,params:=ps,assign,body,defers:=w.heap.size} ⟨rfl,rfl,rfl,ha.tmp,ha.size⟩ _ _ hI3) ?_
  exact post _ _ _ (w.heap.size::D) rfl
 |some l0=>
  obtain⟨it,gf,Zb⟩:=hM
  obtain⟨rc,hrc⟩:=Zb w (hI.holds it (by simp[gf]))
  have qK:=hI.alloc (.loop {state:=.ready,pending:=none,fn:=Dv,tmps:=a.tmps,params:=ps,assign,body,defers:=rc.defers})
  refine⟨_,_,_,_,_,f,_,_,run_enterLoop_inner (P:=P) (w:=w) hrc Dv a.tmps ps assign body,Ts _ _,fun _ _=>trivial,hinv _ _,fun e=>by simp[Fr,Fence.wide]at e,n6 ?_⟩
  refine Calls.mono (h w.heap.size {state:=.ready,pending:=none,fn:=Dv,tmps:=a.tmps,params:=ps,assign,body,defers:=rc.defers} ⟨rfl,rfl,rfl,ha.tmp,ha.size⟩ _ (mI D++M) qK) ?_
  exact post _ _ _ D rfl
def Mo:List Nat→List Value→Env→Env
 |t::ts,v::vs,ρ=>Mo ts vs (kz ρ t v)
 |_,_,ρ=>ρ
theorem Dw: ∀(ts:List Nat) (vs:List Value) (tmps:Array Value) (ρ:Env),(ts.all fun t=>Nat.blt t n)=true→tmps.size=n→(∀t,tmps.getD t undef=ρ t)→
  (((ts.zip vs).foldl (fun tmps q=>tmps.setIfInBounds q.1 q.2) tmps).size=n∧ ∀t,((ts.zip vs).foldl (fun tmps q=>tmps.setIfInBounds q.1 q.2) tmps).getD t undef=Mo ts vs ρ t)
 | [],vs,tmps,ρ,_,hs,ht=>⟨hs,ht⟩
 |t::ts,[],tmps,ρ,_,hs,ht=>⟨hs,ht⟩
 |t::ts,v::vs,tmps,ρ,hb,hs,ht=>by
  simp only[List.all_cons,ar]at hb
  have h1:=Ag.put (a:= {tmps:=tmps,defers:=[]}) (ds:=[]) ⟨ht,hs,rfl⟩ hb.1 v
  exact Dw ts vs _ (kz ρ t v) hb.2 h1.size h1.tmp
def Vf (l:Nat) (q:Loop) (R:Value→List Item→Prop):kv
 | .normal,_,O=>R (.bool true) (eu l (lp q none)::O)
 | .ret,_,O=>R (.bool false) (eu l (lp q (some .ret))::O)
 | .exit id,_,O=>R (.bool false) (eu l (lp q (some (.exit id)))::O)
 |_,_,_=>False
theorem Inv.Dx {O M:List Item} {w:World} {l:Nat} {o o':Obj} (hI:Inv base (eu l o::O++M) w):Inv base (eu l o'::O++M) (w.putObj l o'):=by
 have hl:w.heap[l]? =some o:=hI.holds (eu l o) (by simp)
 have gQ:=(Array.getElem?_eq_some_iff.1 hl).1
 have:=Inv.step (A:=[]) (N:=[eu l o']) (w':=w.putObj l o') (B:=O++M) (it:=eu l o) hI rfl rfl rfl (by simp) (fun k _ hk=>World.putObj_heap_other (fun e=>hk (by simp[eu,e])))
  (by intro x hx;simp at hx;subst hx;exact World.putObj_heap_same gQ) (by intro x hx b hb;simp at hx;subst hx;exact .inl hb) (by simp[eu])
 simpa using this
theorem fh.yield {l:Nat} {q:Loop} {ps:Array Nat} {assign body:Code} {args:List Value} {R:Value→List Item→Prop} (hq:Mn q n ρ ps assign body) (hl:args.length=ps.size) (Mp:(ps.toList.all fun t=>Nat.blt t n)=true)
  (h:T P (some l) base n assign (tn (fun ρ O=>T P (some l) base n body (Vf l q R) ρ O) (fun _ _ _=>False)) (Mo ps.toList args ρ) O):
  fh P base (.func (.yield l) #[] #[]) args (eu l (lp q none)::O) R:=by
 obtain⟨rfl,rfl,rfl,ht,hs⟩:=hq
 intro w M hI
 have hb:w.heap[l]? =some (.loop {q with state:=.ready,pending:=none}):=hI.holds (eu l (lp q none)) (by simp)
 have Mq:(lW (.func (.yield l) #[] #[]) args.toArray).run P w=.ok (.round l q.fn ((q.params.toList.zip args).foldl (fun tmps p=>tmps.setIfInBounds p.1 p.2) q.tmps) q.assign q.body) w:=by
  have h1:=run_yield (P:=P) (args:=args.toArray) hb (by simpa using hl)
  simp only[lW,Deferred.ofValue,invoke,Sem.run_bind,Sem.run_pure,Result.andThen_ok]
  have e:(#[]:Array Value)++args.toArray=args.toArray:=by simp
  rw[e,h1]
  congr 2
  rw[←Array.foldl_toList]
  congr 1
  simp
 rw[Mq]
 obtain⟨qX,htm⟩:=Dw q.params.toList args q.tmps ρ Mp hs ht
 refine roundIn_of_wpIn trivial ?_
 have Za:Inv base (O++(mI []++(eu l (lp q none)::M))) w:=hI.perm List.perm_middle
 refine wpIn_mono (h {tmps:=_,defers:=[]} w (eu l (lp q none)::M) [] ⟨eu l (lp q none),by simp,fun w hw=>⟨_,hw⟩⟩ ⟨htm,qX,rfl⟩ Za) ?_
 rintro e a1 w1 ⟨ρ1,O1,D1,h1,h2,h3⟩
 cases e with
 |normal=>
  have Yg:Inv base (eu l (lp q none)::(O1++mI D1)++M) w1:=h2.perm (by
   have:(O1++(mI D1++eu l (lp q none)::M))=((O1++mI D1)++eu l (lp q none)::M):=by simp
   rw[this]
   exact List.perm_middle.symm)
  have JX:w1.heap[l]? =some (.loop {q with state:=.ready,pending:=none}):=Yg.holds (eu l (lp q none)) (by simp)
  refine⟨_,run_beginRound (P:=P) JX rfl,?_⟩
  have hI3:=Yg.Dx (o':=.loop {({q with state:=.ready,pending:=none}:Loop)with state:=.busy})
  have hI4:Inv base (O1++(mI D1++(eu l (.loop {({q with state:=.ready,pending:=none}:Loop)with state:=.busy})::M))) (w1.putObj l (.loop {({q with state:=.ready,pending:=none}:Loop)with state:=.busy})):=hI3.perm (by
   have:(O1++(mI D1++eu l (.loop {({q with state:=.ready,pending:=none}:Loop)with state:=.busy})::M))=((O1++mI D1)++eu l (.loop {({q with state:=.ready,pending:=none}:Loop)with state:=.busy})::M):=by simp
   rw[this]
   exact List.perm_middle)
  refine wpIn_mono (h3 a1 _ _ D1 ⟨eu l (.loop {({q with state:=.ready,pending:=none}:Loop)with state:=.busy}),by simp,fun w hw=>⟨_,hw⟩⟩ h1 hI4) ?_
  rintro e a2 w2 ⟨ρ2,O2,D2,k1,k2,k3⟩
  have k2':Inv base (eu l (.loop {({q with state:=.ready,pending:=none}:Loop)with state:=.busy})::(O2++mI D2)++M) w2:=k2.perm (by
   have:(O2++(mI D2++eu l (.loop {({q with state:=.ready,pending:=none}:Loop)with state:=.busy})::M))=((O2++mI D2)++eu l (.loop {({q with state:=.ready,pending:=none}:Loop)with state:=.busy})::M):=by simp
   rw[this]
   exact List.perm_middle.symm)
  have FW:w2.heap[l]? =some (.loop {({q with state:=.ready,pending:=none}:Loop)with state:=.busy}):=k2'.holds (eu l (.loop {({q with state:=.ready,pending:=none}:Loop)with state:=.busy})) (by simp)
  have fin: ∀j:Option Code,Inv base (eu l (lp q j)::O2++M) (w2.putObj l (lp q j)):=fun j=>by
   have:=k2'.Dx (o':=lp q j)
   refine this.sub ?_
   simp only[cN,aV]
   exact List.Sublist.cons_cons _ (List.Sublist.append (aP _) (List.sublist_append_right _ _))
  cases e with
  |normal=>exact⟨_,_,run_endRound (P:=P) none FW,_,_,rfl,fin none,k3⟩
  |ret=>exact⟨_,_,run_endRound (P:=P) (some .ret) FW,_,_,rfl,fin (some .ret),k3⟩
  |exit id=>exact⟨_,_,run_endRound (P:=P) (some (.exit id)) FW,_,_,rfl,fin (some (.exit id)),k3⟩
  |_=>exact k3.elim
 |_=>exact h3.elim
theorem qS.zero {fn:Func} {R:Value→List Item→Prop} (hr:fn.results= #[]) (h:R (.tuple #[]) O):qS P base fn ρ O R:=
 ⟨⟨_,O,cd (aP _),h,fun w tmps _ _=>results_none hr tmps P w⟩⟩
theorem aF {fn:Func} {R:Value→List Item→Prop} {a:Nat} (v:Value) (hr:fn.results= #[.tmp a]) (hv:ρ a=v) (h:R v O):qS P base fn ρ O R:=
 ⟨⟨_,O,cd (aP _),h,fun w tmps _ ht=>by rw[results_tmp hr tmps P w,ht,hv]⟩⟩
theorem dr {fn:Func} {R:Value→List Item→Prop} {a b:Nat} (v u:Value) (hr:fn.results= #[.tmp a,.tmp b]) (hv:ρ a=v) (hu:ρ b=u) (h:R (.tuple #[v,u]) O):qS P base fn ρ O R:=
 ⟨⟨_,O,cd (aP _),h,fun w tmps _ ht=>by rw[results_tmp2 hr tmps P w,ht,ht,hv,hu]⟩⟩
theorem dS {fn:Func} {R:Value→List Item→Prop} (h:qS P base fn ρ O (fun v O1=> ∃O2,Sub O2 O1∧R v O2)):qS P base fn ρ O R:=by
 obtain⟨v,O1,hs,⟨O2,B8,hR⟩,hr⟩:=h.ex
 refine⟨⟨v,O2,?_,hR,hr⟩⟩
 obtain⟨l2,p2,s2⟩:=B8
 obtain⟨l1,p1,s1⟩:=hs
 obtain⟨l3,p3,s3⟩:=List.exists_perm_sublist s2 p1
 exact⟨l3,p2.trans p3.symm,s3.trans s1⟩
theorem rp {T E:TypeId} {d:TypeDesc} {z:Value} {s h_ b:Nat} {cs:List Value} {fr:Nat×Nat} {w:World} (hu:P.underlying T=some d) (ha:pr d=true) (hi:gj P T z s h_) (hl:cs.length=s) (hw:w.heap[b]? =some (.cells cs.toArray E fr)):
  (loadVar T ⟨b,0,none⟩).run P w=.ok (.agg cs.toArray) w:=by
 have h:=mQ (P:=P) (w:=w) (a:=⟨b,0,none⟩) cs 0 #[] (fun j hj=>by
  rw[sC];unfold World.cell?;simp[hw])
 simp[loadVar,jV hu,ha,cr hi,loadCells,←hl,h]
theorem cQ {fn:Func} {R:Value→List Item→Prop} {a i:Nat} {T E:TypeId} {d:TypeDesc} {z:Value} {s h_ b:Nat} {cs:List Value} {fr:Nat×Nat} (hr:fn.results= #[.cell a T]) (hu:P.underlying T=some d) (ha:pr d=true) (hi:gj P T z s h_) (hp:ρ a=.pointer (some ⟨b,0,none⟩)) (hO:O[i]? =some (eu b (.cells cs.toArray E fr))) (hl:cs.length=s)
  (h:R (.agg cs.toArray) O):qS P base fn ρ O R:=
 ⟨⟨_,O,cd (aP _),h,fun w tmps hI ht=>by
  have:=rp (P:=P) hu ha hi hl (hI.wU hO)
  have Qi:=ht a
  simp only[dF]at Qi
  simp[results,hr,Qi,hp,asAddr,this]⟩⟩
theorem kO {fn:Func} {R:Value→List Item→Prop} {a i c:Nat} (u:Value) {T E:TypeId} {d:TypeDesc} {z:Value} {s h_ b:Nat} {cs:List Value} {fr:Nat×Nat} (hr:fn.results= #[.cell a T,.tmp c]) (hu:P.underlying T=some d) (ha:pr d=true) (hi:gj P T z s h_) (hp:ρ a=.pointer (some ⟨b,0,none⟩)) (hO:O[i]? =some (eu b (.cells cs.toArray E fr))) (hl:cs.length=s) (Yf:ρ c=u)
  (h:R (.tuple #[.agg cs.toArray,u]) O):qS P base fn ρ O R:=
 ⟨⟨_,O,cd (aP _),h,fun w tmps hI ht=>by
  have:=rp (P:=P) hu ha hi hl (hI.wU hO)
  have Qi:=ht a
  have hc:=ht c
  simp only[dF]at Qi hc
  simp[results,hr,Qi,hc,Yf,hp,asAddr,this]⟩⟩
end
def dh:List (Nat×Value)→Env→Prop
 | [],_=>True
 |q::L,ρ=>ρ q.1=q.2∧dh L ρ
def Dy (L:List (Nat×Value)) (ρ:Env):Env:=L.foldr (fun q r=>kz r q.1 q.2) ρ
theorem dh.of {ρ:Env}: ∀ {L:List (Nat×Value)},L.map (fun q=>ρ q.1)=L.map (·.2)→dh L ρ
 | [],_=>trivial
 |_::_,h=>⟨(List.cons.inj h).1,dh.of (List.cons.inj h).2⟩
theorem yG {ρ:Env}: ∀ {L:List (Nat×Value)},dh L ρ→Dy L ρ=ρ
 | [],_=>rfl
 |q::L,h=>by
  have ih:=yG h.2
  show kz (Dy L ρ) q.1 q.2=ρ
  rw[ih]
  funext t
  unfold kz
  cases e:Nat.beq t q.1 with
  |false=>rfl
  |true=>rw[Nat.eq_of_beq_eq_true e];exact h.1.symm
theorem dh.elim {L:List (Nat×Value)} {ρ:Env} (h:dh L ρ): ∃gv,ρ=Dy L gv:=⟨ρ,(yG h).symm⟩
abbrev ints (xs:List Int):List Value:=xs.map (Value.int .i64)
abbrev cm (xs:List Nat):List Value:=xs.map fun x:Nat=>Value.int .i64 (x:Int)
abbrev cO (xs:List Bool):List Value:=xs.map Value.bool
abbrev nY (xs:List Nat):List Value:=xs.map fun x:Nat=>Value.int .u8 (x:Int)
theorem gL {xs:List Int} {k:Nat} (h:k<xs.length:=by first|assumption|omega|(simp;omega)|simp_all):(ints xs)[k]? =some (.int .i64 xs[k]):=by simp[h]
theorem iT {xs:List Nat} {k:Nat} (h:k<xs.length:=by first|assumption|omega|(simp;omega)|simp_all):(cm xs)[k]? =some (.int .i64 ((xs[k]:Nat):Int)):=by simp[h]
theorem j9 {xs:List Bool} {k:Nat} (h:k<xs.length:=by first|assumption|omega|(simp;omega)|simp_all):(cO xs)[k]? =some (.bool xs[k]):=by simp[h]
theorem yH {xs:List Nat} {k:Nat} (h:k<xs.length:=by first|assumption|omega|(simp;omega)|simp_all):(nY xs)[k]? =some (.int .u8 ((xs[k]:Nat):Int)):=by simp[h]
def rr (P:Program) (T:TypeId) (pl:List (Nat×Nat)):Prop:=
 ∃fields,P.underlying T=some (.struct fields)∧ ∀w:World,(fields.mapM fun f=>do pure (f.offset,←sizeOf f.type):Sem (Array (Nat×Nat))).run P w=.ok pl.toArray w
section
variable {P:Program} {base:World} {ρ:Env} {O:List Item} {dst:Option Nat} {t:TypeId} {p:String} {af:Array Edge} {g:Option (Nat×Bool)}
theorem Be {x y:Operand} {T E:TypeId} {b o n c i:Nat} {k:IntKind} {z:Value} {h_:Nat} (hu:P.underlying T=some (.slice E)) (hi:gj P E z 1 h_) (hx:ev ρ x=.slice (some ⟨b,o,none⟩) n c) (hy:ev ρ y=.int k (i:Int)) (gQ:i<n):
  QT P base ⟨dst,.indexAddr T x y,t,p,af,g⟩ ρ O (.pointer (some ⟨b,o+i,none⟩)):=by
 have:=wT (P:=P) (base:=base) (O:=O) (dst:=dst) (t:=t) (p:=p) (af:=af) (g:=g) hu hi hx hy gQ
 rwa[Nat.mul_one]at this
theorem bw {c a b:Operand} {v:Value} (hc:ev ρ c=.bool true:=by exact rfl) (ha:ev ρ a=v:=by exact rfl):QT P base ⟨dst,.pick c a b,t,p,af,g⟩ ρ O v:=fun w _=>by simp[execOp,hc,ha,asBool]
theorem bU {c a b:Operand} {v:Value} (hc:ev ρ c=.bool false:=by exact rfl) (hb:ev ρ b=v:=by exact rfl):QT P base ⟨dst,.pick c a b,t,p,af,g⟩ ρ O v:=fun w _=>by simp[execOp,hc,hb,asBool]
theorem dc (cs:List Value) {T:TypeId} {parts:List (Nat×Operand)} {pl:List (Nat×Nat)} {z:Value} {s h_:Nat} (hp:rr P T pl) (hi:gj P T z s h_) (hf:Instr.fill (fun i=>pl[i]?) z.cells (parts.map fun q=>(q.1,ev ρ q.2))=some cs.toArray):
  QT P base ⟨dst,.build T parts.toArray,t,p,af,g⟩ ρ O (.agg cs.toArray):=fun w _=>by
 obtain⟨fields,hu,hm⟩:=hp
 have hf':Instr.fill (fun i=>pl.toArray[i]?) z.cells (parts.map fun q=>(q.1,ev ρ q.2))=some cs.toArray:=by simpa using hf
 simp only[execOp,Instr.build,Sem.run_bind,io hi,Result.andThen_ok,bL hu,hm w]
 simp at hf'
 simp[hf']
end
theorem eT {P:Program} {base:World} {o:Oper} {ρ:Env} {O:List Item} {b b':Bool} (h:QT P base o ρ O (.bool b)) (e:b=b'):QT P base o ρ O (.bool b'):=e▸h
def ru (w:World) (vs:List Value) (rs:List (List Int)):Prop:=
 vs.length=rs.length∧ ∀(i:Nat) (r:List Int),rs[i]? =some r→ ∃b c,vs[i]? =some (Value.slice b r.length c)∧Sl w b (ints r)
theorem ru.get {w:World} {vs:List Value} {rs:List (List Int)} (h:ru w vs rs) {i:Nat} (hi:i<rs.length): ∃b c,vs[i]? =some (Value.slice b rs[i].length c)∧Sl w b (ints rs[i]):=
 h.2 i rs[i] (ak hi)
theorem ru.keep {w w':World} {vs:List Value} {rs:List (List Int)} (h:ru w vs rs) (hb: ∀k,k<w.heap.size→w'.heap[k]? =w.heap[k]?):ru w' vs rs:=
 ⟨h.1,fun i r hr=>by obtain⟨b,c,h1,h2⟩:=h.2 i r hr;exact⟨b,c,h1,h2.keep hb⟩⟩
theorem Inv.rows {base:World} {O:List Item} {w:World} (hI:Inv base O w) {vs:List Value} {rs:List (List Int)} (h:ru base vs rs):ru w vs rs:=h.keep hI.below.block
structure Rec where
 b:Option Addr
 c:Nat
 xs:List Int
def Rec.val (q:Rec):Value:=.slice q.b q.xs.length q.c
def Rec.qW (E:TypeId) (q:Rec):Item:=az q.b q.c E 1 (ints q.xs)
abbrev dO (qs:List Rec):List Value:=qs.map Rec.val
abbrev cw (E:TypeId) (qs:List Rec):List Item:=qs.map (Rec.qW E)
abbrev nums (qs:List Rec):List (List Int):=qs.map Rec.xs
theorem Inv.Zc {base:World} {O:List Item} {w:World} (hI:Inv base O w) {E:TypeId} {qs:List Rec} (h: ∀q∈qs,q.qW E∈O):ru w (dO qs) (nums qs):=by
 refine⟨by simp,fun i r hr=>?_⟩
 obtain⟨q,hq,rfl⟩: ∃q,qs[i]? =some q∧q.xs=r:=by
  rw[bl]at hr
  cases e:qs[i]? with
  |none=>rw[e]at hr;cases hr
  |some q=>rw[e]at hr;exact⟨q,rfl,by simpa using hr⟩
 refine⟨q.b,q.c,by simp[hq,Rec.val],?_⟩
 exact rowP.sl (hI.holds _ (h q (bT hq)))
theorem Inv.ij {base:World} {O:List Item} {w:World} (hI:Inv base O w) {b:Option Addr} {c:Nat} {T:TypeId} {k:Nat} {cs:List Value} (h:az b c T k cs∈O):Sl w b cs:=rowP.sl (hI.holds _ h)
section
variable {P:Program} {r:Option Nat} {base:World} {n:Nat} {ρ:Env} {O:List Item} {K:Env→List Item→Prop} {d:Nat} {t:TypeId} {p:String} {af:Array Edge} {g:Option (Nat×Bool)} {dst:Option Nat}
theorem JY {T U E XE:TypeId} {l s h_:Nat} {x y:Operand} {xv z:Value} {new:List Value}
  (hu:P.underlying T=some (.slice E)) (Mj:P.underlying U=some (.slice XE)) (hi:gj P E z s h_) (hz:z.cells.size=s)
  (hx:ev ρ x=.slice none 0 0) (hy:ev ρ y=xv) (hs:0<s)
  (Gp:Src P base O s l xv new) (uH:(new.all fS)=true) (qX:l*h_≤70368744177664) (Qg:h_≤1000000) (Du:0<h_)
  (h: ∀b' c',K (kz ρ d (.slice b' l c')) (az b' c' E s new::O)) (hn:Nat.blt d n=true:=by rfl):
  LT P r base n ⟨some d,.call ⟨.builtin .append,#[x,y],#[T,U]⟩,t,p,af,g⟩ ρ O K:=
 jm hn fun w M hI=>by
  have oM:=hI.fJ E s
  have Zd:Src P base (az none 0 E s []::(O++M)) s l xv new:=⟨Gp.1,Gp.2.1,fun w hI=>Gp.2.2 w (hI.sub (List.sublist_cons_self _ _)).left⟩
  obtain⟨b',c',w',hr,adB⟩:=qi (j:=0) (ty:=t) (m:=0) hu Mj (.inl ⟨_,rfl⟩) hi hz rfl (by simp) hs Zd uH (by simpa using qX) Qg Du oM
  refine⟨_,w',_,?_,adB,by simpa using h b' c'⟩
  rw[Nat.zero_add]at hr
  simp[execOp,resolve,hx,hy,invoke,builtin,hr]
theorem dL {T E:TypeId} {x:Operand} {v:Value} {z:Value} {h_:Nat} (hu:P.underlying T=some (.slice E)) (hi:gj P E z 1 h_) (_hz:z.cells.size=1) (hx:ev ρ x=v) (hv:fS v=true)
  (h: ∀b,K (kz ρ d (.slice (some ⟨b,0,none⟩) 1 1)) (az (some ⟨b,0,none⟩) 1 E 1 [v]::O)) (hn:Nat.blt d n=true:=by rfl):LT P r base n ⟨some d,.buildSlice T 1 #[(0,x)],t,p,af,g⟩ ρ O K:=by
 refine cP (parts:=[(0,x)]) (cs:=[v]) hu hi (by omega) ?_ (by simp) h hn
 have hc:v.cells= #[v]:=by cases v<;>simp_all[fS,Value.cells]
 simp[Instr.fill,hx,hc]
 apply Array.ext_getElem?
 intro i
 cases i with
 |zero=>simp
 |succ i=>simp
end
structure c_ where
 vars:Int
 start:Int
 next:List (List Int)
 aT:List Bool
 deriving DecidableEq
structure jg (w:World) (d:c_) (nb:Option Addr) (vs:List Value) (fb:Option Addr):Prop where
 outer:Sl w nb vs
 rows:ru w vs d.next
 aT:Sl w fb (cO d.aT)
theorem jg.keep {w w':World} {d:c_} {nb:Option Addr} {vs:List Value} {fb:Option Addr} (h:jg w d nb vs fb) (hb: ∀k,k<w.heap.size→w'.heap[k]? =w.heap[k]?):jg w' d nb vs fb:=
 ⟨h.outer.keep hb,h.rows.keep hb,h.aT.keep hb⟩
theorem Inv.Dz {base:World} {O:List Item} {w:World} (hI:Inv base O w) {d:c_} {nb:Option Addr} {vs:List Value} {fb:Option Addr} (h:jg base d nb vs fb):jg w d nb vs fb:=h.keep hI.below.block
abbrev fe (d:c_) (nb:Option Addr) (nc:Nat) (fb:Option Addr) (fc:Nat):List Value:=[.int .i64 d.vars,.int .i64 d.start,.slice nb d.next.length nc,.slice fb d.aT.length fc]
def nu (n:Nat) (r:List Int):Bool:=r.all fun x=>decide (0≤x)&&decide (x<(n:Int))
def th (L n:Nat):List (List Int)→Nat
 | []=>0
 |r::rs=>if r.length≠L then 2 else if nu n r=true then th L n rs else 8
def di (d:c_):Nat:=
 if¬(0≤d.vars∧d.vars≤6)then 7
 else if d.next.length=0 then 3
 else if 4096<d.next.length then 4
 else if d.aT.length≠d.next.length then 2
 else if d.start<0∨(d.next.length:Int)≤d.start then 8
 else th (2^d.vars.toNat) d.next.length d.next
theorem mT {L n:Nat} {rs:List (List Int)} {k:Nat} (hk:k<rs.length):th L n (rs.drop k)=if rs[k].length≠L then 2 else if nu n rs[k]=true then th L n (rs.drop (k+1))else 8:=by
 rw[List.drop_eq_getElem_cons hk];rfl
theorem A0 {L n:Nat} {rs:List (List Int)} {k:Nat} (hk:rs.length≤k):th L n (rs.drop k)=0:=by
 rw[List.drop_eq_nil_of_le hk];rfl
theorem Gg {n:Nat} {r:List Int} {j:Nat} (hj:j<r.length) (h:nu n (r.take j)=true) (h0: ¬r[j]<0) (h1: ¬(n:Int)≤r[j]):nu n (r.take (j+1))=true:=by
 rw[aC hj]
 simp only[nu,List.all_append,ar]at h⊢
 refine⟨h,?_⟩
 simp;omega
theorem AZ {n:Nat} {r:List Int} {j:Nat} (hj:j<r.length) (h:r[j]<0∨(n:Int)≤r[j]): ¬nu n r=true:=by
 intro hh
 simp only[nu,fp,ar,cj]at hh
 have:=hh _ (av hj)
 omega
theorem Gh {n:Nat} {r:List Int} {j:Nat} (hj:r.length≤j) (h:nu n (r.take j)=true):nu n r=true:=by
 rwa[bt hj]at h
structure Val (d:c_):Prop where
 v0:0≤d.vars
 v6:d.vars≤6
 n0:0<d.next.length
 fin:d.aT.length=d.next.length
 s0:0≤d.start
 s1:d.start<(d.next.length:Int)
 len: ∀r∈d.next,r.length=2^d.vars.toNat
 ok: ∀r∈d.next,∀x∈r,0≤x∧x<(d.next.length:Int)
structure Valid (d:c_):Prop extends Val d where
 n4:d.next.length≤4096
instance {d:c_}:Coe (Valid d) (Val d):=⟨Valid.toVal⟩
theorem uq {L n:Nat}: ∀ {rs:List (List Int)},th L n rs=0↔(∀r∈rs,r.length=L)∧ ∀r∈rs,∀x∈r,0≤x∧x<(n:Int)
 | []=>by simp[th]
 |r::rs=>by
  have ih:=uq (L:=L) (n:=n) (rs:=rs)
  simp only[th]
  by_cases h:r.length=L
  ·by_cases h2:nu n r=true
   ·simp only[h,ne_eq,not_true_eq_false,if_false,h2,if_true,ih,dt,forall_eq_or_imp,true_and]
    have h3: ∀x∈r,0≤x∧x<(n:Int):=by simpa[nu]using h2
    exact⟨fun q=>⟨q.1,h3,q.2⟩,fun q=>⟨q.1,q.2.2⟩⟩
   ·simp only[h,ne_eq,not_true_eq_false,if_false,h2]
    refine⟨fun q=>by simp at q,fun q=>(h2 ?_).elim⟩
    have:=q.2 r (by simp)
    simpa[nu]using this
  ·simp only[ne_eq,h,not_false_eq_true,if_true]
   exact⟨fun q=>by simp at q,fun q=>(h (q.1 r (by simp))).elim⟩
theorem eL {d:c_}:di d=0↔Valid d:=by
 unfold di
 constructor
 ·intro h
  split at h;·cases h
  split at h;·cases h
  split at h;·cases h
  split at h;·cases h
  split at h;·cases h
  rename_i h1 h2 h3 h4 h5
  obtain⟨h6,h7⟩:=uq.1 h
  simp only[Classical.not_not]at h1 h4
  exact⟨⟨h1.1,h1.2,by omega,h4,by omega,by omega,h6,h7⟩,by omega⟩
 ·intro h
  rw[aq (by have:=h.v0;have:=h.v6;simp;omega),aq (by have:=h.n0;omega),aq (by have:=h.n4;omega),aq (by simp[h.fin]),aq (by have:=h.s0;have:=h.s1;omega)]
  exact uq.2 ⟨h.len,h.ok⟩
theorem Val.width {d:c_} (h:Val d):2^d.vars.toNat≤64:=
 bE (ck (by omega) (show d.vars.toNat≤6 by have:=h.v0;have:=h.v6;omega)) (by decide)
theorem Val.wO {d:c_} (h:Val d): ∀r∈d.next,r.length<9223372036854775807:=fun r hr=>by
 have:=h.len r hr;have:=h.width;omega
noncomputable def one (a b:Item):Nat:=open Classical in if b=a then 1 else 0
noncomputable def xT (a:Item):List Item→Nat
 | []=>0
 |b::l=>one a b+xT a l
theorem HT (a:Item):xT a []=0:=rfl
theorem pt (a b:Item) (l:List Item):xT a (b::l)=one a b+xT a l:=rfl
theorem qk (a:Item) (l m:List Item):xT a (l++m)=xT a l+xT a m:=by
 induction l with
 |nil=>simp[xT]
 |cons b l ih=>rw[cN,pt,ih,pt];omega
theorem Q1 {a:Item} {l:List Item} (h:0<xT a l): ∃l1 l2,l=l1++a::l2:=by
 induction l with
 |nil=>simp[xT]at h
 |cons b l ih=>
  by_cases e:b=a
  ·subst e;exact⟨[],l,rfl⟩
  ·obtain⟨l1,l2,rfl⟩:=ih (by simpa[xT,one,e]using h)
   exact⟨b::l1,l2,rfl⟩
theorem wV: ∀ {l m:List Item},(∀a,xT a l=xT a m)→l.Perm m
 | [],m,h=>by
  cases m with
  |nil=>exact List.Perm.refl _
  |cons b m=>have:=h b;simp[xT,one]at this;omega
 |b::l,m,h=>by
  obtain⟨m1,m2,rfl⟩:=Q1 (a:=b) (l:=m) (by rw[←h b];simp[xT,one];omega)
  have h': ∀a,xT a l=xT a (m1++m2):=fun a=>by
   have:=h a
   rw[pt,qk,pt]at this
   rw[qk];omega
  exact(List.Perm.cons b (wV h')).trans List.perm_middle.symm
theorem Sub.xT {O' O:List Item} (D:List Item) (h: ∀a,Lx.xT a (O'++D)=Lx.xT a O):Sub O' O:=by
 have hp:=wV h
 obtain⟨l,h1,h2⟩:=List.exists_perm_sublist (List.sublist_append_left O' D) hp
 exact⟨l,h1.symm,h2⟩
def Mr:List Item→Nat→List Item
 | [],_=>[]
 |a::_,0=>[a]
 |_::l,i+1=>Mr l i
def uJ:List Item→Nat→List Item
 | [],_=>[]
 |_::l,0=>l
 |a::l,i+1=>a::uJ l i
def yI:List Nat→List Item→List Item
 | [],_=>[]
 |i::is,L=>Mr L i++yI is (uJ L i)
def Bf:List Nat→List Item→List Item
 | [],L=>L
 |i::is,L=>Bf is (uJ L i)
theorem Bg: ∀(L:List Item) (i:Nat),(Mr L i++uJ L i).Perm L
 | [],i=>List.Perm.refl _
 |a::l,0=>List.Perm.refl _
 |a::l,i+1=>by
  have ih:=Bg l i
  show(Mr l i++a::uJ l i).Perm (a::l)
  exact List.perm_middle.trans (List.Perm.cons a ih)
theorem sD: ∀(is:List Nat) (L:List Item),(yI is L++Bf is L).Perm L
 | [],L=>List.Perm.refl _
 |i::is,L=>by
  show((Mr L i++yI is (uJ L i))++Bf is (uJ L i)).Perm L
  rw[aV]
  exact((sD is (uJ L i)).append_left _).trans (Bg L i)
theorem o_ {O' D O:List Item} (h:(O'++D).Perm O):Sub O' O:=by
 obtain⟨l,h1,h2⟩:=List.exists_perm_sublist (List.sublist_append_left O' D) h
 exact⟨l,h1.symm,h2⟩
theorem cH (is:List Nat) {L O':List Item} (h:yI is L=O':=by exact rfl):Sub O' L:=h▸o_ (sD is L)
theorem lI (is:List Nat) (L R:List Item) {O' O:List Item} (h:yI is L++R=O') (h2:L++R=O):Sub O' O:=by
 subst h;subst h2;exact(cH is).tP
theorem fO (is:List Nat) (L R:List Item) {O' O:List Item} (h:yI is L=O') (h2:L++R=O):Sub O' O:=by
 subst h;subst h2;exact o_ (D:=Bf is L++R) (by rw[←aV];exact(sD is L).append_right R)
section
variable {X:PX} {P:Program} {r:Option Nat} {base:World} {n:Nat} {ρ:Env} {O O' S:List Item} {K:Env→List Item→Prop} {ops:Array Oper} {l:List Oper} {tail:List Nat} {od:List (Nat×Nat)}
theorem dW (hs:Sub O' O) (h:TO X P r base n ops l K ρ O'):TO X P r base n ops l K ρ O:=fun Q a w M D hk ha hi=>h Q a w M D hk ha (hi.lz hs.tP)
theorem fj {S2:List Item} {dG:List Nat} (hs:Sub O' O) (h:DO X P r base n ops S tail S2 dG od K ρ O'):DO X P r base n ops S tail S2 dG od K ρ O:=
 fun h1 my h3 listed h4 Q a w M D hq hp ha hI pm hS=>h h1 my h3 listed h4 Q a w M D hq hp ha (hI.lz hs.tP) pm hS
theorem cx.sub {f:FuncId} {args:List Value} {R:Value→List Item→Prop} (hs:Sub O' O) (h:cx P base f args O' R):cx P base f args O R:=fun w M hI=>h w M (hI.lz hs.tP)
end
end Go.Lx

