/- Contracts. -/
import Derived.WalkKit
import Derived.Below
import Derived.Orders
import Derived.Calls
import Derived.Control
import Derived.RangeFuncNested
import Derived.TacticsIn
import Derived.OrdersIn
import Derived.Maps.RangeRun
import Derived.Lib.ItoaNum
set_option linter.all false
set_option maxHeartbeats 8000000
set_option maxRecDepth 20000
theorem Go.Lx.F {α:Sort _} {a:α}:a=a:=rfl
theorem dh:type_of% @Array.getD_eq_getD_getElem?:=@Array.getD_eq_getD_getElem?
theorem aY:type_of% @Bool.and_eq_true:=@Bool.and_eq_true
theorem fQ:type_of% @Bool.eq_iff_iff:=@Bool.eq_iff_iff
theorem bq:type_of% @Int.toNat_of_nonneg:=@Int.toNat_of_nonneg
theorem ay:type_of% @List.Sublist.refl:=@List.Sublist.refl
theorem fi:type_of% @List.all_eq_true:=@List.all_eq_true
theorem fH:type_of% @List.any_eq_true:=@List.any_eq_true
theorem bw:type_of% @List.append_assoc:=@List.append_assoc
theorem bZ:type_of% @List.append_nil:=@List.append_nil
theorem cj:type_of% @List.cons_append:=@List.cons_append
theorem ep:type_of% @List.foldl_append:=@List.foldl_append
theorem gh:type_of% @List.foldl_cons:=@List.foldl_cons
theorem aj:type_of% @List.getD_eq_getElem?_getD:=@List.getD_eq_getElem?_getD
theorem bG:type_of% @List.getElem?_append_left:=@List.getElem?_append_left
theorem bN:type_of% @List.getElem?_append_right:=@List.getElem?_append_right
theorem ah:type_of% @List.getElem?_eq_getElem:=@List.getElem?_eq_getElem
theorem dL:type_of% @List.getElem?_eq_none:=@List.getElem?_eq_none
theorem bc:type_of% @List.getElem?_map:=@List.getElem?_map
theorem eV:type_of% @List.getElem_map:=@List.getElem_map
theorem ap:type_of% @List.getElem_mem:=@List.getElem_mem
theorem jw:type_of% @List.getElem_range:=@List.getElem_range
theorem aI:type_of% @List.length_append:=@List.length_append
theorem cd:type_of% @List.length_cons:=@List.length_cons
theorem ag:type_of% @List.length_map:=@List.length_map
theorem eD:type_of% @List.length_nil:=@List.length_nil
theorem gR:type_of% @List.length_range:=@List.length_range
theorem fR:type_of% @List.length_set:=@List.length_set
theorem bC:type_of% @List.length_take:=@List.length_take
theorem aL:type_of% @List.map_append:=@List.map_append
theorem bL:type_of% @List.map_cons:=@List.map_cons
theorem df:type_of% @List.map_nil:=@List.map_nil
theorem cI:type_of% @List.mem_append:=@List.mem_append
theorem a_:type_of% @List.mem_append_left:=@List.mem_append_left
theorem bl:type_of% @List.mem_append_right:=@List.mem_append_right
theorem dU:type_of% @List.mem_cons:=@List.mem_cons
theorem e_:type_of% @List.mem_map:=@List.mem_map
theorem bE:type_of% @List.mem_of_getElem?:=@List.mem_of_getElem?
theorem iH:type_of% @List.mem_range:=@List.mem_range
theorem bM:type_of% @List.mem_singleton:=@List.mem_singleton
theorem dl:type_of% @List.nil_append:=@List.nil_append
theorem aX:type_of% @List.nil_sublist:=@List.nil_sublist
theorem dJ:type_of% @List.set_cons_succ:=@List.set_cons_succ
theorem da:type_of% @List.set_cons_zero:=@List.set_cons_zero
theorem aN:type_of% @List.take_of_length_le:=@List.take_of_length_le
theorem an:type_of% @List.take_succ_eq_append_getElem:=@List.take_succ_eq_append_getElem
theorem aV:type_of% @Nat.le_refl:=@Nat.le_refl
theorem cT:type_of% @Nat.le_trans:=@Nat.le_trans
theorem ee:type_of% @Nat.lt_of_le_of_lt:=@Nat.lt_of_le_of_lt
theorem du:type_of% @Nat.lt_of_lt_of_le:=@Nat.lt_of_lt_of_le
theorem dw:type_of% @Nat.pow_le_pow_right:=@Nat.pow_le_pow_right
theorem eG:type_of% @Nat.sub_self:=@Nat.sub_self
theorem eo:type_of% @Nat.succ_pos:=@Nat.succ_pos
theorem aG:type_of% @Nat.zero_le:=@Nat.zero_le
theorem cg:type_of% @Option.some.inj:=@Option.some.inj
theorem av:type_of% @congrArg:=@congrArg
theorem bT:type_of% @decide_eq_false:=@decide_eq_false
theorem bz:type_of% @decide_eq_true:=@decide_eq_true
theorem bo:type_of% @decide_eq_true_eq:=@decide_eq_true_eq
theorem ar:type_of% @if_neg:=@if_neg
theorem aA:type_of% @if_pos:=@if_pos
namespace Go.Lx
inductive gL (E:Nat→Nat→Prop):Nat→Nat→Prop
 |refl (v:Nat):gL E v v
 |step {u v w:Nat}:E u v→gL E v w→gL E u w
section
variable {E:Nat→Nat→Prop}
theorem gL.one {u v:Nat} (h:E u v):gL E u v:=.step h (.refl _)
theorem gL.trans {u v w:Nat} (h:gL E u v) (h2:gL E v w):gL E u w:=by
 induction h with
 |refl=>exact h2
 |step e _ ih=>exact .step e (ih h2)
theorem gL.tail {u v w:Nat} (h:gL E u v) (e:E v w):gL E u w:=h.trans (.one e)
theorem gL.closed {S:Nat→Prop} (hc: ∀u v,S u→E u v→S v) {u v:Nat} (h:gL E u v) (hu:S u):S v:=by
 induction h with
 |refl=>exact hu
 |step e _ ih=>exact ih (hc _ _ hu e)
theorem gL.mono {aa:Nat→Nat→Prop} (hf: ∀u v,E u v→aa u v) {u v:Nat} (h:gL E u v):gL aa u v:=by
 induction h with
 |refl=>exact .refl _
 |step e _ ih=>exact .step (hf _ _ e) ih
structure TS where
 idx:Nat→Nat
 low:Nat→Nat
 comp:Nat→Int
 ef:List Nat
 d_:Nat
 cO:Nat
structure hY (n:Nat) (E:Nat→Nat→Prop) (dW:List Nat) (s:TS):Prop where
 d_: ∀v,s.idx v≤s.d_
 inj: ∀u v,s.idx u≠0→s.idx u=s.idx v→u=v
 B2: ∀v,s.idx v≠0→v<n
 Pm:s.ef.Pairwise (fun u v=>s.idx u<s.idx v)
 mem: ∀v,v∈s.ef↔s.idx v≠0∧s.comp v<0
 cmp: ∀v,0≤s.comp v→s.idx v≠0∧s.comp v<s.cO
 wk: ∀u v,0≤s.comp u→E u v→0≤s.comp v∧s.comp v≤s.comp u
 wL: ∀u v,0≤s.comp u→s.comp u=s.comp v→gL E u v
 Mm: ∀g∈dW,g∈s.ef
 dn: ∀x∈s.ef,∃g∈dW,s.idx g≤s.idx x∧gL E x g
 up: ∀g∈dW,∀y∈s.ef,s.idx g≤s.idx y→gL E g y
 qi: ∀u v,s.idx u≠0→u∉dW→E u v→s.idx v≠0
structure Lh (s s':TS) (t:List Nat):Prop where
 idx: ∀x,s.idx x≠0→s'.idx x=s.idx x
 low: ∀x,s.idx x≠0→s'.low x=s.low x
 comp: ∀x,s.idx x≠0→s'.comp x=s.comp x
 ef:s'.ef=s.ef++t
 d_:s.d_≤s'.d_
 new: ∀x,s.idx x=0→s'.idx x≠0→s.d_<s'.idx x
def FL (E:Nat→Nat→Prop) (s s':TS) (t:List Nat) (v:Nat):Prop:=
 s'.idx v≠0∧((s'.comp v<0∧(∃y∈s'.ef,s'.idx y=s'.low v∧gL E v y)∧ ∀x∈t,∀u,E x u→u∈s.ef→s'.low v≤s.idx u)∨(0≤s'.comp v∧t=[]∧s'.low v=s'.idx v))
structure iJ (n:Nat) (E:Nat→Nat→Prop) (dW:List Nat) (s0:TS) (v:Nat) (nx:List Nat) (k:Nat) (s:TS) (t:List Nat):Prop where
 inv:hY n E (dW++[v]) s
 idx: ∀x,s0.idx x≠0→s.idx x=s0.idx x
 low: ∀x,s0.idx x≠0→s.low x=s0.low x
 comp: ∀x,s0.idx x≠0→s.comp x=s0.comp x
 d_:s0.d_≤s.d_
 new: ∀x,s0.idx x=0→s.idx x≠0→s0.d_<s.idx x
 v0:s0.idx v=0
 v1:s.idx v=s0.d_+1
 ef:s.ef=s0.ef++v::t
 H1:s.low v≤s.idx v
 ZK: ∃y∈s.ef,s.idx y=s.low v∧gL E v y
 y9: ∀x∈t,∀u,E x u→u∈s0.ef→s.low v≤s0.idx u
 done: ∀u∈nx.take k,s.idx u≠0∧(u∈s0.ef→s.low v≤s0.idx u)
theorem iJ.enter {n:Nat} {dW:List Nat} {s0:TS} {v:Nat} {nx:List Nat} {low:Nat→Nat} {idx:Nat→Nat} {comp:Nat→Int} (h:hY n E dW s0) (hv:s0.idx v=0) (hn:v<n) (hg: ∀g∈dW,gL E g v)
  (hi: ∀x,idx x=if x=v then s0.d_+1 else s0.idx x) (hl: ∀x,low x=if x=v then s0.d_+1 else s0.low x) (ZB:s0.comp v<0) (hc: ∀x,comp x=s0.comp x):
  iJ n E dW s0 v nx 0 {idx:=idx,low:=low,comp:=comp,ef:=s0.ef++[v],d_:=s0.d_+1,cO:=s0.cO} []:=by
 have Li:v∉s0.ef:=fun hm=>((h.mem v).1 hm).1 hv
 have mC: ∀x,s0.idx x≠0→x≠v:=fun x hx e=>hx (e▸hv)
 have Q7:idx v=s0.d_+1:=by rw[hi];simp
 have Lj: ∀x,s0.idx x≠0→idx x=s0.idx x:=fun x hx=>by rw[hi,ar (mC x hx)]
 have QQ: ∀x,idx x≠0→x=v∨s0.idx x≠0:=fun x hx=>by
  rw[hi]at hx;split at hx
  ·exact .inl ‹_›
  ·exact .inr hx
 refine {inv:=?_,idx:=Lj,low:=fun x hx=>by show low x=_;rw[hl,ar (mC x hx)],comp:=fun x _=>hc x,d_:=Nat.le_succ _,new:=?_,v0:=hv,v1:=Q7,ef:=rfl,H1:=by show low v≤idx v;rw[hl,hi];simp,ZK:=⟨v,by simp,by show idx v=low v;rw[hl,hi];simp,.refl _⟩,y9:=by simp,done:=by simp}
 ·refine {d_:=?_,inj:=?_,B2:=?_,Pm:=?_,mem:=?_,cmp:=?_,wk:=?_,wL:=?_,Mm:=?_,dn:=?_,up:=?_,qi:=?_}
  ·intro x;show idx x≤s0.d_+1;rw[hi];split
   ·omega
   ·exact Nat.le_succ_of_le (h.d_ x)
  ·intro a b ha mH
   change idx a≠0 at ha;change idx a=idx b at mH
   rcases QQ a ha with rfl|GN
   ·by_cases e:b=a
    ·exact e.symm
    ·rw[Q7,hi b,ar e]at mH
     have:=h.d_ b;omega
   ·rw[Lj a GN]at mH
    by_cases e:b=v
    ·subst e;rw[Q7]at mH;have:=h.d_ a;omega
    ·rw[hi b,ar e]at mH;exact h.inj a b GN mH
  ·intro x hx
   rcases QQ x hx with rfl|hx
   ·exact hn
   ·exact h.B2 x hx
  ·show(s0.ef++[v]).Pairwise _
   rw[List.pairwise_append]
   refine⟨h.Pm.imp_of_mem fun {a b} ha hb mH=>?_,by simp,fun a ha b hb=>?_⟩
   ·show idx a<idx b
    rw[Lj a ((h.mem a).1 ha).1,Lj b ((h.mem b).1 hb).1];exact mH
   ·simp at hb;subst hb
    show idx a<idx b
    rw[Lj a ((h.mem a).1 ha).1,Q7]
    have:=h.d_ a;omega
  ·intro x
   show x∈s0.ef++[v]↔idx x≠0∧comp x<0
   rw[hc]
   constructor
   ·intro hx
    rcases List.mem_append.1 hx with hx|hx
    ·have:=(h.mem x).1 hx;exact⟨by rw[Lj x this.1];exact this.1,this.2⟩
    ·simp at hx;subst hx;exact⟨by rw[Q7];omega,ZB⟩
   ·rintro⟨h1,h2⟩
    rcases QQ x h1 with rfl|h1
    ·simp
    ·exact a_ _ ((h.mem x).2 ⟨h1,h2⟩)
  ·intro x hx
   change 0≤comp x at hx;rw[hc]at hx
   show idx x≠0∧comp x<s0.cO
   have:=h.cmp x hx;rw[hc,Lj x this.1];exact this
  ·intro a b ha mH
   change 0≤comp a at ha
   show 0≤comp b∧comp b≤comp a
   rw[hc]at ha;rw[hc,hc];exact h.wk a b ha mH
  ·intro a b ha mH
   change 0≤comp a at ha;change comp a=comp b at mH
   rw[hc]at ha;rw[hc,hc]at mH;exact h.wL a b ha mH
  ·intro g Je
   show g∈s0.ef++[v]
   rcases List.mem_append.1 Je with Je|Je
   ·exact a_ _ (h.Mm g Je)
   ·exact bl _ Je
  ·intro x hx
   change x∈s0.ef++[v]at hx
   rcases List.mem_append.1 hx with hx|hx
   ·obtain⟨g,h1,h2,h3⟩:=h.dn x hx
    refine⟨g,a_ _ h1,?_,h3⟩
    show idx g≤idx x
    rw[Lj x ((h.mem x).1 hx).1,Lj g ((h.mem g).1 (h.Mm g h1)).1];exact h2
   ·simp at hx;subst hx
    exact⟨x,by simp,aV _,.refl _⟩
  ·intro g Je y hy mB
   change y∈s0.ef++[v]at hy;change idx g≤idx y at mB
   rcases List.mem_append.1 Je with hg1|Je
   ·have GR:=h.Mm g hg1
    rcases List.mem_append.1 hy with hy|hy
    ·rw[Lj g ((h.mem g).1 GR).1,Lj y ((h.mem y).1 hy).1]at mB
     exact h.up g hg1 y hy mB
    ·obtain rfl:y=v:=by simpa using hy
     exact hg g hg1
   ·obtain rfl:g=v:=by simpa using Je
    rcases List.mem_append.1 hy with hy|hy
    ·rw[Q7,Lj y ((h.mem y).1 hy).1]at mB
     have:=h.d_ y;omega
    ·obtain rfl:y=g:=by simpa using hy
     exact .refl _
  ·intro a b ha ZL mH
   have vB:a≠v:=fun e=>ZL (by simp[e])
   rcases QQ a ha with e|ha
   ·exact absurd e vB
   ·have:=h.qi a b ha (fun hm=>ZL (a_ _ hm)) mH
    show idx b≠0
    rw[Lj b this];exact this
 ·intro x h0 h1
  rcases QQ x h1 with rfl|h2
  ·show s0.d_<idx x;rw[Q7];omega
  ·exact absurd h0 h2
theorem hY.low {n:Nat} {dW:List Nat} {s:TS} (h:hY n E dW s) (low:Nat→Nat):hY n E dW {s with low:=low}:=
 {d_:=h.d_,inj:=h.inj,B2:=h.B2,Pm:=h.Pm,mem:=h.mem,cmp:=h.cmp,wk:=h.wk,wL:=h.wL,Mm:=h.Mm,dn:=h.dn,up:=h.up,qi:=h.qi}
theorem hY.ext {n:Nat} {dW:List Nat} {s:TS} (h:hY n E dW s) {idx:Nat→Nat} {low:Nat→Nat} {comp:Nat→Int} (hi: ∀x,idx x=s.idx x) (hc: ∀x,comp x=s.comp x):hY n E dW {s with low:=low,idx:=idx,comp:=comp}:=by
 obtain rfl:idx=s.idx:=funext hi
 obtain rfl:comp=s.comp:=funext hc
 exact h.low low
section
variable {n:Nat} {dW:List Nat} {s0 s:TS} {v:Nat} {nx:List Nat} {k:Nat} {t:List Nat}
theorem iJ.ahN (h:iJ n E dW s0 v nx k s t):v∈s.ef:=by rw[h.ef];simp
theorem iJ.lR (h:iJ n E dW s0 v nx k s t) (h0:hY n E dW s0) {x:Nat} (hx:x∈s0.ef):s0.idx x≠0∧s.idx x=s0.idx x∧s.idx x<s.idx v:=by
 have h1:=((h0.mem x).1 hx).1
 refine⟨h1,h.idx x h1,?_⟩
 rw[h.idx x h1,h.v1];have:=h0.d_ x;omega
theorem iJ.Ru (h:iJ n E dW s0 v nx k s t) {x:Nat} (hx:x∈t):s.idx v<s.idx x:=by
 have:=h.inv.Pm;rw[h.ef,List.pairwise_append]at this
 have:=this.2.1;rw[List.pairwise_cons]at this
 exact this.1 x hx
theorem iJ.Tk (h:iJ n E dW s0 v nx k s t) (h0:hY n E dW s0) {x:Nat} (hx:x∈t):x∉dW++[v]:=fun hm=>by
 have h1:=h.Ru hx
 rcases List.mem_append.1 hm with hm|hm
 ·have:=(h.lR h0 (h0.Mm x hm)).2.2;omega
 ·simp at hm;subst hm;omega
theorem iJ.FM (h:iJ n E dW s0 v nx k s t) {u:Nat} (hk:k<nx.length) (hu:nx[k]=u) (hi:s.idx u≠0) (hc:0≤s.comp u) (h0:hY n E dW s0):iJ n E dW s0 v nx (k+1) s t:=
 {h with done:=(by
   intro x hx
   rw[an hk,cI]at hx
   rcases hx with hx|hx
   ·exact h.done x hx
   ·simp at hx;rw[hu]at hx;subst hx
    refine⟨hi,fun hm=>?_⟩
    have h1:=(h0.mem x).1 hm
    rw[h.comp x h1.1]at hc;omega)}
theorem iJ.FN (h:iJ n E dW s0 v nx k s t) {u:Nat} (hk:k<nx.length) (hu:nx[k]=u) (hE:E v u) (hi:s.idx u≠0) (hc:s.comp u<0) (h0:hY n E dW s0) {low:Nat→Nat}
  (hl: ∀x,low x=if x=v then min (s.low v) (s.idx u)else s.low x):iJ n E dW s0 v nx (k+1) {s with low:=low} t:=by
 have uT:low v=min (s.low v) (s.idx u):=by rw[hl];simp
 have mB:low v≤s.low v:=by rw[uT];exact Nat.min_le_left _ _
 refine {inv:=h.inv.low low,idx:=h.idx,low:=?_,comp:=h.comp,d_:=h.d_,new:=h.new,v0:=h.v0,v1:=h.v1,ef:=h.ef,H1:=?_,ZK:=?_,y9:=?_,done:=?_}
 ·intro x hx
  show low x=_
  rw[hl,ar (fun e=>hx (by rw[e];exact h.v0))];exact h.low x hx
 ·show low v≤s.idx v;exact cT mB h.H1
 ·obtain⟨y,hy,h1,h2⟩:=h.ZK
  show∃y∈s.ef,s.idx y=low v∧gL E v y
  rw[uT]
  by_cases hm:s.low v≤s.idx u
  ·exact⟨y,hy,by rw[Nat.min_eq_left hm];exact h1,h2⟩
  ·exact⟨u,(h.inv.mem u).2 ⟨hi,hc⟩,by rw[Nat.min_eq_right (by omega)],.one hE⟩
 ·intro x hx w hw hm
  exact cT mB (h.y9 x hx w hw hm)
 ·intro x hx
  show s.idx x≠0∧(x∈s0.ef→low v≤s0.idx x)
  rw[an hk,cI]at hx
  rcases hx with hx|hx
  ·exact⟨(h.done x hx).1,fun hm=>cT mB ((h.done x hx).2 hm)⟩
  ·simp at hx;rw[hu]at hx;subst hx
   refine⟨hi,fun hm=>?_⟩
   rw[uT,←(h.lR h0 hm).2.1];exact Nat.min_le_right _ _
theorem iJ.FO (h:iJ n E dW s0 v nx k s t) {u:Nat} (hk:k<nx.length) (hu:nx[k]=u) (hE:E v u) (NC:s.idx u=0) (h0:hY n E dW s0) {s':TS} {t2:List Nat} (hI:hY n E (dW++[v]) s') (hX:Lh s s' t2) (hP:FL E s s' t2 u) {low:Nat→Nat}
  (hl: ∀x,low x=if x=v then min (s'.low v) (s'.low u)else s'.low x):iJ n E dW s0 v nx (k+1) {s' with low:=low} (t++t2):=by
 have hsv:s.idx v≠0:=by rw[h.v1];omega
 have ZY:s'.low v=s.low v:=hX.low v hsv
 have Q7:s'.idx v=s.idx v:=hX.idx v hsv
 have uT:low v=min (s.low v) (s'.low u):=by rw[hl,aA rfl,ZY]
 have mB:low v≤s.low v:=by rw[uT];exact Nat.min_le_left _ _
 have Yw: ∀x,s0.idx x≠0→s.idx x≠0:=fun x hx=>by rw[h.idx x hx];exact hx
 refine {inv:=hI.low low,idx:=fun x hx=>(hX.idx x (Yw x hx)).trans (h.idx x hx),low:=?_,comp:=fun x hx=>(hX.comp x (Yw x hx)).trans (h.comp x hx),d_:=cT h.d_ hX.d_,new:=?_,v0:=h.v0,v1:=Q7.trans h.v1,ef:=?_,H1:=?_,ZK:=?_,y9:=?_,done:=?_}
 ·intro x hx
  show low x=_
  rw[hl,ar (fun e=>hx (by rw[e];exact h.v0)),hX.low x (Yw x hx)];exact h.low x hx
 ·intro x hx0 ru
  change s'.idx x≠0 at ru
  show s0.d_<s'.idx x
  by_cases Kr:s.idx x=0
  ·have:=hX.new x Kr ru;have:=h.d_;omega
  ·rw[hX.idx x Kr];exact h.new x hx0 Kr
 ·show s'.ef=_
  rw[hX.ef,h.ef];simp
 ·show low v≤s'.idx v
  rw[Q7];exact cT mB h.H1
 ·obtain⟨y,hy,h1,h2⟩:=h.ZK
  show∃y∈s'.ef,s'.idx y=low v∧gL E v y
  have hold:low v=s.low v→ ∃y∈s'.ef,s'.idx y=low v∧gL E v y:=fun e=>
   ⟨y,by rw[hX.ef];exact a_ _ hy,by rw[hX.idx y ((h.inv.mem y).1 hy).1,e];exact h1,h2⟩
  rcases hP.2 with⟨_,⟨z,hz,hz1,hz2⟩,_⟩|⟨_,_,h5⟩
  ·by_cases hm:s.low v≤s'.low u
   ·exact hold (by rw[uT,Nat.min_eq_left hm])
   ·exact⟨z,hz,by rw[hz1,uT,Nat.min_eq_right (by omega)],.step hE hz2⟩
  ·refine hold ?_
   rw[uT,Nat.min_eq_left]
   rw[h5]
   have Zy:=h.H1
   have:=hX.new u NC hP.1
   have:=h.inv.d_ v
   omega
 ·intro x hx w hw hm
  show low v≤s0.idx w
  rcases List.mem_append.1 hx with hx|hx
  ·exact cT mB (h.y9 x hx w hw hm)
  ·rcases hP.2 with⟨_,_,h4⟩|⟨_,h4,_⟩
   ·have hws:w∈s.ef:=by rw[h.ef];exact a_ _ hm
    have:=h4 x hx w hw hws
    rw[(h.lR h0 hm).2.1]at this
    rw[uT];exact cT (Nat.min_le_right _ _) this
   ·rw[h4]at hx;cases hx
 ·intro x hx
  show s'.idx x≠0∧(x∈s0.ef→low v≤s0.idx x)
  rw[an hk,cI]at hx
  rcases hx with hx|hx
  ·have:=h.done x hx
   exact⟨by rw[hX.idx x this.1];exact this.1,fun hm=>cT mB (this.2 hm)⟩
  ·simp at hx;rw[hu]at hx;subst hx
   refine⟨hP.1,fun hm=>?_⟩
   have:=h.lR h0 hm
   rw[NC]at this;omega
theorem iJ.AI (h:iJ n E dW s0 v nx k s t) (h0:hY n E dW s0) (hk:nx.length≤k) (XX: ∀u,E v u→u∈nx) (mC:s.low v≠s.idx v):hY n E dW s∧Lh s0 s (v::t)∧FL E s0 s (v::t) v:=by
 have fM:s.low v<s.idx v:=by have:=h.H1;omega
 have hv:=h.inv.mem v|>.1 h.ahN
 obtain⟨y,hy,hy1,hy2⟩:=h.ZK
 have Bq: ∀u,E v u→s.idx u≠0∧(u∈s0.ef→s.low v≤s0.idx u):=fun u hu=>by
  have:=h.done u;rw[aN hk]at this;exact this (XX u hu)
 refine⟨{d_:=h.inv.d_,inj:=h.inv.inj,B2:=h.inv.B2,Pm:=h.inv.Pm,mem:=h.inv.mem,cmp:=h.inv.cmp,wk:=h.inv.wk,wL:=h.inv.wL,Mm:=fun g hg=>h.inv.Mm g (a_ _ hg),dn:=?_,up:=fun g hg=>h.inv.up g (a_ _ hg),qi:=?_},?_,hv.1,.inl ⟨hv.2,⟨y,hy,hy1,hy2⟩,?_⟩⟩
 ·intro x hx
  obtain⟨g,h1,h2,h3⟩:=h.inv.dn x hx
  rcases List.mem_append.1 h1 with h1|h1
  ·exact⟨g,h1,h2,h3⟩
  ·simp at h1;subst h1
   obtain⟨g',h4,h5,h6⟩:=h.inv.dn y hy
   rcases List.mem_append.1 h4 with h4|h4
   ·exact⟨g',h4,by omega,h3.trans (hy2.trans h6)⟩
   ·simp at h4;subst h4;omega
 ·intro a b ha ZL mH
  by_cases e:a=v
  ·subst e;exact(Bq b mH).1
  ·exact h.inv.qi a b ha (by simp[ZL,e]) mH
 ·exact⟨h.idx,h.low,h.comp,h.ef,h.d_,h.new⟩
 ·intro x hx u hu hm
  rcases List.mem_cons.1 hx with rfl|hx
  ·exact(Bq u hu).2 hm
  ·exact h.y9 x hx u hu hm
theorem iJ.pop (h:iJ n E dW s0 v nx k s t) (h0:hY n E dW s0) (hk:nx.length≤k) (XX: ∀u,E v u→u∈nx) (he:s.low v=s.idx v) {comp:Nat→Int} (hc: ∀x,comp x=if x∈v::t then(s.cO:Int)else s.comp x):
  hY n E dW {s with comp:=comp,ef:=s0.ef,cO:=s.cO+1}∧Lh s0 {s with comp:=comp,ef:=s0.ef,cO:=s.cO+1} []∧FL E s0 {s with comp:=comp,ef:=s0.ef,cO:=s.cO+1} [] v:=by
 have Bq: ∀u,E v u→s.idx u≠0∧(u∈s0.ef→s.low v≤s0.idx u):=fun u hu=>by
  have:=h.done u;rw[aN hk]at this;exact this (XX u hu)
 have lH: ∀x,x∈v::t↔x∈s.ef∧x∉s0.ef:=fun x=>by
  rw[h.ef,cI]
  refine⟨fun hx=>⟨.inr hx,fun hm=>?_⟩,fun hx=>hx.1.resolve_left hx.2⟩
  have h1:=(h.lR h0 hm).2.2
  rcases List.mem_cons.1 hx with rfl|hx
  ·omega
  ·have:=h.Ru hx;omega
 have H2: ∀x,x∈v::t→comp x=s.cO:=fun x hx=>by rw[hc,aA hx]
 have sE: ∀x,x∉v::t→comp x=s.comp x:=fun x hx=>by rw[hc,ar hx]
 have V2: ∀x u,x∈v::t→E x u→u∈v::t∨0≤s.comp u:=fun x u hx hu=>by
  have nO:s.idx u≠0:=by
   rcases List.mem_cons.1 hx with rfl|hx
   ·exact(Bq u hu).1
   ·exact h.inv.qi x u ((h.inv.mem x).1 (by rw[h.ef];simp[hx])).1 (h.Tk h0 hx) hu
  by_cases hcu:0≤s.comp u
  ·exact .inr hcu
  ·refine .inl ((lH u).2 ⟨(h.inv.mem u).2 ⟨nO,by omega⟩,fun hm=>?_⟩)
   have h1:=(h.lR h0 hm).2
   have h2:s.low v≤s0.idx u:=by
    rcases List.mem_cons.1 hx with rfl|hx
    ·exact(Bq u hu).2 hm
    ·exact h.y9 x hx u hu hm
   omega
 have Tl: ∀a b,(a∈v::t∨0≤s.comp a)→E a b→b∈v::t∨0≤s.comp b:=fun a b ha mH=>by
  rcases ha with ha|ha
  ·exact V2 a b ha mH
  ·exact .inr (h.inv.wk a b ha mH).1
 have Ev: ∀x∈v::t,s.comp x<0:=fun x hx=>((h.inv.mem x).1 ((lH x).1 hx).1).2
 have Pn: ∀x∈v::t,gL E x v:=fun x hx=>by
  obtain⟨g,h1,h2,h3⟩:=h.inv.dn x ((lH x).1 hx).1
  rcases List.mem_append.1 h1 with h1|h1
  ·exfalso
   have GR:=h0.Mm g h1
   rcases h3.closed Tl (.inl hx)with h4|h4
   ·exact((lH g).1 h4).2 GR
   ·have h5:=(h0.mem g).1 GR
    rw[h.comp g h5.1]at h4;omega
  ·simp at h1;subst h1;exact h3
 have Yx: ∀x∈v::t,gL E v x:=fun x hx=>by
  refine h.inv.up v (by simp) x ((lH x).1 hx).1 ?_
  rcases List.mem_cons.1 hx with rfl|hx
  ·exact aV _
  ·exact Nat.le_of_lt (h.Ru hx)
 refine⟨?_,⟨h.idx,h.low,?_,by simp,h.d_,h.new⟩,?_,?_⟩
 ·refine {d_:=h.inv.d_,inj:=h.inv.inj,B2:=h.inv.B2,Pm:=?_,mem:=?_,cmp:=?_,wk:=?_,wL:=?_,Mm:=?_,dn:=?_,up:=?_,qi:=?_}
  ·have:=h.inv.Pm;rw[h.ef,List.pairwise_append]at this;exact this.1
  ·intro x
   show x∈s0.ef↔s.idx x≠0∧comp x<0
   constructor
   ·intro hx
    have h1:=(h0.mem x).1 hx
    refine⟨by rw[h.idx x h1.1];exact h1.1,?_⟩
    rw[sE x (fun hm=>((lH x).1 hm).2 hx),h.comp x h1.1];exact h1.2
   ·rintro⟨h1,h2⟩
    by_cases hx:x∈v::t
    ·rw[H2 x hx]at h2;omega
    ·rw[sE x hx]at h2
     have h3:=(h.inv.mem x).2 ⟨h1,h2⟩
     by_cases h4:x∈s0.ef
     ·exact h4
     ·exact absurd ((lH x).2 ⟨h3,h4⟩) hx
  ·intro x hx
   show s.idx x≠0∧comp x<((s.cO+1:Nat):Int)
   change 0≤comp x at hx
   by_cases hm:x∈v::t
   ·refine⟨((h.inv.mem x).1 ((lH x).1 hm).1).1,?_⟩
    rw[H2 x hm];omega
   ·rw[sE x hm]at hx⊢
    have:=h.inv.cmp x hx
    exact⟨this.1,by omega⟩
  ·intro a b ha mH
   show 0≤comp b∧comp b≤comp a
   change 0≤comp a at ha
   by_cases hm:a∈v::t
   ·rw[H2 a hm]
    rcases V2 a b hm mH with h1|h1
    ·rw[H2 b h1];omega
    ·have h2:=h.inv.cmp b h1
     rw[sE b (fun hx=>by have:=Ev b hx;omega)];omega
   ·rw[sE a hm]at ha⊢
    have h1:=h.inv.wk a b ha mH
    rw[sE b (fun hx=>by have:=Ev b hx;omega)];exact h1
  ·intro a b ha mH
   change 0≤comp a at ha;change comp a=comp b at mH
   by_cases hm:a∈v::t
   ·by_cases MN:b∈v::t
    ·exact(Pn a hm).trans (Yx b MN)
    ·rw[H2 a hm,sE b MN]at mH
     have:=(h.inv.cmp b (by omega)).2;omega
   ·rw[sE a hm]at ha mH
    by_cases MN:b∈v::t
    ·rw[H2 b MN]at mH
     have:=(h.inv.cmp a ha).2;omega
    ·rw[sE b MN]at mH;exact h.inv.wL a b ha mH
  ·exact h0.Mm
  ·intro x hx
   have h1:=h.lR h0 hx
   obtain⟨g,h4,h5,h6⟩:=h.inv.dn x (by rw[h.ef];exact a_ _ hx)
   rcases List.mem_append.1 h4 with h4|h4
   ·exact⟨g,h4,h5,h6⟩
   ·simp at h4;subst h4;omega
  ·intro g hg y hy mB
   exact h.inv.up g (a_ _ hg) y (by rw[h.ef];exact a_ _ hy) mB
  ·intro a b ha ZL mH
   by_cases e:a=v
   ·subst e;exact(Bq b mH).1
   ·exact h.inv.qi a b ha (by simp[ZL,e]) mH
 ·intro x hx
  show comp x=_
  rw[sE x (fun hm=>?_)]
  ·exact h.comp x hx
  ·obtain⟨h1,h2⟩:=(lH x).1 hm
   have h3:=(h.inv.mem x).1 h1
   rw[h.comp x hx]at h3
   exact h2 ((h0.mem x).2 ⟨hx,h3.2⟩)
 ·show s.idx v≠0
  rw[h.v1];omega
 ·refine .inr ⟨?_,rfl,he⟩
  show 0≤comp v
  rw[H2 v (by simp)];omega
end
structure pT (n:Nat) (E:Nat→Nat→Prop) (comp:Nat→Int) (cO:Nat):Prop where
 pos: ∀v,v<n→0≤comp v∧comp v<cO
 wk: ∀u v,u<n→E u v→comp v≤comp u
 wL: ∀u v,u<n→v<n→comp u=comp v→gL E u v
theorem hY.done {n:Nat} {s:TS} (h:hY n E [] s) (hv: ∀v,v<n→s.idx v≠0):pT n E s.comp s.cO:=by
 have hp: ∀v,v<n→0≤s.comp v:=fun v hn=>by
  by_cases hc:s.comp v<0
  ·obtain⟨g,hg,_⟩:=h.dn v ((h.mem v).2 ⟨hv v hn,hc⟩);cases hg
  ·omega
 exact⟨fun v hn=>⟨hp v hn,(h.cmp v (hp v hn)).2⟩,fun u v hn e=>(h.wk u v (hp u hn) e).2,fun u v hn _ e=>h.wL u v (hp u hn) e⟩
theorem hY.start (n:Nat) (low:Nat→Nat):hY n E [] {idx:=fun _=>0,low:=low,comp:=fun _=> -1,ef:=[],d_:=0,cO:=0}:=
 ⟨fun _=>aG _,fun u v h=>absurd rfl h,fun v h=>absurd rfl h,List.Pairwise.nil,fun v=>by simp,fun v h=>absurd (show(0:Int)≤ -1 from h) (by decide),fun u v h=>absurd (show(0:Int)≤ -1 from h) (by decide),fun u v h=>absurd (show(0:Int)≤ -1 from h) (by decide),fun g h=>(List.not_mem_nil h).elim,fun g h=>(List.not_mem_nil h).elim,fun g h=>(List.not_mem_nil h).elim,fun u v h=>absurd rfl h⟩
theorem pT.Ai {n:Nat} {comp:Nat→Int} {cO:Nat} (h:pT n E comp cO) (hE: ∀u v,E u v→u<n∧v<n) {u v:Nat} (hu:u<n) (hr:gL E u v):comp v≤comp u∧v<n:=by
 induction hr with
 |refl=>exact⟨Int.le_refl _,hu⟩
 |step e _ ih=>
  have h1:=hE _ _ e
  have h2:=ih h1.2
  have h3:=h.wk _ _ h1.1 e
  exact⟨by omega,h2.2⟩
theorem pT.iff {n:Nat} {comp:Nat→Int} {cO:Nat} (h:pT n E comp cO) (hE: ∀u v,E u v→u<n∧v<n) {u v:Nat} (hu:u<n) (hv:v<n):comp u=comp v↔gL E u v∧gL E v u:=by
 constructor
 ·intro e;exact⟨h.wL u v hu hv e,h.wL v u hv hu e.symm⟩
 ·rintro⟨h1,h2⟩
  have h3:=(h.Ai hE hu h1).1
  have h4:=(h.Ai hE hv h2).1
  omega
end
open Go.RowKit
abbrev Env:=Nat→Value
def js (ρ:Env) (d:Nat) (v:Value):Env:=fun t=>match Nat.beq t d with
 |true=>v
 |false=>ρ t
def ev (ρ:Env):Operand→Value
 | .tmp t=>ρ t
 | .const v=>v
 | .global g=>.pointer (some ⟨g,0,none⟩)
 | .func f=>.func (.func f) #[] #[]
def QW (ρ:Env):List Operand→List Value
 | []=>[]
 |x::l=>ev ρ x::QW ρ l
theorem Ng (ρ:Env) (l:List Operand):QW ρ l=l.map (ev ρ):=by
 induction l with
 |nil=>rfl
 |cons x l ih=>simp[QW,ih]
structure Ag (n:Nat) (ds:List Deferred) (a:Act) (ρ:Env):Prop where
 tmp: ∀t,a.tmps.getD t undef=ρ t
 size:a.tmps.size=n
 defers:a.defers=ds
theorem Ag.eval {n:Nat} {ds:List Deferred} {a:Act} {ρ:Env} (h:Ag n ds a ρ):a.eval=ev ρ:=by
 funext x
 cases x with
 |tmp t=>exact h.tmp t
 |_=>rfl
theorem Ag.put {n:Nat} {ds:List Deferred} {a:Act} {ρ:Env} (h:Ag n ds a ρ) {d:Nat} (hd:Nat.blt d n=true) (v:Value):Ag n ds (a.put (some d) v) (js ρ d v):=by
 have uV:d<a.tmps.size:=by rw[h.size];rw[Nat.blt_eq]at hd;exact hd
 refine⟨fun t=>?_,by simp[Act.put,h.size],by simp[Act.put,h.defers]⟩
 have ht:=h.tmp t
 simp only[Act.put,js]
 by_cases e:t=d
 ·subst e
  have hb:Nat.beq t t=true:=Nat.beq_refl t
  rw[hb]
  simp[dh,uV]
 ·have hb:Nat.beq t d=false:=by
   rcases h':Nat.beq t d with _|_
   ·rfl
   ·exact absurd (Nat.eq_of_beq_eq_true h') e
  rw[hb]
  simp only[dh]at ht⊢
  rw[Array.getElem?_setIfInBounds_ne (Ne.symm e)]
  exact ht
structure Item where
 blocks:List Nat
 P:World→Prop
 loc: ∀w w':World,(∀b∈blocks,w'.heap[b]? =w.heap[b]?)→P w→P w'
def eL (b:Nat) (o:Obj):Item:=⟨[b],fun w=>w.heap[b]? =some o,fun w w' h hp=>by rw[h b (by simp)];exact hp⟩
abbrev oI (b:Nat) (T:TypeId) (cs:List Value):Item:=eL b (.cells cs.toArray T (0,0))
structure Inv (base:World) (O:List Item) (w:World):Prop where
 below:Below base.heap.size base w
 holds: ∀it∈O,it.P w
 fresh: ∀it∈O,∀b∈it.blocks,base.heap.size≤b∧b<w.heap.size
 nodup:(O.flatMap Item.blocks).Nodup
theorem Inv.refl (w:World):Inv w [] w:=⟨Below.refl _ _,by simp,by simp,by simp⟩
theorem Inv.same {base:World} {O:List Item} {w w':World} (h:Inv base O w) (hh:w'.heap=w.heap) (ho:w'.os=w.os) (ht:w'.tape=w.tape) (hp:w'.output=w.output):Inv base O w':=by
 refine⟨⟨ho.trans h.below.os,ht.trans h.below.tape,hp.trans h.below.output,by rw[hh];exact h.below.size,fun k hk=>by rw[hh];exact h.below.block k hk⟩,fun it hi=>it.loc w w' (fun b _=>by rw[hh]) (h.holds it hi),fun it hi b hb=>by rw[hh];exact h.fresh it hi b hb,h.nodup⟩
theorem Inv.drew {base:World} {O:List Item} {w:World} (h:Inv base O w):Inv base O w.drew:=h.same rfl rfl rfl rfl
theorem Inv.drawn {base:World} {O:List Item} {w:World} (h:Inv base O w) (n:Nat):Inv base O {w with drawn:=n}:=h.same rfl rfl rfl rfl
theorem wE {O O':List Item} (h:O'.Sublist O):(O'.flatMap Item.blocks).Sublist (O.flatMap Item.blocks):=by
 induction h with
 |slnil=>exact ay _
 |cons a _ ih=>exact ih.trans (by simp[List.flatMap_cons])
 |cons_cons a _ ih=>simp only[List.flatMap_cons];exact(ay _).append ih
theorem Inv.sub {base:World} {O O':List Item} {w:World} (h:Inv base O w) (hs:O'.Sublist O):Inv base O' w:=
 ⟨h.below,fun it hi=>h.holds it (hs.subset hi),fun it hi=>h.fresh it (hs.subset hi),(wE hs).nodup h.nodup⟩
theorem Inv.perm {base:World} {O O':List Item} {w:World} (h:Inv base O w) (hs:O'.Perm O):Inv base O' w:=
 ⟨h.below,fun it hi=>h.holds it (hs.mem_iff.1 hi),fun it hi=>h.fresh it (hs.mem_iff.1 hi),((hs.flatMap_right Item.blocks).nodup_iff).2 h.nodup⟩
def Sub (O' O:List Item):Prop:= ∃l,O'.Perm l∧l.Sublist O
theorem bj {O' O:List Item} (h:O'.Sublist O):Sub O' O:=⟨O',List.Perm.refl _,h⟩
theorem Inv.mA {base:World} {O O':List Item} {w:World} (h:Inv base O w) (hs:Sub O' O):Inv base O' w:=by
 obtain⟨l,hp,mz⟩:=hs
 exact(h.sub mz).perm hp
theorem Inv.call {base:World} {O O':List Item} {w w':World} (h:Inv base O w) (h':Inv w O' w'):Inv base (O'++O) w':=by
 have MX: ∀b,b<w.heap.size→w'.heap[b]? =w.heap[b]? :=h'.below.block
 refine⟨?_,?_,?_,?_⟩
 ·exact h.below.trans (h'.below.mono h.below.size)
 ·intro it hi
  rcases List.mem_append.1 hi with hi|hi
  ·exact h'.holds it hi
  ·exact it.loc w w' (fun b hb=>MX b (h.fresh it hi b hb).2) (h.holds it hi)
 ·intro it hi b hb
  rcases List.mem_append.1 hi with hi|hi
  ·have:=h'.fresh it hi b hb
   exact⟨cT h.below.size this.1,this.2⟩
  ·have:=h.fresh it hi b hb
   exact⟨this.1,du this.2 h'.below.size⟩
 ·rw[List.flatMap_append,List.nodup_append]
  refine⟨h'.nodup,h.nodup,fun x hx y hy e=>?_⟩
  obtain⟨i,hi,RJ⟩:=List.mem_flatMap.1 hx
  obtain⟨j,hj,hyj⟩:=List.mem_flatMap.1 hy
  have h1:=(h'.fresh i hi x RJ).1
  have h2:=(h.fresh j hj y hyj).2
  omega
theorem Inv.step {base:World} {A B N:List Item} {it:Item} {w w':World} (h:Inv base (A++it::B) w)
  (ho:w'.os=w.os) (ht:w'.tape=w.tape) (hp:w'.output=w.output) (hs:w.heap.size≤w'.heap.size)
  (hb: ∀b,b<w.heap.size→b∉it.blocks→w'.heap[b]? =w.heap[b]?)
  (hN: ∀x∈N,x.P w') (hf: ∀x∈N,∀b∈x.blocks,b∈it.blocks∨(w.heap.size≤b∧b<w'.heap.size)) (hn:(N.flatMap Item.blocks).Nodup):
  Inv base (A++N++B) w':=by
 have lH: ∀x∈A++B,x∈A++it::B:=fun x hx=>by
  rcases List.mem_append.1 hx with h|h<;>simp[h]
 have kO:(A.flatMap Item.blocks++(it.blocks++B.flatMap Item.blocks)).Nodup:=by
  have:=h.nodup;simpa[List.flatMap_append,List.flatMap_cons]using this
 have WV: ∀x∈A++B,∀b∈x.blocks,b∉it.blocks:=by
  intro x hx b hb hi
  rw[List.nodup_append]at kO
  obtain⟨_,h2,h3⟩:=kO
  rw[List.nodup_append]at h2
  rcases List.mem_append.1 hx with hx|hx
  ·exact h3 b (List.mem_flatMap.2 ⟨x,hx,hb⟩) b (List.mem_append.2 (.inl hi)) rfl
  ·exact h2.2.2 b hi b (List.mem_flatMap.2 ⟨x,hx,hb⟩) rfl
 have WW: ∀b∈it.blocks,base.heap.size≤b∧b<w.heap.size:=h.fresh it (by simp)
 refine⟨?_,?_,?_,?_⟩
 ·refine⟨ho.trans h.below.os,ht.trans h.below.tape,hp.trans h.below.output,cT h.below.size hs,fun k hk=>?_⟩
  rw[hb k (du hk h.below.size) (fun hi=>by have:=(WW k hi).1;omega)]
  exact h.below.block k hk
 ·intro x hx
  rcases List.mem_append.1 hx with hx|hx
  ·rcases List.mem_append.1 hx with hx|hx
   ·have B7:x∈A++B:=by simp[hx]
    exact x.loc w w' (fun b qd=>hb b (h.fresh x (lH x B7) b qd).2 (WV x B7 b qd)) (h.holds x (lH x B7))
   ·exact hN x hx
  ·have B7:x∈A++B:=by simp[hx]
   exact x.loc w w' (fun b qd=>hb b (h.fresh x (lH x B7) b qd).2 (WV x B7 b qd)) (h.holds x (lH x B7))
 ·intro x hx b qd
  rcases List.mem_append.1 hx with hx|hx
  ·rcases List.mem_append.1 hx with hx|hx
   ·have B7:x∈A++B:=by simp[hx]
    have:=h.fresh x (lH x B7) b qd
    exact⟨this.1,du this.2 hs⟩
   ·rcases hf x hx b qd with h1|h1
    ·exact⟨(WW b h1).1,du (WW b h1).2 hs⟩
    ·exact⟨cT h.below.size h1.1,h1.2⟩
  ·have B7:x∈A++B:=by simp[hx]
   have:=h.fresh x (lH x B7) b qd
   exact⟨this.1,du this.2 hs⟩
 ·have US: ∀x∈A++B,∀b∈x.blocks,∀y∈N,b∉y.blocks:=by
   intro x hx b qd y hy RK
   rcases hf y hy b RK with h1|h1
   ·exact WV x hx b qd h1
   ·have:=(h.fresh x (lH x hx) b qd).2;omega
  simp only[List.flatMap_append]
  rw[List.nodup_append]at kO
  obtain⟨h1,h2,h3⟩:=kO
  rw[List.nodup_append]at h2
  obtain⟨_,h5,_⟩:=h2
  rw[List.nodup_append]
  refine⟨?_,h5,?_⟩
  ·rw[List.nodup_append]
   refine⟨h1,hn,fun x hx y hy e=>?_⟩
   subst e
   obtain⟨i,hi,RJ⟩:=List.mem_flatMap.1 hx
   obtain⟨j,hj,hyj⟩:=List.mem_flatMap.1 hy
   exact US i (by simp[hi]) x RJ j hj hyj
  ·intro x hx y hy e
   subst e
   rcases List.mem_append.1 hx with hx|hx
   ·exact h3 x hx x (List.mem_append.2 (.inr hy)) rfl
   ·obtain⟨i,hi,RJ⟩:=List.mem_flatMap.1 hx
    obtain⟨j,hj,hyj⟩:=List.mem_flatMap.1 hy
    exact US j (by simp[hj]) x hyj i hi RJ
theorem xZ {O:List Item} {i:Nat} {it:Item} (h:O[i]? =some it): ∃A B,O=A++it::B∧ ∀x,O.set i x=A++x::B:=by
 induction O generalizing i with
 |nil=>simp at h
 |cons y O ih=>
  cases i with
  |zero=>simp at h;subst h;exact⟨[],O,rfl,fun x=>rfl⟩
  |succ i=>
   obtain⟨A,B,e,B4⟩:=ih (i:=i) (by simpa using h)
   exact⟨y::A,B,by rw[e];rfl,fun x=>by simp[B4 x]⟩
theorem Inv.pH {base:World} {O:List Item} {i:Nat} {it Nh:Item} {w w':World} (h:Inv base O w) (hi:O[i]? =some it)
  (ho:w'.os=w.os) (ht:w'.tape=w.tape) (hp:w'.output=w.output) (hs:w.heap.size≤w'.heap.size)
  (hb: ∀b,b<w.heap.size→b∉it.blocks→w'.heap[b]? =w.heap[b]?)
  (hN:Nh.P w') (hf: ∀b∈Nh.blocks,b∈it.blocks∨(w.heap.size≤b∧b<w'.heap.size)) (hn:Nh.blocks.Nodup):
  Inv base (O.set i Nh) w':=by
 obtain⟨A,B,e,B4⟩:=xZ hi
 subst e
 rw[B4 Nh]
 have:=Inv.step (N:=[Nh]) h ho ht hp hs hb (by simpa using hN) (by simpa using hf) (by simpa using hn)
 simpa using this
theorem Inv.new {base:World} {O N:List Item} {w w':World} (h:Inv base O w)
  (ho:w'.os=w.os) (ht:w'.tape=w.tape) (hp:w'.output=w.output) (hs:w.heap.size≤w'.heap.size)
  (hb: ∀b,b<w.heap.size→w'.heap[b]? =w.heap[b]?)
  (hN: ∀x∈N,x.P w') (hf: ∀x∈N,∀b∈x.blocks,w.heap.size≤b∧b<w'.heap.size) (hn:(N.flatMap Item.blocks).Nodup):
  Inv base (N++O) w':=
 h.call ⟨⟨ho,ht,hp,hs,hb⟩,hN,hf,hn⟩
theorem Inv.alloc {base:World} {O:List Item} {w:World} (h:Inv base O w) (o:Obj):Inv base (eL w.heap.size o::O) (w.alloc o):=by
 refine Inv.new (N:=[eL w.heap.size o]) h rfl rfl rfl (by simp) (fun b hb=>Below.heap_alloc w o b hb) ?_ ?_ ?_
 ·intro x hx
  simp at hx;subst hx
  show(w.heap.push o)[w.heap.size]? =some o
  simp
 ·intro x hx b hb
  simp at hx;subst hx
  simp[eL]at hb;subst hb
  simp
 ·simp[eL]
def Fr (r:Option Nat):Fence:= {Fence.wide with round:=r}
def abj (b:Nat):Deferred:= {target:=.collected b,args:= #[]}
def Er (b:Nat):Item:=eL b (.deferred (some []))
abbrev mD (D:List Nat):List Deferred:=D.map abj
abbrev mI (D:List Nat):List Item:=D.map Er
def MOk:Option Nat→List Item→Prop
 |none,_=>True
 |some l,M=> ∃it∈M,∀w,it.P w→ ∃rc,w.heap[l]? =some (.loop rc)
abbrev iT:=Exit→Env→List Item→Prop
def lift (base:World) (n:Nat) (M:List Item) (Q:iT):Exit→Act→World→Prop:=fun e a w=> ∃ρ O D,Ag n (mD D) a ρ∧Inv base (O++(mI D++M)) w∧Q e ρ O
def T (P:Program) (r:Option Nat) (base:World) (n:Nat) (c:Code) (Q:iT) (ρ:Env) (O:List Item):Prop:=
 ∀a w M D,MOk r M→Ag n (mD D) a ρ→Inv base (O++(mI D++M)) w→c.wpIn (Fr r) 0 P (lift base n M Q) a w
def so (K:Env→List Item→Prop) (Q:iT):iT
 | .normal,ρ,O=>K ρ O
 |e,ρ,O=>Q e ρ O
def inB (id:Nat) (Q:iT):iT
 | .exit Zu,ρ,O=>match Nat.beq Zu id with
  |true=>Q .normal ρ O
  |false=>Q (.exit Zu) ρ O
 |e,ρ,O=>Q e ρ O
section abk
variable {P:Program} {r:Option Nat} {base:World} {n:Nat} {Q:iT} {ρ:Env} {O:List Item}
theorem T.mono {c:Code} {Q':iT} (h:T P r base n c Q ρ O) (hq: ∀e ρ O,Q e ρ O→Q' e ρ O):T P r base n c Q' ρ O:=
 fun a w M D hM ha hi=>wpIn_mono (h a w M D hM ha hi) (fun e _ _ ⟨ρ,O,D,h1,h2,h3⟩=>⟨ρ,O,D,h1,h2,hq e ρ O h3⟩)
theorem aE (h:Q .normal ρ O):T P r base n .skip Q ρ O:=fun _ _ _ D _ ha hi=>wpIn_skip ⟨ρ,O,D,ha,hi,h⟩
theorem T.label {l:Nat} (h:Q .normal ρ O):T P r base n (.label l) Q ρ O:=fun _ _ _ D _ ha hi=>wpIn_label ⟨ρ,O,D,ha,hi,h⟩
theorem bA {id:Nat} (h:Q (.exit id) ρ O):T P r base n (.exit id) Q ρ O:=fun _ _ _ D _ ha hi=>wpIn_exit ⟨ρ,O,D,ha,hi,h⟩
theorem cF (h:Q .ret ρ O):T P r base n .ret Q ρ O:=fun _ _ _ D _ ha hi=>wpIn_ret ⟨ρ,O,D,ha,hi,h⟩
theorem ba {x y:Code} (h:T P r base n x (so (fun ρ O=>T P r base n y Q ρ O) Q) ρ O):T P r base n (.seq x y) Q ρ O:=by
 intro a w M D hM ha hi
 refine wpIn_seq (wpIn_mono (h a w M D hM ha hi) ?_)
 rintro e a' w' ⟨jz,O',D',h1,h2,h3⟩
 cases e with
 |normal=>exact h3 a' w' M D' hM h1 h2
 |_=>exact⟨jz,O',D',h1,h2,h3⟩
theorem iD {x y:Code} (K:Env→List Item→Prop) (h:T P r base n x (so K Q) ρ O) (hk: ∀ρ O,K ρ O→T P r base n y Q ρ O):T P r base n (.seq x y) Q ρ O:=
 ba (h.mono fun e ρ O h=>by cases e<;>first|exact hk ρ O h|exact h)
theorem T.cond {c:Operand} {x y:Code} {t:Bool} (hc:ev ρ c=.bool t) (h1:t=true→T P r base n x Q ρ O) (h0:t=false→T P r base n y Q ρ O):T P r base n (.cond c x y) Q ρ O:=by
 intro a w M D hM ha hi
 refine wpIn_cond (t:=t) (by rw[ha.eval];exact hc) ?_
 cases t
 ·exact h0 rfl a w M D hM ha hi
 ·exact h1 rfl a w M D hM ha hi
theorem cJ {c:Operand} {x y:Code} (h:T P r base n x Q ρ O) (hc:ev ρ c=.bool true:=by exact rfl):T P r base n (.cond c x y) Q ρ O:=
 T.cond hc (fun _=>h) (fun e=>by cases e)
theorem cK {c:Operand} {x y:Code} (h:T P r base n y Q ρ O) (hc:ev ρ c=.bool false:=by exact rfl):T P r base n (.cond c x y) Q ρ O:=
 T.cond hc (fun e=>by cases e) (fun _=>h)
theorem aH {c:Operand} {x y:Code} {p:Prop} [Decidable p] (hc:ev ρ c=.bool (decide p)) (h1:p→T P r base n x Q ρ O) (h0: ¬p→T P r base n y Q ρ O):T P r base n (.cond c x y) Q ρ O:=
 T.cond hc (fun e=>h1 (of_decide_eq_true e)) (fun e=>h0 (of_decide_eq_false e))
theorem aw {id:Nat} {c:Code} (h:T P r base n c (inB id Q) ρ O):T P r base n (.block id c) Q ρ O:=by
 intro a w M D hM ha hi
 refine wpIn_block (wpIn_mono (h a w M D hM ha hi) ?_)
 rintro e a' w' ⟨jz,O',D',h1,h2,h3⟩
 cases e with
 |exit Zu=>
  simp only[Exit.inBlock]
  simp only[inB]at h3
  by_cases e:Zu=id
  ·subst e
   rw[aA rfl]
   rw[Nat.beq_refl]at h3
   exact⟨jz,O',D',h1,h2,h3⟩
  ·rw[ar e]
   have hb:Nat.beq Zu id=false:=by
    rcases h':Nat.beq Zu id with _|_
    ·rfl
    ·exact absurd (Nat.eq_of_beq_eq_true h') e
   rw[hb]at h3
   exact⟨jz,O',D',h1,h2,h3⟩
 |_=>exact⟨jz,O',D',h1,h2,h3⟩
theorem cX {c:Code} {α:Type} (I:α→Env→List Item→Prop) (μ:α→Nat) (s:α) (h0:I s ρ O)
  (h: ∀s ρ O,I s ρ O→T P r base n c (so (fun jz O'=> ∃s',μ s'<μ s∧I s' jz O') Q) ρ O):T P r base n (.loop c) Q ρ O:=by
 have key: ∀(m:Nat) (s:α) (ρ:Env) (O:List Item) (a:Act) (w:World) (M:List Item) (D:List Nat),μ s=m→I s ρ O→MOk r M→Ag n (mD D) a ρ→Inv base (O++(mI D++M)) w→
   ∀(b:Frame) (k:List Go.Item) (cs:List Frame),b.roundOf=(Fr r).round→(Fr r).fn b.fn→(Fr r).room (cs.length+1+0)→
    ∃e a' w',lift base n M Q e a' w'∧ArrivesIn (Machine.fenced P (Fr r)) P (lone (b.atR a (.code c::.inLoop c::k)) cs w) b k cs e a' w':=by
  intro m
  induction m using Nat.strongRecOn with
  |_ m ih=>
   intro s ρ O a w M D hm hI hM ha hi b k cs UT hb hr
   obtain⟨e,a₁,wF,hq,sS⟩:=h s ρ O hI a w M D hM ha hi b (.inLoop c::k) cs UT hb hr
   obtain⟨AP,Ks,Kt,AQ,AR,hq⟩:=hq
   cases e with
   |normal=>
    obtain⟨s',fM,x5⟩:=hq
    obtain⟨agz,a₂,agA,abl,RL⟩:=ih (μ s') (hm▸fM) s' AP Ks a₁ wF M Kt rfl x5 hM AQ AR b k cs UT hb hr
    exact⟨agz,a₂,agA,abl,.of_steps (StepsIn.trans sS (.one (fenced_calm hb hr rfl) stepR_inLoop)) RL⟩
   |exit id=>exact⟨_,a₁,wF,⟨AP,Ks,Kt,AQ,AR,hq⟩,.pass (x:=.inLoop c) rfl (fun _ _=>.inl (by simp)) sS⟩
   |goto l=>exact⟨_,a₁,wF,⟨AP,Ks,Kt,AQ,AR,hq⟩,.pass (x:=.inLoop c) rfl (fun _ _=>.inl (by simp)) sS⟩
   |ret=>exact⟨_,a₁,wF,⟨AP,Ks,Kt,AQ,AR,hq⟩,.pass (x:=.inLoop c) rfl (fun _ _=>.inl (by simp)) sS⟩
   |panic ch=>exact⟨_,a₁,wF,⟨AP,Ks,Kt,AQ,AR,hq⟩,.pass (x:=.inLoop c) rfl (fun _ _=>.inl (by simp)) sS⟩
   |outgrown=>exact⟨_,a₁,wF,⟨AP,Ks,Kt,AQ,AR,hq⟩,.pass (x:=.inLoop c) rfl (fun _ _=>.inl (by simp)) sS⟩
 intro a w M D hM ha hi b k cs UT hb hr
 obtain⟨e,a',w',hq,sS⟩:=key _ s ρ O a w M D rfl h0 hM ha hi b k cs UT hb hr
 exact⟨e,a',w',hq,.of_steps (.one (fenced_calm hb hr rfl) stepR_loop) sS⟩
theorem kH {b:Frame} {a:Act} {k:List Go.Item} {cs:List Frame} {w:World} {c:Code}:step P (lone (b.atR a (.code (.scope c)::k)) cs w)=.next (lone (b.atR a (.code c::.inScope c::k)) cs w):=
 step_lone_go (by simp[stepG,stepG.exec,Frame.atR])
theorem Ac {b:Frame} {a:Act} {k:List Go.Item} {cs:List Frame} {w:World} {c:Code}:step P (lone (b.atR a (.inScope c::k)) cs w)=.next (lone (b.atR a k) cs w):=
 step_lone_go (by simp[stepG,stepG.exec,Frame.atR])
theorem T.scope {c:Code} (h:T P r base n c Q ρ O) (hg: ∀l ρ O,¬Q (.goto l) ρ O):T P r base n (.scope c) Q ρ O:=by
 intro a w M D hM ha hi b k cs UT hb hr
 obtain⟨e,a₁,wF,hq,sS⟩:=h a w M D hM ha hi b (.inScope c::k) cs UT hb hr
 have h0:(lone (b.atR a (.code (.scope c)::k)) cs w).fenced P (Fr r):=fenced_calm hb hr rfl
 cases e with
 |normal=>exact⟨.normal,a₁,wF,hq,.head h0 kH (StepsIn.trans sS (.one (fenced_calm hb hr rfl) Ac))⟩
 |exit id=>
  have hx:exitTo id (.inScope c::k)=exitTo id k:=by simp[exitTo]
  exact⟨.exit id,a₁,wF,hq,fun k' hk=>.head h0 kH (sS.1 k' (by rw[hx];exact hk)),
   fun WX hk=>let⟨agB,h1,h2⟩:=sS.2 WX (by rw[hx];exact hk);⟨agB,h1,.head h0 kH h2⟩⟩
 |goto l=>obtain⟨jz,O',D',_,_,h3⟩:=hq;exact(hg l jz O' h3).elim
 |ret=>exact⟨_,a₁,wF,hq,.of_steps (.one h0 kH) sS⟩
 |panic ch=>exact⟨_,a₁,wF,hq,.of_steps (.one h0 kH) sS⟩
 |outgrown=>exact⟨_,a₁,wF,hq,.of_steps (.one h0 kH) sS⟩
def QT (P:Program) (base:World) (o:Oper) (ρ:Env) (O:List Item) (v:Value):Prop:=
 ∀w,Inv base O w→(execOp (ev ρ) o).run P w=.ok (.value v) w
def LT (P:Program) (r:Option Nat) (base:World) (n:Nat) (o:Oper) (ρ:Env) (O:List Item) (K:Env→List Item→Prop):Prop:=
 ∀a w M ds,Ag n ds a ρ→Inv base (O++M) w→ ∀(next:Act→World→Prop) (Qx:Exit→Act→World→Prop),
  (∀a' jz O' w',Ag n ds a' jz→Inv base (O'++M) w'→K jz O'→next a' w')→o.wpIn (Fr r) 0 P a w next Qx
theorem rK {o:Oper} {a:Act} {w:World} {next:Act→World→Prop} {Qx:Exit→Act→World→Prop} (hd: ∀c,o.op≠.defer c)
  (h:o.uponIn (Fr r) 0 P a next Qx ((execOp a.eval o).run P w)):o.wpIn (Fr r) 0 P a w next Qx:=
 ⟨fun _ _=>trivial,by rw[Oper.semAt_eq _ _ _ hd];exact h⟩
theorem x6 {o:Oper} {e:Operand→Value} {w:World} {x:Next} {w':World} (h:(execOp e o).run P w=.ok x w') (hx: ∀d,x≠.defer d): ∀c,o.op≠.defer c:=by
 intro c ec
 unfold execOp at h
 simp only[ec]at h
 rw[Sem.run_bind]at h
 cases hr:(resolve e c o.type).run P w with
 |ok d w1=>rw[hr]at h;simp[Result.andThen]at h;exact hx _ h.1.symm
 |halt y w1=>rw[hr]at h;simp[Result.andThen]at h
abbrev PX:=List PanicEntry→Prop
def TO (X:PX) (P:Program) (r:Option Nat) (base:World) (n:Nat) (ops:Array Oper) (l:List Oper) (K:Env→List Item→Prop) (ρ:Env) (O:List Item):Prop:=
 ∀(Q:iT) a w M D,(∀ρ O,K ρ O→Q .normal ρ O)∧(∀c ρ,X c→Q (.panic c) ρ [])→Ag n (mD D) a ρ→Inv base (O++(mI D++M)) w→wpListIn (Fr r) 0 P ops (lift base n M Q) l a w
theorem aJ {id:Nat} {l:List Oper} (h:TO (fun c=> ∀ρ,Q (.panic c) ρ []) P r base n l.toArray l (fun ρ O=>Q .normal ρ O) ρ O):T P r base n (.region id l.toArray false) Q ρ O:=
 fun a w M D _ ha hi=>wpIn_region_lit (h Q a w M D ⟨fun _ _ h=>h,fun _ ρ h=>h ρ⟩ ha hi)
variable {X:PX}
theorem TO.nl {ops:Array Oper} {K:Env→List Item→Prop} (h:K ρ O):TO X P r base n ops [] K ρ O:=
 fun _ _ _ _ D hk ha hi=>wpListIn_nil ⟨ρ,O,D,ha,hi,hk.1 _ _ h⟩
def IX:Value→Option Bool
 | .bool b=>some b
 |_=>none
theorem lJ {a:Act} {ds:List Deferred} {ops:Array Oper} (ha:Ag n ds a ρ) {j t:Nat} (hj:(ops[j]?).bind (·.dst)=some t):yielded ops a.tmps j=IX (ρ t):=by
 have h:=ha.tmp t
 unfold yielded
 rw[hj]
 rw[dh]at h
 rw[←h]
 show(match a.tmps[t]? with|some (.bool b)=>some b|_=>none)=_
 cases a.tmps[t]? with
 |none=>rfl
 |some v=>cases v<;>rfl
theorem Inv.left {M:List Item} {w:World} (h:Inv base (O++M) w):Inv base O w:=h.sub (List.sublist_append_left O M)
theorem iE {o:Oper} {d:Nat} {v:Value} {K:Env→List Item→Prop} (hd:o.dst=some d) (hn:Nat.blt d n=true) (h:QT P base o ρ O v) (hk:K (js ρ d v) O):LT P r base n o ρ O K:=by
 intro a w M ds ha hi next Qx ik
 have hr:=h w hi.left
 rw[←ha.eval]at hr
 refine rK (x6 hr (by simp)) ?_
 rw[hr]
 show next (a.put o.dst v) w
 rw[hd]
 exact ik _ _ _ _ (ha.put hn v) hi hk
theorem au {ops:Array Oper} {l:List Oper} {K:Env→List Item→Prop} {o:Oper} (h:LT P r base n o ρ O (fun jz O'=>TO X P r base n ops l K jz O')) (hg:o.guard=none:=by exact rfl):TO X P r base n ops (o::l) K ρ O:=
 fun Q a w M D hk ha hi=>wpListIn_plain hg fun next ik=>h a w _ _ ha hi next _ fun a' _ _ w' h1 h2 h3=>ik a' w' (h3 Q a' w' M D hk h1 h2)
theorem ad {ops:Array Oper} {l:List Oper} {K:Env→List Item→Prop} {d:Nat} {op:Op} {t:TypeId} {p:String} {af:Array Edge} {v:Value}
  (h:QT P base ⟨some d,op,t,p,af,none⟩ ρ O v) (hk:TO X P r base n ops l K (js ρ d v) O) (hn:Nat.blt d n=true:=by rfl):TO X P r base n ops (⟨some d,op,t,p,af,none⟩::l) K ρ O:=
 au (iE rfl hn h hk)
theorem fD {ops:Array Oper} {l:List Oper} {K:Env→List Item→Prop} {o:Oper} {j tj:Nat} {want:Bool} (hg:o.guard=some (j,want))
  (hj:(ops[j]?).bind (·.dst)=some tj) (hw:ρ tj=.bool want)
  (h:LT P r base n o ρ O (fun jz O'=>TO X P r base n ops l K jz O')):TO X P r base n ops (o::l) K ρ O:=by
 intro Q a w M D hk ha hi
 refine wpListIn_step fun next ik=>?_
 have hy:=lJ (ops:=ops) ha hj
 rw[hw]at hy
 have x7:Region.wanted o (yielded ops a.tmps)=true:=by unfold Region.wanted;rw[hg];simp[hy,IX]
 rw[aA x7]
 exact h a w _ _ ha hi next _ fun a' _ _ w' h1 h2 h3=>ik a' w' (h3 Q a' w' M D hk h1 h2)
theorem dt {ops:Array Oper} {l:List Oper} {K:Env→List Item→Prop} {d:Nat} {op:Op} {t:TypeId} {p:String} {af:Array Edge} {j tj:Nat} {want:Bool}
  (hk:TO X P r base n ops l K (js ρ d undef) O) (hj:(ops[j]?).bind (·.dst)=some tj:=by exact rfl) (hw:(IX (ρ tj)==some want)=false:=by exact rfl) (hn:Nat.blt d n=true:=by rfl):
  TO X P r base n ops (⟨some d,op,t,p,af,some (j,want)⟩::l) K ρ O:=by
 intro Q a w M D hq ha hi
 refine wpListIn_step fun next ik=>?_
 have hy:=lJ (ops:=ops) ha hj
 have x7:Region.wanted ⟨some d,op,t,p,af,some (j,want)⟩ (yielded ops a.tmps)=false:=by unfold Region.wanted;simp only[hy];exact hw
 rw[x7]
 exact⟨fun _ _=>trivial,ik _ _ (hk Q _ _ M D hq (ha.put hn undef) hi)⟩
end abk
def ke (ops:Array Oper):Bool:=ops.all fun o=>match o.op with| .defer _=>false|_=>true
theorem pJ {ops:Array Oper} (h:ke ops=true) {j:Nat} {o:Oper} (hj:ops[j]? =some o): ∀c,o.op≠.defer c:=by
 intro c e
 unfold ke at h
 rw[Array.all_eq_true']at h
 have:=h o (Array.mem_of_getElem? hj)
 rw[e]at this
 cases this
def Ku (P:Program) (r:Option Nat) (ops:Array Oper) (C:Array Bool→World→Prop) (Q:Exit→Act→World→Prop):Nat→Array Bool→Act→World→Prop
 |0,listed,a,w=>Region.ready .any ops listed=[]∧Q .normal a w
 |fV+1,listed,a,w=>
  (Region.ready .any ops listed=[]→Q .normal a w)∧
  ∀i∈Region.ready .any ops listed,wpOpIn (Fr r) 0 P ops Q i (fun a' w'=>C (listed.setIfInBounds i true) w'∧Ku P r ops C Q fV (listed.setIfInBounds i true) a' w') a w
theorem lO {P:Program} {r:Option Nat} {ops:Array Oper} {C:Array Bool→World→Prop} {Q:Exit→Act→World→Prop}: ∀(fV:Nat) (listed:Array Bool) (a:Act) (w:World),
  Ku P r ops C Q fV listed a w→wpAnyIn (Fr r) 0 P .any ops Q fV listed a w
 |0,_,_,_,h=>h
 |fV+1,_,_,_,h=>⟨h.1,fun i hi=>wpOpIn_mono (fun a' w' h'=>lO fV _ a' w' h'.2) (h.2 i hi)⟩
def closed (ops:Array Oper) (listed:Array Bool):Prop:= ∀k o,listed.getD k false=true→ops[k]? =some o→ ∀e∈o.after,Region.binds .any e=true→listed.getD e.on false=true
theorem pK (ops:Array Oper) (m:Nat):closed ops (Array.replicate m false):=fun k o h=>by
 rw[dh,Array.getElem?_replicate]at h
 split at h<;>simp at h
theorem jA {ops:Array Oper} {listed:Array Bool} {i:Nat} (h:closed ops listed) (hi:i∈Region.ready .any ops listed):closed ops (listed.setIfInBounds i true):=by
 intro k o hk ho e he hb
 obtain⟨_,oi,hoi,kL⟩:=mem_ready.1 hi
 by_cases hki:i=k
 ·subst hki
  rw[ho]at hoi;cases hoi
  exact getD_set_true (kL e he hb)
 ·rw[getD_set_ne false hki]at hk
  exact getD_set_true (h k o hk ho e he hb)
def tR:List Edge→Nat
 | []=>0
 |e::l=>(if Region.binds .any e=true then 1<<<e.on else 0)|||tR l
theorem vh {k:Nat}: ∀ {l:List Edge},(tR l).testBit k=true→ ∃e∈l,Region.binds .any e=true∧e.on=k
 | [],h=>by simp[tR]at h
 |e::l,h=>by
  rw[tR,Nat.testBit_or,Bool.or_eq_true]at h
  rcases h with h|h
  ·by_cases hb:Region.binds .any e=true
   ·rw[aA hb,Nat.one_shiftLeft,Nat.testBit_two_pow,bo]at h
    exact⟨e,by simp,hb,h⟩
   ·rw[ar hb]at h;simp at h
  ·obtain⟨e',h1,h2⟩:=vh h
   exact⟨e',by simp[h1],h2⟩
def mR (ops:Array Oper) (j:Nat):Nat:=match ops[j]? with
 |some o=>tR o.after.toList
 |none=>0
theorem n5 {ops:Array Oper} {j k:Nat} (h:(mR ops j).testBit k=true): ∃o,ops[j]? =some o∧ ∃e∈o.after,Region.binds .any e=true∧e.on=k:=by
 unfold mR at h
 cases ho:ops[j]? with
 |none=>rw[ho]at h;simp at h
 |some o=>
  rw[ho]at h
  obtain⟨e,h1,h2⟩:=vh h
  exact⟨o,rfl,e,by simpa using h1,h2⟩
def Ni (ops:Array Oper):Nat→Nat→Nat
 |0,m=>m
 |j+1,m=>Ni ops j (if m.testBit j=true then m|||mR ops j else m)
theorem vi {ops:Array Oper} {listed:Array Bool} (hc:closed ops listed): ∀(n m:Nat),(∀k,m.testBit k=true→listed.getD k false=true)→ ∀k,(Ni ops n m).testBit k=true→listed.getD k false=true
 |0,_,h=>h
 |j+1,m,h=>by
  refine vi hc j _ fun k hk=>?_
  by_cases hj:m.testBit j=true
  ·rw[aA hj,Nat.testBit_or,Bool.or_eq_true]at hk
   rcases hk with hk|hk
   ·exact h k hk
   ·obtain⟨o,ho,e,he,hb,rfl⟩:=n5 hk
    exact hc j o (h j hj) ho e he hb
  ·rw[ar hj]at hk;exact h k hk
def qR (ops:Array Oper) (tl:List Nat) (i:Nat):Bool:=tl.all fun b=>(Ni ops ops.size (mR ops b)).testBit i
theorem Hj {ops:Array Oper} {tl:List Nat} {i:Nat} {listed:Array Bool} (ht:qR ops tl i=true) (hc:closed ops listed) {b:Nat} (hb:b∈tl) (hr:b∈Region.ready .any ops listed):listed.getD i false=true:=by
 simp only[qR,fi]at ht
 have h1:=ht b hb
 obtain⟨_,o,ho,kL⟩:=mem_ready.1 hr
 refine vi hc ops.size _ ?_ i h1
 intro q hq
 obtain⟨o2,UU,e,he,hb,rfl⟩:=n5 hq
 rw[ho]at UU;cases UU
 exact kL e he hb
theorem x_ {ops:Array Oper} {tl:List Nat} {i:Nat} {listed:Array Bool} (ht:qR ops tl i=true) (hc:closed ops listed) {b:Nat} (hb:b∈tl) (hl:listed.getD b false=true):listed.getD i false=true:=by
 simp only[qR,fi]at ht
 have h1:=ht b hb
 refine vi hc ops.size _ ?_ i h1
 intro q hq
 obtain⟨o,ho,e,he,hb,rfl⟩:=n5 hq
 exact hc b o hl ho e he hb
structure i_ (base:World) (S:List Item) (tail:List Nat) (S2:List Item) (dz:List Nat) (listed:Array Bool) (w:World):Prop where
 Es:Inv base [] w
 one:(tail.any fun b=>listed.getD b false)=true∨Inv base S w
 two:(dz.any fun b=>listed.getD b false)=true∨Inv base S2 w
theorem Et {tail:List Nat} {listed:Array Bool} {i:Nat} (hi:i∉tail) (h:(tail.any fun b=>(listed.setIfInBounds i true).getD b false)=true):(tail.any fun b=>listed.getD b false)=true:=by
 rw[fH]at h⊢
 obtain⟨b,hb,hl⟩:=h
 exact⟨b,hb,by rwa[getD_set_ne (i:=i) (j:=b) false (fun e=>hi (e▸hb))]at hl⟩
theorem i_.keep {base:World} {S S2:List Item} {tail dz:List Nat} {listed:Array Bool} {w:World} {i:Nat} (hi:i∉tail) (AS:i∉dz) (h:i_ base S tail S2 dz (listed.setIfInBounds i true) w):i_ base S tail S2 dz listed w:=
 ⟨h.Es,h.one.imp (Et hi) id,h.two.imp (Et AS) id⟩
def YC (P:Program) (ops:Array Oper) (C:World→Prop) (o:Oper) (v:Value) (a:Act):Prop:=
 (Region.wanted o (yielded ops a.tmps)=true∧ ∀w,C w→(execOp a.eval o).run P w=.ok (.value v) w)∨
 (Region.wanted o (yielded ops a.tmps)=false∧v=undef)
theorem YC.wpOp {P:Program} {r:Option Nat} {ops:Array Oper} {C:World→Prop} {Q:Exit→Act→World→Prop} {i:Nat} {o:Oper} {v:Value} {a:Act} (hi:ops[i]? =some o) (kO: ∀c,o.op≠.defer c) (hy:YC P ops C o v a)
  {K:Act→World→Prop} {w:World} (hC:C w) (h:K (a.put o.dst v) w):wpOpIn (Fr r) 0 P ops Q i K a w:=by
 unfold Go.wpOpIn
 simp only[hi]
 rcases hy with⟨hw,hv⟩|⟨hw,rfl⟩
 ·simp only[hw,if_true]
  refine rK kO ?_
  rw[hv w hC];exact h
 ·simp only[hw,Bool.false_eq_true,if_false];exact⟨fun _ _=>trivial,h⟩
theorem YC.of_same {P:Program} {ops:Array Oper} {C:World→Prop} {o:Oper} {v:Value} {a a':Act} (hy:YC P ops C o v a) (he:execOp a'.eval o=execOp a.eval o)
  (hw:Region.wanted o (yielded ops a'.tmps)=Region.wanted o (yielded ops a.tmps)):YC P ops C o v a':=by
 unfold YC at*
 rw[he,hw]
 exact hy
theorem Kv {P:Program} {r:Option Nat} {ops:Array Oper} {C:World→Prop} {Q:Exit→Act→World→Prop} {j:Nat} {oi oj:Oper} {v:Value} (hj:ops[j]? =some oj) (hap:oi.apart ops oj=true)
  (Mf: ∀cs b,oi.op≠.select cs b) (hsj: ∀cs b,oj.op≠.select cs b) (hdj: ∀c,oj.op≠.defer c)
  (hQ: ∀c a a' w,a'.defers=a.defers→a'.tmps.size=a.tmps.size→Q (.panic c) a w→Q (.panic c) a' w) {K:Act→World→Prop} {a:Act} {w:World}
  (hy:YC P ops C oi v a) (h:wpOpIn (Fr r) 0 P ops Q j (fun a' w'=>C w'∧K a' w') (a.put oi.dst v) w):
  wpOpIn (Fr r) 0 P ops Q j (fun a' w'=>C w'∧YC P ops C oi v a'∧K (a'.put oi.dst v) w') a w:=by
 obtain⟨h1,h2,h3⟩:=Oper.apart_spec hap
 have keep: ∀(a:Act),YC P ops C oi v a→ ∀u,YC P ops C oi v (a.put oj.dst u):=fun a hy u=>
  hy.of_same (execOp_put oi Mf a oj.dst u h3) (wanted_put oi a oj.dst u h3)
 have abo: ∀d,YC P ops C oi v {a with defers:=d::a.defers}:=fun d=>hy.of_same rfl rfl
 unfold wpOpIn at*
 simp only[hj]at*
 rw[wanted_put oj a oi.dst v h1]at h
 split
 ·rename_i hw
  simp only[hw,if_true]at h
  have h:=h.2
  rw[Oper.semAt_eq _ _ _ hdj,execOp_put oj hsj a oi.dst v h1]at h
  refine rK hdj ?_
  generalize(execOp a.eval oj).run P w=r at*
  cases r with
  |ok n w'=>
   cases n<;>simp only[Oper.uponIn]at h⊢
   case value u=>exact⟨h.1,keep a hy u,by rw[←Act.put_comm a v u h2];exact h.2⟩
   case skip=>exact⟨h.1,keep a hy _,by rw[←Act.put_comm a v undef h2];exact h.2⟩
   case defer d=>
    refine⟨h.1,keep _ (abo d) _,?_⟩
    rw[←Act.put_comm _ v undef h2,←Act.put_defers]
    exact h.2
   case enter f args=>
    refine⟨h.1,CallsIn.mono h.2 fun e w'' he=>?_⟩
    cases e with
    |returned u=>exact⟨he.1,keep a hy u,by rw[←Act.put_comm a v u h2];exact he.2⟩
    |panicked c=>exact hQ _ (a.put oi.dst v) a _ (by cases oi.dst<;>rfl) (by cases oi.dst<;>simp[Act.put]) he
    |outgrown=>exact he
   case row row args=>exact⟨h.1,RowsIn.mono h.2 fun u w'' he=>⟨he.1,keep a hy u,by rw[←Act.put_comm a v u h2];exact he.2⟩⟩
   case round l f tmps assign body=>
    refine⟨h.1,RoundIn.mono h.2 fun e w'' he=>?_⟩
    cases e with
    |returned u=>exact⟨he.1,keep a hy u,by rw[←Act.put_comm a v u h2];exact he.2⟩
    |panicked c=>exact hQ _ (a.put oi.dst v) a _ (by cases oi.dst<;>rfl) (by cases oi.dst<;>simp[Act.put]) he
    |outgrown=>exact he
  |halt x w'=>
   cases x<;>simp only[Oper.uponIn]at h⊢
   case panic u=>exact hQ _ (a.put oi.dst v) a _ (by cases oi.dst<;>rfl) (by cases oi.dst<;>simp[Act.put]) h
 ·rename_i hw
  simp only[hw]at h
  exact⟨fun _ _=>trivial,h.2.1,keep a hy _,by rw[←Act.put_comm a v undef h2];exact h.2.2⟩
theorem Hk {P:Program} {r:Option Nat} {ops:Array Oper} {base:World} {S S2 Z:List Item} {tail dz zt:List Nat} {Q:Exit→Act→World→Prop} {i:Nat} {oi:Oper} {v:Value} (hi:ops[i]? =some oi) (nK:i∉tail) (WY:i∉dz) (ht:qR ops zt i=true)
  (hz: ∀listed w,i_ base S tail S2 dz listed w→(zt.any fun b=>listed.getD b false)=true∨Inv base Z w) (UR:i∉zt)
  (abp: ∀(j:Nat) (o:Oper) cs b,ops[j]? =some o→o.op≠.select cs b) (kO:ke ops=true) (hQ: ∀c a a' w,a'.defers=a.defers→a'.tmps.size=a.tmps.size→Q (.panic c) a w→Q (.panic c) a' w):
  ∀(fV:Nat) (listed:Array Bool) (a:Act) (w:World),closed ops listed→
   (∀j oj,ops[j]? =some oj→j≠i→listed.getD j true=false→(∀e∈oj.after,Region.binds .any e=true→e.on≠i)→oi.apart ops oj=true)→
   i∈Region.ready .any ops listed→YC P ops (Inv base Z) oi v a→Inv base Z w→i_ base S tail S2 dz listed w→
   Ku P r ops (i_ base S tail S2 dz) Q fV (listed.setIfInBounds i true) (a.put oi.dst v) w→Ku P r ops (i_ base S tail S2 dz) Q (fV+1) listed a w:=by
 have up: ∀ {listed:Array Bool} {w:World},i_ base S tail S2 dz listed w→i_ base S tail S2 dz (listed.setIfInBounds i true) w:=fun {listed w} h=>by
  have grow: ∀tl:List Nat,(tl.any fun b=>listed.getD b false)=true→(tl.any fun b=>(listed.setIfInBounds i true).getD b false)=true:=fun tl h=>by
   rw[fH]at h⊢
   obtain⟨b,hb,hl⟩:=h
   exact⟨b,hb,getD_set_true hl⟩
  exact⟨h.Es,h.one.imp (grow _) id,h.two.imp (grow _) id⟩
 intro fV
 induction fV with
 |zero=>
  intro listed a w nN _ hr hy hC hC0 H
  refine⟨fun h=>(by rw[h]at hr;cases hr),fun j hj=>?_⟩
  by_cases RM:j=i
  ·subst RM;exact hy.wpOp hi (pJ kO hi) hC ⟨up hC0,H⟩
  ·have:=ready_mono hj RM
   rw[H.1]at this
   cases this
 |succ fV ih=>
  intro listed a w nN UV hr hy hC hC0 H
  refine⟨fun h=>(by rw[h]at hr;cases hr),fun j hj=>?_⟩
  by_cases RM:j=i
  ·subst RM;exact hy.wpOp hi (pJ kO hi) hC ⟨up hC0,H⟩
  ·have WZ:=(mem_ready.1 hr).1
   have kK: ∀ {x:Array Bool},x.getD i true=false→x.getD i false=true→False:=fun {x} h1 h2=>by
    rcases Nat.lt_or_ge i x.size with h'|h'
    ·simp[h']at h1 h2;rw[h1]at h2;cases h2
    ·simp[Array.getElem?_eq_none h']at h2
   have hjt:j∉zt:=fun hjt=>kK WZ (Hj ht nN hjt hj)
   have h1:=H.2 j (ready_mono hj RM)
   obtain⟨abr,oj,W0,kL⟩:=mem_ready.1 hj
   have W1: ∀e∈oj.after,Region.binds .any e=true→e.on≠i:=fun e he hb heq=>by
    have h1:=kL e he hb
    rw[heq]at h1
    exact kK WZ h1
   have abt:(zt.any fun b=>(listed.setIfInBounds j true).getD b false)=false:=by
    rw[List.any_eq_false]
    intro b hb hl
    rw[getD_set_ne (i:=j) (j:=b) false (fun e=>hjt (e▸hb))]at hl
    exact kK WZ (x_ ht nN hb hl)
   have h1':wpOpIn (Fr r) 0 P ops Q j (fun a' w'=>Inv base Z w'∧(i_ base S tail S2 dz (listed.setIfInBounds j true) w'∧Ku P r ops (i_ base S tail S2 dz) Q fV ((listed.setIfInBounds i true).setIfInBounds j true) a' w')) (a.put oi.dst v) w:=by
    refine wpOpIn_mono (fun a' w' h3=>?_) h1
    have hc:=h3.1
    rw[Array.setIfInBounds_comm _ _ (Ne.symm RM)]at hc
    have UW:=hc.keep nK WY
    refine⟨?_,UW,h3.2⟩
    rcases hz _ _ UW with h|h
    ·rw[abt]at h;cases h
    ·exact h
   have h2:=Kv W0 (UV j oj W0 RM abr W1) (fun cs b=>abp i oi cs b hi) (fun cs b=>abp j oj cs b W0) (pJ kO W0) hQ hy h1'
   have W2: ∀k ok,ops[k]? =some ok→k≠i→(listed.setIfInBounds j true).getD k true=false→
     (∀e∈ok.after,Region.binds .any e=true→e.on≠i)→oi.apart ops ok=true:=fun k ok hk hki tC kK=>by
    refine UV k ok hk hki ?_ kK
    by_cases UX:j=k
    ·subst UX;exact abr
    ·rw[getD_set_ne true UX]at tC;exact tC
   refine wpOpIn_mono (fun a' w' h3=>⟨h3.2.2.1,ih (listed.setIfInBounds j true) a' w' (jA nN hj) W2 (ready_mono hr (Ne.symm RM)) h3.2.1 h3.1 h3.2.2.1 ?_⟩) h2
   rw[Array.setIfInBounds_comm _ _ RM]
   exact h3.2.2.2
structure PQ (X:PX) (Q:iT):Prop where
 ind: ∀c ρ jz O,Q (.panic c) ρ O→Q (.panic c) jz O
 pan: ∀c ρ,X c→Q (.panic c) ρ []
theorem PQ.lift {X:PX} {Q:iT} (h:PQ X Q) {base:World} {n:Nat} {M:List Item} (c:List PanicEntry) (a a':Act) (w:World) (hd:a'.defers=a.defers) (hs:a'.tmps.size=a.tmps.size) (hl:Lx.lift base n M Q (.panic c) a w):Lx.lift base n M Q (.panic c) a' w:=by
 obtain⟨ρ,O,D,ha,hI,hq⟩:=hl
 exact⟨fun t=>a'.tmps.getD t undef,O,D,⟨fun _=>rfl,hs.trans ha.size,hd.trans ha.defers⟩,hI,h.ind c ρ _ O hq⟩
def RO (X:PX) (P:Program) (r:Option Nat) (base:World) (n:Nat) (ops:Array Oper) (S:List Item) (tail:List Nat) (S2:List Item) (dz:List Nat) (fV:Nat) (listed:Array Bool) (K:Env→List Item→Prop) (ρ:Env) (O:List Item):Prop:=
 ∀(Q:iT) a w M D,(∀ρ O,K ρ O→Q .normal ρ O)→PQ X Q→Ag n (mD D) a ρ→Inv base (O++(mI D++M)) w→closed ops listed→i_ base S tail S2 dz listed w→Ku P r ops (i_ base S tail S2 dz) (lift base n M Q) fV listed a w
section
variable {X:PX} {P:Program} {r:Option Nat} {base:World} {n:Nat} {Q:iT} {ρ:Env} {O S S2:List Item} {tail dz:List Nat} {ops:Array Oper} {K:Env→List Item→Prop}
theorem Inv.Es {base:World} {O:List Item} {w:World} (h:Inv base O w):Inv base [] w:=h.sub (aX _)
theorem B_ {tl:List Nat} {listed:Array Bool} {i:Nat} (h:(tl.any fun b=>listed.getD b false)=true):(tl.any fun b=>(listed.setIfInBounds i true).getD b false)=true:=by
 rw[fH]at h⊢
 obtain⟨b,hb,hl⟩:=h
 exact⟨b,hb,getD_set_true hl⟩
theorem jB {fV:Nat} {listed:Array Bool} (i:Nat) {d:Nat} {op:Op} {t:TypeId} {p:String} {af:Array Edge} {g:Option (Nat×Bool)} {v:Value} {Z:List Item} {zt:List Nat} (hi:ops[i]? =some ⟨some d,op,t,p,af,g⟩)
  (hz: ∀listed w,i_ base S tail S2 dz listed w→(zt.any fun b=>listed.getD b false)=true∨Inv base Z w) (UR:i∉zt) (ht:qR ops zt i=true)
  (hs:Region.noSelect ops=true) (kO:ke ops=true) (nK:i∉tail) (WY:i∉dz) (hf:Region.free .any ops listed i=true) (hr:(Region.ready .any ops listed).contains i=true)
  (h: ∀ds a,Ag n ds a ρ→YC P ops (Inv base Z) ⟨some d,op,t,p,af,g⟩ v a) (hn:Nat.blt d n=true) (hk:RO X P r base n ops S tail S2 dz fV (listed.setIfInBounds i true) K (js ρ d v) O):
  RO X P r base n ops S tail S2 dz (fV+1) listed K ρ O:=by
 intro Q a w M D hq hp ha hI nN hS
 have WX:i∈Region.ready .any ops listed:=by simpa using hr
 have kK:listed.getD i false=true→False:=fun h2=>by
  have h1:=(mem_ready.1 WX).1
  rcases Nat.lt_or_ge i listed.size with h'|h'
  ·simp[h']at h1 h2;rw[h1]at h2;cases h2
  ·simp[Array.getElem?_eq_none h']at h2
 have hZ:Inv base Z w:=(hz _ _ hS).resolve_left (by
  intro h
  rw[fH]at h
  obtain⟨b,hb,hl⟩:=h
  exact kK (x_ ht nN hb hl))
 exact Hk hi nK WY ht hz UR (Region.noSelect_spec hs) kO hp.lift fV listed a w nN (Region.free_spec hi hf) WX (h _ a ha) hZ hS
  (hk Q _ w M D hq hp (ha.put hn v) hI (jA nN WX) ⟨hS.Es,hS.one.imp B_ id,hS.two.imp B_ id⟩)
theorem vj {fV:Nat} {listed:Array Bool} (i:Nat) {o:Oper} (hi:ops[i]? =some o) (hg:o.guard=none) (hr:Region.ready .any ops listed=[i])
  (h:LT P r base n o ρ O (fun jz O'=>(i∈tail∨Sub S O')∧(i∈dz∨Sub S2 O')∧RO X P r base n ops S tail S2 dz fV (listed.setIfInBounds i true) K jz O')):RO X P r base n ops S tail S2 dz (fV+1) listed K ρ O:=by
 intro Q a w M D hq hp ha hI nN hS
 refine⟨fun h0=>(by rw[hr]at h0;cases h0),fun j hj=>?_⟩
 rw[hr]at hj
 obtain rfl:j=i:=by simpa using hj
 have Hg:j∈Region.ready .any ops listed:=by rw[hr];simp
 have fM:j<listed.size:=by
  have:=(mem_ready.1 Hg).1
  rcases Nat.lt_or_ge j listed.size with h'|h'
  ·exact h'
  ·simp[Array.getElem?_eq_none h']at this
 unfold wpOpIn
 simp only[hi]
 rw[aA (by simp[Region.wanted,hg])]
 refine h a w _ _ ha hI _ _ fun a' jz O' w' h1 h2 h3=>?_
 have ya: ∀(tl:List Nat) (Z:List Item),(j∈tl∨Sub Z O')→(tl.any fun b=>(listed.setIfInBounds j true).getD b false)=true∨Inv base Z w':=fun tl Z h3=>by
  rcases h3 with h4|h4
  ·refine .inl (List.any_eq_true.2 ⟨j,h4,?_⟩)
   simp[fM]
  ·exact .inr (h2.left.mA h4)
 have tS:i_ base S tail S2 dz (listed.setIfInBounds j true) w':=⟨h2.Es,ya _ _ h3.1,ya _ _ h3.2.1⟩
 exact⟨tS,h3.2.2 Q a' w' M D hq hp h1 h2 (jA nN Hg) tS⟩
theorem AT {fV:Nat} {listed:Array Bool} (hr:Region.ready .any ops listed=[]) (h:K ρ O):RO X P r base n ops S tail S2 dz fV listed K ρ O:=by
 intro Q a w M D hq hp ha hI _ _
 cases fV with
 |zero=>exact⟨hr,ρ,O,D,ha,hI,hq _ _ h⟩
 |succ f=>exact⟨fun _=>⟨ρ,O,D,ha,hI,hq _ _ h⟩,by rw[hr];simp⟩
def ov (l:List (Nat×Nat)):List Nat:=(l.filter (·.2==2)).map (·.1)
def lP (l:List (Nat×Nat)):List Nat:=(l.filter fun q=>q.2==2||q.2==4).map (·.1)
def kf (ops:Array Oper) (tail dz:List Nat):List (Nat×Nat)→Array Bool→Bool
 | [],listed=>(Region.ready .any ops listed).isEmpty
 |(i,0)::l,listed=>qR ops tail i&&Region.free .any ops listed i&&(Region.ready .any ops listed).contains i&&kf ops tail dz l (listed.setIfInBounds i true)
 |(i,3)::l,listed=>qR ops dz i&&Region.free .any ops listed i&&(Region.ready .any ops listed).contains i&&kf ops tail dz l (listed.setIfInBounds i true)
 |(i,_)::l,listed=>(Region.ready .any ops listed== [i])&&kf ops tail dz l (listed.setIfInBounds i true)
def yd (ops:Array Oper) (l:List (Nat×Nat)):Bool:=Region.noSelect ops&&ke ops&&l.length==ops.size&&(l.all fun q=>(q.2==2||!(ov l).contains q.1)&&(q.2==2||q.2==4||!(lP l).contains q.1))&&kf ops (ov l) (lP l) l (Array.replicate ops.size false)
def DO (X:PX) (P:Program) (r:Option Nat) (base:World) (n:Nat) (ops:Array Oper) (S:List Item) (tail:List Nat) (S2:List Item) (dz:List Nat) (l:List (Nat×Nat)) (K:Env→List Item→Prop) (ρ:Env) (O:List Item):Prop:=
 Region.noSelect ops=true→ke ops=true→(∀q∈l,((q.2=2→q.1∈tail)∧(q.2≠2→q.1∉tail))∧((q.2=2∨q.2=4→q.1∈dz)∧(q.2≠2→q.2≠4→q.1∉dz)))→ ∀listed,kf ops tail dz l listed=true→RO X P r base n ops S tail S2 dz l.length listed K ρ O
theorem am {l:List (Nat×Nat)} {i:Nat} {d:Nat} {op:Op} {t:TypeId} {p:String} {af:Array Edge} {v:Value} (hi:ops[i]? =some ⟨some d,op,t,p,af,none⟩)
  (h:QT P base ⟨some d,op,t,p,af,none⟩ ρ S v) (hk:DO X P r base n ops S tail S2 dz l K (js ρ d v) O) (hn:Nat.blt d n=true:=by rfl):
  DO X P r base n ops S tail S2 dz ((i,0)::l) K ρ O:=fun hs kO hl listed hw=>by
 simp only[kf,aY]at hw
 have h0:=hl (i,0) (by simp)
 exact jB (zt:=tail) i hi (fun _ _ h=>h.one) (h0.1.2 (by simp)) hw.1.1.1 hs kO (h0.1.2 (by simp)) (h0.2.2 (by simp) (by simp)) hw.1.1.2 hw.1.2 (fun ds a ha=>.inl ⟨rfl,fun w hw=>by rw[ha.eval];exact h w hw⟩) hn (hk hs kO (fun q hq=>hl q (List.mem_cons_of_mem _ hq)) _ hw.2)
theorem ir {l:List (Nat×Nat)} {i:Nat} {d:Nat} {op:Op} {t:TypeId} {p:String} {af:Array Edge} {v:Value} (hi:ops[i]? =some ⟨some d,op,t,p,af,none⟩)
  (h:QT P base ⟨some d,op,t,p,af,none⟩ ρ S2 v) (hk:DO X P r base n ops S tail S2 dz l K (js ρ d v) O) (hn:Nat.blt d n=true:=by rfl):
  DO X P r base n ops S tail S2 dz ((i,3)::l) K ρ O:=fun hs kO hl listed hw=>by
 simp only[kf,aY]at hw
 have h0:=hl (i,3) (by simp)
 exact jB (zt:=dz) i hi (fun _ _ h=>h.two) (h0.2.2 (by simp) (by simp)) hw.1.1.1 hs kO (h0.1.2 (by simp)) (h0.2.2 (by simp) (by simp)) hw.1.1.2 hw.1.2 (fun ds a ha=>.inl ⟨rfl,fun w hw=>by rw[ha.eval];exact h w hw⟩) hn (hk hs kO (fun q hq=>hl q (List.mem_cons_of_mem _ hq)) _ hw.2)
theorem bg {l:List (Nat×Nat)} {i:Nat} {d:Nat} {op:Op} {t:TypeId} {p:String} {af:Array Edge} {v:Value} {j tj:Nat} {want:Bool} (hi:ops[i]? =some ⟨some d,op,t,p,af,some (j,want)⟩)
  (hj:(ops[j]?).bind (·.dst)=some tj) (hw:ρ tj=.bool want)
  (h:QT P base ⟨some d,op,t,p,af,some (j,want)⟩ ρ S v) (hk:DO X P r base n ops S tail S2 dz l K (js ρ d v) O) (hn:Nat.blt d n=true:=by rfl):
  DO X P r base n ops S tail S2 dz ((i,0)::l) K ρ O:=fun hs kO hl listed hb=>by
 simp only[kf,aY]at hb
 have h0:=hl (i,0) (by simp)
 refine jB (zt:=tail) i hi (fun _ _ h=>h.one) (h0.1.2 (by simp)) hb.1.1.1 hs kO (h0.1.2 (by simp)) (h0.2.2 (by simp) (by simp)) hb.1.1.2 hb.1.2 (fun ds a ha=>?_) hn (hk hs kO (fun q hq=>hl q (List.mem_cons_of_mem _ hq)) _ hb.2)
 have hy:=lJ (ops:=ops) ha hj
 rw[hw]at hy
 exact .inl ⟨by unfold Region.wanted;simp[hy,IX],fun w hw=>by rw[ha.eval];exact h w hw⟩
theorem aT {l:List (Nat×Nat)} {i:Nat} {d:Nat} {op:Op} {t:TypeId} {p:String} {af:Array Edge} {j tj:Nat} {want:Bool} (hi:ops[i]? =some ⟨some d,op,t,p,af,some (j,want)⟩)
  (hj:(ops[j]?).bind (·.dst)=some tj) (hw:(IX (ρ tj)==some want)=false)
  (hk:DO X P r base n ops S tail S2 dz l K (js ρ d undef) O) (hn:Nat.blt d n=true:=by rfl):
  DO X P r base n ops S tail S2 dz ((i,0)::l) K ρ O:=fun hs kO hl listed hb=>by
 simp only[kf,aY]at hb
 have h0:=hl (i,0) (by simp)
 refine jB (zt:=tail) i hi (fun _ _ h=>h.one) (h0.1.2 (by simp)) hb.1.1.1 hs kO (h0.1.2 (by simp)) (h0.2.2 (by simp) (by simp)) hb.1.1.2 hb.1.2 (fun ds a ha=>?_) hn (hk hs kO (fun q hq=>hl q (List.mem_cons_of_mem _ hq)) _ hb.2)
 have hy:=lJ (ops:=ops) ha hj
 exact .inr ⟨by unfold Region.wanted;simp only[hy];exact hw,rfl⟩
theorem Hl {l:List (Nat×Nat)} {i:Nat} {o:Oper} (hi:ops[i]? =some o) (hg:o.guard=none)
  (h:LT P r base n o ρ O (fun jz O'=>Sub S O'∧Sub S2 O'∧DO X P r base n ops S tail S2 dz l K jz O')):DO X P r base n ops S tail S2 dz ((i,1)::l) K ρ O:=fun hs kO hl listed hb=>by
 simp only[kf,aY,beq_iff_eq]at hb
 refine vj i hi hg hb.1 ?_
 intro a w M ds ha hI next Qx ik
 exact h a w M ds ha hI next Qx fun a' jz O' w' h1 h2 h3=>ik a' jz O' w' h1 h2 ⟨.inr h3.1,.inr h3.2.1,h3.2.2 hs kO (fun q hq=>hl q (List.mem_cons_of_mem _ hq)) _ hb.2⟩
theorem eH {l:List (Nat×Nat)} {i:Nat} {o:Oper} (hi:ops[i]? =some o) (hg:o.guard=none)
  (h:LT P r base n o ρ O (fun jz O'=>Sub S O'∧DO X P r base n ops S tail [] dz l K jz O')):DO X P r base n ops S tail [] dz ((i,1)::l) K ρ O:=
 Hl hi hg fun a w M ds ha hI next Qx ik=>h a w M ds ha hI next Qx fun a' jz O' w' h1 h2 h3=>ik a' jz O' w' h1 h2 ⟨h3.1,bj (aX _),h3.2⟩
theorem py {l:List (Nat×Nat)} {i:Nat} {o:Oper} (hi:ops[i]? =some o) (hg:o.guard=none)
  (h:LT P r base n o ρ O (fun jz O'=>Sub S O'∧DO X P r base n ops S tail S2 dz l K jz O')):DO X P r base n ops S tail S2 dz ((i,4)::l) K ρ O:=fun hs kO hl listed hb=>by
 simp only[kf,aY,beq_iff_eq]at hb
 refine vj i hi hg hb.1 ?_
 intro a w M ds ha hI next Qx ik
 exact h a w M ds ha hI next Qx fun a' jz O' w' h1 h2 h3=>ik a' jz O' w' h1 h2 ⟨.inr h3.1,.inl ((hl (i,4) (by simp)).2.1 (.inr rfl)),h3.2 hs kO (fun q hq=>hl q (List.mem_cons_of_mem _ hq)) _ hb.2⟩
theorem cG {l:List (Nat×Nat)} {i:Nat} {o:Oper} (hi:ops[i]? =some o) (hg:o.guard=none)
  (h:LT P r base n o ρ O (fun jz O'=>DO X P r base n ops S tail S2 dz l K jz O')):DO X P r base n ops S tail S2 dz ((i,2)::l) K ρ O:=fun hs kO hl listed hb=>by
 simp only[kf,aY,beq_iff_eq]at hb
 refine vj i hi hg hb.1 ?_
 intro a w M ds ha hI next Qx ik
 exact h a w M ds ha hI next Qx fun a' jz O' w' h1 h2 h3=>ik a' jz O' w' h1 h2 ⟨.inl ((hl (i,2) (by simp)).1.1 rfl),.inl ((hl (i,2) (by simp)).2.1 (.inl rfl)),h3 hs kO (fun q hq=>hl q (List.mem_cons_of_mem _ hq)) _ hb.2⟩
theorem cl (h:K ρ O):DO X P r base n ops S tail S2 dz [] K ρ O:=fun _ _ _ listed hb=>AT (by simpa[kf]using hb) h
theorem nh (S S2:List Item) (l:List (Nat×Nat)) {id:Nat} {ops:Array Oper} (hm:P.follows .mixedOrders=true) (hB:yd ops l=true) (hS:Sub S O) (Wq:Sub S2 O) (hp: ∀c ρ jz O,Q (.panic c) ρ O→Q (.panic c) jz O)
  (h:DO (fun c=> ∀ρ,Q (.panic c) ρ []) P r base n ops S (ov l) S2 (lP l) l (fun ρ O=>Q .normal ρ O) ρ O):T P r base n (.region id ops true) Q ρ O:=by
 simp only[yd,aY,beq_iff_eq]at hB
 obtain⟨⟨⟨⟨h1,kO⟩,h2⟩,h4⟩,h5⟩:=hB
 have hl: ∀q∈l,((q.2=2→q.1∈ov l)∧(q.2≠2→q.1∉ov l))∧((q.2=2∨q.2=4→q.1∈lP l)∧(q.2≠2→q.2≠4→q.1∉lP l)):=fun q hq=>by
  have:=List.all_eq_true.1 h4 q hq
  simp only[aY,Bool.or_eq_true,beq_iff_eq,Bool.not_eq_true',List.contains_eq_mem,decide_eq_false_iff_not]at this
  refine⟨⟨fun e=>List.mem_map.2 ⟨q,List.mem_filter.2 ⟨hq,by simp[e]⟩,rfl⟩,fun e=>this.1.resolve_left e⟩,fun e=>List.mem_map.2 ⟨q,List.mem_filter.2 ⟨hq,by rcases e with e|e<;>simp[e]⟩,rfl⟩,fun e e2=>this.2.resolve_left (fun h=>h.elim e e2)⟩
 have:=h h1 kO hl _ h5
 rw[h2]at this
 intro a w M D _ ha hi
 refine wpIn_region_any hm (lO _ _ _ _ (this Q a _ M D (fun _ _ h=>h) ⟨hp,fun _ ρ h=>h ρ⟩ ha (hi.drawn _) (pK _ _) ⟨(hi.drawn _).Es,.inr ((hi.drawn _).left.mA hS),.inr ((hi.drawn _).left.mA Wq)⟩))
theorem AU (S:List Item) (l:List (Nat×Nat)) {id:Nat} {ops:Array Oper} (hm:P.follows .mixedOrders=true) (hB:yd ops l=true) (hS:Sub S O) (hp: ∀c ρ jz O,Q (.panic c) ρ O→Q (.panic c) jz O)
  (h:DO (fun c=> ∀ρ,Q (.panic c) ρ []) P r base n ops S (ov l) [] (lP l) l (fun ρ O=>Q .normal ρ O) ρ O):T P r base n (.region id ops true) Q ρ O:=
 nh S [] l hm hB hS (bj (aX _)) hp h
def Kw (p:Nat→Prop):List Nat→Prop
 | []=>True
 |i::is=>p i∧Kw p is
theorem Kw.mem {p:Nat→Prop}: ∀ {is:List Nat},Kw p is→ ∀i∈is,p i
 |i::is,h,j,hj=>by
  rcases List.mem_cons.1 hj with rfl|hj
  ·exact h.1
  ·exact Kw.mem h.2 j hj
theorem aZ {fV:Nat} {listed:Array Bool} (is:List Nat) (hr:Region.ready .any ops listed=is) (h0:is.isEmpty=false)
  (h:Kw (fun i=> ∃o,ops[i]? =some o∧o.guard=none∧LT P r base n o ρ O (fun jz O'=>Sub S O'∧RO X P r base n ops S [] [] [] fV (listed.setIfInBounds i true) K jz O')) is):RO X P r base n ops S [] [] [] (fV+1) listed K ρ O:=by
 intro Q a w M D hq hp ha hI nN hS
 refine⟨fun h1=>?_,fun j hj=>?_⟩
 ·rw[hr]at h1;subst h1;cases h0
 obtain⟨o,hi,hg,hl⟩:=h.mem j (hr▸hj)
 unfold wpOpIn
 simp only[hi]
 rw[aA (by simp[Region.wanted,hg])]
 refine hl a w _ _ ha hI _ _ fun a' jz O' w' h1 h2 h3=>?_
 have tS:i_ base S [] [] [] (listed.setIfInBounds j true) w':=⟨h2.Es,.inr (h2.left.mA h3.1),.inr h2.Es⟩
 exact⟨tS,h3.2 Q a' w' M D hq hp h1 h2 (jA nN hj) tS⟩
theorem aO {fV:Nat} {listed:Array Bool} (i:Nat) {d:Nat} {op:Op} {t:TypeId} {p:String} {af:Array Edge} {v:Value} (hi:ops[i]? =some ⟨some d,op,t,p,af,none⟩)
  (hb:(Region.noSelect ops&&ke ops&&Region.free .any ops listed i&&(Region.ready .any ops listed).contains i)=true)
  (h:QT P base ⟨some d,op,t,p,af,none⟩ ρ S v) (hk:RO X P r base n ops S [] [] [] fV (listed.setIfInBounds i true) K (js ρ d v) O) (hn:Nat.blt d n=true:=by rfl):
  RO X P r base n ops S [] [] [] (fV+1) listed K ρ O:=by
 simp only[aY]at hb
 exact jB (zt:=[]) i hi (fun _ _ h=>h.one) (by simp) rfl hb.1.1.1 hb.1.1.2 (by simp) (by simp) hb.1.2 hb.2 (fun ds a ha=>.inl ⟨rfl,fun w hw=>by rw[ha.eval];exact h w hw⟩) hn hk
theorem fW {fV:Nat} {listed:Array Bool} (is:List Nat) (hr:Region.ready .any ops listed=is) (h0:is.isEmpty=false)
  (h:Kw (fun i=> ∃o,ops[i]? =some o∧o.guard=none∧LT P r base n o ρ O (fun jz O'=>(i∈tail∨Sub S O')∧RO X P r base n ops S tail [] [] fV (listed.setIfInBounds i true) K jz O')) is) (jn:is.all (fun i=>Nat.blt i listed.size)=true):RO X P r base n ops S tail [] [] (fV+1) listed K ρ O:=by
 intro Q a w M D hq hp ha hI nN hS
 refine⟨fun h1=>?_,fun j hj=>?_⟩
 ·rw[hr]at h1;subst h1;cases h0
 obtain⟨o,hi,hg,hl⟩:=h.mem j (hr▸hj)
 have fM:j<listed.size:=by
  have:=List.all_eq_true.1 jn j (hr▸hj)
  rwa[Nat.blt_eq]at this
 unfold wpOpIn
 simp only[hi]
 rw[aA (by simp[Region.wanted,hg])]
 refine hl a w _ _ ha hI _ _ fun a' jz O' w' h1 h2 h3=>?_
 have ya:(tail.any fun b=>(listed.setIfInBounds j true).getD b false)=true∨Inv base S w':=by
  rcases h3.1 with h4|h4
  ·refine .inl (List.any_eq_true.2 ⟨j,h4,?_⟩)
   simp[fM]
  ·exact .inr (h2.left.mA h4)
 have tS:i_ base S tail [] [] (listed.setIfInBounds j true) w':=⟨h2.Es,ya,.inr h2.Es⟩
 exact⟨tS,h3.2 Q a' w' M D hq hp h1 h2 (jA nN hj) tS⟩
theorem eZ {fV:Nat} {listed:Array Bool} (i:Nat) {d:Nat} {op:Op} {t:TypeId} {p:String} {af:Array Edge} {v:Value} (hi:ops[i]? =some ⟨some d,op,t,p,af,none⟩)
  (hb:(Region.noSelect ops&&ke ops&&Region.free .any ops listed i&&(Region.ready .any ops listed).contains i&&qR ops tail i&&!tail.contains i)=true)
  (h:QT P base ⟨some d,op,t,p,af,none⟩ ρ S v) (hk:RO X P r base n ops S tail [] [] fV (listed.setIfInBounds i true) K (js ρ d v) O) (hn:Nat.blt d n=true:=by rfl):
  RO X P r base n ops S tail [] [] (fV+1) listed K ρ O:=by
 simp only[aY,Bool.not_eq_true',List.contains_eq_mem,decide_eq_false_iff_not]at hb
 exact jB (zt:=tail) i hi (fun _ _ h=>h.one) hb.2 hb.1.2 hb.1.1.1.1.1 hb.1.1.1.1.2 hb.2 (by simp) hb.1.1.1.2 (by simpa using hb.1.1.2) (fun ds a ha=>.inl ⟨rfl,fun w hw=>by rw[ha.eval];exact h w hw⟩) hn hk
theorem qS {fV:Nat} {listed:Array Bool} (i:Nat) {d:Nat} {op:Op} {t:TypeId} {p:String} {af:Array Edge} {v:Value} (hi:ops[i]? =some ⟨some d,op,t,p,af,none⟩)
  (hb:(Region.noSelect ops&&ke ops&&Region.free .any ops listed i&&(Region.ready .any ops listed).contains i&&!tail.contains i)=true)
  (h:QT P base ⟨some d,op,t,p,af,none⟩ ρ [] v) (hk:RO X P r base n ops S tail [] [] fV (listed.setIfInBounds i true) K (js ρ d v) O) (hn:Nat.blt d n=true:=by rfl):
  RO X P r base n ops S tail [] [] (fV+1) listed K ρ O:=by
 simp only[aY,Bool.not_eq_true',List.contains_eq_mem,decide_eq_false_iff_not]at hb
 exact jB (zt:=[]) (Z:=[]) i hi (fun _ _ h=>.inr h.Es) (by simp) rfl hb.1.1.1.1 hb.1.1.1.2 hb.2 (by simp) hb.1.1.2 (by simpa using hb.1.2) (fun ds a ha=>.inl ⟨rfl,fun w hw=>by rw[ha.eval];exact h w hw⟩) hn hk
theorem Kx (S:List Item) (tail:List Nat) (m:Nat) {id:Nat} {ops:Array Oper} (hm:P.follows .mixedOrders=true) (sj:ops.size=m) (hS:Sub S O) (hp: ∀c ρ jz O,Q (.panic c) ρ O→Q (.panic c) jz O)
  (h:RO (fun c=> ∀ρ,Q (.panic c) ρ []) P r base n ops S tail [] [] m (Array.replicate m false) (fun ρ O=>Q .normal ρ O) ρ O):T P r base n (.region id ops true) Q ρ O:=by
 subst sj
 intro a w M D _ ha hi
 refine wpIn_region_any hm (lO _ _ _ _ (h Q a _ M D (fun _ _ h=>h) ⟨hp,fun _ ρ h=>h ρ⟩ ha (hi.drawn _) (pK _ _) ⟨(hi.drawn _).Es,.inr ((hi.drawn _).left.mA hS),.inr (hi.drawn _).Es⟩))
theorem T.oH (S:List Item) (m:Nat) {id:Nat} {ops:Array Oper} (hm:P.follows .mixedOrders=true) (sj:ops.size=m) (hS:Sub S O) (hp: ∀c ρ jz O,Q (.panic c) ρ O→Q (.panic c) jz O)
  (h:RO (fun c=> ∀ρ,Q (.panic c) ρ []) P r base n ops S [] [] [] m (Array.replicate m false) (fun ρ O=>Q .normal ρ O) ρ O):T P r base n (.region id ops true) Q ρ O:=by
 subst sj
 intro a w M D _ ha hi
 refine wpIn_region_any hm (lO _ _ _ _ (h Q a _ M D (fun _ _ h=>h) ⟨hp,fun _ ρ h=>h ρ⟩ ha (hi.drawn _) (pK _ _) ⟨(hi.drawn _).Es,.inr ((hi.drawn _).left.mA hS),.inr (hi.drawn _).Es⟩))
theorem RO.sub {O':List Item} {fV:Nat} {listed:Array Bool} (hs:Sub O' O) (h:RO X P r base n ops S tail S2 dz fV listed K ρ O'):RO X P r base n ops S tail S2 dz fV listed K ρ O:=
 fun Q a w M D hq hp ha hI nN hS=>h Q a w M D hq hp ha (hI.mA (by obtain⟨l,h1,h2⟩:=hs;exact⟨l++(mI D++M),h1.append_right _,h2.append (ay _)⟩)) nN hS
theorem dB {O':List Item} {fV:Nat} {listed:Array Bool} (hr:Region.ready .any ops listed=[]) (h:K ρ O') (hs:Sub O' O):RO X P r base n ops S tail S2 dz fV listed K ρ O:=RO.sub hs (AT hr h)
end
def gq (P:Program) (t:TypeId) (z:Value) (s b:Nat):Prop:=(P.info? t).map (fun i=>(i.zero,i.size,i.bytes))=some (some z,s,b)
theorem gq.get {P:Program} {t:TypeId} {z:Value} {s b:Nat} (h:gq P t z s b): ∃i,P.info? t=some i∧i.zero=some z∧i.size=s∧i.bytes=b:=by
 unfold gq at h
 cases hi:P.info? t with
 |none=>rw[hi]at h;cases h
 |some i=>
  rw[hi]at h
  simp only[Option.map_some,Option.some.injEq,Prod.mk.injEq]at h
  exact⟨i,rfl,h.1,h.2.1,h.2.2⟩
theorem kg {P:Program} {t:TypeId} {i:TypeInfo} (h:P.info? t=some i) (w:World):(typeInfo t).run P w=.ok i w:=by
 unfold typeInfo;simp[h]
theorem cA {P:Program} {t:TypeId} {z:Value} {s b:Nat} (h:gq P t z s b) (w:World):(sizeOf t).run P w=.ok s w:=by
 obtain⟨i,hi,_,hs,_⟩:=h.get
 unfold sizeOf;simp[kg hi,hs]
theorem gI {P:Program} {t:TypeId} {z:Value} {s b:Nat} (h:gq P t z s b) (w:World):(zeroValue t).run P w=.ok z w:=by
 obtain⟨i,hi,hz,_,_⟩:=h.get
 unfold zeroValue;simp[kg hi,hz]
theorem bD {P:Program} {t:TypeId} {d:TypeDesc} (h:P.underlying t=some d) (w:World):(underlying t).run P w=.ok d w:=by
 unfold underlying;simp[h]
theorem run_equal_bool {P:Program} {T:TypeId} (h:P.underlying T=some .bool) (a b:Bool) (w:World):(Op.equal T (.bool a) (.bool b)).run P w=.ok (a==b) w:=by
 show(Op.equalIn (9999+1) T (.bool a) (.bool b)).run P w=_
 rw[Op.equalIn]
 simp[bD h]
def nr:TypeDesc→Bool
 | .struct _| .array _ _=>true
 |_=>false
theorem ja {P:Program} {t:TypeId} {d:TypeDesc} (h:P.underlying t=some d) (w:World):(isAgg t).run P w=.ok (nr d) w:=by
 unfold isAgg;simp[bD h];cases d<;>rfl
section
variable {P:Program} {base:World} {ρ:Env} {O:List Item} {dst:Option Nat} {t:TypeId} {p:String} {af:Array Edge} {g:Option (Nat×Bool)}
theorem aC {x:Operand} {v:Value} (h:ev ρ x=v:=by exact rfl):QT P base ⟨dst,.move x,t,p,af,g⟩ ρ O v:=fun w _=>by simp[execOp,h]
theorem dN {x:Operand} {v:Value} (h:ev ρ x=v:=by exact rfl):QT P base ⟨dst,.assign x,t,p,af,g⟩ ρ O v:=fun w _=>by simp[execOp,h]
theorem cH {x y:Operand} {T U:TypeId} {k:IntKind} {a b:Int} (hx:ev ρ x=.int k a:=by exact rfl) (hy:ev ρ y=.int k b:=by exact rfl):QT P base ⟨dst,.binOp .lss T x y U,t,p,af,g⟩ ρ O (.bool (decide (a<b))):=fun w _=>by
 simp[execOp,hx,hy,eqGuard,binOp,Op.intCmp]
theorem vO {x y:Operand} {T U:TypeId} {k:IntKind} {a b:Int} (hx:ev ρ x=.int k a:=by exact rfl) (hy:ev ρ y=.int k b:=by exact rfl):QT P base ⟨dst,.binOp .leq T x y U,t,p,af,g⟩ ρ O (.bool (decide (a≤b))):=fun w _=>by
 simp[execOp,hx,hy,eqGuard,binOp,Op.intCmp]
theorem fg {x y:Operand} {T U:TypeId} {k:IntKind} {a b:Int} (hx:ev ρ x=.int k a:=by exact rfl) (hy:ev ρ y=.int k b:=by exact rfl):QT P base ⟨dst,.binOp .gtr T x y U,t,p,af,g⟩ ρ O (.bool (decide (b<a))):=fun w _=>by
 simp[execOp,hx,hy,eqGuard,binOp,Op.intCmp]
theorem ly {x y:Operand} {T U:TypeId} {k:IntKind} {a b:Int} (hx:ev ρ x=.int k a:=by exact rfl) (hy:ev ρ y=.int k b:=by exact rfl):QT P base ⟨dst,.binOp .geq T x y U,t,p,af,g⟩ ρ O (.bool (decide (b≤a))):=fun w _=>by
 simp[execOp,hx,hy,eqGuard,binOp,Op.intCmp]
theorem en {x y:Operand} {T U:TypeId} {k:IntKind} {a b:Int} (hx:ev ρ x=.int k a:=by exact rfl) (hy:ev ρ y=.int k b:=by exact rfl):QT P base ⟨dst,.binOp .eql T x y U,t,p,af,g⟩ ρ O (.bool (decide (a=b))):=fun w _=>by
 simp[execOp,hx,hy,eqGuard,binOp,Op.intCmp];rfl
theorem gB {x y:Operand} {T U:TypeId} {k:IntKind} {a b:Int} (hx:ev ρ x=.int k a:=by exact rfl) (hy:ev ρ y=.int k b:=by exact rfl):QT P base ⟨dst,.binOp .neq T x y U,t,p,af,g⟩ ρ O (.bool (decide (a≠b))):=fun w _=>by
 simp[execOp,hx,hy,eqGuard,binOp,Op.intCmp,bne];rfl
theorem UY {x y:Operand} {T U:TypeId} {k:IntKind} {a b:Int} (hx:ev ρ x=.int k a) (hy:ev ρ y=.int k b):QT P base ⟨dst,.binOp .add T x y U,t,p,af,g⟩ ρ O (.int k (k.wrap (a+b))):=fun w _=>by
 simp[execOp,hx,hy,eqGuard,binOp,Op.intArith]
theorem UZ {x y:Operand} {T U:TypeId} {k:IntKind} {a b:Int} (hx:ev ρ x=.int k a) (hy:ev ρ y=.int k b):QT P base ⟨dst,.binOp .sub T x y U,t,p,af,g⟩ ρ O (.int k (k.wrap (a-b))):=fun w _=>by
 simp[execOp,hx,hy,eqGuard,binOp,Op.intArith]
theorem abu {x y:Operand} {T U:TypeId} {k:IntKind} {a b:Int} (hx:ev ρ x=.int k a) (hy:ev ρ y=.int k b):QT P base ⟨dst,.binOp .mul T x y U,t,p,af,g⟩ ρ O (.int k (k.wrap (a*b))):=fun w _=>by
 simp[execOp,hx,hy,eqGuard,binOp,Op.intArith]
theorem gN {n:Int} (h: -9223372036854775808≤n∧n≤9223372036854775807):IntKind.i64.wrap n=n:=IntWalk.i64_in n h
theorem jJ {x y:Operand} {T U:TypeId} {a b:Int} (hx:ev ρ x=.int .i64 a) (hy:ev ρ y=.int .i64 b) (h: -9223372036854775808≤a+b∧a+b≤9223372036854775807):
  QT P base ⟨dst,.binOp .add T x y U,t,p,af,g⟩ ρ O (.int .i64 (a+b)):=by have:=UY (P:=P) (base:=base) (O:=O) (dst:=dst) (t:=t) (p:=p) (af:=af) (g:=g) (T:=T) (U:=U) hx hy;rwa[gN h]at this
theorem w4 {x y:Operand} {T U:TypeId} {a b:Int} (hx:ev ρ x=.int .i64 a) (hy:ev ρ y=.int .i64 b) (h: -9223372036854775808≤a-b∧a-b≤9223372036854775807):
  QT P base ⟨dst,.binOp .sub T x y U,t,p,af,g⟩ ρ O (.int .i64 (a-b)):=by have:=UZ (P:=P) (base:=base) (O:=O) (dst:=dst) (t:=t) (p:=p) (af:=af) (g:=g) (T:=T) (U:=U) hx hy;rwa[gN h]at this
theorem RN {x y:Operand} {T U:TypeId} {a b:Int} (hx:ev ρ x=.int .i64 a) (hy:ev ρ y=.int .i64 b) (h: -9223372036854775808≤a*b∧a*b≤9223372036854775807):
  QT P base ⟨dst,.binOp .mul T x y U,t,p,af,g⟩ ρ O (.int .i64 (a*b)):=by have:=abu (P:=P) (base:=base) (O:=O) (dst:=dst) (t:=t) (p:=p) (af:=af) (g:=g) (T:=T) (U:=U) hx hy;rwa[gN h]at this
theorem UP {x y:Operand} {T U:TypeId} {a:Nat} (hx:ev ρ x=.int .i64 (a:Int)) (hy:ev ρ y=.int .i64 1) (h:a<9223372036854775807):
  QT P base ⟨dst,.binOp .add T x y U,t,p,af,g⟩ ρ O (.int .i64 ((a+1:Nat):Int)):=by
 have:=jJ (P:=P) (base:=base) (O:=O) (dst:=dst) (t:=t) (p:=p) (af:=af) (g:=g) (T:=T) (U:=U) hx hy (by omega);rwa[←Int.natCast_succ]at this
theorem gM {x:Operand} {T:TypeId} {b:Bool} (hx:ev ρ x=.bool b:=by exact rfl):QT P base ⟨dst,.unOp .not T x,t,p,af,g⟩ ρ O (.bool !b):=fun w _=>by
 simp[execOp,hx,Op.unary]
theorem Hm {x y:Operand} {T U:TypeId} {a b:Bool} (hu:P.underlying T=some .bool) (hx:ev ρ x=.bool a) (hy:ev ρ y=.bool b):QT P base ⟨dst,.binOp .eql T x y U,t,p,af,g⟩ ρ O (.bool (a==b)):=fun w _=>by
 simp[execOp,hx,hy,eqGuard,binOp,run_equal_bool hu]
theorem W3 {x y:Operand} {T U:TypeId} {a b:Bool} (hu:P.underlying T=some .bool) (hx:ev ρ x=.bool a) (hy:ev ρ y=.bool b):QT P base ⟨dst,.binOp .neq T x y U,t,p,af,g⟩ ρ O (.bool (a !=b)):=fun w _=>by
 simp[execOp,hx,hy,eqGuard,binOp,run_equal_bool hu,bne]
theorem W4 {x:Operand} {S D:TypeId} {ds:TypeDesc} {k k':IntKind} {a:Int} (hs:P.underlying S=some ds) (hd:P.underlying D=some (.int k)) (hx:ev ρ x=.int k' a):
  QT P base ⟨dst,.convert S D x,t,p,af,g⟩ ρ O (.int k (k.wrap a)):=fun w _=>by
 simp[execOp,hx,convert,bD hs,bD hd,Conv.intToInt]
theorem jj {x:Operand} {S D:TypeId} {ds:TypeDesc} {k k':IntKind} {a:Int} (hs:P.underlying S=some ds) (hd:P.underlying D=some (.int k)) (hx:ev ρ x=.int k' a) (hw:k.wrap a=a):
  QT P base ⟨dst,.convert S D x,t,p,af,g⟩ ρ O (.int k a):=by have:=W4 (P:=P) (base:=base) (O:=O) (dst:=dst) (t:=t) (p:=p) (af:=af) (g:=g) hs hd hx;rwa[hw]at this
theorem bV {x:Operand} {T:TypeId} {E:TypeId} {b:Option Addr} {n c:Nat} (hu:P.underlying T=some (.slice E)) (hx:ev ρ x=.slice b n c:=by exact rfl):
  QT P base ⟨dst,.call ⟨.builtin .len,#[x],#[T]⟩,t,p,af,g⟩ ρ O (.int .i64 (n:Int)):=fun w _=>by
 simp[execOp,resolve,hx,invoke,builtin,Builtin.len_,bD hu,goInt]
theorem bX (vs:List Value) {x:Operand} {i:Nat} {v:Value} (hx:ev ρ x=.tuple vs.toArray:=by exact rfl) (hv:vs[i]? =some v:=by exact rfl):QT P base ⟨dst,.extract x i,t,p,af,g⟩ ρ O v:=fun w _=>by
 simp[execOp,hx,Instr.extract,hv]
theorem dZ {fn:Fn} {first captured:List Operand}:QT P base ⟨dst,.makeFunc fn first.toArray captured.toArray,t,p,af,g⟩ ρ O (.func fn (QW ρ first).toArray (QW ρ captured).toArray):=fun w _=>by
 simp[execOp,Instr.makeFunc,Ng]
theorem bY {x:Operand} {S:TypeId} {fs:Array Field} {i:Nat} {f:Field} {b o:Nat} {z:Value} {s gy:Nat} {E:TypeId} (hu:P.underlying S=some (.struct fs)) (hi:gq P E z s gy) (hf:fs[i]? =some f:=by exact rfl) (hs:(s==0)=false:=by exact rfl) (hx:ev ρ x=.pointer (some ⟨b,o,none⟩):=by exact rfl) (hft:f.type=E:=by exact rfl):QT P base ⟨dst,.fieldAddr S x i,t,p,af,g⟩ ρ O (.pointer (some ⟨b,o+f.offset,none⟩)):=fun w _=>by
 subst hft
 have hs':s≠0:=by simpa using hs
 simp[execOp,hx,Instr.fieldAt,bD hu,hf,Instr.sureAddr,fieldPlace,cA hi,hs',Addr.add]
 try (intro h;simp[h])
theorem vV {x y:Operand} {T E:TypeId} {b o n c i:Nat} {k:IntKind} {z:Value} {s gy:Nat} (hu:P.underlying T=some (.slice E)) (hi:gq P E z s gy) (hx:ev ρ x=.slice (some ⟨b,o,none⟩) n c) (hy:ev ρ y=.int k (i:Int)) (fM:i<n):
  QT P base ⟨dst,.indexAddr T x y,t,p,af,g⟩ ρ O (.pointer (some ⟨b,o+i*s,none⟩)):=fun w _=>by
 have h2:(i:Int)<(n:Int):=by omega
 simp[execOp,hx,hy,Instr.indexAt,asIntOf,bD hu,fM,cA hi,Addr.add]
 try (intro h;rcases h with h|h<;>simp[h])
theorem qT {x:Operand} {T:TypeId} {d:TypeDesc} {b o:Nat} {v:Value} (hu:P.underlying T=some d) (ha:nr d=false) (hx:ev ρ x=.pointer (some ⟨b,o,none⟩))
  (hc: ∀w,Inv base O w→w.cell? ⟨b,o,none⟩=some v):QT P base ⟨dst,.load T x,t,p,af,g⟩ ρ O v:=fun w hI=>by
 simp[execOp,hx,Instr.loadAt,Instr.sureAddr,loadVar,ja hu,ha,hc w hI]
theorem lQ {P:Program} {w:World} {a:Addr}: ∀(cs:List Value) (i:Nat) (oW:Array Value),(∀j (h:j<cs.length),w.cell? (a.add (i+j))=some cs[j])→
  (loadCellsFrom a i cs.length oW).run P w=.ok (oW++cs.toArray) w
 | [],i,oW,_=>by simp[loadCellsFrom]
 |v::cs,i,oW,h=>by
  have h0:w.cell? (a.add i)=some v:=h 0 (by simp)
  have ih:=lQ (P:=P) cs (i+1) (oW.push v) (fun j hj=>by have:=h (j+1) (by simp;omega);simpa[Nat.add_assoc,Nat.add_comm 1 j]using this)
  simp only[cd,loadCellsFrom,Sem.run_bind,run_load,h0,Result.andThen_ok,ih]
  simp
theorem ye {x:Operand} {T:TypeId} {d:TypeDesc} {b o:Nat} {cs:List Value} {z:Value} {s gy:Nat} (hu:P.underlying T=some d) (ha:nr d=true) (hi:gq P T z s gy) (hx:ev ρ x=.pointer (some ⟨b,o,none⟩)) (hl:cs.length=s)
  (hc: ∀w,Inv base O w→ ∀j (h:j<cs.length),w.cell? ⟨b,o+j,none⟩=some cs[j]):QT P base ⟨dst,.load T x,t,p,af,g⟩ ρ O (.agg cs.toArray):=fun w hI=>by
 have h:=lQ (P:=P) (w:=w) (a:=⟨b,o,none⟩) cs 0 #[] (fun j hj=>by
  have:=hc w hI j hj
  simp only[Nat.zero_add,Addr.add]
  split<;>rename_i e
  ·subst e;simpa using this
  ·exact this)
 simp[execOp,hx,Instr.loadAt,Instr.sureAddr,loadVar,ja hu,ha,cA hi,loadCells,←hl,h]
end
def Sl (w:World) (b:Option Addr) (cs:List Value):Prop:= ∀i (h:i<cs.length),∃a,b=some a∧a.spot=none∧w.cell? ⟨a.block,a.off+i,none⟩=some cs[i]
theorem Sl.nil (w:World) (b:Option Addr):Sl w b []:=fun i h=>by simp at h
theorem Sl.keep {w w':World} {b:Option Addr} {cs:List Value} (h:Sl w b cs) (hb: ∀k,k<w.heap.size→w'.heap[k]? =w.heap[k]?):Sl w' b cs:=fun i hi=>by
 obtain⟨a,h1,h2,h3⟩:=h i hi
 refine⟨a,h1,h2,?_⟩
 have fM:=World.block_lt_of_cell? _ _ h3
 unfold World.cell? at h3⊢
 rw[hb _ fM]
 exact h3
theorem Sl.below {w w':World} {b:Option Addr} {cs:List Value} (h:Sl w b cs) (hb:Below w.heap.size w w'):Sl w' b cs:=h.keep hb.block
theorem Inv.sl {base:World} {O:List Item} {w:World} (hI:Inv base O w) {b:Option Addr} {cs:List Value} (h:Sl base b cs):Sl w b cs:=h.below hI.below
theorem Sl.addr {w:World} {b:Option Addr} {cs:List Value} (h:Sl w b cs) {i:Nat} (hi:i<cs.length): ∃k o,b=some ⟨k,o,none⟩:=by
 obtain⟨⟨k,o,s⟩,h1,h2,_⟩:=h i hi
 simp only at h2;subst h2
 exact⟨k,o,h1⟩
theorem Sl.get {w:World} {k o:Nat} {cs:List Value} (h:Sl w (some ⟨k,o,none⟩) cs) {i:Nat} {v:Value} (hv:cs[i]? =some v):w.cell? ⟨k,o+i,none⟩=some v:=by
 obtain⟨hi,e⟩:=List.getElem?_eq_some_iff.1 hv
 obtain⟨a,h1,_,h3⟩:=h i hi
 cases h1
 rw[h3,e]
def rowP (b:Option Addr) (c:Nat) (T:TypeId) (k:Nat) (cs:List Value) (w:World):Prop:=
 match b with
 |none=>cs=[]∧c=0
 |some a=>a.spot=none∧ ∃full,w.heap[a.block]? =some (.cells full T (0,0))∧cs.length≤c*k∧a.off+c*k≤full.size∧ ∀i (h:i<cs.length),full[a.off+i]? =some cs[i]
def ak (b:Option Addr) (c:Nat) (T:TypeId) (k:Nat) (cs:List Value):Item where
 blocks:=match b with|none=>[]|some a=>[a.block]
 P:=rowP b c T k cs
 loc:=fun w w' h hp=>by
  cases b with
  |none=>exact hp
  |some a=>
   obtain⟨h1,full,h2,h3⟩:=hp
   exact⟨h1,full,(h a.block (by simp)).trans h2,h3⟩
theorem rowP.sl {b:Option Addr} {c:Nat} {T:TypeId} {k:Nat} {cs:List Value} {w:World} (h:rowP b c T k cs w):Sl w b cs:=fun i hi=>by
 cases b with
 |none=>rw[h.1]at hi;simp at hi
 |some a=>
  obtain⟨h1,full,h2,_,_,h5⟩:=h
  refine⟨a,rfl,h1,?_⟩
  unfold World.cell?
  simp[h2,h5 i hi]
theorem Inv.row {base:World} {O:List Item} {w:World} (hI:Inv base O w) {i:Nat} {b:Option Addr} {c:Nat} {T:TypeId} {k:Nat} {cs:List Value} (h:O[i]? =some (ak b c T k cs)):rowP b c T k cs w:=
 hI.holds _ (bE h)
theorem Inv.qU {base:World} {O:List Item} {w:World} (hI:Inv base O w) {i:Nat} {b:Nat} {o:Obj} (h:O[i]? =some (eL b o)):w.heap[b]? =some o:=
 hI.holds _ (bE h)
section
variable {P:Program} {base:World} {ρ:Env} {O:List Item} {dst:Option Nat} {t:TypeId} {p:String} {af:Array Edge} {g:Option (Nat×Bool)}
theorem bp (i:Nat) {x:Operand} {T E:TypeId} {d:TypeDesc} {b o:Nat} {cs:List Value} {fr:Nat×Nat} {v:Value} (hu:P.underlying T=some d) (ha:nr d=false:=by exact rfl) (hx:ev ρ x=.pointer (some ⟨b,o,none⟩):=by exact rfl)
  (hO:O[i]? =some (eL b (.cells cs.toArray E fr)):=by exact rfl) (hv:cs[o]? =some v:=by exact rfl):QT P base ⟨dst,.load T x,t,p,af,g⟩ ρ O v:=
 qT hu ha hx fun w hI=>by have:=hI.qU hO;unfold World.cell?;simp[this,hv]
theorem eg {x:Operand} {T E:TypeId} {d:TypeDesc} {b:Nat} {cs:List Value} {fr:Nat×Nat} {z:Value} {s gy:Nat} (i:Nat) (hu:P.underlying T=some d) (hi:gq P T z s gy) (ha:nr d=true:=by exact rfl) (hx:ev ρ x=.pointer (some ⟨b,0,none⟩):=by exact rfl) (hO:O[i]? =some (eL b (.cells cs.toArray E fr)):=by exact rfl) (hl:cs.length=s:=by exact rfl):QT P base ⟨dst,.load T x,t,p,af,g⟩ ρ O (.agg cs.toArray):=
 ye hu ha hi hx hl fun w hI j hj=>by have:=hI.qU hO;unfold World.cell?;simp[this]
theorem AV {x:Operand} {T:TypeId} {d:TypeDesc} {b o i:Nat} {cs:List Value} {v:Value} (hu:P.underlying T=some d) (ha:nr d=false) (hx:ev ρ x=.pointer (some ⟨b,o+i,none⟩))
  (hs:Sl base (some ⟨b,o,none⟩) cs) (hv:cs[i]? =some v):QT P base ⟨dst,.load T x,t,p,af,g⟩ ρ O v:=
 qT hu ha hx fun _ hI=>(hI.sl hs).get hv
end
def fL:Value→Bool
 | .agg _| .tuple _=>false
 |_=>true
def dq (cs:List Value):Nat→List Value→List Value
 |_,[]=>cs
 |o,v::vs=>dq (cs.set o v) (o+1) vs
theorem mf (vs:List Value): ∀(cs:List Value) (o:Nat),(dq cs o vs).length=cs.length:=by
 induction vs with
 |nil=>intro cs o;rfl
 |cons v vs ih=>intro cs o;simp[dq,ih]
theorem tT (vs:List Value): ∀(cs:List Value) (o i:Nat),o+vs.length≤cs.length→(dq cs o vs)[i]? =if o≤i∧i<o+vs.length then vs[i-o]? else cs[i]? :=by
 induction vs with
 |nil=>intro cs o i h;simp[dq];intro h1 h2;omega
 |cons v vs ih=>
  intro cs o i h
  simp only[dq,cd]at h⊢
  rw[ih _ _ _ (by simp;omega)]
  by_cases h1:o+1≤i∧i<o+1+vs.length
  ·rw[aA h1,aA (by omega)]
   have:i-o=(i-(o+1))+1:=by omega
   rw[this];simp
  ·rw[ar h1]
   by_cases h2:i=o
   ·subst h2
    rw[aA (by omega)]
    simp
    rw[List.getElem?_set_self (by omega)]
   ·rw[ar (by omega),List.getElem?_set_ne (by omega)]
def iU (w:World) (b:Nat) (o:Obj):World:= {w with heap:=w.heap.setIfInBounds b o}
theorem lK {w:World} {b:Nat} {o:Obj} (h:b<w.heap.size):(iU w b o).heap[b]? =some o:=by simp[iU,h]
theorem kC {w:World} {b k:Nat} {o:Obj} (h:k≠b):(iU w b o).heap[k]? =w.heap[k]? :=by simp[iU,Array.getElem?_setIfInBounds_ne (Ne.symm h)]
theorem mY {w:World} {b:Nat} {o:Obj}:(iU w b o).heap.size=w.heap.size:=by simp[iU]
theorem Ca {w:World} {b o:Nat} {v:Value} {cs:List Value} {T:TypeId} {fr:Nat×Nat} (h:w.heap[b]? =some (.cells cs.toArray T fr)):w.setCell ⟨b,o,none⟩ v=iU w b (.cells (cs.set o v).toArray T fr):=by
 unfold World.setCell iU
 congr 1
 apply Array.ext_getElem?
 intro i
 rw[Array.getElem?_modify]
 by_cases e:b=i
 ·subst e
  obtain⟨fM,e⟩:=Array.getElem?_eq_some_iff.1 h
  simp[fM,e]
 ·simp[e,Array.getElem?_setIfInBounds_ne e]
theorem Ky {w:World} {b:Nat} {o o':Obj}:iU (iU w b o) b o'=iU w b o':=by
 unfold iU;simp
theorem Hn {P:Program} {w:World} {b o:Nat} {v:Value} {cs:List Value} {T:TypeId} (h:w.heap[b]? =some (.cells cs.toArray T (0,0))) (ho:o<cs.length) (hv:fL v=true):
  (store ⟨b,o,none⟩ v).run P w=.ok () (iU w b (.cells (cs.set o v).toArray T (0,0))):=by
 have hc:w.cell? ⟨b,o,none⟩=some cs[o]:=by unfold World.cell?;simp[h,ho]
 have hf:w.frozen? ⟨b,o,none⟩=false:=by unfold World.frozen?;simp[h]
 have hv':v.oneCell'=true:=by cases v<;>simp_all[fL,Value.oneCell']
 rw[run_store P w _ _ _ hv',hc]
 simp[hf,Ca h]
theorem nt {P:Program} {b o:Nat} {T:TypeId}: ∀(vs:List Value) (cs:List Value) (i:Nat) (w:World),w.heap[b]? =some (.cells cs.toArray T (0,0))→o+i+vs.length≤cs.length→(vs.all fL)=true→
  (storeCells ⟨b,o,none⟩ vs i).run P w=.ok () (iU w b (.cells (dq cs (o+i) vs).toArray T (0,0)))
 | [],cs,i,w,h,_,_=>by
  have:iU w b (.cells cs.toArray T (0,0))=w:=by
   unfold iU
   have:w.heap.setIfInBounds b (.cells cs.toArray T (0,0))=w.heap:=by
    apply Array.ext_getElem?
    intro k
    by_cases e:b=k
    ·subst e
     obtain⟨fM,e⟩:=Array.getElem?_eq_some_iff.1 h
     simp[fM,e]
    ·rw[Array.getElem?_setIfInBounds_ne e]
   rw[this]
  simp[storeCells,dq,this]
 |v::vs,cs,i,w,h,hl,hv=>by
  simp only[cd,List.all_cons,aY]at hl hv
  have e:(Addr.add ⟨b,o,none⟩ i)=⟨b,o+i,none⟩:=by
   unfold Addr.add;split<;>rename_i h<;>first|(subst h;rfl)|rfl
  have h1:=Hn (P:=P) h (o:=o+i) (v:=v) (by omega) hv.1
  have fM:=(Array.getElem?_eq_some_iff.1 h).1
  have h2:=nt (P:=P) (b:=b) (o:=o) (T:=T) vs (cs.set (o+i) v) (i+1) (iU w b (.cells (cs.set (o+i) v).toArray T (0,0))) (lK fM) (by simp;omega) hv.2
  simp only[storeCells,e,Sem.run_bind,h1,Result.andThen_ok,h2,Ky,dq]
  rfl
section
variable {P:Program} {r:Option Nat} {base:World} {n:Nat} {ρ:Env} {O:List Item} {K:Env→List Item→Prop} {d:Nat} {t:TypeId} {p:String} {af:Array Edge} {g:Option (Nat×Bool)}
theorem kU {M:List Item} {j:Nat} {it:Item} (h:O[j]? =some it):(O++M)[j]? =some it:=by
 rw[bG (List.getElem?_eq_some_iff.1 h).1];exact h
theorem kV {M:List Item} {j:Nat} {it:Item} (h:O[j]? =some it) (x:Item):(O++M).set j x=O.set j x++M:=
 List.set_append_left _ _ (List.getElem?_eq_some_iff.1 h).1
theorem fI {op:Op} (hn:Nat.blt d n=true)
  (h: ∀w M,Inv base (O++M) w→ ∃v w' O',(execOp (ev ρ) ⟨some d,op,t,p,af,g⟩).run P w=.ok (.value v) w'∧Inv base (O'++M) w'∧K (js ρ d v) O'):LT P r base n ⟨some d,op,t,p,af,g⟩ ρ O K:=by
 intro a w M ds ha hi next Qx ik
 obtain⟨v,w',O',hr,hI,hK⟩:=h w M hi
 rw[←ha.eval]at hr
 refine rK (x6 hr (by simp)) ?_
 rw[hr]
 exact ik _ _ _ _ (ha.put hn v) hI hK
theorem jL {op:Op}
  (h: ∀w M,Inv base (O++M) w→ ∃w' O',(execOp (ev ρ) ⟨none,op,t,p,af,g⟩).run P w=.ok .skip w'∧Inv base (O'++M) w'∧K ρ O'):LT P r base n ⟨none,op,t,p,af,g⟩ ρ O K:=by
 intro a w M ds ha hi next Qx ik
 obtain⟨w',O',hr,hI,hK⟩:=h w M hi
 rw[←ha.eval]at hr
 refine rK (x6 hr (by simp)) ?_
 rw[hr]
 exact ik _ _ _ _ ha hI hK
theorem Sub.Cb {O' M:List Item} (h:Sub O' O):Sub (O'++M) (O++M):=by
 obtain⟨l,hp,hs⟩:=h
 exact⟨l++M,hp.append_right M,hs.append (ay M)⟩
theorem Inv.dH {w:World} (h:Inv base O w) (E:TypeId) (k:Nat):Inv base (ak none 0 E k []::O) w:=
 Inv.new (N:=[ak none 0 E k []]) h rfl rfl rfl (aV _) (fun _ _=>rfl) (by simp[ak,rowP]) (by simp[ak]) (by simp[ak])
theorem T.dH {c:Code} {Q:iT} (E:TypeId) (k:Nat) (h:T P r base n c Q ρ (ak none 0 E k []::O)):T P r base n c Q ρ O:=
 fun a w M D hM ha hi=>h a w M D hM ha (hi.dH E k)
theorem cV {c:Code} {Q:iT} {O':List Item} (hs:Sub O' O) (h:T P r base n c Q ρ O'):T P r base n c Q ρ O:=
 fun a w M D hM ha hi=>h a w M D hM ha (hi.mA hs.Cb)
theorem bO {E:TypeId} {z:Value} {s gy:Nat} {cs:List Value} (hi:gq P E z s gy) (h: ∀b,K (js ρ d (.pointer (some ⟨b,0,none⟩))) (eL b (.cells cs.toArray E (0,0))::O)) (hz:z.cells=cs.toArray:=by exact rfl) (hn:Nat.blt d n=true:=by rfl):LT P r base n ⟨some d,.alloc E,t,p,af,g⟩ ρ O K:=
 fI hn fun w M hI=>⟨_,_,_,by simp[execOp,Instr.alloc,gI hi,newVar,newRow,hz],hI.alloc _,h _⟩
theorem e5 (cs:List Value) {E:TypeId} {x:Operand} {v:Value} (h: ∀b,K (js ρ d (.pointer (some ⟨b,0,none⟩))) (eL b (.cells cs.toArray E (0,0))::O)) (hx:ev ρ x=v:=by exact rfl) (hv:v.cells=cs.toArray:=by exact rfl) (hn:Nat.blt d n=true:=by rfl):LT P r base n ⟨some d,.box E x,t,p,af,g⟩ ρ O K:=
 fI hn fun w M hI=>⟨_,_,_,by simp[execOp,Instr.box,newVar,newRow,hx,hv],hI.alloc _,h _⟩
theorem Inv.W5 {w:World} (hI:Inv base O w) {i:Nat} {b:Nat} {o:Obj} (hO:O[i]? =some (eL b o)) (o':Obj):Inv base (O.set i (eL b o')) (iU w b o'):=by
 have hb:=hI.qU hO
 have fM:=(Array.getElem?_eq_some_iff.1 hb).1
 refine hI.pH hO rfl rfl rfl (by rw[mY];exact aV _) (fun k _ hk=>kC (fun e=>hk (by simp[eL,e]))) (lK fM) (fun k hk=>.inl hk) (by simp[eL])
theorem Inv.setRow {w:World} (hI:Inv base O w) {i b o c:Nat} {T:TypeId} {k:Nat} {cs Nd:List Value} {full:Array Value} (hO:O[i]? =some (ak (some ⟨b,o,none⟩) c T k cs)) (hl:Nd.length≤c*k)
  (hf:o+c*k≤full.size) (hc: ∀j (h:j<Nd.length),full[o+j]? =some Nd[j]):Inv base (O.set i (ak (some ⟨b,o,none⟩) c T k Nd)) (iU w b (.cells full T (0,0))):=by
 obtain⟨_,aju,hb,_,_⟩:=hI.row hO
 have fM:=(Array.getElem?_eq_some_iff.1 hb).1
 refine hI.pH hO rfl rfl rfl (by rw[mY];exact aV _) (fun k _ hk=>kC (fun e=>hk (by simp[ak,e]))) ⟨rfl,full,lK fM,hl,hf,hc⟩ (fun k hk=>.inl hk) (by simp[ak])
theorem tU {T:TypeId} {z:Value} {s gy b o:Nat} {v:Value} {vs cs:List Value} {E:TypeId} {w:World} (hi:gq P T z s gy) (hv:v.cells=vs.toArray) (hl:vs.length=s) (ho:(vs.all fL)=true)
  (h:w.heap[b]? =some (.cells cs.toArray E (0,0))) (hr:o+vs.length≤cs.length):(storeVar T ⟨b,o,none⟩ v).run P w=.ok () (iU w b (.cells (dq cs o vs).toArray E (0,0))):=by
 have:=nt (P:=P) (b:=b) (o:=o) (T:=E) vs cs 0 w h (by omega) ho
 unfold storeVar
 simp[cA hi,hv,hl]
 exact this
theorem agF (i:Nat) {T E:TypeId} {x y:Operand} {b o:Nat} {v:Value} {vs cs:List Value} {z:Value} {s gy:Nat} (hi:gq P T z s gy) (hx:ev ρ x=.pointer (some ⟨b,o,none⟩)) (hy:ev ρ y=v) (hv:v.cells=vs.toArray) (hl:vs.length=s) (ho:(vs.all fL)=true)
  (hO:O[i]? =some (eL b (.cells cs.toArray E (0,0)))) (hr:o+vs.length≤cs.length)
  (h:K ρ (O.set i (eL b (.cells (dq cs o vs).toArray E (0,0))))):LT P r base n ⟨none,.store T x y,t,p,af,g⟩ ρ O K:=
 jL fun w M hI=>⟨iU w b (.cells (dq cs o vs).toArray E (0,0)),_,by
  simp only[execOp,hx,hy,Instr.storeAt,Instr.sureAddr]
  simp[tU hi hv hl ho (hI.qU (kU hO)) hr],by have:=hI.W5 (kU hO) (.cells (dq cs o vs).toArray E (0,0));rwa[kV hO]at this,h⟩
theorem Eu (i:Nat) {T E:TypeId} {x y:Operand} {b o j c k:Nat} {v:Value} {vs cs:List Value} {z:Value} {s gy:Nat} (hi:gq P T z s gy) (hx:ev ρ x=.pointer (some ⟨b,o+j,none⟩)) (hy:ev ρ y=v) (hv:v.cells=vs.toArray) (hl:vs.length=s) (ho:(vs.all fL)=true)
  (hO:O[i]? =some (ak (some ⟨b,o,none⟩) c E k cs)) (hr:j+vs.length≤cs.length)
  (h:K ρ (O.set i (ak (some ⟨b,o,none⟩) c E k (dq cs j vs)))):LT P r base n ⟨none,.store T x y,t,p,af,g⟩ ρ O K:=
 jL fun w M hI=>by
  obtain⟨_,full,hb,h1,h2,h3⟩:=hI.row (kU hO)
  simp only at hb h2 h3
  obtain⟨fl,rfl⟩: ∃fl:List Value,full=fl.toArray:=⟨full.toList,by simp⟩
  simp only[List.size_toArray]at h2
  refine⟨iU w b (.cells (dq fl (o+j) vs).toArray E (0,0)),_,?_,kV hO (ak (some ⟨b,o,none⟩) c E k (dq cs j vs))▸hI.setRow (kU hO) (Nd:=dq cs j vs) (by rw[mf];exact h1) (by simp[mf];exact h2) ?_,h⟩
  ·have WX:o+j+vs.length≤fl.length:=by omega
   simp only[execOp,hx,hy,Instr.storeAt,Instr.sureAddr]
   simp[tU hi hv hl ho hb WX]
  ·intro m hm
   rw[mf]at hm
   have e1:(dq fl (o+j) vs).toArray[o+m]? =(dq fl (o+j) vs)[o+m]? :=by simp
   have e2:(dq cs j vs)[m]? =some ((dq cs j vs)[m]'(by rw[mf];exact hm)):=ah _
   rw[e1,←e2,tT vs fl (o+j) (o+m) (by omega),tT vs cs j m (by omega)]
   by_cases tG:j≤m∧m<j+vs.length
   ·rw[aA tG,aA (by omega)]
    congr 1;omega
   ·rw[ar tG,ar (by omega)]
    have:=h3 m hm
    simpa[ah hm]using this
theorem sT {α:Type} (f:Nat→α):(Array.range 0).map f= #[]:=by simp
theorem AW (z:Value) (m:Nat):((Array.range m).map fun i=>(#[z]:Array Value)[i%(#[z]:Array Value).size]!)=(List.replicate m z).toArray:=by
 apply Array.ext_getElem?
 intro i
 rw[Array.getElem?_map,Array.getElem?_range]
 by_cases h:i<m
 ·simp[h,Nat.mod_one]
 ·simp[h]
theorem cq (m:Nat) {T E:TypeId} {x:Operand} {k:IntKind} {z:Value} {gy:Nat} (hu:P.underlying T=some (.slice E)) (hi:gq P E z 1 gy) (hz:z.cells= #[z]) (hx:ev ρ x=.int k (m:Int)) (hm:m*gy≤140737488355328) (WU:m≤9223372036854775807)
  (h: ∀b,K (js ρ d (.slice (some ⟨b,0,none⟩) m m)) (ak (some ⟨b,0,none⟩) m E 1 (List.replicate m z)::O)) (hn:Nat.blt d n=true:=by rfl):LT P r base n ⟨some d,.makeSlice T x x,t,p,af,g⟩ ρ O K:=
 fI hn fun w M hI=>by
  obtain⟨i,GM,AS,hi3,hi4⟩:=hi.get
  have hw:IntKind.i64.wrap (m:Int)=(m:Int):=gN (by omega)
  have W1: ¬((gy:Int)*(m:Int)>2^48):=by
   have h1:((m*gy:Nat):Int)≤140737488355328:=Int.ofNat_le.2 hm
   rw[Nat.mul_comm,Int.natCast_mul]at h1
   have h2:(2:Int)^48=281474976710656:=by rfl
   rw[h2];omega
  have abw:decide ((gy:Int)*(m:Int)>2^48)=false:=bT W1
  refine⟨.slice (some ⟨w.heap.size,0,none⟩) m m,w.alloc (.cells (List.replicate m z).toArray E),_,?_,Inv.new (O:=O++M) (w':=w.alloc (.cells (List.replicate m z).toArray E)) (N:=[ak (some ⟨w.heap.size,0,none⟩) m E 1 (List.replicate m z)]) hI rfl rfl rfl (by simp) (fun b hb=>Below.heap_alloc w _ b hb) ?_ ?_ ?_,h _⟩
  ·have Ev:decide ((m:Int)<0)=false:=by simp
   simp only[execOp,hx,Instr.makeSlice,Sem.run_bind,bD hu,Result.andThen_ok,asInt,asIntOf,Sem.run_pure,kg GM,hi4,hw,abw,Ev,Bool.or_false,Bool.or_self,Int.lt_irrefl,gt_iff_lt,decide_false,Bool.false_eq_true,if_false,run_askRoom,cA hi,Nat.mul_one,Int.toNat_natCast]
   by_cases h0:m=0
   ·subst h0
    simp[newRow,sT]
   ·simp[h0,hz,newRow,gI hi]
    have:=AW z m
    simp at this
    rw[this]
  ·intro x hx
   simp at hx;subst hx
   refine⟨rfl,(List.replicate m z).toArray,?_,by simp,by simp,fun j hj=>by simp at hj;simp[hj]⟩
   show(w.heap.push _)[w.heap.size]? =_
   simp
  ·intro x hx b hb
   simp at hx;subst hx
   simp[ak]at hb;subst hb
   simp
  ·simp[ak]
theorem cW {T E:TypeId} {m:Nat} {parts:List (Nat×Operand)} {z:Value} {s gy:Nat} {cs:List Value} (hu:P.underlying T=some (.slice E)) (hi:gq P E z s gy) (h24:m*s≤16777216)
  (hf:Instr.fill (fun i=>some (i*s,s)) ((Array.range (m*s)).map (z.cells[· %z.cells.size]!)) (parts.map fun q=>(q.1,ev ρ q.2))=some cs.toArray) (hl:cs.length=m*s)
  (h: ∀b,K (js ρ d (.slice (some ⟨b,0,none⟩) m m)) (ak (some ⟨b,0,none⟩) m E s cs::O)) (hn:Nat.blt d n=true:=by rfl):LT P r base n ⟨some d,.buildSlice T m parts.toArray,t,p,af,g⟩ ρ O K:=
 fI hn fun w M hI=>by
  refine⟨.slice (some ⟨w.heap.size,0,none⟩) m m,w.alloc (.cells cs.toArray E),_,?_,Inv.new (O:=O++M) (w':=w.alloc (.cells cs.toArray E)) (N:=[ak (some ⟨w.heap.size,0,none⟩) m E s cs]) hI rfl rfl rfl (by simp) (fun b hb=>Below.heap_alloc w _ b hb) ?_ ?_ ?_,h _⟩
  ·have kK: ¬(m*s>2^24):=by omega
   by_cases h0:m*s=0
   ·have W6:Instr.fill (fun i=>some (i*s,s)) #[] (parts.map fun q=>(q.1,ev ρ q.2))=some cs.toArray:=by rw[h0,sT]at hf;exact hf
    simp only[execOp,Instr.buildSlice,Sem.run_bind,bD hu,cA hi,Result.andThen_ok,h0,gt_iff_lt,if_true,Sem.run_pure,sT]
    have fM: ¬(2^24<0):=by omega
    simp[W6,newRow]
   ·simp[execOp,Instr.buildSlice,bD hu,cA hi,kK,h0,gI hi,hf,newRow]
  ·intro x hx
   simp at hx;subst hx
   refine⟨rfl,cs.toArray,?_,by rw[hl];exact aV _,by simp[hl],fun j hj=>by simp[hj]⟩
   show(w.heap.push _)[w.heap.size]? =_
   simp
  ·intro x hx b hb
   simp at hx;subst hx
   simp[ak]at hb;subst hb
   simp
  ·simp[ak]
theorem AX (z:Array Value) (m:Nat):(Builtin.zeroCells z m).size=m*z.size:=by simp[Builtin.zeroCells]
theorem AY (rZ:Nat): ∀(r c:Nat),c≤2*rZ→Builtin.growBy rZ r c≤2*rZ+192
 |0,c,h=>by simp[Builtin.growBy];omega
 |r+1,c,h=>by
  simp only[Builtin.growBy]
  split
  ·omega
  ·by_cases h2:c+(c+768)/4≤2*rZ
   ·exact AY rZ r _ h2
   ·have: ∀r,Builtin.growBy rZ r (c+(c+768)/4)=c+(c+768)/4:=by
     intro r
     cases r with
     |zero=>rfl
     |succ r=>simp only[Builtin.growBy];rw[aA (by omega)]
    rw[this];omega
theorem yf {rZ cap:Nat} (h:cap<rZ):Builtin.nextslicecap rZ cap≤2*rZ+192:=by
 unfold Builtin.nextslicecap
 split
 ·omega
 ·split
  ·omega
  ·exact AY rZ 4 cap (by omega)
theorem kW {P:Program} {w:World} {b:Option Addr} {m c s:Nat} {cs:List Value} (h:Sl w b cs) (hl:cs.length=m*s) (hb:b=none→cs=[]):
  (Builtin.firstCells s m (.slice b m c)).run P w=.ok cs.toArray w:=by
 cases b with
 |none=>rw[hb rfl];rfl
 |some a=>
  obtain⟨k,o,sp⟩:=a
  simp only[Builtin.firstCells,←hl,loadCells]
  by_cases h0:cs.length=0
  ·have:cs=[]:=List.length_eq_zero_iff.1 h0
   subst this;rfl
  ·obtain⟨a',e1,e2,_⟩:=h 0 (by omega)
   cases e1
   simp only at e2;subst e2
   have:=lQ (P:=P) (w:=w) (a:=⟨k,o,none⟩) cs 0 #[] (fun j hj=>by
    have:=h.get (ah hj)
    simp only[Nat.zero_add,Addr.add]
    split<;>rename_i e
    ·subst e;simpa using this
    ·exact this)
   simpa using this
def Src (P:Program) (base:World) (O:List Item) (s m:Nat) (x:Value) (cs:List Value):Prop:=
 cs.length=m*s∧(∀w,(Builtin.lenOf x).run P w=.ok m w)∧ ∀w,Inv base O w→(Builtin.firstCells s m x).run P w=.ok cs.toArray w
theorem Src.Cb {b:World} {M:List Item} {s m:Nat} {x:Value} {cs:List Value} (h:Src P b O s m x cs):Src P b (O++M) s m x cs:=⟨h.1,h.2.1,fun w hI=>h.2.2 w hI.left⟩
theorem Src.row {j:Nat} {b:Option Addr} {c k m:Nat} {E:TypeId} {cs:List Value} (hO:O[j]? =some (ak b c E k cs)) (hl:cs.length=m*k) (c':Nat:=c):Src P base O k m (.slice b m c') cs:=
 ⟨hl,fun w=>by simp[Builtin.lenOf],fun w hI=>kW (hI.row hO).sl hl (fun e=>by subst e;exact(hI.row hO).1)⟩
theorem Src.sl {b:Option Addr} {c k m:Nat} {cs:List Value} (h:Sl base b cs) (hl:cs.length=m*k):Src P base O k m (.slice b m c) cs:=
 ⟨hl,fun w=>by simp[Builtin.lenOf],fun w hI=>kW (hI.sl h) hl (fun e=>by
  cases cs with
  |nil=>rfl
  |cons v cs=>obtain⟨a,h1,_⟩:=h 0 (by simp);rw[e]at h1;cases h1)⟩
theorem tV {b o i:Nat}:(Addr.add ⟨b,o,none⟩ i)=⟨b,o+i,none⟩:=by
 unfold Addr.add;split<;>rename_i h<;>first|(subst h;rfl)|rfl
theorem IY (rZ lR t:Nat) (e:TypeId):rZ≤(Question.appendCap rZ lR e).cut t:=Nat.le_add_right _ _
theorem sU {T U E:TypeId} {xd:TypeDesc} {b:Option Addr} {m c l s gy:Nat} {x z:Value} {cs new:List Value} {j:Nat} {ty:TypeId}
  (hu:P.underlying T=some (.slice E)) (Nj:P.underlying U=some xd) (RJ:(∃XE,xd=.slice XE)∨xd=.string) (hi:gq P E z s gy) (hz:z.cells.size=s)
  (hO:O[j]? =some (ak b c E s cs)) (hl:cs.length=m*s) (_hs:0<s)
  (hx:Src P base O s l x new) (Cc:(new.all fL)=true) (sj:(m+l)*gy≤70368744177664) (RK:gy≤1000000) (Ew:0<gy) {w:World} (hI:Inv base O w):
  ∃b' c' w',(Builtin.append_ #[T,U] ty #[.slice b m c,x]).run P w=.ok (.slice b' (m+l) c') w'∧Inv base (O.set j (ak b' c' E s (cs++new))) w':=by
 obtain⟨BR,jn,yg⟩:=hx
 obtain⟨i,GM,AS,hi3,hi4⟩:=hi.get
 have jU:=hI.row hO
 have hfx:=yg w hI
 have Hi:(Builtin.firstCells s m (.slice b m c)).run P w=.ok cs.toArray w:=kW jU.sl hl (fun e=>by subst e;exact jU.1)
 by_cases W7:m+l≤c
 ·-- there is room
  cases b with
  |none=>
   obtain⟨rfl,rfl⟩:=jU
   have Zv:m=0:=by omega
   have Ma:l=0:=by omega
   subst Zv;subst Ma
   have U0:new=[]:=List.length_eq_zero_iff.1 (by omega)
   subst U0
   refine⟨none,0,w,?_,?_⟩
   ·rcases RJ with⟨XE,rfl⟩|rfl<;>simp[Builtin.append_,bD hu,bD Nj,cA hi,jn,hfx]
   ·simp only[bZ]
    obtain⟨A,B,e,B4⟩:=xZ hO
    rw[B4,←e]
    exact hI
  |some a=>
   obtain⟨k,o,sp⟩:=a
   obtain⟨AL,full,hb,h1,h2,h3⟩:=jU
   simp only at AL hb h1 h2 h3
   subst AL
   obtain⟨fl,rfl⟩: ∃fl:List Value,full=fl.toArray:=⟨full.toList,by simp⟩
   simp only[List.size_toArray]at h2
   have hmul:m*s+l*s≤c*s:=by rw[←Nat.add_mul];exact Nat.mul_le_mul_right s W7
   have hr:o+m*s+0+new.length≤fl.length:=by omega
   have mK:=nt (P:=P) (b:=k) (o:=o+m*s) (T:=E) new fl 0 w hb hr Cc
   refine⟨some ⟨k,o,none⟩,c,_,?_,hI.setRow hO (Nd:=cs++new) (full:=(dq fl (o+m*s+0) new).toArray) (by simp;omega) (by simp[mf];exact h2) ?_⟩
   ·rcases RJ with⟨XE,rfl⟩|rfl<;>simp[Builtin.append_,bD hu,bD Nj,cA hi,jn,hfx,W7,tV]
    all_goals (simp at mK;rw[mK];rfl)
   ·intro q hq
    simp only[aI]at hq
    have e1:(dq fl (o+m*s+0) new).toArray[o+q]? =(dq fl (o+m*s) new)[o+q]? :=by simp
    have e2:some ((cs++new)[q]'(by simp;omega))=(cs++new)[q]? :=(ah _).symm
    rw[e1,e2,tT new fl (o+m*s) (o+q) (by omega)]
    by_cases tG:m*s≤q
    ·rw[aA (by omega),bN (by omega)]
     congr 1;omega
    ·rw[ar (by omega),bG (by omega)]
     have:=h3 q (by omega)
     simpa[ah (show q<cs.length by omega)]using this
 ·-- a new array
  obtain⟨cap,rY⟩: ∃cap,(Question.appendCap (m+l) c E).cut (w.tape w.drawn (Question.appendCap (m+l) c E))=cap:=⟨_,rfl⟩
  have mB:m+l≤cap:=rY▸IY (m+l) c _ E
  have Cd:(Question.appendCap (m+l) c E).forced=false:=rfl
  have x5:Inv base O w.drew:=hI.drew
  have agH:=yg _ x5
  have U1:=x5.row hO
  have agI:(Builtin.firstCells s m (.slice b m c)).run P w.drew=.ok cs.toArray w.drew:=kW U1.sl hl (fun e=>by subst e;exact U1.1)
  have ik: ¬(Builtin.nextslicecap (m+l) c*gy>2^48):=by
   have h1:=yf (rZ:=m+l) (cap:=c) (by omega)
   have h2:Builtin.nextslicecap (m+l) c*gy≤(2*(m+l)+192)*gy:=Nat.mul_le_mul_right _ h1
   have h3:(2*(m+l)+192)*gy=2*((m+l)*gy)+192*gy:=by rw[Nat.add_mul,Nat.mul_assoc]
   omega
  obtain⟨w',Nk⟩: ∃w':World,w'=w.drew.alloc (.cells (cs.toArray++new.toArray++Builtin.zeroCells z.cells (cap-(m+l))) E):=⟨_,rfl⟩
  refine⟨some ⟨w.heap.size,0,none⟩,cap,w',?_,?_⟩
  ·have abx: ¬(9223372036854775807<((m:Int)+(l:Int))∧gy=0):=by rintro⟨_,h⟩;omega
   have W8: ¬(281474976710656<Builtin.nextslicecap (m+l) c*gy):=by simpa using ik
   rcases RJ with⟨XE,rfl⟩|rfl<;>simp[Builtin.append_,bD hu,bD Nj,cA hi,jn,W7,kg GM,hi4,abx,W8,Cd,rY,agI,agH,gI hi,newRow,Nk]
   all_goals (have e:(cs++new).toArray=cs.toArray++new.toArray:=by simp)
   all_goals rw[e,Array.append_assoc]
  ·subst Nk
   refine hI.pH hO rfl rfl rfl (by simp) (fun q hq _=>?_) ⟨rfl,cs.toArray++new.toArray++Builtin.zeroCells z.cells (cap-(m+l)),?_,?_,?_,?_⟩ ?_ (by simp[ak])
   ·show(w.heap.push _)[q]? =_
    rw[Array.getElem?_push,ar (by omega)]
   ·show(w.heap.push _)[w.heap.size]? =_
    simp
   ·simp only[aI,hl,BR,←Nat.add_mul];exact Nat.mul_le_mul_right s mB
   ·simp only[Array.size_append,List.size_toArray,AX,hz,hl,BR,←Nat.add_mul,Nat.zero_add]
    exact Nat.mul_le_mul_right s (by omega)
   ·intro q hq
    simp only[Nat.zero_add]
    rw[Array.getElem?_append_left (by simp at hq⊢;exact hq)]
    simp
   ·intro q hq
    simp[ak]at hq
    subst hq
    exact .inr ⟨aV _,by simp⟩
theorem dp {T U E XE:TypeId} {b:Option Addr} {m c l s gy:Nat} {x y:Operand} {xv z:Value} {cs new:List Value} (j:Nat)
  (hu:P.underlying T=some (.slice E)) (Nj:P.underlying U=some (.slice XE)) (hi:gq P E z s gy) (hz:z.cells.size=s)
  (hx:ev ρ x=.slice b m c) (hy:ev ρ y=xv) (hO:O[j]? =some (ak b c E s cs)) (hl:cs.length=m*s) (hs:0<s)
  (Nl:Src P base O s l xv new) (Cc:(new.all fL)=true) (sj:(m+l)*gy≤70368744177664) (RK:gy≤1000000) (Ew:0<gy)
  (h: ∀b' c',K (js ρ d (.slice b' (m+l) c')) (O.set j (ak b' c' E s (cs++new)))) (hn:Nat.blt d n=true:=by rfl):
  LT P r base n ⟨some d,.call ⟨.builtin .append,#[x,y],#[T,U]⟩,t,p,af,g⟩ ρ O K:=
 fI hn fun w M hI=>by
  obtain⟨b',c',w',hr,x5⟩:=sU (ty:=t) hu Nj (.inl ⟨_,rfl⟩) hi hz (kU hO) hl hs Nl.Cb Cc sj RK Ew hI
  rw[kV hO]at x5
  refine⟨_,w',_,?_,x5,h b' c'⟩
  simp[execOp,resolve,hx,hy,invoke,builtin,hr]
def Enters (P:Program) (f:FuncId) (fn:Func):Prop:=P.funcs[f]? =some fn∧(fn.name== "runtime.NumGoroutine")=false∧fn.body.isSome=true
def cZ (P:Program) (base:World) (f:FuncId) (args:List Value) (O:List Item) (R:Value→List Item→Prop):Prop:=
 ∀w M,Inv base (O++M) w→Calls P f args.toArray w fun e w'=> ∃v O',e=.returned v∧Inv base (O'++M) w'∧R v O'
theorem cZ.mono {f:FuncId} {args:List Value} {R R':Value→List Item→Prop} (h:cZ P base f args O R) (hr: ∀v O',R v O'→R' v O'):cZ P base f args O R':=
 fun w M hI=>(h w M hI).mono fun _ _ ⟨v,O',h1,h2,h3⟩=>⟨v,O',h1,h2,hr v O' h3⟩
def cR (P:Program) (f:FuncId) (args:List Value) (w:World) (R:Value→List Item→Prop):Prop:=cZ P w f args [] R
theorem aK {f:FuncId} {args:List Value} {R:Value→List Item→Prop} (h: ∀w,Inv base O w→cR P f args w R):cZ P base f args O (fun v O'=> ∃N,O'=N++O∧R v N):=
 fun w M hI=>(h w hI.left w [] (Inv.refl w)).mono fun _ _ ⟨v,N,h1,h2,h3⟩=>⟨v,N++O,h1,by
  have:=hI.call h2
  simpa[bw]using this,N,rfl,h3⟩
theorem cZ.under {f:FuncId} {args:List Value} {A B:List Item} {R:Value→List Item→Prop} (h:cZ P base f args A R) (hs:Sub (A++B) O):cZ P base f args O (fun v O'=> ∃A',O'=A'++B∧R v A'):=
 fun w M hI=>(h w (B++M) (by have:=hI.mA hs.Cb;rwa[bw]at this)).mono fun _ _ ⟨v,A',h1,h2,h3⟩=>⟨v,A'++B,h1,by rwa[bw],A',rfl,h3⟩
def sq (P:Program) (base:World) (M:List Item) (R:Value→List Item→Prop):Result Next→Prop
 | .ok (.enter f args) w=>Calls P f args w fun e w'=> ∃v O',e=.returned v∧Inv base (O'++M) w'∧R v O'
 | .ok (.round l f tmps assign body) w=>RoundIn Fence.wide 0 P l f tmps assign body w fun e w'=> ∃v O',e=.returned v∧Inv base (O'++M) w'∧R v O'
 |_=>False
def n6 (fv:Value) (args:Array Value):Sem Next:=do
 let d←Deferred.ofValue fv args
 invoke d.target d.args
def dS (P:Program) (base:World) (fv:Value) (args:List Value) (O:List Item) (R:Value→List Item→Prop):Prop:=
 ∀w M,Inv base (O++M) w→sq P base M R ((n6 fv args.toArray).run P w)
theorem sq.mono {M:List Item} {R R':Value→List Item→Prop} {x:Result Next} (h:sq P base M R x) (hr: ∀v O',R v O'→R' v O'):sq P base M R' x:=by
 cases x with
 |halt e w=>exact h
 |ok y w=>
  cases y<;>first
   |exact h
   |exact Calls.mono h fun _ _ ⟨v,O',h1,h2,h3⟩=>⟨v,O',h1,h2,hr v O' h3⟩
   |exact RoundIn.mono h fun _ _ ⟨v,O',h1,h2,h3⟩=>⟨v,O',h1,h2,hr v O' h3⟩
theorem dS.mono {fv:Value} {args:List Value} {R R':Value→List Item→Prop} (h:dS P base fv args O R) (hr: ∀v O',R v O'→R' v O'):dS P base fv args O R':=
 fun w M hI=>(h w M hI).mono hr
theorem dS.under {fv:Value} {args:List Value} {A B:List Item} {R:Value→List Item→Prop} (h:dS P base fv args A R) (hs:Sub (A++B) O):dS P base fv args O (fun v O'=> ∃A',O'=A'++B∧R v A'):=fun w M hI=>by
 have h1:=h w (B++M) (by have:=hI.mA hs.Cb;rwa[bw]at this)
 revert h1
 cases(n6 fv args.toArray).run P w with
 |halt e w=>exact id
 |ok y w=>
  cases y<;>first
   |exact id
   |exact fun h=>Calls.mono h fun _ _ ⟨v,A',h1,h2,h3⟩=>⟨v,A'++B,h1,by rwa[bw],A',rfl,h3⟩
   |exact fun h=>RoundIn.mono h fun _ _ ⟨v,A',h1,h2,h3⟩=>⟨v,A'++B,h1,by rwa[bw],A',rfl,h3⟩
theorem b_ {f:FuncId} {fn:Func} {first args fU:List Value} {R:Value→List Item→Prop} (he:Enters P f fn) (h:cZ P base f (first++args++fU) O R):dS P base (.func (.func f) first.toArray fU.toArray) args O R:=fun w M hI=>by
 have Ex: ¬fn.name= "runtime.NumGoroutine" :=by simpa using he.2.1
 obtain⟨bd,hbd⟩:=Option.isSome_iff_exists.1 he.2.2
 have hr:(n6 (.func (.func f) first.toArray fU.toArray) args.toArray).run P w=.ok (.enter f (first++args++fU).toArray) w:=by
  have e:(first++args++fU).toArray=first.toArray++args.toArray++fU.toArray:=by simp
  rw[e]
  simp[n6,Deferred.ofValue,invoke,callFunc,he.1,Ex,hbd]
 rw[hr]
 exact h w M hI
theorem Ho {x:Operand} {args:List Operand} {w5:Array TypeId} {dst:Option Nat} {w:World}:(execOp (ev ρ) ⟨dst,.call ⟨.value x,args.toArray,w5⟩,t,p,af,g⟩).run P w=(n6 (ev ρ x) (QW ρ args).toArray).run P w:=by
 have IV:(args.toArray.map (ev ρ))=(QW ρ args).toArray:=by simp[Ng]
 simp only[execOp,resolve,n6,IV,Sem.run_bind]
theorem sV {r:Option Nat} {f:FuncId} {args:Array Value} {w:World} {R:Ending→World→Prop} (h:Calls P f args w R):CallsIn (Fr r) (0-1) P f args w R:=callsIn_wide.2 h
theorem et {x:Operand} {args:List Operand} {w5:Array TypeId} {fv:Value} {vs:List Value} {R:Value→List Item→Prop} (hc:dS P base fv vs O R) (hx:ev ρ x=fv) (ha:QW ρ args=vs)
  (h: ∀v O',R v O'→K (js ρ d v) O') (hn:Nat.blt d n=true:=by rfl):LT P r base n ⟨some d,.call ⟨.value x,args.toArray,w5⟩,t,p,af,g⟩ ρ O K:=by
 subst hx;subst ha
 intro a w M ds ha hi next Qx ik
 have h1:=hc w M hi
 rw[←Ho (t:=t) (p:=p) (af:=af) (g:=g) (w5:=w5) (dst:=some d)]at h1
 rw[←ha.eval]at h1
 revert h1
 generalize hr:(execOp a.eval ⟨some d,.call ⟨.value x,args.toArray,w5⟩,t,p,af,g⟩).run P w=y
 intro h1
 refine rK (by intro c e;cases e) ?_
 rw[hr]
 cases y with
 |halt e w=>exact h1.elim
 |ok y w1=>
  cases y with
  |enter f ajw=>
   rw[Oper.uponIn_enter]
   refine⟨fun e=>by simp[Fr,Fence.wide]at e,sV (Calls.mono h1 ?_)⟩
   rintro e w' ⟨v,O',rfl,x5,hR⟩
   exact ik _ _ _ _ (ha.put hn v) x5 (h v O' hR)
  |round l f tmps assign body=>
   rw[Oper.uponIn_round]
   refine⟨fun e=>by simp[Fr,Fence.wide]at e,RoundIn.mono h1 ?_⟩
   rintro e w' ⟨v,O',rfl,x5,hR⟩
   exact ik _ _ _ _ (ha.put hn v) x5 (h v O' hR)
  |_=>exact h1.elim
theorem dV {f:FuncId} {fn:Func} {args:List Operand} {w5:Array TypeId} {vs:List Value} {R:Value→List Item→Prop} (he:Enters P f fn) (hc:cZ P base f vs O R) (h: ∀v O',R v O'→K (js ρ d v) O') (ha:QW ρ args=vs:=by exact rfl) (hn:Nat.blt d n=true:=by rfl):LT P r base n ⟨some d,.call ⟨.value (.func f),args.toArray,w5⟩,t,p,af,g⟩ ρ O K:=
 et (b_ (first:=[]) (fU:=[]) he (by simpa using hc)) rfl ha h hn
def entry (args:List Value):Env:=fun t=>args.getD t undef
structure pk (P:Program) (base:World) (fn:Func) (ρ:Env) (O:List Item) (R:Value→List Item→Prop):Prop where
 ex: ∃v O',Sub O' O∧R v O'∧ ∀w tmps,Inv base O w→(∀t,tmps.getD t undef=ρ t)→(results fn tmps).run P w=.ok v w
def aby (P:Program) (base:World) (fn:Func) (R:Value→List Item→Prop):iT
 | .normal,ρ,O=>pk P base fn ρ O R
 | .ret,ρ,O=>pk P base fn ρ O R
 |_,_,_=>False
theorem tW {fn:Func} {tmps:Array Value} {M O':List Item} {Rx:Ending→World→Prop} (h: ∀w,Inv base (O'++M) w→ ∃v,(results fn tmps).run P w=.ok v w∧Rx (.returned v) w):
  ∀(D:List Nat) (w:World),Inv base (O'++(mI D++M)) w→LeavesInM Fence.wide 0 P fn tmps Rx (mD D) .returning w
 | [],w,hI=>h w hI
 |b::D,w,hI=>by
  have x5:Inv base (O'++Er b::(mI D++M)) w:=hI
  have hb:w.heap[b]? =some (.deferred (some [])):=x5.holds (Er b) (by simp)
  have fM:=(Array.getElem?_eq_some_iff.1 hb).1
  refine⟨by simp,.inl ⟨b,w.putObj b (.deferred none),rfl,run_takeDeferred hb,tW h D _ ?_⟩⟩
  have:=Inv.step (N:=[]) (w':=w.putObj b (.deferred none)) x5 rfl rfl rfl (by simp) (fun k _ hk=>World.putObj_heap_other (fun e=>hk (by simp[Er,eL,e]))) (by simp) (by simp) (by simp)
  simpa using this
theorem aF {f:FuncId} {fn:Func} {c:Code} {args:List Value} {R:Value→List Item→Prop} (hf:P.funcs[f]? =some fn) (hb:fn.body=some c) (hn:fn.ntmps=n) (hl:Nat.ble args.length n=true)
  (h:T P none base n c (aby P base fn R) (entry args) O):cZ P base f args O R:=by
 have hl:=Nat.le_of_ble_eq_true hl
 intro w M hI
 rw[←callsIn_wide (n:=0)]
 refine callsIn_of_wp_marks hf hb trivial (wpIn_mono (h _ w M [] trivial ⟨?_,?_,rfl⟩ hI) ?_)
 ·intro t
  show(args.toArray++Array.replicate (fn.ntmps-args.toArray.size) undef).getD t undef=args.getD t undef
  rw[dh,aj]
  by_cases h:t<args.length
  ·rw[Array.getElem?_append_left (by simpa using h)];simp
  ·rw[Array.getElem?_append_right (by simpa using h)]
   have:args[t]? =none:=by simp;omega
   rw[this,Array.getElem?_replicate]
   split<;>rfl
 ·simp;omega
 ·have key: ∀(a':Act) (w':World) (jz:Env) (O':List Item) (D:List Nat),Ag n (mD D) a' jz→Inv base (O'++(mI D++M)) w'→pk P base fn jz O' R→
    LeavesInM Fence.wide 0 P fn a'.tmps (fun e w''=> ∃v O',e=.returned v∧Inv base (O'++M) w''∧R v O') a'.defers .returning w':=by
   intro a' w' jz O' D h1 h2 h3
   obtain⟨v,Kz,mz,hR,hr⟩:=h3.ex
   rw[h1.defers]
   exact tW (fun w hI=>⟨v,hr w a'.tmps hI.left h1.tmp,v,Kz,rfl,hI.mA mz.Cb,hR⟩) D w' h2
  rintro e a' w' ⟨jz,O',D,h1,h2,h3⟩
  cases e with
  |normal=>exact key a' w' jz O' D h1 h2 h3
  |ret=>exact key a' w' jz O' D h1 h2 h3
  |_=>exact h3.elim
def lp (q:Loop) (j:Option Code):Obj:=.loop {q with state:=if j.isNone then .ready else .done,pending:=j}
structure Nn (q:Loop) (n:Nat) (ρ:Env) (ps:Array Nat) (assign body:Code):Prop where
 params:q.params=ps
 assign:q.assign=assign
 body:q.body=body
 tmp: ∀t,q.tmps.getD t undef=ρ t
 size:q.tmps.size=n
def U2 (Q:iT) (ρ:Env) (O:List Item):Option Code→Prop
 |none=>Q .normal ρ O
 |some .ret=>Q .ret ρ O
 |some (.exit id)=>Q (.exit id) ρ O
 |_=>False
theorem T.rangeFunc {gx:Operand} {ps:Array Nat} {assign body:Code} {Q:iT} {f:FuncId} {fn:Func} {first fU:List Value} (hg:ev ρ gx=.func (.func f) first.toArray fU.toArray) (he:Enters P f fn)
  (h: ∀(l:Nat) (q:Loop),Nn q n ρ ps assign body→cZ P base f (first++[.func (.yield l) #[] #[]]++fU) (eL l (lp q none)::O) (fun _ O'=> ∃j Kz,O'=eL l (lp q j)::Kz∧U2 Q ρ Kz j)):
  T P r base n (.rangeFunc gx ps assign body) Q ρ O:=by
 have Ex: ¬fn.name= "runtime.NumGoroutine" :=by simpa using he.2.1
 obtain⟨bd,hbd⟩:=Option.isSome_iff_exists.1 he.2.2
 intro a w M D hM ha hI
 refine wpIn_rangeFunc fun Ey _=>?_
 have hev:a.eval gx=.func (.func f) first.toArray fU.toArray:=by rw[ha.eval];exact hg
 have U3: ∀(l:Nat) (w1:World),(resolve a.eval (rangeCall gx l) 0).run P w1=.ok ⟨.fn (.func f) fU.toArray,(first++[Value.func (.yield l) #[] #[]]).toArray⟩ w1:=fun l w1=>by
  have e:(first++[Value.func (.yield l) #[] #[]]).toArray=first.toArray++ #[.func (.yield l) #[] #[]]:=by simp
  rw[e]
  have hc:a.eval (.const (.func (.yield l) #[] #[]))=.func (.yield l) #[] #[]:=rfl
  simp[resolve,hev,hc,Deferred.ofValue]
 have hinv: ∀(l:Nat) (w1:World),(invoke (.fn (.func f) fU.toArray) (first++[Value.func (.yield l) #[] #[]]).toArray).run P w1=.ok (.enter f (first++[Value.func (.yield l) #[] #[]]++fU).toArray) w1:=fun l w1=>by
  have e:(first++[Value.func (.yield l) #[] #[]]++fU).toArray=(first++[Value.func (.yield l) #[] #[]]).toArray++fU.toArray:=by simp
  rw[e]
  simp[invoke,callFunc,he.1,Ex,hbd]
 have post: ∀(l:Nat) (q:Loop) (mark:List Deferred) (D':List Nat),mark++mD D=mD D'→ ∀e w',(∃v O',e=Ending.returned v∧Inv base (O'++(mI D'++M)) w'∧ ∃j Kz,O'=eL l (lp q j)::Kz∧U2 Q ρ Kz j)→
   rangePost (Fr r) 0 P l (lift base n M Q) {a with defers:=mark++a.defers} e w':=by
  rintro l q mark D' abz e w' ⟨v,O',rfl,x5,j,Kz,rfl,hj⟩
  have hl:w'.heap[l]? =some (lp q j):=x5.holds (eL l (lp q j)) (by simp)
  have fM:=(Array.getElem?_eq_some_iff.1 hl).1
  refine⟨j,_,run_endLoop (P:=P) hl (by simp;split<;>simp),?_⟩
  have W9:Inv base (Kz++(mI D'++M)) (w'.putObj l (.loop {({q with state:=if j.isNone then .ready else .done,pending:=j}:Loop)with state:=.exhausted})):=by
   have:=Inv.step (A:=[]) (N:=[]) (w':=w'.putObj l (.loop {({q with state:=if j.isNone then .ready else .done,pending:=j}:Loop)with state:=.exhausted})) (B:=Kz++(mI D'++M)) (it:=eL l (lp q j)) x5
    rfl rfl rfl (by simp) (fun k _ hk=>World.putObj_heap_other (fun e=>hk (by simp[eL,e]))) (by simp) (by simp) (by simp)
   simpa using this
  have hag:Ag n (mD D') ({a with defers:=mark++a.defers}:Act) ρ:=⟨ha.tmp,ha.size,by simp[ha.defers];exact abz⟩
  cases j with
  |none=>exact⟨ρ,Kz,D',hag,W9,hj⟩
  |some c=>
   cases c with
   |ret=>exact wpIn_ret ⟨ρ,Kz,D',hag,W9,hj⟩
   |exit id=>exact wpIn_exit ⟨ρ,Kz,D',hag,W9,hj⟩
   |_=>exact hj.elim
 cases r with
 |none=>
  have hI1:Inv base (Er w.heap.size::(O++(mI D++M))) (w.alloc (.deferred (some []))):=hI.alloc _
  have W9:=hI1.alloc (.loop {state:=.ready,pending:=none,fn:=Ey,tmps:=a.tmps,params:=ps,assign,body,defers:=w.heap.size})
  have hI3:Inv base ((eL (w.heap.size+1) (lp {state:=.ready,pending:=none,fn:=Ey,tmps:=a.tmps,params:=ps,assign,body,defers:=w.heap.size} none)::O)++(mI (w.heap.size::D)++M))
    ((w.alloc (.deferred (some []))).alloc (.loop {state:=.ready,pending:=none,fn:=Ey,tmps:=a.tmps,params:=ps,assign,body,defers:=w.heap.size})):=by
   refine W9.perm ?_
   have e:(w.alloc (.deferred (some []))).heap.size=w.heap.size+1:=by simp
   rw[e]
   exact List.Perm.cons _ List.perm_middle
  refine⟨_,_,_,_,_,f,_,_,run_enterLoop_outer (P:=P) (w:=w) Ey a.tmps ps assign body,U3 _ _,fun _ _=>trivial,hinv _ _,fun e=>by simp[Fr,Fence.wide]at e,sV ?_⟩
  refine Calls.mono (h (w.heap.size+1) {state:=.ready,pending:=none,fn:=Ey,tmps:=a.tmps,params:=ps,assign,body,defers:=w.heap.size} ⟨rfl,rfl,rfl,ha.tmp,ha.size⟩ _ _ hI3) ?_
  exact post _ _ _ (w.heap.size::D) rfl
 |some l0=>
  obtain⟨it,nK,abB⟩:=hM
  obtain⟨rc,W_⟩:=abB w (hI.holds it (by simp[nK]))
  have W9:=hI.alloc (.loop {state:=.ready,pending:=none,fn:=Ey,tmps:=a.tmps,params:=ps,assign,body,defers:=rc.defers})
  refine⟨_,_,_,_,_,f,_,_,run_enterLoop_inner (P:=P) (w:=w) W_ Ey a.tmps ps assign body,U3 _ _,fun _ _=>trivial,hinv _ _,fun e=>by simp[Fr,Fence.wide]at e,sV ?_⟩
  refine Calls.mono (h w.heap.size {state:=.ready,pending:=none,fn:=Ey,tmps:=a.tmps,params:=ps,assign,body,defers:=rc.defers} ⟨rfl,rfl,rfl,ha.tmp,ha.size⟩ _ (mI D++M) W9) ?_
  exact post _ _ _ D rfl
def No:List Nat→List Value→Env→Env
 |t::ts,v::vs,ρ=>No ts vs (js ρ t v)
 |_,_,ρ=>ρ
theorem Ez: ∀(ts:List Nat) (vs:List Value) (tmps:Array Value) (ρ:Env),(ts.all fun t=>Nat.blt t n)=true→tmps.size=n→(∀t,tmps.getD t undef=ρ t)→
  (((ts.zip vs).foldl (fun tmps q=>tmps.setIfInBounds q.1 q.2) tmps).size=n∧ ∀t,((ts.zip vs).foldl (fun tmps q=>tmps.setIfInBounds q.1 q.2) tmps).getD t undef=No ts vs ρ t)
 | [],vs,tmps,ρ,_,hs,ht=>⟨hs,ht⟩
 |t::ts,[],tmps,ρ,_,hs,ht=>⟨hs,ht⟩
 |t::ts,v::vs,tmps,ρ,hb,hs,ht=>by
  simp only[List.all_cons,aY]at hb
  have h1:=Ag.put (a:= {tmps:=tmps,defers:=[]}) (ds:=[]) ⟨ht,hs,rfl⟩ hb.1 v
  exact Ez ts vs _ (js ρ t v) hb.2 h1.size h1.tmp
def Xa (l:Nat) (q:Loop) (R:Value→List Item→Prop):iT
 | .normal,_,O=>R (.bool true) (eL l (lp q none)::O)
 | .ret,_,O=>R (.bool false) (eL l (lp q (some .ret))::O)
 | .exit id,_,O=>R (.bool false) (eL l (lp q (some (.exit id)))::O)
 |_,_,_=>False
theorem Inv.EC {O M:List Item} {w:World} {l:Nat} {o o':Obj} (hI:Inv base (eL l o::O++M) w):Inv base (eL l o'::O++M) (w.putObj l o'):=by
 have hl:w.heap[l]? =some o:=hI.holds (eL l o) (by simp)
 have fM:=(Array.getElem?_eq_some_iff.1 hl).1
 have:=Inv.step (A:=[]) (N:=[eL l o']) (w':=w.putObj l o') (B:=O++M) (it:=eL l o) hI rfl rfl rfl (by simp) (fun k _ hk=>World.putObj_heap_other (fun e=>hk (by simp[eL,e])))
  (by intro x hx;simp at hx;subst hx;exact World.putObj_heap_same fM) (by intro x hx b hb;simp at hx;subst hx;exact .inl hb) (by simp[eL])
 simpa using this
theorem dS.yield {l:Nat} {q:Loop} {ps:Array Nat} {assign body:Code} {args:List Value} {R:Value→List Item→Prop} (hq:Nn q n ρ ps assign body) (hl:args.length=ps.size) (Hp:(ps.toList.all fun t=>Nat.blt t n)=true)
  (h:T P (some l) base n assign (so (fun ρ O=>T P (some l) base n body (Xa l q R) ρ O) (fun _ _ _=>False)) (No ps.toList args ρ) O):
  dS P base (.func (.yield l) #[] #[]) args (eL l (lp q none)::O) R:=by
 obtain⟨rfl,rfl,rfl,ht,hs⟩:=hq
 intro w M hI
 have hb:w.heap[l]? =some (.loop {q with state:=.ready,pending:=none}):=hI.holds (eL l (lp q none)) (by simp)
 have Xb:(n6 (.func (.yield l) #[] #[]) args.toArray).run P w=.ok (.round l q.fn ((q.params.toList.zip args).foldl (fun tmps p=>tmps.setIfInBounds p.1 p.2) q.tmps) q.assign q.body) w:=by
  have h1:=run_yield (P:=P) (args:=args.toArray) hb (by simpa using hl)
  simp only[n6,Deferred.ofValue,invoke,Sem.run_bind,Sem.run_pure,Result.andThen_ok]
  have e:(#[]:Array Value)++args.toArray=args.toArray:=by simp
  rw[e,h1]
  congr 2
  rw[←Array.foldl_toList]
  congr 1
  simp
 rw[Xb]
 obtain⟨sj,htm⟩:=Ez q.params.toList args q.tmps ρ Hp hs ht
 refine roundIn_of_wpIn trivial ?_
 have hI1:Inv base (O++(mI []++(eL l (lp q none)::M))) w:=hI.perm List.perm_middle
 refine wpIn_mono (h {tmps:=_,defers:=[]} w (eL l (lp q none)::M) [] ⟨eL l (lp q none),by simp,fun w hw=>⟨_,hw⟩⟩ ⟨htm,sj,rfl⟩ hI1) ?_
 rintro e a1 w1 ⟨ρ1,O1,D1,h1,h2,h3⟩
 cases e with
 |normal=>
  have h2':Inv base (eL l (lp q none)::(O1++mI D1)++M) w1:=h2.perm (by
   have:(O1++(mI D1++eL l (lp q none)::M))=((O1++mI D1)++eL l (lp q none)::M):=by simp
   rw[this]
   exact List.perm_middle.symm)
  have hb1:w1.heap[l]? =some (.loop {q with state:=.ready,pending:=none}):=h2'.holds (eL l (lp q none)) (by simp)
  refine⟨_,run_beginRound (P:=P) hb1 rfl,?_⟩
  have hI3:=h2'.EC (o':=.loop {({q with state:=.ready,pending:=none}:Loop)with state:=.busy})
  have hI4:Inv base (O1++(mI D1++(eL l (.loop {({q with state:=.ready,pending:=none}:Loop)with state:=.busy})::M))) (w1.putObj l (.loop {({q with state:=.ready,pending:=none}:Loop)with state:=.busy})):=hI3.perm (by
   have:(O1++(mI D1++eL l (.loop {({q with state:=.ready,pending:=none}:Loop)with state:=.busy})::M))=((O1++mI D1)++eL l (.loop {({q with state:=.ready,pending:=none}:Loop)with state:=.busy})::M):=by simp
   rw[this]
   exact List.perm_middle)
  refine wpIn_mono (h3 a1 _ _ D1 ⟨eL l (.loop {({q with state:=.ready,pending:=none}:Loop)with state:=.busy}),by simp,fun w hw=>⟨_,hw⟩⟩ h1 hI4) ?_
  rintro e a2 w2 ⟨ρ2,O2,D2,k1,k2,k3⟩
  have k2':Inv base (eL l (.loop {({q with state:=.ready,pending:=none}:Loop)with state:=.busy})::(O2++mI D2)++M) w2:=k2.perm (by
   have:(O2++(mI D2++eL l (.loop {({q with state:=.ready,pending:=none}:Loop)with state:=.busy})::M))=((O2++mI D2)++eL l (.loop {({q with state:=.ready,pending:=none}:Loop)with state:=.busy})::M):=by simp
   rw[this]
   exact List.perm_middle.symm)
  have wZ:w2.heap[l]? =some (.loop {({q with state:=.ready,pending:=none}:Loop)with state:=.busy}):=k2'.holds (eL l (.loop {({q with state:=.ready,pending:=none}:Loop)with state:=.busy})) (by simp)
  have fin: ∀j:Option Code,Inv base (eL l (lp q j)::O2++M) (w2.putObj l (lp q j)):=fun j=>by
   have:=k2'.EC (o':=lp q j)
   refine this.sub ?_
   simp only[cj,bw]
   exact List.Sublist.cons_cons _ (List.Sublist.append (ay _) (List.sublist_append_right _ _))
  cases e with
  |normal=>exact⟨_,_,run_endRound (P:=P) none wZ,_,_,rfl,fin none,k3⟩
  |ret=>exact⟨_,_,run_endRound (P:=P) (some .ret) wZ,_,_,rfl,fin (some .ret),k3⟩
  |exit id=>exact⟨_,_,run_endRound (P:=P) (some (.exit id)) wZ,_,_,rfl,fin (some (.exit id)),k3⟩
  |_=>exact k3.elim
 |_=>exact h3.elim
theorem pk.zero {fn:Func} {R:Value→List Item→Prop} (hr:fn.results= #[]) (h:R (.tuple #[]) O):pk P base fn ρ O R:=
 ⟨⟨_,O,bj (ay _),h,fun w tmps _ _=>results_none hr tmps P w⟩⟩
theorem aM {fn:Func} {R:Value→List Item→Prop} {a:Nat} (v:Value) (hr:fn.results= #[.tmp a]) (hv:ρ a=v) (h:R v O):pk P base fn ρ O R:=
 ⟨⟨_,O,bj (ay _),h,fun w tmps _ ht=>by rw[results_tmp hr tmps P w,ht,hv]⟩⟩
theorem fJ {fn:Func} {R:Value→List Item→Prop} {a b:Nat} (v u:Value) (hr:fn.results= #[.tmp a,.tmp b]) (hv:ρ a=v) (hu:ρ b=u) (h:R (.tuple #[v,u]) O):pk P base fn ρ O R:=
 ⟨⟨_,O,bj (ay _),h,fun w tmps _ ht=>by rw[results_tmp2 hr tmps P w,ht,ht,hv,hu]⟩⟩
theorem e7 {fn:Func} {R:Value→List Item→Prop} (h:pk P base fn ρ O (fun v O1=> ∃O2,Sub O2 O1∧R v O2)):pk P base fn ρ O R:=by
 obtain⟨v,O1,hs,⟨O2,BP,hR⟩,hr⟩:=h.ex
 refine⟨⟨v,O2,?_,hR,hr⟩⟩
 obtain⟨l2,p2,s2⟩:=BP
 obtain⟨l1,p1,s1⟩:=hs
 obtain⟨l3,p3,s3⟩:=List.exists_perm_sublist s2 p1
 exact⟨l3,p2.trans p3.symm,s3.trans s1⟩
theorem qV {T E:TypeId} {d:TypeDesc} {z:Value} {s gy b:Nat} {cs:List Value} {fr:Nat×Nat} {w:World} (hu:P.underlying T=some d) (ha:nr d=true) (hi:gq P T z s gy) (hl:cs.length=s) (hw:w.heap[b]? =some (.cells cs.toArray E fr)):
  (loadVar T ⟨b,0,none⟩).run P w=.ok (.agg cs.toArray) w:=by
 have h:=lQ (P:=P) (w:=w) (a:=⟨b,0,none⟩) cs 0 #[] (fun j hj=>by
  rw[tV];unfold World.cell?;simp[hw])
 simp[loadVar,ja hu,ha,cA hi,loadCells,←hl,h]
theorem iX {fn:Func} {R:Value→List Item→Prop} {a i:Nat} {T E:TypeId} {d:TypeDesc} {z:Value} {s gy b:Nat} {cs:List Value} {fr:Nat×Nat} (hr:fn.results= #[.cell a T]) (hu:P.underlying T=some d) (ha:nr d=true) (hi:gq P T z s gy) (hp:ρ a=.pointer (some ⟨b,0,none⟩)) (hO:O[i]? =some (eL b (.cells cs.toArray E fr))) (hl:cs.length=s)
  (h:R (.agg cs.toArray) O):pk P base fn ρ O R:=
 ⟨⟨_,O,bj (ay _),h,fun w tmps hI ht=>by
  have:=qV (P:=P) hu ha hi hl (hI.qU hO)
  have AZ:=ht a
  simp only[dh]at AZ
  simp[results,hr,AZ,hp,asAddr,this]⟩⟩
theorem dT {fn:Func} {R:Value→List Item→Prop} {a i c:Nat} (u:Value) {T E:TypeId} {d:TypeDesc} {z:Value} {s gy b:Nat} {cs:List Value} {fr:Nat×Nat} (hr:fn.results= #[.cell a T,.tmp c]) (hu:P.underlying T=some d) (ha:nr d=true) (hi:gq P T z s gy) (hp:ρ a=.pointer (some ⟨b,0,none⟩)) (hO:O[i]? =some (eL b (.cells cs.toArray E fr))) (hl:cs.length=s) (UW:ρ c=u)
  (h:R (.tuple #[.agg cs.toArray,u]) O):pk P base fn ρ O R:=
 ⟨⟨_,O,bj (ay _),h,fun w tmps hI ht=>by
  have:=qV (P:=P) hu ha hi hl (hI.qU hO)
  have AZ:=ht a
  have hc:=ht c
  simp only[dh]at AZ hc
  simp[results,hr,AZ,hc,UW,hp,asAddr,this]⟩⟩
end
def cL:List (Nat×Value)→Env→Prop
 | [],_=>True
 |q::L,ρ=>ρ q.1=q.2∧cL L ρ
def ED (L:List (Nat×Value)) (ρ:Env):Env:=L.foldr (fun q r=>js r q.1 q.2) ρ
theorem cL.of {ρ:Env}: ∀ {L:List (Nat×Value)},L.map (fun q=>ρ q.1)=L.map (·.2)→cL L ρ
 | [],_=>trivial
 |_::_,h=>⟨(List.cons.inj h).1,cL.of (List.cons.inj h).2⟩
theorem yi {ρ:Env}: ∀ {L:List (Nat×Value)},cL L ρ→ED L ρ=ρ
 | [],_=>rfl
 |q::L,h=>by
  have ih:=yi h.2
  show js (ED L ρ) q.1 q.2=ρ
  rw[ih]
  funext t
  unfold js
  cases e:Nat.beq t q.1 with
  |false=>rfl
  |true=>rw[Nat.eq_of_beq_eq_true e];exact h.1.symm
theorem cL.elim {L:List (Nat×Value)} {ρ:Env} (h:cL L ρ): ∃fy,ρ=ED L fy:=⟨ρ,(yi h).symm⟩
abbrev ints (xs:List Int):List Value:=xs.map (Value.int .i64)
abbrev bn (xs:List Nat):List Value:=xs.map fun x:Nat=>Value.int .i64 (x:Int)
abbrev bv (xs:List Bool):List Value:=xs.map Value.bool
abbrev ek (xs:List Nat):List Value:=xs.map fun x:Nat=>Value.int .u8 (x:Int)
theorem eu {xs:List Int} {k:Nat} (h:k<xs.length:=by first|assumption|omega|(simp;omega)|simp_all):(ints xs)[k]? =some (.int .i64 xs[k]):=by simp[h]
theorem dK {xs:List Nat} {k:Nat} (h:k<xs.length:=by first|assumption|omega|(simp;omega)|simp_all):(bn xs)[k]? =some (.int .i64 ((xs[k]:Nat):Int)):=by simp[h]
theorem gj {xs:List Bool} {k:Nat} (h:k<xs.length:=by first|assumption|omega|(simp;omega)|simp_all):(bv xs)[k]? =some (.bool xs[k]):=by simp[h]
theorem h_ {xs:List Nat} {k:Nat} (h:k<xs.length:=by first|assumption|omega|(simp;omega)|simp_all):(ek xs)[k]? =some (.int .u8 ((xs[k]:Nat):Int)):=by simp[h]
theorem Np (xs:List Int):((ints xs).all fL)=true:=by simp[fL]
theorem EE (xs:List Nat):((ek xs).all fL)=true:=by simp[fL]
def vk (P:Program) (T:TypeId) (pl:List (Nat×Nat)):Prop:=
 ∃fields,P.underlying T=some (.struct fields)∧ ∀w:World,(fields.mapM fun f=>do pure (f.offset,←sizeOf f.type):Sem (Array (Nat×Nat))).run P w=.ok pl.toArray w
section
variable {P:Program} {base:World} {ρ:Env} {O:List Item} {dst:Option Nat} {t:TypeId} {p:String} {af:Array Edge} {g:Option (Nat×Bool)}
theorem U4 {x y:Operand} {T E:TypeId} {b o n c i:Nat} {k:IntKind} {z:Value} {gy:Nat} (hu:P.underlying T=some (.slice E)) (hi:gq P E z 1 gy) (hx:ev ρ x=.slice (some ⟨b,o,none⟩) n c) (hy:ev ρ y=.int k (i:Int)) (fM:i<n):
  QT P base ⟨dst,.indexAddr T x y,t,p,af,g⟩ ρ O (.pointer (some ⟨b,o+i,none⟩)):=by
 have:=vV (P:=P) (base:=base) (O:=O) (dst:=dst) (t:=t) (p:=p) (af:=af) (g:=g) hu hi hx hy fM
 rwa[Nat.mul_one]at this
theorem bR {c a b:Operand} {v:Value} (hc:ev ρ c=.bool true:=by exact rfl) (ha:ev ρ a=v:=by exact rfl):QT P base ⟨dst,.pick c a b,t,p,af,g⟩ ρ O v:=fun w _=>by simp[execOp,hc,ha,asBool]
theorem ca {c a b:Operand} {v:Value} (hc:ev ρ c=.bool false:=by exact rfl) (hb:ev ρ b=v:=by exact rfl):QT P base ⟨dst,.pick c a b,t,p,af,g⟩ ρ O v:=fun w _=>by simp[execOp,hc,hb,asBool]
theorem dy (cs:List Value) {T:TypeId} {parts:List (Nat×Operand)} {pl:List (Nat×Nat)} {z:Value} {s gy:Nat} (hp:vk P T pl) (hi:gq P T z s gy) (hf:Instr.fill (fun i=>pl[i]?) z.cells (parts.map fun q=>(q.1,ev ρ q.2))=some cs.toArray):
  QT P base ⟨dst,.build T parts.toArray,t,p,af,g⟩ ρ O (.agg cs.toArray):=fun w _=>by
 obtain⟨fields,hu,hm⟩:=hp
 have W6:Instr.fill (fun i=>pl.toArray[i]?) z.cells (parts.map fun q=>(q.1,ev ρ q.2))=some cs.toArray:=by simpa using hf
 simp only[execOp,Instr.build,Sem.run_bind,gI hi,Result.andThen_ok,bD hu,hm w]
 simp at W6
 simp[W6]
end
theorem dE {P:Program} {base:World} {o:Oper} {ρ:Env} {O:List Item} {b b':Bool} (h:QT P base o ρ O (.bool b)) (e:b=b'):QT P base o ρ O (.bool b'):=e▸h
def iY (w:World) (vs:List Value) (rs:List (List Int)):Prop:=
 vs.length=rs.length∧ ∀(i:Nat) (r:List Int),rs[i]? =some r→ ∃b c,vs[i]? =some (Value.slice b r.length c)∧Sl w b (ints r)
theorem iY.get {w:World} {vs:List Value} {rs:List (List Int)} (h:iY w vs rs) {i:Nat} (hi:i<rs.length): ∃b c,vs[i]? =some (Value.slice b rs[i].length c)∧Sl w b (ints rs[i]):=
 h.2 i rs[i] (ah hi)
theorem iY.keep {w w':World} {vs:List Value} {rs:List (List Int)} (h:iY w vs rs) (hb: ∀k,k<w.heap.size→w'.heap[k]? =w.heap[k]?):iY w' vs rs:=
 ⟨h.1,fun i r hr=>by obtain⟨b,c,h1,h2⟩:=h.2 i r hr;exact⟨b,c,h1,h2.keep hb⟩⟩
theorem Inv.rows {base:World} {O:List Item} {w:World} (hI:Inv base O w) {vs:List Value} {rs:List (List Int)} (h:iY base vs rs):iY w vs rs:=h.keep hI.below.block
structure Rec where
 b:Option Addr
 c:Nat
 xs:List Int
def Rec.val (q:Rec):Value:=.slice q.b q.xs.length q.c
def Rec.jS (E:TypeId) (q:Rec):Item:=ak q.b q.c E 1 (ints q.xs)
abbrev bW (qs:List Rec):List Value:=qs.map Rec.val
abbrev bQ (E:TypeId) (qs:List Rec):List Item:=qs.map (Rec.jS E)
abbrev nums (qs:List Rec):List (List Int):=qs.map Rec.xs
theorem sH {base:World} {O:List Item} {w:World} (hI:Inv base O w) {E:TypeId} {qs:List Rec} (h: ∀q∈qs,q.jS E∈O):iY w (bW qs) (nums qs):=by
 refine⟨by simp,fun i r hr=>?_⟩
 obtain⟨q,hq,rfl⟩: ∃q,qs[i]? =some q∧q.xs=r:=by
  rw[bc]at hr
  cases e:qs[i]? with
  |none=>rw[e]at hr;cases hr
  |some q=>rw[e]at hr;exact⟨q,rfl,by simpa using hr⟩
 refine⟨q.b,q.c,by simp[hq,Rec.val],?_⟩
 exact rowP.sl (hI.holds _ (h q (bE hq)))
theorem Inv.ga {base:World} {O:List Item} {w:World} (hI:Inv base O w) {b:Option Addr} {c:Nat} {T:TypeId} {k:Nat} {cs:List Value} (h:ak b c T k cs∈O):Sl w b cs:=rowP.sl (hI.holds _ h)
section
variable {P:Program} {r:Option Nat} {base:World} {n:Nat} {ρ:Env} {O:List Item} {K:Env→List Item→Prop} {d:Nat} {t:TypeId} {p:String} {af:Array Edge} {g:Option (Nat×Bool)} {dst:Option Nat}
theorem A0 {T U E XE:TypeId} {l s gy:Nat} {x y:Operand} {xv z:Value} {new:List Value}
  (hu:P.underlying T=some (.slice E)) (Nj:P.underlying U=some (.slice XE)) (hi:gq P E z s gy) (hz:z.cells.size=s)
  (hx:ev ρ x=.slice none 0 0) (hy:ev ρ y=xv) (hs:0<s)
  (Nl:Src P base O s l xv new) (Cc:(new.all fL)=true) (sj:l*gy≤70368744177664) (RK:gy≤1000000) (Ew:0<gy)
  (h: ∀b' c',K (js ρ d (.slice b' l c')) (ak b' c' E s new::O)) (hn:Nat.blt d n=true:=by rfl):
  LT P r base n ⟨some d,.call ⟨.builtin .append,#[x,y],#[T,U]⟩,t,p,af,g⟩ ρ O K:=
 fI hn fun w M hI=>by
  have x5:=hI.dH E s
  have abC:Src P base (ak none 0 E s []::(O++M)) s l xv new:=⟨Nl.1,Nl.2.1,fun w hI=>Nl.2.2 w (hI.sub (List.sublist_cons_self _ _)).left⟩
  obtain⟨b',c',w',hr,agN⟩:=sU (j:=0) (ty:=t) (m:=0) hu Nj (.inl ⟨_,rfl⟩) hi hz rfl (by simp) hs abC Cc (by simpa using sj) RK Ew x5
  refine⟨_,w',_,?_,agN,by simpa using h b' c'⟩
  rw[Nat.zero_add]at hr
  simp[execOp,resolve,hx,hy,invoke,builtin,hr]
theorem dv {T E:TypeId} {x:Operand} {v:Value} {z:Value} {gy:Nat} (hu:P.underlying T=some (.slice E)) (hi:gq P E z 1 gy) (_hz:z.cells.size=1) (hx:ev ρ x=v) (hv:fL v=true)
  (h: ∀b,K (js ρ d (.slice (some ⟨b,0,none⟩) 1 1)) (ak (some ⟨b,0,none⟩) 1 E 1 [v]::O)) (hn:Nat.blt d n=true:=by rfl):LT P r base n ⟨some d,.buildSlice T 1 #[(0,x)],t,p,af,g⟩ ρ O K:=by
 refine cW (parts:=[(0,x)]) (cs:=[v]) hu hi (by omega) ?_ (by simp) h hn
 have hc:v.cells= #[v]:=by cases v<;>simp_all[fL,Value.cells]
 simp[Instr.fill,hx,hc]
 apply Array.ext_getElem?
 intro i
 cases i with
 |zero=>simp
 |succ i=>simp
end
structure fx where
 vars:Int
 start:Int
 next:List (List Int)
 vS:List Bool
 deriving DecidableEq
noncomputable def one (a b:Item):Nat:=open Classical in if b=a then 1 else 0
noncomputable def cO (a:Item):List Item→Nat
 | []=>0
 |b::l=>one a b+cO a l
theorem jq (a:Item):cO a []=0:=rfl
theorem gg (a b:Item) (l:List Item):cO a (b::l)=one a b+cO a l:=rfl
theorem fF (a:Item) (l m:List Item):cO a (l++m)=cO a l+cO a m:=by
 induction l with
 |nil=>simp[cO]
 |cons b l ih=>rw[cj,gg,ih,gg];omega
theorem RP {a:Item} {l:List Item} (h:0<cO a l): ∃l1 l2,l=l1++a::l2:=by
 induction l with
 |nil=>simp[cO]at h
 |cons b l ih=>
  by_cases e:b=a
  ·subst e;exact⟨[],l,rfl⟩
  ·obtain⟨l1,l2,rfl⟩:=ih (by simpa[cO,one,e]using h)
   exact⟨b::l1,l2,rfl⟩
theorem vW: ∀ {l m:List Item},(∀a,cO a l=cO a m)→l.Perm m
 | [],m,h=>by
  cases m with
  |nil=>exact List.Perm.refl _
  |cons b m=>have:=h b;simp[cO,one]at this;omega
 |b::l,m,h=>by
  obtain⟨m1,m2,rfl⟩:=RP (a:=b) (l:=m) (by rw[←h b];simp[cO,one];omega)
  have h': ∀a,cO a l=cO a (m1++m2):=fun a=>by
   have:=h a
   rw[gg,fF,gg]at this
   rw[fF];omega
  exact(List.Perm.cons b (vW h')).trans List.perm_middle.symm
theorem Sub.cO {O' O:List Item} (D:List Item) (h: ∀a,Lx.cO a (O'++D)=Lx.cO a O):Sub O' O:=by
 have hp:=vW h
 obtain⟨l,h1,h2⟩:=List.exists_perm_sublist (List.sublist_append_left O' D) hp
 exact⟨l,h1.symm,h2⟩
def Nq:List Item→Nat→List Item
 | [],_=>[]
 |a::_,0=>[a]
 |_::l,i+1=>Nq l i
def tX:List Item→Nat→List Item
 | [],_=>[]
 |_::l,0=>l
 |a::l,i+1=>a::tX l i
def tY:List Nat→List Item→List Item
 | [],_=>[]
 |i::is,L=>Nq L i++tY is (tX L i)
def vX:List Nat→List Item→List Item
 | [],L=>L
 |i::is,L=>vX is (tX L i)
theorem A3: ∀(L:List Item) (i:Nat),(Nq L i++tX L i).Perm L
 | [],i=>List.Perm.refl _
 |a::l,0=>List.Perm.refl _
 |a::l,i+1=>by
  have ih:=A3 l i
  show(Nq l i++a::tX l i).Perm (a::l)
  exact List.perm_middle.trans (List.Perm.cons a ih)
theorem oX: ∀(is:List Nat) (L:List Item),(tY is L++vX is L).Perm L
 | [],L=>List.Perm.refl _
 |i::is,L=>by
  show((Nq L i++tY is (tX L i))++vX is (tX L i)).Perm L
  rw[bw]
  exact((oX is (tX L i)).append_left _).trans (A3 L i)
theorem gY {O' D O:List Item} (h:(O'++D).Perm O):Sub O' O:=by
 obtain⟨l,h1,h2⟩:=List.exists_perm_sublist (List.sublist_append_left O' D) h
 exact⟨l,h1.symm,h2⟩
theorem aR (is:List Nat) {L O':List Item} (h:tY is L=O':=by exact rfl):Sub O' L:=h▸gY (oX is L)
theorem dx (is:List Nat) (L R:List Item) {O' O:List Item} (h:tY is L++R=O') (h2:L++R=O):Sub O' O:=by
 subst h;subst h2;exact(aR is).Cb
theorem fu (is:List Nat) (L R:List Item) {O' O:List Item} (h:tY is L=O') (h2:L++R=O):Sub O' O:=by
 subst h;subst h2;exact gY (D:=vX is L++R) (by rw[←bw];exact(oX is L).append_right R)
section
variable {X:PX} {P:Program} {r:Option Nat} {base:World} {n:Nat} {ρ:Env} {O O' S:List Item} {K:Env→List Item→Prop} {ops:Array Oper} {l:List Oper} {tail:List Nat} {od:List (Nat×Nat)}
theorem cY (hs:Sub O' O) (h:TO X P r base n ops l K ρ O'):TO X P r base n ops l K ρ O:=fun Q a w M D hk ha hi=>h Q a w M D hk ha (hi.mA hs.Cb)
theorem eM {S2:List Item} {dz:List Nat} (hs:Sub O' O) (h:DO X P r base n ops S tail S2 dz od K ρ O'):DO X P r base n ops S tail S2 dz od K ρ O:=
 fun h1 kO h3 listed h4 Q a w M D hq hp ha hI nN hS=>h h1 kO h3 listed h4 Q a w M D hq hp ha (hI.mA hs.Cb) nN hS
theorem cZ.sub {f:FuncId} {args:List Value} {R:Value→List Item→Prop} (hs:Sub O' O) (h:cZ P base f args O' R):cZ P base f args O R:=fun w M hI=>h w M (hI.mA hs.Cb)
theorem T.have {c:Code} {Q:iT} {φ:Prop} (hf: ∀w,Inv base O w→φ) (h:φ→T P r base n c Q ρ O):T P r base n c Q ρ O:=fun a w M D hM ha hi=>h (hf w hi.left) a w M D hM ha hi
end
section
variable {P:Program} {base:World} {ρ:Env} {O:List Item} {dst:Option Nat} {t:TypeId} {p:String} {af:Array Edge} {g:Option (Nat×Bool)}
theorem abD {x y:Operand} {T U:TypeId} {k k':IntKind} {a b:Int} (hx:ev ρ x=.int k a) (hy:ev ρ y=.int k' b) (h0:0≤b):QT P base ⟨dst,.binOp .shl T x y U,t,p,af,g⟩ ρ O (.int k (k.wrap (a*2^(min b.toNat k.bits)))):=fun w _=>by
 have: ¬b<0:=by omega
 simp[execOp,hx,hy,eqGuard,binOp,Op.shift,this]
theorem uZ {x y:Operand} {T U:TypeId} {k':IntKind} {v:Nat} (hx:ev ρ x=.int .i64 1) (hy:ev ρ y=.int k' (v:Int)) (hv:v≤60):QT P base ⟨dst,.binOp .shl T x y U,t,p,af,g⟩ ρ O (.int .i64 ((2^v:Nat):Int)):=by
 have h:=abD (P:=P) (base:=base) (O:=O) (dst:=dst) (t:=t) (p:=p) (af:=af) (g:=g) (T:=T) (U:=U) hx hy (by omega)
 have e:min (v:Int).toNat (IntKind.i64.bits)=v:=by
  have:IntKind.i64.bits=64:=rfl
  rw[this];simp;omega
 rw[e]at h
 have mB:(2:Nat)^v≤2^60:=dw (by omega) hv
 have Hq:(2:Nat)^60=1152921504606846976:=by rfl
 have e2:(1:Int)*2^v=((2^v:Nat):Int):=by rw[Int.one_mul,Int.natCast_pow];rfl
 rw[e2]at h
 rw[Hq]at mB
 generalize(2:Nat)^v=q at*
 rwa[gN (by omega)]at h
theorem abE {x y:Operand} {T U:TypeId} {k:IntKind} {a b:Int} (hx:ev ρ x=.int k a) (hy:ev ρ y=.int k b) (h0:b≠0):QT P base ⟨dst,.binOp .rem T x y U,t,p,af,g⟩ ρ O (.int k (a.tmod b)):=fun w _=>by
 simp[execOp,hx,hy,eqGuard,binOp,Op.intDiv,h0]
theorem abF {x y:Operand} {w5:Array TypeId} {k k':IntKind} {a b:Int} (hx:ev ρ x=.int k a) (hy:ev ρ y=.int k' b):QT P base ⟨dst,.call ⟨.builtin .min,#[x,y],w5⟩,t,p,af,g⟩ ρ O (.int k (if b<a then b else a)):=fun w _=>by
 simp[execOp,resolve,hx,hy,invoke,builtin,Builtin.min_,Builtin.min2]
theorem UO {x y:Operand} {w5:Array TypeId} {k k':IntKind} {a b:Int} (hx:ev ρ x=.int k a) (hy:ev ρ y=.int k' b):QT P base ⟨dst,.call ⟨.builtin .max,#[x,y],w5⟩,t,p,af,g⟩ ρ O (.int k (if b>a then b else a)):=fun w _=>by
 simp[execOp,resolve,hx,hy,invoke,builtin,Builtin.max_,Builtin.max2]
def str (l:List UInt8):Value:=.string ⟨l.toArray⟩
theorem EF {x:Operand} {T:TypeId} {l:List UInt8} (hu:P.underlying T=some .string) (hx:ev ρ x=str l):QT P base ⟨dst,.call ⟨.builtin .len,#[x],#[T]⟩,t,p,af,g⟩ ρ O (.int .i64 (l.length:Int)):=fun w _=>by
 have e:(ByteArray.mk l.toArray).size=l.length:=by show l.toArray.size=_;simp
 simp[execOp,resolve,hx,str,invoke,builtin,Builtin.len_,bD hu,goInt,e]
abbrev gA (l:List UInt8):List Value:=l.map fun b:UInt8=>Value.int .u8 (b.toNat:Int)
theorem Hr (l:List UInt8):((gA l).all fL)=true:=by simp[fL]
def RQ {α β:Type} (K:α→Value) (V:β→Value) (m:Nat) (l:List (α×β)) (w:World):Prop:=
 ∃es d_,w.heap[m]? =some (.map es d_)∧es.toList.map (fun e=>(e.key,e.val))=(l.map fun q=>(K q.1,V q.2))∧(es.toList.map (·.born)).Nodup∧ ∀e∈es.toList,e.born<d_
def cM {α β:Type} (K:α→Value) (V:β→Value) (m:Nat) (l:List (α×β)):Item where
 blocks:=[m]
 P:=RQ K V m l
 loc:=fun w w' h hp=>by
  obtain⟨es,d_,h1,h2⟩:=hp
  exact⟨es,d_,by rw[h m (by simp)];exact h1,h2⟩
def jC {α:Type} [DecidableEq α] (a:α):List α→List MapEntry→Nat→Option (Nat×Value)
 |k::ks,e::es,i=>if a=k then some (i,e.val)else jC a ks es (i+1)
 |_,_,_=>none
structure fZ (P:Program) {α:Type} [DecidableEq α] (kt:TypeId) (K:α→Value):Prop where
 check: ∀e a w,(Instr.checkKey e 10000 kt (K a)).run P w=.ok () w
 find: ∀(es:List MapEntry) (ks:List α) (a:α) (w:World),es.map (·.key)=ks.map K→(Instr.findKey kt (K a) es).run P w=.ok (jC a ks es 0) w
theorem fZ.int {kt:TypeId} {k:IntKind} (hu:P.underlying kt=some (.int k)):fZ P kt (fun a:Int=>Value.int .i64 a) where
 check:=fun e a w=>by
  show(Instr.checkKey e (9999+1) kt _).run P w=_
  rw[Instr.checkKey]
  simp[bD hu,str]
 find:=fun es ks a w h=>by
  have key: ∀(es:List MapEntry) (ks:List Int) (i:Nat),es.map (·.key)=ks.map (fun a:Int=>Value.int .i64 a)→Instr.findNow (.int k) (.int .i64 a) es i=some (jC a ks es i):=by
   intro es
   induction es with
   |nil=>intro ks i h;cases ks<;>simp_all[Instr.findNow,jC]
   |cons e es ih=>
    intro ks i h
    cases ks with
    |nil=>simp at h
    |cons b ks=>
     simp only[bL,List.cons.injEq]at h
     simp only[Instr.findNow,h.1,Instr.sameNow,if_true,jC]
     by_cases e:a=b
     ·simp[e]
     ·have:(a==b)=false:=by simpa using e
      simp[this,e,ih ks (i+1) h.2]
  simp[Instr.findKey,bD hu,key es ks 0 h]
theorem Nr (a b:List UInt8):((⟨a.toArray⟩:ByteArray)==⟨b.toArray⟩)=decide (a=b):=by
 show(a.toArray==b.toArray)=_
 by_cases e:a=b
 ·subst e;simp
 ·simp[e]
theorem sW {α:Type} [DecidableEq α] {a:α}: ∀(ks:List α) (es:List MapEntry) (i:Nat),a∉ks→jC a ks es i=none
 | [],_,_,_=>rfl
 |k::ks,[],_,_=>rfl
 |k::ks,e::es,i,h=>by
  simp only[dU,not_or]at h
  simp[jC,h.1,sW ks es (i+1) h.2]
def eN {α β:Type} [DecidableEq α] (a:α):List (α×β)→Option β
 | []=>none
 |q::l=>if a=q.1 then some q.2 else eN a l
theorem yj {α β:Type} [DecidableEq α] {K:α→Value} {V:β→Value} {a:α}: ∀(l:List (α×β)) (es:List MapEntry) (i:Nat),es.map (fun e=>(e.key,e.val))=l.map (fun q=>(K q.1,V q.2))→(jC a (l.map Prod.fst) es i).map Prod.snd=(eN a l).map V
 | [],es,i,h=>by cases es<;>rfl
 |q::l,[],i,h=>by simp at h
 |q::l,e::es,i,h=>by
  simp only[bL,List.cons.injEq,Prod.mk.injEq]at h
  simp only[bL,jC,eN]
  by_cases e:a=q.1
  ·simp[e,h.1.2]
  ·simp only[e,if_false];exact yj l es (i+1) h.2
theorem w6 {α β:Type} {K:α→Value} {V:β→Value} {es:List MapEntry} {l:List (α×β)} (h:es.map (fun e=>(e.key,e.val))=l.map (fun q=>(K q.1,V q.2))):es.map (·.key)=(l.map Prod.fst).map K:=by
 have:=av (List.map Prod.fst) h
 simpa[Function.comp_def]using this
theorem ym {x:Operand} {T kt vt:TypeId} {m:Nat} {α β:Type} {K:α→Value} {V:β→Value} {l:List (α×β)} (hu:P.underlying T=some (.map kt vt)) (hx:ev ρ x=.map (some m)) (hO:cM K V m l∈O):
  QT P base ⟨dst,.call ⟨.builtin .len,#[x],#[T]⟩,t,p,af,g⟩ ρ O (.int .i64 (l.length:Int)):=fun w hI=>by
 obtain⟨es,d_,h1,h2,_⟩:=hI.holds _ hO
 have hl:es.size=l.length:=by have:=av List.length h2;simpa using this
 simp[execOp,resolve,hx,invoke,builtin,Builtin.len_,bD hu,getObj,Sem.run,h1,goInt,hl]
theorem yn {T kt vt:TypeId} {m:Nat} {α β:Type} [DecidableEq α] {K:α→Value} {V:β→Value} {l:List (α×β)} {z:Value} {s gy:Nat} {w:World} (hu:P.underlying T=some (.map kt vt)) (hz:gq P vt z s gy) (hk:fZ P kt K) (h:RQ K V m l w) (a:α) (ok:Bool):
  (Instr.lookup T (.map (some m)) (K a) ok).run P w=.ok (if ok then .tuple #[((eN a l).map V).getD z,.bool (eN a l).isSome]else((eN a l).map V).getD z) w:=by
 obtain⟨es,d_,h1,h2,h3,h4⟩:=h
 have hf:=hk.find es.toList (l.map Prod.fst) a w (w6 h2)
 have hl:=yj (a:=a) l es.toList 0 h2
 have hg:(getObj m).run P w=.ok (.map es d_) w:=by simp[getObj,Sem.run,h1]
 simp only[Instr.lookup,Sem.run_bind,bD hu,Result.andThen_ok,hg,Sem.run_pure,hk.check,hf]
 cases e:jC a (l.map Prod.fst) es.toList 0 with
 |none=>
  rw[e]at hl
  have:eN a l=none:=by cases e2:eN a l with|none=>rfl|some v=>rw[e2]at hl;cases hl
  simp[gI hz,this]
 |some q=>
  rw[e]at hl
  obtain⟨i,v⟩:=q
  cases e2:eN a l with
  |none=>rw[e2]at hl;cases hl
  |some u=>
   rw[e2]at hl
   simp at hl
   simp[hl]
theorem jy {x y:Operand} {T kt vt:TypeId} {m:Nat} {α β:Type} [DecidableEq α] {K:α→Value} {V:β→Value} {l:List (α×β)} {z:Value} {s gy:Nat} {a:α} (hu:P.underlying T=some (.map kt vt)) (hz:gq P vt z s gy) (hk:fZ P kt K)
  (hx:ev ρ x=.map (some m)) (hy:ev ρ y=K a) (hO:cM K V m l∈O):QT P base ⟨dst,.lookup T x y false,t,p,af,g⟩ ρ O (((eN a l).map V).getD z):=fun w hI=>by
 have:=yn hu hz hk (hI.holds _ hO) a false
 simp[execOp,hx,hy,this]
theorem pL {x y:Operand} {T kt vt:TypeId} {m:Nat} {α β:Type} [DecidableEq α] {K:α→Value} {V:β→Value} {l:List (α×β)} {z:Value} {s gy:Nat} {a:α} (hu:P.underlying T=some (.map kt vt)) (hz:gq P vt z s gy) (hk:fZ P kt K)
  (hx:ev ρ x=.map (some m)) (hy:ev ρ y=K a) (hO:cM K V m l∈O):QT P base ⟨dst,.lookup T x y true,t,p,af,g⟩ ρ O (.tuple #[((eN a l).map V).getD z,.bool (eN a l).isSome]):=fun w hI=>by
 have:=yn hu hz hk (hI.holds _ hO) a true
 simp[execOp,hx,hy,this]
end
section
variable {P:Program} {r:Option Nat} {base:World} {n:Nat} {ρ:Env} {O:List Item} {K':Env→List Item→Prop} {d:Nat} {t:TypeId} {p:String} {af:Array Edge} {g:Option (Nat×Bool)}
theorem io {T:TypeId} {α β:Type} (K:α→Value) (V:β→Value) (h: ∀m,K' (js ρ d (.map (some m))) (cM K V m []::O)) (hn:Nat.blt d n=true:=by rfl):LT P r base n ⟨some d,.makeMap T none,t,p,af,g⟩ ρ O K':=
 fI hn fun w M hI=>⟨.map (some w.heap.size),w.alloc (.map #[] 0),_,by simp[execOp,Instr.makeMap],by
  refine Inv.new (O:=O++M) (N:=[cM K V w.heap.size []]) (w':=w.alloc (.map #[] 0)) hI rfl rfl rfl (by simp) (fun b hb=>Below.heap_alloc w _ b hb) ?_ ?_ (by simp[cM])
  ·intro x hx
   simp at hx;subst hx
   exact⟨#[],0,by show(w.heap.push _)[w.heap.size]? =_;simp,rfl,by simp,by simp⟩
  ·intro x hx b hb
   simp at hx;subst hx
   simp[cM]at hb;subst hb
   simp,h _⟩
theorem Ce {T kt vt:TypeId} {m:Nat} {α β:Type} [DecidableEq α] {K:α→Value} {V:β→Value} {l:List (α×β)} {w:World} {a:α} {v:β} (hu:P.underlying T=some (.map kt vt)) (hk:fZ P kt K) (h:RQ K V m l w) (sX:a∉l.map Prod.fst):
  ∃es d_,(Instr.mapUpdate T (.map (some m)) (K a) (V v)).run P w=.ok () (iU w m (.map es d_))∧es.toList.map (fun e=>(e.key,e.val))=((l++[(a,v)]).map fun q=>(K q.1,V q.2))∧(es.toList.map (·.born)).Nodup∧ ∀e∈es.toList,e.born<d_:=by
 obtain⟨es,d_,h1,h2,h3,h4⟩:=h
 have hf:=hk.find es.toList (l.map Prod.fst) a w (w6 h2)
 rw[sW _ _ _ sX]at hf
 have hg:(getObj m).run P w=.ok (.map es d_) w:=by simp[getObj,Sem.run,h1]
 have hs: ∀o,(setObj m o).run P w=.ok () (iU w m o):=fun o=>by simp[setObj,Sem.run,h1,iU]
 refine⟨es.push {key:=K a,val:=V v,born:=d_},d_+1,?_,by simp[h2],?_,?_⟩
 rotate_left
 ·simp only[Array.toList_push,aL,bL,df,List.nodup_append]
  refine⟨h3,by simp,fun x hx y hy e=>?_⟩
  obtain⟨z,hz,rfl⟩:=List.mem_map.1 hx
  simp at hy;have:=h4 z hz;omega
 ·intro e he
  simp only[Array.toList_push,cI,bM]at he
  rcases he with he|rfl
  ·have:=h4 e he;omega
  ·simp
 simp only[Instr.mapUpdate,Sem.run_bind,bD hu,Result.andThen_ok,hg,hk.check,hf,hs]
def gH {α β:Type} [DecidableEq α] (a:α) (v:β):List (α×β)→List (α×β)
 | []=>[(a,v)]
 |q::l=>if a=q.1 then(q.1,v)::l else q::gH a v l
theorem yo {α β:Type} [DecidableEq α] {K:α→Value} {V:β→Value} {a:α}: ∀(l:List (α×β)) (es:List MapEntry) (i:Nat),es.map (fun e=>(e.key,e.val))=l.map (fun q=>(K q.1,V q.2))→a∈l.map Prod.fst→
  ∃j,j<es.length∧(∃x,jC a (l.map Prod.fst) es i=some (i+j,x))∧(es[j]?.map (·.key))=some (K a)∧ ∀v,(es.modify j fun e=> {e with key:=K a,val:=V v}).map (fun e=>(e.key,e.val))=(gH a v l).map fun q=>(K q.1,V q.2)
 | [],es,i,h,ha=>by simp at ha
 |q::l,[],i,h,ha=>by simp at h
 |q::l,e::es,i,h,ha=>by
  simp only[bL,List.cons.injEq,Prod.mk.injEq]at h
  by_cases hq:a=q.1
  ·refine⟨0,by simp,⟨e.val,by simp[jC,hq]⟩,by simp[h.1.1,hq],fun v=>?_⟩
   simp[gH,hq,h.2]
  ·have GN:a∈l.map Prod.fst:=by
    rcases List.mem_cons.1 ha with e|ha
    ·exact absurd e hq
    ·exact ha
   obtain⟨j,h1,⟨x,h2⟩,h3,h4⟩:=yo (a:=a) l es (i+1) h.2 GN
   refine⟨j+1,by simp[h1],⟨x,?_⟩,by simpa using h3,fun v=>?_⟩
   ·simp only[bL,jC,ar hq,h2]
    congr 2;omega
   ·simp only[List.modify_succ_cons,bL,gH,ar hq,h4 v,h.1.1,h.1.2]
theorem EG {α β:Type} [DecidableEq α] {a:α} {v:β}: ∀ {l:List (α×β)},a∉l.map Prod.fst→gH a v l=l++[(a,v)]
 | [],_=>rfl
 |q::l,h=>by
  simp only[bL,dU,not_or]at h
  simp only[gH,ar h.1,EG h.2,cj]
theorem Ns {T kt vt:TypeId} {m:Nat} {α β:Type} [DecidableEq α] {K:α→Value} {V:β→Value} {l:List (α×β)} {w:World} {a:α} {v:β} (hu:P.underlying T=some (.map kt vt)) (hk:fZ P kt K) (MV:Instr.sameBits 10000 (K a) (K a)=true) (h:RQ K V m l w):
  ∃es d_,(Instr.mapUpdate T (.map (some m)) (K a) (V v)).run P w=.ok () (iU w m (.map es d_))∧es.toList.map (fun e=>(e.key,e.val))=((gH a v l).map fun q=>(K q.1,V q.2))∧(es.toList.map (·.born)).Nodup∧ ∀e∈es.toList,e.born<d_:=by
 by_cases ha:a∈l.map Prod.fst
 ·obtain⟨es,d_,h1,h2,h3,h4⟩:=h
  obtain⟨j,hj,⟨x,hf⟩,agO,agP⟩:=yo (K:=K) (V:=V) l es.toList 0 h2 ha
  have W6:=hk.find es.toList (l.map Prod.fst) a w (w6 h2)
  rw[hf,Nat.zero_add]at W6
  have hg:(getObj m).run P w=.ok (.map es d_) w:=by simp[getObj,Sem.run,h1]
  have hs: ∀o,(setObj m o).run P w=.ok () (iU w m o):=fun o=>by simp[setObj,Sem.run,h1,iU]
  have UX:(es[j]?.map (·.key)).getD (K a)=K a:=by
   have:es[j]? =es.toList[j]? :=by simp
   rw[this,agO];rfl
  have hb: ∀y∈(es.modify j fun e=> {e with key:=K a,val:=V v}).toList.map (·.born),y∈es.toList.map (·.born):=fun y hy=>by
   rw[Array.toList_modify]at hy
   have:(es.toList.modify j fun e=> {e with key:=K a,val:=V v}).map (·.born)=es.toList.map (·.born):=by
    apply List.ext_getElem?;intro i
    simp only[bc,List.getElem?_modify]
    split<;>cases es.toList[i]? <;>rfl
   rwa[this]at hy
  have hbe:(es.modify j fun e=> {e with key:=K a,val:=V v}).toList.map (·.born)=es.toList.map (·.born):=by
   rw[Array.toList_modify]
   apply List.ext_getElem?;intro i
   simp only[bc,List.getElem?_modify]
   split<;>cases es.toList[i]? <;>rfl
  refine⟨es.modify j fun e=> {e with key:=K a,val:=V v},d_,?_,?_,by rw[hbe];exact h3,fun e he=>?_⟩
  ·simp only[Instr.mapUpdate,Sem.run_bind,bD hu,Result.andThen_ok,hg,hk.check,W6,hs,Instr.keyThatStays,UX,MV,if_true,Sem.run_pure]
  ·rw[Array.toList_modify];exact agP v
  ·obtain⟨z,hz,hze⟩:=List.mem_map.1 (hb _ (List.mem_map.2 ⟨e,he,rfl⟩))
   rw[←hze];exact h4 z hz
 ·rw[EG ha];exact Ce hu hk h ha
theorem Inv.Hs {w:World} {M:List Item} {α β:Type} {K:α→Value} {V:β→Value} {m i:Nat} {l l':List (α×β)} (hI:Inv base (O++M) w) (hO:O[i]? =some (cM K V m l)) {es:Array MapEntry} {d_:Nat} (h:es.toList.map (fun e=>(e.key,e.val))=(l'.map fun q=>(K q.1,V q.2))∧(es.toList.map (·.born)).Nodup∧ ∀e∈es.toList,e.born<d_):
  Inv base (O.set i (cM K V m l')++M) (iU w m (.map es d_)):=by
 obtain⟨es0,alO,h1,_,_⟩:=hI.holds (cM K V m l) (a_ _ (bE hO))
 have fM:=(Array.getElem?_eq_some_iff.1 h1).1
 rw[←kV hO]
 exact hI.pH (kU hO) rfl rfl rfl (by rw[mY];exact aV _) (fun k _ hk=>kC (fun e=>hk (by simp[cM,e]))) ⟨es,d_,lK fM,h⟩ (fun k hk=>.inl hk) (by simp[cM])
theorem oO (i:Nat) {x y z:Operand} {T kt vt:TypeId} {m:Nat} {α β:Type} [DecidableEq α] {K:α→Value} {V:β→Value} {l:List (α×β)} {a:α} {v:β} (hu:P.underlying T=some (.map kt vt)) (hk:fZ P kt K) (MV:Instr.sameBits 10000 (K a) (K a)=true) (hx:ev ρ x=.map (some m)) (hy:ev ρ y=K a) (hz:ev ρ z=V v)
  (hO:O[i]? =some (cM K V m l)) (h:K' ρ (O.set i (cM K V m (gH a v l)))):LT P r base n ⟨none,.mapUpdate T x y z,t,p,af,g⟩ ρ O K':=
 jL fun w M hI=>by
  obtain⟨es,d_,hr,hes⟩:=Ns (v:=v) hu hk MV (hI.holds (cM K V m l) (a_ _ (bE hO)))
  exact⟨iU w m (.map es d_),_,by simp[execOp,hx,hy,hz,hr],hI.Hs hO hes,h⟩
theorem oY (i:Nat) {x y z:Operand} {T kt vt:TypeId} {m:Nat} {α β:Type} [DecidableEq α] {K:α→Value} {V:β→Value} {l:List (α×β)} {a:α} {v:β} (hu:P.underlying T=some (.map kt vt)) (hk:fZ P kt K) (hx:ev ρ x=.map (some m)) (hy:ev ρ y=K a) (hz:ev ρ z=V v)
  (hO:O[i]? =some (cM K V m l)) (sX:a∉l.map Prod.fst) (h:K' ρ (O.set i (cM K V m (l++[(a,v)])))):LT P r base n ⟨none,.mapUpdate T x y z,t,p,af,g⟩ ρ O K':=
 jL fun w M hI=>by
  obtain⟨es,d_,hr,hes⟩:=Ce (v:=v) hu hk (hI.holds (cM K V m l) (a_ _ (bE hO))) sX
  exact⟨iU w m (.map es d_),_,by simp[execOp,hx,hy,hz,hr],hI.Hs hO hes,h⟩
theorem jD (i:Nat) {x y z:Operand} {T kt vt:TypeId} {m:Nat} {α β:Type} [DecidableEq α] {K:α→Value} {V:β→Value} {l:List (α×β)} {a:α} {v:β} (hu:P.underlying T=some (.map kt vt)) (hk:fZ P kt K) (hx:ev ρ x=.map (some m)) (hy:ev ρ y=K a) (hz:ev ρ z=V v)
  (hO:O[i]? =some (cM K V m l)) (sX:a∉l.map Prod.fst) (h:K' ρ (O.set i (cM K V m (l++[(a,v)])))):LT P r base n ⟨none,.insert T x y z,t,p,af,g⟩ ρ O K':=
 jL fun w M hI=>by
  obtain⟨es,d_,hr,hes⟩:=Ce (v:=v) hu hk (hI.holds (cM K V m l) (a_ _ (bE hO))) sX
  exact⟨iU w m (.map es d_),_,by simp[execOp,hx,hy,hz,hr],hI.Hs hO hes,h⟩
end
section
variable {P:Program} {base:World} {ρ:Env} {O:List Item} {dst:Option Nat} {t:TypeId} {p:String} {af:Array Edge} {g:Option (Nat×Bool)}
end
section
variable {P:Program} {r:Option Nat} {base:World} {n:Nat} {ρ:Env} {O:List Item} {K:Env→List Item→Prop} {d:Nat} {t:TypeId} {p:String} {af:Array Edge} {g:Option (Nat×Bool)}
theorem Inv.Nt {w:World} {it Nh:Item} {i:Nat} (hI:Inv base O w) (hO:O[i]? =some it) (hb:Nh.blocks=it.blocks) (hp:it.P w→Nh.P w):Inv base (O.set i Nh) w:=by
 obtain⟨A,B,e,B4⟩:=xZ hO
 rw[B4 Nh]
 subst e
 refine⟨hI.below,fun x hx=>?_,fun x hx b qd=>?_,?_⟩
 ·rcases List.mem_append.1 hx with hx|hx
  ·exact hI.holds x (by simp[hx])
  ·rcases List.mem_cons.1 hx with rfl|hx
   ·exact hp (hI.holds it (by simp))
   ·exact hI.holds x (by simp[hx])
 ·rcases List.mem_append.1 hx with hx|hx
  ·exact hI.fresh x (by simp[hx]) b qd
  ·rcases List.mem_cons.1 hx with rfl|hx
   ·rw[hb]at qd;exact hI.fresh it (by simp) b qd
   ·exact hI.fresh x (by simp[hx]) b qd
 ·have:=hI.nodup
  simpa[List.flatMap_append,List.flatMap_cons,hb]using this
theorem MW (i:Nat) {x y:Operand} {T E:TypeId} {b:Option Addr} {m c k gy:Nat} {z:Value} {kk:IntKind} {cs:List Value} (hu:P.underlying T=some (.slice E)) (hi:gq P E z k gy) (hk:0<k) (hx:ev ρ x=.slice b m c) (hy:ev ρ y=.int kk 1)
  (hO:O[i]? =some (ak b c E k cs)) (hl:cs.length=m*k) (hm:0<m)
  (h: ∀b',K (js ρ d (.slice b' (m-1) (c-1))) (O.set i (ak b' (c-1) E k (cs.drop k)))) (hn:Nat.blt d n=true:=by rfl):LT P r base n ⟨some d,.slice T x (some y) none none,t,p,af,g⟩ ρ O K:=
 fI hn fun w M hI=>by
  have jU:=hI.row (kU hO)
  cases b with
  |none=>
   obtain⟨rfl,rfl⟩:=jU
   have:m*k=0:=by simpa using hl.symm
   have:0<m*k:=Nat.mul_pos hm hk
   omega
  |some a=>
   obtain⟨bk,o,sp⟩:=a
   obtain⟨AL,full,hb,h1,h2,h3⟩:=jU
   simp only at AL hb h1 h2 h3
   subst AL
   have Zr:m≤c:=by
    rw[hl]at h1
    exact Nat.le_of_mul_le_mul_right h1 hk
   have Md:(cs.drop k).length≤(c-1)*k:=by
    rw[List.length_drop,hl,Nat.sub_mul,Nat.one_mul]
    have:=Nat.mul_le_mul_right k Zr
    omega
   have QU:(c-1)*k+k=c*k:=by
    have:c-1+1=c:=by omega
    rw[←this,Nat.add_mul,Nat.one_mul,Nat.add_sub_cancel]
   refine⟨.slice (if c=1 then some ⟨bk,o,none⟩else some ⟨bk,o+k,none⟩) (m-1) (c-1),w,_,?_,?_,h _⟩
   ·have e1:(1:Int)≤(m:Int):=by omega
    by_cases e:c=1
    ·simp[execOp,Instr.sliceAt,Instr.slice,hx,hy,bD hu,cA hi,Instr.sliceBounds,Instr.sliceBound,asIntOf,e1,e]
    ·simp[execOp,Instr.sliceAt,Instr.slice,hx,hy,bD hu,cA hi,Instr.sliceBounds,Instr.sliceBound,asIntOf,e1,e,tV]
   ·rw[←kV hO]
    refine hI.Nt (kU hO) (by split<;>rfl) fun _=>?_
    by_cases e:c=1
    ·simp only[e,if_true]
     have KA:m=1:=by omega
     subst KA
     have:cs.drop k=[]:=by simp[hl]
     rw[this]
     refine⟨rfl,full,hb,by simp,by simp;omega,by simp⟩
    ·simp only[e,if_false]
     refine⟨rfl,full,hb,Md,by simp only;omega,fun q hq=>?_⟩
     have Zw:k+q<cs.length:=by rw[List.length_drop]at hq;omega
     have:=h3 (k+q) Zw
     simp only[List.getElem_drop]
     rw[show o+k+q=o+(k+q) by omega]
     exact this
theorem Src.str {s:List UInt8} {m:Nat} (hl:s.length=m):Src P base O 1 m (str s) (gA s):=
 ⟨by simp[hl],fun w=>by
  have e:(ByteArray.mk s.toArray).size=m:=by show s.toArray.size=_;simp[hl]
  simp[Lx.str,Builtin.lenOf,e],fun w _=>by
  subst hl
  have e:(ByteArray.mk s.toArray).extract 0 s.length=ByteArray.mk s.toArray:=by
   have:=ByteArray.extract_zero_size (b:=ByteArray.mk s.toArray)
   simpa[ByteArray.size]using this
  simp[Lx.str,Builtin.firstCells,e,gA]⟩
theorem A4 {T U E:TypeId} {b:Option Addr} {m c l gy:Nat} {x y:Operand} {z:Value} {cs:List Value} {s:List UInt8} (j:Nat)
  (hu:P.underlying T=some (.slice E)) (Nj:P.underlying U=some .string) (hi:gq P E z 1 gy) (hz:z.cells.size=1)
  (hx:ev ρ x=.slice b m c) (hy:ev ρ y=str s) (hO:O[j]? =some (ak b c E 1 cs)) (hl:cs.length=m) (hs:s.length=l)
  (sj:(m+l)*gy≤70368744177664) (RK:gy≤1000000) (Ew:0<gy)
  (h: ∀b' c',K (js ρ d (.slice b' (m+l) c')) (O.set j (ak b' c' E 1 (cs++gA s)))) (hn:Nat.blt d n=true:=by rfl):
  LT P r base n ⟨some d,.call ⟨.builtin .append,#[x,y],#[T,U]⟩,t,p,af,g⟩ ρ O K:=
 fI hn fun w M hI=>by
  obtain⟨b',c',w',hr,x5⟩:=sU (ty:=t) hu Nj (.inr rfl) hi hz (kU hO) (by simpa using hl) (by decide) (Src.Cb (Src.str hs)) (Hr s) sj RK Ew hI
  rw[kV hO]at x5
  refine⟨_,w',_,?_,x5,h b' c'⟩
  simp[execOp,resolve,hx,hy,invoke,builtin,hr]
end
theorem bH {P:Program} {base:World} {o:Oper} {ρ:Env} {O:List Item} {v v':Value} (h:QT P base o ρ O v) (e:v=v'):QT P base o ρ O v':=e▸h
def QX (b:Option Addr) (i:Nat):Value:=.pointer (b.map fun a=>⟨a.block,a.off+i,none⟩)
theorem bS {base:World} {O:List Item} {b:Option Addr} {cs:List Value} (h:Sl base b cs): ∀w,Inv base O w→Sl w b cs:=fun _ hI=>hI.sl h
theorem u7 {base:World} {O:List Item} {b:Option Addr} {c k:Nat} {E:TypeId} {cs:List Value} (h:ak b c E k cs∈O): ∀w,Inv base O w→Sl w b cs:=fun _ hI=>hI.ga h
section
variable {P:Program} {base:World} {ρ:Env} {O:List Item} {dst:Option Nat} {t:TypeId} {p:String} {af:Array Edge} {g:Option (Nat×Bool)}
theorem fO {x y:Operand} {T E:TypeId} {b:Option Addr} {n c i:Nat} {kk:IntKind} {z:Value} {s gy:Nat} {cs:List Value} (hu:P.underlying T=some (.slice E)) (hi:gq P E z s gy) (hx:ev ρ x=.slice b n c) (hy:ev ρ y=.int kk (i:Int)) (hs: ∀w,Inv base O w→Sl w b cs) (fM:i<n) (hl:i*s<cs.length):
  QT P base ⟨dst,.indexAddr T x y,t,p,af,g⟩ ρ O (QX b (i*s)):=fun w hI=>by
 obtain⟨bk,o,rfl⟩:=(hs w hI).addr hl
 exact vV hu hi hx hy fM w hI
theorem b8 (i:Nat) {x y:Operand} {T E:TypeId} {b:Option Addr} {n c:Nat} {kk:IntKind} {z:Value} {gy:Nat} {cs:List Value} (hu:P.underlying T=some (.slice E)) (hi:gq P E z 1 gy) (hx:ev ρ x=.slice b n c) (hy:ev ρ y=.int kk (i:Int)) (hs: ∀w,Inv base O w→Sl w b cs) (fM:i<n:=by first|assumption|omega|(simp;omega)|simp_all) (hl:i<cs.length:=by first|omega|(simp;done)|(simp;omega)|(simp_all;done)|(simp_all;omega)):
  QT P base ⟨dst,.indexAddr T x y,t,p,af,g⟩ ρ O (QX b i):=by
 have:=fO (P:=P) (base:=base) (O:=O) (dst:=dst) (t:=t) (p:=p) (af:=af) (g:=g) hu hi hx hy hs fM (by simpa using hl)
 rwa[Nat.mul_one]at this
theorem dR {x:Operand} {T:TypeId} {d:TypeDesc} {b:Option Addr} {i:Nat} {cs:List Value} {v:Value} (hu:P.underlying T=some d) (ha:nr d=false) (hx:ev ρ x=QX b i)
  (hs: ∀w,Inv base O w→Sl w b cs) (hv:cs[i]? =some v):QT P base ⟨dst,.load T x,t,p,af,g⟩ ρ O v:=fun w hI=>by
 obtain⟨hi,_⟩:=List.getElem?_eq_some_iff.1 hv
 obtain⟨bk,o,rfl⟩:=(hs w hI).addr hi
 exact qT hu ha hx (fun w hI=>(hs w hI).get hv) w hI
theorem mM (vs:List Value) {x:Operand} {T:TypeId} {d:TypeDesc} {b:Option Addr} {i:Nat} {cs:List Value} {z:Value} {s gy:Nat} (hu:P.underlying T=some d) (ha:nr d=true) (hi:gq P T z s gy) (hx:ev ρ x=QX b i) (hl:vs.length=s) (B6:0<vs.length)
  (hs: ∀w,Inv base O w→Sl w b cs) (hv: ∀j (h:j<vs.length),cs[i+j]? =some vs[j]):QT P base ⟨dst,.load T x,t,p,af,g⟩ ρ O (.agg vs.toArray):=fun w hI=>by
 obtain⟨h0,_⟩:=List.getElem?_eq_some_iff.1 (hv 0 B6)
 obtain⟨bk,o,rfl⟩:=(hs w hI).addr (i:=i) (by omega)
 exact ye hu ha hi hx hl (fun w hI j hj=>by have:=(hs w hI).get (hv j hj);rwa[←Nat.add_assoc]at this) w hI
theorem ez {x:Operand} {S:TypeId} {fs:Array Field} {i:Nat} {f:Field} {b:Option Addr} {o:Nat} {z:Value} {s gy:Nat} {cs:List Value} (hu:P.underlying S=some (.struct fs)) (hf:fs[i]? =some f) (hi:gq P f.type z s gy) (hs:(s==0)=false)
  (hx:ev ρ x=QX b o) (IZ: ∀w,Inv base O w→Sl w b cs) (ho:o<cs.length):QT P base ⟨dst,.fieldAddr S x i,t,p,af,g⟩ ρ O (QX b (o+f.offset)):=fun w hI=>by
 obtain⟨bk,o',rfl⟩:=(IZ w hI).addr ho
 have:=bY (P:=P) (base:=base) (O:=O) (dst:=dst) (t:=t) (p:=p) (af:=af) (g:=g) (b:=bk) (o:=o'+o) hu hi hf hs hx rfl w hI
 rw[this];simp[QX,Nat.add_assoc]
end
section
variable {P:Program} {r:Option Nat} {base:World} {n:Nat} {ρ:Env} {O:List Item} {K:Env→List Item→Prop} {d:Nat} {t:TypeId} {p:String} {af:Array Edge} {g:Option (Nat×Bool)}
theorem gw (j:Nat) (i:Nat) {T E:TypeId} {x y:Operand} {b:Option Addr} {c k:Nat} {v:Value} {vs cs:List Value} {z:Value} {s gy:Nat} (hi:gq P T z s gy) (hx:ev ρ x=QX b j) (hy:ev ρ y=v) (hv:v.cells=vs.toArray) (hl:vs.length=s) (ho:(vs.all fL)=true) (hs:0<vs.length)
  (hO:O[i]? =some (ak b c E k cs)) (hr:j+vs.length≤cs.length)
  (h:K ρ (O.set i (ak b c E k (dq cs j vs)))):LT P r base n ⟨none,.store T x y,t,p,af,g⟩ ρ O K:=fun a w M ds ha hI=>by
 obtain⟨bk,o,rfl⟩:=(hI.left.ga (bE hO)).addr (i:=j) (by omega)
 exact Eu i hi hx hy hv hl ho hO hr h a w M ds ha hI
end
theorem su {P:Program} {T:TypeId} {k:IntKind} (h:P.underlying T=some (.int k)) (d:Nat) (a b:Int) (w:World):(Op.equalIn (d+1) T (.int .i64 a) (.int .i64 b)).run P w=.ok (a==b) w:=by
 rw[Op.equalIn]
 simp[bD h]
@[reducible] def aD (n:Nat):Option Addr:=some ⟨n,0,none⟩
@[reducible] def aU (n c:Nat) (T:TypeId) (k:Nat) (cs:List Value):Lx.Item:=ak (aD n) c T k cs
@[reducible] def G4 (n i:Nat):Value:=QX (aD n) i
@[reducible] def nS:Value:=.slice none 0 0
@[reducible] def vI (v:Int):Value:=.int .i64 v
@[reducible] def vN (n:Nat):Value:=.int .i64 (n:Int)
@[reducible] def v8 (n:Nat):Value:=.int .u8 (n:Int)
section
variable {X:PX} {P:Program} {r:Option Nat} {base:World} {n:Nat} {ρ:Env} {O:List Item} {ops:Array Oper} {l:List Oper} {K:Env→List Item→Prop} {t:TypeId} {p:String} {af:Array Edge}
theorem aQ {d:Nat} {x:Operand} (hk:TO X P r base n ops l K (js ρ d (ev ρ x)) O) (hn:Nat.blt d n=true:=by rfl):TO X P r base n ops (⟨some d,.move x,t,p,af,none⟩::l) K ρ O:=ad (aC) hk hn
theorem bh {d:Nat} {x:Operand} (hk:TO X P r base n ops l K (js ρ d (ev ρ x)) O) (hn:Nat.blt d n=true:=by rfl):TO X P r base n ops (⟨some d,.assign x,t,p,af,none⟩::l) K ρ O:=ad (dN) hk hn
theorem mG {α:Type} {l:List α} {a:α} (i:Nat) (h:l[i]? =some a:=by exact rfl):a∈l:=bE h
theorem fq {O' O:List Item} (D:List Item) (h: ∀a,Lx.cO a (O'++D)=Lx.cO a O:=by intro a;simp+zetaDelta only[bQ,oI,da,dJ,dq,cj,dl,bZ,bw,aL,bL,df,fF,gg,jq,vI,nS,aU,G4,aD]<;>omega):Sub O' O:=Sub.cO D h
theorem ax {d j tj:Nat} {want:Bool} {op:Op} {v:Value} (h:QT P base ⟨some d,op,t,p,af,some (j,want)⟩ ρ O v) (hk:TO X P r base n ops l K (js ρ d v) O) (hj:(ops[j]?).bind (·.dst)=some tj:=by exact rfl) (hw:ρ tj=.bool want:=by exact rfl) (hn:Nat.blt d n=true:=by rfl):TO X P r base n ops (⟨some d,op,t,p,af,some (j,want)⟩::l) K ρ O:=fD rfl hj hw (iE rfl hn h hk)
theorem jE (is:List Nat) {f:FuncId} {args:List Value} {A B O:List Item} {R:Value→List Item→Prop} (h:cZ P base f args A R) (hA:tY is O=A:=by rfl) (hB:vX is O=B:=by simp only[vX,tX,bQ,oI,da,dJ,dq,cj,dl,bZ];rfl):cZ P base f args O (fun v O'=> ∃A',O'=A'++B∧R v A'):=
 cZ.under h (by subst hA hB;exact⟨_,oX is O,ay _⟩)
end
section
variable {P:Program} {r:Option Nat} {base:World} {n:Nat} {ρ:Env} {O:List Item} {Q:iT} {K:Env→List Item→Prop} {t:TypeId} {p:String} {af:Array Edge} {g:Option (Nat×Bool)}
theorem a8 {id:Nat} {l:List Oper} {y:Code} (h:TO (fun c=> ∀ρ,so (fun ρ O=>T P r base n y Q ρ O) Q (.panic c) ρ []) P r base n l.toArray l (fun ρ O=>so (fun ρ O=>T P r base n y Q ρ O) Q .normal ρ O) ρ O):T P r base n (.seq (.region id l.toArray false) y) Q ρ O:=ba (aJ h)
theorem e6 (l:List (Nat×Nat)) {id:Nat} {ops:Array Oper} (h:DO (fun c=> ∀ρ,Q (.panic c) ρ []) P r base n ops O (ov l) [] (lP l) l (fun ρ O=>Q .normal ρ O) ρ O) (hm:P.follows .mixedOrders=true:=by exact mixed) (hB:yd ops l=true:=by first|exact tM (by kernel_rfl)|kernel_rfl) (hp: ∀c ρ jz O,Q (.panic c) ρ O→Q (.panic c) jz O:=by exact fun _ _ _ _ h=>h):T P r base n (.region id ops true) Q ρ O:=AU O l hm hB (bj (ay _)) hp h
theorem T.ds (S:List Item) (l:List (Nat×Nat)) {id:Nat} {ops:Array Oper} (hS:Sub S O) (h:DO (fun c=> ∀ρ,Q (.panic c) ρ []) P r base n ops S (ov l) [] (lP l) l (fun ρ O=>Q .normal ρ O) ρ O) (hm:P.follows .mixedOrders=true:=by exact mixed) (hB:yd ops l=true:=by first|exact tM (by kernel_rfl)|kernel_rfl) (hp: ∀c ρ jz O,Q (.panic c) ρ O→Q (.panic c) jz O:=by exact fun _ _ _ _ h=>h):T P r base n (.region id ops true) Q ρ O:=AU S l hm hB hS hp h
theorem cE (vs:List Value) {T E:TypeId} {x y:Operand} {b o:Nat} {v:Value} {cs:List Value} {z:Value} {s gy:Nat} (i:Nat) (hi:gq P T z s gy) (h:K ρ (O.set i (eL b (.cells (dq cs o vs).toArray E (0,0))))) (hx:ev ρ x=.pointer (some ⟨b,o,none⟩):=by exact rfl) (hy:ev ρ y=v:=by exact rfl) (hv:v.cells=vs.toArray:=by exact rfl) (hO:O[i]? =some (eL b (.cells cs.toArray E (0,0))):=by exact rfl) (hl:vs.length=s:=by rfl) (ho:(vs.all fL)=true:=by rfl) (hr:o+vs.length≤cs.length:=by first|exact Nat.le_of_ble_eq_true rfl|simp[dq]):LT P r base n ⟨none,.store T x y,t,p,af,g⟩ ρ O K:=agF i hi hx hy hv hl ho hO hr h
end
section
variable {X:PX} {P:Program} {r:Option Nat} {base:World} {n:Nat} {ρ:Env} {O:List Item} {Q:iT} {ops:Array Oper} {l:List Oper} {K:Env→List Item→Prop} {t:TypeId} {p:String} {af:Array Edge}
theorem bJ {id:Nat} {l2:List Oper} {y z:Code} (h:TO (fun c=> ∀ρ,so (fun ρ O=>T P r base n y (so (fun ρ O=>T P r base n z Q ρ O) Q) ρ O) (so (fun ρ O=>T P r base n z Q ρ O) Q) (.panic c) ρ []) P r base n l2.toArray l2 (fun ρ O=>so (fun ρ O=>T P r base n y (so (fun ρ O=>T P r base n z Q ρ O) Q) ρ O) (so (fun ρ O=>T P r base n z Q ρ O) Q) .normal ρ O) ρ O):TO X P r base n ops [] (fun ρ O=>so (fun ρ O=>T P r base n (.seq (.seq (.region id l2.toArray false) y) z) Q ρ O) Q .normal ρ O) ρ O:=TO.nl (ba (a8 h))
theorem l_ {fn:Func} {R:Value→List Item→Prop} {Q:iT} (h:pk P base fn ρ O (fun v O1=> ∃O2,Sub O2 O1∧R v O2)) (e:Q .ret ρ O=pk P base fn ρ O R:=by exact rfl):TO X P r base n ops [] (fun ρ O=>so (fun ρ O=>T P r base n .ret Q ρ O) Q .normal ρ O) ρ O:=TO.nl (cF (e.mpr (e7 h)))
theorem ai {d:Nat} {x:Operand} (h:K (js ρ d (ev ρ x)) O) (hn:Nat.blt d n=true:=by rfl):TO X P r base n ops [⟨some d,.assign x,t,p,af,none⟩] K ρ O:=bh (TO.nl h) hn
theorem bI {id d:Nat} {x:Operand} {y:Code} (h:TO (fun c=> ∀ρ,so (fun ρ O=>T P r base n y Q ρ O) Q (.panic c) ρ []) P r base n (⟨some d,.move x,t,p,af,none⟩::l).toArray l (fun ρ O=>so (fun ρ O=>T P r base n y Q ρ O) Q .normal ρ O) (js ρ d (ev ρ x)) O) (hn:Nat.blt d n=true:=by rfl):T P r base n (.seq (.region id (⟨some d,.move x,t,p,af,none⟩::l).toArray false) y) Q ρ O:=a8 (aQ h hn)
theorem aB {id d:Nat} {op:Op} {v:Value} {y:Code} (q:QT P base ⟨some d,op,t,p,af,none⟩ ρ O v) (h:TO (fun c=> ∀ρ,so (fun ρ O=>T P r base n y Q ρ O) Q (.panic c) ρ []) P r base n (⟨some d,op,t,p,af,none⟩::l).toArray l (fun ρ O=>so (fun ρ O=>T P r base n y Q ρ O) Q .normal ρ O) (js ρ d v) O) (hn:Nat.blt d n=true:=by rfl):T P r base n (.seq (.region id (⟨some d,op,t,p,af,none⟩::l).toArray false) y) Q ρ O:=a8 (ad q h hn)
theorem bm {d:Nat} {x:Operand} {fn:Func} {R:Value→List Item→Prop} {Q:iT} (h:pk P base fn (js ρ d (ev ρ x)) O (fun v O1=> ∃O2,Sub O2 O1∧R v O2)) (e:Q .ret (js ρ d (ev ρ x)) O=pk P base fn (js ρ d (ev ρ x)) O R:=by exact rfl) (hn:Nat.blt d n=true:=by rfl):TO X P r base n ops [⟨some d,.assign x,t,p,af,none⟩] (fun ρ O=>so (fun ρ O=>T P r base n .ret Q ρ O) Q .normal ρ O) ρ O:=bh (l_ h e) hn
theorem bP {id d:Nat} {x:Operand} {y:Code} {d2:Nat} {t2:TypeId} {p2:String} {QY:Array Edge} {op:Op} {v:Value} (q:QT P base ⟨some d2,op,t2,p2,QY,none⟩ (js ρ d (ev ρ x)) O v) (h:TO (fun c=> ∀ρ,so (fun ρ O=>T P r base n y Q ρ O) Q (.panic c) ρ []) P r base n (⟨some d,.move x,t,p,af,none⟩::⟨some d2,op,t2,p2,QY,none⟩::l).toArray l (fun ρ O=>so (fun ρ O=>T P r base n y Q ρ O) Q .normal ρ O) (js (js ρ d (ev ρ x)) d2 v) O) (hn:Nat.blt d n=true:=by rfl) (Xc:Nat.blt d2 n=true:=by rfl):T P r base n (.seq (.region id (⟨some d,.move x,t,p,af,none⟩::⟨some d2,op,t2,p2,QY,none⟩::l).toArray false) y) Q ρ O:=bI (ad q h Xc) hn
theorem aS {d:Nat} {x:Operand} (h:K (js ρ d (ev ρ x)) O) (hn:Nat.blt d n=true:=by rfl):TO X P r base n ops [⟨some d,.move x,t,p,af,none⟩] K ρ O:=aQ (TO.nl h) hn
theorem bF {d:Nat} {op:Op} {v:Value} (q:QT P base ⟨some d,op,t,p,af,none⟩ ρ O v) (h:K (js ρ d v) O) (hn:Nat.blt d n=true:=by rfl):TO X P r base n ops [⟨some d,op,t,p,af,none⟩] K ρ O:=ad q (TO.nl h) hn
theorem cP {d0 t0 j0 tj0:Nat} {op0:Op} {p0:String} {af0:Array Edge} {w0:Bool} {d1 t1 j1 tj1:Nat} {op1:Op} {p1:String} {af1:Array Edge} {w1:Bool} {d2 t2 j2 tj2:Nat} {op2:Op} {p2:String} {QY:Array Edge} {w2:Bool} {d3 t3 j3 tj3:Nat} {op3:Op} {p3:String} {af3:Array Edge} {w3:Bool} (h:TO X P r base n ops l K (js (js (js (js ρ d0 undef) d1 undef) d2 undef) d3 undef) O) (EH:(ops[j0]?).bind (·.dst)=some tj0:=by exact rfl) (AN:(IX (ρ tj0)==some w0)=false:=by exact rfl) (U5:(ops[j1]?).bind (·.dst)=some tj1:=by exact rfl) (AO:(IX ((js ρ d0 undef) tj1)==some w1)=false:=by exact rfl) (zX:(ops[j2]?).bind (·.dst)=some tj2:=by exact rfl) (Hf:(IX ((js (js ρ d0 undef) d1 undef) tj2)==some w2)=false:=by exact rfl) (hj3:(ops[j3]?).bind (·.dst)=some tj3:=by exact rfl) (B9:(IX ((js (js (js ρ d0 undef) d1 undef) d2 undef) tj3)==some w3)=false:=by exact rfl) (U0:Nat.blt d0 n=true:=by rfl) (D6:Nat.blt d1 n=true:=by rfl) (Xc:Nat.blt d2 n=true:=by rfl) (hn3:Nat.blt d3 n=true:=by rfl):TO X P r base n ops (⟨some d0,op0,t0,p0,af0,some (j0,w0)⟩::(⟨some d1,op1,t1,p1,af1,some (j1,w1)⟩::(⟨some d2,op2,t2,p2,QY,some (j2,w2)⟩::(⟨some d3,op3,t3,p3,af3,some (j3,w3)⟩::l)))) K ρ O:=dt (dt (dt (dt h hj3 B9 hn3) zX Hf Xc) U5 AO D6) EH AN U0
theorem dj {d0 t0 j0 tj0:Nat} {op0:Op} {p0:String} {af0:Array Edge} {w0:Bool} {d1 t1 j1 tj1:Nat} {op1:Op} {p1:String} {af1:Array Edge} {w1:Bool} (h:TO X P r base n ops l K (js (js ρ d0 undef) d1 undef) O) (EH:(ops[j0]?).bind (·.dst)=some tj0:=by exact rfl) (AN:(IX (ρ tj0)==some w0)=false:=by exact rfl) (U5:(ops[j1]?).bind (·.dst)=some tj1:=by exact rfl) (AO:(IX ((js ρ d0 undef) tj1)==some w1)=false:=by exact rfl) (U0:Nat.blt d0 n=true:=by rfl) (D6:Nat.blt d1 n=true:=by rfl):TO X P r base n ops (⟨some d0,op0,t0,p0,af0,some (j0,w0)⟩::(⟨some d1,op1,t1,p1,af1,some (j1,w1)⟩::l)) K ρ O:=dt (dt h U5 AO D6) EH AN U0
theorem az {d:Nat} {x:Operand} {d2:Nat} {t2:TypeId} {p2:String} {QY:Array Edge} {op:Op} {v:Value} (q:QT P base ⟨some d2,op,t2,p2,QY,none⟩ (js ρ d (ev ρ x)) O v) (h:TO X P r base n ops l K (js (js ρ d (ev ρ x)) d2 v) O) (hn:Nat.blt d n=true:=by rfl) (Xc:Nat.blt d2 n=true:=by rfl):TO X P r base n ops (⟨some d,.move x,t,p,af,none⟩::⟨some d2,op,t2,p2,QY,none⟩::l) K ρ O:=aQ (ad q h Xc) hn
theorem dr {d:Nat} {x x2:Operand} {d2:Nat} {t2:TypeId} {p2:String} {QY:Array Edge} (h:TO X P r base n ops l K (js (js ρ d (ev ρ x)) d2 (ev (js ρ d (ev ρ x)) x2)) O) (hn:Nat.blt d n=true:=by rfl) (Xc:Nat.blt d2 n=true:=by rfl):TO X P r base n ops (⟨some d,.move x,t,p,af,none⟩::⟨some d2,.move x2,t2,p2,QY,none⟩::l) K ρ O:=aQ (aQ h Xc) hn
theorem RR {Q:iT} (h:Q .ret ρ O):TO X P r base n ops [] (fun ρ O=>so (fun ρ O=>T P r base n .ret Q ρ O) Q .normal ρ O) ρ O:=TO.nl (cF h)
theorem TO.ns {a b:Code} {Q:iT} (h:T P r base n a (so (fun ρ O=>T P r base n b Q ρ O) Q) ρ O):TO X P r base n ops [] (fun ρ O=>so (fun ρ O=>T P r base n (.seq a b) Q ρ O) Q .normal ρ O) ρ O:=TO.nl (ba h)
theorem ko {id:Nat} {l2:List Oper} {y:Code} {Q:iT} (h:TO (fun c=> ∀ρ,so (fun ρ O=>T P r base n y Q ρ O) Q (.panic c) ρ []) P r base n l2.toArray l2 (fun ρ O=>so (fun ρ O=>T P r base n y Q ρ O) Q .normal ρ O) ρ O):TO X P r base n ops [] (fun ρ O=>so (fun ρ O=>T P r base n (.seq (.region id l2.toArray false) y) Q ρ O) Q .normal ρ O) ρ O:=TO.nl (a8 h)
theorem TO.lc {d:Nat} {f:FuncId} {fn:Func} {args:List Operand} {w5:Array TypeId} {vs:List Value} {R:Value→List Item→Prop} (he:Enters P f fn) (hc:cZ P base f vs O R) (h: ∀v O',R v O'→TO X P r base n ops l K (js ρ d v) O') (ha:QW ρ args=vs:=by exact rfl) (hn:Nat.blt d n=true:=by rfl):TO X P r base n ops (⟨some d,.call ⟨.value (.func f),args.toArray,w5⟩,t,p,af,none⟩::l) K ρ O:=au (dV he hc h ha hn)
theorem cD {p:Prop} [Decidable p] {o:Oper} (h:QT P base o ρ O (.bool (decide p))) (e: ¬p):QT P base o ρ O (.bool false):=dE h (bT e)
theorem cm {p:Prop} [Decidable p] {o:Oper} (h:QT P base o ρ O (.bool (decide p))) (e:p):QT P base o ρ O (.bool true):=dE h (bz e)
end
theorem bU {base:World} {O:List Item} {b:Option Addr} {c k:Nat} {E:TypeId} {cs:List Value} (i:Nat) (h:O[i]? =some (ak b c E k cs):=by exact rfl): ∀w,Inv base O w→Sl w b cs:=u7 (bE h)
theorem eA {P:Program} {base:World} {ρ:Env} {O:List Item} {dst:Option Nat} {t:TypeId} {p:String} {af:Array Edge} {g:Option (Nat×Bool)} {x:Operand} {T:TypeId} {d:TypeDesc} {b:Option Addr} {i:Nat} {cs:List Value} {v:Value} (hu:P.underlying T=some d) (ha:nr d=false) (hx:ev ρ x=QX b i) (hs:Sl base b cs) (hv:cs[i]? =some v):QT P base ⟨dst,.load T x,t,p,af,g⟩ ρ O v:=dR hu ha hx (bS hs) hv
section
variable {P:Program} {r:Option Nat} {base:World} {n:Nat} {ρ:Env} {O:List Item} {Q:iT}
theorem EI {x:Code} (K:Env→List Item→Prop) (h:T P r base n x (so K Q) ρ O) (hk: ∀ρ O,K ρ O→Q .normal ρ O):T P r base n x Q ρ O:=
 h.mono fun e ρ O h=>by cases e<;>first|exact hk ρ O h|exact h
variable {t:TypeId} {p:String} {af:Array Edge} {g:Option (Nat×Bool)} {dst:Option Nat}
theorem oP {x y:Operand} {T E U:TypeId} {b:Option Addr} {n c:Nat} (hu:P.underlying T=some (.slice E)) (hx:ev ρ x=.slice b n c) (hy:ev ρ y=.slice none 0 0):QT P base ⟨dst,.binOp .eql T x y U,t,p,af,g⟩ ρ O (.bool b.isNone):=fun w _=>by
 have h:(Op.equal T (.slice b n c) (.slice none 0 0)).run P w=.ok b.isNone w:=by
  show(Op.equalIn (9999+1) T _ _).run P w=_
  rw[Op.equalIn]
  cases b<;>simp[bD hu]
 simp[execOp,hx,hy,eqGuard,binOp,h]
theorem EJ {x:Nat} (h:x<256):IntKind.u8.wrap (x:Int)=(x:Int):=by
 simp only[IntKind.wrap,IntKind.signed,IntKind.bits]
 simp
 omega
end
def abK {α β:Type} (K:α→Value) (V:β→Value) (m r:Nat) (l left:List (α×β)) (pj:Option (α×β)) (w:World):Prop:=
 ∃(es:Array MapEntry) (d_:Nat) (seen:Array Nat),w.heap[m]? =some (.map es d_)∧w.heap[r]? =some (.mapIter (some m) d_ seen d_)∧(es.toList.map (fun e=>(e.key,e.val))=l.map fun q=>(K q.1,V q.2))∧(es.toList.map (·.born)).Nodup∧(∀e∈es.toList,e.born<d_)∧
  ((leftOf es seen).toList.map (fun e=>(e.key,e.val))=left.map fun q=>(K q.1,V q.2))∧ ∀q,pj=some q→ ∃e∈es.toList,(∃s':Array Nat,seen=s'.push e.born)∧e.key=K q.1∧e.val=V q.2
def nV {α β:Type} (K:α→Value) (V:β→Value) (m r:Nat) (l left:List (α×β)) (pj:Option (α×β)):Item where
 blocks:=[m,r]
 P:=abK K V m r l left pj
 loc:=fun w w' h hp=>by
  obtain⟨es,d_,seen,h1,h2,h3⟩:=hp
  exact⟨es,d_,seen,by rw[h m (by simp)];exact h1,by rw[h r (by simp)];exact h2,h3⟩
section
variable {P:Program} {r:Option Nat} {base:World} {n:Nat} {ρ:Env} {O:List Item} {K':Env→List Item→Prop} {d:Nat} {t:TypeId} {p:String} {af:Array Edge} {g:Option (Nat×Bool)}
theorem Ht (es:Array MapEntry):leftOf es #[]=es:=by
 unfold leftOf
 rw[Array.filter_eq_self]
 simp
theorem xE (i:Nat) {x:Operand} {T kt vt:TypeId} {m:Nat} {α β:Type} {K:α→Value} {V:β→Value} {l:List (α×β)} (hu:P.underlying T=some (.map kt vt)) (hx:ev ρ x=.map (some m)) (hO:O[i]? =some (cM K V m l))
  (h: ∀q,K' (js ρ d (.pointer (some ⟨q,0,none⟩))) (O.set i (nV K V m q l l none))) (hn:Nat.blt d n=true:=by rfl):LT P r base n ⟨some d,.range T x,t,p,af,g⟩ ρ O K':=
 fI hn fun w M hI=>by
  have hm:=hI.holds (cM K V m l) (a_ _ (bE hO))
  obtain⟨es,d_,h1,h2,h3,h4⟩:=hm
  have RS:=hI.fresh (cM K V m l) (a_ _ (bE hO)) m (by simp[cM])
  refine⟨.pointer (some ⟨w.heap.size,0,none⟩),w.alloc (.mapIter (some m) d_ #[] d_),_,?_,?_,h w.heap.size⟩
  ·simp[execOp,hx,Instr.range,bD hu,getObj,Sem.run,h1]
  ·rw[←kV hO]
   have yp: ∀b,b<w.heap.size→(w.alloc (.mapIter (some m) d_ #[] d_)).heap[b]? =w.heap[b]? :=fun b hb=>Below.heap_alloc w _ b hb
   refine hI.pH (kU hO) rfl rfl rfl (by simp) (fun b hb _=>yp b hb) ?_ ?_ ?_
   ·refine⟨es,d_,#[],by rw[yp m RS.2];exact h1,?_,h2,h3,h4,?_,by simp⟩
    ·show(w.heap.push _)[w.heap.size]? =_;simp
    ·rw[Ht];exact h2
   ·intro b hb
    simp[nV]at hb
    rcases hb with rfl|rfl
    ·exact .inl (by simp[cM])
    ·exact .inr ⟨aV _,by simp⟩
   ·simp[nV];omega
theorem EK {es:Array MapEntry} {seen:Array Nat} {b:Nat}:(leftOf es (seen.push b)).toList=(leftOf es seen).toList.filter (fun e=>!(e.born==b)):=by
 unfold leftOf
 simp only[Array.toList_filter,List.filter_filter]
 congr 1
 funext e
 simp only[Array.contains_eq_mem,Array.mem_push,Bool.decide_or,Bool.not_or,Bool.and_comm]
 by_cases h:e.born=b<;>simp[h]
theorem Cf {A B:List MapEntry} {e:MapEntry} (h:((A++e::B).map (·.born)).Nodup):(A++e::B).filter (fun x=>!(x.born==e.born))=A++B:=by
 simp only[aL,bL,List.nodup_append,List.nodup_cons,e_,dU]at h
 obtain⟨_,⟨h2,_⟩,h3⟩:=h
 rw[List.filter_append,List.filter_cons]
 simp only[beq_self_eq_true,Bool.not_true,Bool.false_eq_true,if_false]
 rw[List.filter_eq_self.2,List.filter_eq_self.2]
 ·intro x hx;simp;intro e';exact h2 ⟨x,hx,e'⟩
 ·intro x hx;simp;exact h3 x.born ⟨x,hx,rfl⟩ e.born (.inl rfl)
theorem Ay (i:Nat) {x:Operand} {m q:Nat} {α β:Type} {K:α→Value} {V:β→Value} {l left:List (α×β)} {pj:Option (α×β)} (hx:ev ρ x=.pointer (some ⟨q,0,none⟩)) (hO:O[i]? =some (nV K V m q l left pj))
  (h0:left=[]→K' (js ρ d (.tuple #[.bool false])) O)
  (h: ∀A e B,left=A++e::B→K' (js ρ d (.tuple #[.bool true,K e.1,V e.2])) (O.set i (nV K V m q l (A++B) (some e)))) (hn:Nat.blt d n=true:=by rfl):LT P r base n ⟨some d,.next x false,t,p,af,g⟩ ρ O K':=
 fI hn fun w M hI=>by
  have hm:=hI.holds (nV K V m q l left pj) (a_ _ (bE hO))
  obtain⟨es,d_,seen,h1,h2,h3,h4,h5,h6,h7⟩:=hm
  have kO:=hI.nodup
  rcases run_next_at (P:=P) w t q m d_ d_ seen es d_ h2 h1 h5 (aV _)with⟨hs,hr⟩|⟨e,he,w1,AO,hr⟩
  ·have hl:left=[]:=by
    have:(leftOf es seen).toList=[]:=List.eq_nil_of_length_eq_zero (by rw[Array.length_toList];exact hs)
    rw[this]at h6
    cases left with
    |nil=>rfl
    |cons a b=>simp at h6
   exact⟨_,w,O,by simp[execOp,hx,hr],hI,h0 hl⟩
  ·obtain⟨A,B,hAB⟩:=List.append_of_mem he
   rw[hAB]at h6
   obtain⟨A',C',e1,e2,e3⟩: ∃A' C',left=A'++C'∧A.map (fun e=>(e.key,e.val))=A'.map (fun q=>(K q.1,V q.2))∧(e::B).map (fun e=>(e.key,e.val))=C'.map (fun q=>(K q.1,V q.2)):=by
    rw[aL]at h6
    obtain⟨a,c,h8,h9,Mg⟩:=List.append_eq_map_iff.1 h6
    exact⟨a,c,h8,h9.symm,Mg.symm⟩
   obtain⟨f,B',rfl⟩: ∃f B',C'=f::B':=by
    cases C' with
    |nil=>simp at e3
    |cons f B'=>exact⟨f,B',rfl⟩
   simp only[bL,List.cons.injEq,Prod.mk.injEq]at e3
   have agV:e∈es.toList:=by
    have:e∈(leftOf es seen).toList:=he
    unfold leftOf at this
    simp at this⊢;exact this.1
   have hbn:((A++e::B).map (·.born)).Nodup:=by
    rw[←hAB]
    unfold leftOf
    rw[Array.toList_filter]
    exact(List.filter_sublist.map _).nodup h4
   have hI1:Inv base (O++M) w1:=AO.elim (fun e=>e▸hI) (fun e=>e▸hI.drew)
   have hh1:w1.heap=w.heap:=by rcases AO with rfl|rfl<;>rfl
   have hq1:w1.heap[q]? =some (.mapIter (some m) d_ seen d_):=by rw[hh1];exact h2
   have agW:=(Array.getElem?_eq_some_iff.1 hq1).1
   have RT:m≠q:=fun e'=>by subst e';rw[h1]at h2;simp at h2
   refine⟨_,iU w1 q (.mapIter (some m) d_ (seen.push e.born) d_),_,by simp[execOp,hx,hr];exact⟨e3.1,rfl⟩,?_,h A' f B' e1⟩
   rw[←kV hO]
   refine hI1.pH (kU hO) rfl rfl rfl (by rw[mY];exact aV _) (fun k _ hk=>kC (fun e'=>hk (by simp[nV,e']))) ?_ (fun k hk=>.inl hk) (by simp[nV];exact RT)
   refine⟨es,d_,seen.push e.born,by rw[kC (fun e'=>RT e'),hh1];exact h1,lK agW,h3,h4,h5,?_,fun z hz=>?_⟩
   ·rw[EK,hAB,Cf hbn,aL,aL,e2,e3.2]
   ·cases hz
    exact⟨e,agV,⟨seen,rfl⟩,e3.1.1,e3.1.2⟩
theorem xG {x:Operand} {m q:Nat} {α β:Type} {K:α→Value} {V:β→Value} {l left:List (α×β)} {c:α×β} {dst:Option Nat} (hx:ev ρ x=.pointer (some ⟨q,0,none⟩)) (hO:nV K V m q l left (some c)∈O):
  QT P base ⟨dst,.entry x,t,p,af,g⟩ ρ O (.tuple #[K c.1,V c.2]):=fun w hI=>by
 obtain⟨es,d_,seen,h1,h2,h3,h4,h5,h6,h7⟩:=hI.holds _ hO
 obtain⟨e,he,⟨s',rfl⟩,hk,hv⟩:=h7 c rfl
 have:=run_entry_at (P:=P) w q m d_ s' es d_ e h2 h1 he h4
 simp[execOp,hx,this,hk,hv]
end
section
variable {P:Program} {base:World} {ρ:Env} {O:List Item} {dst:Option Nat} {t:TypeId} {p:String} {af:Array Edge} {g:Option (Nat×Bool)}
theorem A5 {n a:Nat} (h:a<2^n):(BitVec.ofInt n (a:Int)).toNat=a:=by
 rw[BitVec.ofInt_natCast,BitVec.toNat_ofNat,Nat.mod_eq_of_lt h]
theorem Cg {x:Nat} (h:x<2^64):IntKind.u64.wrap (x:Int)=(x:Int):=by
 simp only[IntKind.wrap,IntKind.signed,IntKind.bits]
 simp
 omega
inductive UK:IntKind→Prop
 |u8:UK .u8
 |u64:UK .u64
theorem UK.wrap {k:IntKind} (hk:UK k) {x:Nat} (h:x<2^k.bits):k.wrap (x:Int)=(x:Int):=by
 cases hk
 ·exact EJ (by simpa[IntKind.bits]using h)
 ·exact Cg (by simpa[IntKind.bits]using h)
theorem Rk {x y:Operand} {T U:TypeId} {k:IntKind} {a b:Nat} (hk:UK k) (hx:ev ρ x=.int k (a:Int)) (hy:ev ρ y=.int k (b:Int)) (ha:a<2^k.bits) (hb:b<2^k.bits):QT P base ⟨dst,.binOp .or T x y U,t,p,af,g⟩ ρ O (.int k ((a|||b:Nat):Int)):=fun w _=>by
 have:=hk.wrap (Nat.or_lt_two_pow ha hb)
 simp[execOp,hx,hy,eqGuard,binOp,Op.intBits,Nat.mod_eq_of_lt ha,Nat.mod_eq_of_lt hb,this]
theorem nY {x y:Operand} {T U:TypeId} {k:IntKind} {a b:Nat} (hk:UK k) (hx:ev ρ x=.int k (a:Int)) (hy:ev ρ y=.int k (b:Int)) (ha:a<2^k.bits) (hb:b<2^k.bits):QT P base ⟨dst,.binOp .and T x y U,t,p,af,g⟩ ρ O (.int k ((a&&&b:Nat):Int)):=fun w _=>by
 have:=hk.wrap (ee (Nat.and_le_left (n:=a) (m:=b)) ha)
 simp[execOp,hx,hy,eqGuard,binOp,Op.intBits,Nat.mod_eq_of_lt ha,Nat.mod_eq_of_lt hb,this]
theorem xL {x y:Operand} {T U:TypeId} {k k':IntKind} {a b:Nat} (hk:UK k) (hx:ev ρ x=.int k (a:Int)) (hy:ev ρ y=.int k' (b:Int)) (ha:a<2^k.bits) (hb:b≤k.bits):QT P base ⟨dst,.binOp .shr T x y U,t,p,af,g⟩ ρ O (.int k ((a>>>b:Nat):Int)):=fun w _=>by
 have h0: ¬(b:Int)<0:=by omega
 have h1:min (b:Int).toNat k.bits=b:=by rw[Int.toNat_natCast];exact Nat.min_eq_left hb
 have h2:(a:Int).fdiv (2^b)=((a>>>b:Nat):Int):=by
  rw[Nat.shiftRight_eq_div_pow,Int.fdiv_eq_ediv_of_nonneg _ (by exact Int.le_of_lt (Int.pow_pos (by decide)))]
  rw[Int.natCast_ediv,Int.natCast_pow];rfl
 simp only[execOp,hx,hy,eqGuard,binOp,Op.shift,h0,if_false,h1,h2]
 simp
theorem BO {x y:Operand} {T U:TypeId} {k k':IntKind} {a b:Nat} (hk:UK k) (hx:ev ρ x=.int k (a:Int)) (hy:ev ρ y=.int k' (b:Int)) (hb:b≤k.bits) (h:a*2^b<2^k.bits):QT P base ⟨dst,.binOp .shl T x y U,t,p,af,g⟩ ρ O (.int k ((a*2^b:Nat):Int)):=fun w _=>by
 have h0: ¬(b:Int)<0:=by omega
 have h1:min (b:Int).toNat k.bits=b:=by rw[Int.toNat_natCast];exact Nat.min_eq_left hb
 have h2:k.wrap ((a:Int)*2^b)=((a*2^b:Nat):Int):=by
  have:=hk.wrap h
  rw[←this];congr 1
 simp only[execOp,hx,hy,eqGuard,binOp,Op.shift,h0,if_false,h1,h2]
 simp
theorem GY {x y:Operand} {T U:TypeId} {k:IntKind} {a b:Nat} (hk:UK k) (hx:ev ρ x=.int k (a:Int)) (hy:ev ρ y=.int k (b:Int)) (ha:a<2^k.bits) (hb:b≤a):QT P base ⟨dst,.binOp .sub T x y U,t,p,af,g⟩ ρ O (.int k ((a-b:Nat):Int)):=by
 have h:=UZ (P:=P) (base:=base) (O:=O) (dst:=dst) (t:=t) (p:=p) (af:=af) (g:=g) (T:=T) (U:=U) hx hy
 rw[←Int.natCast_sub hb,hk.wrap (by omega)]at h
 exact h
theorem vl {x y:Operand} {T U:TypeId} {k:IntKind} {a b:Nat} (hk:UK k) (hx:ev ρ x=.int k (a:Int)) (hy:ev ρ y=.int k (b:Int)) (ha:a+b<2^k.bits):QT P base ⟨dst,.binOp .add T x y U,t,p,af,g⟩ ρ O (.int k ((a+b:Nat):Int)):=by
 have h:=UY (P:=P) (base:=base) (O:=O) (dst:=dst) (t:=t) (p:=p) (af:=af) (g:=g) (T:=T) (U:=U) hx hy
 rw[←Int.natCast_add,hk.wrap ha]at h
 exact h
theorem kR {x y:Operand} {T U:TypeId} {k:IntKind} {a b:Nat} (hx:ev ρ x=.int k (a:Int)) (hy:ev ρ y=.int k (b:Int)) (h0:0<b):QT P base ⟨dst,.binOp .rem T x y U,t,p,af,g⟩ ρ O (.int k ((a%b:Nat):Int)):=by
 have h:=abE (P:=P) (base:=base) (O:=O) (dst:=dst) (t:=t) (p:=p) (af:=af) (g:=g) (T:=T) (U:=U) hx hy (by omega)
 rw[Int.tmod_eq_emod_of_nonneg (by omega),←Int.natCast_emod]at h
 exact h
theorem Ch {x y:Operand} {T U:TypeId} {a b:Nat} (hx:ev ρ x=.int .i64 (a:Int)) (hy:ev ρ y=.int .i64 (b:Int)) (h0:0<b) (ha:a<9223372036854775808):QT P base ⟨dst,.binOp .quo T x y U,t,p,af,g⟩ ρ O (.int .i64 ((a/b:Nat):Int)):=fun w _=>by
 have h1:(b:Int)≠0:=by omega
 have h2:(a:Int).tdiv (b:Int)=((a/b:Nat):Int):=by rw[Int.tdiv_eq_ediv_of_nonneg (by omega),Int.natCast_ediv]
 have h3:IntKind.i64.wrap ((a/b:Nat):Int)=((a/b:Nat):Int):=gN (by have h4:=Nat.div_le_self a b;generalize a/b=q at h4⊢;omega)
 rw[Int.natCast_ediv]at h2 h3⊢
 have h5:b≠0:=by omega
 simp[execOp,hx,hy,eqGuard,binOp,Op.intDiv,h5,h2,h3]
theorem bK (a:Nat) {x y:Operand} {T U:TypeId} {b:Nat} (hx:ev ρ x=.int .i64 (a:Int)) (hy:ev ρ y=.int .i64 (b:Int)) (h:a+b≤9223372036854775807):QT P base ⟨dst,.binOp .add T x y U,t,p,af,g⟩ ρ O (.int .i64 ((a+b:Nat):Int)):=by
 have:=jJ (P:=P) (base:=base) (O:=O) (dst:=dst) (t:=t) (p:=p) (af:=af) (g:=g) (T:=T) (U:=U) hx hy (by omega)
 rwa[←Int.natCast_add]at this
theorem il {x y:Operand} {T U:TypeId} {a b:Nat} (hx:ev ρ x=.int .i64 (a:Int)) (hy:ev ρ y=.int .i64 (b:Int)) (h:b≤a) (ha:a≤9223372036854775807):QT P base ⟨dst,.binOp .sub T x y U,t,p,af,g⟩ ρ O (.int .i64 ((a-b:Nat):Int)):=by
 have:=w4 (P:=P) (base:=base) (O:=O) (dst:=dst) (t:=t) (p:=p) (af:=af) (g:=g) (T:=T) (U:=U) hx hy (by omega)
 rwa[←Int.natCast_sub h]at this
theorem jx {x y:Operand} {T U:TypeId} {a b:Nat} (hx:ev ρ x=.int .i64 (a:Int)) (hy:ev ρ y=.int .i64 (b:Int)) (h:a*b≤9223372036854775807):QT P base ⟨dst,.binOp .mul T x y U,t,p,af,g⟩ ρ O (.int .i64 ((a*b:Nat):Int)):=by
 have:=RN (P:=P) (base:=base) (O:=O) (dst:=dst) (t:=t) (p:=p) (af:=af) (g:=g) (T:=T) (U:=U) hx hy (by rw[←Int.natCast_mul];omega)
 rwa[←Int.natCast_mul]at this
theorem px {x y:Operand} {w5:Array TypeId} {k k':IntKind} {a b:Nat} (hx:ev ρ x=.int k (a:Int)) (hy:ev ρ y=.int k' (b:Int)):QT P base ⟨dst,.call ⟨.builtin .max,#[x,y],w5⟩,t,p,af,g⟩ ρ O (.int k ((max a b:Nat):Int)):=by
 have h:=UO (P:=P) (base:=base) (O:=O) (dst:=dst) (t:=t) (p:=p) (af:=af) (g:=g) (w5:=w5) hx hy
 have e:(if(b:Int)>(a:Int)then(b:Int)else(a:Int))=((max a b:Nat):Int):=by split<;>omega
 rwa[e]at h
theorem nm {x y:Operand} {w5:Array TypeId} {k k':IntKind} {a b:Nat} (hx:ev ρ x=.int k (a:Int)) (hy:ev ρ y=.int k' (b:Int)):QT P base ⟨dst,.call ⟨.builtin .min,#[x,y],w5⟩,t,p,af,g⟩ ρ O (.int k ((min a b:Nat):Int)):=by
 have h:=abF (P:=P) (base:=base) (O:=O) (dst:=dst) (t:=t) (p:=p) (af:=af) (g:=g) (w5:=w5) hx hy
 have e:(if(b:Int)<(a:Int)then(b:Int)else(a:Int))=((min a b:Nat):Int):=by split<;>omega
 rwa[e]at h
def pM (b:Option Addr) (c lo k:Nat):Option Addr:=if c=lo then b else b.map (·.add (lo*k))
theorem KB (b:Option Addr) (c k:Nat):pM b c 0 k=b:=by
 unfold pM
 split
 ·rfl
 ·rw[Nat.zero_mul];cases b with
  |none=>rfl
  |some a=>simp[Addr.add]
theorem Sl.sub {w:World} {b:Option Addr} {cs:List Value} (h:Sl w b cs) (c lo k m:Nat) (hc:c=lo→(cs.drop (lo*k)).take m=[]):Sl w (pM b c lo k) ((cs.drop (lo*k)).take m):=fun i hi=>by
 have fM:lo*k+i<cs.length:=by rw[bC,List.length_drop]at hi;omega
 obtain⟨⟨bk,o,sp⟩,h1,h2,h3⟩:=h _ fM
 simp only at h2;subst h2
 have mC:c≠lo:=fun e=>by rw[hc e]at hi;simp at hi
 refine⟨⟨bk,o+lo*k,none⟩,?_,rfl,?_⟩
 ·unfold pM;rw[ar mC,h1];simp[tV]
 ·simp only[List.getElem_take,List.getElem_drop]
  rw[show o+lo*k+i=o+(lo*k+i) by omega];exact h3
theorem I0 {x:Operand} {T E:TypeId} {b:Option Addr} {n c k gy lo hi:Nat} {z:Value} {yl yh:Option Operand} {kl kh:IntKind} (hu:P.underlying T=some (.slice E)) (uU:gq P E z k gy) (hx:ev ρ x=.slice b n c)
  (hl: ∀y,yl=some y→ev ρ y=.int kl (lo:Int)) (Ma:yl=none→lo=0) (hh: ∀y,yh=some y→ev ρ y=.int kh (hi:Int)) (hh0:yh=none→hi=n) (h1:lo≤hi) (h2:hi≤c):
  QT P base ⟨dst,.slice T x yl yh none,t,p,af,g⟩ ρ O (.slice (pM b c lo k) (hi-lo) (c-lo)):=fun w _=>by
 have e1:(lo:Int)≤(hi:Int):=by omega
 have e2:(hi:Int)≤(c:Int):=by omega
 have e0:(0:Int)≤(lo:Int):=by omega
 have e3:(0:Int)≤(hi:Int):=by omega
 unfold pM
 have ed:c-lo=0↔c=lo:=by omega
 cases yl with
 |none=>
  obtain rfl:=Ma rfl
  cases yh with
  |none=>
   obtain rfl:=hh0 rfl
   by_cases EL:c=0
   ·simp[execOp,Instr.sliceAt,Instr.slice,hx,bD hu,cA uU,Instr.sliceBounds,EL]
   ·simp[execOp,Instr.sliceAt,Instr.slice,hx,bD hu,cA uU,Instr.sliceBounds,EL]
  |some y=>
   have:=hh y rfl
   by_cases EL:c=0
   ·simp[execOp,Instr.sliceAt,Instr.slice,hx,this,bD hu,cA uU,Instr.sliceBounds,Instr.sliceBound,asIntOf,e2,e3,EL,h2]
    omega
   ·simp[execOp,Instr.sliceAt,Instr.slice,hx,this,bD hu,cA uU,Instr.sliceBounds,Instr.sliceBound,asIntOf,e2,e3,EL,h2]
 |some y'=>
  have Zx:=hl y' rfl
  cases yh with
  |none=>
   obtain rfl:=hh0 rfl
   by_cases EL:c=lo
   ·simp[execOp,Instr.sliceAt,Instr.slice,hx,Zx,bD hu,cA uU,Instr.sliceBounds,Instr.sliceBound,asIntOf,e1,e0,EL,h1]
   ·simp[execOp,Instr.sliceAt,Instr.slice,hx,Zx,bD hu,cA uU,Instr.sliceBounds,Instr.sliceBound,asIntOf,e1,e0,EL,h1]
  |some y=>
   have:=hh y rfl
   by_cases EL:c=lo
   ·simp[execOp,Instr.sliceAt,Instr.slice,hx,Zx,this,bD hu,cA uU,Instr.sliceBounds,Instr.sliceBound,asIntOf,e1,e0,e2,e3,EL,h1,h2]
    intro;omega
   ·simp[execOp,Instr.sliceAt,Instr.slice,hx,Zx,this,bD hu,cA uU,Instr.sliceBounds,Instr.sliceBound,asIntOf,e1,e0,e2,e3,EL,h1,h2]
theorem jM {x y:Operand} {T E:TypeId} {b:Option Addr} {n c k gy hi:Nat} {z:Value} {kh:IntKind} (hu:P.underlying T=some (.slice E)) (uU:gq P E z k gy) (hx:ev ρ x=.slice b n c) (hh:ev ρ y=.int kh (hi:Int)) (h2:hi≤c):
  QT P base ⟨dst,.slice T x none (some y) none,t,p,af,g⟩ ρ O (.slice b hi c):=by
 have:=I0 (P:=P) (base:=base) (O:=O) (dst:=dst) (t:=t) (p:=p) (af:=af) (g:=g) (lo:=0) (kl:=.i64) hu uU hx (yl:=none) (yh:=some y) (fun _ h=>by cases h) (fun _=>rfl) (fun _ h=>by cases h;exact hh) (fun h=>by cases h) (aG _) h2
 rwa[KB,Nat.sub_zero,Nat.sub_zero]at this
theorem n7 {x y:Operand} {T E:TypeId} {b:Option Addr} {n c k gy lo:Nat} {z:Value} {kl:IntKind} (hu:P.underlying T=some (.slice E)) (uU:gq P E z k gy) (hx:ev ρ x=.slice b n c) (hh:ev ρ y=.int kl (lo:Int)) (h1:lo≤n) (h2:n≤c):
  QT P base ⟨dst,.slice T x (some y) none none,t,p,af,g⟩ ρ O (.slice (pM b c lo k) (n-lo) (c-lo)):=
 I0 (kh:=.i64) hu uU hx (fun _ h=>by cases h;exact hh) (fun h=>by cases h) (fun _ h=>by cases h) (fun _=>rfl) h1 h2
end
section
variable {P:Program} {r:Option Nat} {base:World} {n:Nat} {ρ:Env} {O:List Item} {K:Env→List Item→Prop} {d:Nat} {t:TypeId} {p:String} {af:Array Edge} {g:Option (Nat×Bool)}
theorem rowP.head {b:Option Addr} {c k:Nat} {T:TypeId} {cs:List Value} {w:World} (h:rowP b c T k cs w) (m:Nat):rowP b c T k (cs.take m) w:=by
 cases b with
 |none=>obtain⟨rfl,rfl⟩:=h;exact⟨by simp,rfl⟩
 |some a=>
  obtain⟨h1,full,h2,h3,h4,h5⟩:=h
  refine⟨h1,full,h2,by rw[bC];omega,h4,fun i hi=>?_⟩
  have uU:i<cs.length:=by rw[bC]at hi;omega
  rw[List.getElem_take];exact h5 i uU
theorem Inv.head {w:World} {i:Nat} {b:Option Addr} {c k:Nat} {T:TypeId} {cs:List Value} (hI:Inv base O w) (hO:O[i]? =some (ak b c T k cs)) (m:Nat):Inv base (O.set i (ak b c T k (cs.take m))) w:=
 hI.Nt hO (by simp[ak]) (fun h=>h.head m)
theorem B3 (i:Nat) {x y:Operand} {T E:TypeId} {b:Option Addr} {n' c k gy m:Nat} {z:Value} {kk:IntKind} {cs:List Value} (hu:P.underlying T=some (.slice E)) (hi:gq P E z k gy) (hx:ev ρ x=.slice b n' c) (hy:ev ρ y=.int kk (m:Int))
  (hO:O[i]? =some (ak b c E k cs)) (hm:m≤c)
  (h:K (js ρ d (.slice b m c)) (O.set i (ak b c E k (cs.take (m*k))))) (hn:Nat.blt d n=true:=by rfl):LT P r base n ⟨some d,.slice T x none (some y) none,t,p,af,g⟩ ρ O K:=
 fI hn fun w M hI=>⟨_,w,_,jM hu hi hx hy hm w hI.left,by rw[←kV hO];exact hI.head (kU hO) _,h⟩
end
theorem cS {P:Program} {r:Option Nat} {base:World} {n:Nat} {Q:iT} {ρ:Env} {O:List Item} {c:Code} {α:Type} (I:α→Env→List Item→Prop) (μ:α→Nat) (s:α) (h0:I s ρ O)
  (h: ∀s ρ O,I s ρ O→T P r base n c (so (fun jz O'=> ∃s',μ s'<μ s∧ ∃O2,Sub O2 O'∧I s' jz O2) Q) ρ O):T P r base n (.loop c) Q ρ O:=
 cX (fun s ρ O=> ∃O2,Sub O2 O∧I s ρ O2) μ s ⟨O,bj (ay _),h0⟩ (fun s ρ O ⟨O2,hs,hi⟩=>cV hs (h s ρ O2 hi))
theorem mS {P:Program} {T E:TypeId} {d:TypeDesc} {b:Nat} {v:Value} {cs:List Value} {fr:Nat×Nat} {w:World} (hu:P.underlying T=some d) (ha:nr d=false) (hw:w.heap[b]? =some (.cells (v::cs).toArray E fr)):
  (loadVar T ⟨b,0,none⟩).run P w=.ok v w:=by
 have hc:w.cell? ⟨b,0,none⟩=some v:=by unfold World.cell?;simp[hw]
 simp[loadVar,ja hu,ha,hc]
theorem BU {P:Program} {base:World} {ρ:Env} {O:List Item} {fn:Func} {R:Value→List Item→Prop} {a i c j:Nat} {T U E E':TypeId} {d d':TypeDesc} {b b':Nat} {v u:Value} {cs Nd:List Value} {fr fr':Nat×Nat} (hr:fn.results= #[.cell a T,.cell c U]) (hu:P.underlying T=some d) (ha:nr d=false) (hu':P.underlying U=some d') (GN:nr d'=false)
  (hp:ρ a=.pointer (some ⟨b,0,none⟩)) (hp':ρ c=.pointer (some ⟨b',0,none⟩)) (hO:O[i]? =some (eL b (.cells (v::cs).toArray E fr))) (hO':O[j]? =some (eL b' (.cells (u::Nd).toArray E' fr')))
  (h:R (.tuple #[v,u]) O):pk P base fn ρ O R:=
 ⟨⟨_,O,bj (ay _),h,fun w tmps hI ht=>by
  have h1:=mS (P:=P) hu ha (hI.qU hO)
  have h2:=mS (P:=P) hu' GN (hI.qU hO')
  have AZ:=ht a
  have hc:=ht c
  simp only[dh]at AZ hc
  simp[results,hr,AZ,hc,hp,hp',asAddr,h1,h2]⟩⟩
section
variable {P:Program} {base:World} {ρ:Env} {O:List Item} {dst:Option Nat} {t:TypeId} {p:String} {af:Array Edge} {g:Option (Nat×Bool)}
end
abbrev fe (l:List Nat):List Value:=l.map fun x:Nat=>Value.int .u64 (x:Int)
theorem BX {l:List Nat} {i:Nat} (h:i<l.length:=by first|assumption|omega|(simp;omega)|simp_all):(fe l)[i]? =some (.int .u64 ((l[i]:Nat):Int)):=by simp[h]
section
variable {P:Program} {r:Option Nat} {base:World} {n:Nat} {ρ:Env} {O:List Item} {K:Env→List Item→Prop} {d:Nat} {t:TypeId} {p:String} {af:Array Edge} {g:Option (Nat×Bool)}
theorem U6 {x:Operand} {T:TypeId} {E:TypeId} {b:Option Addr} {m c:Nat} {dst:Option Nat} (hu:P.underlying T=some (.slice E)) (hx:ev ρ x=.slice b m c):
  QT P base ⟨dst,.call ⟨.builtin .cap,#[x],#[T]⟩,t,p,af,g⟩ ρ O (.int .i64 (c:Int)):=fun w _=>by
 simp[execOp,resolve,hx,invoke,builtin,Builtin.cap_,bD hu,goInt]
theorem KC {T U E:TypeId} {m gy:Nat} {x y:Operand} {z:Value} {k:IntKind} (hu:P.underlying T=some (.slice E)) (Nj:P.underlying U=some (.int .i64)) (hi:gq P E z 1 gy) (hz:z.cells= #[z])
  (hx:ev ρ x=.slice none 0 0) (hy:ev ρ y=.int k (m:Int)) (hm:0<m) (sj:m*gy≤70368744177664) (RK:gy≤1000000) (Ew:0<gy)
  (h: ∀b' c',m≤c'→K (js ρ d (.slice b' m c')) (ak b' c' E 1 (List.replicate m z)::O)) (hn:Nat.blt d n=true:=by rfl):
  LT P r base n ⟨some d,.call ⟨.builtin .append,#[x,y],#[T,U]⟩,t,p,af,g⟩ ρ O K:=
 fI hn fun w M hI=>by
  obtain⟨i,GM,AS,hi3,hi4⟩:=hi.get
  obtain⟨cap,rY⟩: ∃cap,(Question.appendCap m 0 E).cut (w.tape w.drawn (Question.appendCap m 0 E))=cap:=⟨_,rfl⟩
  have mB:m≤cap:=rY▸IY m 0 _ E
  have Cd:(Question.appendCap m 0 E).forced=false:=rfl
  have x5:Inv base (O++M) w.drew:=hI.drew
  have MN:m≤70368744177664:=cT (Nat.le_mul_of_pos_right m Ew) sj
  have hw:IntKind.i64.wrap (m:Int)=(m:Int):=gN (by omega)
  have ik: ¬(281474976710656<Builtin.nextslicecap m 0*gy):=by
   have h1:=yf (rZ:=m) (cap:=0) hm
   have h2:Builtin.nextslicecap m 0*gy≤(2*m+192)*gy:=Nat.mul_le_mul_right _ h1
   have h3:(2*m+192)*gy=2*(m*gy)+192*gy:=by rw[Nat.add_mul,Nat.mul_assoc]
   omega
  have Xd: ¬((281474976710656:Int)<(m:Int)*(gy:Int)):=by
   have:((m*gy:Nat):Int)=(m:Int)*(gy:Int):=Int.natCast_mul _ _
   rw[←this];omega
  have Zv: ¬m=0:=by omega
  have KA: ¬(m:Int)<0:=by omega
  have Xe: ¬((9223372036854775807:Int)<(m:Int)):=by omega
  have Um:max (m:Int) 0=(m:Int):=by omega
  have agX: ¬(m:Int)≤0:=by omega
  have Uy:Builtin.zeroCells z.cells m=(List.replicate m z).toArray:=by
   unfold Builtin.zeroCells;rw[hz]
   have:=AW z m
   simpa using this
  have hzr:(m*z.cells.size)=m:=by rw[hz];simp
  refine⟨.slice (some ⟨w.heap.size,0,none⟩) m cap,w.drew.alloc (.cells ((List.replicate m z).toArray++Builtin.zeroCells z.cells (cap-m)) E),_,?_,?_,h (some ⟨w.heap.size,0,none⟩) cap mB⟩
  ·simp[execOp,resolve,hx,hy,invoke,builtin,Builtin.append_,bD hu,bD Nj,cA hi,asInt,asIntOf,hw,KA,Um,agX,Xd,kg GM,hi4,Zv,Xe,ik,Cd,rY,Builtin.firstCells,gI hi,Uy,newRow]
  ·refine Inv.new (O:=O++M) (N:=[ak (some ⟨w.heap.size,0,none⟩) cap E 1 (List.replicate m z)]) hI rfl rfl rfl (by simp) (fun b hb=>?_) ?_ ?_ (by simp[ak])
   ·show(w.heap.push _)[b]? =_
    rw[Array.getElem?_push,ar (by omega)]
   ·intro x hx
    simp at hx;subst hx
    refine⟨rfl,(List.replicate m z).toArray++Builtin.zeroCells z.cells (cap-m),?_,by simp;exact mB,?_,fun q hq=>?_⟩
    ·show(w.heap.push _)[w.heap.size]? =_;simp
    ·simp only[Array.size_append,List.size_toArray,List.length_replicate,AX,hz,Nat.zero_add]
     simp;omega
    ·simp only[List.length_replicate]at hq
     simp only[Nat.zero_add]
     rw[Array.getElem?_append_left (by simpa using hq)]
     simp[hq]
   ·intro x hx b hb
    simp at hx;subst hx
    simp[ak]at hb;subst hb
    exact⟨aV _,by simp⟩
end
theorem sq.reorder {P:Program} {base:World} {M:List Item} {R:Value→List Item→Prop} {x:Result Next} (h:sq P base M (fun v O'=> ∃O2,Sub O2 O'∧R v O2) x):sq P base M R x:=by
 cases x with
 |halt e w=>exact h
 |ok y w=>
  cases y with
  |enter f args=>exact Calls.mono h (fun e w' ⟨v,O',h1,h2,O2,hs,hr⟩=>⟨v,O2,h1,h2.mA hs.Cb,hr⟩)
  |round l f tmps assign body=>exact RoundIn.mono h (fun e w' ⟨v,O',h1,h2,O2,hs,hr⟩=>⟨v,O2,h1,h2.mA hs.Cb,hr⟩)
  |_=>exact h
theorem dS.reorder {P:Program} {base:World} {fv:Value} {args:List Value} {O:List Item} {R:Value→List Item→Prop} (h:dS P base fv args O (fun v O'=> ∃O2,Sub O2 O'∧R v O2)):dS P base fv args O R:=fun w M hI=>(h w M hI).reorder
theorem tZ {A B:List Item}:Sub (A++B) (B++A):=⟨_,List.perm_append_comm,ay _⟩
theorem dS.atR {P:Program} {base:World} {fv:Value} {args:List Value} {A:List Item} (B:List Item) {R:Value→List Item→Prop} (h:dS P base fv args A R):dS P base fv args (B++A) (fun v O'=> ∃A',O'=B++A'∧R v A'):=
 ((h.under (B:=B) tZ).mono (fun v O' ⟨A',e,hr⟩=>⟨B++A',by rw[e];exact tZ,A',rfl,hr⟩)).reorder
def pN (w:World) (vs:List Value) (ws:List (List Nat)):Prop:=
 vs.length=ws.length∧ ∀(i:Nat) (r:List Nat),ws[i]? =some r→ ∃b c,vs[i]? =some (Value.slice b r.length c)∧Sl w b (ek r)
theorem pN.get {w:World} {vs:List Value} {ws:List (List Nat)} (h:pN w vs ws) {i:Nat} (hi:i<ws.length): ∃b c,vs[i]? =some (Value.slice b ws[i].length c)∧Sl w b (ek ws[i]):=
 h.2 i _ (ah hi)
theorem rL {ws:List (List Nat)} {k:Nat} (hk:k<ws.length):(ws.take (k+1)).flatten=(ws.take k).flatten++ws[k]:=by
 rw[an hk,List.flatten_append];simp
theorem Ci {ws:List (List Nat)} (k:Nat):(ws.take k).flatten.length≤ws.flatten.length:=by
 conv=>rhs;rw[←List.take_append_drop k ws,List.flatten_append]
 simp
theorem pN.two {w:World} {b1 b2:Option Addr} {c1 c2 n1 n2:Nat} {r1 r2:List Nat} (h1:Sl w b1 (ek r1)) (h2:Sl w b2 (ek r2)) (e1:r1.length=n1) (e2:r2.length=n2):pN w [.slice b1 n1 c1,.slice b2 n2 c2] [r1,r2]:=by
 refine⟨rfl,fun i r hr=>?_⟩
 match i with
 |0=>simp at hr;subst hr;exact⟨b1,c1,by rw[e1];rfl,h1⟩
 |1=>simp at hr;subst hr;exact⟨b2,c2,by rw[e2];rfl,h2⟩
 |i+2=>simp at hr
theorem Sl.RU {w:World} {b:Option Addr} {xs:List Nat} (h:Sl w b (ek xs)) {c lo hi:Nat} (hc:xs.length≤c) (Zy:lo<hi) (hhi:hi≤xs.length):Sl w (pM b c lo 1) (ek ((xs.take hi).drop lo)):=by
 have h1:=h.sub c lo 1 (hi-lo) (fun e=>by omega)
 rw[Nat.mul_one,←List.map_drop,←List.map_take]at h1
 rwa[List.drop_take]
theorem Sl.qe {w:World} {b:Option Addr} {xs:List Nat} (h:Sl w b (ek xs)) (m:Nat):Sl w b (ek (xs.take m)):=fun i hi=>by
 have uU:i<xs.length:=by rw[ag,bC]at hi;omega
 obtain⟨a,h1,h2,h3⟩:=h i (by simpa using uU)
 exact⟨a,h1,h2,by rw[h3];simp⟩
theorem dS.pick {P:Program} {base:World} {fv:Value} {args:List Value} {x:Value} (is:List Nat) (L R A:List Item) (hA:tY is L=A) (h:dS P base fv args A (fun v O'=>v=x∧O'=A)):dS P base fv args (L++R) (fun v O'=>v=x∧O'=L++R):=by
 subst hA
 have hp:(tY is L++(vX is L++R)).Perm (L++R):=by
  rw[←bw];exact(oX is L).append_right R
 exact((h.under (B:=vX is L++R) (gY (D:=[]) (by simpa using hp))).mono (fun v O' ⟨A',e,hv,ha⟩=>⟨L++R,by rw[e,ha];exact gY (D:=[]) (by simpa using hp.symm),hv,rfl⟩)).reorder
theorem Ry {P:Program} {base:World} {ρ:Env} {O:List Item} {dst:Option Nat} {t:TypeId} {p:String} {af:Array Edge} {g:Option (Nat×Bool)} {x:Operand} {S:TypeId} {fs:Array Field} {i:Nat} {f:Field} {cs:List Value} {d:TypeDesc} {v:Value} (hu:P.underlying S=some (.struct fs)) (hf:fs[i]? =some f) (hd:P.underlying f.type=some d) (ha:nr d=false) (hx:ev ρ x=.agg cs.toArray) (hv:cs[f.offset]? =some v):
  QT P base ⟨dst,.field S x i,t,p,af,g⟩ ρ O v:=fun w _=>by
 simp[execOp,hx,Instr.field,bD hu,hf,part,ja hd,ha,asAgg,hv]
section
variable {X:PX} {P:Program} {r:Option Nat} {base:World} {n:Nat} {ops:Array Oper} {S S2:List Item} {tail dz:List Nat} {K:Env→List Item→Prop} {ρ:Env} {O:List Item}
theorem Hu {fV:Nat} {listed:Array Bool} (i:Nat) {o:Oper} {j0 tj:Nat} {want:Bool} (hi:ops[i]? =some o) (hg:o.guard=some (j0,want)) (EH:(ops[j0]?).bind (·.dst)=some tj) (hw:ρ tj=.bool want) (hr:Region.ready .any ops listed=[i])
  (h:LT P r base n o ρ O (fun jz O'=>(i∈tail∨Sub S O')∧(i∈dz∨Sub S2 O')∧RO X P r base n ops S tail S2 dz fV (listed.setIfInBounds i true) K jz O')):RO X P r base n ops S tail S2 dz (fV+1) listed K ρ O:=by
 intro Q a w M D hq hp ha hI nN hS
 refine⟨fun h0=>(by rw[hr]at h0;cases h0),fun j hj=>?_⟩
 rw[hr]at hj
 obtain rfl:j=i:=by simpa using hj
 have Hg:j∈Region.ready .any ops listed:=by rw[hr];simp
 have fM:j<listed.size:=by
  have:=(mem_ready.1 Hg).1
  rcases Nat.lt_or_ge j listed.size with h'|h'
  ·exact h'
  ·simp[Array.getElem?_eq_none h']at this
 have hy:=lJ (ops:=ops) ha EH
 rw[hw]at hy
 have x7:Region.wanted o (yielded ops a.tmps)=true:=by unfold Region.wanted;rw[hg];simp[hy,IX]
 unfold wpOpIn
 simp only[hi]
 rw[aA x7]
 refine h a w _ _ ha hI _ _ fun a' jz O' w' h1 h2 h3=>?_
 have ya: ∀(tl:List Nat) (Z:List Item),(j∈tl∨Sub Z O')→(tl.any fun b=>(listed.setIfInBounds j true).getD b false)=true∨Inv base Z w':=fun tl Z h3=>by
  rcases h3 with h4|h4
  ·refine .inl (List.any_eq_true.2 ⟨j,h4,?_⟩)
   simp[fM]
  ·exact .inr (h2.left.mA h4)
 have tS:i_ base S tail S2 dz (listed.setIfInBounds j true) w':=⟨h2.Es,ya _ _ h3.1,ya _ _ h3.2.1⟩
 exact⟨tS,h3.2.2 Q a' w' M D hq hp h1 h2 (jA nN Hg) tS⟩
theorem sY {l:List (Nat×Nat)} {i:Nat} {o:Oper} {j0 tj:Nat} {want:Bool} (hi:ops[i]? =some o) (hg:o.guard=some (j0,want)) (EH:(ops[j0]?).bind (·.dst)=some tj) (hw:ρ tj=.bool want)
  (h:LT P r base n o ρ O (fun jz O'=>Sub S O'∧DO X P r base n ops S tail [] dz l K jz O')):DO X P r base n ops S tail [] dz ((i,1)::l) K ρ O:=fun hs kO hl listed hb=>by
 simp only[kf,aY,beq_iff_eq]at hb
 refine Hu i hi hg EH hw hb.1 ?_
 intro a w M ds ha hI next Qx ik
 exact h a w M ds ha hI next Qx fun a' jz O' w' h1 h2 h3=>ik a' jz O' w' h1 h2 ⟨.inr h3.1,.inr (bj (aX _)),h3.2 hs kO (fun q hq=>hl q (List.mem_cons_of_mem _ hq)) _ hb.2⟩
end
section
variable {X:PX} {P:Program} {r:Option Nat} {base:World} {n:Nat} {ops:Array Oper} {S S2:List Item} {tail dz:List Nat} {K:Env→List Item→Prop} {ρ:Env} {O:List Item}
theorem Cj {fV:Nat} {listed:Array Bool} (i:Nat) {o:Oper} {d j0 tj:Nat} {want:Bool} (hi:ops[i]? =some o) (hg:o.guard=some (j0,want)) (hd:o.dst=some d) (EH:(ops[j0]?).bind (·.dst)=some tj) (hw:(IX (ρ tj)==some want)=false) (hn:Nat.blt d n=true) (hr:Region.ready .any ops listed=[i])
  (h:RO X P r base n ops S tail S2 dz fV (listed.setIfInBounds i true) K (js ρ d undef) O):RO X P r base n ops S tail S2 dz (fV+1) listed K ρ O:=by
 intro Q a w M D hq hp ha hI nN hS
 refine⟨fun h0=>(by rw[hr]at h0;cases h0),fun j hj=>?_⟩
 rw[hr]at hj
 obtain rfl:j=i:=by simpa using hj
 have Hg:j∈Region.ready .any ops listed:=by rw[hr];simp
 have hy:=lJ (ops:=ops) ha EH
 have x7:Region.wanted o (yielded ops a.tmps)=false:=by unfold Region.wanted;rw[hg];simp only[hy];exact hw
 unfold wpOpIn
 simp only[hi]
 rw[ar (by rw[x7];decide)]
 have tS:i_ base S tail S2 dz (listed.setIfInBounds j true) w:=⟨hS.Es,hS.one.imp B_ id,hS.two.imp B_ id⟩
 refine⟨fun _ _=>trivial,tS,?_⟩
 rw[hd]
 exact h Q _ w M D hq hp (ha.put hn undef) hI (jA nN Hg) tS
theorem mT {l:List (Nat×Nat)} {i mo:Nat} {o:Oper} {d j0 tj:Nat} {want:Bool} (hmo:mo=1∨mo=2) (hi:ops[i]? =some o) (hg:o.guard=some (j0,want)) (hd:o.dst=some d) (EH:(ops[j0]?).bind (·.dst)=some tj) (hw:(IX (ρ tj)==some want)=false)
  (h:DO X P r base n ops S tail S2 dz l K (js ρ d undef) O) (hn:Nat.blt d n=true:=by rfl):DO X P r base n ops S tail S2 dz ((i,mo)::l) K ρ O:=fun hs kO hl listed hb=>by
 have qd:(Region.ready .any ops listed== [i])=true∧kf ops tail dz l (listed.setIfInBounds i true)=true:=by
  rcases hmo with rfl|rfl<;>simpa only[kf,aY]using hb
 exact Cj i hi hg hd EH hw hn (by simpa using qd.1) (h hs kO (fun q hq=>hl q (List.mem_cons_of_mem _ hq)) _ qd.2)
end
theorem Sub.k {A B:List Item} {a:Item} (h:Sub A B):Sub (a::A) (a::B):=by
 obtain⟨l,h1,h2⟩:=h;exact⟨a::l,h1.cons a,.cons_cons a h2⟩
theorem Sub.d {A B:List Item} {a:Item} (h:Sub A B):Sub A (a::B):=by
 obtain⟨l,h1,h2⟩:=h;exact⟨l,h1,.cons a h2⟩
theorem Sub.z {B:List Item}:Sub [] B:=bj (aX _)
theorem Sub.rf {B:List Item}:Sub B B:=bj (ay _)
theorem EM (A B S:List Item):Sub ((A++B)++S) ((A++S)++B):=by
 refine⟨(A++S)++B,?_,ay _⟩
 rw[bw,bw]
 exact List.Perm.append_left A List.perm_append_comm
theorem vY (A B S R:List Item):Sub ((A++B)++(S++R)) ((A++S)++(B++R)):=by
 refine⟨(A++S)++(B++R),?_,ay _⟩
 have h:(B++(S++R)).Perm (S++(B++R)):=by
  rw[←bw,←bw]
  exact List.perm_append_comm.append_right R
 rw[bw,bw]
 exact List.Perm.append_left A h
theorem Nu {l B:List Item} (h:l.Sublist B): ∃D,(l++D).Perm B:=by
 induction h with
 |slnil=>exact⟨[],List.Perm.refl _⟩
 |cons a _ ih=>obtain⟨D,hD⟩:=ih;exact⟨a::D,List.perm_middle.trans (hD.cons a)⟩
 |cons_cons a _ ih=>obtain⟨D,hD⟩:=ih;exact⟨D,hD.cons a⟩
theorem Sub.perm {A B:List Item} (h:Sub A B): ∃D,(A++D).Perm B:=by
 obtain⟨l,p,s⟩:=h
 obtain⟨D,hD⟩:=Nu s
 exact⟨D,(p.append_right D).trans hD⟩
theorem Sub.tr {A B C:List Item} (h1:Sub A B) (h2:Sub B C):Sub A C:=by
 obtain⟨D,p⟩:=h1.perm
 obtain⟨E,q⟩:=h2.perm
 exact gY (D:=D++E) (by rw[←bw];exact(p.append_right E).trans q)
theorem Sub.dm {xs:List Item} {x:Item} (P Q:List Item) (h:Sub xs (P++Q)):Sub (x::xs) (P++x::Q):=by
 obtain⟨D,p⟩:=h.perm
 refine gY (D:=D) ?_
 exact(p.cons x).trans List.perm_middle.symm
example (a b c d e:Item) (R:List Item):Sub ([c,a,e]++R) ([a,b,c,d,e]++R):=by exact Sub.dm [a,b] _ (.k (.d (.d (.k .rf))))
theorem Hv {A B:List Item} (N:List Item) (h:Sub A B):Sub A (N++B):=by
 obtain⟨l,hp,hs⟩:=h
 exact⟨l,hp,hs.trans (List.sublist_append_right _ _)⟩
def rq (n:Nat) (r:List Int):Bool:=r.all fun x=>decide (0≤x)&&decide (x<(n:Int))
structure Val (d:fx):Prop where
 v0:0≤d.vars
 v6:d.vars≤6
 n0:0<d.next.length
 fin:d.vS.length=d.next.length
 s0:0≤d.start
 s1:d.start<(d.next.length:Int)
 len: ∀r∈d.next,r.length=2^d.vars.toNat
 ok: ∀r∈d.next,∀x∈r,0≤x∧x<(d.next.length:Int)
structure Valid (d:fx):Prop extends Val d where
 n4:d.next.length≤4096
instance {d:fx}:Coe (Valid d) (Val d):=⟨Valid.toVal⟩
open Go.Lib
theorem jN {u:Nat} (h:u<10):decDigits u=[UInt8.ofNat (48+u)]:=by rw[decDigits,dif_pos h]
theorem n8 {u:Nat} (h: ¬u<10):decDigits u=decDigits (u/10)++[UInt8.ofNat (48+u%10)]:=by rw[decDigits,dif_neg h]
theorem yu (u:Nat):decDigits u≠ []:=by
 by_cases h:u<10
 ·rw[jN h];simp
 ·rw[n8 h];simp
theorem iZ {k:Nat} (h:k<10):(UInt8.ofNat (48+k)).toNat=48+k:=by
 rw[UInt8.toNat_ofNat'];omega
theorem vm (u:Nat): ∀b∈decDigits u,48≤b.toNat∧b.toNat<58:=by
 induction u using Nat.strongRecOn with
 |_ u ih=>
  by_cases h:u<10
  ·rw[jN h];intro b hb;rw[bM]at hb;subst hb;rw[iZ h];omega
  ·rw[n8 h]
   intro b hb
   rcases List.mem_append.1 hb with hb|hb
   ·exact ih (u/10) (by omega) b hb
   ·rw[bM]at hb;subst hb;rw[iZ (by omega)];omega
theorem RV: ∀(a b:Nat),decDigits a=decDigits b→a=b:=by
 intro a
 induction a using Nat.strongRecOn with
 |_ a ih=>
  intro b h
  by_cases ha:a<10
  ·by_cases hb:b<10
   ·rw[jN ha,jN hb]at h
    have:=av UInt8.toNat (List.cons.inj h).1
    rw[iZ ha,iZ hb]at this
    omega
   ·rw[jN ha,n8 hb]at h
    have h1:=av List.length h
    have h2:0<(decDigits (b/10)).length:=List.length_pos_iff.2 (yu _)
    simp only[aI,cd,eD]at h1;omega
  ·by_cases hb:b<10
   ·rw[n8 ha,jN hb]at h
    have h1:=av List.length h
    have h2:0<(decDigits (a/10)).length:=List.length_pos_iff.2 (yu _)
    simp only[aI,cd,eD]at h1;omega
   ·rw[n8 ha,n8 hb]at h
    obtain⟨h1,h2⟩:=List.append_inj' h rfl
    have e1:=ih (a/10) (by omega) (b/10) h1
    have e2:=av UInt8.toNat (List.cons.inj h2).1
    rw[iZ (by omega),iZ (by omega)]at e2
    omega
def mg:List Nat→List UInt8
 | []=>[]
 |n::l=>32::(decDigits n++mg l)
def agY (a:Nat) (l:List Nat):List UInt8:=decDigits a++mg l
theorem t_ (u:Nat):(32:UInt8)∉decDigits u:=fun h=>by have:=vm u 32 h;simp at this
theorem vZ: ∀ {x y:List UInt8} {a b:List Nat},(32:UInt8)∉x→(32:UInt8)∉y→x++mg a=y++mg b→x=y∧mg a=mg b
 | [],[],a,b,_,_,h=>⟨rfl,by simpa using h⟩
 | [],c::y,a,b,_,hy,h=>by
  cases a with
  |nil=>simp[mg]at h
  |cons n a=>simp only[mg,dl,cj,List.cons.injEq]at h;exact(hy (by simp[←h.1])).elim
 |c::x,[],a,b,hx,_,h=>by
  cases b with
  |nil=>simp[mg]at h
  |cons n b=>simp only[mg,dl,cj,List.cons.injEq]at h;exact(hx (by simp[h.1])).elim
 |c::x,c'::y,a,b,hx,hy,h=>by
  simp only[cj,List.cons.injEq]at h
  simp only[dU,not_or]at hx hy
  obtain⟨h1,h2⟩:=vZ hx.2 hy.2 h.2
  exact⟨by rw[h.1,h1],h2⟩
theorem A8: ∀ {l m:List Nat},mg l=mg m→l=m
 | [],[],_=>rfl
 | [],b::m,h=>by simp[mg]at h
 |a::l,[],h=>by simp[mg]at h
 |a::l,b::m,h=>by
  simp only[mg,List.cons.injEq,true_and]at h
  obtain⟨h1,h2⟩:=vZ (t_ a) (t_ b) h
  rw[RV a b h1,A8 h2]
theorem w7: ∀(k u:Nat),u<10^(k+1)→(decDigits u).length≤k+1
 |0,u,h=>by rw[jN (by simpa using h)];simp
 |k+1,u,h=>by
  by_cases h0:u<10
  ·rw[jN h0];simp
  ·rw[n8 h0,aI]
   have:=w7 k (u/10) (by rw[Nat.pow_succ]at h;omega)
   simp only[cd,eD]
   omega
section
variable {α:Type} [DecidableEq α]
def ix (x:α):List α→Nat
 | []=>0
 |k::ks=>if x=k then 0 else ix x ks+1
theorem nW {x:α}: ∀ {ks:List α},x∈ks→ix x ks<ks.length
 |k::ks,h=>by
  simp only[ix]
  split
  ·simp
  ·rename_i e
   have:=nW ((List.mem_cons.1 h).resolve_left e)
   simp;omega
theorem CM {x:α}: ∀ {ks:List α},x∈ks→ks[ix x ks]? =some x
 |k::ks,h=>by
  simp only[ix]
  split
  ·rename_i e;simp[e]
  ·rename_i e
   simpa using CM ((List.mem_cons.1 h).resolve_left e)
theorem Yj {x y:α} {ks:List α} (hx:x∈ks) (hy:y∈ks) (h:ix x ks=ix y ks):x=y:=by
 have h1:=CM hx
 rw[h,CM hy]at h1
 exact(cg h1).symm
theorem nB {x:α} {ms:List α}: ∀ {ks:List α},x∈ks→ix x (ks++ms)=ix x ks
 |k::ks,h=>by
  simp only[cj,ix]
  split
  ·rfl
  ·rename_i e;rw[nB ((List.mem_cons.1 h).resolve_left e)]
theorem ku {x:α} {ms:List α}: ∀ {ks:List α},x∉ks→ix x (ks++ms)=ks.length+ix x ms
 | [],_=>by simp
 |k::ks,h=>by
  simp only[dU,not_or]at h
  simp only[cj,ix,h.1,if_false,ku h.2,cd]
  omega
def add (ks:List α) (k:α):List α:=if k∈ks then ks else ks++[k]
def dd (l:List α):List α:=l.foldl add []
theorem xj {ks:List α} {k x:α}:x∈add ks k↔x∈ks∨x=k:=by
 unfold add
 split
 ·rename_i h
  exact⟨.inl,fun h'=>h'.elim id (fun e=>e▸h)⟩
 ·simp
theorem Bi {ks:List α} {k:α} (h:ks.Nodup):(add ks k).Nodup:=by
 unfold add
 split
 ·exact h
 ·rename_i hk
  rw[List.nodup_append]
  refine⟨h,by simp,fun a ha b hb e=>?_⟩
  simp at hb;subst hb;subst e;exact hk ha
theorem yQ (ks:List α) (k:α):ks<+:add ks k:=by
 unfold add
 split
 ·exact List.prefix_refl _
 ·exact List.prefix_append _ _
theorem mV: ∀(l ks:List α),ks<+:l.foldl add ks
 | [],ks=>List.prefix_refl _
 |k::l,ks=>(yQ ks k).trans (mV l (add ks k))
theorem CN (l:List α) (k:α):dd (l++[k])=add (dd l) k:=by simp[dd]
theorem s_ {l:List α} {x:α}:x∈dd l↔x∈l:=by
 have: ∀(l ks:List α),x∈l.foldl add ks↔x∈ks∨x∈l:=by
  intro l
  induction l with
  |nil=>intro ks;simp
  |cons k l ih=>intro ks;rw[gh,ih,xj,dU,or_assoc]
 rw[dd,this];simp
theorem Bj {ks ms:List α} (h:ks<+:ms) {x:α} (hx:x∈ks):ix x ms=ix x ks:=by
 obtain⟨t,rfl⟩:=h
 exact nB hx
theorem ux {x:α}: ∀(ks:List α) (i:Nat),eN x (ks.zipIdx i)=if x∈ks then some (i+ix x ks)else none
 | [],i=>by simp[eN]
 |k::ks,i=>by
  simp only[List.zipIdx_cons,eN]
  by_cases e:x=k
  ·subst e;simp[ix]
  ·rw[ar e,ux ks (i+1)]
   by_cases h:x∈ks
   ·simp[h,e,ix];omega
   ·simp[h,e]
theorem s8 (ks:List α) (i:Nat):(ks.zipIdx i).map Prod.fst=ks:=by
 induction ks generalizing i with
 |nil=>rfl
 |cons k ks ih=>simp[List.zipIdx_cons]
end
def adp (cs:List Nat) (r:List Int):List Nat:=r.map fun to=>cs.getD to.toNat 0
def ahB (d:fx) (cs:List Nat) (s:Nat):List UInt8:=agY (cs.getD s 0) (adp cs (d.next.getD s []))
def VW (d:fx) (cs:List Nat):List (List UInt8):=(List.range d.next.length).map (ahB d cs)
def SZ (d:fx) (cs:List Nat):List Nat:=(VW d cs).map fun k=>ix k (dd (VW d cs))
theorem vv {α:Type} [DecidableEq α] (l:List α):(dd l).length≤l.length:=by
 have: ∀(l ks:List α),(l.foldl add ks).length≤ks.length+l.length:=by
  intro l
  induction l with
  |nil=>intro ks;simp
  |cons k l ih=>
   intro ks
   have h1:=ih (add ks k)
   have h2:(add ks k).length≤ks.length+1:=by unfold add;split<;>simp
   simp only[gh,cd]
   omega
 simpa[dd]using this l []
def Yk (d:fx):List Nat:=(List.range d.next.length).map fun s=>if d.vS.getD s false≠d.vS.getD 0 false then 1 else 0
def itF (d:fx):Nat→List Nat
 |0=>Yk d
 |i+1=>SZ d (itF d i)
theorem yP {α:Type} [DecidableEq α] (f:Nat→α) (ks:List α) (x:Nat):((List.range (x+1)).map f).foldl add ks=add (((List.range x).map f).foldl add ks) (f x):=by
 rw[List.range_succ,aL,ep];rfl
theorem oA {α:Type} [DecidableEq α] {y:α}: ∀(l ks:List α),y∈l.foldl add ks↔y∈ks∨y∈l
 | [],ks=>by simp
 |k::l,ks=>by rw[gh,oA l,xj,dU,or_assoc]
def Fp (l:List UInt8):Nat:=l.foldl (fun a b=>a*10+(b.toNat-48)) 0
theorem K5 (u:Nat):Fp (Lib.decDigits u)=u:=by
 induction u using Nat.strongRecOn with
 |_ u ih=>
  by_cases h:u<10
  ·rw[jN h]
   show 0*10+((UInt8.ofNat (48+u)).toNat-48)=u
   rw[iZ h];omega
  ·rw[n8 h,Fp,ep]
   have:=ih (u/10) (by omega)
   rw[Fp]at this
   rw[this]
   show u/10*10+((UInt8.ofNat (48+u%10)).toNat-48)=u
   rw[iZ (by omega)];omega
def di (d:fx) (o x:Nat):Nat:=((d.next.getD o []).getD x 0).toNat
def OD (d:fx) (o:Nat):List Nat:=(List.range (2^d.vars.toNat)).map (di d o)
def eh (d:fx):Nat→List Nat
 |0=>[d.start.toNat]
 |s+1=>if s<(eh d s).length then(OD d ((eh d s).getD s 0)).foldl add (eh d s)else eh d s
def order (d:fx):List Nat:=eh d d.next.length
theorem Val.fG {d:fx} (hv:Val d) {o x:Nat} (ho:o<d.next.length) (hx:x<2^d.vars.toNat):di d o x<d.next.length∧ ∃h:o<d.next.length,∃B7:x<d.next[o].length,d.next[o][x]=(di d o x:Int):=by
 have hl:d.next[o].length=2^d.vars.toNat:=hv.len _ (ap ho)
 have B7:x<d.next[o].length:=by omega
 have h1:=hv.ok _ (ap ho) _ (ap B7)
 have e:di d o x=d.next[o][x].toNat:=by simp[di,ho,B7]
 exact⟨by omega,ho,B7,by omega⟩
theorem gJ: ∀ {n:Nat} {l:List Nat},l.Nodup→(∀x∈l,x<n)→l.length≤n
 |0,l,_,hb=>by
  cases l with
  |nil=>simp
  |cons a l=>exact absurd (hb a (by simp)) (by omega)
 |n+1,l,h,hb=>by
  by_cases hn:n∈l
  ·have h1:=gJ (n:=n) (h.erase n) fun x hx=>by
    have:=(List.Nodup.mem_erase_iff h).1 hx
    have:=hb x this.2
    omega
   rw[List.length_erase_of_mem hn]at h1
   omega
  ·have:=gJ (n:=n) h fun x hx=>by
    have:=hb x hx
    have:x≠n:=fun e=>hn (e▸hx)
    omega
   omega
theorem Fq {d:fx} {N:Nat} (h:(eh d N).length=N): ∀m,N≤m→eh d m=eh d N:=by
 intro m hm
 induction hm with
 |refl=>rfl
 | @step m hm ih=>
  have WU:N≤m:=hm
  rw[eh,ih,ar (by omega)]
theorem Fo {d:fx} {N:Nat} (h:(eh d N).length=N) (hn:N≤d.next.length):order d=eh d N:=Fq h _ hn
def K6 (d:fx) (cs:List Nat):Nat→List (List Int)×List Bool
 |0=>([],[])
 |k+1=>if cs.getD k 0<(K6 d cs k).1.length then K6 d cs k else
   ((K6 d cs k).1++[(adp cs (d.next.getD k [])).map fun c:Nat=>(c:Int)],(K6 d cs k).2++[d.vS.getD k false])
def quo (d:fx) (cs:List Nat):fx where
 vars:=d.vars
 start:=((cs.getD d.start.toNat 0:Nat):Int)
 next:=(K6 d cs d.next.length).1
 vS:=(K6 d cs d.next.length).2
structure La where
 pre:List Nat
 loop:List Nat
deriving DecidableEq
def pq (v:Nat) (l:La):Nat:=
 if l.loop.length=0 then 3
 else if 64<l.pre.length∨64<l.loop.length then 4
 else if(l.pre.all fun x=>decide (x<2^v))=true∧(l.loop.all fun x=>decide (x<2^v))=true then 0
 else 1
def dA (v:Int) (l:La):Nat:=if¬(0≤v∧v≤6)then 7 else pq v.toNat l
def La.n (l:La):Nat:=l.pre.length+l.loop.length
def La.ix (l:La) (i:Nat):Nat:=if i<l.pre.length then i else l.pre.length+(i-l.pre.length)%max l.loop.length 1
def La.at (l:La) (i:Nat):Nat:=if i<l.pre.length then l.pre.getD i 0 else l.loop.getD ((i-l.pre.length)%max l.loop.length 1) 0
theorem La.nW {l:La} (h:0<l.loop.length) (i:Nat):l.ix i<l.n:=by
 unfold La.ix La.n
 split
 ·omega
 ·have:=Nat.mod_lt (i-l.pre.length) (show 0<max l.loop.length 1 by omega);omega
theorem sP {l:La} (h:0<l.loop.length) {i:Nat} (hi:i<l.n):l.ix i=i:=by
 unfold La.ix
 split
 ·rfl
 ·unfold La.n at hi
  rw[Nat.mod_eq_of_lt (by omega)];omega
theorem sQ {l:La} (i:Nat):l.at (l.ix i)=l.at i:=by
 unfold La.at La.ix
 by_cases h:i<l.pre.length
 ·simp[h]
 ·simp only[h,if_false]
  rw[ar (by omega),Nat.add_sub_cancel_left,Nat.mod_mod]
theorem pG {l:La} (i:Nat):l.ix (l.ix i+1)=l.ix (i+1):=by
 unfold La.ix
 by_cases h:i<l.pre.length
 ·simp[h]
 ·simp only[h,if_false]
  rw[ar (show¬i+1<l.pre.length by omega),ar (by omega)]
  rw[show l.pre.length+(i-l.pre.length)%max l.loop.length 1+1-l.pre.length=(i-l.pre.length)%max l.loop.length 1+1 by omega,show i+1-l.pre.length=(i-l.pre.length)+1 by omega,Nat.mod_add_mod]
theorem mq {l:La} {i:Nat} (h:i<l.pre.length):l.at i=l.pre[i]:=by unfold La.at;rw[aA h];simp[h]
section
variable {E:Nat→Nat→Prop}
structure HQ (E:Nat→Nat→Prop) (p:Nat→Nat) (L:Nat) (u v:Nat):Prop where
 s:p 0=u
 e:p L=v
 st: ∀i,i<L→E (p i) (p (i+1))
theorem HQ.Ai {p:Nat→Nat}: ∀ {L u v:Nat},HQ E p L u v→gL E u v
 |0,u,v,h=>by rw[←h.s,←h.e];exact .refl _
 |L+1,u,v,h=>by
  have h1:HQ E p L u (p L):=⟨h.s,rfl,fun i hi=>h.st i (by omega)⟩
  have:=h.st L (by omega)
  rw[h.e]at this
  exact h1.Ai.tail this
theorem HQ.cat {p q:Nat→Nat} {L K u v w:Nat} (h:HQ E p L u v) (g:HQ E q K v w):HQ E (fun i=>if i<L then p i else q (i-L)) (L+K) u w:=by
 refine⟨?_,?_,fun i hi=>?_⟩
 ·by_cases h0:0<L
  ·simp[h0,h.s]
  ·have:L=0:=by omega
   subst this
   simp;rw[g.s,←h.e,h.s]
 ·show(if L+K<L then p (L+K)else q (L+K-L))=w
  rw[ar (by omega),Nat.add_sub_cancel_left];exact g.e
 ·by_cases h1:i+1<L
  ·have h2:i<L:=by omega
   simp only[h1,h2,if_true];exact h.st i h2
  ·by_cases h2:i<L
   ·have h3:i+1=L:=by omega
    simp only[h2,h1,if_true,if_false]
    rw[h3,eG,g.s,←h.e,←h3];exact h.st i h2
   ·simp only[h1,h2,if_false]
    rw[show i+1-L=(i-L)+1 by omega];exact g.st _ (by omega)
theorem HQ.Ab {u v:Nat} (e:E u v):HQ E (fun i=>if i=0 then u else v) 1 u v:=by
 refine⟨rfl,rfl,fun i hi=>?_⟩
 have h0:i=0:=by omega
 subst h0
 exact e
theorem gL.pth {u v:Nat} (h:gL E u v): ∃p L,HQ E p L u v:=by
 induction h with
 |refl v=>exact⟨fun _=>v,0,rfl,rfl,fun i hi=>by omega⟩
 | @step u v w e _ ih=>
  obtain⟨p,L,h⟩:=ih
  have h1:=HQ.Ab e
  exact⟨_,_,h1.cat h⟩
def Ea (E:Nat→Nat→Prop) (m:Nat) (M:Nat→Nat→Prop) (v:Nat):Prop:=(∃u,E v u∧gL E u v)∧ ∀k,k<m→ ∃u,M k u∧gL E v u∧gL E u v
def l7 (E:Nat→Nat→Prop) (m:Nat) (M:Nat→Nat→Prop) (v:Nat):Prop:= ∃u,gL E v u∧Ea E m M u
structure Fair (E:Nat→Nat→Prop) (m:Nat) (M:Nat→Nat→Prop) (v:Nat) (r:Nat→Nat):Prop where
 s:r 0=v
 st: ∀i,E (r i) (r (i+1))
 inf: ∀k,k<m→ ∀N,∃i,N≤i∧M k (r i)
theorem Ea.round {m:Nat} {M:Nat→Nat→Prop} {v:Nat} (h:Ea E m M v): ∃p L,HQ E p L v v∧0<L∧ ∀k,k<m→ ∃i,i<L∧M k (p i):=by
 have key: ∀j,j≤m→ ∃p L,HQ E p L v v∧0<L∧ ∀k,k<j→ ∃i,i<L∧M k (p i):=by
  intro j
  induction j with
  |zero=>
   intro _
   obtain⟨u,h1,h2⟩:=h.1
   obtain⟨p,L,hp⟩:=h2.pth
   have h3:=HQ.Ab h1
   exact⟨_,_,h3.cat hp,by omega,fun k hk=>by omega⟩
  |succ j ih=>
   intro hj
   obtain⟨p,L,hp,hL,hm⟩:=ih (by omega)
   obtain⟨u,h1,h2,h3⟩:=h.2 j (by omega)
   obtain⟨q,K,hq⟩:=h2.pth
   obtain⟨q',K',Zw⟩:=h3.pth
   have h4:=(hq.cat Zw).cat hp
   refine⟨_,_,h4,by omega,fun k hk=>?_⟩
   by_cases e:k=j
   ·subst e
    refine⟨K,by omega,?_⟩
    by_cases AK:0<K'
    ·simp[show K<K+K' by omega,Zw.s,h1]
    ·have yM:K'=0:=by omega
     subst yM
     simp only[Nat.add_zero,Nat.lt_irrefl,if_false,eG]
     have:u=v:=by rw[←Zw.s,←Zw.e]
     rw[hp.s,←this];exact h1
   ·obtain⟨i,hi,hM⟩:=hm k (by omega)
    refine⟨K+K'+i,by omega,?_⟩
    simp only[show¬(K+K'+i<K+K') by omega,if_false]
    rw[show K+K'+i-(K+K')=i by omega];exact hM
 exact key m (aV _)
theorem l7.fair {m:Nat} {M:Nat→Nat→Prop} {v:Nat} (h:l7 E m M v): ∃r,Fair E m M v r:=by
 obtain⟨u,h1,h2⟩:=h
 obtain⟨p,L,hp⟩:=h1.pth
 obtain⟨q,K,hq,hK,hm⟩:=h2.round
 refine⟨fun i=>if i<L then p i else q ((i-L)%K),?_,?_,?_⟩
 ·by_cases h0:0<L
  ·simp[h0,hp.s]
  ·have:L=0:=by omega
   subst this
   simp[Nat.zero_mod];rw[hq.s,←hp.e,hp.s]
 ·intro i
  by_cases h1:i+1<L
  ·simp only[h1,show i<L by omega,if_true];exact hp.st i (by omega)
  ·by_cases h2:i<L
   ·have h3:i+1=L:=by omega
    simp only[h1,h2,if_true,if_false]
    rw[h3,eG,Nat.zero_mod,hq.s,←hp.e,←h3];exact hp.st i h2
   ·simp only[h1,h2,if_false]
    have h3:(i-L)%K<K:=Nat.mod_lt _ hK
    have h4:=hq.st _ h3
    obtain⟨j,hj⟩: ∃j,(i-L)%K=j:=⟨_,rfl⟩
    have h5:(i+1-L)%K=(j+1)%K:=by
     rw[show i+1-L=(i-L)+1 by omega,←hj,Nat.mod_add_mod]
    rw[hj]at h3 h4
    rw[h5,hj]
    by_cases h6:j+1=K
    ·rw[h6,Nat.mod_self,hq.s]
     rw[h6,hq.e]at h4;exact h4
    ·rw[Nat.mod_eq_of_lt (by omega)];exact h4
 ·intro k hk N
  obtain⟨i,hi,hM⟩:=hm k hk
  refine⟨L+(i+K*N),by have:=Nat.le_mul_of_pos_left N hK;omega,?_⟩
  simp only[show¬(L+(i+K*N)<L) by omega,if_false]
  rw[show L+(i+K*N)-L=i+K*N by omega,Nat.add_mul_mod_self_left,Nat.mod_eq_of_lt hi];exact hM
theorem Fair.Ai {m:Nat} {M:Nat→Nat→Prop} {v:Nat} {r:Nat→Nat} (h:Fair E m M v r) {i j:Nat} (wK:i≤j):gL E (r i) (r j):=
 HQ.Ai (p:=fun k=>r (i+k)) (L:=j-i) ⟨rfl,by show r (i+(j-i))=_;rw[Nat.add_sub_cancel' wK],fun k _=>h.st (i+k)⟩
theorem yN {r:Nat→Nat} {n:Nat} {Q:Nat→Prop} (hn: ∀i,r i<n) (hq: ∀N,∃i,N≤i∧Q (r i)): ∃v,Q v∧ ∀N,∃i,N≤i∧r i=v:=by
 apply Classical.byContradiction
 intro kK
 have hb: ∀k,∃N,∀i,N≤i→Q (r i)→ ¬r i<k:=by
  intro k
  induction k with
  |zero=>exact⟨0,fun i _ _=>by omega⟩
  |succ k ih=>
   obtain⟨N,hN⟩:=ih
   by_cases hk:Q k
   ·have: ¬ ∀N,∃i,N≤i∧r i=k:=fun h=>kK ⟨k,hk,h⟩
    obtain⟨N',h'⟩:=Classical.not_forall.1 this
    refine⟨max N N',fun i hi hQ fM=>?_⟩
    by_cases e:r i=k
    ·exact h' ⟨i,by omega,e⟩
    ·exact hN i (by omega) hQ (by omega)
   ·refine⟨N,fun i hi hQ fM=>?_⟩
    by_cases e:r i=k
    ·rw[e]at hQ;exact hk hQ
    ·exact hN i hi hQ (by omega)
 obtain⟨N,hN⟩:=hb n
 obtain⟨i,h1,h2⟩:=hq N
 exact hN i h1 h2 (hn i)
theorem Fair.live {m n:Nat} {M:Nat→Nat→Prop} {v:Nat} {r:Nat→Nat} (h:Fair E m M v r) (hn: ∀i,r i<n):l7 E m M v:=by
 obtain⟨u,_,hu⟩:=yN (Q:=fun _=>True) hn (fun N=>⟨N,aV _,trivial⟩)
 have ahy: ∀w,(∀N,∃i,N≤i∧r i=w)→gL E u w∧gL E w u:=fun w hw=>by
  obtain⟨i,_,hi⟩:=hu 0
  obtain⟨j,hj,Hg⟩:=hw i
  obtain⟨k,hk,AK⟩:=hu j
  exact⟨by rw[←hi,←Hg];exact h.Ai hj,by rw[←AK,←Hg];exact h.Ai hk⟩
 obtain⟨i,_,hi⟩:=hu 0
 refine⟨u,by rw[←h.s,←hi];exact h.Ai (aG _),?_,fun k hk=>?_⟩
 ·obtain⟨j,hj,Hg⟩:=hu (i+1)
  refine⟨r (i+1),by rw[←hi];exact h.st i,by rw[←Hg];exact h.Ai hj⟩
 ·obtain⟨w,hw,Nk⟩:=yN (Q:=M k) hn (h.inf k hk)
  exact⟨w,hw,ahy w Nk⟩
theorem En {m n:Nat} {M:Nat→Nat→Prop} {v:Nat} (hE: ∀u w,E u w→u<n∧w<n):l7 E m M v↔ ∃r,Fair E m M v r:=
 ⟨l7.fair,fun⟨_,h⟩=>h.live (fun i=>(hE _ _ (h.st i)).1)⟩
theorem l7.back {m:Nat} {M:Nat→Nat→Prop} {u v:Nat} (h:l7 E m M v) (hr:gL E u v):l7 E m M u:=by
 obtain⟨w,h1,h2⟩:=h
 exact⟨w,hr.trans h1,h2⟩
theorem K3 {n m:Nat} {M:Nat→Nat→Prop} {comp:Nat→Int} {cO:Nat} (h:pT n E comp cO) (hE: ∀u v,E u v→u<n∧v<n) (hM: ∀k v,M k v→v<n) {v:Nat} (hv:v<n):
  Ea E m M v↔(∃a b,E a b∧comp a=comp v∧comp b=comp v)∧ ∀k,k<m→ ∃u,M k u∧comp u=comp v:=by
 constructor
 ·rintro⟨⟨u,h1,h2⟩,h3⟩
  refine⟨⟨v,u,h1,rfl,((h.iff hE (hE _ _ h1).2 hv).2 ⟨h2,.one h1⟩)⟩,fun k hk=>?_⟩
  obtain⟨u,h4,h5,h6⟩:=h3 k hk
  exact⟨u,h4,(h.iff hE (hM _ _ h4) hv).2 ⟨h6,h5⟩⟩
 ·rintro⟨⟨a,b,h1,h2,h3⟩,h4⟩
  have ha:=(h.iff hE (hE _ _ h1).1 hv).1 h2
  have hb:=(h.iff hE (hE _ _ h1).2 hv).1 h3
  refine⟨?_,fun k hk=>?_⟩
  ·rcases ha.2 with _|⟨e,hr⟩
   ·exact⟨b,h1,hb.1⟩
   ·exact⟨_,e,hr.trans (.step h1 hb.1)⟩
  ·obtain⟨u,h5,h6⟩:=h4 k hk
   have hu:=(h.iff hE (hM _ _ h5) hv).1 h6
   exact⟨u,h5,hu.2,hu.1⟩
end
structure Ed where
 fr:Int
 to:Int
 pos:Nat
 neg:Nat
deriving DecidableEq
structure Bu where
 vars:Int
 ae:Int
 start:List Int
 ao:List Ed
 aP:List (List Int)
deriving DecidableEq
def iG (n:Int):Int→List Int→Bool
 |_,[]=>true
 |a,x::l=>decide (a<x)&&decide (x<n)&&iG n x l
def sN (n:Int) (e:Ed):Bool:=decide (0≤e.fr)&&decide (e.fr<n)&&decide (0≤e.to)&&decide (e.to<n)
def ve (v:Nat) (e:Ed):Bool:=decide (e.pos<2^v)&&decide (e.neg<2^v)&&decide (e.pos&&&e.neg=0)
def kx (n:Int) (v:Nat):List Ed→Nat
 | []=>0
 |e::es=>if sN n e=true then(if ve v e=true then kx n v es else 1)else 8
def cC (b:Bu):Nat:=
 if¬(0≤b.vars∧b.vars≤6)then 7
 else if b.ae<0 then 1
 else if 4096<b.ae then 10
 else if 8<b.aP.length then 4
 else if iG b.ae (-1) b.start=true∧b.aP.all (iG b.ae (-1))=true then kx b.ae b.vars.toNat b.ao
 else 8
theorem qI {n a:Int} {xs:List Int} {k:Nat} (hk:k<xs.length) (h:xs[k]≤a∨n≤xs[k]):iG n a (xs.drop k)=false:=by
 rw[List.drop_eq_getElem_cons hk]
 simp only[iG,Bool.and_eq_false_iff,decide_eq_false_iff_not]
 left;rcases h with h|h
 ·left;omega
 ·right;omega
theorem uY {n a:Int} {xs:List Int} {k:Nat} (hk:k<xs.length) (h1:a<xs[k]) (h2:xs[k]<n):iG n a (xs.drop k)=iG n xs[k] (xs.drop (k+1)):=by
 rw[List.drop_eq_getElem_cons hk]
 simp[iG,h1,h2]
theorem AD {n a:Int} {xs:List Int} {k:Nat} (hk: ¬k<xs.length):iG n a (xs.drop k)=true:=by
 rw[List.drop_eq_nil_of_le (by omega)];rfl
theorem nX {n:Int} {v:Nat} {es:List Ed} {k:Nat} (hk:k<es.length) (h:es[k].fr<0∨n≤es[k].fr∨es[k].to<0∨n≤es[k].to):kx n v (es.drop k)=8:=by
 rw[List.drop_eq_getElem_cons hk,kx,ar]
 simp only[sN,aY,bo];omega
theorem tL {n:Int} {v:Nat} {es:List Ed} {k:Nat} (hk:k<es.length) (h: ¬(es[k].fr<0∨n≤es[k].fr∨es[k].to<0∨n≤es[k].to)) (h2: ¬(es[k].pos<2^v∧es[k].neg<2^v∧es[k].pos&&&es[k].neg=0)):kx n v (es.drop k)=1:=by
 rw[List.drop_eq_getElem_cons hk,kx,aA,ar]
 ·simp only[ve,aY,bo];exact fun q=>h2 ⟨q.1.1,q.1.2,q.2⟩
 ·simp only[sN,aY,bo];omega
theorem ID {n:Int} {v:Nat} {es:List Ed} {k:Nat} (hk:k<es.length) (h: ¬(es[k].fr<0∨n≤es[k].fr∨es[k].to<0∨n≤es[k].to)) (h2:es[k].pos<2^v∧es[k].neg<2^v∧es[k].pos&&&es[k].neg=0):kx n v (es.drop k)=kx n v (es.drop (k+1)):=by
 rw[List.drop_eq_getElem_cons hk,kx,aA,aA]
 ·simp only[ve,aY,bo];exact⟨⟨h2.1,h2.2.1⟩,h2.2.2⟩
 ·simp only[sN,aY,bo];omega
theorem IC {a b v:Nat}:a|||b<2^v↔a<2^v∧b<2^v:=by
 constructor
 ·intro h;exact⟨ee Nat.left_le_or h,ee Nat.right_le_or h⟩
 ·rintro⟨h1,h2⟩;exact Nat.or_lt_two_pow h1 h2
theorem tK {b:Bu} (h: ¬(0≤b.vars∧b.vars≤6)):cC b=7:=by unfold cC;rw[aA h]
theorem DU {b:Bu} (h:0≤b.vars∧b.vars≤6) (h1:b.ae<0):cC b=1:=by unfold cC;rw[ar (fun q=>q h),aA h1]
theorem AE {b:Bu} (h:0≤b.vars∧b.vars≤6) (h1: ¬b.ae<0) (h2:4096<b.ae):cC b=10:=by unfold cC;rw[ar (fun q=>q h),ar h1,aA h2]
theorem DW {b:Bu} (h:0≤b.vars∧b.vars≤6) (h1: ¬b.ae<0) (h2: ¬4096<b.ae) (h3:8<b.aP.length):cC b=4:=by unfold cC;rw[ar (fun q=>q h),ar h1,ar h2,aA h3]
theorem xI {b:Bu} (h:0≤b.vars∧b.vars≤6) (h1: ¬b.ae<0) (h2: ¬4096<b.ae) (h3: ¬8<b.aP.length) (h4:((b.start::b.aP).all (iG b.ae (-1)))=false):cC b=8:=by
 unfold cC;rw[ar (fun q=>q h),ar h1,ar h2,ar h3,ar]
 rintro⟨q1,q2⟩;rw[List.all_cons,q1,q2]at h4;cases h4
theorem DZ {b:Bu} (h:0≤b.vars∧b.vars≤6) (h1: ¬b.ae<0) (h2: ¬4096<b.ae) (h3: ¬8<b.aP.length) (h4:((b.start::b.aP).all (iG b.ae (-1)))=true):cC b=kx b.ae b.vars.toNat (b.ao.drop 0):=by
 unfold cC;rw[ar (fun q=>q h),ar h1,ar h2,ar h3,aA]
 ·rfl
 ·rw[List.all_cons,aY]at h4;exact h4
theorem G3 {α:Type} {l:List α} {k:Nat} (h:k<l.length) {p:α→Bool} (h2:p l[k]=false):l.all p=false:=by
 rw[List.all_eq_false];exact⟨_,ap h,by rw[h2];decide⟩
theorem DY {α:Type} {l:List α} {k:Nat} (h:k<l.length) {p:α→Bool} (h1:(l.take k).all p=true) (h2:p l[k]=true):(l.take (k+1)).all p=true:=by
 rw[an h,List.all_append,h1];simp[h2]
theorem D0 {α:Type} {l:List α} {k:Nat} (h: ¬k<l.length) {p:α→Bool} (h1:(l.take k).all p=true):l.all p=true:=by rwa[aN (by omega)]at h1
theorem rJ {n:Int}: ∀ {l:List Int} {a:Int},iG n a l=true→ ∀x∈l,a<x∧x<n
 | [],_,_,x,hx=>by cases hx
 |y::l,a,h,x,hx=>by
  simp only[iG,aY,bo]at h
  rcases List.mem_cons.1 hx with rfl|hx
  ·exact⟨h.1.1,h.1.2⟩
  ·have:=rJ h.2 x hx;omega
theorem sO {n:Int}: ∀ {l:List Int} {a:Int},iG n a l=true→l.Pairwise (· < ·)
 | [],_,_=>List.Pairwise.nil
 |y::l,a,h=>by
  simp only[iG,aY,bo]at h
  exact List.pairwise_cons.2 ⟨fun x hx=>(rJ h.2 x hx).1,sO h.2⟩
structure eJ (b:Bu):Prop where
 v0:0≤b.vars
 v6:b.vars≤6
 n0:0≤b.ae
 n4:b.ae≤4096
 m8:b.aP.length≤8
 st: ∀s∈b.start,0≤s∧s<b.ae
 UN:b.start.Pairwise (· < ·)
 se: ∀l∈b.aP,∀s∈l,0≤s∧s<b.ae
 WP: ∀l∈b.aP,l.Pairwise (· < ·)
 ed: ∀e∈b.ao,(0≤e.fr∧e.fr<b.ae)∧(0≤e.to∧e.to<b.ae)
 cu: ∀e∈b.ao,e.pos<2^b.vars.toNat∧e.neg<2^b.vars.toNat∧e.pos&&&e.neg=0
theorem qQ {n:Int} {v:Nat}: ∀ {es:List Ed},kx n v es=0↔(∀e∈es,(0≤e.fr∧e.fr<n)∧(0≤e.to∧e.to<n))∧ ∀e∈es,e.pos<2^v∧e.neg<2^v∧e.pos&&&e.neg=0
 | []=>by simp[kx]
 |e::es=>by
  have ih:=qQ (n:=n) (v:=v) (es:=es)
  simp only[kx,dU,forall_eq_or_imp]
  by_cases h:sN n e=true
  ·by_cases h2:ve v e=true
   ·rw[aA h,aA h2,ih]
    simp only[sN,ve,aY,bo]at h h2
    exact⟨fun q=>⟨⟨⟨⟨h.1.1.1,h.1.1.2⟩,h.1.2,h.2⟩,q.1⟩,⟨h2.1.1,h2.1.2,h2.2⟩,q.2⟩,fun q=>⟨q.1.2,q.2.2⟩⟩
   ·rw[aA h,ar h2]
    refine⟨fun q=>by omega,fun q=>(h2 ?_).elim⟩
    simp only[ve,aY,bo]
    exact⟨⟨q.2.1.1,q.2.1.2.1⟩,q.2.1.2.2⟩
  ·rw[ar h]
   refine⟨fun q=>by omega,fun q=>(h ?_).elim⟩
   simp only[sN,aY,bo]
   exact⟨⟨⟨q.1.1.1.1,q.1.1.1.2⟩,q.1.1.2.1⟩,q.1.1.2.2⟩
theorem xU {n:Int}: ∀ {l:List Int} {a:Int},(∀x∈l,a<x∧x<n)→l.Pairwise (· < ·)→iG n a l=true
 | [],_,_,_=>rfl
 |y::l,a,h,hp=>by
  rw[List.pairwise_cons]at hp
  simp only[iG,aY,bo]
  exact⟨h y (by simp),xU (fun x hx=>⟨hp.1 x hx,(h x (by simp[hx])).2⟩) hp.2⟩
theorem gE {b:Bu}:cC b=0↔eJ b:=by
 unfold cC
 constructor
 ·intro h
  split at h;·cases h
  split at h;·cases h
  split at h;·cases h
  split at h;·cases h
  split at h
  ·rename_i h1 h2 h3 h4 h5
   simp only[Classical.not_not]at h1
   have h6:=qQ.1 h
   have h7: ∀l∈b.aP,iG b.ae (-1) l=true:=by simpa using h5.2
   exact {v0:=h1.1,v6:=h1.2,n0:=by omega,n4:=by omega,m8:=by omega,st:=fun s hs=>by have:=rJ h5.1 s hs;omega,UN:=sO h5.1,se:=fun l hl s hs=>by have:=rJ (h7 l hl) s hs;omega,WP:=fun l hl=>sO (h7 l hl),ed:=h6.1,cu:=h6.2}
  ·cases h
 ·intro h
  rw[ar (by have:=h.v0;have:=h.v6;simp;omega),ar (by have:=h.n0;omega),ar (by have:=h.n4;omega),ar (by have:=h.m8;omega),aA,qQ.2 ⟨h.ed,h.cu⟩]
  refine⟨xU (fun x hx=>by have:=h.st x hx;omega) h.UN,?_⟩
  simp only[fi]
  exact fun l hl=>xU (fun x hx=>by have:=h.se l hl x hx;omega) (h.WP l hl)
def mw (e:Ed) (x:Nat):Prop:=x&&&e.pos=e.pos∧x&&&e.neg=0
instance (e:Ed) (x:Nat):Decidable (mw e x):=by unfold mw;exact inferInstance
structure Run (b:Bu) (w:Nat→Nat) (s:Nat) (r:Nat→Nat):Prop where
 s:r 0=s
 st: ∀i,∃e∈b.ao,e.fr=r i∧e.to=r (i+1)∧mw e (w i)
 inf: ∀S∈b.aP,∀N,∃i,N≤i∧(r i:Int)∈S
def Acc (b:Bu) (w:Nat→Nat):Prop:= ∃s:Nat,(s:Int)∈b.start∧ ∃r,Run b w s r
def PE (b:Bu) (l:La) (u v:Nat):Prop:= ∃e∈b.ao,∃i,i<l.n∧mw e (l.at i)∧u=e.fr.toNat*l.n+i∧v=e.to.toNat*l.n+l.ix (i+1)
def PM (b:Bu) (l:La) (k v:Nat):Prop:=v<b.ae.toNat*l.n∧ ∃S,b.aP[k]? =some S∧((v/l.n:Nat):Int)∈S
theorem PE.lt {b:Bu} {l:La} (h:eJ b) (hl:0<l.loop.length) {u v:Nat} (he:PE b l u v):u<b.ae.toNat*l.n∧v<b.ae.toNat*l.n:=by
 obtain⟨e,h1,i,h2,_,rfl,rfl⟩:=he
 have h3:=h.ed e h1
 have h4:=La.nW hl (i+1)
 have hn:0<l.n:=by omega
 have key: ∀a j:Nat,a+1≤b.ae.toNat→j<l.n→a*l.n+j<b.ae.toNat*l.n:=fun a j ha hj=>by
  have:=Nat.mul_le_mul_right l.n ha
  rw[Nat.add_mul,Nat.one_mul]at this;omega
 exact⟨key _ _ (by omega) h2,key _ _ (by omega) h4⟩
theorem Em {b:Bu} {l:La} (h:eJ b) (hl:0<l.loop.length) {s:Nat}:l7 (PE b l) b.aP.length (PM b l) (s*l.n)↔ ∃r,Run b l.at s r:=by
 have hn:0<l.n:=by have:l.n=l.pre.length+l.loop.length:=rfl;omega
 rw[En (fun u w he=>he.lt h hl)]
 constructor
 ·rintro⟨q,h1,h2,h3⟩
  have B6: ∀i,q i%l.n=l.ix i:=by
   intro i
   induction i with
   |zero=>
    rw[h1,Nat.mul_mod_left]
    exact(sP hl hn).symm
   |succ i ih=>
    obtain⟨e,_,j,hj,_,e1,e2⟩:=h2 i
    rw[e2,Nat.mul_add_mod_self_right,Nat.mod_eq_of_lt (La.nW hl _)]
    rw[e1,Nat.mul_add_mod_self_right,Nat.mod_eq_of_lt hj]at ih
    rw[ih,pG]
  refine⟨fun i=>q i/l.n,?_,fun i=>?_,fun S hS N=>?_⟩
  ·show q 0/l.n=s
   rw[h1,Nat.mul_div_cancel _ hn]
  ·obtain⟨e,he,j,hj,hm,e1,e2⟩:=h2 i
   have h4:=h.ed e he
   have hp:=B6 i
   rw[e1,Nat.mul_add_mod_self_right,Nat.mod_eq_of_lt hj]at hp
   refine⟨e,he,?_,?_,?_⟩
   ·show e.fr=((q i/l.n:Nat):Int)
    rw[e1,Nat.mul_comm,Nat.mul_add_div hn,Nat.div_eq_of_lt hj,Nat.add_zero];omega
   ·show e.to=((q (i+1)/l.n:Nat):Int)
    rw[e2,Nat.mul_comm,Nat.mul_add_div hn,Nat.div_eq_of_lt (La.nW hl _),Nat.add_zero];omega
   ·rw[hp,sQ]at hm;exact hm
  ·obtain⟨k,hk,AK⟩:=List.mem_iff_getElem.1 hS
   obtain⟨i,hi,_,S',hS',hm⟩:=h3 k hk N
   rw[ah hk,AK]at hS'
   cases hS'
   exact⟨i,hi,hm⟩
 ·rintro⟨r,h1,h2,h3⟩
  have hr: ∀i,r i<b.ae.toNat:=fun i=>by
   obtain⟨e,he,e1,_,_⟩:=h2 i
   have:=(h.ed e he).1;omega
  have hdiv: ∀i,(r i*l.n+l.ix i)/l.n=r i:=fun i=>by
   rw[Nat.mul_comm,Nat.mul_add_div hn,Nat.div_eq_of_lt (La.nW hl _),Nat.add_zero]
  refine⟨fun i=>r i*l.n+l.ix i,?_,fun i=>?_,fun k hk N=>?_⟩
  ·show r 0*l.n+l.ix 0=_
   rw[h1,sP hl hn,Nat.add_zero]
  ·obtain⟨e,he,e1,e2,hm⟩:=h2 i
   refine⟨e,he,l.ix i,La.nW hl i,by rw[sQ];exact hm,?_,?_⟩
   ·show r i*l.n+l.ix i=_
    rw[e1];rfl
   ·show r (i+1)*l.n+l.ix (i+1)=_
    rw[e2,pG];rfl
  ·obtain⟨i,hi,hm⟩:=h3 b.aP[k] (ap hk) N
   refine⟨i,hi,?_,b.aP[k],ah hk,?_⟩
   ·show r i*l.n+l.ix i<_
    have h4:=Nat.mul_le_mul_right l.n (hr i)
    have:=La.nW hl i
    rw[Nat.succ_mul]at h4;omega
   ·show(((r i*l.n+l.ix i)/l.n:Nat):Int)∈_
    rw[hdiv];exact hm
def Rb (b:Bu) (l:La):Prop:= ∃s∈b.start,l7 (PE b l) b.aP.length (PM b l) (s.toNat*l.n)
theorem Eo {b:Bu} {l:La} (h:eJ b) (hl:0<l.loop.length):Rb b l↔Acc b l.at:=by
 constructor
 ·rintro⟨s,h1,h2⟩
  have:=h.st s h1
  exact⟨s.toNat,by rw[bq this.1];exact h1,(Em h hl).1 h2⟩
 ·rintro⟨s,h1,h2⟩
  exact⟨s,h1,(Em h hl).2 h2⟩
theorem rn {l:La} {i:Nat} (h:i<l.pre.length):l.ix i=i:=by unfold La.ix;rw[aA h]
theorem ur {l:La} {i:Nat} (h0:0<l.loop.length) (h:l.pre.length≤i):l.ix i=l.pre.length+(i-l.pre.length)%l.loop.length:=by
 unfold La.ix;rw[ar (by omega),show max l.loop.length 1=l.loop.length by omega]
theorem ut {l:La} {i:Nat} (h0:0<l.loop.length) (h:l.pre.length≤i):l.at i=l.loop[(i-l.pre.length)%l.loop.length]'(Nat.mod_lt _ h0):=by
 unfold La.at;rw[ar (by omega),show max l.loop.length 1=l.loop.length by omega]
 have:=Nat.mod_lt (i-l.pre.length) h0
 simp[this]
theorem xF {l:La} {n:Nat} (h0:0<l.loop.length) (hp: ∀x∈l.pre,x<n) (hl: ∀x∈l.loop,x<n) (i:Nat):l.at i<n:=by
 by_cases h:i<l.pre.length
 ·rw[mq h];exact hp _ (ap h)
 ·rw[ut h0 (by omega)];exact hl _ (ap _)
structure qF (w:World) (l:La) (pb lb:Option Addr) (pc lc:Nat):Prop where
 pre:Sl w pb (ek l.pre)
 loop:Sl w lb (ek l.loop)
 pc:l.pre.length≤pc
 lc:l.loop.length≤lc
@[simp] abbrev c_ (l:La) (pb:Option Addr) (pc:Nat) (lb:Option Addr) (lc:Nat):List Value:=[.slice pb l.pre.length pc,.slice lb l.loop.length lc]
theorem qF.keep {w w':World} {l:La} {pb lb:Option Addr} {pc lc:Nat} (h:qF w l pb lb pc lc) (hb: ∀k,k<w.heap.size→w'.heap[k]? =w.heap[k]?):qF w' l pb lb pc lc:=⟨h.pre.keep hb,h.loop.keep hb,h.pc,h.lc⟩
theorem Inv.la {base:World} {O:List Item} {w:World} (hI:Inv base O w) {l:La} {pb lb:Option Addr} {pc lc:Nat} (h:qF base l pb lb pc lc):qF w l pb lb pc lc:=h.keep hI.below.block
structure DR (l:La):Prop where
 pre:l.pre.length≤1000000
 loop:l.loop.length≤1000000
 p8: ∀x∈l.pre,x<256
 l8: ∀x∈l.loop,x<256
structure sA where
 l:La
 pb:Option Addr
 pc:Nat
 lb:Option Addr
 lc:Nat
def sA.cells (q:sA):List Value:=c_ q.l q.pb q.pc q.lb q.lc
def SL (qs:List sA):List Value:=qs.flatMap sA.cells
theorem mX {α:Type} {aa:α→List Value} {k:Nat} (hF: ∀a,(aa a).length=k): ∀ {qs:List α} {i:Nat} (h:i<qs.length) (j:Nat),j<k→(qs.flatMap aa)[i*k+j]? =(aa qs[i])[j]?
 |e::es,0,_,j,hj=>by
  simp only[List.flatMap_cons,List.getElem_cons_zero]
  rw[bG (by rw[hF];omega)];simp
 |e::es,i+1,h,j,hj=>by
  have ih:=mX hF (qs:=es) (i:=i) (by simpa using h) j hj
  simp only[List.flatMap_cons,List.getElem_cons_succ]at ih⊢
  have:(i+1)*k+j=i*k+j+k:=by rw[Nat.add_mul,Nat.one_mul];omega
  rw[bN (by rw[hF];omega),hF,←ih];congr 1;omega
theorem oV {α:Type} {aa:α→List Value} {k:Nat} (hF: ∀a,(aa a).length=k): ∀(qs:List α),(qs.flatMap aa).length=qs.length*k
 | []=>by simp
 |q::qs=>by rw[List.flatMap_cons,aI,hF,oV hF qs,cd,Nat.add_mul];omega
theorem Jq {qs:List sA} {i:Nat} (h:i<qs.length) (j:Nat) (hj:j<2):(SL qs)[i*2+j]? =(qs[i].cells)[j]? :=mX (aa:=sA.cells) (fun _=>rfl) h j hj
theorem kr (qs:List sA):(SL qs).length=qs.length*2:=oV (aa:=sA.cells) (fun _=>rfl) qs
def um (l:La):Bool:=decide (70<l.pre.length∨70<l.loop.length)
theorem jI {α:Type} {l:List α} {k:Nat} (h:k<l.length) {p:α→Bool} (h1:(l.take k).any p=false) (h2:p l[k]=false):(l.take (k+1)).any p=false:=by
 rw[an h,List.any_append,h1];simp[h2]
theorem gP {α:Type} {l:List α} {k:Nat} (h:k<l.length) {p:α→Bool} (h2:p l[k]=true):l.any p=true:=List.any_eq_true.2 ⟨_,ap h,h2⟩
theorem lG {α:Type} {l:List α} {k:Nat} (h: ¬k<l.length) {p:α→Bool} (h1:(l.take k).any p=false):l.any p=false:=by rwa[aN (by omega)]at h1
theorem Fj {α:Type} {l:List α} {p:α→Prop} [DecidablePred p] (h:(l.all fun x=>decide (p x))=true):(l.any fun x=>decide (¬p x))=false:=by
 rw[List.any_eq_false];intro x hx;have:=List.all_eq_true.1 h x hx;simpa using this
theorem Fk {α:Type} {l:List α} {p:α→Prop} [DecidablePred p] (h:(l.any fun x=>decide (¬p x))=false):(l.all fun x=>decide (p x))=true:=by
 rw[List.any_eq_false]at h;rw[fi];intro x hx;have:=h x hx;simpa using this
abbrev fn (l:List Nat):Nat→Nat:=fun v=>l.getD v 0
theorem kv {l:List Nat} {v a:Nat} (h:v<l.length) (x:Nat):fn (l.set v a) x=if x=v then a else fn l x:=by
 show(l.set v a).getD x 0=_
 rw[aj,List.getElem?_set]
 by_cases e:v=x
 ·subst e;simp[h]
 ·rw[ar e,ar (fun h=>e h.symm)];simp
theorem ot {l:List Nat} {v:Nat} (h:v<l.length):fn l v=l[v]:=by show l.getD v 0=_;simp[h]
abbrev fz (l:List Int):Nat→Int:=fun v=>l.getD v (-1)
theorem Yg {l:List Int} {v:Nat} {a:Int} (h:v<l.length) (x:Nat):fz (l.set v a) x=if x=v then a else fz l x:=by
 show(l.set v a).getD x (-1)=_
 rw[aj,List.getElem?_set]
 by_cases e:v=x
 ·subst e;simp[h]
 ·rw[ar e,ar (fun h=>e h.symm)];simp
theorem OA {l:List Int} {v:Nat} (h:v<l.length):fz l v=l[v]:=by show l.getD v (-1)=_;simp[h]
abbrev fb (l:List Bool):Nat→Bool:=fun v=>l.getD v false
theorem HP {l:List Bool} {v:Nat} {a:Bool} (h:v<l.length) (x:Nat):fb (l.set v a) x=if x=v then a else fb l x:=by
 show(l.set v a).getD x false=_
 rw[aj,List.getElem?_set]
 by_cases e:v=x
 ·subst e;simp[h]
 ·rw[ar e,ar (fun h=>e h.symm)];simp
theorem rowP.cap {b:Option Addr} {c:Nat} {T:TypeId} {cs:List Value} {w:World} (h:rowP b c T 1 cs w):cs.length≤c:=by
 cases b with
 |none=>obtain⟨rfl,rfl⟩:=h;exact aV _
 |some a=>obtain⟨_,_,_,h3,_⟩:=h;omega
theorem gd {l:List Nat} {v:Nat} (h:v<l.length):l.getD v 0=l[v]:=by simp[h]
theorem gz {l:List Int} {v:Nat} (h:v<l.length):l.getD v (-1)=l[v]:=by simp[h]
def M7 (e:Ed):List Value:=[.int .i64 e.fr,.int .i64 e.to,.int .u8 (e.pos:Int),.int .u8 (e.neg:Int)]
def eX (es:List Ed):List Value:=es.flatMap M7
theorem fP (es:List Ed):(eX es).length=es.length*4:=by
 induction es with
 |nil=>rfl
 |cons e es ih=>simp only[eX,List.flatMap_cons,aI]at ih⊢;simp[M7,ih];omega
theorem xS: ∀ {es:List Ed} {i:Nat} (h:i<es.length) (j:Nat),j<4→(eX es)[i*4+j]? =(M7 es[i])[j]?
 |e::es,0,_,j,hj=>by
  simp only[eX,List.flatMap_cons,List.getElem_cons_zero]
  rw[bG (by simp[M7];omega)];simp
 |e::es,i+1,h,j,hj=>by
  have ih:=xS (es:=es) (i:=i) (by simpa using h) j hj
  simp only[eX,List.flatMap_cons,List.getElem_cons_succ]at ih⊢
  rw[bN (by simp[M7];omega)]
  simp only[M7,cd,eD]at ih⊢
  rw[←ih];congr 1;omega
theorem pu {es:List Ed} {i:Nat} (h:i<es.length): ∀j (hj:j< [Value.int .i64 es[i].fr,.int .i64 es[i].to,.int .u8 ((es[i].pos:Nat):Int),.int .u8 ((es[i].neg:Nat):Int)].length),(eX es)[i*4+j]? =some [Value.int .i64 es[i].fr,.int .i64 es[i].to,.int .u8 ((es[i].pos:Nat):Int),.int .u8 ((es[i].neg:Nat):Int)][j]:=fun j hj=>by
 rw[xS h j (by simpa using hj)]
 exact ah (l:=M7 es[i]) hj
theorem xM (a b:List Ed):eX (a++b)=eX a++eX b:=by simp[eX]
theorem Rq (es:List Ed):((eX es).all fL)=true:=by
 simp only[fi,eX,List.mem_flatMap]
 rintro v ⟨e,_,hv⟩
 simp[M7]at hv
 rcases hv with rfl|rfl|rfl|rfl<;>rfl
structure nL (w:World) (b:Bu) (sb eb tb:Option Addr) (vs:List Value):Prop where
 st:Sl w sb (ints b.start)
 ed:Sl w eb (eX b.ao)
 out:Sl w tb vs
 rows:iY w vs b.aP
@[simp] abbrev bf (b:Bu) (sb:Option Addr) (sc:Nat) (eb:Option Addr) (ec:Nat) (tb:Option Addr) (tc:Nat):List Value:=[.int .i64 b.vars,.int .i64 b.ae,.slice sb b.start.length sc,.slice eb b.ao.length ec,.slice tb b.aP.length tc]
theorem nL.keep {w w':World} {b:Bu} {sb eb tb:Option Addr} {vs:List Value} (h:nL w b sb eb tb vs) (hb: ∀k,k<w.heap.size→w'.heap[k]? =w.heap[k]?):nL w' b sb eb tb vs:=
 ⟨h.st.keep hb,h.ed.keep hb,h.out.keep hb,h.rows.keep hb⟩
theorem Inv.bu {base:World} {O:List Item} {w:World} (hI:Inv base O w) {b:Bu} {sb eb tb:Option Addr} {vs:List Value} (h:nL base b sb eb tb vs):nL w b sb eb tb vs:=h.keep hI.below.block
structure Aw (b:Bu):Prop where
 st:b.start.length≤1000000
 ed:b.ao.length≤1000000
 se:b.aP.length≤1000000
 sr: ∀r∈b.aP,r.length≤1000000
 pn: ∀e∈b.ao,e.pos<256∧e.neg<256
abbrev ng:Rec:=⟨none,0,[]⟩
theorem Inv.rI {base:World} {O:List Item} {w:World} (h:Inv base O w) (E:TypeId): ∀n:Nat,Inv base (bQ E (List.replicate n ng)++O) w
 |0=>h
 |n+1=>by
  have:=(Inv.rI h E n).dH E 1
  exact this
theorem T.rI {P:Program} {r:Option Nat} {base:World} {n:Nat} {c:Code} {Q:iT} {ρ:Env} {O:List Item} (E:TypeId) (k:Nat) (h:T P r base n c Q ρ (O++bQ E (List.replicate k ng))):T P r base n c Q ρ O:=
 fun a w M D hM ha hi=>h a w M D hM ha ((hi.rI E k).perm (by
  have h1:(O++bQ E (List.replicate k ng)).Perm (bQ E (List.replicate k ng)++O):=List.perm_append_comm
  have h2:=h1.append_right (mI D++M)
  rw[bw (bQ E (List.replicate k ng)) O]at h2
  exact h2))
theorem jr {E:TypeId} {qs:List Rec} {c:Nat} (h:c<qs.length) {X:List Item}:ak qs[c].b qs[c].c E 1 (ints qs[c].xs)∈X++bQ E qs:=bl _ (List.mem_map.2 ⟨qs[c],ap h,rfl⟩)
theorem tI {qs:List Rec} {c:Nat} (h:c<qs.length):(bW qs)[c]? =some (.slice qs[c].b qs[c].xs.length qs[c].c):=by simp[h,Rec.val]
theorem xT {E:TypeId}: ∀ {qs:List Rec} {c:Nat} (h:c<qs.length),(bQ E qs).Perm (qs[c].jS E::bQ E (qs.eraseIdx c))
 |q::qs,0,_=>by simp
 |q::qs,c+1,h=>by
  have ih:=xT (E:=E) (qs:=qs) (c:=c) (by simpa using h)
  simp only[bQ,bL,List.eraseIdx_cons_succ,List.getElem_cons_succ]at ih⊢
  exact(ih.cons _).trans (List.Perm.swap _ _ _)
theorem BQ {E:TypeId} {qs:List Rec} {c:Nat} (h:c<qs.length) (X:List Item):Sub (qs[c].jS E::(X++bQ E (qs.eraseIdx c))) (X++bQ E qs):=by
 refine⟨X++bQ E qs,?_,ay _⟩
 exact((List.perm_middle (a:=qs[c].jS E) (l₁:=X)).symm).trans ((xT h).symm.append_left X)
theorem G0 {E:TypeId} {qs:List Rec} {c:Nat} (h:c<qs.length) (X:List Item) (q:Rec) {cs:List Value} (hc:cs=ints q.xs):Sub (X++bQ E (qs.set c q)) (ak q.b q.c E 1 cs::(X++bQ E (qs.eraseIdx c))):=by
 subst hc
 have h1:=xT (E:=E) (qs:=qs.set c q) (c:=c) (by simpa using h)
 rw[List.getElem_set_self,List.eraseIdx_set_eq]at h1
 refine⟨_,?_,ay _⟩
 exact(h1.append_left X).trans (List.perm_middle (a:=q.jS E) (l₁:=X))
theorem El {qs:List Rec} {c:Nat} {q:Rec}:nums (qs.set c q)=(nums qs).set c q.xs:=by simp[nums]
theorem iY.cons {w:World} {vs:List Value} {rs:List (List Int)} (h:iY w vs rs) {b:Option Addr} {c:Nat} {xs:List Int} (hs:Sl w b (ints xs)):iY w (.slice b xs.length c::vs) (xs::rs):=
 ⟨by simp[h.1],fun i r hr=>by
  cases i with
  |zero=>simp at hr;subst hr;exact⟨b,c,rfl,hs⟩
  |succ i=>exact h.2 i r (by simpa using hr)⟩
theorem iY.one {w:World} {vs:List Value} {rs:List (List Int)} (h:iY w vs rs):(vs.all fL)=true:=by
 rw[fi]
 intro v hv
 obtain⟨i,hi,rfl⟩:=List.mem_iff_getElem.1 hv
 obtain⟨b,c,g,_⟩:=h.get (i:=i) (by rw[←h.1];exact hi)
 rw[ah hi]at g
 rw[cg g];rfl
structure oJ where
 b:Bu
 sb:Option Addr
 sc:Nat
 eb:Option Addr
 ec:Nat
 tb:Option Addr
 tc:Nat
 vs:List Value
def oJ.cells (q:oJ):List Value:=bf q.b q.sb q.sc q.eb q.ec q.tb q.tc
def G2 (qs:List oJ):List Value:=qs.flatMap oJ.cells
theorem jH {qs:List oJ} {i:Nat} (h:i<qs.length) (j:Nat) (hj:j<5):(G2 qs)[i*5+j]? =(qs[i].cells)[j]? :=mX (aa:=oJ.cells) (fun _=>rfl) h j hj
theorem cN (qs:List oJ):(G2 qs).length=qs.length*5:=oV (aa:=oJ.cells) (fun _=>rfl) qs
def qH (b:Bu):Bool:=decide (40<b.start.length∨60<b.ao.length∨12<b.aP.length∨(20<b.ae∧b.ae≤4096))
def g_ (b:Bu):Bool:=qH b||b.aP.any (fun r=>decide (40<r.length))
structure TL where
 idx:List Nat
 low:List Nat
 comp:List Int
 ef:List Nat
 d_:Nat
 cO:Nat
def TL.ts (s:TL):TS:=⟨fn s.idx,fn s.low,fz s.comp,s.ef,s.d_,s.cO⟩
def ie (nx:List (List Int)) (u v:Nat):Prop:= ∃r,nx[u]? =some r∧(v:Int)∈r
def y_ (nx:List (List Int)) (v:Nat):List Nat:=(nx.getD v []).map Int.toNat
structure G5 (n:Nat) (s:TL):Prop where
 li:s.idx.length=n
 ll:s.low.length=n
 lc:s.comp.length=n
 ck:s.d_+s.idx.count 0=n
 sk:s.ef.length≤s.d_
 ct:s.cO+s.idx.count 0≤n
structure IQ (n:Nat) (nx:List (List Int)) (dW:List Nat) (s:TL) (v:Nat) (s':TL) (t:List Nat):Prop where
 ok:G5 n s'
 inv:hY n (ie nx) dW s'.ts
 ext:Lh s.ts s'.ts t
 post:FL (ie nx) s.ts s'.ts t v
 ct:s'.cO+s'.idx.count 0≤s.cO+s.idx.count 0
 lt:s'.idx.count 0<s.idx.count 0
structure pB (n:Nat) (nx:List (List Int)) (dW:List Nat) (s0:TL) (v k:Nat) (s:TL) (t:List Nat):Prop where
 ok:G5 n s
 lp:iJ n (ie nx) dW s0.ts v (y_ nx v) k s.ts t
 ct:s.cO+s.idx.count 0+1≤s0.cO+s0.idx.count 0
 lt:s.idx.count 0<s0.idx.count 0
theorem H3 {l:List Nat} {v a:Nat} (h:v<l.length) (h0:l[v]=0) (ha:a≠0):(l.set v a).count 0+1=l.count 0:=by
 rw[List.count_set h,h0]
 have:0<l.count 0:=List.count_pos_iff.2 (by rw[←h0];exact ap h)
 have GN:(a==0)=false:=by simpa using ha
 simp[GN];omega
section
variable {n:Nat} {nx:List (List Int)} {dW:List Nat} {s0 s:TL} {v k:Nat} {t:List Nat}
theorem adC {l:List Nat} {v:Nat} (h:v<l.length):fn l v=l[v]:=ot h
theorem pB.enter (jk:G5 n s) (h:hY n (ie nx) dW s.ts) (hn:v<n) (hv:s.idx[v]'(by rw[jk.li];exact hn)=0) (hg: ∀g∈dW,gL (ie nx) g v):
  pB n nx dW s v 0 {s with idx:=s.idx.set v (s.d_+1),low:=s.low.set v (s.d_+1),ef:=s.ef++[v],d_:=s.d_+1} []:=by
 have DI:v<s.idx.length:=by rw[jk.li];exact hn
 have hc:=H3 DI hv (a:=s.d_+1) (by omega)
 have h0:s.ts.idx v=0:=(adC DI).trans hv
 have QU:=jk.ck
 have hct:=jk.ct
 have Rr:=jk.sk
 refine⟨⟨by simp[jk.li],by simp[jk.ll],jk.lc,?_,?_,?_⟩,?_,?_,?_⟩
 ·show s.d_+1+(s.idx.set v (s.d_+1)).count 0=n;omega
 ·show(s.ef++[v]).length≤s.d_+1;rw[aI];simpa using Rr
 ·show s.cO+(s.idx.set v (s.d_+1)).count 0≤n;omega
 ·exact iJ.enter h h0 hn hg (fun x=>kv DI x) (fun x=>kv (by rw[jk.ll];exact hn) x) (by
   by_cases Sm:s.ts.comp v<0
   ·exact Sm
   ·exact absurd h0 (h.cmp v (by omega)).1) (fun _=>rfl)
 ·show s.cO+(s.idx.set v (s.d_+1)).count 0+1≤_;omega
 ·show(s.idx.set v (s.d_+1)).count 0<_;omega
theorem za (hk:k<(nx.getD v []).length) {u:Nat} (hu:(nx.getD v [])[k]=(u:Int)): ∃h:k<(y_ nx v).length,(y_ nx v)[k]=u:=
 ⟨by simpa[y_]using hk,by simp only[y_,eV,hu];rfl⟩
theorem uu (hv:v<nx.length) {u:Nat} (h:(u:Int)∈nx[v]):ie nx v u:=⟨_,ah hv,h⟩
theorem JD {u:Nat} (h:ie nx v u):u∈y_ nx v:=by
 obtain⟨r,h1,h2⟩:=h
 unfold y_
 rw[aj,h1]
 exact List.mem_map.2 ⟨_,h2,by simp⟩
theorem getD_at {nx:List (List Int)} {v:Nat} (hv:v<nx.length):nx.getD v []=nx[v]:=by simp[hv]
theorem pB.skip (h:pB n nx dW s0 v k s t) (h0:hY n (ie nx) dW s0.ts) (hv:v<nx.length) (hk:k<nx[v].length) {u:Nat} (hu:nx[v][k]=(u:Int)) (hi:s.idx.getD u 0≠0) (hc: ¬s.comp.getD u (-1)<0):pB n nx dW s0 v (k+1) s t:=by
 have hd:=getD_at hv
 obtain⟨h1,h2⟩:=za (v:=v) (k:=k) (nx:=nx) (u:=u) (by rw[hd];exact hk) (by simp only[hd];exact hu)
 exact⟨h.ok,h.lp.FM h1 h2 hi (show(0:Int)≤s.comp.getD u (-1) by omega) h0,h.ct,h.lt⟩
theorem pB.back (h:pB n nx dW s0 v k s t) (h0:hY n (ie nx) dW s0.ts) (wQ:v<n) (hv:v<nx.length) (hk:k<nx[v].length) {u:Nat} (hu:nx[v][k]=(u:Int)) (hi:s.idx.getD u 0≠0) (hc:s.comp.getD u (-1)<0) {a:Nat} (ha:a=min (s.low.getD v 0) (s.idx.getD u 0)):
  pB n nx dW s0 v (k+1) {s with low:=s.low.set v a} t:=by
 have hd:=getD_at hv
 obtain⟨h1,h2⟩:=za (v:=v) (k:=k) (nx:=nx) (u:=u) (by rw[hd];exact hk) (by simp only[hd];exact hu)
 refine⟨⟨h.ok.li,by simp[h.ok.ll],h.ok.lc,h.ok.ck,h.ok.sk,h.ok.ct⟩,?_,h.ct,h.lt⟩
 exact h.lp.FN h1 h2 (uu hv (by rw[←hu];exact ap hk)) hi hc h0 (fun x=>by subst ha;exact kv (by rw[h.ok.ll];exact wQ) x)
theorem pB.oH (h:pB n nx dW s0 v k s t) (h0:hY n (ie nx) dW s0.ts) (wQ:v<n) (hv:v<nx.length) (hk:k<nx[v].length) {u:Nat} (hu:nx[v][k]=(u:Int)) (hi:s.idx.getD u 0=0) {s':TL} {t2:List Nat} (uV:IQ n nx (dW++[v]) s u s' t2) {a:Nat} (ha:a=min (s'.low.getD v 0) (s'.low.getD u 0)):
  pB n nx dW s0 v (k+1) {s' with low:=s'.low.set v a} (t++t2):=by
 have hd:=getD_at hv
 obtain⟨h1,h2⟩:=za (v:=v) (k:=k) (nx:=nx) (u:=u) (by rw[hd];exact hk) (by simp only[hd];exact hu)
 have:=h.ct;have:=h.lt;have:=uV.ct;have:=uV.lt
 refine⟨⟨uV.ok.li,by simp[uV.ok.ll],uV.ok.lc,uV.ok.ck,uV.ok.sk,uV.ok.ct⟩,?_,by show s'.cO+s'.idx.count 0+1≤_;omega,by show s'.idx.count 0<_;omega⟩
 exact h.lp.FO h1 h2 (uu hv (by rw[←hu];exact ap hk)) hi h0 uV.inv uV.ext uV.post (fun x=>by subst ha;exact kv (by rw[uV.ok.ll];exact wQ) x)
theorem pB.child (h:pB n nx dW s0 v k s t) (hg: ∀g∈dW,gL (ie nx) g v) (hv:v<nx.length) (hk:k<nx[v].length) {u:Nat} (hu:nx[v][k]=(u:Int)): ∀g∈dW++[v],gL (ie nx) g u:=fun g hm=>by
 have hE:ie nx v u:=uu hv (by rw[←hu];exact ap hk)
 rcases List.mem_append.1 hm with hm|hm
 ·exact(hg g hm).tail hE
 ·simp at hm;subst hm;exact .one hE
theorem pB.AI (h:pB n nx dW s0 v k s t) (h0:hY n (ie nx) dW s0.ts) (hv:v<nx.length) (hk: ¬k<nx[v].length) (mC:s.low.getD v 0≠s.idx.getD v 0):IQ n nx dW s0 v s (v::t):=by
 have hl:(y_ nx v).length≤k:=by simp only[y_,ag,getD_at hv];omega
 obtain⟨h1,h2,h3⟩:=h.lp.AI h0 hl (fun u hu=>JD hu) mC
 exact⟨h.ok,h1,h2,h3,by have:=h.ct;omega,h.lt⟩
theorem pB.pop (h:pB n nx dW s0 v k s t) (h0:hY n (ie nx) dW s0.ts) (Tm:G5 n s0) (hv:v<nx.length) (hk: ¬k<nx[v].length) (he:s.low.getD v 0=s.idx.getD v 0) {comp:List Int} (hl:comp.length=n) (hc: ∀x,comp.getD x (-1)=if x∈v::t then(s.cO:Int)else s.comp.getD x (-1)):
  IQ n nx dW s0 v {s with comp:=comp,ef:=s0.ef,cO:=s.cO+1} []:=by
 have Zx:(y_ nx v).length≤k:=by simp only[y_,ag,getD_at hv];omega
 obtain⟨h1,h2,h3⟩:=h.lp.pop h0 Zx (fun u hu=>JD hu) he hc
 have:=h.ct;have:=h.ok.ct;have:=Tm.sk;have h8:=Tm.ct
 have h9:s0.d_≤s.d_:=h.lp.d_
 refine⟨⟨h.ok.li,h.ok.ll,hl,h.ok.ck,by show s0.ef.length≤s.d_;omega,?_⟩,h1,h2,h3,by show s.cO+1+s.idx.count 0≤_;omega,h.lt⟩
 show s.cO+1+s.idx.count 0≤n
 omega
theorem G6 (n:Nat):G5 n {idx:=List.replicate n 0,low:=List.replicate n 0,comp:=List.replicate n (-1),ef:=[],d_:=0,cO:=0}:=
 ⟨by simp,by simp,by simp,by simp,by simp,by simp⟩
theorem G7 {nx:List (List Int)} (n:Nat):hY n (ie nx) [] (TL.ts {idx:=List.replicate n 0,low:=List.replicate n 0,comp:=List.replicate n (-1),ef:=[],d_:=0,cO:=0}):=by
 have h:=hY.start (E:=ie nx) n (fun _=>0)
 refine hY.ext (idx:=fn (List.replicate n 0)) (low:=fn (List.replicate n 0)) (comp:=fz (List.replicate n (-1))) h (fun x=>?_) (fun x=>?_)
 ·show(List.replicate n 0).getD x 0=0
  rw[aj,List.getElem?_replicate];split<;>rfl
 ·show(List.replicate n (-1:Int)).getD x (-1)= -1
  rw[aj,List.getElem?_replicate];split<;>rfl
theorem D4 {l:List Nat} {k:Nat} (h: ∀x,x<k→l.getD x 0≠0) (hk:l.getD k 0≠0): ∀x,x<k+1→l.getD x 0≠0:=fun x hx=>by
 by_cases e:x=k
 ·subst e;exact hk
 ·exact h x (by omega)
theorem MI {s s2:TL} {t:List Nat} {k:Nat} (he:Lh s.ts s2.ts t) (h: ∀x,x<k→s.idx.getD x 0≠0) (hk:s2.ts.idx k≠0): ∀x,x<k+1→s2.idx.getD x 0≠0:=
 D4 (fun x hx=>by
  have:=he.idx x (h x hx)
  show s2.ts.idx x≠0
  rw[this];exact h x hx) hk
theorem ME {cp:List Int} {k:Nat} {a:Int} (h:cp.take k=List.replicate k a) (hk:k<cp.length):(cp.set k a).take (k+1)=List.replicate (k+1) a:=by
 rw[an (by simpa using hk),List.getElem_set_self,List.take_set_of_le (aV _),h,List.replicate_succ']
theorem Kf {a t1 vR:List Nat} {v u:Nat} (h:a++v::t1=vR++[u]) (mC:u≠v): ∃Rv,t1=Rv++[u]∧vR=a++v::Rv:=by
 rcases List.eq_nil_or_concat t1 with rfl|⟨Rv,x,rfl⟩
 ·have:=(List.append_inj' h rfl).2
  simp at this;exact absurd this.symm mC
 ·have h':(a++v::Rv)++[x]=vR++[u]:=by rw[←h];simp
  have h2:=List.append_inj' h' rfl
  simp at h2
  exact⟨Rv,by rw[h2.2];simp,h2.1.symm⟩
theorem MT {a t1 vR:List Nat} {v u:Nat} (h:a++v::t1=vR++[u]) (hu:u=v) (hv:v∉t1):t1=[]∧vR=a:=by
 rcases List.eq_nil_or_concat t1 with rfl|⟨Rv,x,rfl⟩
 ·exact⟨rfl,(List.append_inj' h rfl).1.symm⟩
 ·have h':(a++v::Rv)++[x]=vR++[u]:=by rw[←h];simp
  have h2:=(List.append_inj' h' rfl).2
  simp at h2 hv
  exact absurd (h2.trans hu).symm hv.2
theorem MU {cp:List Int} {u:Nat} {c:Int} {pop:List Nat} {g:Nat→Int} (hu:u<cp.length) (h: ∀x,cp.getD x (-1)=if x∈pop then c else g x) (x:Nat):(cp.set u c).getD x (-1)=if x∈u::pop then c else g x:=by
 have:=Yg (a:=c) hu x
 rw[show(cp.set u c).getD x (-1)=fz (cp.set u c) x from rfl,this]
 by_cases e:x=u
 ·simp[e]
 ·rw[ar e,show fz cp x=cp.getD x (-1)from rfl,h x]
  simp[e]
end
end Go.Lx
