/- Contracts of functions of the program, and what they answer. Conditions: those each theorem names. -/
import Derived.Test.YtgdbfideeeegmaaGreatDoorA0
import Derived.Lib.ItoaNum
set_option linter.unusedSectionVars false
set_option linter.unusedSimpArgs false
set_option linter.unusedVariables false
set_option linter.unnecessarySimpa false
set_option maxHeartbeats 8000000
set_option maxRecDepth 20000
namespace Go.Lx
open Go.RowKit
def dS:Value→Bool
 | .agg _| .tuple _=>false
 |_=>true
def dK (cs:List Value):Nat→List Value→List Value
 |_,[]=>cs
 |o,v::vs=>dK (cs.set o v) (o+1) vs
theorem f_ (vs:List Value): ∀(cs:List Value) (o:Nat),(dK cs o vs).length=cs.length:=by
 induction vs with
 |nil=>intro cs o;rfl
 |cons v vs ih=>intro cs o;simp[dK,ih]
theorem kW (vs:List Value): ∀(cs:List Value) (o i:Nat),o+vs.length≤cs.length→(dK cs o vs)[i]? =if o≤i∧i<o+vs.length then vs[i-o]? else cs[i]? :=by
 induction vs with
 |nil=>intro cs o i h;simp[dK];intro h1 h2;omega
 |cons v vs ih=>
  intro cs o i h
  simp only[dK,List.length_cons]at h⊢
  rw[ih _ _ _ (by simp;omega)]
  by_cases h1:o+1≤i∧i<o+1+vs.length
  ·rw[if_pos h1,if_pos (by omega)]
   have:i-o=(i-(o+1))+1:=by omega
   rw[this];simp
  ·rw[if_neg h1]
   by_cases h2:i=o
   ·subst h2
    rw[if_pos (by omega)]
    simp
    rw[List.getElem?_set_self (by omega)]
   ·rw[if_neg (by omega),List.getElem?_set_ne (by omega)]
def im (w:World) (b:Nat) (o:Obj):World:= {w with heap:=w.heap.setIfInBounds b o}
theorem jQ {w:World} {b:Nat} {o:Obj} (h:b<w.heap.size):(im w b o).heap[b]? =some o:=by simp[im,h]
theorem p_ {w:World} {b k:Nat} {o:Obj} (h:k≠b):(im w b o).heap[k]? =w.heap[k]? :=by simp[im,Array.getElem?_setIfInBounds_ne (Ne.symm h)]
theorem se {w:World} {b:Nat} {o:Obj}:(im w b o).heap.size=w.heap.size:=by simp[im]
theorem qQ {w:World} {b o:Nat} {v:Value} {cs:List Value} {T:TypeId} {fr:Nat×Nat} (h:w.heap[b]? =some (.cells cs.toArray T fr)):w.setCell ⟨b,o,none⟩ v=im w b (.cells (cs.set o v).toArray T fr):=by
 unfold World.setCell im
 congr 1
 apply Array.ext_getElem?
 intro i
 rw[Array.getElem?_modify]
 by_cases e:b=i
 ·subst e
  obtain⟨eV,e⟩:=Array.getElem?_eq_some_iff.1 h
  simp[eV,e]
 ·simp[e,Array.getElem?_setIfInBounds_ne e]
theorem wZ {w:World} {b:Nat} {o o':Obj}:im (im w b o) b o'=im w b o':=by
 unfold im;simp
theorem Ca {P:Program} {w:World} {b o:Nat} {v:Value} {cs:List Value} {T:TypeId} (h:w.heap[b]? =some (.cells cs.toArray T (0,0))) (ho:o<cs.length) (hv:dS v=true):
  (store ⟨b,o,none⟩ v).run P w=.ok () (im w b (.cells (cs.set o v).toArray T (0,0))):=by
 have hc:w.cell? ⟨b,o,none⟩=some cs[o]:=by unfold World.cell?;simp[h,ho]
 have hf:w.frozen? ⟨b,o,none⟩=false:=by unfold World.frozen?;simp[h]
 have hv':v.oneCell'=true:=by cases v<;>simp_all[dS,Value.oneCell']
 rw[run_store P w _ _ _ hv',hc]
 simp[hf,qQ h]
theorem jp {P:Program} {b o:Nat} {T:TypeId}: ∀(vs:List Value) (cs:List Value) (i:Nat) (w:World),w.heap[b]? =some (.cells cs.toArray T (0,0))→o+i+vs.length≤cs.length→(vs.all dS)=true→
  (storeCells ⟨b,o,none⟩ vs i).run P w=.ok () (im w b (.cells (dK cs (o+i) vs).toArray T (0,0)))
 | [],cs,i,w,h,_,_=>by
  have:im w b (.cells cs.toArray T (0,0))=w:=by
   unfold im
   have:w.heap.setIfInBounds b (.cells cs.toArray T (0,0))=w.heap:=by
    apply Array.ext_getElem?
    intro k
    by_cases e:b=k
    ·subst e
     obtain⟨eV,e⟩:=Array.getElem?_eq_some_iff.1 h
     simp[eV,e]
    ·rw[Array.getElem?_setIfInBounds_ne e]
   rw[this]
  simp[storeCells,dK,this]
 |v::vs,cs,i,w,h,hl,hv=>by
  simp only[List.length_cons,List.all_cons,Bool.and_eq_true]at hl hv
  have e:(Addr.add ⟨b,o,none⟩ i)=⟨b,o+i,none⟩:=by
   unfold Addr.add;split<;>rename_i h<;>first|(subst h;rfl)|rfl
  have h1:=Ca (P:=P) h (o:=o+i) (v:=v) (by omega) hv.1
  have eV:=(Array.getElem?_eq_some_iff.1 h).1
  have h2:=jp (P:=P) (b:=b) (o:=o) (T:=T) vs (cs.set (o+i) v) (i+1) (im w b (.cells (cs.set (o+i) v).toArray T (0,0))) (jQ eV) (by simp;omega) hv.2
  simp only[storeCells,e,Sem.run_bind,h1,Result.andThen_ok,h2,wZ,dK]
  rfl
section
variable {P:Program} {r:Option Nat} {base:World} {n:Nat} {ρ:Env} {O:List Item} {K:Env→List Item→Prop} {d:Nat} {t:TypeId} {p:String} {af:Array Edge} {g:Option (Nat×Bool)}
theorem kX {M:List Item} {j:Nat} {it:Item} (h:O[j]? =some it):(O++M)[j]? =some it:=by
 rw[List.getElem?_append_left (List.getElem?_eq_some_iff.1 h).1];exact h
theorem mW {M:List Item} {j:Nat} {it:Item} (h:O[j]? =some it) (x:Item):(O++M).set j x=O.set j x++M:=
 List.set_append_left _ _ (List.getElem?_eq_some_iff.1 h).1
theorem gH {op:Op} (hn:Nat.blt d n=true)
  (h: ∀w M,Inv base (O++M) w→ ∃v w' O',(execOp (ev ρ) ⟨some d,op,t,p,af,g⟩).run P w=.ok (.value v) w'∧Inv base (O'++M) w'∧K (mS ρ d v) O'):LT P r base n ⟨some d,op,t,p,af,g⟩ ρ O K:=by
 intro a w M ds ha hi next Qx dT
 obtain⟨v,w',O',hr,hI,hK⟩:=h w M hi
 rw[←ha.eval]at hr
 refine jX (uF hr (by simp)) ?_
 rw[hr]
 exact dT _ _ _ _ (ha.put hn v) hI hK
theorem kD {op:Op}
  (h: ∀w M,Inv base (O++M) w→ ∃w' O',(execOp (ev ρ) ⟨none,op,t,p,af,g⟩).run P w=.ok .skip w'∧Inv base (O'++M) w'∧K ρ O'):LT P r base n ⟨none,op,t,p,af,g⟩ ρ O K:=by
 intro a w M ds ha hi next Qx dT
 obtain⟨w',O',hr,hI,hK⟩:=h w M hi
 rw[←ha.eval]at hr
 refine jX (uF hr (by simp)) ?_
 rw[hr]
 exact dT _ _ _ _ ha hI hK
theorem Sub.qR {O' M:List Item} (h:Sub O' O):Sub (O'++M) (O++M):=by
 obtain⟨l,hp,hs⟩:=h
 exact⟨l++M,hp.append_right M,hs.append (List.Sublist.refl M)⟩
theorem Inv.dJ {w:World} (h:Inv base O w) (E:TypeId) (k:Nat):Inv base (am none 0 E k []::O) w:=
 Inv.new (N:=[am none 0 E k []]) h F F F (Nat.le_refl _) (fun _ _=>rfl) (by simp[am,rowP]) (by simp[am]) (by simp[am])
theorem T.dJ {c:Code} {Q:jk} (E:TypeId) (k:Nat) (h:T P r base n c Q ρ (am none 0 E k []::O)):T P r base n c Q ρ O:=
 fun a w M D hM ha hi=>h a w M D hM ha (hi.dJ E k)
theorem ck {c:Code} {Q:jk} {O':List Item} (hs:Sub O' O) (h:T P r base n c Q ρ O'):T P r base n c Q ρ O:=
 fun a w M D hM ha hi=>h a w M D hM ha (hi.iN hs.qR)
theorem aR {E:TypeId} {z:Value} {s fy:Nat} {cs:List Value} (hi:ey P E z s fy) (hz:z.cells=cs.toArray)
  (h: ∀b,K (mS ρ d (.pointer (some ⟨b,0,none⟩))) (cR b (.cells cs.toArray E (0,0))::O)) (hn:Nat.blt d n=true:=by rfl):LT P r base n ⟨some d,.alloc E,t,p,af,g⟩ ρ O K:=
 gH hn fun w M hI=>⟨_,_,_,by simp[execOp,Instr.alloc,fq hi,newVar,newRow,hz],hI.alloc _,h _⟩
theorem cH {E:TypeId} {x:Operand} {v:Value} {cs:List Value} (hx:ev ρ x=v) (hv:v.cells=cs.toArray)
  (h: ∀b,K (mS ρ d (.pointer (some ⟨b,0,none⟩))) (cR b (.cells cs.toArray E (0,0))::O)) (hn:Nat.blt d n=true:=by rfl):LT P r base n ⟨some d,.box E x,t,p,af,g⟩ ρ O K:=
 gH hn fun w M hI=>⟨_,_,_,by simp[execOp,Instr.box,newVar,newRow,hx,hv],hI.alloc _,h _⟩
theorem Inv.Ow {w:World} (hI:Inv base O w) {i:Nat} {b:Nat} {o:Obj} (hO:O[i]? =some (cR b o)) (o':Obj):Inv base (O.set i (cR b o')) (im w b o'):=by
 have hb:=hI.s4 hO
 have eV:=(Array.getElem?_eq_some_iff.1 hb).1
 refine hI.p6 hO F F F (by rw[se];exact Nat.le_refl _) (fun k _ hk=>p_ (fun e=>hk (by simp[cR,e]))) (jQ eV) (fun k hk=>.inl hk) (by simp[cR])
theorem Inv.setRow {w:World} (hI:Inv base O w) {i b o c:Nat} {T:TypeId} {k:Nat} {cs x5:List Value} {full:Array Value} (hO:O[i]? =some (am (some ⟨b,o,none⟩) c T k cs)) (hl:x5.length≤c*k)
  (hf:o+c*k≤full.size) (hc: ∀j (h:j<x5.length),full[o+j]? =some x5[j]):Inv base (O.set i (am (some ⟨b,o,none⟩) c T k x5)) (im w b (.cells full T (0,0))):=by
 obtain⟨_,YD,hb,_,_⟩:=hI.row hO
 have eV:=(Array.getElem?_eq_some_iff.1 hb).1
 refine hI.p6 hO F F F (by rw[se];exact Nat.le_refl _) (fun k _ hk=>p_ (fun e=>hk (by simp[am,e]))) ⟨F,full,jQ eV,hl,hf,hc⟩ (fun k hk=>.inl hk) (by simp[am])
theorem qS {T:TypeId} {z:Value} {s fy b o:Nat} {v:Value} {vs cs:List Value} {E:TypeId} {w:World} (hi:ey P T z s fy) (hv:v.cells=vs.toArray) (hl:vs.length=s) (ho:(vs.all dS)=true)
  (h:w.heap[b]? =some (.cells cs.toArray E (0,0))) (hr:o+vs.length≤cs.length):(storeVar T ⟨b,o,none⟩ v).run P w=.ok () (im w b (.cells (dK cs o vs).toArray E (0,0))):=by
 have:=jp (P:=P) (b:=b) (o:=o) (T:=E) vs cs 0 w h (by omega) ho
 unfold storeVar
 simp[bi hi,hv,hl]
 exact this
theorem sf (i:Nat) {T E:TypeId} {x y:Operand} {b o:Nat} {v:Value} {vs cs:List Value} {z:Value} {s fy:Nat} (hi:ey P T z s fy) (hx:ev ρ x=.pointer (some ⟨b,o,none⟩)) (hy:ev ρ y=v) (hv:v.cells=vs.toArray) (hl:vs.length=s) (ho:(vs.all dS)=true)
  (hO:O[i]? =some (cR b (.cells cs.toArray E (0,0)))) (hr:o+vs.length≤cs.length)
  (h:K ρ (O.set i (cR b (.cells (dK cs o vs).toArray E (0,0))))):LT P r base n ⟨none,.store T x y,t,p,af,g⟩ ρ O K:=
 kD fun w M hI=>⟨im w b (.cells (dK cs o vs).toArray E (0,0)),_,by
  simp only[execOp,hx,hy,Instr.storeAt,Instr.sureAddr]
  simp[qS hi hv hl ho (hI.s4 (kX hO)) hr],by have:=hI.Ow (kX hO) (.cells (dK cs o vs).toArray E (0,0));rwa[mW hO]at this,h⟩
theorem zI (i:Nat) {T E:TypeId} {x y:Operand} {b o j c k:Nat} {v:Value} {vs cs:List Value} {z:Value} {s fy:Nat} (hi:ey P T z s fy) (hx:ev ρ x=.pointer (some ⟨b,o+j,none⟩)) (hy:ev ρ y=v) (hv:v.cells=vs.toArray) (hl:vs.length=s) (ho:(vs.all dS)=true)
  (hO:O[i]? =some (am (some ⟨b,o,none⟩) c E k cs)) (hr:j+vs.length≤cs.length)
  (h:K ρ (O.set i (am (some ⟨b,o,none⟩) c E k (dK cs j vs)))):LT P r base n ⟨none,.store T x y,t,p,af,g⟩ ρ O K:=
 kD fun w M hI=>by
  obtain⟨_,full,hb,h1,h2,h3⟩:=hI.row (kX hO)
  simp only at hb h2 h3
  obtain⟨fl,rfl⟩: ∃fl:List Value,full=fl.toArray:=⟨full.toList,by simp⟩
  simp only[List.size_toArray]at h2
  refine⟨im w b (.cells (dK fl (o+j) vs).toArray E (0,0)),_,?_,mW hO (am (some ⟨b,o,none⟩) c E k (dK cs j vs))▸hI.setRow (kX hO) (x5:=dK cs j vs) (by rw[f_];exact h1) (by simp[f_];exact h2) ?_,h⟩
  ·have Ol:o+j+vs.length≤fl.length:=by omega
   simp only[execOp,hx,hy,Instr.storeAt,Instr.sureAddr]
   simp[qS hi hv hl ho hb Ol]
  ·intro m hm
   rw[f_]at hm
   have e1:(dK fl (o+j) vs).toArray[o+m]? =(dK fl (o+j) vs)[o+m]? :=by simp
   have e2:(dK cs j vs)[m]? =some ((dK cs j vs)[m]'(by rw[f_];exact hm)):=List.getElem?_eq_getElem _
   rw[e1,←e2,kW vs fl (o+j) (o+m) (by omega),kW vs cs j m (by omega)]
   by_cases Cb:j≤m∧m<j+vs.length
   ·rw[if_pos Cb,if_pos (by omega)]
    congr 1;omega
   ·rw[if_neg Cb,if_neg (by omega)]
    have:=h3 m hm
    simpa[List.getElem?_eq_getElem hm]using this
theorem qa {α:Type} (f:Nat→α):(Array.range 0).map f= #[]:=by simp
theorem o9 (z:Value) (m:Nat):((Array.range m).map fun i=>(#[z]:Array Value)[i%(#[z]:Array Value).size]!)=(List.replicate m z).toArray:=by
 apply Array.ext_getElem?
 intro i
 rw[Array.getElem?_map,Array.getElem?_range]
 by_cases h:i<m
 ·simp[h,Nat.mod_one]
 ·simp[h]
theorem bX {T E:TypeId} {x:Operand} {k:IntKind} {m:Nat} {z:Value} {fy:Nat} (hu:P.underlying T=some (.slice E)) (hi:ey P E z 1 fy) (hz:z.cells= #[z]) (hx:ev ρ x=.int k (m:Int)) (hm:m*fy≤140737488355328) (V5:m≤9223372036854775807)
  (h: ∀b,K (mS ρ d (.slice (some ⟨b,0,none⟩) m m)) (am (some ⟨b,0,none⟩) m E 1 (List.replicate m z)::O)) (hn:Nat.blt d n=true:=by rfl):LT P r base n ⟨some d,.makeSlice T x x,t,p,af,g⟩ ρ O K:=
 gH hn fun w M hI=>by
  obtain⟨i,Wa,Fe,hi3,Wb⟩:=hi.get
  have hw:IntKind.i64.wrap (m:Int)=(m:Int):=fz (by omega)
  have Oq: ¬((fy:Int)*(m:Int)>2^48):=by
   have h1:((m*fy:Nat):Int)≤140737488355328:=Int.ofNat_le.2 hm
   rw[Nat.mul_comm,Int.natCast_mul]at h1
   have h2:(2:Int)^48=281474976710656:=by rfl
   rw[h2];omega
  have RZ:decide ((fy:Int)*(m:Int)>2^48)=false:=decide_eq_false Oq
  refine⟨.slice (some ⟨w.heap.size,0,none⟩) m m,w.alloc (.cells (List.replicate m z).toArray E),_,?_,Inv.new (O:=O++M) (w':=w.alloc (.cells (List.replicate m z).toArray E)) (N:=[am (some ⟨w.heap.size,0,none⟩) m E 1 (List.replicate m z)]) hI F F F (by simp) (fun b hb=>Below.heap_alloc w _ b hb) ?_ ?_ ?_,h _⟩
  ·have Wc:decide ((m:Int)<0)=false:=by simp
   simp only[execOp,hx,Instr.makeSlice,Sem.run_bind,aT hu,Result.andThen_ok,asInt,asIntOf,Sem.run_pure,j3 Wa,Wb,hw,RZ,Wc,Bool.or_false,Bool.or_self,Int.lt_irrefl,gt_iff_lt,decide_false,Bool.false_eq_true,if_false,run_askRoom,bi hi,Nat.mul_one,Int.toNat_natCast]
   by_cases h0:m=0
   ·subst h0
    simp[newRow,qa]
   ·simp[h0,hz,newRow,fq hi]
    have:=o9 z m
    simp at this
    rw[this]
  ·intro x hx
   simp at hx;subst hx
   refine⟨F,(List.replicate m z).toArray,?_,by simp,by simp,fun j hj=>by simp at hj;simp[hj]⟩
   show(w.heap.push _)[w.heap.size]? =_
   simp
  ·intro x hx b hb
   simp at hx;subst hx
   simp[am]at hb;subst hb
   simp
  ·simp[am]
theorem bH {T E:TypeId} {m:Nat} {parts:List (Nat×Operand)} {z:Value} {s fy:Nat} {cs:List Value} (hu:P.underlying T=some (.slice E)) (hi:ey P E z s fy) (MV:m*s≤16777216)
  (hf:Instr.fill (fun i=>some (i*s,s)) ((Array.range (m*s)).map (z.cells[· %z.cells.size]!)) (parts.map fun q=>(q.1,ev ρ q.2))=some cs.toArray) (hl:cs.length=m*s)
  (h: ∀b,K (mS ρ d (.slice (some ⟨b,0,none⟩) m m)) (am (some ⟨b,0,none⟩) m E s cs::O)) (hn:Nat.blt d n=true:=by rfl):LT P r base n ⟨some d,.buildSlice T m parts.toArray,t,p,af,g⟩ ρ O K:=
 gH hn fun w M hI=>by
  refine⟨.slice (some ⟨w.heap.size,0,none⟩) m m,w.alloc (.cells cs.toArray E),_,?_,Inv.new (O:=O++M) (w':=w.alloc (.cells cs.toArray E)) (N:=[am (some ⟨w.heap.size,0,none⟩) m E s cs]) hI F F F (by simp) (fun b hb=>Below.heap_alloc w _ b hb) ?_ ?_ ?_,h _⟩
  ·have KH: ¬(m*s>2^24):=by omega
   by_cases h0:m*s=0
   ·have Vk:Instr.fill (fun i=>some (i*s,s)) #[] (parts.map fun q=>(q.1,ev ρ q.2))=some cs.toArray:=by rw[h0,qa]at hf;exact hf
    simp only[execOp,Instr.buildSlice,Sem.run_bind,aT hu,bi hi,Result.andThen_ok,h0,gt_iff_lt,if_true,Sem.run_pure,qa]
    have eV: ¬(2^24<0):=by omega
    simp[Vk,newRow]
   ·simp[execOp,Instr.buildSlice,aT hu,bi hi,KH,h0,fq hi,hf,newRow]
  ·intro x hx
   simp at hx;subst hx
   refine⟨F,cs.toArray,?_,by rw[hl];exact Nat.le_refl _,by simp[hl],fun j hj=>by simp[hj]⟩
   show(w.heap.push _)[w.heap.size]? =_
   simp
  ·intro x hx b hb
   simp at hx;subst hx
   simp[am]at hb;subst hb
   simp
  ·simp[am]
theorem Fi (z:Array Value) (m:Nat):(Builtin.zeroCells z m).size=m*z.size:=by simp[Builtin.zeroCells]
theorem w5 (qd:Nat): ∀(r c:Nat),c≤2*qd→Builtin.growBy qd r c≤2*qd+192
 |0,c,h=>by simp[Builtin.growBy];omega
 |r+1,c,h=>by
  simp only[Builtin.growBy]
  split
  ·omega
  ·by_cases h2:c+(c+768)/4≤2*qd
   ·exact w5 qd r _ h2
   ·have: ∀r,Builtin.growBy qd r (c+(c+768)/4)=c+(c+768)/4:=by
     intro r
     cases r with
     |zero=>rfl
     |succ r=>simp only[Builtin.growBy];rw[if_pos (by omega)]
    rw[this];omega
theorem Cc {qd cap:Nat} (h:cap<qd):Builtin.nextslicecap qd cap≤2*qd+192:=by
 unfold Builtin.nextslicecap
 split
 ·omega
 ·split
  ·omega
  ·exact w5 qd 4 cap (by omega)
theorem gz {P:Program} {w:World} {b:Option Addr} {m c s:Nat} {cs:List Value} (h:Sl w b cs) (hl:cs.length=m*s) (hb:b=none→cs=[]):
  (Builtin.firstCells s m (.slice b m c)).run P w=.ok cs.toArray w:=by
 cases b with
 |none=>rw[hb F];rfl
 |some a=>
  obtain⟨k,o,sp⟩:=a
  simp only[Builtin.firstCells,←hl,loadCells]
  by_cases h0:cs.length=0
  ·have:cs=[]:=List.length_eq_zero_iff.1 h0
   subst this;rfl
  ·obtain⟨a',e1,e2,_⟩:=h 0 (by omega)
   cases e1
   simp only at e2;subst e2
   have:=j4 (P:=P) (w:=w) (a:=⟨k,o,none⟩) cs 0 #[] (fun j hj=>by
    have:=h.get (List.getElem?_eq_getElem hj)
    simp only[Nat.zero_add,Addr.add]
    split<;>rename_i e
    ·subst e;simpa using this
    ·exact this)
   simpa using this
def Src (P:Program) (base:World) (O:List Item) (s m:Nat) (x:Value) (cs:List Value):Prop:=
 cs.length=m*s∧(∀w,(Builtin.lenOf x).run P w=.ok m w)∧ ∀w,Inv base O w→(Builtin.firstCells s m x).run P w=.ok cs.toArray w
theorem Src.qR {b:World} {M:List Item} {s m:Nat} {x:Value} {cs:List Value} (h:Src P b O s m x cs):Src P b (O++M) s m x cs:=⟨h.1,h.2.1,fun w hI=>h.2.2 w hI.left⟩
theorem Src.row {j:Nat} {b:Option Addr} {c k m:Nat} {E:TypeId} {cs:List Value} (hO:O[j]? =some (am b c E k cs)) (hl:cs.length=m*k) (c':Nat:=c):Src P base O k m (.slice b m c') cs:=
 ⟨hl,fun w=>by simp[Builtin.lenOf],fun w hI=>gz (hI.row hO).sl hl (fun e=>by subst e;exact(hI.row hO).1)⟩
theorem Src.sl {b:Option Addr} {c k m:Nat} {cs:List Value} (h:Sl base b cs) (hl:cs.length=m*k):Src P base O k m (.slice b m c) cs:=
 ⟨hl,fun w=>by simp[Builtin.lenOf],fun w hI=>gz (hI.sl h) hl (fun e=>by
  cases cs with
  |nil=>rfl
  |cons v cs=>obtain⟨a,h1,_⟩:=h 0 (by simp);rw[e]at h1;cases h1)⟩
theorem o_ {b o i:Nat}:(Addr.add ⟨b,o,none⟩ i)=⟨b,o+i,none⟩:=by
 unfold Addr.add;split<;>rename_i h<;>first|(subst h;rfl)|rfl
theorem KI (qd old t:Nat) (e:TypeId):qd≤(Question.appendCap qd old e).cut t:=Nat.le_add_right _ _
theorem qe {T U E:TypeId} {xd:TypeDesc} {b:Option Addr} {m c l s fy:Nat} {x z:Value} {cs new:List Value} {j:Nat} {ty:TypeId}
  (hu:P.underlying T=some (.slice E)) (KJ:P.underlying U=some xd) (KE:(∃XE,xd=.slice XE)∨xd=.string) (hi:ey P E z s fy) (hz:z.cells.size=s)
  (hO:O[j]? =some (am b c E s cs)) (hl:cs.length=m*s) (_hs:0<s)
  (hx:Src P base O s l x new) (qT:(new.all dS)=true) (rZ:(m+l)*fy≤70368744177664) (MS:fy≤1000000) (Fj:0<fy) {w:World} (hI:Inv base O w):
  ∃b' c' w',(Builtin.append_ #[T,U] ty #[.slice b m c,x]).run P w=.ok (.slice b' (m+l) c') w'∧Inv base (O.set j (am b' c' E s (cs++new))) w':=by
 obtain⟨Ka,gv,G3⟩:=hx
 obtain⟨i,Wa,Fe,hi3,Wb⟩:=hi.get
 have qf:=hI.row hO
 have R0:=G3 w hI
 have kY:(Builtin.firstCells s m (.slice b m c)).run P w=.ok cs.toArray w:=gz qf.sl hl (fun e=>by subst e;exact qf.1)
 by_cases Ox:m+l≤c
 ·-- there is room
  cases b with
  |none=>
   obtain⟨rfl,rfl⟩:=qf
   have hm0:m=0:=by omega
   have Fk:l=0:=by omega
   subst hm0;subst Fk
   have Oy:new=[]:=List.length_eq_zero_iff.1 (by omega)
   subst Oy
   refine⟨none,0,w,?_,?_⟩
   ·rcases KE with⟨XE,rfl⟩|rfl<;>simp[Builtin.append_,aT hu,aT KJ,bi hi,gv,R0]
   ·simp only[List.append_nil]
    obtain⟨A,B,e,GY⟩:=zG hO
    rw[GY,←e]
    exact hI
  |some a=>
   obtain⟨k,o,sp⟩:=a
   obtain⟨wl,full,hb,h1,h2,h3⟩:=qf
   simp only at wl hb h1 h2 h3
   subst wl
   obtain⟨fl,rfl⟩: ∃fl:List Value,full=fl.toArray:=⟨full.toList,by simp⟩
   simp only[List.size_toArray]at h2
   have hmul:m*s+l*s≤c*s:=by rw[←Nat.add_mul];exact Nat.mul_le_mul_right s Ox
   have hr:o+m*s+0+new.length≤fl.length:=by omega
   have wq:=jp (P:=P) (b:=k) (o:=o+m*s) (T:=E) new fl 0 w hb hr qT
   refine⟨some ⟨k,o,none⟩,c,_,?_,hI.setRow hO (x5:=cs++new) (full:=(dK fl (o+m*s+0) new).toArray) (by simp;omega) (by simp[f_];exact h2) ?_⟩
   ·rcases KE with⟨XE,rfl⟩|rfl<;>simp[Builtin.append_,aT hu,aT KJ,bi hi,gv,R0,Ox,o_]
    all_goals (simp at wq;rw[wq];rfl)
   ·intro q hq
    simp only[List.length_append]at hq
    have e1:(dK fl (o+m*s+0) new).toArray[o+q]? =(dK fl (o+m*s) new)[o+q]? :=by simp
    have e2:some ((cs++new)[q]'(by simp;omega))=(cs++new)[q]? :=(List.getElem?_eq_getElem _).symm
    rw[e1,e2,kW new fl (o+m*s) (o+q) (by omega)]
    by_cases Cb:m*s≤q
    ·rw[if_pos (by omega),List.getElem?_append_right (by omega)]
     congr 1;omega
    ·rw[if_neg (by omega),List.getElem?_append_left (by omega)]
     have:=h3 q (by omega)
     simpa[List.getElem?_eq_getElem (show q<cs.length by omega)]using this
 ·-- a new array
  obtain⟨cap,KK⟩: ∃cap,(Question.appendCap (m+l) c E).cut (w.tape w.drawn (Question.appendCap (m+l) c E))=cap:=⟨_,F⟩
  have Ds:m+l≤cap:=KK▸KI (m+l) c _ E
  have KL:(Question.appendCap (m+l) c E).forced=false:=rfl
  have l6:Inv base O w.drew:=hI.drew
  have We:=G3 _ l6
  have MW:=l6.row hO
  have Wf:(Builtin.firstCells s m (.slice b m c)).run P w.drew=.ok cs.toArray w.drew:=gz MW.sl hl (fun e=>by subst e;exact MW.1)
  have dT: ¬(Builtin.nextslicecap (m+l) c*fy>2^48):=by
   have h1:=Cc (qd:=m+l) (cap:=c) (by omega)
   have h2:Builtin.nextslicecap (m+l) c*fy≤(2*(m+l)+192)*fy:=Nat.mul_le_mul_right _ h1
   have h3:(2*(m+l)+192)*fy=2*((m+l)*fy)+192*fy:=by rw[Nat.add_mul,Nat.mul_assoc]
   omega
  obtain⟨w',G4⟩: ∃w':World,w'=w.drew.alloc (.cells (cs.toArray++new.toArray++Builtin.zeroCells z.cells (cap-(m+l))) E):=⟨_,F⟩
  refine⟨some ⟨w.heap.size,0,none⟩,cap,w',?_,?_⟩
  ·have R1: ¬(9223372036854775807<((m:Int)+(l:Int))∧fy=0):=by rintro⟨_,h⟩;omega
   have Oz: ¬(281474976710656<Builtin.nextslicecap (m+l) c*fy):=by simpa using dT
   rcases KE with⟨XE,rfl⟩|rfl<;>simp[Builtin.append_,aT hu,aT KJ,bi hi,gv,Ox,j3 Wa,Wb,R1,Oz,KL,KK,Wf,We,fq hi,newRow,G4]
   all_goals (have e:(cs++new).toArray=cs.toArray++new.toArray:=by simp)
   all_goals rw[e,Array.append_assoc]
  ·subst G4
   refine hI.p6 hO F F F (by simp) (fun q hq _=>?_) ⟨F,cs.toArray++new.toArray++Builtin.zeroCells z.cells (cap-(m+l)),?_,?_,?_,?_⟩ ?_ (by simp[am])
   ·show(w.heap.push _)[q]? =_
    rw[Array.getElem?_push,if_neg (by omega)]
   ·show(w.heap.push _)[w.heap.size]? =_
    simp
   ·simp only[List.length_append,hl,Ka,←Nat.add_mul];exact Nat.mul_le_mul_right s Ds
   ·simp only[Array.size_append,List.size_toArray,Fi,hz,hl,Ka,←Nat.add_mul,Nat.zero_add]
    exact Nat.mul_le_mul_right s (by omega)
   ·intro q hq
    simp only[Nat.zero_add]
    rw[Array.getElem?_append_left (by simp at hq⊢;exact hq)]
    simp
   ·intro q hq
    simp[am]at hq
    subst hq
    exact .inr ⟨Nat.le_refl _,by simp⟩
theorem bY {T U E XE:TypeId} {b:Option Addr} {m c l s fy:Nat} {x y:Operand} {xv z:Value} {cs new:List Value} (j:Nat)
  (hu:P.underlying T=some (.slice E)) (KJ:P.underlying U=some (.slice XE)) (hi:ey P E z s fy) (hz:z.cells.size=s)
  (hx:ev ρ x=.slice b m c) (hy:ev ρ y=xv) (hO:O[j]? =some (am b c E s cs)) (hl:cs.length=m*s) (hs:0<s)
  (OA:Src P base O s l xv new) (qT:(new.all dS)=true) (rZ:(m+l)*fy≤70368744177664) (MS:fy≤1000000) (Fj:0<fy)
  (h: ∀b' c',K (mS ρ d (.slice b' (m+l) c')) (O.set j (am b' c' E s (cs++new)))) (hn:Nat.blt d n=true:=by rfl):
  LT P r base n ⟨some d,.call ⟨.builtin .append,#[x,y],#[T,U]⟩,t,p,af,g⟩ ρ O K:=
 gH hn fun w M hI=>by
  obtain⟨b',c',w',hr,l6⟩:=qe (ty:=t) hu KJ (.inl ⟨_,F⟩) hi hz (kX hO) hl hs OA.qR qT rZ MS Fj hI
  rw[mW hO]at l6
  refine⟨_,w',_,?_,l6,h b' c'⟩
  simp[execOp,resolve,hx,hy,invoke,builtin,hr]
def Enters (P:Program) (f:FuncId) (fn:Func):Prop:=P.funcs[f]? =some fn∧(fn.name== "runtime.NumGoroutine")=false∧fn.body.isSome=true
def bm (P:Program) (base:World) (f:FuncId) (args:List Value) (O:List Item) (R:Value→List Item→Prop):Prop:=
 ∀w M,Inv base (O++M) w→Calls P f args.toArray w fun e w'=> ∃v O',e=.returned v∧Inv base (O'++M) w'∧R v O'
theorem bm.mono {f:FuncId} {args:List Value} {R R':Value→List Item→Prop} (h:bm P base f args O R) (hr: ∀v O',R v O'→R' v O'):bm P base f args O R':=
 fun w M hI=>(h w M hI).mono fun _ _ ⟨v,O',h1,h2,h3⟩=>⟨v,O',h1,h2,hr v O' h3⟩
def bI (P:Program) (f:FuncId) (args:List Value) (w:World) (R:Value→List Item→Prop):Prop:=bm P w f args [] R
theorem aI {f:FuncId} {args:List Value} {R:Value→List Item→Prop} (h: ∀w,Inv base O w→bI P f args w R):bm P base f args O (fun v O'=> ∃N,O'=N++O∧R v N):=
 fun w M hI=>(h w hI.left w [] (Inv.refl w)).mono fun _ _ ⟨v,N,h1,h2,h3⟩=>⟨v,N++O,h1,by
  have:=hI.call h2
  simpa[List.append_assoc]using this,N,F,h3⟩
theorem bm.under {f:FuncId} {args:List Value} {A B:List Item} {R:Value→List Item→Prop} (h:bm P base f args A R) (hs:Sub (A++B) O):bm P base f args O (fun v O'=> ∃A',O'=A'++B∧R v A'):=
 fun w M hI=>(h w (B++M) (by have:=hI.iN hs.qR;rwa[List.append_assoc]at this)).mono fun _ _ ⟨v,A',h1,h2,h3⟩=>⟨v,A'++B,h1,by rwa[List.append_assoc],A',F,h3⟩
def Dt (P:Program) (base:World) (M:List Item) (R:Value→List Item→Prop):Result Next→Prop
 | .ok (.enter f args) w=>Calls P f args w fun e w'=> ∃v O',e=.returned v∧Inv base (O'++M) w'∧R v O'
 | .ok (.round l f tmps assign body) w=>RoundIn Fence.wide 0 P l f tmps assign body w fun e w'=> ∃v O',e=.returned v∧Inv base (O'++M) w'∧R v O'
 |_=>False
def jq (fv:Value) (args:Array Value):Sem Next:=do
 let d←Deferred.ofValue fv args
 invoke d.target d.args
def dn (P:Program) (base:World) (fv:Value) (args:List Value) (O:List Item) (R:Value→List Item→Prop):Prop:=
 ∀w M,Inv base (O++M) w→Dt P base M R ((jq fv args.toArray).run P w)
theorem Dt.mono {M:List Item} {R R':Value→List Item→Prop} {x:Result Next} (h:Dt P base M R x) (hr: ∀v O',R v O'→R' v O'):Dt P base M R' x:=by
 cases x with
 |halt e w=>exact h
 |ok y w=>
  cases y<;>first
   |exact h
   |exact Calls.mono h fun _ _ ⟨v,O',h1,h2,h3⟩=>⟨v,O',h1,h2,hr v O' h3⟩
   |exact RoundIn.mono h fun _ _ ⟨v,O',h1,h2,h3⟩=>⟨v,O',h1,h2,hr v O' h3⟩
theorem dn.mono {fv:Value} {args:List Value} {R R':Value→List Item→Prop} (h:dn P base fv args O R) (hr: ∀v O',R v O'→R' v O'):dn P base fv args O R':=
 fun w M hI=>(h w M hI).mono hr
theorem dn.under {fv:Value} {args:List Value} {A B:List Item} {R:Value→List Item→Prop} (h:dn P base fv args A R) (hs:Sub (A++B) O):dn P base fv args O (fun v O'=> ∃A',O'=A'++B∧R v A'):=fun w M hI=>by
 have h1:=h w (B++M) (by have:=hI.iN hs.qR;rwa[List.append_assoc]at this)
 revert h1
 cases(jq fv args.toArray).run P w with
 |halt e w=>exact id
 |ok y w=>
  cases y<;>first
   |exact id
   |exact fun h=>Calls.mono h fun _ _ ⟨v,A',h1,h2,h3⟩=>⟨v,A'++B,h1,by rwa[List.append_assoc],A',F,h3⟩
   |exact fun h=>RoundIn.mono h fun _ _ ⟨v,A',h1,h2,h3⟩=>⟨v,A'++B,h1,by rwa[List.append_assoc],A',F,h3⟩
theorem bQ {f:FuncId} {fn:Func} {first args eY:List Value} {R:Value→List Item→Prop} (he:Enters P f fn) (h:bm P base f (first++args++eY) O R):dn P base (.func (.func f) first.toArray eY.toArray) args O R:=fun w M hI=>by
 have qU: ¬fn.name= "runtime.NumGoroutine" :=by simpa using he.2.1
 obtain⟨bd,G5⟩:=Option.isSome_iff_exists.1 he.2.2
 have hr:(jq (.func (.func f) first.toArray eY.toArray) args.toArray).run P w=.ok (.enter f (first++args++eY).toArray) w:=by
  have e:(first++args++eY).toArray=first.toArray++args.toArray++eY.toArray:=by simp
  rw[e]
  simp[jq,Deferred.ofValue,invoke,callFunc,he.1,qU,G5]
 rw[hr]
 exact h w M hI
theorem qg {x:Operand} {args:List Operand} {ws:Array TypeId} {dst:Option Nat} {w:World}:(execOp (ev ρ) ⟨dst,.call ⟨.value x,args.toArray,ws⟩,t,p,af,g⟩).run P w=(jq (ev ρ x) (E_ ρ args).toArray).run P w:=by
 have Do:(args.toArray.map (ev ρ))=(E_ ρ args).toArray:=by simp[GX]
 simp only[execOp,resolve,jq,Do,Sem.run_bind]
theorem kZ {r:Option Nat} {f:FuncId} {args:Array Value} {w:World} {R:Ending→World→Prop} (h:Calls P f args w R):CallsIn (Fr r) (0-1) P f args w R:=callsIn_wide.2 h
theorem dx {x:Operand} {args:List Operand} {ws:Array TypeId} {fv:Value} {vs:List Value} {R:Value→List Item→Prop} (hc:dn P base fv vs O R) (hx:ev ρ x=fv) (ha:E_ ρ args=vs)
  (h: ∀v O',R v O'→K (mS ρ d v) O') (hn:Nat.blt d n=true:=by rfl):LT P r base n ⟨some d,.call ⟨.value x,args.toArray,ws⟩,t,p,af,g⟩ ρ O K:=by
 subst hx;subst ha
 intro a w M ds ha hi next Qx dT
 have h1:=hc w M hi
 rw[←qg (t:=t) (p:=p) (af:=af) (g:=g) (ws:=ws) (dst:=some d)]at h1
 rw[←ha.eval]at h1
 revert h1
 generalize hr:(execOp a.eval ⟨some d,.call ⟨.value x,args.toArray,ws⟩,t,p,af,g⟩).run P w=y
 intro h1
 refine jX (by intro c e;cases e) ?_
 rw[hr]
 cases y with
 |halt e w=>exact h1.elim
 |ok y w1=>
  cases y with
  |enter f YE=>
   rw[Oper.uponIn_enter]
   refine⟨fun e=>by simp[Fr,Fence.wide]at e,kZ (Calls.mono h1 ?_)⟩
   rintro e w' ⟨v,O',rfl,l6,hR⟩
   exact dT _ _ _ _ (ha.put hn v) l6 (h v O' hR)
  |round l f tmps assign body=>
   rw[Oper.uponIn_round]
   refine⟨fun e=>by simp[Fr,Fence.wide]at e,RoundIn.mono h1 ?_⟩
   rintro e w' ⟨v,O',rfl,l6,hR⟩
   exact dT _ _ _ _ (ha.put hn v) l6 (h v O' hR)
  |_=>exact h1.elim
theorem aP {f:FuncId} {fn:Func} {args:List Operand} {ws:Array TypeId} {vs:List Value} {R:Value→List Item→Prop} (he:Enters P f fn)
  (hc:bm P base f vs O R) (ha:E_ ρ args=vs) (h: ∀v O',R v O'→K (mS ρ d v) O') (hn:Nat.blt d n=true:=by rfl):LT P r base n ⟨some d,.call ⟨.value (.func f),args.toArray,ws⟩,t,p,af,g⟩ ρ O K:=
 dx (bQ (first:=[]) (eY:=[]) he (by simpa using hc)) F ha h hn
def entry (args:List Value):Env:=fun t=>args.getD t undef
structure pD (P:Program) (base:World) (fn:Func) (ρ:Env) (O:List Item) (R:Value→List Item→Prop):Prop where
 ex: ∃v O',Sub O' O∧R v O'∧ ∀w tmps,Inv base O w→(∀t,tmps.getD t undef=ρ t)→(results fn tmps).run P w=.ok v w
def R3 (P:Program) (base:World) (fn:Func) (R:Value→List Item→Prop):jk
 | .normal,ρ,O=>pD P base fn ρ O R
 | .ret,ρ,O=>pD P base fn ρ O R
 |_,_,_=>False
theorem mX {fn:Func} {tmps:Array Value} {M O':List Item} {Rx:Ending→World→Prop} (h: ∀w,Inv base (O'++M) w→ ∃v,(results fn tmps).run P w=.ok v w∧Rx (.returned v) w):
  ∀(D:List Nat) (w:World),Inv base (O'++(mI D++M)) w→LeavesInM Fence.wide 0 P fn tmps Rx (mD D) .returning w
 | [],w,hI=>h w hI
 |b::D,w,hI=>by
  have l6:Inv base (O'++sY b::(mI D++M)) w:=hI
  have hb:w.heap[b]? =some (.deferred (some [])):=l6.holds (sY b) (by simp)
  have eV:=(Array.getElem?_eq_some_iff.1 hb).1
  refine⟨by simp,.inl ⟨b,w.putObj b (.deferred none),F,run_takeDeferred hb,mX h D _ ?_⟩⟩
  have:=Inv.step (N:=[]) (w':=w.putObj b (.deferred none)) l6 F F F (by simp) (fun k _ hk=>World.putObj_heap_other (fun e=>hk (by simp[sY,cR,e]))) (by simp) (by simp) (by simp)
  simpa using this
theorem aw {f:FuncId} {fn:Func} {c:Code} {args:List Value} {R:Value→List Item→Prop} (hf:P.funcs[f]? =some fn) (hb:fn.body=some c) (hn:fn.ntmps=n) (hl:Nat.ble args.length n=true)
  (h:T P none base n c (R3 P base fn R) (entry args) O):bm P base f args O R:=by
 have hl:=Nat.le_of_ble_eq_true hl
 intro w M hI
 rw[←callsIn_wide (n:=0)]
 refine callsIn_of_wp_marks hf hb trivial (wpIn_mono (h _ w M [] trivial ⟨?_,?_,F⟩ hI) ?_)
 ·intro t
  show(args.toArray++Array.replicate (fn.ntmps-args.toArray.size) undef).getD t undef=args.getD t undef
  rw[Array.getD_eq_getD_getElem?,List.getD_eq_getElem?_getD]
  by_cases h:t<args.length
  ·rw[Array.getElem?_append_left (by simpa using h)];simp
  ·rw[Array.getElem?_append_right (by simpa using h)]
   have:args[t]? =none:=by simp;omega
   rw[this,Array.getElem?_replicate]
   split<;>rfl
 ·simp;omega
 ·have key: ∀(a':Act) (w':World) (fB:Env) (O':List Item) (D:List Nat),Ag n (mD D) a' fB→Inv base (O'++(mI D++M)) w'→pD P base fn fB O' R→
    LeavesInM Fence.wide 0 P fn a'.tmps (fun e KG=> ∃v O',e=.returned v∧Inv base (O'++M) KG∧R v O') a'.defers .returning w':=by
   intro a' w' fB O' D h1 h2 h3
   obtain⟨v,wh,wm,hR,hr⟩:=h3.ex
   rw[h1.defers]
   exact mX (fun w hI=>⟨v,hr w a'.tmps hI.left h1.tmp,v,wh,F,hI.iN wm.qR,hR⟩) D w' h2
  rintro e a' w' ⟨fB,O',D,h1,h2,h3⟩
  cases e with
  |normal=>exact key a' w' fB O' D h1 h2 h3
  |ret=>exact key a' w' fB O' D h1 h2 h3
  |_=>exact h3.elim
def lp (q:Loop) (j:Option Code):Obj:=.loop {q with state:=if j.isNone then .ready else .done,pending:=j}
structure G6 (q:Loop) (n:Nat) (ρ:Env) (ps:Array Nat) (assign body:Code):Prop where
 params:q.params=ps
 assign:q.assign=assign
 body:q.body=body
 tmp: ∀t,q.tmps.getD t undef=ρ t
 size:q.tmps.size=n
def MX (Q:jk) (ρ:Env) (O:List Item):Option Code→Prop
 |none=>Q .normal ρ O
 |some .ret=>Q .ret ρ O
 |some (.exit id)=>Q (.exit id) ρ O
 |_=>False
theorem T.rangeFunc {gx:Operand} {ps:Array Nat} {assign body:Code} {Q:jk} {f:FuncId} {fn:Func} {first eY:List Value} (hg:ev ρ gx=.func (.func f) first.toArray eY.toArray) (he:Enters P f fn)
  (h: ∀(l:Nat) (q:Loop),G6 q n ρ ps assign body→bm P base f (first++[.func (.yield l) #[] #[]]++eY) (cR l (lp q none)::O) (fun _ O'=> ∃j wh,O'=cR l (lp q j)::wh∧MX Q ρ wh j)):
  T P r base n (.rangeFunc gx ps assign body) Q ρ O:=by
 have qU: ¬fn.name= "runtime.NumGoroutine" :=by simpa using he.2.1
 obtain⟨bd,G5⟩:=Option.isSome_iff_exists.1 he.2.2
 intro a w M D hM ha hI
 refine wpIn_rangeFunc fun zJ _=>?_
 have hev:a.eval gx=.func (.func f) first.toArray eY.toArray:=by rw[ha.eval];exact hg
 have MY: ∀(l:Nat) (w1:World),(resolve a.eval (rangeCall gx l) 0).run P w1=.ok ⟨.fn (.func f) eY.toArray,(first++[Value.func (.yield l) #[] #[]]).toArray⟩ w1:=fun l w1=>by
  have e:(first++[Value.func (.yield l) #[] #[]]).toArray=first.toArray++ #[.func (.yield l) #[] #[]]:=by simp
  rw[e]
  have hc:a.eval (.const (.func (.yield l) #[] #[]))=.func (.yield l) #[] #[]:=rfl
  simp[resolve,hev,hc,Deferred.ofValue]
 have hinv: ∀(l:Nat) (w1:World),(invoke (.fn (.func f) eY.toArray) (first++[Value.func (.yield l) #[] #[]]).toArray).run P w1=.ok (.enter f (first++[Value.func (.yield l) #[] #[]]++eY).toArray) w1:=fun l w1=>by
  have e:(first++[Value.func (.yield l) #[] #[]]++eY).toArray=(first++[Value.func (.yield l) #[] #[]]).toArray++eY.toArray:=by simp
  rw[e]
  simp[invoke,callFunc,he.1,qU,G5]
 have post: ∀(l:Nat) (q:Loop) (mark:List Deferred) (D':List Nat),mark++mD D=mD D'→ ∀e w',(∃v O',e=Ending.returned v∧Inv base (O'++(mI D'++M)) w'∧ ∃j wh,O'=cR l (lp q j)::wh∧MX Q ρ wh j)→
   rangePost (Fr r) 0 P l (lift base n M Q) {a with defers:=mark++a.defers} e w':=by
  rintro l q mark D' R4 e w' ⟨v,O',rfl,l6,j,wh,rfl,hj⟩
  have hl:w'.heap[l]? =some (lp q j):=l6.holds (cR l (lp q j)) (by simp)
  have eV:=(Array.getElem?_eq_some_iff.1 hl).1
  refine⟨j,_,run_endLoop (P:=P) hl (by simp;split<;>simp),?_⟩
  have nw:Inv base (wh++(mI D'++M)) (w'.putObj l (.loop {({q with state:=if j.isNone then .ready else .done,pending:=j}:Loop)with state:=.exhausted})):=by
   have:=Inv.step (A:=[]) (N:=[]) (w':=w'.putObj l (.loop {({q with state:=if j.isNone then .ready else .done,pending:=j}:Loop)with state:=.exhausted})) (B:=wh++(mI D'++M)) (it:=cR l (lp q j)) l6
    rfl F F (by simp) (fun k _ hk=>World.putObj_heap_other (fun e=>hk (by simp[cR,e]))) (by simp) (by simp) (by simp)
   simpa using this
  have OC:Ag n (mD D') ({a with defers:=mark++a.defers}:Act) ρ:=⟨ha.tmp,ha.size,by simp[ha.defers];exact R4⟩
  cases j with
  |none=>exact⟨ρ,wh,D',OC,nw,hj⟩
  |some c=>
   cases c with
   |ret=>exact wpIn_ret ⟨ρ,wh,D',OC,nw,hj⟩
   |exit id=>exact wpIn_exit ⟨ρ,wh,D',OC,nw,hj⟩
   |_=>exact hj.elim
 cases r with
 |none=>
  have R5:Inv base (sY w.heap.size::(O++(mI D++M))) (w.alloc (.deferred (some []))):=hI.alloc _
  have nw:=R5.alloc (.loop {state:=.ready,pending:=none,fn:=zJ,tmps:=a.tmps,params:=ps,assign,body,defers:=w.heap.size})
  have Wg:Inv base ((cR (w.heap.size+1) (lp {state:=.ready,pending:=none,fn:=zJ,tmps:=a.tmps,params:=ps,assign,body,defers:=w.heap.size} none)::O)++(mI (w.heap.size::D)++M))
    ((w.alloc (.deferred (some []))).alloc (.loop {state:=.ready,pending:=none,fn:=zJ,tmps:=a.tmps,params:=ps,assign,body,defers:=w.heap.size})):=by
   refine nw.perm ?_
   have e:(w.alloc (.deferred (some []))).heap.size=w.heap.size+1:=by simp
   rw[e]
   exact List.Perm.cons _ List.perm_middle
  refine⟨_,_,_,_,_,f,_,_,run_enterLoop_outer (P:=P) (w:=w) zJ a.tmps ps assign body,MY _ _,fun _ _=>trivial,hinv _ _,fun e=>by simp[Fr,Fence.wide]at e,kZ ?_⟩
  refine Calls.mono (h (w.heap.size+1) {state:=.ready,pending:=none,fn:=zJ,tmps:=a.tmps,params:=ps,assign,body,defers:=w.heap.size} ⟨F,F,F,ha.tmp,ha.size⟩ _ _ Wg) ?_
  exact post _ _ _ (w.heap.size::D) F
 |some l0=>
  obtain⟨it,dZ,R6⟩:=hM
  obtain⟨rc,hrc⟩:=R6 w (hI.holds it (by simp[dZ]))
  have nw:=hI.alloc (.loop {state:=.ready,pending:=none,fn:=zJ,tmps:=a.tmps,params:=ps,assign,body,defers:=rc.defers})
  refine⟨_,_,_,_,_,f,_,_,run_enterLoop_inner (P:=P) (w:=w) hrc zJ a.tmps ps assign body,MY _ _,fun _ _=>trivial,hinv _ _,fun e=>by simp[Fr,Fence.wide]at e,kZ ?_⟩
  refine Calls.mono (h w.heap.size {state:=.ready,pending:=none,fn:=zJ,tmps:=a.tmps,params:=ps,assign,body,defers:=rc.defers} ⟨F,F,F,ha.tmp,ha.size⟩ _ (mI D++M) nw) ?_
  exact post _ _ _ D F
def G7:List Nat→List Value→Env→Env
 |t::ts,v::vs,ρ=>G7 ts vs (mS ρ t v)
 |_,_,ρ=>ρ
theorem zK: ∀(ts:List Nat) (vs:List Value) (tmps:Array Value) (ρ:Env),(ts.all fun t=>Nat.blt t n)=true→tmps.size=n→(∀t,tmps.getD t undef=ρ t)→
  (((ts.zip vs).foldl (fun tmps q=>tmps.setIfInBounds q.1 q.2) tmps).size=n∧ ∀t,((ts.zip vs).foldl (fun tmps q=>tmps.setIfInBounds q.1 q.2) tmps).getD t undef=G7 ts vs ρ t)
 | [],vs,tmps,ρ,_,hs,ht=>⟨hs,ht⟩
 |t::ts,[],tmps,ρ,_,hs,ht=>⟨hs,ht⟩
 |t::ts,v::vs,tmps,ρ,hb,hs,ht=>by
  simp only[List.all_cons,Bool.and_eq_true]at hb
  have h1:=Ag.put (a:= {tmps:=tmps,defers:=[]}) (ds:=[]) ⟨ht,hs,F⟩ hb.1 v
  exact zK ts vs _ (mS ρ t v) hb.2 h1.size h1.tmp
def OD (l:Nat) (q:Loop) (R:Value→List Item→Prop):jk
 | .normal,_,O=>R (.bool true) (cR l (lp q none)::O)
 | .ret,_,O=>R (.bool false) (cR l (lp q (some .ret))::O)
 | .exit id,_,O=>R (.bool false) (cR l (lp q (some (.exit id)))::O)
 |_,_,_=>False
theorem Inv.zL {O M:List Item} {w:World} {l:Nat} {o o':Obj} (hI:Inv base (cR l o::O++M) w):Inv base (cR l o'::O++M) (w.putObj l o'):=by
 have hl:w.heap[l]? =some o:=hI.holds (cR l o) (by simp)
 have eV:=(Array.getElem?_eq_some_iff.1 hl).1
 have:=Inv.step (A:=[]) (N:=[cR l o']) (w':=w.putObj l o') (B:=O++M) (it:=cR l o) hI F F F (by simp) (fun k _ hk=>World.putObj_heap_other (fun e=>hk (by simp[cR,e])))
  (by intro x hx;simp at hx;subst hx;exact World.putObj_heap_same eV) (by intro x hx b hb;simp at hx;subst hx;exact .inl hb) (by simp[cR])
 simpa using this
theorem dn.yield {l:Nat} {q:Loop} {ps:Array Nat} {assign body:Code} {args:List Value} {R:Value→List Item→Prop} (hq:G6 q n ρ ps assign body) (hl:args.length=ps.size) (G8:(ps.toList.all fun t=>Nat.blt t n)=true)
  (h:T P (some l) base n assign (GZ (fun ρ O=>T P (some l) base n body (OD l q R) ρ O) (fun _ _ _=>False)) (G7 ps.toList args ρ) O):
  dn P base (.func (.yield l) #[] #[]) args (cR l (lp q none)::O) R:=by
 obtain⟨rfl,rfl,rfl,ht,hs⟩:=hq
 intro w M hI
 have hb:w.heap[l]? =some (.loop {q with state:=.ready,pending:=none}):=hI.holds (cR l (lp q none)) (by simp)
 have G9:(jq (.func (.yield l) #[] #[]) args.toArray).run P w=.ok (.round l q.fn ((q.params.toList.zip args).foldl (fun tmps p=>tmps.setIfInBounds p.1 p.2) q.tmps) q.assign q.body) w:=by
  have h1:=run_yield (P:=P) (args:=args.toArray) hb (by simpa using hl)
  simp only[jq,Deferred.ofValue,invoke,Sem.run_bind,Sem.run_pure,Result.andThen_ok]
  have e:(#[]:Array Value)++args.toArray=args.toArray:=by simp
  rw[e,h1]
  congr 2
  rw[←Array.foldl_toList]
  congr 1
  simp
 rw[G9]
 obtain⟨rZ,htm⟩:=zK q.params.toList args q.tmps ρ G8 hs ht
 refine roundIn_of_wpIn trivial ?_
 have R5:Inv base (O++(mI []++(cR l (lp q none)::M))) w:=hI.perm List.perm_middle
 refine wpIn_mono (h {tmps:=_,defers:=[]} w (cR l (lp q none)::M) [] ⟨cR l (lp q none),by simp,fun w hw=>⟨_,hw⟩⟩ ⟨htm,rZ,F⟩ R5) ?_
 rintro e a1 w1 ⟨ρ1,O1,D1,h1,h2,h3⟩
 cases e with
 |normal=>
  have Rh:Inv base (cR l (lp q none)::(O1++mI D1)++M) w1:=h2.perm (by
   have:(O1++(mI D1++cR l (lp q none)::M))=((O1++mI D1)++cR l (lp q none)::M):=by simp
   rw[this]
   exact List.perm_middle.symm)
  have Cd:w1.heap[l]? =some (.loop {q with state:=.ready,pending:=none}):=Rh.holds (cR l (lp q none)) (by simp)
  refine⟨_,run_beginRound (P:=P) Cd F,?_⟩
  have Wg:=Rh.zL (o':=.loop {({q with state:=.ready,pending:=none}:Loop)with state:=.busy})
  have hI4:Inv base (O1++(mI D1++(cR l (.loop {({q with state:=.ready,pending:=none}:Loop)with state:=.busy})::M))) (w1.putObj l (.loop {({q with state:=.ready,pending:=none}:Loop)with state:=.busy})):=Wg.perm (by
   have:(O1++(mI D1++cR l (.loop {({q with state:=.ready,pending:=none}:Loop)with state:=.busy})::M))=((O1++mI D1)++cR l (.loop {({q with state:=.ready,pending:=none}:Loop)with state:=.busy})::M):=by simp
   rw[this]
   exact List.perm_middle)
  refine wpIn_mono (h3 a1 _ _ D1 ⟨cR l (.loop {({q with state:=.ready,pending:=none}:Loop)with state:=.busy}),by simp,fun w hw=>⟨_,hw⟩⟩ h1 hI4) ?_
  rintro e a2 w2 ⟨ρ2,O2,D2,k1,k2,k3⟩
  have YF:Inv base (cR l (.loop {({q with state:=.ready,pending:=none}:Loop)with state:=.busy})::(O2++mI D2)++M) w2:=k2.perm (by
   have:(O2++(mI D2++cR l (.loop {({q with state:=.ready,pending:=none}:Loop)with state:=.busy})::M))=((O2++mI D2)++cR l (.loop {({q with state:=.ready,pending:=none}:Loop)with state:=.busy})::M):=by simp
   rw[this]
   exact List.perm_middle.symm)
  have zM:w2.heap[l]? =some (.loop {({q with state:=.ready,pending:=none}:Loop)with state:=.busy}):=YF.holds (cR l (.loop {({q with state:=.ready,pending:=none}:Loop)with state:=.busy})) (by simp)
  have fin: ∀j:Option Code,Inv base (cR l (lp q j)::O2++M) (w2.putObj l (lp q j)):=fun j=>by
   have:=YF.zL (o':=lp q j)
   refine this.sub ?_
   simp only[List.cons_append,List.append_assoc]
   exact List.Sublist.cons_cons _ (List.Sublist.append (List.Sublist.refl _) (List.sublist_append_right _ _))
  cases e with
  |normal=>exact⟨_,_,run_endRound (P:=P) none zM,_,_,F,fin none,k3⟩
  |ret=>exact⟨_,_,run_endRound (P:=P) (some .ret) zM,_,_,F,fin (some .ret),k3⟩
  |exit id=>exact⟨_,_,run_endRound (P:=P) (some (.exit id)) zM,_,_,F,fin (some (.exit id)),k3⟩
  |_=>exact k3.elim
 |_=>exact h3.elim
theorem pD.zero {fn:Func} {R:Value→List Item→Prop} (hr:fn.results= #[]) (h:R (.tuple #[]) O):pD P base fn ρ O R:=
 ⟨⟨_,O,bn (List.Sublist.refl _),h,fun w tmps _ _=>results_none hr tmps P w⟩⟩
theorem aE {fn:Func} {R:Value→List Item→Prop} {a:Nat} (v:Value) (hr:fn.results= #[.tmp a]) (hv:ρ a=v) (h:R v O):pD P base fn ρ O R:=
 ⟨⟨_,O,bn (List.Sublist.refl _),h,fun w tmps _ ht=>by rw[results_tmp hr tmps P w,ht,hv]⟩⟩
theorem cy {fn:Func} {R:Value→List Item→Prop} {a b:Nat} (v u:Value) (hr:fn.results= #[.tmp a,.tmp b]) (hv:ρ a=v) (hu:ρ b=u) (h:R (.tuple #[v,u]) O):pD P base fn ρ O R:=
 ⟨⟨_,O,bn (List.Sublist.refl _),h,fun w tmps _ ht=>by rw[results_tmp2 hr tmps P w,ht,ht,hv,hu]⟩⟩
theorem ap {fn:Func} {R:Value→List Item→Prop} (h:pD P base fn ρ O (fun v O1=> ∃O2,Sub O2 O1∧R v O2)):pD P base fn ρ O R:=by
 obtain⟨v,O1,hs,⟨O2,BM,hR⟩,hr⟩:=h.ex
 refine⟨⟨v,O2,?_,hR,hr⟩⟩
 obtain⟨l2,p2,s2⟩:=BM
 obtain⟨l1,p1,s1⟩:=hs
 obtain⟨l3,p3,s3⟩:=List.exists_perm_sublist s2 p1
 exact⟨l3,p2.trans p3.symm,s3.trans s1⟩
theorem n8 {T E:TypeId} {d:TypeDesc} {z:Value} {s fy b:Nat} {cs:List Value} {fr:Nat×Nat} {w:World} (hu:P.underlying T=some d) (ha:mV d=true) (hi:ey P T z s fy) (hl:cs.length=s) (hw:w.heap[b]? =some (.cells cs.toArray E fr)):
  (loadVar T ⟨b,0,none⟩).run P w=.ok (.agg cs.toArray) w:=by
 have h:=j4 (P:=P) (w:=w) (a:=⟨b,0,none⟩) cs 0 #[] (fun j hj=>by
  rw[o_];unfold World.cell?;simp[hw])
 simp[loadVar,gK hu,ha,bi hi,loadCells,←hl,h]
theorem bL {fn:Func} {R:Value→List Item→Prop} {a i:Nat} {T E:TypeId} {d:TypeDesc} {z:Value} {s fy b:Nat} {cs:List Value} {fr:Nat×Nat} (hr:fn.results= #[.cell a T]) (hu:P.underlying T=some d) (ha:mV d=true) (hi:ey P T z s fy) (hp:ρ a=.pointer (some ⟨b,0,none⟩)) (hO:O[i]? =some (cR b (.cells cs.toArray E fr))) (hl:cs.length=s)
  (h:R (.agg cs.toArray) O):pD P base fn ρ O R:=
 ⟨⟨_,O,bn (List.Sublist.refl _),h,fun w tmps hI ht=>by
  have:=n8 (P:=P) hu ha hi hl (hI.s4 hO)
  have Kb:=ht a
  simp only[Array.getD_eq_getD_getElem?]at Kb
  simp[results,hr,Kb,hp,asAddr,this]⟩⟩
theorem io {fn:Func} {R:Value→List Item→Prop} {a i c:Nat} (u:Value) {T E:TypeId} {d:TypeDesc} {z:Value} {s fy b:Nat} {cs:List Value} {fr:Nat×Nat} (hr:fn.results= #[.cell a T,.tmp c]) (hu:P.underlying T=some d) (ha:mV d=true) (hi:ey P T z s fy) (hp:ρ a=.pointer (some ⟨b,0,none⟩)) (hO:O[i]? =some (cR b (.cells cs.toArray E fr))) (hl:cs.length=s) (Rg:ρ c=u)
  (h:R (.tuple #[.agg cs.toArray,u]) O):pD P base fn ρ O R:=
 ⟨⟨_,O,bn (List.Sublist.refl _),h,fun w tmps hI ht=>by
  have:=n8 (P:=P) hu ha hi hl (hI.s4 hO)
  have Kb:=ht a
  have hc:=ht c
  simp only[Array.getD_eq_getD_getElem?]at Kb hc
  simp[results,hr,Kb,hc,Rg,hp,asAddr,this]⟩⟩
end
end Go.Lx

namespace Go.Lx
open Go.RowKit
def cw:List (Nat×Value)→Env→Prop
 | [],_=>True
 |q::L,ρ=>ρ q.1=q.2∧cw L ρ
def zN (L:List (Nat×Value)) (ρ:Env):Env:=L.foldr (fun q r=>mS r q.1 q.2) ρ
theorem cw.of {ρ:Env}: ∀ {L:List (Nat×Value)},L.map (fun q=>ρ q.1)=L.map (·.2)→cw L ρ
 | [],_=>trivial
 |_::_,h=>⟨(List.cons.inj h).1,cw.of (List.cons.inj h).2⟩
theorem uK {ρ:Env}: ∀ {L:List (Nat×Value)},cw L ρ→zN L ρ=ρ
 | [],_=>rfl
 |q::L,h=>by
  have ih:=uK h.2
  show mS (zN L ρ) q.1 q.2=ρ
  rw[ih]
  funext t
  unfold mS
  cases e:Nat.beq t q.1 with
  |false=>rfl
  |true=>rw[Nat.eq_of_beq_eq_true e];exact h.1.symm
theorem cw.elim {L:List (Nat×Value)} {ρ:Env} (h:cw L ρ): ∃fE,ρ=zN L fE:=⟨ρ,(uK h).symm⟩
abbrev ints (xs:List Int):List Value:=xs.map (Value.int .i64)
abbrev aX (xs:List Nat):List Value:=xs.map fun x:Nat=>Value.int .i64 (x:Int)
abbrev bf (xs:List Bool):List Value:=xs.map Value.bool
abbrev x7 (xs:List Nat):List Value:=xs.map fun x:Nat=>Value.int .u8 (x:Int)
theorem fp {xs:List Int} {k:Nat} (h:k<xs.length:=by first|assumption|omega|(simp;omega)|simp_all):(ints xs)[k]? =some (.int .i64 xs[k]):=by simp[h]
theorem fO {xs:List Nat} {k:Nat} (h:k<xs.length:=by first|assumption|omega|(simp;omega)|simp_all):(aX xs)[k]? =some (.int .i64 ((xs[k]:Nat):Int)):=by simp[h]
theorem fY {xs:List Bool} {k:Nat} (h:k<xs.length:=by first|assumption|omega|(simp;omega)|simp_all):(bf xs)[k]? =some (.bool xs[k]):=by simp[h]
theorem zO {xs:List Nat} {k:Nat} (h:k<xs.length:=by first|assumption|omega|(simp;omega)|simp_all):(x7 xs)[k]? =some (.int .u8 ((xs[k]:Nat):Int)):=by simp[h]
def n_ (P:Program) (T:TypeId) (pl:List (Nat×Nat)):Prop:=
 ∃fields,P.underlying T=some (.struct fields)∧ ∀w:World,(fields.mapM fun f=>do pure (f.offset,←sizeOf f.type):Sem (Array (Nat×Nat))).run P w=.ok pl.toArray w
section
variable {P:Program} {base:World} {ρ:Env} {O:List Item} {dst:Option Nat} {t:TypeId} {p:String} {af:Array Edge} {g:Option (Nat×Bool)}
theorem w6 {x y:Operand} {T E:TypeId} {b o n c i:Nat} {k:IntKind} {z:Value} {fy:Nat} (hu:P.underlying T=some (.slice E)) (hi:ey P E z 1 fy) (hx:ev ρ x=.slice (some ⟨b,o,none⟩) n c) (hy:ev ρ y=.int k (i:Int)) (eV:i<n):
  QT P base ⟨dst,.indexAddr T x y,t,p,af,g⟩ ρ O (.pointer (some ⟨b,o+i,none⟩)):=by
 have:=sZ (P:=P) (base:=base) (O:=O) (dst:=dst) (t:=t) (p:=p) (af:=af) (g:=g) hu hi hx hy eV
 rwa[Nat.mul_one]at this
theorem bu {c a b:Operand} {v:Value} (hc:ev ρ c=.bool true) (ha:ev ρ a=v):QT P base ⟨dst,.pick c a b,t,p,af,g⟩ ρ O v:=fun w _=>by simp[execOp,hc,ha,asBool]
theorem bl {c a b:Operand} {v:Value} (hc:ev ρ c=.bool false) (hb:ev ρ b=v):QT P base ⟨dst,.pick c a b,t,p,af,g⟩ ρ O v:=fun w _=>by simp[execOp,hc,hb,asBool]
theorem bG {T:TypeId} {parts:List (Nat×Operand)} {pl:List (Nat×Nat)} {z:Value} {s fy:Nat} {cs:List Value} (hp:n_ P T pl) (hi:ey P T z s fy) (hf:Instr.fill (fun i=>pl[i]?) z.cells (parts.map fun q=>(q.1,ev ρ q.2))=some cs.toArray):
  QT P base ⟨dst,.build T parts.toArray,t,p,af,g⟩ ρ O (.agg cs.toArray):=fun w _=>by
 obtain⟨fields,hu,hm⟩:=hp
 have Vk:Instr.fill (fun i=>pl.toArray[i]?) z.cells (parts.map fun q=>(q.1,ev ρ q.2))=some cs.toArray:=by simpa using hf
 simp only[execOp,Instr.build,Sem.run_bind,fq hi,Result.andThen_ok,aT hu,hm w]
 simp at Vk
 simp[Vk]
end
end Go.Lx

namespace Go.Lx
open Go.RowKit
theorem aq {P:Program} {base:World} {o:Oper} {ρ:Env} {O:List Item} {b b':Bool} (h:QT P base o ρ O (.bool b)) (e:b=b'):QT P base o ρ O (.bool b'):=e▸h
def oe (w:World) (vs:List Value) (rs:List (List Int)):Prop:=
 vs.length=rs.length∧ ∀(i:Nat) (r:List Int),rs[i]? =some r→ ∃b c,vs[i]? =some (Value.slice b r.length c)∧Sl w b (ints r)
theorem oe.get {w:World} {vs:List Value} {rs:List (List Int)} (h:oe w vs rs) {i:Nat} (hi:i<rs.length): ∃b c,vs[i]? =some (Value.slice b rs[i].length c)∧Sl w b (ints rs[i]):=
 h.2 i rs[i] (List.getElem?_eq_getElem hi)
theorem oe.keep {w w':World} {vs:List Value} {rs:List (List Int)} (h:oe w vs rs) (hb: ∀k,k<w.heap.size→w'.heap[k]? =w.heap[k]?):oe w' vs rs:=
 ⟨h.1,fun i r hr=>by obtain⟨b,c,h1,h2⟩:=h.2 i r hr;exact⟨b,c,h1,h2.keep hb⟩⟩
theorem Inv.rows {base:World} {O:List Item} {w:World} (hI:Inv base O w) {vs:List Value} {rs:List (List Int)} (h:oe base vs rs):oe w vs rs:=h.keep hI.below.block
structure Rec where
 b:Option Addr
 c:Nat
 xs:List Int
def Rec.val (q:Rec):Value:=.slice q.b q.xs.length q.c
def Rec.qG (E:TypeId) (q:Rec):Item:=am q.b q.c E 1 (ints q.xs)
abbrev bO (qs:List Rec):List Value:=qs.map Rec.val
abbrev a_ (E:TypeId) (qs:List Rec):List Item:=qs.map (Rec.qG E)
abbrev nums (qs:List Rec):List (List Int):=qs.map Rec.xs
theorem Inv.R7 {base:World} {O:List Item} {w:World} (hI:Inv base O w) {E:TypeId} {qs:List Rec} (h: ∀q∈qs,q.qG E∈O):oe w (bO qs) (nums qs):=by
 refine⟨by simp,fun i r hr=>?_⟩
 obtain⟨q,hq,rfl⟩: ∃q,qs[i]? =some q∧q.xs=r:=by
  rw[List.getElem?_map]at hr
  cases e:qs[i]? with
  |none=>rw[e]at hr;cases hr
  |some q=>rw[e]at hr;exact⟨q,F,by simpa using hr⟩
 refine⟨q.b,q.c,by simp[hq,Rec.val],?_⟩
 exact rowP.sl (hI.holds _ (h q (List.mem_of_getElem? hq)))
theorem Inv.fV {base:World} {O:List Item} {w:World} (hI:Inv base O w) {b:Option Addr} {c:Nat} {T:TypeId} {k:Nat} {cs:List Value} (h:am b c T k cs∈O):Sl w b cs:=rowP.sl (hI.holds _ h)
section
variable {P:Program} {r:Option Nat} {base:World} {n:Nat} {ρ:Env} {O:List Item} {K:Env→List Item→Prop} {d:Nat} {t:TypeId} {p:String} {af:Array Edge} {g:Option (Nat×Bool)} {dst:Option Nat}
theorem bM {T E:TypeId} {x:Operand} {v:Value} {z:Value} {fy:Nat} (hu:P.underlying T=some (.slice E)) (hi:ey P E z 1 fy) (_hz:z.cells.size=1) (hx:ev ρ x=v) (hv:dS v=true)
  (h: ∀b,K (mS ρ d (.slice (some ⟨b,0,none⟩) 1 1)) (am (some ⟨b,0,none⟩) 1 E 1 [v]::O)) (hn:Nat.blt d n=true:=by rfl):LT P r base n ⟨some d,.buildSlice T 1 #[(0,x)],t,p,af,g⟩ ρ O K:=by
 refine bH (parts:=[(0,x)]) (cs:=[v]) hu hi (by omega) ?_ (by simp) h hn
 have hc:v.cells= #[v]:=by cases v<;>simp_all[dS,Value.cells]
 simp[Instr.fill,hx,hc]
 apply Array.ext_getElem?
 intro i
 cases i with
 |zero=>simp
 |succ i=>simp
end
structure bU where
 vars:Int
 start:Int
 next:List (List Int)
 ax:List Bool
 deriving DecidableEq
structure fZ (w:World) (d:bU) (nb:Option Addr) (vs:List Value) (fb:Option Addr):Prop where
 outer:Sl w nb vs
 rows:oe w vs d.next
 ax:Sl w fb (bf d.ax)
theorem fZ.keep {w w':World} {d:bU} {nb:Option Addr} {vs:List Value} {fb:Option Addr} (h:fZ w d nb vs fb) (hb: ∀k,k<w.heap.size→w'.heap[k]? =w.heap[k]?):fZ w' d nb vs fb:=
 ⟨h.outer.keep hb,h.rows.keep hb,h.ax.keep hb⟩
theorem Inv.zP {base:World} {O:List Item} {w:World} (hI:Inv base O w) {d:bU} {nb:Option Addr} {vs:List Value} {fb:Option Addr} (h:fZ base d nb vs fb):fZ w d nb vs fb:=h.keep hI.below.block
abbrev dB (d:bU) (nb:Option Addr) (nc:Nat) (fb:Option Addr) (fc:Nat):List Value:=[.int .i64 d.vars,.int .i64 d.start,.slice nb d.next.length nc,.slice fb d.ax.length fc]
end Go.Lx

namespace Go.Lx
def sW (n:Nat) (r:List Int):Bool:=r.all fun x=>decide (0≤x)&&decide (x<(n:Int))
def qM (L n:Nat):List (List Int)→Nat
 | []=>0
 |r::rs=>if r.length≠L then 2 else if sW n r=true then qM L n rs else 8
def cE (d:bU):Nat:=
 if¬(0≤d.vars∧d.vars≤6)then 7
 else if d.next.length=0 then 3
 else if 4096<d.next.length then 4
 else if d.ax.length≠d.next.length then 2
 else if d.start<0∨(d.next.length:Int)≤d.start then 8
 else qM (2^d.vars.toNat) d.next.length d.next
theorem qN {L n:Nat} {rs:List (List Int)} {k:Nat} (hk:k<rs.length):qM L n (rs.drop k)=if rs[k].length≠L then 2 else if sW n rs[k]=true then qM L n (rs.drop (k+1))else 8:=by
 rw[List.drop_eq_getElem_cons hk];rfl
theorem E9 {L n:Nat} {rs:List (List Int)} {k:Nat} (hk:rs.length≤k):qM L n (rs.drop k)=0:=by
 rw[List.drop_eq_nil_of_le hk];rfl
structure Val (d:bU):Prop where
 v0:0≤d.vars
 v6:d.vars≤6
 n0:0<d.next.length
 fin:d.ax.length=d.next.length
 s0:0≤d.start
 s1:d.start<(d.next.length:Int)
 len: ∀r∈d.next,r.length=2^d.vars.toNat
 ok: ∀r∈d.next,∀x∈r,0≤x∧x<(d.next.length:Int)
structure Valid (d:bU):Prop extends Val d where
 n4:d.next.length≤4096
instance {d:bU}:Coe (Valid d) (Val d):=⟨Valid.toVal⟩
theorem qF {L n:Nat}: ∀ {rs:List (List Int)},qM L n rs=0↔(∀r∈rs,r.length=L)∧ ∀r∈rs,∀x∈r,0≤x∧x<(n:Int)
 | []=>by simp[qM]
 |r::rs=>by
  have ih:=qF (L:=L) (n:=n) (rs:=rs)
  simp only[qM]
  by_cases h:r.length=L
  ·by_cases h2:sW n r=true
   ·simp only[h,ne_eq,not_true_eq_false,if_false,h2,if_true,ih,List.mem_cons,forall_eq_or_imp,true_and]
    have h3: ∀x∈r,0≤x∧x<(n:Int):=by simpa[sW]using h2
    exact⟨fun q=>⟨q.1,h3,q.2⟩,fun q=>⟨q.1,q.2.2⟩⟩
   ·simp only[h,ne_eq,not_true_eq_false,if_false,h2]
    refine⟨fun q=>by simp at q,fun q=>(h2 ?_).elim⟩
    have:=q.2 r (by simp)
    simpa[sW]using this
  ·simp only[ne_eq,h,not_false_eq_true,if_true]
   exact⟨fun q=>by simp at q,fun q=>(h (q.1 r (by simp))).elim⟩
theorem dq {d:bU}:cE d=0↔Valid d:=by
 unfold cE
 constructor
 ·intro h
  split at h;·cases h
  split at h;·cases h
  split at h;·cases h
  split at h;·cases h
  split at h;·cases h
  rename_i h1 h2 h3 h4 h5
  obtain⟨h6,h7⟩:=qF.1 h
  simp only[Classical.not_not]at h1 h4
  exact⟨⟨h1.1,h1.2,by omega,h4,by omega,by omega,h6,h7⟩,by omega⟩
 ·intro h
  rw[if_neg (by have:=h.v0;have:=h.v6;simp;omega),if_neg (by have:=h.n0;omega),if_neg (by have:=h.n4;omega),if_neg (by simp[h.fin]),if_neg (by have:=h.s0;have:=h.s1;omega)]
  exact qF.2 ⟨h.len,h.ok⟩
theorem Val.width {d:bU} (h:Val d):2^d.vars.toNat≤64:=
 Nat.le_trans (Nat.pow_le_pow_right (by omega) (show d.vars.toNat≤6 by have:=h.v0;have:=h.v6;omega)) (by decide)
theorem Val.uA {d:bU} (h:Val d): ∀r∈d.next,r.length<9223372036854775807:=fun r hr=>by
 have:=h.len r hr;have:=h.width;omega
end Go.Lx

namespace Go.Lx
open Go.RowKit
noncomputable def one (a b:Item):Nat:=open Classical in if b=a then 1 else 0
noncomputable def ud (a:Item):List Item→Nat
 | []=>0
 |b::l=>one a b+ud a l
theorem Du (a:Item):ud a []=0:=rfl
theorem mb (a b:Item) (l:List Item):ud a (b::l)=one a b+ud a l:=rfl
theorem mY (a:Item) (l m:List Item):ud a (l++m)=ud a l+ud a m:=by
 induction l with
 |nil=>simp[ud]
 |cons b l ih=>rw[List.cons_append,mb,ih,mb];omega
theorem KM {a:Item} {l:List Item} (h:0<ud a l): ∃l1 l2,l=l1++a::l2:=by
 induction l with
 |nil=>simp[ud]at h
 |cons b l ih=>
  by_cases e:b=a
  ·subst e;exact⟨[],l,F⟩
  ·obtain⟨l1,l2,rfl⟩:=ih (by simpa[ud,one,e]using h)
   exact⟨b::l1,l2,F⟩
theorem s5: ∀ {l m:List Item},(∀a,ud a l=ud a m)→l.Perm m
 | [],m,h=>by
  cases m with
  |nil=>exact List.Perm.refl _
  |cons b m=>have:=h b;simp[ud,one]at this;omega
 |b::l,m,h=>by
  obtain⟨m1,m2,rfl⟩:=KM (a:=b) (l:=m) (by rw[←h b];simp[ud,one];omega)
  have h': ∀a,ud a l=ud a (m1++m2):=fun a=>by
   have:=h a
   rw[mb,mY,mb]at this
   rw[mY];omega
  exact(List.Perm.cons b (s5 h')).trans List.perm_middle.symm
theorem Sub.ud {O' O:List Item} (D:List Item) (h: ∀a,Lx.ud a (O'++D)=Lx.ud a O):Sub O' O:=by
 have hp:=s5 h
 obtain⟨l,h1,h2⟩:=List.exists_perm_sublist (List.sublist_append_left O' D) hp
 exact⟨l,h1.symm,h2⟩
def G_:List Item→Nat→List Item
 | [],_=>[]
 |a::_,0=>[a]
 |_::l,i+1=>G_ l i
def qV:List Item→Nat→List Item
 | [],_=>[]
 |_::l,0=>l
 |a::l,i+1=>a::qV l i
def uL:List Nat→List Item→List Item
 | [],_=>[]
 |i::is,L=>G_ L i++uL is (qV L i)
def w7:List Nat→List Item→List Item
 | [],L=>L
 |i::is,L=>w7 is (qV L i)
theorem w_: ∀(L:List Item) (i:Nat),(G_ L i++qV L i).Perm L
 | [],i=>List.Perm.refl _
 |a::l,0=>List.Perm.refl _
 |a::l,i+1=>by
  have ih:=w_ l i
  show(G_ l i++a::qV l i).Perm (a::l)
  exact List.perm_middle.trans (List.Perm.cons a ih)
theorem pe: ∀(is:List Nat) (L:List Item),(uL is L++w7 is L).Perm L
 | [],L=>List.Perm.refl _
 |i::is,L=>by
  show((G_ L i++uL is (qV L i))++w7 is (qV L i)).Perm L
  rw[List.append_assoc]
  exact((pe is (qV L i)).append_left _).trans (w_ L i)
theorem lU {O' D O:List Item} (h:(O'++D).Perm O):Sub O' O:=by
 obtain⟨l,h1,h2⟩:=List.exists_perm_sublist (List.sublist_append_left O' D) h
 exact⟨l,h1.symm,h2⟩
theorem ar (is:List Nat) {L O':List Item} (h:uL is L=O'):Sub O' L:=h▸lU (pe is L)
theorem iZ (is:List Nat) (L R:List Item) {O' O:List Item} (h:uL is L++R=O') (h2:L++R=O):Sub O' O:=by
 subst h;subst h2;exact(ar is F).qR
theorem dW (is:List Nat) (L R:List Item) {O' O:List Item} (h:uL is L=O') (h2:L++R=O):Sub O' O:=by
 subst h;subst h2;exact lU (D:=w7 is L++R) (by rw[←List.append_assoc];exact(pe is L).append_right R)
section
variable {X:PX} {P:Program} {r:Option Nat} {base:World} {n:Nat} {ρ:Env} {O O' S:List Item} {K:Env→List Item→Prop} {ops:Array Oper} {l:List Oper} {tail:List Nat} {od:List (Nat×Nat)}
theorem cQ (hs:Sub O' O) (h:TO X P r base n ops l K ρ O'):TO X P r base n ops l K ρ O:=fun Q a w M D hk ha hi=>h Q a w M D hk ha (hi.iN hs.qR)
theorem dL {S2:List Item} {cn:List Nat} (hs:Sub O' O) (h:DO X P r base n ops S tail S2 cn od K ρ O'):DO X P r base n ops S tail S2 cn od K ρ O:=
 fun h1 jO h3 listed h4 Q a w M D hq hp ha hI l_ hS=>h h1 jO h3 listed h4 Q a w M D hq hp ha (hI.iN hs.qR) l_ hS
theorem bm.sub {f:FuncId} {args:List Value} {R:Value→List Item→Prop} (hs:Sub O' O) (h:bm P base f args O' R):bm P base f args O R:=fun w M hI=>h w M (hI.iN hs.qR)
end
end Go.Lx

namespace Go.Lx
open Go.RowKit
section
variable {P:Program} {base:World} {ρ:Env} {O:List Item} {dst:Option Nat} {t:TypeId} {p:String} {af:Array Edge} {g:Option (Nat×Bool)}
theorem R8 {x y:Operand} {T U:TypeId} {k k':IntKind} {a b:Int} (hx:ev ρ x=.int k a) (hy:ev ρ y=.int k' b) (h0:0≤b):QT P base ⟨dst,.binOp .shl T x y U,t,p,af,g⟩ ρ O (.int k (k.wrap (a*2^(min b.toNat k.bits)))):=fun w _=>by
 have: ¬b<0:=by omega
 simp[execOp,hx,hy,eqGuard,binOp,Op.shift,this]
theorem kV {x y:Operand} {T U:TypeId} {k':IntKind} {v:Nat} (hx:ev ρ x=.int .i64 1) (hy:ev ρ y=.int k' (v:Int)) (hv:v≤60):QT P base ⟨dst,.binOp .shl T x y U,t,p,af,g⟩ ρ O (.int .i64 ((2^v:Nat):Int)):=by
 have h:=R8 (P:=P) (base:=base) (O:=O) (dst:=dst) (t:=t) (p:=p) (af:=af) (g:=g) (T:=T) (U:=U) hx hy (by omega)
 have e:min (v:Int).toNat (IntKind.i64.bits)=v:=by
  have:IntKind.i64.bits=64:=rfl
  rw[this];simp;omega
 rw[e]at h
 have Ds:(2:Nat)^v≤2^60:=Nat.pow_le_pow_right (by omega) hv
 have h60:(2:Nat)^60=1152921504606846976:=by rfl
 have e2:(1:Int)*2^v=((2^v:Nat):Int):=by rw[Int.one_mul,Int.natCast_pow];rfl
 rw[e2]at h
 rw[h60]at Ds
 generalize(2:Nat)^v=q at*
 rwa[fz (by omega)]at h
theorem RG {x y:Operand} {ws:Array TypeId} {k k':IntKind} {a b:Int} (hx:ev ρ x=.int k a) (hy:ev ρ y=.int k' b):QT P base ⟨dst,.call ⟨.builtin .min,#[x,y],ws⟩,t,p,af,g⟩ ρ O (.int k (if b<a then b else a)):=fun w _=>by
 simp[execOp,resolve,hx,hy,invoke,builtin,Builtin.min_,Builtin.min2]
theorem RH {x y:Operand} {ws:Array TypeId} {k k':IntKind} {a b:Int} (hx:ev ρ x=.int k a) (hy:ev ρ y=.int k' b):QT P base ⟨dst,.call ⟨.builtin .max,#[x,y],ws⟩,t,p,af,g⟩ ρ O (.int k (if b>a then b else a)):=fun w _=>by
 simp[execOp,resolve,hx,hy,invoke,builtin,Builtin.max_,Builtin.max2]
def str (l:List UInt8):Value:=.string ⟨l.toArray⟩
theorem uM {x:Operand} {T:TypeId} {l:List UInt8} (hu:P.underlying T=some .string) (hx:ev ρ x=str l):QT P base ⟨dst,.call ⟨.builtin .len,#[x],#[T]⟩,t,p,af,g⟩ ρ O (.int .i64 (l.length:Int)):=fun w _=>by
 have e:(ByteArray.mk l.toArray).size=l.length:=by show l.toArray.size=_;simp
 simp[execOp,resolve,hx,str,invoke,builtin,Builtin.len_,aT hu,goInt,e]
abbrev bZ (l:List UInt8):List Value:=l.map fun b:UInt8=>Value.int .u8 (b.toNat:Int)
theorem uN (l:List UInt8):((bZ l).all dS)=true:=by simp[dS]
theorem KN {w:World} {b:Option Addr} {n c:Nat} {l:List UInt8} (h:Sl w b (bZ l)) (hl:l.length=n):(Conv.bytesToString (.slice b n c)).run P w=.ok (str l) w:=by
 subst hl
 cases b with
 |none=>
  have:l=[]:=by
   cases l with
   |nil=>rfl
   |cons a l=>obtain⟨_,h1,_⟩:=h 0 (by simp);cases h1
  subst this;rfl
 |some a=>
  obtain⟨k,o,sp⟩:=a
  have hl:=gz (P:=P) (c:=c) (m:=l.length) (s:=1) h (by simp) (by simp)
  simp only[Builtin.firstCells,Nat.mul_one]at hl
  have fold: ∀(l:List UInt8) (gq:ByteArray),List.foldl (fun(b:ByteArray) (a:UInt8)=>ByteArray.mk (b.data.push a)) gq l=⟨(gq.data.toList++l).toArray⟩:=by
   intro l
   induction l with
   |nil=>intro gq;simp
   |cons b l ih=>intro gq;rw[List.foldl_cons,ih];simp
  simp only[Conv.bytesToString,Sem.run_bind,hl,Result.andThen_ok]
  simp[bZ,ByteArray.push,fold,str]
theorem zQ {x:Operand} {S D E:TypeId} {b:Option Addr} {n c c' k:Nat} {l:List UInt8} (hs:P.underlying S=some (.slice E)) (hd:P.underlying D=some .string) (he:P.underlying E=some (.int .u8)) (hx:ev ρ x=.slice b n c)
  (hO:am b c' E k (bZ l)∈O) (hl:l.length=n):QT P base ⟨dst,.convert S D x,t,p,af,g⟩ ρ O (str l):=fun w hI=>by
 simp[execOp,hx,convert,aT hs,aT hd,aT he,KN (hI.fV hO) hl]
def OE {α β:Type} (K:α→Value) (V:β→Value) (m:Nat) (l:List (α×β)) (w:World):Prop:=
 ∃es wi,w.heap[m]? =some (.map es wi)∧es.toList.map (fun e=>(e.key,e.val))=(l.map fun q=>(K q.1,V q.2))∧(es.toList.map (·.born)).Nodup∧ ∀e∈es.toList,e.born<wi
def cm {α β:Type} (K:α→Value) (V:β→Value) (m:Nat) (l:List (α×β)):Item where
 blocks:=[m]
 P:=OE K V m l
 loc:=fun w w' h hp=>by
  obtain⟨es,wi,h1,h2⟩:=hp
  exact⟨es,wi,by rw[h m (by simp)];exact h1,h2⟩
def jG {α:Type} [DecidableEq α] (a:α):List α→List MapEntry→Nat→Option (Nat×Value)
 |k::ks,e::es,i=>if a=k then some (i,e.val)else jG a ks es (i+1)
 |_,_,_=>none
structure eN (P:Program) {α:Type} [DecidableEq α] (kt:TypeId) (K:α→Value):Prop where
 check: ∀e a w,(Instr.checkKey e 10000 kt (K a)).run P w=.ok () w
 find: ∀(es:List MapEntry) (ks:List α) (a:α) (w:World),es.map (·.key)=ks.map K→(Instr.findKey kt (K a) es).run P w=.ok (jG a ks es 0) w
theorem Ha (a b:List UInt8):((⟨a.toArray⟩:ByteArray)==⟨b.toArray⟩)=decide (a=b):=by
 show(a.toArray==b.toArray)=_
 by_cases e:a=b
 ·subst e;simp
 ·simp[e]
theorem eN.string {kt:TypeId} (hu:P.underlying kt=some .string):eN P kt str where
 check:=fun e a w=>by
  show(Instr.checkKey e (9999+1) kt _).run P w=_
  rw[Instr.checkKey]
  simp[aT hu,str]
 find:=fun es ks a w h=>by
  have key: ∀(es:List MapEntry) (ks:List (List UInt8)) (i:Nat),es.map (·.key)=ks.map str→Instr.findNow .string (str a) es i=some (jG a ks es i):=by
   intro es
   induction es with
   |nil=>intro ks i h;cases ks<;>simp_all[Instr.findNow,jG]
   |cons e es ih=>
    intro ks i h
    cases ks with
    |nil=>simp at h
    |cons b ks=>
     simp only[List.map_cons,List.cons.injEq]at h
     simp only[Instr.findNow,h.1,Instr.sameNow,str,Ha,jG]
     by_cases e:a=b
     ·simp[e]
     ·have:=ih ks (i+1) h.2
      simp only[str]at this
      simp[e,this]
  simp[Instr.findKey,aT hu,key es ks 0 h]
theorem uO {α:Type} [DecidableEq α] {a:α}: ∀(ks:List α) (es:List MapEntry) (i:Nat),a∉ks→jG a ks es i=none
 | [],_,_,_=>rfl
 |k::ks,[],_,_=>rfl
 |k::ks,e::es,i,h=>by
  simp only[List.mem_cons,not_or]at h
  simp[jG,h.1,uO ks es (i+1) h.2]
def j9 {α β:Type} [DecidableEq α] (a:α):List (α×β)→Option β
 | []=>none
 |q::l=>if a=q.1 then some q.2 else j9 a l
theorem uP {α β:Type} [DecidableEq α] {K:α→Value} {V:β→Value} {a:α}: ∀(l:List (α×β)) (es:List MapEntry) (i:Nat),es.map (fun e=>(e.key,e.val))=l.map (fun q=>(K q.1,V q.2))→(jG a (l.map Prod.fst) es i).map Prod.snd=(j9 a l).map V
 | [],es,i,h=>by cases es<;>rfl
 |q::l,[],i,h=>by simp at h
 |q::l,e::es,i,h=>by
  simp only[List.map_cons,List.cons.injEq,Prod.mk.injEq]at h
  simp only[List.map_cons,jG,j9]
  by_cases e:a=q.1
  ·simp[e,h.1.2]
  ·simp only[e,if_false];exact uP l es (i+1) h.2
theorem Dv {α β:Type} {K:α→Value} {V:β→Value} {es:List MapEntry} {l:List (α×β)} (h:es.map (fun e=>(e.key,e.val))=l.map (fun q=>(K q.1,V q.2))):es.map (·.key)=(l.map Prod.fst).map K:=by
 have:=congrArg (List.map Prod.fst) h
 simpa[Function.comp_def]using this
theorem og {x:Operand} {T kt vt:TypeId} {m:Nat} {α β:Type} {K:α→Value} {V:β→Value} {l:List (α×β)} (hu:P.underlying T=some (.map kt vt)) (hx:ev ρ x=.map (some m)) (hO:cm K V m l∈O):
  QT P base ⟨dst,.call ⟨.builtin .len,#[x],#[T]⟩,t,p,af,g⟩ ρ O (.int .i64 (l.length:Int)):=fun w hI=>by
 obtain⟨es,wi,h1,h2,_⟩:=hI.holds _ hO
 have hl:es.size=l.length:=by have:=congrArg List.length h2;simpa using this
 simp[execOp,resolve,hx,invoke,builtin,Builtin.len_,aT hu,getObj,Sem.run,h1,goInt,hl]
theorem uQ {T kt vt:TypeId} {m:Nat} {α β:Type} [DecidableEq α] {K:α→Value} {V:β→Value} {l:List (α×β)} {z:Value} {s fy:Nat} {w:World} (hu:P.underlying T=some (.map kt vt)) (hz:ey P vt z s fy) (hk:eN P kt K) (h:OE K V m l w) (a:α) (ok:Bool):
  (Instr.lookup T (.map (some m)) (K a) ok).run P w=.ok (if ok then .tuple #[((j9 a l).map V).getD z,.bool (j9 a l).isSome]else((j9 a l).map V).getD z) w:=by
 obtain⟨es,wi,h1,h2,h3,h4⟩:=h
 have hf:=hk.find es.toList (l.map Prod.fst) a w (Dv h2)
 have hl:=uP (a:=a) l es.toList 0 h2
 have hg:(getObj m).run P w=.ok (.map es wi) w:=by simp[getObj,Sem.run,h1]
 simp only[Instr.lookup,Sem.run_bind,aT hu,Result.andThen_ok,hg,Sem.run_pure,hk.check,hf]
 cases e:jG a (l.map Prod.fst) es.toList 0 with
 |none=>
  rw[e]at hl
  have:j9 a l=none:=by cases e2:j9 a l with|none=>rfl|some v=>rw[e2]at hl;cases hl
  simp[fq hz,this]
 |some q=>
  rw[e]at hl
  obtain⟨i,v⟩:=q
  cases e2:j9 a l with
  |none=>rw[e2]at hl;cases hl
  |some u=>
   rw[e2]at hl
   simp at hl
   simp[hl]
theorem oh {x y:Operand} {T kt vt:TypeId} {m:Nat} {α β:Type} [DecidableEq α] {K:α→Value} {V:β→Value} {l:List (α×β)} {z:Value} {s fy:Nat} {a:α} (hu:P.underlying T=some (.map kt vt)) (hz:ey P vt z s fy) (hk:eN P kt K)
  (hx:ev ρ x=.map (some m)) (hy:ev ρ y=K a) (hO:cm K V m l∈O):QT P base ⟨dst,.lookup T x y false,t,p,af,g⟩ ρ O (((j9 a l).map V).getD z):=fun w hI=>by
 have:=uQ hu hz hk (hI.holds _ hO) a false
 simp[execOp,hx,hy,this]
theorem gL {x y:Operand} {T kt vt:TypeId} {m:Nat} {α β:Type} [DecidableEq α] {K:α→Value} {V:β→Value} {l:List (α×β)} {z:Value} {s fy:Nat} {a:α} (hu:P.underlying T=some (.map kt vt)) (hz:ey P vt z s fy) (hk:eN P kt K)
  (hx:ev ρ x=.map (some m)) (hy:ev ρ y=K a) (hO:cm K V m l∈O):QT P base ⟨dst,.lookup T x y true,t,p,af,g⟩ ρ O (.tuple #[((j9 a l).map V).getD z,.bool (j9 a l).isSome]):=fun w hI=>by
 have:=uQ hu hz hk (hI.holds _ hO) a true
 simp[execOp,hx,hy,this]
end
section
variable {P:Program} {r:Option Nat} {base:World} {n:Nat} {ρ:Env} {O:List Item} {K':Env→List Item→Prop} {d:Nat} {t:TypeId} {p:String} {af:Array Edge} {g:Option (Nat×Bool)}
theorem i_ {T:TypeId} {α β:Type} (K:α→Value) (V:β→Value) (h: ∀m,K' (mS ρ d (.map (some m))) (cm K V m []::O)) (hn:Nat.blt d n=true:=by rfl):LT P r base n ⟨some d,.makeMap T none,t,p,af,g⟩ ρ O K':=
 gH hn fun w M hI=>⟨.map (some w.heap.size),w.alloc (.map #[] 0),_,by simp[execOp,Instr.makeMap],by
  refine Inv.new (O:=O++M) (N:=[cm K V w.heap.size []]) (w':=w.alloc (.map #[] 0)) hI F F F (by simp) (fun b hb=>Below.heap_alloc w _ b hb) ?_ ?_ (by simp[cm])
  ·intro x hx
   simp at hx;subst hx
   exact⟨#[],0,by show(w.heap.push _)[w.heap.size]? =_;simp,F,by simp,by simp⟩
  ·intro x hx b hb
   simp at hx;subst hx
   simp[cm]at hb;subst hb
   simp,h _⟩
theorem Dw {T kt vt:TypeId} {m:Nat} {α β:Type} [DecidableEq α] {K:α→Value} {V:β→Value} {l:List (α×β)} {w:World} {a:α} {v:β} (hu:P.underlying T=some (.map kt vt)) (hk:eN P kt K) (h:OE K V m l w) (uR:a∉l.map Prod.fst):
  ∃es wi,(Instr.mapUpdate T (.map (some m)) (K a) (V v)).run P w=.ok () (im w m (.map es wi))∧es.toList.map (fun e=>(e.key,e.val))=((l++[(a,v)]).map fun q=>(K q.1,V q.2))∧(es.toList.map (·.born)).Nodup∧ ∀e∈es.toList,e.born<wi:=by
 obtain⟨es,wi,h1,h2,h3,h4⟩:=h
 have hf:=hk.find es.toList (l.map Prod.fst) a w (Dv h2)
 rw[uO _ _ _ uR]at hf
 have hg:(getObj m).run P w=.ok (.map es wi) w:=by simp[getObj,Sem.run,h1]
 have hs: ∀o,(setObj m o).run P w=.ok () (im w m o):=fun o=>by simp[setObj,Sem.run,h1,im]
 refine⟨es.push {key:=K a,val:=V v,born:=wi},wi+1,?_,by simp[h2],?_,?_⟩
 rotate_left
 ·simp only[Array.toList_push,List.map_append,List.map_cons,List.map_nil,List.nodup_append]
  refine⟨h3,by simp,fun x hx y hy e=>?_⟩
  obtain⟨z,hz,rfl⟩:=List.mem_map.1 hx
  simp at hy;have:=h4 z hz;omega
 ·intro e he
  simp only[Array.toList_push,List.mem_append,List.mem_singleton]at he
  rcases he with he|rfl
  ·have:=h4 e he;omega
  ·simp
 simp only[Instr.mapUpdate,Sem.run_bind,aT hu,Result.andThen_ok,hg,hk.check,hf,hs]
theorem Inv.Hb {w:World} {M:List Item} {α β:Type} {K:α→Value} {V:β→Value} {m i:Nat} {l l':List (α×β)} (hI:Inv base (O++M) w) (hO:O[i]? =some (cm K V m l)) {es:Array MapEntry} {wi:Nat} (h:es.toList.map (fun e=>(e.key,e.val))=(l'.map fun q=>(K q.1,V q.2))∧(es.toList.map (·.born)).Nodup∧ ∀e∈es.toList,e.born<wi):
  Inv base (O.set i (cm K V m l')++M) (im w m (.map es wi)):=by
 obtain⟨es0,aat,h1,_,_⟩:=hI.holds (cm K V m l) (List.mem_append_left _ (List.mem_of_getElem? hO))
 have eV:=(Array.getElem?_eq_some_iff.1 h1).1
 rw[←mW hO]
 exact hI.p6 (kX hO) F F F (by rw[se];exact Nat.le_refl _) (fun k _ hk=>p_ (fun e=>hk (by simp[cm,e]))) ⟨es,wi,jQ eV,h⟩ (fun k hk=>.inl hk) (by simp[cm])
theorem me (i:Nat) {x y z:Operand} {T kt vt:TypeId} {m:Nat} {α β:Type} [DecidableEq α] {K:α→Value} {V:β→Value} {l:List (α×β)} {a:α} {v:β} (hu:P.underlying T=some (.map kt vt)) (hk:eN P kt K) (hx:ev ρ x=.map (some m)) (hy:ev ρ y=K a) (hz:ev ρ z=V v)
  (hO:O[i]? =some (cm K V m l)) (uR:a∉l.map Prod.fst) (h:K' ρ (O.set i (cm K V m (l++[(a,v)])))):LT P r base n ⟨none,.mapUpdate T x y z,t,p,af,g⟩ ρ O K':=
 kD fun w M hI=>by
  obtain⟨es,wi,hr,Wh⟩:=Dw (v:=v) hu hk (hI.holds (cm K V m l) (List.mem_append_left _ (List.mem_of_getElem? hO))) uR
  exact⟨im w m (.map es wi),_,by simp[execOp,hx,hy,hz,hr],hI.Hb hO Wh,h⟩
theorem ep (i:Nat) {x y z:Operand} {T kt vt:TypeId} {m:Nat} {α β:Type} [DecidableEq α] {K:α→Value} {V:β→Value} {l:List (α×β)} {a:α} {v:β} (hu:P.underlying T=some (.map kt vt)) (hk:eN P kt K) (hx:ev ρ x=.map (some m)) (hy:ev ρ y=K a) (hz:ev ρ z=V v)
  (hO:O[i]? =some (cm K V m l)) (uR:a∉l.map Prod.fst) (h:K' ρ (O.set i (cm K V m (l++[(a,v)])))):LT P r base n ⟨none,.insert T x y z,t,p,af,g⟩ ρ O K':=
 kD fun w M hI=>by
  obtain⟨es,wi,hr,Wh⟩:=Dw (v:=v) hu hk (hI.holds (cm K V m l) (List.mem_append_left _ (List.mem_of_getElem? hO))) uR
  exact⟨im w m (.map es wi),_,by simp[execOp,hx,hy,hz,hr],hI.Hb hO Wh,h⟩
end
end Go.Lx

namespace Go.Lx
open Go.RowKit
section
variable {P:Program} {base:World} {ρ:Env} {O:List Item} {dst:Option Nat} {t:TypeId} {p:String} {af:Array Edge} {g:Option (Nat×Bool)}
end
section
variable {P:Program} {r:Option Nat} {base:World} {n:Nat} {ρ:Env} {O:List Item} {K:Env→List Item→Prop} {d:Nat} {t:TypeId} {p:String} {af:Array Edge} {g:Option (Nat×Bool)}
theorem Src.str {s:List UInt8} {m:Nat} (hl:s.length=m):Src P base O 1 m (str s) (bZ s):=
 ⟨by simp[hl],fun w=>by
  have e:(ByteArray.mk s.toArray).size=m:=by show s.toArray.size=_;simp[hl]
  simp[Lx.str,Builtin.lenOf,e],fun w _=>by
  subst hl
  have e:(ByteArray.mk s.toArray).extract 0 s.length=ByteArray.mk s.toArray:=by
   have:=ByteArray.extract_zero_size (b:=ByteArray.mk s.toArray)
   simpa[ByteArray.size]using this
  simp[Lx.str,Builtin.firstCells,e,bZ]⟩
theorem xa {T U E:TypeId} {b:Option Addr} {m c l fy:Nat} {x y:Operand} {z:Value} {cs:List Value} {s:List UInt8} (j:Nat)
  (hu:P.underlying T=some (.slice E)) (KJ:P.underlying U=some .string) (hi:ey P E z 1 fy) (hz:z.cells.size=1)
  (hx:ev ρ x=.slice b m c) (hy:ev ρ y=str s) (hO:O[j]? =some (am b c E 1 cs)) (hl:cs.length=m) (hs:s.length=l)
  (rZ:(m+l)*fy≤70368744177664) (MS:fy≤1000000) (Fj:0<fy)
  (h: ∀b' c',K (mS ρ d (.slice b' (m+l) c')) (O.set j (am b' c' E 1 (cs++bZ s)))) (hn:Nat.blt d n=true:=by rfl):
  LT P r base n ⟨some d,.call ⟨.builtin .append,#[x,y],#[T,U]⟩,t,p,af,g⟩ ρ O K:=
 gH hn fun w M hI=>by
  obtain⟨b',c',w',hr,l6⟩:=qe (ty:=t) hu KJ (.inr F) hi hz (kX hO) (by simpa using hl) (by decide) (Src.qR (Src.str hs)) (uN s) rZ MS Fj hI
  rw[mW hO]at l6
  refine⟨_,w',_,?_,l6,h b' c'⟩
  simp[execOp,resolve,hx,hy,invoke,builtin,hr]
end
theorem a7 {P:Program} {base:World} {o:Oper} {ρ:Env} {O:List Item} {v v':Value} (h:QT P base o ρ O v) (e:v=v'):QT P base o ρ O v':=e▸h
def cW (b:Option Addr) (i:Nat):Value:=.pointer (b.map fun a=>⟨a.block,a.off+i,none⟩)
theorem ay {base:World} {O:List Item} {b:Option Addr} {cs:List Value} (h:Sl base b cs): ∀w,Inv base O w→Sl w b cs:=fun _ hI=>hI.sl h
theorem cP {base:World} {O:List Item} {b:Option Addr} {c k:Nat} {E:TypeId} {cs:List Value} (h:am b c E k cs∈O): ∀w,Inv base O w→Sl w b cs:=fun _ hI=>hI.fV h
section
variable {P:Program} {base:World} {ρ:Env} {O:List Item} {dst:Option Nat} {t:TypeId} {p:String} {af:Array Edge} {g:Option (Nat×Bool)}
theorem cY {x y:Operand} {T E:TypeId} {b:Option Addr} {n c i:Nat} {kk:IntKind} {z:Value} {s fy:Nat} {cs:List Value} (hu:P.underlying T=some (.slice E)) (hi:ey P E z s fy) (hx:ev ρ x=.slice b n c) (hy:ev ρ y=.int kk (i:Int)) (hs: ∀w,Inv base O w→Sl w b cs) (eV:i<n) (hl:i*s<cs.length):
  QT P base ⟨dst,.indexAddr T x y,t,p,af,g⟩ ρ O (cW b (i*s)):=fun w hI=>by
 obtain⟨bk,o,rfl⟩:=(hs w hI).addr hl
 exact sZ hu hi hx hy eV w hI
theorem cV {x y:Operand} {T E:TypeId} {b:Option Addr} {n c i:Nat} {kk:IntKind} {z:Value} {fy:Nat} {cs:List Value} (hu:P.underlying T=some (.slice E)) (hi:ey P E z 1 fy) (hx:ev ρ x=.slice b n c) (hy:ev ρ y=.int kk (i:Int)) (hs: ∀w,Inv base O w→Sl w b cs) (eV:i<n:=by first|assumption|omega|(simp;omega)|simp_all) (hl:i<cs.length:=by first|omega|(simp;done)|(simp;omega)|(simp_all;done)|(simp_all;omega)):
  QT P base ⟨dst,.indexAddr T x y,t,p,af,g⟩ ρ O (cW b i):=by
 have:=cY (P:=P) (base:=base) (O:=O) (dst:=dst) (t:=t) (p:=p) (af:=af) (g:=g) hu hi hx hy hs eV (by simpa using hl)
 rwa[Nat.mul_one]at this
theorem Dx {x y:Operand} {T E:TypeId} {b:Option Addr} {n c:Nat} {i:Int} {kk:IntKind} {z:Value} {fy:Nat} {cs:List Value} (hu:P.underlying T=some (.slice E)) (hi:ey P E z 1 fy) (hx:ev ρ x=.slice b n c) (hy:ev ρ y=.int kk i) (hs: ∀w,Inv base O w→Sl w b cs) (h0:0≤i) (eV:i.toNat<n) (hl:i.toNat<cs.length):
  QT P base ⟨dst,.indexAddr T x y,t,p,af,g⟩ ρ O (cW b i.toNat):=
 cV hu hi hx (by rw[hy,Int.toNat_of_nonneg h0]) hs eV hl
theorem cd {x:Operand} {T:TypeId} {d:TypeDesc} {b:Option Addr} {i:Nat} {cs:List Value} {v:Value} (hu:P.underlying T=some d) (ha:mV d=false) (hx:ev ρ x=cW b i)
  (hs: ∀w,Inv base O w→Sl w b cs) (hv:cs[i]? =some v):QT P base ⟨dst,.load T x,t,p,af,g⟩ ρ O v:=fun w hI=>by
 obtain⟨hi,_⟩:=List.getElem?_eq_some_iff.1 hv
 obtain⟨bk,o,rfl⟩:=(hs w hI).addr hi
 exact n7 hu ha hx (fun w hI=>(hs w hI).get hv) w hI
theorem dy {x:Operand} {T:TypeId} {d:TypeDesc} {b:Option Addr} {i:Nat} {cs vs:List Value} {z:Value} {s fy:Nat} (hu:P.underlying T=some d) (ha:mV d=true) (hi:ey P T z s fy) (hx:ev ρ x=cW b i) (hl:vs.length=s) (Hc:0<vs.length)
  (hs: ∀w,Inv base O w→Sl w b cs) (hv: ∀j (h:j<vs.length),cs[i+j]? =some vs[j]):QT P base ⟨dst,.load T x,t,p,af,g⟩ ρ O (.agg vs.toArray):=fun w hI=>by
 obtain⟨h0,_⟩:=List.getElem?_eq_some_iff.1 (hv 0 Hc)
 obtain⟨bk,o,rfl⟩:=(hs w hI).addr (i:=i) (by omega)
 exact uJ hu ha hi hx hl (fun w hI j hj=>by have:=(hs w hI).get (hv j hj);rwa[←Nat.add_assoc]at this) w hI
theorem br {x:Operand} {S:TypeId} {fs:Array Field} {i:Nat} {f:Field} {b:Option Addr} {o:Nat} {z:Value} {s fy:Nat} {cs:List Value} (hu:P.underlying S=some (.struct fs)) (hf:fs[i]? =some f) (hi:ey P f.type z s fy) (hs:(s==0)=false)
  (hx:ev ρ x=cW b o) (Hd: ∀w,Inv base O w→Sl w b cs) (ho:o<cs.length):QT P base ⟨dst,.fieldAddr S x i,t,p,af,g⟩ ρ O (cW b (o+f.offset)):=fun w hI=>by
 obtain⟨bk,o',rfl⟩:=(Hd w hI).addr ho
 have:=aN (P:=P) (base:=base) (O:=O) (dst:=dst) (t:=t) (p:=p) (af:=af) (g:=g) hu hf hi hs (b:=bk) (o:=o'+o) hx w hI
 rw[this];simp[cW,Nat.add_assoc]
end
section
variable {P:Program} {r:Option Nat} {base:World} {n:Nat} {ρ:Env} {O:List Item} {K:Env→List Item→Prop} {d:Nat} {t:TypeId} {p:String} {af:Array Edge} {g:Option (Nat×Bool)}
theorem lB (i:Nat) {T E:TypeId} {x y:Operand} {b:Option Addr} {j c k:Nat} {v:Value} {vs cs:List Value} {z:Value} {s fy:Nat} (hi:ey P T z s fy) (hx:ev ρ x=cW b j) (hy:ev ρ y=v) (hv:v.cells=vs.toArray) (hl:vs.length=s) (ho:(vs.all dS)=true) (hs:0<vs.length)
  (hO:O[i]? =some (am b c E k cs)) (hr:j+vs.length≤cs.length)
  (h:K ρ (O.set i (am b c E k (dK cs j vs)))):LT P r base n ⟨none,.store T x y,t,p,af,g⟩ ρ O K:=fun a w M ds ha hI=>by
 obtain⟨bk,o,rfl⟩:=(hI.left.fV (List.mem_of_getElem? hO)).addr (i:=j) (by omega)
 exact zI i hi hx hy hv hl ho hO hr h a w M ds ha hI
end
def dv (q:Int×Int):Value:=.agg #[.int .i64 q.1,.int .i64 q.2]
theorem pK {P:Program} {T:TypeId} {k:IntKind} (h:P.underlying T=some (.int k)) (d:Nat) (a b:Int) (w:World):(Op.equalIn (d+1) T (.int .i64 a) (.int .i64 b)).run P w=.ok (a==b) w:=by
 rw[Op.equalIn]
 simp[aT h]
structure Dy (P:Program) (kt:TypeId) (f1 f2:Field):Prop where
 under:P.underlying kt=some (.struct #[f1,f2])
 u1:P.underlying f1.type=some (.int .i64)
 u2:P.underlying f2.type=some (.int .i64)
 o1:f1.offset=0
 o2:f2.offset=1
 n1:f1.name≠ "_"
 n2:f2.name≠ "_"
 held:P.stoodInHeld kt=false
theorem Dy.equal {P:Program} {kt:TypeId} {f1 f2:Field} (h:Dy P kt f1 f2) (a b:Int×Int) (w:World):(Op.equal kt (dv a) (dv b)).run P w=.ok (decide (a=b)) w:=by
 show(Op.equalIn (9998+1+1) kt (dv a) (dv b)).run P w=_
 rw[Op.equalIn]
 have Ri: ∀(c:Int×Int),(part f1.type #[.int .i64 c.1,.int .i64 c.2] f1.offset).run P w=.ok (.int .i64 c.1) w:=fun c=>by
  simp[part,gK h.u1,mV,h.o1]
 have xe: ∀(c:Int×Int),(part f2.type #[.int .i64 c.1,.int .i64 c.2] f2.offset).run P w=.ok (.int .i64 c.2) w:=fun c=>by
  simp[part,gK h.u2,mV,h.o2]
 simp[aT h.under,dv,h.held,h.n1,h.n2,Ri,xe,pK h.u1,pK h.u2]
 by_cases e1:a.1=b.1
 ·by_cases e2:a.2=b.2
  ·have:a=b:=by cases a;cases b;simp_all
   simp[e1,e2,this]
  ·have: ¬a=b:=fun e=>e2 (by rw[e])
   simp[e1,e2,this]
 ·have: ¬a=b:=fun e=>e1 (by rw[e])
  simp[e1,this]
theorem iq {P:Program} {kt:TypeId} {f1 f2:Field} (h:Dy P kt f1 f2):eN P kt dv where
 check:=fun e a w=>by
  show(Instr.checkKey e (9998+1+1) kt _).run P w=_
  rw[Instr.checkKey]
  have Ri: ∀(c:Int×Int),(part f1.type #[.int .i64 c.1,.int .i64 c.2] f1.offset).run P w=.ok (.int .i64 c.1) w:=fun c=>by
   simp[part,gK h.u1,mV,h.o1]
  have xe: ∀(c:Int×Int),(part f2.type #[.int .i64 c.1,.int .i64 c.2] f2.offset).run P w=.ok (.int .i64 c.2) w:=fun c=>by
   simp[part,gK h.u2,mV,h.o2]
  have hk: ∀(tt:TypeId) (v:Int),P.underlying tt=some (.int .i64)→(Instr.checkKey e (9998+1) tt (.int .i64 v)).run P w=.ok () w:=fun tt v hu=>by
   rw[Instr.checkKey];simp[aT hu]
  simp[aT h.under,dv,h.n1,h.n2,Ri,xe,hk _ _ h.u1,hk _ _ h.u2]
 find:=fun es ks a w lV=>by
  have ask: ∀(es:List MapEntry) (ks:List (Int×Int)) (i:Nat),es.map (·.key)=ks.map dv→(Instr.findAsking kt (dv a) es i).run P w=.ok (jG a ks es i) w:=by
   intro es
   induction es with
   |nil=>intro ks i h;cases ks<;>simp_all[Instr.findAsking,jG]
   |cons e es ih=>
    intro ks i hh
    cases ks with
    |nil=>simp at hh
    |cons b ks=>
     simp only[List.map_cons,List.cons.injEq]at hh
     simp only[Instr.findAsking,hh.1,Sem.run_bind,h.equal,Result.andThen_ok,jG]
     by_cases e:a=b
     ·simp[e]
     ·simp[e,ih ks (i+1) hh.2]
  have key: ∀(es:List MapEntry) (ks:List (Int×Int)),es.map (·.key)=ks.map dv→Instr.findNow (.struct #[f1,f2]) (dv a) es 0=some (jG a ks es 0)∨Instr.findNow (.struct #[f1,f2]) (dv a) es 0=none:=by
   intro es ks hh
   cases es with
   |nil=>left;cases ks<;>simp_all[Instr.findNow,jG]
   |cons e es=>right;simp[Instr.findNow,Instr.sameNow]
  rcases key es ks lV with hk|hk
  ·simp[Instr.findKey,aT h.under,hk]
  ·simp[Instr.findKey,aT h.under,hk,ask es ks 0 lV]
@[reducible] def aD (n:Nat):Option Addr:=some ⟨n,0,none⟩
@[reducible] def nS:Value:=.slice none 0 0
@[reducible] def vI (v:Int):Value:=.int .i64 v
@[reducible] def vN (n:Nat):Value:=.int .i64 (n:Int)
@[reducible] def v8 (n:Nat):Value:=.int .u8 (n:Int)
section
variable {X:PX} {P:Program} {r:Option Nat} {base:World} {n:Nat} {ρ:Env} {O:List Item} {ops:Array Oper} {l:List Oper} {K:Env→List Item→Prop} {t:TypeId} {p:String} {af:Array Edge}
theorem ah {d:Nat} {x:Operand} {v:Value} (h:ev ρ x=v) (hk:TO X P r base n ops l K (mS ρ d v) O) (hn:Nat.blt d n=true:=by rfl):TO X P r base n ops (⟨some d,.move x,t,p,af,none⟩::l) K ρ O:=ad (az h) hk hn
theorem aj {d:Nat} {x:Operand} {v:Value} (h:ev ρ x=v) (hk:TO X P r base n ops l K (mS ρ d v) O) (hn:Nat.blt d n=true:=by rfl):TO X P r base n ops (⟨some d,.assign x,t,p,af,none⟩::l) K ρ O:=ad (bt h) hk hn
theorem mG {α:Type} {l:List α} {a:α} (i:Nat) (h:l[i]? =some a):a∈l:=List.mem_of_getElem? h
theorem fC {O' O:List Item} (D:List Item) (h: ∀a,Lx.ud a (O'++D)=Lx.ud a O:=by intro a;simp+zetaDelta only[a_,oI,List.set_cons_zero,List.set_cons_succ,dK,List.cons_append,List.nil_append,List.append_nil,List.append_assoc,List.map_append,List.map_cons,List.map_nil,mY,mb,Du,vI,nS,aD]<;>omega):Sub O' O:=Sub.ud D h
theorem au {d j tj:Nat} {want:Bool} {op:Op} {v:Value} (hj:(ops[j]?).bind (·.dst)=some tj) (hw:ρ tj=.bool want) (h:QT P base ⟨some d,op,t,p,af,some (j,want)⟩ ρ O v) (hk:TO X P r base n ops l K (mS ρ d v) O) (hn:Nat.blt d n=true:=by rfl):TO X P r base n ops (⟨some d,op,t,p,af,some (j,want)⟩::l) K ρ O:=fU F hj hw (dw F hn h hk)
theorem k7 (is:List Nat) {f:FuncId} {args:List Value} {A B O:List Item} {R:Value→List Item→Prop} (h:bm P base f args A R) (hA:uL is O=A:=by rfl) (hB:w7 is O=B:=by simp only[w7,qV,a_,oI,List.set_cons_zero,List.set_cons_succ,dK,List.cons_append,List.nil_append,List.append_nil];rfl):bm P base f args O (fun v O'=> ∃A',O'=A'++B∧R v A'):=
 bm.under h (by subst hA hB;exact⟨_,pe is O,List.Sublist.refl _⟩)
end
section
variable {P:Program} {r:Option Nat} {base:World} {n:Nat} {ρ:Env} {O:List Item} {Q:jk} {K:Env→List Item→Prop} {t:TypeId} {p:String} {af:Array Edge} {g:Option (Nat×Bool)}
theorem ai {id:Nat} {l:List Oper} {y:Code} (h:TO (fun c=> ∀ρ,GZ (fun ρ O=>T P r base n y Q ρ O) Q (.panic c) ρ []) P r base n l.toArray l (fun ρ O=>GZ (fun ρ O=>T P r base n y Q ρ O) Q .normal ρ O) ρ O):T P r base n (.seq (.region id l.toArray false) y) Q ρ O:=aB (aJ h)
theorem eD (l:List (Nat×Nat)) {id:Nat} {ops:Array Oper} (h:DO (fun c=> ∀ρ,Q (.panic c) ρ []) P r base n ops O (lT l) [] (jZ l) l (fun ρ O=>Q .normal ρ O) ρ O) (hm:P.follows .mixedOrders=true:=by exact mixed) (hB:uH ops l=true:=by first|exact uS (by kernel_rfl)|kernel_rfl) (hp: ∀c ρ fB O,Q (.panic c) ρ O→Q (.panic c) fB O:=by exact fun _ _ _ _ h=>h):T P r base n (.region id ops true) Q ρ O:=wY O l hm hB (bn (List.Sublist.refl _)) hp h
theorem T.ds (S:List Item) (l:List (Nat×Nat)) {id:Nat} {ops:Array Oper} (hS:Sub S O) (h:DO (fun c=> ∀ρ,Q (.panic c) ρ []) P r base n ops S (lT l) [] (jZ l) l (fun ρ O=>Q .normal ρ O) ρ O) (hm:P.follows .mixedOrders=true:=by exact mixed) (hB:uH ops l=true:=by first|exact uS (by kernel_rfl)|kernel_rfl) (hp: ∀c ρ fB O,Q (.panic c) ρ O→Q (.panic c) fB O:=by exact fun _ _ _ _ h=>h):T P r base n (.region id ops true) Q ρ O:=wY S l hm hB hS hp h
theorem a8 (i:Nat) {T E:TypeId} {x y:Operand} {b o:Nat} {v:Value} {vs cs:List Value} {z:Value} {s fy:Nat} (hi:ey P T z s fy) (hx:ev ρ x=.pointer (some ⟨b,o,none⟩)) (hy:ev ρ y=v) (hv:v.cells=vs.toArray)
  (hO:O[i]? =some (cR b (.cells cs.toArray E (0,0)))) (h:K ρ (O.set i (cR b (.cells (dK cs o vs).toArray E (0,0))))) (hl:vs.length=s:=by rfl) (ho:(vs.all dS)=true:=by rfl) (hr:o+vs.length≤cs.length:=by simp[dK]):LT P r base n ⟨none,.store T x y,t,p,af,g⟩ ρ O K:=sf i hi hx hy hv hl ho hO hr h
end
end Go.Lx

namespace Go.Lx
open Go.Lib
theorem ir {u:Nat} (h:u<10):decDigits u=[UInt8.ofNat (48+u)]:=by rw[decDigits,dif_pos h]
theorem lH {u:Nat} (h: ¬u<10):decDigits u=decDigits (u/10)++[UInt8.ofNat (48+u%10)]:=by rw[decDigits,dif_neg h]
theorem uV (u:Nat):decDigits u≠ []:=by
 by_cases h:u<10
 ·rw[ir h];simp
 ·rw[lH h];simp
theorem gI {k:Nat} (h:k<10):(UInt8.ofNat (48+k)).toNat=48+k:=by
 rw[UInt8.toNat_ofNat'];omega
theorem pf (u:Nat): ∀b∈decDigits u,48≤b.toNat∧b.toNat<58:=by
 induction u using Nat.strongRecOn with
 |_ u ih=>
  by_cases h:u<10
  ·rw[ir h];intro b hb;rw[List.mem_singleton]at hb;subst hb;rw[gI h];omega
  ·rw[lH h]
   intro b hb
   rcases List.mem_append.1 hb with hb|hb
   ·exact ih (u/10) (by omega) b hb
   ·rw[List.mem_singleton]at hb;subst hb;rw[gI (by omega)];omega
theorem m_: ∀(a b:Nat),decDigits a=decDigits b→a=b:=by
 intro a
 induction a using Nat.strongRecOn with
 |_ a ih=>
  intro b h
  by_cases ha:a<10
  ·by_cases hb:b<10
   ·rw[ir ha,ir hb]at h
    have:=congrArg UInt8.toNat (List.cons.inj h).1
    rw[gI ha,gI hb]at this
    omega
   ·rw[ir ha,lH hb]at h
    have h1:=congrArg List.length h
    have h2:0<(decDigits (b/10)).length:=List.length_pos_iff.2 (uV _)
    simp only[List.length_append,List.length_cons,List.length_nil]at h1;omega
  ·by_cases hb:b<10
   ·rw[lH ha,ir hb]at h
    have h1:=congrArg List.length h
    have h2:0<(decDigits (a/10)).length:=List.length_pos_iff.2 (uV _)
    simp only[List.length_append,List.length_cons,List.length_nil]at h1;omega
   ·rw[lH ha,lH hb]at h
    obtain⟨h1,h2⟩:=List.append_inj' h F
    have e1:=ih (a/10) (by omega) (b/10) h1
    have e2:=congrArg UInt8.toNat (List.cons.inj h2).1
    rw[gI (by omega),gI (by omega)]at e2
    omega
def gU:List Nat→List UInt8
 | []=>[]
 |n::l=>32::(decDigits n++gU l)
def fP (a:Nat) (l:List Nat):List UInt8:=decDigits a++gU l
theorem yf (l:List Nat) (n:Nat):gU (l++[n])=gU l++32::decDigits n:=by
 induction l with
 |nil=>simp[gU]
 |cons a l ih=>simp[gU,ih]
theorem kE (u:Nat):(32:UInt8)∉decDigits u:=fun h=>by have:=pf u 32 h;simp at this
theorem om: ∀ {x y:List UInt8} {a b:List Nat},(32:UInt8)∉x→(32:UInt8)∉y→x++gU a=y++gU b→x=y∧gU a=gU b
 | [],[],a,b,_,_,h=>⟨F,by simpa using h⟩
 | [],c::y,a,b,_,hy,h=>by
  cases a with
  |nil=>simp[gU]at h
  |cons n a=>simp only[gU,List.nil_append,List.cons_append,List.cons.injEq]at h;exact(hy (by simp[←h.1])).elim
 |c::x,[],a,b,hx,_,h=>by
  cases b with
  |nil=>simp[gU]at h
  |cons n b=>simp only[gU,List.nil_append,List.cons_append,List.cons.injEq]at h;exact(hx (by simp[h.1])).elim
 |c::x,c'::y,a,b,hx,hy,h=>by
  simp only[List.cons_append,List.cons.injEq]at h
  simp only[List.mem_cons,not_or]at hx hy
  obtain⟨h1,h2⟩:=om hx.2 hy.2 h.2
  exact⟨by rw[h.1,h1],h2⟩
theorem xf: ∀ {l m:List Nat},gU l=gU m→l=m
 | [],[],_=>rfl
 | [],b::m,h=>by simp[gU]at h
 |a::l,[],h=>by simp[gU]at h
 |a::l,b::m,h=>by
  simp only[gU,List.cons.injEq,true_and]at h
  obtain⟨h1,h2⟩:=om (kE a) (kE b) h
  rw[m_ a b h1,xf h2]
theorem Hi {a b:Nat} {l m:List Nat} (h:fP a l=fP b m):a=b∧l=m:=by
 obtain⟨h1,h2⟩:=om (kE a) (kE b) h
 exact⟨m_ a b h1,xf h2⟩
theorem qY: ∀(k u:Nat),u<10^(k+1)→(decDigits u).length≤k+1
 |0,u,h=>by rw[ir (by simpa using h)];simp
 |k+1,u,h=>by
  by_cases h0:u<10
  ·rw[ir h0];simp
  ·rw[lH h0,List.length_append]
   have:=qY k (u/10) (by rw[Nat.pow_succ]at h;omega)
   simp only[List.length_cons,List.length_nil]
   omega
end Go.Lx

