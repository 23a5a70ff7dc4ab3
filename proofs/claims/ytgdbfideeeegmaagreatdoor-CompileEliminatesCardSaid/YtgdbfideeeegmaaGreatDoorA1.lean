/- Contracts of functions of the program, and what they answer. Conditions: those each theorem names. -/
import Derived.Test.YtgdbfideeeegmaaGreatDoorA0
import Derived.Lib.ItoaNum
set_option linter.unusedSectionVars false
set_option linter.unusedSimpArgs false
set_option linter.unusedVariables false
set_option linter.unnecessarySimpa false
set_option maxHeartbeats 8000000
set_option maxRecDepth 20000
namespace Go.Lx
open Go.RowKit
def dD:Value→Bool
 | .agg _| .tuple _=>false
 |_=>true
def dl (cs:List Value):Nat→List Value→List Value
 |_,[]=>cs
 |o,v::vs=>dl (cs.set o v) (o+1) vs
theorem gv (vs:List Value): ∀(cs:List Value) (o:Nat),(dl cs o vs).length=cs.length:=by
 induction vs with
 |nil=>intro cs o;rfl
 |cons v vs ih=>intro cs o;simp[dl,ih]
theorem lA (vs:List Value): ∀(cs:List Value) (o i:Nat),o+vs.length≤cs.length→(dl cs o vs)[i]? =if o≤i∧i<o+vs.length then vs[i-o]? else cs[i]? :=by
 induction vs with
 |nil=>intro cs o i h;simp[dl];intro h1 h2;omega
 |cons v vs ih=>
  intro cs o i h
  simp only[dl,List.length_cons]at h⊢
  rw[ih _ _ _ (by simp;omega)]
  by_cases h1:o+1≤i∧i<o+1+vs.length
  ·rw[if_pos h1,if_pos (by omega)]
   have:i-o=(i-(o+1))+1:=by omega
   rw[this];simp
  ·rw[if_neg h1]
   by_cases h2:i=o
   ·subst h2
    rw[if_pos (by omega)]
    simp
    rw[List.getElem?_set_self (by omega)]
   ·rw[if_neg (by omega),List.getElem?_set_ne (by omega)]
def iI (w:World) (b:Nat) (o:Obj):World:= {w with heap:=w.heap.setIfInBounds b o}
theorem jV {w:World} {b:Nat} {o:Obj} (h:b<w.heap.size):(iI w b o).heap[b]? =some o:=by simp[iI,h]
theorem qw {w:World} {b k:Nat} {o:Obj} (h:k≠b):(iI w b o).heap[k]? =w.heap[k]? :=by simp[iI,Array.getElem?_setIfInBounds_ne (Ne.symm h)]
theorem sG {w:World} {b:Nat} {o:Obj}:(iI w b o).heap.size=w.heap.size:=by simp[iI]
theorem rv {w:World} {b o:Nat} {v:Value} {cs:List Value} {T:TypeId} {fr:Nat×Nat} (h:w.heap[b]? =some (.cells cs.toArray T fr)):w.setCell ⟨b,o,none⟩ v=iI w b (.cells (cs.set o v).toArray T fr):=by
 unfold World.setCell iI
 congr 1
 apply Array.ext_getElem?
 intro i
 rw[Array.getElem?_modify]
 by_cases e:b=i
 ·subst e
  obtain⟨eU,e⟩:=Array.getElem?_eq_some_iff.1 h
  simp[eU,e]
 ·simp[e,Array.getElem?_setIfInBounds_ne e]
theorem xz {w:World} {b:Nat} {o o':Obj}:iI (iI w b o) b o'=iI w b o':=by
 unfold iI;simp
theorem Cu {P:Program} {w:World} {b o:Nat} {v:Value} {cs:List Value} {T:TypeId} (h:w.heap[b]? =some (.cells cs.toArray T (0,0))) (ho:o<cs.length) (hv:dD v=true):
  (store ⟨b,o,none⟩ v).run P w=.ok () (iI w b (.cells (cs.set o v).toArray T (0,0))):=by
 have hc:w.cell? ⟨b,o,none⟩=some cs[o]:=by unfold World.cell?;simp[h,ho]
 have hf:w.frozen? ⟨b,o,none⟩=false:=by unfold World.frozen?;simp[h]
 have ZM:v.oneCell'=true:=by cases v<;>simp_all[dD,Value.oneCell']
 rw[run_store P w _ _ _ ZM,hc]
 simp[hf,rv h]
theorem jB {P:Program} {b o:Nat} {T:TypeId}: ∀(vs:List Value) (cs:List Value) (i:Nat) (w:World),w.heap[b]? =some (.cells cs.toArray T (0,0))→o+i+vs.length≤cs.length→(vs.all dD)=true→
  (storeCells ⟨b,o,none⟩ vs i).run P w=.ok () (iI w b (.cells (dl cs (o+i) vs).toArray T (0,0)))
 | [],cs,i,w,h,_,_=>by
  have:iI w b (.cells cs.toArray T (0,0))=w:=by
   unfold iI
   have:w.heap.setIfInBounds b (.cells cs.toArray T (0,0))=w.heap:=by
    apply Array.ext_getElem?
    intro k
    by_cases e:b=k
    ·subst e
     obtain⟨eU,e⟩:=Array.getElem?_eq_some_iff.1 h
     simp[eU,e]
    ·rw[Array.getElem?_setIfInBounds_ne e]
   rw[this]
  simp[storeCells,dl,this]
 |v::vs,cs,i,w,h,hl,hv=>by
  simp only[List.length_cons,List.all_cons,Bool.and_eq_true]at hl hv
  have e:(Addr.add ⟨b,o,none⟩ i)=⟨b,o+i,none⟩:=by
   unfold Addr.add;split<;>rename_i h<;>first|(subst h;rfl)|rfl
  have h1:=Cu (P:=P) h (o:=o+i) (v:=v) (by omega) hv.1
  have eU:=(Array.getElem?_eq_some_iff.1 h).1
  have h2:=jB (P:=P) (b:=b) (o:=o) (T:=T) vs (cs.set (o+i) v) (i+1) (iI w b (.cells (cs.set (o+i) v).toArray T (0,0))) (jV eU) (by simp;omega) hv.2
  simp only[storeCells,e,Sem.run_bind,h1,Result.andThen_ok,h2,xz,dl]
  rfl
section
variable {P:Program} {r:Option Nat} {base:World} {n:Nat} {ρ:Env} {O:List Item} {K:Env→List Item→Prop} {d:Nat} {t:TypeId} {p:String} {af:Array Edge} {g:Option (Nat×Bool)}
theorem lB {M:List Item} {j:Nat} {it:Item} (h:O[j]? =some it):(O++M)[j]? =some it:=by
 rw[List.getElem?_append_left (List.getElem?_eq_some_iff.1 h).1];exact h
theorem nz {M:List Item} {j:Nat} {it:Item} (h:O[j]? =some it) (x:Item):(O++M).set j x=O.set j x++M:=
 List.set_append_left _ _ (List.getElem?_eq_some_iff.1 h).1
theorem gw {op:Op} (hn:Nat.blt d n=true)
  (h: ∀w M,Inv base (O++M) w→ ∃v w' O',(execOp (ev ρ) ⟨some d,op,t,p,af,g⟩).run P w=.ok (.value v) w'∧Inv base (O'++M) w'∧K (np ρ d v) O'):LT P r base n ⟨some d,op,t,p,af,g⟩ ρ O K:=by
 intro a w M ds ha hi next Qx dU
 obtain⟨v,w',O',hr,hI,hK⟩:=h w M hi
 rw[←ha.eval]at hr
 refine j9 (uX hr (by simp)) ?_
 rw[hr]
 exact dU _ _ _ _ (ha.put hn v) hI hK
theorem k7 {op:Op}
  (h: ∀w M,Inv base (O++M) w→ ∃w' O',(execOp (ev ρ) ⟨none,op,t,p,af,g⟩).run P w=.ok .skip w'∧Inv base (O'++M) w'∧K ρ O'):LT P r base n ⟨none,op,t,p,af,g⟩ ρ O K:=by
 intro a w M ds ha hi next Qx dU
 obtain⟨w',O',hr,hI,hK⟩:=h w M hi
 rw[←ha.eval]at hr
 refine j9 (uX hr (by simp)) ?_
 rw[hr]
 exact dU _ _ _ _ ha hI hK
theorem Sub.sw {O' M:List Item} (h:Sub O' O):Sub (O'++M) (O++M):=by
 obtain⟨l,hp,hs⟩:=h
 exact⟨l++M,hp.append_right M,hs.append (List.Sublist.refl M)⟩
theorem Inv.dt {w:World} (h:Inv base O w) (E:TypeId) (k:Nat):Inv base (ak none 0 E k []::O) w:=
 Inv.new (N:=[ak none 0 E k []]) h F F F (Nat.le_refl _) (fun _ _=>rfl) (by simp[ak,rowP]) (by simp[ak]) (by simp[ak])
theorem T.dt {c:Code} {Q:ju} (E:TypeId) (k:Nat) (h:T P r base n c Q ρ (ak none 0 E k []::O)):T P r base n c Q ρ O:=
 fun a w M D hM ha hi=>h a w M D hM ha (hi.dt E k)
theorem cu {c:Code} {Q:ju} {O':List Item} (hs:Sub O' O) (h:T P r base n c Q ρ O'):T P r base n c Q ρ O:=
 fun a w M D hM ha hi=>h a w M D hM ha (hi.jf hs.sw)
theorem aR {E:TypeId} {z:Value} {s fx:Nat} {cs:List Value} (hi:eS P E z s fx) (hz:z.cells=cs.toArray)
  (h: ∀b,K (np ρ d (.pointer (some ⟨b,0,none⟩))) (da b (.cells cs.toArray E (0,0))::O)) (hn:Nat.blt d n=true:=by rfl):LT P r base n ⟨some d,.alloc E,t,p,af,g⟩ ρ O K:=
 gw hn fun w M hI=>⟨_,_,_,by simp[execOp,Instr.alloc,fC hi,newVar,newRow,hz],hI.alloc _,h _⟩
theorem cL {E:TypeId} {x:Operand} {v:Value} {cs:List Value} (hx:ev ρ x=v) (hv:v.cells=cs.toArray)
  (h: ∀b,K (np ρ d (.pointer (some ⟨b,0,none⟩))) (da b (.cells cs.toArray E (0,0))::O)) (hn:Nat.blt d n=true:=by rfl):LT P r base n ⟨some d,.box E x,t,p,af,g⟩ ρ O K:=
 gw hn fun w M hI=>⟨_,_,_,by simp[execOp,Instr.box,newVar,newRow,hx,hv],hI.alloc _,h _⟩
theorem Inv.Oj {w:World} (hI:Inv base O w) {i:Nat} {b:Nat} {o:Obj} (hO:O[i]? =some (da b o)) (o':Obj):Inv base (O.set i (da b o')) (iI w b o'):=by
 have hb:=hI.tt hO
 have eU:=(Array.getElem?_eq_some_iff.1 hb).1
 refine hI.qq hO F F F (by rw[sG];exact Nat.le_refl _) (fun k _ hk=>qw (fun e=>hk (by simp[da,e]))) (jV eU) (fun k hk=>.inl hk) (by simp[da])
theorem Inv.setRow {w:World} (hI:Inv base O w) {i b o c:Nat} {T:TypeId} {k:Nat} {cs zY:List Value} {full:Array Value} (hO:O[i]? =some (ak (some ⟨b,o,none⟩) c T k cs)) (hl:zY.length≤c*k)
  (hf:o+c*k≤full.size) (hc: ∀j (h:j<zY.length),full[o+j]? =some zY[j]):Inv base (O.set i (ak (some ⟨b,o,none⟩) c T k zY)) (iI w b (.cells full T (0,0))):=by
 obtain⟨_,Ye,hb,_,_⟩:=hI.row hO
 have eU:=(Array.getElem?_eq_some_iff.1 hb).1
 refine hI.qq hO F F F (by rw[sG];exact Nat.le_refl _) (fun k _ hk=>qw (fun e=>hk (by simp[ak,e]))) ⟨F,full,jV eU,hl,hf,hc⟩ (fun k hk=>.inl hk) (by simp[ak])
theorem ry {T:TypeId} {z:Value} {s fx b o:Nat} {v:Value} {vs cs:List Value} {E:TypeId} {w:World} (hi:eS P T z s fx) (hv:v.cells=vs.toArray) (hl:vs.length=s) (ho:(vs.all dD)=true)
  (h:w.heap[b]? =some (.cells cs.toArray E (0,0))) (hr:o+vs.length≤cs.length):(storeVar T ⟨b,o,none⟩ v).run P w=.ok () (iI w b (.cells (dl cs o vs).toArray E (0,0))):=by
 have:=jB (P:=P) (b:=b) (o:=o) (T:=E) vs cs 0 w h (by omega) ho
 unfold storeVar
 simp[bp hi,hv,hl]
 exact this
theorem sH (i:Nat) {T E:TypeId} {x y:Operand} {b o:Nat} {v:Value} {vs cs:List Value} {z:Value} {s fx:Nat} (hi:eS P T z s fx) (hx:ev ρ x=.pointer (some ⟨b,o,none⟩)) (hy:ev ρ y=v) (hv:v.cells=vs.toArray) (hl:vs.length=s) (ho:(vs.all dD)=true)
  (hO:O[i]? =some (da b (.cells cs.toArray E (0,0)))) (hr:o+vs.length≤cs.length)
  (h:K ρ (O.set i (da b (.cells (dl cs o vs).toArray E (0,0))))):LT P r base n ⟨none,.store T x y,t,p,af,g⟩ ρ O K:=
 k7 fun w M hI=>⟨iI w b (.cells (dl cs o vs).toArray E (0,0)),_,by
  simp only[execOp,hx,hy,Instr.storeAt,Instr.sureAddr]
  simp[ry hi hv hl ho (hI.tt (lB hO)) hr],by have:=hI.Oj (lB hO) (.cells (dl cs o vs).toArray E (0,0));rwa[nz hO]at this,h⟩
theorem zZ (i:Nat) {T E:TypeId} {x y:Operand} {b o j c k:Nat} {v:Value} {vs cs:List Value} {z:Value} {s fx:Nat} (hi:eS P T z s fx) (hx:ev ρ x=.pointer (some ⟨b,o+j,none⟩)) (hy:ev ρ y=v) (hv:v.cells=vs.toArray) (hl:vs.length=s) (ho:(vs.all dD)=true)
  (hO:O[i]? =some (ak (some ⟨b,o,none⟩) c E k cs)) (hr:j+vs.length≤cs.length)
  (h:K ρ (O.set i (ak (some ⟨b,o,none⟩) c E k (dl cs j vs)))):LT P r base n ⟨none,.store T x y,t,p,af,g⟩ ρ O K:=
 k7 fun w M hI=>by
  obtain⟨_,full,hb,h1,h2,h3⟩:=hI.row (lB hO)
  simp only at hb h2 h3
  obtain⟨fl,rfl⟩: ∃fl:List Value,full=fl.toArray:=⟨full.toList,by simp⟩
  simp only[List.size_toArray]at h2
  refine⟨iI w b (.cells (dl fl (o+j) vs).toArray E (0,0)),_,?_,nz hO (ak (some ⟨b,o,none⟩) c E k (dl cs j vs))▸hI.setRow (lB hO) (zY:=dl cs j vs) (by rw[gv];exact h1) (by simp[gv];exact h2) ?_,h⟩
  ·have Oc:o+j+vs.length≤fl.length:=by omega
   simp only[execOp,hx,hy,Instr.storeAt,Instr.sureAddr]
   simp[ry hi hv hl ho hb Oc]
  ·intro m hm
   rw[gv]at hm
   have e1:(dl fl (o+j) vs).toArray[o+m]? =(dl fl (o+j) vs)[o+m]? :=by simp
   have e2:(dl cs j vs)[m]? =some ((dl cs j vs)[m]'(by rw[gv];exact hm)):=List.getElem?_eq_getElem _
   rw[e1,←e2,lA vs fl (o+j) (o+m) (by omega),lA vs cs j m (by omega)]
   by_cases wL:j≤m∧m<j+vs.length
   ·rw[if_pos wL,if_pos (by omega)]
    congr 1;omega
   ·rw[if_neg wL,if_neg (by omega)]
    have:=h3 m hm
    simpa[List.getElem?_eq_getElem hm]using this
theorem qx {α:Type} (f:Nat→α):(Array.range 0).map f= #[]:=by simp
theorem pD (z:Value) (m:Nat):((Array.range m).map fun i=>(#[z]:Array Value)[i%(#[z]:Array Value).size]!)=(List.replicate m z).toArray:=by
 apply Array.ext_getElem?
 intro i
 rw[Array.getElem?_map,Array.getElem?_range]
 by_cases h:i<m
 ·simp[h,Nat.mod_one]
 ·simp[h]
theorem bV {T E:TypeId} {x:Operand} {k:IntKind} {m:Nat} {z:Value} {fx:Nat} (hu:P.underlying T=some (.slice E)) (hi:eS P E z 1 fx) (hz:z.cells= #[z]) (hx:ev ρ x=.int k (m:Int)) (hm:m*fx≤140737488355328) (ZN:m≤9223372036854775807)
  (h: ∀b,K (np ρ d (.slice (some ⟨b,0,none⟩) m m)) (ak (some ⟨b,0,none⟩) m E 1 (List.replicate m z)::O)) (hn:Nat.blt d n=true:=by rfl):LT P r base n ⟨some d,.makeSlice T x x,t,p,af,g⟩ ρ O K:=
 gw hn fun w M hI=>by
  obtain⟨i,Wk,Fj,ZO,Wl⟩:=hi.get
  have hw:IntKind.i64.wrap (m:Int)=(m:Int):=eZ (by omega)
  have Og: ¬((fx:Int)*(m:Int)>2^48):=by
   have h1:((m*fx:Nat):Int)≤140737488355328:=Int.ofNat_le.2 hm
   rw[Nat.mul_comm,Int.natCast_mul]at h1
   have h2:(2:Int)^48=281474976710656:=by rfl
   rw[h2];omega
  have RX:decide ((fx:Int)*(m:Int)>2^48)=false:=decide_eq_false Og
  refine⟨.slice (some ⟨w.heap.size,0,none⟩) m m,w.alloc (.cells (List.replicate m z).toArray E),_,?_,Inv.new (O:=O++M) (w':=w.alloc (.cells (List.replicate m z).toArray E)) (N:=[ak (some ⟨w.heap.size,0,none⟩) m E 1 (List.replicate m z)]) hI F F F (by simp) (fun b hb=>Below.heap_alloc w _ b hb) ?_ ?_ ?_,h _⟩
  ·have Wm:decide ((m:Int)<0)=false:=by simp
   simp only[execOp,hx,Instr.makeSlice,Sem.run_bind,aV hu,Result.andThen_ok,asInt,asIntOf,Sem.run_pure,kg Wk,Wl,hw,RX,Wm,Bool.or_false,Bool.or_self,Int.lt_irrefl,gt_iff_lt,decide_false,Bool.false_eq_true,if_false,run_askRoom,bp hi,Nat.mul_one,Int.toNat_natCast]
   by_cases h0:m=0
   ·subst h0
    simp[newRow,qx]
   ·simp[h0,hz,newRow,fC hi]
    have:=pD z m
    simp at this
    rw[this]
  ·intro x hx
   simp at hx;subst hx
   refine⟨F,(List.replicate m z).toArray,?_,by simp,by simp,fun j hj=>by simp at hj;simp[hj]⟩
   show(w.heap.push _)[w.heap.size]? =_
   simp
  ·intro x hx b hb
   simp at hx;subst hx
   simp[ak]at hb;subst hb
   simp
  ·simp[ak]
theorem bH {T E:TypeId} {m:Nat} {parts:List (Nat×Operand)} {z:Value} {s fx:Nat} {cs:List Value} (hu:P.underlying T=some (.slice E)) (hi:eS P E z s fx) (Yf:m*s≤16777216)
  (hf:Instr.fill (fun i=>some (i*s,s)) ((Array.range (m*s)).map (z.cells[· %z.cells.size]!)) (parts.map fun q=>(q.1,ev ρ q.2))=some cs.toArray) (hl:cs.length=m*s)
  (h: ∀b,K (np ρ d (.slice (some ⟨b,0,none⟩) m m)) (ak (some ⟨b,0,none⟩) m E s cs::O)) (hn:Nat.blt d n=true:=by rfl):LT P r base n ⟨some d,.buildSlice T m parts.toArray,t,p,af,g⟩ ρ O K:=
 gw hn fun w M hI=>by
  refine⟨.slice (some ⟨w.heap.size,0,none⟩) m m,w.alloc (.cells cs.toArray E),_,?_,Inv.new (O:=O++M) (w':=w.alloc (.cells cs.toArray E)) (N:=[ak (some ⟨w.heap.size,0,none⟩) m E s cs]) hI F F F (by simp) (fun b hb=>Below.heap_alloc w _ b hb) ?_ ?_ ?_,h _⟩
  ·have Kt: ¬(m*s>2^24):=by omega
   by_cases h0:m*s=0
   ·have Vo:Instr.fill (fun i=>some (i*s,s)) #[] (parts.map fun q=>(q.1,ev ρ q.2))=some cs.toArray:=by rw[h0,qx]at hf;exact hf
    simp only[execOp,Instr.buildSlice,Sem.run_bind,aV hu,bp hi,Result.andThen_ok,h0,gt_iff_lt,if_true,Sem.run_pure,qx]
    have eU: ¬(2^24<0):=by omega
    simp[Vo,newRow]
   ·simp[execOp,Instr.buildSlice,aV hu,bp hi,Kt,h0,fC hi,hf,newRow]
  ·intro x hx
   simp at hx;subst hx
   refine⟨F,cs.toArray,?_,by rw[hl];exact Nat.le_refl _,by simp[hl],fun j hj=>by simp[hj]⟩
   show(w.heap.push _)[w.heap.size]? =_
   simp
  ·intro x hx b hb
   simp at hx;subst hx
   simp[ak]at hb;subst hb
   simp
  ·simp[ak]
theorem Fo (z:Array Value) (m:Nat):(Builtin.zeroCells z m).size=m*z.size:=by simp[Builtin.zeroCells]
theorem xA (qy:Nat): ∀(r c:Nat),c≤2*qy→Builtin.growBy qy r c≤2*qy+192
 |0,c,h=>by simp[Builtin.growBy];omega
 |r+1,c,h=>by
  simp only[Builtin.growBy]
  split
  ·omega
  ·by_cases h2:c+(c+768)/4≤2*qy
   ·exact xA qy r _ h2
   ·have: ∀r,Builtin.growBy qy r (c+(c+768)/4)=c+(c+768)/4:=by
     intro r
     cases r with
     |zero=>rfl
     |succ r=>simp only[Builtin.growBy];rw[if_pos (by omega)]
    rw[this];omega
theorem Cv {qy cap:Nat} (h:cap<qy):Builtin.nextslicecap qy cap≤2*qy+192:=by
 unfold Builtin.nextslicecap
 split
 ·omega
 ·split
  ·omega
  ·exact xA qy 4 cap (by omega)
theorem gH {P:Program} {w:World} {b:Option Addr} {m c s:Nat} {cs:List Value} (h:Sl w b cs) (hl:cs.length=m*s) (hb:b=none→cs=[]):
  (Builtin.firstCells s m (.slice b m c)).run P w=.ok cs.toArray w:=by
 cases b with
 |none=>rw[hb F];rfl
 |some a=>
  obtain⟨k,o,sp⟩:=a
  simp only[Builtin.firstCells,←hl,loadCells]
  by_cases h0:cs.length=0
  ·have:cs=[]:=List.length_eq_zero_iff.1 h0
   subst this;rfl
  ·obtain⟨a',e1,e2,_⟩:=h 0 (by omega)
   cases e1
   simp only at e2;subst e2
   have:=ki (P:=P) (w:=w) (a:=⟨k,o,none⟩) cs 0 #[] (fun j hj=>by
    have:=h.get (List.getElem?_eq_getElem hj)
    simp only[Nat.zero_add,Addr.add]
    split<;>rename_i e
    ·subst e;simpa using this
    ·exact this)
   simpa using this
def Src (P:Program) (base:World) (O:List Item) (s m:Nat) (x:Value) (cs:List Value):Prop:=
 cs.length=m*s∧(∀w,(Builtin.lenOf x).run P w=.ok m w)∧ ∀w,Inv base O w→(Builtin.firstCells s m x).run P w=.ok cs.toArray w
theorem Src.sw {b:World} {M:List Item} {s m:Nat} {x:Value} {cs:List Value} (h:Src P b O s m x cs):Src P b (O++M) s m x cs:=⟨h.1,h.2.1,fun w hI=>h.2.2 w hI.left⟩
theorem Src.row {j:Nat} {b:Option Addr} {c k m:Nat} {E:TypeId} {cs:List Value} (hO:O[j]? =some (ak b c E k cs)) (hl:cs.length=m*k) (c':Nat:=c):Src P base O k m (.slice b m c') cs:=
 ⟨hl,fun w=>by simp[Builtin.lenOf],fun w hI=>gH (hI.row hO).sl hl (fun e=>by subst e;exact(hI.row hO).1)⟩
theorem Src.sl {b:Option Addr} {c k m:Nat} {cs:List Value} (h:Sl base b cs) (hl:cs.length=m*k):Src P base O k m (.slice b m c) cs:=
 ⟨hl,fun w=>by simp[Builtin.lenOf],fun w hI=>gH (hI.sl h) hl (fun e=>by
  cases cs with
  |nil=>rfl
  |cons v cs=>obtain⟨a,h1,_⟩:=h 0 (by simp);rw[e]at h1;cases h1)⟩
theorem pE {b o i:Nat}:(Addr.add ⟨b,o,none⟩ i)=⟨b,o+i,none⟩:=by
 unfold Addr.add;split<;>rename_i h<;>first|(subst h;rfl)|rfl
theorem Ku (qy ZP t:Nat) (e:TypeId):qy≤(Question.appendCap qy ZP e).cut t:=Nat.le_add_right _ _
theorem nA {T U E:TypeId} {xd:TypeDesc} {b:Option Addr} {m c l s fx:Nat} {x z:Value} {cs new:List Value} {j:Nat} {ty:TypeId}
  (hu:P.underlying T=some (.slice E)) (GX:P.underlying U=some xd) (Kq:(∃XE,xd=.slice XE)∨xd=.string) (hi:eS P E z s fx) (hz:z.cells.size=s)
  (hO:O[j]? =some (ak b c E s cs)) (hl:cs.length=m*s) (_hs:0<s)
  (hx:Src P base O s l x new) (pW:(new.all dD)=true) (qo:(m+l)*fx≤70368744177664) (J2:fx≤1000000) (z_:0<fx) {w:World} (hI:Inv base O w):
  ∃b' c' w',(Builtin.append_ #[T,U] ty #[.slice b m c,x]).run P w=.ok (.slice b' (m+l) c') w'∧Inv base (O.set j (ak b' c' E s (cs++new))) w':=by
 obtain⟨DE,ie,GY⟩:=hx
 obtain⟨i,Wk,Fj,ZO,Wl⟩:=hi.get
 have sC:=hI.row hO
 have Ol:=GY w hI
 have j8:(Builtin.firstCells s m (.slice b m c)).run P w=.ok cs.toArray w:=gH sC.sl hl (fun e=>by subst e;exact sC.1)
 by_cases Om:m+l≤c
 ·-- there is room
  cases b with
  |none=>
   obtain⟨rfl,rfl⟩:=sC
   have ZQ:m=0:=by omega
   have DG:l=0:=by omega
   subst ZQ;subst DG
   have GZ:new=[]:=List.length_eq_zero_iff.1 (by omega)
   subst GZ
   refine⟨none,0,w,?_,?_⟩
   ·rcases Kq with⟨XE,rfl⟩|rfl<;>simp[Builtin.append_,aV hu,aV GX,bp hi,ie,Ol]
   ·simp only[List.append_nil]
    obtain⟨A,B,e,GR⟩:=zU hO
    rw[GR,←e]
    exact hI
  |some a=>
   obtain⟨k,o,sp⟩:=a
   obtain⟨wT,full,hb,h1,h2,h3⟩:=sC
   simp only at wT hb h1 h2 h3
   subst wT
   obtain⟨fl,rfl⟩: ∃fl:List Value,full=fl.toArray:=⟨full.toList,by simp⟩
   simp only[List.size_toArray]at h2
   have hmul:m*s+l*s≤c*s:=by rw[←Nat.add_mul];exact Nat.mul_le_mul_right s Om
   have hr:o+m*s+0+new.length≤fl.length:=by omega
   have pX:=jB (P:=P) (b:=k) (o:=o+m*s) (T:=E) new fl 0 w hb hr pW
   refine⟨some ⟨k,o,none⟩,c,_,?_,hI.setRow hO (zY:=cs++new) (full:=(dl fl (o+m*s+0) new).toArray) (by simp;omega) (by simp[gv];exact h2) ?_⟩
   ·rcases Kq with⟨XE,rfl⟩|rfl<;>simp[Builtin.append_,aV hu,aV GX,bp hi,ie,Ol,Om,pE]
    all_goals (simp at pX;rw[pX];rfl)
   ·intro q hq
    simp only[List.length_append]at hq
    have e1:(dl fl (o+m*s+0) new).toArray[o+q]? =(dl fl (o+m*s) new)[o+q]? :=by simp
    have e2:some ((cs++new)[q]'(by simp;omega))=(cs++new)[q]? :=(List.getElem?_eq_getElem _).symm
    rw[e1,e2,lA new fl (o+m*s) (o+q) (by omega)]
    by_cases wL:m*s≤q
    ·rw[if_pos (by omega),List.getElem?_append_right (by omega)]
     congr 1;omega
    ·rw[if_neg (by omega),List.getElem?_append_left (by omega)]
     have:=h3 q (by omega)
     simpa[List.getElem?_eq_getElem (show q<cs.length by omega)]using this
 ·-- a new array
  obtain⟨cap,Kv⟩: ∃cap,(Question.appendCap (m+l) c E).cut (w.tape w.drawn (Question.appendCap (m+l) c E))=cap:=⟨_,F⟩
  have Aa:m+l≤cap:=Kv▸Ku (m+l) c _ E
  have Kw:(Question.appendCap (m+l) c E).forced=false:=rfl
  have mh:Inv base O w.drew:=hI.drew
  have Wn:=GY _ mh
  have MJ:=mh.row hO
  have Wo:(Builtin.firstCells s m (.slice b m c)).run P w.drew=.ok cs.toArray w.drew:=gH MJ.sl hl (fun e=>by subst e;exact MJ.1)
  have dU: ¬(Builtin.nextslicecap (m+l) c*fx>2^48):=by
   have h1:=Cv (qy:=m+l) (cap:=c) (by omega)
   have h2:Builtin.nextslicecap (m+l) c*fx≤(2*(m+l)+192)*fx:=Nat.mul_le_mul_right _ h1
   have h3:(2*(m+l)+192)*fx=2*((m+l)*fx)+192*fx:=by rw[Nat.add_mul,Nat.mul_assoc]
   omega
  obtain⟨w',G0⟩: ∃w':World,w'=w.drew.alloc (.cells (cs.toArray++new.toArray++Builtin.zeroCells z.cells (cap-(m+l))) E):=⟨_,F⟩
  refine⟨some ⟨w.heap.size,0,none⟩,cap,w',?_,?_⟩
  ·have RY: ¬(9223372036854775807<((m:Int)+(l:Int))∧fx=0):=by rintro⟨_,h⟩;omega
   have On: ¬(281474976710656<Builtin.nextslicecap (m+l) c*fx):=by simpa using dU
   rcases Kq with⟨XE,rfl⟩|rfl<;>simp[Builtin.append_,aV hu,aV GX,bp hi,ie,Om,kg Wk,Wl,RY,On,Kw,Kv,Wo,Wn,fC hi,newRow,G0]
   all_goals (have e:(cs++new).toArray=cs.toArray++new.toArray:=by simp)
   all_goals rw[e,Array.append_assoc]
  ·subst G0
   refine hI.qq hO F F F (by simp) (fun q hq _=>?_) ⟨F,cs.toArray++new.toArray++Builtin.zeroCells z.cells (cap-(m+l)),?_,?_,?_,?_⟩ ?_ (by simp[ak])
   ·show(w.heap.push _)[q]? =_
    rw[Array.getElem?_push,if_neg (by omega)]
   ·show(w.heap.push _)[w.heap.size]? =_
    simp
   ·simp only[List.length_append,hl,DE,←Nat.add_mul];exact Nat.mul_le_mul_right s Aa
   ·simp only[Array.size_append,List.size_toArray,Fo,hz,hl,DE,←Nat.add_mul,Nat.zero_add]
    exact Nat.mul_le_mul_right s (by omega)
   ·intro q hq
    simp only[Nat.zero_add]
    rw[Array.getElem?_append_left (by simp at hq⊢;exact hq)]
    simp
   ·intro q hq
    simp[ak]at hq
    subst hq
    exact .inr ⟨Nat.le_refl _,by simp⟩
theorem bX {T U E XE:TypeId} {b:Option Addr} {m c l s fx:Nat} {x y:Operand} {xv z:Value} {cs new:List Value} (j:Nat)
  (hu:P.underlying T=some (.slice E)) (GX:P.underlying U=some (.slice XE)) (hi:eS P E z s fx) (hz:z.cells.size=s)
  (hx:ev ρ x=.slice b m c) (hy:ev ρ y=xv) (hO:O[j]? =some (ak b c E s cs)) (hl:cs.length=m*s) (hs:0<s)
  (Cw:Src P base O s l xv new) (pW:(new.all dD)=true) (qo:(m+l)*fx≤70368744177664) (J2:fx≤1000000) (z_:0<fx)
  (h: ∀b' c',K (np ρ d (.slice b' (m+l) c')) (O.set j (ak b' c' E s (cs++new)))) (hn:Nat.blt d n=true:=by rfl):
  LT P r base n ⟨some d,.call ⟨.builtin .append,#[x,y],#[T,U]⟩,t,p,af,g⟩ ρ O K:=
 gw hn fun w M hI=>by
  obtain⟨b',c',w',hr,mh⟩:=nA (ty:=t) hu GX (.inl ⟨_,F⟩) hi hz (lB hO) hl hs Cw.sw pW qo J2 z_ hI
  rw[nz hO]at mh
  refine⟨_,w',_,?_,mh,h b' c'⟩
  simp[execOp,resolve,hx,hy,invoke,builtin,hr]
def Enters (P:Program) (f:FuncId) (fn:Func):Prop:=P.funcs[f]? =some fn∧(fn.name== "runtime.NumGoroutine")=false∧fn.body.isSome=true
def bw (P:Program) (base:World) (f:FuncId) (args:List Value) (O:List Item) (R:Value→List Item→Prop):Prop:=
 ∀w M,Inv base (O++M) w→Calls P f args.toArray w fun e w'=> ∃v O',e=.returned v∧Inv base (O'++M) w'∧R v O'
theorem bw.mono {f:FuncId} {args:List Value} {R R':Value→List Item→Prop} (h:bw P base f args O R) (hr: ∀v O',R v O'→R' v O'):bw P base f args O R':=
 fun w M hI=>(h w M hI).mono fun _ _ ⟨v,O',h1,h2,h3⟩=>⟨v,O',h1,h2,hr v O' h3⟩
def bs (P:Program) (f:FuncId) (args:List Value) (w:World) (R:Value→List Item→Prop):Prop:=bw P w f args [] R
theorem aE {f:FuncId} {args:List Value} {R:Value→List Item→Prop} (h: ∀w,Inv base O w→bs P f args w R):bw P base f args O (fun v O'=> ∃N,O'=N++O∧R v N):=
 fun w M hI=>(h w hI.left w [] (Inv.refl w)).mono fun _ _ ⟨v,N,h1,h2,h3⟩=>⟨v,N++O,h1,by
  have:=hI.call h2
  simpa[List.append_assoc]using this,N,F,h3⟩
theorem bw.under {f:FuncId} {args:List Value} {A B:List Item} {R:Value→List Item→Prop} (h:bw P base f args A R) (hs:Sub (A++B) O):bw P base f args O (fun v O'=> ∃A',O'=A'++B∧R v A'):=
 fun w M hI=>(h w (B++M) (by have:=hI.jf hs.sw;rwa[List.append_assoc]at this)).mono fun _ _ ⟨v,A',h1,h2,h3⟩=>⟨v,A'++B,h1,by rwa[List.append_assoc],A',F,h3⟩
def DH (P:Program) (base:World) (M:List Item) (R:Value→List Item→Prop):Result Next→Prop
 | .ok (.enter f args) w=>Calls P f args w fun e w'=> ∃v O',e=.returned v∧Inv base (O'++M) w'∧R v O'
 | .ok (.round l f tmps assign body) w=>RoundIn Fence.wide 0 P l f tmps assign body w fun e w'=> ∃v O',e=.returned v∧Inv base (O'++M) w'∧R v O'
 |_=>False
def jC (fv:Value) (args:Array Value):Sem Next:=do
 let d←Deferred.ofValue fv args
 invoke d.target d.args
def dW (P:Program) (base:World) (fv:Value) (args:List Value) (O:List Item) (R:Value→List Item→Prop):Prop:=
 ∀w M,Inv base (O++M) w→DH P base M R ((jC fv args.toArray).run P w)
theorem DH.mono {M:List Item} {R R':Value→List Item→Prop} {x:Result Next} (h:DH P base M R x) (hr: ∀v O',R v O'→R' v O'):DH P base M R' x:=by
 cases x with
 |halt e w=>exact h
 |ok y w=>
  cases y<;>first
   |exact h
   |exact Calls.mono h fun _ _ ⟨v,O',h1,h2,h3⟩=>⟨v,O',h1,h2,hr v O' h3⟩
   |exact RoundIn.mono h fun _ _ ⟨v,O',h1,h2,h3⟩=>⟨v,O',h1,h2,hr v O' h3⟩
theorem dW.mono {fv:Value} {args:List Value} {R R':Value→List Item→Prop} (h:dW P base fv args O R) (hr: ∀v O',R v O'→R' v O'):dW P base fv args O R':=
 fun w M hI=>(h w M hI).mono hr
theorem dW.under {fv:Value} {args:List Value} {A B:List Item} {R:Value→List Item→Prop} (h:dW P base fv args A R) (hs:Sub (A++B) O):dW P base fv args O (fun v O'=> ∃A',O'=A'++B∧R v A'):=fun w M hI=>by
 have h1:=h w (B++M) (by have:=hI.jf hs.sw;rwa[List.append_assoc]at this)
 revert h1
 cases(jC fv args.toArray).run P w with
 |halt e w=>exact id
 |ok y w=>
  cases y<;>first
   |exact id
   |exact fun h=>Calls.mono h fun _ _ ⟨v,A',h1,h2,h3⟩=>⟨v,A'++B,h1,by rwa[List.append_assoc],A',F,h3⟩
   |exact fun h=>RoundIn.mono h fun _ _ ⟨v,A',h1,h2,h3⟩=>⟨v,A'++B,h1,by rwa[List.append_assoc],A',F,h3⟩
theorem b_ {f:FuncId} {fn:Func} {first args fK:List Value} {R:Value→List Item→Prop} (he:Enters P f fn) (h:bw P base f (first++args++fK) O R):dW P base (.func (.func f) first.toArray fK.toArray) args O R:=fun w M hI=>by
 have rz: ¬fn.name= "runtime.NumGoroutine" :=by simpa using he.2.1
 obtain⟨bd,Kx⟩:=Option.isSome_iff_exists.1 he.2.2
 have hr:(jC (.func (.func f) first.toArray fK.toArray) args.toArray).run P w=.ok (.enter f (first++args++fK).toArray) w:=by
  have e:(first++args++fK).toArray=first.toArray++args.toArray++fK.toArray:=by simp
  rw[e]
  simp[jC,Deferred.ofValue,invoke,callFunc,he.1,rz,Kx]
 rw[hr]
 exact h w M hI
theorem qz {x:Operand} {args:List Operand} {wW:Array TypeId} {dst:Option Nat} {w:World}:(execOp (ev ρ) ⟨dst,.call ⟨.value x,args.toArray,wW⟩,t,p,af,g⟩).run P w=(jC (ev ρ x) (Ff ρ args).toArray).run P w:=by
 have DC:(args.toArray.map (ev ρ))=(Ff ρ args).toArray:=by simp[GQ]
 simp only[execOp,resolve,jC,DC,Sem.run_bind]
theorem lC {r:Option Nat} {f:FuncId} {args:Array Value} {w:World} {R:Ending→World→Prop} (h:Calls P f args w R):CallsIn (Fr r) (0-1) P f args w R:=callsIn_wide.2 h
theorem dQ {x:Operand} {args:List Operand} {wW:Array TypeId} {fv:Value} {vs:List Value} {R:Value→List Item→Prop} (hc:dW P base fv vs O R) (hx:ev ρ x=fv) (ha:Ff ρ args=vs)
  (h: ∀v O',R v O'→K (np ρ d v) O') (hn:Nat.blt d n=true:=by rfl):LT P r base n ⟨some d,.call ⟨.value x,args.toArray,wW⟩,t,p,af,g⟩ ρ O K:=by
 subst hx;subst ha
 intro a w M ds ha hi next Qx dU
 have h1:=hc w M hi
 rw[←qz (t:=t) (p:=p) (af:=af) (g:=g) (wW:=wW) (dst:=some d)]at h1
 rw[←ha.eval]at h1
 revert h1
 generalize hr:(execOp a.eval ⟨some d,.call ⟨.value x,args.toArray,wW⟩,t,p,af,g⟩).run P w=y
 intro h1
 refine j9 (by intro c e;cases e) ?_
 rw[hr]
 cases y with
 |halt e w=>exact h1.elim
 |ok y w1=>
  cases y with
  |enter f Yg=>
   rw[Oper.uponIn_enter]
   refine⟨fun e=>by simp[Fr,Fence.wide]at e,lC (Calls.mono h1 ?_)⟩
   rintro e w' ⟨v,O',rfl,mh,hR⟩
   exact dU _ _ _ _ (ha.put hn v) mh (h v O' hR)
  |round l f tmps assign body=>
   rw[Oper.uponIn_round]
   refine⟨fun e=>by simp[Fr,Fence.wide]at e,RoundIn.mono h1 ?_⟩
   rintro e w' ⟨v,O',rfl,mh,hR⟩
   exact dU _ _ _ _ (ha.put hn v) mh (h v O' hR)
  |_=>exact h1.elim
theorem aI {f:FuncId} {fn:Func} {args:List Operand} {wW:Array TypeId} {vs:List Value} {R:Value→List Item→Prop} (he:Enters P f fn)
  (hc:bw P base f vs O R) (ha:Ff ρ args=vs) (h: ∀v O',R v O'→K (np ρ d v) O') (hn:Nat.blt d n=true:=by rfl):LT P r base n ⟨some d,.call ⟨.value (.func f),args.toArray,wW⟩,t,p,af,g⟩ ρ O K:=
 dQ (b_ (first:=[]) (fK:=[]) he (by simpa using hc)) F ha h hn
def entry (args:List Value):Env:=fun t=>args.getD t undef
structure qb (P:Program) (base:World) (fn:Func) (ρ:Env) (O:List Item) (R:Value→List Item→Prop):Prop where
 ex: ∃v O',Sub O' O∧R v O'∧ ∀w tmps,Inv base O w→(∀t,tmps.getD t undef=ρ t)→(results fn tmps).run P w=.ok v w
def RZ (P:Program) (base:World) (fn:Func) (R:Value→List Item→Prop):ju
 | .normal,ρ,O=>qb P base fn ρ O R
 | .ret,ρ,O=>qb P base fn ρ O R
 |_,_,_=>False
theorem nB {fn:Func} {tmps:Array Value} {M O':List Item} {Rx:Ending→World→Prop} (h: ∀w,Inv base (O'++M) w→ ∃v,(results fn tmps).run P w=.ok v w∧Rx (.returned v) w):
  ∀(D:List Nat) (w:World),Inv base (O'++(mI D++M)) w→LeavesInM Fence.wide 0 P fn tmps Rx (mD D) .returning w
 | [],w,hI=>h w hI
 |b::D,w,hI=>by
  have mh:Inv base (O'++tp b::(mI D++M)) w:=hI
  have hb:w.heap[b]? =some (.deferred (some [])):=mh.holds (tp b) (by simp)
  have eU:=(Array.getElem?_eq_some_iff.1 hb).1
  refine⟨by simp,.inl ⟨b,w.putObj b (.deferred none),F,run_takeDeferred hb,nB h D _ ?_⟩⟩
  have:=Inv.step (N:=[]) (w':=w.putObj b (.deferred none)) mh F F F (by simp) (fun k _ hk=>World.putObj_heap_other (fun e=>hk (by simp[tp,da,e]))) (by simp) (by simp) (by simp)
  simpa using this
theorem av {f:FuncId} {fn:Func} {c:Code} {args:List Value} {R:Value→List Item→Prop} (hf:P.funcs[f]? =some fn) (hb:fn.body=some c) (hn:fn.ntmps=n) (hl:Nat.ble args.length n=true)
  (h:T P none base n c (RZ P base fn R) (entry args) O):bw P base f args O R:=by
 have hl:=Nat.le_of_ble_eq_true hl
 intro w M hI
 rw[←callsIn_wide (n:=0)]
 refine callsIn_of_wp_marks hf hb trivial (wpIn_mono (h _ w M [] trivial ⟨?_,?_,F⟩ hI) ?_)
 ·intro t
  show(args.toArray++Array.replicate (fn.ntmps-args.toArray.size) undef).getD t undef=args.getD t undef
  rw[Array.getD_eq_getD_getElem?,List.getD_eq_getElem?_getD]
  by_cases h:t<args.length
  ·rw[Array.getElem?_append_left (by simpa using h)];simp
  ·rw[Array.getElem?_append_right (by simpa using h)]
   have:args[t]? =none:=by simp;omega
   rw[this,Array.getElem?_replicate]
   split<;>rfl
 ·simp;omega
 ·have key: ∀(a':Act) (w':World) (fP:Env) (O':List Item) (D:List Nat),Ag n (mD D) a' fP→Inv base (O'++(mI D++M)) w'→qb P base fn fP O' R→
    LeavesInM Fence.wide 0 P fn a'.tmps (fun e Ks=> ∃v O',e=.returned v∧Inv base (O'++M) Ks∧R v O') a'.defers .returning w':=by
   intro a' w' fP O' D h1 h2 h3
   obtain⟨v,wM,wU,hR,hr⟩:=h3.ex
   rw[h1.defers]
   exact nB (fun w hI=>⟨v,hr w a'.tmps hI.left h1.tmp,v,wM,F,hI.jf wU.sw,hR⟩) D w' h2
  rintro e a' w' ⟨fP,O',D,h1,h2,h3⟩
  cases e with
  |normal=>exact key a' w' fP O' D h1 h2 h3
  |ret=>exact key a' w' fP O' D h1 h2 h3
  |_=>exact h3.elim
def lp (q:Loop) (j:Option Code):Obj:=.loop {q with state:=if j.isNone then .ready else .done,pending:=j}
structure G1 (q:Loop) (n:Nat) (ρ:Env) (ps:Array Nat) (assign body:Code):Prop where
 params:q.params=ps
 assign:q.assign=assign
 body:q.body=body
 tmp: ∀t,q.tmps.getD t undef=ρ t
 size:q.tmps.size=n
def MK (Q:ju) (ρ:Env) (O:List Item):Option Code→Prop
 |none=>Q .normal ρ O
 |some .ret=>Q .ret ρ O
 |some (.exit id)=>Q (.exit id) ρ O
 |_=>False
theorem T.rangeFunc {gx:Operand} {ps:Array Nat} {assign body:Code} {Q:ju} {f:FuncId} {fn:Func} {first fK:List Value} (hg:ev ρ gx=.func (.func f) first.toArray fK.toArray) (he:Enters P f fn)
  (h: ∀(l:Nat) (q:Loop),G1 q n ρ ps assign body→bw P base f (first++[.func (.yield l) #[] #[]]++fK) (da l (lp q none)::O) (fun _ O'=> ∃j wM,O'=da l (lp q j)::wM∧MK Q ρ wM j)):
  T P r base n (.rangeFunc gx ps assign body) Q ρ O:=by
 have rz: ¬fn.name= "runtime.NumGoroutine" :=by simpa using he.2.1
 obtain⟨bd,Kx⟩:=Option.isSome_iff_exists.1 he.2.2
 intro a w M D hM ha hI
 refine wpIn_rangeFunc fun Ab _=>?_
 have ZR:a.eval gx=.func (.func f) first.toArray fK.toArray:=by rw[ha.eval];exact hg
 have ML: ∀(l:Nat) (w1:World),(resolve a.eval (rangeCall gx l) 0).run P w1=.ok ⟨.fn (.func f) fK.toArray,(first++[Value.func (.yield l) #[] #[]]).toArray⟩ w1:=fun l w1=>by
  have e:(first++[Value.func (.yield l) #[] #[]]).toArray=first.toArray++ #[.func (.yield l) #[] #[]]:=by simp
  rw[e]
  have hc:a.eval (.const (.func (.yield l) #[] #[]))=.func (.yield l) #[] #[]:=rfl
  simp[resolve,ZR,hc,Deferred.ofValue]
 have hinv: ∀(l:Nat) (w1:World),(invoke (.fn (.func f) fK.toArray) (first++[Value.func (.yield l) #[] #[]]).toArray).run P w1=.ok (.enter f (first++[Value.func (.yield l) #[] #[]]++fK).toArray) w1:=fun l w1=>by
  have e:(first++[Value.func (.yield l) #[] #[]]++fK).toArray=(first++[Value.func (.yield l) #[] #[]]).toArray++fK.toArray:=by simp
  rw[e]
  simp[invoke,callFunc,he.1,rz,Kx]
 have post: ∀(l:Nat) (q:Loop) (mark:List Deferred) (D':List Nat),mark++mD D=mD D'→ ∀e w',(∃v O',e=Ending.returned v∧Inv base (O'++(mI D'++M)) w'∧ ∃j wM,O'=da l (lp q j)::wM∧MK Q ρ wM j)→
   rangePost (Fr r) 0 P l (lift base n M Q) {a with defers:=mark++a.defers} e w':=by
  rintro l q mark D' R0 e w' ⟨v,O',rfl,mh,j,wM,rfl,hj⟩
  have hl:w'.heap[l]? =some (lp q j):=mh.holds (da l (lp q j)) (by simp)
  have eU:=(Array.getElem?_eq_some_iff.1 hl).1
  refine⟨j,_,run_endLoop (P:=P) hl (by simp;split<;>simp),?_⟩
  have nX:Inv base (wM++(mI D'++M)) (w'.putObj l (.loop {({q with state:=if j.isNone then .ready else .done,pending:=j}:Loop)with state:=.exhausted})):=by
   have:=Inv.step (A:=[]) (N:=[]) (w':=w'.putObj l (.loop {({q with state:=if j.isNone then .ready else .done,pending:=j}:Loop)with state:=.exhausted})) (B:=wM++(mI D'++M)) (it:=da l (lp q j)) mh
    rfl F F (by simp) (fun k _ hk=>World.putObj_heap_other (fun e=>hk (by simp[da,e]))) (by simp) (by simp) (by simp)
   simpa using this
  have Oo:Ag n (mD D') ({a with defers:=mark++a.defers}:Act) ρ:=⟨ha.tmp,ha.size,by simp[ha.defers];exact R0⟩
  cases j with
  |none=>exact⟨ρ,wM,D',Oo,nX,hj⟩
  |some c=>
   cases c with
   |ret=>exact wpIn_ret ⟨ρ,wM,D',Oo,nX,hj⟩
   |exit id=>exact wpIn_exit ⟨ρ,wM,D',Oo,nX,hj⟩
   |_=>exact hj.elim
 cases r with
 |none=>
  have R1:Inv base (tp w.heap.size::(O++(mI D++M))) (w.alloc (.deferred (some []))):=hI.alloc _
  have nX:=R1.alloc (.loop {state:=.ready,pending:=none,fn:=Ab,tmps:=a.tmps,params:=ps,assign,body,defers:=w.heap.size})
  have Wp:Inv base ((da (w.heap.size+1) (lp {state:=.ready,pending:=none,fn:=Ab,tmps:=a.tmps,params:=ps,assign,body,defers:=w.heap.size} none)::O)++(mI (w.heap.size::D)++M))
    ((w.alloc (.deferred (some []))).alloc (.loop {state:=.ready,pending:=none,fn:=Ab,tmps:=a.tmps,params:=ps,assign,body,defers:=w.heap.size})):=by
   refine nX.perm ?_
   have e:(w.alloc (.deferred (some []))).heap.size=w.heap.size+1:=by simp
   rw[e]
   exact List.Perm.cons _ List.perm_middle
  refine⟨_,_,_,_,_,f,_,_,run_enterLoop_outer (P:=P) (w:=w) Ab a.tmps ps assign body,ML _ _,fun _ _=>trivial,hinv _ _,fun e=>by simp[Fr,Fence.wide]at e,lC ?_⟩
  refine Calls.mono (h (w.heap.size+1) {state:=.ready,pending:=none,fn:=Ab,tmps:=a.tmps,params:=ps,assign,body,defers:=w.heap.size} ⟨F,F,F,ha.tmp,ha.size⟩ _ _ Wp) ?_
  exact post _ _ _ (w.heap.size::D) F
 |some l0=>
  obtain⟨it,di,R3⟩:=hM
  obtain⟨rc,ZS⟩:=R3 w (hI.holds it (by simp[di]))
  have nX:=hI.alloc (.loop {state:=.ready,pending:=none,fn:=Ab,tmps:=a.tmps,params:=ps,assign,body,defers:=rc.defers})
  refine⟨_,_,_,_,_,f,_,_,run_enterLoop_inner (P:=P) (w:=w) ZS Ab a.tmps ps assign body,ML _ _,fun _ _=>trivial,hinv _ _,fun e=>by simp[Fr,Fence.wide]at e,lC ?_⟩
  refine Calls.mono (h w.heap.size {state:=.ready,pending:=none,fn:=Ab,tmps:=a.tmps,params:=ps,assign,body,defers:=rc.defers} ⟨F,F,F,ha.tmp,ha.size⟩ _ (mI D++M) nX) ?_
  exact post _ _ _ D F
def G2:List Nat→List Value→Env→Env
 |t::ts,v::vs,ρ=>G2 ts vs (np ρ t v)
 |_,_,ρ=>ρ
theorem Ac: ∀(ts:List Nat) (vs:List Value) (tmps:Array Value) (ρ:Env),(ts.all fun t=>Nat.blt t n)=true→tmps.size=n→(∀t,tmps.getD t undef=ρ t)→
  (((ts.zip vs).foldl (fun tmps q=>tmps.setIfInBounds q.1 q.2) tmps).size=n∧ ∀t,((ts.zip vs).foldl (fun tmps q=>tmps.setIfInBounds q.1 q.2) tmps).getD t undef=G2 ts vs ρ t)
 | [],vs,tmps,ρ,_,hs,ht=>⟨hs,ht⟩
 |t::ts,[],tmps,ρ,_,hs,ht=>⟨hs,ht⟩
 |t::ts,v::vs,tmps,ρ,hb,hs,ht=>by
  simp only[List.all_cons,Bool.and_eq_true]at hb
  have h1:=Ag.put (a:= {tmps:=tmps,defers:=[]}) (ds:=[]) ⟨ht,hs,F⟩ hb.1 v
  exact Ac ts vs _ (np ρ t v) hb.2 h1.size h1.tmp
def Oq (l:Nat) (q:Loop) (R:Value→List Item→Prop):ju
 | .normal,_,O=>R (.bool true) (da l (lp q none)::O)
 | .ret,_,O=>R (.bool false) (da l (lp q (some .ret))::O)
 | .exit id,_,O=>R (.bool false) (da l (lp q (some (.exit id)))::O)
 |_,_,_=>False
theorem Inv.Ad {O M:List Item} {w:World} {l:Nat} {o o':Obj} (hI:Inv base (da l o::O++M) w):Inv base (da l o'::O++M) (w.putObj l o'):=by
 have hl:w.heap[l]? =some o:=hI.holds (da l o) (by simp)
 have eU:=(Array.getElem?_eq_some_iff.1 hl).1
 have:=Inv.step (A:=[]) (N:=[da l o']) (w':=w.putObj l o') (B:=O++M) (it:=da l o) hI F F F (by simp) (fun k _ hk=>World.putObj_heap_other (fun e=>hk (by simp[da,e])))
  (by intro x hx;simp at hx;subst hx;exact World.putObj_heap_same eU) (by intro x hx b hb;simp at hx;subst hx;exact .inl hb) (by simp[da])
 simpa using this
theorem dW.yield {l:Nat} {q:Loop} {ps:Array Nat} {assign body:Code} {args:List Value} {R:Value→List Item→Prop} (hq:G1 q n ρ ps assign body) (hl:args.length=ps.size) (G3:(ps.toList.all fun t=>Nat.blt t n)=true)
  (h:T P (some l) base n assign (GU (fun ρ O=>T P (some l) base n body (Oq l q R) ρ O) (fun _ _ _=>False)) (G2 ps.toList args ρ) O):
  dW P base (.func (.yield l) #[] #[]) args (da l (lp q none)::O) R:=by
 obtain⟨rfl,rfl,rfl,ht,hs⟩:=hq
 intro w M hI
 have hb:w.heap[l]? =some (.loop {q with state:=.ready,pending:=none}):=hI.holds (da l (lp q none)) (by simp)
 have G4:(jC (.func (.yield l) #[] #[]) args.toArray).run P w=.ok (.round l q.fn ((q.params.toList.zip args).foldl (fun tmps p=>tmps.setIfInBounds p.1 p.2) q.tmps) q.assign q.body) w:=by
  have h1:=run_yield (P:=P) (args:=args.toArray) hb (by simpa using hl)
  simp only[jC,Deferred.ofValue,invoke,Sem.run_bind,Sem.run_pure,Result.andThen_ok]
  have e:(#[]:Array Value)++args.toArray=args.toArray:=by simp
  rw[e,h1]
  congr 2
  rw[←Array.foldl_toList]
  congr 1
  simp
 rw[G4]
 obtain⟨qo,ZT⟩:=Ac q.params.toList args q.tmps ρ G3 hs ht
 refine roundIn_of_wpIn trivial ?_
 have R1:Inv base (O++(mI []++(da l (lp q none)::M))) w:=hI.perm List.perm_middle
 refine wpIn_mono (h {tmps:=_,defers:=[]} w (da l (lp q none)::M) [] ⟨da l (lp q none),by simp,fun w hw=>⟨_,hw⟩⟩ ⟨ZT,qo,F⟩ R1) ?_
 rintro e a1 w1 ⟨ρ1,O1,D1,h1,h2,h3⟩
 cases e with
 |normal=>
  have Q8:Inv base (da l (lp q none)::(O1++mI D1)++M) w1:=h2.perm (by
   have:(O1++(mI D1++da l (lp q none)::M))=((O1++mI D1)++da l (lp q none)::M):=by simp
   rw[this]
   exact List.perm_middle.symm)
  have Ae:w1.heap[l]? =some (.loop {q with state:=.ready,pending:=none}):=Q8.holds (da l (lp q none)) (by simp)
  refine⟨_,run_beginRound (P:=P) Ae F,?_⟩
  have Wp:=Q8.Ad (o':=.loop {({q with state:=.ready,pending:=none}:Loop)with state:=.busy})
  have ZU:Inv base (O1++(mI D1++(da l (.loop {({q with state:=.ready,pending:=none}:Loop)with state:=.busy})::M))) (w1.putObj l (.loop {({q with state:=.ready,pending:=none}:Loop)with state:=.busy})):=Wp.perm (by
   have:(O1++(mI D1++da l (.loop {({q with state:=.ready,pending:=none}:Loop)with state:=.busy})::M))=((O1++mI D1)++da l (.loop {({q with state:=.ready,pending:=none}:Loop)with state:=.busy})::M):=by simp
   rw[this]
   exact List.perm_middle)
  refine wpIn_mono (h3 a1 _ _ D1 ⟨da l (.loop {({q with state:=.ready,pending:=none}:Loop)with state:=.busy}),by simp,fun w hw=>⟨_,hw⟩⟩ h1 ZU) ?_
  rintro e a2 w2 ⟨ρ2,O2,D2,k1,k2,k3⟩
  have Yh:Inv base (da l (.loop {({q with state:=.ready,pending:=none}:Loop)with state:=.busy})::(O2++mI D2)++M) w2:=k2.perm (by
   have:(O2++(mI D2++da l (.loop {({q with state:=.ready,pending:=none}:Loop)with state:=.busy})::M))=((O2++mI D2)++da l (.loop {({q with state:=.ready,pending:=none}:Loop)with state:=.busy})::M):=by simp
   rw[this]
   exact List.perm_middle.symm)
  have Fp:w2.heap[l]? =some (.loop {({q with state:=.ready,pending:=none}:Loop)with state:=.busy}):=Yh.holds (da l (.loop {({q with state:=.ready,pending:=none}:Loop)with state:=.busy})) (by simp)
  have fin: ∀j:Option Code,Inv base (da l (lp q j)::O2++M) (w2.putObj l (lp q j)):=fun j=>by
   have:=Yh.Ad (o':=lp q j)
   refine this.sub ?_
   simp only[List.cons_append,List.append_assoc]
   exact List.Sublist.cons_cons _ (List.Sublist.append (List.Sublist.refl _) (List.sublist_append_right _ _))
  cases e with
  |normal=>exact⟨_,_,run_endRound (P:=P) none Fp,_,_,F,fin none,k3⟩
  |ret=>exact⟨_,_,run_endRound (P:=P) (some .ret) Fp,_,_,F,fin (some .ret),k3⟩
  |exit id=>exact⟨_,_,run_endRound (P:=P) (some (.exit id)) Fp,_,_,F,fin (some (.exit id)),k3⟩
  |_=>exact k3.elim
 |_=>exact h3.elim
theorem qb.zero {fn:Func} {R:Value→List Item→Prop} (hr:fn.results= #[]) (h:R (.tuple #[]) O):qb P base fn ρ O R:=
 ⟨⟨_,O,a_ (List.Sublist.refl _),h,fun w tmps _ _=>results_none hr tmps P w⟩⟩
theorem aG {fn:Func} {R:Value→List Item→Prop} {a:Nat} (v:Value) (hr:fn.results= #[.tmp a]) (hv:ρ a=v) (h:R v O):qb P base fn ρ O R:=
 ⟨⟨_,O,a_ (List.Sublist.refl _),h,fun w tmps _ ht=>by rw[results_tmp hr tmps P w,ht,hv]⟩⟩
theorem ct {fn:Func} {R:Value→List Item→Prop} {a b:Nat} (v u:Value) (hr:fn.results= #[.tmp a,.tmp b]) (hv:ρ a=v) (hu:ρ b=u) (h:R (.tuple #[v,u]) O):qb P base fn ρ O R:=
 ⟨⟨_,O,a_ (List.Sublist.refl _),h,fun w tmps _ ht=>by rw[results_tmp2 hr tmps P w,ht,ht,hv,hu]⟩⟩
theorem ao {fn:Func} {R:Value→List Item→Prop} (h:qb P base fn ρ O (fun v O1=> ∃O2,Sub O2 O1∧R v O2)):qb P base fn ρ O R:=by
 obtain⟨v,O1,hs,⟨O2,Fq,hR⟩,hr⟩:=h.ex
 refine⟨⟨v,O2,?_,hR,hr⟩⟩
 obtain⟨l2,p2,s2⟩:=Fq
 obtain⟨l1,p1,s1⟩:=hs
 obtain⟨l3,p3,s3⟩:=List.exists_perm_sublist s2 p1
 exact⟨l3,p2.trans p3.symm,s3.trans s1⟩
theorem oA {T E:TypeId} {d:TypeDesc} {z:Value} {s fx b:Nat} {cs:List Value} {fr:Nat×Nat} {w:World} (hu:P.underlying T=some d) (ha:qv d=true) (hi:eS P T z s fx) (hl:cs.length=s) (hw:w.heap[b]? =some (.cells cs.toArray E fr)):
  (loadVar T ⟨b,0,none⟩).run P w=.ok (.agg cs.toArray) w:=by
 have h:=ki (P:=P) (w:=w) (a:=⟨b,0,none⟩) cs 0 #[] (fun j hj=>by
  rw[pE];unfold World.cell?;simp[hw])
 simp[loadVar,lz hu,ha,bp hi,loadCells,←hl,h]
theorem bf {fn:Func} {R:Value→List Item→Prop} {a i:Nat} {T E:TypeId} {d:TypeDesc} {z:Value} {s fx b:Nat} {cs:List Value} {fr:Nat×Nat} (hr:fn.results= #[.cell a T]) (hu:P.underlying T=some d) (ha:qv d=true) (hi:eS P T z s fx) (hp:ρ a=.pointer (some ⟨b,0,none⟩)) (hO:O[i]? =some (da b (.cells cs.toArray E fr))) (hl:cs.length=s)
  (h:R (.agg cs.toArray) O):qb P base fn ρ O R:=
 ⟨⟨_,O,a_ (List.Sublist.refl _),h,fun w tmps hI ht=>by
  have:=oA (P:=P) hu ha hi hl (hI.tt hO)
  have Gm:=ht a
  simp only[Array.getD_eq_getD_getElem?]at Gm
  simp[results,hr,Gm,hp,asAddr,this]⟩⟩
theorem iJ {fn:Func} {R:Value→List Item→Prop} {a i c:Nat} (u:Value) {T E:TypeId} {d:TypeDesc} {z:Value} {s fx b:Nat} {cs:List Value} {fr:Nat×Nat} (hr:fn.results= #[.cell a T,.tmp c]) (hu:P.underlying T=some d) (ha:qv d=true) (hi:eS P T z s fx) (hp:ρ a=.pointer (some ⟨b,0,none⟩)) (hO:O[i]? =some (da b (.cells cs.toArray E fr))) (hl:cs.length=s) (Q7:ρ c=u)
  (h:R (.tuple #[.agg cs.toArray,u]) O):qb P base fn ρ O R:=
 ⟨⟨_,O,a_ (List.Sublist.refl _),h,fun w tmps hI ht=>by
  have:=oA (P:=P) hu ha hi hl (hI.tt hO)
  have Gm:=ht a
  have hc:=ht c
  simp only[Array.getD_eq_getD_getElem?]at Gm hc
  simp[results,hr,Gm,hc,Q7,hp,asAddr,this]⟩⟩
end
end Go.Lx

namespace Go.Lx
open Go.RowKit
def bZ:List (Nat×Value)→Env→Prop
 | [],_=>True
 |q::L,ρ=>ρ q.1=q.2∧bZ L ρ
def Af (L:List (Nat×Value)) (ρ:Env):Env:=L.foldr (fun q r=>np r q.1 q.2) ρ
theorem bZ.of {ρ:Env}: ∀ {L:List (Nat×Value)},L.map (fun q=>ρ q.1)=L.map (·.2)→bZ L ρ
 | [],_=>trivial
 |_::_,h=>⟨(List.cons.inj h).1,bZ.of (List.cons.inj h).2⟩
theorem u2 {ρ:Env}: ∀ {L:List (Nat×Value)},bZ L ρ→Af L ρ=ρ
 | [],_=>rfl
 |q::L,h=>by
  have ih:=u2 h.2
  show np (Af L ρ) q.1 q.2=ρ
  rw[ih]
  funext t
  unfold np
  cases e:Nat.beq t q.1 with
  |false=>rfl
  |true=>rw[Nat.eq_of_beq_eq_true e];exact h.1.symm
theorem bZ.elim {L:List (Nat×Value)} {ρ:Env} (h:bZ L ρ): ∃eP,ρ=Af L eP:=⟨ρ,(u2 h).symm⟩
abbrev ints (xs:List Int):List Value:=xs.map (Value.int .i64)
abbrev aQ (xs:List Nat):List Value:=xs.map fun x:Nat=>Value.int .i64 (x:Int)
abbrev aU (xs:List Bool):List Value:=xs.map Value.bool
abbrev yy (xs:List Nat):List Value:=xs.map fun x:Nat=>Value.int .u8 (x:Int)
theorem d_ {xs:List Int} {k:Nat} (h:k<xs.length:=by first|assumption|omega|(simp;omega)|simp_all):(ints xs)[k]? =some (.int .i64 xs[k]):=by simp[h]
theorem eK {xs:List Nat} {k:Nat} (h:k<xs.length:=by first|assumption|omega|(simp;omega)|simp_all):(aQ xs)[k]? =some (.int .i64 ((xs[k]:Nat):Int)):=by simp[h]
theorem gu {xs:List Bool} {k:Nat} (h:k<xs.length:=by first|assumption|omega|(simp;omega)|simp_all):(aU xs)[k]? =some (.bool xs[k]):=by simp[h]
theorem Ah {xs:List Nat} {k:Nat} (h:k<xs.length:=by first|assumption|omega|(simp;omega)|simp_all):(yy xs)[k]? =some (.int .u8 ((xs[k]:Nat):Int)):=by simp[h]
theorem G5 (xs:List Int):((ints xs).all dD)=true:=by simp[dD]
theorem Fs (xs:List Bool):((aU xs).all dD)=true:=by simp[dD]
def pY (P:Program) (T:TypeId) (pl:List (Nat×Nat)):Prop:=
 ∃fields,P.underlying T=some (.struct fields)∧ ∀w:World,(fields.mapM fun f=>do pure (f.offset,←sizeOf f.type):Sem (Array (Nat×Nat))).run P w=.ok pl.toArray w
section
variable {P:Program} {base:World} {ρ:Env} {O:List Item} {dst:Option Nat} {t:TypeId} {p:String} {af:Array Edge} {g:Option (Nat×Bool)}
theorem u3 {x y:Operand} {T E:TypeId} {b o n c i:Nat} {k:IntKind} {z:Value} {fx:Nat} (hu:P.underlying T=some (.slice E)) (hi:eS P E z 1 fx) (hx:ev ρ x=.slice (some ⟨b,o,none⟩) n c) (hy:ev ρ y=.int k (i:Int)) (eU:i<n):
  QT P base ⟨dst,.indexAddr T x y,t,p,af,g⟩ ρ O (.pointer (some ⟨b,o+i,none⟩)):=by
 have:=tq (P:=P) (base:=base) (O:=O) (dst:=dst) (t:=t) (p:=p) (af:=af) (g:=g) hu hi hx hy eU
 rwa[Nat.mul_one]at this
theorem bt {c a b:Operand} {v:Value} (hc:ev ρ c=.bool true) (ha:ev ρ a=v):QT P base ⟨dst,.pick c a b,t,p,af,g⟩ ρ O v:=fun w _=>by simp[execOp,hc,ha,asBool]
theorem aZ {c a b:Operand} {v:Value} (hc:ev ρ c=.bool false) (hb:ev ρ b=v):QT P base ⟨dst,.pick c a b,t,p,af,g⟩ ρ O v:=fun w _=>by simp[execOp,hc,hb,asBool]
theorem bE {T:TypeId} {parts:List (Nat×Operand)} {pl:List (Nat×Nat)} {z:Value} {s fx:Nat} {cs:List Value} (hp:pY P T pl) (hi:eS P T z s fx) (hf:Instr.fill (fun i=>pl[i]?) z.cells (parts.map fun q=>(q.1,ev ρ q.2))=some cs.toArray):
  QT P base ⟨dst,.build T parts.toArray,t,p,af,g⟩ ρ O (.agg cs.toArray):=fun w _=>by
 obtain⟨fields,hu,hm⟩:=hp
 have Vo:Instr.fill (fun i=>pl.toArray[i]?) z.cells (parts.map fun q=>(q.1,ev ρ q.2))=some cs.toArray:=by simpa using hf
 simp only[execOp,Instr.build,Sem.run_bind,fC hi,Result.andThen_ok,aV hu,hm w]
 simp at Vo
 simp[Vo]
end
end Go.Lx

namespace Go.Lx
open Go.RowKit
theorem ar {P:Program} {base:World} {o:Oper} {ρ:Env} {O:List Item} {b b':Bool} (h:QT P base o ρ O (.bool b)) (e:b=b'):QT P base o ρ O (.bool b'):=e▸h
def mg (w:World) (vs:List Value) (rs:List (List Int)):Prop:=
 vs.length=rs.length∧ ∀(i:Nat) (r:List Int),rs[i]? =some r→ ∃b c,vs[i]? =some (Value.slice b r.length c)∧Sl w b (ints r)
theorem mg.get {w:World} {vs:List Value} {rs:List (List Int)} (h:mg w vs rs) {i:Nat} (hi:i<rs.length): ∃b c,vs[i]? =some (Value.slice b rs[i].length c)∧Sl w b (ints rs[i]):=
 h.2 i rs[i] (List.getElem?_eq_getElem hi)
theorem mg.keep {w w':World} {vs:List Value} {rs:List (List Int)} (h:mg w vs rs) (hb: ∀k,k<w.heap.size→w'.heap[k]? =w.heap[k]?):mg w' vs rs:=
 ⟨h.1,fun i r hr=>by obtain⟨b,c,h1,h2⟩:=h.2 i r hr;exact⟨b,c,h1,h2.keep hb⟩⟩
theorem Inv.rows {base:World} {O:List Item} {w:World} (hI:Inv base O w) {vs:List Value} {rs:List (List Int)} (h:mg base vs rs):mg w vs rs:=h.keep hI.below.block
structure Rec where
 b:Option Addr
 c:Nat
 xs:List Int
def Rec.val (q:Rec):Value:=.slice q.b q.xs.length q.c
def Rec.lZ (E:TypeId) (q:Rec):Item:=ak q.b q.c E 1 (ints q.xs)
abbrev bO (qs:List Rec):List Value:=qs.map Rec.val
abbrev bl (E:TypeId) (qs:List Rec):List Item:=qs.map (Rec.lZ E)
abbrev nums (qs:List Rec):List (List Int):=qs.map Rec.xs
theorem Inv.R4 {base:World} {O:List Item} {w:World} (hI:Inv base O w) {E:TypeId} {qs:List Rec} (h: ∀q∈qs,q.lZ E∈O):mg w (bO qs) (nums qs):=by
 refine⟨by simp,fun i r hr=>?_⟩
 obtain⟨q,hq,rfl⟩: ∃q,qs[i]? =some q∧q.xs=r:=by
  rw[List.getElem?_map]at hr
  cases e:qs[i]? with
  |none=>rw[e]at hr;cases hr
  |some q=>rw[e]at hr;exact⟨q,F,by simpa using hr⟩
 refine⟨q.b,q.c,by simp[hq,Rec.val],?_⟩
 exact rowP.sl (hI.holds _ (h q (List.mem_of_getElem? hq)))
theorem Inv.eV {base:World} {O:List Item} {w:World} (hI:Inv base O w) {b:Option Addr} {c:Nat} {T:TypeId} {k:Nat} {cs:List Value} (h:ak b c T k cs∈O):Sl w b cs:=rowP.sl (hI.holds _ h)
section
variable {P:Program} {r:Option Nat} {base:World} {n:Nat} {ρ:Env} {O:List Item} {K:Env→List Item→Prop} {d:Nat} {t:TypeId} {p:String} {af:Array Edge} {g:Option (Nat×Bool)} {dst:Option Nat}
theorem sI {T U E XE:TypeId} {l s fx:Nat} {x y:Operand} {xv z:Value} {new:List Value}
  (hu:P.underlying T=some (.slice E)) (GX:P.underlying U=some (.slice XE)) (hi:eS P E z s fx) (hz:z.cells.size=s)
  (hx:ev ρ x=.slice none 0 0) (hy:ev ρ y=xv) (hs:0<s)
  (Cw:Src P base O s l xv new) (pW:(new.all dD)=true) (qo:l*fx≤70368744177664) (J2:fx≤1000000) (z_:0<fx)
  (h: ∀b' c',K (np ρ d (.slice b' l c')) (ak b' c' E s new::O)) (hn:Nat.blt d n=true:=by rfl):
  LT P r base n ⟨some d,.call ⟨.builtin .append,#[x,y],#[T,U]⟩,t,p,af,g⟩ ρ O K:=
 gw hn fun w M hI=>by
  have mh:=hI.dt E s
  have R5:Src P base (ak none 0 E s []::(O++M)) s l xv new:=⟨Cw.1,Cw.2.1,fun w hI=>Cw.2.2 w (hI.sub (List.sublist_cons_self _ _)).left⟩
  obtain⟨b',c',w',hr,Wq⟩:=nA (j:=0) (ty:=t) (m:=0) hu GX (.inl ⟨_,F⟩) hi hz F (by simp) hs R5 pW (by simpa using qo) J2 z_ mh
  refine⟨_,w',_,?_,Wq,by simpa using h b' c'⟩
  rw[Nat.zero_add]at hr
  simp[execOp,resolve,hx,hy,invoke,builtin,hr]
theorem bN {T E:TypeId} {x:Operand} {v:Value} {z:Value} {fx:Nat} (hu:P.underlying T=some (.slice E)) (hi:eS P E z 1 fx) (_hz:z.cells.size=1) (hx:ev ρ x=v) (hv:dD v=true)
  (h: ∀b,K (np ρ d (.slice (some ⟨b,0,none⟩) 1 1)) (ak (some ⟨b,0,none⟩) 1 E 1 [v]::O)) (hn:Nat.blt d n=true:=by rfl):LT P r base n ⟨some d,.buildSlice T 1 #[(0,x)],t,p,af,g⟩ ρ O K:=by
 refine bH (parts:=[(0,x)]) (cs:=[v]) hu hi (by omega) ?_ (by simp) h hn
 have hc:v.cells= #[v]:=by cases v<;>simp_all[dD,Value.cells]
 simp[Instr.fill,hx,hc]
 apply Array.ext_getElem?
 intro i
 cases i with
 |zero=>simp
 |succ i=>simp
end
theorem G6 {A B C:Item} {I R:List Item}:Sub (A::((I++[C])++R)) (B::C::A::(I++R)):=
 ⟨C::A::(I++R),by
  have:(I++[C]++R).Perm (C::(I++R)):=by
   rw[List.append_assoc]
   exact List.perm_middle
  exact(List.Perm.cons A this).trans (List.Perm.swap C A _),List.Sublist.cons _ (List.Sublist.refl _)⟩
theorem Ft {A B C:Item} {I:List Item}:Sub (A::(I++[C])) (B::C::A::I):=by
 have:=G6 (A:=A) (B:=B) (C:=C) (I:=I) (R:=[])
 simpa using this
structure bY where
 vars:Int
 start:Int
 next:List (List Int)
 aA:List Bool
 deriving DecidableEq
structure eA (w:World) (d:bY) (nb:Option Addr) (vs:List Value) (fb:Option Addr):Prop where
 outer:Sl w nb vs
 rows:mg w vs d.next
 aA:Sl w fb (aU d.aA)
theorem eA.keep {w w':World} {d:bY} {nb:Option Addr} {vs:List Value} {fb:Option Addr} (h:eA w d nb vs fb) (hb: ∀k,k<w.heap.size→w'.heap[k]? =w.heap[k]?):eA w' d nb vs fb:=
 ⟨h.outer.keep hb,h.rows.keep hb,h.aA.keep hb⟩
theorem Inv.u4 {base:World} {O:List Item} {w:World} (hI:Inv base O w) {d:bY} {nb:Option Addr} {vs:List Value} {fb:Option Addr} (h:eA base d nb vs fb):eA w d nb vs fb:=h.keep hI.below.block
abbrev cB (d:bY) (nb:Option Addr) (nc:Nat) (fb:Option Addr) (fc:Nat):List Value:=[.int .i64 d.vars,.int .i64 d.start,.slice nb d.next.length nc,.slice fb d.aA.length fc]
end Go.Lx

namespace Go.Lx
def kW (n:Nat) (r:List Int):Bool:=r.all fun x=>decide (0≤x)&&decide (x<(n:Int))
def p8 (L n:Nat):List (List Int)→Nat
 | []=>0
 |r::rs=>if r.length≠L then 2 else if kW n r=true then p8 L n rs else 8
def bW (d:bY):Nat:=
 if¬(0≤d.vars∧d.vars≤6)then 7
 else if d.next.length=0 then 3
 else if 4096<d.next.length then 4
 else if d.aA.length≠d.next.length then 2
 else if d.start<0∨(d.next.length:Int)≤d.start then 8
 else p8 (2^d.vars.toNat) d.next.length d.next
theorem kq {L n:Nat} {rs:List (List Int)} {k:Nat} (hk:k<rs.length):p8 L n (rs.drop k)=if rs[k].length≠L then 2 else if kW n rs[k]=true then p8 L n (rs.drop (k+1))else 8:=by
 rw[List.drop_eq_getElem_cons hk];rfl
theorem xn {L n:Nat} {rs:List (List Int)} {k:Nat} (hk:rs.length≤k):p8 L n (rs.drop k)=0:=by
 rw[List.drop_eq_nil_of_le hk];rfl
theorem Cl {n:Nat} {r:List Int} {j:Nat} (hj:j<r.length) (h:kW n (r.take j)=true) (h0: ¬r[j]<0) (h1: ¬(n:Int)≤r[j]):kW n (r.take (j+1))=true:=by
 rw[List.take_succ_eq_append_getElem hj]
 simp only[kW,List.all_append,Bool.and_eq_true]at h⊢
 refine⟨h,?_⟩
 simp;omega
theorem xm {n:Nat} {r:List Int} {j:Nat} (hj:j<r.length) (h:r[j]<0∨(n:Int)≤r[j]): ¬kW n r=true:=by
 intro hh
 simp only[kW,List.all_eq_true,Bool.and_eq_true,decide_eq_true_eq]at hh
 have:=hh _ (List.getElem_mem hj)
 omega
theorem Cm {n:Nat} {r:List Int} {j:Nat} (hj:r.length≤j) (h:kW n (r.take j)=true):kW n r=true:=by
 rwa[List.take_of_length_le hj]at h
structure Val (d:bY):Prop where
 v0:0≤d.vars
 v6:d.vars≤6
 n0:0<d.next.length
 fin:d.aA.length=d.next.length
 s0:0≤d.start
 s1:d.start<(d.next.length:Int)
 len: ∀r∈d.next,r.length=2^d.vars.toNat
 ok: ∀r∈d.next,∀x∈r,0≤x∧x<(d.next.length:Int)
structure Valid (d:bY):Prop extends Val d where
 n4:d.next.length≤4096
instance {d:bY}:Coe (Valid d) (Val d):=⟨Valid.toVal⟩
theorem re {L n:Nat}: ∀ {rs:List (List Int)},p8 L n rs=0↔(∀r∈rs,r.length=L)∧ ∀r∈rs,∀x∈r,0≤x∧x<(n:Int)
 | []=>by simp[p8]
 |r::rs=>by
  have ih:=re (L:=L) (n:=n) (rs:=rs)
  simp only[p8]
  by_cases h:r.length=L
  ·by_cases h2:kW n r=true
   ·simp only[h,ne_eq,not_true_eq_false,if_false,h2,if_true,ih,List.mem_cons,forall_eq_or_imp,true_and]
    have h3: ∀x∈r,0≤x∧x<(n:Int):=by simpa[kW]using h2
    exact⟨fun q=>⟨q.1,h3,q.2⟩,fun q=>⟨q.1,q.2.2⟩⟩
   ·simp only[h,ne_eq,not_true_eq_false,if_false,h2]
    refine⟨fun q=>by simp at q,fun q=>(h2 ?_).elim⟩
    have:=q.2 r (by simp)
    simpa[kW]using this
  ·simp only[ne_eq,h,not_false_eq_true,if_true]
   exact⟨fun q=>by simp at q,fun q=>(h (q.1 r (by simp))).elim⟩
theorem dr {d:bY}:bW d=0↔Valid d:=by
 unfold bW
 constructor
 ·intro h
  split at h;·cases h
  split at h;·cases h
  split at h;·cases h
  split at h;·cases h
  split at h;·cases h
  rename_i h1 h2 h3 h4 h5
  obtain⟨h6,h7⟩:=re.1 h
  simp only[Classical.not_not]at h1 h4
  exact⟨⟨h1.1,h1.2,by omega,h4,by omega,by omega,h6,h7⟩,by omega⟩
 ·intro h
  rw[if_neg (by have:=h.v0;have:=h.v6;simp;omega),if_neg (by have:=h.n0;omega),if_neg (by have:=h.n4;omega),if_neg (by simp[h.fin]),if_neg (by have:=h.s0;have:=h.s1;omega)]
  exact re.2 ⟨h.len,h.ok⟩
theorem Val.width {d:bY} (h:Val d):2^d.vars.toNat≤64:=
 Nat.le_trans (Nat.pow_le_pow_right (by omega) (show d.vars.toNat≤6 by have:=h.v0;have:=h.v6;omega)) (by decide)
theorem Val.uQ {d:bY} (h:Val d): ∀r∈d.next,r.length<9223372036854775807:=fun r hr=>by
 have:=h.len r hr;have:=h.width;omega
end Go.Lx

namespace Go.Lx
open Go.RowKit
noncomputable def one (a b:Item):Nat:=open Classical in if b=a then 1 else 0
noncomputable def ri (a:Item):List Item→Nat
 | []=>0
 |b::l=>one a b+ri a l
theorem ml (a:Item):ri a []=0:=rfl
theorem gX (a b:Item) (l:List Item):ri a (b::l)=one a b+ri a l:=rfl
theorem gA (a:Item) (l m:List Item):ri a (l++m)=ri a l+ri a m:=by
 induction l with
 |nil=>simp[ri]
 |cons b l ih=>rw[List.cons_append,gX,ih,gX];omega
theorem Ky {a:Item} {l:List Item} (h:0<ri a l): ∃l1 l2,l=l1++a::l2:=by
 induction l with
 |nil=>simp[ri]at h
 |cons b l ih=>
  by_cases e:b=a
  ·subst e;exact⟨[],l,F⟩
  ·obtain⟨l1,l2,rfl⟩:=ih (by simpa[ri,one,e]using h)
   exact⟨b::l1,l2,F⟩
theorem tu: ∀ {l m:List Item},(∀a,ri a l=ri a m)→l.Perm m
 | [],m,h=>by
  cases m with
  |nil=>exact List.Perm.refl _
  |cons b m=>have:=h b;simp[ri,one]at this;omega
 |b::l,m,h=>by
  obtain⟨m1,m2,rfl⟩:=Ky (a:=b) (l:=m) (by rw[←h b];simp[ri,one];omega)
  have h': ∀a,ri a l=ri a (m1++m2):=fun a=>by
   have:=h a
   rw[gX,gA,gX]at this
   rw[gA];omega
  exact(List.Perm.cons b (tu h')).trans List.perm_middle.symm
theorem Sub.ri {O' O:List Item} (D:List Item) (h: ∀a,Lx.ri a (O'++D)=Lx.ri a O):Sub O' O:=by
 have hp:=tu h
 obtain⟨l,h1,h2⟩:=List.exists_perm_sublist (List.sublist_append_left O' D) hp
 exact⟨l,h1.symm,h2⟩
def G7:List Item→Nat→List Item
 | [],_=>[]
 |a::_,0=>[a]
 |_::l,i+1=>G7 l i
def rA:List Item→Nat→List Item
 | [],_=>[]
 |_::l,0=>l
 |a::l,i+1=>a::rA l i
def u5:List Nat→List Item→List Item
 | [],_=>[]
 |i::is,L=>G7 L i++u5 is (rA L i)
def xB:List Nat→List Item→List Item
 | [],L=>L
 |i::is,L=>xB is (rA L i)
theorem xC: ∀(L:List Item) (i:Nat),(G7 L i++rA L i).Perm L
 | [],i=>List.Perm.refl _
 |a::l,0=>List.Perm.refl _
 |a::l,i+1=>by
  have ih:=xC l i
  show(G7 l i++a::rA l i).Perm (a::l)
  exact List.perm_middle.trans (List.Perm.cons a ih)
theorem pF: ∀(is:List Nat) (L:List Item),(u5 is L++xB is L).Perm L
 | [],L=>List.Perm.refl _
 |i::is,L=>by
  show((G7 L i++u5 is (rA L i))++xB is (rA L i)).Perm L
  rw[List.append_assoc]
  exact((pF is (rA L i)).append_left _).trans (xC L i)
theorem iS {O' D O:List Item} (h:(O'++D).Perm O):Sub O' O:=by
 obtain⟨l,h1,h2⟩:=List.exists_perm_sublist (List.sublist_append_left O' D) h
 exact⟨l,h1.symm,h2⟩
theorem au (is:List Nat) {L O':List Item} (h:u5 is L=O'):Sub O' L:=h▸iS (pF is L)
theorem ez (is:List Nat) (L R:List Item) {O' O:List Item} (h:u5 is L++R=O') (h2:L++R=O):Sub O' O:=by
 subst h;subst h2;exact(au is F).sw
theorem dN (is:List Nat) (L R:List Item) {O' O:List Item} (h:u5 is L=O') (h2:L++R=O):Sub O' O:=by
 subst h;subst h2;exact iS (D:=xB is L++R) (by rw[←List.append_assoc];exact(pF is L).append_right R)
section
variable {X:PX} {P:Program} {r:Option Nat} {base:World} {n:Nat} {ρ:Env} {O O' S:List Item} {K:Env→List Item→Prop} {ops:Array Oper} {l:List Oper} {tail:List Nat} {od:List (Nat×Nat)}
theorem bM (hs:Sub O' O) (h:TO X P r base n ops l K ρ O'):TO X P r base n ops l K ρ O:=fun Q a w M D hk ha hi=>h Q a w M D hk ha (hi.jf hs.sw)
theorem de {S2:List Item} {cx:List Nat} (hs:Sub O' O) (h:DO X P r base n ops S tail S2 cx od K ρ O'):DO X P r base n ops S tail S2 cx od K ρ O:=
 fun h1 jT h3 listed h4 Q a w M D hq hp ha hI mj hS=>h h1 jT h3 listed h4 Q a w M D hq hp ha (hI.jf hs.sw) mj hS
theorem bw.sub {f:FuncId} {args:List Value} {R:Value→List Item→Prop} (hs:Sub O' O) (h:bw P base f args O' R):bw P base f args O R:=fun w M hI=>h w M (hI.jf hs.sw)
end
end Go.Lx

namespace Go.Lx
open Go.RowKit
section
variable {P:Program} {base:World} {ρ:Env} {O:List Item} {dst:Option Nat} {t:TypeId} {p:String} {af:Array Edge} {g:Option (Nat×Bool)}
theorem R6 {x y:Operand} {T U:TypeId} {k k':IntKind} {a b:Int} (hx:ev ρ x=.int k a) (hy:ev ρ y=.int k' b) (h0:0≤b):QT P base ⟨dst,.binOp .shl T x y U,t,p,af,g⟩ ρ O (.int k (k.wrap (a*2^(min b.toNat k.bits)))):=fun w _=>by
 have: ¬b<0:=by omega
 simp[execOp,hx,hy,eqGuard,binOp,Op.shift,this]
theorem mJ {x y:Operand} {T U:TypeId} {k':IntKind} {v:Nat} (hx:ev ρ x=.int .i64 1) (hy:ev ρ y=.int k' (v:Int)) (hv:v≤60):QT P base ⟨dst,.binOp .shl T x y U,t,p,af,g⟩ ρ O (.int .i64 ((2^v:Nat):Int)):=by
 have h:=R6 (P:=P) (base:=base) (O:=O) (dst:=dst) (t:=t) (p:=p) (af:=af) (g:=g) (T:=T) (U:=U) hx hy (by omega)
 have e:min (v:Int).toNat (IntKind.i64.bits)=v:=by
  have:IntKind.i64.bits=64:=rfl
  rw[this];simp;omega
 rw[e]at h
 have Aa:(2:Nat)^v≤2^60:=Nat.pow_le_pow_right (by omega) hv
 have ZV:(2:Nat)^60=1152921504606846976:=by rfl
 have e2:(1:Int)*2^v=((2^v:Nat):Int):=by rw[Int.one_mul,Int.natCast_pow];rfl
 rw[e2]at h
 rw[ZV]at Aa
 generalize(2:Nat)^v=q at*
 rwa[eZ (by omega)]at h
theorem RA {x y:Operand} {wW:Array TypeId} {k k':IntKind} {a b:Int} (hx:ev ρ x=.int k a) (hy:ev ρ y=.int k' b):QT P base ⟨dst,.call ⟨.builtin .min,#[x,y],wW⟩,t,p,af,g⟩ ρ O (.int k (if b<a then b else a)):=fun w _=>by
 simp[execOp,resolve,hx,hy,invoke,builtin,Builtin.min_,Builtin.min2]
theorem RB {x y:Operand} {wW:Array TypeId} {k k':IntKind} {a b:Int} (hx:ev ρ x=.int k a) (hy:ev ρ y=.int k' b):QT P base ⟨dst,.call ⟨.builtin .max,#[x,y],wW⟩,t,p,af,g⟩ ρ O (.int k (if b>a then b else a)):=fun w _=>by
 simp[execOp,resolve,hx,hy,invoke,builtin,Builtin.max_,Builtin.max2]
def str (l:List UInt8):Value:=.string ⟨l.toArray⟩
theorem u6 {x:Operand} {T:TypeId} {l:List UInt8} (hu:P.underlying T=some .string) (hx:ev ρ x=str l):QT P base ⟨dst,.call ⟨.builtin .len,#[x],#[T]⟩,t,p,af,g⟩ ρ O (.int .i64 (l.length:Int)):=fun w _=>by
 have e:(ByteArray.mk l.toArray).size=l.length:=by show l.toArray.size=_;simp
 simp[execOp,resolve,hx,str,invoke,builtin,Builtin.len_,aV hu,goInt,e]
abbrev cd (l:List UInt8):List Value:=l.map fun b:UInt8=>Value.int .u8 (b.toNat:Int)
theorem u7 (l:List UInt8):((cd l).all dD)=true:=by simp[dD]
theorem Kz {w:World} {b:Option Addr} {n c:Nat} {l:List UInt8} (h:Sl w b (cd l)) (hl:l.length=n):(Conv.bytesToString (.slice b n c)).run P w=.ok (str l) w:=by
 subst hl
 cases b with
 |none=>
  have:l=[]:=by
   cases l with
   |nil=>rfl
   |cons a l=>obtain⟨_,h1,_⟩:=h 0 (by simp);cases h1
  subst this;rfl
 |some a=>
  obtain⟨k,o,sp⟩:=a
  have hl:=gH (P:=P) (c:=c) (m:=l.length) (s:=1) h (by simp) (by simp)
  simp only[Builtin.firstCells,Nat.mul_one]at hl
  have fold: ∀(l:List UInt8) (h_:ByteArray),List.foldl (fun(b:ByteArray) (a:UInt8)=>ByteArray.mk (b.data.push a)) h_ l=⟨(h_.data.toList++l).toArray⟩:=by
   intro l
   induction l with
   |nil=>intro h_;simp
   |cons b l ih=>intro h_;rw[List.foldl_cons,ih];simp
  simp only[Conv.bytesToString,Sem.run_bind,hl,Result.andThen_ok]
  simp[cd,ByteArray.push,fold,str]
theorem Ai {x:Operand} {S D E:TypeId} {b:Option Addr} {n c c' k:Nat} {l:List UInt8} (hs:P.underlying S=some (.slice E)) (hd:P.underlying D=some .string) (he:P.underlying E=some (.int .u8)) (hx:ev ρ x=.slice b n c)
  (hO:ak b c' E k (cd l)∈O) (hl:l.length=n):QT P base ⟨dst,.convert S D x,t,p,af,g⟩ ρ O (str l):=fun w hI=>by
 simp[execOp,hx,convert,aV hs,aV hd,aV he,Kz (hI.eV hO) hl]
def Ot {α β:Type} (K:α→Value) (V:β→Value) (m:Nat) (l:List (α×β)) (w:World):Prop:=
 ∃es wN,w.heap[m]? =some (.map es wN)∧es.toList.map (fun e=>(e.key,e.val))=(l.map fun q=>(K q.1,V q.2))∧(es.toList.map (·.born)).Nodup∧ ∀e∈es.toList,e.born<wN
def df {α β:Type} (K:α→Value) (V:β→Value) (m:Nat) (l:List (α×β)):Item where
 blocks:=[m]
 P:=Ot K V m l
 loc:=fun w w' h hp=>by
  obtain⟨es,wN,h1,h2⟩:=hp
  exact⟨es,wN,by rw[h m (by simp)];exact h1,h2⟩
def mS {α:Type} [DecidableEq α] (a:α):List α→List MapEntry→Nat→Option (Nat×Value)
 |k::ks,e::es,i=>if a=k then some (i,e.val)else mS a ks es (i+1)
 |_,_,_=>none
structure e8 (P:Program) {α:Type} [DecidableEq α] (kt:TypeId) (K:α→Value):Prop where
 check: ∀e a w,(Instr.checkKey e 10000 kt (K a)).run P w=.ok () w
 find: ∀(es:List MapEntry) (ks:List α) (a:α) (w:World),es.map (·.key)=ks.map K→(Instr.findKey kt (K a) es).run P w=.ok (mS a ks es 0) w
theorem G8 (a b:List UInt8):((⟨a.toArray⟩:ByteArray)==⟨b.toArray⟩)=decide (a=b):=by
 show(a.toArray==b.toArray)=_
 by_cases e:a=b
 ·subst e;simp
 ·simp[e]
theorem e8.string {kt:TypeId} (hu:P.underlying kt=some .string):e8 P kt str where
 check:=fun e a w=>by
  show(Instr.checkKey e (9999+1) kt _).run P w=_
  rw[Instr.checkKey]
  simp[aV hu,str]
 find:=fun es ks a w h=>by
  have key: ∀(es:List MapEntry) (ks:List (List UInt8)) (i:Nat),es.map (·.key)=ks.map str→Instr.findNow .string (str a) es i=some (mS a ks es i):=by
   intro es
   induction es with
   |nil=>intro ks i h;cases ks<;>simp_all[Instr.findNow,mS]
   |cons e es ih=>
    intro ks i h
    cases ks with
    |nil=>simp at h
    |cons b ks=>
     simp only[List.map_cons,List.cons.injEq]at h
     simp only[Instr.findNow,h.1,Instr.sameNow,str,G8,mS]
     by_cases e:a=b
     ·simp[e]
     ·have:=ih ks (i+1) h.2
      simp only[str]at this
      simp[e,this]
  simp[Instr.findKey,aV hu,key es ks 0 h]
theorem u9 {α:Type} [DecidableEq α] {a:α}: ∀(ks:List α) (es:List MapEntry) (i:Nat),a∉ks→mS a ks es i=none
 | [],_,_,_=>rfl
 |k::ks,[],_,_=>rfl
 |k::ks,e::es,i,h=>by
  simp only[List.mem_cons,not_or]at h
  simp[mS,h.1,u9 ks es (i+1) h.2]
def kw {α β:Type} [DecidableEq α] (a:α):List (α×β)→Option β
 | []=>none
 |q::l=>if a=q.1 then some q.2 else kw a l
theorem u_ {α β:Type} [DecidableEq α] {K:α→Value} {V:β→Value} {a:α}: ∀(l:List (α×β)) (es:List MapEntry) (i:Nat),es.map (fun e=>(e.key,e.val))=l.map (fun q=>(K q.1,V q.2))→(mS a (l.map Prod.fst) es i).map Prod.snd=(kw a l).map V
 | [],es,i,h=>by cases es<;>rfl
 |q::l,[],i,h=>by simp at h
 |q::l,e::es,i,h=>by
  simp only[List.map_cons,List.cons.injEq,Prod.mk.injEq]at h
  simp only[List.map_cons,mS,kw]
  by_cases e:a=q.1
  ·simp[e,h.1.2]
  ·simp only[e,if_false];exact u_ l es (i+1) h.2
theorem DI {α β:Type} {K:α→Value} {V:β→Value} {es:List MapEntry} {l:List (α×β)} (h:es.map (fun e=>(e.key,e.val))=l.map (fun q=>(K q.1,V q.2))):es.map (·.key)=(l.map Prod.fst).map K:=by
 have:=congrArg (List.map Prod.fst) h
 simpa[Function.comp_def]using this
theorem oB {x:Operand} {T kt vt:TypeId} {m:Nat} {α β:Type} {K:α→Value} {V:β→Value} {l:List (α×β)} (hu:P.underlying T=some (.map kt vt)) (hx:ev ρ x=.map (some m)) (hO:df K V m l∈O):
  QT P base ⟨dst,.call ⟨.builtin .len,#[x],#[T]⟩,t,p,af,g⟩ ρ O (.int .i64 (l.length:Int)):=fun w hI=>by
 obtain⟨es,wN,h1,h2,_⟩:=hI.holds _ hO
 have hl:es.size=l.length:=by have:=congrArg List.length h2;simpa using this
 simp[execOp,resolve,hx,invoke,builtin,Builtin.len_,aV hu,getObj,Sem.run,h1,goInt,hl]
theorem vd {T kt vt:TypeId} {m:Nat} {α β:Type} [DecidableEq α] {K:α→Value} {V:β→Value} {l:List (α×β)} {z:Value} {s fx:Nat} {w:World} (hu:P.underlying T=some (.map kt vt)) (hz:eS P vt z s fx) (hk:e8 P kt K) (h:Ot K V m l w) (a:α) (ok:Bool):
  (Instr.lookup T (.map (some m)) (K a) ok).run P w=.ok (if ok then .tuple #[((kw a l).map V).getD z,.bool (kw a l).isSome]else((kw a l).map V).getD z) w:=by
 obtain⟨es,wN,h1,h2,h3,h4⟩:=h
 have hf:=hk.find es.toList (l.map Prod.fst) a w (DI h2)
 have hl:=u_ (a:=a) l es.toList 0 h2
 have hg:(getObj m).run P w=.ok (.map es wN) w:=by simp[getObj,Sem.run,h1]
 simp only[Instr.lookup,Sem.run_bind,aV hu,Result.andThen_ok,hg,Sem.run_pure,hk.check,hf]
 cases e:mS a (l.map Prod.fst) es.toList 0 with
 |none=>
  rw[e]at hl
  have:kw a l=none:=by cases e2:kw a l with|none=>rfl|some v=>rw[e2]at hl;cases hl
  simp[fC hz,this]
 |some q=>
  rw[e]at hl
  obtain⟨i,v⟩:=q
  cases e2:kw a l with
  |none=>rw[e2]at hl;cases hl
  |some u=>
   rw[e2]at hl
   simp at hl
   simp[hl]
theorem oC {x y:Operand} {T kt vt:TypeId} {m:Nat} {α β:Type} [DecidableEq α] {K:α→Value} {V:β→Value} {l:List (α×β)} {z:Value} {s fx:Nat} {a:α} (hu:P.underlying T=some (.map kt vt)) (hz:eS P vt z s fx) (hk:e8 P kt K)
  (hx:ev ρ x=.map (some m)) (hy:ev ρ y=K a) (hO:df K V m l∈O):QT P base ⟨dst,.lookup T x y false,t,p,af,g⟩ ρ O (((kw a l).map V).getD z):=fun w hI=>by
 have:=vd hu hz hk (hI.holds _ hO) a false
 simp[execOp,hx,hy,this]
theorem jg {x y:Operand} {T kt vt:TypeId} {m:Nat} {α β:Type} [DecidableEq α] {K:α→Value} {V:β→Value} {l:List (α×β)} {z:Value} {s fx:Nat} {a:α} (hu:P.underlying T=some (.map kt vt)) (hz:eS P vt z s fx) (hk:e8 P kt K)
  (hx:ev ρ x=.map (some m)) (hy:ev ρ y=K a) (hO:df K V m l∈O):QT P base ⟨dst,.lookup T x y true,t,p,af,g⟩ ρ O (.tuple #[((kw a l).map V).getD z,.bool (kw a l).isSome]):=fun w hI=>by
 have:=vd hu hz hk (hI.holds _ hO) a true
 simp[execOp,hx,hy,this]
end
section
variable {P:Program} {r:Option Nat} {base:World} {n:Nat} {ρ:Env} {O:List Item} {K':Env→List Item→Prop} {d:Nat} {t:TypeId} {p:String} {af:Array Edge} {g:Option (Nat×Bool)}
theorem lj {T:TypeId} {α β:Type} (K:α→Value) (V:β→Value) (h: ∀m,K' (np ρ d (.map (some m))) (df K V m []::O)) (hn:Nat.blt d n=true:=by rfl):LT P r base n ⟨some d,.makeMap T none,t,p,af,g⟩ ρ O K':=
 gw hn fun w M hI=>⟨.map (some w.heap.size),w.alloc (.map #[] 0),_,by simp[execOp,Instr.makeMap],by
  refine Inv.new (O:=O++M) (N:=[df K V w.heap.size []]) (w':=w.alloc (.map #[] 0)) hI F F F (by simp) (fun b hb=>Below.heap_alloc w _ b hb) ?_ ?_ (by simp[df])
  ·intro x hx
   simp at hx;subst hx
   exact⟨#[],0,by show(w.heap.push _)[w.heap.size]? =_;simp,F,by simp,by simp⟩
  ·intro x hx b hb
   simp at hx;subst hx
   simp[df]at hb;subst hb
   simp,h _⟩
theorem DJ {T kt vt:TypeId} {m:Nat} {α β:Type} [DecidableEq α] {K:α→Value} {V:β→Value} {l:List (α×β)} {w:World} {a:α} {v:β} (hu:P.underlying T=some (.map kt vt)) (hk:e8 P kt K) (h:Ot K V m l w) (ve:a∉l.map Prod.fst):
  ∃es wN,(Instr.mapUpdate T (.map (some m)) (K a) (V v)).run P w=.ok () (iI w m (.map es wN))∧es.toList.map (fun e=>(e.key,e.val))=((l++[(a,v)]).map fun q=>(K q.1,V q.2))∧(es.toList.map (·.born)).Nodup∧ ∀e∈es.toList,e.born<wN:=by
 obtain⟨es,wN,h1,h2,h3,h4⟩:=h
 have hf:=hk.find es.toList (l.map Prod.fst) a w (DI h2)
 rw[u9 _ _ _ ve]at hf
 have hg:(getObj m).run P w=.ok (.map es wN) w:=by simp[getObj,Sem.run,h1]
 have hs: ∀o,(setObj m o).run P w=.ok () (iI w m o):=fun o=>by simp[setObj,Sem.run,h1,iI]
 refine⟨es.push {key:=K a,val:=V v,born:=wN},wN+1,?_,by simp[h2],?_,?_⟩
 rotate_left
 ·simp only[Array.toList_push,List.map_append,List.map_cons,List.map_nil,List.nodup_append]
  refine⟨h3,by simp,fun x hx y hy e=>?_⟩
  obtain⟨z,hz,rfl⟩:=List.mem_map.1 hx
  simp at hy;have:=h4 z hz;omega
 ·intro e he
  simp only[Array.toList_push,List.mem_append,List.mem_singleton]at he
  rcases he with he|rfl
  ·have:=h4 e he;omega
  ·simp
 simp only[Instr.mapUpdate,Sem.run_bind,aV hu,Result.andThen_ok,hg,hk.check,hf,hs]
theorem Inv.G9 {w:World} {M:List Item} {α β:Type} {K:α→Value} {V:β→Value} {m i:Nat} {l l':List (α×β)} (hI:Inv base (O++M) w) (hO:O[i]? =some (df K V m l)) {es:Array MapEntry} {wN:Nat} (h:es.toList.map (fun e=>(e.key,e.val))=(l'.map fun q=>(K q.1,V q.2))∧(es.toList.map (·.born)).Nodup∧ ∀e∈es.toList,e.born<wN):
  Inv base (O.set i (df K V m l')++M) (iI w m (.map es wN)):=by
 obtain⟨es0,ZW,h1,_,_⟩:=hI.holds (df K V m l) (List.mem_append_left _ (List.mem_of_getElem? hO))
 have eU:=(Array.getElem?_eq_some_iff.1 h1).1
 rw[←nz hO]
 exact hI.qq (lB hO) F F F (by rw[sG];exact Nat.le_refl _) (fun k _ hk=>qw (fun e=>hk (by simp[df,e]))) ⟨es,wN,jV eU,h⟩ (fun k hk=>.inl hk) (by simp[df])
theorem oD (i:Nat) {x y z:Operand} {T kt vt:TypeId} {m:Nat} {α β:Type} [DecidableEq α] {K:α→Value} {V:β→Value} {l:List (α×β)} {a:α} {v:β} (hu:P.underlying T=some (.map kt vt)) (hk:e8 P kt K) (hx:ev ρ x=.map (some m)) (hy:ev ρ y=K a) (hz:ev ρ z=V v)
  (hO:O[i]? =some (df K V m l)) (ve:a∉l.map Prod.fst) (h:K' ρ (O.set i (df K V m (l++[(a,v)])))):LT P r base n ⟨none,.mapUpdate T x y z,t,p,af,g⟩ ρ O K':=
 k7 fun w M hI=>by
  obtain⟨es,wN,hr,Wr⟩:=DJ (v:=v) hu hk (hI.holds (df K V m l) (List.mem_append_left _ (List.mem_of_getElem? hO))) ve
  exact⟨iI w m (.map es wN),_,by simp[execOp,hx,hy,hz,hr],hI.G9 hO Wr,h⟩
theorem fD (i:Nat) {x y z:Operand} {T kt vt:TypeId} {m:Nat} {α β:Type} [DecidableEq α] {K:α→Value} {V:β→Value} {l:List (α×β)} {a:α} {v:β} (hu:P.underlying T=some (.map kt vt)) (hk:e8 P kt K) (hx:ev ρ x=.map (some m)) (hy:ev ρ y=K a) (hz:ev ρ z=V v)
  (hO:O[i]? =some (df K V m l)) (ve:a∉l.map Prod.fst) (h:K' ρ (O.set i (df K V m (l++[(a,v)])))):LT P r base n ⟨none,.insert T x y z,t,p,af,g⟩ ρ O K':=
 k7 fun w M hI=>by
  obtain⟨es,wN,hr,Wr⟩:=DJ (v:=v) hu hk (hI.holds (df K V m l) (List.mem_append_left _ (List.mem_of_getElem? hO))) ve
  exact⟨iI w m (.map es wN),_,by simp[execOp,hx,hy,hz,hr],hI.G9 hO Wr,h⟩
end
end Go.Lx

namespace Go.Lx
open Go.RowKit
section
variable {P:Program} {base:World} {ρ:Env} {O:List Item} {dst:Option Nat} {t:TypeId} {p:String} {af:Array Edge} {g:Option (Nat×Bool)}
end
section
variable {P:Program} {r:Option Nat} {base:World} {n:Nat} {ρ:Env} {O:List Item} {K:Env→List Item→Prop} {d:Nat} {t:TypeId} {p:String} {af:Array Edge} {g:Option (Nat×Bool)}
theorem Src.str {s:List UInt8} {m:Nat} (hl:s.length=m):Src P base O 1 m (str s) (cd s):=
 ⟨by simp[hl],fun w=>by
  have e:(ByteArray.mk s.toArray).size=m:=by show s.toArray.size=_;simp[hl]
  simp[Lx.str,Builtin.lenOf,e],fun w _=>by
  subst hl
  have e:(ByteArray.mk s.toArray).extract 0 s.length=ByteArray.mk s.toArray:=by
   have:=ByteArray.extract_zero_size (b:=ByteArray.mk s.toArray)
   simpa[ByteArray.size]using this
  simp[Lx.str,Builtin.firstCells,e,cd]⟩
theorem xD {T U E:TypeId} {b:Option Addr} {m c l fx:Nat} {x y:Operand} {z:Value} {cs:List Value} {s:List UInt8} (j:Nat)
  (hu:P.underlying T=some (.slice E)) (GX:P.underlying U=some .string) (hi:eS P E z 1 fx) (hz:z.cells.size=1)
  (hx:ev ρ x=.slice b m c) (hy:ev ρ y=str s) (hO:O[j]? =some (ak b c E 1 cs)) (hl:cs.length=m) (hs:s.length=l)
  (qo:(m+l)*fx≤70368744177664) (J2:fx≤1000000) (z_:0<fx)
  (h: ∀b' c',K (np ρ d (.slice b' (m+l) c')) (O.set j (ak b' c' E 1 (cs++cd s)))) (hn:Nat.blt d n=true:=by rfl):
  LT P r base n ⟨some d,.call ⟨.builtin .append,#[x,y],#[T,U]⟩,t,p,af,g⟩ ρ O K:=
 gw hn fun w M hI=>by
  obtain⟨b',c',w',hr,mh⟩:=nA (ty:=t) hu GX (.inr F) hi hz (lB hO) (by simpa using hl) (by decide) (Src.sw (Src.str hs)) (u7 s) qo J2 z_ hI
  rw[nz hO]at mh
  refine⟨_,w',_,?_,mh,h b' c'⟩
  simp[execOp,resolve,hx,hy,invoke,builtin,hr]
end
theorem a8 {P:Program} {base:World} {o:Oper} {ρ:Env} {O:List Item} {v v':Value} (h:QT P base o ρ O v) (e:v=v'):QT P base o ρ O v':=e▸h
def du (b:Option Addr) (i:Nat):Value:=.pointer (b.map fun a=>⟨a.block,a.off+i,none⟩)
theorem aB {base:World} {O:List Item} {b:Option Addr} {cs:List Value} (h:Sl base b cs): ∀w,Inv base O w→Sl w b cs:=fun _ hI=>hI.sl h
theorem cw {base:World} {O:List Item} {b:Option Addr} {c k:Nat} {E:TypeId} {cs:List Value} (h:ak b c E k cs∈O): ∀w,Inv base O w→Sl w b cs:=fun _ hI=>hI.eV h
section
variable {P:Program} {base:World} {ρ:Env} {O:List Item} {dst:Option Nat} {t:TypeId} {p:String} {af:Array Edge} {g:Option (Nat×Bool)}
theorem db {x y:Operand} {T E:TypeId} {b:Option Addr} {n c i:Nat} {kk:IntKind} {z:Value} {s fx:Nat} {cs:List Value} (hu:P.underlying T=some (.slice E)) (hi:eS P E z s fx) (hx:ev ρ x=.slice b n c) (hy:ev ρ y=.int kk (i:Int)) (hs: ∀w,Inv base O w→Sl w b cs) (eU:i<n) (hl:i*s<cs.length):
  QT P base ⟨dst,.indexAddr T x y,t,p,af,g⟩ ρ O (du b (i*s)):=fun w hI=>by
 obtain⟨bk,o,rfl⟩:=(hs w hI).addr hl
 exact tq hu hi hx hy eU w hI
theorem cq {x y:Operand} {T E:TypeId} {b:Option Addr} {n c i:Nat} {kk:IntKind} {z:Value} {fx:Nat} {cs:List Value} (hu:P.underlying T=some (.slice E)) (hi:eS P E z 1 fx) (hx:ev ρ x=.slice b n c) (hy:ev ρ y=.int kk (i:Int)) (hs: ∀w,Inv base O w→Sl w b cs) (eU:i<n:=by first|assumption|omega|(simp;omega)|simp_all) (hl:i<cs.length:=by first|omega|(simp;done)|(simp;omega)|(simp_all;done)|(simp_all;omega)):
  QT P base ⟨dst,.indexAddr T x y,t,p,af,g⟩ ρ O (du b i):=by
 have:=db (P:=P) (base:=base) (O:=O) (dst:=dst) (t:=t) (p:=p) (af:=af) (g:=g) hu hi hx hy hs eU (by simpa using hl)
 rwa[Nat.mul_one]at this
theorem xE {x y:Operand} {T E:TypeId} {b:Option Addr} {n c:Nat} {i:Int} {kk:IntKind} {z:Value} {fx:Nat} {cs:List Value} (hu:P.underlying T=some (.slice E)) (hi:eS P E z 1 fx) (hx:ev ρ x=.slice b n c) (hy:ev ρ y=.int kk i) (hs: ∀w,Inv base O w→Sl w b cs) (h0:0≤i) (eU:i.toNat<n) (hl:i.toNat<cs.length):
  QT P base ⟨dst,.indexAddr T x y,t,p,af,g⟩ ρ O (du b i.toNat):=
 cq hu hi hx (by rw[hy,Int.toNat_of_nonneg h0]) hs eU hl
theorem bS {x:Operand} {T:TypeId} {d:TypeDesc} {b:Option Addr} {i:Nat} {cs:List Value} {v:Value} (hu:P.underlying T=some d) (ha:qv d=false) (hx:ev ρ x=du b i)
  (hs: ∀w,Inv base O w→Sl w b cs) (hv:cs[i]? =some v):QT P base ⟨dst,.load T x,t,p,af,g⟩ ρ O v:=fun w hI=>by
 obtain⟨hi,_⟩:=List.getElem?_eq_some_iff.1 hv
 obtain⟨bk,o,rfl⟩:=(hs w hI).addr hi
 exact oz hu ha hx (fun w hI=>(hs w hI).get hv) w hI
theorem dT {x:Operand} {T:TypeId} {d:TypeDesc} {b:Option Addr} {i:Nat} {cs vs:List Value} {z:Value} {s fx:Nat} (hu:P.underlying T=some d) (ha:qv d=true) (hi:eS P T z s fx) (hx:ev ρ x=du b i) (hl:vs.length=s) (G_:0<vs.length)
  (hs: ∀w,Inv base O w→Sl w b cs) (hv: ∀j (h:j<vs.length),cs[i+j]? =some vs[j]):QT P base ⟨dst,.load T x,t,p,af,g⟩ ρ O (.agg vs.toArray):=fun w hI=>by
 obtain⟨h0,_⟩:=List.getElem?_eq_some_iff.1 (hv 0 G_)
 obtain⟨bk,o,rfl⟩:=(hs w hI).addr (i:=i) (by omega)
 exact u1 hu ha hi hx hl (fun w hI j hj=>by have:=(hs w hI).get (hv j hj);rwa[←Nat.add_assoc]at this) w hI
theorem bG {x:Operand} {S:TypeId} {fs:Array Field} {i:Nat} {f:Field} {b:Option Addr} {o:Nat} {z:Value} {s fx:Nat} {cs:List Value} (hu:P.underlying S=some (.struct fs)) (hf:fs[i]? =some f) (hi:eS P f.type z s fx) (hs:(s==0)=false)
  (hx:ev ρ x=du b o) (Ha: ∀w,Inv base O w→Sl w b cs) (ho:o<cs.length):QT P base ⟨dst,.fieldAddr S x i,t,p,af,g⟩ ρ O (du b (o+f.offset)):=fun w hI=>by
 obtain⟨bk,o',rfl⟩:=(Ha w hI).addr ho
 have:=aJ (P:=P) (base:=base) (O:=O) (dst:=dst) (t:=t) (p:=p) (af:=af) (g:=g) hu hf hi hs (b:=bk) (o:=o'+o) hx w hI
 rw[this];simp[du,Nat.add_assoc]
end
section
variable {P:Program} {r:Option Nat} {base:World} {n:Nat} {ρ:Env} {O:List Item} {K:Env→List Item→Prop} {d:Nat} {t:TypeId} {p:String} {af:Array Edge} {g:Option (Nat×Bool)}
theorem jW (i:Nat) {T E:TypeId} {x y:Operand} {b:Option Addr} {j c k:Nat} {v:Value} {vs cs:List Value} {z:Value} {s fx:Nat} (hi:eS P T z s fx) (hx:ev ρ x=du b j) (hy:ev ρ y=v) (hv:v.cells=vs.toArray) (hl:vs.length=s) (ho:(vs.all dD)=true) (hs:0<vs.length)
  (hO:O[i]? =some (ak b c E k cs)) (hr:j+vs.length≤cs.length)
  (h:K ρ (O.set i (ak b c E k (dl cs j vs)))):LT P r base n ⟨none,.store T x y,t,p,af,g⟩ ρ O K:=fun a w M ds ha hI=>by
 obtain⟨bk,o,rfl⟩:=(hI.left.eV (List.mem_of_getElem? hO)).addr (i:=j) (by omega)
 exact zZ i hi hx hy hv hl ho hO hr h a w M ds ha hI
end
@[reducible] def aD (n:Nat):Option Addr:=some ⟨n,0,none⟩
@[reducible] def nS:Value:=.slice none 0 0
@[reducible] def vI (v:Int):Value:=.int .i64 v
@[reducible] def vN (n:Nat):Value:=.int .i64 (n:Int)
@[reducible] def v8 (n:Nat):Value:=.int .u8 (n:Int)
section
variable {X:PX} {P:Program} {r:Option Nat} {base:World} {n:Nat} {ρ:Env} {O:List Item} {ops:Array Oper} {l:List Oper} {K:Env→List Item→Prop} {t:TypeId} {p:String} {af:Array Edge}
theorem ah {d:Nat} {x:Operand} {v:Value} (h:ev ρ x=v) (hk:TO X P r base n ops l K (np ρ d v) O) (hn:Nat.blt d n=true:=by rfl):TO X P r base n ops (⟨some d,.move x,t,p,af,none⟩::l) K ρ O:=ad (aF h) hk hn
theorem TO.qa {d:Nat} {x:Operand} {v:Value} (h:ev ρ x=v) (hk:TO X P r base n ops l K (np ρ d v) O) (hn:Nat.blt d n=true:=by rfl):TO X P r base n ops (⟨some d,.assign x,t,p,af,none⟩::l) K ρ O:=ad (cD h) hk hn
theorem mG {α:Type} {l:List α} {a:α} (i:Nat) (h:l[i]? =some a):a∈l:=List.mem_of_getElem? h
theorem eB {O' O:List Item} (D:List Item) (h: ∀a,Lx.ri a (O'++D)=Lx.ri a O:=by intro a;simp+zetaDelta only[bl,oI,List.set_cons_zero,List.set_cons_succ,dl,List.cons_append,List.nil_append,List.append_nil,List.append_assoc,List.map_append,List.map_cons,List.map_nil,gA,gX,ml,vI,nS,aD]<;>omega):Sub O' O:=Sub.ri D h
theorem ap {d j tj:Nat} {want:Bool} {op:Op} {v:Value} (hj:(ops[j]?).bind (·.dst)=some tj) (hw:ρ tj=.bool want) (h:QT P base ⟨some d,op,t,p,af,some (j,want)⟩ ρ O v) (hk:TO X P r base n ops l K (np ρ d v) O) (hn:Nat.blt d n=true:=by rfl):TO X P r base n ops (⟨some d,op,t,p,af,some (j,want)⟩::l) K ρ O:=fL F hj hw (dG F hn h hk)
theorem jX (is:List Nat) {f:FuncId} {args:List Value} {A B O:List Item} {R:Value→List Item→Prop} (h:bw P base f args A R) (hA:u5 is O=A:=by rfl) (hB:xB is O=B:=by simp only[xB,rA,bl,oI,List.set_cons_zero,List.set_cons_succ,dl,List.cons_append,List.nil_append,List.append_nil];rfl):bw P base f args O (fun v O'=> ∃A',O'=A'++B∧R v A'):=
 bw.under h (by subst hA hB;exact⟨_,pF is O,List.Sublist.refl _⟩)
end
section
variable {P:Program} {r:Option Nat} {base:World} {n:Nat} {ρ:Env} {O:List Item} {Q:ju} {K:Env→List Item→Prop} {t:TypeId} {p:String} {af:Array Edge} {g:Option (Nat×Bool)}
theorem ai {id:Nat} {l:List Oper} {y:Code} (h:TO (fun c=> ∀ρ,GU (fun ρ O=>T P r base n y Q ρ O) Q (.panic c) ρ []) P r base n l.toArray l (fun ρ O=>GU (fun ρ O=>T P r base n y Q ρ O) Q .normal ρ O) ρ O):T P r base n (.seq (.region id l.toArray false) y) Q ρ O:=ax (aH h)
theorem dO (l:List (Nat×Nat)) {id:Nat} {ops:Array Oper} (h:DO (fun c=> ∀ρ,Q (.panic c) ρ []) P r base n ops O (mK l) [] (ke l) l (fun ρ O=>Q .normal ρ O) ρ O) (hm:P.follows .mixedOrders=true:=by exact mixed) (hB:uZ ops l=true:=by first|exact Aj (by kernel_rfl)|kernel_rfl) (hp: ∀c ρ fP O,Q (.panic c) ρ O→Q (.panic c) fP O:=by exact fun _ _ _ _ h=>h):T P r base n (.region id ops true) Q ρ O:=xy O l hm hB (a_ (List.Sublist.refl _)) hp h
theorem T.ds (S:List Item) (l:List (Nat×Nat)) {id:Nat} {ops:Array Oper} (hS:Sub S O) (h:DO (fun c=> ∀ρ,Q (.panic c) ρ []) P r base n ops S (mK l) [] (ke l) l (fun ρ O=>Q .normal ρ O) ρ O) (hm:P.follows .mixedOrders=true:=by exact mixed) (hB:uZ ops l=true:=by first|exact Aj (by kernel_rfl)|kernel_rfl) (hp: ∀c ρ fP O,Q (.panic c) ρ O→Q (.panic c) fP O:=by exact fun _ _ _ _ h=>h):T P r base n (.region id ops true) Q ρ O:=xy S l hm hB hS hp h
theorem bj (i:Nat) {T E:TypeId} {x y:Operand} {b o:Nat} {v:Value} {vs cs:List Value} {z:Value} {s fx:Nat} (hi:eS P T z s fx) (hx:ev ρ x=.pointer (some ⟨b,o,none⟩)) (hy:ev ρ y=v) (hv:v.cells=vs.toArray)
  (hO:O[i]? =some (da b (.cells cs.toArray E (0,0)))) (h:K ρ (O.set i (da b (.cells (dl cs o vs).toArray E (0,0))))) (hl:vs.length=s:=by rfl) (ho:(vs.all dD)=true:=by rfl) (hr:o+vs.length≤cs.length:=by simp[dl]):LT P r base n ⟨none,.store T x y,t,p,af,g⟩ ρ O K:=sH i hi hx hy hv hl ho hO hr h
end
end Go.Lx

namespace Go.Lx
open Go.Lib
theorem iK {u:Nat} (h:u<10):decDigits u=[UInt8.ofNat (48+u)]:=by rw[decDigits,dif_pos h]
theorem mq {u:Nat} (h: ¬u<10):decDigits u=decDigits (u/10)++[UInt8.ofNat (48+u%10)]:=by rw[decDigits,dif_neg h]
theorem vi (u:Nat):decDigits u≠ []:=by
 by_cases h:u<10
 ·rw[iK h];simp
 ·rw[mq h];simp
theorem gP {k:Nat} (h:k<10):(UInt8.ofNat (48+k)).toNat=48+k:=by
 rw[UInt8.toNat_ofNat'];omega
theorem pG (u:Nat): ∀b∈decDigits u,48≤b.toNat∧b.toNat<58:=by
 induction u using Nat.strongRecOn with
 |_ u ih=>
  by_cases h:u<10
  ·rw[iK h];intro b hb;rw[List.mem_singleton]at hb;subst hb;rw[gP h];omega
  ·rw[mq h]
   intro b hb
   rcases List.mem_append.1 hb with hb|hb
   ·exact ih (u/10) (by omega) b hb
   ·rw[List.mem_singleton]at hb;subst hb;rw[gP (by omega)];omega
theorem nD: ∀(a b:Nat),decDigits a=decDigits b→a=b:=by
 intro a
 induction a using Nat.strongRecOn with
 |_ a ih=>
  intro b h
  by_cases ha:a<10
  ·by_cases hb:b<10
   ·rw[iK ha,iK hb]at h
    have:=congrArg UInt8.toNat (List.cons.inj h).1
    rw[gP ha,gP hb]at this
    omega
   ·rw[iK ha,mq hb]at h
    have h1:=congrArg List.length h
    have h2:0<(decDigits (b/10)).length:=List.length_pos_iff.2 (vi _)
    simp only[List.length_append,List.length_cons,List.length_nil]at h1;omega
  ·by_cases hb:b<10
   ·rw[mq ha,iK hb]at h
    have h1:=congrArg List.length h
    have h2:0<(decDigits (a/10)).length:=List.length_pos_iff.2 (vi _)
    simp only[List.length_append,List.length_cons,List.length_nil]at h1;omega
   ·rw[mq ha,mq hb]at h
    obtain⟨h1,h2⟩:=List.append_inj' h F
    have e1:=ih (a/10) (by omega) (b/10) h1
    have e2:=congrArg UInt8.toNat (List.cons.inj h2).1
    rw[gP (by omega),gP (by omega)]at e2
    omega
def ik:List Nat→List UInt8
 | []=>[]
 |n::l=>32::(decDigits n++ik l)
def gf (a:Nat) (l:List Nat):List UInt8:=decDigits a++ik l
theorem yF (l:List Nat) (n:Nat):ik (l++[n])=ik l++32::decDigits n:=by
 induction l with
 |nil=>simp[ik]
 |cons a l ih=>simp[ik,ih]
theorem k8 (u:Nat):(32:UInt8)∉decDigits u:=fun h=>by have:=pG u 32 h;simp at this
theorem oJ: ∀ {x y:List UInt8} {a b:List Nat},(32:UInt8)∉x→(32:UInt8)∉y→x++ik a=y++ik b→x=y∧ik a=ik b
 | [],[],a,b,_,_,h=>⟨F,by simpa using h⟩
 | [],c::y,a,b,_,hy,h=>by
  cases a with
  |nil=>simp[ik]at h
  |cons n a=>simp only[ik,List.nil_append,List.cons_append,List.cons.injEq]at h;exact(hy (by simp[←h.1])).elim
 |c::x,[],a,b,hx,_,h=>by
  cases b with
  |nil=>simp[ik]at h
  |cons n b=>simp only[ik,List.nil_append,List.cons_append,List.cons.injEq]at h;exact(hx (by simp[h.1])).elim
 |c::x,c'::y,a,b,hx,hy,h=>by
  simp only[List.cons_append,List.cons.injEq]at h
  simp only[List.mem_cons,not_or]at hx hy
  obtain⟨h1,h2⟩:=oJ hx.2 hy.2 h.2
  exact⟨by rw[h.1,h1],h2⟩
theorem xF: ∀ {l m:List Nat},ik l=ik m→l=m
 | [],[],_=>rfl
 | [],b::m,h=>by simp[ik]at h
 |a::l,[],h=>by simp[ik]at h
 |a::l,b::m,h=>by
  simp only[ik,List.cons.injEq,true_and]at h
  obtain⟨h1,h2⟩:=oJ (k8 a) (k8 b) h
  rw[nD a b h1,xF h2]
theorem He {a b:Nat} {l m:List Nat} (h:gf a l=gf b m):a=b∧l=m:=by
 obtain⟨h1,h2⟩:=oJ (k8 a) (k8 b) h
 exact⟨nD a b h1,xF h2⟩
theorem rE: ∀(k u:Nat),u<10^(k+1)→(decDigits u).length≤k+1
 |0,u,h=>by rw[iK (by simpa using h)];simp
 |k+1,u,h=>by
  by_cases h0:u<10
  ·rw[iK h0];simp
  ·rw[mq h0,List.length_append]
   have:=rE k (u/10) (by rw[Nat.pow_succ]at h;omega)
   simp only[List.length_cons,List.length_nil]
   omega
end Go.Lx

