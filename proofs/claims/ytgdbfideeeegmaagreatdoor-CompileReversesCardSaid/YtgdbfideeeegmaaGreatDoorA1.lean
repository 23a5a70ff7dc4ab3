/- Contracts of functions of the program, and what they answer. Conditions: those each theorem names. -/
import Derived.Test.YtgdbfideeeegmaaGreatDoorA0
import Derived.Lib.ItoaNum
set_option linter.unusedSectionVars false
set_option linter.unusedSimpArgs false
set_option linter.unusedVariables false
set_option linter.unnecessarySimpa false
set_option maxHeartbeats 8000000
set_option maxRecDepth 20000
namespace Go.Lx
open Go.RowKit
def fa:Value→Bool
 | .agg _| .tuple _=>false
 |_=>true
def fh (cs:List Value):Nat→List Value→List Value
 |_,[]=>cs
 |o,v::vs=>fh (cs.set o v) (o+1) vs
theorem iE (vs:List Value): ∀(cs:List Value) (o:Nat),(fh cs o vs).length=cs.length:=by
 induction vs with
 |nil=>intro cs o;rfl
 |cons v vs ih=>intro cs o;simp[fh,ih]
theorem mY (vs:List Value): ∀(cs:List Value) (o i:Nat),o+vs.length≤cs.length→(fh cs o vs)[i]? =if o≤i∧i<o+vs.length then vs[i-o]? else cs[i]? :=by
 induction vs with
 |nil=>intro cs o i h;simp[fh];intro h1 h2;omega
 |cons v vs ih=>
  intro cs o i h
  simp only[fh,bo]at h⊢
  rw[ih _ _ _ (by simp;omega)]
  by_cases h1:o+1≤i∧i<o+1+vs.length
  ·rw[aO h1,aO (by omega)]
   have:i-o=(i-(o+1))+1:=by omega
   rw[this];simp
  ·rw[az h1]
   by_cases h2:i=o
   ·subst h2
    rw[aO (by omega)]
    simp
    rw[List.getElem?_set_self (by omega)]
   ·rw[az (by omega),List.getElem?_set_ne (by omega)]
def jS (w:World) (b:Nat) (o:Obj):World:= {w with heap:=w.heap.setIfInBounds b o}
theorem lL {w:World} {b:Nat} {o:Obj} (h:b<w.heap.size):(jS w b o).heap[b]? =some o:=by simp[jS,h]
theorem r_ {w:World} {b k:Nat} {o:Obj} (h:k≠b):(jS w b o).heap[k]? =w.heap[k]? :=by simp[jS,Array.getElem?_setIfInBounds_ne (Ne.symm h)]
theorem um {w:World} {b:Nat} {o:Obj}:(jS w b o).heap.size=w.heap.size:=by simp[jS]
theorem sY {w:World} {b o:Nat} {v:Value} {cs:List Value} {T:TypeId} {fr:Nat×Nat} (h:w.heap[b]? =some (.cells cs.toArray T fr)):w.setCell ⟨b,o,none⟩ v=jS w b (.cells (cs.set o v).toArray T fr):=by
 unfold World.setCell jS
 congr 1
 apply Array.ext_getElem?
 intro i
 rw[Array.getElem?_modify]
 by_cases e:b=i
 ·subst e
  obtain⟨gn,e⟩:=Array.getElem?_eq_some_iff.1 h
  simp[gn,e]
 ·simp[e,Array.getElem?_setIfInBounds_ne e]
theorem y_ {w:World} {b:Nat} {o o':Obj}:jS (jS w b o) b o'=jS w b o':=by
 unfold jS;simp
theorem D4 {P:Program} {w:World} {b o:Nat} {v:Value} {cs:List Value} {T:TypeId} (h:w.heap[b]? =some (.cells cs.toArray T (0,0))) (ho:o<cs.length) (hv:fa v=true):
  (store ⟨b,o,none⟩ v).run P w=.ok () (jS w b (.cells (cs.set o v).toArray T (0,0))):=by
 have hc:w.cell? ⟨b,o,none⟩=some cs[o]:=by unfold World.cell?;simp[h,ho]
 have hf:w.frozen? ⟨b,o,none⟩=false:=by unfold World.frozen?;simp[h]
 have hv':v.oneCell'=true:=by cases v<;>simp_all[fa,Value.oneCell']
 rw[run_store P w _ _ _ hv',hc]
 simp[hf,sY h]
theorem kW {P:Program} {b o:Nat} {T:TypeId}: ∀(vs:List Value) (cs:List Value) (i:Nat) (w:World),w.heap[b]? =some (.cells cs.toArray T (0,0))→o+i+vs.length≤cs.length→(vs.all fa)=true→
  (storeCells ⟨b,o,none⟩ vs i).run P w=.ok () (jS w b (.cells (fh cs (o+i) vs).toArray T (0,0)))
 | [],cs,i,w,h,_,_=>by
  have:jS w b (.cells cs.toArray T (0,0))=w:=by
   unfold jS
   have:w.heap.setIfInBounds b (.cells cs.toArray T (0,0))=w.heap:=by
    apply Array.ext_getElem?
    intro k
    by_cases e:b=k
    ·subst e
     obtain⟨gn,e⟩:=Array.getElem?_eq_some_iff.1 h
     simp[gn,e]
    ·rw[Array.getElem?_setIfInBounds_ne e]
   rw[this]
  simp[storeCells,fh,this]
 |v::vs,cs,i,w,h,hl,hv=>by
  simp only[bo,List.all_cons,aJ]at hl hv
  have e:(Addr.add ⟨b,o,none⟩ i)=⟨b,o+i,none⟩:=by
   unfold Addr.add;split<;>rename_i h<;>first|(subst h;rfl)|rfl
  have h1:=D4 (P:=P) h (o:=o+i) (v:=v) (by omega) hv.1
  have gn:=(Array.getElem?_eq_some_iff.1 h).1
  have h2:=kW (P:=P) (b:=b) (o:=o) (T:=T) vs (cs.set (o+i) v) (i+1) (jS w b (.cells (cs.set (o+i) v).toArray T (0,0))) (lL gn) (by simp;omega) hv.2
  simp only[storeCells,e,Sem.run_bind,h1,Result.andThen_ok,h2,y_,fh]
  rfl
section
variable {P:Program} {r:Option Nat} {base:World} {n:Nat} {ρ:Env} {O:List Item} {K:Env→List Item→Prop} {d:Nat} {t:TypeId} {p:String} {af:Array Edge} {g:Option (Nat×Bool)}
theorem mZ {M:List Item} {j:Nat} {it:Item} (h:O[j]? =some it):(O++M)[j]? =some it:=by
 rw[bH (List.getElem?_eq_some_iff.1 h).1];exact h
theorem o9 {M:List Item} {j:Nat} {it:Item} (h:O[j]? =some it) (x:Item):(O++M).set j x=O.set j x++M:=
 List.set_append_left _ _ (List.getElem?_eq_some_iff.1 h).1
theorem ji {op:Op} (hn:Nat.blt d n=true)
  (h: ∀w M,Inv base (O++M) w→ ∃v w' O',(execOp (ev ρ) ⟨some d,op,t,p,af,g⟩).run P w=.ok (.value v) w'∧Inv base (O'++M) w'∧K (o6 ρ d v) O'):LT P r base n ⟨some d,op,t,p,af,g⟩ ρ O K:=by
 intro a w M ds ha hi next Qx fp
 obtain⟨v,w',O',hr,hI,hK⟩:=h w M hi
 rw[←ha.eval]at hr
 refine lV (wP hr (by simp)) ?_
 rw[hr]
 exact fp _ _ _ _ (ha.put hn v) hI hK
theorem mC {op:Op}
  (h: ∀w M,Inv base (O++M) w→ ∃w' O',(execOp (ev ρ) ⟨none,op,t,p,af,g⟩).run P w=.ok .skip w'∧Inv base (O'++M) w'∧K ρ O'):LT P r base n ⟨none,op,t,p,af,g⟩ ρ O K:=by
 intro a w M ds ha hi next Qx fp
 obtain⟨w',O',hr,hI,hK⟩:=h w M hi
 rw[←ha.eval]at hr
 refine lV (wP hr (by simp)) ?_
 rw[hr]
 exact fp _ _ _ _ ha hI hK
theorem Sub.pG {O' M:List Item} (h:Sub O' O):Sub (O'++M) (O++M):=by
 obtain⟨l,hp,hs⟩:=h
 exact⟨l++M,hp.append_right M,hs.append (aZ M)⟩
theorem Inv.eX {w:World} (h:Inv base O w) (E:TypeId) (k:Nat):Inv base (aq none 0 E k []::O) w:=
 Inv.new (N:=[aq none 0 E k []]) h F F F (bF _) (fun _ _=>rfl) (by simp[aq,rowP]) (by simp[aq]) (by simp[aq])
theorem T.eX {c:Code} {Q:kP} (E:TypeId) (k:Nat) (h:T P r base n c Q ρ (aq none 0 E k []::O)):T P r base n c Q ρ O:=
 fun a w M D hM ha hi=>h a w M D hM ha (hi.eX E k)
theorem dx {c:Code} {Q:kP} {O':List Item} (hs:Sub O' O) (h:T P r base n c Q ρ O'):T P r base n c Q ρ O:=
 fun a w M D hM ha hi=>h a w M D hM ha (hi.kn hs.pG)
theorem bs {E:TypeId} {z:Value} {s gQ:Nat} {cs:List Value} (hi:fP P E z s gQ) (hz:z.cells=cs.toArray)
  (h: ∀b,K (o6 ρ d (.pointer (some ⟨b,0,none⟩))) (dF b (.cells cs.toArray E (0,0))::O)) (hn:Nat.blt d n=true:=by rfl):LT P r base n ⟨some d,.alloc E,t,p,af,g⟩ ρ O K:=
 ji hn fun w M hI=>⟨_,_,_,by simp[execOp,Instr.alloc,gM hi,newVar,newRow,hz],hI.alloc _,h _⟩
theorem dG {E:TypeId} {x:Operand} {v:Value} {cs:List Value} (hx:ev ρ x=v) (hv:v.cells=cs.toArray)
  (h: ∀b,K (o6 ρ d (.pointer (some ⟨b,0,none⟩))) (dF b (.cells cs.toArray E (0,0))::O)) (hn:Nat.blt d n=true:=by rfl):LT P r base n ⟨some d,.box E x,t,p,af,g⟩ ρ O K:=
 ji hn fun w M hI=>⟨_,_,_,by simp[execOp,Instr.box,newVar,newRow,hx,hv],hI.alloc _,h _⟩
theorem Inv.Ru {w:World} (hI:Inv base O w) {i:Nat} {b:Nat} {o:Obj} (hO:O[i]? =some (dF b o)) (o':Obj):Inv base (O.set i (dF b o')) (jS w b o'):=by
 have hb:=hI.sX hO
 have gn:=(Array.getElem?_eq_some_iff.1 hb).1
 refine hI.rY hO F F F (by rw[um];exact bF _) (fun k _ hk=>r_ (fun e=>hk (by simp[dF,e]))) (lL gn) (fun k hk=>.inl hk) (by simp[dF])
theorem Inv.setRow {w:World} (hI:Inv base O w) {i b o c:Nat} {T:TypeId} {k:Nat} {cs As:List Value} {full:Array Value} (hO:O[i]? =some (aq (some ⟨b,o,none⟩) c T k cs)) (hl:As.length≤c*k)
  (hf:o+c*k≤full.size) (hc: ∀j (h:j<As.length),full[o+j]? =some As[j]):Inv base (O.set i (aq (some ⟨b,o,none⟩) c T k As)) (jS w b (.cells full T (0,0))):=by
 obtain⟨_,abK,hb,_,_⟩:=hI.row hO
 have gn:=(Array.getElem?_eq_some_iff.1 hb).1
 refine hI.rY hO F F F (by rw[um];exact bF _) (fun k _ hk=>r_ (fun e=>hk (by simp[aq,e]))) ⟨F,full,lL gn,hl,hf,hc⟩ (fun k hk=>.inl hk) (by simp[aq])
theorem sZ {T:TypeId} {z:Value} {s gQ b o:Nat} {v:Value} {vs cs:List Value} {E:TypeId} {w:World} (hi:fP P T z s gQ) (hv:v.cells=vs.toArray) (hl:vs.length=s) (ho:(vs.all fa)=true)
  (h:w.heap[b]? =some (.cells cs.toArray E (0,0))) (hr:o+vs.length≤cs.length):(storeVar T ⟨b,o,none⟩ v).run P w=.ok () (jS w b (.cells (fh cs o vs).toArray E (0,0))):=by
 have:=kW (P:=P) (b:=b) (o:=o) (T:=E) vs cs 0 w h (by omega) ho
 unfold storeVar
 simp[bX hi,hv,hl]
 exact this
theorem vJ (i:Nat) {T E:TypeId} {x y:Operand} {b o:Nat} {v:Value} {vs cs:List Value} {z:Value} {s gQ:Nat} (hi:fP P T z s gQ) (hx:ev ρ x=.pointer (some ⟨b,o,none⟩)) (hy:ev ρ y=v) (hv:v.cells=vs.toArray) (hl:vs.length=s) (ho:(vs.all fa)=true)
  (hO:O[i]? =some (dF b (.cells cs.toArray E (0,0)))) (hr:o+vs.length≤cs.length)
  (h:K ρ (O.set i (dF b (.cells (fh cs o vs).toArray E (0,0))))):LT P r base n ⟨none,.store T x y,t,p,af,g⟩ ρ O K:=
 mC fun w M hI=>⟨jS w b (.cells (fh cs o vs).toArray E (0,0)),_,by
  simp only[execOp,hx,hy,Instr.storeAt,Instr.sureAddr]
  simp[sZ hi hv hl ho (hI.sX (mZ hO)) hr],by have:=hI.Ru (mZ hO) (.cells (fh cs o vs).toArray E (0,0));rwa[o9 hO]at this,h⟩
theorem BL (i:Nat) {T E:TypeId} {x y:Operand} {b o j c k:Nat} {v:Value} {vs cs:List Value} {z:Value} {s gQ:Nat} (hi:fP P T z s gQ) (hx:ev ρ x=.pointer (some ⟨b,o+j,none⟩)) (hy:ev ρ y=v) (hv:v.cells=vs.toArray) (hl:vs.length=s) (ho:(vs.all fa)=true)
  (hO:O[i]? =some (aq (some ⟨b,o,none⟩) c E k cs)) (hr:j+vs.length≤cs.length)
  (h:K ρ (O.set i (aq (some ⟨b,o,none⟩) c E k (fh cs j vs)))):LT P r base n ⟨none,.store T x y,t,p,af,g⟩ ρ O K:=
 mC fun w M hI=>by
  obtain⟨_,full,hb,h1,h2,h3⟩:=hI.row (mZ hO)
  simp only at hb h2 h3
  obtain⟨fl,rfl⟩: ∃fl:List Value,full=fl.toArray:=⟨full.toList,by simp⟩
  simp only[List.size_toArray]at h2
  refine⟨jS w b (.cells (fh fl (o+j) vs).toArray E (0,0)),_,?_,o9 hO (aq (some ⟨b,o,none⟩) c E k (fh cs j vs))▸hI.setRow (mZ hO) (As:=fh cs j vs) (by rw[iE];exact h1) (by simp[iE];exact h2) ?_,h⟩
  ·have Rk:o+j+vs.length≤fl.length:=by omega
   simp only[execOp,hx,hy,Instr.storeAt,Instr.sureAddr]
   simp[sZ hi hv hl ho hb Rk]
  ·intro m hm
   rw[iE]at hm
   have e1:(fh fl (o+j) vs).toArray[o+m]? =(fh fl (o+j) vs)[o+m]? :=by simp
   have e2:(fh cs j vs)[m]? =some ((fh cs j vs)[m]'(by rw[iE];exact hm)):=ap _
   rw[e1,←e2,mY vs fl (o+j) (o+m) (by omega),mY vs cs j m (by omega)]
   by_cases D5:j≤m∧m<j+vs.length
   ·rw[aO D5,aO (by omega)]
    congr 1;omega
   ·rw[az D5,az (by omega)]
    have:=h3 m hm
    simpa[ap hm]using this
theorem sa {α:Type} (f:Nat→α):(Array.range 0).map f= #[]:=by simp
theorem qX (z:Value) (m:Nat):((Array.range m).map fun i=>(#[z]:Array Value)[i%(#[z]:Array Value).size]!)=(List.replicate m z).toArray:=by
 apply Array.ext_getElem?
 intro i
 rw[Array.getElem?_map,Array.getElem?_range]
 by_cases h:i<m
 ·simp[h,Nat.mod_one]
 ·simp[h]
theorem cY {T E:TypeId} {x:Operand} {k:IntKind} {m:Nat} {z:Value} {gQ:Nat} (hu:P.underlying T=some (.slice E)) (hi:fP P E z 1 gQ) (hz:z.cells= #[z]) (hx:ev ρ x=.int k (m:Int)) (hm:m*gQ≤140737488355328) (Y_:m≤9223372036854775807)
  (h: ∀b,K (o6 ρ d (.slice (some ⟨b,0,none⟩) m m)) (aq (some ⟨b,0,none⟩) m E 1 (List.replicate m z)::O)) (hn:Nat.blt d n=true:=by rfl):LT P r base n ⟨some d,.makeSlice T x x,t,p,af,g⟩ ρ O K:=
 ji hn fun w M hI=>by
  obtain⟨i,Zf,Hj,hi3,Zg⟩:=hi.get
  have hw:IntKind.i64.wrap (m:Int)=(m:Int):=gS (by omega)
  have Ro: ¬((gQ:Int)*(m:Int)>2^48):=by
   have h1:((m*gQ:Nat):Int)≤140737488355328:=Int.ofNat_le.2 hm
   rw[Nat.mul_comm,Int.natCast_mul]at h1
   have h2:(2:Int)^48=281474976710656:=by rfl
   rw[h2];omega
  have U5:decide ((gQ:Int)*(m:Int)>2^48)=false:=ak Ro
  refine⟨.slice (some ⟨w.heap.size,0,none⟩) m m,w.alloc (.cells (List.replicate m z).toArray E),_,?_,Inv.new (O:=O++M) (w':=w.alloc (.cells (List.replicate m z).toArray E)) (N:=[aq (some ⟨w.heap.size,0,none⟩) m E 1 (List.replicate m z)]) hI F F F (by simp) (fun b hb=>Below.heap_alloc w _ b hb) ?_ ?_ ?_,h _⟩
  ·have Zh:decide ((m:Int)<0)=false:=by simp
   simp only[execOp,hx,Instr.makeSlice,Sem.run_bind,bG hu,Result.andThen_ok,asInt,asIntOf,Sem.run_pure,lY Zf,Zg,hw,U5,Zh,Bool.or_false,Bool.or_self,Int.lt_irrefl,gt_iff_lt,decide_false,Bool.false_eq_true,if_false,run_askRoom,bX hi,Nat.mul_one,Int.toNat_natCast]
   by_cases h0:m=0
   ·subst h0
    simp[newRow,sa]
   ·simp[h0,hz,newRow,gM hi]
    have:=qX z m
    simp at this
    rw[this]
  ·intro x hx
   simp at hx;subst hx
   refine⟨F,(List.replicate m z).toArray,?_,by simp,by simp,fun j hj=>by simp at hj;simp[hj]⟩
   show(w.heap.push _)[w.heap.size]? =_
   simp
  ·intro x hx b hb
   simp at hx;subst hx
   simp[aq]at hb;subst hb
   simp
  ·simp[aq]
theorem cz {T E:TypeId} {m:Nat} {parts:List (Nat×Operand)} {z:Value} {s gQ:Nat} {cs:List Value} (hu:P.underlying T=some (.slice E)) (hi:fP P E z s gQ) (D6:m*s≤16777216)
  (hf:Instr.fill (fun i=>some (i*s,s)) ((Array.range (m*s)).map (z.cells[· %z.cells.size]!)) (parts.map fun q=>(q.1,ev ρ q.2))=some cs.toArray) (hl:cs.length=m*s)
  (h: ∀b,K (o6 ρ d (.slice (some ⟨b,0,none⟩) m m)) (aq (some ⟨b,0,none⟩) m E s cs::O)) (hn:Nat.blt d n=true:=by rfl):LT P r base n ⟨some d,.buildSlice T m parts.toArray,t,p,af,g⟩ ρ O K:=
 ji hn fun w M hI=>by
  refine⟨.slice (some ⟨w.heap.size,0,none⟩) m m,w.alloc (.cells cs.toArray E),_,?_,Inv.new (O:=O++M) (w':=w.alloc (.cells cs.toArray E)) (N:=[aq (some ⟨w.heap.size,0,none⟩) m E s cs]) hI F F F (by simp) (fun b hb=>Below.heap_alloc w _ b hb) ?_ ?_ ?_,h _⟩
  ·have Ns: ¬(m*s>2^24):=by omega
   by_cases h0:m*s=0
   ·have Yt:Instr.fill (fun i=>some (i*s,s)) #[] (parts.map fun q=>(q.1,ev ρ q.2))=some cs.toArray:=by rw[h0,sa]at hf;exact hf
    simp only[execOp,Instr.buildSlice,Sem.run_bind,bG hu,bX hi,Result.andThen_ok,h0,gt_iff_lt,if_true,Sem.run_pure,sa]
    have gn: ¬(2^24<0):=by omega
    simp[Yt,newRow]
   ·simp[execOp,Instr.buildSlice,bG hu,bX hi,Ns,h0,gM hi,hf,newRow]
  ·intro x hx
   simp at hx;subst hx
   refine⟨F,cs.toArray,?_,by rw[hl];exact bF _,by simp[hl],fun j hj=>by simp[hj]⟩
   show(w.heap.push _)[w.heap.size]? =_
   simp
  ·intro x hx b hb
   simp at hx;subst hx
   simp[aq]at hb;subst hb
   simp
  ·simp[aq]
theorem Hn (z:Array Value) (m:Nat):(Builtin.zeroCells z m).size=m*z.size:=by simp[Builtin.zeroCells]
theorem zg (sd:Nat): ∀(r c:Nat),c≤2*sd→Builtin.growBy sd r c≤2*sd+192
 |0,c,h=>by simp[Builtin.growBy];omega
 |r+1,c,h=>by
  simp only[Builtin.growBy]
  split
  ·omega
  ·by_cases h2:c+(c+768)/4≤2*sd
   ·exact zg sd r _ h2
   ·have: ∀r,Builtin.growBy sd r (c+(c+768)/4)=c+(c+768)/4:=by
     intro r
     cases r with
     |zero=>rfl
     |succ r=>simp only[Builtin.growBy];rw[aO (by omega)]
    rw[this];omega
theorem D7 {sd cap:Nat} (h:cap<sd):Builtin.nextslicecap sd cap≤2*sd+192:=by
 unfold Builtin.nextslicecap
 split
 ·omega
 ·split
  ·omega
  ·exact zg sd 4 cap (by omega)
theorem iW {P:Program} {w:World} {b:Option Addr} {m c s:Nat} {cs:List Value} (h:Sl w b cs) (hl:cs.length=m*s) (hb:b=none→cs=[]):
  (Builtin.firstCells s m (.slice b m c)).run P w=.ok cs.toArray w:=by
 cases b with
 |none=>rw[hb F];rfl
 |some a=>
  obtain⟨k,o,sp⟩:=a
  simp only[Builtin.firstCells,←hl,loadCells]
  by_cases h0:cs.length=0
  ·have:cs=[]:=List.length_eq_zero_iff.1 h0
   subst this;rfl
  ·obtain⟨a',e1,e2,_⟩:=h 0 (by omega)
   cases e1
   simp only at e2;subst e2
   have:=lZ (P:=P) (w:=w) (a:=⟨k,o,none⟩) cs 0 #[] (fun j hj=>by
    have:=h.get (ap hj)
    simp only[Nat.zero_add,Addr.add]
    split<;>rename_i e
    ·subst e;simpa using this
    ·exact this)
   simpa using this
def Src (P:Program) (base:World) (O:List Item) (s m:Nat) (x:Value) (cs:List Value):Prop:=
 cs.length=m*s∧(∀w,(Builtin.lenOf x).run P w=.ok m w)∧ ∀w,Inv base O w→(Builtin.firstCells s m x).run P w=.ok cs.toArray w
theorem Src.pG {b:World} {M:List Item} {s m:Nat} {x:Value} {cs:List Value} (h:Src P b O s m x cs):Src P b (O++M) s m x cs:=⟨h.1,h.2.1,fun w hI=>h.2.2 w hI.left⟩
theorem Src.row {j:Nat} {b:Option Addr} {c k m:Nat} {E:TypeId} {cs:List Value} (hO:O[j]? =some (aq b c E k cs)) (hl:cs.length=m*k) (c':Nat:=c):Src P base O k m (.slice b m c') cs:=
 ⟨hl,fun w=>by simp[Builtin.lenOf],fun w hI=>iW (hI.row hO).sl hl (fun e=>by subst e;exact(hI.row hO).1)⟩
theorem Src.sl {b:Option Addr} {c k m:Nat} {cs:List Value} (h:Sl base b cs) (hl:cs.length=m*k):Src P base O k m (.slice b m c) cs:=
 ⟨hl,fun w=>by simp[Builtin.lenOf],fun w hI=>iW (hI.sl h) hl (fun e=>by
  cases cs with
  |nil=>rfl
  |cons v cs=>obtain⟨a,h1,_⟩:=h 0 (by simp);rw[e]at h1;cases h1)⟩
theorem qY {b o i:Nat}:(Addr.add ⟨b,o,none⟩ i)=⟨b,o+i,none⟩:=by
 unfold Addr.add;split<;>rename_i h<;>first|(subst h;rfl)|rfl
theorem Nt (sd old t:Nat) (e:TypeId):sd≤(Question.appendCap sd old e).cut t:=Nat.le_add_right _ _
theorem se {T U E:TypeId} {xd:TypeDesc} {b:Option Addr} {m c l s gQ:Nat} {x z:Value} {cs new:List Value} {j:Nat} {ty:TypeId}
  (hu:P.underlying T=some (.slice E)) (Nu:P.underlying U=some xd) (Np:(∃XE,xd=.slice XE)∨xd=.string) (hi:fP P E z s gQ) (hz:z.cells.size=s)
  (hO:O[j]? =some (aq b c E s cs)) (hl:cs.length=m*s) (_hs:0<s)
  (hx:Src P base O s l x new) (vK:(new.all fa)=true) (sR:(m+l)*gQ≤70368744177664) (PL:gQ≤1000000) (Ho:0<gQ) {w:World} (hI:Inv base O w):
  ∃b' c' w',(Builtin.append_ #[T,U] ty #[.slice b m c,x]).run P w=.ok (.slice b' (m+l) c') w'∧Inv base (O.set j (aq b' c' E s (cs++new))) w':=by
 obtain⟨MS,iA,Jq⟩:=hx
 obtain⟨i,Zf,Hj,hi3,Zg⟩:=hi.get
 have sf:=hI.row hO
 have U6:=Jq w hI
 have nF:(Builtin.firstCells s m (.slice b m c)).run P w=.ok cs.toArray w:=iW sf.sl hl (fun e=>by subst e;exact sf.1)
 by_cases Rv:m+l≤c
 ·-- there is room
  cases b with
  |none=>
   obtain⟨rfl,rfl⟩:=sf
   have hm0:m=0:=by omega
   have Hp:l=0:=by omega
   subst hm0;subst Hp
   have Rw:new=[]:=List.length_eq_zero_iff.1 (by omega)
   subst Rw
   refine⟨none,0,w,?_,?_⟩
   ·rcases Np with⟨XE,rfl⟩|rfl<;>simp[Builtin.append_,bG hu,bG Nu,bX hi,iA,U6]
   ·simp only[c7]
    obtain⟨A,B,e,Jk⟩:=BJ hO
    rw[Jk,←e]
    exact hI
  |some a=>
   obtain⟨k,o,sp⟩:=a
   obtain⟨yx,full,hb,h1,h2,h3⟩:=sf
   simp only at yx hb h1 h2 h3
   subst yx
   obtain⟨fl,rfl⟩: ∃fl:List Value,full=fl.toArray:=⟨full.toList,by simp⟩
   simp only[List.size_toArray]at h2
   have hmul:m*s+l*s≤c*s:=by rw[←Nat.add_mul];exact Nat.mul_le_mul_right s Rv
   have hr:o+m*s+0+new.length≤fl.length:=by omega
   have yA:=kW (P:=P) (b:=k) (o:=o+m*s) (T:=E) new fl 0 w hb hr vK
   refine⟨some ⟨k,o,none⟩,c,_,?_,hI.setRow hO (As:=cs++new) (full:=(fh fl (o+m*s+0) new).toArray) (by simp;omega) (by simp[iE];exact h2) ?_⟩
   ·rcases Np with⟨XE,rfl⟩|rfl<;>simp[Builtin.append_,bG hu,bG Nu,bX hi,iA,U6,Rv,qY]
    all_goals (simp at yA;rw[yA];rfl)
   ·intro q hq
    simp only[aw]at hq
    have e1:(fh fl (o+m*s+0) new).toArray[o+q]? =(fh fl (o+m*s) new)[o+q]? :=by simp
    have e2:some ((cs++new)[q]'(by simp;omega))=(cs++new)[q]? :=(ap _).symm
    rw[e1,e2,mY new fl (o+m*s) (o+q) (by omega)]
    by_cases D5:m*s≤q
    ·rw[aO (by omega),bT (by omega)]
     congr 1;omega
    ·rw[az (by omega),bH (by omega)]
     have:=h3 q (by omega)
     simpa[ap (show q<cs.length by omega)]using this
 ·-- a new array
  obtain⟨cap,Nv⟩: ∃cap,(Question.appendCap (m+l) c E).cut (w.tape w.drawn (Question.appendCap (m+l) c E))=cap:=⟨_,F⟩
  have Fw:m+l≤cap:=Nv▸Nt (m+l) c _ E
  have Nw:(Question.appendCap (m+l) c E).forced=false:=rfl
  have n5:Inv base O w.drew:=hI.drew
  have Zi:=Jq _ n5
  have PS:=n5.row hO
  have Zj:(Builtin.firstCells s m (.slice b m c)).run P w.drew=.ok cs.toArray w.drew:=iW PS.sl hl (fun e=>by subst e;exact PS.1)
  have fp: ¬(Builtin.nextslicecap (m+l) c*gQ>2^48):=by
   have h1:=D7 (sd:=m+l) (cap:=c) (by omega)
   have h2:Builtin.nextslicecap (m+l) c*gQ≤(2*(m+l)+192)*gQ:=Nat.mul_le_mul_right _ h1
   have h3:(2*(m+l)+192)*gQ=2*((m+l)*gQ)+192*gQ:=by rw[Nat.add_mul,Nat.mul_assoc]
   omega
  obtain⟨w',Hq⟩: ∃w':World,w'=w.drew.alloc (.cells (cs.toArray++new.toArray++Builtin.zeroCells z.cells (cap-(m+l))) E):=⟨_,F⟩
  refine⟨some ⟨w.heap.size,0,none⟩,cap,w',?_,?_⟩
  ·have U7: ¬(9223372036854775807<((m:Int)+(l:Int))∧gQ=0):=by rintro⟨_,h⟩;omega
   have Ry: ¬(281474976710656<Builtin.nextslicecap (m+l) c*gQ):=by simpa using fp
   rcases Np with⟨XE,rfl⟩|rfl<;>simp[Builtin.append_,bG hu,bG Nu,bX hi,iA,Rv,lY Zf,Zg,U7,Ry,Nw,Nv,Zj,Zi,gM hi,newRow,Hq]
   all_goals (have e:(cs++new).toArray=cs.toArray++new.toArray:=by simp)
   all_goals rw[e,Array.append_assoc]
  ·subst Hq
   refine hI.rY hO F F F (by simp) (fun q hq _=>?_) ⟨F,cs.toArray++new.toArray++Builtin.zeroCells z.cells (cap-(m+l)),?_,?_,?_,?_⟩ ?_ (by simp[aq])
   ·show(w.heap.push _)[q]? =_
    rw[Array.getElem?_push,az (by omega)]
   ·show(w.heap.push _)[w.heap.size]? =_
    simp
   ·simp only[aw,hl,MS,←Nat.add_mul];exact Nat.mul_le_mul_right s Fw
   ·simp only[Array.size_append,List.size_toArray,Hn,hz,hl,MS,←Nat.add_mul,Nat.zero_add]
    exact Nat.mul_le_mul_right s (by omega)
   ·intro q hq
    simp only[Nat.zero_add]
    rw[Array.getElem?_append_left (by simp at hq⊢;exact hq)]
    simp
   ·intro q hq
    simp[aq]at hq
    subst hq
    exact .inr ⟨bF _,by simp⟩
theorem cW {T U E XE:TypeId} {b:Option Addr} {m c l s gQ:Nat} {x y:Operand} {xv z:Value} {cs new:List Value} (j:Nat)
  (hu:P.underlying T=some (.slice E)) (Nu:P.underlying U=some (.slice XE)) (hi:fP P E z s gQ) (hz:z.cells.size=s)
  (hx:ev ρ x=.slice b m c) (hy:ev ρ y=xv) (hO:O[j]? =some (aq b c E s cs)) (hl:cs.length=m*s) (hs:0<s)
  (Rz:Src P base O s l xv new) (vK:(new.all fa)=true) (sR:(m+l)*gQ≤70368744177664) (PL:gQ≤1000000) (Ho:0<gQ)
  (h: ∀b' c',K (o6 ρ d (.slice b' (m+l) c')) (O.set j (aq b' c' E s (cs++new)))) (hn:Nat.blt d n=true:=by rfl):
  LT P r base n ⟨some d,.call ⟨.builtin .append,#[x,y],#[T,U]⟩,t,p,af,g⟩ ρ O K:=
 ji hn fun w M hI=>by
  obtain⟨b',c',w',hr,n5⟩:=se (ty:=t) hu Nu (.inl ⟨_,F⟩) hi hz (mZ hO) hl hs Rz.pG vK sR PL Ho hI
  rw[o9 hO]at n5
  refine⟨_,w',_,?_,n5,h b' c'⟩
  simp[execOp,resolve,hx,hy,invoke,builtin,hr]
def Enters (P:Program) (f:FuncId) (fn:Func):Prop:=P.funcs[f]? =some fn∧(fn.name== "runtime.NumGoroutine")=false∧fn.body.isSome=true
def bW (P:Program) (base:World) (f:FuncId) (args:List Value) (O:List Item) (R:Value→List Item→Prop):Prop:=
 ∀w M,Inv base (O++M) w→Calls P f args.toArray w fun e w'=> ∃v O',e=.returned v∧Inv base (O'++M) w'∧R v O'
theorem bW.mono {f:FuncId} {args:List Value} {R R':Value→List Item→Prop} (h:bW P base f args O R) (hr: ∀v O',R v O'→R' v O'):bW P base f args O R':=
 fun w M hI=>(h w M hI).mono fun _ _ ⟨v,O',h1,h2,h3⟩=>⟨v,O',h1,h2,hr v O' h3⟩
def cH (P:Program) (f:FuncId) (args:List Value) (w:World) (R:Value→List Item→Prop):Prop:=bW P w f args [] R
theorem aX {f:FuncId} {args:List Value} {R:Value→List Item→Prop} (h: ∀w,Inv base O w→cH P f args w R):bW P base f args O (fun v O'=> ∃N,O'=N++O∧R v N):=
 fun w M hI=>(h w hI.left w [] (Inv.refl w)).mono fun _ _ ⟨v,N,h1,h2,h3⟩=>⟨v,N++O,h1,by
  have:=hI.call h2
  simpa[aI]using this,N,F,h3⟩
theorem bW.under {f:FuncId} {args:List Value} {A B:List Item} {R:Value→List Item→Prop} (h:bW P base f args A R) (hs:Sub (A++B) O):bW P base f args O (fun v O'=> ∃A',O'=A'++B∧R v A'):=
 fun w M hI=>(h w (B++M) (by have:=hI.kn hs.pG;rwa[aI]at this)).mono fun _ _ ⟨v,A',h1,h2,h3⟩=>⟨v,A'++B,h1,by rwa[aI],A',F,h3⟩
def Fx (P:Program) (base:World) (M:List Item) (R:Value→List Item→Prop):Result Next→Prop
 | .ok (.enter f args) w=>Calls P f args w fun e w'=> ∃v O',e=.returned v∧Inv base (O'++M) w'∧R v O'
 | .ok (.round l f tmps assign body) w=>RoundIn Fence.wide 0 P l f tmps assign body w fun e w'=> ∃v O',e=.returned v∧Inv base (O'++M) w'∧R v O'
 |_=>False
def kX (fv:Value) (args:Array Value):Sem Next:=do
 let d←Deferred.ofValue fv args
 invoke d.target d.args
def eK (P:Program) (base:World) (fv:Value) (args:List Value) (O:List Item) (R:Value→List Item→Prop):Prop:=
 ∀w M,Inv base (O++M) w→Fx P base M R ((kX fv args.toArray).run P w)
theorem Fx.mono {M:List Item} {R R':Value→List Item→Prop} {x:Result Next} (h:Fx P base M R x) (hr: ∀v O',R v O'→R' v O'):Fx P base M R' x:=by
 cases x with
 |halt e w=>exact h
 |ok y w=>
  cases y<;>first
   |exact h
   |exact Calls.mono h fun _ _ ⟨v,O',h1,h2,h3⟩=>⟨v,O',h1,h2,hr v O' h3⟩
   |exact RoundIn.mono h fun _ _ ⟨v,O',h1,h2,h3⟩=>⟨v,O',h1,h2,hr v O' h3⟩
theorem eK.mono {fv:Value} {args:List Value} {R R':Value→List Item→Prop} (h:eK P base fv args O R) (hr: ∀v O',R v O'→R' v O'):eK P base fv args O R':=
 fun w M hI=>(h w M hI).mono hr
theorem eK.under {fv:Value} {args:List Value} {A B:List Item} {R:Value→List Item→Prop} (h:eK P base fv args A R) (hs:Sub (A++B) O):eK P base fv args O (fun v O'=> ∃A',O'=A'++B∧R v A'):=fun w M hI=>by
 have h1:=h w (B++M) (by have:=hI.kn hs.pG;rwa[aI]at this)
 revert h1
 cases(kX fv args.toArray).run P w with
 |halt e w=>exact id
 |ok y w=>
  cases y<;>first
   |exact id
   |exact fun h=>Calls.mono h fun _ _ ⟨v,A',h1,h2,h3⟩=>⟨v,A'++B,h1,by rwa[aI],A',F,h3⟩
   |exact fun h=>RoundIn.mono h fun _ _ ⟨v,A',h1,h2,h3⟩=>⟨v,A'++B,h1,by rwa[aI],A',F,h3⟩
theorem cP {f:FuncId} {fn:Func} {first args gr:List Value} {R:Value→List Item→Prop} (he:Enters P f fn) (h:bW P base f (first++args++gr) O R):eK P base (.func (.func f) first.toArray gr.toArray) args O R:=fun w M hI=>by
 have s4: ¬fn.name= "runtime.NumGoroutine" :=by simpa using he.2.1
 obtain⟨bd,Nx⟩:=Option.isSome_iff_exists.1 he.2.2
 have hr:(kX (.func (.func f) first.toArray gr.toArray) args.toArray).run P w=.ok (.enter f (first++args++gr).toArray) w:=by
  have e:(first++args++gr).toArray=first.toArray++args.toArray++gr.toArray:=by simp
  rw[e]
  simp[kX,Deferred.ofValue,invoke,callFunc,he.1,s4,Nx]
 rw[hr]
 exact h w M hI
theorem sg {x:Operand} {args:List Operand} {yB:Array TypeId} {dst:Option Nat} {w:World}:(execOp (ev ρ) ⟨dst,.call ⟨.value x,args.toArray,yB⟩,t,p,af,g⟩).run P w=(kX (ev ρ x) (Hf ρ args).toArray).run P w:=by
 have Ft:(args.toArray.map (ev ρ))=(Hf ρ args).toArray:=by simp[Jj]
 simp only[execOp,resolve,kX,Ft,Sem.run_bind]
theorem m_ {r:Option Nat} {f:FuncId} {args:Array Value} {w:World} {R:Ending→World→Prop} (h:Calls P f args w R):CallsIn (Fr r) (0-1) P f args w R:=callsIn_wide.2 h
theorem eN {x:Operand} {args:List Operand} {yB:Array TypeId} {fv:Value} {vs:List Value} {R:Value→List Item→Prop} (hc:eK P base fv vs O R) (hx:ev ρ x=fv) (ha:Hf ρ args=vs)
  (h: ∀v O',R v O'→K (o6 ρ d v) O') (hn:Nat.blt d n=true:=by rfl):LT P r base n ⟨some d,.call ⟨.value x,args.toArray,yB⟩,t,p,af,g⟩ ρ O K:=by
 subst hx;subst ha
 intro a w M ds ha hi next Qx fp
 have h1:=hc w M hi
 rw[←sg (t:=t) (p:=p) (af:=af) (g:=g) (yB:=yB) (dst:=some d)]at h1
 rw[←ha.eval]at h1
 revert h1
 generalize hr:(execOp a.eval ⟨some d,.call ⟨.value x,args.toArray,yB⟩,t,p,af,g⟩).run P w=y
 intro h1
 refine lV (by intro c e;cases e) ?_
 rw[hr]
 cases y with
 |halt e w=>exact h1.elim
 |ok y w1=>
  cases y with
  |enter f abL=>
   rw[Oper.uponIn_enter]
   refine⟨fun e=>by simp[Fr,Fence.wide]at e,m_ (Calls.mono h1 ?_)⟩
   rintro e w' ⟨v,O',rfl,n5,hR⟩
   exact fp _ _ _ _ (ha.put hn v) n5 (h v O' hR)
  |round l f tmps assign body=>
   rw[Oper.uponIn_round]
   refine⟨fun e=>by simp[Fr,Fence.wide]at e,RoundIn.mono h1 ?_⟩
   rintro e w' ⟨v,O',rfl,n5,hR⟩
   exact fp _ _ _ _ (ha.put hn v) n5 (h v O' hR)
  |_=>exact h1.elim
theorem bl {f:FuncId} {fn:Func} {args:List Operand} {yB:Array TypeId} {vs:List Value} {R:Value→List Item→Prop} (he:Enters P f fn)
  (hc:bW P base f vs O R) (ha:Hf ρ args=vs) (h: ∀v O',R v O'→K (o6 ρ d v) O') (hn:Nat.blt d n=true:=by rfl):LT P r base n ⟨some d,.call ⟨.value (.func f),args.toArray,yB⟩,t,p,af,g⟩ ρ O K:=
 eN (cP (first:=[]) (gr:=[]) he (by simpa using hc)) F ha h hn
def entry (args:List Value):Env:=fun t=>args.getD t undef
structure qZ (P:Program) (base:World) (fn:Func) (ρ:Env) (O:List Item) (R:Value→List Item→Prop):Prop where
 ex: ∃v O',Sub O' O∧R v O'∧ ∀w tmps,Inv base O w→(∀t,tmps.getD t undef=ρ t)→(results fn tmps).run P w=.ok v w
def U8 (P:Program) (base:World) (fn:Func) (R:Value→List Item→Prop):kP
 | .normal,ρ,O=>qZ P base fn ρ O R
 | .ret,ρ,O=>qZ P base fn ρ O R
 |_,_,_=>False
theorem o_ {fn:Func} {tmps:Array Value} {M O':List Item} {Rx:Ending→World→Prop} (h: ∀w,Inv base (O'++M) w→ ∃v,(results fn tmps).run P w=.ok v w∧Rx (.returned v) w):
  ∀(D:List Nat) (w:World),Inv base (O'++(mI D++M)) w→LeavesInM Fence.wide 0 P fn tmps Rx (mD D) .returning w
 | [],w,hI=>h w hI
 |b::D,w,hI=>by
  have n5:Inv base (O'++u4 b::(mI D++M)) w:=hI
  have hb:w.heap[b]? =some (.deferred (some [])):=n5.holds (u4 b) (by simp)
  have gn:=(Array.getElem?_eq_some_iff.1 hb).1
  refine⟨by simp,.inl ⟨b,w.putObj b (.deferred none),F,run_takeDeferred hb,o_ h D _ ?_⟩⟩
  have:=Inv.step (N:=[]) (w':=w.putObj b (.deferred none)) n5 F F F (by simp) (fun k _ hk=>World.putObj_heap_other (fun e=>hk (by simp[u4,dF,e]))) (by simp) (by simp) (by simp)
  simpa using this
theorem aF {f:FuncId} {fn:Func} {c:Code} {args:List Value} {R:Value→List Item→Prop} (hf:P.funcs[f]? =some fn) (hb:fn.body=some c) (hn:fn.ntmps=n) (hl:Nat.ble args.length n=true)
  (h:T P none base n c (U8 P base fn R) (entry args) O):bW P base f args O R:=by
 have hl:=Nat.le_of_ble_eq_true hl
 intro w M hI
 rw[←callsIn_wide (n:=0)]
 refine callsIn_of_wp_marks hf hb trivial (wpIn_mono (h _ w M [] trivial ⟨?_,?_,F⟩ hI) ?_)
 ·intro t
  show(args.toArray++Array.replicate (fn.ntmps-args.toArray.size) undef).getD t undef=args.getD t undef
  rw[da,av]
  by_cases h:t<args.length
  ·rw[Array.getElem?_append_left (by simpa using h)];simp
  ·rw[Array.getElem?_append_right (by simpa using h)]
   have:args[t]? =none:=by simp;omega
   rw[this,Array.getElem?_replicate]
   split<;>rfl
 ·simp;omega
 ·have key: ∀(a':Act) (w':World) (gV:Env) (O':List Item) (D:List Nat),Ag n (mD D) a' gV→Inv base (O'++(mI D++M)) w'→qZ P base fn gV O' R→
    LeavesInM Fence.wide 0 P fn a'.tmps (fun e Nr=> ∃v O',e=.returned v∧Inv base (O'++M) Nr∧R v O') a'.defers .returning w':=by
   intro a' w' gV O' D h1 h2 h3
   obtain⟨v,yj,yy,hR,hr⟩:=h3.ex
   rw[h1.defers]
   exact o_ (fun w hI=>⟨v,hr w a'.tmps hI.left h1.tmp,v,yj,F,hI.kn yy.pG,hR⟩) D w' h2
  rintro e a' w' ⟨gV,O',D,h1,h2,h3⟩
  cases e with
  |normal=>exact key a' w' gV O' D h1 h2 h3
  |ret=>exact key a' w' gV O' D h1 h2 h3
  |_=>exact h3.elim
def lp (q:Loop) (j:Option Code):Obj:=.loop {q with state:=if j.isNone then .ready else .done,pending:=j}
structure Jr (q:Loop) (n:Nat) (ρ:Env) (ps:Array Nat) (assign body:Code):Prop where
 params:q.params=ps
 assign:q.assign=assign
 body:q.body=body
 tmp: ∀t,q.tmps.getD t undef=ρ t
 size:q.tmps.size=n
def PT (Q:kP) (ρ:Env) (O:List Item):Option Code→Prop
 |none=>Q .normal ρ O
 |some .ret=>Q .ret ρ O
 |some (.exit id)=>Q (.exit id) ρ O
 |_=>False
theorem T.rangeFunc {gx:Operand} {ps:Array Nat} {assign body:Code} {Q:kP} {f:FuncId} {fn:Func} {first gr:List Value} (hg:ev ρ gx=.func (.func f) first.toArray gr.toArray) (he:Enters P f fn)
  (h: ∀(l:Nat) (q:Loop),Jr q n ρ ps assign body→bW P base f (first++[.func (.yield l) #[] #[]]++gr) (dF l (lp q none)::O) (fun _ O'=> ∃j yj,O'=dF l (lp q j)::yj∧PT Q ρ yj j)):
  T P r base n (.rangeFunc gx ps assign body) Q ρ O:=by
 have s4: ¬fn.name= "runtime.NumGoroutine" :=by simpa using he.2.1
 obtain⟨bd,Nx⟩:=Option.isSome_iff_exists.1 he.2.2
 intro a w M D hM ha hI
 refine wpIn_rangeFunc fun BM _=>?_
 have hev:a.eval gx=.func (.func f) first.toArray gr.toArray:=by rw[ha.eval];exact hg
 have PU: ∀(l:Nat) (w1:World),(resolve a.eval (rangeCall gx l) 0).run P w1=.ok ⟨.fn (.func f) gr.toArray,(first++[Value.func (.yield l) #[] #[]]).toArray⟩ w1:=fun l w1=>by
  have e:(first++[Value.func (.yield l) #[] #[]]).toArray=first.toArray++ #[.func (.yield l) #[] #[]]:=by simp
  rw[e]
  have hc:a.eval (.const (.func (.yield l) #[] #[]))=.func (.yield l) #[] #[]:=rfl
  simp[resolve,hev,hc,Deferred.ofValue]
 have hinv: ∀(l:Nat) (w1:World),(invoke (.fn (.func f) gr.toArray) (first++[Value.func (.yield l) #[] #[]]).toArray).run P w1=.ok (.enter f (first++[Value.func (.yield l) #[] #[]]++gr).toArray) w1:=fun l w1=>by
  have e:(first++[Value.func (.yield l) #[] #[]]++gr).toArray=(first++[Value.func (.yield l) #[] #[]]).toArray++gr.toArray:=by simp
  rw[e]
  simp[invoke,callFunc,he.1,s4,Nx]
 have post: ∀(l:Nat) (q:Loop) (mark:List Deferred) (D':List Nat),mark++mD D=mD D'→ ∀e w',(∃v O',e=Ending.returned v∧Inv base (O'++(mI D'++M)) w'∧ ∃j yj,O'=dF l (lp q j)::yj∧PT Q ρ yj j)→
   rangePost (Fr r) 0 P l (lift base n M Q) {a with defers:=mark++a.defers} e w':=by
  rintro l q mark D' U9 e w' ⟨v,O',rfl,n5,j,yj,rfl,hj⟩
  have hl:w'.heap[l]? =some (lp q j):=n5.holds (dF l (lp q j)) (by simp)
  have gn:=(Array.getElem?_eq_some_iff.1 hl).1
  refine⟨j,_,run_endLoop (P:=P) hl (by simp;split<;>simp),?_⟩
  have pH:Inv base (yj++(mI D'++M)) (w'.putObj l (.loop {({q with state:=if j.isNone then .ready else .done,pending:=j}:Loop)with state:=.exhausted})):=by
   have:=Inv.step (A:=[]) (N:=[]) (w':=w'.putObj l (.loop {({q with state:=if j.isNone then .ready else .done,pending:=j}:Loop)with state:=.exhausted})) (B:=yj++(mI D'++M)) (it:=dF l (lp q j)) n5
    rfl F F (by simp) (fun k _ hk=>World.putObj_heap_other (fun e=>hk (by simp[dF,e]))) (by simp) (by simp) (by simp)
   simpa using this
  have RA:Ag n (mD D') ({a with defers:=mark++a.defers}:Act) ρ:=⟨ha.tmp,ha.size,by simp[ha.defers];exact U9⟩
  cases j with
  |none=>exact⟨ρ,yj,D',RA,pH,hj⟩
  |some c=>
   cases c with
   |ret=>exact wpIn_ret ⟨ρ,yj,D',RA,pH,hj⟩
   |exit id=>exact wpIn_exit ⟨ρ,yj,D',RA,pH,hj⟩
   |_=>exact hj.elim
 cases r with
 |none=>
  have U_:Inv base (u4 w.heap.size::(O++(mI D++M))) (w.alloc (.deferred (some []))):=hI.alloc _
  have pH:=U_.alloc (.loop {state:=.ready,pending:=none,fn:=BM,tmps:=a.tmps,params:=ps,assign,body,defers:=w.heap.size})
  have Zk:Inv base ((dF (w.heap.size+1) (lp {state:=.ready,pending:=none,fn:=BM,tmps:=a.tmps,params:=ps,assign,body,defers:=w.heap.size} none)::O)++(mI (w.heap.size::D)++M))
    ((w.alloc (.deferred (some []))).alloc (.loop {state:=.ready,pending:=none,fn:=BM,tmps:=a.tmps,params:=ps,assign,body,defers:=w.heap.size})):=by
   refine pH.perm ?_
   have e:(w.alloc (.deferred (some []))).heap.size=w.heap.size+1:=by simp
   rw[e]
   exact List.Perm.cons _ List.perm_middle
  refine⟨_,_,_,_,_,f,_,_,run_enterLoop_outer (P:=P) (w:=w) BM a.tmps ps assign body,PU _ _,fun _ _=>trivial,hinv _ _,fun e=>by simp[Fr,Fence.wide]at e,m_ ?_⟩
  refine Calls.mono (h (w.heap.size+1) {state:=.ready,pending:=none,fn:=BM,tmps:=a.tmps,params:=ps,assign,body,defers:=w.heap.size} ⟨F,F,F,ha.tmp,ha.size⟩ _ _ Zk) ?_
  exact post _ _ _ (w.heap.size::D) F
 |some l0=>
  obtain⟨it,fI,Va⟩:=hM
  obtain⟨rc,hrc⟩:=Va w (hI.holds it (by simp[fI]))
  have pH:=hI.alloc (.loop {state:=.ready,pending:=none,fn:=BM,tmps:=a.tmps,params:=ps,assign,body,defers:=rc.defers})
  refine⟨_,_,_,_,_,f,_,_,run_enterLoop_inner (P:=P) (w:=w) hrc BM a.tmps ps assign body,PU _ _,fun _ _=>trivial,hinv _ _,fun e=>by simp[Fr,Fence.wide]at e,m_ ?_⟩
  refine Calls.mono (h w.heap.size {state:=.ready,pending:=none,fn:=BM,tmps:=a.tmps,params:=ps,assign,body,defers:=rc.defers} ⟨F,F,F,ha.tmp,ha.size⟩ _ (mI D++M) pH) ?_
  exact post _ _ _ D F
def Js:List Nat→List Value→Env→Env
 |t::ts,v::vs,ρ=>Js ts vs (o6 ρ t v)
 |_,_,ρ=>ρ
theorem BN: ∀(ts:List Nat) (vs:List Value) (tmps:Array Value) (ρ:Env),(ts.all fun t=>Nat.blt t n)=true→tmps.size=n→(∀t,tmps.getD t undef=ρ t)→
  (((ts.zip vs).foldl (fun tmps q=>tmps.setIfInBounds q.1 q.2) tmps).size=n∧ ∀t,((ts.zip vs).foldl (fun tmps q=>tmps.setIfInBounds q.1 q.2) tmps).getD t undef=Js ts vs ρ t)
 | [],vs,tmps,ρ,_,hs,ht=>⟨hs,ht⟩
 |t::ts,[],tmps,ρ,_,hs,ht=>⟨hs,ht⟩
 |t::ts,v::vs,tmps,ρ,hb,hs,ht=>by
  simp only[List.all_cons,aJ]at hb
  have h1:=Ag.put (a:= {tmps:=tmps,defers:=[]}) (ds:=[]) ⟨ht,hs,F⟩ hb.1 v
  exact BN ts vs _ (o6 ρ t v) hb.2 h1.size h1.tmp
def RB (l:Nat) (q:Loop) (R:Value→List Item→Prop):kP
 | .normal,_,O=>R (.bool true) (dF l (lp q none)::O)
 | .ret,_,O=>R (.bool false) (dF l (lp q (some .ret))::O)
 | .exit id,_,O=>R (.bool false) (dF l (lp q (some (.exit id)))::O)
 |_,_,_=>False
theorem Inv.BO {O M:List Item} {w:World} {l:Nat} {o o':Obj} (hI:Inv base (dF l o::O++M) w):Inv base (dF l o'::O++M) (w.putObj l o'):=by
 have hl:w.heap[l]? =some o:=hI.holds (dF l o) (by simp)
 have gn:=(Array.getElem?_eq_some_iff.1 hl).1
 have:=Inv.step (A:=[]) (N:=[dF l o']) (w':=w.putObj l o') (B:=O++M) (it:=dF l o) hI F F F (by simp) (fun k _ hk=>World.putObj_heap_other (fun e=>hk (by simp[dF,e])))
  (by intro x hx;simp at hx;subst hx;exact World.putObj_heap_same gn) (by intro x hx b hb;simp at hx;subst hx;exact .inl hb) (by simp[dF])
 simpa using this
theorem eK.yield {l:Nat} {q:Loop} {ps:Array Nat} {assign body:Code} {args:List Value} {R:Value→List Item→Prop} (hq:Jr q n ρ ps assign body) (hl:args.length=ps.size) (Jt:(ps.toList.all fun t=>Nat.blt t n)=true)
  (h:T P (some l) base n assign (Jl (fun ρ O=>T P (some l) base n body (RB l q R) ρ O) (fun _ _ _=>False)) (Js ps.toList args ρ) O):
  eK P base (.func (.yield l) #[] #[]) args (dF l (lp q none)::O) R:=by
 obtain⟨rfl,rfl,rfl,ht,hs⟩:=hq
 intro w M hI
 have hb:w.heap[l]? =some (.loop {q with state:=.ready,pending:=none}):=hI.holds (dF l (lp q none)) (by simp)
 have Ju:(kX (.func (.yield l) #[] #[]) args.toArray).run P w=.ok (.round l q.fn ((q.params.toList.zip args).foldl (fun tmps p=>tmps.setIfInBounds p.1 p.2) q.tmps) q.assign q.body) w:=by
  have h1:=run_yield (P:=P) (args:=args.toArray) hb (by simpa using hl)
  simp only[kX,Deferred.ofValue,invoke,Sem.run_bind,Sem.run_pure,Result.andThen_ok]
  have e:(#[]:Array Value)++args.toArray=args.toArray:=by simp
  rw[e,h1]
  congr 2
  rw[←Array.foldl_toList]
  congr 1
  simp
 rw[Ju]
 obtain⟨sR,htm⟩:=BN q.params.toList args q.tmps ρ Jt hs ht
 refine roundIn_of_wpIn trivial ?_
 have U_:Inv base (O++(mI []++(dF l (lp q none)::M))) w:=hI.perm List.perm_middle
 refine wpIn_mono (h {tmps:=_,defers:=[]} w (dF l (lp q none)::M) [] ⟨dF l (lp q none),by simp,fun w hw=>⟨_,hw⟩⟩ ⟨htm,sR,F⟩ U_) ?_
 rintro e a1 w1 ⟨ρ1,O1,D1,h1,h2,h3⟩
 cases e with
 |normal=>
  have Um:Inv base (dF l (lp q none)::(O1++mI D1)++M) w1:=h2.perm (by
   have:(O1++(mI D1++dF l (lp q none)::M))=((O1++mI D1)++dF l (lp q none)::M):=by simp
   rw[this]
   exact List.perm_middle.symm)
  have Hr:w1.heap[l]? =some (.loop {q with state:=.ready,pending:=none}):=Um.holds (dF l (lp q none)) (by simp)
  refine⟨_,run_beginRound (P:=P) Hr F,?_⟩
  have Zk:=Um.BO (o':=.loop {({q with state:=.ready,pending:=none}:Loop)with state:=.busy})
  have hI4:Inv base (O1++(mI D1++(dF l (.loop {({q with state:=.ready,pending:=none}:Loop)with state:=.busy})::M))) (w1.putObj l (.loop {({q with state:=.ready,pending:=none}:Loop)with state:=.busy})):=Zk.perm (by
   have:(O1++(mI D1++dF l (.loop {({q with state:=.ready,pending:=none}:Loop)with state:=.busy})::M))=((O1++mI D1)++dF l (.loop {({q with state:=.ready,pending:=none}:Loop)with state:=.busy})::M):=by simp
   rw[this]
   exact List.perm_middle)
  refine wpIn_mono (h3 a1 _ _ D1 ⟨dF l (.loop {({q with state:=.ready,pending:=none}:Loop)with state:=.busy}),by simp,fun w hw=>⟨_,hw⟩⟩ h1 hI4) ?_
  rintro e a2 w2 ⟨ρ2,O2,D2,k1,k2,k3⟩
  have k2':Inv base (dF l (.loop {({q with state:=.ready,pending:=none}:Loop)with state:=.busy})::(O2++mI D2)++M) w2:=k2.perm (by
   have:(O2++(mI D2++dF l (.loop {({q with state:=.ready,pending:=none}:Loop)with state:=.busy})::M))=((O2++mI D2)++dF l (.loop {({q with state:=.ready,pending:=none}:Loop)with state:=.busy})::M):=by simp
   rw[this]
   exact List.perm_middle.symm)
  have D8:w2.heap[l]? =some (.loop {({q with state:=.ready,pending:=none}:Loop)with state:=.busy}):=k2'.holds (dF l (.loop {({q with state:=.ready,pending:=none}:Loop)with state:=.busy})) (by simp)
  have fin: ∀j:Option Code,Inv base (dF l (lp q j)::O2++M) (w2.putObj l (lp q j)):=fun j=>by
   have:=k2'.BO (o':=lp q j)
   refine this.sub ?_
   simp only[cI,aI]
   exact List.Sublist.cons_cons _ (List.Sublist.append (aZ _) (List.sublist_append_right _ _))
  cases e with
  |normal=>exact⟨_,_,run_endRound (P:=P) none D8,_,_,F,fin none,k3⟩
  |ret=>exact⟨_,_,run_endRound (P:=P) (some .ret) D8,_,_,F,fin (some .ret),k3⟩
  |exit id=>exact⟨_,_,run_endRound (P:=P) (some (.exit id)) D8,_,_,F,fin (some (.exit id)),k3⟩
  |_=>exact k3.elim
 |_=>exact h3.elim
theorem qZ.zero {fn:Func} {R:Value→List Item→Prop} (hr:fn.results= #[]) (h:R (.tuple #[]) O):qZ P base fn ρ O R:=
 ⟨⟨_,O,cj (aZ _),h,fun w tmps _ _=>results_none hr tmps P w⟩⟩
theorem aS {fn:Func} {R:Value→List Item→Prop} {a:Nat} (v:Value) (hr:fn.results= #[.tmp a]) (hv:ρ a=v) (h:R v O):qZ P base fn ρ O R:=
 ⟨⟨_,O,cj (aZ _),h,fun w tmps _ ht=>by rw[results_tmp hr tmps P w,ht,hv]⟩⟩
theorem dl {fn:Func} {R:Value→List Item→Prop} {a b:Nat} (v u:Value) (hr:fn.results= #[.tmp a,.tmp b]) (hv:ρ a=v) (hu:ρ b=u) (h:R (.tuple #[v,u]) O):qZ P base fn ρ O R:=
 ⟨⟨_,O,cj (aZ _),h,fun w tmps _ ht=>by rw[results_tmp2 hr tmps P w,ht,ht,hv,hu]⟩⟩
theorem aA {fn:Func} {R:Value→List Item→Prop} (h:qZ P base fn ρ O (fun v O1=> ∃O2,Sub O2 O1∧R v O2)):qZ P base fn ρ O R:=by
 obtain⟨v,O1,hs,⟨O2,DI,hR⟩,hr⟩:=h.ex
 refine⟨⟨v,O2,?_,hR,hr⟩⟩
 obtain⟨l2,p2,s2⟩:=DI
 obtain⟨l1,p1,s1⟩:=hs
 obtain⟨l3,p3,s3⟩:=List.exists_perm_sublist s2 p1
 exact⟨l3,p2.trans p3.symm,s3.trans s1⟩
theorem qd {T E:TypeId} {d:TypeDesc} {z:Value} {s gQ b:Nat} {cs:List Value} {fr:Nat×Nat} {w:World} (hu:P.underlying T=some d) (ha:og d=true) (hi:fP P T z s gQ) (hl:cs.length=s) (hw:w.heap[b]? =some (.cells cs.toArray E fr)):
  (loadVar T ⟨b,0,none⟩).run P w=.ok (.agg cs.toArray) w:=by
 have h:=lZ (P:=P) (w:=w) (a:=⟨b,0,none⟩) cs 0 #[] (fun j hj=>by
  rw[qY];unfold World.cell?;simp[hw])
 simp[loadVar,jm hu,ha,bX hi,loadCells,←hl,h]
theorem cM {fn:Func} {R:Value→List Item→Prop} {a i:Nat} {T E:TypeId} {d:TypeDesc} {z:Value} {s gQ b:Nat} {cs:List Value} {fr:Nat×Nat} (hr:fn.results= #[.cell a T]) (hu:P.underlying T=some d) (ha:og d=true) (hi:fP P T z s gQ) (hp:ρ a=.pointer (some ⟨b,0,none⟩)) (hO:O[i]? =some (dF b (.cells cs.toArray E fr))) (hl:cs.length=s)
  (h:R (.agg cs.toArray) O):qZ P base fn ρ O R:=
 ⟨⟨_,O,cj (aZ _),h,fun w tmps hI ht=>by
  have:=qd (P:=P) hu ha hi hl (hI.sX hO)
  have Hs:=ht a
  simp only[da]at Hs
  simp[results,hr,Hs,hp,asAddr,this]⟩⟩
theorem jT {fn:Func} {R:Value→List Item→Prop} {a i c:Nat} (u:Value) {T E:TypeId} {d:TypeDesc} {z:Value} {s gQ b:Nat} {cs:List Value} {fr:Nat×Nat} (hr:fn.results= #[.cell a T,.tmp c]) (hu:P.underlying T=some d) (ha:og d=true) (hi:fP P T z s gQ) (hp:ρ a=.pointer (some ⟨b,0,none⟩)) (hO:O[i]? =some (dF b (.cells cs.toArray E fr))) (hl:cs.length=s) (PN:ρ c=u)
  (h:R (.tuple #[.agg cs.toArray,u]) O):qZ P base fn ρ O R:=
 ⟨⟨_,O,cj (aZ _),h,fun w tmps hI ht=>by
  have:=qd (P:=P) hu ha hi hl (hI.sX hO)
  have Hs:=ht a
  have hc:=ht c
  simp only[da]at Hs hc
  simp[results,hr,Hs,hc,PN,hp,asAddr,this]⟩⟩
end
end Go.Lx

namespace Go.Lx
open Go.RowKit
def dv:List (Nat×Value)→Env→Prop
 | [],_=>True
 |q::L,ρ=>ρ q.1=q.2∧dv L ρ
def BP (L:List (Nat×Value)) (ρ:Env):Env:=L.foldr (fun q r=>o6 r q.1 q.2) ρ
theorem dv.of {ρ:Env}: ∀ {L:List (Nat×Value)},L.map (fun q=>ρ q.1)=L.map (·.2)→dv L ρ
 | [],_=>trivial
 |_::_,h=>⟨(List.cons.inj h).1,dv.of (List.cons.inj h).2⟩
theorem wU {ρ:Env}: ∀ {L:List (Nat×Value)},dv L ρ→BP L ρ=ρ
 | [],_=>rfl
 |q::L,h=>by
  have ih:=wU h.2
  show o6 (BP L ρ) q.1 q.2=ρ
  rw[ih]
  funext t
  unfold o6
  cases e:Nat.beq t q.1 with
  |false=>rfl
  |true=>rw[Nat.eq_of_beq_eq_true e];exact h.1.symm
theorem dv.elim {L:List (Nat×Value)} {ρ:Env} (h:dv L ρ): ∃gF,ρ=BP L gF:=⟨ρ,(wU h).symm⟩
abbrev ints (xs:List Int):List Value:=xs.map (Value.int .i64)
abbrev bS (xs:List Nat):List Value:=xs.map fun x:Nat=>Value.int .i64 (x:Int)
abbrev cG (xs:List Bool):List Value:=xs.map Value.bool
abbrev p7 (xs:List Nat):List Value:=xs.map fun x:Nat=>Value.int .u8 (x:Int)
theorem gL {xs:List Int} {k:Nat} (h:k<xs.length:=by first|assumption|omega|(simp;omega)|simp_all):(ints xs)[k]? =some (.int .i64 xs[k]):=by simp[h]
theorem ij {xs:List Nat} {k:Nat} (h:k<xs.length:=by first|assumption|omega|(simp;omega)|simp_all):(bS xs)[k]? =some (.int .i64 ((xs[k]:Nat):Int)):=by simp[h]
theorem iB {xs:List Bool} {k:Nat} (h:k<xs.length:=by first|assumption|omega|(simp;omega)|simp_all):(cG xs)[k]? =some (.bool xs[k]):=by simp[h]
theorem wV {xs:List Nat} {k:Nat} (h:k<xs.length:=by first|assumption|omega|(simp;omega)|simp_all):(p7 xs)[k]? =some (.int .u8 ((xs[k]:Nat):Int)):=by simp[h]
def qe (P:Program) (T:TypeId) (pl:List (Nat×Nat)):Prop:=
 ∃fields,P.underlying T=some (.struct fields)∧ ∀w:World,(fields.mapM fun f=>do pure (f.offset,←sizeOf f.type):Sem (Array (Nat×Nat))).run P w=.ok pl.toArray w
section
variable {P:Program} {base:World} {ρ:Env} {O:List Item} {dst:Option Nat} {t:TypeId} {p:String} {af:Array Edge} {g:Option (Nat×Bool)}
theorem zh {x y:Operand} {T E:TypeId} {b o n c i:Nat} {k:IntKind} {z:Value} {gQ:Nat} (hu:P.underlying T=some (.slice E)) (hi:fP P E z 1 gQ) (hx:ev ρ x=.slice (some ⟨b,o,none⟩) n c) (hy:ev ρ y=.int k (i:Int)) (gn:i<n):
  QT P base ⟨dst,.indexAddr T x y,t,p,af,g⟩ ρ O (.pointer (some ⟨b,o+i,none⟩)):=by
 have:=u5 (P:=P) (base:=base) (O:=O) (dst:=dst) (t:=t) (p:=p) (af:=af) (g:=g) hu hi hx hy gn
 rwa[Nat.mul_one]at this
theorem cA {c a b:Operand} {v:Value} (hc:ev ρ c=.bool true) (ha:ev ρ a=v):QT P base ⟨dst,.pick c a b,t,p,af,g⟩ ρ O v:=fun w _=>by simp[execOp,hc,ha,asBool]
theorem cg {c a b:Operand} {v:Value} (hc:ev ρ c=.bool false) (hb:ev ρ b=v):QT P base ⟨dst,.pick c a b,t,p,af,g⟩ ρ O v:=fun w _=>by simp[execOp,hc,hb,asBool]
theorem cE {T:TypeId} {parts:List (Nat×Operand)} {pl:List (Nat×Nat)} {z:Value} {s gQ:Nat} {cs:List Value} (hp:qe P T pl) (hi:fP P T z s gQ) (hf:Instr.fill (fun i=>pl[i]?) z.cells (parts.map fun q=>(q.1,ev ρ q.2))=some cs.toArray):
  QT P base ⟨dst,.build T parts.toArray,t,p,af,g⟩ ρ O (.agg cs.toArray):=fun w _=>by
 obtain⟨fields,hu,hm⟩:=hp
 have Yt:Instr.fill (fun i=>pl.toArray[i]?) z.cells (parts.map fun q=>(q.1,ev ρ q.2))=some cs.toArray:=by simpa using hf
 simp only[execOp,Instr.build,Sem.run_bind,gM hi,Result.andThen_ok,bG hu,hm w]
 simp at Yt
 simp[Yt]
end
end Go.Lx

namespace Go.Lx
open Go.RowKit
theorem aB {P:Program} {base:World} {o:Oper} {ρ:Env} {O:List Item} {b b':Bool} (h:QT P base o ρ O (.bool b)) (e:b=b'):QT P base o ρ O (.bool b'):=e▸h
def qf (w:World) (vs:List Value) (rs:List (List Int)):Prop:=
 vs.length=rs.length∧ ∀(i:Nat) (r:List Int),rs[i]? =some r→ ∃b c,vs[i]? =some (Value.slice b r.length c)∧Sl w b (ints r)
theorem qf.get {w:World} {vs:List Value} {rs:List (List Int)} (h:qf w vs rs) {i:Nat} (hi:i<rs.length): ∃b c,vs[i]? =some (Value.slice b rs[i].length c)∧Sl w b (ints rs[i]):=
 h.2 i rs[i] (ap hi)
theorem qf.keep {w w':World} {vs:List Value} {rs:List (List Int)} (h:qf w vs rs) (hb: ∀k,k<w.heap.size→w'.heap[k]? =w.heap[k]?):qf w' vs rs:=
 ⟨h.1,fun i r hr=>by obtain⟨b,c,h1,h2⟩:=h.2 i r hr;exact⟨b,c,h1,h2.keep hb⟩⟩
theorem Inv.rows {base:World} {O:List Item} {w:World} (hI:Inv base O w) {vs:List Value} {rs:List (List Int)} (h:qf base vs rs):qf w vs rs:=h.keep hI.below.block
structure Rec where
 b:Option Addr
 c:Nat
 xs:List Int
def Rec.val (q:Rec):Value:=.slice q.b q.xs.length q.c
def Rec.sQ (E:TypeId) (q:Rec):Item:=aq q.b q.c E 1 (ints q.xs)
abbrev dm (qs:List Rec):List Value:=qs.map Rec.val
abbrev cd (E:TypeId) (qs:List Rec):List Item:=qs.map (Rec.sQ E)
abbrev nums (qs:List Rec):List (List Int):=qs.map Rec.xs
theorem Inv.Vb {base:World} {O:List Item} {w:World} (hI:Inv base O w) {E:TypeId} {qs:List Rec} (h: ∀q∈qs,q.sQ E∈O):qf w (dm qs) (nums qs):=by
 refine⟨by simp,fun i r hr=>?_⟩
 obtain⟨q,hq,rfl⟩: ∃q,qs[i]? =some q∧q.xs=r:=by
  rw[bq]at hr
  cases e:qs[i]? with
  |none=>rw[e]at hr;cases hr
  |some q=>rw[e]at hr;exact⟨q,F,by simpa using hr⟩
 refine⟨q.b,q.c,by simp[hq,Rec.val],?_⟩
 exact rowP.sl (hI.holds _ (h q (bQ hq)))
theorem Inv.ii {base:World} {O:List Item} {w:World} (hI:Inv base O w) {b:Option Addr} {c:Nat} {T:TypeId} {k:Nat} {cs:List Value} (h:aq b c T k cs∈O):Sl w b cs:=rowP.sl (hI.holds _ h)
section
variable {P:Program} {r:Option Nat} {base:World} {n:Nat} {ρ:Env} {O:List Item} {K:Env→List Item→Prop} {d:Nat} {t:TypeId} {p:String} {af:Array Edge} {g:Option (Nat×Bool)} {dst:Option Nat}
theorem cN {T E:TypeId} {x:Operand} {v:Value} {z:Value} {gQ:Nat} (hu:P.underlying T=some (.slice E)) (hi:fP P E z 1 gQ) (_hz:z.cells.size=1) (hx:ev ρ x=v) (hv:fa v=true)
  (h: ∀b,K (o6 ρ d (.slice (some ⟨b,0,none⟩) 1 1)) (aq (some ⟨b,0,none⟩) 1 E 1 [v]::O)) (hn:Nat.blt d n=true:=by rfl):LT P r base n ⟨some d,.buildSlice T 1 #[(0,x)],t,p,af,g⟩ ρ O K:=by
 refine cz (parts:=[(0,x)]) (cs:=[v]) hu hi (by omega) ?_ (by simp) h hn
 have hc:v.cells= #[v]:=by cases v<;>simp_all[fa,Value.cells]
 simp[Instr.fill,hx,hc]
 apply Array.ext_getElem?
 intro i
 cases i with
 |zero=>simp
 |succ i=>simp
end
structure cU where
 vars:Int
 start:Int
 next:List (List Int)
 aY:List Bool
 deriving DecidableEq
structure jt (w:World) (d:cU) (nb:Option Addr) (vs:List Value) (fb:Option Addr):Prop where
 outer:Sl w nb vs
 rows:qf w vs d.next
 aY:Sl w fb (cG d.aY)
theorem jt.keep {w w':World} {d:cU} {nb:Option Addr} {vs:List Value} {fb:Option Addr} (h:jt w d nb vs fb) (hb: ∀k,k<w.heap.size→w'.heap[k]? =w.heap[k]?):jt w' d nb vs fb:=
 ⟨h.outer.keep hb,h.rows.keep hb,h.aY.keep hb⟩
theorem Inv.BQ {base:World} {O:List Item} {w:World} (hI:Inv base O w) {d:cU} {nb:Option Addr} {vs:List Value} {fb:Option Addr} (h:jt base d nb vs fb):jt w d nb vs fb:=h.keep hI.below.block
abbrev fw (d:cU) (nb:Option Addr) (nc:Nat) (fb:Option Addr) (fc:Nat):List Value:=[.int .i64 d.vars,.int .i64 d.start,.slice nb d.next.length nc,.slice fb d.aY.length fc]
end Go.Lx

namespace Go.Lx
def uZ (n:Nat) (r:List Int):Bool:=r.all fun x=>decide (0≤x)&&decide (x<(n:Int))
def sS (L n:Nat):List (List Int)→Nat
 | []=>0
 |r::rs=>if r.length≠L then 2 else if uZ n r=true then sS L n rs else 8
def dD (d:cU):Nat:=
 if¬(0≤d.vars∧d.vars≤6)then 7
 else if d.next.length=0 then 3
 else if 4096<d.next.length then 4
 else if d.aY.length≠d.next.length then 2
 else if d.start<0∨(d.next.length:Int)≤d.start then 8
 else sS (2^d.vars.toNat) d.next.length d.next
theorem sT {L n:Nat} {rs:List (List Int)} {k:Nat} (hk:k<rs.length):sS L n (rs.drop k)=if rs[k].length≠L then 2 else if uZ n rs[k]=true then sS L n (rs.drop (k+1))else 8:=by
 rw[List.drop_eq_getElem_cons hk];rfl
theorem Hd {L n:Nat} {rs:List (List Int)} {k:Nat} (hk:rs.length≤k):sS L n (rs.drop k)=0:=by
 rw[List.drop_eq_nil_of_le hk];rfl
structure Val (d:cU):Prop where
 v0:0≤d.vars
 v6:d.vars≤6
 n0:0<d.next.length
 fin:d.aY.length=d.next.length
 s0:0≤d.start
 s1:d.start<(d.next.length:Int)
 len: ∀r∈d.next,r.length=2^d.vars.toNat
 ok: ∀r∈d.next,∀x∈r,0≤x∧x<(d.next.length:Int)
structure Valid (d:cU):Prop extends Val d where
 n4:d.next.length≤4096
instance {d:cU}:Coe (Valid d) (Val d):=⟨Valid.toVal⟩
theorem sL {L n:Nat}: ∀ {rs:List (List Int)},sS L n rs=0↔(∀r∈rs,r.length=L)∧ ∀r∈rs,∀x∈r,0≤x∧x<(n:Int)
 | []=>by simp[sS]
 |r::rs=>by
  have ih:=sL (L:=L) (n:=n) (rs:=rs)
  simp only[sS]
  by_cases h:r.length=L
  ·by_cases h2:uZ n r=true
   ·simp only[h,ne_eq,not_true_eq_false,if_false,h2,if_true,ih,dh,forall_eq_or_imp,true_and]
    have h3: ∀x∈r,0≤x∧x<(n:Int):=by simpa[uZ]using h2
    exact⟨fun q=>⟨q.1,h3,q.2⟩,fun q=>⟨q.1,q.2.2⟩⟩
   ·simp only[h,ne_eq,not_true_eq_false,if_false,h2]
    refine⟨fun q=>by simp at q,fun q=>(h2 ?_).elim⟩
    have:=q.2 r (by simp)
    simpa[uZ]using this
  ·simp only[ne_eq,h,not_false_eq_true,if_true]
   exact⟨fun q=>by simp at q,fun q=>(h (q.1 r (by simp))).elim⟩
theorem eA {d:cU}:dD d=0↔Valid d:=by
 unfold dD
 constructor
 ·intro h
  split at h;·cases h
  split at h;·cases h
  split at h;·cases h
  split at h;·cases h
  split at h;·cases h
  rename_i h1 h2 h3 h4 h5
  obtain⟨h6,h7⟩:=sL.1 h
  simp only[Classical.not_not]at h1 h4
  exact⟨⟨h1.1,h1.2,by omega,h4,by omega,by omega,h6,h7⟩,by omega⟩
 ·intro h
  rw[az (by have:=h.v0;have:=h.v6;simp;omega),az (by have:=h.n0;omega),az (by have:=h.n4;omega),az (by simp[h.fin]),az (by have:=h.s0;have:=h.s1;omega)]
  exact sL.2 ⟨h.len,h.ok⟩
theorem Val.width {d:cU} (h:Val d):2^d.vars.toNat≤64:=
 cn (cF (by omega) (show d.vars.toNat≤6 by have:=h.v0;have:=h.v6;omega)) (by decide)
theorem Val.wJ {d:cU} (h:Val d): ∀r∈d.next,r.length<9223372036854775807:=fun r hr=>by
 have:=h.len r hr;have:=h.width;omega
end Go.Lx

namespace Go.Lx
open Go.RowKit
noncomputable def one (a b:Item):Nat:=open Classical in if b=a then 1 else 0
noncomputable def v7 (a:Item):List Item→Nat
 | []=>0
 |b::l=>one a b+v7 a l
theorem Fy (a:Item):v7 a []=0:=rfl
theorem oh (a b:Item) (l:List Item):v7 a (b::l)=one a b+v7 a l:=rfl
theorem pe (a:Item) (l m:List Item):v7 a (l++m)=v7 a l+v7 a m:=by
 induction l with
 |nil=>simp[v7]
 |cons b l ih=>rw[cI,oh,ih,oh];omega
theorem Ny {a:Item} {l:List Item} (h:0<v7 a l): ∃l1 l2,l=l1++a::l2:=by
 induction l with
 |nil=>simp[v7]at h
 |cons b l ih=>
  by_cases e:b=a
  ·subst e;exact⟨[],l,F⟩
  ·obtain⟨l1,l2,rfl⟩:=ih (by simpa[v7,one,e]using h)
   exact⟨b::l1,l2,F⟩
theorem u6: ∀ {l m:List Item},(∀a,v7 a l=v7 a m)→l.Perm m
 | [],m,h=>by
  cases m with
  |nil=>exact List.Perm.refl _
  |cons b m=>have:=h b;simp[v7,one]at this;omega
 |b::l,m,h=>by
  obtain⟨m1,m2,rfl⟩:=Ny (a:=b) (l:=m) (by rw[←h b];simp[v7,one];omega)
  have h': ∀a,v7 a l=v7 a (m1++m2):=fun a=>by
   have:=h a
   rw[oh,pe,oh]at this
   rw[pe];omega
  exact(List.Perm.cons b (u6 h')).trans List.perm_middle.symm
theorem Sub.v7 {O' O:List Item} (D:List Item) (h: ∀a,Lx.v7 a (O'++D)=Lx.v7 a O):Sub O' O:=by
 have hp:=u6 h
 obtain⟨l,h1,h2⟩:=List.exists_perm_sublist (List.sublist_append_left O' D) hp
 exact⟨l,h1.symm,h2⟩
def Jv:List Item→Nat→List Item
 | [],_=>[]
 |a::_,0=>[a]
 |_::l,i+1=>Jv l i
def s5:List Item→Nat→List Item
 | [],_=>[]
 |_::l,0=>l
 |a::l,i+1=>a::s5 l i
def wW:List Nat→List Item→List Item
 | [],_=>[]
 |i::is,L=>Jv L i++wW is (s5 L i)
def zi:List Nat→List Item→List Item
 | [],L=>L
 |i::is,L=>zi is (s5 L i)
theorem zj: ∀(L:List Item) (i:Nat),(Jv L i++s5 L i).Perm L
 | [],i=>List.Perm.refl _
 |a::l,0=>List.Perm.refl _
 |a::l,i+1=>by
  have ih:=zj l i
  show(Jv l i++a::s5 l i).Perm (a::l)
  exact List.perm_middle.trans (List.Perm.cons a ih)
theorem q5: ∀(is:List Nat) (L:List Item),(wW is L++zi is L).Perm L
 | [],L=>List.Perm.refl _
 |i::is,L=>by
  show((Jv L i++wW is (s5 L i))++zi is (s5 L i)).Perm L
  rw[aI]
  exact((q5 is (s5 L i)).append_left _).trans (zj L i)
theorem nW {O' D O:List Item} (h:(O'++D).Perm O):Sub O' O:=by
 obtain⟨l,h1,h2⟩:=List.exists_perm_sublist (List.sublist_append_left O' D) h
 exact⟨l,h1.symm,h2⟩
theorem aC (is:List Nat) {L O':List Item} (h:wW is L=O'):Sub O' L:=h▸nW (q5 is L)
theorem kF (is:List Nat) (L R:List Item) {O' O:List Item} (h:wW is L++R=O') (h2:L++R=O):Sub O' O:=by
 subst h;subst h2;exact(aC is F).pG
theorem fq (is:List Nat) (L R:List Item) {O' O:List Item} (h:wW is L=O') (h2:L++R=O):Sub O' O:=by
 subst h;subst h2;exact nW (D:=zi is L++R) (by rw[←aI];exact(q5 is L).append_right R)
section
variable {X:PX} {P:Program} {r:Option Nat} {base:World} {n:Nat} {ρ:Env} {O O' S:List Item} {K:Env→List Item→Prop} {ops:Array Oper} {l:List Oper} {tail:List Nat} {od:List (Nat×Nat)}
theorem dX (hs:Sub O' O) (h:TO X P r base n ops l K ρ O'):TO X P r base n ops l K ρ O:=fun Q a w M D hk ha hi=>h Q a w M D hk ha (hi.kn hs.pG)
theorem e7 {S2:List Item} {dp:List Nat} (hs:Sub O' O) (h:DO X P r base n ops S tail S2 dp od K ρ O'):DO X P r base n ops S tail S2 dp od K ρ O:=
 fun h1 lJ h3 listed h4 Q a w M D hq hp ha hI n_ hS=>h h1 lJ h3 listed h4 Q a w M D hq hp ha (hI.kn hs.pG) n_ hS
theorem bW.sub {f:FuncId} {args:List Value} {R:Value→List Item→Prop} (hs:Sub O' O) (h:bW P base f args O' R):bW P base f args O R:=fun w M hI=>h w M (hI.kn hs.pG)
end
end Go.Lx

namespace Go.Lx
open Go.RowKit
section
variable {P:Program} {base:World} {ρ:Env} {O:List Item} {dst:Option Nat} {t:TypeId} {p:String} {af:Array Edge} {g:Option (Nat×Bool)}
theorem Vc {x y:Operand} {T U:TypeId} {k k':IntKind} {a b:Int} (hx:ev ρ x=.int k a) (hy:ev ρ y=.int k' b) (h0:0≤b):QT P base ⟨dst,.binOp .shl T x y U,t,p,af,g⟩ ρ O (.int k (k.wrap (a*2^(min b.toNat k.bits)))):=fun w _=>by
 have: ¬b<0:=by omega
 simp[execOp,hx,hy,eqGuard,binOp,Op.shift,this]
theorem nU {x y:Operand} {T U:TypeId} {k':IntKind} {v:Nat} (hx:ev ρ x=.int .i64 1) (hy:ev ρ y=.int k' (v:Int)) (hv:v≤60):QT P base ⟨dst,.binOp .shl T x y U,t,p,af,g⟩ ρ O (.int .i64 ((2^v:Nat):Int)):=by
 have h:=Vc (P:=P) (base:=base) (O:=O) (dst:=dst) (t:=t) (p:=p) (af:=af) (g:=g) (T:=T) (U:=U) hx hy (by omega)
 have e:min (v:Int).toNat (IntKind.i64.bits)=v:=by
  have:IntKind.i64.bits=64:=rfl
  rw[this];simp;omega
 rw[e]at h
 have Fw:(2:Nat)^v≤2^60:=cF (by omega) hv
 have h60:(2:Nat)^60=1152921504606846976:=by rfl
 have e2:(1:Int)*2^v=((2^v:Nat):Int):=by rw[Int.one_mul,Int.natCast_pow];rfl
 rw[e2]at h
 rw[h60]at Fw
 generalize(2:Nat)^v=q at*
 rwa[gS (by omega)]at h
theorem UN {x y:Operand} {yB:Array TypeId} {k k':IntKind} {a b:Int} (hx:ev ρ x=.int k a) (hy:ev ρ y=.int k' b):QT P base ⟨dst,.call ⟨.builtin .min,#[x,y],yB⟩,t,p,af,g⟩ ρ O (.int k (if b<a then b else a)):=fun w _=>by
 simp[execOp,resolve,hx,hy,invoke,builtin,Builtin.min_,Builtin.min2]
theorem UO {x y:Operand} {yB:Array TypeId} {k k':IntKind} {a b:Int} (hx:ev ρ x=.int k a) (hy:ev ρ y=.int k' b):QT P base ⟨dst,.call ⟨.builtin .max,#[x,y],yB⟩,t,p,af,g⟩ ρ O (.int k (if b>a then b else a)):=fun w _=>by
 simp[execOp,resolve,hx,hy,invoke,builtin,Builtin.max_,Builtin.max2]
def str (l:List UInt8):Value:=.string ⟨l.toArray⟩
theorem wX {x:Operand} {T:TypeId} {l:List UInt8} (hu:P.underlying T=some .string) (hx:ev ρ x=str l):QT P base ⟨dst,.call ⟨.builtin .len,#[x],#[T]⟩,t,p,af,g⟩ ρ O (.int .i64 (l.length:Int)):=fun w _=>by
 have e:(ByteArray.mk l.toArray).size=l.length:=by show l.toArray.size=_;simp
 simp[execOp,resolve,hx,str,invoke,builtin,Builtin.len_,bG hu,goInt,e]
abbrev di (l:List UInt8):List Value:=l.map fun b:UInt8=>Value.int .u8 (b.toNat:Int)
theorem wY (l:List UInt8):((di l).all fa)=true:=by simp[fa]
theorem Nz {w:World} {b:Option Addr} {n c:Nat} {l:List UInt8} (h:Sl w b (di l)) (hl:l.length=n):(Conv.bytesToString (.slice b n c)).run P w=.ok (str l) w:=by
 subst hl
 cases b with
 |none=>
  have:l=[]:=by
   cases l with
   |nil=>rfl
   |cons a l=>obtain⟨_,h1,_⟩:=h 0 (by simp);cases h1
  subst this;rfl
 |some a=>
  obtain⟨k,o,sp⟩:=a
  have hl:=iW (P:=P) (c:=c) (m:=l.length) (s:=1) h (by simp) (by simp)
  simp only[Builtin.firstCells,Nat.mul_one]at hl
  have fold: ∀(l:List UInt8) (iM:ByteArray),List.foldl (fun(b:ByteArray) (a:UInt8)=>ByteArray.mk (b.data.push a)) iM l=⟨(iM.data.toList++l).toArray⟩:=by
   intro l
   induction l with
   |nil=>intro iM;simp
   |cons b l ih=>intro iM;rw[cS,ih];simp
  simp only[Conv.bytesToString,Sem.run_bind,hl,Result.andThen_ok]
  simp[di,ByteArray.push,fold,str]
theorem BS {x:Operand} {S D E:TypeId} {b:Option Addr} {n c c' k:Nat} {l:List UInt8} (hs:P.underlying S=some (.slice E)) (hd:P.underlying D=some .string) (he:P.underlying E=some (.int .u8)) (hx:ev ρ x=.slice b n c)
  (hO:aq b c' E k (di l)∈O) (hl:l.length=n):QT P base ⟨dst,.convert S D x,t,p,af,g⟩ ρ O (str l):=fun w hI=>by
 simp[execOp,hx,convert,bG hs,bG hd,bG he,Nz (hI.ii hO) hl]
def RC {α β:Type} (K:α→Value) (V:β→Value) (m:Nat) (l:List (α×β)) (w:World):Prop:=
 ∃es yk,w.heap[m]? =some (.map es yk)∧es.toList.map (fun e=>(e.key,e.val))=(l.map fun q=>(K q.1,V q.2))∧(es.toList.map (·.born)).Nodup∧ ∀e∈es.toList,e.born<yk
def dz {α β:Type} (K:α→Value) (V:β→Value) (m:Nat) (l:List (α×β)):Item where
 blocks:=[m]
 P:=RC K V m l
 loc:=fun w w' h hp=>by
  obtain⟨es,yk,h1,h2⟩:=hp
  exact⟨es,yk,by rw[h m (by simp)];exact h1,h2⟩
def lC {α:Type} [DecidableEq α] (a:α):List α→List MapEntry→Nat→Option (Nat×Value)
 |k::ks,e::es,i=>if a=k then some (i,e.val)else lC a ks es (i+1)
 |_,_,_=>none
structure gh (P:Program) {α:Type} [DecidableEq α] (kt:TypeId) (K:α→Value):Prop where
 check: ∀e a w,(Instr.checkKey e 10000 kt (K a)).run P w=.ok () w
 find: ∀(es:List MapEntry) (ks:List α) (a:α) (w:World),es.map (·.key)=ks.map K→(Instr.findKey kt (K a) es).run P w=.ok (lC a ks es 0) w
theorem Jw (a b:List UInt8):((⟨a.toArray⟩:ByteArray)==⟨b.toArray⟩)=decide (a=b):=by
 show(a.toArray==b.toArray)=_
 by_cases e:a=b
 ·subst e;simp
 ·simp[e]
theorem gh.string {kt:TypeId} (hu:P.underlying kt=some .string):gh P kt str where
 check:=fun e a w=>by
  show(Instr.checkKey e (9999+1) kt _).run P w=_
  rw[Instr.checkKey]
  simp[bG hu,str]
 find:=fun es ks a w h=>by
  have key: ∀(es:List MapEntry) (ks:List (List UInt8)) (i:Nat),es.map (·.key)=ks.map str→Instr.findNow .string (str a) es i=some (lC a ks es i):=by
   intro es
   induction es with
   |nil=>intro ks i h;cases ks<;>simp_all[Instr.findNow,lC]
   |cons e es ih=>
    intro ks i h
    cases ks with
    |nil=>simp at h
    |cons b ks=>
     simp only[cJ,List.cons.injEq]at h
     simp only[Instr.findNow,h.1,Instr.sameNow,str,Jw,lC]
     by_cases e:a=b
     ·simp[e]
     ·have:=ih ks (i+1) h.2
      simp only[str]at this
      simp[e,this]
  simp[Instr.findKey,bG hu,key es ks 0 h]
theorem wZ {α:Type} [DecidableEq α] {a:α}: ∀(ks:List α) (es:List MapEntry) (i:Nat),a∉ks→lC a ks es i=none
 | [],_,_,_=>rfl
 |k::ks,[],_,_=>rfl
 |k::ks,e::es,i,h=>by
  simp only[dh,not_or]at h
  simp[lC,h.1,wZ ks es (i+1) h.2]
def l8 {α β:Type} [DecidableEq α] (a:α):List (α×β)→Option β
 | []=>none
 |q::l=>if a=q.1 then some q.2 else l8 a l
theorem w5 {α β:Type} [DecidableEq α] {K:α→Value} {V:β→Value} {a:α}: ∀(l:List (α×β)) (es:List MapEntry) (i:Nat),es.map (fun e=>(e.key,e.val))=l.map (fun q=>(K q.1,V q.2))→(lC a (l.map Prod.fst) es i).map Prod.snd=(l8 a l).map V
 | [],es,i,h=>by cases es<;>rfl
 |q::l,[],i,h=>by simp at h
 |q::l,e::es,i,h=>by
  simp only[cJ,List.cons.injEq,Prod.mk.injEq]at h
  simp only[cJ,lC,l8]
  by_cases e:a=q.1
  ·simp[e,h.1.2]
  ·simp only[e,if_false];exact w5 l es (i+1) h.2
theorem Fz {α β:Type} {K:α→Value} {V:β→Value} {es:List MapEntry} {l:List (α×β)} (h:es.map (fun e=>(e.key,e.val))=l.map (fun q=>(K q.1,V q.2))):es.map (·.key)=(l.map Prod.fst).map K:=by
 have:=ax (List.map Prod.fst) h
 simpa[Function.comp_def]using this
theorem qg {x:Operand} {T kt vt:TypeId} {m:Nat} {α β:Type} {K:α→Value} {V:β→Value} {l:List (α×β)} (hu:P.underlying T=some (.map kt vt)) (hx:ev ρ x=.map (some m)) (hO:dz K V m l∈O):
  QT P base ⟨dst,.call ⟨.builtin .len,#[x],#[T]⟩,t,p,af,g⟩ ρ O (.int .i64 (l.length:Int)):=fun w hI=>by
 obtain⟨es,yk,h1,h2,_⟩:=hI.holds _ hO
 have hl:es.size=l.length:=by have:=ax List.length h2;simpa using this
 simp[execOp,resolve,hx,invoke,builtin,Builtin.len_,bG hu,getObj,Sem.run,h1,goInt,hl]
theorem w6 {T kt vt:TypeId} {m:Nat} {α β:Type} [DecidableEq α] {K:α→Value} {V:β→Value} {l:List (α×β)} {z:Value} {s gQ:Nat} {w:World} (hu:P.underlying T=some (.map kt vt)) (hz:fP P vt z s gQ) (hk:gh P kt K) (h:RC K V m l w) (a:α) (ok:Bool):
  (Instr.lookup T (.map (some m)) (K a) ok).run P w=.ok (if ok then .tuple #[((l8 a l).map V).getD z,.bool (l8 a l).isSome]else((l8 a l).map V).getD z) w:=by
 obtain⟨es,yk,h1,h2,h3,h4⟩:=h
 have hf:=hk.find es.toList (l.map Prod.fst) a w (Fz h2)
 have hl:=w5 (a:=a) l es.toList 0 h2
 have hg:(getObj m).run P w=.ok (.map es yk) w:=by simp[getObj,Sem.run,h1]
 simp only[Instr.lookup,Sem.run_bind,bG hu,Result.andThen_ok,hg,Sem.run_pure,hk.check,hf]
 cases e:lC a (l.map Prod.fst) es.toList 0 with
 |none=>
  rw[e]at hl
  have:l8 a l=none:=by cases e2:l8 a l with|none=>rfl|some v=>rw[e2]at hl;cases hl
  simp[gM hz,this]
 |some q=>
  rw[e]at hl
  obtain⟨i,v⟩:=q
  cases e2:l8 a l with
  |none=>rw[e2]at hl;cases hl
  |some u=>
   rw[e2]at hl
   simp at hl
   simp[hl]
theorem kY {x y:Operand} {T kt vt:TypeId} {m:Nat} {α β:Type} [DecidableEq α] {K:α→Value} {V:β→Value} {l:List (α×β)} {z:Value} {s gQ:Nat} {a:α} (hu:P.underlying T=some (.map kt vt)) (hz:fP P vt z s gQ) (hk:gh P kt K)
  (hx:ev ρ x=.map (some m)) (hy:ev ρ y=K a) (hO:dz K V m l∈O):QT P base ⟨dst,.lookup T x y false,t,p,af,g⟩ ρ O (((l8 a l).map V).getD z):=fun w hI=>by
 have:=w6 hu hz hk (hI.holds _ hO) a false
 simp[execOp,hx,hy,this]
theorem jK {x y:Operand} {T kt vt:TypeId} {m:Nat} {α β:Type} [DecidableEq α] {K:α→Value} {V:β→Value} {l:List (α×β)} {z:Value} {s gQ:Nat} {a:α} (hu:P.underlying T=some (.map kt vt)) (hz:fP P vt z s gQ) (hk:gh P kt K)
  (hx:ev ρ x=.map (some m)) (hy:ev ρ y=K a) (hO:dz K V m l∈O):QT P base ⟨dst,.lookup T x y true,t,p,af,g⟩ ρ O (.tuple #[((l8 a l).map V).getD z,.bool (l8 a l).isSome]):=fun w hI=>by
 have:=w6 hu hz hk (hI.holds _ hO) a true
 simp[execOp,hx,hy,this]
end
section
variable {P:Program} {r:Option Nat} {base:World} {n:Nat} {ρ:Env} {O:List Item} {K':Env→List Item→Prop} {d:Nat} {t:TypeId} {p:String} {af:Array Edge} {g:Option (Nat×Bool)}
theorem lM {T:TypeId} {α β:Type} (K:α→Value) (V:β→Value) (h: ∀m,K' (o6 ρ d (.map (some m))) (dz K V m []::O)) (hn:Nat.blt d n=true:=by rfl):LT P r base n ⟨some d,.makeMap T none,t,p,af,g⟩ ρ O K':=
 ji hn fun w M hI=>⟨.map (some w.heap.size),w.alloc (.map #[] 0),_,by simp[execOp,Instr.makeMap],by
  refine Inv.new (O:=O++M) (N:=[dz K V w.heap.size []]) (w':=w.alloc (.map #[] 0)) hI F F F (by simp) (fun b hb=>Below.heap_alloc w _ b hb) ?_ ?_ (by simp[dz])
  ·intro x hx
   simp at hx;subst hx
   exact⟨#[],0,by show(w.heap.push _)[w.heap.size]? =_;simp,F,by simp,by simp⟩
  ·intro x hx b hb
   simp at hx;subst hx
   simp[dz]at hb;subst hb
   simp,h _⟩
theorem FA {T kt vt:TypeId} {m:Nat} {α β:Type} [DecidableEq α] {K:α→Value} {V:β→Value} {l:List (α×β)} {w:World} {a:α} {v:β} (hu:P.underlying T=some (.map kt vt)) (hk:gh P kt K) (h:RC K V m l w) (w7:a∉l.map Prod.fst):
  ∃es yk,(Instr.mapUpdate T (.map (some m)) (K a) (V v)).run P w=.ok () (jS w m (.map es yk))∧es.toList.map (fun e=>(e.key,e.val))=((l++[(a,v)]).map fun q=>(K q.1,V q.2))∧(es.toList.map (·.born)).Nodup∧ ∀e∈es.toList,e.born<yk:=by
 obtain⟨es,yk,h1,h2,h3,h4⟩:=h
 have hf:=hk.find es.toList (l.map Prod.fst) a w (Fz h2)
 rw[wZ _ _ _ w7]at hf
 have hg:(getObj m).run P w=.ok (.map es yk) w:=by simp[getObj,Sem.run,h1]
 have hs: ∀o,(setObj m o).run P w=.ok () (jS w m o):=fun o=>by simp[setObj,Sem.run,h1,jS]
 refine⟨es.push {key:=K a,val:=V v,born:=yk},yk+1,?_,by simp[h2],?_,?_⟩
 rotate_left
 ·simp only[Array.toList_push,bm,cJ,fQ,List.nodup_append]
  refine⟨h3,by simp,fun x hx y hy e=>?_⟩
  obtain⟨z,hz,rfl⟩:=List.mem_map.1 hx
  simp at hy;have:=h4 z hz;omega
 ·intro e he
  simp only[Array.toList_push,gR,c_]at he
  rcases he with he|rfl
  ·have:=h4 e he;omega
  ·simp
 simp only[Instr.mapUpdate,Sem.run_bind,bG hu,Result.andThen_ok,hg,hk.check,hf,hs]
theorem Inv.Jx {w:World} {M:List Item} {α β:Type} {K:α→Value} {V:β→Value} {m i:Nat} {l l':List (α×β)} (hI:Inv base (O++M) w) (hO:O[i]? =some (dz K V m l)) {es:Array MapEntry} {yk:Nat} (h:es.toList.map (fun e=>(e.key,e.val))=(l'.map fun q=>(K q.1,V q.2))∧(es.toList.map (·.born)).Nodup∧ ∀e∈es.toList,e.born<yk):
  Inv base (O.set i (dz K V m l')++M) (jS w m (.map es yk)):=by
 obtain⟨es0,adO,h1,_,_⟩:=hI.holds (dz K V m l) (aT _ (bQ hO))
 have gn:=(Array.getElem?_eq_some_iff.1 h1).1
 rw[←o9 hO]
 exact hI.rY (mZ hO) F F F (by rw[um];exact bF _) (fun k _ hk=>r_ (fun e=>hk (by simp[dz,e]))) ⟨es,yk,lL gn,h⟩ (fun k hk=>.inl hk) (by simp[dz])
theorem qh (i:Nat) {x y z:Operand} {T kt vt:TypeId} {m:Nat} {α β:Type} [DecidableEq α] {K:α→Value} {V:β→Value} {l:List (α×β)} {a:α} {v:β} (hu:P.underlying T=some (.map kt vt)) (hk:gh P kt K) (hx:ev ρ x=.map (some m)) (hy:ev ρ y=K a) (hz:ev ρ z=V v)
  (hO:O[i]? =some (dz K V m l)) (w7:a∉l.map Prod.fst) (h:K' ρ (O.set i (dz K V m (l++[(a,v)])))):LT P r base n ⟨none,.mapUpdate T x y z,t,p,af,g⟩ ρ O K':=
 mC fun w M hI=>by
  obtain⟨es,yk,hr,Zl⟩:=FA (v:=v) hu hk (hI.holds (dz K V m l) (aT _ (bQ hO))) w7
  exact⟨jS w m (.map es yk),_,by simp[execOp,hx,hy,hz,hr],hI.Jx hO Zl,h⟩
theorem fY (i:Nat) {x y z:Operand} {T kt vt:TypeId} {m:Nat} {α β:Type} [DecidableEq α] {K:α→Value} {V:β→Value} {l:List (α×β)} {a:α} {v:β} (hu:P.underlying T=some (.map kt vt)) (hk:gh P kt K) (hx:ev ρ x=.map (some m)) (hy:ev ρ y=K a) (hz:ev ρ z=V v)
  (hO:O[i]? =some (dz K V m l)) (w7:a∉l.map Prod.fst) (h:K' ρ (O.set i (dz K V m (l++[(a,v)])))):LT P r base n ⟨none,.insert T x y z,t,p,af,g⟩ ρ O K':=
 mC fun w M hI=>by
  obtain⟨es,yk,hr,Zl⟩:=FA (v:=v) hu hk (hI.holds (dz K V m l) (aT _ (bQ hO))) w7
  exact⟨jS w m (.map es yk),_,by simp[execOp,hx,hy,hz,hr],hI.Jx hO Zl,h⟩
end
end Go.Lx

namespace Go.Lx
open Go.RowKit
section
variable {P:Program} {base:World} {ρ:Env} {O:List Item} {dst:Option Nat} {t:TypeId} {p:String} {af:Array Edge} {g:Option (Nat×Bool)}
end
section
variable {P:Program} {r:Option Nat} {base:World} {n:Nat} {ρ:Env} {O:List Item} {K:Env→List Item→Prop} {d:Nat} {t:TypeId} {p:String} {af:Array Edge} {g:Option (Nat×Bool)}
theorem Src.str {s:List UInt8} {m:Nat} (hl:s.length=m):Src P base O 1 m (str s) (di s):=
 ⟨by simp[hl],fun w=>by
  have e:(ByteArray.mk s.toArray).size=m:=by show s.toArray.size=_;simp[hl]
  simp[Lx.str,Builtin.lenOf,e],fun w _=>by
  subst hl
  have e:(ByteArray.mk s.toArray).extract 0 s.length=ByteArray.mk s.toArray:=by
   have:=ByteArray.extract_zero_size (b:=ByteArray.mk s.toArray)
   simpa[ByteArray.size]using this
  simp[Lx.str,Builtin.firstCells,e,di]⟩
theorem zk {T U E:TypeId} {b:Option Addr} {m c l gQ:Nat} {x y:Operand} {z:Value} {cs:List Value} {s:List UInt8} (j:Nat)
  (hu:P.underlying T=some (.slice E)) (Nu:P.underlying U=some .string) (hi:fP P E z 1 gQ) (hz:z.cells.size=1)
  (hx:ev ρ x=.slice b m c) (hy:ev ρ y=str s) (hO:O[j]? =some (aq b c E 1 cs)) (hl:cs.length=m) (hs:s.length=l)
  (sR:(m+l)*gQ≤70368744177664) (PL:gQ≤1000000) (Ho:0<gQ)
  (h: ∀b' c',K (o6 ρ d (.slice b' (m+l) c')) (O.set j (aq b' c' E 1 (cs++di s)))) (hn:Nat.blt d n=true:=by rfl):
  LT P r base n ⟨some d,.call ⟨.builtin .append,#[x,y],#[T,U]⟩,t,p,af,g⟩ ρ O K:=
 ji hn fun w M hI=>by
  obtain⟨b',c',w',hr,n5⟩:=se (ty:=t) hu Nu (.inr F) hi hz (mZ hO) (by simpa using hl) (by decide) (Src.pG (Src.str hs)) (wY s) sR PL Ho hI
  rw[o9 hO]at n5
  refine⟨_,w',_,?_,n5,h b' c'⟩
  simp[execOp,resolve,hx,hy,invoke,builtin,hr]
end
theorem bK {P:Program} {base:World} {o:Oper} {ρ:Env} {O:List Item} {v v':Value} (h:QT P base o ρ O v) (e:v=v'):QT P base o ρ O v':=e▸h
def dW (b:Option Addr) (i:Nat):Value:=.pointer (b.map fun a=>⟨a.block,a.off+i,none⟩)
theorem aL {base:World} {O:List Item} {b:Option Addr} {cs:List Value} (h:Sl base b cs): ∀w,Inv base O w→Sl w b cs:=fun _ hI=>hI.sl h
theorem dR {base:World} {O:List Item} {b:Option Addr} {c k:Nat} {E:TypeId} {cs:List Value} (h:aq b c E k cs∈O): ∀w,Inv base O w→Sl w b cs:=fun _ hI=>hI.ii h
section
variable {P:Program} {base:World} {ρ:Env} {O:List Item} {dst:Option Nat} {t:TypeId} {p:String} {af:Array Edge} {g:Option (Nat×Bool)}
theorem dT {x y:Operand} {T E:TypeId} {b:Option Addr} {n c i:Nat} {kk:IntKind} {z:Value} {s gQ:Nat} {cs:List Value} (hu:P.underlying T=some (.slice E)) (hi:fP P E z s gQ) (hx:ev ρ x=.slice b n c) (hy:ev ρ y=.int kk (i:Int)) (hs: ∀w,Inv base O w→Sl w b cs) (gn:i<n) (hl:i*s<cs.length):
  QT P base ⟨dst,.indexAddr T x y,t,p,af,g⟩ ρ O (dW b (i*s)):=fun w hI=>by
 obtain⟨bk,o,rfl⟩:=(hs w hI).addr hl
 exact u5 hu hi hx hy gn w hI
theorem dU {x y:Operand} {T E:TypeId} {b:Option Addr} {n c i:Nat} {kk:IntKind} {z:Value} {gQ:Nat} {cs:List Value} (hu:P.underlying T=some (.slice E)) (hi:fP P E z 1 gQ) (hx:ev ρ x=.slice b n c) (hy:ev ρ y=.int kk (i:Int)) (hs: ∀w,Inv base O w→Sl w b cs) (gn:i<n:=by first|assumption|omega|(simp;omega)|simp_all) (hl:i<cs.length:=by first|omega|(simp;done)|(simp;omega)|(simp_all;done)|(simp_all;omega)):
  QT P base ⟨dst,.indexAddr T x y,t,p,af,g⟩ ρ O (dW b i):=by
 have:=dT (P:=P) (base:=base) (O:=O) (dst:=dst) (t:=t) (p:=p) (af:=af) (g:=g) hu hi hx hy hs gn (by simpa using hl)
 rwa[Nat.mul_one]at this
theorem FB {x y:Operand} {T E:TypeId} {b:Option Addr} {n c:Nat} {i:Int} {kk:IntKind} {z:Value} {gQ:Nat} {cs:List Value} (hu:P.underlying T=some (.slice E)) (hi:fP P E z 1 gQ) (hx:ev ρ x=.slice b n c) (hy:ev ρ y=.int kk i) (hs: ∀w,Inv base O w→Sl w b cs) (h0:0≤i) (gn:i.toNat<n) (hl:i.toNat<cs.length):
  QT P base ⟨dst,.indexAddr T x y,t,p,af,g⟩ ρ O (dW b i.toNat):=
 dU hu hi hx (by rw[hy,cR h0]) hs gn hl
theorem de {x:Operand} {T:TypeId} {d:TypeDesc} {b:Option Addr} {i:Nat} {cs:List Value} {v:Value} (hu:P.underlying T=some d) (ha:og d=false) (hx:ev ρ x=dW b i)
  (hs: ∀w,Inv base O w→Sl w b cs) (hv:cs[i]? =some v):QT P base ⟨dst,.load T x,t,p,af,g⟩ ρ O v:=fun w hI=>by
 obtain⟨hi,_⟩:=List.getElem?_eq_some_iff.1 hv
 obtain⟨bk,o,rfl⟩:=(hs w hI).addr hi
 exact qa hu ha hx (fun w hI=>(hs w hI).get hv) w hI
theorem eO {x:Operand} {T:TypeId} {d:TypeDesc} {b:Option Addr} {i:Nat} {cs vs:List Value} {z:Value} {s gQ:Nat} (hu:P.underlying T=some d) (ha:og d=true) (hi:fP P T z s gQ) (hx:ev ρ x=dW b i) (hl:vs.length=s) (Ht:0<vs.length)
  (hs: ∀w,Inv base O w→Sl w b cs) (hv: ∀j (h:j<vs.length),cs[i+j]? =some vs[j]):QT P base ⟨dst,.load T x,t,p,af,g⟩ ρ O (.agg vs.toArray):=fun w hI=>by
 obtain⟨h0,_⟩:=List.getElem?_eq_some_iff.1 (hv 0 Ht)
 obtain⟨bk,o,rfl⟩:=(hs w hI).addr (i:=i) (by omega)
 exact wT hu ha hi hx hl (fun w hI j hj=>by have:=(hs w hI).get (hv j hj);rwa[←Nat.add_assoc]at this) w hI
theorem cy {x:Operand} {S:TypeId} {fs:Array Field} {i:Nat} {f:Field} {b:Option Addr} {o:Nat} {z:Value} {s gQ:Nat} {cs:List Value} (hu:P.underlying S=some (.struct fs)) (hf:fs[i]? =some f) (hi:fP P f.type z s gQ) (hs:(s==0)=false)
  (hx:ev ρ x=dW b o) (MT: ∀w,Inv base O w→Sl w b cs) (ho:o<cs.length):QT P base ⟨dst,.fieldAddr S x i,t,p,af,g⟩ ρ O (dW b (o+f.offset)):=fun w hI=>by
 obtain⟨bk,o',rfl⟩:=(MT w hI).addr ho
 have:=a_ (P:=P) (base:=base) (O:=O) (dst:=dst) (t:=t) (p:=p) (af:=af) (g:=g) hu hf hi hs (b:=bk) (o:=o'+o) hx w hI
 rw[this];simp[dW,Nat.add_assoc]
end
section
variable {P:Program} {r:Option Nat} {base:World} {n:Nat} {ρ:Env} {O:List Item} {K:Env→List Item→Prop} {d:Nat} {t:TypeId} {p:String} {af:Array Edge} {g:Option (Nat×Bool)}
theorem ol (i:Nat) {T E:TypeId} {x y:Operand} {b:Option Addr} {j c k:Nat} {v:Value} {vs cs:List Value} {z:Value} {s gQ:Nat} (hi:fP P T z s gQ) (hx:ev ρ x=dW b j) (hy:ev ρ y=v) (hv:v.cells=vs.toArray) (hl:vs.length=s) (ho:(vs.all fa)=true) (hs:0<vs.length)
  (hO:O[i]? =some (aq b c E k cs)) (hr:j+vs.length≤cs.length)
  (h:K ρ (O.set i (aq b c E k (fh cs j vs)))):LT P r base n ⟨none,.store T x y,t,p,af,g⟩ ρ O K:=fun a w M ds ha hI=>by
 obtain⟨bk,o,rfl⟩:=(hI.left.ii (bQ hO)).addr (i:=j) (by omega)
 exact BL i hi hx hy hv hl ho hO hr h a w M ds ha hI
end
def eL (q:Int×Int):Value:=.agg #[.int .i64 q.1,.int .i64 q.2]
theorem rI {P:Program} {T:TypeId} {k:IntKind} (h:P.underlying T=some (.int k)) (d:Nat) (a b:Int) (w:World):(Op.equalIn (d+1) T (.int .i64 a) (.int .i64 b)).run P w=.ok (a==b) w:=by
 rw[Op.equalIn]
 simp[bG h]
structure FC (P:Program) (kt:TypeId) (f1 f2:Field):Prop where
 under:P.underlying kt=some (.struct #[f1,f2])
 u1:P.underlying f1.type=some (.int .i64)
 u2:P.underlying f2.type=some (.int .i64)
 o1:f1.offset=0
 o2:f2.offset=1
 n1:f1.name≠ "_"
 n2:f2.name≠ "_"
 held:P.stoodInHeld kt=false
theorem FC.equal {P:Program} {kt:TypeId} {f1 f2:Field} (h:FC P kt f1 f2) (a b:Int×Int) (w:World):(Op.equal kt (eL a) (eL b)).run P w=.ok (decide (a=b)) w:=by
 show(Op.equalIn (9998+1+1) kt (eL a) (eL b)).run P w=_
 rw[Op.equalIn]
 have Un: ∀(c:Int×Int),(part f1.type #[.int .i64 c.1,.int .i64 c.2] f1.offset).run P w=.ok (.int .i64 c.1) w:=fun c=>by
  simp[part,jm h.u1,og,h.o1]
 have zl: ∀(c:Int×Int),(part f2.type #[.int .i64 c.1,.int .i64 c.2] f2.offset).run P w=.ok (.int .i64 c.2) w:=fun c=>by
  simp[part,jm h.u2,og,h.o2]
 simp[bG h.under,eL,h.held,h.n1,h.n2,Un,zl,rI h.u1,rI h.u2]
 by_cases e1:a.1=b.1
 ·by_cases e2:a.2=b.2
  ·have:a=b:=by cases a;cases b;simp_all
   simp[e1,e2,this]
  ·have: ¬a=b:=fun e=>e2 (by rw[e])
   simp[e1,e2,this]
 ·have: ¬a=b:=fun e=>e1 (by rw[e])
  simp[e1,this]
theorem jU {P:Program} {kt:TypeId} {f1 f2:Field} (h:FC P kt f1 f2):gh P kt eL where
 check:=fun e a w=>by
  show(Instr.checkKey e (9998+1+1) kt _).run P w=_
  rw[Instr.checkKey]
  have Un: ∀(c:Int×Int),(part f1.type #[.int .i64 c.1,.int .i64 c.2] f1.offset).run P w=.ok (.int .i64 c.1) w:=fun c=>by
   simp[part,jm h.u1,og,h.o1]
  have zl: ∀(c:Int×Int),(part f2.type #[.int .i64 c.1,.int .i64 c.2] f2.offset).run P w=.ok (.int .i64 c.2) w:=fun c=>by
   simp[part,jm h.u2,og,h.o2]
  have hk: ∀(tt:TypeId) (v:Int),P.underlying tt=some (.int .i64)→(Instr.checkKey e (9998+1) tt (.int .i64 v)).run P w=.ok () w:=fun tt v hu=>by
   rw[Instr.checkKey];simp[bG hu]
  simp[bG h.under,eL,h.n1,h.n2,Un,zl,hk _ _ h.u1,hk _ _ h.u2]
 find:=fun es ks a w om=>by
  have ask: ∀(es:List MapEntry) (ks:List (Int×Int)) (i:Nat),es.map (·.key)=ks.map eL→(Instr.findAsking kt (eL a) es i).run P w=.ok (lC a ks es i) w:=by
   intro es
   induction es with
   |nil=>intro ks i h;cases ks<;>simp_all[Instr.findAsking,lC]
   |cons e es ih=>
    intro ks i hh
    cases ks with
    |nil=>simp at hh
    |cons b ks=>
     simp only[cJ,List.cons.injEq]at hh
     simp only[Instr.findAsking,hh.1,Sem.run_bind,h.equal,Result.andThen_ok,lC]
     by_cases e:a=b
     ·simp[e]
     ·simp[e,ih ks (i+1) hh.2]
  have key: ∀(es:List MapEntry) (ks:List (Int×Int)),es.map (·.key)=ks.map eL→Instr.findNow (.struct #[f1,f2]) (eL a) es 0=some (lC a ks es 0)∨Instr.findNow (.struct #[f1,f2]) (eL a) es 0=none:=by
   intro es ks hh
   cases es with
   |nil=>left;cases ks<;>simp_all[Instr.findNow,lC]
   |cons e es=>right;simp[Instr.findNow,Instr.sameNow]
  rcases key es ks om with hk|hk
  ·simp[Instr.findKey,bG h.under,hk]
  ·simp[Instr.findKey,bG h.under,hk,ask es ks 0 om]
@[reducible] def aD (n:Nat):Option Addr:=some ⟨n,0,none⟩
@[reducible] def nS:Value:=.slice none 0 0
@[reducible] def vI (v:Int):Value:=.int .i64 v
@[reducible] def vN (n:Nat):Value:=.int .i64 (n:Int)
@[reducible] def v8 (n:Nat):Value:=.int .u8 (n:Int)
section
variable {X:PX} {P:Program} {r:Option Nat} {base:World} {n:Nat} {ρ:Env} {O:List Item} {ops:Array Oper} {l:List Oper} {K:Env→List Item→Prop} {t:TypeId} {p:String} {af:Array Edge}
theorem ah {d:Nat} {x:Operand} {v:Value} (h:ev ρ x=v) (hk:TO X P r base n ops l K (o6 ρ d v) O) (hn:Nat.blt d n=true:=by rfl):TO X P r base n ops (⟨some d,.move x,t,p,af,none⟩::l) K ρ O:=ad (aN h) hk hn
theorem aj {d:Nat} {x:Operand} {v:Value} (h:ev ρ x=v) (hk:TO X P r base n ops l K (o6 ρ d v) O) (hn:Nat.blt d n=true:=by rfl):TO X P r base n ops (⟨some d,.assign x,t,p,af,none⟩::l) K ρ O:=ad (cx h) hk hn
theorem mG {α:Type} {l:List α} {a:α} (i:Nat) (h:l[i]? =some a):a∈l:=bQ h
theorem gW {O' O:List Item} (D:List Item) (h: ∀a,Lx.v7 a (O'++D)=Lx.v7 a O:=by intro a;simp+zetaDelta only[cd,oI,List.set_cons_zero,List.set_cons_succ,fh,cI,dn,c7,aI,bm,cJ,fQ,pe,oh,Fy,vI,nS,aD]<;>omega):Sub O' O:=Sub.v7 D h
theorem aG {d j tj:Nat} {want:Bool} {op:Op} {v:Value} (hj:(ops[j]?).bind (·.dst)=some tj) (hw:ρ tj=.bool want) (h:QT P base ⟨some d,op,t,p,af,some (j,want)⟩ ρ O v) (hk:TO X P r base n ops l K (o6 ρ d v) O) (hn:Nat.blt d n=true:=by rfl):TO X P r base n ops (⟨some d,op,t,p,af,some (j,want)⟩::l) K ρ O:=iD F hj hw (d_ F hn h hk)
theorem na (is:List Nat) {f:FuncId} {args:List Value} {A B O:List Item} {R:Value→List Item→Prop} (h:bW P base f args A R) (hA:wW is O=A:=by rfl) (hB:zi is O=B:=by simp only[zi,s5,cd,oI,List.set_cons_zero,List.set_cons_succ,fh,cI,dn,c7];rfl):bW P base f args O (fun v O'=> ∃A',O'=A'++B∧R v A'):=
 bW.under h (by subst hA hB;exact⟨_,q5 is O,aZ _⟩)
end
section
variable {P:Program} {r:Option Nat} {base:World} {n:Nat} {ρ:Env} {O:List Item} {Q:kP} {K:Env→List Item→Prop} {t:TypeId} {p:String} {af:Array Edge} {g:Option (Nat×Bool)}
theorem ai {id:Nat} {l:List Oper} {y:Code} (h:TO (fun c=> ∀ρ,Jl (fun ρ O=>T P r base n y Q ρ O) Q (.panic c) ρ []) P r base n l.toArray l (fun ρ O=>Jl (fun ρ O=>T P r base n y Q ρ O) Q .normal ρ O) ρ O):T P r base n (.seq (.region id l.toArray false) y) Q ρ O:=aM (a7 h)
theorem fD (l:List (Nat×Nat)) {id:Nat} {ops:Array Oper} (h:DO (fun c=> ∀ρ,Q (.panic c) ρ []) P r base n ops O (nV l) [] (lX l) l (fun ρ O=>Q .normal ρ O) ρ O) (hm:P.follows .mixedOrders=true:=by exact mixed) (hB:wR ops l=true:=by first|exact w_ (by kernel_rfl)|kernel_rfl) (hp: ∀c ρ gV O,Q (.panic c) ρ O→Q (.panic c) gV O:=by exact fun _ _ _ _ h=>h):T P r base n (.region id ops true) Q ρ O:=y9 O l hm hB (cj (aZ _)) hp h
theorem T.ds (S:List Item) (l:List (Nat×Nat)) {id:Nat} {ops:Array Oper} (hS:Sub S O) (h:DO (fun c=> ∀ρ,Q (.panic c) ρ []) P r base n ops S (nV l) [] (lX l) l (fun ρ O=>Q .normal ρ O) ρ O) (hm:P.follows .mixedOrders=true:=by exact mixed) (hB:wR ops l=true:=by first|exact w_ (by kernel_rfl)|kernel_rfl) (hp: ∀c ρ gV O,Q (.panic c) ρ O→Q (.panic c) gV O:=by exact fun _ _ _ _ h=>h):T P r base n (.region id ops true) Q ρ O:=y9 S l hm hB hS hp h
theorem bN (i:Nat) {T E:TypeId} {x y:Operand} {b o:Nat} {v:Value} {vs cs:List Value} {z:Value} {s gQ:Nat} (hi:fP P T z s gQ) (hx:ev ρ x=.pointer (some ⟨b,o,none⟩)) (hy:ev ρ y=v) (hv:v.cells=vs.toArray)
  (hO:O[i]? =some (dF b (.cells cs.toArray E (0,0)))) (h:K ρ (O.set i (dF b (.cells (fh cs o vs).toArray E (0,0))))) (hl:vs.length=s:=by rfl) (ho:(vs.all fa)=true:=by rfl) (hr:o+vs.length≤cs.length:=by simp[fh]):LT P r base n ⟨none,.store T x y,t,p,af,g⟩ ρ O K:=vJ i hi hx hy hv hl ho hO hr h
end
end Go.Lx

namespace Go.Lx
open Go.Lib
theorem jV {u:Nat} (h:u<10):decDigits u=[UInt8.ofNat (48+u)]:=by rw[decDigits,dif_pos h]
theorem nK {u:Nat} (h: ¬u<10):decDigits u=decDigits (u/10)++[UInt8.ofNat (48+u%10)]:=by rw[decDigits,dif_neg h]
theorem xf (u:Nat):decDigits u≠ []:=by
 by_cases h:u<10
 ·rw[jV h];simp
 ·rw[nK h];simp
theorem jj {k:Nat} (h:k<10):(UInt8.ofNat (48+k)).toNat=48+k:=by
 rw[UInt8.toNat_ofNat'];omega
theorem q8 (u:Nat): ∀b∈decDigits u,48≤b.toNat∧b.toNat<58:=by
 induction u using Nat.strongRecOn with
 |_ u ih=>
  by_cases h:u<10
  ·rw[jV h];intro b hb;rw[c_]at hb;subst hb;rw[jj h];omega
  ·rw[nK h]
   intro b hb
   rcases List.mem_append.1 hb with hb|hb
   ·exact ih (u/10) (by omega) b hb
   ·rw[c_]at hb;subst hb;rw[jj (by omega)];omega
theorem pg: ∀(a b:Nat),decDigits a=decDigits b→a=b:=by
 intro a
 induction a using Nat.strongRecOn with
 |_ a ih=>
  intro b h
  by_cases ha:a<10
  ·by_cases hb:b<10
   ·rw[jV ha,jV hb]at h
    have:=ax UInt8.toNat (List.cons.inj h).1
    rw[jj ha,jj hb]at this
    omega
   ·rw[jV ha,nK hb]at h
    have h1:=ax List.length h
    have h2:0<(decDigits (b/10)).length:=List.length_pos_iff.2 (xf _)
    simp only[aw,bo,bV]at h1;omega
  ·by_cases hb:b<10
   ·rw[nK ha,jV hb]at h
    have h1:=ax List.length h
    have h2:0<(decDigits (a/10)).length:=List.length_pos_iff.2 (xf _)
    simp only[aw,bo,bV]at h1;omega
   ·rw[nK ha,nK hb]at h
    obtain⟨h1,h2⟩:=List.append_inj' h F
    have e1:=ih (a/10) (by omega) (b/10) h1
    have e2:=ax UInt8.toNat (List.cons.inj h2).1
    rw[jj (by omega),jj (by omega)]at e2
    omega
def jB:List Nat→List UInt8
 | []=>[]
 |n::l=>32::(decDigits n++jB l)
def iX (a:Nat) (l:List Nat):List UInt8:=decDigits a++jB l
theorem AA (l:List Nat) (n:Nat):jB (l++[n])=jB l++32::decDigits n:=by
 induction l with
 |nil=>simp[jB]
 |cons a l ih=>simp[jB,ih]
theorem mE (u:Nat):(32:UInt8)∉decDigits u:=fun h=>by have:=q8 u 32 h;simp at this
theorem qj: ∀ {x y:List UInt8} {a b:List Nat},(32:UInt8)∉x→(32:UInt8)∉y→x++jB a=y++jB b→x=y∧jB a=jB b
 | [],[],a,b,_,_,h=>⟨F,by simpa using h⟩
 | [],c::y,a,b,_,hy,h=>by
  cases a with
  |nil=>simp[jB]at h
  |cons n a=>simp only[jB,dn,cI,List.cons.injEq]at h;exact(hy (by simp[←h.1])).elim
 |c::x,[],a,b,hx,_,h=>by
  cases b with
  |nil=>simp[jB]at h
  |cons n b=>simp only[jB,dn,cI,List.cons.injEq]at h;exact(hx (by simp[h.1])).elim
 |c::x,c'::y,a,b,hx,hy,h=>by
  simp only[cI,List.cons.injEq]at h
  simp only[dh,not_or]at hx hy
  obtain⟨h1,h2⟩:=qj hx.2 hy.2 h.2
  exact⟨by rw[h.1,h1],h2⟩
theorem zm: ∀ {l m:List Nat},jB l=jB m→l=m
 | [],[],_=>rfl
 | [],b::m,h=>by simp[jB]at h
 |a::l,[],h=>by simp[jB]at h
 |a::l,b::m,h=>by
  simp only[jB,List.cons.injEq,true_and]at h
  obtain⟨h1,h2⟩:=qj (mE a) (mE b) h
  rw[pg a b h1,zm h2]
theorem JC {a b:Nat} {l m:List Nat} (h:iX a l=iX b m):a=b∧l=m:=by
 obtain⟨h1,h2⟩:=qj (mE a) (mE b) h
 exact⟨pg a b h1,zm h2⟩
theorem s_: ∀(k u:Nat),u<10^(k+1)→(decDigits u).length≤k+1
 |0,u,h=>by rw[jV (by simpa using h)];simp
 |k+1,u,h=>by
  by_cases h0:u<10
  ·rw[jV h0];simp
  ·rw[nK h0,aw]
   have:=s_ k (u/10) (by rw[Nat.pow_succ]at h;omega)
   simp only[bo,bV]
   omega
end Go.Lx

namespace Go.Lx
section
variable {α:Type} [DecidableEq α]
def ix (x:α):List α→Nat
 | []=>0
 |k::ks=>if x=k then 0 else ix x ks+1
theorem rO {x:α}: ∀ {ks:List α},x∈ks→ix x ks<ks.length
 |k::ks,h=>by
  simp only[ix]
  split
  ·simp
  ·rename_i e
   have:=rO ((List.mem_cons.1 h).resolve_left e)
   simp;omega
theorem pC {x:α}: ∀ {ks:List α},x∈ks→ks[ix x ks]? =some x
 |k::ks,h=>by
  simp only[ix]
  split
  ·rename_i e;simp[e]
  ·rename_i e
   simpa using pC ((List.mem_cons.1 h).resolve_left e)
theorem TS {x y:α} {ks:List α} (hx:x∈ks) (hy:y∈ks) (h:ix x ks=ix y ks):x=y:=by
 have h1:=pC hx
 rw[h,pC hy]at h1
 exact(df h1).symm
theorem lr {x:α} {ms:List α}: ∀ {ks:List α},x∈ks→ix x (ks++ms)=ix x ks
 |k::ks,h=>by
  simp only[cI,ix]
  split
  ·rfl
  ·rename_i e;rw[lr ((List.mem_cons.1 h).resolve_left e)]
theorem fS {x:α} {ms:List α}: ∀ {ks:List α},x∉ks→ix x (ks++ms)=ks.length+ix x ms
 | [],_=>by simp
 |k::ks,h=>by
  simp only[dh,not_or]at h
  simp only[cI,ix,h.1,if_false,fS h.2,bo]
  omega
def add (ks:List α) (k:α):List α:=if k∈ks then ks else ks++[k]
def dd (l:List α):List α:=l.foldl add []
theorem rv {ks:List α} {k x:α}:x∈add ks k↔x∈ks∨x=k:=by
 unfold add
 split
 ·rename_i h
  exact⟨.inl,fun h'=>h'.elim id (fun e=>e▸h)⟩
 ·simp
theorem mT {ks:List α} {k:α} (h:ks.Nodup):(add ks k).Nodup:=by
 unfold add
 split
 ·exact h
 ·rename_i hk
  rw[List.nodup_append]
  refine⟨h,by simp,fun a ha b hb e=>?_⟩
  simp at hb;subst hb;subst e;exact hk ha
theorem jM (ks:List α) (k:α):ks<+:add ks k:=by
 unfold add
 split
 ·exact List.prefix_refl _
 ·exact List.prefix_append _ _
theorem gH: ∀(l ks:List α),ks<+:l.foldl add ks
 | [],ks=>List.prefix_refl _
 |k::l,ks=>(jM ks k).trans (gH l (add ks k))
theorem uK (l m:List α):dd (l++m)=m.foldl add (dd l):=by simp[dd]
theorem Be (l:List α) (k:α):dd (l++[k])=add (dd l) k:=by simp[dd]
theorem j5 {l:List α} {x:α}:x∈dd l↔x∈l:=by
 have: ∀(l ks:List α),x∈l.foldl add ks↔x∈ks∨x∈l:=by
  intro l
  induction l with
  |nil=>intro ks;simp
  |cons k l ih=>intro ks;rw[cS,ih,rv,dh,or_assoc]
 rw[dd,this];simp
theorem ig {ks ms:List α} (h:ks<+:ms) {x:α} (hx:x∈ks):ix x ms=ix x ks:=by
 obtain⟨t,rfl⟩:=h
 exact lr hx
theorem li {x:α}: ∀(ks:List α) (i:Nat),l8 x (ks.zipIdx i)=if x∈ks then some (i+ix x ks)else none
 | [],i=>by simp[l8]
 |k::ks,i=>by
  simp only[List.zipIdx_cons,l8]
  by_cases e:x=k
  ·subst e;simp[ix]
  ·rw[az e,li ks (i+1)]
   by_cases h:x∈ks
   ·simp[h,e,ix];omega
   ·simp[h,e]
theorem mW (ks:List α) (i:Nat):(ks.zipIdx i).map Prod.fst=ks:=by
 induction ks generalizing i with
 |nil=>rfl
 |cons k ks ih=>simp[List.zipIdx_cons]
end
def gd (cs:List Nat) (r:List Int):List Nat:=r.map fun to=>cs.getD to.toNat 0
def xX (d:cU) (cs:List Nat) (s:Nat):List UInt8:=iX (cs.getD s 0) (gd cs (d.next.getD s []))
def jd (d:cU) (cs:List Nat):List (List UInt8):=(List.range d.next.length).map (xX d cs)
def iT (d:cU) (cs:List Nat):List Nat:=(jd d cs).map fun k=>ix k (dd (jd d cs))
theorem Dp (l:List UInt8):di (l++[32])=di l++[Value.int .u8 32]:=by simp
theorem IA {a j:Nat} {l:List Nat} (hj:j<l.length):iX a (l.take (j+1))=iX a (l.take j)++[32]++Lib.decDigits l[j]:=by
 rw[aH hj,iX,iX,AA];simp
theorem Ai: ∀ {l:List Nat},(∀x∈l,x<10000)→(jB l).length≤5*l.length
 | [],_=>by simp[jB]
 |a::l,h=>by
  have h1:=s_ 3 a (by have:=h a (by simp);omega)
  have h2:=Ai (l:=l) (fun x hx=>h x (by simp[hx]))
  simp only[jB,bo,aw]
  omega
theorem L2 {a:Nat} {l:List Nat} (ha:a<10000) (h: ∀x∈l,x<10000):(iX a l).length≤4+5*l.length:=by
 have h1:=s_ 3 a (by omega)
 have h2:=Ai h
 simp only[iX,aw]
 omega
theorem E6 {d:cU} {cs:List Nat} {k:Nat} (hk:k<d.next.length):(jd d cs).take (k+1)=(jd d cs).take k++[xX d cs k]:=by
 have hl:k<(jd d cs).length:=by simpa[jd]using hk
 rw[aH hl]
 simp[jd]
theorem Pd {d:cU} {cs:List Nat} {k:Nat} (hk:k<d.next.length) (hc:k<cs.length):xX d cs k=iX cs[k] (gd cs d.next[k]):=by
 simp[xX,hk,hc]
theorem Pc {cs:List Nat} (h: ∀x∈cs,x<10000) {r:List Int}: ∀x∈gd cs r,x<10000:=by
 intro x hx
 obtain⟨to,_,rfl⟩:=List.mem_map.1 hx
 rw[av]
 cases e:cs[to.toNat]? with
 |none=>simp
 |some y=>exact h y (bQ e)
theorem uJ {α:Type} [DecidableEq α] (l:List α):(dd l).length≤l.length:=by
 have: ∀(l ks:List α),(l.foldl add ks).length≤ks.length+l.length:=by
  intro l
  induction l with
  |nil=>intro ks;simp
  |cons k l ih=>
   intro ks
   have h1:=ih (add ks k)
   have h2:(add ks k).length≤ks.length+1:=by unfold add;split<;>simp
   simp only[cS,bo]
   omega
 simpa[dd]using this l []
theorem L4 {d:cU} {cs:List Nat} {k s:Nat} (hs:s<k) (hk:k≤d.next.length):xX d cs s∈(jd d cs).take k:=by
 rw[jd,←List.map_take]
 refine List.mem_map_of_mem ?_
 rw[List.take_range]
 simp;omega
theorem iL (cs:List Nat) (r:List Int):(gd cs r).length=r.length:=ar _
theorem DB {cs:List Nat} {r:List Int} {j:Nat} (hj:j<r.length) (h:r[j].toNat<cs.length):(gd cs r)[j]'(by rw[iL];exact hj)=cs[r[j].toNat]:=by
 simp[gd,h]
theorem L3 {cs:List Nat} {r:List Int} {a j:Nat} (hj:j<r.length) (h:r[j].toNat<cs.length):iX a ((gd cs r).take (j+1))=iX a ((gd cs r).take j)++[32]++Lib.decDigits cs[r[j].toNat]:=by
 rw[IA (by rw[iL];exact hj),DB hj h]
def mv (d:cU):List Nat:=(List.range d.next.length).map fun s=>if d.aY.getD s false≠d.aY.getD 0 false then 1 else 0
def ie (d:cU):Nat→List Nat
 |0=>mv d
 |i+1=>iT d (ie d i)
theorem fu (d:cU) (i:Nat):(ie d i).length=d.next.length:=by
 cases i<;>simp[ie,mv,iT,jd]
theorem Fi {d:cU} {cs:List Nat} {x:Nat} (h:x∈iT d cs):x<d.next.length:=by
 obtain⟨k,hk,rfl⟩:=List.mem_map.1 h
 have h1:=rO (j5.2 hk)
 have h2:=uJ (jd d cs)
 have h3:(jd d cs).length=d.next.length:=by simp[jd]
 omega
theorem L9 {d:cU} (hn:d.next.length<10000) (i:Nat): ∀x∈ie d i,x<10000:=by
 cases i with
 |zero=>
  intro x hx
  obtain⟨s,_,rfl⟩:=List.mem_map.1 hx
  split<;>omega
 |succ i=>intro x hx;have:=Fi hx;omega
theorem sG {d:cU} {i:Nat} (h:iT d (ie d i)=ie d i): ∀m,i≤m→ie d m=ie d i:=by
 intro m hm
 induction hm with
 |refl=>rfl
 |step _ ih=>rw[ie,ih,h]
def xu (tr:List UInt8→Nat→List UInt8) (L:Nat) (start:List UInt8):Nat→List (List UInt8)
 |0=>[start]
 |s+1=>((List.range L).map (tr ((xu tr L start s).getD s []))).foldl add (xu tr L start s)
def lj (tr:List UInt8→Nat→List UInt8) (L:Nat) (ks:List (List UInt8)) (s:Nat):List Int:=
 (List.range L).map fun x=>((ix (tr (ks.getD s []) x) ks:Nat):Int)
theorem ja {α:Type} [DecidableEq α] (f:Nat→α) (ks:List α) (x:Nat):((List.range (x+1)).map f).foldl add ks=add (((List.range x).map f).foldl add ks) (f x):=by
 rw[List.range_succ,bm,cO];rfl
theorem eC {α:Type} [DecidableEq α] {y:α}: ∀(l ks:List α),y∈l.foldl add ks↔y∈ks∨y∈l
 | [],ks=>by simp
 |k::l,ks=>by rw[cS,eC l,rv,dh,or_assoc]
theorem me {ks ms:List (List UInt8)} (h:ks<+:ms) {s:Nat} (hs:s<ks.length):ms.getD s []=ks.getD s []:=by
 obtain⟨t,rfl⟩:=h
 rw[av,av,bH hs]
structure qD (tr:List UInt8→Nat→List UInt8) (L:Nat) (ks:List (List UInt8)) (s:Nat) (rs:List (List Int)):Prop where
 len:rs.length=s
 le:s≤ks.length
 row: ∀i,i<s→rs[i]? =some (lj tr L ks i)
 mem: ∀i,i<s→ ∀x,x<L→tr (ks.getD i []) x∈ks
theorem Bl {tr:List UInt8→Nat→List UInt8} {L:Nat} {ks ms:List (List UInt8)} (h:ks<+:ms) {s:Nat} (hs:s<ks.length) (hm: ∀x,x<L→tr (ks.getD s []) x∈ks):lj tr L ms s=lj tr L ks s:=by
 unfold lj
 apply List.map_congr_left
 intro x hx
 rw[me h hs,ig h (hm x (List.mem_range.1 hx))]
theorem qD.snoc {tr:List UInt8→Nat→List UInt8} {L:Nat} {ks ms:List (List UInt8)} {s:Nat} {rs:List (List Int)} {ys:List Int} (h:qD tr L ks s rs) (hp:ks<+:ms) (hs:s<ks.length) (hy:ys=lj tr L ms s) (hm: ∀x,x<L→tr (ms.getD s []) x∈ms):qD tr L ms (s+1) (rs++[ys]):=by
 have Fw:=hp.length_le
 refine⟨by simp[h.len],by omega,fun i hi=>?_,fun i hi=>?_⟩
 ·by_cases e:i=s
  ·subst e;rw[bT (by rw[h.len];exact bF _),h.len,hy];simp
  ·rw[bH (by rw[h.len];omega),h.row i (by omega),Bl hp (by omega) (h.mem i (by omega))]
 ·by_cases e:i=s
  ·subst e;exact hm
  ·intro x hx
   rw[me hp (by omega)]
   exact hp.subset (h.mem i (by omega) x hx)
def GX (l:List UInt8):Nat:=l.foldl (fun a b=>a*10+(b.toNat-48)) 0
theorem uT (u:Nat):GX (Lib.decDigits u)=u:=by
 induction u using Nat.strongRecOn with
 |_ u ih=>
  by_cases h:u<10
  ·rw[jV h]
   show 0*10+((UInt8.ofNat (48+u)).toNat-48)=u
   rw[jj h];omega
  ·rw[nK h,GX,cO]
   have:=ih (u/10) (by omega)
   rw[GX]at this
   rw[this]
   show u/10*10+((UInt8.ofNat (48+u%10)).toNat-48)=u
   rw[jj (by omega)];omega
def fm (d:cU) (o x:Nat):Nat:=((d.next.getD o []).getD x 0).toNat
def DR (d:cU) (k:List UInt8) (x:Nat):List UInt8:=Lib.decDigits (fm d (GX k) x)
def mN (d:cU) (o:Nat):List Nat:=(List.range (2^d.vars.toNat)).map (fm d o)
def c8 (d:cU):Nat→List Nat
 |0=>[d.start.toNat]
 |s+1=>if s<(c8 d s).length then(mN d ((c8 d s).getD s 0)).foldl add (c8 d s)else c8 d s
def order (d:cU):List Nat:=c8 d d.next.length
def ei (d:cU):cU where
 vars:=d.vars
 start:=0
 next:=(order d).map fun o=>(mN d o).map fun t=>((ix t (order d):Nat):Int)
 aY:=(order d).map fun o=>d.aY.getD o false
theorem Val.gY {d:cU} (hv:Val d) {o x:Nat} (ho:o<d.next.length) (hx:x<2^d.vars.toNat):fm d o x<d.next.length∧ ∃h:o<d.next.length,∃sU:x<d.next[o].length,d.next[o][x]=(fm d o x:Int):=by
 have hl:d.next[o].length=2^d.vars.toNat:=hv.len _ (aQ ho)
 have sU:x<d.next[o].length:=by omega
 have h1:=hv.ok _ (aQ ho) _ (aQ sU)
 have e:fm d o x=d.next[o][x].toNat:=by simp[fm,ho,sU]
 exact⟨by omega,ho,sU,by omega⟩
theorem eT: ∀ {n:Nat} {l:List Nat},l.Nodup→(∀x∈l,x<n)→l.length≤n
 |0,l,_,hb=>by
  cases l with
  |nil=>simp
  |cons a l=>exact absurd (hb a (by simp)) (by omega)
 |n+1,l,h,hb=>by
  by_cases hn:n∈l
  ·have h1:=eT (n:=n) (h.erase n) fun x hx=>by
    have:=(List.Nodup.mem_erase_iff h).1 hx
    have:=hb x this.2
    omega
   rw[List.length_erase_of_mem hn]at h1
   omega
  ·have:=eT (n:=n) h fun x hx=>by
    have:=hb x hx
    have:x≠n:=fun e=>hn (e▸hx)
    omega
   omega
theorem GY {α β:Type} [DecidableEq α] [DecidableEq β] {f:α→β} (hf: ∀a b,f a=f b→a=b) (ks:List α) (k:α):(add ks k).map f=add (ks.map f) (f k):=by
 unfold add
 by_cases h:k∈ks
 ·rw[aO h,aO (List.mem_map_of_mem h)]
 ·rw[az h,az (fun hh=>by obtain⟨a,ha,e⟩:=List.mem_map.1 hh;exact h (hf _ _ e▸ha))]
  simp
theorem rR {α β:Type} [DecidableEq α] [DecidableEq β] {f:α→β} (hf: ∀a b,f a=f b→a=b): ∀(l ks:List α),(l.foldl add ks).map f=(l.map f).foldl add (ks.map f)
 | [],ks=>rfl
 |k::l,ks=>by rw[cS,rR hf l,GY hf,cJ,cS]
theorem GZ (d:cU): ∀(N:Nat),(∀i,i<N→i<(xu (DR d) (2^d.vars.toNat) (Lib.decDigits d.start.toNat) i).length)→
  xu (DR d) (2^d.vars.toNat) (Lib.decDigits d.start.toNat) N=(c8 d N).map Lib.decDigits
 |0,_=>rfl
 |N+1,h=>by
  have ih:=GZ d N fun i hi=>h i (by omega)
  have hN:=h N (by omega)
  rw[ih,ar]at hN
  rw[xu,ih,c8,aO hN,rR pg]
  congr 1
  rw[mN,List.map_map]
  apply List.map_congr_left
  intro x _
  have e:((c8 d N).map Lib.decDigits).getD N []=Lib.decDigits ((c8 d N).getD N 0):=by
   simp[hN]
  rw[e,DR,uT];rfl
theorem DC {d:cU} {N:Nat} (h:(c8 d N).length=N): ∀m,N≤m→c8 d m=c8 d N:=by
 intro m hm
 induction hm with
 |refl=>rfl
 | @step m hm ih=>
  have Y_:N≤m:=hm
  rw[c8,ih,az (by omega)]
theorem pZ {d:cU} {N:Nat} (h:(c8 d N).length=N) (hn:N≤d.next.length):order d=c8 d N:=DC h _ hn
theorem T5 (os:List Nat) (t:Nat):ix (Lib.decDigits t) (os.map Lib.decDigits)=ix t os:=by
 induction os with
 |nil=>rfl
 |cons o os ih=>
  simp only[cJ,ix,ih]
  by_cases e:t=o
  ·simp[e]
  ·rw[az e,az (fun h=>e (pg _ _ h))]
theorem vC: ∀ {a b:List Nat},a.map Lib.decDigits=b.map Lib.decDigits→a=b
 | [],[],_=>rfl
 | [],_::_,h=>by simp at h
 |_::_,[],h=>by simp at h
 |x::a,y::b,h=>by
  simp only[cJ,List.cons.injEq]at h
  rw[pg x y h.1,vC h.2]
theorem IB {d:cU} {os:List Nat} {N:Nat} (j6: ∀i,i<N→i<(xu (DR d) (2^d.vars.toNat) (Lib.decDigits d.start.toNat) i).length)
  (om:xu (DR d) (2^d.vars.toNat) (Lib.decDigits d.start.toNat) N=os.map Lib.decDigits) (iA:(xu (DR d) (2^d.vars.toNat) (Lib.decDigits d.start.toNat) N).length=N) (Fw:os.length≤d.next.length):os=order d∧os.length=N:=by
 have h1:os.length=N:=by rw[←iA,om,ar]
 have h2:os=c8 d N:=vC (by rw[←om,GZ d N j6])
 exact⟨by rw[pZ (N:=N) (by rw[←h2];exact h1) (by omega)];exact h2,h1⟩
theorem Mv {d:cU} {os:List Nat} {N:Nat} {rs:List (List Int)} (om:xu (DR d) (2^d.vars.toNat) (Lib.decDigits d.start.toNat) N=os.map Lib.decDigits) (hE:qD (DR d) (2^d.vars.toNat) (xu (DR d) (2^d.vars.toNat) (Lib.decDigits d.start.toNat) N) N rs) (ho:os=order d) (hN:os.length=N):rs=(ei d).next:=by
 apply List.ext_getElem?
 intro i
 by_cases hi:i<N
 ·rw[hE.row i hi,om]
  have vE:i<os.length:=by omega
  have e:(os.map Lib.decDigits).getD i []=Lib.decDigits os[i]:=by simp[vE]
  simp only[ei,bq,←ho,ap vE,Option.map_some,lj,e,DR,uT,mN,List.map_map]
  refine ax some (List.map_congr_left fun x _=>?_)
  simp only[Function.comp_def,T5]
 ·rw[bZ (by rw[hE.len];omega),bZ (by simp[ei,←ho];omega)]
def iS (d:cU) (cs:List Nat):Nat→List (List Int)×List Bool
 |0=>([],[])
 |k+1=>if cs.getD k 0<(iS d cs k).1.length then iS d cs k else
   ((iS d cs k).1++[(gd cs (d.next.getD k [])).map fun c:Nat=>(c:Int)],(iS d cs k).2++[d.aY.getD k false])
def quo (d:cU) (cs:List Nat):cU where
 vars:=d.vars
 start:=((cs.getD d.start.toNat 0:Nat):Int)
 next:=(iS d cs d.next.length).1
 aY:=(iS d cs d.next.length).2
theorem kU (d:cU) (cs:List Nat): ∀k,(iS d cs k).1.length=(iS d cs k).2.length∧(iS d cs k).1.length≤k
 |0=>by simp[iS]
 |k+1=>by
  have ih:=kU d cs k
  rw[iS]
  split
  ·exact⟨ih.1,by omega⟩
  ·simp;omega
end Go.Lx

