/- Contracts of functions of the program, and what they answer. Conditions: those each theorem names. -/
import Derived.Test.YtgdbfideeeegmaaGreatDoorA0
import Derived.Lib.ItoaNum
set_option linter.unusedSectionVars false
set_option linter.unusedSimpArgs false
set_option linter.unusedVariables false
set_option linter.unnecessarySimpa false
set_option maxHeartbeats 8000000
set_option maxRecDepth 20000
namespace Go.Lx
open Go.RowKit
def fu:Value→Bool
 | .agg _| .tuple _=>false
 |_=>true
def fe (cs:List Value):Nat→List Value→List Value
 |_,[]=>cs
 |o,v::vs=>fe (cs.set o v) (o+1) vs
theorem iz (vs:List Value): ∀(cs:List Value) (o:Nat),(fe cs o vs).length=cs.length:=by
 induction vs with
 |nil=>intro cs o;rfl
 |cons v vs ih=>intro cs o;simp[fe,ih]
theorem mO (vs:List Value): ∀(cs:List Value) (o i:Nat),o+vs.length≤cs.length→(fe cs o vs)[i]? =if o≤i∧i<o+vs.length then vs[i-o]? else cs[i]? :=by
 induction vs with
 |nil=>intro cs o i h;simp[fe];intro h1 h2;omega
 |cons v vs ih=>
  intro cs o i h
  simp only[fe,bL]at h⊢
  rw[ih _ _ _ (by simp;omega)]
  by_cases h1:o+1≤i∧i<o+1+vs.length
  ·rw[aR h1,aR (by omega)]
   have:i-o=(i-(o+1))+1:=by omega
   rw[this];simp
  ·rw[ay h1]
   by_cases h2:i=o
   ·subst h2
    rw[aR (by omega)]
    simp
    rw[List.getElem?_set_self (by omega)]
   ·rw[ay (by omega),List.getElem?_set_ne (by omega)]
def jL (w:World) (b:Nat) (o:Obj):World:= {w with heap:=w.heap.setIfInBounds b o}
theorem ly {w:World} {b:Nat} {o:Obj} (h:b<w.heap.size):(jL w b o).heap[b]? =some o:=by simp[jL,h]
theorem rY {w:World} {b k:Nat} {o:Obj} (h:k≠b):(jL w b o).heap[k]? =w.heap[k]? :=by simp[jL,Array.getElem?_setIfInBounds_ne (Ne.symm h)]
theorem uh {w:World} {b:Nat} {o:Obj}:(jL w b o).heap.size=w.heap.size:=by simp[jL]
theorem sS {w:World} {b o:Nat} {v:Value} {cs:List Value} {T:TypeId} {fr:Nat×Nat} (h:w.heap[b]? =some (.cells cs.toArray T fr)):w.setCell ⟨b,o,none⟩ v=jL w b (.cells (cs.set o v).toArray T fr):=by
 unfold World.setCell jL
 congr 1
 apply Array.ext_getElem?
 intro i
 rw[Array.getElem?_modify]
 by_cases e:b=i
 ·subst e
  obtain⟨gn,e⟩:=Array.getElem?_eq_some_iff.1 h
  simp[gn,e]
 ·simp[e,Array.getElem?_setIfInBounds_ne e]
theorem y7 {w:World} {b:Nat} {o o':Obj}:jL (jL w b o) b o'=jL w b o':=by
 unfold jL;simp
theorem DT {P:Program} {w:World} {b o:Nat} {v:Value} {cs:List Value} {T:TypeId} (h:w.heap[b]? =some (.cells cs.toArray T (0,0))) (ho:o<cs.length) (hv:fu v=true):
  (store ⟨b,o,none⟩ v).run P w=.ok () (jL w b (.cells (cs.set o v).toArray T (0,0))):=by
 have hc:w.cell? ⟨b,o,none⟩=some cs[o]:=by unfold World.cell?;simp[h,ho]
 have hf:w.frozen? ⟨b,o,none⟩=false:=by unfold World.frozen?;simp[h]
 have hv':v.oneCell'=true:=by cases v<;>simp_all[fu,Value.oneCell']
 rw[run_store P w _ _ _ hv',hc]
 simp[hf,sS h]
theorem kJ {P:Program} {b o:Nat} {T:TypeId}: ∀(vs:List Value) (cs:List Value) (i:Nat) (w:World),w.heap[b]? =some (.cells cs.toArray T (0,0))→o+i+vs.length≤cs.length→(vs.all fu)=true→
  (storeCells ⟨b,o,none⟩ vs i).run P w=.ok () (jL w b (.cells (fe cs (o+i) vs).toArray T (0,0)))
 | [],cs,i,w,h,_,_=>by
  have:jL w b (.cells cs.toArray T (0,0))=w:=by
   unfold jL
   have:w.heap.setIfInBounds b (.cells cs.toArray T (0,0))=w.heap:=by
    apply Array.ext_getElem?
    intro k
    by_cases e:b=k
    ·subst e
     obtain⟨gn,e⟩:=Array.getElem?_eq_some_iff.1 h
     simp[gn,e]
    ·rw[Array.getElem?_setIfInBounds_ne e]
   rw[this]
  simp[storeCells,fe,this]
 |v::vs,cs,i,w,h,hl,hv=>by
  simp only[bL,List.all_cons,aM]at hl hv
  have e:(Addr.add ⟨b,o,none⟩ i)=⟨b,o+i,none⟩:=by
   unfold Addr.add;split<;>rename_i h<;>first|(subst h;rfl)|rfl
  have h1:=DT (P:=P) h (o:=o+i) (v:=v) (by omega) hv.1
  have gn:=(Array.getElem?_eq_some_iff.1 h).1
  have h2:=kJ (P:=P) (b:=b) (o:=o) (T:=T) vs (cs.set (o+i) v) (i+1) (jL w b (.cells (cs.set (o+i) v).toArray T (0,0))) (ly gn) (by simp;omega) hv.2
  simp only[storeCells,e,Sem.run_bind,h1,Result.andThen_ok,h2,y7,fe]
  rfl
section
variable {P:Program} {r:Option Nat} {base:World} {n:Nat} {ρ:Env} {O:List Item} {K:Env→List Item→Prop} {d:Nat} {t:TypeId} {p:String} {af:Array Edge} {g:Option (Nat×Bool)}
theorem mP {M:List Item} {j:Nat} {it:Item} (h:O[j]? =some it):(O++M)[j]? =some it:=by
 rw[bI (List.getElem?_eq_some_iff.1 h).1];exact h
theorem o5 {M:List Item} {j:Nat} {it:Item} (h:O[j]? =some it) (x:Item):(O++M).set j x=O.set j x++M:=
 List.set_append_left _ _ (List.getElem?_eq_some_iff.1 h).1
theorem ja {op:Op} (hn:Nat.blt d n=true)
  (h: ∀w M,Inv base (O++M) w→ ∃v w' O',(execOp (ev ρ) ⟨some d,op,t,p,af,g⟩).run P w=.ok (.value v) w'∧Inv base (O'++M) w'∧K (oX ρ d v) O'):LT P r base n ⟨some d,op,t,p,af,g⟩ ρ O K:=by
 intro a w M ds ha hi next Qx fm
 obtain⟨v,w',O',hr,hI,hK⟩:=h w M hi
 rw[←ha.eval]at hr
 refine lJ (wT hr (by simp)) ?_
 rw[hr]
 exact fm _ _ _ _ (ha.put hn v) hI hK
theorem mr {op:Op}
  (h: ∀w M,Inv base (O++M) w→ ∃w' O',(execOp (ev ρ) ⟨none,op,t,p,af,g⟩).run P w=.ok .skip w'∧Inv base (O'++M) w'∧K ρ O'):LT P r base n ⟨none,op,t,p,af,g⟩ ρ O K:=by
 intro a w M ds ha hi next Qx fm
 obtain⟨w',O',hr,hI,hK⟩:=h w M hi
 rw[←ha.eval]at hr
 refine lJ (wT hr (by simp)) ?_
 rw[hr]
 exact fm _ _ _ _ ha hI hK
theorem Sub.oM {O' M:List Item} (h:Sub O' O):Sub (O'++M) (O++M):=by
 obtain⟨l,hp,hs⟩:=h
 exact⟨l++M,hp.append_right M,hs.append (aZ M)⟩
theorem Inv.eY {w:World} (h:Inv base O w) (E:TypeId) (k:Nat):Inv base (aq none 0 E k []::O) w:=
 Inv.new (N:=[aq none 0 E k []]) h F F F (a8 _) (fun _ _=>rfl) (by simp[aq,rowP]) (by simp[aq]) (by simp[aq])
theorem T.eY {c:Code} {Q:kF} (E:TypeId) (k:Nat) (h:T P r base n c Q ρ (aq none 0 E k []::O)):T P r base n c Q ρ O:=
 fun a w M D hM ha hi=>h a w M D hM ha (hi.eY E k)
theorem dv {c:Code} {Q:kF} {O':List Item} (hs:Sub O' O) (h:T P r base n c Q ρ O'):T P r base n c Q ρ O:=
 fun a w M D hM ha hi=>h a w M D hM ha (hi.j_ hs.oM)
theorem bu {E:TypeId} {z:Value} {s gN:Nat} {cs:List Value} (hi:fK P E z s gN) (hz:z.cells=cs.toArray)
  (h: ∀b,K (oX ρ d (.pointer (some ⟨b,0,none⟩))) (dR b (.cells cs.toArray E (0,0))::O)) (hn:Nat.blt d n=true:=by rfl):LT P r base n ⟨some d,.alloc E,t,p,af,g⟩ ρ O K:=
 ja hn fun w M hI=>⟨_,_,_,by simp[execOp,Instr.alloc,gJ hi,newVar,newRow,hz],hI.alloc _,h _⟩
theorem dE {E:TypeId} {x:Operand} {v:Value} {cs:List Value} (hx:ev ρ x=v) (hv:v.cells=cs.toArray)
  (h: ∀b,K (oX ρ d (.pointer (some ⟨b,0,none⟩))) (dR b (.cells cs.toArray E (0,0))::O)) (hn:Nat.blt d n=true:=by rfl):LT P r base n ⟨some d,.box E x,t,p,af,g⟩ ρ O K:=
 ja hn fun w M hI=>⟨_,_,_,by simp[execOp,Instr.box,newVar,newRow,hx,hv],hI.alloc _,h _⟩
theorem Inv.Q0 {w:World} (hI:Inv base O w) {i:Nat} {b:Nat} {o:Obj} (hO:O[i]? =some (dR b o)) (o':Obj):Inv base (O.set i (dR b o')) (jL w b o'):=by
 have hb:=hI.uZ hO
 have gn:=(Array.getElem?_eq_some_iff.1 hb).1
 refine hI.rU hO F F F (by rw[uh];exact a8 _) (fun k _ hk=>rY (fun e=>hk (by simp[dR,e]))) (ly gn) (fun k hk=>.inl hk) (by simp[dR])
theorem Inv.setRow {w:World} (hI:Inv base O w) {i b o c:Nat} {T:TypeId} {k:Nat} {cs By:List Value} {full:Array Value} (hO:O[i]? =some (aq (some ⟨b,o,none⟩) c T k cs)) (hl:By.length≤c*k)
  (hf:o+c*k≤full.size) (hc: ∀j (h:j<By.length),full[o+j]? =some By[j]):Inv base (O.set i (aq (some ⟨b,o,none⟩) c T k By)) (jL w b (.cells full T (0,0))):=by
 obtain⟨_,abp,hb,_,_⟩:=hI.row hO
 have gn:=(Array.getElem?_eq_some_iff.1 hb).1
 refine hI.rU hO F F F (by rw[uh];exact a8 _) (fun k _ hk=>rY (fun e=>hk (by simp[aq,e]))) ⟨F,full,ly gn,hl,hf,hc⟩ (fun k hk=>.inl hk) (by simp[aq])
theorem sT {T:TypeId} {z:Value} {s gN b o:Nat} {v:Value} {vs cs:List Value} {E:TypeId} {w:World} (hi:fK P T z s gN) (hv:v.cells=vs.toArray) (hl:vs.length=s) (ho:(vs.all fu)=true)
  (h:w.heap[b]? =some (.cells cs.toArray E (0,0))) (hr:o+vs.length≤cs.length):(storeVar T ⟨b,o,none⟩ v).run P w=.ok () (jL w b (.cells (fe cs o vs).toArray E (0,0))):=by
 have:=kJ (P:=P) (b:=b) (o:=o) (T:=E) vs cs 0 w h (by omega) ho
 unfold storeVar
 simp[bZ hi,hv,hl]
 exact this
theorem vJ (i:Nat) {T E:TypeId} {x y:Operand} {b o:Nat} {v:Value} {vs cs:List Value} {z:Value} {s gN:Nat} (hi:fK P T z s gN) (hx:ev ρ x=.pointer (some ⟨b,o,none⟩)) (hy:ev ρ y=v) (hv:v.cells=vs.toArray) (hl:vs.length=s) (ho:(vs.all fu)=true)
  (hO:O[i]? =some (dR b (.cells cs.toArray E (0,0)))) (hr:o+vs.length≤cs.length)
  (h:K ρ (O.set i (dR b (.cells (fe cs o vs).toArray E (0,0))))):LT P r base n ⟨none,.store T x y,t,p,af,g⟩ ρ O K:=
 mr fun w M hI=>⟨jL w b (.cells (fe cs o vs).toArray E (0,0)),_,by
  simp only[execOp,hx,hy,Instr.storeAt,Instr.sureAddr]
  simp[sT hi hv hl ho (hI.uZ (mP hO)) hr],by have:=hI.Q0 (mP hO) (.cells (fe cs o vs).toArray E (0,0));rwa[o5 hO]at this,h⟩
theorem Bz (i:Nat) {T E:TypeId} {x y:Operand} {b o j c k:Nat} {v:Value} {vs cs:List Value} {z:Value} {s gN:Nat} (hi:fK P T z s gN) (hx:ev ρ x=.pointer (some ⟨b,o+j,none⟩)) (hy:ev ρ y=v) (hv:v.cells=vs.toArray) (hl:vs.length=s) (ho:(vs.all fu)=true)
  (hO:O[i]? =some (aq (some ⟨b,o,none⟩) c E k cs)) (hr:j+vs.length≤cs.length)
  (h:K ρ (O.set i (aq (some ⟨b,o,none⟩) c E k (fe cs j vs)))):LT P r base n ⟨none,.store T x y,t,p,af,g⟩ ρ O K:=
 mr fun w M hI=>by
  obtain⟨_,full,hb,h1,h2,h3⟩:=hI.row (mP hO)
  simp only at hb h2 h3
  obtain⟨fl,rfl⟩: ∃fl:List Value,full=fl.toArray:=⟨full.toList,by simp⟩
  simp only[List.size_toArray]at h2
  refine⟨jL w b (.cells (fe fl (o+j) vs).toArray E (0,0)),_,?_,o5 hO (aq (some ⟨b,o,none⟩) c E k (fe cs j vs))▸hI.setRow (mP hO) (By:=fe cs j vs) (by rw[iz];exact h1) (by simp[iz];exact h2) ?_,h⟩
  ·have QR:o+j+vs.length≤fl.length:=by omega
   simp only[execOp,hx,hy,Instr.storeAt,Instr.sureAddr]
   simp[sT hi hv hl ho hb QR]
  ·intro m hm
   rw[iz]at hm
   have e1:(fe fl (o+j) vs).toArray[o+m]? =(fe fl (o+j) vs)[o+m]? :=by simp
   have e2:(fe cs j vs)[m]? =some ((fe cs j vs)[m]'(by rw[iz];exact hm)):=ap _
   rw[e1,←e2,mO vs fl (o+j) (o+m) (by omega),mO vs cs j m (by omega)]
   by_cases DU:j≤m∧m<j+vs.length
   ·rw[aR DU,aR (by omega)]
    congr 1;omega
   ·rw[ay DU,ay (by omega)]
    have:=h3 m hm
    simpa[ap hm]using this
theorem rZ {α:Type} (f:Nat→α):(Array.range 0).map f= #[]:=by simp
theorem qZ (z:Value) (m:Nat):((Array.range m).map fun i=>(#[z]:Array Value)[i%(#[z]:Array Value).size]!)=(List.replicate m z).toArray:=by
 apply Array.ext_getElem?
 intro i
 rw[Array.getElem?_map,Array.getElem?_range]
 by_cases h:i<m
 ·simp[h,Nat.mod_one]
 ·simp[h]
theorem cW {T E:TypeId} {x:Operand} {k:IntKind} {m:Nat} {z:Value} {gN:Nat} (hu:P.underlying T=some (.slice E)) (hi:fK P E z 1 gN) (hz:z.cells= #[z]) (hx:ev ρ x=.int k (m:Int)) (hm:m*gN≤140737488355328) (hm':m≤9223372036854775807)
  (h: ∀b,K (oX ρ d (.slice (some ⟨b,0,none⟩) m m)) (aq (some ⟨b,0,none⟩) m E 1 (List.replicate m z)::O)) (hn:Nat.blt d n=true:=by rfl):LT P r base n ⟨some d,.makeSlice T x x,t,p,af,g⟩ ρ O K:=
 ja hn fun w M hI=>by
  obtain⟨i,YW,Hd,hi3,YX⟩:=hi.get
  have hw:IntKind.i64.wrap (m:Int)=(m:Int):=gO (by omega)
  have QW: ¬((gN:Int)*(m:Int)>2^48):=by
   have h1:((m*gN:Nat):Int)≤140737488355328:=Int.ofNat_le.2 hm
   rw[Nat.mul_comm,Int.natCast_mul]at h1
   have h2:(2:Int)^48=281474976710656:=by rfl
   rw[h2];omega
  have UJ:decide ((gN:Int)*(m:Int)>2^48)=false:=ak QW
  refine⟨.slice (some ⟨w.heap.size,0,none⟩) m m,w.alloc (.cells (List.replicate m z).toArray E),_,?_,Inv.new (O:=O++M) (w':=w.alloc (.cells (List.replicate m z).toArray E)) (N:=[aq (some ⟨w.heap.size,0,none⟩) m E 1 (List.replicate m z)]) hI F F F (by simp) (fun b hb=>Below.heap_alloc w _ b hb) ?_ ?_ ?_,h _⟩
  ·have YY:decide ((m:Int)<0)=false:=by simp
   simp only[execOp,hx,Instr.makeSlice,Sem.run_bind,bH hu,Result.andThen_ok,asInt,asIntOf,Sem.run_pure,lM YW,YX,hw,UJ,YY,Bool.or_false,Bool.or_self,Int.lt_irrefl,gt_iff_lt,decide_false,Bool.false_eq_true,if_false,run_askRoom,bZ hi,Nat.mul_one,Int.toNat_natCast]
   by_cases h0:m=0
   ·subst h0
    simp[newRow,rZ]
   ·simp[h0,hz,newRow,gJ hi]
    have:=qZ z m
    simp at this
    rw[this]
  ·intro x hx
   simp at hx;subst hx
   refine⟨F,(List.replicate m z).toArray,?_,by simp,by simp,fun j hj=>by simp at hj;simp[hj]⟩
   show(w.heap.push _)[w.heap.size]? =_
   simp
  ·intro x hx b hb
   simp at hx;subst hx
   simp[aq]at hb;subst hb
   simp
  ·simp[aq]
theorem cH {T E:TypeId} {m:Nat} {parts:List (Nat×Operand)} {z:Value} {s gN:Nat} {cs:List Value} (hu:P.underlying T=some (.slice E)) (hi:fK P E z s gN) (UL:m*s≤16777216)
  (hf:Instr.fill (fun i=>some (i*s,s)) ((Array.range (m*s)).map (z.cells[· %z.cells.size]!)) (parts.map fun q=>(q.1,ev ρ q.2))=some cs.toArray) (hl:cs.length=m*s)
  (h: ∀b,K (oX ρ d (.slice (some ⟨b,0,none⟩) m m)) (aq (some ⟨b,0,none⟩) m E s cs::O)) (hn:Nat.blt d n=true:=by rfl):LT P r base n ⟨some d,.buildSlice T m parts.toArray,t,p,af,g⟩ ρ O K:=
 ja hn fun w M hI=>by
  refine⟨.slice (some ⟨w.heap.size,0,none⟩) m m,w.alloc (.cells cs.toArray E),_,?_,Inv.new (O:=O++M) (w':=w.alloc (.cells cs.toArray E)) (N:=[aq (some ⟨w.heap.size,0,none⟩) m E s cs]) hI F F F (by simp) (fun b hb=>Below.heap_alloc w _ b hb) ?_ ?_ ?_,h _⟩
  ·have M0: ¬(m*s>2^24):=by omega
   by_cases h0:m*s=0
   ·have X3:Instr.fill (fun i=>some (i*s,s)) #[] (parts.map fun q=>(q.1,ev ρ q.2))=some cs.toArray:=by rw[h0,rZ]at hf;exact hf
    simp only[execOp,Instr.buildSlice,Sem.run_bind,bH hu,bZ hi,Result.andThen_ok,h0,gt_iff_lt,if_true,Sem.run_pure,rZ]
    have gn: ¬(2^24<0):=by omega
    simp[X3,newRow]
   ·simp[execOp,Instr.buildSlice,bH hu,bZ hi,M0,h0,gJ hi,hf,newRow]
  ·intro x hx
   simp at hx;subst hx
   refine⟨F,cs.toArray,?_,by rw[hl];exact a8 _,by simp[hl],fun j hj=>by simp[hj]⟩
   show(w.heap.push _)[w.heap.size]? =_
   simp
  ·intro x hx b hb
   simp at hx;subst hx
   simp[aq]at hb;subst hb
   simp
  ·simp[aq]
theorem Hh (z:Array Value) (m:Nat):(Builtin.zeroCells z m).size=m*z.size:=by simp[Builtin.zeroCells]
theorem y8 (r5:Nat): ∀(r c:Nat),c≤2*r5→Builtin.growBy r5 r c≤2*r5+192
 |0,c,h=>by simp[Builtin.growBy];omega
 |r+1,c,h=>by
  simp only[Builtin.growBy]
  split
  ·omega
  ·by_cases h2:c+(c+768)/4≤2*r5
   ·exact y8 r5 r _ h2
   ·have: ∀r,Builtin.growBy r5 r (c+(c+768)/4)=c+(c+768)/4:=by
     intro r
     cases r with
     |zero=>rfl
     |succ r=>simp only[Builtin.growBy];rw[aR (by omega)]
    rw[this];omega
theorem DV {r5 cap:Nat} (h:cap<r5):Builtin.nextslicecap r5 cap≤2*r5+192:=by
 unfold Builtin.nextslicecap
 split
 ·omega
 ·split
  ·omega
  ·exact y8 r5 4 cap (by omega)
theorem iS {P:Program} {w:World} {b:Option Addr} {m c s:Nat} {cs:List Value} (h:Sl w b cs) (hl:cs.length=m*s) (hb:b=none→cs=[]):
  (Builtin.firstCells s m (.slice b m c)).run P w=.ok cs.toArray w:=by
 cases b with
 |none=>rw[hb F];rfl
 |some a=>
  obtain⟨k,o,sp⟩:=a
  simp only[Builtin.firstCells,←hl,loadCells]
  by_cases h0:cs.length=0
  ·have:cs=[]:=List.length_eq_zero_iff.1 h0
   subst this;rfl
  ·obtain⟨a',e1,e2,_⟩:=h 0 (by omega)
   cases e1
   simp only at e2;subst e2
   have:=lN (P:=P) (w:=w) (a:=⟨k,o,none⟩) cs 0 #[] (fun j hj=>by
    have:=h.get (ap hj)
    simp only[Nat.zero_add,Addr.add]
    split<;>rename_i e
    ·subst e;simpa using this
    ·exact this)
   simpa using this
def Src (P:Program) (base:World) (O:List Item) (s m:Nat) (x:Value) (cs:List Value):Prop:=
 cs.length=m*s∧(∀w,(Builtin.lenOf x).run P w=.ok m w)∧ ∀w,Inv base O w→(Builtin.firstCells s m x).run P w=.ok cs.toArray w
theorem Src.oM {b:World} {M:List Item} {s m:Nat} {x:Value} {cs:List Value} (h:Src P b O s m x cs):Src P b (O++M) s m x cs:=⟨h.1,h.2.1,fun w hI=>h.2.2 w hI.left⟩
theorem Src.row {j:Nat} {b:Option Addr} {c k m:Nat} {E:TypeId} {cs:List Value} (hO:O[j]? =some (aq b c E k cs)) (hl:cs.length=m*k) (c':Nat:=c):Src P base O k m (.slice b m c') cs:=
 ⟨hl,fun w=>by simp[Builtin.lenOf],fun w hI=>iS (hI.row hO).sl hl (fun e=>by subst e;exact(hI.row hO).1)⟩
theorem Src.sl {b:Option Addr} {c k m:Nat} {cs:List Value} (h:Sl base b cs) (hl:cs.length=m*k):Src P base O k m (.slice b m c) cs:=
 ⟨hl,fun w=>by simp[Builtin.lenOf],fun w hI=>iS (hI.sl h) hl (fun e=>by
  cases cs with
  |nil=>rfl
  |cons v cs=>obtain⟨a,h1,_⟩:=h 0 (by simp);rw[e]at h1;cases h1)⟩
theorem q5 {b o i:Nat}:(Addr.add ⟨b,o,none⟩ i)=⟨b,o+i,none⟩:=by
 unfold Addr.add;split<;>rename_i h<;>first|(subst h;rfl)|rfl
theorem M1 (r5 old t:Nat) (e:TypeId):r5≤(Question.appendCap r5 old e).cut t:=Nat.le_add_right _ _
theorem r8 {T U E:TypeId} {xd:TypeDesc} {b:Option Addr} {m c l s gN:Nat} {x z:Value} {cs new:List Value} {j:Nat} {ty:TypeId}
  (hu:P.underlying T=some (.slice E)) (M2:P.underlying U=some xd) (MX:(∃XE,xd=.slice XE)∨xd=.string) (hi:fK P E z s gN) (hz:z.cells.size=s)
  (hO:O[j]? =some (aq b c E s cs)) (hl:cs.length=m*s) (_hs:0<s)
  (hx:Src P base O s l x new) (vK:(new.all fu)=true) (sN:(m+l)*gN≤70368744177664) (Pg:gN≤1000000) (Hi:0<gN) {w:World} (hI:Inv base O w):
  ∃b' c' w',(Builtin.append_ #[T,U] ty #[.slice b m c,x]).run P w=.ok (.slice b' (m+l) c') w'∧Inv base (O.set j (aq b' c' E s (cs++new))) w':=by
 obtain⟨G9,iM,I_⟩:=hx
 obtain⟨i,YW,Hd,hi3,YX⟩:=hi.get
 have pM:=hI.row hO
 have UM:=I_ w hI
 have mf:(Builtin.firstCells s m (.slice b m c)).run P w=.ok cs.toArray w:=iS pM.sl hl (fun e=>by subst e;exact pM.1)
 by_cases Q1:m+l≤c
 ·-- there is room
  cases b with
  |none=>
   obtain⟨rfl,rfl⟩:=pM
   have hm0:m=0:=by omega
   have Hj:l=0:=by omega
   subst hm0;subst Hj
   have Q2:new=[]:=List.length_eq_zero_iff.1 (by omega)
   subst Q2
   refine⟨none,0,w,?_,?_⟩
   ·rcases MX with⟨XE,rfl⟩|rfl<;>simp[Builtin.append_,bH hu,bH M2,bZ hi,iM,UM]
   ·simp only[cT]
    obtain⟨A,B,e,I4⟩:=Bw hO
    rw[I4,←e]
    exact hI
  |some a=>
   obtain⟨k,o,sp⟩:=a
   obtain⟨yw,full,hb,h1,h2,h3⟩:=pM
   simp only at yw hb h1 h2 h3
   subst yw
   obtain⟨fl,rfl⟩: ∃fl:List Value,full=fl.toArray:=⟨full.toList,by simp⟩
   simp only[List.size_toArray]at h2
   have hmul:m*s+l*s≤c*s:=by rw[←Nat.add_mul];exact Nat.mul_le_mul_right s Q1
   have hr:o+m*s+0+new.length≤fl.length:=by omega
   have yB:=kJ (P:=P) (b:=k) (o:=o+m*s) (T:=E) new fl 0 w hb hr vK
   refine⟨some ⟨k,o,none⟩,c,_,?_,hI.setRow hO (By:=cs++new) (full:=(fe fl (o+m*s+0) new).toArray) (by simp;omega) (by simp[iz];exact h2) ?_⟩
   ·rcases MX with⟨XE,rfl⟩|rfl<;>simp[Builtin.append_,bH hu,bH M2,bZ hi,iM,UM,Q1,q5]
    all_goals (simp at yB;rw[yB];rfl)
   ·intro q hq
    simp only[aF]at hq
    have e1:(fe fl (o+m*s+0) new).toArray[o+q]? =(fe fl (o+m*s) new)[o+q]? :=by simp
    have e2:some ((cs++new)[q]'(by simp;omega))=(cs++new)[q]? :=(ap _).symm
    rw[e1,e2,mO new fl (o+m*s) (o+q) (by omega)]
    by_cases DU:m*s≤q
    ·rw[aR (by omega),bY (by omega)]
     congr 1;omega
    ·rw[ay (by omega),bI (by omega)]
     have:=h3 q (by omega)
     simpa[ap (show q<cs.length by omega)]using this
 ·-- a new array
  obtain⟨cap,M3⟩: ∃cap,(Question.appendCap (m+l) c E).cut (w.tape w.drawn (Question.appendCap (m+l) c E))=cap:=⟨_,F⟩
  have Fj:m+l≤cap:=M3▸M1 (m+l) c _ E
  have M4:(Question.appendCap (m+l) c E).forced=false:=rfl
  have nT:Inv base O w.drew:=hI.drew
  have YZ:=I_ _ nT
  have Pk:=nT.row hO
  have Y0:(Builtin.firstCells s m (.slice b m c)).run P w.drew=.ok cs.toArray w.drew:=iS Pk.sl hl (fun e=>by subst e;exact Pk.1)
  have fm: ¬(Builtin.nextslicecap (m+l) c*gN>2^48):=by
   have h1:=DV (r5:=m+l) (cap:=c) (by omega)
   have h2:Builtin.nextslicecap (m+l) c*gN≤(2*(m+l)+192)*gN:=Nat.mul_le_mul_right _ h1
   have h3:(2*(m+l)+192)*gN=2*((m+l)*gN)+192*gN:=by rw[Nat.add_mul,Nat.mul_assoc]
   omega
  obtain⟨w',Fk⟩: ∃w':World,w'=w.drew.alloc (.cells (cs.toArray++new.toArray++Builtin.zeroCells z.cells (cap-(m+l))) E):=⟨_,F⟩
  refine⟨some ⟨w.heap.size,0,none⟩,cap,w',?_,?_⟩
  ·have UN: ¬(9223372036854775807<((m:Int)+(l:Int))∧gN=0):=by rintro⟨_,h⟩;omega
   have Q3: ¬(281474976710656<Builtin.nextslicecap (m+l) c*gN):=by simpa using fm
   rcases MX with⟨XE,rfl⟩|rfl<;>simp[Builtin.append_,bH hu,bH M2,bZ hi,iM,Q1,lM YW,YX,UN,Q3,M4,M3,Y0,YZ,gJ hi,newRow,Fk]
   all_goals (have e:(cs++new).toArray=cs.toArray++new.toArray:=by simp)
   all_goals rw[e,Array.append_assoc]
  ·subst Fk
   refine hI.rU hO F F F (by simp) (fun q hq _=>?_) ⟨F,cs.toArray++new.toArray++Builtin.zeroCells z.cells (cap-(m+l)),?_,?_,?_,?_⟩ ?_ (by simp[aq])
   ·show(w.heap.push _)[q]? =_
    rw[Array.getElem?_push,ay (by omega)]
   ·show(w.heap.push _)[w.heap.size]? =_
    simp
   ·simp only[aF,hl,G9,←Nat.add_mul];exact Nat.mul_le_mul_right s Fj
   ·simp only[Array.size_append,List.size_toArray,Hh,hz,hl,G9,←Nat.add_mul,Nat.zero_add]
    exact Nat.mul_le_mul_right s (by omega)
   ·intro q hq
    simp only[Nat.zero_add]
    rw[Array.getElem?_append_left (by simp at hq⊢;exact hq)]
    simp
   ·intro q hq
    simp[aq]at hq
    subst hq
    exact .inr ⟨a8 _,by simp⟩
theorem dh {T U E XE:TypeId} {b:Option Addr} {m c l s gN:Nat} {x y:Operand} {xv z:Value} {cs new:List Value} (j:Nat)
  (hu:P.underlying T=some (.slice E)) (M2:P.underlying U=some (.slice XE)) (hi:fK P E z s gN) (hz:z.cells.size=s)
  (hx:ev ρ x=.slice b m c) (hy:ev ρ y=xv) (hO:O[j]? =some (aq b c E s cs)) (hl:cs.length=m*s) (hs:0<s)
  (Q4:Src P base O s l xv new) (vK:(new.all fu)=true) (sN:(m+l)*gN≤70368744177664) (Pg:gN≤1000000) (Hi:0<gN)
  (h: ∀b' c',K (oX ρ d (.slice b' (m+l) c')) (O.set j (aq b' c' E s (cs++new)))) (hn:Nat.blt d n=true:=by rfl):
  LT P r base n ⟨some d,.call ⟨.builtin .append,#[x,y],#[T,U]⟩,t,p,af,g⟩ ρ O K:=
 ja hn fun w M hI=>by
  obtain⟨b',c',w',hr,nT⟩:=r8 (ty:=t) hu M2 (.inl ⟨_,F⟩) hi hz (mP hO) hl hs Q4.oM vK sN Pg Hi hI
  rw[o5 hO]at nT
  refine⟨_,w',_,?_,nT,h b' c'⟩
  simp[execOp,resolve,hx,hy,invoke,builtin,hr]
def Enters (P:Program) (f:FuncId) (fn:Func):Prop:=P.funcs[f]? =some fn∧(fn.name== "runtime.NumGoroutine")=false∧fn.body.isSome=true
def cd (P:Program) (base:World) (f:FuncId) (args:List Value) (O:List Item) (R:Value→List Item→Prop):Prop:=
 ∀w M,Inv base (O++M) w→Calls P f args.toArray w fun e w'=> ∃v O',e=.returned v∧Inv base (O'++M) w'∧R v O'
theorem cd.mono {f:FuncId} {args:List Value} {R R':Value→List Item→Prop} (h:cd P base f args O R) (hr: ∀v O',R v O'→R' v O'):cd P base f args O R':=
 fun w M hI=>(h w M hI).mono fun _ _ ⟨v,O',h1,h2,h3⟩=>⟨v,O',h1,h2,hr v O' h3⟩
def cA (P:Program) (f:FuncId) (args:List Value) (w:World) (R:Value→List Item→Prop):Prop:=cd P w f args [] R
theorem aX {f:FuncId} {args:List Value} {R:Value→List Item→Prop} (h: ∀w,Inv base O w→cA P f args w R):cd P base f args O (fun v O'=> ∃N,O'=N++O∧R v N):=
 fun w M hI=>(h w hI.left w [] (Inv.refl w)).mono fun _ _ ⟨v,N,h1,h2,h3⟩=>⟨v,N++O,h1,by
  have:=hI.call h2
  simpa[aI]using this,N,F,h3⟩
theorem cd.under {f:FuncId} {args:List Value} {A B:List Item} {R:Value→List Item→Prop} (h:cd P base f args A R) (hs:Sub (A++B) O):cd P base f args O (fun v O'=> ∃A',O'=A'++B∧R v A'):=
 fun w M hI=>(h w (B++M) (by have:=hI.j_ hs.oM;rwa[aI]at this)).mono fun _ _ ⟨v,A',h1,h2,h3⟩=>⟨v,A'++B,h1,by rwa[aI],A',F,h3⟩
def Fl (P:Program) (base:World) (M:List Item) (R:Value→List Item→Prop):Result Next→Prop
 | .ok (.enter f args) w=>Calls P f args w fun e w'=> ∃v O',e=.returned v∧Inv base (O'++M) w'∧R v O'
 | .ok (.round l f tmps assign body) w=>RoundIn Fence.wide 0 P l f tmps assign body w fun e w'=> ∃v O',e=.returned v∧Inv base (O'++M) w'∧R v O'
 |_=>False
def kK (fv:Value) (args:Array Value):Sem Next:=do
 let d←Deferred.ofValue fv args
 invoke d.target d.args
def eK (P:Program) (base:World) (fv:Value) (args:List Value) (O:List Item) (R:Value→List Item→Prop):Prop:=
 ∀w M,Inv base (O++M) w→Fl P base M R ((kK fv args.toArray).run P w)
theorem Fl.mono {M:List Item} {R R':Value→List Item→Prop} {x:Result Next} (h:Fl P base M R x) (hr: ∀v O',R v O'→R' v O'):Fl P base M R' x:=by
 cases x with
 |halt e w=>exact h
 |ok y w=>
  cases y<;>first
   |exact h
   |exact Calls.mono h fun _ _ ⟨v,O',h1,h2,h3⟩=>⟨v,O',h1,h2,hr v O' h3⟩
   |exact RoundIn.mono h fun _ _ ⟨v,O',h1,h2,h3⟩=>⟨v,O',h1,h2,hr v O' h3⟩
theorem eK.mono {fv:Value} {args:List Value} {R R':Value→List Item→Prop} (h:eK P base fv args O R) (hr: ∀v O',R v O'→R' v O'):eK P base fv args O R':=
 fun w M hI=>(h w M hI).mono hr
theorem eK.under {fv:Value} {args:List Value} {A B:List Item} {R:Value→List Item→Prop} (h:eK P base fv args A R) (hs:Sub (A++B) O):eK P base fv args O (fun v O'=> ∃A',O'=A'++B∧R v A'):=fun w M hI=>by
 have h1:=h w (B++M) (by have:=hI.j_ hs.oM;rwa[aI]at this)
 revert h1
 cases(kK fv args.toArray).run P w with
 |halt e w=>exact id
 |ok y w=>
  cases y<;>first
   |exact id
   |exact fun h=>Calls.mono h fun _ _ ⟨v,A',h1,h2,h3⟩=>⟨v,A'++B,h1,by rwa[aI],A',F,h3⟩
   |exact fun h=>RoundIn.mono h fun _ _ ⟨v,A',h1,h2,h3⟩=>⟨v,A'++B,h1,by rwa[aI],A',F,h3⟩
theorem cQ {f:FuncId} {fn:Func} {first args gv:List Value} {R:Value→List Item→Prop} (he:Enters P f fn) (h:cd P base f (first++args++gv) O R):eK P base (.func (.func f) first.toArray gv.toArray) args O R:=fun w M hI=>by
 have sU: ¬fn.name= "runtime.NumGoroutine" :=by simpa using he.2.1
 obtain⟨bd,M5⟩:=Option.isSome_iff_exists.1 he.2.2
 have hr:(kK (.func (.func f) first.toArray gv.toArray) args.toArray).run P w=.ok (.enter f (first++args++gv).toArray) w:=by
  have e:(first++args++gv).toArray=first.toArray++args.toArray++gv.toArray:=by simp
  rw[e]
  simp[kK,Deferred.ofValue,invoke,callFunc,he.1,sU,M5]
 rw[hr]
 exact h w M hI
theorem r_ {x:Operand} {args:List Operand} {yC:Array TypeId} {dst:Option Nat} {w:World}:(execOp (ev ρ) ⟨dst,.call ⟨.value x,args.toArray,yC⟩,t,p,af,g⟩).run P w=(kK (ev ρ x) (G_ ρ args).toArray).run P w:=by
 have Fg:(args.toArray.map (ev ρ))=(G_ ρ args).toArray:=by simp[I3]
 simp only[execOp,resolve,kK,Fg,Sem.run_bind]
theorem mQ {r:Option Nat} {f:FuncId} {args:Array Value} {w:World} {R:Ending→World→Prop} (h:Calls P f args w R):CallsIn (Fr r) (0-1) P f args w R:=callsIn_wide.2 h
theorem fh {x:Operand} {args:List Operand} {yC:Array TypeId} {fv:Value} {vs:List Value} {R:Value→List Item→Prop} (hc:eK P base fv vs O R) (hx:ev ρ x=fv) (ha:G_ ρ args=vs)
  (h: ∀v O',R v O'→K (oX ρ d v) O') (hn:Nat.blt d n=true:=by rfl):LT P r base n ⟨some d,.call ⟨.value x,args.toArray,yC⟩,t,p,af,g⟩ ρ O K:=by
 subst hx;subst ha
 intro a w M ds ha hi next Qx fm
 have h1:=hc w M hi
 rw[←r_ (t:=t) (p:=p) (af:=af) (g:=g) (yC:=yC) (dst:=some d)]at h1
 rw[←ha.eval]at h1
 revert h1
 generalize hr:(execOp a.eval ⟨some d,.call ⟨.value x,args.toArray,yC⟩,t,p,af,g⟩).run P w=y
 intro h1
 refine lJ (by intro c e;cases e) ?_
 rw[hr]
 cases y with
 |halt e w=>exact h1.elim
 |ok y w1=>
  cases y with
  |enter f abq=>
   rw[Oper.uponIn_enter]
   refine⟨fun e=>by simp[Fr,Fence.wide]at e,mQ (Calls.mono h1 ?_)⟩
   rintro e w' ⟨v,O',rfl,nT,hR⟩
   exact fm _ _ _ _ (ha.put hn v) nT (h v O' hR)
  |round l f tmps assign body=>
   rw[Oper.uponIn_round]
   refine⟨fun e=>by simp[Fr,Fence.wide]at e,RoundIn.mono h1 ?_⟩
   rintro e w' ⟨v,O',rfl,nT,hR⟩
   exact fm _ _ _ _ (ha.put hn v) nT (h v O' hR)
  |_=>exact h1.elim
theorem bm {f:FuncId} {fn:Func} {args:List Operand} {yC:Array TypeId} {vs:List Value} {R:Value→List Item→Prop} (he:Enters P f fn)
  (hc:cd P base f vs O R) (ha:G_ ρ args=vs) (h: ∀v O',R v O'→K (oX ρ d v) O') (hn:Nat.blt d n=true:=by rfl):LT P r base n ⟨some d,.call ⟨.value (.func f),args.toArray,yC⟩,t,p,af,g⟩ ρ O K:=
 fh (cQ (first:=[]) (gv:=[]) he (by simpa using hc)) F ha h hn
def entry (args:List Value):Env:=fun t=>args.getD t undef
structure ru (P:Program) (base:World) (fn:Func) (ρ:Env) (O:List Item) (R:Value→List Item→Prop):Prop where
 ex: ∃v O',Sub O' O∧R v O'∧ ∀w tmps,Inv base O w→(∀t,tmps.getD t undef=ρ t)→(results fn tmps).run P w=.ok v w
def UO (P:Program) (base:World) (fn:Func) (R:Value→List Item→Prop):kF
 | .normal,ρ,O=>ru P base fn ρ O R
 | .ret,ρ,O=>ru P base fn ρ O R
 |_,_,_=>False
theorem o6 {fn:Func} {tmps:Array Value} {M O':List Item} {Rx:Ending→World→Prop} (h: ∀w,Inv base (O'++M) w→ ∃v,(results fn tmps).run P w=.ok v w∧Rx (.returned v) w):
  ∀(D:List Nat) (w:World),Inv base (O'++(mI D++M)) w→LeavesInM Fence.wide 0 P fn tmps Rx (mD D) .returning w
 | [],w,hI=>h w hI
 |b::D,w,hI=>by
  have nT:Inv base (O'++uX b::(mI D++M)) w:=hI
  have hb:w.heap[b]? =some (.deferred (some [])):=nT.holds (uX b) (by simp)
  have gn:=(Array.getElem?_eq_some_iff.1 hb).1
  refine⟨by simp,.inl ⟨b,w.putObj b (.deferred none),F,run_takeDeferred hb,o6 h D _ ?_⟩⟩
  have:=Inv.step (N:=[]) (w':=w.putObj b (.deferred none)) nT F F F (by simp) (fun k _ hk=>World.putObj_heap_other (fun e=>hk (by simp[uX,dR,e]))) (by simp) (by simp) (by simp)
  simpa using this
theorem aG {f:FuncId} {fn:Func} {c:Code} {args:List Value} {R:Value→List Item→Prop} (hf:P.funcs[f]? =some fn) (hb:fn.body=some c) (hn:fn.ntmps=n) (hl:Nat.ble args.length n=true)
  (h:T P none base n c (UO P base fn R) (entry args) O):cd P base f args O R:=by
 have hl:=Nat.le_of_ble_eq_true hl
 intro w M hI
 rw[←callsIn_wide (n:=0)]
 refine callsIn_of_wp_marks hf hb trivial (wpIn_mono (h _ w M [] trivial ⟨?_,?_,F⟩ hI) ?_)
 ·intro t
  show(args.toArray++Array.replicate (fn.ntmps-args.toArray.size) undef).getD t undef=args.getD t undef
  rw[dp,aw]
  by_cases h:t<args.length
  ·rw[Array.getElem?_append_left (by simpa using h)];simp
  ·rw[Array.getElem?_append_right (by simpa using h)]
   have:args[t]? =none:=by simp;omega
   rw[this,Array.getElem?_replicate]
   split<;>rfl
 ·simp;omega
 ·have key: ∀(a':Act) (w':World) (gR:Env) (O':List Item) (D:List Nat),Ag n (mD D) a' gR→Inv base (O'++(mI D++M)) w'→ru P base fn gR O' R→
    LeavesInM Fence.wide 0 P fn a'.tmps (fun e MZ=> ∃v O',e=.returned v∧Inv base (O'++M) MZ∧R v O') a'.defers .returning w':=by
   intro a' w' gR O' D h1 h2 h3
   obtain⟨v,yn,yy,hR,hr⟩:=h3.ex
   rw[h1.defers]
   exact o6 (fun w hI=>⟨v,hr w a'.tmps hI.left h1.tmp,v,yn,F,hI.j_ yy.oM,hR⟩) D w' h2
  rintro e a' w' ⟨gR,O',D,h1,h2,h3⟩
  cases e with
  |normal=>exact key a' w' gR O' D h1 h2 h3
  |ret=>exact key a' w' gR O' D h1 h2 h3
  |_=>exact h3.elim
def lp (q:Loop) (j:Option Code):Obj:=.loop {q with state:=if j.isNone then .ready else .done,pending:=j}
structure Ja (q:Loop) (n:Nat) (ρ:Env) (ps:Array Nat) (assign body:Code):Prop where
 params:q.params=ps
 assign:q.assign=assign
 body:q.body=body
 tmp: ∀t,q.tmps.getD t undef=ρ t
 size:q.tmps.size=n
def Pl (Q:kF) (ρ:Env) (O:List Item):Option Code→Prop
 |none=>Q .normal ρ O
 |some .ret=>Q .ret ρ O
 |some (.exit id)=>Q (.exit id) ρ O
 |_=>False
theorem T.rangeFunc {gx:Operand} {ps:Array Nat} {assign body:Code} {Q:kF} {f:FuncId} {fn:Func} {first gv:List Value} (hg:ev ρ gx=.func (.func f) first.toArray gv.toArray) (he:Enters P f fn)
  (h: ∀(l:Nat) (q:Loop),Ja q n ρ ps assign body→cd P base f (first++[.func (.yield l) #[] #[]]++gv) (dR l (lp q none)::O) (fun _ O'=> ∃j yn,O'=dR l (lp q j)::yn∧Pl Q ρ yn j)):
  T P r base n (.rangeFunc gx ps assign body) Q ρ O:=by
 have sU: ¬fn.name= "runtime.NumGoroutine" :=by simpa using he.2.1
 obtain⟨bd,M5⟩:=Option.isSome_iff_exists.1 he.2.2
 intro a w M D hM ha hI
 refine wpIn_rangeFunc fun BA _=>?_
 have hev:a.eval gx=.func (.func f) first.toArray gv.toArray:=by rw[ha.eval];exact hg
 have Pm: ∀(l:Nat) (w1:World),(resolve a.eval (rangeCall gx l) 0).run P w1=.ok ⟨.fn (.func f) gv.toArray,(first++[Value.func (.yield l) #[] #[]]).toArray⟩ w1:=fun l w1=>by
  have e:(first++[Value.func (.yield l) #[] #[]]).toArray=first.toArray++ #[.func (.yield l) #[] #[]]:=by simp
  rw[e]
  have hc:a.eval (.const (.func (.yield l) #[] #[]))=.func (.yield l) #[] #[]:=rfl
  simp[resolve,hev,hc,Deferred.ofValue]
 have hinv: ∀(l:Nat) (w1:World),(invoke (.fn (.func f) gv.toArray) (first++[Value.func (.yield l) #[] #[]]).toArray).run P w1=.ok (.enter f (first++[Value.func (.yield l) #[] #[]]++gv).toArray) w1:=fun l w1=>by
  have e:(first++[Value.func (.yield l) #[] #[]]++gv).toArray=(first++[Value.func (.yield l) #[] #[]]).toArray++gv.toArray:=by simp
  rw[e]
  simp[invoke,callFunc,he.1,sU,M5]
 have post: ∀(l:Nat) (q:Loop) (mark:List Deferred) (D':List Nat),mark++mD D=mD D'→ ∀e w',(∃v O',e=Ending.returned v∧Inv base (O'++(mI D'++M)) w'∧ ∃j yn,O'=dR l (lp q j)::yn∧Pl Q ρ yn j)→
   rangePost (Fr r) 0 P l (lift base n M Q) {a with defers:=mark++a.defers} e w':=by
  rintro l q mark D' UP e w' ⟨v,O',rfl,nT,j,yn,rfl,hj⟩
  have hl:w'.heap[l]? =some (lp q j):=nT.holds (dR l (lp q j)) (by simp)
  have gn:=(Array.getElem?_eq_some_iff.1 hl).1
  refine⟨j,_,run_endLoop (P:=P) hl (by simp;split<;>simp),?_⟩
  have pC:Inv base (yn++(mI D'++M)) (w'.putObj l (.loop {({q with state:=if j.isNone then .ready else .done,pending:=j}:Loop)with state:=.exhausted})):=by
   have:=Inv.step (A:=[]) (N:=[]) (w':=w'.putObj l (.loop {({q with state:=if j.isNone then .ready else .done,pending:=j}:Loop)with state:=.exhausted})) (B:=yn++(mI D'++M)) (it:=dR l (lp q j)) nT
    rfl F F (by simp) (fun k _ hk=>World.putObj_heap_other (fun e=>hk (by simp[dR,e]))) (by simp) (by simp) (by simp)
   simpa using this
  have Q5:Ag n (mD D') ({a with defers:=mark++a.defers}:Act) ρ:=⟨ha.tmp,ha.size,by simp[ha.defers];exact UP⟩
  cases j with
  |none=>exact⟨ρ,yn,D',Q5,pC,hj⟩
  |some c=>
   cases c with
   |ret=>exact wpIn_ret ⟨ρ,yn,D',Q5,pC,hj⟩
   |exit id=>exact wpIn_exit ⟨ρ,yn,D',Q5,pC,hj⟩
   |_=>exact hj.elim
 cases r with
 |none=>
  have UQ:Inv base (uX w.heap.size::(O++(mI D++M))) (w.alloc (.deferred (some []))):=hI.alloc _
  have pC:=UQ.alloc (.loop {state:=.ready,pending:=none,fn:=BA,tmps:=a.tmps,params:=ps,assign,body,defers:=w.heap.size})
  have Y1:Inv base ((dR (w.heap.size+1) (lp {state:=.ready,pending:=none,fn:=BA,tmps:=a.tmps,params:=ps,assign,body,defers:=w.heap.size} none)::O)++(mI (w.heap.size::D)++M))
    ((w.alloc (.deferred (some []))).alloc (.loop {state:=.ready,pending:=none,fn:=BA,tmps:=a.tmps,params:=ps,assign,body,defers:=w.heap.size})):=by
   refine pC.perm ?_
   have e:(w.alloc (.deferred (some []))).heap.size=w.heap.size+1:=by simp
   rw[e]
   exact List.Perm.cons _ List.perm_middle
  refine⟨_,_,_,_,_,f,_,_,run_enterLoop_outer (P:=P) (w:=w) BA a.tmps ps assign body,Pm _ _,fun _ _=>trivial,hinv _ _,fun e=>by simp[Fr,Fence.wide]at e,mQ ?_⟩
  refine Calls.mono (h (w.heap.size+1) {state:=.ready,pending:=none,fn:=BA,tmps:=a.tmps,params:=ps,assign,body,defers:=w.heap.size} ⟨F,F,F,ha.tmp,ha.size⟩ _ _ Y1) ?_
  exact post _ _ _ (w.heap.size::D) F
 |some l0=>
  obtain⟨it,fC,UR⟩:=hM
  obtain⟨rc,hrc⟩:=UR w (hI.holds it (by simp[fC]))
  have pC:=hI.alloc (.loop {state:=.ready,pending:=none,fn:=BA,tmps:=a.tmps,params:=ps,assign,body,defers:=rc.defers})
  refine⟨_,_,_,_,_,f,_,_,run_enterLoop_inner (P:=P) (w:=w) hrc BA a.tmps ps assign body,Pm _ _,fun _ _=>trivial,hinv _ _,fun e=>by simp[Fr,Fence.wide]at e,mQ ?_⟩
  refine Calls.mono (h w.heap.size {state:=.ready,pending:=none,fn:=BA,tmps:=a.tmps,params:=ps,assign,body,defers:=rc.defers} ⟨F,F,F,ha.tmp,ha.size⟩ _ (mI D++M) pC) ?_
  exact post _ _ _ D F
def Jb:List Nat→List Value→Env→Env
 |t::ts,v::vs,ρ=>Jb ts vs (oX ρ t v)
 |_,_,ρ=>ρ
theorem BB: ∀(ts:List Nat) (vs:List Value) (tmps:Array Value) (ρ:Env),(ts.all fun t=>Nat.blt t n)=true→tmps.size=n→(∀t,tmps.getD t undef=ρ t)→
  (((ts.zip vs).foldl (fun tmps q=>tmps.setIfInBounds q.1 q.2) tmps).size=n∧ ∀t,((ts.zip vs).foldl (fun tmps q=>tmps.setIfInBounds q.1 q.2) tmps).getD t undef=Jb ts vs ρ t)
 | [],vs,tmps,ρ,_,hs,ht=>⟨hs,ht⟩
 |t::ts,[],tmps,ρ,_,hs,ht=>⟨hs,ht⟩
 |t::ts,v::vs,tmps,ρ,hb,hs,ht=>by
  simp only[List.all_cons,aM]at hb
  have h1:=Ag.put (a:= {tmps:=tmps,defers:=[]}) (ds:=[]) ⟨ht,hs,F⟩ hb.1 v
  exact BB ts vs _ (oX ρ t v) hb.2 h1.size h1.tmp
def Q6 (l:Nat) (q:Loop) (R:Value→List Item→Prop):kF
 | .normal,_,O=>R (.bool true) (dR l (lp q none)::O)
 | .ret,_,O=>R (.bool false) (dR l (lp q (some .ret))::O)
 | .exit id,_,O=>R (.bool false) (dR l (lp q (some (.exit id)))::O)
 |_,_,_=>False
theorem Inv.BC {O M:List Item} {w:World} {l:Nat} {o o':Obj} (hI:Inv base (dR l o::O++M) w):Inv base (dR l o'::O++M) (w.putObj l o'):=by
 have hl:w.heap[l]? =some o:=hI.holds (dR l o) (by simp)
 have gn:=(Array.getElem?_eq_some_iff.1 hl).1
 have:=Inv.step (A:=[]) (N:=[dR l o']) (w':=w.putObj l o') (B:=O++M) (it:=dR l o) hI F F F (by simp) (fun k _ hk=>World.putObj_heap_other (fun e=>hk (by simp[dR,e])))
  (by intro x hx;simp at hx;subst hx;exact World.putObj_heap_same gn) (by intro x hx b hb;simp at hx;subst hx;exact .inl hb) (by simp[dR])
 simpa using this
theorem eK.yield {l:Nat} {q:Loop} {ps:Array Nat} {assign body:Code} {args:List Value} {R:Value→List Item→Prop} (hq:Ja q n ρ ps assign body) (hl:args.length=ps.size) (Jc:(ps.toList.all fun t=>Nat.blt t n)=true)
  (h:T P (some l) base n assign (I5 (fun ρ O=>T P (some l) base n body (Q6 l q R) ρ O) (fun _ _ _=>False)) (Jb ps.toList args ρ) O):
  eK P base (.func (.yield l) #[] #[]) args (dR l (lp q none)::O) R:=by
 obtain⟨rfl,rfl,rfl,ht,hs⟩:=hq
 intro w M hI
 have hb:w.heap[l]? =some (.loop {q with state:=.ready,pending:=none}):=hI.holds (dR l (lp q none)) (by simp)
 have Ah:(kK (.func (.yield l) #[] #[]) args.toArray).run P w=.ok (.round l q.fn ((q.params.toList.zip args).foldl (fun tmps p=>tmps.setIfInBounds p.1 p.2) q.tmps) q.assign q.body) w:=by
  have h1:=run_yield (P:=P) (args:=args.toArray) hb (by simpa using hl)
  simp only[kK,Deferred.ofValue,invoke,Sem.run_bind,Sem.run_pure,Result.andThen_ok]
  have e:(#[]:Array Value)++args.toArray=args.toArray:=by simp
  rw[e,h1]
  congr 2
  rw[←Array.foldl_toList]
  congr 1
  simp
 rw[Ah]
 obtain⟨sN,htm⟩:=BB q.params.toList args q.tmps ρ Jc hs ht
 refine roundIn_of_wpIn trivial ?_
 have UQ:Inv base (O++(mI []++(dR l (lp q none)::M))) w:=hI.perm List.perm_middle
 refine wpIn_mono (h {tmps:=_,defers:=[]} w (dR l (lp q none)::M) [] ⟨dR l (lp q none),by simp,fun w hw=>⟨_,hw⟩⟩ ⟨htm,sN,F⟩ UQ) ?_
 rintro e a1 w1 ⟨ρ1,O1,D1,h1,h2,h3⟩
 cases e with
 |normal=>
  have TV:Inv base (dR l (lp q none)::(O1++mI D1)++M) w1:=h2.perm (by
   have:(O1++(mI D1++dR l (lp q none)::M))=((O1++mI D1)++dR l (lp q none)::M):=by simp
   rw[this]
   exact List.perm_middle.symm)
  have Hk:w1.heap[l]? =some (.loop {q with state:=.ready,pending:=none}):=TV.holds (dR l (lp q none)) (by simp)
  refine⟨_,run_beginRound (P:=P) Hk F,?_⟩
  have Y1:=TV.BC (o':=.loop {({q with state:=.ready,pending:=none}:Loop)with state:=.busy})
  have hI4:Inv base (O1++(mI D1++(dR l (.loop {({q with state:=.ready,pending:=none}:Loop)with state:=.busy})::M))) (w1.putObj l (.loop {({q with state:=.ready,pending:=none}:Loop)with state:=.busy})):=Y1.perm (by
   have:(O1++(mI D1++dR l (.loop {({q with state:=.ready,pending:=none}:Loop)with state:=.busy})::M))=((O1++mI D1)++dR l (.loop {({q with state:=.ready,pending:=none}:Loop)with state:=.busy})::M):=by simp
   rw[this]
   exact List.perm_middle)
  refine wpIn_mono (h3 a1 _ _ D1 ⟨dR l (.loop {({q with state:=.ready,pending:=none}:Loop)with state:=.busy}),by simp,fun w hw=>⟨_,hw⟩⟩ h1 hI4) ?_
  rintro e a2 w2 ⟨ρ2,O2,D2,k1,k2,k3⟩
  have k2':Inv base (dR l (.loop {({q with state:=.ready,pending:=none}:Loop)with state:=.busy})::(O2++mI D2)++M) w2:=k2.perm (by
   have:(O2++(mI D2++dR l (.loop {({q with state:=.ready,pending:=none}:Loop)with state:=.busy})::M))=((O2++mI D2)++dR l (.loop {({q with state:=.ready,pending:=none}:Loop)with state:=.busy})::M):=by simp
   rw[this]
   exact List.perm_middle.symm)
  have DW:w2.heap[l]? =some (.loop {({q with state:=.ready,pending:=none}:Loop)with state:=.busy}):=k2'.holds (dR l (.loop {({q with state:=.ready,pending:=none}:Loop)with state:=.busy})) (by simp)
  have fin: ∀j:Option Code,Inv base (dR l (lp q j)::O2++M) (w2.putObj l (lp q j)):=fun j=>by
   have:=k2'.BC (o':=lp q j)
   refine this.sub ?_
   simp only[cJ,aI]
   exact List.Sublist.cons_cons _ (List.Sublist.append (aZ _) (List.sublist_append_right _ _))
  cases e with
  |normal=>exact⟨_,_,run_endRound (P:=P) none DW,_,_,F,fin none,k3⟩
  |ret=>exact⟨_,_,run_endRound (P:=P) (some .ret) DW,_,_,F,fin (some .ret),k3⟩
  |exit id=>exact⟨_,_,run_endRound (P:=P) (some (.exit id)) DW,_,_,F,fin (some (.exit id)),k3⟩
  |_=>exact k3.elim
 |_=>exact h3.elim
theorem ru.zero {fn:Func} {R:Value→List Item→Prop} (hr:fn.results= #[]) (h:R (.tuple #[]) O):ru P base fn ρ O R:=
 ⟨⟨_,O,cj (aZ _),h,fun w tmps _ _=>results_none hr tmps P w⟩⟩
theorem aT {fn:Func} {R:Value→List Item→Prop} {a:Nat} (v:Value) (hr:fn.results= #[.tmp a]) (hv:ρ a=v) (h:R v O):ru P base fn ρ O R:=
 ⟨⟨_,O,cj (aZ _),h,fun w tmps _ ht=>by rw[results_tmp hr tmps P w,ht,hv]⟩⟩
theorem dc {fn:Func} {R:Value→List Item→Prop} {a b:Nat} (v u:Value) (hr:fn.results= #[.tmp a,.tmp b]) (hv:ρ a=v) (hu:ρ b=u) (h:R (.tuple #[v,u]) O):ru P base fn ρ O R:=
 ⟨⟨_,O,cj (aZ _),h,fun w tmps _ ht=>by rw[results_tmp2 hr tmps P w,ht,ht,hv,hu]⟩⟩
theorem az {fn:Func} {R:Value→List Item→Prop} (h:ru P base fn ρ O (fun v O1=> ∃O2,Sub O2 O1∧R v O2)):ru P base fn ρ O R:=by
 obtain⟨v,O1,hs,⟨O2,Dx,hR⟩,hr⟩:=h.ex
 refine⟨⟨v,O2,?_,hR,hr⟩⟩
 obtain⟨l2,p2,s2⟩:=Dx
 obtain⟨l1,p1,s1⟩:=hs
 obtain⟨l3,p3,s3⟩:=List.exists_perm_sublist s2 p1
 exact⟨l3,p2.trans p3.symm,s3.trans s1⟩
theorem p_ {T E:TypeId} {d:TypeDesc} {z:Value} {s gN b:Nat} {cs:List Value} {fr:Nat×Nat} {w:World} (hu:P.underlying T=some d) (ha:o4 d=true) (hi:fK P T z s gN) (hl:cs.length=s) (hw:w.heap[b]? =some (.cells cs.toArray E fr)):
  (loadVar T ⟨b,0,none⟩).run P w=.ok (.agg cs.toArray) w:=by
 have h:=lN (P:=P) (w:=w) (a:=⟨b,0,none⟩) cs 0 #[] (fun j hj=>by
  rw[q5];unfold World.cell?;simp[hw])
 simp[loadVar,jg hu,ha,bZ hi,loadCells,←hl,h]
theorem cL {fn:Func} {R:Value→List Item→Prop} {a i:Nat} {T E:TypeId} {d:TypeDesc} {z:Value} {s gN b:Nat} {cs:List Value} {fr:Nat×Nat} (hr:fn.results= #[.cell a T]) (hu:P.underlying T=some d) (ha:o4 d=true) (hi:fK P T z s gN) (hp:ρ a=.pointer (some ⟨b,0,none⟩)) (hO:O[i]? =some (dR b (.cells cs.toArray E fr))) (hl:cs.length=s)
  (h:R (.agg cs.toArray) O):ru P base fn ρ O R:=
 ⟨⟨_,O,cj (aZ _),h,fun w tmps hI ht=>by
  have:=p_ (P:=P) hu ha hi hl (hI.uZ hO)
  have Mr:=ht a
  simp only[dp]at Mr
  simp[results,hr,Mr,hp,asAddr,this]⟩⟩
theorem jM {fn:Func} {R:Value→List Item→Prop} {a i c:Nat} (u:Value) {T E:TypeId} {d:TypeDesc} {z:Value} {s gN b:Nat} {cs:List Value} {fr:Nat×Nat} (hr:fn.results= #[.cell a T,.tmp c]) (hu:P.underlying T=some d) (ha:o4 d=true) (hi:fK P T z s gN) (hp:ρ a=.pointer (some ⟨b,0,none⟩)) (hO:O[i]? =some (dR b (.cells cs.toArray E fr))) (hl:cs.length=s) (TU:ρ c=u)
  (h:R (.tuple #[.agg cs.toArray,u]) O):ru P base fn ρ O R:=
 ⟨⟨_,O,cj (aZ _),h,fun w tmps hI ht=>by
  have:=p_ (P:=P) hu ha hi hl (hI.uZ hO)
  have Mr:=ht a
  have hc:=ht c
  simp only[dp]at Mr hc
  simp[results,hr,Mr,hc,TU,hp,asAddr,this]⟩⟩
end
end Go.Lx

namespace Go.Lx
open Go.RowKit
def dt:List (Nat×Value)→Env→Prop
 | [],_=>True
 |q::L,ρ=>ρ q.1=q.2∧dt L ρ
def BD (L:List (Nat×Value)) (ρ:Env):Env:=L.foldr (fun q r=>oX r q.1 q.2) ρ
theorem dt.of {ρ:Env}: ∀ {L:List (Nat×Value)},L.map (fun q=>ρ q.1)=L.map (·.2)→dt L ρ
 | [],_=>trivial
 |_::_,h=>⟨(List.cons.inj h).1,dt.of (List.cons.inj h).2⟩
theorem wY {ρ:Env}: ∀ {L:List (Nat×Value)},dt L ρ→BD L ρ=ρ
 | [],_=>rfl
 |q::L,h=>by
  have ih:=wY h.2
  show oX (BD L ρ) q.1 q.2=ρ
  rw[ih]
  funext t
  unfold oX
  cases e:Nat.beq t q.1 with
  |false=>rfl
  |true=>rw[Nat.eq_of_beq_eq_true e];exact h.1.symm
theorem dt.elim {L:List (Nat×Value)} {ρ:Env} (h:dt L ρ): ∃gP,ρ=BD L gP:=⟨ρ,(wY h).symm⟩
abbrev ints (xs:List Int):List Value:=xs.map (Value.int .i64)
abbrev bU (xs:List Nat):List Value:=xs.map fun x:Nat=>Value.int .i64 (x:Int)
abbrev cE (xs:List Bool):List Value:=xs.map Value.bool
abbrev Ai (xs:List Nat):List Value:=xs.map fun x:Nat=>Value.int .u8 (x:Int)
theorem gI {xs:List Int} {k:Nat} (h:k<xs.length:=by first|assumption|omega|(simp;omega)|simp_all):(ints xs)[k]? =some (.int .i64 xs[k]):=by simp[h]
theorem ij {xs:List Nat} {k:Nat} (h:k<xs.length:=by first|assumption|omega|(simp;omega)|simp_all):(bU xs)[k]? =some (.int .i64 ((xs[k]:Nat):Int)):=by simp[h]
theorem iy {xs:List Bool} {k:Nat} (h:k<xs.length:=by first|assumption|omega|(simp;omega)|simp_all):(cE xs)[k]? =some (.bool xs[k]):=by simp[h]
theorem BE {xs:List Nat} {k:Nat} (h:k<xs.length:=by first|assumption|omega|(simp;omega)|simp_all):(Ai xs)[k]? =some (.int .u8 ((xs[k]:Nat):Int)):=by simp[h]
def qa (P:Program) (T:TypeId) (pl:List (Nat×Nat)):Prop:=
 ∃fields,P.underlying T=some (.struct fields)∧ ∀w:World,(fields.mapM fun f=>do pure (f.offset,←sizeOf f.type):Sem (Array (Nat×Nat))).run P w=.ok pl.toArray w
section
variable {P:Program} {base:World} {ρ:Env} {O:List Item} {dst:Option Nat} {t:TypeId} {p:String} {af:Array Edge} {g:Option (Nat×Bool)}
theorem y9 {x y:Operand} {T E:TypeId} {b o n c i:Nat} {k:IntKind} {z:Value} {gN:Nat} (hu:P.underlying T=some (.slice E)) (hi:fK P E z 1 gN) (hx:ev ρ x=.slice (some ⟨b,o,none⟩) n c) (hy:ev ρ y=.int k (i:Int)) (gn:i<n):
  QT P base ⟨dst,.indexAddr T x y,t,p,af,g⟩ ρ O (.pointer (some ⟨b,o+i,none⟩)):=by
 have:=uY (P:=P) (base:=base) (O:=O) (dst:=dst) (t:=t) (p:=p) (af:=af) (g:=g) hu hi hx hy gn
 rwa[Nat.mul_one]at this
theorem cg {c a b:Operand} {v:Value} (hc:ev ρ c=.bool true) (ha:ev ρ a=v):QT P base ⟨dst,.pick c a b,t,p,af,g⟩ ρ O v:=fun w _=>by simp[execOp,hc,ha,asBool]
theorem b_ {c a b:Operand} {v:Value} (hc:ev ρ c=.bool false) (hb:ev ρ b=v):QT P base ⟨dst,.pick c a b,t,p,af,g⟩ ρ O v:=fun w _=>by simp[execOp,hc,hb,asBool]
theorem cF {T:TypeId} {parts:List (Nat×Operand)} {pl:List (Nat×Nat)} {z:Value} {s gN:Nat} {cs:List Value} (hp:qa P T pl) (hi:fK P T z s gN) (hf:Instr.fill (fun i=>pl[i]?) z.cells (parts.map fun q=>(q.1,ev ρ q.2))=some cs.toArray):
  QT P base ⟨dst,.build T parts.toArray,t,p,af,g⟩ ρ O (.agg cs.toArray):=fun w _=>by
 obtain⟨fields,hu,hm⟩:=hp
 have X3:Instr.fill (fun i=>pl.toArray[i]?) z.cells (parts.map fun q=>(q.1,ev ρ q.2))=some cs.toArray:=by simpa using hf
 simp only[execOp,Instr.build,Sem.run_bind,gJ hi,Result.andThen_ok,bH hu,hm w]
 simp at X3
 simp[X3]
end
end Go.Lx

namespace Go.Lx
open Go.RowKit
theorem aA {P:Program} {base:World} {o:Oper} {ρ:Env} {O:List Item} {b b':Bool} (h:QT P base o ρ O (.bool b)) (e:b=b'):QT P base o ρ O (.bool b'):=e▸h
def nZ (w:World) (vs:List Value) (rs:List (List Int)):Prop:=
 vs.length=rs.length∧ ∀(i:Nat) (r:List Int),rs[i]? =some r→ ∃b c,vs[i]? =some (Value.slice b r.length c)∧Sl w b (ints r)
theorem nZ.get {w:World} {vs:List Value} {rs:List (List Int)} (h:nZ w vs rs) {i:Nat} (hi:i<rs.length): ∃b c,vs[i]? =some (Value.slice b rs[i].length c)∧Sl w b (ints rs[i]):=
 h.2 i rs[i] (ap hi)
theorem nZ.keep {w w':World} {vs:List Value} {rs:List (List Int)} (h:nZ w vs rs) (hb: ∀k,k<w.heap.size→w'.heap[k]? =w.heap[k]?):nZ w' vs rs:=
 ⟨h.1,fun i r hr=>by obtain⟨b,c,h1,h2⟩:=h.2 i r hr;exact⟨b,c,h1,h2.keep hb⟩⟩
theorem Inv.rows {base:World} {O:List Item} {w:World} (hI:Inv base O w) {vs:List Value} {rs:List (List Int)} (h:nZ base vs rs):nZ w vs rs:=h.keep hI.below.block
structure Rec where
 b:Option Addr
 c:Nat
 xs:List Int
def Rec.val (q:Rec):Value:=.slice q.b q.xs.length q.c
def Rec.sM (E:TypeId) (q:Rec):Item:=aq q.b q.c E 1 (ints q.xs)
abbrev dl (qs:List Rec):List Value:=qs.map Rec.val
abbrev ce (E:TypeId) (qs:List Rec):List Item:=qs.map (Rec.sM E)
abbrev nums (qs:List Rec):List (List Int):=qs.map Rec.xs
theorem Inv.US {base:World} {O:List Item} {w:World} (hI:Inv base O w) {E:TypeId} {qs:List Rec} (h: ∀q∈qs,q.sM E∈O):nZ w (dl qs) (nums qs):=by
 refine⟨by simp,fun i r hr=>?_⟩
 obtain⟨q,hq,rfl⟩: ∃q,qs[i]? =some q∧q.xs=r:=by
  rw[bq]at hr
  cases e:qs[i]? with
  |none=>rw[e]at hr;cases hr
  |some q=>rw[e]at hr;exact⟨q,F,by simpa using hr⟩
 refine⟨q.b,q.c,by simp[hq,Rec.val],?_⟩
 exact rowP.sl (hI.holds _ (h q (bS hq)))
theorem Inv.gW {base:World} {O:List Item} {w:World} (hI:Inv base O w) {b:Option Addr} {c:Nat} {T:TypeId} {k:Nat} {cs:List Value} (h:aq b c T k cs∈O):Sl w b cs:=rowP.sl (hI.holds _ h)
section
variable {P:Program} {r:Option Nat} {base:World} {n:Nat} {ρ:Env} {O:List Item} {K:Env→List Item→Prop} {d:Nat} {t:TypeId} {p:String} {af:Array Edge} {g:Option (Nat×Bool)} {dst:Option Nat}
theorem cO {T E:TypeId} {x:Operand} {v:Value} {z:Value} {gN:Nat} (hu:P.underlying T=some (.slice E)) (hi:fK P E z 1 gN) (_hz:z.cells.size=1) (hx:ev ρ x=v) (hv:fu v=true)
  (h: ∀b,K (oX ρ d (.slice (some ⟨b,0,none⟩) 1 1)) (aq (some ⟨b,0,none⟩) 1 E 1 [v]::O)) (hn:Nat.blt d n=true:=by rfl):LT P r base n ⟨some d,.buildSlice T 1 #[(0,x)],t,p,af,g⟩ ρ O K:=by
 refine cH (parts:=[(0,x)]) (cs:=[v]) hu hi (by omega) ?_ (by simp) h hn
 have hc:v.cells= #[v]:=by cases v<;>simp_all[fu,Value.cells]
 simp[Instr.fill,hx,hc]
 apply Array.ext_getElem?
 intro i
 cases i with
 |zero=>simp
 |succ i=>simp
end
structure cM where
 vars:Int
 start:Int
 next:List (List Int)
 aV:List Bool
 deriving DecidableEq
structure ii (w:World) (d:cM) (nb:Option Addr) (vs:List Value) (fb:Option Addr):Prop where
 outer:Sl w nb vs
 rows:nZ w vs d.next
 aV:Sl w fb (cE d.aV)
theorem ii.keep {w w':World} {d:cM} {nb:Option Addr} {vs:List Value} {fb:Option Addr} (h:ii w d nb vs fb) (hb: ∀k,k<w.heap.size→w'.heap[k]? =w.heap[k]?):ii w' d nb vs fb:=
 ⟨h.outer.keep hb,h.rows.keep hb,h.aV.keep hb⟩
theorem Inv.BF {base:World} {O:List Item} {w:World} (hI:Inv base O w) {d:cM} {nb:Option Addr} {vs:List Value} {fb:Option Addr} (h:ii base d nb vs fb):ii w d nb vs fb:=h.keep hI.below.block
abbrev eG (d:cM) (nb:Option Addr) (nc:Nat) (fb:Option Addr) (fc:Nat):List Value:=[.int .i64 d.vars,.int .i64 d.start,.slice nb d.next.length nc,.slice fb d.aV.length fc]
end Go.Lx

namespace Go.Lx
def uV (n:Nat) (r:List Int):Bool:=r.all fun x=>decide (0≤x)&&decide (x<(n:Int))
def sO (L n:Nat):List (List Int)→Nat
 | []=>0
 |r::rs=>if r.length≠L then 2 else if uV n r=true then sO L n rs else 8
def cX (d:cM):Nat:=
 if¬(0≤d.vars∧d.vars≤6)then 7
 else if d.next.length=0 then 3
 else if 4096<d.next.length then 4
 else if d.aV.length≠d.next.length then 2
 else if d.start<0∨(d.next.length:Int)≤d.start then 8
 else sO (2^d.vars.toNat) d.next.length d.next
theorem sP {L n:Nat} {rs:List (List Int)} {k:Nat} (hk:k<rs.length):sO L n (rs.drop k)=if rs[k].length≠L then 2 else if uV n rs[k]=true then sO L n (rs.drop (k+1))else 8:=by
 rw[List.drop_eq_getElem_cons hk];rfl
theorem G8 {L n:Nat} {rs:List (List Int)} {k:Nat} (hk:rs.length≤k):sO L n (rs.drop k)=0:=by
 rw[List.drop_eq_nil_of_le hk];rfl
structure Val (d:cM):Prop where
 v0:0≤d.vars
 v6:d.vars≤6
 n0:0<d.next.length
 fin:d.aV.length=d.next.length
 s0:0≤d.start
 s1:d.start<(d.next.length:Int)
 len: ∀r∈d.next,r.length=2^d.vars.toNat
 ok: ∀r∈d.next,∀x∈r,0≤x∧x<(d.next.length:Int)
structure Valid (d:cM):Prop extends Val d where
 n4:d.next.length≤4096
instance {d:cM}:Coe (Valid d) (Val d):=⟨Valid.toVal⟩
theorem sG {L n:Nat}: ∀ {rs:List (List Int)},sO L n rs=0↔(∀r∈rs,r.length=L)∧ ∀r∈rs,∀x∈r,0≤x∧x<(n:Int)
 | []=>by simp[sO]
 |r::rs=>by
  have ih:=sG (L:=L) (n:=n) (rs:=rs)
  simp only[sO]
  by_cases h:r.length=L
  ·by_cases h2:uV n r=true
   ·simp only[h,ne_eq,not_true_eq_false,if_false,h2,if_true,ih,df,forall_eq_or_imp,true_and]
    have h3: ∀x∈r,0≤x∧x<(n:Int):=by simpa[uV]using h2
    exact⟨fun q=>⟨q.1,h3,q.2⟩,fun q=>⟨q.1,q.2.2⟩⟩
   ·simp only[h,ne_eq,not_true_eq_false,if_false,h2]
    refine⟨fun q=>by simp at q,fun q=>(h2 ?_).elim⟩
    have:=q.2 r (by simp)
    simpa[uV]using this
  ·simp only[ne_eq,h,not_false_eq_true,if_true]
   exact⟨fun q=>by simp at q,fun q=>(h (q.1 r (by simp))).elim⟩
theorem dO {d:cM}:cX d=0↔Valid d:=by
 unfold cX
 constructor
 ·intro h
  split at h;·cases h
  split at h;·cases h
  split at h;·cases h
  split at h;·cases h
  split at h;·cases h
  rename_i h1 h2 h3 h4 h5
  obtain⟨h6,h7⟩:=sG.1 h
  simp only[Classical.not_not]at h1 h4
  exact⟨⟨h1.1,h1.2,by omega,h4,by omega,by omega,h6,h7⟩,by omega⟩
 ·intro h
  rw[ay (by have:=h.v0;have:=h.v6;simp;omega),ay (by have:=h.n0;omega),ay (by have:=h.n4;omega),ay (by simp[h.fin]),ay (by have:=h.s0;have:=h.s1;omega)]
  exact sG.2 ⟨h.len,h.ok⟩
theorem Val.width {d:cM} (h:Val d):2^d.vars.toNat≤64:=
 bE (bO (by omega) (show d.vars.toNat≤6 by have:=h.v0;have:=h.v6;omega)) (by decide)
theorem Val.wM {d:cM} (h:Val d): ∀r∈d.next,r.length<9223372036854775807:=fun r hr=>by
 have:=h.len r hr;have:=h.width;omega
end Go.Lx

namespace Go.Lx
open Go.RowKit
noncomputable def one (a b:Item):Nat:=open Classical in if b=a then 1 else 0
noncomputable def wg (a:Item):List Item→Nat
 | []=>0
 |b::l=>one a b+wg a l
theorem Fm (a:Item):wg a []=0:=rfl
theorem n6 (a b:Item) (l:List Item):wg a (b::l)=one a b+wg a l:=rfl
theorem o8 (a:Item) (l m:List Item):wg a (l++m)=wg a l+wg a m:=by
 induction l with
 |nil=>simp[wg]
 |cons b l ih=>rw[cJ,n6,ih,n6];omega
theorem M7 {a:Item} {l:List Item} (h:0<wg a l): ∃l1 l2,l=l1++a::l2:=by
 induction l with
 |nil=>simp[wg]at h
 |cons b l ih=>
  by_cases e:b=a
  ·subst e;exact⟨[],l,F⟩
  ·obtain⟨l1,l2,rfl⟩:=ih (by simpa[wg,one,e]using h)
   exact⟨b::l1,l2,F⟩
theorem u0: ∀ {l m:List Item},(∀a,wg a l=wg a m)→l.Perm m
 | [],m,h=>by
  cases m with
  |nil=>exact List.Perm.refl _
  |cons b m=>have:=h b;simp[wg,one]at this;omega
 |b::l,m,h=>by
  obtain⟨m1,m2,rfl⟩:=M7 (a:=b) (l:=m) (by rw[←h b];simp[wg,one];omega)
  have h': ∀a,wg a l=wg a (m1++m2):=fun a=>by
   have:=h a
   rw[n6,o8,n6]at this
   rw[o8];omega
  exact(List.Perm.cons b (u0 h')).trans List.perm_middle.symm
theorem Sub.wg {O' O:List Item} (D:List Item) (h: ∀a,Lx.wg a (O'++D)=Lx.wg a O):Sub O' O:=by
 have hp:=u0 h
 obtain⟨l,h1,h2⟩:=List.exists_perm_sublist (List.sublist_append_left O' D) hp
 exact⟨l,h1.symm,h2⟩
def Jd:List Item→Nat→List Item
 | [],_=>[]
 |a::_,0=>[a]
 |_::l,i+1=>Jd l i
def sV:List Item→Nat→List Item
 | [],_=>[]
 |_::l,0=>l
 |a::l,i+1=>a::sV l i
def wZ:List Nat→List Item→List Item
 | [],_=>[]
 |i::is,L=>Jd L i++wZ is (sV L i)
def y_:List Nat→List Item→List Item
 | [],L=>L
 |i::is,L=>y_ is (sV L i)
theorem zg: ∀(L:List Item) (i:Nat),(Jd L i++sV L i).Perm L
 | [],i=>List.Perm.refl _
 |a::l,0=>List.Perm.refl _
 |a::l,i+1=>by
  have ih:=zg l i
  show(Jd l i++a::sV l i).Perm (a::l)
  exact List.perm_middle.trans (List.Perm.cons a ih)
theorem q7: ∀(is:List Nat) (L:List Item),(wZ is L++y_ is L).Perm L
 | [],L=>List.Perm.refl _
 |i::is,L=>by
  show((Jd L i++wZ is (sV L i))++y_ is (sV L i)).Perm L
  rw[aI]
  exact((q7 is (sV L i)).append_left _).trans (zg L i)
theorem nN {O' D O:List Item} (h:(O'++D).Perm O):Sub O' O:=by
 obtain⟨l,h1,h2⟩:=List.exists_perm_sublist (List.sublist_append_left O' D) h
 exact⟨l,h1.symm,h2⟩
theorem aC (is:List Nat) {L O':List Item} (h:wZ is L=O'):Sub O' L:=h▸nN (q7 is L)
theorem kx (is:List Nat) (L R:List Item) {O' O:List Item} (h:wZ is L++R=O') (h2:L++R=O):Sub O' O:=by
 subst h;subst h2;exact(aC is F).oM
theorem fp (is:List Nat) (L R:List Item) {O' O:List Item} (h:wZ is L=O') (h2:L++R=O):Sub O' O:=by
 subst h;subst h2;exact nN (D:=y_ is L++R) (by rw[←aI];exact(q7 is L).append_right R)
section
variable {X:PX} {P:Program} {r:Option Nat} {base:World} {n:Nat} {ρ:Env} {O O' S:List Item} {K:Env→List Item→Prop} {ops:Array Oper} {l:List Oper} {tail:List Nat} {od:List (Nat×Nat)}
theorem ef (hs:Sub O' O) (h:TO X P r base n ops l K ρ O'):TO X P r base n ops l K ρ O:=fun Q a w M D hk ha hi=>h Q a w M D hk ha (hi.j_ hs.oM)
theorem eW {S2:List Item} {dq:List Nat} (hs:Sub O' O) (h:DO X P r base n ops S tail S2 dq od K ρ O'):DO X P r base n ops S tail S2 dq od K ρ O:=
 fun h1 lx h3 listed h4 Q a w M D hq hp ha hI n3 hS=>h h1 lx h3 listed h4 Q a w M D hq hp ha (hI.j_ hs.oM) n3 hS
theorem cd.sub {f:FuncId} {args:List Value} {R:Value→List Item→Prop} (hs:Sub O' O) (h:cd P base f args O' R):cd P base f args O R:=fun w M hI=>h w M (hI.j_ hs.oM)
end
end Go.Lx

namespace Go.Lx
open Go.RowKit
section
variable {P:Program} {base:World} {ρ:Env} {O:List Item} {dst:Option Nat} {t:TypeId} {p:String} {af:Array Edge} {g:Option (Nat×Bool)}
theorem UT {x y:Operand} {T U:TypeId} {k k':IntKind} {a b:Int} (hx:ev ρ x=.int k a) (hy:ev ρ y=.int k' b) (h0:0≤b):QT P base ⟨dst,.binOp .shl T x y U,t,p,af,g⟩ ρ O (.int k (k.wrap (a*2^(min b.toNat k.bits)))):=fun w _=>by
 have: ¬b<0:=by omega
 simp[execOp,hx,hy,eqGuard,binOp,Op.shift,this]
theorem nL {x y:Operand} {T U:TypeId} {k':IntKind} {v:Nat} (hx:ev ρ x=.int .i64 1) (hy:ev ρ y=.int k' (v:Int)) (hv:v≤60):QT P base ⟨dst,.binOp .shl T x y U,t,p,af,g⟩ ρ O (.int .i64 ((2^v:Nat):Int)):=by
 have h:=UT (P:=P) (base:=base) (O:=O) (dst:=dst) (t:=t) (p:=p) (af:=af) (g:=g) (T:=T) (U:=U) hx hy (by omega)
 have e:min (v:Int).toNat (IntKind.i64.bits)=v:=by
  have:IntKind.i64.bits=64:=rfl
  rw[this];simp;omega
 rw[e]at h
 have Fj:(2:Nat)^v≤2^60:=bO (by omega) hv
 have h60:(2:Nat)^60=1152921504606846976:=by rfl
 have e2:(1:Int)*2^v=((2^v:Nat):Int):=by rw[Int.one_mul,Int.natCast_pow];rfl
 rw[e2]at h
 rw[h60]at Fj
 generalize(2:Nat)^v=q at*
 rwa[gO (by omega)]at h
theorem Un {x y:Operand} {yC:Array TypeId} {k k':IntKind} {a b:Int} (hx:ev ρ x=.int k a) (hy:ev ρ y=.int k' b):QT P base ⟨dst,.call ⟨.builtin .min,#[x,y],yC⟩,t,p,af,g⟩ ρ O (.int k (if b<a then b else a)):=fun w _=>by
 simp[execOp,resolve,hx,hy,invoke,builtin,Builtin.min_,Builtin.min2]
theorem Uo {x y:Operand} {yC:Array TypeId} {k k':IntKind} {a b:Int} (hx:ev ρ x=.int k a) (hy:ev ρ y=.int k' b):QT P base ⟨dst,.call ⟨.builtin .max,#[x,y],yC⟩,t,p,af,g⟩ ρ O (.int k (if b>a then b else a)):=fun w _=>by
 simp[execOp,resolve,hx,hy,invoke,builtin,Builtin.max_,Builtin.max2]
def str (l:List UInt8):Value:=.string ⟨l.toArray⟩
theorem w0 {x:Operand} {T:TypeId} {l:List UInt8} (hu:P.underlying T=some .string) (hx:ev ρ x=str l):QT P base ⟨dst,.call ⟨.builtin .len,#[x],#[T]⟩,t,p,af,g⟩ ρ O (.int .i64 (l.length:Int)):=fun w _=>by
 have e:(ByteArray.mk l.toArray).size=l.length:=by show l.toArray.size=_;simp
 simp[execOp,resolve,hx,str,invoke,builtin,Builtin.len_,bH hu,goInt,e]
abbrev di (l:List UInt8):List Value:=l.map fun b:UInt8=>Value.int .u8 (b.toNat:Int)
theorem w3 (l:List UInt8):((di l).all fu)=true:=by simp[fu]
theorem M8 {w:World} {b:Option Addr} {n c:Nat} {l:List UInt8} (h:Sl w b (di l)) (hl:l.length=n):(Conv.bytesToString (.slice b n c)).run P w=.ok (str l) w:=by
 subst hl
 cases b with
 |none=>
  have:l=[]:=by
   cases l with
   |nil=>rfl
   |cons a l=>obtain⟨_,h1,_⟩:=h 0 (by simp);cases h1
  subst this;rfl
 |some a=>
  obtain⟨k,o,sp⟩:=a
  have hl:=iS (P:=P) (c:=c) (m:=l.length) (s:=1) h (by simp) (by simp)
  simp only[Builtin.firstCells,Nat.mul_one]at hl
  have fold: ∀(l:List UInt8) (iI:ByteArray),List.foldl (fun(b:ByteArray) (a:UInt8)=>ByteArray.mk (b.data.push a)) iI l=⟨(iI.data.toList++l).toArray⟩:=by
   intro l
   induction l with
   |nil=>intro iI;simp
   |cons b l ih=>intro iI;rw[cV,ih];simp
  simp only[Conv.bytesToString,Sem.run_bind,hl,Result.andThen_ok]
  simp[di,ByteArray.push,fold,str]
theorem BG {x:Operand} {S D E:TypeId} {b:Option Addr} {n c c' k:Nat} {l:List UInt8} (hs:P.underlying S=some (.slice E)) (hd:P.underlying D=some .string) (he:P.underlying E=some (.int .u8)) (hx:ev ρ x=.slice b n c)
  (hO:aq b c' E k (di l)∈O) (hl:l.length=n):QT P base ⟨dst,.convert S D x,t,p,af,g⟩ ρ O (str l):=fun w hI=>by
 simp[execOp,hx,convert,bH hs,bH hd,bH he,M8 (hI.gW hO) hl]
def Q7 {α β:Type} (K:α→Value) (V:β→Value) (m:Nat) (l:List (α×β)) (w:World):Prop:=
 ∃es yo,w.heap[m]? =some (.map es yo)∧es.toList.map (fun e=>(e.key,e.val))=(l.map fun q=>(K q.1,V q.2))∧(es.toList.map (·.born)).Nodup∧ ∀e∈es.toList,e.born<yo
def dz {α β:Type} (K:α→Value) (V:β→Value) (m:Nat) (l:List (α×β)):Item where
 blocks:=[m]
 P:=Q7 K V m l
 loc:=fun w w' h hp=>by
  obtain⟨es,yo,h1,h2⟩:=hp
  exact⟨es,yo,by rw[h m (by simp)];exact h1,h2⟩
def lj {α:Type} [DecidableEq α] (a:α):List α→List MapEntry→Nat→Option (Nat×Value)
 |k::ks,e::es,i=>if a=k then some (i,e.val)else lj a ks es (i+1)
 |_,_,_=>none
structure gB (P:Program) {α:Type} [DecidableEq α] (kt:TypeId) (K:α→Value):Prop where
 check: ∀e a w,(Instr.checkKey e 10000 kt (K a)).run P w=.ok () w
 find: ∀(es:List MapEntry) (ks:List α) (a:α) (w:World),es.map (·.key)=ks.map K→(Instr.findKey kt (K a) es).run P w=.ok (lj a ks es 0) w
theorem Je (a b:List UInt8):((⟨a.toArray⟩:ByteArray)==⟨b.toArray⟩)=decide (a=b):=by
 show(a.toArray==b.toArray)=_
 by_cases e:a=b
 ·subst e;simp
 ·simp[e]
theorem gB.string {kt:TypeId} (hu:P.underlying kt=some .string):gB P kt str where
 check:=fun e a w=>by
  show(Instr.checkKey e (9999+1) kt _).run P w=_
  rw[Instr.checkKey]
  simp[bH hu,str]
 find:=fun es ks a w h=>by
  have key: ∀(es:List MapEntry) (ks:List (List UInt8)) (i:Nat),es.map (·.key)=ks.map str→Instr.findNow .string (str a) es i=some (lj a ks es i):=by
   intro es
   induction es with
   |nil=>intro ks i h;cases ks<;>simp_all[Instr.findNow,lj]
   |cons e es ih=>
    intro ks i h
    cases ks with
    |nil=>simp at h
    |cons b ks=>
     simp only[cD,List.cons.injEq]at h
     simp only[Instr.findNow,h.1,Instr.sameNow,str,Je,lj]
     by_cases e:a=b
     ·simp[e]
     ·have:=ih ks (i+1) h.2
      simp only[str]at this
      simp[e,this]
  simp[Instr.findKey,bH hu,key es ks 0 h]
theorem w4 {α:Type} [DecidableEq α] {a:α}: ∀(ks:List α) (es:List MapEntry) (i:Nat),a∉ks→lj a ks es i=none
 | [],_,_,_=>rfl
 |k::ks,[],_,_=>rfl
 |k::ks,e::es,i,h=>by
  simp only[df,not_or]at h
  simp[lj,h.1,w4 ks es (i+1) h.2]
def lT {α β:Type} [DecidableEq α] (a:α):List (α×β)→Option β
 | []=>none
 |q::l=>if a=q.1 then some q.2 else lT a l
theorem w5 {α β:Type} [DecidableEq α] {K:α→Value} {V:β→Value} {a:α}: ∀(l:List (α×β)) (es:List MapEntry) (i:Nat),es.map (fun e=>(e.key,e.val))=l.map (fun q=>(K q.1,V q.2))→(lj a (l.map Prod.fst) es i).map Prod.snd=(lT a l).map V
 | [],es,i,h=>by cases es<;>rfl
 |q::l,[],i,h=>by simp at h
 |q::l,e::es,i,h=>by
  simp only[cD,List.cons.injEq,Prod.mk.injEq]at h
  simp only[cD,lj,lT]
  by_cases e:a=q.1
  ·simp[e,h.1.2]
  ·simp only[e,if_false];exact w5 l es (i+1) h.2
theorem Fo {α β:Type} {K:α→Value} {V:β→Value} {es:List MapEntry} {l:List (α×β)} (h:es.map (fun e=>(e.key,e.val))=l.map (fun q=>(K q.1,V q.2))):es.map (·.key)=(l.map Prod.fst).map K:=by
 have:=ax (List.map Prod.fst) h
 simpa[Function.comp_def]using this
theorem qd {x:Operand} {T kt vt:TypeId} {m:Nat} {α β:Type} {K:α→Value} {V:β→Value} {l:List (α×β)} (hu:P.underlying T=some (.map kt vt)) (hx:ev ρ x=.map (some m)) (hO:dz K V m l∈O):
  QT P base ⟨dst,.call ⟨.builtin .len,#[x],#[T]⟩,t,p,af,g⟩ ρ O (.int .i64 (l.length:Int)):=fun w hI=>by
 obtain⟨es,yo,h1,h2,_⟩:=hI.holds _ hO
 have hl:es.size=l.length:=by have:=ax List.length h2;simpa using this
 simp[execOp,resolve,hx,invoke,builtin,Builtin.len_,bH hu,getObj,Sem.run,h1,goInt,hl]
theorem w6 {T kt vt:TypeId} {m:Nat} {α β:Type} [DecidableEq α] {K:α→Value} {V:β→Value} {l:List (α×β)} {z:Value} {s gN:Nat} {w:World} (hu:P.underlying T=some (.map kt vt)) (hz:fK P vt z s gN) (hk:gB P kt K) (h:Q7 K V m l w) (a:α) (ok:Bool):
  (Instr.lookup T (.map (some m)) (K a) ok).run P w=.ok (if ok then .tuple #[((lT a l).map V).getD z,.bool (lT a l).isSome]else((lT a l).map V).getD z) w:=by
 obtain⟨es,yo,h1,h2,h3,h4⟩:=h
 have hf:=hk.find es.toList (l.map Prod.fst) a w (Fo h2)
 have hl:=w5 (a:=a) l es.toList 0 h2
 have hg:(getObj m).run P w=.ok (.map es yo) w:=by simp[getObj,Sem.run,h1]
 simp only[Instr.lookup,Sem.run_bind,bH hu,Result.andThen_ok,hg,Sem.run_pure,hk.check,hf]
 cases e:lj a (l.map Prod.fst) es.toList 0 with
 |none=>
  rw[e]at hl
  have:lT a l=none:=by cases e2:lT a l with|none=>rfl|some v=>rw[e2]at hl;cases hl
  simp[gJ hz,this]
 |some q=>
  rw[e]at hl
  obtain⟨i,v⟩:=q
  cases e2:lT a l with
  |none=>rw[e2]at hl;cases hl
  |some u=>
   rw[e2]at hl
   simp at hl
   simp[hl]
theorem qe {x y:Operand} {T kt vt:TypeId} {m:Nat} {α β:Type} [DecidableEq α] {K:α→Value} {V:β→Value} {l:List (α×β)} {z:Value} {s gN:Nat} {a:α} (hu:P.underlying T=some (.map kt vt)) (hz:fK P vt z s gN) (hk:gB P kt K)
  (hx:ev ρ x=.map (some m)) (hy:ev ρ y=K a) (hO:dz K V m l∈O):QT P base ⟨dst,.lookup T x y false,t,p,af,g⟩ ρ O (((lT a l).map V).getD z):=fun w hI=>by
 have:=w6 hu hz hk (hI.holds _ hO) a false
 simp[execOp,hx,hy,this]
theorem jD {x y:Operand} {T kt vt:TypeId} {m:Nat} {α β:Type} [DecidableEq α] {K:α→Value} {V:β→Value} {l:List (α×β)} {z:Value} {s gN:Nat} {a:α} (hu:P.underlying T=some (.map kt vt)) (hz:fK P vt z s gN) (hk:gB P kt K)
  (hx:ev ρ x=.map (some m)) (hy:ev ρ y=K a) (hO:dz K V m l∈O):QT P base ⟨dst,.lookup T x y true,t,p,af,g⟩ ρ O (.tuple #[((lT a l).map V).getD z,.bool (lT a l).isSome]):=fun w hI=>by
 have:=w6 hu hz hk (hI.holds _ hO) a true
 simp[execOp,hx,hy,this]
end
section
variable {P:Program} {r:Option Nat} {base:World} {n:Nat} {ρ:Env} {O:List Item} {K':Env→List Item→Prop} {d:Nat} {t:TypeId} {p:String} {af:Array Edge} {g:Option (Nat×Bool)}
theorem lz {T:TypeId} {α β:Type} (K:α→Value) (V:β→Value) (h: ∀m,K' (oX ρ d (.map (some m))) (dz K V m []::O)) (hn:Nat.blt d n=true:=by rfl):LT P r base n ⟨some d,.makeMap T none,t,p,af,g⟩ ρ O K':=
 ja hn fun w M hI=>⟨.map (some w.heap.size),w.alloc (.map #[] 0),_,by simp[execOp,Instr.makeMap],by
  refine Inv.new (O:=O++M) (N:=[dz K V w.heap.size []]) (w':=w.alloc (.map #[] 0)) hI F F F (by simp) (fun b hb=>Below.heap_alloc w _ b hb) ?_ ?_ (by simp[dz])
  ·intro x hx
   simp at hx;subst hx
   exact⟨#[],0,by show(w.heap.push _)[w.heap.size]? =_;simp,F,by simp,by simp⟩
  ·intro x hx b hb
   simp at hx;subst hx
   simp[dz]at hb;subst hb
   simp,h _⟩
theorem Fp {T kt vt:TypeId} {m:Nat} {α β:Type} [DecidableEq α] {K:α→Value} {V:β→Value} {l:List (α×β)} {w:World} {a:α} {v:β} (hu:P.underlying T=some (.map kt vt)) (hk:gB P kt K) (h:Q7 K V m l w) (w7:a∉l.map Prod.fst):
  ∃es yo,(Instr.mapUpdate T (.map (some m)) (K a) (V v)).run P w=.ok () (jL w m (.map es yo))∧es.toList.map (fun e=>(e.key,e.val))=((l++[(a,v)]).map fun q=>(K q.1,V q.2))∧(es.toList.map (·.born)).Nodup∧ ∀e∈es.toList,e.born<yo:=by
 obtain⟨es,yo,h1,h2,h3,h4⟩:=h
 have hf:=hk.find es.toList (l.map Prod.fst) a w (Fo h2)
 rw[w4 _ _ _ w7]at hf
 have hg:(getObj m).run P w=.ok (.map es yo) w:=by simp[getObj,Sem.run,h1]
 have hs: ∀o,(setObj m o).run P w=.ok () (jL w m o):=fun o=>by simp[setObj,Sem.run,h1,jL]
 refine⟨es.push {key:=K a,val:=V v,born:=yo},yo+1,?_,by simp[h2],?_,?_⟩
 rotate_left
 ·simp only[Array.toList_push,bo,cD,fz,List.nodup_append]
  refine⟨h3,by simp,fun x hx y hy e=>?_⟩
  obtain⟨z,hz,rfl⟩:=List.mem_map.1 hx
  simp at hy;have:=h4 z hz;omega
 ·intro e he
  simp only[Array.toList_push,jr,db]at he
  rcases he with he|rfl
  ·have:=h4 e he;omega
  ·simp
 simp only[Instr.mapUpdate,Sem.run_bind,bH hu,Result.andThen_ok,hg,hk.check,hf,hs]
theorem Inv.Jf {w:World} {M:List Item} {α β:Type} {K:α→Value} {V:β→Value} {m i:Nat} {l l':List (α×β)} (hI:Inv base (O++M) w) (hO:O[i]? =some (dz K V m l)) {es:Array MapEntry} {yo:Nat} (h:es.toList.map (fun e=>(e.key,e.val))=(l'.map fun q=>(K q.1,V q.2))∧(es.toList.map (·.born)).Nodup∧ ∀e∈es.toList,e.born<yo):
  Inv base (O.set i (dz K V m l')++M) (jL w m (.map es yo)):=by
 obtain⟨es0,adi,h1,_,_⟩:=hI.holds (dz K V m l) (aQ _ (bS hO))
 have gn:=(Array.getElem?_eq_some_iff.1 h1).1
 rw[←o5 hO]
 exact hI.rU (mP hO) F F F (by rw[uh];exact a8 _) (fun k _ hk=>rY (fun e=>hk (by simp[dz,e]))) ⟨es,yo,ly gn,h⟩ (fun k hk=>.inl hk) (by simp[dz])
theorem qf (i:Nat) {x y z:Operand} {T kt vt:TypeId} {m:Nat} {α β:Type} [DecidableEq α] {K:α→Value} {V:β→Value} {l:List (α×β)} {a:α} {v:β} (hu:P.underlying T=some (.map kt vt)) (hk:gB P kt K) (hx:ev ρ x=.map (some m)) (hy:ev ρ y=K a) (hz:ev ρ z=V v)
  (hO:O[i]? =some (dz K V m l)) (w7:a∉l.map Prod.fst) (h:K' ρ (O.set i (dz K V m (l++[(a,v)])))):LT P r base n ⟨none,.mapUpdate T x y z,t,p,af,g⟩ ρ O K':=
 mr fun w M hI=>by
  obtain⟨es,yo,hr,Y2⟩:=Fp (v:=v) hu hk (hI.holds (dz K V m l) (aQ _ (bS hO))) w7
  exact⟨jL w m (.map es yo),_,by simp[execOp,hx,hy,hz,hr],hI.Jf hO Y2,h⟩
theorem fT (i:Nat) {x y z:Operand} {T kt vt:TypeId} {m:Nat} {α β:Type} [DecidableEq α] {K:α→Value} {V:β→Value} {l:List (α×β)} {a:α} {v:β} (hu:P.underlying T=some (.map kt vt)) (hk:gB P kt K) (hx:ev ρ x=.map (some m)) (hy:ev ρ y=K a) (hz:ev ρ z=V v)
  (hO:O[i]? =some (dz K V m l)) (w7:a∉l.map Prod.fst) (h:K' ρ (O.set i (dz K V m (l++[(a,v)])))):LT P r base n ⟨none,.insert T x y z,t,p,af,g⟩ ρ O K':=
 mr fun w M hI=>by
  obtain⟨es,yo,hr,Y2⟩:=Fp (v:=v) hu hk (hI.holds (dz K V m l) (aQ _ (bS hO))) w7
  exact⟨jL w m (.map es yo),_,by simp[execOp,hx,hy,hz,hr],hI.Jf hO Y2,h⟩
end
end Go.Lx

namespace Go.Lx
open Go.RowKit
section
variable {P:Program} {base:World} {ρ:Env} {O:List Item} {dst:Option Nat} {t:TypeId} {p:String} {af:Array Edge} {g:Option (Nat×Bool)}
end
section
variable {P:Program} {r:Option Nat} {base:World} {n:Nat} {ρ:Env} {O:List Item} {K:Env→List Item→Prop} {d:Nat} {t:TypeId} {p:String} {af:Array Edge} {g:Option (Nat×Bool)}
theorem Src.str {s:List UInt8} {m:Nat} (hl:s.length=m):Src P base O 1 m (str s) (di s):=
 ⟨by simp[hl],fun w=>by
  have e:(ByteArray.mk s.toArray).size=m:=by show s.toArray.size=_;simp[hl]
  simp[Lx.str,Builtin.lenOf,e],fun w _=>by
  subst hl
  have e:(ByteArray.mk s.toArray).extract 0 s.length=ByteArray.mk s.toArray:=by
   have:=ByteArray.extract_zero_size (b:=ByteArray.mk s.toArray)
   simpa[ByteArray.size]using this
  simp[Lx.str,Builtin.firstCells,e,di]⟩
theorem zh {T U E:TypeId} {b:Option Addr} {m c l gN:Nat} {x y:Operand} {z:Value} {cs:List Value} {s:List UInt8} (j:Nat)
  (hu:P.underlying T=some (.slice E)) (M2:P.underlying U=some .string) (hi:fK P E z 1 gN) (hz:z.cells.size=1)
  (hx:ev ρ x=.slice b m c) (hy:ev ρ y=str s) (hO:O[j]? =some (aq b c E 1 cs)) (hl:cs.length=m) (hs:s.length=l)
  (sN:(m+l)*gN≤70368744177664) (Pg:gN≤1000000) (Hi:0<gN)
  (h: ∀b' c',K (oX ρ d (.slice b' (m+l) c')) (O.set j (aq b' c' E 1 (cs++di s)))) (hn:Nat.blt d n=true:=by rfl):
  LT P r base n ⟨some d,.call ⟨.builtin .append,#[x,y],#[T,U]⟩,t,p,af,g⟩ ρ O K:=
 ja hn fun w M hI=>by
  obtain⟨b',c',w',hr,nT⟩:=r8 (ty:=t) hu M2 (.inr F) hi hz (mP hO) (by simpa using hl) (by decide) (Src.oM (Src.str hs)) (w3 s) sN Pg Hi hI
  rw[o5 hO]at nT
  refine⟨_,w',_,?_,nT,h b' c'⟩
  simp[execOp,resolve,hx,hy,invoke,builtin,hr]
end
theorem bT {P:Program} {base:World} {o:Oper} {ρ:Env} {O:List Item} {v v':Value} (h:QT P base o ρ O v) (e:v=v'):QT P base o ρ O v':=e▸h
def d_ (b:Option Addr) (i:Nat):Value:=.pointer (b.map fun a=>⟨a.block,a.off+i,none⟩)
theorem aJ {base:World} {O:List Item} {b:Option Addr} {cs:List Value} (h:Sl base b cs): ∀w,Inv base O w→Sl w b cs:=fun _ hI=>hI.sl h
theorem dX {base:World} {O:List Item} {b:Option Addr} {c k:Nat} {E:TypeId} {cs:List Value} (h:aq b c E k cs∈O): ∀w,Inv base O w→Sl w b cs:=fun _ hI=>hI.gW h
section
variable {P:Program} {base:World} {ρ:Env} {O:List Item} {dst:Option Nat} {t:TypeId} {p:String} {af:Array Edge} {g:Option (Nat×Bool)}
theorem dU {x y:Operand} {T E:TypeId} {b:Option Addr} {n c i:Nat} {kk:IntKind} {z:Value} {s gN:Nat} {cs:List Value} (hu:P.underlying T=some (.slice E)) (hi:fK P E z s gN) (hx:ev ρ x=.slice b n c) (hy:ev ρ y=.int kk (i:Int)) (hs: ∀w,Inv base O w→Sl w b cs) (gn:i<n) (hl:i*s<cs.length):
  QT P base ⟨dst,.indexAddr T x y,t,p,af,g⟩ ρ O (d_ b (i*s)):=fun w hI=>by
 obtain⟨bk,o,rfl⟩:=(hs w hI).addr hl
 exact uY hu hi hx hy gn w hI
theorem dZ {x y:Operand} {T E:TypeId} {b:Option Addr} {n c i:Nat} {kk:IntKind} {z:Value} {gN:Nat} {cs:List Value} (hu:P.underlying T=some (.slice E)) (hi:fK P E z 1 gN) (hx:ev ρ x=.slice b n c) (hy:ev ρ y=.int kk (i:Int)) (hs: ∀w,Inv base O w→Sl w b cs) (gn:i<n:=by first|assumption|omega|(simp;omega)|simp_all) (hl:i<cs.length:=by first|omega|(simp;done)|(simp;omega)|(simp_all;done)|(simp_all;omega)):
  QT P base ⟨dst,.indexAddr T x y,t,p,af,g⟩ ρ O (d_ b i):=by
 have:=dU (P:=P) (base:=base) (O:=O) (dst:=dst) (t:=t) (p:=p) (af:=af) (g:=g) hu hi hx hy hs gn (by simpa using hl)
 rwa[Nat.mul_one]at this
theorem Fq {x y:Operand} {T E:TypeId} {b:Option Addr} {n c:Nat} {i:Int} {kk:IntKind} {z:Value} {gN:Nat} {cs:List Value} (hu:P.underlying T=some (.slice E)) (hi:fK P E z 1 gN) (hx:ev ρ x=.slice b n c) (hy:ev ρ y=.int kk i) (hs: ∀w,Inv base O w→Sl w b cs) (h0:0≤i) (gn:i.toNat<n) (hl:i.toNat<cs.length):
  QT P base ⟨dst,.indexAddr T x y,t,p,af,g⟩ ρ O (d_ b i.toNat):=
 dZ hu hi hx (by rw[hy,dn h0]) hs gn hl
theorem c_ {x:Operand} {T:TypeId} {d:TypeDesc} {b:Option Addr} {i:Nat} {cs:List Value} {v:Value} (hu:P.underlying T=some d) (ha:o4 d=false) (hx:ev ρ x=d_ b i)
  (hs: ∀w,Inv base O w→Sl w b cs) (hv:cs[i]? =some v):QT P base ⟨dst,.load T x,t,p,af,g⟩ ρ O v:=fun w hI=>by
 obtain⟨hi,_⟩:=List.getElem?_eq_some_iff.1 hv
 obtain⟨bk,o,rfl⟩:=(hs w hI).addr hi
 exact p9 hu ha hx (fun w hI=>(hs w hI).get hv) w hI
theorem eP {x:Operand} {T:TypeId} {d:TypeDesc} {b:Option Addr} {i:Nat} {cs vs:List Value} {z:Value} {s gN:Nat} (hu:P.underlying T=some d) (ha:o4 d=true) (hi:fK P T z s gN) (hx:ev ρ x=d_ b i) (hl:vs.length=s) (DX:0<vs.length)
  (hs: ∀w,Inv base O w→Sl w b cs) (hv: ∀j (h:j<vs.length),cs[i+j]? =some vs[j]):QT P base ⟨dst,.load T x,t,p,af,g⟩ ρ O (.agg vs.toArray):=fun w hI=>by
 obtain⟨h0,_⟩:=List.getElem?_eq_some_iff.1 (hv 0 DX)
 obtain⟨bk,o,rfl⟩:=(hs w hI).addr (i:=i) (by omega)
 exact wX hu ha hi hx hl (fun w hI j hj=>by have:=(hs w hI).get (hv j hj);rwa[←Nat.add_assoc]at this) w hI
theorem ck {x:Operand} {S:TypeId} {fs:Array Field} {i:Nat} {f:Field} {b:Option Addr} {o:Nat} {z:Value} {s gN:Nat} {cs:List Value} (hu:P.underlying S=some (.struct fs)) (hf:fs[i]? =some f) (hi:fK P f.type z s gN) (hs:(s==0)=false)
  (hx:ev ρ x=d_ b o) (Ms: ∀w,Inv base O w→Sl w b cs) (ho:o<cs.length):QT P base ⟨dst,.fieldAddr S x i,t,p,af,g⟩ ρ O (d_ b (o+f.offset)):=fun w hI=>by
 obtain⟨bk,o',rfl⟩:=(Ms w hI).addr ho
 have:=bj (P:=P) (base:=base) (O:=O) (dst:=dst) (t:=t) (p:=p) (af:=af) (g:=g) hu hf hi hs (b:=bk) (o:=o'+o) hx w hI
 rw[this];simp[d_,Nat.add_assoc]
end
section
variable {P:Program} {r:Option Nat} {base:World} {n:Nat} {ρ:Env} {O:List Item} {K:Env→List Item→Prop} {d:Nat} {t:TypeId} {p:String} {af:Array Edge} {g:Option (Nat×Bool)}
theorem n7 (i:Nat) {T E:TypeId} {x y:Operand} {b:Option Addr} {j c k:Nat} {v:Value} {vs cs:List Value} {z:Value} {s gN:Nat} (hi:fK P T z s gN) (hx:ev ρ x=d_ b j) (hy:ev ρ y=v) (hv:v.cells=vs.toArray) (hl:vs.length=s) (ho:(vs.all fu)=true) (hs:0<vs.length)
  (hO:O[i]? =some (aq b c E k cs)) (hr:j+vs.length≤cs.length)
  (h:K ρ (O.set i (aq b c E k (fe cs j vs)))):LT P r base n ⟨none,.store T x y,t,p,af,g⟩ ρ O K:=fun a w M ds ha hI=>by
 obtain⟨bk,o,rfl⟩:=(hI.left.gW (bS hO)).addr (i:=j) (by omega)
 exact Bz i hi hx hy hv hl ho hO hr h a w M ds ha hI
end
def eH (q:Int×Int):Value:=.agg #[.int .i64 q.1,.int .i64 q.2]
theorem rD {P:Program} {T:TypeId} {k:IntKind} (h:P.underlying T=some (.int k)) (d:Nat) (a b:Int) (w:World):(Op.equalIn (d+1) T (.int .i64 a) (.int .i64 b)).run P w=.ok (a==b) w:=by
 rw[Op.equalIn]
 simp[bH h]
structure Fs (P:Program) (kt:TypeId) (f1 f2:Field):Prop where
 under:P.underlying kt=some (.struct #[f1,f2])
 u1:P.underlying f1.type=some (.int .i64)
 u2:P.underlying f2.type=some (.int .i64)
 o1:f1.offset=0
 o2:f2.offset=1
 n1:f1.name≠ "_"
 n2:f2.name≠ "_"
 held:P.stoodInHeld kt=false
theorem Fs.equal {P:Program} {kt:TypeId} {f1 f2:Field} (h:Fs P kt f1 f2) (a b:Int×Int) (w:World):(Op.equal kt (eH a) (eH b)).run P w=.ok (decide (a=b)) w:=by
 show(Op.equalIn (9998+1+1) kt (eH a) (eH b)).run P w=_
 rw[Op.equalIn]
 have TW: ∀(c:Int×Int),(part f1.type #[.int .i64 c.1,.int .i64 c.2] f1.offset).run P w=.ok (.int .i64 c.1) w:=fun c=>by
  simp[part,jg h.u1,o4,h.o1]
 have zi: ∀(c:Int×Int),(part f2.type #[.int .i64 c.1,.int .i64 c.2] f2.offset).run P w=.ok (.int .i64 c.2) w:=fun c=>by
  simp[part,jg h.u2,o4,h.o2]
 simp[bH h.under,eH,h.held,h.n1,h.n2,TW,zi,rD h.u1,rD h.u2]
 by_cases e1:a.1=b.1
 ·by_cases e2:a.2=b.2
  ·have:a=b:=by cases a;cases b;simp_all
   simp[e1,e2,this]
  ·have: ¬a=b:=fun e=>e2 (by rw[e])
   simp[e1,e2,this]
 ·have: ¬a=b:=fun e=>e1 (by rw[e])
  simp[e1,this]
theorem jN {P:Program} {kt:TypeId} {f1 f2:Field} (h:Fs P kt f1 f2):gB P kt eH where
 check:=fun e a w=>by
  show(Instr.checkKey e (9998+1+1) kt _).run P w=_
  rw[Instr.checkKey]
  have TW: ∀(c:Int×Int),(part f1.type #[.int .i64 c.1,.int .i64 c.2] f1.offset).run P w=.ok (.int .i64 c.1) w:=fun c=>by
   simp[part,jg h.u1,o4,h.o1]
  have zi: ∀(c:Int×Int),(part f2.type #[.int .i64 c.1,.int .i64 c.2] f2.offset).run P w=.ok (.int .i64 c.2) w:=fun c=>by
   simp[part,jg h.u2,o4,h.o2]
  have hk: ∀(tt:TypeId) (v:Int),P.underlying tt=some (.int .i64)→(Instr.checkKey e (9998+1) tt (.int .i64 v)).run P w=.ok () w:=fun tt v hu=>by
   rw[Instr.checkKey];simp[bH hu]
  simp[bH h.under,eH,h.n1,h.n2,TW,zi,hk _ _ h.u1,hk _ _ h.u2]
 find:=fun es ks a w n8=>by
  have ask: ∀(es:List MapEntry) (ks:List (Int×Int)) (i:Nat),es.map (·.key)=ks.map eH→(Instr.findAsking kt (eH a) es i).run P w=.ok (lj a ks es i) w:=by
   intro es
   induction es with
   |nil=>intro ks i h;cases ks<;>simp_all[Instr.findAsking,lj]
   |cons e es ih=>
    intro ks i hh
    cases ks with
    |nil=>simp at hh
    |cons b ks=>
     simp only[cD,List.cons.injEq]at hh
     simp only[Instr.findAsking,hh.1,Sem.run_bind,h.equal,Result.andThen_ok,lj]
     by_cases e:a=b
     ·simp[e]
     ·simp[e,ih ks (i+1) hh.2]
  have key: ∀(es:List MapEntry) (ks:List (Int×Int)),es.map (·.key)=ks.map eH→Instr.findNow (.struct #[f1,f2]) (eH a) es 0=some (lj a ks es 0)∨Instr.findNow (.struct #[f1,f2]) (eH a) es 0=none:=by
   intro es ks hh
   cases es with
   |nil=>left;cases ks<;>simp_all[Instr.findNow,lj]
   |cons e es=>right;simp[Instr.findNow,Instr.sameNow]
  rcases key es ks n8 with hk|hk
  ·simp[Instr.findKey,bH h.under,hk]
  ·simp[Instr.findKey,bH h.under,hk,ask es ks 0 n8]
@[reducible] def aD (n:Nat):Option Addr:=some ⟨n,0,none⟩
@[reducible] def nS:Value:=.slice none 0 0
@[reducible] def vI (v:Int):Value:=.int .i64 v
@[reducible] def vN (n:Nat):Value:=.int .i64 (n:Int)
@[reducible] def v8 (n:Nat):Value:=.int .u8 (n:Int)
section
variable {X:PX} {P:Program} {r:Option Nat} {base:World} {n:Nat} {ρ:Env} {O:List Item} {ops:Array Oper} {l:List Oper} {K:Env→List Item→Prop} {t:TypeId} {p:String} {af:Array Edge}
theorem ah {d:Nat} {x:Operand} {v:Value} (h:ev ρ x=v) (hk:TO X P r base n ops l K (oX ρ d v) O) (hn:Nat.blt d n=true:=by rfl):TO X P r base n ops (⟨some d,.move x,t,p,af,none⟩::l) K ρ O:=ad (aK h) hk hn
theorem aj {d:Nat} {x:Operand} {v:Value} (h:ev ρ x=v) (hk:TO X P r base n ops l K (oX ρ d v) O) (hn:Nat.blt d n=true:=by rfl):TO X P r base n ops (⟨some d,.assign x,t,p,af,none⟩::l) K ρ O:=ad (cq h) hk hn
theorem mG {α:Type} {l:List α} {a:α} (i:Nat) (h:l[i]? =some a):a∈l:=bS h
theorem gS {O' O:List Item} (D:List Item) (h: ∀a,Lx.wg a (O'++D)=Lx.wg a O:=by intro a;simp+zetaDelta only[ce,oI,List.set_cons_zero,List.set_cons_succ,fe,cJ,c8,cT,aI,bo,cD,fz,o8,n6,Fm,vI,nS,aD]<;>omega):Sub O' O:=Sub.wg D h
theorem aB {d j tj:Nat} {want:Bool} {op:Op} {v:Value} (hj:(ops[j]?).bind (·.dst)=some tj) (hw:ρ tj=.bool want) (h:QT P base ⟨some d,op,t,p,af,some (j,want)⟩ ρ O v) (hk:TO X P r base n ops l K (oX ρ d v) O) (hn:Nat.blt d n=true:=by rfl):TO X P r base n ops (⟨some d,op,t,p,af,some (j,want)⟩::l) K ρ O:=iv F hj hw (eO F hn h hk)
theorem mR (is:List Nat) {f:FuncId} {args:List Value} {A B O:List Item} {R:Value→List Item→Prop} (h:cd P base f args A R) (hA:wZ is O=A:=by rfl) (hB:y_ is O=B:=by simp only[y_,sV,ce,oI,List.set_cons_zero,List.set_cons_succ,fe,cJ,c8,cT];rfl):cd P base f args O (fun v O'=> ∃A',O'=A'++B∧R v A'):=
 cd.under h (by subst hA hB;exact⟨_,q7 is O,aZ _⟩)
end
section
variable {P:Program} {r:Option Nat} {base:World} {n:Nat} {ρ:Env} {O:List Item} {Q:kF} {K:Env→List Item→Prop} {t:TypeId} {p:String} {af:Array Edge} {g:Option (Nat×Bool)}
theorem ai {id:Nat} {l:List Oper} {y:Code} (h:TO (fun c=> ∀ρ,I5 (fun ρ O=>T P r base n y Q ρ O) Q (.panic c) ρ []) P r base n l.toArray l (fun ρ O=>I5 (fun ρ O=>T P r base n y Q ρ O) Q .normal ρ O) ρ O):T P r base n (.seq (.region id l.toArray false) y) Q ρ O:=aO (be h)
theorem fQ (l:List (Nat×Nat)) {id:Nat} {ops:Array Oper} (h:DO (fun c=> ∀ρ,Q (.panic c) ρ []) P r base n ops O (nM l) [] (lL l) l (fun ρ O=>Q .normal ρ O) ρ O) (hm:P.follows .mixedOrders=true:=by exact mixed) (hB:wV ops l=true:=by first|exact w_ (by kernel_rfl)|kernel_rfl) (hp: ∀c ρ gR O,Q (.panic c) ρ O→Q (.panic c) gR O:=by exact fun _ _ _ _ h=>h):T P r base n (.region id ops true) Q ρ O:=y6 O l hm hB (cj (aZ _)) hp h
theorem T.ds (S:List Item) (l:List (Nat×Nat)) {id:Nat} {ops:Array Oper} (hS:Sub S O) (h:DO (fun c=> ∀ρ,Q (.panic c) ρ []) P r base n ops S (nM l) [] (lL l) l (fun ρ O=>Q .normal ρ O) ρ O) (hm:P.follows .mixedOrders=true:=by exact mixed) (hB:wV ops l=true:=by first|exact w_ (by kernel_rfl)|kernel_rfl) (hp: ∀c ρ gR O,Q (.panic c) ρ O→Q (.panic c) gR O:=by exact fun _ _ _ _ h=>h):T P r base n (.region id ops true) Q ρ O:=y6 S l hm hB hS hp h
theorem bV (i:Nat) {T E:TypeId} {x y:Operand} {b o:Nat} {v:Value} {vs cs:List Value} {z:Value} {s gN:Nat} (hi:fK P T z s gN) (hx:ev ρ x=.pointer (some ⟨b,o,none⟩)) (hy:ev ρ y=v) (hv:v.cells=vs.toArray)
  (hO:O[i]? =some (dR b (.cells cs.toArray E (0,0)))) (h:K ρ (O.set i (dR b (.cells (fe cs o vs).toArray E (0,0))))) (hl:vs.length=s:=by rfl) (ho:(vs.all fu)=true:=by rfl) (hr:o+vs.length≤cs.length:=by simp[fe]):LT P r base n ⟨none,.store T x y,t,p,af,g⟩ ρ O K:=vJ i hi hx hy hv hl ho hO hr h
end
end Go.Lx

namespace Go.Lx
open Go.Lib
theorem jO {u:Nat} (h:u<10):decDigits u=[UInt8.ofNat (48+u)]:=by rw[decDigits,dif_pos h]
theorem nC {u:Nat} (h: ¬u<10):decDigits u=decDigits (u/10)++[UInt8.ofNat (48+u%10)]:=by rw[decDigits,dif_neg h]
theorem xf (u:Nat):decDigits u≠ []:=by
 by_cases h:u<10
 ·rw[jO h];simp
 ·rw[nC h];simp
theorem jd {k:Nat} (h:k<10):(UInt8.ofNat (48+k)).toNat=48+k:=by
 rw[UInt8.toNat_ofNat'];omega
theorem q8 (u:Nat): ∀b∈decDigits u,48≤b.toNat∧b.toNat<58:=by
 induction u using Nat.strongRecOn with
 |_ u ih=>
  by_cases h:u<10
  ·rw[jO h];intro b hb;rw[db]at hb;subst hb;rw[jd h];omega
  ·rw[nC h]
   intro b hb
   rcases List.mem_append.1 hb with hb|hb
   ·exact ih (u/10) (by omega) b hb
   ·rw[db]at hb;subst hb;rw[jd (by omega)];omega
theorem o_: ∀(a b:Nat),decDigits a=decDigits b→a=b:=by
 intro a
 induction a using Nat.strongRecOn with
 |_ a ih=>
  intro b h
  by_cases ha:a<10
  ·by_cases hb:b<10
   ·rw[jO ha,jO hb]at h
    have:=ax UInt8.toNat (List.cons.inj h).1
    rw[jd ha,jd hb]at this
    omega
   ·rw[jO ha,nC hb]at h
    have h1:=ax List.length h
    have h2:0<(decDigits (b/10)).length:=List.length_pos_iff.2 (xf _)
    simp only[aF,bL,cN]at h1;omega
  ·by_cases hb:b<10
   ·rw[nC ha,jO hb]at h
    have h1:=ax List.length h
    have h2:0<(decDigits (a/10)).length:=List.length_pos_iff.2 (xf _)
    simp only[aF,bL,cN]at h1;omega
   ·rw[nC ha,nC hb]at h
    obtain⟨h1,h2⟩:=List.append_inj' h F
    have e1:=ih (a/10) (by omega) (b/10) h1
    have e2:=ax UInt8.toNat (List.cons.inj h2).1
    rw[jd (by omega),jd (by omega)]at e2
    omega
def jt:List Nat→List UInt8
 | []=>[]
 |n::l=>32::(decDigits n++jt l)
def iT (a:Nat) (l:List Nat):List UInt8:=decDigits a++jt l
theorem Aq (l:List Nat) (n:Nat):jt (l++[n])=jt l++32::decDigits n:=by
 induction l with
 |nil=>simp[jt]
 |cons a l ih=>simp[jt,ih]
theorem mu (u:Nat):(32:UInt8)∉decDigits u:=fun h=>by have:=q8 u 32 h;simp at this
theorem qh: ∀ {x y:List UInt8} {a b:List Nat},(32:UInt8)∉x→(32:UInt8)∉y→x++jt a=y++jt b→x=y∧jt a=jt b
 | [],[],a,b,_,_,h=>⟨F,by simpa using h⟩
 | [],c::y,a,b,_,hy,h=>by
  cases a with
  |nil=>simp[jt]at h
  |cons n a=>simp only[jt,c8,cJ,List.cons.injEq]at h;exact(hy (by simp[←h.1])).elim
 |c::x,[],a,b,hx,_,h=>by
  cases b with
  |nil=>simp[jt]at h
  |cons n b=>simp only[jt,c8,cJ,List.cons.injEq]at h;exact(hx (by simp[h.1])).elim
 |c::x,c'::y,a,b,hx,hy,h=>by
  simp only[cJ,List.cons.injEq]at h
  simp only[df,not_or]at hx hy
  obtain⟨h1,h2⟩:=qh hx.2 hy.2 h.2
  exact⟨by rw[h.1,h1],h2⟩
theorem zk: ∀ {l m:List Nat},jt l=jt m→l=m
 | [],[],_=>rfl
 | [],b::m,h=>by simp[jt]at h
 |a::l,[],h=>by simp[jt]at h
 |a::l,b::m,h=>by
  simp only[jt,List.cons.injEq,true_and]at h
  obtain⟨h1,h2⟩:=qh (mu a) (mu b) h
  rw[o_ a b h1,zk h2]
theorem Jj {a b:Nat} {l m:List Nat} (h:iT a l=iT b m):a=b∧l=m:=by
 obtain⟨h1,h2⟩:=qh (mu a) (mu b) h
 exact⟨o_ a b h1,zk h2⟩
theorem sZ: ∀(k u:Nat),u<10^(k+1)→(decDigits u).length≤k+1
 |0,u,h=>by rw[jO (by simpa using h)];simp
 |k+1,u,h=>by
  by_cases h0:u<10
  ·rw[jO h0];simp
  ·rw[nC h0,aF]
   have:=sZ k (u/10) (by rw[Nat.pow_succ]at h;omega)
   simp only[bL,cN]
   omega
end Go.Lx

namespace Go.Lx
section
variable {α:Type} [DecidableEq α]
def ix (x:α):List α→Nat
 | []=>0
 |k::ks=>if x=k then 0 else ix x ks+1
theorem rJ {x:α}: ∀ {ks:List α},x∈ks→ix x ks<ks.length
 |k::ks,h=>by
  simp only[ix]
  split
  ·simp
  ·rename_i e
   have:=rJ ((List.mem_cons.1 h).resolve_left e)
   simp;omega
theorem pr {x:α}: ∀ {ks:List α},x∈ks→ks[ix x ks]? =some x
 |k::ks,h=>by
  simp only[ix]
  split
  ·rename_i e;simp[e]
  ·rename_i e
   simpa using pr ((List.mem_cons.1 h).resolve_left e)
theorem Ti {x y:α} {ks:List α} (hx:x∈ks) (hy:y∈ks) (h:ix x ks=ix y ks):x=y:=by
 have h1:=pr hx
 rw[h,pr hy]at h1
 exact(cZ h1).symm
theorem kX {x:α} {ms:List α}: ∀ {ks:List α},x∈ks→ix x (ks++ms)=ix x ks
 |k::ks,h=>by
  simp only[cJ,ix]
  split
  ·rfl
  ·rename_i e;rw[kX ((List.mem_cons.1 h).resolve_left e)]
theorem fM {x:α} {ms:List α}: ∀ {ks:List α},x∉ks→ix x (ks++ms)=ks.length+ix x ms
 | [],_=>by simp
 |k::ks,h=>by
  simp only[df,not_or]at h
  simp only[cJ,ix,h.1,if_false,fM h.2,bL]
  omega
def add (ks:List α) (k:α):List α:=if k∈ks then ks else ks++[k]
def dd (l:List α):List α:=l.foldl add []
theorem rp {ks:List α} {k x:α}:x∈add ks k↔x∈ks∨x=k:=by
 unfold add
 split
 ·rename_i h
  exact⟨.inl,fun h'=>h'.elim id (fun e=>e▸h)⟩
 ·simp
theorem mK {ks:List α} {k:α} (h:ks.Nodup):(add ks k).Nodup:=by
 unfold add
 split
 ·exact h
 ·rename_i hk
  rw[List.nodup_append]
  refine⟨h,by simp,fun a ha b hb e=>?_⟩
  simp at hb;subst hb;subst e;exact hk ha
theorem jE (ks:List α) (k:α):ks<+:add ks k:=by
 unfold add
 split
 ·exact List.prefix_refl _
 ·exact List.prefix_append _ _
theorem gD: ∀(l ks:List α),ks<+:l.foldl add ks
 | [],ks=>List.prefix_refl _
 |k::l,ks=>(jE ks k).trans (gD l (add ks k))
theorem uI (l m:List α):dd (l++m)=m.foldl add (dd l):=by simp[dd]
theorem AZ (l:List α) (k:α):dd (l++[k])=add (dd l) k:=by simp[dd]
theorem jT {l:List α} {x:α}:x∈dd l↔x∈l:=by
 have: ∀(l ks:List α),x∈l.foldl add ks↔x∈ks∨x∈l:=by
  intro l
  induction l with
  |nil=>intro ks;simp
  |cons k l ih=>intro ks;rw[cV,ih,rp,df,or_assoc]
 rw[dd,this];simp
theorem ig {ks ms:List α} (h:ks<+:ms) {x:α} (hx:x∈ks):ix x ms=ix x ks:=by
 obtain⟨t,rfl⟩:=h
 exact kX hx
theorem kR {x:α}: ∀(ks:List α) (i:Nat),lT x (ks.zipIdx i)=if x∈ks then some (i+ix x ks)else none
 | [],i=>by simp[lT]
 |k::ks,i=>by
  simp only[List.zipIdx_cons,lT]
  by_cases e:x=k
  ·subst e;simp[ix]
  ·rw[ay e,kR ks (i+1)]
   by_cases h:x∈ks
   ·simp[h,e,ix];omega
   ·simp[h,e]
theorem mN (ks:List α) (i:Nat):(ks.zipIdx i).map Prod.fst=ks:=by
 induction ks generalizing i with
 |nil=>rfl
 |cons k ks ih=>simp[List.zipIdx_cons]
end
def fW (cs:List Nat) (r:List Int):List Nat:=r.map fun to=>cs.getD to.toNat 0
def xZ (d:cM) (cs:List Nat) (s:Nat):List UInt8:=iT (cs.getD s 0) (fW cs (d.next.getD s []))
def iX (d:cM) (cs:List Nat):List (List UInt8):=(List.range d.next.length).map (xZ d cs)
def iP (d:cM) (cs:List Nat):List Nat:=(iX d cs).map fun k=>ix k (dd (iX d cs))
theorem Da (l:List UInt8):di (l++[32])=di l++[Value.int .u8 32]:=by simp
theorem Ij {a j:Nat} {l:List Nat} (hj:j<l.length):iT a (l.take (j+1))=iT a (l.take j)++[32]++Lib.decDigits l[j]:=by
 rw[aH hj,iT,iT,Aq];simp
theorem zZ: ∀ {l:List Nat},(∀x∈l,x<10000)→(jt l).length≤5*l.length
 | [],_=>by simp[jt]
 |a::l,h=>by
  have h1:=sZ 3 a (by have:=h a (by simp);omega)
  have h2:=zZ (l:=l) (fun x hx=>h x (by simp[hx]))
  simp only[jt,bL,aF]
  omega
theorem LD {a:Nat} {l:List Nat} (ha:a<10000) (h: ∀x∈l,x<10000):(iT a l).length≤4+5*l.length:=by
 have h1:=sZ 3 a (by omega)
 have h2:=zZ h
 simp only[iT,aF]
 omega
theorem EY {d:cM} {cs:List Nat} {k:Nat} (hk:k<d.next.length):(iX d cs).take (k+1)=(iX d cs).take k++[xZ d cs k]:=by
 have hl:k<(iX d cs).length:=by simpa[iX]using hk
 rw[aH hl]
 simp[iX]
theorem OI {d:cM} {cs:List Nat} {k:Nat} (hk:k<d.next.length) (hc:k<cs.length):xZ d cs k=iT cs[k] (fW cs d.next[k]):=by
 simp[xZ,hk,hc]
theorem OH {cs:List Nat} (h: ∀x∈cs,x<10000) {r:List Int}: ∀x∈fW cs r,x<10000:=by
 intro x hx
 obtain⟨to,_,rfl⟩:=List.mem_map.1 hx
 rw[aw]
 cases e:cs[to.toNat]? with
 |none=>simp
 |some y=>exact h y (bS e)
theorem uH {α:Type} [DecidableEq α] (l:List α):(dd l).length≤l.length:=by
 have: ∀(l ks:List α),(l.foldl add ks).length≤ks.length+l.length:=by
  intro l
  induction l with
  |nil=>intro ks;simp
  |cons k l ih=>
   intro ks
   have h1:=ih (add ks k)
   have h2:(add ks k).length≤ks.length+1:=by unfold add;split<;>simp
   simp only[cV,bL]
   omega
 simpa[dd]using this l []
theorem LG {d:cM} {cs:List Nat} {k s:Nat} (hs:s<k) (hk:k≤d.next.length):xZ d cs s∈(iX d cs).take k:=by
 rw[iX,←List.map_take]
 refine List.mem_map_of_mem ?_
 rw[List.take_range]
 simp;omega
theorem iG (cs:List Nat) (r:List Int):(fW cs r).length=r.length:=ar _
theorem Dm {cs:List Nat} {r:List Int} {j:Nat} (hj:j<r.length) (h:r[j].toNat<cs.length):(fW cs r)[j]'(by rw[iG];exact hj)=cs[r[j].toNat]:=by
 simp[fW,h]
theorem LF {cs:List Nat} {r:List Int} {a j:Nat} (hj:j<r.length) (h:r[j].toNat<cs.length):iT a ((fW cs r).take (j+1))=iT a ((fW cs r).take j)++[32]++Lib.decDigits cs[r[j].toNat]:=by
 rw[Ij (by rw[iG];exact hj),Dm hj h]
def mi (d:cM):List Nat:=(List.range d.next.length).map fun s=>if d.aV.getD s false≠d.aV.getD 0 false then 1 else 0
def ie (d:cM):Nat→List Nat
 |0=>mi d
 |i+1=>iP d (ie d i)
theorem ft (d:cM) (i:Nat):(ie d i).length=d.next.length:=by
 cases i<;>simp[ie,mi,iP,iX]
theorem E8 {d:cM} {cs:List Nat} {x:Nat} (h:x∈iP d cs):x<d.next.length:=by
 obtain⟨k,hk,rfl⟩:=List.mem_map.1 h
 have h1:=rJ (jT.2 hk)
 have h2:=uH (iX d cs)
 have h3:(iX d cs).length=d.next.length:=by simp[iX]
 omega
theorem LL {d:cM} (hn:d.next.length<10000) (i:Nat): ∀x∈ie d i,x<10000:=by
 cases i with
 |zero=>
  intro x hx
  obtain⟨s,_,rfl⟩:=List.mem_map.1 hx
  split<;>omega
 |succ i=>intro x hx;have:=E8 hx;omega
theorem sC {d:cM} {i:Nat} (h:iP d (ie d i)=ie d i): ∀m,i≤m→ie d m=ie d i:=by
 intro m hm
 induction hm with
 |refl=>rfl
 |step _ ih=>rw[ie,ih,h]
def xA (tr:List UInt8→Nat→List UInt8) (L:Nat) (start:List UInt8):Nat→List (List UInt8)
 |0=>[start]
 |s+1=>((List.range L).map (tr ((xA tr L start s).getD s []))).foldl add (xA tr L start s)
def kT (tr:List UInt8→Nat→List UInt8) (L:Nat) (ks:List (List UInt8)) (s:Nat):List Int:=
 (List.range L).map fun x=>((ix (tr (ks.getD s []) x) ks:Nat):Int)
theorem iW {α:Type} [DecidableEq α] (f:Nat→α) (ks:List α) (x:Nat):((List.range (x+1)).map f).foldl add ks=add (((List.range x).map f).foldl add ks) (f x):=by
 rw[List.range_succ,bo,cY];rfl
theorem eN {α:Type} [DecidableEq α] {y:α}: ∀(l ks:List α),y∈l.foldl add ks↔y∈ks∨y∈l
 | [],ks=>by simp
 |k::l,ks=>by rw[cV,eN l,rp,df,or_assoc]
theorem lX {ks ms:List (List UInt8)} (h:ks<+:ms) {s:Nat} (hs:s<ks.length):ms.getD s []=ks.getD s []:=by
 obtain⟨t,rfl⟩:=h
 rw[aw,aw,bI hs]
structure qz (tr:List UInt8→Nat→List UInt8) (L:Nat) (ks:List (List UInt8)) (s:Nat) (rs:List (List Int)):Prop where
 len:rs.length=s
 le:s≤ks.length
 row: ∀i,i<s→rs[i]? =some (kT tr L ks i)
 mem: ∀i,i<s→ ∀x,x<L→tr (ks.getD i []) x∈ks
theorem A7 {tr:List UInt8→Nat→List UInt8} {L:Nat} {ks ms:List (List UInt8)} (h:ks<+:ms) {s:Nat} (hs:s<ks.length) (hm: ∀x,x<L→tr (ks.getD s []) x∈ks):kT tr L ms s=kT tr L ks s:=by
 unfold kT
 apply List.map_congr_left
 intro x hx
 rw[lX h hs,ig h (hm x (List.mem_range.1 hx))]
theorem qz.snoc {tr:List UInt8→Nat→List UInt8} {L:Nat} {ks ms:List (List UInt8)} {s:Nat} {rs:List (List Int)} {ys:List Int} (h:qz tr L ks s rs) (hp:ks<+:ms) (hs:s<ks.length) (hy:ys=kT tr L ms s) (hm: ∀x,x<L→tr (ms.getD s []) x∈ms):qz tr L ms (s+1) (rs++[ys]):=by
 have Fj:=hp.length_le
 refine⟨by simp[h.len],by omega,fun i hi=>?_,fun i hi=>?_⟩
 ·by_cases e:i=s
  ·subst e;rw[bY (by rw[h.len];exact a8 _),h.len,hy];simp
  ·rw[bI (by rw[h.len];omega),h.row i (by omega),A7 hp (by omega) (h.mem i (by omega))]
 ·by_cases e:i=s
  ·subst e;exact hm
  ·intro x hx
   rw[lX hp (by omega)]
   exact hp.subset (h.mem i (by omega) x hx)
def GK (l:List UInt8):Nat:=l.foldl (fun a b=>a*10+(b.toNat-48)) 0
theorem uS (u:Nat):GK (Lib.decDigits u)=u:=by
 induction u using Nat.strongRecOn with
 |_ u ih=>
  by_cases h:u<10
  ·rw[jO h]
   show 0*10+((UInt8.ofNat (48+u)).toNat-48)=u
   rw[jd h];omega
  ·rw[nC h,GK,cY]
   have:=ih (u/10) (by omega)
   rw[GK]at this
   rw[this]
   show u/10*10+((UInt8.ofNat (48+u%10)).toNat-48)=u
   rw[jd (by omega)];omega
def e7 (d:cM) (o x:Nat):Nat:=((d.next.getD o []).getD x 0).toNat
def DF (d:cM) (k:List UInt8) (x:Nat):List UInt8:=Lib.decDigits (e7 d (GK k) x)
def mB (d:cM) (o:Nat):List Nat:=(List.range (2^d.vars.toNat)).map (e7 d o)
def da (d:cM):Nat→List Nat
 |0=>[d.start.toNat]
 |s+1=>if s<(da d s).length then(mB d ((da d s).getD s 0)).foldl add (da d s)else da d s
def order (d:cM):List Nat:=da d d.next.length
def ek (d:cM):cM where
 vars:=d.vars
 start:=0
 next:=(order d).map fun o=>(mB d o).map fun t=>((ix t (order d):Nat):Int)
 aV:=(order d).map fun o=>d.aV.getD o false
theorem Val.gV {d:cM} (hv:Val d) {o x:Nat} (ho:o<d.next.length) (hx:x<2^d.vars.toNat):e7 d o x<d.next.length∧ ∃h:o<d.next.length,∃sQ:x<d.next[o].length,d.next[o][x]=(e7 d o x:Int):=by
 have hl:d.next[o].length=2^d.vars.toNat:=hv.len _ (aL ho)
 have sQ:x<d.next[o].length:=by omega
 have h1:=hv.ok _ (aL ho) _ (aL sQ)
 have e:e7 d o x=d.next[o][x].toNat:=by simp[e7,ho,sQ]
 exact⟨by omega,ho,sQ,by omega⟩
theorem eT: ∀ {n:Nat} {l:List Nat},l.Nodup→(∀x∈l,x<n)→l.length≤n
 |0,l,_,hb=>by
  cases l with
  |nil=>simp
  |cons a l=>exact absurd (hb a (by simp)) (by omega)
 |n+1,l,h,hb=>by
  by_cases hn:n∈l
  ·have h1:=eT (n:=n) (h.erase n) fun x hx=>by
    have:=(List.Nodup.mem_erase_iff h).1 hx
    have:=hb x this.2
    omega
   rw[List.length_erase_of_mem hn]at h1
   omega
  ·have:=eT (n:=n) h fun x hx=>by
    have:=hb x hx
    have:x≠n:=fun e=>hn (e▸hx)
    omega
   omega
theorem GL {α β:Type} [DecidableEq α] [DecidableEq β] {f:α→β} (hf: ∀a b,f a=f b→a=b) (ks:List α) (k:α):(add ks k).map f=add (ks.map f) (f k):=by
 unfold add
 by_cases h:k∈ks
 ·rw[aR h,aR (List.mem_map_of_mem h)]
 ·rw[ay h,ay (fun hh=>by obtain⟨a,ha,e⟩:=List.mem_map.1 hh;exact h (hf _ _ e▸ha))]
  simp
theorem rM {α β:Type} [DecidableEq α] [DecidableEq β] {f:α→β} (hf: ∀a b,f a=f b→a=b): ∀(l ks:List α),(l.foldl add ks).map f=(l.map f).foldl add (ks.map f)
 | [],ks=>rfl
 |k::l,ks=>by rw[cV,rM hf l,GL hf,cD,cV]
theorem GM (d:cM): ∀(N:Nat),(∀i,i<N→i<(xA (DF d) (2^d.vars.toNat) (Lib.decDigits d.start.toNat) i).length)→
  xA (DF d) (2^d.vars.toNat) (Lib.decDigits d.start.toNat) N=(da d N).map Lib.decDigits
 |0,_=>rfl
 |N+1,h=>by
  have ih:=GM d N fun i hi=>h i (by omega)
  have hN:=h N (by omega)
  rw[ih,ar]at hN
  rw[xA,ih,da,aR hN,rM o_]
  congr 1
  rw[mB,List.map_map]
  apply List.map_congr_left
  intro x _
  have e:((da d N).map Lib.decDigits).getD N []=Lib.decDigits ((da d N).getD N 0):=by
   simp[hN]
  rw[e,DF,uS];rfl
theorem Dn {d:cM} {N:Nat} (h:(da d N).length=N): ∀m,N≤m→da d m=da d N:=by
 intro m hm
 induction hm with
 |refl=>rfl
 | @step m hm ih=>
  have hm':N≤m:=hm
  rw[da,ih,ay (by omega)]
theorem pX {d:cM} {N:Nat} (h:(da d N).length=N) (hn:N≤d.next.length):order d=da d N:=Dn h _ hn
theorem Ts (os:List Nat) (t:Nat):ix (Lib.decDigits t) (os.map Lib.decDigits)=ix t os:=by
 induction os with
 |nil=>rfl
 |cons o os ih=>
  simp only[cD,ix,ih]
  by_cases e:t=o
  ·simp[e]
  ·rw[ay e,ay (fun h=>e (o_ _ _ h))]
theorem vC: ∀ {a b:List Nat},a.map Lib.decDigits=b.map Lib.decDigits→a=b
 | [],[],_=>rfl
 | [],_::_,h=>by simp at h
 |_::_,[],h=>by simp at h
 |x::a,y::b,h=>by
  simp only[cD,List.cons.injEq]at h
  rw[o_ x y h.1,vC h.2]
theorem Ik {d:cM} {os:List Nat} {N:Nat} (jU: ∀i,i<N→i<(xA (DF d) (2^d.vars.toNat) (Lib.decDigits d.start.toNat) i).length)
  (n8:xA (DF d) (2^d.vars.toNat) (Lib.decDigits d.start.toNat) N=os.map Lib.decDigits) (iM:(xA (DF d) (2^d.vars.toNat) (Lib.decDigits d.start.toNat) N).length=N) (Fj:os.length≤d.next.length):os=order d∧os.length=N:=by
 have h1:os.length=N:=by rw[←iM,n8,ar]
 have h2:os=da d N:=vC (by rw[←n8,GM d N jU])
 exact⟨by rw[pX (N:=N) (by rw[←h2];exact h1) (by omega)];exact h2,h1⟩
theorem L5 {d:cM} {os:List Nat} {N:Nat} {rs:List (List Int)} (n8:xA (DF d) (2^d.vars.toNat) (Lib.decDigits d.start.toNat) N=os.map Lib.decDigits) (hE:qz (DF d) (2^d.vars.toNat) (xA (DF d) (2^d.vars.toNat) (Lib.decDigits d.start.toNat) N) N rs) (ho:os=order d) (hN:os.length=N):rs=(ek d).next:=by
 apply List.ext_getElem?
 intro i
 by_cases hi:i<N
 ·rw[hE.row i hi,n8]
  have qX:i<os.length:=by omega
  have e:(os.map Lib.decDigits).getD i []=Lib.decDigits os[i]:=by simp[qX]
  simp only[ek,bq,←ho,ap qX,Option.map_some,kT,e,DF,uS,mB,List.map_map]
  refine ax some (List.map_congr_left fun x _=>?_)
  simp only[Function.comp_def,Ts]
 ·rw[bQ (by rw[hE.len];omega),bQ (by simp[ek,←ho];omega)]
def iO (d:cM) (cs:List Nat):Nat→List (List Int)×List Bool
 |0=>([],[])
 |k+1=>if cs.getD k 0<(iO d cs k).1.length then iO d cs k else
   ((iO d cs k).1++[(fW cs (d.next.getD k [])).map fun c:Nat=>(c:Int)],(iO d cs k).2++[d.aV.getD k false])
def quo (d:cM) (cs:List Nat):cM where
 vars:=d.vars
 start:=((cs.getD d.start.toNat 0:Nat):Int)
 next:=(iO d cs d.next.length).1
 aV:=(iO d cs d.next.length).2
theorem kH (d:cM) (cs:List Nat): ∀k,(iO d cs k).1.length=(iO d cs k).2.length∧(iO d cs k).1.length≤k
 |0=>by simp[iO]
 |k+1=>by
  have ih:=kH d cs k
  rw[iO]
  split
  ·exact⟨ih.1,by omega⟩
  ·simp;omega
end Go.Lx

