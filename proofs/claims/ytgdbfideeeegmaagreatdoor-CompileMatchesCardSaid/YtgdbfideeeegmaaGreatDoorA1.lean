/- Contracts of functions; conditions: those each theorem names. -/
import Derived.Lib.ItoaNum
import Derived.Shelf.Strconv.Itoa3
import Derived.Lib.AppendIntMem
import Derived.Lib.TrailingZeros
import Derived.Maps.RangeRun
import Derived.Test.YtgdbfideeeegmaaGreatDoorA0
set_option linter.unusedSectionVars false
set_option linter.unusedSimpArgs false
set_option linter.unusedVariables false
set_option linter.unnecessarySimpa false
set_option maxHeartbeats 8000000
set_option maxRecDepth 20000
namespace Go.Lx
open Go.RowKit
section
variable {P:Program} {base:World} {ρ:Env} {O:List Item} {dst:Option Nat} {t:TypeId} {p:String} {af:Array Edge} {g:Option (Nat×Bool)}
theorem Ze {x y:Operand} {T U:TypeId} {k k':IntKind} {a b:Int} (hx:ev ρ x=.int k a) (hy:ev ρ y=.int k' b) (h0:0≤b):QT P base ⟨dst,.binOp .shl T x y U,t,p,af,g⟩ ρ O (.int k (k.wrap (a*2^(min b.toNat k.bits)))):=fun w _=>by
 have: ¬b<0:=by omega
 simp[execOp,hx,hy,eqGuard,binOp,Op.shift,this]
theorem o8 {x y:Operand} {T U:TypeId} {k':IntKind} {v:Nat} (hx:ev ρ x=.int .i64 1) (hy:ev ρ y=.int k' (v:Int)) (hv:v≤60):QT P base ⟨dst,.binOp .shl T x y U,t,p,af,g⟩ ρ O (.int .i64 ((2^v:Nat):Int)):=by
 have h:=Ze (P:=P) (base:=base) (O:=O) (dst:=dst) (t:=t) (p:=p) (af:=af) (g:=g) (T:=T) (U:=U) hx hy (by omega)
 have e:min (v:Int).toNat (IntKind.i64.bits)=v:=by
  have:IntKind.i64.bits=64:=rfl
  rw[this];simp;omega
 rw[e]at h
 have HR:(2:Nat)^v≤2^60:=ck (by omega) hv
 have h60:(2:Nat)^60=1152921504606846976:=by rfl
 have e2:(1:Int)*2^v=((2^v:Nat):Int):=by rw[Int.one_mul,Int.natCast_pow];rfl
 rw[e2]at h
 rw[h60]at HR
 generalize(2:Nat)^v=q at*
 rwa[gX (by omega)]at h
theorem YP {x y:Operand} {yF:Array TypeId} {k k':IntKind} {a b:Int} (hx:ev ρ x=.int k a) (hy:ev ρ y=.int k' b):QT P base ⟨dst,.call ⟨.builtin .min,#[x,y],yF⟩,t,p,af,g⟩ ρ O (.int k (if b<a then b else a)):=fun w _=>by
 simp[execOp,resolve,hx,hy,invoke,builtin,Builtin.min_,Builtin.min2]
theorem YQ {x y:Operand} {yF:Array TypeId} {k k':IntKind} {a b:Int} (hx:ev ρ x=.int k a) (hy:ev ρ y=.int k' b):QT P base ⟨dst,.call ⟨.builtin .max,#[x,y],yF⟩,t,p,af,g⟩ ρ O (.int k (if b>a then b else a)):=fun w _=>by
 simp[execOp,resolve,hx,hy,invoke,builtin,Builtin.max_,Builtin.max2]
def str (l:List UInt8):Value:=.string ⟨l.toArray⟩
theorem yJ {x:Operand} {T:TypeId} {l:List UInt8} (hu:P.underlying T=some .string) (hx:ev ρ x=str l):QT P base ⟨dst,.call ⟨.builtin .len,#[x],#[T]⟩,t,p,af,g⟩ ρ O (.int .i64 (l.length:Int)):=fun w _=>by
 have e:(ByteArray.mk l.toArray).size=l.length:=by show l.toArray.size=_;simp
 simp[execOp,resolve,hx,str,invoke,builtin,Builtin.len_,bL hu,goInt,e]
abbrev dy (l:List UInt8):List Value:=l.map fun b:UInt8=>Value.int .u8 (b.toNat:Int)
theorem yK (l:List UInt8):((dy l).all fS)=true:=by simp[fS]
theorem Q2 {w:World} {b:Option Addr} {n c:Nat} {l:List UInt8} (h:Sl w b (dy l)) (hl:l.length=n):(Conv.bytesToString (.slice b n c)).run P w=.ok (str l) w:=by
 subst hl
 cases b with
 |none=>
  have:l=[]:=by
   cases l with
   |nil=>rfl
   |cons a l=>obtain⟨_,h1,_⟩:=h 0 (by simp);cases h1
  subst this;rfl
 |some a=>
  obtain⟨k,o,sp⟩:=a
  have hl:=jG (P:=P) (c:=c) (m:=l.length) (s:=1) h (by simp) (by simp)
  simp only[Builtin.firstCells,Nat.mul_one]at hl
  have fold: ∀(l:List UInt8) (jf:ByteArray),List.foldl (fun(b:ByteArray) (a:UInt8)=>ByteArray.mk (b.data.push a)) jf l=⟨(jf.data.toList++l).toArray⟩:=by
   intro l
   induction l with
   |nil=>intro jf;simp
   |cons b l ih=>intro jf;rw[cU,ih];simp
  simp only[Conv.bytesToString,Sem.run_bind,hl,Result.andThen_ok]
  simp[dy,ByteArray.push,fold,str]
theorem DA {x:Operand} {S D E:TypeId} {b:Option Addr} {n c c' k:Nat} {l:List UInt8} (hs:P.underlying S=some (.slice E)) (hd:P.underlying D=some .string) (he:P.underlying E=some (.int .u8)) (hx:ev ρ x=.slice b n c)
  (hO:az b c' E k (dy l)∈O) (hl:l.length=n):QT P base ⟨dst,.convert S D x,t,p,af,g⟩ ρ O (str l):=fun w hI=>by
 simp[execOp,hx,convert,bL hs,bL hd,bL he,Q2 (hI.ij hO) hl]
def Vg {α β:Type} (K:α→Value) (V:β→Value) (m:Nat) (l:List (α×β)) (w:World):Prop:=
 ∃es Ao,w.heap[m]? =some (.map es Ao)∧es.toList.map (fun e=>(e.key,e.val))=(l.map fun q=>(K q.1,V q.2))∧(es.toList.map (·.born)).Nodup∧ ∀e∈es.toList,e.born<Ao
def dZ {α β:Type} (K:α→Value) (V:β→Value) (m:Nat) (l:List (α×β)):Item where
 blocks:=[m]
 P:=Vg K V m l
 loc:=fun w w' h hp=>by
  obtain⟨es,Ao,h1,h2⟩:=hp
  exact⟨es,Ao,by rw[h m (by simp)];exact h1,h2⟩
def mn {α:Type} [DecidableEq α] (a:α):List α→List MapEntry→Nat→Option (Nat×Value)
 |k::ks,e::es,i=>if a=k then some (i,e.val)else mn a ks es (i+1)
 |_,_,_=>none
structure ie (P:Program) {α:Type} [DecidableEq α] (kt:TypeId) (K:α→Value):Prop where
 check: ∀e a w,(Instr.checkKey e 10000 kt (K a)).run P w=.ok () w
 find: ∀(es:List MapEntry) (ks:List α) (a:α) (w:World),es.map (·.key)=ks.map K→(Instr.findKey kt (K a) es).run P w=.ok (mn a ks es 0) w
theorem Ms (a b:List UInt8):((⟨a.toArray⟩:ByteArray)==⟨b.toArray⟩)=decide (a=b):=by
 show(a.toArray==b.toArray)=_
 by_cases e:a=b
 ·subst e;simp
 ·simp[e]
theorem ie.string {kt:TypeId} (hu:P.underlying kt=some .string):ie P kt str where
 check:=fun e a w=>by
  show(Instr.checkKey e (9999+1) kt _).run P w=_
  rw[Instr.checkKey]
  simp[bL hu,str]
 find:=fun es ks a w h=>by
  have key: ∀(es:List MapEntry) (ks:List (List UInt8)) (i:Nat),es.map (·.key)=ks.map str→Instr.findNow .string (str a) es i=some (mn a ks es i):=by
   intro es
   induction es with
   |nil=>intro ks i h;cases ks<;>simp_all[Instr.findNow,mn]
   |cons e es ih=>
    intro ks i h
    cases ks with
    |nil=>simp at h
    |cons b ks=>
     simp only[cJ,List.cons.injEq]at h
     simp only[Instr.findNow,h.1,Instr.sameNow,str,Ms,mn]
     by_cases e:a=b
     ·simp[e]
     ·have:=ih ks (i+1) h.2
      simp only[str]at this
      simp[e,this]
  simp[Instr.findKey,bL hu,key es ks 0 h]
theorem yL {α:Type} [DecidableEq α] {a:α}: ∀(ks:List α) (es:List MapEntry) (i:Nat),a∉ks→mn a ks es i=none
 | [],_,_,_=>rfl
 |k::ks,[],_,_=>rfl
 |k::ks,e::es,i,h=>by
  simp only[dt,not_or]at h
  simp[mn,h.1,yL ks es (i+1) h.2]
def mU {α β:Type} [DecidableEq α] (a:α):List (α×β)→Option β
 | []=>none
 |q::l=>if a=q.1 then some q.2 else mU a l
theorem yM {α β:Type} [DecidableEq α] {K:α→Value} {V:β→Value} {a:α}: ∀(l:List (α×β)) (es:List MapEntry) (i:Nat),es.map (fun e=>(e.key,e.val))=l.map (fun q=>(K q.1,V q.2))→(mn a (l.map Prod.fst) es i).map Prod.snd=(mU a l).map V
 | [],es,i,h=>by cases es<;>rfl
 |q::l,[],i,h=>by simp at h
 |q::l,e::es,i,h=>by
  simp only[cJ,List.cons.injEq,Prod.mk.injEq]at h
  simp only[cJ,mn,mU]
  by_cases e:a=q.1
  ·simp[e,h.1.2]
  ·simp only[e,if_false];exact yM l es (i+1) h.2
theorem HU {α β:Type} {K:α→Value} {V:β→Value} {es:List MapEntry} {l:List (α×β)} (h:es.map (fun e=>(e.key,e.val))=l.map (fun q=>(K q.1,V q.2))):es.map (·.key)=(l.map Prod.fst).map K:=by
 have:=am (List.map Prod.fst) h
 simpa[Function.comp_def]using this
theorem rv {x:Operand} {T kt vt:TypeId} {m:Nat} {α β:Type} {K:α→Value} {V:β→Value} {l:List (α×β)} (hu:P.underlying T=some (.map kt vt)) (hx:ev ρ x=.map (some m)) (hO:dZ K V m l∈O):
  QT P base ⟨dst,.call ⟨.builtin .len,#[x],#[T]⟩,t,p,af,g⟩ ρ O (.int .i64 (l.length:Int)):=fun w hI=>by
 obtain⟨es,Ao,h1,h2,_⟩:=hI.holds _ hO
 have hl:es.size=l.length:=by have:=am List.length h2;simpa using this
 simp[execOp,resolve,hx,invoke,builtin,Builtin.len_,bL hu,getObj,Sem.run,h1,goInt,hl]
theorem yN {T kt vt:TypeId} {m:Nat} {α β:Type} [DecidableEq α] {K:α→Value} {V:β→Value} {l:List (α×β)} {z:Value} {s h_:Nat} {w:World} (hu:P.underlying T=some (.map kt vt)) (hz:gj P vt z s h_) (hk:ie P kt K) (h:Vg K V m l w) (a:α) (ok:Bool):
  (Instr.lookup T (.map (some m)) (K a) ok).run P w=.ok (if ok then .tuple #[((mU a l).map V).getD z,.bool (mU a l).isSome]else((mU a l).map V).getD z) w:=by
 obtain⟨es,Ao,h1,h2,h3,h4⟩:=h
 have hf:=hk.find es.toList (l.map Prod.fst) a w (HU h2)
 have hl:=yM (a:=a) l es.toList 0 h2
 have hg:(getObj m).run P w=.ok (.map es Ao) w:=by simp[getObj,Sem.run,h1]
 simp only[Instr.lookup,Sem.run_bind,bL hu,Result.andThen_ok,hg,Sem.run_pure,hk.check,hf]
 cases e:mn a (l.map Prod.fst) es.toList 0 with
 |none=>
  rw[e]at hl
  have:mU a l=none:=by cases e2:mU a l with|none=>rfl|some v=>rw[e2]at hl;cases hl
  simp[io hz,this]
 |some q=>
  rw[e]at hl
  obtain⟨i,v⟩:=q
  cases e2:mU a l with
  |none=>rw[e2]at hl;cases hl
  |some u=>
   rw[e2]at hl
   simp at hl
   simp[hl]
theorem ry {x y:Operand} {T kt vt:TypeId} {m:Nat} {α β:Type} [DecidableEq α] {K:α→Value} {V:β→Value} {l:List (α×β)} {z:Value} {s h_:Nat} {a:α} (hu:P.underlying T=some (.map kt vt)) (hz:gj P vt z s h_) (hk:ie P kt K)
  (hx:ev ρ x=.map (some m)) (hy:ev ρ y=K a) (hO:dZ K V m l∈O):QT P base ⟨dst,.lookup T x y false,t,p,af,g⟩ ρ O (((mU a l).map V).getD z):=fun w hI=>by
 have:=yN hu hz hk (hI.holds _ hO) a false
 simp[execOp,hx,hy,this]
theorem kF {x y:Operand} {T kt vt:TypeId} {m:Nat} {α β:Type} [DecidableEq α] {K:α→Value} {V:β→Value} {l:List (α×β)} {z:Value} {s h_:Nat} {a:α} (hu:P.underlying T=some (.map kt vt)) (hz:gj P vt z s h_) (hk:ie P kt K)
  (hx:ev ρ x=.map (some m)) (hy:ev ρ y=K a) (hO:dZ K V m l∈O):QT P base ⟨dst,.lookup T x y true,t,p,af,g⟩ ρ O (.tuple #[((mU a l).map V).getD z,.bool (mU a l).isSome]):=fun w hI=>by
 have:=yN hu hz hk (hI.holds _ hO) a true
 simp[execOp,hx,hy,this]
end
section
variable {P:Program} {r:Option Nat} {base:World} {n:Nat} {ρ:Env} {O:List Item} {K':Env→List Item→Prop} {d:Nat} {t:TypeId} {p:String} {af:Array Edge} {g:Option (Nat×Bool)}
theorem mA {T:TypeId} {α β:Type} (K:α→Value) (V:β→Value) (h: ∀m,K' (kz ρ d (.map (some m))) (dZ K V m []::O)) (hn:Nat.blt d n=true:=by rfl):LT P r base n ⟨some d,.makeMap T none,t,p,af,g⟩ ρ O K':=
 jm hn fun w M hI=>⟨.map (some w.heap.size),w.alloc (.map #[] 0),_,by simp[execOp,Instr.makeMap],by
  refine Inv.new (O:=O++M) (N:=[dZ K V w.heap.size []]) (w':=w.alloc (.map #[] 0)) hI F F F (by simp) (fun b hb=>Below.heap_alloc w _ b hb) ?_ ?_ (by simp[dZ])
  ·intro x hx
   simp at hx;subst hx
   exact⟨#[],0,by show(w.heap.push _)[w.heap.size]? =_;simp,F,by simp,by simp⟩
  ·intro x hx b hb
   simp at hx;subst hx
   simp[dZ]at hb;subst hb
   simp,h _⟩
theorem HV {T kt vt:TypeId} {m:Nat} {α β:Type} [DecidableEq α] {K:α→Value} {V:β→Value} {l:List (α×β)} {w:World} {a:α} {v:β} (hu:P.underlying T=some (.map kt vt)) (hk:ie P kt K) (h:Vg K V m l w) (yO:a∉l.map Prod.fst):
  ∃es Ao,(Instr.mapUpdate T (.map (some m)) (K a) (V v)).run P w=.ok () (kN w m (.map es Ao))∧es.toList.map (fun e=>(e.key,e.val))=((l++[(a,v)]).map fun q=>(K q.1,V q.2))∧(es.toList.map (·.born)).Nodup∧ ∀e∈es.toList,e.born<Ao:=by
 obtain⟨es,Ao,h1,h2,h3,h4⟩:=h
 have hf:=hk.find es.toList (l.map Prod.fst) a w (HU h2)
 rw[yL _ _ _ yO]at hf
 have hg:(getObj m).run P w=.ok (.map es Ao) w:=by simp[getObj,Sem.run,h1]
 have hs: ∀o,(setObj m o).run P w=.ok () (kN w m o):=fun o=>by simp[setObj,Sem.run,h1,kN]
 refine⟨es.push {key:=K a,val:=V v,born:=Ao},Ao+1,?_,by simp[h2],?_,?_⟩
 rotate_left
 ·simp only[Array.toList_push,bm,cJ,gM,List.nodup_append]
  refine⟨h3,by simp,fun x hx y hy e=>?_⟩
  obtain⟨z,hz,rfl⟩:=List.mem_map.1 hx
  simp at hy;have:=h4 z hz;omega
 ·intro e he
  simp only[Array.toList_push,iv,dl]at he
  rcases he with he|rfl
  ·have:=h4 e he;omega
  ·simp
 simp only[Instr.mapUpdate,Sem.run_bind,bL hu,Result.andThen_ok,hg,hk.check,hf,hs]
theorem Inv.Mt {w:World} {M:List Item} {α β:Type} {K:α→Value} {V:β→Value} {m i:Nat} {l l':List (α×β)} (hI:Inv base (O++M) w) (hO:O[i]? =some (dZ K V m l)) {es:Array MapEntry} {Ao:Nat} (h:es.toList.map (fun e=>(e.key,e.val))=(l'.map fun q=>(K q.1,V q.2))∧(es.toList.map (·.born)).Nodup∧ ∀e∈es.toList,e.born<Ao):
  Inv base (O.set i (dZ K V m l')++M) (kN w m (.map es Ao)):=by
 obtain⟨es0,aiT,h1,_,_⟩:=hI.holds (dZ K V m l) (aH _ (bT hO))
 have gQ:=(Array.getElem?_eq_some_iff.1 h1).1
 rw[←qh hO]
 exact hI.tK (n5 hO) F F F (by rw[vU];exact aI _) (fun k _ hk=>tO (fun e=>hk (by simp[dZ,e]))) ⟨es,Ao,mz gQ,h⟩ (fun k hk=>.inl hk) (by simp[dZ])
theorem rz (i:Nat) {x y z:Operand} {T kt vt:TypeId} {m:Nat} {α β:Type} [DecidableEq α] {K:α→Value} {V:β→Value} {l:List (α×β)} {a:α} {v:β} (hu:P.underlying T=some (.map kt vt)) (hk:ie P kt K) (hx:ev ρ x=.map (some m)) (hy:ev ρ y=K a) (hz:ev ρ z=V v)
  (hO:O[i]? =some (dZ K V m l)) (yO:a∉l.map Prod.fst) (h:K' ρ (O.set i (dZ K V m (l++[(a,v)])))):LT P r base n ⟨none,.mapUpdate T x y z,t,p,af,g⟩ ρ O K':=
 nB fun w M hI=>by
  obtain⟨es,Ao,hr,hes⟩:=HV (v:=v) hu hk (hI.holds (dZ K V m l) (aH _ (bT hO))) yO
  exact⟨kN w m (.map es Ao),_,by simp[execOp,hx,hy,hz,hr],hI.Mt hO hes,h⟩
theorem gA (i:Nat) {x y z:Operand} {T kt vt:TypeId} {m:Nat} {α β:Type} [DecidableEq α] {K:α→Value} {V:β→Value} {l:List (α×β)} {a:α} {v:β} (hu:P.underlying T=some (.map kt vt)) (hk:ie P kt K) (hx:ev ρ x=.map (some m)) (hy:ev ρ y=K a) (hz:ev ρ z=V v)
  (hO:O[i]? =some (dZ K V m l)) (yO:a∉l.map Prod.fst) (h:K' ρ (O.set i (dZ K V m (l++[(a,v)])))):LT P r base n ⟨none,.insert T x y z,t,p,af,g⟩ ρ O K':=
 nB fun w M hI=>by
  obtain⟨es,Ao,hr,hes⟩:=HV (v:=v) hu hk (hI.holds (dZ K V m l) (aH _ (bT hO))) yO
  exact⟨kN w m (.map es Ao),_,by simp[execOp,hx,hy,hz,hr],hI.Mt hO hes,h⟩
end
section
variable {P:Program} {base:World} {ρ:Env} {O:List Item} {dst:Option Nat} {t:TypeId} {p:String} {af:Array Edge} {g:Option (Nat×Bool)}
end
section
variable {P:Program} {r:Option Nat} {base:World} {n:Nat} {ρ:Env} {O:List Item} {K:Env→List Item→Prop} {d:Nat} {t:TypeId} {p:String} {af:Array Edge} {g:Option (Nat×Bool)}
theorem Src.str {s:List UInt8} {m:Nat} (hl:s.length=m):Src P base O 1 m (str s) (dy s):=
 ⟨by simp[hl],fun w=>by
  have e:(ByteArray.mk s.toArray).size=m:=by show s.toArray.size=_;simp[hl]
  simp[Lx.str,Builtin.lenOf,e],fun w _=>by
  subst hl
  have e:(ByteArray.mk s.toArray).extract 0 s.length=ByteArray.mk s.toArray:=by
   have:=ByteArray.extract_zero_size (b:=ByteArray.mk s.toArray)
   simpa[ByteArray.size]using this
  simp[Lx.str,Builtin.firstCells,e,dy]⟩
theorem Bh {T U E:TypeId} {b:Option Addr} {m c l h_:Nat} {x y:Operand} {z:Value} {cs:List Value} {s:List UInt8} (j:Nat)
  (hu:P.underlying T=some (.slice E)) (Mj:P.underlying U=some .string) (hi:gj P E z 1 h_) (hz:z.cells.size=1)
  (hx:ev ρ x=.slice b m c) (hy:ev ρ y=str s) (hO:O[j]? =some (az b c E 1 cs)) (hl:cs.length=m) (hs:s.length=l)
  (qX:(m+l)*h_≤70368744177664) (Qg:h_≤1000000) (Du:0<h_)
  (h: ∀b' c',K (kz ρ d (.slice b' (m+l) c')) (O.set j (az b' c' E 1 (cs++dy s)))) (hn:Nat.blt d n=true:=by rfl):
  LT P r base n ⟨some d,.call ⟨.builtin .append,#[x,y],#[T,U]⟩,t,p,af,g⟩ ρ O K:=
 jm hn fun w M hI=>by
  obtain⟨b',c',w',hr,oM⟩:=qi (ty:=t) hu Mj (.inr F) hi hz (n5 hO) (by simpa using hl) (by decide) (Src.tP (Src.str hs)) (yK s) qX Qg Du hI
  rw[qh hO]at oM
  refine⟨_,w',_,?_,oM,h b' c'⟩
  simp[execOp,resolve,hx,hy,invoke,builtin,hr]
end
theorem cg {P:Program} {base:World} {o:Oper} {ρ:Env} {O:List Item} {v v':Value} (h:QT P base o ρ O v) (e:v=v'):QT P base o ρ O v':=e▸h
def JZ (b:Option Addr) (i:Nat):Value:=.pointer (b.map fun a=>⟨a.block,a.off+i,none⟩)
theorem a6 {base:World} {O:List Item} {b:Option Addr} {cs:List Value} (h:Sl base b cs): ∀w,Inv base O w→Sl w b cs:=fun _ hI=>hI.sl h
theorem vV {base:World} {O:List Item} {b:Option Addr} {c k:Nat} {E:TypeId} {cs:List Value} (h:az b c E k cs∈O): ∀w,Inv base O w→Sl w b cs:=fun _ hI=>hI.ij h
section
variable {P:Program} {base:World} {ρ:Env} {O:List Item} {dst:Option Nat} {t:TypeId} {p:String} {af:Array Edge} {g:Option (Nat×Bool)}
theorem eF {x y:Operand} {T E:TypeId} {b:Option Addr} {n c i:Nat} {kk:IntKind} {z:Value} {s h_:Nat} {cs:List Value} (hu:P.underlying T=some (.slice E)) (hi:gj P E z s h_) (hx:ev ρ x=.slice b n c) (hy:ev ρ y=.int kk (i:Int)) (hs: ∀w,Inv base O w→Sl w b cs) (gQ:i<n) (hl:i*s<cs.length):
  QT P base ⟨dst,.indexAddr T x y,t,p,af,g⟩ ρ O (JZ b (i*s)):=fun w hI=>by
 obtain⟨bk,o,rfl⟩:=(hs w hI).addr hl
 exact wT hu hi hx hy gQ w hI
theorem dB (i:Nat) {x y:Operand} {T E:TypeId} {b:Option Addr} {n c:Nat} {kk:IntKind} {z:Value} {h_:Nat} {cs:List Value} (hu:P.underlying T=some (.slice E)) (hi:gj P E z 1 h_) (hx:ev ρ x=.slice b n c) (hy:ev ρ y=.int kk (i:Int)) (hs: ∀w,Inv base O w→Sl w b cs) (gQ:i<n:=by first|assumption|omega|(simp;omega)|simp_all) (hl:i<cs.length:=by first|omega|(simp;done)|(simp;omega)|(simp_all;done)|(simp_all;omega)):
  QT P base ⟨dst,.indexAddr T x y,t,p,af,g⟩ ρ O (JZ b i):=by
 have:=eF (P:=P) (base:=base) (O:=O) (dst:=dst) (t:=t) (p:=p) (af:=af) (g:=g) hu hi hx hy hs gQ (by simpa using hl)
 rwa[Nat.mul_one]at this
theorem HW {x y:Operand} {T E:TypeId} {b:Option Addr} {n c:Nat} {i:Int} {kk:IntKind} {z:Value} {h_:Nat} {cs:List Value} (hu:P.underlying T=some (.slice E)) (hi:gj P E z 1 h_) (hx:ev ρ x=.slice b n c) (hy:ev ρ y=.int kk i) (hs: ∀w,Inv base O w→Sl w b cs) (h0:0≤i) (gQ:i.toNat<n) (hl:i.toNat<cs.length):
  QT P base ⟨dst,.indexAddr T x y,t,p,af,g⟩ ρ O (JZ b i.toNat):=
 dB _ hu hi hx (by rw[hy,cW h0]) hs gQ hl
theorem iN {x:Operand} {T:TypeId} {d:TypeDesc} {b:Option Addr} {i:Nat} {cs:List Value} {v:Value} (hu:P.underlying T=some d) (ha:pr d=false) (hx:ev ρ x=JZ b i)
  (hs: ∀w,Inv base O w→Sl w b cs) (hv:cs[i]? =some v):QT P base ⟨dst,.load T x,t,p,af,g⟩ ρ O v:=fun w hI=>by
 obtain⟨hi,_⟩:=List.getElem?_eq_some_iff.1 hv
 obtain⟨bk,o,rfl⟩:=(hs w hI).addr hi
 exact rm hu ha hx (fun w hI=>(hs w hI).get hv) w hI
theorem fy (vs:List Value) {x:Operand} {T:TypeId} {d:TypeDesc} {b:Option Addr} {i:Nat} {cs:List Value} {z:Value} {s h_:Nat} (hu:P.underlying T=some d) (ha:pr d=true) (hi:gj P T z s h_) (hx:ev ρ x=JZ b i) (hl:vs.length=s) (Mu:0<vs.length)
  (hs: ∀w,Inv base O w→Sl w b cs) (hv: ∀j (h:j<vs.length),cs[i+j]? =some vs[j]):QT P base ⟨dst,.load T x,t,p,af,g⟩ ρ O (.agg vs.toArray):=fun w hI=>by
 obtain⟨h0,_⟩:=List.getElem?_eq_some_iff.1 (hv 0 Mu)
 obtain⟨bk,o,rfl⟩:=(hs w hI).addr (i:=i) (by omega)
 exact yE hu ha hi hx hl (fun w hI j hj=>by have:=(hs w hI).get (hv j hj);rwa[←Nat.add_assoc]at this) w hI
theorem cF {x:Operand} {S:TypeId} {fs:Array Field} {i:Nat} {f:Field} {b:Option Addr} {o:Nat} {z:Value} {s h_:Nat} {cs:List Value} (hu:P.underlying S=some (.struct fs)) (hf:fs[i]? =some f) (hi:gj P f.type z s h_) (hs:(s==0)=false)
  (hx:ev ρ x=JZ b o) (Qj: ∀w,Inv base O w→Sl w b cs) (ho:o<cs.length):QT P base ⟨dst,.fieldAddr S x i,t,p,af,g⟩ ρ O (JZ b (o+f.offset)):=fun w hI=>by
 obtain⟨bk,o',rfl⟩:=(Qj w hI).addr ho
 have:=bu (P:=P) (base:=base) (O:=O) (dst:=dst) (t:=t) (p:=p) (af:=af) (g:=g) (b:=bk) (o:=o'+o) hu hi hf hs hx F w hI
 rw[this];simp[JZ,Nat.add_assoc]
end
section
variable {P:Program} {r:Option Nat} {base:World} {n:Nat} {ρ:Env} {O:List Item} {K:Env→List Item→Prop} {d:Nat} {t:TypeId} {p:String} {af:Array Edge} {g:Option (Nat×Bool)}
theorem n7 (j:Nat) (i:Nat) {T E:TypeId} {x y:Operand} {b:Option Addr} {c k:Nat} {v:Value} {vs cs:List Value} {z:Value} {s h_:Nat} (hi:gj P T z s h_) (hx:ev ρ x=JZ b j) (hy:ev ρ y=v) (hv:v.cells=vs.toArray) (hl:vs.length=s) (ho:(vs.all fS)=true) (hs:0<vs.length)
  (hO:O[i]? =some (az b c E k cs)) (hr:j+vs.length≤cs.length)
  (h:K ρ (O.set i (az b c E k (fC cs j vs)))):LT P r base n ⟨none,.store T x y,t,p,af,g⟩ ρ O K:=fun a w M ds ha hI=>by
 obtain⟨bk,o,rfl⟩:=(hI.left.ij (bT hO)).addr (i:=j) (by omega)
 exact Dt i hi hx hy hv hl ho hO hr h a w M ds ha hI
end
def fH (q:Int×Int):Value:=.agg #[.int .i64 q.1,.int .i64 q.2]
theorem tq {P:Program} {T:TypeId} {k:IntKind} (h:P.underlying T=some (.int k)) (d:Nat) (a b:Int) (w:World):(Op.equalIn (d+1) T (.int .i64 a) (.int .i64 b)).run P w=.ok (a==b) w:=by
 rw[Op.equalIn]
 simp[bL h]
structure HX (P:Program) (kt:TypeId) (f1 f2:Field):Prop where
 under:P.underlying kt=some (.struct #[f1,f2])
 u1:P.underlying f1.type=some (.int .i64)
 u2:P.underlying f2.type=some (.int .i64)
 o1:f1.offset=0
 o2:f2.offset=1
 n1:f1.name≠ "_"
 n2:f2.name≠ "_"
 held:P.stoodInHeld kt=false
theorem HX.equal {P:Program} {kt:TypeId} {f1 f2:Field} (h:HX P kt f1 f2) (a b:Int×Int) (w:World):(Op.equal kt (fH a) (fH b)).run P w=.ok (decide (a=b)) w:=by
 show(Op.equalIn (9998+1+1) kt (fH a) (fH b)).run P w=_
 rw[Op.equalIn]
 have Yh: ∀(c:Int×Int),(part f1.type #[.int .i64 c.1,.int .i64 c.2] f1.offset).run P w=.ok (.int .i64 c.1) w:=fun c=>by
  simp[part,jV h.u1,pr,h.o1]
 have Bi: ∀(c:Int×Int),(part f2.type #[.int .i64 c.1,.int .i64 c.2] f2.offset).run P w=.ok (.int .i64 c.2) w:=fun c=>by
  simp[part,jV h.u2,pr,h.o2]
 simp[bL h.under,fH,h.held,h.n1,h.n2,Yh,Bi,tq h.u1,tq h.u2]
 by_cases e1:a.1=b.1
 ·by_cases e2:a.2=b.2
  ·have:a=b:=by cases a;cases b;simp_all
   simp[e1,e2,this]
  ·have: ¬a=b:=fun e=>e2 (by rw[e])
   simp[e1,e2,this]
 ·have: ¬a=b:=fun e=>e1 (by rw[e])
  simp[e1,this]
theorem kP {P:Program} {kt:TypeId} {f1 f2:Field} (h:HX P kt f1 f2):ie P kt fH where
 check:=fun e a w=>by
  show(Instr.checkKey e (9998+1+1) kt _).run P w=_
  rw[Instr.checkKey]
  have Yh: ∀(c:Int×Int),(part f1.type #[.int .i64 c.1,.int .i64 c.2] f1.offset).run P w=.ok (.int .i64 c.1) w:=fun c=>by
   simp[part,jV h.u1,pr,h.o1]
  have Bi: ∀(c:Int×Int),(part f2.type #[.int .i64 c.1,.int .i64 c.2] f2.offset).run P w=.ok (.int .i64 c.2) w:=fun c=>by
   simp[part,jV h.u2,pr,h.o2]
  have hk: ∀(tt:TypeId) (v:Int),P.underlying tt=some (.int .i64)→(Instr.checkKey e (9998+1) tt (.int .i64 v)).run P w=.ok () w:=fun tt v hu=>by
   rw[Instr.checkKey];simp[bL hu]
  simp[bL h.under,fH,h.n1,h.n2,Yh,Bi,hk _ _ h.u1,hk _ _ h.u2]
 find:=fun es ks a w pu=>by
  have ask: ∀(es:List MapEntry) (ks:List (Int×Int)) (i:Nat),es.map (·.key)=ks.map fH→(Instr.findAsking kt (fH a) es i).run P w=.ok (mn a ks es i) w:=by
   intro es
   induction es with
   |nil=>intro ks i h;cases ks<;>simp_all[Instr.findAsking,mn]
   |cons e es ih=>
    intro ks i hh
    cases ks with
    |nil=>simp at hh
    |cons b ks=>
     simp only[cJ,List.cons.injEq]at hh
     simp only[Instr.findAsking,hh.1,Sem.run_bind,h.equal,Result.andThen_ok,mn]
     by_cases e:a=b
     ·simp[e]
     ·simp[e,ih ks (i+1) hh.2]
  have key: ∀(es:List MapEntry) (ks:List (Int×Int)),es.map (·.key)=ks.map fH→Instr.findNow (.struct #[f1,f2]) (fH a) es 0=some (mn a ks es 0)∨Instr.findNow (.struct #[f1,f2]) (fH a) es 0=none:=by
   intro es ks hh
   cases es with
   |nil=>left;cases ks<;>simp_all[Instr.findNow,mn]
   |cons e es=>right;simp[Instr.findNow,Instr.sameNow]
  rcases key es ks pu with hk|hk
  ·simp[Instr.findKey,bL h.under,hk]
  ·simp[Instr.findKey,bL h.under,hk,ask es ks 0 pu]
@[reducible] def aD (n:Nat):Option Addr:=some ⟨n,0,none⟩
@[reducible] def bJ (n c:Nat) (T:TypeId) (k:Nat) (cs:List Value):Lx.Item:=az (aD n) c T k cs
@[reducible] def eJ (n i:Nat):Value:=JZ (aD n) i
@[reducible] def nS:Value:=.slice none 0 0
@[reducible] def vI (v:Int):Value:=.int .i64 v
@[reducible] def vN (n:Nat):Value:=.int .i64 (n:Int)
@[reducible] def v8 (n:Nat):Value:=.int .u8 (n:Int)
section
variable {X:PX} {P:Program} {r:Option Nat} {base:World} {n:Nat} {ρ:Env} {O:List Item} {ops:Array Oper} {l:List Oper} {K:Env→List Item→Prop} {t:TypeId} {p:String} {af:Array Edge}
theorem aN {d:Nat} {x:Operand} (hk:TO X P r base n ops l K (kz ρ d (ev ρ x)) O) (hn:Nat.blt d n=true:=by rfl):TO X P r base n ops (⟨some d,.move x,t,p,af,none⟩::l) K ρ O:=ae (aw) hk hn
theorem aS {d:Nat} {x:Operand} (hk:TO X P r base n ops l K (kz ρ d (ev ρ x)) O) (hn:Nat.blt d n=true:=by rfl):TO X P r base n ops (⟨some d,.assign x,t,p,af,none⟩::l) K ρ O:=ae (cz) hk hn
theorem mG {α:Type} {l:List α} {a:α} (i:Nat) (h:l[i]? =some a:=by exact F):a∈l:=bT h
theorem iq {O' O:List Item} (D:List Item) (h: ∀a,Lx.xT a (O'++D)=Lx.xT a O:=by intro a;simp+zetaDelta only[cw,oI,List.set_cons_zero,List.set_cons_succ,fC,cN,dM,dp,aV,bm,cJ,gM,qk,pt,HT,vI,nS,bJ,eJ,aD]<;>omega):Sub O' O:=Sub.xT D h
theorem ao {d j tj:Nat} {want:Bool} {op:Op} {v:Value} (h:QT P base ⟨some d,op,t,p,af,some (j,want)⟩ ρ O v) (hk:TO X P r base n ops l K (kz ρ d v) O) (hj:(ops[j]?).bind (·.dst)=some tj:=by exact F) (hw:ρ tj=.bool want:=by exact F) (hn:Nat.blt d n=true:=by rfl):TO X P r base n ops (⟨some d,op,t,p,af,some (j,want)⟩::l) K ρ O:=gF F hj hw (eV F hn h hk)
theorem n8 (is:List Nat) {f:FuncId} {args:List Value} {A B O:List Item} {R:Value→List Item→Prop} (h:cx P base f args A R) (hA:yI is O=A:=by rfl) (hB:Bf is O=B:=by simp only[Bf,uJ,cw,oI,List.set_cons_zero,List.set_cons_succ,fC,cN,dM,dp];rfl):cx P base f args O (fun v O'=> ∃A',O'=A'++B∧R v A'):=
 cx.under h (by subst hA hB;exact⟨_,sD is O,aP _⟩)
end
section
variable {P:Program} {r:Option Nat} {base:World} {n:Nat} {ρ:Env} {O:List Item} {Q:kv} {K:Env→List Item→Prop} {t:TypeId} {p:String} {af:Array Edge} {g:Option (Nat×Bool)}
theorem aQ {id:Nat} {l:List Oper} {y:Code} (h:TO (fun c=> ∀ρ,tn (fun ρ O=>T P r base n y Q ρ O) Q (.panic c) ρ []) P r base n l.toArray l (fun ρ O=>tn (fun ρ O=>T P r base n y Q ρ O) Q .normal ρ O) ρ O):T P r base n (.seq (.region id l.toArray false) y) Q ρ O:=br (a_ h)
theorem fW (l:List (Nat×Nat)) {id:Nat} {ops:Array Oper} (h:DO (fun c=> ∀ρ,Q (.panic c) ρ []) P r base n ops O (o9 l) [] (mN l) l (fun ρ O=>Q .normal ρ O) ρ O) (hm:P.follows .mixedOrders=true:=by exact mixed) (hB:yC ops l=true:=by first|exact yP (by kernel_rfl)|kernel_rfl) (hp: ∀c ρ iA O,Q (.panic c) ρ O→Q (.panic c) iA O:=by exact fun _ _ _ _ h=>h):T P r base n (.region id ops true) Q ρ O:=Bb O l hm hB (cd (aP _)) hp h
theorem T.ds (S:List Item) (l:List (Nat×Nat)) {id:Nat} {ops:Array Oper} (hS:Sub S O) (h:DO (fun c=> ∀ρ,Q (.panic c) ρ []) P r base n ops S (o9 l) [] (mN l) l (fun ρ O=>Q .normal ρ O) ρ O) (hm:P.follows .mixedOrders=true:=by exact mixed) (hB:yC ops l=true:=by first|exact yP (by kernel_rfl)|kernel_rfl) (hp: ∀c ρ iA O,Q (.panic c) ρ O→Q (.panic c) iA O:=by exact fun _ _ _ _ h=>h):T P r base n (.region id ops true) Q ρ O:=Bb S l hm hB hS hp h
theorem c8 (vs:List Value) {T E:TypeId} {x y:Operand} {b o:Nat} {v:Value} {cs:List Value} {z:Value} {s h_:Nat} (i:Nat) (hi:gj P T z s h_) (h:K ρ (O.set i (eu b (.cells (fC cs o vs).toArray E (0,0))))) (hx:ev ρ x=.pointer (some ⟨b,o,none⟩):=by exact F) (hy:ev ρ y=v:=by exact F) (hv:v.cells=vs.toArray:=by exact F) (hO:O[i]? =some (eu b (.cells cs.toArray E (0,0))):=by exact F) (hl:vs.length=s:=by rfl) (ho:(vs.all fS)=true:=by rfl) (hr:o+vs.length≤cs.length:=by simp[fC]):LT P r base n ⟨none,.store T x y,t,p,af,g⟩ ρ O K:=xA i hi hx hy hv hl ho hO hr h
end
section
variable {X:PX} {P:Program} {r:Option Nat} {base:World} {n:Nat} {ρ:Env} {O:List Item} {Q:kv} {ops:Array Oper} {l:List Oper} {K:Env→List Item→Prop} {t:TypeId} {p:String} {af:Array Edge}
theorem bq {id:Nat} {l2:List Oper} {y z:Code} (h:TO (fun c=> ∀ρ,tn (fun ρ O=>T P r base n y (tn (fun ρ O=>T P r base n z Q ρ O) Q) ρ O) (tn (fun ρ O=>T P r base n z Q ρ O) Q) (.panic c) ρ []) P r base n l2.toArray l2 (fun ρ O=>tn (fun ρ O=>T P r base n y (tn (fun ρ O=>T P r base n z Q ρ O) Q) ρ O) (tn (fun ρ O=>T P r base n z Q ρ O) Q) .normal ρ O) ρ O):TO X P r base n ops [] (fun ρ O=>tn (fun ρ O=>T P r base n (.seq (.seq (.region id l2.toArray false) y) z) Q ρ O) Q .normal ρ O) ρ O:=bi (br (aQ h))
theorem dP {fn:Func} {R:Value→List Item→Prop} {Q:kv} (h:qS P base fn ρ O (fun v O1=> ∃O2,Sub O2 O1∧R v O2)) (e:Q .ret ρ O=qS P base fn ρ O R:=by exact F):TO X P r base n ops [] (fun ρ O=>tn (fun ρ O=>T P r base n .ret Q ρ O) Q .normal ρ O) ρ O:=bi (cM (e.mpr (dS h)))
theorem aj {d:Nat} {x:Operand} (h:K (kz ρ d (ev ρ x)) O) (hn:Nat.blt d n=true:=by rfl):TO X P r base n ops [⟨some d,.assign x,t,p,af,none⟩] K ρ O:=aS (bi h) hn
theorem a7 {id d:Nat} {x:Operand} {y:Code} (h:TO (fun c=> ∀ρ,tn (fun ρ O=>T P r base n y Q ρ O) Q (.panic c) ρ []) P r base n (⟨some d,.move x,t,p,af,none⟩::l).toArray l (fun ρ O=>tn (fun ρ O=>T P r base n y Q ρ O) Q .normal ρ O) (kz ρ d (ev ρ x)) O) (hn:Nat.blt d n=true:=by rfl):T P r base n (.seq (.region id (⟨some d,.move x,t,p,af,none⟩::l).toArray false) y) Q ρ O:=aQ (aN h hn)
theorem aG {id d:Nat} {op:Op} {v:Value} {y:Code} (q:QT P base ⟨some d,op,t,p,af,none⟩ ρ O v) (h:TO (fun c=> ∀ρ,tn (fun ρ O=>T P r base n y Q ρ O) Q (.panic c) ρ []) P r base n (⟨some d,op,t,p,af,none⟩::l).toArray l (fun ρ O=>tn (fun ρ O=>T P r base n y Q ρ O) Q .normal ρ O) (kz ρ d v) O) (hn:Nat.blt d n=true:=by rfl):T P r base n (.seq (.region id (⟨some d,op,t,p,af,none⟩::l).toArray false) y) Q ρ O:=aQ (ae q h hn)
theorem aR {d:Nat} {x:Operand} {fn:Func} {R:Value→List Item→Prop} {Q:kv} (h:qS P base fn (kz ρ d (ev ρ x)) O (fun v O1=> ∃O2,Sub O2 O1∧R v O2)) (e:Q .ret (kz ρ d (ev ρ x)) O=qS P base fn (kz ρ d (ev ρ x)) O R:=by exact F) (hn:Nat.blt d n=true:=by rfl):TO X P r base n ops [⟨some d,.assign x,t,p,af,none⟩] (fun ρ O=>tn (fun ρ O=>T P r base n .ret Q ρ O) Q .normal ρ O) ρ O:=aS (dP h e) hn
theorem bo {id d:Nat} {x:Operand} {y:Code} {d2:Nat} {t2:TypeId} {p2:String} {Qk:Array Edge} {op:Op} {v:Value} (q:QT P base ⟨some d2,op,t2,p2,Qk,none⟩ (kz ρ d (ev ρ x)) O v) (h:TO (fun c=> ∀ρ,tn (fun ρ O=>T P r base n y Q ρ O) Q (.panic c) ρ []) P r base n (⟨some d,.move x,t,p,af,none⟩::⟨some d2,op,t2,p2,Qk,none⟩::l).toArray l (fun ρ O=>tn (fun ρ O=>T P r base n y Q ρ O) Q .normal ρ O) (kz (kz ρ d (ev ρ x)) d2 v) O) (hn:Nat.blt d n=true:=by rfl) (Q3:Nat.blt d2 n=true:=by rfl):T P r base n (.seq (.region id (⟨some d,.move x,t,p,af,none⟩::⟨some d2,op,t2,p2,Qk,none⟩::l).toArray false) y) Q ρ O:=a7 (ae q h Q3) hn
theorem bH {d:Nat} {x:Operand} (h:K (kz ρ d (ev ρ x)) O) (hn:Nat.blt d n=true:=by rfl):TO X P r base n ops [⟨some d,.move x,t,p,af,none⟩] K ρ O:=aN (bi h) hn
theorem aX {d:Nat} {op:Op} {v:Value} (q:QT P base ⟨some d,op,t,p,af,none⟩ ρ O v) (h:K (kz ρ d v) O) (hn:Nat.blt d n=true:=by rfl):TO X P r base n ops [⟨some d,op,t,p,af,none⟩] K ρ O:=ae q (bi h) hn
theorem du {d0 t0 j0 Zf:Nat} {op0:Op} {p0:String} {af0:Array Edge} {w0:Bool} {d1 t1 j1 Zg:Nat} {op1:Op} {p1:String} {af1:Array Edge} {w1:Bool} {d2 t2 j2 tj2:Nat} {op2:Op} {p2:String} {Qk:Array Edge} {w2:Bool} {d3 t3 j3 tj3:Nat} {op3:Op} {p3:String} {af3:Array Edge} {w3:Bool} (h:TO X P r base n ops l K (kz (kz (kz (kz ρ d0 undef) d1 undef) d2 undef) d3 undef) O) (Mv:(ops[j0]?).bind (·.dst)=some Zf:=by exact F) (hw0:(FT (ρ Zf)==some w0)=false:=by exact F) (hj1:(ops[j1]?).bind (·.dst)=some Zg:=by exact F) (UT:(FT ((kz ρ d0 undef) Zg)==some w1)=false:=by exact F) (s_:(ops[j2]?).bind (·.dst)=some tj2:=by exact F) (YH:(FT ((kz (kz ρ d0 undef) d1 undef) tj2)==some w2)=false:=by exact F) (hj3:(ops[j3]?).bind (·.dst)=some tj3:=by exact F) (hw3:(FT ((kz (kz (kz ρ d0 undef) d1 undef) d2 undef) tj3)==some w3)=false:=by exact F) (Mm:Nat.blt d0 n=true:=by rfl) (Zh:Nat.blt d1 n=true:=by rfl) (Q3:Nat.blt d2 n=true:=by rfl) (hn3:Nat.blt d3 n=true:=by rfl):TO X P r base n ops (⟨some d0,op0,t0,p0,af0,some (j0,w0)⟩::(⟨some d1,op1,t1,p1,af1,some (j1,w1)⟩::(⟨some d2,op2,t2,p2,Qk,some (j2,w2)⟩::(⟨some d3,op3,t3,p3,af3,some (j3,w3)⟩::l)))) K ρ O:=cY (cY (cY (cY h hj3 hw3 hn3) s_ YH Q3) hj1 UT Zh) Mv hw0 Mm
theorem cK {d0 t0 j0 Zf:Nat} {op0:Op} {p0:String} {af0:Array Edge} {w0:Bool} {d1 t1 j1 Zg:Nat} {op1:Op} {p1:String} {af1:Array Edge} {w1:Bool} (h:TO X P r base n ops l K (kz (kz ρ d0 undef) d1 undef) O) (Mv:(ops[j0]?).bind (·.dst)=some Zf:=by exact F) (hw0:(FT (ρ Zf)==some w0)=false:=by exact F) (hj1:(ops[j1]?).bind (·.dst)=some Zg:=by exact F) (UT:(FT ((kz ρ d0 undef) Zg)==some w1)=false:=by exact F) (Mm:Nat.blt d0 n=true:=by rfl) (Zh:Nat.blt d1 n=true:=by rfl):TO X P r base n ops (⟨some d0,op0,t0,p0,af0,some (j0,w0)⟩::(⟨some d1,op1,t1,p1,af1,some (j1,w1)⟩::l)) K ρ O:=cY (cY h hj1 UT Zh) Mv hw0 Mm
theorem ay {d:Nat} {x:Operand} {d2:Nat} {t2:TypeId} {p2:String} {Qk:Array Edge} {op:Op} {v:Value} (q:QT P base ⟨some d2,op,t2,p2,Qk,none⟩ (kz ρ d (ev ρ x)) O v) (h:TO X P r base n ops l K (kz (kz ρ d (ev ρ x)) d2 v) O) (hn:Nat.blt d n=true:=by rfl) (Q3:Nat.blt d2 n=true:=by rfl):TO X P r base n ops (⟨some d,.move x,t,p,af,none⟩::⟨some d2,op,t2,p2,Qk,none⟩::l) K ρ O:=aN (ae q h Q3) hn
theorem de {d:Nat} {x x2:Operand} {d2:Nat} {t2:TypeId} {p2:String} {Qk:Array Edge} (h:TO X P r base n ops l K (kz (kz ρ d (ev ρ x)) d2 (ev (kz ρ d (ev ρ x)) x2)) O) (hn:Nat.blt d n=true:=by rfl) (Q3:Nat.blt d2 n=true:=by rfl):TO X P r base n ops (⟨some d,.move x,t,p,af,none⟩::⟨some d2,.move x2,t2,p2,Qk,none⟩::l) K ρ O:=aN (aN h Q3) hn
theorem Q4 {Q:kv} (h:Q .ret ρ O):TO X P r base n ops [] (fun ρ O=>tn (fun ρ O=>T P r base n .ret Q ρ O) Q .normal ρ O) ρ O:=bi (cM h)
theorem dJ {a b:Code} {Q:kv} (h:T P r base n a (tn (fun ρ O=>T P r base n b Q ρ O) Q) ρ O):TO X P r base n ops [] (fun ρ O=>tn (fun ρ O=>T P r base n (.seq a b) Q ρ O) Q .normal ρ O) ρ O:=bi (br h)
theorem xU {id:Nat} {l2:List Oper} {y:Code} {Q:kv} (h:TO (fun c=> ∀ρ,tn (fun ρ O=>T P r base n y Q ρ O) Q (.panic c) ρ []) P r base n l2.toArray l2 (fun ρ O=>tn (fun ρ O=>T P r base n y Q ρ O) Q .normal ρ O) ρ O):TO X P r base n ops [] (fun ρ O=>tn (fun ρ O=>T P r base n (.seq (.region id l2.toArray false) y) Q ρ O) Q .normal ρ O) ρ O:=bi (aQ h)
theorem TO.lc {d:Nat} {f:FuncId} {fn:Func} {args:List Operand} {yF:Array TypeId} {vs:List Value} {R:Value→List Item→Prop} (he:Enters P f fn) (hc:cx P base f vs O R) (h: ∀v O',R v O'→TO X P r base n ops l K (kz ρ d v) O') (ha:HQ ρ args=vs:=by exact F) (hn:Nat.blt d n=true:=by rfl):TO X P r base n ops (⟨some d,.call ⟨.value (.func f),args.toArray,yF⟩,t,p,af,none⟩::l) K ρ O:=ax (eh he hc h ha hn)
theorem aY {p:Prop} [Decidable p] {o:Oper} (h:QT P base o ρ O (.bool (decide p))) (e: ¬p):QT P base o ρ O (.bool false):=eT h (a8 e)
theorem bn {p:Prop} [Decidable p] {o:Oper} (h:QT P base o ρ O (.bool (decide p))) (e:p):QT P base o ρ O (.bool true):=eT h (aZ e)
end
theorem eA {base:World} {O:List Item} {b:Option Addr} {c k:Nat} {E:TypeId} {cs:List Value} (i:Nat) (h:O[i]? =some (az b c E k cs):=by exact F): ∀w,Inv base O w→Sl w b cs:=vV (bT h)
theorem dD {P:Program} {base:World} {ρ:Env} {O:List Item} {dst:Option Nat} {t:TypeId} {p:String} {af:Array Edge} {g:Option (Nat×Bool)} {x:Operand} {T:TypeId} {d:TypeDesc} {b:Option Addr} {i:Nat} {cs:List Value} {v:Value} (hu:P.underlying T=some d) (ha:pr d=false) (hx:ev ρ x=JZ b i) (hs:Sl base b cs) (hv:cs[i]? =some v):QT P base ⟨dst,.load T x,t,p,af,g⟩ ρ O v:=iN hu ha hx (a6 hs) hv
open Go.Lib
theorem kQ {u:Nat} (h:u<10):decDigits u=[UInt8.ofNat (48+u)]:=by rw[decDigits,dif_pos h]
theorem oQ {u:Nat} (h: ¬u<10):decDigits u=decDigits (u/10)++[UInt8.ofNat (48+u%10)]:=by rw[decDigits,dif_neg h]
theorem yS (u:Nat):decDigits u≠ []:=by
 by_cases h:u<10
 ·rw[kQ h];simp
 ·rw[oQ h];simp
theorem jR {k:Nat} (h:k<10):(UInt8.ofNat (48+k)).toNat=48+k:=by
 rw[UInt8.toNat_ofNat'];omega
theorem sF (u:Nat): ∀b∈decDigits u,48≤b.toNat∧b.toNat<58:=by
 induction u using Nat.strongRecOn with
 |_ u ih=>
  by_cases h:u<10
  ·rw[kQ h];intro b hb;rw[dl]at hb;subst hb;rw[jR h];omega
  ·rw[oQ h]
   intro b hb
   rcases List.mem_append.1 hb with hb|hb
   ·exact ih (u/10) (by omega) b hb
   ·rw[dl]at hb;subst hb;rw[jR (by omega)];omega
theorem qo: ∀(a b:Nat),decDigits a=decDigits b→a=b:=by
 intro a
 induction a using Nat.strongRecOn with
 |_ a ih=>
  intro b h
  by_cases ha:a<10
  ·by_cases hb:b<10
   ·rw[kQ ha,kQ hb]at h
    have:=am UInt8.toNat (List.cons.inj h).1
    rw[jR ha,jR hb]at this
    omega
   ·rw[kQ ha,oQ hb]at h
    have h1:=am List.length h
    have h2:0<(decDigits (b/10)).length:=List.length_pos_iff.2 (yS _)
    simp only[aJ,bQ,dx]at h1;omega
  ·by_cases hb:b<10
   ·rw[oQ ha,kQ hb]at h
    have h1:=am List.length h
    have h2:0<(decDigits (a/10)).length:=List.length_pos_iff.2 (yS _)
    simp only[aJ,bQ,dx]at h1;omega
   ·rw[oQ ha,oQ hb]at h
    obtain⟨h1,h2⟩:=List.append_inj' h F
    have e1:=ih (a/10) (by omega) (b/10) h1
    have e2:=am UInt8.toNat (List.cons.inj h2).1
    rw[jR (by omega),jR (by omega)]at e2
    omega
def ko:List Nat→List UInt8
 | []=>[]
 |n::l=>32::(decDigits n++ko l)
def jH (a:Nat) (l:List Nat):List UInt8:=decDigits a++ko l
theorem Cd (l:List Nat) (n:Nat):ko (l++[n])=ko l++32::decDigits n:=by
 induction l with
 |nil=>simp[ko]
 |cons a l ih=>simp[ko,ih]
theorem nC (u:Nat):(32:UInt8)∉decDigits u:=fun h=>by have:=sF u 32 h;simp at this
theorem rB: ∀ {x y:List UInt8} {a b:List Nat},(32:UInt8)∉x→(32:UInt8)∉y→x++ko a=y++ko b→x=y∧ko a=ko b
 | [],[],a,b,_,_,h=>⟨F,by simpa using h⟩
 | [],c::y,a,b,_,hy,h=>by
  cases a with
  |nil=>simp[ko]at h
  |cons n a=>simp only[ko,dM,cN,List.cons.injEq]at h;exact(hy (by simp[←h.1])).elim
 |c::x,[],a,b,hx,_,h=>by
  cases b with
  |nil=>simp[ko]at h
  |cons n b=>simp only[ko,dM,cN,List.cons.injEq]at h;exact(hx (by simp[h.1])).elim
 |c::x,c'::y,a,b,hx,hy,h=>by
  simp only[cN,List.cons.injEq]at h
  simp only[dt,not_or]at hx hy
  obtain⟨h1,h2⟩:=rB hx.2 hy.2 h.2
  exact⟨by rw[h.1,h1],h2⟩
theorem Bk: ∀ {l m:List Nat},ko l=ko m→l=m
 | [],[],_=>rfl
 | [],b::m,h=>by simp[ko]at h
 |a::l,[],h=>by simp[ko]at h
 |a::l,b::m,h=>by
  simp only[ko,List.cons.injEq,true_and]at h
  obtain⟨h1,h2⟩:=rB (nC a) (nC b) h
  rw[qo a b h1,Bk h2]
theorem MC {a b:Nat} {l m:List Nat} (h:jH a l=jH b m):a=b∧l=m:=by
 obtain⟨h1,h2⟩:=rB (nC a) (nC b) h
 exact⟨qo a b h1,Bk h2⟩
theorem uO: ∀(k u:Nat),u<10^(k+1)→(decDigits u).length≤k+1
 |0,u,h=>by rw[kQ (by simpa using h)];simp
 |k+1,u,h=>by
  by_cases h0:u<10
  ·rw[kQ h0];simp
  ·rw[oQ h0,aJ]
   have:=uO k (u/10) (by rw[Nat.pow_succ]at h;omega)
   simp only[bQ,dx]
   omega
section
variable {α:Type} [DecidableEq α]
def ix (x:α):List α→Nat
 | []=>0
 |k::ks=>if x=k then 0 else ix x ks+1
theorem tB {x:α}: ∀ {ks:List α},x∈ks→ix x ks<ks.length
 |k::ks,h=>by
  simp only[ix]
  split
  ·simp
  ·rename_i e
   have:=tB ((List.mem_cons.1 h).resolve_left e)
   simp;omega
theorem qB {x:α}: ∀ {ks:List α},x∈ks→ks[ix x ks]? =some x
 |k::ks,h=>by
  simp only[ix]
  split
  ·rename_i e;simp[e]
  ·rename_i e
   simpa using qB ((List.mem_cons.1 h).resolve_left e)
theorem Xq {x y:α} {ks:List α} (hx:x∈ks) (hy:y∈ks) (h:ix x ks=ix y ks):x=y:=by
 have h1:=qB hx
 rw[h,qB hy]at h1
 exact(dn h1).symm
theorem mg {x:α} {ms:List α}: ∀ {ks:List α},x∈ks→ix x (ks++ms)=ix x ks
 |k::ks,h=>by
  simp only[cN,ix]
  split
  ·rfl
  ·rename_i e;rw[mg ((List.mem_cons.1 h).resolve_left e)]
theorem gr {x:α} {ms:List α}: ∀ {ks:List α},x∉ks→ix x (ks++ms)=ks.length+ix x ms
 | [],_=>by simp
 |k::ks,h=>by
  simp only[dt,not_or]at h
  simp only[cN,ix,h.1,if_false,gr h.2,bQ]
  omega
def add (ks:List α) (k:α):List α:=if k∈ks then ks else ks++[k]
def dd (l:List α):List α:=l.foldl add []
theorem sV {ks:List α} {k x:α}:x∈add ks k↔x∈ks∨x=k:=by
 unfold add
 split
 ·rename_i h
  exact⟨.inl,fun h'=>h'.elim id (fun e=>e▸h)⟩
 ·simp
theorem nP {ks:List α} {k:α} (h:ks.Nodup):(add ks k).Nodup:=by
 unfold add
 split
 ·exact h
 ·rename_i hk
  rw[List.nodup_append]
  refine⟨h,by simp,fun a ha b hb e=>?_⟩
  simp at hb;subst hb;subst e;exact hk ha
theorem kH (ks:List α) (k:α):ks<+:add ks k:=by
 unfold add
 split
 ·exact List.prefix_refl _
 ·exact List.prefix_append _ _
theorem ig: ∀(l ks:List α),ks<+:l.foldl add ks
 | [],ks=>List.prefix_refl _
 |k::l,ks=>(kH ks k).trans (ig l (add ks k))
theorem wv (l m:List α):dd (l++m)=m.foldl add (dd l):=by simp[dd]
theorem CW (l:List α) (k:α):dd (l++[k])=add (dd l) k:=by simp[dd]
theorem kY {l:List α} {x:α}:x∈dd l↔x∈l:=by
 have: ∀(l ks:List α),x∈l.foldl add ks↔x∈ks∨x∈l:=by
  intro l
  induction l with
  |nil=>intro ks;simp
  |cons k l ih=>intro ks;rw[cU,ih,sV,dt,or_assoc]
 rw[dd,this];simp
theorem iM {ks ms:List α} (h:ks<+:ms) {x:α} (hx:x∈ks):ix x ms=ix x ks:=by
 obtain⟨t,rfl⟩:=h
 exact mg hx
theorem l8 {x:α}: ∀(ks:List α) (i:Nat),mU x (ks.zipIdx i)=if x∈ks then some (i+ix x ks)else none
 | [],i=>by simp[mU]
 |k::ks,i=>by
  simp only[List.zipIdx_cons,mU]
  by_cases e:x=k
  ·subst e;simp[ix]
  ·rw[aq e,l8 ks (i+1)]
   by_cases h:x∈ks
   ·simp[h,e,ix];omega
   ·simp[h,e]
theorem nX (ks:List α) (i:Nat):(ks.zipIdx i).map Prod.fst=ks:=by
 induction ks generalizing i with
 |nil=>rfl
 |cons k ks ih=>simp[List.zipIdx_cons]
end
def gE (cs:List Nat) (r:List Int):List Nat:=r.map fun to=>cs.getD to.toNat 0
def zP (d:c_) (cs:List Nat) (s:Nat):List UInt8:=jH (cs.getD s 0) (gE cs (d.next.getD s []))
def jL (d:c_) (cs:List Nat):List (List UInt8):=(List.range d.next.length).map (zP d cs)
def jC (d:c_) (cs:List Nat):List Nat:=(jL d cs).map fun k=>ix k (dd (jL d cs))
theorem Fc (l:List UInt8):dy (l++[32])=dy l++[Value.int .u8 32]:=by simp
theorem K9 {a j:Nat} {l:List Nat} (hj:j<l.length):jH a (l.take (j+1))=jH a (l.take j)++[32]++Lib.decDigits l[j]:=by
 rw[aC hj,jH,jH,Cd];simp
theorem BV: ∀ {l:List Nat},(∀x∈l,x<10000)→(ko l).length≤5*l.length
 | [],_=>by simp[ko]
 |a::l,h=>by
  have h1:=uO 3 a (by have:=h a (by simp);omega)
  have h2:=BV (l:=l) (fun x hx=>h x (by simp[hx]))
  simp only[ko,bQ,aJ]
  omega
theorem Pe {a:Nat} {l:List Nat} (ha:a<10000) (h: ∀x∈l,x<10000):(jH a l).length≤4+5*l.length:=by
 have h1:=uO 3 a (by omega)
 have h2:=BV h
 simp only[jH,aJ]
 omega
theorem Hk {d:c_} {cs:List Nat} {k:Nat} (hk:k<d.next.length):(jL d cs).take (k+1)=(jL d cs).take k++[zP d cs k]:=by
 have hl:k<(jL d cs).length:=by simpa[jL]using hk
 rw[aC hl]
 simp[jL]
theorem SC {d:c_} {cs:List Nat} {k:Nat} (hk:k<d.next.length) (hc:k<cs.length):zP d cs k=jH cs[k] (gE cs d.next[k]):=by
 simp[zP,hk,hc]
theorem SB {cs:List Nat} (h: ∀x∈cs,x<10000) {r:List Int}: ∀x∈gE cs r,x<10000:=by
 intro x hx
 obtain⟨to,_,rfl⟩:=List.mem_map.1 hx
 rw[au]
 cases e:cs[to.toNat]? with
 |none=>simp
 |some y=>exact h y (bT e)
theorem wu {α:Type} [DecidableEq α] (l:List α):(dd l).length≤l.length:=by
 have: ∀(l ks:List α),(l.foldl add ks).length≤ks.length+l.length:=by
  intro l
  induction l with
  |nil=>intro ks;simp
  |cons k l ih=>
   intro ks
   have h1:=ih (add ks k)
   have h2:(add ks k).length≤ks.length+1:=by unfold add;split<;>simp
   simp only[cU,bQ]
   omega
 simpa[dd]using this l []
theorem Pg {d:c_} {cs:List Nat} {k s:Nat} (hs:s<k) (hk:k≤d.next.length):zP d cs s∈(jL d cs).take k:=by
 rw[jL,←List.map_take]
 refine List.mem_map_of_mem ?_
 rw[List.take_range]
 simp;omega
theorem jr (cs:List Nat) (r:List Int):(gE cs r).length=r.length:=ai _
theorem Fv {cs:List Nat} {r:List Int} {j:Nat} (hj:j<r.length) (h:r[j].toNat<cs.length):(gE cs r)[j]'(by rw[jr];exact hj)=cs[r[j].toNat]:=by
 simp[gE,h]
theorem Pf {cs:List Nat} {r:List Int} {a j:Nat} (hj:j<r.length) (h:r[j].toNat<cs.length):jH a ((gE cs r).take (j+1))=jH a ((gE cs r).take j)++[32]++Lib.decDigits cs[r[j].toNat]:=by
 rw[K9 (by rw[jr];exact hj),Fv hj h]
def nr (d:c_):List Nat:=(List.range d.next.length).map fun s=>if d.aT.getD s false≠d.aT.getD 0 false then 1 else 0
def iL (d:c_):Nat→List Nat
 |0=>nr d
 |i+1=>jC d (iL d i)
theorem fQ (d:c_) (i:Nat):(iL d i).length=d.next.length:=by
 cases i<;>simp[iL,nr,jC,jL]
theorem Hv {d:c_} {cs:List Nat} {x:Nat} (h:x∈jC d cs):x<d.next.length:=by
 obtain⟨k,hk,rfl⟩:=List.mem_map.1 h
 have h1:=tB (kY.2 hk)
 have h2:=wu (jL d cs)
 have h3:(jL d cs).length=d.next.length:=by simp[jL]
 omega
theorem Pm {d:c_} (hn:d.next.length<10000) (i:Nat): ∀x∈iL d i,x<10000:=by
 cases i with
 |zero=>
  intro x hx
  obtain⟨s,_,rfl⟩:=List.mem_map.1 hx
  split<;>omega
 |succ i=>intro x hx;have:=Hv hx;omega
theorem uj {d:c_} {i:Nat} (h:jC d (iL d i)=iL d i): ∀m,i≤m→iL d m=iL d i:=by
 intro m hm
 induction hm with
 |refl=>rfl
 |step _ ih=>rw[iL,ih,h]
def zg (tr:List UInt8→Nat→List UInt8) (L:Nat) (start:List UInt8):Nat→List (List UInt8)
 |0=>[start]
 |s+1=>((List.range L).map (tr ((zg tr L start s).getD s []))).foldl add (zg tr L start s)
def l9 (tr:List UInt8→Nat→List UInt8) (L:Nat) (ks:List (List UInt8)) (s:Nat):List Int:=
 (List.range L).map fun x=>((ix (tr (ks.getD s []) x) ks:Nat):Int)
theorem jK {α:Type} [DecidableEq α] (f:Nat→α) (ks:List α) (x:Nat):((List.range (x+1)).map f).foldl add ks=add (((List.range x).map f).foldl add ks) (f x):=by
 rw[List.range_succ,bm,cT];rfl
theorem et {α:Type} [DecidableEq α] {y:α}: ∀(l ks:List α),y∈l.foldl add ks↔y∈ks∨y∈l
 | [],ks=>by simp
 |k::l,ks=>by rw[cU,et l,sV,dt,or_assoc]
theorem na {ks ms:List (List UInt8)} (h:ks<+:ms) {s:Nat} (hs:s<ks.length):ms.getD s []=ks.getD s []:=by
 obtain⟨t,rfl⟩:=h
 rw[au,au,bG hs]
structure rT (tr:List UInt8→Nat→List UInt8) (L:Nat) (ks:List (List UInt8)) (s:Nat) (rs:List (List Int)):Prop where
 len:rs.length=s
 le:s≤ks.length
 row: ∀i,i<s→rs[i]? =some (l9 tr L ks i)
 mem: ∀i,i<s→ ∀x,x<L→tr (ks.getD i []) x∈ks
theorem C2 {tr:List UInt8→Nat→List UInt8} {L:Nat} {ks ms:List (List UInt8)} (h:ks<+:ms) {s:Nat} (hs:s<ks.length) (hm: ∀x,x<L→tr (ks.getD s []) x∈ks):l9 tr L ms s=l9 tr L ks s:=by
 unfold l9
 apply List.map_congr_left
 intro x hx
 rw[na h hs,iM h (hm x (List.mem_range.1 hx))]
theorem rT.snoc {tr:List UInt8→Nat→List UInt8} {L:Nat} {ks ms:List (List UInt8)} {s:Nat} {rs:List (List Int)} {ys:List Int} (h:rT tr L ks s rs) (hp:ks<+:ms) (hs:s<ks.length) (hy:ys=l9 tr L ms s) (hm: ∀x,x<L→tr (ms.getD s []) x∈ms):rT tr L ms (s+1) (rs++[ys]):=by
 have HR:=hp.length_le
 refine⟨by simp[h.len],by omega,fun i hi=>?_,fun i hi=>?_⟩
 ·by_cases e:i=s
  ·subst e;rw[bZ (by rw[h.len];exact aI _),h.len,hy];simp
  ·rw[bG (by rw[h.len];omega),h.row i (by omega),C2 hp (by omega) (h.mem i (by omega))]
 ·by_cases e:i=s
  ·subst e;exact hm
  ·intro x hx
   rw[na hp (by omega)]
   exact hp.subset (h.mem i (by omega) x hx)
def Jk (l:List UInt8):Nat:=l.foldl (fun a b=>a*10+(b.toNat-48)) 0
theorem wH (u:Nat):Jk (Lib.decDigits u)=u:=by
 induction u using Nat.strongRecOn with
 |_ u ih=>
  by_cases h:u<10
  ·rw[kQ h]
   show 0*10+((UInt8.ofNat (48+u)).toNat-48)=u
   rw[jR h];omega
  ·rw[oQ h,Jk,cT]
   have:=ih (u/10) (by omega)
   rw[Jk]at this
   rw[this]
   show u/10*10+((UInt8.ofNat (48+u%10)).toNat-48)=u
   rw[jR (by omega)];omega
def fm (d:c_) (o x:Nat):Nat:=((d.next.getD o []).getD x 0).toNat
def F4 (d:c_) (k:List UInt8) (x:Nat):List UInt8:=Lib.decDigits (fm d (Jk k) x)
def nL (d:c_) (o:Nat):List Nat:=(List.range (2^d.vars.toNat)).map (fm d o)
def dY (d:c_):Nat→List Nat
 |0=>[d.start.toNat]
 |s+1=>if s<(dY d s).length then(nL d ((dY d s).getD s 0)).foldl add (dY d s)else dY d s
def order (d:c_):List Nat:=dY d d.next.length
def eB (d:c_):c_ where
 vars:=d.vars
 start:=0
 next:=(order d).map fun o=>(nL d o).map fun t=>((ix t (order d):Nat):Int)
 aT:=(order d).map fun o=>d.aT.getD o false
theorem Val.iw {d:c_} (hv:Val d) {o x:Nat} (ho:o<d.next.length) (hx:x<2^d.vars.toNat):fm d o x<d.next.length∧ ∃h:o<d.next.length,∃uC:x<d.next[o].length,d.next[o][x]=(fm d o x:Int):=by
 have hl:d.next[o].length=2^d.vars.toNat:=hv.len _ (av ho)
 have uC:x<d.next[o].length:=by omega
 have h1:=hv.ok _ (av ho) _ (av uC)
 have e:fm d o x=d.next[o][x].toNat:=by simp[fm,ho,uC]
 exact⟨by omega,ho,uC,by omega⟩
theorem fA: ∀ {n:Nat} {l:List Nat},l.Nodup→(∀x∈l,x<n)→l.length≤n
 |0,l,_,hb=>by
  cases l with
  |nil=>simp
  |cons a l=>exact absurd (hb a (by simp)) (by omega)
 |n+1,l,h,hb=>by
  by_cases hn:n∈l
  ·have h1:=fA (n:=n) (h.erase n) fun x hx=>by
    have:=(List.Nodup.mem_erase_iff h).1 hx
    have:=hb x this.2
    omega
   rw[List.length_erase_of_mem hn]at h1
   omega
  ·have:=fA (n:=n) h fun x hx=>by
    have:=hb x hx
    have:x≠n:=fun e=>hn (e▸hx)
    omega
   omega
theorem Jl {α β:Type} [DecidableEq α] [DecidableEq β] {f:α→β} (hf: ∀a b,f a=f b→a=b) (ks:List α) (k:α):(add ks k).map f=add (ks.map f) (f k):=by
 unfold add
 by_cases h:k∈ks
 ·rw[aB h,aB (List.mem_map_of_mem h)]
 ·rw[aq h,aq (fun hh=>by obtain⟨a,ha,e⟩:=List.mem_map.1 hh;exact h (hf _ _ e▸ha))]
  simp
theorem tE {α β:Type} [DecidableEq α] [DecidableEq β] {f:α→β} (hf: ∀a b,f a=f b→a=b): ∀(l ks:List α),(l.foldl add ks).map f=(l.map f).foldl add (ks.map f)
 | [],ks=>rfl
 |k::l,ks=>by rw[cU,tE hf l,Jl hf,cJ,cU]
theorem Jm (d:c_): ∀(N:Nat),(∀i,i<N→i<(zg (F4 d) (2^d.vars.toNat) (Lib.decDigits d.start.toNat) i).length)→
  zg (F4 d) (2^d.vars.toNat) (Lib.decDigits d.start.toNat) N=(dY d N).map Lib.decDigits
 |0,_=>rfl
 |N+1,h=>by
  have ih:=Jm d N fun i hi=>h i (by omega)
  have hN:=h N (by omega)
  rw[ih,ai]at hN
  rw[zg,ih,dY,aB hN,tE qo]
  congr 1
  rw[nL,List.map_map]
  apply List.map_congr_left
  intro x _
  have e:((dY d N).map Lib.decDigits).getD N []=Lib.decDigits ((dY d N).getD N 0):=by
   simp[hN]
  rw[e,F4,wH];rfl
theorem Fw {d:c_} {N:Nat} (h:(dY d N).length=N): ∀m,N≤m→dY d m=dY d N:=by
 intro m hm
 induction hm with
 |refl=>rfl
 | @step m hm ih=>
  have hm':N≤m:=hm
  rw[dY,ih,aq (by omega)]
theorem ra {d:c_} {N:Nat} (h:(dY d N).length=N) (hn:N≤d.next.length):order d=dY d N:=Fw h _ hn
theorem XD (os:List Nat) (t:Nat):ix (Lib.decDigits t) (os.map Lib.decDigits)=ix t os:=by
 induction os with
 |nil=>rfl
 |cons o os ih=>
  simp only[cJ,ix,ih]
  by_cases e:t=o
  ·simp[e]
  ·rw[aq e,aq (fun h=>e (qo _ _ h))]
theorem xw: ∀ {a b:List Nat},a.map Lib.decDigits=b.map Lib.decDigits→a=b
 | [],[],_=>rfl
 | [],_::_,h=>by simp at h
 |_::_,[],h=>by simp at h
 |x::a,y::b,h=>by
  simp only[cJ,List.cons.injEq]at h
  rw[qo x y h.1,xw h.2]
theorem K_ {d:c_} {os:List Nat} {N:Nat} (k7: ∀i,i<N→i<(zg (F4 d) (2^d.vars.toNat) (Lib.decDigits d.start.toNat) i).length)
  (pu:zg (F4 d) (2^d.vars.toNat) (Lib.decDigits d.start.toNat) N=os.map Lib.decDigits) (iH:(zg (F4 d) (2^d.vars.toNat) (Lib.decDigits d.start.toNat) N).length=N) (HR:os.length≤d.next.length):os=order d∧os.length=N:=by
 have h1:os.length=N:=by rw[←iH,pu,ai]
 have h2:os=dY d N:=xw (by rw[←pu,Jm d N k7])
 exact⟨by rw[ra (N:=N) (by rw[←h2];exact h1) (by omega)];exact h2,h1⟩
theorem PB {d:c_} {os:List Nat} {N:Nat} {rs:List (List Int)} (pu:zg (F4 d) (2^d.vars.toNat) (Lib.decDigits d.start.toNat) N=os.map Lib.decDigits) (hE:rT (F4 d) (2^d.vars.toNat) (zg (F4 d) (2^d.vars.toNat) (Lib.decDigits d.start.toNat) N) N rs) (ho:os=order d) (hN:os.length=N):rs=(eB d).next:=by
 apply List.ext_getElem?
 intro i
 by_cases hi:i<N
 ·rw[hE.row i hi,pu]
  have xx:i<os.length:=by omega
  have e:(os.map Lib.decDigits).getD i []=Lib.decDigits os[i]:=by simp[xx]
  simp only[eB,bl,←ho,ak xx,Option.map_some,l9,e,F4,wH,nL,List.map_map]
  refine am some (List.map_congr_left fun x _=>?_)
  simp only[Function.comp_def,XD]
 ·rw[cn (by rw[hE.len];omega),cn (by simp[eB,←ho];omega)]
def jB (d:c_) (cs:List Nat):Nat→List (List Int)×List Bool
 |0=>([],[])
 |k+1=>if cs.getD k 0<(jB d cs k).1.length then jB d cs k else
   ((jB d cs k).1++[(gE cs (d.next.getD k [])).map fun c:Nat=>(c:Int)],(jB d cs k).2++[d.aT.getD k false])
def quo (d:c_) (cs:List Nat):c_ where
 vars:=d.vars
 start:=((cs.getD d.start.toNat 0:Nat):Int)
 next:=(jB d cs d.next.length).1
 aT:=(jB d cs d.next.length).2
theorem lT (d:c_) (cs:List Nat): ∀k,(jB d cs k).1.length=(jB d cs k).2.length∧(jB d cs k).1.length≤k
 |0=>by simp[jB]
 |k+1=>by
  have ih:=lT d cs k
  rw[jB]
  split
  ·exact⟨ih.1,by omega⟩
  ·simp;omega
theorem p9 {α:Type} {p:List α→Prop} (h0:p []) (h1: ∀l x,p l→p (l++[x])): ∀l,p l:=fun l=>by
 rw[←List.reverse_reverse l]
 generalize l.reverse=m
 induction m with
 |nil=>exact h0
 |cons a m ih=>rw[List.reverse_cons];exact h1 _ _ ih
abbrev eE (d:c_):Nat:=2^d.vars.toNat
def runN (d:c_) (s:Nat) (w:List Nat):Nat:=w.foldl (fm d) s
def dR (d:c_) (s:Nat):Bool:=d.aT.getD s false
def dst (d:c_) (s t:Nat) (w:List Nat):Prop:=dR d (runN d s w)≠dR d (runN d t w)
def Wd (d:c_) (w:List Nat):Prop:= ∀x∈w,x<eE d
def code (w:List Nat):Nat:=w.foldl (fun a x=>a*65+(x+1)) 0
theorem e8 (d:c_) (s:Nat) (w:List Nat) (x:Nat):runN d s (w++[x])=fm d (runN d s w) x:=by simp[runN]
section
variable {P:Program} {r:Option Nat} {base:World} {n:Nat} {ρ:Env} {O:List Item} {Q:kv}
theorem Mw {x:Code} (K:Env→List Item→Prop) (h:T P r base n x (tn K Q) ρ O) (hk: ∀ρ O,K ρ O→Q .normal ρ O):T P r base n x Q ρ O:=
 h.mono fun e ρ O h=>by cases e<;>first|exact hk ρ O h|exact h
variable {t:TypeId} {p:String} {af:Array Edge} {g:Option (Nat×Bool)} {dst:Option Nat}
theorem DB {x y:Operand} {T E U:TypeId} {b:Option Addr} {n c:Nat} (hu:P.underlying T=some (.slice E)) (hx:ev ρ x=.slice b n c) (hy:ev ρ y=.slice none 0 0):QT P base ⟨dst,.binOp .eql T x y U,t,p,af,g⟩ ρ O (.bool b.isNone):=fun w _=>by
 have h:(Op.equal T (.slice b n c) (.slice none 0 0)).run P w=.ok b.isNone w:=by
  show(Op.equalIn (9999+1) T _ _).run P w=_
  rw[Op.equalIn]
  cases b<;>simp[bL hu]
 simp[execOp,hx,hy,eqGuard,binOp,h]
theorem rA {x:Nat} (h:x<256):IntKind.u8.wrap (x:Int)=(x:Int):=by
 simp only[IntKind.wrap,IntKind.signed,IntKind.bits]
 simp
 omega
end
theorem kj {d:c_} (hv:Val d) {s:Nat} (hs:s<d.next.length): ∀w,Wd d w→runN d s w<d.next.length:=by
 refine p9 (fun _=>hs) ?_
 intro w x ih hw
 rw[e8]
 exact(hv.iw (ih fun y hy=>hw y (by simp[hy])) (hw x (by simp))).1
end Go.Lx
namespace Go.Lx
open Go.RowKit
section
variable {α β:Type} [DecidableEq α] [DecidableEq β]
def x6 (l:List α):List Nat:=l.map fun k=>ix k (dd l)
theorem uh (l:List α):(x6 l).length=l.length:=ai _
theorem mf {l:List α} {i:Nat} {a:α} (h:l[i]? =some a):(x6 l)[i]? =some (ix a (dd l)):=by
 rw[x6,bl,h];rfl
theorem IV {l:List α} {i j:Nat} {a b:α} (hi:l[i]? =some a) (hj:l[j]? =some b):(x6 l)[i]? =(x6 l)[j]? ↔a=b:=by
 rw[mf hi,mf hj]
 refine⟨fun h=>Xq (kY.2 (bT hi)) (kY.2 (bT hj)) (dn h),fun h=>h▸rfl⟩
theorem lN {l:List α} {a:α} (h:a∈l):dd (l++[a])=dd l:=by
 rw[CW,add,aB (kY.2 h)]
theorem lO {l:List α} {a:α} (h:a∉l):dd (l++[a])=dd l++[a]:=by
 rw[CW,add,aq (fun hh=>h (kY.1 hh))]
theorem KL: ∀zs:List (α×β),(∀p∈zs,∀q∈zs,p.1=q.1↔p.2=q.2)→
  (dd (zs.map Prod.fst)).length=(dd (zs.map Prod.snd)).length∧ ∀p∈zs,ix p.1 (dd (zs.map Prod.fst))=ix p.2 (dd (zs.map Prod.snd)):=by
 refine p9 (fun _=>⟨F,fun p hp=>by simp at hp⟩) ?_
 intro zs z ih h
 obtain⟨h1,h2⟩:=ih fun p hp q hq=>h p (aH _ hp) q (aH _ hq)
 have hz:z∈zs++[z]:=by simp
 have s9:z.1∈zs.map Prod.fst↔z.2∈zs.map Prod.snd:=by
  constructor
  ·intro hm
   obtain⟨p,hp,e⟩:=List.mem_map.1 hm
   exact List.mem_map.2 ⟨p,hp,((h p (aH _ hp) z hz).1 e)⟩
  ·intro hm
   obtain⟨p,hp,e⟩:=List.mem_map.1 hm
   exact List.mem_map.2 ⟨p,hp,((h p (aH _ hp) z hz).2 e)⟩
 simp only[bm,cJ,gM]
 by_cases hm:z.1∈zs.map Prod.fst
 ·rw[lN hm,lN (s9.1 hm)]
  refine⟨h1,fun p hp=>?_⟩
  rcases List.mem_append.1 hp with hp|hp
  ·exact h2 p hp
  ·simp only[dl]at hp
   subst hp
   obtain⟨q,hq,e⟩:=List.mem_map.1 hm
   have e2:=(h q (aH _ hq) p hz).1 e
   rw[←e,←e2];exact h2 q hq
 ·have Dq:z.2∉zs.map Prod.snd:=fun hh=>hm (s9.2 hh)
  rw[lO hm,lO Dq]
  refine⟨by simp[h1],fun p hp=>?_⟩
  rcases List.mem_append.1 hp with hp|hp
  ·rw[mg (kY.2 (List.mem_map_of_mem hp)),mg (kY.2 (List.mem_map_of_mem hp))]
   exact h2 p hp
  ·simp only[dl]at hp
   subst hp
   rw[gr (fun hh=>hm (kY.1 hh)),gr (fun hh=>Dq (kY.1 hh)),h1]
   simp[ix]
theorem OX: ∀zs:List (α×β),(∀p∈zs,∀q∈zs,p.1=q.1→p.2=q.2)→
  (dd (zs.map Prod.snd)).length≤(dd (zs.map Prod.fst)).length∧((dd (zs.map Prod.snd)).length=(dd (zs.map Prod.fst)).length→ ∀p∈zs,∀q∈zs,p.2=q.2→p.1=q.1):=by
 refine p9 (fun _=>⟨aI _,fun _ p hp=>by simp at hp⟩) ?_
 intro zs z ih h
 obtain⟨h1,h2⟩:=ih fun p hp q hq=>h p (aH _ hp) q (aH _ hq)
 have hz:z∈zs++[z]:=by simp
 simp only[bm,cJ,gM]
 by_cases hm:z.1∈zs.map Prod.fst
 ·obtain⟨q,hq,e⟩:=List.mem_map.1 hm
  have e2:=h q (aH _ hq) z hz e
  have Dq:z.2∈zs.map Prod.snd:=List.mem_map.2 ⟨q,hq,e2⟩
  rw[lN hm,lN Dq]
  refine⟨h1,fun he p hp p' Yi ee=>?_⟩
  have Yg:=h2 he
  have lift: ∀p∈zs++[z],∃p0∈zs,p0.1=p.1∧p0.2=p.2:=fun p hp=>by
   rcases List.mem_append.1 hp with hp|hp
   ·exact⟨p,hp,F,F⟩
   ·simp only[dl]at hp;subst hp;exact⟨q,hq,e,e2⟩
  obtain⟨a,ha,a1,a2⟩:=lift p hp
  obtain⟨b,hb,b1,b2⟩:=lift p' Yi
  rw[←a1,←b1];exact Yg a ha b hb (by rw[a2,b2,ee])
 ·rw[lO hm]
  by_cases Dq:z.2∈zs.map Prod.snd
  ·rw[lN Dq]
   refine⟨by simp;omega,fun he=>?_⟩
   simp at he;omega
  ·rw[lO Dq]
   refine⟨by simp;omega,fun he p hp p' Yi ee=>?_⟩
   have Yg:=h2 (by simpa using he)
   rcases List.mem_append.1 hp with gp|gp
   ·rcases List.mem_append.1 Yi with Xr|Xr
    ·exact Yg p gp p' Xr ee
    ·have e:=List.mem_singleton.1 Xr
     exact(Dq (List.mem_map.2 ⟨p,gp,by rw[ee,e]⟩)).elim
   ·have e:=List.mem_singleton.1 gp
    rcases List.mem_append.1 Yi with Xr|Xr
    ·exact(Dq (List.mem_map.2 ⟨p',Xr,by rw[←ee,e]⟩)).elim
    ·rw[e,List.mem_singleton.1 Xr]
theorem oA: ∀ {l:List α} {m:List β},l.length=m.length→(l.zip m).map Prod.fst=l∧(l.zip m).map Prod.snd=m
 | [],[],_=>⟨F,F⟩
 |a::l,b::m,h=>by
  obtain⟨h1,h2⟩:=oA (l:=l) (m:=m) (by simpa using h)
  simp[h1,h2]
theorem CX {l:List α} {m:List β} (h:l.length=m.length) {p:α×β} (hp:p∈l.zip m): ∃i:Nat,l[i]? =some p.1∧m[i]? =some p.2:=by
 obtain⟨i,hi⟩:=List.getElem?_of_mem hp
 refine⟨i,?_,?_⟩
 ·have:=am (Option.map Prod.fst) hi
  rw[←bl,(oA h).1]at this;simpa using this
 ·have:=am (Option.map Prod.snd) hi
  rw[←bl,(oA h).2]at this;simpa using this
theorem BK {l:List α} {m:List β} (hl:l.length=m.length) (h: ∀(i j:Nat) (a b:α) (a' b':β),l[i]? =some a→l[j]? =some b→m[i]? =some a'→m[j]? =some b'→(a=b↔a'=b')):x6 l=x6 m∧(dd l).length=(dd m).length:=by
 have h0:=KL (l.zip m) fun p hp q hq=>by
  obtain⟨i,a1,a2⟩:=CX hl hp
  obtain⟨j,b1,b2⟩:=CX hl hq
  exact h i j _ _ _ _ a1 b1 a2 b2
 rw[(oA hl).1,(oA hl).2]at h0
 refine⟨?_,h0.1⟩
 apply List.ext_getElem?
 intro i
 by_cases hi:i<l.length
 ·have JR:i<m.length:=by omega
  rw[mf (ak hi),mf (ak JR)]
  have:(l[i],m[i])∈l.zip m:=by
   apply bT (i:=i)
   rw[List.getElem?_zip_eq_some]
   exact⟨ak hi,ak JR⟩
  exact am some (h0.2 _ this)
 ·rw[cn (by rw[uh];omega),cn (by rw[uh];omega)]
end
def QB (d:c_):Nat→Nat→Nat→Bool
 |0,s,t=>dR d s !=dR d t
 |k+1,s,t=>QB d k s t||(List.range (eE d)).any fun x=>QB d k (fm d s x) (fm d t x)
theorem vo (d:c_): ∀k s t,QB d k s t=true↔ ∃u,Wd d u∧u.length≤k∧dst d s t u
 |0,s,t=>by
  simp only[QB,bne_iff_ne]
  constructor
  ·exact fun h=>⟨[],fun x hx=>by simp at hx,aI _,h⟩
  ·rintro⟨u,_,hl,h⟩
   have:u=[]:=List.eq_nil_of_length_eq_zero (by omega)
   subst this;exact h
 |k+1,s,t=>by
  simp only[QB,Bool.or_eq_true,df,fE,vo d k]
  constructor
  ·rintro(⟨u,h1,h2,h3⟩|⟨x,hx,u,h1,h2,h3⟩)
   ·exact⟨u,h1,by omega,h3⟩
   ·refine⟨x::u,fun y hy=>?_,by simp;omega,h3⟩
    rcases List.mem_cons.1 hy with rfl|hy
    ·exact hx
    ·exact h1 y hy
  ·rintro⟨u,h1,h2,h3⟩
   cases u with
   |nil=>exact .inl ⟨[],h1,by simp,h3⟩
   |cons x u=>exact .inr ⟨x,h1 x (by simp),u,fun y hy=>h1 y (by simp[hy]),by simpa using h2,h3⟩
theorem o5 {d:c_} (hv:Val d) {s x:Nat} (hs:s<d.next.length) (hx:x<eE d):fm d s x<d.next.length:=(hv.iw hs hx).1
theorem OY {d:c_} (hv:Val d) {cs:List Nat} (pm:cs.length=d.next.length) {s t:Nat} (hs:s<d.next.length) (ht:t<d.next.length):
  zP d cs s=zP d cs t↔cs.getD s 0=cs.getD t 0∧ ∀x,x<eE d→cs.getD (fm d s x) 0=cs.getD (fm d t x) 0:=by
 have hls:(d.next.getD s []).length=eE d:=by simp[hs];exact hv.len _ (av hs)
 have gQ:(d.next.getD t []).length=eE d:=by simp[ht];exact hv.len _ (av ht)
 have row: ∀s,(d.next.getD s []).length=eE d→ ∀x,x<eE d→(gE cs (d.next.getD s []))[x]? =some (cs.getD (fm d s x) 0):=by
  intro s hl x hx
  have uC:x<(d.next.getD s []).length:=by omega
  have e:(d.next.getD s []).getD x 0=(d.next.getD s [])[x]:=by rw[au,ak uC];rfl
  rw[gE,bl,ak uC,fm,e]
  rfl
 constructor
 ·intro h
  obtain⟨h1,h2⟩:=MC h
  refine⟨h1,fun x hx=>?_⟩
  have a:=row s hls x hx
  rw[h2,row t gQ x hx]at a
  exact(dn a).symm
 ·rintro⟨h1,h2⟩
  unfold zP
  rw[h1]
  congr 1
  apply List.ext_getElem?
  intro x
  by_cases hx:x<eE d
  ·rw[row s hls x hx,row t gQ x hx,h2 x hx]
  ·rw[cn (by rw[jr];omega),cn (by rw[jr];omega)]
theorem xp (d:c_) (cs:List Nat):jC d cs=x6 (jL d cs):=rfl
theorem nQ {d:c_} {cs:List Nat} {s:Nat} (hs:s<d.next.length):(jL d cs)[s]? =some (zP d cs s):=by simp[jL,hs]
theorem ui {d:c_} {s:Nat} (hs:s<d.next.length):(nr d)[s]? =some (if dR d s≠dR d 0 then 1 else 0):=by
 simp[nr,hs,dR]
theorem ly {l:List Nat} {i a:Nat} (h:l[i]? =some a):l.getD i 0=a:=by rw[au,h];rfl
theorem qC {d:c_} (hv:Val d): ∀k s t,s<d.next.length→t<d.next.length→((iL d k).getD s 0=(iL d k).getD t 0↔QB d k s t=false)
 |0,s,t,hs,ht=>by
  rw[iL,ly (ui hs),ly (ui ht),QB]
  cases dR d s<;>cases dR d t<;>cases dR d 0<;>simp
 |k+1,s,t,hs,ht=>by
  have ih:=qC hv k
  rw[iL,xp]
  have h1:=IV (nQ (cs:=iL d k) hs) (nQ (cs:=iL d k) ht)
  have e1:(x6 (jL d (iL d k))).getD s 0=(x6 (jL d (iL d k))).getD t 0↔(x6 (jL d (iL d k)))[s]? =(x6 (jL d (iL d k)))[t]? :=by
   rw[mf (nQ hs),mf (nQ ht),ly (mf (nQ hs)),ly (mf (nQ ht))]
   simp
  rw[e1,h1,OY hv (fQ d k) hs ht,ih s t hs ht,QB,Bool.or_eq_false_iff]
  refine and_congr Iff.rfl ?_
  rw[List.any_eq_false]
  constructor
  ·intro h x hx
   have uC:=List.mem_range.1 hx
   rw[Bool.not_eq_true,←ih _ _ (o5 hv hs uC) (o5 hv ht uC)]
   exact h x uC
  ·intro h x hx
   rw[ih _ _ (o5 hv hs hx) (o5 hv ht hx),←Bool.not_eq_true]
   exact h x (List.mem_range.2 hx)
section
variable {α:Type} [DecidableEq α]
theorem Sn (l:List α):x6 (x6 l)=x6 l:=by
 refine(BK (by rw[uh]) ?_).1
 intro i j a b a' b' hi hj xx A_
 have:=IV xx A_
 rw[hi,hj]at this
 simpa using this
def first (p:Nat→Bool):Nat→Nat
 |0=>0
 |n+1=>if first p n<n then first p n else if p n then n else n+1
theorem OZ (p:Nat→Bool): ∀n,first p n≤n
 |0=>aI _
 |n+1=>by
  have:=OZ p n
  rw[first]
  split
  ·omega
  ·split<;>omega
end
theorem xq: ∀(l:List Nat),(∀x∈l,x≤1)→l.foldl add [0,1]=[0,1]∧(l.foldl add [0]=[0]∧1∉l∨l.foldl add [0]=[0,1]∧1∈l)
 | [],_=>by simp
 |x::l,h=>by
  obtain⟨h1,h2⟩:=xq l fun y hy=>h y (by simp[hy])
  have hx:=h x (by simp)
  have:x=0∨x=1:=by omega
  rcases this with rfl|rfl
  ·refine⟨?_,?_⟩
   ·rw[cU,show add [0,1] 0=[0,1] by decide];exact h1
   ·rw[cU,show add [0] 0=[0] by decide]
    rcases h2 with⟨a,b⟩|⟨a,b⟩
    ·exact .inl ⟨a,by simp[b]⟩
    ·exact .inr ⟨a,by simp[b]⟩
  ·refine⟨?_,?_⟩
   ·rw[cU,show add [0,1] 1=[0,1] by decide];exact h1
   ·rw[cU,show add [0] 1=[0,1] by decide]
    exact .inr ⟨h1,by simp⟩
theorem abD {l:List Nat} (h0:l.headD 0=0) (h: ∀x∈l,x≤1):x6 l=l:=by
 cases l with
 |nil=>rfl
 |cons a l=>
  simp at h0
  subst h0
  have e:dd (0::l)=l.foldl add [0]:=by simp[dd,add]
  have h2:=(xq l fun y hy=>h y (by simp[hy])).2
  rw[x6,e]
  conv=>rhs;rw[←List.map_id (0::l)]
  apply List.map_congr_left
  intro x hx
  have R7:=h x hx
  have:x=0∨x=1:=by omega
  rcases this with rfl|rfl
  ·rcases h2 with⟨a,b⟩|⟨a,b⟩<;>rw[a]<;>decide
  ·rcases h2 with⟨a,b⟩|⟨a,b⟩
   ·simp at hx;exact absurd hx b
   ·rw[a];decide
theorem qD (d:c_): ∀k,x6 (iL d k)=iL d k
 |0=>by
  refine abD ?_ ?_
  ·rw[iL]
   cases e:(nr d)with
   |nil=>rfl
   |cons a l=>
    have:(nr d)[0]? =some a:=by rw[e];rfl
    have hn:0<d.next.length:=by
     have:(nr d).length=d.next.length:=by simp[nr]
     rw[e]at this;simp at this;omega
    rw[ui hn]at this
    simpa using this.symm
  ·intro x hx
   obtain⟨s,_,rfl⟩:=List.mem_map.1 hx
   split<;>omega
 |k+1=>by rw[iL,xp,Sn]
theorem EZ {d:c_} {k m s t:Nat} (h:k≤m) (hd:QB d k s t=true):QB d m s t=true:=by
 obtain⟨u,h1,h2,h3⟩:=(vo d k s t).1 hd
 exact(vo d m s t).2 ⟨u,h1,by omega,h3⟩
theorem IW {d:c_} {k s:Nat} (hs:s<d.next.length):(iL d k)[s]? =some ((iL d k).getD s 0):=by
 have:s<(iL d k).length:=by rw[fQ];exact hs
 rw[au,ak this];rfl
def CY (d:c_) (k:Nat):Nat:=(dd (iL d k)).length
theorem KM {d:c_} (hv:Val d) (k:Nat):CY d k≤CY d (k+1)∧(CY d k=CY d (k+1)→iL d (k+1)=iL d k):=by
 have hl:(iL d (k+1)).length=(iL d k).length:=by rw[fQ,fQ]
 have at_: ∀p∈(iL d (k+1)).zip (iL d k),∃s,s<d.next.length∧(iL d (k+1)).getD s 0=p.1∧(iL d k).getD s 0=p.2:=fun p hp=>by
  obtain⟨i,a1,a2⟩:=CX hl hp
  refine⟨i,?_,ly a1,ly a2⟩
  have:=(List.getElem?_eq_some_iff.1 a2).1
  rwa[fQ]at this
 have h:=OX ((iL d (k+1)).zip (iL d k)) fun p hp q hq e=>by
  obtain⟨s,hs,a1,a2⟩:=at_ p hp
  obtain⟨t,ht,b1,b2⟩:=at_ q hq
  rw[←a1,←b1,qC hv _ s t hs ht]at e
  rw[←a2,←b2,qC hv _ s t hs ht,←Bool.not_eq_true]
  intro hh
  rw[EZ (Nat.le_succ k) hh]at e;cases e
 rw[(oA hl).1,(oA hl).2]at h
 refine⟨h.1,fun e=>?_⟩
 have h2:=h.2 e
 rw[←qD d (k+1),←qD d k]
 refine(BK hl ?_).1
 intro i j a b a' b' hi hj xx A_
 have hm: ∀ {i a a'},(iL d (k+1))[i]? =some a→(iL d k)[i]? =some a'→(a,a')∈(iL d (k+1)).zip (iL d k):=fun {i a a'} x y=>by
  apply bT (i:=i)
  rw[List.getElem?_zip_eq_some]
  exact⟨x,y⟩
 refine⟨fun e=>?_,h2 _ (hm hi xx) _ (hm hj A_)⟩
 have Gm:i<d.next.length:=by have:=(List.getElem?_eq_some_iff.1 xx).1;rwa[fQ]at this
 have hjn:j<d.next.length:=by have:=(List.getElem?_eq_some_iff.1 A_).1;rwa[fQ]at this
 rw[←ly hi,←ly hj,qC hv _ i j Gm hjn]at e
 rw[←ly xx,←ly A_,qC hv _ i j Gm hjn,←Bool.not_eq_true]
 intro hh
 rw[EZ (Nat.le_succ k) hh]at e;cases e
theorem Sp (d:c_) (k:Nat):CY d k≤d.next.length:=by
 have:=wu (iL d k)
 rw[fQ]at this;exact this
theorem O0 {d:c_} (hv:Val d) (k:Nat):0<CY d k:=by
 have h:(iL d k).getD 0 0∈dd (iL d k):=kY.2 (bT (IW hv.n0))
 exact List.length_pos_of_mem h
theorem E0 {d:c_} (hv:Val d): ∀k,(∃j,j<k∧iL d (j+1)=iL d j)∨k+1≤CY d k
 |0=>.inr (O0 hv 0)
 |k+1=>by
  rcases E0 hv k with⟨j,hj,h⟩|h
  ·exact .inl ⟨j,by omega,h⟩
  ·obtain⟨h1,h2⟩:=KM hv k
   by_cases e:CY d k=CY d (k+1)
   ·exact .inl ⟨k,by omega,h2 e⟩
   ·exact .inr (by omega)
theorem O4 {d:c_} (hv:Val d): ∀m,d.next.length≤m→iL d m=iL d d.next.length:=by
 intro m hm
 rcases E0 hv d.next.length with⟨j,hj,h⟩|h
 ·have hs:jC d (iL d j)=iL d j:=by rw[←iL];exact h
  rw[uj hs m (by omega),uj hs d.next.length (by omega)]
 ·have:=Sp d d.next.length;omega
theorem Sq {d:c_} (hv:Val d) {s t:Nat} (hs:s<d.next.length) (ht:t<d.next.length):
  (iL d d.next.length).getD s 0=(iL d d.next.length).getD t 0↔ ∀u,Wd d u→ ¬dst d s t u:=by
 constructor
 ·intro h u hu hd
  have h2:(iL d (max u.length d.next.length)).getD s 0=(iL d (max u.length d.next.length)).getD t 0:=by rw[O4 hv _ (by omega)];exact h
  rw[qC hv _ s t hs ht,←Bool.not_eq_true]at h2
  exact h2 ((vo d _ s t).2 ⟨u,hu,by omega,hd⟩)
 ·intro h
  rw[qC hv _ s t hs ht,←Bool.not_eq_true]
  intro hh
  obtain⟨u,h1,_,h3⟩:=(vo d _ s t).1 hh
  exact h u h1 h3
theorem vp {d:c_} {α:Type} [DecidableEq α] {l:List α} {cs:List Nat} (hl:l.length=d.next.length) (yx:cs=x6 l): ∀k,k≤d.next.length→(jB d cs k).1.length=(dd (l.take k)).length
 |0,_=>by simp[jB,dd]
 |k+1,hk=>by
  have hk':k<l.length:=by omega
  have ih:=vp hl yx k (by omega)
  have hg:=ak hk'
  have hc:cs.getD k 0=ix l[k] (dd l):=by rw[yx];exact ly (mf hg)
  have hp:dd (l.take k)<+:dd l:=by
   conv=>rhs;rw[←List.take_append_drop k l]
   rw[wv];exact ig _ _
  rw[jB,ih,hc,aC hk']
  by_cases hm:l[k]∈l.take k
  ·rw[lN hm,iM hp (kY.2 hm),aB (tB (kY.2 hm)),ih]
  ·have Bi:dd (l.take k)++[l[k]]<+:dd l:=by
    rw[←lO hm,←aC hk']
    conv=>rhs;rw[←List.take_append_drop (k+1) l]
    rw[wv];exact ig _ _
   have e:ix l[k] (dd l)=(dd (l.take k)).length:=by
    rw[iM Bi (by simp),gr (fun hh=>hm (kY.1 hh))];simp[ix]
   rw[lO hm,e,aq (Nat.lt_irrefl _)]
   simp[ih]
theorem sW {d:c_} (cs:List Nat): ∀k,∀r∈(jB d cs k).1,∃s,s<k∧r=(gE cs (d.next.getD s [])).map fun c:Nat=>(c:Int)
 |0,r,h=>by simp[jB]at h
 |k+1,r,h=>by
  rw[jB]at h
  split at h
  ·obtain⟨s,hs,e⟩:=sW cs k r h;exact⟨s,by omega,e⟩
  ·rcases List.mem_append.1 h with h|h
   ·obtain⟨s,hs,e⟩:=sW cs k r h;exact⟨s,by omega,e⟩
   ·exact⟨k,by omega,List.mem_singleton.1 h⟩
theorem IX {d:c_} {cs:List Nat} (hl:cs.length=d.next.length) (hc:x6 cs=cs):(quo d cs).next.length=(dd cs).length:=by
 show(jB d cs d.next.length).1.length=_
 rw[vp (l:=cs) hl hc.symm _ (aI _),bt (by omega)]
theorem O5 {cs:List Nat} (hc:x6 cs=cs) {i c:Nat} (h:cs[i]? =some c):c<(dd cs).length:=by
 have h2:=mf h
 rw[hc,h]at h2
 have:=tB (kY.2 (bT h))
 have e:=dn h2
 omega
theorem IY {d:c_} (hv:Val d) {cs:List Nat} (hl:cs.length=d.next.length) (hc:x6 cs=cs):Val (quo d cs):=by
 have hq:=IX hl hc
 have gQ: ∀i,i<d.next.length→cs.getD i 0<(dd cs).length:=fun i hi=>by
  have xx:i<cs.length:=by omega
  have:=ak xx
  rw[ly this];exact O5 hc this
 have h1:=(lT d cs d.next.length)
 refine⟨hv.v0,hv.v6,?_,?_,?_,?_,?_,?_⟩
 ·rw[hq];have:=gQ 0 hv.n0;omega
 ·exact h1.1.symm
 ·exact Int.natCast_nonneg _
 ·rw[hq]
  show((cs.getD d.start.toNat 0:Nat):Int)<_
  have:=gQ d.start.toNat (by have:=hv.s0;have:=hv.s1;omega)
  omega
 ·intro r hr
  obtain⟨s,hs,rfl⟩:=sW cs _ r hr
  rw[ai,jr]
  simp[hs]
  exact hv.len _ (av hs)
 ·intro r hr x hx
  rw[hq]
  obtain⟨s,hs,rfl⟩:=sW cs _ r hr
  obtain⟨c,Yf,rfl⟩:=List.mem_map.1 hx
  refine⟨Int.natCast_nonneg _,?_⟩
  obtain⟨to,vh,rfl⟩:=List.mem_map.1 Yf
  simp[hs]at vh
  have:=hv.ok _ (av hs) to vh
  have:=gQ to.toNat (by omega)
  omega
theorem KN {d:c_} (hv:Valid d) {cs:List Nat} (hl:cs.length=d.next.length) (hc:x6 cs=cs):Valid (quo d cs):=
 ⟨IY hv hl hc,by have:=(lT d cs d.next.length).2;have:=hv.n4;show(jB d cs d.next.length).1.length≤_;omega⟩
theorem Sr {d:c_} (hv:Val d) (k:Nat):Val (quo d (iL d k))∧(quo d (iL d k)).next.length≤d.next.length:=
 ⟨IY hv (fQ d k) (qD d k),(lT d _ _).2⟩
theorem IZ {d:c_} (hv:Valid d) (k:Nat):Valid (quo d (iL d k))∧(quo d (iL d k)).next.length≤d.next.length:=
 ⟨KN hv (fQ d k) (qD d k),(lT d _ _).2⟩
structure kw where
 b:Option Addr
 c:Nat
 xs:List Bool
def kw.val (q:kw):Value:=.slice q.b q.xs.length q.c
def kw.qW (E:TypeId) (q:kw):Item:=az q.b q.c E 1 (cO q.xs)
abbrev jy (qs:List kw):List Value:=qs.map kw.val
abbrev js (E:TypeId) (qs:List kw):List Item:=qs.map (kw.qW E)
theorem E6 {l:List Value} {s n:Nat} {z v:Value} (hl:l.length=s) (hs:s<n):(l++List.replicate (n-s) z).set s v=l++v::List.replicate (n-(s+1)) z:=by
 rw[List.set_append_right _ _ (by omega),hl,fX,show n-s=(n-(s+1))+1 by omega,List.replicate_succ];rfl
theorem nz {n:Nat}: ∀(l ks:List Nat),ks.Nodup→(∀k∈ks,k<n)→(∀k∈l,k<n)→(l.foldl add ks).Nodup∧ ∀k∈l.foldl add ks,k<n
 | [],ks,h1,h2,_=>⟨h1,h2⟩
 |a::l,ks,h1,h2,h3=>nz l (add ks a) (nP h1) (fun k hk=>(sV.1 hk).elim (h2 k) fun e=>e▸h3 a (by simp)) fun k hk=>h3 k (by simp[hk])
theorem SH {d:c_} (hv:Val d) {o:Nat} (ho:o<d.next.length): ∀t∈nL d o,t<d.next.length:=fun t ht=>by
 obtain⟨x,hx,rfl⟩:=List.mem_map.1 ht
 exact(hv.iw ho (List.mem_range.1 hx)).1
theorem xQ {d:c_} (hv:Val d): ∀i,(dY d i).Nodup∧ ∀o∈dY d i,o<d.next.length
 |0=>by
  refine⟨by simp[dY],fun o ho=>?_⟩
  simp only[dY,dl]at ho
  have:=hv.s0;have:=hv.s1;omega
 |i+1=>by
  obtain⟨h1,h2⟩:=xQ hv i
  rw[dY]
  split
  ·rename_i hi
   refine nz _ _ h1 h2 (SH hv (h2 _ ?_))
   rw[au,ak hi]
   exact av hi
  ·exact⟨h1,h2⟩
theorem zW {d:c_} (hv:Val d) (i:Nat):(dY d i).length≤d.next.length:=fA (xQ hv i).1 (xQ hv i).2
theorem vM {d:c_} {i o:Nat} (h:(dY d i)[i]? =some o):dY d (i+1)=(nL d o).foldl add (dY d i):=by
 have hi:=(List.getElem?_eq_some_iff.1 h).1
 rw[dY,aB hi,au,h];rfl
def lU (d:c_) (i o x:Nat):List Nat:=((List.range x).map (fm d o)).foldl add (dY d i)
theorem wG (d:c_) (i o x:Nat):lU d i o (x+1)=add (lU d i o x) (fm d o x):=jK _ _ _
theorem sA {d:c_} (hv:Val d):(order d).length≤d.next.length:=zW hv _
theorem zV {d:c_} (hv:Val d): ∃N,N≤d.next.length∧(dY d N).length=N∧(∀j,j<N→j<(dY d j).length):=by
 have step: ∀k,(∃N,N≤k∧(dY d N).length=N∧ ∀j,j<N→j<(dY d j).length)∨((∀j,j<k→j<(dY d j).length)∧k≤(dY d k).length):=by
  intro k
  induction k with
  |zero=>exact .inr ⟨fun j hj=>absurd hj (by omega),bj _⟩
  |succ k ih=>
   rcases ih with⟨N,h1,h2⟩|⟨h1,h2⟩
   ·exact .inl ⟨N,by omega,h2⟩
   ·by_cases e:(dY d k).length=k
    ·exact .inl ⟨k,by omega,e,h1⟩
    ·refine .inr ⟨fun j hj=>?_,?_⟩
     ·by_cases ej:j=k
      ·subst ej;omega
      ·exact h1 j (by omega)
     ·have hi:k<(dY d k).length:=by omega
      rw[vM (ak hi)]
      have:=(ig (nL d (dY d k)[k]) (dY d k)).length_le
      omega
 rcases step d.next.length with h|⟨h1,h2⟩
 ·exact h
 ·exact⟨d.next.length,aI _,by have:=zW hv d.next.length;omega,h1⟩
theorem ky (d:c_): ∀(i m:Nat),i≤m→dY d i<+:dY d m:=by
 intro i m h
 induction h with
 |refl=>exact List.prefix_refl _
 | @step m _ ih=>
  refine ih.trans ?_
  rw[dY]
  split
  ·exact ig _ _
  ·exact List.prefix_refl _
theorem vq {d:c_} (hv:Val d): ∀o∈order d,∀t∈nL d o,t∈order d:=by
 obtain⟨N,hN,hl,hj⟩:=zV hv
 have e:=ra hl hN
 intro o ho t ht
 rw[e]at ho⊢
 obtain⟨j,hjo⟩:=List.getElem?_of_mem ho
 have hjl:=(List.getElem?_eq_some_iff.1 hjo).1
 have Ql:=hj j (by omega)
 have hp:=ky d j N (by omega)
 have aff:(dY d j)[j]? =some o:=by
  obtain⟨r,hr⟩:=hp
  rw[←hr,bG Ql]at hjo
  exact hjo
 have Bi:=ky d (j+1) N (by omega)
 refine Bi.subset ?_
 rw[vM aff]
 exact(et _ _).2 (.inr ht)
theorem Ff (d:c_) (o:Nat):(nL d o).length=2^d.vars.toNat:=by simp[nL]
theorem zT {d:c_} {o x:Nat} (h:x<2^d.vars.toNat):(nL d o)[x]? =some (fm d o x):=by simp[nL,h]
def tI (d:c_) (o:Nat):List Nat:=(nL d o).map fun t=>ix t (order d)
theorem tC (d:c_) (o:Nat):(tI d o).length=2^d.vars.toNat:=by simp[tI,nL]
theorem Gd (d:c_):(eB d).next=(order d).map fun o=>(tI d o).map fun x:Nat=>(x:Int):=by
 simp[eB,tI,Function.comp_def]
theorem gK {P:Program} {base:World} {f:FuncId} {args:List Value} {O:List Item} {R:Value→List Item→Prop} (E:TypeId) (k:Nat) (h:cx P base f args O R):cx P base f args O (fun v O'=> ∃O2,O'=az none 0 E k []::O2∧R v O2):=
 fun w M hI=>(h w M hI).mono fun _ _ ⟨v,O',h1,h2,h3⟩=>⟨v,_,h1,h2.fJ E k,O',F,h3⟩
theorem uy {P:Program} {base:World} {f:FuncId} {args:List Value} {R:Value→List Item→Prop} (h:cx P base f args [] R):cx P base f args [] (fun v O'=>O'=[]∧ ∃O2,R v O2):=
 fun w M hI=>(h w M hI).mono fun _ _ ⟨v,O',h1,h2,h3⟩=>⟨v,[],h1,by simpa using h2.lz (cd (List.sublist_append_right O' M)),F,O',h3⟩
theorem QI {α:Type} {p:α→Prop} {a:α} {l:List α} (h1:p a) (h2: ∀q∈l,p q): ∀q∈a::l,p q:=fun q h=>by
 rcases List.mem_cons.1 h with rfl|h
 ·exact h1
 ·exact h2 q h
def jD (d:c_):c_:=eB (quo d (iL d d.next.length))
def Dh (d:c_):c_:=if di d=0 then jD d else⟨0,0,[],[]⟩
open Go.RowKit Go.Sort
def Tt:List Int:=Lib.deBruijn64tab.map fun n:Nat=>(n:Int)
class dQ (P:Program) (base:World):Prop where
 tab: ∀w,Below base.heap.size base w→Lib.TabIs P w "internal/strconv.uint64pow10" .u64 Lib.pow10Tab
 tz:P.globalNamed "math/bits.deBruijn64tab" =none∨ ∀w,Below base.heap.size base w→Lib.TabIs P w "math/bits.deBruijn64tab" .u8 Tt
theorem dQ.of {P:Program} {w:World} (h:Lib.TabIs P w "internal/strconv.uint64pow10" .u64 Lib.pow10Tab) (h2:P.globalNamed "math/bits.deBruijn64tab" =none∨Lib.TabIs P w "math/bits.deBruijn64tab" .u8 Tt):dQ P w:=⟨fun w' hb=>Lib.tabBelow_of_tabIs h w' hb,h2.imp id fun h w' hb=>Lib.tabBelow_of_tabIs h w' hb⟩
theorem dQ.is {P:Program} {w:World} (h:dQ P w):Lib.TabIs P w "internal/strconv.uint64pow10" .u64 Lib.pow10Tab:=h.tab w (Below.refl _ _)
theorem Inv.tab {P:Program} {base:World} {O:List Item} {w:World} (hI:Inv base O w) [t:dQ P base]:dQ P w:=.of (t.tab w hI.below) (t.tz.imp id fun h=>h w hI.below)
theorem Inv.grow {base:World} {O:List Item} {w:World} (h:Inv base O w) (k:Nat) (os:Array Obj):Inv base O (Go.Sort.grow (w.drewN k) os):=by
 refine Inv.new (N:=[]) h F F F ?_ ?_ (by simp) (by simp) (by simp)
 ·show w.heap.size≤(w.heap++os).size
  simp
 ·intro b hb
  show(w.heap++os)[b]? =w.heap[b]?
  rw[Array.getElem?_append_left hb]
theorem cx.drop {P:Program} {base:World} {f:FuncId} {args:List Value} {O:List Item} {R R':Value→List Item→Prop} (h:cx P base f args O R) (hr: ∀v O',R v O'→ ∃An,Sub An O'∧R' v An):cx P base f args O R':=
 fun w M hI=>(h w M hI).mono fun _ _ ⟨v,O',h1,h2,h3⟩=>let⟨An,hs,h4⟩:=hr v O' h3;⟨v,An,h1,h2.lz hs.tP,h4⟩
theorem pe {P:Program} {W:World} {x:String×DataW Unit} {rest:List (String×DataW Unit)} {ps:List MemPlace} (h:DataW.LaidVars P W (x::rest) ps): ∃q,DataW.LaidVars P W rest q:=by
 obtain⟨g',t',cs,gP,p,q,hg',Qi,Zi,hd,hr,_⟩:=h
 exact⟨q,hr⟩
theorem tv {P:Program} {W:World} {name:String} {k:IntKind} {zs:List Int} {D:DataW Unit} {rest:List (String×DataW Unit)} {ps:List MemPlace} {g:Nat} {t e:TypeId} {n:Nat} (hD:D=Lib.tabData k zs)
  (hg:P.globalNamed name=some g) (hty:(P.globals[g]?).map (·.type)=some t) (ht:P.underlying t=some (.array n e)) (he:P.underlying e=some (.int k)) (hce:P.cellsOf e=1) (hct:P.cellsOf t=n)
  (h:DataW.LaidVars P W ((name,D)::rest) ps):Lib.TabIs P W name k zs:=by
 subst hD
 obtain⟨g',t',cs,gP,p,q,hg',Qi,Zi,hd,_,_⟩:=h
 obtain rfl:=dn (hg.symm.trans hg')
 obtain rfl:=dn (hty.symm.trans Qi)
 unfold Lib.TabIs
 rw[Zi,←Lib.cells_of_tab ht he hce hct hd]
def adK (n:Nat) (cs:Array Value):Prop:= ∀j (h:j<(dy (Lib.decDigits n)).length),cs[j]? =some (dy (Lib.decDigits n))[j]
theorem Q5 {P:Program} {f:FuncId} {base:World} {b T n:Nat} {Z:Array Value} (hZ: ∀j,j<24→Z[j]? =some (.int .u8 0)) (Vj:1≤n) (hn:n<1000000000000)
  (hc: ∀(mq off cap u:Nat) (d:Array UInt8) (w:World),Holds (fun(b:UInt8)=>Value.int .u8 (b.toNat:Int)) w mq off d→u<10^d.size→u<18446744073709551616→d.size<4611686018427387904→
   Calls P f #[.slice (some ⟨mq,off,none⟩) d.size cap,.int .u64 u] w fun e w'=>e=.returned (.tuple #[])∧ ∃(n v':Nat) (dk:Array UInt8),w'=(putRow (fun(b:UInt8)=>Value.int .u8 (b.toNat:Int)) w mq off dk).drewN n∧Lib.FmtInv d.size u 0 v' dk):
  cx P base f [.slice (some ⟨b,0,none⟩) (Lib.nDigits n) 24,.int .u64 (n:Int)] [eu b (.cells Z T (0,0))] (fun v O'=>v=.tuple #[]∧ ∃cs,O'=[eu b (.cells cs T (0,0))]∧adK n cs):=by
 intro w M hI
 have hb:w.heap[b]? =some (.cells Z T (0,0)):=hI.holds _ (List.mem_cons_self ..)
 have my:Lib.nDigits n≤20:=by have:=Lib.numDigits_eq n Vj (by omega);split at this<;>omega
 have hH:Holds (fun(b:UInt8)=>Value.int .u8 (b.toNat:Int)) w b 0 (Array.replicate (Lib.nDigits n) 0):=fun j hj=>by
  have A_:j<Lib.nDigits n:=by simpa using hj
  refine⟨?_,?_⟩
  ·rw[getElem!_pos _ j hj]
   simp[World.cell?,hb,hZ j (by omega)]
  ·simp[World.frozen?,hb]
 have:=hc b 0 24 n (Array.replicate (Lib.nDigits n) 0) w hH (by rw[Array.size_replicate];exact Lib.lt_pow_nDigits n) (by omega) (by rw[Array.size_replicate];omega)
 rw[Array.size_replicate]at this
 refine this.mono ?_
 rintro e w' ⟨rfl,k,v',dk,rfl,hF⟩
 obtain⟨D,hD⟩: ∃D,D=putCells (fun(b:UInt8)=>Value.int .u8 (b.toNat:Int)) 0 dk Z:=⟨_,F⟩
 have J2:(putRow (fun(b:UInt8)=>Value.int .u8 (b.toNat:Int)) w b 0 dk).heap[b]? =some (.cells D T (0,0)):=by
  show(w.heap.modify b _)[b]? =_
  rw[Array.getElem?_modify,aB F,hb,hD];rfl
 have ho: ∀x,x≠b→(putRow (fun(b:UInt8)=>Value.int .u8 (b.toNat:Int)) w b 0 dk).heap[x]? =w.heap[x]? :=fun x hx=>by
  show(w.heap.modify b _)[x]? =_
  rw[Array.getElem?_modify,aq (fun e=>hx e.symm)]
 have h1: ∀j,j<dk.size→(putRow (fun(b:UInt8)=>Value.int .u8 (b.toNat:Int)) w b 0 dk).cell? ⟨b,0+j,none⟩=some (.int .u8 (dk[j]!.toNat:Int)):=fun j hj=>cell?_putRow _ w b 0 _ dk hH (by rw[hF.size,Array.size_replicate]) j hj
 have hs:(putRow (fun(b:UInt8)=>Value.int .u8 (b.toNat:Int)) w b 0 dk).heap.size=w.heap.size:=by simp
 have e1:(putRow (fun(b:UInt8)=>Value.int .u8 (b.toNat:Int)) w b 0 dk).os=w.os:=rfl
 have e2:(putRow (fun(b:UInt8)=>Value.int .u8 (b.toNat:Int)) w b 0 dk).tape=w.tape:=rfl
 have e3:(putRow (fun(b:UInt8)=>Value.int .u8 (b.toNat:Int)) w b 0 dk).output=w.output:=rfl
 generalize putRow (fun(b:UInt8)=>Value.int .u8 (b.toNat:Int)) w b 0 dk=w1 at*
 have Za:Inv base ([eu b (.cells D T (0,0))]++M) w1:=by
  refine hI.tK (i:=0) (it:=eu b (.cells Z T (0,0))) (U1:=eu b (.cells D T (0,0))) F e1 e2 e3 (by omega) ?_ J2 (fun x hx=>.inl hx) (by simp[eu])
  intro x hx qm
  exact ho x (fun e=>qm (by simp[eu,e]))
 refine⟨_,[eu b (.cells D T (0,0))],F,Za.same F F F F,F,D,F,?_⟩
 ·intro j hj
  have A_:j<(Lib.decDigits n).length:=by simpa[dy]using hj
  have s_:j<dk.size:=by rw[hF.size];rwa[Lib.decDigits_length]at A_
  have h3:D[j]? =some (.int .u8 (dk[j]!.toNat:Int)):=by have:=h1 j s_;simpa[World.cell?,J2]using this
  rw[h3,←Lib.row_is_numeral hF j A_]
  simp[dy]
section
variable {P:Program} {r:Option Nat} {base:World} {n:Nat} {ρ:Env} {O:List Item} {dst:Option Nat} {d:Nat} {t:TypeId} {p:String} {af:Array Edge} {g:Option (Nat×Bool)} {K:Env→List Item→Prop}
theorem DE {T E:TypeId} {x y:Operand} {b m h h_:Nat} {z:Value} (hu:P.underlying T=some (.array m E)) (hi:gj P E z 1 h_) (hx:ev ρ x=.pointer (some ⟨b,0,none⟩)) (hy:ev ρ y=.int .i64 (h:Int)) (hh:h≤m) (h0:1≤h):
  QT P base ⟨dst,.slice T x none (some y) none,t,p,af,g⟩ ρ O (.slice (some ⟨b,0,none⟩) h m):=fun w hI=>by
 have e1:(h:Int)≤(m:Int):=by omega
 have e2:(0:Int)≤(h:Int):=by omega
 simp[execOp,Instr.sliceAt,Instr.sureAddr,hx,hy,bL hu,cr hi,Instr.sliceBounds,Instr.sliceBound,asIntOf,e1,e2,sC,hh]
theorem J3 {T U E A:TypeId} {b:Option Addr} {m c l ca k h_:Nat} {x y:Operand} {z:Value} {cs new:List Value} {arr:Array Value} (i j:Nat)
  (hu:P.underlying T=some (.slice E)) (Mj:P.underlying U=some (.slice E)) (hi:gj P E z 1 h_) (hz:z.cells.size=1)
  (hx:ev ρ x=.slice b m c) (hy:ev ρ y=.slice (some ⟨k,0,none⟩) l ca) (hO:O[j]? =some (az b c E 1 cs)) (hl:cs.length=m) (hs:new.length=l)
  (hA:O[i]? =some (eu k (.cells arr A (0,0)))) (hn': ∀q (h:q<new.length),arr[q]? =some new[q]) (uH:(new.all fS)=true)
  (qX:(m+l)*h_≤70368744177664) (Qg:h_≤1000000) (Du:0<h_)
  (h: ∀b' c',K (kz ρ d (.slice b' (m+l) c')) (O.set j (az b' c' E 1 (cs++new)))) (hn:Nat.blt d n=true:=by rfl):
  LT P r base n ⟨some d,.call ⟨.builtin .append,#[x,y],#[T,U]⟩,t,p,af,g⟩ ρ O K:=
 jm hn fun w M hI=>by
  have Gp:Src P base (O++M) 1 l (.slice (some ⟨k,0,none⟩) l ca) new:=⟨by omega,fun w=>by simp[Builtin.lenOf],fun w hI=>jG (fun q hq=>⟨⟨k,0,none⟩,F,F,by
   have hb:w.heap[k]? =some (.cells arr A (0,0)):=hI.holds _ (bT (n5 hA))
   simp[World.cell?,hb,hn' q hq]⟩) (by omega) (fun e=>by cases e)⟩
  obtain⟨b',c',w',hr,oM⟩:=qi (ty:=t) hu Mj (.inl ⟨_,F⟩) hi hz (n5 hO) (by simpa using hl) (by decide) Gp uH qX Qg Du hI
  rw[qh hO]at oM
  refine⟨_,w',_,?_,oM,h b' c'⟩
  simp[execOp,resolve,hx,hy,invoke,builtin,hr]
end
section
variable {P:Program} {r:Option Nat} {base:World} {n:Nat} {ρ:Env} {O:List Item} {K':Env→List Item→Prop} {d:Nat} {t:TypeId} {p:String} {af:Array Edge} {g:Option (Nat×Bool)}
end
section
variable {P:Program} {base:World} {ρ:Env} {O:List Item} {dst:Option Nat} {t:TypeId} {p:String} {af:Array Edge} {g:Option (Nat×Bool)}
theorem oO {x:Nat} (h:x<2^64):IntKind.u64.wrap (x:Int)=(x:Int):=by
 simp only[IntKind.wrap,IntKind.signed,IntKind.bits]
 simp
 omega
inductive UK:IntKind→Prop
 |u8:UK .u8
 |u64:UK .u64
theorem UK.wrap {k:IntKind} (hk:UK k) {x:Nat} (h:x<2^k.bits):k.wrap (x:Int)=(x:Int):=by
 cases hk
 ·exact rA (by simpa[IntKind.bits]using h)
 ·exact oO (by simpa[IntKind.bits]using h)
theorem Vh {x y:Operand} {T U:TypeId} {k:IntKind} {a b:Nat} (hk:UK k) (hx:ev ρ x=.int k (a:Int)) (hy:ev ρ y=.int k (b:Int)) (ha:a<2^k.bits) (hb:b<2^k.bits):QT P base ⟨dst,.binOp .or T x y U,t,p,af,g⟩ ρ O (.int k ((a|||b:Nat):Int)):=fun w _=>by
 have:=hk.wrap (Nat.or_lt_two_pow ha hb)
 simp[execOp,hx,hy,eqGuard,binOp,Op.intBits,Nat.mod_eq_of_lt ha,Nat.mod_eq_of_lt hb,this]
theorem Bj {x y:Operand} {T U:TypeId} {k:IntKind} {a b:Nat} (hk:UK k) (hx:ev ρ x=.int k (a:Int)) (hy:ev ρ y=.int k (b:Int)) (ha:a<2^k.bits) (hb:b<2^k.bits):QT P base ⟨dst,.binOp .and T x y U,t,p,af,g⟩ ρ O (.int k ((a&&&b:Nat):Int)):=fun w _=>by
 have:=hk.wrap (kG (Nat.and_le_left (n:=a) (m:=b)) ha)
 simp[execOp,hx,hy,eqGuard,binOp,Op.intBits,Nat.mod_eq_of_lt ha,Nat.mod_eq_of_lt hb,this]
theorem Vi {x y:Operand} {T U:TypeId} {k k':IntKind} {a b:Nat} (hk:UK k) (hx:ev ρ x=.int k (a:Int)) (hy:ev ρ y=.int k' (b:Int)) (hb:b≤k.bits) (h:a*2^b<2^k.bits):QT P base ⟨dst,.binOp .shl T x y U,t,p,af,g⟩ ρ O (.int k ((a*2^b:Nat):Int)):=fun w _=>by
 have h0: ¬(b:Int)<0:=by omega
 have h1:min (b:Int).toNat k.bits=b:=by rw[Int.toNat_natCast];exact Nat.min_eq_left hb
 have h2:k.wrap ((a:Int)*2^b)=((a*2^b:Nat):Int):=by
  have:=hk.wrap h
  rw[←this];congr 1
 simp only[execOp,hx,hy,eqGuard,binOp,Op.shift,h0,if_false,h1,h2]
 simp
theorem Mx {x y:Operand} {T U:TypeId} {k:IntKind} {a b:Nat} (hk:UK k) (hx:ev ρ x=.int k (a:Int)) (hy:ev ρ y=.int k (b:Int)) (ha:a<2^k.bits) (hb:b≤a):QT P base ⟨dst,.binOp .sub T x y U,t,p,af,g⟩ ρ O (.int k ((a-b:Nat):Int)):=by
 have h:=Tp (P:=P) (base:=base) (O:=O) (dst:=dst) (t:=t) (p:=p) (af:=af) (g:=g) (T:=T) (U:=U) hx hy
 rw[←Int.natCast_sub hb,hk.wrap (by omega)]at h
 exact h
theorem dj (a:Nat) {x y:Operand} {T U:TypeId} {b:Nat} (hx:ev ρ x=.int .i64 (a:Int)) (hy:ev ρ y=.int .i64 (b:Int)) (h:a+b≤9223372036854775807):QT P base ⟨dst,.binOp .add T x y U,t,p,af,g⟩ ρ O (.int .i64 ((a+b:Nat):Int)):=by
 have:=jW (P:=P) (base:=base) (O:=O) (dst:=dst) (t:=t) (p:=p) (af:=af) (g:=g) (T:=T) (U:=U) hx hy (by omega)
 rwa[←Int.natCast_add]at this
theorem vW {x y:Operand} {T U:TypeId} {a b:Nat} (hx:ev ρ x=.int .i64 (a:Int)) (hy:ev ρ y=.int .i64 (b:Int)) (h:b≤a) (ha:a≤9223372036854775807):QT P base ⟨dst,.binOp .sub T x y U,t,p,af,g⟩ ρ O (.int .i64 ((a-b:Nat):Int)):=by
 have:=ga (P:=P) (base:=base) (O:=O) (dst:=dst) (t:=t) (p:=p) (af:=af) (g:=g) (T:=T) (U:=U) hx hy (by omega)
 rwa[←Int.natCast_sub h]at this
def DC (b:Option Addr) (c lo k:Nat):Option Addr:=if c=lo then b else b.map (·.add (lo*k))
theorem J0 (b:Option Addr) (c k:Nat):DC b c 0 k=b:=by
 unfold DC
 split
 ·rfl
 ·rw[Nat.zero_mul];cases b with
  |none=>rfl
  |some a=>simp[Addr.add]
theorem HY {x:Operand} {T E:TypeId} {b:Option Addr} {n c k h_ lo hi:Nat} {z:Value} {yl yh:Option Operand} {kl kh:IntKind} (hu:P.underlying T=some (.slice E)) (xx:gj P E z k h_) (hx:ev ρ x=.slice b n c)
  (hl: ∀y,yl=some y→ev ρ y=.int kl (lo:Int)) (xS:yl=none→lo=0) (hh: ∀y,yh=some y→ev ρ y=.int kh (hi:Int)) (hh0:yh=none→hi=n) (h1:lo≤hi) (h2:hi≤c):
  QT P base ⟨dst,.slice T x yl yh none,t,p,af,g⟩ ρ O (.slice (DC b c lo k) (hi-lo) (c-lo)):=fun w _=>by
 have e1:(lo:Int)≤(hi:Int):=by omega
 have e2:(hi:Int)≤(c:Int):=by omega
 have e0:(0:Int)≤(lo:Int):=by omega
 have e3:(0:Int)≤(hi:Int):=by omega
 unfold DC
 have ed:c-lo=0↔c=lo:=by omega
 cases yl with
 |none=>
  obtain rfl:=xS F
  cases yh with
  |none=>
   obtain rfl:=hh0 F
   by_cases AW:c=0
   ·simp[execOp,Instr.sliceAt,Instr.slice,hx,bL hu,cr xx,Instr.sliceBounds,AW]
   ·simp[execOp,Instr.sliceAt,Instr.slice,hx,bL hu,cr xx,Instr.sliceBounds,AW]
  |some y=>
   have:=hh y F
   by_cases AW:c=0
   ·simp[execOp,Instr.sliceAt,Instr.slice,hx,this,bL hu,cr xx,Instr.sliceBounds,Instr.sliceBound,asIntOf,e2,e3,AW,h2]
    omega
   ·simp[execOp,Instr.sliceAt,Instr.slice,hx,this,bL hu,cr xx,Instr.sliceBounds,Instr.sliceBound,asIntOf,e2,e3,AW,h2]
 |some y'=>
  have hl':=hl y' F
  cases yh with
  |none=>
   obtain rfl:=hh0 F
   by_cases AW:c=lo
   ·simp[execOp,Instr.sliceAt,Instr.slice,hx,hl',bL hu,cr xx,Instr.sliceBounds,Instr.sliceBound,asIntOf,e1,e0,AW,h1]
   ·simp[execOp,Instr.sliceAt,Instr.slice,hx,hl',bL hu,cr xx,Instr.sliceBounds,Instr.sliceBound,asIntOf,e1,e0,AW,h1]
  |some y=>
   have:=hh y F
   by_cases AW:c=lo
   ·simp[execOp,Instr.sliceAt,Instr.slice,hx,hl',this,bL hu,cr xx,Instr.sliceBounds,Instr.sliceBound,asIntOf,e1,e0,e2,e3,AW,h1,h2]
    intro;omega
   ·simp[execOp,Instr.sliceAt,Instr.slice,hx,hl',this,bL hu,cr xx,Instr.sliceBounds,Instr.sliceBound,asIntOf,e1,e0,e2,e3,AW,h1,h2]
theorem J1 {x y:Operand} {T E:TypeId} {b:Option Addr} {n c k h_ hi:Nat} {z:Value} {kh:IntKind} (hu:P.underlying T=some (.slice E)) (xx:gj P E z k h_) (hx:ev ρ x=.slice b n c) (hh:ev ρ y=.int kh (hi:Int)) (h2:hi≤c):
  QT P base ⟨dst,.slice T x none (some y) none,t,p,af,g⟩ ρ O (.slice b hi c):=by
 have:=HY (P:=P) (base:=base) (O:=O) (dst:=dst) (t:=t) (p:=p) (af:=af) (g:=g) (lo:=0) (kl:=.i64) hu xx hx (yl:=none) (yh:=some y) (fun _ h=>by cases h) (fun _=>rfl) (fun _ h=>by cases h;exact hh) (fun h=>by cases h) (bj _) h2
 rwa[J0,Nat.sub_zero,Nat.sub_zero]at this
theorem DD {x y:Operand} {T E:TypeId} {b:Option Addr} {n c k h_ lo:Nat} {z:Value} {kl:IntKind} (hu:P.underlying T=some (.slice E)) (xx:gj P E z k h_) (hx:ev ρ x=.slice b n c) (hh:ev ρ y=.int kl (lo:Int)) (h1:lo≤n) (h2:n≤c):
  QT P base ⟨dst,.slice T x (some y) none none,t,p,af,g⟩ ρ O (.slice (DC b c lo k) (n-lo) (c-lo)):=
 HY (kh:=.i64) hu xx hx (fun _ h=>by cases h;exact hh) (fun h=>by cases h) (fun _ h=>by cases h) (fun _=>rfl) h1 h2
end
section
variable {P:Program} {r:Option Nat} {base:World} {n:Nat} {ρ:Env} {O:List Item} {K:Env→List Item→Prop} {d:Nat} {t:TypeId} {p:String} {af:Array Edge} {g:Option (Nat×Bool)}
end
theorem ep {P:Program} {r:Option Nat} {base:World} {n:Nat} {Q:kv} {ρ:Env} {O:List Item} {c:Code} {α:Type} (I:α→Env→List Item→Prop) (μ:α→Nat) (s:α) (h0:I s ρ O)
  (h: ∀s ρ O,I s ρ O→T P r base n c (tn (fun iA O'=> ∃s',μ s'<μ s∧ ∃O2,Sub O2 O'∧I s' iA O2) Q) ρ O):T P r base n (.loop c) Q ρ O:=
 dU (fun s ρ O=> ∃O2,Sub O2 O∧I s ρ O2) μ s ⟨O,cd (aP _),h0⟩ (fun s ρ O ⟨O2,hs,hi⟩=>dq hs (h s ρ O2 hi))
theorem B9 {P:Program} {T E:TypeId} {d:TypeDesc} {b:Nat} {v:Value} {cs:List Value} {fr:Nat×Nat} {w:World} (hu:P.underlying T=some d) (ha:pr d=false) (hw:w.heap[b]? =some (.cells (v::cs).toArray E fr)):
  (loadVar T ⟨b,0,none⟩).run P w=.ok v w:=by
 have hc:w.cell? ⟨b,0,none⟩=some v:=by unfold World.cell?;simp[hw]
 simp[loadVar,jV hu,ha,hc]
section
variable {P:Program} {base:World} {ρ:Env} {O:List Item} {dst:Option Nat} {t:TypeId} {p:String} {af:Array Edge} {g:Option (Nat×Bool)}
end
section
variable {P:Program} {r:Option Nat} {base:World} {n:Nat} {ρ:Env} {O:List Item} {K:Env→List Item→Prop} {d:Nat} {t:TypeId} {p:String} {af:Array Edge} {g:Option (Nat×Bool)}
end
theorem HZ {P:Program} {base:World} {ρ:Env} {O:List Item} {dst:Option Nat} {t:TypeId} {p:String} {af:Array Edge} {g:Option (Nat×Bool)} {x:Operand} {S:TypeId} {fs:Array Field} {i:Nat} {f:Field} {cs:List Value} {d:TypeDesc} {v:Value} (hu:P.underlying S=some (.struct fs)) (hf:fs[i]? =some f) (hd:P.underlying f.type=some d) (ha:pr d=false) (hx:ev ρ x=.agg cs.toArray) (hv:cs[f.offset]? =some v):
  QT P base ⟨dst,.field S x i,t,p,af,g⟩ ρ O v:=fun w _=>by
 simp[execOp,hx,Instr.field,bL hu,hf,part,jV hd,ha,asAgg,hv]
section
variable {X:PX} {P:Program} {r:Option Nat} {base:World} {n:Nat} {ops:Array Oper} {S S2:List Item} {tail dG:List Nat} {K:Env→List Item→Prop} {ρ:Env} {O:List Item}
theorem Gq {gP:Nat} {listed:Array Bool} (i:Nat) {o:Oper} {j0 tj:Nat} {want:Bool} (hi:ops[i]? =some o) (hg:o.guard=some (j0,want)) (Mv:(ops[j0]?).bind (·.dst)=some tj) (hw:ρ tj=.bool want) (hr:Region.ready .any ops listed=[i])
  (h:LT P r base n o ρ O (fun iA O'=>(i∈tail∨Sub S O')∧(i∈dG∨Sub S2 O')∧RO X P r base n ops S tail S2 dG gP (listed.setIfInBounds i true) K iA O')):RO X P r base n ops S tail S2 dG (gP+1) listed K ρ O:=by
 intro Q a w M D hq hp ha hI pm hS
 refine⟨fun h0=>(by rw[hr]at h0;cases h0),fun j hj=>?_⟩
 rw[hr]at hj
 obtain rfl:j=i:=by simpa using hj
 have A_:j∈Region.ready .any ops listed:=by rw[hr];simp
 have gQ:j<listed.size:=by
  have:=(mem_ready.1 A_).1
  rcases Nat.lt_or_ge j listed.size with h'|h'
  ·exact h'
  ·simp[Array.getElem?_eq_none h']at this
 have hy:=kC (ops:=ops) ha Mv
 rw[hw]at hy
 have rj:Region.wanted o (yielded ops a.tmps)=true:=by unfold Region.wanted;rw[hg];simp[hy,FT]
 unfold wpOpIn
 simp only[hi]
 rw[aB rj]
 refine h a w _ _ ha hI _ _ fun a' iA O' w' h1 h2 h3=>?_
 have tp: ∀(tl:List Nat) (Z:List Item),(j∈tl∨Sub Z O')→(tl.any fun b=>(listed.setIfInBounds j true).getD b false)=true∨Inv base Z w':=fun tl Z h3=>by
  rcases h3 with h4|h4
  ·refine .inl (List.any_eq_true.2 ⟨j,h4,?_⟩)
   simp[gQ]
  ·exact .inr (h2.left.lz h4)
 have rl:jF base S tail S2 dG (listed.setIfInBounds j true) w':=⟨h2.oE,tp _ _ h3.1,tp _ _ h3.2.1⟩
 exact⟨rl,h3.2.2 Q a' w' M D hq hp h1 h2 (jQ pm A_) rl⟩
theorem ql {l:List (Nat×Nat)} {i:Nat} {o:Oper} {j0 tj:Nat} {want:Bool} (hi:ops[i]? =some o) (hg:o.guard=some (j0,want)) (Mv:(ops[j0]?).bind (·.dst)=some tj) (hw:ρ tj=.bool want)
  (h:LT P r base n o ρ O (fun iA O'=>DO X P r base n ops S tail S2 dG l K iA O')):DO X P r base n ops S tail S2 dG ((i,2)::l) K ρ O:=fun hs my hl listed hb=>by
 simp only[kE,ar,beq_iff_eq]at hb
 refine Gq i hi hg Mv hw hb.1 ?_
 intro a w M ds ha hI next Qx fN
 exact h a w M ds ha hI next Qx fun a' iA O' w' h1 h2 h3=>fN a' iA O' w' h1 h2 ⟨.inl ((hl (i,2) (by simp)).1.1 F),.inl ((hl (i,2) (by simp)).2.1 (.inl F)),h3 hs my (fun q hq=>hl q (List.mem_cons_of_mem _ hq)) _ hb.2⟩
end
section
variable {X:PX} {P:Program} {r:Option Nat} {base:World} {n:Nat} {ops:Array Oper} {S S2:List Item} {tail dG:List Nat} {K:Env→List Item→Prop} {ρ:Env} {O:List Item}
theorem B_ {gP:Nat} {listed:Array Bool} (i:Nat) {o:Oper} {d j0 tj:Nat} {want:Bool} (hi:ops[i]? =some o) (hg:o.guard=some (j0,want)) (hd:o.dst=some d) (Mv:(ops[j0]?).bind (·.dst)=some tj) (hw:(FT (ρ tj)==some want)=false) (hn:Nat.blt d n=true) (hr:Region.ready .any ops listed=[i])
  (h:RO X P r base n ops S tail S2 dG gP (listed.setIfInBounds i true) K (kz ρ d undef) O):RO X P r base n ops S tail S2 dG (gP+1) listed K ρ O:=by
 intro Q a w M D hq hp ha hI pm hS
 refine⟨fun h0=>(by rw[hr]at h0;cases h0),fun j hj=>?_⟩
 rw[hr]at hj
 obtain rfl:j=i:=by simpa using hj
 have A_:j∈Region.ready .any ops listed:=by rw[hr];simp
 have hy:=kC (ops:=ops) ha Mv
 have rj:Region.wanted o (yielded ops a.tmps)=false:=by unfold Region.wanted;rw[hg];simp only[hy];exact hw
 unfold wpOpIn
 simp only[hi]
 rw[aq (by rw[rj];decide)]
 have rl:jF base S tail S2 dG (listed.setIfInBounds j true) w:=⟨hS.oE,hS.one.imp B7 id,hS.two.imp B7 id⟩
 refine⟨fun _ _=>trivial,rl,?_⟩
 rw[hd]
 exact h Q _ w M D hq hp (ha.put hn undef) hI (jQ pm A_) rl
theorem uK {l:List (Nat×Nat)} {i mo:Nat} {o:Oper} {d j0 tj:Nat} {want:Bool} (hmo:mo=1∨mo=2) (hi:ops[i]? =some o) (hg:o.guard=some (j0,want)) (hd:o.dst=some d) (Mv:(ops[j0]?).bind (·.dst)=some tj) (hw:(FT (ρ tj)==some want)=false)
  (h:DO X P r base n ops S tail S2 dG l K (kz ρ d undef) O) (hn:Nat.blt d n=true:=by rfl):DO X P r base n ops S tail S2 dG ((i,mo)::l) K ρ O:=fun hs my hl listed hb=>by
 have Am:(Region.ready .any ops listed== [i])=true∧kE ops tail dG l (listed.setIfInBounds i true)=true:=by
  rcases hmo with rfl|rfl<;>simpa only[kE,ar]using hb
 exact B_ i hi hg hd Mv hw hn (by simpa using Am.1) (h hs my (fun q hq=>hl q (List.mem_cons_of_mem _ hq)) _ Am.2)
end
theorem Sub.k {A B:List Item} {a:Item} (h:Sub A B):Sub (a::A) (a::B):=by
 obtain⟨l,h1,h2⟩:=h;exact⟨a::l,h1.cons a,.cons_cons a h2⟩
theorem Sub.d {A B:List Item} {a:Item} (h:Sub A B):Sub A (a::B):=by
 obtain⟨l,h1,h2⟩:=h;exact⟨l,h1,.cons a h2⟩
theorem Sub.z {B:List Item}:Sub [] B:=cd (bV _)
theorem Sub.rf {B:List Item}:Sub B B:=cd (aP _)
theorem gR (A B S:List Item):Sub ((A++B)++S) ((A++S)++B):=by
 refine⟨(A++S)++B,?_,aP _⟩
 rw[aV,aV]
 exact List.Perm.append_left A List.perm_append_comm
theorem gh (A B S R:List Item):Sub ((A++B)++(S++R)) ((A++S)++(B++R)):=by
 refine⟨(A++S)++(B++R),?_,aP _⟩
 have h:(B++(S++R)).Perm (S++(B++R)):=by
  rw[←aV,←aV]
  exact List.perm_append_comm.append_right R
 rw[aV,aV]
 exact List.Perm.append_left A h
theorem My {l B:List Item} (h:l.Sublist B): ∃D,(l++D).Perm B:=by
 induction h with
 |slnil=>exact⟨[],List.Perm.refl _⟩
 |cons a _ ih=>obtain⟨D,hD⟩:=ih;exact⟨a::D,List.perm_middle.trans (hD.cons a)⟩
 |cons_cons a _ ih=>obtain⟨D,hD⟩:=ih;exact⟨D,hD.cons a⟩
theorem Sub.perm {A B:List Item} (h:Sub A B): ∃D,(A++D).Perm B:=by
 obtain⟨l,p,s⟩:=h
 obtain⟨D,hD⟩:=My s
 exact⟨D,(p.append_right D).trans hD⟩
theorem Sub.fz {xs:List Item} {x:Item} (P Q:List Item) (h:Sub xs (P++Q)):Sub (x::xs) (P++x::Q):=by
 obtain⟨D,p⟩:=h.perm
 refine o_ (D:=D) ?_
 exact(p.cons x).trans List.perm_middle.symm
example (a b c d e:Item) (R:List Item):Sub ([c,a,e]++R) ([a,b,c,d,e]++R):=by exact Sub.fz [a,b] _ (.k (.d (.d (.k .rf))))
theorem n_ {A B:List Item} (N:List Item) (h:Sub A B):Sub A (N++B):=by
 obtain⟨l,hp,hs⟩:=h
 exact⟨l,hp,hs.trans (List.sublist_append_right _ _)⟩
theorem jn {P:Program} {base:World} {ρ:Env} {O:List Item} {fn:Func} {R:Value→List Item→Prop} {a i c j:Nat} {T U E E':TypeId} {d d':TypeDesc} {z u:Value} {s h_ b b':Nat} {cs B5:List Value} {fr fr':Nat×Nat} (hr:fn.results= #[.cell a T,.cell c U]) (hu:P.underlying T=some d) (ha:pr d=true) (hi:gj P T z s h_) (LQ:P.underlying U=some d') (Gr:pr d'=false)
  (hp:ρ a=.pointer (some ⟨b,0,none⟩)) (Yi:ρ c=.pointer (some ⟨b',0,none⟩)) (hO:O[i]? =some (eu b (.cells cs.toArray E fr))) (hO':O[j]? =some (eu b' (.cells (u::B5).toArray E' fr'))) (hl:cs.length=s)
  (h:R (.tuple #[.agg cs.toArray,u]) O):qS P base fn ρ O R:=
 ⟨⟨_,O,cd (aP _),h,fun w tmps hI ht=>by
  have h1:=rp (P:=P) hu ha hi hl (hI.wU hO)
  have h2:=B9 (P:=P) LQ Gr (hI.wU hO')
  have ht1:=ht a
  have Yj:=ht c
  simp only[dF]at ht1 Yj
  simp[results,hr,ht1,Yj,hp,Yi,asAddr,h1,h2]⟩⟩
theorem bg {P:Program} {base:World} {ρ:Env} {O:List Item} {dst:Option Nat} {t:TypeId} {p:String} {af:Array Edge} {g:Option (Nat×Bool)} {x:Operand} {a:Addr} (h:ev ρ x=.pointer (some a):=by exact F):QT P base ⟨dst,.nilCheck x,t,p,af,g⟩ ρ O (.pointer (some a)):=fun w _=>by simp[execOp,h]
section
variable {P:Program} {base:World} {ρ:Env} {O:List Item} {dst:Option Nat} {t:TypeId} {p:String} {af:Array Edge} {g:Option (Nat×Bool)}
theorem uL {T E:TypeId} {n:Nat} {parts:List (Nat×Operand)} {z ze:Value} {s h_ sz bz:Nat} {cs:List Value} (hu:P.underlying T=some (.array n E)) (he:gj P E ze s h_) (hi:gj P T z sz bz) (hf:Instr.fill (fun i=>some (i*s,s)) z.cells (parts.map fun q=>(q.1,ev ρ q.2))=some cs.toArray):
  QT P base ⟨dst,.build T parts.toArray,t,p,af,g⟩ ρ O (.agg cs.toArray):=fun w _=>by
 simp only[execOp,Instr.build,Sem.run_bind,io hi,Result.andThen_ok,bL hu,cr he]
 simp[hf]
end
def Tu (P:Program) (r:Option Nat) (base:World) (n:Nat) (c:Code) (Q:kv):Nat→Env→List Item→Prop
 |0,_,_=>False
 |m+1,ρ,O=>T P r base n c (tn (Tu P r base n c Q m) Q) ρ O
theorem qn {P:Program} {r:Option Nat} {base:World} {n:Nat} {c:Code} {Q:kv} {ρ:Env} {O:List Item} (m:Nat) (h:Tu P r base n c Q m ρ O):T P r base n (.loop c) Q ρ O:=
 dU (Tu P r base n c Q) (fun m=>m) m h fun s ρ O h=>by
  cases s with
  |zero=>exact h.elim
  |succ s=>exact T.mono (show T P r base n c (tn (Tu P r base n c Q s) Q) ρ O from h) (fun e ρ O h=>by cases e<;>first|exact⟨s,Nat.lt_succ_self s,h⟩|exact h)
theorem T.round {P:Program} {r:Option Nat} {base:World} {n m:Nat} {c:Code} {Q:kv} {ρ:Env} {O:List Item} (h:T P r base n c (tn (Tu P r base n c Q m) Q) ρ O):Tu P r base n c Q (m+1) ρ O:=h
structure Mk (Wt:Type) where
 i:Nat
 d:Nat
 val:Wt→Value
 lX:Wt→List Item
section
variable {X:PX} {P:Program} {r:Option Nat} {base:World} {n:Nat} {ρ:Env} {O S:List Item} {tail:List Nat} {ops:Array Oper} {K:Env→List Item→Prop} {Wt:Type}
theorem Sub.trans {A B C:List Item} (h:Sub A B) (h2:Sub B C):Sub A C:=by
 obtain⟨l1,p1,s1⟩:=h
 obtain⟨l2,p2,s2⟩:=h2
 obtain⟨l3,p3,s3⟩:=List.exists_perm_sublist s1 p2
 exact⟨l3,p1.trans p3.symm,s3.trans s2⟩
theorem getD_lt {l:Array Bool} {j:Nat} (h:j<l.size) (a b:Bool):l.getD j a=l.getD j b:=by simp[h]
def left (listed:Array Bool) (mk:List (Mk Wt)):Nat:=(mk.filter fun q=>!listed.getD q.i false).length
end
def uM (φ:Prop) (L:List Item):Item where
 blocks:=L.flatMap Item.blocks
 P w:=φ∧ ∀it∈L,it.P w
 loc w w' h:=fun hp=>⟨hp.1,fun it hi=>it.loc w w' (fun b hb=>h b (List.mem_flatMap.2 ⟨it,hi,hb⟩)) (hp.2 it hi)⟩
theorem yR {base w:World} {φ:Prop} {L M:List Item} (Zk:φ) (h:Inv base (L++M) w):Inv base (uM φ L::M) w:=
 ⟨h.below,fun it hi=>(List.mem_cons.1 hi).elim (fun e=>e▸⟨Zk,fun x hx=>h.holds x (aH _ hx)⟩) fun hm=>h.holds it (ah _ hm),
  fun it hi b hb=>(List.mem_cons.1 hi).elim (fun e=>by
   subst e
   obtain⟨x,hx,hbx⟩:=List.mem_flatMap.1 hb
   exact h.fresh x (aH _ hx) b hbx) fun hm=>h.fresh it (ah _ hm) b hb,
  by have:=h.nodup;rwa[List.flatMap_append]at this⟩
theorem Cc {base w:World} {φ:Prop} {L M:List Item} (h:Inv base (uM φ L::M) w):φ∧Inv base (L++M) w:=by
 have h0:=h.holds (uM φ L) List.mem_cons_self
 refine⟨h0.1,h.below,fun it hi=>(List.mem_append.1 hi).elim (h0.2 it) fun hm=>h.holds it (List.mem_cons_of_mem _ hm),fun it hi b hb=>(List.mem_append.1 hi).elim (fun hm=>h.fresh (uM φ L) List.mem_cons_self b (List.mem_flatMap.2 ⟨it,hm,hb⟩)) fun hm=>h.fresh it (List.mem_cons_of_mem _ hm) b hb,?_⟩
 have:=h.nodup
 rwa[List.flatMap_append]
section
variable {P:Program} {r:Option Nat} {base:World} {n:Nat} {c:Code} {Q:kv} {ρ:Env} {φ:Prop} {L M:List Item} {f:FuncId} {args:List Value}
theorem uN (Zk:φ) (h:T P r base n c Q ρ (uM φ L::M)):T P r base n c Q ρ (L++M):=fun a w N D hM ha hi=>
 h a w N D hM ha (by rw[aV]at hi;exact yR Zk hi)
theorem Gs (h:φ→T P r base n c Q ρ (L++M)):T P r base n c Q ρ (uM φ L::M):=fun a w N D hM ha hi=>by
 have hu:=Cc (M:=M++(mI D++N)) hi
 exact h hu.1 a w N D hM ha (by rw[aV];exact hu.2)
theorem cx.Tf {O:List Item} {R R':Value→List Item→Prop} (h:cx P base f args O R) (hr: ∀v O',R v O'→ ∃φ L M,φ∧O'=L++M∧R' v (uM φ L::M)):cx P base f args O R':=fun w N hI=>
 (h w N hI).mono fun _ _ ⟨v,O',h1,h2,h3⟩=>by
  obtain⟨φ,L,M,Zk,rfl,hR⟩:=hr v O' h3
  exact⟨v,uM φ L::M,h1,yR (M:=M++N) Zk (by rw[←aV];exact h2),hR⟩
end
structure DK where
 nb:Option Addr
 nc:Nat
 fb:Option Addr
 fc:Nat
 qs:List Rec
abbrev dC (d:c_) (k:DK):List Value:=fe d k.nb k.nc k.fb k.fc
abbrev dV (d:c_) (k:DK):Value:=.agg (dC d k).toArray
abbrev At (w:World) (d:c_) (k:DK):Prop:=jg w d k.nb (dO k.qs) k.fb
def dI (II Bo I:TypeId) (d:c_) (k:DK):Item:=uM (nums k.qs=d.next) ([az k.nb k.nc II 1 (dO k.qs),az k.fb k.fc Bo 1 (cO d.aT)]++cw I k.qs)
theorem Inv.at {base w:World} {O:List Item} {II Bo I:TypeId} {d:c_} {k:DK} (hI:Inv base O w) (h:dI II Bo I d k∈O):At w d k:=by
 have h0:=hI.holds _ h
 have g: ∀it∈[az k.nb k.nc II 1 (dO k.qs),az k.fb k.fc Bo 1 (cO d.aT)]++cw I k.qs,it.P w:=h0.2
 refine⟨rowP.sl (g (az k.nb k.nc II 1 (dO k.qs)) (by simp)),?_,rowP.sl (g (az k.fb k.fc Bo 1 (cO d.aT)) (by simp))⟩
 rw[←h0.1]
 refine⟨by simp,fun i x hx=>?_⟩
 rw[bl]at hx
 obtain⟨q,hq,rfl⟩:=Option.map_eq_some_iff.1 hx
 refine⟨q.b,q.c,by rw[bl,hq];rfl,?_⟩
 have:(Rec.qW I q).P w:=g _ (ah _ (List.mem_map_of_mem (bT hq)))
 exact rowP.sl this
theorem cx.dk {P:Program} {base:World} {f:FuncId} {args:List Value} {O:List Item} {II Bo I:TypeId} {D:c_} {g:Value→Value} (h:cx P base f args O fun v N=> ∃DH DI p6 p7 qs,v=g (.agg (fe D DH DI p6 p7).toArray)∧N=[az DH DI II 1 (dO qs),az p6 p7 Bo 1 (cO D.aT)]++cw I qs∧nums qs=D.next):
  cx P base f args O fun v N=> ∃k:DK,v=g (dV D k)∧N=[dI II Bo I D k]:=
 h.Tf fun v O' hR=>by
  obtain⟨nb,nc,fb,fc,qs,rfl,rfl,hq⟩:=hR
  exact⟨nums qs=D.next,_,[],hq,(dp _).symm,⟨nb,nc,fb,fc,qs⟩,F,F⟩
theorem Inv.sE {base w:World} {O:List Item} {d:c_} {k:DK} (hI:Inv base O w) (h:At base d k):At w d k:=hI.Dz h
section
variable {P:Program} {base:World} {ρ:Env} {O:List Item} {dst:Option Nat} {t:TypeId} {p:String} {af:Array Edge} {g:Option (Nat×Bool)}
theorem kn {x y:Operand} {T E:TypeId} {b o n i:Nat} {k:IntKind} {z:Value} {s h_:Nat} (hu:P.underlying T=some (.array n E)) (hi:gj P E z s h_) (hx:ev ρ x=.pointer (some ⟨b,o,none⟩)) (hy:ev ρ y=.int k (i:Int)) (gQ:i<n):
  QT P base ⟨dst,.indexAddr T x y,t,p,af,g⟩ ρ O (.pointer (some ⟨b,o+i*s,none⟩)):=fun w _=>by
 have h2:(i:Int)<(n:Int):=by omega
 simp[execOp,hx,hy,Instr.indexAt,asIntOf,bL hu,gQ,cr hi,Instr.sureAddr,Addr.add]
 try (intro h;rcases h with h|h<;>simp[h])
end
theorem DF {e:Edge} (hb:Region.binds .any e=true): ∀ {l:List Edge},e∈l→(uE l).testBit e.on=true
 |a::l,h=>by
  rw[uE,Nat.testBit_or,Bool.or_eq_true]
  rcases List.mem_cons.1 h with rfl|h
  ·exact .inl (by rw[aB hb,Nat.one_shiftLeft,Nat.testBit_two_pow];simp)
  ·exact .inr (DF hb h)
def Ca (ops:Array Oper) (d j:Nat):Bool:=!d.testBit j&&Nat.beq (nA ops j&&&d) (nA ops j)
def H0 (ops:Array Oper) (d i:Nat):Bool:=match ops[i]? with
 |none=>false
 |some oi=>(List.range ops.size).all fun j=>Nat.beq j i||d.testBit j||(nA ops j).testBit i||match ops[j]? with
  |some oj=>oi.apart ops oj
  |none=>true
def tw (ops:Array Oper) (tail dG:List Nat):List (Nat×Nat)→Nat→Bool
 | [],d=>(List.range ops.size).all fun j=>!Ca ops d j
 |(i,0)::l,d=>(rk ops tail i&&H0 ops d i&&Nat.blt i ops.size&&Ca ops d i)&&tw ops tail dG l (d|||1<<<i)
 |(i,3)::l,d=>(rk ops dG i&&H0 ops d i&&Nat.blt i ops.size&&Ca ops d i)&&tw ops tail dG l (d|||1<<<i)
 |(i,_)::l,d=>(Nat.blt i ops.size&&Ca ops d i&&(List.range ops.size).all fun j=>Nat.beq j i||!Ca ops d j)&&tw ops tail dG l (d|||1<<<i)
def qL (ops:Array Oper) (listed:Array Bool) (d:Nat):Prop:=listed.size=ops.size∧ ∀k,listed.getD k false=d.testBit k
theorem qL.start (ops:Array Oper):qL ops (Array.replicate ops.size false) 0:=⟨by simp,fun k=>by
 rw[Nat.zero_testBit,dF,Array.getElem?_replicate]
 split<;>rfl⟩
theorem qL.set {ops:Array Oper} {listed:Array Bool} {d i:Nat} (h:qL ops listed d) (hi:i<ops.size):qL ops (listed.setIfInBounds i true) (d|||1<<<i):=⟨by simpa using h.1,fun k=>by
 rw[Nat.testBit_or,Nat.one_shiftLeft,Nat.testBit_two_pow,←h.2 k]
 by_cases e:i=k
 ·subst e
  have:i<listed.size:=by rw[h.1];exact hi
  simp[this]
 ·rw[getD_set_ne false e,a8 e,Bool.or_false]⟩
theorem qL.ready {ops:Array Oper} {listed:Array Bool} {d j:Nat} (h:qL ops listed d) (hj:j<ops.size):j∈Region.ready .any ops listed↔Ca ops d j=true:=by
 have e1:listed.getD j true=d.testBit j:=by rw[←h.2 j];exact getD_lt (by rw[h.1];exact hj) _ _
 have ho:ops[j]? =some ops[j]:=Array.getElem?_eq_getElem hj
 have hm:nA ops j=uE ops[j].after.toList:=by unfold nA;rw[ho]
 rw[mem_ready,e1]
 unfold Ca
 rw[ar,Bool.not_eq_true',Nat.beq_eq,hm]
 refine and_congr_right fun _=>?_
 constructor
 ·rintro⟨o,uw,ld⟩
  rw[ho]at uw;cases uw
  refine Nat.eq_of_testBit_eq fun k=>?_
  rw[Nat.testBit_and]
  cases hk:(uE ops[j].after.toList).testBit k with
  |false=>rfl
  |true=>
   obtain⟨e,he,hb,rfl⟩:=vQ hk
   have:=ld e (by simpa using he) hb
   rw[h.2]at this
   rw[this];rfl
 ·intro he
  refine⟨_,ho,fun e s9 hb=>?_⟩
  have hk:=DF hb (l:=ops[j].after.toList) (by simpa using s9)
  rw[h.2]
  rw[←he,Nat.testBit_and,ar]at hk
  exact hk.2
theorem yQ {ops:Array Oper} {listed:Array Bool} {j:Nat} (h:j∈Region.ready .any ops listed):j<ops.size:=by
 obtain⟨_,o,ho,_⟩:=mem_ready.1 h
 exact(Array.getElem?_eq_some_iff.1 ho).1
theorem J4 {l:List Nat} {i:Nat} (hn:l.Nodup) (h: ∀j,j∈l↔j=i):l=[i]:=by
 cases l with
 |nil=>exact absurd ((h i).2 F) (by simp)
 |cons a l=>
  obtain rfl:a=i:=(h a).1 (by simp)
  have h1:=(List.nodup_cons.1 hn).1
  cases l with
  |nil=>rfl
  |cons b l=>
   have:b=a:=(h b).1 (by simp)
   subst this
   exact absurd (by simp) h1
theorem DG (ops:Array Oper) (listed:Array Bool):(Region.ready .any ops listed).Nodup:=by
 unfold Region.ready
 exact List.nodup_range.filter _
theorem H1 {ops:Array Oper} {listed:Array Bool} {d i:Nat} (h:qL ops listed d) (hf:H0 ops d i=true):Region.free .any ops listed i=true:=by
 unfold H0 at hf
 unfold Region.free
 cases ho:ops[i]? with
 |none=>rw[ho]at hf;cases hf
 |some oi=>
  rw[ho]at hf
  simp only at hf⊢
  rw[fp]at hf⊢
  intro j hj
  have Zj:j<ops.size:=List.mem_range.1 hj
  have h1:=hf j hj
  have e1:listed.getD j true=d.testBit j:=by rw[←h.2 j];exact getD_lt (by rw[h.1];exact Zj) _ _
  have U5:ops[j]? =some ops[j]:=Array.getElem?_eq_getElem Zj
  rw[U5]at h1⊢
  simp only[Bool.or_eq_true]at h1⊢
  rw[e1]
  rcases h1 with((h1|h1)|h1)|h1
  ·exact .inl (.inl (by simpa using h1))
  ·exact .inl (.inr h1)
  ·obtain⟨o,uw,e,he,hb,hon⟩:=oN h1
   rw[U5]at uw;cases uw
   exact .inr (.inl (Array.any_eq_true'.2 ⟨e,he,by rw[hb,hon];simp⟩))
  ·exact .inr (.inr h1)
theorem Cb {ops:Array Oper} {tail dG:List Nat} {i:Nat} {l:List (Nat×Nat)} {listed:Array Bool} {d:Nat} (h:qL ops listed d) (ih: ∀ {listed:Array Bool} {d:Nat},qL ops listed d→tw ops tail dG l d=true→kE ops tail dG l listed=true) (hw:((Nat.blt i ops.size&&Ca ops d i&&(List.range ops.size).all fun j=>Nat.beq j i||!Ca ops d j)&&tw ops tail dG l (d|||1<<<i))=true):((Region.ready .any ops listed== [i])&&kE ops tail dG l (listed.setIfInBounds i true))=true:=by
 simp only[ar,Nat.blt_eq,fp,Bool.or_eq_true,Nat.beq_eq,Bool.not_eq_true']at hw
 obtain⟨⟨⟨h1,h2⟩,h3⟩,h4⟩:=hw
 rw[ar]
 refine⟨?_,ih (h.set h1) h4⟩
 rw[beq_iff_eq]
 refine J4 (DG _ _) fun j=>⟨fun hj=>?_,fun e=>e▸(h.ready h1).2 h2⟩
 have Zj:=yQ hj
 rcases h3 j (List.mem_range.2 Zj)with e|e
 ·exact e
 ·rw[(h.ready Zj).1 hj]at e;cases e
theorem pv {ops:Array Oper} {tail dG:List Nat}: ∀ {l:List (Nat×Nat)} {listed:Array Bool} {d:Nat},qL ops listed d→tw ops tail dG l d=true→kE ops tail dG l listed=true
 | [],listed,d,h,hw=>by
  simp only[tw,fp]at hw
  show(Region.ready .any ops listed).isEmpty=true
  cases hr:Region.ready .any ops listed with
  |nil=>rfl
  |cons j r=>
   have hj:j∈Region.ready .any ops listed:=by rw[hr];simp
   have h1:=hw j (List.mem_range.2 (yQ hj))
   rw[(h.ready (yQ hj)).1 hj]at h1;cases h1
 |(i,0)::l,listed,d,h,hw=>by
  simp only[tw,ar,Nat.blt_eq]at hw
  obtain⟨⟨⟨⟨h1,h2⟩,h3⟩,h4⟩,h5⟩:=hw
  simp only[kE,ar]
  exact⟨⟨⟨h1,H1 h h2⟩,by simpa using(h.ready h3).2 h4⟩,pv (h.set h3) h5⟩
 |(i,3)::l,listed,d,h,hw=>by
  simp only[tw,ar,Nat.blt_eq]at hw
  obtain⟨⟨⟨⟨h1,h2⟩,h3⟩,h4⟩,h5⟩:=hw
  simp only[kE,ar]
  exact⟨⟨⟨h1,H1 h h2⟩,by simpa using(h.ready h3).2 h4⟩,pv (h.set h3) h5⟩
 |(i,1)::l,listed,d,h,hw=>Cb h pv hw
 |(i,2)::l,listed,d,h,hw=>Cb h pv hw
 |(i,m+4)::l,listed,d,h,hw=>Cb h pv hw
def Tv (ops:Array Oper) (l:List (Nat×Nat)):Bool:=(Region.noSelect ops&&lg ops&&Nat.beq l.length ops.size&&(l.all fun q=>(q.2==2||!(o9 l).contains q.1)&&(q.2==2||q.2==4||!(mN l).contains q.1)))&&tw ops (o9 l) (mN l) l 0
theorem yP {ops:Array Oper} {l:List (Nat×Nat)} (h:Tv ops l=true):yC ops l=true:=by
 simp only[Tv,ar,Nat.beq_eq]at h
 obtain⟨⟨⟨⟨h1,h2⟩,h3⟩,h4⟩,h5⟩:=h
 simp only[yC,ar]
 exact⟨⟨⟨⟨h1,h2⟩,by rw[h3];simp⟩,h4⟩,pv (qL.start ops) h5⟩
theorem Mz {α:Type} {L:List α} {f:α→Bool} {i:Nat} (hi:i<L.length) (h:(L.take i).any f=false) (h2:f L[i]=false):(L.take (i+1)).any f=false:=by
 rw[aC hi,List.any_append,h];simp[h2]
theorem Vk {α:Type} {L:List α} {f:α→Bool} {i:Nat} (hi:i<L.length) (h:f L[i]=true):L.any f=true:=
 List.any_eq_true.2 ⟨_,av hi,h⟩
end Go.Lx
namespace Go.Lx
end Go.Lx
namespace Go.Lx
def ku (d:c_) (s:Nat):Nat:=(iL d d.next.length).getD s 0
theorem nT {d:c_} (hv:Val d) {s t:Nat} (hs:s<d.next.length) (ht:t<d.next.length):ku d s=ku d t↔ ∀u,Wd d u→ ¬dst d s t u:=Sq hv hs ht
theorem KZ {d:c_} (hv:Val d) {s t:Nat} (hs:s<d.next.length) (ht:t<d.next.length) (h:ku d s=ku d t):dR d s=dR d t:=by
 have:=(nT hv hs ht).1 h [] (fun x hx=>by cases hx)
 exact Classical.not_not.1 this
theorem Hm {d:c_} (hv:Val d) {s t x:Nat} (hs:s<d.next.length) (ht:t<d.next.length) (hx:x<eE d) (h:ku d s=ku d t):ku d (fm d s x)=ku d (fm d t x):=by
 rw[nT hv (o5 hv hs hx) (o5 hv ht hx)]
 intro u hu hd
 exact(nT hv hs ht).1 h (x::u) (fun y hy=>by rcases List.mem_cons.1 hy with rfl|hy;exact hx;exact hu y hy) hd
theorem I7 {d:c_} {cs:List Nat} (hl:cs.length=d.next.length) (hc:x6 cs=cs): ∀k,k≤d.next.length→ ∀c,c<(jB d cs k).1.length→ ∃s,s<k∧cs.getD s 0=c∧(jB d cs k).1[c]? =some ((gE cs (d.next.getD s [])).map fun c:Nat=>(c:Int))∧(jB d cs k).2[c]? =some (dR d s)
 |0,_,c,h=>by simp[jB]at h
 |k+1,hk,c,h=>by
  have ih:=I7 hl hc k (by omega)
  have iH:=lT d cs k
  by_cases hn:cs.getD k 0<(jB d cs k).1.length
  ·rw[jB,aB hn]at h⊢
   obtain⟨s,h1,h2⟩:=ih c h
   exact⟨s,by omega,h2⟩
  ·rw[jB,aq hn]at h⊢
   by_cases pm:c<(jB d cs k).1.length
   ·obtain⟨s,h1,h2,h3,h4⟩:=ih c pm
    exact⟨s,by omega,h2,by rw[bG pm];exact h3,by rw[bG (by omega)];exact h4⟩
   ·have hce:c=(jB d cs k).1.length:=by simp at h;omega
    refine⟨k,by omega,?_,?_,?_⟩
    ·have h1:=vp (l:=cs) hl hc.symm k (by omega)
     have h2:=vp (l:=cs) hl hc.symm (k+1) hk
     have oH:k<cs.length:=by omega
     have hg:=ak oH
     have Yx:cs.getD k 0=ix cs[k] (dd cs):=by
      have:=mf hg
      rw[hc]at this
      rw[au,this];rfl
     have Bi:dd (cs.take (k+1))<+:dd cs:=by
      conv=>rhs;rw[←List.take_append_drop (k+1) cs]
      rw[wv];exact ig _ _
     have hm:cs[k]∈dd (cs.take (k+1)):=kY.2 (by rw[aC oH];exact ah _ (List.mem_singleton.2 F))
     have gQ:=tB hm
     rw[Yx,iM Bi hm]
     rw[Yx,iM Bi hm]at hn
     rw[jB,aq (by rw[Yx,iM Bi hm];exact hn)]at h2
     simp at h2
     omega
    ·rw[hce,bZ (aI _)];simp
    ·rw[hce,iH.1,bZ (aI _)];simp[dR]
def qa (d:c_):c_:=quo d (iL d d.next.length)
theorem ph {d:c_} (hv:Val d):Val (qa d):=(Sr hv d.next.length).1
theorem Hn {d:c_} (hv:Valid d):Valid (qa d):=(IZ hv d.next.length).1
theorem Pn {d:c_} (hv:Val d) {s:Nat} (hs:s<d.next.length):ku d s<(qa d).next.length:=by
 rw[qa,IX (fQ d _) (qD d _)]
 exact O5 (qD d _) (IW hs)
theorem I8 {d:c_} (hv:Val d) {c:Nat} (hc:c<(qa d).next.length): ∃s,s<d.next.length∧ku d s=c∧dR (qa d) c=dR d s∧ ∀x,x<eE d→fm (qa d) c x=ku d (fm d s x):=by
 obtain⟨s,h1,h2,h3,h4⟩:=I7 (fQ d d.next.length) (qD d _) d.next.length (aI _) c hc
 refine⟨s,h1,h2,?_,?_⟩
 ·show(jB d (iL d d.next.length) d.next.length).2.getD c false=_
  rw[au,h4];rfl
 ·intro x hx
  have rn:(qa d).next.getD c []=(gE (iL d d.next.length) (d.next.getD s [])).map fun c:Nat=>(c:Int):=by
   show(jB d (iL d d.next.length) d.next.length).1.getD c []=_
   rw[au,h3];rfl
  have hls:(d.next.getD s []).length=eE d:=by simp[h1];exact hv.len _ (av h1)
  have uC:x<(d.next.getD s []).length:=by omega
  have e1:(d.next.getD s []).getD x 0=(d.next.getD s [])[x]:=by rw[au,ak uC];rfl
  rw[fm,rn,au,bl,gE,bl,ak uC]
  show(((iL d d.next.length).getD (d.next.getD s [])[x].toNat 0:Nat):Int).toNat=ku d (fm d s x)
  rw[Int.toNat_natCast,ku,fm,e1]
theorem wx {d:c_} (hv:Val d) {s x:Nat} (hs:s<d.next.length) (hx:x<eE d):fm (qa d) (ku d s) x=ku d (fm d s x):=by
 obtain⟨s',h1,h2,_,h4⟩:=I8 hv (Pn hv hs)
 rw[h4 x hx]
 exact Hm hv h1 hs hx h2
theorem zS {d:c_} (hv:Val d) {s:Nat} (hs:s<d.next.length):dR (qa d) (ku d s)=dR d s:=by
 obtain⟨s',h1,h2,h3,_⟩:=I8 hv (Pn hv hs)
 rw[h3];exact KZ hv h1 hs h2
theorem Fe {d:c_} (hv:Val d) {s:Nat} (hs:s<d.next.length): ∀w,Wd d w→runN (qa d) (ku d s) w=ku d (runN d s w):=by
 refine p9 (fun _=>rfl) ?_
 intro w x ih hw
 have JW:Wd d w:=fun y hy=>hw y (by simp[hy])
 rw[e8,e8,ih JW,wx hv (kj hv hs w JW) (hw x (by simp))]
theorem qE (d:c_):(qa d).start.toNat=ku d d.start.toNat:=by
 show(((iL d d.next.length).getD d.start.toNat 0:Nat):Int).toNat=_
 rw[Int.toNat_natCast];rfl
theorem so {d:c_} (hv:Val d): ∃r,order d=d.start.toNat::r:=by
 have hp:=ky d 0 d.next.length (bj _)
 obtain⟨r,hr⟩:=hp
 exact⟨r,hr.symm⟩
theorem wy {d:c_} (hv:Val d):Val (eB d):=by
 obtain⟨r,hr⟩:=so hv
 have hl:=sA hv
 have Mu:0<(order d).length:=by rw[hr];simp
 refine⟨hv.v0,hv.v6,?_,?_,Int.le_refl _,?_,?_,?_⟩
 ·simpa[eB]using Mu
 ·simp[eB]
 ·show(0:Int)<((eB d).next.length:Nat)
  simp only[eB,ai];omega
 ·intro r hr
  obtain⟨o,ho,rfl⟩:=List.mem_map.1 hr
  rw[ai,Ff];rfl
 ·intro r hr x hx
  obtain⟨o,ho,rfl⟩:=List.mem_map.1 hr
  obtain⟨t,ht,rfl⟩:=List.mem_map.1 hx
  refine⟨Int.natCast_nonneg _,?_⟩
  have:=tB (vq hv o ho t ht)
  simp only[eB,ai];omega
theorem Ho {d:c_} (hv:Val d) {s x:Nat} (hs:s∈order d) (hx:x<eE d):fm (eB d) (ix s (order d)) x=ix (fm d s x) (order d):=by
 have hg:=qB hs
 have rn:(eB d).next.getD (ix s (order d)) []=(nL d s).map fun t=>((ix t (order d):Nat):Int):=by
  show((order d).map fun o=>(nL d o).map fun t=>((ix t (order d):Nat):Int)).getD _ []=_
  rw[au,bl,hg];rfl
 rw[fm,rn,au,bl,zT hx]
 show((ix (fm d s x) (order d):Nat):Int).toNat=_
 rw[Int.toNat_natCast]
theorem K0 {d:c_} {s:Nat} (hs:s∈order d):dR (eB d) (ix s (order d))=dR d s:=by
 show((order d).map fun o=>d.aT.getD o false).getD _ false=_
 rw[au,bl,qB hs];rfl
theorem BN {d:c_} (hv:Val d) {s:Nat} (hs:s∈order d): ∀w,Wd d w→runN d s w∈order d:=by
 refine p9 (fun _=>hs) ?_
 intro w x ih hw
 rw[e8]
 exact vq hv _ (ih fun y hy=>hw y (by simp[hy])) _ (bT (zT (hw x (by simp))))
theorem BO {d:c_} (hv:Val d) {s:Nat} (hs:s∈order d): ∀w,Wd d w→runN (eB d) (ix s (order d)) w=ix (runN d s w) (order d):=by
 refine p9 (fun _=>rfl) ?_
 intro w x ih hw
 have JW:Wd d w:=fun y hy=>hw y (by simp[hy])
 rw[e8,e8,ih JW,Ho hv (BN hv hs w JW) (hw x (by simp))]
theorem wA {d:c_} (hv:Val d):d.start.toNat∈order d:=by
 obtain⟨r,hr⟩:=so hv
 rw[hr];simp
theorem Fg {d:c_} (hv:Val d):ix d.start.toNat (order d)=0:=by
 obtain⟨r,hr⟩:=so hv
 rw[hr];simp[ix]
def jf (d:c_) (w:List Nat):Bool:=dR d (runN d d.start.toNat w)
theorem ez {d:c_} (hv:Val d):d.start.toNat<d.next.length:=by have:=hv.s0;have:=hv.s1;omega
theorem BP {d:c_} (hv:Val d) {w:List Nat} (hw:Wd d w):jf (eB d) w=jf d w:=by
 have h:=BO hv (wA hv) w hw
 rw[Fg hv]at h
 show dR (eB d) (runN (eB d) 0 w)=_
 rw[h,K0 (BN hv (wA hv) w hw)];rfl
theorem Po {d:c_} (hv:Val d) {w:List Nat} (hw:Wd d w):jf (qa d) w=jf d w:=by
 unfold jf
 rw[qE,Fe hv (ez hv) w hw,zS hv (kj hv (ez hv) w hw)]
theorem Pp {d:c_} (hv:Val d):Val (jD d):=wy (ph hv)
theorem vP {d:c_} (hv:Val d) (h:(order d).length≤4096):Valid (eB d):=⟨wy hv,by simpa[eB]using h⟩
theorem Fh {d:c_} (hv:Valid d):Valid (eB d):=vP hv (bE (sA hv.toVal) hv.n4)
theorem p_ {d:c_} (hv:Valid d):Valid (jD d):=Fh (Hn hv)
theorem uA {d:c_} (hv:Val d) {w:List Nat} (hw:Wd d w):jf (jD d) w=jf d w:=
 (BP (ph hv) hw).trans (Po hv hw)
inductive lq (ρ:Nat→Nat→Prop):List Nat→List Nat→Prop
 |nil:lq ρ [] []
 |cons {a b l m}:ρ a b→lq ρ l m→lq ρ (a::l) (b::m)
theorem lq.append {ρ:Nat→Nat→Prop} {l m l' m':List Nat} (h:lq ρ l m) (h':lq ρ l' m'):lq ρ (l++l') (m++m'):=by
 induction h with
 |nil=>exact h'
 |cons h1 _ ih=>exact .cons h1 ih
theorem lq.len {ρ:Nat→Nat→Prop} {l m:List Nat} (h:lq ρ l m):l.length=m.length:=by
 induction h with
 |nil=>rfl
 |cons _ _ ih=>simp[ih]
theorem lq.get {ρ:Nat→Nat→Prop} {l m:List Nat} (h:lq ρ l m): ∀ {i a b:Nat},l[i]? =some a→m[i]? =some b→ρ a b:=by
 induction h with
 |nil=>intro i a b h;simp at h
 |cons h1 _ ih=>
  intro i a b ha hb
  cases i with
  |zero=>simp at ha hb;subst ha;subst hb;exact h1
  |succ i=>exact ih (by simpa using ha) (by simpa using hb)
section
variable {ρ:Nat→Nat→Prop}
def zU (ρ:Nat→Nat→Prop):Prop:= ∀a b a' b',ρ a b→ρ a' b'→(a=a'↔b=b')
theorem lq.mem (ho:zU ρ) {l m:List Nat} (h:lq ρ l m) {a b:Nat} (AJ:ρ a b):a∈l↔b∈m:=by
 induction h with
 |nil=>simp
 |cons h1 _ ih=>rw[dt,dt,ih,ho _ _ _ _ AJ h1]
theorem lq.ix (ho:zU ρ) {l m:List Nat} (h:lq ρ l m) {a b:Nat} (AJ:ρ a b):Lx.ix a l=Lx.ix b m:=by
 induction h with
 |nil=>rfl
 | @cons x y l m h1 _ ih=>
  simp only[Lx.ix,ih]
  by_cases e:a=x
  ·rw[aB e,aB ((ho _ _ _ _ AJ h1).1 e)]
  ·rw[aq e,aq (fun h=>e ((ho _ _ _ _ AJ h1).2 h))]
theorem lq.add (ho:zU ρ) {l m:List Nat} (h:lq ρ l m) {a b:Nat} (AJ:ρ a b):lq ρ (Lx.add l a) (Lx.add m b):=by
 unfold Lx.add
 by_cases e:a∈l
 ·rw[aB e,aB ((h.mem ho AJ).1 e)];exact h
 ·rw[aq e,aq (fun h9=>e ((h.mem ho AJ).2 h9))];exact h.append (.cons AJ .nil)
theorem lq.foldl (ho:zU ρ) {xs ys:List Nat} (hx:lq ρ xs ys): ∀ {l m:List Nat},lq ρ l m→lq ρ (xs.foldl Lx.add l) (ys.foldl Lx.add m):=by
 induction hx with
 |nil=>intro l m h;exact h
 |cons h1 _ ih=>intro l m h;exact ih (h.add ho h1)
theorem lq.map {f g:Nat→Nat}: ∀(l:List Nat),(∀x∈l,ρ (f x) (g x))→lq ρ (l.map f) (l.map g)
 | [],_=>.nil
 |x::l,h=>.cons (h x (by simp)) (lq.map l fun y hy=>h y (by simp[hy]))
structure vu (ρ:Nat→Nat→Prop) (p q:c_):Prop where
 vars:p.vars=q.vars
 one:zU ρ
 start:ρ p.start.toNat q.start.toNat
 step: ∀a b x,ρ a b→x<eE p→ρ (fm p a x) (fm q b x)
 fin: ∀a b,ρ a b→dR p a=dR q b
theorem vu.nL {p q:c_} (h:vu ρ p q) {a b:Nat} (AJ:ρ a b):lq ρ (nL p a) (nL q b):=by
 unfold Lx.nL
 rw[←h.vars]
 exact lq.map _ fun x hx=>h.step a b x AJ (List.mem_range.1 hx)
theorem vu.bfs {p q:c_} (h:vu ρ p q): ∀i,lq ρ (dY p i) (dY q i)
 |0=>.cons h.start .nil
 |i+1=>by
  have ih:=h.bfs i
  have hl:=ih.len
  rw[dY,dY,←hl]
  by_cases hi:i<(dY p i).length
  ·rw[aB hi,aB hi]
   have JR:i<(dY q i).length:=by omega
   have g1:=ak hi
   have g2:=ak JR
   have e1:(dY p i).getD i 0=(dY p i)[i]:=by rw[au,g1];rfl
   have e2:(dY q i).getD i 0=(dY q i)[i]:=by rw[au,g2];rfl
   rw[e1,e2]
   exact(h.nL (ih.get g1 g2)).foldl h.one ih
  ·rw[aq hi,aq hi];exact ih
theorem vu.order {p q:c_} (h:vu ρ p q) (hp:Val p) (hq:Val q):lq ρ (order p) (order q):=by
 obtain⟨N,h1,h2,_⟩:=zV hp
 have e1:=ra h2 h1
 have hb:=h.bfs N
 have h2q:(dY q N).length=N:=by rw[←hb.len];exact h2
 have hNq:N≤q.next.length:=by rw[←h2q];exact zW hq N
 rw[e1,ra h2q hNq]
 exact hb
theorem vu.eB {p q:c_} (h:vu ρ p q) (hp:Val p) (hq:Val q):eB p=eB q:=by
 have ho:=h.order hp hq
 have rows: ∀ {l m:List Nat},lq ρ l m→(l.map fun o=>(Lx.nL p o).map fun t=>((Lx.ix t (Lx.order p):Nat):Int))=m.map fun o=>(Lx.nL q o).map fun t=>((Lx.ix t (Lx.order q):Nat):Int):=by
  intro l m hlm
  induction hlm with
  |nil=>rfl
  |cons h1 _ ih=>
   rw[cJ,cJ,ih]
   congr 1
   have hs:=h.nL h1
   have each: ∀ {x y:List Nat},lq ρ x y→(x.map fun t=>((Lx.ix t (Lx.order p):Nat):Int))=y.map fun t=>((Lx.ix t (Lx.order q):Nat):Int):=by
    intro x y hxy
    induction hxy with
    |nil=>rfl
    |cons h2 _ ih2=>rw[cJ,cJ,ih2,ho.ix h.one h2]
   exact each hs
 have aeQ: ∀ {l m:List Nat},lq ρ l m→(l.map fun o=>p.aT.getD o false)=m.map fun o=>q.aT.getD o false:=by
  intro l m hlm
  induction hlm with
  |nil=>rfl
  |cons h1 _ ih=>rw[cJ,cJ,ih];congr 1;exact h.fin _ _ h1
 unfold Lx.eB
 rw[rows ho,aeQ ho,h.vars]
end
theorem q7 {a b:c_} (ha:Val a) (hb:Val b) (A5:a.vars=b.vars) (h: ∀w,Wd a w→jf a w=jf b w):jD a=jD b:=by
 have SD: ∀w,Wd a w↔Wd b w:=fun w=>by unfold Wd eE;rw[A5]
 refine vu.eB (ρ:=fun c1 c2=> ∃s t,s<a.next.length∧t<b.next.length∧ku a s=c1∧ku b t=c2∧ ∀w,Wd a w→dR a (runN a s w)=dR b (runN b t w)) ⟨A5,?_,?_,?_,?_⟩ (ph ha) (ph hb)
 ·rintro c1 c2 c1' c2' ⟨s,t,hs,ht,rfl,rfl,hw⟩ ⟨s',t',Va,Qi,rfl,rfl,JW⟩
  rw[nT ha hs Va,nT hb ht Qi]
  constructor
  ·intro h1 u hu hd
   have LQ:=(SD u).2 hu
   refine h1 u LQ ?_
   unfold dst at*
   rw[hw u LQ,JW u LQ];exact hd
  ·intro h1 u hu hd
   refine h1 u ((SD u).1 hu) ?_
   unfold dst at*
   rw[←hw u hu,←JW u hu];exact hd
 ·exact⟨a.start.toNat,b.start.toNat,ez ha,ez hb,(qE a).symm,(qE b).symm,h⟩
 ·rintro c1 c2 x ⟨s,t,hs,ht,rfl,rfl,hw⟩ hx
  have UA:x<eE a:=hx
  have Yq:x<eE b:=by unfold eE at*;rw[←A5];exact UA
  refine⟨fm a s x,fm b t x,o5 ha hs UA,o5 hb ht Yq,(wx ha hs UA).symm,(wx hb ht Yq).symm,fun w hww=>?_⟩
  exact hw (x::w) (fun y hy=>by rcases List.mem_cons.1 hy with rfl|hy;exact UA;exact hww y hy)
 ·rintro c1 c2 ⟨s,t,hs,ht,rfl,rfl,hw⟩
  show dR (qa a) _=dR (qa b) _
  rw[zS ha hs,zS hb ht]
  exact hw [] (fun x hx=>by cases hx)
def k_ (d:c_) (w:List Nat):Nat:=if di d≠0 then di d else if 64<w.length then 4 else if w.any (fun x=>decide (2^d.vars.toNat≤x))=true then 1 else 0
def xP (d:c_) (w:List Nat):Nat:=if k_ d w=0 then runN d d.start.toNat w else 0
def Av (d:c_) (w:List Nat):Bool:=if k_ d w=0 then dR d (runN d d.start.toNat w)else false
theorem v7 {d:c_} {w:List Nat}:k_ d w=0↔Valid d∧w.length≤64∧Wd d w:=by
 unfold k_
 by_cases h:di d=0
 ·rw[aq (by simp[h])]
  by_cases h2:64<w.length
  ·rw[aB h2];exact⟨fun h=>absurd h (by decide),fun h=>by omega⟩
  ·rw[aq h2]
   by_cases h3:w.any (fun x=>decide (2^d.vars.toNat≤x))=true
   ·rw[aB h3]
    refine⟨fun h=>absurd h (by decide),fun h=>?_⟩
    obtain⟨x,hx,Ri⟩:=List.any_eq_true.1 h3
    have:=h.2.2 x hx
    simp at Ri
    unfold eE at this
    omega
   ·rw[aq h3]
    refine⟨fun _=>⟨eL.1 h,by omega,fun x hx=>?_⟩,fun _=>rfl⟩
    rcases Nat.lt_or_ge x (eE d)with h4|h4
    ·exact h4
    ·exact absurd (List.any_eq_true.2 ⟨x,hx,aZ h4⟩) h3
 ·rw[aB h];exact⟨fun e=>absurd e h,fun hh=>absurd (eL.2 hh.1) h⟩
theorem Lc {d:c_} {s:Nat} {w:List Nat} {k:Nat} (hk:k<w.length):runN d s (w.take (k+1))=fm d (runN d s (w.take k)) w[k]:=by
 rw[aC hk,e8]
theorem qd {d:c_} (hv:Val d): ∀i,∀o∈dY d i,∃w,Wd d w∧runN d d.start.toNat w=o
 |0,o,h=>by
  simp only[dY,dl]at h
  subst h
  exact⟨[],fun x hx=>(List.not_mem_nil hx).elim,F⟩
 |i+1,o,h=>by
  rw[dY]at h
  split at h
  ·rename_i hi
   rcases(et _ _).1 h with h|h
   ·exact qd hv i o h
   ·obtain⟨x,hx,rfl⟩:=List.mem_map.1 h
    have hm:(dY d i).getD i 0∈dY d i:=by
     rw[au,ak hi];exact av hi
    obtain⟨w,hw,he⟩:=qd hv i _ hm
    refine⟨w++[x],fun y hy=>?_,by rw[e8,he]⟩
    rcases List.mem_append.1 hy with hy|hy
    ·exact hw y hy
    ·rw[List.mem_singleton.1 hy];exact List.mem_range.1 hx
  ·exact qd hv i o h
theorem AV {f:Nat→Nat}: ∀ {l:List Nat},l.Nodup→(∀a∈l,∀b∈l,f a=f b→a=b)→(l.map f).Nodup
 | [],_,_=>List.nodup_nil
 |a::l,hn,hi=>by
  obtain⟨h1,h2⟩:=List.nodup_cons.1 hn
  rw[cJ,List.nodup_cons]
  refine⟨fun hm=>?_,AV h2 fun x hx y hy=>hi x (by simp[hx]) y (by simp[hy])⟩
  obtain⟨y,hy,e⟩:=List.mem_map.1 hm
  have:=hi a (by simp) y (by simp[hy]) e.symm
  exact h1 (this▸hy)
theorem yz {d:c_} (hv:Val d):jD (eB d)=jD d:=q7 (wy hv) hv F fun w hw=>BP hv hw
theorem yf {d:c_} (hv:Val d):jD (jD d)=jD d:=q7 (Pp hv) hv F fun w hw=>uA hv hw
theorem Ht {d:c_} (hv:Valid d):Dh d=jD d:=by unfold Dh;rw[aB (eL.2 hv)]
end Go.Lx

