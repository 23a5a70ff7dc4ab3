/- Contracts of functions of the program, and what they answer. Conditions: those each theorem names. -/
import Derived.Test.YtgdbfideeeegmaaGreatDoorA1
import Derived.Test.YtgdbfideeeegmaaGreatDoorA4
import Derived.Shelf.Slices.CompactI
import Derived.Shelf.Slices.SearchI
import Derived.Shelf.Slices.Empties
import Derived.Shelf.Spec.SlicesInsert
import Derived.Shelf.Spec.SlicesInsertGrow
import Derived.Deep.Slices
import Derived.Test.YtgdbfideeeegmaaGreatDoorA2
import Derived.Test.YtgdbfideeeegmaaGreatDoorCards
import Derived.Test.YtgdbfideeeegmaaGreatDoorTie
import Derived.WalkKit
import Derived.ProofKit
import Derived.OpenShut
import Derived.Deep.DeepHandedRow
import Derived.Lib.LaidTab
import Derived.Test.YtgdbfideeeegmaaGreatDoorA0
set_option linter.unusedSectionVars false
set_option linter.unusedSimpArgs false
set_option linter.unusedVariables false
set_option linter.unnecessarySimpa false
set_option maxHeartbeats 8000000
set_option maxRecDepth 20000
namespace Go.Lx
open Go.RowKit Go.Sort
theorem OV {l m:List Int} (hl:l.Pairwise (· < ·)) (hm:m.Pairwise (· < ·)) (h: ∀y,y∈l↔y∈m):l=m:=
 ((List.perm_ext_iff_of_nodup (hl.imp fun h=>by omega) (hm.imp fun h=>by omega)).2 h).eq_of_pairwise (le:=fun x y:Int=>x<y) (fun a b _ _ h1 h2=>by omega) hl hm
theorem xV {l m:List Nat} (hl:l.Pairwise (· < ·)) (hm:m.Pairwise (· < ·)) (h: ∀y,y∈l↔y∈m):l=m:=
 ((List.perm_ext_iff_of_nodup (hl.imp fun h=>by omega) (hm.imp fun h=>by omega)).2 h).eq_of_pairwise (le:=fun x y:Nat=>x<y) (fun a b _ _ h1 h2=>by omega) hl hm
theorem C_ (zs:List Int) (y:Int):y∈Lib.compact zs↔y∈zs:=by
 unfold Lib.compact Lib.compactUpTo
 simp only[iu,List.mem_filter,eY]
 constructor
 ·rintro⟨j,⟨hj,_⟩,rfl⟩
  rw[getElem!_pos zs.toArray j (by simpa using hj)];simp
 ·intro hy
  have hex: ∃j,j<zs.length∧zs.toArray[j]! =y:=by
   obtain⟨j,hj,e⟩:=List.getElem_of_mem hy
   exact⟨j,hj,by rw[getElem!_pos zs.toArray j (by simpa using hj)];simpa using e⟩
  suffices main: ∀j,j<zs.length→zs.toArray[j]! =y→ ∃i,(i<zs.length∧Lib.keeps zs.toArray i=true)∧zs.toArray[i]! =y by
   obtain⟨j,hj,e⟩:=hex;exact main j hj e
  intro j
  induction j with
  |zero=>exact fun hj e=>⟨0,⟨hj,by simp[Lib.keeps]⟩,e⟩
  |succ j ih=>
   intro hj e
   by_cases h:zs.toArray[j]! =y
   ·exact ih (by omega) h
   ·exact⟨j+1,⟨hj,by simp only[Lib.keeps,cD];exact .inr (by rw[e];exact fun h'=>h h'.symm)⟩,e⟩
theorem Da {zs:List Int} (h:zs.Pairwise (· ≤ ·)):(Lib.compact zs).Pairwise (· < ·):=by
 have Fw: ∀i j,i≤j→j<zs.length→zs.toArray[i]! ≤zs.toArray[j]! :=fun i j YU hj=>by
  rw[getElem!_pos zs.toArray i (by simp;omega),getElem!_pos zs.toArray j (by simpa using hj)]
  rcases Nat.lt_or_ge i j with h1|h1
  ·simpa using List.pairwise_iff_getElem.1 h i j (by omega) hj h1
  ·have:i=j:=by omega
   subst this;exact Int.le_refl _
 unfold Lib.compact Lib.compactUpTo
 rw[List.pairwise_map]
 refine List.Pairwise.imp_of_mem ?_ (List.Pairwise.filter _ (List.pairwise_lt_range (n:=zs.length)))
 intro i j hi hj YU
 simp only[List.mem_filter,eY]at hi hj
 have h2:=hj.2
 simp only[Lib.keeps,cD]at h2
 have h1:=Fw i (j-1) (by omega) (by omega)
 have h3:=Fw (j-1) j (by omega) hj.1
 omega
def H9 (n:Nat) (p:Nat→Bool):List Nat:=(List.range n).filter p
theorem qR {n:Nat} {p:Nat→Bool} {y:Nat}:y∈H9 n p↔y<n∧p y=true:=by simp[H9]
theorem oN (n:Nat) (p:Nat→Bool):(H9 n p).Pairwise (· < ·):=List.Pairwise.filter _ List.pairwise_lt_range
theorem KA (n:Nat) (p:Nat→Bool):(H9 n p).length≤n:=cn (List.length_filter_le _ _) (by simp)
def fU (d:cU) (l:List Nat) (x:Nat):List Nat:=H9 d.next.length fun y=>l.any fun s=>fm d s x==y
theorem ru {d:cU} (hv:Val d) {l:List Nat} (hl: ∀s∈l,s<d.next.length) {x y:Nat} (hx:x<2^d.vars.toNat):y∈fU d l x↔ ∃s∈l,fm d s x=y:=by
 unfold fU;rw[qR]
 simp only[dc,beq_iff_eq]
 constructor
 ·exact fun h=>h.2
 ·rintro⟨s,hs,rfl⟩
  exact⟨(hv.gY (hl s hs) hx).1,s,hs,F⟩
def AN (n:Nat) (l:List Nat) (s:Nat):List Nat:=H9 n fun y=>l.contains y||y==s
theorem wo {n:Nat} {l:List Nat} (hl: ∀s∈l,s<n) {s y:Nat} (hs:s<n):y∈AN n l s↔y∈l∨y=s:=by
 unfold AN;rw[qR]
 simp only[Bool.or_eq_true,List.contains_eq_mem,cD,beq_iff_eq]
 exact⟨fun h=>h.2,fun h=>⟨h.elim (hl y) (fun e=>e▸hs),h⟩⟩
theorem Of {n:Nat} {l:List Nat} (ha:l.Pairwise (· < ·)) (hl: ∀s∈l,s<n) {s:Nat} (hs:s∈l):AN n l s=l:=
 xV (oN _ _) ha fun y=>by rw[wo hl (hl s hs)];exact⟨fun h=>h.elim id (fun e=>e▸hs),.inl⟩
abbrev qB (l:List Int):List Int:=l.mergeSort fun x y=>decide (x≤y)
theorem yM (l:List Int):(qB l).Pairwise fun x y=>x≤y:=by
 have:=List.pairwise_mergeSort (le:=fun x y:Int=>decide (x≤y)) (fun a b c h1 h2=>by simp at*;omega) (fun a b=>by simp;omega) l
 exact this.imp fun h=>by simpa using h
theorem HO {d:cU} (hv:Val d) {l:List Nat} (hl: ∀s∈l,s<d.next.length) {x:Nat} (hx:x<2^d.vars.toNat):
  Lib.compact (qB (l.map fun s=>((fm d s x:Nat):Int)))=(fU d l x).map fun y:Nat=>(y:Int):=by
 refine OV (Da (yM _)) (List.pairwise_map.2 ((oN _ _).imp fun h=>by omega)) fun y=>?_
 rw[C_,List.mem_mergeSort,iu,iu]
 constructor
 ·rintro⟨s,hs,rfl⟩;exact⟨_,(ru hv hl hx).2 ⟨s,hs,F⟩,F⟩
 ·rintro⟨y,hy,rfl⟩
  obtain⟨s,hs,rfl⟩:=(ru hv hl hx).1 hy
  exact⟨s,hs,F⟩
theorem Gq: ∀ {l:List Nat} {s:Nat},l.Pairwise (· < ·)→s∉l→(l.take (l.countP (· <s))++s::l.drop (l.countP (· <s))).Pairwise (· < ·)
 | [],s,_,_=>by simp
 |a::l,s,h,hs=>by
  rw[List.pairwise_cons]at h
  simp only[dh,not_or]at hs
  by_cases c:a<s
  ·rw[List.countP_cons,aO (by simpa using c)]
   simp only[List.take_succ_cons,List.drop_succ_cons,cI,List.pairwise_cons]
   refine⟨fun y hy=>?_,Gq h.2 hs.2⟩
   rcases List.mem_append.1 hy with hy|hy
   ·exact h.1 y (List.mem_of_mem_take hy)
   ·rcases List.mem_cons.1 hy with rfl|hy
    ·exact c
    ·exact h.1 y (List.mem_of_mem_drop hy)
  ·have h0:(a::l).countP (· <s)=0:=by
    rw[List.countP_eq_zero]
    intro y hy
    rcases List.mem_cons.1 hy with rfl|hy
    ·simpa using c
    ·have:=h.1 y hy;simp;omega
   rw[h0]
   simp only[List.take_zero,dn,List.drop_zero,List.pairwise_cons]
   exact⟨fun y hy=>by
    rcases List.mem_cons.1 hy with rfl|hy
    ·omega
    ·have:=h.1 y hy;omega,h.1,h.2⟩
theorem FX {n:Nat} {l:List Nat} (ha:l.Pairwise (· < ·)) (hl: ∀s∈l,s<n) {s:Nat} (hs:s<n) (hn:s∉l):l.take (l.countP (· <s))++s::l.drop (l.countP (· <s))=AN n l s:=
 xV (Gq ha hn) (oN _ _) fun y=>by
  rw[wo hl hs,gR,dh]
  have h9:y∈l↔y∈l.take (l.countP (· <s))∨y∈l.drop (l.countP (· <s)):=by rw[←gR,List.take_append_drop]
  rw[h9]
  constructor
  ·rintro(h|h|h)
   ·exact .inl (.inl h)
   ·exact .inr h
   ·exact .inl (.inr h)
  ·rintro((h|h)|h)
   ·exact .inl h
   ·exact .inr (.inr h)
   ·exact .inr (.inl h)
theorem Inv.drewN {base w:World} {O:List Item} (h:Inv base O w) (q:Nat):Inv base O (w.drewN q):=h.same F F F F
theorem gl (l:List Nat):ints (l.map fun y:Nat=>(y:Int))=bS l:=by simp
theorem Gr {w:World} {b:Nat} {o:Obj} (h:w.heap[b]? =some o):jS w b o=w:=by
 have gn:=(Array.getElem?_eq_some_iff.1 h).1
 have e:w.heap.setIfInBounds b o=w.heap:=by
  apply Array.ext_getElem?
  intro i
  rw[Array.getElem?_setIfInBounds]
  by_cases c:b=i
  ·subst c;rw[aO F,aO gn,h]
  ·rw[az c]
 show({w with heap:=_}:World)=w
 rw[e]
theorem l6 {b:Nat} {T:TypeId}: ∀(vs:List Value) (o:Nat) (cs:List Value) (w:World),w.heap[b]? =some (.cells cs.toArray T (0,0))→w.setCells b o vs=jS w b (.cells (fh cs o vs).toArray T (0,0))
 | [],o,cs,w,h=>by
  rw[World.setCells,fh,Gr h]
 |v::vs,o,cs,w,h=>by
  have gn:=(Array.getElem?_eq_some_iff.1 h).1
  rw[World.setCells,fh,sY h,l6 vs (o+1) (cs.set o v) (jS w b _) (lL gn),y_]
theorem Inv.setCells {base w:World} {O:List Item} {i b o c p:Nat} {T:TypeId} {cs As vs:List Value} (hI:Inv base O w) (hO:O[i]? =some (aq (some ⟨b,o,none⟩) c T 1 cs)) (hp:p+vs.length≤c) (hl:As.length≤c)
  (hc: ∀j (h:j<As.length),As[j]? =if p≤j∧j<p+vs.length then vs[j-p]? else cs[j]?):Inv base (O.set i (aq (some ⟨b,o,none⟩) c T 1 As)) (w.setCells b (o+p) vs):=by
 obtain⟨_,full,hb,h1,h2,h3⟩:=hI.row hO
 obtain⟨fl,rfl⟩: ∃fl:List Value,full=fl.toArray:=⟨full.toList,by simp⟩
 simp only[Nat.mul_one,List.size_toArray]at h1 h2
 rw[l6 vs (o+p) fl w hb]
 refine hI.setRow hO (by omega) (by simp[iE];omega) fun j hj=>?_
 have hg:=mY vs fl (o+p) (o+j) (by omega)
 simp only[List.getElem?_toArray]
 rw[hg]
 have h9:=hc j hj
 by_cases D5:p≤j∧j<p+vs.length
 ·rw[aO (by omega)]
  rw[aO D5]at h9
  rw[show o+j-(o+p)=j-p by omega,←h9,ap hj]
 ·rw[az (by omega)]
  rw[az D5]at h9
  have hjc:j<cs.length:=by
   rcases Nat.lt_or_ge j cs.length with h|h
   ·exact h
   ·rw[bZ h,ap hj]at h9;cases h9
  have:=h3 j hjc
  simp only[List.getElem?_toArray]at this
  rw[this,←ap hjc,←h9,ap hj]
theorem Inv.H_ {base w:World} {O:List Item} {i lD off cap:Nat} {T:TypeId} {zs ys TP:List Int} (hI:Inv base O w) (hO:O[i]? =some (aq (some ⟨lD,off,none⟩) cap T 1 (ints zs))) (hl:(ys++TP).length=zs.length) (n:Nat):
  Inv base (O.set i (aq (some ⟨lD,off,none⟩) cap T 1 (ints ys))) (putRow (Value.int .i64) (Sort.ahead w n) lD off (ys++TP).toArray):=by
 have h:=hI.LJ (ys:=ys++TP) hO hl n #[]
 have e:Go.Sort.grow (putRow (Value.int .i64) (Sort.ahead w n) lD off (ys++TP).toArray) #[]=putRow (Value.int .i64) (Sort.ahead w n) lD off (ys++TP).toArray:=by
  simp[Go.Sort.grow];rfl
 rw[e]at h
 have gn:i<O.length:=(List.getElem?_eq_some_iff.1 hO).1
 have h2:(O.set i (aq (some ⟨lD,off,none⟩) cap T 1 (ints (ys++TP))))[i]? =some (aq (some ⟨lD,off,none⟩) cap T 1 (ints (ys++TP))):=by simp[gn]
 obtain⟨_,full,hb,h3,h4,h5⟩:=h.row h2
 have h6:=h.setRow h2 (As:=ints ys) (full:=full) (by simp at h3⊢;omega) h4 fun j hj=>by
  have si:j<ys.length:=by simpa using hj
  have:=h5 j (by simp;omega)
  rw[this];simp[il,si]
 rw[List.set_set]at h6
 rwa[Gr hb]at h6
theorem tK (xs:List Int) (x:Int) {i:Nat} (hi:i≤xs.length) (j:Nat):(ints (xs.take i++x::xs.drop i))[j]? =if j<i then(ints xs)[j]? else if j=i then some (.int .i64 x)else(ints xs)[j-1]? :=by
 rw[bq]
 by_cases c1:j<i
 ·rw[aO c1,bH (by simp;omega),List.getElem?_take,aO c1,bq]
 ·rw[az c1,bT (by simp;omega)]
  simp only[ck,Nat.min_eq_left hi]
  by_cases c2:j=i
  ·subst c2;rw[aO F,fR];rfl
  ·obtain⟨k,rfl⟩: ∃k,j=i+(k+1):=⟨j-i-1,by omega⟩
   rw[az c2,show i+(k+1)-i=k+1 by omega,List.getElem?_cons_succ,List.getElem?_drop,bq,show i+(k+1)-1=i+k by omega]
end Go.Lx

namespace Go.Lx
open Go.RowKit
abbrev Key:=List UInt8
theorem uI {α:Type} [DecidableEq α]: ∀ {l m:List α},l.Nodup→(∀x∈l,x∈m)→l.length≤m.length
 | [],_,_,_=>bn _
 |a::l,m,hn,h=>by
  rw[List.nodup_cons]at hn
  have ha:=h a (by simp)
  have:=uI (l:=l) (m:=m.erase a) hn.2 fun x hx=>(List.mem_erase_of_ne (fun e:x=a=>hn.1 (by rw[←e];exact hx))).2 (h x (by simp[hx]))
  rw[List.length_erase_of_mem ha]at this
  have:=List.length_pos_of_mem ha
  simp only[bo];omega
def Gt (tr:Key→Nat→Key) (L:Nat) (start:Key) (C:List Key):Prop:=start∈C∧ ∀k∈C,∀x,x<L→tr k x∈C
def HQ (tr:Key→Nat→Key) (L:Nat) (start:Key) (B:Nat):Prop:= ∃C,Gt tr L start C∧C.length≤B
structure Cy (tr:Key→Nat→Key) (L:Nat) (start:Key) (ks:List Key):Prop where
 nodup:ks.Nodup
 st:ks[0]? =some start
 sub: ∀C,Gt tr L start C→ ∀k∈ks,k∈C
theorem Cy.one (tr:Key→Nat→Key) (L:Nat) (start:Key):Cy tr L start [start]:=⟨by simp,F,fun C h k hk=>by simp at hk;subst hk;exact h.1⟩
theorem Cy.pos {tr:Key→Nat→Key} {L:Nat} {start:Key} {ks:List Key} (h:Cy tr L start ks):0<ks.length:=(List.getElem?_eq_some_iff.1 h.st).1
theorem Cy.add {tr:Key→Nat→Key} {L:Nat} {start:Key} {ks:List Key} (h:Cy tr L start ks) {k:Key} (hk:k∈ks) {x:Nat} (hx:x<L):Cy tr L start (add ks (tr k x)):=
 ⟨mT h.nodup,by obtain⟨t,ht⟩:=jM ks (tr k x);rw[←ht,bH h.pos];exact h.st,fun C hC y hy=>(rv.1 hy).elim (h.sub C hC y) fun e=>e▸hC.2 k (h.sub C hC k hk) x hx⟩
theorem Cy.Wi {tr:Key→Nat→Key} {L:Nat} {start:Key} {ks:List Key} (h:Cy tr L start ks) {B:Nat} (hB:B<ks.length): ¬HQ tr L start B:=fun⟨C,hC,hl⟩=>by
 have:=uI h.nodup (fun k hk=>h.sub C hC k hk)
 omega
theorem FY {ks:List Key} {k:Key} (h:k∉ks):add ks k=ks++[k]:=by unfold add;rw[az h]
theorem FZ {ks:List Key} {k:Key} (h:k∈ks):add ks k=ks:=by unfold add;rw[aO h]
theorem CE {tr:Key→Nat→Key} {L:Nat} {start:Key} {ks:List Key} {rs:List (List Int)} (h:Cy tr L start ks) (hE:qD tr L ks ks.length rs) {B:Nat} (hB:ks.length≤B):HQ tr L start B:=
 ⟨ks,⟨bQ h.st,fun k hk x hx=>by
  obtain⟨i,hi,rfl⟩:=List.getElem_of_mem hk
  have:=hE.mem i hi x hx
  rwa[show ks.getD i []=ks[i] by simp[hi]]at this⟩,hB⟩
def IQ (v:Nat) (rs:List (List Int)) (fs:List Bool):cU:=⟨(v:Int),0,rs,fs⟩
section
variable {tr:Key→Nat→Key} {fin:Key→Bool} {v:Nat} {start:Key} {ks:List Key} {rs:List (List Int)}
theorem E4 (hv:v≤6) (hp:0<ks.length) (hE:qD tr (2^v) ks ks.length rs) (hn:ks.length≤4096):Valid (IQ v rs (ks.map fin)):=by
 refine⟨⟨by simp[IQ],by simp[IQ];omega,by show 0<rs.length;rw[hE.len];exact hp,by show(ks.map fin).length=rs.length;rw[hE.len,ar],Int.le_refl _,by show(0:Int)<(rs.length:Int);rw[hE.len];omega,fun r hr=>?_,fun r hr x hx=>?_⟩,by show rs.length≤4096;rw[hE.len];exact hn⟩
 ·obtain⟨i,hi,rfl⟩:=List.getElem_of_mem (show r∈rs from hr)
  have Hj:i<ks.length:=by have:i<rs.length:=hi;rw[hE.len]at this;exact this
  have h9:=hE.row i Hj
  rw[ap hi]at h9
  rw[df h9];simp[lj,IQ]
 ·obtain⟨i,hi,rfl⟩:=List.getElem_of_mem (show r∈rs from hr)
  have Hj:i<ks.length:=by have:i<rs.length:=hi;rw[hE.len]at this;exact this
  have h9:=hE.row i Hj
  rw[ap hi]at h9
  rw[df h9]at hx
  simp only[lj,iu,eY]at hx
  obtain⟨y,hy,rfl⟩:=hx
  have:=rO (hE.mem i Hj y hy)
  exact⟨by omega,by show _<(rs.length:Int);rw[hE.len];omega⟩
theorem Gu (hE:qD tr (2^v) ks ks.length rs): ∀(w:List Nat) (k:Key),kO (v:Int) w→k∈ks→runN (IQ v rs (ks.map fin)) (ix k ks) w=ix (w.foldl tr k) ks∧w.foldl tr k∈ks
 | [],k,_,hk=>⟨F,hk⟩
 |x::w,k,hw,hk=>by
  have hx:x<2^v:=by have:=hw x (by simp);simpa using this
  have hi:=rO hk
  have hg:ks.getD (ix k ks) []=k:=by rw[av,pC hk];rfl
  have hm:tr k x∈ks:=by have:=hE.mem _ hi x hx;rwa[hg]at this
  have ht:fm (IQ v rs (ks.map fin)) (ix k ks) x=ix (tr k x) ks:=by
   have h9:=hE.row _ hi
   unfold fm IQ
   simp only[av,h9,Option.getD_some,lj,bq,List.getElem?_range hx,Option.map_some]
   rw[←av,hg];simp
  have:=Gu hE w (tr k x) (fun y hy=>hw y (by simp[hy])) hm
  unfold runN at this⊢
  rw[cS,ht,cS]
  exact this
theorem De (hv:v≤6) (yA:ks[0]? =some start) (hE:qD tr (2^v) ks ks.length rs) (hn:ks.length≤4096):HasL (v:Int) ks.length (IQ v rs (ks.map fin)) (fun w=>fin (w.foldl tr start)):=by
 refine⟨E4 hv (List.getElem?_eq_some_iff.1 yA).1 hE hn,by show rs.length≤_;rw[hE.len];exact bF _,F,fun w hw=>?_⟩
 have hs:start∈ks:=bQ yA
 have h0:ix start ks=0:=by
  cases ks with
  |nil=>simp at hs
  |cons k l=>have:=yA;simp at this;subst this;simp[ix]
 obtain⟨h1,h2⟩:=Gu (fin:=fin) hE w start hw hs
 rw[h0]at h1
 unfold iM dr
 show List.getD (ks.map fin) (runN (IQ v rs (ks.map fin)) 0 w) false=_
 rw[h1,av,bq,pC h2];rfl
theorem F1 (hv:v≤6) (h:Cy tr (2^v) start ks) (hE:qD tr (2^v) ks ks.length rs) (hn:ks.length≤4096):HasL (v:Int) ks.length (IQ v rs (ks.map fin)) (fun w=>fin (w.foldl tr start)):=De hv h.st hE hn
theorem Ge (hv:v≤6) {B:Nat} (hB:B≤4096) (h:HQ tr (2^v) start B): ∃M,fM (v:Int) B M (fun w=>fin (w.foldl tr start)):=by
 obtain⟨C,⟨h1,h2⟩,h3⟩:=h
 obtain⟨D,hD⟩: ∃D,D=start::C.filter (fun k=>decide (k≠start)):=⟨_,F⟩
 have hm: ∀k,k∈D↔k∈C:=fun k=>by
  rw[hD]
  by_cases e:k=start
  ·subst e;simp[h1]
  ·simp[e]
 have hl:D.length≤B:=by
  have hf:(C.filter (fun k=>decide (k≠start))).length<C.length:=by
   have:=List.length_filter_lt_length_iff_exists (p:=fun k=>decide (k≠start)) (l:=C)
   exact this.2 ⟨start,h1,by simp⟩
  rw[hD,bo];omega
 have hE:qD tr (2^v) D D.length ((List.range D.length).map (lj tr (2^v) D)):=by
  refine⟨by simp,bF _,fun i hi=>by rw[bq,List.getElem?_range hi];rfl,fun i hi y hy=>?_⟩
  rw[hm]
  refine h2 _ ?_ y hy
  rw[←hm,av,ap hi]
  exact aQ hi
 have h4:=De (fin:=fin) hv (show D[0]? =some start by rw[hD];rfl) hE (by omega)
 have h5:=HasL.uW h4
 exact⟨_,⟨h5.valid,cn h5.len hl,h5.vars,h5.iM⟩,h5.min⟩
end
structure SR where
 a:Value
 b:Value
 k7:List Item
abbrev c1 (r:SR):List Value:=[r.a]
abbrev c2 (r:SR):List Value:=[r.a,r.b]
def eR (f:SR→List Value) (qs:List SR):List Value:=qs.flatMap f
def ju (qs:List SR):List Item:=qs.flatMap SR.k7
theorem vh (f:SR→List Value) (qs:List SR) (r:SR):eR f (qs++[r])=eR f qs++f r:=by simp[eR]
theorem zH (qs:List SR) (r:SR):ju (qs++[r])=ju qs++r.k7:=by simp[ju]
theorem kw {f:SR→List Value} {n:Nat} (h: ∀r,(f r).length=n): ∀(qs:List SR),(eR f qs).length=qs.length*n
 | []=>by simp[eR]
 |r::qs=>by
  have:=kw h qs
  have h0:=h r
  simp only[eR,List.flatMap_cons,aw,bo]at this⊢
  rw[this,h0,Nat.succ_mul];omega
theorem sD {f:SR→List Value} {n:Nat} (h: ∀r,(f r).length=n): ∀ {qs:List SR} {i j:Nat} (hi:i<qs.length),j<n→(eR f qs)[i*n+j]? =(f qs[i])[j]?
 |r::qs,0,j,_,hj=>by
  have h0:=h r
  simp only[eR,List.flatMap_cons,Nat.zero_mul,Nat.zero_add,List.getElem_cons_zero]
  rw[bH (by omega)]
 |r::qs,i+1,j,hi,hj=>by
  have h0:=h r
  have ih:=sD h (qs:=qs) (i:=i) (j:=j) (by simpa using hi) hj
  simp only[eR,List.flatMap_cons,List.getElem_cons_succ]at ih⊢
  rw[bT (by rw[h0,Nat.succ_mul];omega),h0,show(i+1)*n+j-n=i*n+j by rw[Nat.succ_mul];omega]
  exact ih
theorem tD {qs:List SR} {i:Nat} (hi:i<qs.length) {it:Item} (h:it∈qs[i].k7):it∈ju qs:=List.mem_flatMap.2 ⟨_,aQ hi,h⟩
theorem Qj {qs:List SR} {i:Nat} (hi:i<qs.length): ∀j (h:j< [qs[i].a,qs[i].b].length),(eR c2 qs)[i*2+j]? =some [qs[i].a,qs[i].b][j]:=fun j hj=>by
 rw[sD (f:=c2) (fun _=>rfl) hi (by simpa using hj)];exact ap hj
theorem Ql {qs:List SR} {i:Nat} (hi:i<qs.length):(eR c1 qs)[i]? =some qs[i].a:=by
 have:=sD (f:=c1) (n:=1) (fun _=>rfl) (j:=0) hi (by omega)
 simpa using this
def Kk (Rp:Key→SR→Prop) (ks:List Key) (qs:List SR):Prop:=qs.length=ks.length∧ ∀i (h:i<qs.length),Rp (ks.getD i []) qs[i]
theorem Kk.one {Rp:Key→SR→Prop} {k:Key} {r:SR} (h:Rp k r):Kk Rp [k] [r]:=⟨F,fun i hi=>by simp at hi;subst hi;exact h⟩
theorem Kk.snoc {Rp:Key→SR→Prop} {ks:List Key} {qs:List SR} {k:Key} {r:SR} (h:Kk Rp ks qs) (hr:Rp k r):Kk Rp (ks++[k]) (qs++[r]):=by
 refine⟨by simp[h.1],fun i hi=>?_⟩
 rcases Nat.lt_or_ge i qs.length with c|c
 ·have:=h.2 i c
  rw[il c,av,bH (by rw[←h.1];exact c),←av]
  exact this
 ·simp only[aw,bo,bV]at hi
  have e:i=qs.length:=by omega
  subst e
  rw[List.getElem_append_right (bF _),av,bT (by rw[h.1];exact bF _)]
  simpa[h.1]using hr
theorem xw (A B Y Z X:List Item) (h:Sub A B):Sub (A++(Y++(Z++X))) (B++(X++(Y++Z))):=by
 obtain⟨l,h1,h2⟩:=h
 refine⟨l++(X++(Y++Z)),h1.append ?_,h2.append (aZ _)⟩
 rw[←aI Y Z X]
 exact List.perm_append_comm
theorem vi (A B Y Z:List Item) (h:Sub A B):Sub (A++Y) (B++(Y++Z)):=by
 obtain⟨l,h1,h2⟩:=h
 exact⟨l++Y,h1.append_right Y,h2.append (List.sublist_append_left Y Z)⟩
theorem qE (A B X Y:List Item) (c:Item) (h:Sub (A++[c]) B):Sub (A++((X++[c])++Y)) (B++(X++Y)):=by
 obtain⟨l,h1,h2⟩:=h
 refine⟨l++(X++Y),?_,h2.append (aZ _)⟩
 refine List.Perm.trans ?_ (h1.append_right (X++Y))
 rw[aI X,aI A]
 exact List.Perm.append_left A ((List.perm_append_comm_assoc X [c] Y))
theorem ft (A B X Y:List Item) (h:Sub A B):Sub (A++Y) (B++(X++Y)):=by
 obtain⟨l,h1,h2⟩:=h
 exact⟨l++Y,h1.append_right Y,h2.append (List.sublist_append_right X Y)⟩
end Go.Lx

namespace Go.Lx
open Go.RowKit
def mH (n:Int):Prop:=n= -1∨(0≤n∧n<1000000000000)
def kq (n:Int):List UInt8:=if n= -1 then[45,49]else Lib.decDigits n.toNat
def iO (l:List Int):List UInt8:=l.flatMap fun n=>kq n++[32]
theorem Gh:iO []=[]:=rfl
theorem oL (n:Int) (l:List Int):iO (n::l)=kq n++32::iO l:=by simp[iO]
theorem sq (l m:List Int):iO (l++m)=iO l++iO m:=by simp[iO]
theorem Cu {l:List Int} {i:Nat} (h:i<l.length):iO (l.take (i+1))=iO (l.take i)++kq l[i]++[32]:=by
 rw[aH h,sq,oL];simp[iO]
theorem qz {n:Int} (h:mH n):(kq n).length≤12:=by
 unfold kq
 split
 ·decide
 ·rcases h with h|⟨h0,h1⟩
  ·contradiction
  ·exact s_ 11 _ (by omega)
theorem pu: ∀ {l:List Int},(∀n∈l,mH n)→(iO l).length≤13*l.length
 | [],_=>by simp[iO]
 |n::l,h=>by
  have h1:=qz (h n (by simp));have h2:=pu (l:=l) fun x hx=>h x (by simp[hx])
  rw[oL];simp only[aw,bo];omega
theorem rp (n:Int): ∀b∈kq n,b.toNat=45∨(48≤b.toNat∧b.toNat<58):=by
 unfold kq
 split
 ·intro b hb;simp at hb;rcases hb with rfl|rfl<;>decide
 ·exact fun b hb=>.inr (q8 _ b hb)
theorem LD {a b:Int} (ha:mH a) (hb:mH b) (h:kq a=kq b):a=b:=by
 unfold kq at h
 by_cases h1:a= -1<;>by_cases h2:b= -1
 ·rw[h1,h2]
 ·rw[aO h1,az h2]at h
  have:=q8 b.toNat 45 (h▸by simp);simp at this
 ·rw[az h1,aO h2]at h
  have:=q8 a.toNat 45 (h▸by simp);simp at this
 ·rw[az h1,az h2]at h
  have:=pg _ _ h
  rcases ha with ha|ha<;>rcases hb with hb|hb<;>first|contradiction|omega
theorem xP: ∀ {x y p q:List UInt8},(∀b∈x,b≠32)→(∀b∈y,b≠32)→x++32::p=y++32::q→x=y∧p=q
 | [],[],p,q,_,_,h=>⟨F,by simpa using h⟩
 | [],c::y,p,q,_,hy,h=>by simp only[dn,cI,List.cons.injEq]at h;exact absurd h.1.symm (hy c (by simp))
 |c::x,[],p,q,hx,_,h=>by simp only[dn,cI,List.cons.injEq]at h;exact absurd h.1 (hx c (by simp))
 |c::x,c'::y,p,q,hx,hy,h=>by
  simp only[cI,List.cons.injEq]at h
  obtain⟨h1,h2⟩:=xP (fun b hb=>hx b (by simp[hb])) (fun b hb=>hy b (by simp[hb])) h.2
  exact⟨by rw[h.1,h1],h2⟩
theorem Gi (n:Int): ∀b∈kq n,b≠32:=fun b hb e=>by subst e;have:=rp n 32 hb;simp at this
theorem Bd: ∀ {l m:List Int} {p q:List UInt8},(∀n∈l,mH n)→(∀n∈m,mH n)→(∀b t,p=b::t→b.toNat=124)→(∀b t,q=b::t→b.toNat=124)→iO l++p=iO m++q→l=m∧p=q
 | [],[],p,q,_,_,_,_,h=>⟨F,by simpa[iO]using h⟩
 | [],n::m,p,q,_,_,hp,_,h=>by
  rw[oL,Gh,dn]at h
  cases hd:kq n with
  |nil=>rw[hd]at h;have:=hp 32 _ (by simpa using h);simp at this
  |cons c r=>
   rw[hd]at h
   have h1:=hp c _ (by simpa using h);have h2:=rp n c (by simp[hd]);omega
 |n::l,[],p,q,_,_,_,hq,h=>by
  rw[oL,Gh,dn]at h
  cases hd:kq n with
  |nil=>rw[hd]at h;have:=hq 32 _ (by simpa using h.symm);simp at this
  |cons c r=>
   rw[hd]at h
   have h1:=hq c _ (by simpa using h.symm);have h2:=rp n c (by simp[hd]);omega
 |n::l,n'::m,p,q,hl,hm,hp,hq,h=>by
  rw[oL,oL,aI,aI,cI,cI]at h
  obtain⟨h1,h2⟩:=xP (Gi n) (Gi n') h
  obtain⟨h3,h4⟩:=Bd (fun x hx=>hl x (by simp[hx])) (fun x hx=>hm x (by simp[hx])) hp hq h2
  exact⟨by rw[LD (hl n (by simp)) (hm n' (by simp)) h1,h3],h4⟩
theorem xQ {l m:List Int} (hl: ∀n∈l,mH n) (hm: ∀n∈m,mH n) (h:iO l=iO m):l=m:=
 (Bd (p:=[]) (q:=[]) hl hm (by simp) (by simp) (by simpa using h)).1
end Go.Lx

namespace Go.Lx
open Go.RowKit
theorem rr: ∀ {l m:List Nat},l.map (fun y:Nat=>(y:Int))=m.map (fun y:Nat=>(y:Int))→l=m
 | [],[],_=>rfl
 | [],_::_,h=>by simp at h
 |_::_,[],h=>by simp at h
 |x::l,y::m,h=>by
  simp only[cJ,List.cons.injEq]at h
  rw[rr h.2,show x=y by omega]
section
variable {α:Type} [Nonempty α] (G:α→Prop) (kf:α→Key) (nx:α→Nat→α) (fn:α→Bool)
noncomputable def By (k:Key) (x:Nat):Key:=kf (nx (Classical.epsilon fun a=>G a∧kf a=k) x)
noncomputable def HT (k:Key):Bool:=fn (Classical.epsilon fun a=>G a∧kf a=k)
structure OS (L:Nat):Prop where
 M2: ∀a b x,G a→G b→kf a=kf b→x<L→kf (nx a x)=kf (nx b x)
 Y7: ∀a b,G a→G b→kf a=kf b→fn a=fn b
 W4: ∀a x,G a→x<L→G (nx a x)
variable {G kf nx fn}
theorem uy {L:Nat} (h:OS G kf nx fn L) {a:α} (ha:G a) {x:Nat} (hx:x<L):By G kf nx (kf a) x=kf (nx a x):=by
 have:=Classical.epsilon_spec (p:=fun b=>G b∧kf b=kf a) ⟨a,ha,F⟩
 exact h.M2 _ _ x this.1 ha this.2 hx
theorem AR {L:Nat} (h:OS G kf nx fn L) {a:α} (ha:G a):HT G kf fn (kf a)=fn a:=by
 have:=Classical.epsilon_spec (p:=fun b=>G b∧kf b=kf a) ⟨a,ha,F⟩
 exact h.Y7 _ _ this.1 ha this.2
theorem Gj {L:Nat} (h:OS G kf nx fn L): ∀(u:List Nat) {a:α},G a→(∀x∈u,x<L)→u.foldl (By G kf nx) (kf a)=kf (u.foldl nx a)∧G (u.foldl nx a)
 | [],a,ha,_=>⟨F,ha⟩
 |x::u,a,ha,hu=>by
  have hx:=hu x (by simp)
  rw[cS,uy h ha hx]
  exact Gj h u (h.W4 a x ha hx) fun y hy=>hu y (by simp[hy])
theorem Bb {L:Nat} (h:OS G kf nx fn L) {a:α} (ha:G a) {u:List Nat} (hu: ∀x∈u,x<L):HT G kf fn (u.foldl (By G kf nx) (kf a))=fn (u.foldl nx a):=by
 obtain⟨h1,h2⟩:=Gj h u ha hu
 rw[h1,AR h h2]
end
abbrev Lg:=List Nat→Bool
def je (p q:Lg):Lg:=fun w=>(List.range (w.length+1)).any fun i=>p (w.take i)&&q (w.drop i)
def xR (p:Lg):Nat→Lg
 |0,w=>w.isEmpty
 |n+1,w=>w.isEmpty||(List.range w.length).any fun i=>p (w.take (i+1))&&xR p n (w.drop (i+1))
def pK (p:Lg):Lg:=fun w=>xR p w.length w
theorem i_ {p q:Lg} {w:List Nat}:je p q w=true↔ ∃x y,w=x++y∧p x=true∧q y=true:=by
 unfold je
 simp only[dc,eY,aJ]
 constructor
 ·rintro⟨i,_,h1,h2⟩;exact⟨_,_,(List.take_append_drop i w).symm,h1,h2⟩
 ·rintro⟨x,y,rfl,h1,h2⟩;exact⟨x.length,by simp;omega,by simpa using h1,by simpa using h2⟩
inductive iI (p:Lg):List Nat→Prop
 |nil:iI p []
 |pG {x y:List Nat}:p x=true→iI p y→iI p (x++y)
theorem iI.snoc {p:Lg} {x y:List Nat} (h:iI p x) (hy:p y=true):iI p (x++y):=by
 induction h with
 |nil=>simpa using iI.pG hy .nil
 |pG h1 _ ih=>rw[aI];exact .pG h1 ih
theorem iI.last {p:Lg} {w:List Nat} (h:iI p w):w≠ []→ ∃x y,w=x++y∧iI p x∧p y=true∧y≠ []:=by
 induction h with
 |nil=>exact fun h=>absurd F h
 | @pG x y h1 h2 ih=>
  intro hw
  by_cases hy:y=[]
  ·subst hy
   refine⟨[],x,by simp,.nil,h1,?_⟩
   rintro rfl;exact hw F
  ·obtain⟨a,b,e,h3,h4,h5⟩:=ih hy
   exact⟨x++a,b,by rw[e,aI],.pG h1 h3,h4,h5⟩
theorem uH {p:Lg}: ∀(n:Nat) (w:List Nat),w.length≤n→(xR p n w=true↔iI p w)
 |0,w,h=>by
  have:w=[]:=List.length_eq_zero_iff.1 (by omega)
  subst this;simp[xR,iI.nil]
 |n+1,w,h=>by
  unfold xR
  simp only[Bool.or_eq_true,List.isEmpty_iff,dc,eY,aJ]
  constructor
  ·rintro(rfl|⟨i,hi,h1,h2⟩)
   ·exact .nil
   ·rw[←List.take_append_drop (i+1) w]
    exact .pG h1 ((uH n _ (by simp;omega)).1 h2)
  ·intro hs
   have key: ∀w,iI p w→w≠ []→ ∃x y,w=x++y∧x≠ []∧p x=true∧iI p y:=by
    intro w hw
    induction hw with
    |nil=>exact fun h=>absurd F h
    | @pG x y h1 h2 ih=>
     intro v_
     by_cases hx:x=[]
     ·subst hx;exact ih v_
     ·exact⟨x,y,F,hx,h1,h2⟩
   by_cases hw:w=[]
   ·exact .inl hw
   ·obtain⟨x,y,rfl,hx,h1,h2⟩:=key w hs hw
    have yY:=List.length_pos_iff.2 hx
    refine .inr ⟨x.length-1,by simp;omega,?_,?_⟩
    ·rw[show x.length-1+1=x.length by omega];simpa using h1
    ·rw[show x.length-1+1=x.length by omega]
     simpa using(uH n y (by simp at h;omega)).2 h2
theorem oF {p:Lg} {w:List Nat}:pK p w=true↔iI p w:=uH _ _ (bF _)
section
variable (a b:cU)
def vj (s:Nat) (l:List Nat):List Nat:=if dr a s then AN b.next.length l b.start.toNat else l
def IR (q:Nat×List Nat) (x:Nat):Nat×List Nat:=(fm a q.1 x,vj a b (fm a q.1 x) (fU b q.2 x))
def On:Nat×List Nat:=(a.start.toNat,vj a b a.start.toNat [])
def Sp (q:Nat×List Nat):Bool:=q.2.any (dr b)
def zI (q:Nat×List Nat):Key:=iO ((q.1:Int)::q.2.map fun y:Nat=>(y:Int))
structure GC (q:Nat×List Nat):Prop where
 s:q.1<a.next.length
 Ss:q.2.Pairwise (· < ·)
 lt: ∀t∈q.2,t<b.next.length
abbrev AS (L B:Nat):Prop:=HQ (By (GC a b) zI (IR a b)) L (zI (On a b)) B
variable {a b}
theorem nm {n:Nat} (h:n<1000000):mH (n:Int):=.inr ⟨by omega,by omega⟩
theorem Gk (hn:a.next.length≤4096) (hm:b.next.length≤4096) {q:Nat×List Nat} (h:GC a b q): ∀n∈((q.1:Int)::q.2.map fun y:Nat=>(y:Int)),mH n:=fun n hn=>by
 rcases List.mem_cons.1 hn with rfl|hn
 ·exact nm (by have:=h.s;omega)
 ·obtain⟨y,hy,rfl⟩:=List.mem_map.1 hn
  exact nm (by have:=h.lt y hy;omega)
theorem Gl (hn:a.next.length≤4096) (hm:b.next.length≤4096) {q r:Nat×List Nat} (hq:GC a b q) (hr:GC a b r) (h:zI q=zI r):q=r:=by
 have:=xQ (Gk hn hm hq) (Gk hn hm hr) h
 simp only[List.cons.injEq]at this
 have h2:q.2=r.2:=rr this.2
 exact Prod.ext (by omega) h2
theorem LG (hb:Val b) {s:Nat} {l:List Nat} (ha:l.Pairwise (· < ·)) (hl: ∀t∈l,t<b.next.length):(vj a b s l).Pairwise (· < ·)∧ ∀t∈vj a b s l,t<b.next.length:=by
 unfold vj
 split
 ·exact⟨oN _ _,fun t ht=>(qR.1 ht).1⟩
 ·exact⟨ha,hl⟩
theorem np (d:cU) (l:List Nat) (x:Nat):(fU d l x).Pairwise (· < ·)∧ ∀t∈fU d l x,t<d.next.length:=⟨oN _ _,fun t ht=>(qR.1 ht).1⟩
theorem Gm (hb:Val b) {s:Nat} {l:List Nat} (hl: ∀t∈l,t<b.next.length) {t:Nat}:t∈vj a b s l↔t∈l∨(dr a s=true∧t=b.start.toNat):=by
 unfold vj
 split
 ·rename_i h;rw[wo hl (eE hb)];simp[h]
 ·rename_i h;simp[h]
theorem GC.len {q:Nat×List Nat} (h:GC a b q) (hn:b.next.length≤4096):q.2.length≤4096:=cn (eT (h.Ss.imp fun h=>Nat.ne_of_lt h) h.lt) hn
theorem GC.start (ha:Val a) (hb:Val b):GC a b (On a b):=by
 have:=LG (a:=a) (s:=a.start.toNat) hb (l:=[]) List.Pairwise.nil (by simp)
 exact⟨eE ha,this.1,this.2⟩
theorem GC.next (ha:Val a) (hb:Val b) {q:Nat×List Nat} (h:GC a b q) {x:Nat} (hx:x<eh a):GC a b (IR a b q x):=by
 have h2:=np b q.2 x
 have:=LG (a:=a) (s:=fm a q.1 x) hb h2.1 h2.2
 exact⟨(ha.gY h.s hx).1,this.1,this.2⟩
theorem F5 (ha:Valid a) (hb:Valid b):OS (GC a b) zI (IR a b) (Sp b) (eh a):=
 ⟨fun q r x hq hr h _=>by rw[Gl ha.n4 hb.n4 hq hr h],fun q r hq hr h=>by rw[Gl ha.n4 hb.n4 hq hr h],fun q x h hx=>h.next ha.toVal hb.toVal hx⟩
theorem xS {α:Type} {p:List α→Prop} (h0:p []) (h1: ∀u x,p u→p (u++[x])): ∀u,p u:=fun u=>by
 have: ∀n (u:List α),u.length=n→p u:=by
  intro n
  induction n with
  |zero=>exact fun u hu=>(List.length_eq_zero_iff.1 hu)▸h0
  |succ n ih=>
   intro u hu
   have v_:u≠ []:=by rintro rfl;simp at hu
   rw[←List.dropLast_concat_getLast v_]
   exact h1 _ _ (ih _ (by simp[hu]))
 exact this _ u F
theorem OT (ha:Val a) (hb:Val b) (hv:a.vars=b.vars): ∀(u:List Nat),(∀x∈u,x<eh a)→(u.foldl (IR a b) (On a b)).1=runN a a.start.toNat u∧ ∀t,t∈(u.foldl (IR a b) (On a b)).2↔ ∃x y,u=x++y∧iM a x=true∧runN b b.start.toNat y=t:=by
 have aaj:eh b=eh a:=by unfold eh;rw[hv]
 apply xS
 ·intro _
  refine⟨F,fun t=>?_⟩
  show t∈vj a b a.start.toNat []↔_
  rw[Gm hb (by simp)]
  constructor
  ·rintro(h|⟨h,rfl⟩)
   ·cases h
   ·exact⟨[],[],F,h,F⟩
  ·rintro⟨x,y,e,h,rfl⟩
   obtain⟨rfl,rfl⟩:=List.append_eq_nil_iff.1 e.symm
   exact .inr ⟨h,F⟩
 ·intro u z ih hu
  have M6: ∀x∈u,x<eh a:=fun x hx=>hu x (by simp[hx])
  have hz:z<eh a:=hu z (by simp)
  obtain⟨h1,h2⟩:=ih M6
  rw[cO,cS,List.foldl_nil]
  have hG:GC a b (u.foldl (IR a b) (On a b)):=by
   have: ∀(u:List Nat) (q:Nat×List Nat),GC a b q→(∀x∈u,x<eh a)→GC a b (u.foldl (IR a b) q):=by
    intro u
    induction u with
    |nil=>exact fun q h _=>h
    |cons x u ih=>exact fun q h hx=>ih _ (h.next ha hb (hx x (by simp))) fun y hy=>hx y (by simp[hy])
   exact this u _ (.start ha hb) M6
  refine⟨by rw[fG,←h1];rfl,fun t=>?_⟩
  show t∈vj a b (fm a (u.foldl (IR a b) (On a b)).1 z) (fU b (u.foldl (IR a b) (On a b)).2 z)↔_
  rw[Gm hb (np b _ z).2,ru hb hG.lt (by have:=hz;rw[←aaj]at this;exact this),h1,←fG]
  constructor
  ·rintro(⟨s,hs,rfl⟩|⟨h,rfl⟩)
   ·obtain⟨x,y,rfl,hx,rfl⟩:=(h2 s).1 hs
    exact⟨x,y++[z],by rw[aI],hx,fG _ _ _ _⟩
   ·exact⟨u++[z],[],by simp,h,F⟩
  ·rintro⟨x,y,e,hx,rfl⟩
   by_cases hy:y=[]
   ·subst hy
    simp only[c7]at e;subst e
    exact .inr ⟨hx,F⟩
   ·have e2:=List.dropLast_concat_getLast hy
    rw[←e2,←aI]at e
    obtain⟨e3,e4⟩:=List.append_inj' e F
    simp only[List.cons.injEq,and_true]at e4
    refine .inl ⟨runN b b.start.toNat y.dropLast,(h2 _).2 ⟨x,y.dropLast,e3,hx,F⟩,?_⟩
    rw[e4,←fG,e2]
theorem CH (ha:Valid a) (hb:Valid b) (hv:a.vars=b.vars) {u:List Nat} (hu: ∀x∈u,x<eh a):HT (GC a b) zI (Sp b) (u.foldl (By (GC a b) zI (IR a b)) (zI (On a b)))=je (iM a) (iM b) u:=by
 rw[Bb (F5 ha hb) (.start ha.toVal hb.toVal) hu]
 obtain⟨_,h2⟩:=OT ha.toVal hb.toVal hv u hu
 rw[eo,i_]
 unfold Sp
 rw[dc]
 constructor
 ·rintro⟨t,ht,hf⟩
  obtain⟨x,y,rfl,hx,rfl⟩:=(h2 t).1 ht
  exact⟨x,y,F,hx,hf⟩
 ·rintro⟨x,y,rfl,hx,hf⟩
  exact⟨_,(h2 _).2 ⟨x,y,F,hx,F⟩,hf⟩
end
section
variable (a:cU)
def tF (q:Bool×List Nat) (x:Nat):Bool×List Nat:=(false,if(fU a q.2 x).any (dr a)then AN a.next.length (fU a q.2 x) a.start.toNat else fU a q.2 x)
def Ex:Bool×List Nat:=(true,[a.start.toNat])
def Ou (q:Bool×List Nat):Bool:=q.1||q.2.any (dr a)
def jx (q:Bool×List Nat):List Int:=if q.1 then-1::q.2.map (fun y:Nat=>(y:Int))else q.2.map (fun y:Nat=>(y:Int))
def Bz (q:Bool×List Nat):Key:=iO (jx q)
structure GS (q:Bool×List Nat):Prop where
 Ss:q.2.Pairwise (· < ·)
 lt: ∀t∈q.2,t<a.next.length
abbrev Ew (L B:Nat):Prop:=HQ (By (GS a) Bz (tF a)) L (Bz (Ex a)) B
variable {a}
theorem xz (hn:a.next.length≤4096) {q:Bool×List Nat} (h:GS a q): ∀n∈jx q,mH n:=fun n hn=>by
 have h2: ∀n∈q.2.map (fun y:Nat=>(y:Int)),mH n:=fun n hn=>by
  obtain⟨y,hy,rfl⟩:=List.mem_map.1 hn
  exact nm (by have:=h.lt y hy;omega)
 unfold jx at hn
 split at hn
 ·rcases List.mem_cons.1 hn with rfl|hn
  ·exact .inl F
  ·exact h2 n hn
 ·exact h2 n hn
theorem Gn (hn:a.next.length≤4096) {q r:Bool×List Nat} (hq:GS a q) (hr:GS a r) (h:Bz q=Bz r):q=r:=by
 have:=xQ (xz hn hq) (xz hn hr) h
 obtain⟨f,l⟩:=q
 obtain⟨g,m⟩:=r
 unfold jx at this
 have hi: ∀ {l m:List Nat},l.map (fun y:Nat=>(y:Int))=m.map (fun y:Nat=>(y:Int))→l=m:=fun h=>rr h
 cases f<;>cases g<;>simp only[if_true,Bool.false_eq_true,if_false,List.cons.injEq,true_and]at this
 ·rw[hi this]
 ·cases l with
  |nil=>simp at this
  |cons y l=>simp only[cJ,List.cons.injEq]at this;omega
 ·cases m with
  |nil=>simp at this
  |cons y l=>simp only[cJ,List.cons.injEq]at this;omega
 ·rw[hi this]
theorem GS.start (ha:Val a):GS a (Ex a):=⟨by simp[Ex],fun t ht=>by simp[Ex]at ht;subst ht;exact eE ha⟩
theorem GS.next {q:Bool×List Nat} (x:Nat):GS a (tF a q x):=by
 unfold tF
 refine⟨?_,?_⟩<;>dsimp only<;>split
 ·exact oN _ _
 ·exact(np a _ x).1
 ·exact fun t ht=>(qR.1 ht).1
 ·exact(np a _ x).2
theorem AT (ha:Valid a):OS (GS a) Bz (tF a) (Ou a) (eh a):=
 ⟨fun q r x hq hr h _=>by rw[Gn ha.n4 hq hr h],fun q r hq hr h=>by rw[Gn ha.n4 hq hr h],fun q x h hx=>GS.next x⟩
theorem LH (ha:Val a): ∀(u:List Nat),(∀x∈u,x<eh a)→((u.foldl (tF a) (Ex a)).1=u.isEmpty)∧ ∀t,t∈(u.foldl (tF a) (Ex a)).2↔ ∃x y,u=x++y∧iI (iM a) x∧runN a a.start.toNat y=t:=by
 apply xS
 ·intro _
  refine⟨F,fun t=>?_⟩
  show t∈[a.start.toNat]↔_
  rw[c_]
  constructor
  ·rintro rfl;exact⟨[],[],F,.nil,F⟩
  ·rintro⟨x,y,e,h,rfl⟩
   obtain⟨rfl,rfl⟩:=List.append_eq_nil_iff.1 e.symm
   rfl
 ·intro u z ih hu
  have M6: ∀x∈u,x<eh a:=fun x hx=>hu x (by simp[hx])
  have hz:z<eh a:=hu z (by simp)
  obtain⟨_,h2⟩:=ih M6
  have hG:GS a (u.foldl (tF a) (Ex a)):=by
   have: ∀(u:List Nat) (q:Bool×List Nat),GS a q→GS a (u.foldl (tF a) q):=by
    intro u
    induction u with
    |nil=>exact fun q h=>h
    |cons x u ih=>exact fun q h=>ih _ (GS.next x)
   exact this u _ (.start ha)
  rw[cO,cS,List.foldl_nil]
  refine⟨by simp[tF],fun t=>?_⟩
  have hm: ∀t,t∈fU a (u.foldl (tF a) (Ex a)).2 z↔ ∃x y,u=x++y∧iI (iM a) x∧runN a a.start.toNat (y++[z])=t:=fun t=>by
   rw[ru ha hG.lt hz]
   constructor
   ·rintro⟨s,hs,rfl⟩
    obtain⟨x,y,e,hx,rfl⟩:=(h2 s).1 hs
    exact⟨x,y,e,hx,fG _ _ _ _⟩
   ·rintro⟨x,y,e,hx,rfl⟩
    exact⟨_,(h2 _).2 ⟨x,y,e,hx,F⟩,(fG _ _ _ _).symm⟩
  have mJ:(fU a (u.foldl (tF a) (Ex a)).2 z).any (dr a)=true↔iI (iM a) (u++[z]):=by
   rw[dc]
   constructor
   ·rintro⟨t,ht,hf⟩
    obtain⟨x,y,rfl,hx,rfl⟩:=(hm t).1 ht
    rw[aI];exact hx.snoc hf
   ·intro h
    obtain⟨x,y,e,hx,hy,v_⟩:=h.last (by simp)
    have e2:=List.dropLast_concat_getLast v_
    rw[←e2,←aI]at e
    obtain⟨e3,e4⟩:=List.append_inj' e F
    simp only[List.cons.injEq,and_true]at e4
    refine⟨_,(hm _).2 ⟨x,y.dropLast,e3,hx,F⟩,?_⟩
    rw[e4,e2];exact hy
  show t∈(if(fU a (u.foldl (tF a) (Ex a)).2 z).any (dr a)then AN a.next.length (fU a (u.foldl (tF a) (Ex a)).2 z) a.start.toNat else fU a (u.foldl (tF a) (Ex a)).2 z)↔_
  have Q1: ∀ {x y:List Nat},u++[z]=x++y→y≠ []→ ∃y',y=y'++[z]∧u=x++y':=fun {x y} e v_=>by
   have e2:=List.dropLast_concat_getLast v_
   rw[←e2,←aI]at e
   obtain⟨e3,e4⟩:=List.append_inj' e F
   simp only[List.cons.injEq,and_true]at e4
   exact⟨y.dropLast,by rw[e4,e2],e3⟩
  by_cases hA:(fU a (u.foldl (tF a) (Ex a)).2 z).any (dr a)=true
  ·rw[aO hA,wo (np a _ z).2 (eE ha),hm]
   constructor
   ·rintro(⟨x,y,e,hx,h⟩|rfl)
    ·exact⟨x,y++[z],by rw[e,aI],hx,h⟩
    ·exact⟨u++[z],[],by simp,mJ.1 hA,F⟩
   ·rintro⟨x,y,e,hx,h⟩
    by_cases hy:y=[]
    ·subst hy;exact .inr h.symm
    ·obtain⟨y',rfl,e3⟩:=Q1 e hy
     exact .inl ⟨x,y',e3,hx,h⟩
  ·rw[az hA,hm]
   constructor
   ·rintro⟨x,y,e,hx,h⟩
    exact⟨x,y++[z],by rw[e,aI],hx,h⟩
   ·rintro⟨x,y,e,hx,h⟩
    by_cases hy:y=[]
    ·subst hy
     simp only[c7]at e;subst e
     exact absurd (mJ.2 hx) hA
    ·obtain⟨y',rfl,e3⟩:=Q1 e hy
     exact⟨x,y',e3,hx,h⟩
theorem zJ (ha:Valid a) {u:List Nat} (hu: ∀x∈u,x<eh a):HT (GS a) Bz (Ou a) (u.foldl (By (GS a) Bz (tF a)) (Bz (Ex a)))=pK (iM a) u:=by
 rw[Bb (AT ha) (.start ha.toVal) hu]
 obtain⟨h1,h2⟩:=LH ha.toVal u hu
 rw[eo,oF]
 unfold Ou
 rw[Bool.or_eq_true,h1,List.isEmpty_iff,dc]
 constructor
 ·rintro(rfl|⟨t,ht,hf⟩)
  ·exact .nil
  ·obtain⟨x,y,rfl,hx,rfl⟩:=(h2 t).1 ht
   exact hx.snoc hf
 ·intro h
  by_cases M6:u=[]
  ·exact .inl M6
  ·obtain⟨x,y,rfl,hx,hy,_⟩:=h.last M6
   exact .inr ⟨_,(h2 _).2 ⟨x,y,F,hx,F⟩,hy⟩
end
end Go.Lx

namespace Go.Lx
open Go.RowKit
def gO (p n x:Nat):Bool:=decide (x&&&p=p∧x&&&n=0)
def DN (n:Nat) (h:Nat→Bool):Lg:=fun u=>u.length==n&&u.all h
def Qp (n:Nat) (h:Nat→Bool) (s x:Nat):Int:=if s<n∧h x=true then((s+1:Nat):Int)else((n+1:Nat):Int)
def vk (L n:Nat) (h:Nat→Bool) (s:Nat):List Int:=(List.range L).map (Qp n h s)
def Ey (v n:Nat) (h:Nat→Bool):cU:=⟨v,0,(List.range (n+2)).map (vk (2^v) n h),(List.replicate (n+2) false).set n true⟩
theorem H7 {v n:Nat} (h:Nat→Bool) (hv:v≤6) (hn:n≤1):Valid (Ey v n h):=by
 have n0:(Ey v n h).next.length=n+2:=by show((List.range (n+2)).map _).length=_;simp
 refine⟨{v0:=Int.natCast_nonneg _,v6:=by show(v:Int)≤6;omega,n0:=by omega,fin:=by rw[n0];show((List.replicate (n+2) false).set n true).length=_;simp,s0:=Int.le_refl _,s1:=by rw[n0];show(0:Int)<_;omega,len:=?_,ok:=?_},by omega⟩
 ·intro r hr
  obtain⟨s,_,rfl⟩:=List.mem_map.1 (show r∈(List.range (n+2)).map _ from hr)
  show((List.range (2^v)).map _).length=2^((v:Int).toNat)
  simp
 ·intro r hr x hx
  rw[n0]
  obtain⟨s,hs,rfl⟩:=List.mem_map.1 (show r∈(List.range (n+2)).map _ from hr)
  obtain⟨y,_,rfl⟩:=List.mem_map.1 (show x∈(List.range (2^v)).map _ from hx)
  unfold Qp
  split<;>omega
theorem TJ {v n:Nat} {h:Nat→Bool} {s x:Nat} (hs:s<n+2) (hx:x<2^v):fm (Ey v n h) s x=if s<n∧h x=true then s+1 else n+1:=by
 have h1:(Ey v n h).next[s]? =some (vk (2^v) n h s):=by show((List.range (n+2)).map _)[s]? =_;rw[bq,List.getElem?_range hs];rfl
 have h2:(vk (2^v) n h s)[x]? =some (Qp n h s x):=by unfold vk;rw[bq,List.getElem?_range hx];rfl
 unfold fm
 simp only[av,h1,Option.getD_some,h2]
 unfold Qp
 split<;>exact Int.toNat_natCast _
theorem Bc {v n:Nat} {h:Nat→Bool}: ∀(u:List Nat) (s:Nat),s≤n+1→(∀x∈u,x<2^v)→runN (Ey v n h) s u=if s+u.length≤n∧u.all h=true then s+u.length else if u=[]then s else n+1
 | [],s,hs,_=>by
  simp only[bV,Nat.add_zero,List.all_nil]
  show s=_
  split<;>rfl
 |x::u,s,hs,hu=>by
  have YT: ∀y∈u,y<2^v:=fun y hy=>hu y (by simp[hy])
  unfold runN
  rw[cS,TJ (by omega) (hu x (by simp))]
  by_cases hh:s<n∧h x=true
  ·rw[aO hh]
   have h1:=Bc (h:=h) (n:=n) u (s+1) (by omega) YT
   unfold runN at h1
   rw[h1]
   simp only[bo,List.all_cons,hh.2,Bool.true_and,reduceCtorEq,if_false]
   have e:s+1+u.length=s+(u.length+1):=by omega
   rw[e]
   by_cases M6:u=[]
   ·subst M6
    simp only[bV,List.all_nil,Nat.zero_add]
    rw[aO ⟨by omega,trivial⟩,aO ⟨by omega,trivial⟩]
   ·rw[az M6]
  ·rw[az hh]
   have h1:=Bc (h:=h) (n:=n) u (n+1) (by omega) YT
   unfold runN at h1
   rw[h1]
   simp only[bo,List.all_cons,reduceCtorEq,if_false]
   rw[az (show¬(n+1+u.length≤n∧u.all h=true)from fun h9=>by omega),az (show¬(s+(u.length+1)≤n∧(h x&&u.all h)=true)from fun h9=>hh ⟨by omega,(Bool.and_eq_true_iff.1 h9.2).1⟩)]
   split<;>rfl
theorem wg {v n:Nat} (h:Nat→Bool) (hv:v≤6) (hn:n≤1):HasL (v:Int) 3 (Ey v n h) (DN n h):=by
 have n0:(Ey v n h).next.length=n+2:=by show((List.range (n+2)).map _).length=_;simp
 refine⟨H7 h hv hn,by omega,F,fun u hu=>?_⟩
 have YT: ∀x∈u,x<2^v:=fun x hx=>by simpa using hu x hx
 unfold iM dr DN
 show((List.replicate (n+2) false).set n true).getD (runN (Ey v n h) 0 u) false=_
 rw[Bc u 0 (by omega) YT,Nat.zero_add]
 have hf: ∀k,k≤n+1→((List.replicate (n+2) false).set n true).getD k false=decide (k=n):=fun k hk=>by
  rw[av]
  by_cases e:k=n
  ·subst e;rw[List.getElem?_set_self (by simp)];simp
  ·rw[List.getElem?_set_ne (fun h=>e h.symm),List.getElem?_replicate];simp[e];split<;>rfl
 by_cases c1:u.length≤n∧u.all h=true
 ·rw[aO c1,hf _ (by omega),c1.2,Bool.and_true]
  by_cases e:u.length=n<;>simp[e]
 ·rw[az c1]
  by_cases e:u=[]
  ·subst e;exact absurd ⟨by simp,by simp⟩ c1
  ·rw[az e,hf _ (by omega)]
   rw[ak (by omega)]
   symm
   rw[Bool.and_eq_false_iff]
   by_cases e2:u.length=n
   ·exact .inr (by cases h9:u.all h with|false=>rfl|true=>exact absurd ⟨by omega,h9⟩ c1)
   ·exact .inl (by simp[e2])
theorem fN {v:Nat} (hv:v≤6):HasL (v:Int) 1 (fJ (v:Int) true) (fun _=>true):=
 ⟨wE (by omega) (by omega) true,by show[_].length≤1;simp,F,fun w hw=>I0 (by omega) (by omega) true hw⟩
end Go.Lx

namespace Go.Lx
open Go.RowKit
inductive Rx where
 |none|empty
 |letter (p n:Nat)
 |gZ (a b:Rx)|iv (a b:Rx)|and (a b:Rx)
 |not (a:Rx)|star (a:Rx)|ahead (a:Rx)|behind (a:Rx)
structure dK where
 op:Nat
 p:Nat
 n:Nat
 a:Int
 b:Int
def dK.cells (x:dK):List Value:=[.int .u8 (x.op:Int),.int .u8 (x.p:Int),.int .u8 (x.n:Int),.int .i64 x.a,.int .i64 x.b]
abbrev dK.cl (x:dK):List Value:=[.int .u8 (x.op:Int),.int .u8 (x.p:Int),.int .u8 (x.n:Int),.int .i64 x.a,.int .i64 x.b]
abbrev dK.ag (x:dK):Value:=.agg #[.int .u8 (x.op:Int),.int .u8 (x.p:Int),.int .u8 (x.n:Int),.int .i64 x.a,.int .i64 x.b]
def bt (e:List dK):List Value:=e.flatMap dK.cells
theorem bY (e:List dK):(bt e).length=e.length*5:=by
 induction e with
 |nil=>rfl
 |cons x e ih=>simp only[bt,List.flatMap_cons,aw,bo]at ih⊢;rw[ih];simp[dK.cells];omega
theorem lK {e:List dK}: ∀ {i:Nat} (hi:i<e.length) (j:Nat) (h:j<e[i].cells.length),(bt e)[i*5+j]? =some e[i].cells[j]:=by
 induction e with
 |nil=>intro i hi;simp at hi
 |cons x e ih=>
  intro i hi j hj
  simp only[bt,List.flatMap_cons]
  cases i with
  |zero=>rw[Nat.zero_mul,Nat.zero_add,bH (show j<x.cells.length from hj)];exact ap hj
  |succ i=>
   have h5:x.cells.length=5:=rfl
   rw[bT (by rw[h5];omega),show(i+1)*5+j-x.cells.length=i*5+j by rw[h5];omega]
   exact ih (by simpa using hi) j hj
def re (e:List dK):Rx→Nat→Prop
 | .none,i=>e[i]? =some ⟨1,0,0,0,0⟩
 | .empty,i=>e[i]? =some ⟨2,0,0,0,0⟩
 | .letter p n,i=>e[i]? =some ⟨3,p,n,0,0⟩∧p<256∧n<256
 | .gZ a b,i=> ∃j k:Nat,e[i]? =some ⟨4,0,0,(j:Int),(k:Int)⟩∧re e a j∧re e b k
 | .iv a b,i=> ∃j k:Nat,e[i]? =some ⟨5,0,0,(j:Int),(k:Int)⟩∧re e a j∧re e b k
 | .and a b,i=> ∃j k:Nat,e[i]? =some ⟨6,0,0,(j:Int),(k:Int)⟩∧re e a j∧re e b k
 | .not a,i=> ∃j:Nat,e[i]? =some ⟨7,0,0,(j:Int),0⟩∧re e a j
 | .star a,i=> ∃j:Nat,e[i]? =some ⟨8,0,0,(j:Int),0⟩∧re e a j
 | .ahead a,i=> ∃j:Nat,e[i]? =some ⟨9,0,0,(j:Int),0⟩∧re e a j
 | .behind a,i=> ∃j:Nat,e[i]? =some ⟨10,0,0,(j:Int),0⟩∧re e a j
theorem iK {e:List dK} {i:Nat} {x:dK} (h:e[i]? =some x): ∃hi:i<e.length,e[i]=x:=by
 obtain⟨hi,h⟩:=List.getElem?_eq_some_iff.1 h;exact⟨hi,h⟩
def Rx.plain:Rx→Bool
 | .ahead _| .behind _=>false
 | .gZ a b| .iv a b| .and a b=>a.plain&&b.plain
 | .not a| .star a=>a.plain
 |_=>true
def gB:Rx→Lg
 | .none=>fun _=>false
 | .empty=>DN 0 (gO 0 0)
 | .letter p n=>DN 1 (gO p n)
 | .gZ a b=>je (gB a) (gB b)
 | .iv a b=>fun u=>gB a u||gB b u
 | .and a b=>fun u=>gB a u&&gB b u
 | .not a=>fun u=>!gB a u
 | .star a=>pK (gB a)
 | .ahead a=>gB a
 | .behind a=>gB a
instance:Nonempty cU:=⟨DH⟩
noncomputable def minOf (v:Nat) (p:Lg):cU:=Classical.epsilon fun M=>fM (v:Int) 4096 M p
theorem gX {v B:Nat} {M:cU} {p:Lg} (h:fM (v:Int) B M p) (hB:B≤4096):M=minOf v p:=by
 have h2:fM (v:Int) 4096 M p:=⟨h.toHasL.le (cn h.len hB),h.min⟩
 have h3:=Classical.epsilon_spec (p:=fun M=>fM (v:Int) 4096 M p) ⟨M,h2⟩
 exact fM.ext h2 h3 fun _ _=>rfl
def XJ (f:Bool→Bool→Bool) (a b:cU) (B:Nat):Prop:=(order (bI f a b)).length≤4096∧(ud f a b).next.length≤B
def kQ (v:Nat):Rx→Nat→Prop
 | .none,B=>(n8 (fJ (v:Int) true)).next.length≤B
 | .empty,B=>(js (Ey v 0 (gO 0 0))).next.length≤B
 | .letter p n,B=>(js (Ey v 1 (gO p n))).next.length≤B
 | .gZ a b,B=>kQ v a B∧kQ v b B∧AS (minOf v (gB a)) (minOf v (gB b)) (eh (minOf v (gB a))) B
 | .iv a b,B=>kQ v a B∧kQ v b B∧XJ DT (minOf v (gB a)) (minOf v (gB b)) B
 | .and a b,B=>kQ v a B∧kQ v b B∧XJ rV (minOf v (gB a)) (minOf v (gB b)) B
 | .not a,B=>kQ v a B∧(n8 (minOf v (gB a))).next.length≤B
 | .star a,B=>kQ v a B∧Ew (minOf v (gB a)) (eh (minOf v (gB a))) B
 | .ahead a,B=>kQ v a B
 | .behind a,B=>kQ v a B
theorem notM {v:Int} {B C:Nat} {M:cU} {p:Lg} (h:HasL v B M p) (hl:(n8 M).next.length≤C):fM v C (n8 M) (fun u=>!p u):=by
 have hv:=h.valid.toVal
 have h1:=wN (f:=pW) h h (N:=M.next.length) (pX hv hv F hv F (Ng.refl M) (Ng.refl M)) h.valid.n4
 exact⟨h1.toHasL.le hl,h1.min⟩
theorem KM {v B:Nat} (hv:v≤6) (hl:(n8 (fJ (v:Int) true)).next.length≤B):fM (v:Int) B (n8 (fJ (v:Int) true)) (gB .none):=notM (fN hv) hl
theorem YH {f:Bool→Bool→Bool} {v:Int} {B C:Nat} {a b:cU} {p q:Lg} (ha:fM v B a p) (hb:fM v B b q) (ho:(order (bI f a b)).length≤4096) (hl:(ud f a b).next.length≤C):fM v C (ud f a b) (fun u=>f (p u) (q u)):=by
 have h1:=wN (f:=f) ha.toHasL hb.toHasL ho (bF _)
 exact⟨h1.toHasL.le hl,h1.min⟩
theorem kO.take {v:Int} {w:List Nat} (h:kO v w) (n:Nat):kO v (w.take n):=fun x hx=>h x (List.mem_of_mem_take hx)
theorem kO.drop {v:Int} {w:List Nat} (h:kO v w) (n:Nat):kO v (w.drop n):=fun x hx=>h x (List.mem_of_mem_drop hx)
theorem xU {α:Type} {l:List α} {f g:α→Bool} (h: ∀x∈l,f x=g x):l.any f=l.any g:=by
 induction l with
 |nil=>rfl
 |cons x l ih=>rw[List.any_cons,List.any_cons,h x (by simp),ih fun y hy=>h y (by simp[hy])]
theorem pv {v:Int} {p q p' q':Lg} (hp: ∀w,kO v w→p w=p' w) (hq: ∀w,kO v w→q w=q' w) {w:List Nat} (hw:kO v w):je p q w=je p' q' w:=
 xU fun i _=>by rw[hp _ (hw.take i),hq _ (hw.drop i)]
theorem vw {v:Int} {p p':Lg} (hp: ∀w,kO v w→p w=p' w): ∀(n:Nat) {w:List Nat},kO v w→xR p n w=xR p' n w
 |0,w,_=>rfl
 |n+1,w,hw=>by
  show(w.isEmpty||_)=(w.isEmpty||_)
  congr 1
  exact xU fun i _=>by rw[hp _ (hw.take _),vw hp n (hw.drop _)]
theorem vl {v:Int} {p p':Lg} (hp: ∀w,kO v w→p w=p' w) {w:List Nat} (hw:kO v w):pK p w=pK p' w:=vw hp _ hw
theorem fM.to {v:Int} {B:Nat} {M:cU} {p q:Lg} (h:fM v B M p) (hq: ∀w,kO v w→p w=q w):fM v B M q:=
 ⟨⟨h.valid,h.len,h.vars,fun u hu=>by rw[h.iM u hu];exact hq u hu⟩,h.min⟩
theorem fy {e:List dK} {i:Nat} {x:dK} (h:e[i]? =some x): ∀j (hj:j<x.cells.length),(bt e)[i*5+j]? =some x.cells[j]:=fun j hj=>by
 obtain⟨hi,rfl⟩:=iK h
 exact lK hi j hj
end Go.Lx

namespace Go.Lx
open Go.RowKit Go.ChangeShapes Go.WideShapes Go.Deep
section
variable {H:Type} {enc:TypeId×Value→H} {P:Program}
theorem No {te e ti tu:TypeId} {f0 f1 f2 f3 f4:Field} {W:World} {r:Reach} {b0:Nat} {v:Value} {d:DataW H} {p:List MemPlace} (ht:P.underlying te=some (.slice e)) (he:P.underlying e=some (.struct #[f0,f1,f2,f3,f4])) (ce:P.cellsOf e=5) (be:0<P.bytesOf e)
  (h0:f0.type=tu) (h1:f1.type=tu) (h2:f2.type=tu) (h3:f3.type=ti) (h4:f4.type=ti) (o0:f0.offset=0) (o1:f1.offset=1) (o2:f2.offset=2) (o3:f3.offset=3) (o4:f4.offset=4)
  (hi:P.underlying ti=some (.int .i64)) (hu:P.underlying tu=some (.int .u8)) (ci:P.cellsOf ti=1) (cu:P.cellsOf tu=1)
  (mA:Value.okWide P W r b0 te v) (hw: ∀m∈d.weights P te,m≤reachBytes) (g:DataW.Trod enc P W 0 (fun _=>true) true te v d p):
  ∃(b:Option Addr) (cp:Nat) (es:List dK),v=.slice b es.length cp∧es.length≤reachBytes∧es.length≤cp∧Sl W b (bt es)∧ ∀x∈es,x.p<256∧x.n<256:=by
 obtain⟨gq,g⟩:=g
 have hv:v.cells.toList=[v]:=by
  unfold Value.okWide at mA
  rw[ht]at mA
  simp only at mA
  unfold Cell.okWide Cell.ok at mA
  rw[ht]at mA
  cases v<;>simp_all[Value.cells]
 rw[hv]at g
 rcases open_slice ht g with⟨h,_⟩|⟨a,len,cap,m,n,D,Pl,h,_,hl,_,hm,hx,mX⟩
 ·exact⟨none,0,[],by simpa using h,bn _,bn _,Sl.nil _ _,fun e h=>by cases h⟩
 ·simp only[if_true]at hm
  have Y_:=hm.symm
  subst Y_
  have hd:d=_:=ax Prod.fst hx
  rw[hd]at hw
  have hb:=(u3 ht be hw).1
  have yi:len≤reachBytes:=by simpa using hb
  have each: ∀i,i<cap→ ∃q:dK,(q.p<256∧q.n<256)∧ ∀j,j<5→W.cell? (a.add (i*5+j))=q.cells[j]? :=by
   intro i Ji
   obtain⟨As,k1,k2⟩:=mX i Ji
   rw[ce]at k1
   obtain⟨_,iA,Jh⟩:=World.cells?_some k1
   obtain⟨xs,k,hk,hxy,_,yY,hf⟩:=DataW.trod_struct he k2
   match xs,yY,As,iA with
   | [y0,y1,y2,y3,y4],_,[v0,v1,v2,v3,v4],_=>
    have g0:=hf 0 f0 F
    have g1:=hf 1 f1 F
    have g2:=hf 2 f2 F
    have g3:=hf 3 f3 F
    have g4:=hf 4 f4 F
    rw[h0,o0,cu]at g0
    rw[h1,o1,cu]at g1
    rw[h2,o2,cu]at g2
    rw[h3,o3,ci]at g3
    rw[h4,o4,ci]at g4
    obtain⟨n0,e0,_,w0⟩:=DataW.trod_int hu g0
    obtain⟨n1,e1,_,w1⟩:=DataW.trod_int hu g1
    obtain⟨n2,e2,_,w2⟩:=DataW.trod_int hu g2
    obtain⟨n3,e3,_,w3⟩:=DataW.trod_int hi g3
    obtain⟨n4,e4,_,w4⟩:=DataW.trod_int hi g4
    have e0':v0=.int .u8 n0:=by simpa using e0
    have e1':v1=.int .u8 n1:=by simpa using e1
    have e2':v2=.int .u8 n2:=by simpa using e2
    have e3':v3=.int .i64 n3:=by simpa using e3
    have e4':v4=.int .i64 n4:=by simpa using e4
    subst e0' e1' e2' e3' e4'
    have b0:=Nn w0
    have b1:=Nn w1
    have b2:=Nn w2
    refine⟨⟨n0.toNat,n1.toNat,n2.toNat,n3,n4⟩,⟨by simp only;omega,by simp only;omega⟩,fun j hj=>?_⟩
    have q:=Jh j hj
    rw[add_add]at q
    rw[q]
    match j,hj with
    |0,_=>simp[dK.cells,cR b0.1]
    |1,_=>simp[dK.cells,cR b1.1]
    |2,_=>simp[dK.cells,cR b2.1]
    |3,_=>rfl
    |4,_=>rfl
  have:Inhabited dK:=⟨⟨0,0,0,0,0⟩⟩
  obtain⟨q,hq⟩:=choose_lt each
  refine⟨some a,cap,(List.range len).map q,by simpa using h,by simp;omega,by simp;omega,sV fun i Ji=>?_,fun e he9=>?_⟩
  ·have vE:i<len*5:=by rw[bY]at Ji;simpa using Ji
   have h4:=(hq (i/5) (by omega)).2 (i%5) (by omega)
   rw[show i/5*5+i%5=i by omega]at h4
   rw[h4]
   have h5:=lK (e:=(List.range len).map q) (i:=i/5) (by simp;omega) (i%5) (by simp[dK.cells];omega)
   rw[show i/5*5+i%5=i by omega,ap Ji]at h5
   rw[df h5]
   simp only[List.getElem_map,List.getElem_range]
   exact ap _
  ·obtain⟨j,hj,rfl⟩:=List.mem_map.1 he9
   exact(hq j (by have:=List.mem_range.1 hj;omega)).1
end
end Go.Lx

namespace Go.Proofs.YtgdbfideeeegmaaGreatDoor
open Go.ChangeShapes Go.WideShapes Go.ChangeAt Go.RowKit Go.Lx _root_.Go.Proofs.Tryz
set_option maxRecDepth 100000
theorem own:ownKnob Tryz.prog.godebug=none:=by kernel_rfl
theorem laidOut:laidOutB Tryz.prog=true:=by kernel_rfl
theorem Rc:Tryz.prog.readableRec 3=true:=by kernel_rfl
theorem lt3:3<Tryz.prog.types.size:=of_decide_eq_true (by kernel_rfl)
theorem Nj:Tryz.prog.readableRec 43=true:=by kernel_rfl
theorem Y6:43<Tryz.prog.types.size:=of_decide_eq_true (by kernel_rfl)
theorem FU:Tryz.prog.cellsOf 5=1:=by kernel_rfl
theorem N7:0<Tryz.prog.bytesOf 5:=of_decide_eq_true (by kernel_rfl)
theorem N8:Tryz.prog.cellsOf 3=1:=by kernel_rfl
theorem Ni:Tryz.prog.readableRec 32=true:=by kernel_rfl
theorem Y5:32<Tryz.prog.types.size:=of_decide_eq_true (by kernel_rfl)
theorem N_:Tryz.prog.cellsOf 72=5:=by kernel_rfl
theorem Oa:0<Tryz.prog.bytesOf 72:=of_decide_eq_true (by kernel_rfl)
theorem Y4 {n:Nat} (h:n≤reachBytes):n<4611686018427387904:=jL h (by decide)
theorem Rb {H:Type} {enc:TypeId×Value→H} {W:World} {r:Reach} {base:Nat} {v:Value} {d:DataW H} {p:List MemPlace} (mA:Value.okWide Tryz.prog W r base 32 v) (hw: ∀m∈d.weights Tryz.prog 32,m≤reachBytes) (h:DataW.Trod enc Tryz.prog W 0 (fun _=>true) true 32 v d p):
  ∃(b:Option Addr) (cp:Nat) (es:List dK),v=.slice b es.length cp∧es.length≤reachBytes∧es.length≤cp∧Sl W b (bt es)∧ ∀x∈es,x.p<256∧x.n<256:=
 No underlying32 underlying72 N_ Oa F F F F F F F F F F underlying3 underlying5 N8 FU mA hw h
def Kb (cs:Array Value):Obj→Obj
 | .cells _ t frozen=>.cells cs t frozen
 |o=>o
theorem UL {H:Type} {enc:TypeId×Value→H} {W:World} {r:Reach} {base:Nat} {v:Value} {d:DataW H} {p:List MemPlace} (mA:Value.okWide Tryz.prog W r base 43 v) (hw: ∀m∈d.weights Tryz.prog 43,m≤reachBytes) (h:DataW.Trod enc Tryz.prog W 0 (fun _=>true) true 43 v d p):
  ∃(l:List Nat) (b:Option Addr) (c:Nat),v=.slice b l.length c∧(Sl W b (p7 l)∧ ∀x∈l,x<256)∧l.length≤reachBytes:=
 He underlying43 underlying5 FU N7 mA hw h
noncomputable def uh (os:Os):World:=
 {World.holding Tryz.prog os ⟨#[],#[],[]⟩with heap:=((((World.holding Tryz.prog os ⟨#[],#[],[]⟩).heap.modify 0 (Kb #[.int .u64 1,.int .u64 10,.int .u64 100,.int .u64 1000,.int .u64 10000,.int .u64 100000,.int .u64 1000000,.int .u64 10000000,.int .u64 100000000,.int .u64 1000000000,.int .u64 10000000000,.int .u64 100000000000,.int .u64 1000000000000,.int .u64 10000000000000,.int .u64 100000000000000,.int .u64 1000000000000000,.int .u64 10000000000000000,.int .u64 100000000000000000,.int .u64 1000000000000000000,.int .u64 10000000000000000000])).modify 1 (Kb #[.int .u8 0,.int .u8 1,.int .u8 28,.int .u8 2,.int .u8 29,.int .u8 14,.int .u8 24,.int .u8 3,.int .u8 30,.int .u8 22,.int .u8 20,.int .u8 15,.int .u8 25,.int .u8 17,.int .u8 4,.int .u8 8,.int .u8 31,.int .u8 27,.int .u8 13,.int .u8 23,.int .u8 21,.int .u8 19,.int .u8 16,.int .u8 7,.int .u8 26,.int .u8 12,.int .u8 18,.int .u8 6,.int .u8 11,.int .u8 5,.int .u8 10,.int .u8 9])).modify 2 (Kb #[.int .u8 0,.int .u8 1,.int .u8 56,.int .u8 2,.int .u8 57,.int .u8 49,.int .u8 28,.int .u8 3,.int .u8 61,.int .u8 58,.int .u8 42,.int .u8 50,.int .u8 38,.int .u8 29,.int .u8 17,.int .u8 4,.int .u8 62,.int .u8 47,.int .u8 59,.int .u8 36,.int .u8 45,.int .u8 43,.int .u8 51,.int .u8 22,.int .u8 53,.int .u8 39,.int .u8 33,.int .u8 30,.int .u8 24,.int .u8 18,.int .u8 12,.int .u8 5,.int .u8 63,.int .u8 55,.int .u8 48,.int .u8 27,.int .u8 60,.int .u8 41,.int .u8 37,.int .u8 16,.int .u8 46,.int .u8 35,.int .u8 44,.int .u8 21,.int .u8 52,.int .u8 32,.int .u8 23,.int .u8 11,.int .u8 54,.int .u8 26,.int .u8 40,.int .u8 15,.int .u8 34,.int .u8 20,.int .u8 31,.int .u8 10,.int .u8 25,.int .u8 14,.int .u8 19,.int .u8 9,.int .u8 13,.int .u8 8,.int .u8 7,.int .u8 6]))}
theorem UM {W:World} (hL:laidMetH Tryz.prog [("math/bits.deBruijn32tab",Rows.laid_math_bits_deBruijn32tab),("math/bits.deBruijn64tab",Rows.laid_math_bits_deBruijn64tab),("internal/strconv.uint64pow10",Rows.laid_internal_strconv_uint64pow10)] W):dE Tryz.prog W:=by
 have h:laidMet Tryz.prog [("math/bits.deBruijn32tab",Rows.laid_math_bits_deBruijn32tab),("math/bits.deBruijn64tab",Rows.laid_math_bits_deBruijn64tab),("internal/strconv.uint64pow10",Rows.laid_internal_strconv_uint64pow10)] W:=hL
 obtain⟨ps,h,_⟩:=h
 have hz:=h
 obtain⟨_,h⟩:=nX h
 obtain⟨_,h⟩:=nX h
 obtain⟨_,hz⟩:=nX hz
 exact dE.of (rJ (g:=0) (t:=282) (e:=256) (n:=20) (by kernel_rfl) (by kernel_rfl) (by kernel_rfl) underlying282 underlying256 (by kernel_rfl) (by kernel_rfl) h) (.inr (rJ (g:=2) (t:=298) (e:=5) (n:=64) (by kernel_rfl) (by kernel_rfl) (by kernel_rfl) underlying298 underlying5 (by kernel_rfl) (by kernel_rfl) hz))
end Go.Proofs.YtgdbfideeeegmaaGreatDoor

namespace Go.Lx
open Go.RowKit
theorem iC {P:Program} {r:Option Nat} {base:World} {n:Nat} {c:Code} {Q:kP} {ρ:Env} {O:List Item} (O':List Item) (L:List (Nat×Value)) (e:O=O') (h:dv L ρ) (k: ∀gF,T P r base n c Q (BP L gF) O'):T P r base n c Q ρ O:=by
 obtain⟨gF,rfl⟩:=h.elim
 subst e
 exact k gF
theorem nJ {P:Program} {r:Option Nat} {base:World} {n m:Nat} {c:Code} {Q:kP} {ρ:Env} {O:List Item} (O':List Item) (L:List (Nat×Value)) (e:O=O') (h:dv L ρ) (k: ∀gF,PW P r base n c Q m (BP L gF) O'):PW P r base n c Q m ρ O:=by
 obtain⟨gF,rfl⟩:=h.elim
 subst e
 exact k gF
section
variable {P:Program} {base:World} {ρ:Env} {O:List Item} {dst:Option Nat} {t:TypeId} {p:String} {af:Array Edge} {g:Option (Nat×Bool)}
end
end Go.Lx

namespace Go.Lx
open Go.RowKit
structure Lf where
 op:Nat
 d:cU
 fo:List Nat
 la:Bool
instance:Inhabited Lf:=⟨⟨0,DH,[],false⟩⟩
abbrev Ob:=Nat×Nat
structure Cf where
 k:Int
 s:Nat
 o:List Ob
deriving DecidableEq
def sv (o:List Ob):List Int:=o.flatMap fun p=>[(p.1:Int),(p.2:Int)]
def Cf.nums (c:Cf):List Int:=c.k::(c.s:Int)::sv c.o
def Cf.key (c:Cf):Key:=iO c.nums
structure St where
 bh:List Nat
 cf:List Cf
def wk (x y:Key):Bool:=decide (x≤y)
def St.key (s:St):Key:=iO (s.bh.map fun y:Nat=>(y:Int))++((s.cf.map Cf.key).mergeSort wk).flatMap (fun k=>124::k)
theorem Gp: ∀ {o p:List Ob},sv o=sv p→o=p
 | [],[],_=>rfl
 | [],(a,b)::p,h=>by simp[sv]at h
 |(a,b)::o,[],h=>by simp[sv]at h
 |(a,b)::o,(c,d)::p,h=>by
  simp only[sv,List.flatMap_cons,cI,dn,List.cons.injEq]at h
  rw[Gp (o:=o) (p:=p) h.2.2,show a=c by omega,show b=d by omega]
theorem LI {a b:Cf} (h:a.nums=b.nums):a=b:=by
 obtain⟨k,s,o⟩:=a
 obtain⟨k2,s2,o2⟩:=b
 simp only[Cf.nums,List.cons.injEq]at h
 obtain⟨h1,h2,h3⟩:=h
 rw[h1,show s=s2 by omega,Gp h3]
theorem KU (o:List Ob) (p:Ob):sv (o++[p])=sv o++[(p.1:Int),(p.2:Int)]:=by simp[sv]
theorem F7 (o:List Ob):(sv o).length=o.length*2:=by
 induction o with
 |nil=>rfl
 |cons p o ih=>simp only[sv,List.flatMap_cons,aw,bo,bV]at ih⊢;omega
section
variable (ls:List Lf)
abbrev lf (k:Nat):Lf:=ls.getD k default
def oH (o:List Ob) (x:Ob):List Ob:=if dr (lf ls x.1).d x.2=true then o else o++[x]
mutual
def fK:Nat→List Nat→Nat→List Ob→List Cf
 |0,_,_,_=>[]
 |f+1,bh,k,o=>
  if(lf ls k).op=9 then gy f bh k (oH ls o (k,(lf ls k).d.start.toNat))
  else if(lf ls k).op=10 then(if dr (lf ls k).d (bh.getD k 0)=true then gy f bh k o else[])
  else⟨(k:Int),(lf ls k).d.start.toNat,o⟩::(if dr (lf ls k).d (lf ls k).d.start.toNat=true then gy f bh k o else[])
def gy:Nat→List Nat→Nat→List Ob→List Cf
 |0,_,_,_=>[]
 |f+1,bh,k,o=>((lf ls k).fo.flatMap fun j=>fK f bh j o)++(if(lf ls k).la=true then[⟨-1,0,o⟩]else[])
end
def mh (o:List Ob) (x:Nat):List Ob:=o.foldl (fun o p=>oH ls o (p.1,fm (lf ls p.1).d p.2 x)) []
def iQ (bh:List Nat) (x:Nat) (c:Cf):List Cf:=
 if c.k<0 then[]else
  ⟨c.k,fm (lf ls c.k.toNat).d c.s x,mh ls c.o x⟩::(if dr (lf ls c.k.toNat).d (fm (lf ls c.k.toNat).d c.s x)=true then gy ls (2*ls.length) bh c.k.toNat (mh ls c.o x)else[])
def jv (bh:List Nat) (x:Nat):List Nat:=(List.range ls.length).map fun k=>if(lf ls k).op=10 then fm (lf ls k).d (bh.getD k 0) x else 0
def jo (first:List Nat):St:=⟨ls.map fun l=>l.d.start.toNat,(first.flatMap fun k=>fK ls (2*ls.length) (ls.map fun l=>l.d.start.toNat) k []).foldl add []⟩
def j9 (s:St) (x:Nat):St:=⟨jv ls s.bh x,(s.cf.flatMap (iQ ls (jv ls s.bh x) x)).foldl add []⟩
def pt (s:St):Bool:=s.cf.any fun c=>decide (c.k<0)&&c.o.isEmpty
structure iw (vs:Nat):Prop where
 len:ls.length≤12
 val: ∀l∈ls,Valid l.d
 vars: ∀l∈ls,l.d.vars=(vs:Int)
 op: ∀l∈ls,l.op=0∨l.op=9∨l.op=10
 fo: ∀k,k<ls.length→ ∀j∈(lf ls k).fo,k<j∧j<ls.length
 YL: ∀l∈ls,l.fo.length≤1000000
def fV (k:Nat) (o:List Ob):Prop:=o.Pairwise (fun p q=>p.1<q.1)∧ ∀p∈o,p.1<k∧p.2<(lf ls p.1).d.next.length
def jk (c:Cf):Prop:=(c.k= -1∧c.s=0∧fV ls ls.length c.o)∨ ∃k:Nat,c.k=(k:Int)∧k<ls.length∧c.s<(lf ls k).d.next.length∧fV ls k c.o
structure pO (bh:List Nat):Prop where
 len:bh.length=ls.length
 lt: ∀k,k<ls.length→bh.getD k 0<(lf ls k).d.next.length
structure ln (s:St):Prop where
 bh:pO ls s.bh
 nd:s.cf.Nodup
 cf: ∀c∈s.cf,jk ls c
def qy (K:Nat):Prop:= ∀l:List Cf,l.Nodup→(∀c∈l,jk ls c)→l.length≤K
variable {ls}
theorem ky {k:Nat} (h:k<ls.length):lf ls k∈ls:=by
 unfold lf;rw[av,ap h];exact aQ h
theorem uC {k:Nat} (h:k<ls.length):lf ls k=ls[k]:=by
 unfold lf;rw[av,ap h];rfl
theorem iw.kg {vs:Nat} (h:iw ls vs) {k:Nat} (hk:k<ls.length):Valid (lf ls k).d:=h.val _ (ky hk)
theorem fV.nil {k:Nat}:fV ls k []:=⟨List.Pairwise.nil,fun p hp=>by simp at hp⟩
theorem fV.mono {k m:Nat} {o:List Ob} (h:fV ls k o) (hm:k≤m):fV ls m o:=⟨h.1,fun p hp=>⟨by have:=(h.2 p hp).1;omega,(h.2 p hp).2⟩⟩
theorem TN: ∀ {o:List Ob} {k:Nat},o.Pairwise (fun p q=>p.1<q.1)→(∀p∈o,p.1<k)→o.length≤k:=fun {o k} h1 h2=>by
 have h3:(o.map Prod.fst).Nodup:=by
  rw[List.nodup_iff_pairwise_ne]
  exact List.pairwise_map.2 (h1.imp fun h=>Nat.ne_of_lt h)
 have:=eT h3 (n:=k) fun x hx=>by obtain⟨p,hp,rfl⟩:=List.mem_map.1 hx;exact h2 p hp
 simpa using this
theorem fV.len {k:Nat} {o:List Ob} (h:fV ls k o):o.length≤k:=TN h.1 fun p hp=>(h.2 p hp).1
theorem uB {k:Nat} {o:List Ob} {x:Ob} (h:fV ls k o) (hk:k≤x.1) (hx:x.2<(lf ls x.1).d.next.length):fV ls (x.1+1) (oH ls o x):=by
 unfold oH
 split
 ·exact h.mono (by omega)
 ·refine⟨List.pairwise_append.2 ⟨h.1,List.pairwise_singleton _ _,fun p hp q hq=>?_⟩,fun p hp=>?_⟩
  ·rw[List.mem_singleton.1 hq];exact eQ (h.2 p hp).1 hk
  ·rcases List.mem_append.1 hp with hp|hp
   ·exact⟨by have:=(h.2 p hp).1;omega,(h.2 p hp).2⟩
   ·rw[List.mem_singleton.1 hp];exact⟨by omega,hx⟩
theorem uD {vs:Nat} (hG:iw ls vs) {x:Nat} (hx:x<2^vs): ∀ {o o1:List Ob} {m k:Nat},k≤ls.length→fV ls m o1→o.Pairwise (fun p q=>p.1<q.1)→(∀p∈o,m≤p.1∧p.1<k∧p.2<(lf ls p.1).d.next.length)→m≤k→fV ls k (o.foldl (fun o p=>oH ls o (p.1,fm (lf ls p.1).d p.2 x)) o1)
 | [],o1,m,k,_,h1,_,_,hm=>h1.mono hm
 |p::o,o1,m,k,hk,h1,h2,h3,hm=>by
  rw[cS]
  have hp:=h3 p (by simp)
  have CV:p.1<ls.length:=by omega
  have tH:fm (lf ls p.1).d p.2 x<(lf ls p.1).d.next.length:=((hG.kg CV).toVal.gY hp.2.2 (by rw[hG.vars _ (ky CV)];exact hx)).1
  have h4:=uB (x:=(p.1,fm (lf ls p.1).d p.2 x)) h1 hp.1 tH
  refine uD hG hx hk h4 (List.pairwise_cons.1 h2).2 (fun q hq=>?_) (by show p.1+1≤k;omega)
  have:=(List.pairwise_cons.1 h2).1 q hq
  have h5:=h3 q (by simp[hq])
  exact⟨by show p.1+1≤q.1;omega,h5.2⟩
theorem xI {vs:Nat} (hG:iw ls vs) {x:Nat} (hx:x<2^vs) {k:Nat} {o:List Ob} (hk:k≤ls.length) (h:fV ls k o):fV ls k (mh ls o x):=
 uD hG hx hk (m:=0) .nil h.1 (fun p hp=>⟨bn _,h.2 p hp⟩) (bn _)
mutual
theorem vv {vs:Nat} (hG:iw ls vs) {bh:List Nat}: ∀(f:Nat) {k:Nat} {o:List Ob},k<ls.length→fV ls k o→ ∀c∈fK ls f bh k o,jk ls c
 |0,k,o,_,_,c,hc=>by simp[fK]at hc
 |f+1,k,o,hk,ho,c,hc=>by
  have hs:=eE (hG.kg hk).toVal
  have hko:fV ls (k+1) o:=ho.mono (by omega)
  unfold fK at hc
  split at hc
  ·exact nQ hG f hk (uB (x:=(k,_)) ho (bF _) hs) c hc
  ·split at hc
   ·split at hc
    ·exact nQ hG f hk hko c hc
    ·simp at hc
   ·rcases List.mem_cons.1 hc with rfl|hc
    ·exact .inr ⟨k,F,hk,hs,ho⟩
    ·split at hc
     ·exact nQ hG f hk hko c hc
     ·simp at hc
theorem nQ {vs:Nat} (hG:iw ls vs) {bh:List Nat}: ∀(f:Nat) {k:Nat} {o:List Ob},k<ls.length→fV ls (k+1) o→ ∀c∈gy ls f bh k o,jk ls c
 |0,k,o,_,_,c,hc=>by simp[gy]at hc
 |f+1,k,o,hk,ho,c,hc=>by
  unfold gy at hc
  rcases List.mem_append.1 hc with hc|hc
  ·obtain⟨j,hj,hc⟩:=List.mem_flatMap.1 hc
   have:=hG.fo k hk j hj
   exact vv hG f this.2 (ho.mono (by omega)) c hc
  ·split at hc
   ·rw[List.mem_singleton.1 hc];exact .inl ⟨F,F,ho.mono (by omega)⟩
   ·simp at hc
end
theorem pB: ∀(l ks:List Cf),ks.Nodup→(l.foldl add ks).Nodup
 | [],ks,h=>h
 |k::l,ks,h=>pB l _ (mT h)
theorem qM {vs:Nat} (hG:iw ls vs):pO ls (ls.map fun l=>l.d.start.toNat):=
 ⟨by simp,fun k hk=>by rw[av,bq,ap hk];rw[uC hk];exact eE (hG.val _ (aQ hk)).toVal⟩
theorem xH {vs:Nat} (hG:iw ls vs) {bh:List Nat} (hb:pO ls bh) {x:Nat} (hx:x<2^vs):pO ls (jv ls bh x):=
 ⟨by simp[jv],fun k hk=>by
  unfold jv
  rw[av,bq,List.getElem?_range hk]
  show(if _ then _ else _)<_
  split
  ·exact((hG.kg hk).toVal.gY (hb.lt k hk) (by rw[hG.vars _ (ky hk)];exact hx)).1
  ·exact(hG.kg hk).n0⟩
theorem sA {vs:Nat} (hG:iw ls vs) {first:List Nat} (hf: ∀k∈first,k<ls.length):ln ls (jo ls first):=by
 refine⟨qM hG,pB _ _ List.nodup_nil,fun c hc=>?_⟩
 rcases(eC _ _).1 hc with hc|hc
 ·simp at hc
 ·obtain⟨k,hk,hc⟩:=List.mem_flatMap.1 hc
  exact vv hG _ (hf k hk) .nil c hc
theorem xT {vs:Nat} (hG:iw ls vs) {bh:List Nat} {x:Nat} (hx:x<2^vs) {c:Cf} (h:jk ls c): ∀d∈iQ ls bh x c,jk ls d:=fun d hd=>by
 rcases h with⟨h1,_,_⟩|⟨k,h1,hk,hs,ho⟩
 ·unfold iQ at hd;rw[aO (by omega)]at hd;simp at hd
 ·unfold iQ at hd
  rw[az (by omega),h1]at hd
  have rG:=xI hG hx (Nat.le_of_lt hk) ho
  have tH:fm (lf ls k).d c.s x<(lf ls k).d.next.length:=((hG.kg hk).toVal.gY hs (by rw[hG.vars _ (ky hk)];exact hx)).1
  rcases List.mem_cons.1 hd with rfl|hd
  ·exact .inr ⟨k,F,hk,tH,rG⟩
  ·split at hd
   ·exact nQ hG _ hk (rG.mono (by omega)) d hd
   ·simp at hd
theorem rj {vs:Nat} (hG:iw ls vs) {s:St} (h:ln ls s) {x:Nat} (hx:x<2^vs):ln ls (j9 ls s x):=by
 refine⟨xH hG h.bh hx,pB _ _ List.nodup_nil,fun c hc=>?_⟩
 rcases(eC _ _).1 hc with hc|hc
 ·simp at hc
 ·obtain⟨y,hy,hc⟩:=List.mem_flatMap.1 hc
  exact xT hG hx (h.cf y hy) c hc
theorem fV.num {vs:Nat} (hG:iw ls vs) {k:Nat} {o:List Ob} (hk:k≤ls.length) (h:fV ls k o): ∀n∈sv o,mH n:=fun n hn=>by
 obtain⟨p,hp,hn⟩:=List.mem_flatMap.1 hn
 have h1:=h.2 p hp
 have:=hG.len;have:=(hG.kg (show p.1<ls.length by omega)).n4
 simp only[dh,List.not_mem_nil,or_false]at hn
 rcases hn with rfl|rfl<;>exact .inr ⟨by omega,by omega⟩
theorem jk.num {vs:Nat} (hG:iw ls vs) {c:Cf} (h:jk ls c): ∀n∈c.nums,mH n:=fun n hn=>by
 have:=hG.len
 unfold Cf.nums at hn
 rcases h with⟨h1,h2,h3⟩|⟨k,h1,hk,h2,h3⟩
 ·rw[h1,h2]at hn
  rcases List.mem_cons.1 hn with rfl|hn
  ·exact .inl F
  ·rcases List.mem_cons.1 hn with rfl|hn
   ·exact .inr ⟨by omega,by omega⟩
   ·exact h3.num hG (bF _) n hn
 ·have:=(hG.kg hk).n4
  rw[h1]at hn
  rcases List.mem_cons.1 hn with rfl|hn
  ·exact .inr ⟨by omega,by omega⟩
  ·rcases List.mem_cons.1 hn with rfl|hn
   ·exact .inr ⟨by omega,by omega⟩
   ·exact h3.num hG (Nat.le_of_lt hk) n hn
theorem jk.SV {vs:Nat} (hG:iw ls vs) {c:Cf} (h:jk ls c):c.o.length≤64:=by
 have:=hG.len
 rcases h with⟨_,_,h3⟩|⟨k,_,hk,_,h3⟩
 ·have:=h3.len;omega
 ·have:=h3.len;omega
theorem key_inj {vs:Nat} (hG:iw ls vs) {c d:Cf} (hc:jk ls c) (hd:jk ls d) (h:c.key=d.key):c=d:=
 LI (xQ (hc.num hG) (hd.num hG) h)
end
end Go.Lx

namespace Go.Lx
open Go.RowKit
def dB (P:Program) (base:World) (tm:Value) (f:FuncId) (args:List Value) (O:List Item) (R:Value→List Item→Prop) (Z:Prop):Prop:=
 ∀w M,Inv base (O++M) w→Calls P f args.toArray w fun e w'=>(∃v O',e=.returned v∧Inv base (O'++M) w'∧R v O')∨(e=.panicked [{v:=tm,recovered:=false}]∧Inv base M w'∧Z)
theorem dB.mono {P:Program} {base:World} {tm:Value} {f:FuncId} {args:List Value} {O:List Item} {R R':Value→List Item→Prop} {Z Z':Prop} (h:dB P base tm f args O R Z) (hr: ∀v O',R v O'→R' v O') (hz:Z→Z'):dB P base tm f args O R' Z':=
 fun w M hI=>(h w M hI).mono fun _ _ h=>h.imp (fun⟨v,O',h1,h2,h3⟩=>⟨v,O',h1,h2,hr v O' h3⟩) (fun⟨h1,h2,h3⟩=>⟨h1,h2,hz h3⟩)
theorem dB.under {P:Program} {base:World} {tm:Value} {f:FuncId} {args:List Value} {A B O:List Item} {R:Value→List Item→Prop} {Z:Prop} (h:dB P base tm f args A R Z) (hs:Sub (A++B) O):dB P base tm f args O (fun v O'=> ∃A',O'=A'++B∧R v A') Z:=
 fun w M hI=>(h w (B++M) (by have:=hI.kn hs.pG;rwa[aI]at this)).mono fun _ _ h=>h.imp (fun⟨v,A',h1,h2,h3⟩=>⟨v,A'++B,h1,by rwa[aI],A',F,h3⟩) (fun⟨h1,h2,h3⟩=>⟨h1,h2.kn ⟨M,List.Perm.refl _,List.sublist_append_right B M⟩,h3⟩)
theorem dB.pure {P:Program} {base:World} {tm:Value} {f:FuncId} {args:List Value} {O:List Item} {R:Value→List Item→Prop} {Z:Prop} (h: ∀w,Inv base O w→dB P w tm f args [] R Z):dB P base tm f args O (fun v O'=> ∃N,O'=N++O∧R v N) Z:=
 fun w M hI=>(h w hI.left w [] (Inv.refl w)).mono fun _ _ h=>h.imp (fun⟨v,N,h1,h2,h3⟩=>⟨v,N++O,h1,by
  have:=hI.call h2
  simpa[aI]using this,N,F,h3⟩) (fun⟨h1,h2,h3⟩=>⟨h1,by
  have:=hI.call h2
  exact this.kn ⟨M,List.Perm.refl _,by simp⟩,h3⟩)
theorem bW.eX {P:Program} {base:World} {f:FuncId} {args:List Value} {O:List Item} {R:Value→List Item→Prop} (E:TypeId) (k:Nat) (h:bW P base f args (aq none 0 E k []::O) R):bW P base f args O R:=
 fun w M hI=>h w M (Inv.eX hI E k)
theorem Inv.j_ {base w:World} {O:List Item} (hI:Inv base O w) {b:Nat} {cs:List Value} {T:TypeId} (h:dF b (.cells cs.toArray T (0,0))∈O):Sl w (aD b) cs:=fun i hi=>by
 have hb:w.heap[b]? =some (.cells cs.toArray T (0,0)):=hI.holds _ h
 exact⟨⟨b,0,none⟩,F,F,by simp[World.cell?,hb,hi]⟩
theorem ep {P:Program} {base:World} {O:List Item} {fv:Value} {args:List Value} {R:Value→List Item→Prop} (h: ∀w,Inv base O w→eK P w fv args [] R):eK P base fv args O (fun v O'=> ∃N,O'=N++O∧R v N):=fun w M hI=>by
 have h1:=h w hI.left w [] (Inv.refl w)
 have key: ∀w' N,Inv w (N++[]) w'→Inv base (N++O++M) w':=fun w' N h2=>by
  have:=hI.call h2
  simpa[aI]using this
 revert h1
 cases(kX fv args.toArray).run P w with
 |halt e w=>exact id
 |ok y w=>
  cases y<;>first
   |exact id
   |exact fun h=>Calls.mono h fun _ _ ⟨v,N,h1,h2,h3⟩=>⟨v,N++O,h1,key _ N h2,N,F,h3⟩
   |exact fun h=>RoundIn.mono h fun _ _ ⟨v,N,h1,h2,h3⟩=>⟨v,N++O,h1,key _ N h2,N,F,h3⟩
section
variable {P:Program} {r:Option Nat} {base:World} {n:Nat} {Q:kP} {ρ:Env} {O S S2:List Item} {tail dp:List Nat} {ops:Array Oper} {K:Env→List Item→Prop} {X:PX}
def Ps (X:PX) (P:Program) (r:Option Nat) (base:World) (n:Nat) (o:Oper) (ρ:Env) (O:List Item) (K:Env→List Item→Prop):Prop:=
 ∀a w M ds,Ag n ds a ρ→Inv base (O++M) w→ ∀(next:Act→World→Prop) (Qx:Exit→Act→World→Prop),
  (∀a' gV O' w',Ag n ds a' gV→Inv base (O'++M) w'→K gV O'→next a' w')→(∀c w',X c→Inv base M w'→Qx (.panic c) a w')→o.wpIn (Fr r) 0 P a w next Qx
theorem eG {l:List Oper} {o:Oper} (hg:o.guard=none) (h:Ps X P r base n o ρ O (fun gV O'=>TO X P r base n ops l K gV O')):TO X P r base n ops (o::l) K ρ O:=
 fun Q a w M D hk ha hi=>wpListIn_plain hg fun next fp=>h a w _ _ ha hi next _ (fun a' _ _ w' h1 h2 h3=>fp a' w' (h3 Q a' w' M D hk h1 h2)) fun c w' hx hI=>⟨ρ,[],D,ha,hI,hk.2 c ρ hx⟩
theorem ye {gq:Nat} {listed:Array Bool} (i:Nat) {o:Oper} (hi:ops[i]? =some o) (hg:o.guard=none) (hr:Region.ready .any ops listed=[i])
  (h:Ps X P r base n o ρ O (fun gV O'=>(i∈tail∨Sub S O')∧(i∈dp∨Sub S2 O')∧RO X P r base n ops S tail S2 dp gq (listed.setIfInBounds i true) K gV O')):RO X P r base n ops S tail S2 dp (gq+1) listed K ρ O:=by
 intro Q a w M D hq hp ha hI n_ hS
 refine⟨fun h0=>(by rw[hr]at h0;cases h0),fun j hj=>?_⟩
 rw[hr]at hj
 obtain rfl:j=i:=by simpa using hj
 have y7:j∈Region.ready .any ops listed:=by rw[hr];simp
 have gn:j<listed.size:=by
  have:=(mem_ready.1 y7).1
  rcases Nat.lt_or_ge j listed.size with h'|h'
  ·exact h'
  ·simp[Array.getElem?_eq_none h']at this
 unfold wpOpIn
 simp only[hi]
 rw[aO (by simp[Region.wanted,hg])]
 refine h a w _ _ ha hI _ _ (fun a' gV O' w' h1 h2 h3=>?_) fun c w' hx hI=>⟨ρ,[],D,ha,hI,hp.pan c ρ hx⟩
 have rH: ∀(tl:List Nat) (Z:List Item),(j∈tl∨Sub Z O')→(tl.any fun b=>(listed.setIfInBounds j true).getD b false)=true∨Inv base Z w':=fun tl Z h3=>by
  rcases h3 with h4|h4
  ·refine .inl (List.any_eq_true.2 ⟨j,h4,?_⟩)
   simp[gn]
  ·exact .inr (h2.left.kn h4)
 have p_:iV base S tail S2 dp (listed.setIfInBounds j true) w':=⟨h2.nD,rH _ _ h3.1,rH _ _ h3.2.1⟩
 exact⟨p_,h3.2.2 Q a' w' M D hq hp h1 h2 (jg n_ y7) p_⟩
theorem Ps.mono {o:Oper} {K':Env→List Item→Prop} (h:Ps X P r base n o ρ O K) (hk: ∀gV O',K gV O'→K' gV O'):Ps X P r base n o ρ O K':=
 fun a w M ds ha hI next Qx fp hx=>h a w M ds ha hI next Qx (fun a' gV O' w' h1 h2 h3=>fp a' gV O' w' h1 h2 (hk _ _ h3)) hx
theorem io {l:List (Nat×Nat)} {i:Nat} {o:Oper} (hi:ops[i]? =some o) (hg:o.guard=none)
  (h:Ps X P r base n o ρ O (fun gV O'=>Sub S O'∧DO X P r base n ops S tail [] dp l K gV O')):DO X P r base n ops S tail [] dp ((i,1)::l) K ρ O:=fun hs lJ hl listed hb=>by
 simp only[jJ,aJ,beq_iff_eq]at hb
 refine ye i hi hg hb.1 (h.mono fun gV O' h3=>⟨.inr h3.1,.inr (cj (cq _)),h3.2 hs lJ (fun q hq=>hl q (List.mem_cons_of_mem _ hq)) _ hb.2⟩)
theorem sr {l:List (Nat×Nat)} {i:Nat} {o:Oper} (hi:ops[i]? =some o) (hg:o.guard=none)
  (h:Ps X P r base n o ρ O (fun gV O'=>DO X P r base n ops S tail S2 dp l K gV O')):DO X P r base n ops S tail S2 dp ((i,2)::l) K ρ O:=fun hs lJ hl listed hb=>by
 simp only[jJ,aJ,beq_iff_eq]at hb
 refine ye i hi hg hb.1 (h.mono fun gV O' h3=>⟨.inl ((hl (i,2) (by simp)).1.1 F),.inl ((hl (i,2) (by simp)).2.1 (.inl F)),h3 hs lJ (fun q hq=>hl q (List.mem_cons_of_mem _ hq)) _ hb.2⟩)
theorem eW {d:Nat} {t:TypeId} {p:String} {af:Array Edge} {g:Option (Nat×Bool)} {f:FuncId} {fn:Func} {tm:Value} {args:List Operand} {yB:Array TypeId} {vs:List Value} {R:Value→List Item→Prop} {Z:Prop} (he:Enters P f fn)
  (hc:dB P base tm f vs O R Z) (ha:Hf ρ args=vs) (hz:Z→X [{v:=tm,recovered:=false}]) (h: ∀v O',R v O'→K (o6 ρ d v) O') (hn:Nat.blt d n=true:=by rfl):
  Ps X P r base n ⟨some d,.call ⟨.value (.func f),args.toArray,yB⟩,t,p,af,g⟩ ρ O K:=by
 subst ha
 intro a w M ds ha hi next Qx fp hx
 have s4: ¬fn.name= "runtime.NumGoroutine" :=by simpa using he.2.1
 obtain⟨bd,Nx⟩:=Option.isSome_iff_exists.1 he.2.2
 have hr:(execOp a.eval ⟨some d,.call ⟨.value (.func f),args.toArray,yB⟩,t,p,af,g⟩).run P w=.ok (.enter f (Hf ρ args).toArray) w:=by
  rw[ha.eval,sg]
  simp[kX,ev,Deferred.ofValue,invoke,callFunc,he.1,s4,Nx]
 refine lV (by intro c e;cases e) ?_
 rw[hr,Oper.uponIn_enter]
 refine⟨fun e=>by simp[Fr,Fence.wide]at e,m_ (Calls.mono (hc w M hi) ?_)⟩
 rintro e w' (⟨v,O',rfl,n5,hR⟩|⟨rfl,n5,hZ⟩)
 ·exact fp _ _ _ _ (ha.put hn v) n5 (h v O' hR)
 ·exact hx _ _ (hz hZ) n5
theorem wi {dst:Option Nat} {t:TypeId} {p:String} {af:Array Edge} {g:Option (Nat×Bool)} {x:Operand} {T:TypeId} {u:Value} (hx:ev ρ x=.iface T u) (h:X [{v:=.iface T u,recovered:=false}]):Ps X P r base n ⟨dst,.panic x,t,p,af,g⟩ ρ O K:=by
 intro a w M ds ha hi next Qx fp hq
 refine lV (by intro c e;cases e) ?_
 have hr:(execOp a.eval ⟨dst,.panic x,t,p,af,g⟩).run P w=.halt (.panic (.iface T u)) w:=by
  rw[ha.eval];simp[execOp,hx,Instr.panic]
 rw[hr,Oper.uponIn_panic]
 exact hq _ _ h (hi.kn ⟨M,List.Perm.refl _,List.sublist_append_right O M⟩)
theorem ra {dst:Option Nat} {t:TypeId} {p:String} {af:Array Edge} {g:Option (Nat×Bool)} {x:Operand} {T:TypeId} {fs:Array Field} {v:Value} (hu:P.underlying T=some (.struct fs)) (hx:ev ρ x=v):QT P base ⟨dst,.makeInterface T x,t,p,af,g⟩ ρ O (.iface T v):=fun w _=>by
 simp[execOp,hx,Instr.makeInterface,bG hu]
theorem V_ {dst:Option Nat} {t:TypeId} {p:String} {af:Array Edge} {g:Option (Nat×Bool)} {x:Operand} {T:TypeId} {k:IntKind} {a:Int} (hx:ev ρ x=.int k a):QT P base ⟨dst,.unOp .neg T x,t,p,af,g⟩ ρ O (.int k (k.wrap (-a))):=fun w _=>by
 simp[execOp,hx,Op.unary,Op.intArith]
theorem Ky (i:Nat) {t:TypeId} {p:String} {af:Array Edge} {g:Option (Nat×Bool)} {x:Operand} {T E:TypeId} {b o m c lo gQ:Nat} {cs:List Value} {z:Value} (hu:P.underlying T=some (.slice E)) (hi:fP P E z 1 gQ) (hz:z.cells= #[z]) (YO:fa z=true)
  (hx:ev ρ x=.slice (BU (some ⟨b,o,none⟩) c lo 1) (m-lo) (c-lo)) (hlo:lo<m) (hm:m≤c) (hO:O[i]? =some (aq (some ⟨b,o,none⟩) c E 1 cs)) (h:K ρ (O.set i (aq (some ⟨b,o,none⟩) c E 1 (cs.take lo)))):
  LT P r base n ⟨none,.call ⟨.builtin .clear,#[x],#[T]⟩,t,p,af,g⟩ ρ O K:=by
 intro a w M ds ha hI next Qx fp
 obtain⟨_,full,hb,h1,h2,h3⟩:=hI.row (mZ hO)
 obtain⟨fl,rfl⟩: ∃fl:List Value,full=fl.toArray:=⟨full.toList,by simp⟩
 simp only[Nat.mul_one,List.size_toArray]at h1 h2
 have hs:BU (some ⟨b,o,none⟩) c lo 1=some ⟨b,o+lo,none⟩:=by
  unfold BU;rw[az (by omega),Option.map_some,Nat.mul_one,qY]
 have hzs:(Builtin.zeroCells z.cells (m-lo)).toList=List.replicate (m-lo) z:=by
  have:=qX z (m-lo)
  rw[hz];simp only[Builtin.zeroCells]
  simpa using ax Array.toList this
 have Ju:=kW (P:=P) (b:=b) (o:=o+lo) (T:=E) (List.replicate (m-lo) z) fl 0 w hb (by simp;omega) (by simp[YO])
 have hr:(execOp a.eval ⟨none,.call ⟨.builtin .clear,#[x],#[T]⟩,t,p,af,g⟩).run P w=.ok (.value (.tuple #[])) (jS w b (.cells (fh fl (o+lo) (List.replicate (m-lo) z)).toArray E (0,0))):=by
  rw[ha.eval]
  obtain⟨k,hk⟩: ∃k,m-lo=k+1:=⟨m-lo-1,by omega⟩
  rw[hk]at hzs Ju hx⊢
  simp only[Nat.add_zero]at Ju
  simp[execOp,resolve,hx,hs,invoke,builtin,Builtin.clear_,bG hu,gM hi,hzs,Ju]
 refine lV (by intro c e;cases e) ?_
 rw[hr]
 refine fp _ _ _ _ ha ?_ h
 rw[←o9 hO]
 refine hI.setRow (mZ hO) (by simp;omega) (by simp[iE];omega) fun j hj=>?_
 have si:j<lo∧j<cs.length:=by simp at hj;omega
 have:=h3 j si.2
 simp only[List.getElem?_toArray]at this⊢
 rw[mY _ _ _ _ (by simp;omega),az (by omega),this]
 simp
def X0 (P:Program) (base:World) (fn:Func) (tm:Value) (R:Value→List Item→Prop) (Z:Prop):kP
 | .normal,ρ,O=>qZ P base fn ρ O R
 | .ret,ρ,O=>qZ P base fn ρ O R
 | .panic c,_,_=>c=[{v:=tm,recovered:=false}]∧Z
 |_,_,_=>False
theorem rQ {fn:Func} {tmps:Array Value} {M O':List Item} {c:List PanicEntry} {Rx:Ending→World→Prop} (h: ∀w,Inv base (O'++M) w→Rx (.panicked c) w):
  ∀(D:List Nat) (w:World),Inv base (O'++(mI D++M)) w→LeavesInM Fence.wide 0 P fn tmps Rx (mD D) (.panicking c) w
 | [],w,hI=>h w hI
 |b::D,w,hI=>by
  have n5:Inv base (O'++u4 b::(mI D++M)) w:=hI
  have hb:w.heap[b]? =some (.deferred (some [])):=n5.holds (u4 b) (by simp)
  refine⟨by simp,.inl ⟨b,w.putObj b (.deferred none),F,run_takeDeferred hb,rQ h D _ ?_⟩⟩
  have:=Inv.step (N:=[]) (w':=w.putObj b (.deferred none)) n5 F F F (by simp) (fun k _ hk=>World.putObj_heap_other (fun e=>hk (by simp[u4,dF,e]))) (by simp) (by simp) (by simp)
  simpa using this
theorem dM {f:FuncId} {fn:Func} {tm:Value} {c:Code} {args:List Value} {R:Value→List Item→Prop} {Z:Prop} (hf:P.funcs[f]? =some fn) (hb:fn.body=some c) (hn:fn.ntmps=n) (hl:Nat.ble args.length n=true)
  (h:T P none base n c (X0 P base fn tm R Z) (entry args) O):dB P base tm f args O R Z:=by
 have hl:=Nat.le_of_ble_eq_true hl
 intro w M hI
 rw[←callsIn_wide (n:=0)]
 refine callsIn_of_wp_marks hf hb trivial (wpIn_mono (h _ w M [] trivial ⟨?_,?_,F⟩ hI) ?_)
 ·intro t
  show(args.toArray++Array.replicate (fn.ntmps-args.toArray.size) undef).getD t undef=args.getD t undef
  rw[da,av]
  by_cases h:t<args.length
  ·rw[Array.getElem?_append_left (by simpa using h)];simp
  ·rw[Array.getElem?_append_right (by simpa using h)]
   have:args[t]? =none:=by simp;omega
   rw[this,Array.getElem?_replicate]
   split<;>rfl
 ·simp;omega
 ·have key: ∀(a':Act) (w':World) (gV:Env) (O':List Item) (D:List Nat),Ag n (mD D) a' gV→Inv base (O'++(mI D++M)) w'→qZ P base fn gV O' R→
    LeavesInM Fence.wide 0 P fn a'.tmps (fun e Nr=>(∃v O',e=.returned v∧Inv base (O'++M) Nr∧R v O')∨(e=.panicked [{v:=tm,recovered:=false}]∧Inv base M Nr∧Z)) a'.defers .returning w':=by
   intro a' w' gV O' D h1 h2 h3
   obtain⟨v,yj,yy,hR,hr⟩:=h3.ex
   rw[h1.defers]
   exact o_ (fun w hI=>⟨v,hr w a'.tmps hI.left h1.tmp,.inl ⟨v,yj,F,hI.kn yy.pG,hR⟩⟩) D w' h2
  rintro e a' w' ⟨gV,O',D,h1,h2,h3⟩
  cases e with
  |normal=>exact key a' w' gV O' D h1 h2 h3
  |ret=>exact key a' w' gV O' D h1 h2 h3
  |panic ch=>
   obtain⟨rfl,hz⟩:=h3
   show LeavesInM Fence.wide 0 P fn a'.tmps _ a'.defers _ w'
   rw[h1.defers]
   exact rQ (O':=O') (fun w hI=>.inr ⟨F,hI.kn ⟨M,List.Perm.refl _,List.sublist_append_right O' M⟩,hz⟩) D w' h2
  |_=>exact h3.elim
end
end Go.Lx

namespace Go.Lx
open Go.RowKit
section
variable {P:Program} {base:World} {O:List Item} {ρ:Env} {dst:Option Nat} {t:TypeId} {p:String} {af:Array Edge} {g:Option (Nat×Bool)}
theorem KV {x y:Operand} {T U:TypeId} {a b:List UInt8} (hx:ev ρ x=str a) (hy:ev ρ y=str b):QT P base ⟨dst,.binOp .eql T x y U,t,p,af,g⟩ ρ O (.bool (decide (a=b))):=fun w _=>by
 simp[execOp,hx,hy,eqGuard,binOp,str,Op.stringOp]
 by_cases e:a=b
 ·subst e;simp
 ·simp[e]
end
structure OB where
 b:Option Addr
 c:Nat
 o:List Ob
def OB.val (r:OB):Value:=.slice r.b r.o.length r.c
def fE (o:List Ob):List Value:=o.flatMap fun p=>[.int .i64 (p.1:Int),.int .i64 (p.2:Int)]
def OB.sQ (T:TypeId) (r:OB):Item:=aq r.b r.c T 2 (fE r.o)
def gg (T:TypeId) (p:List OB):List Item:=p.map (OB.sQ T)
def mg (p:List OB) (r:OB):Prop:=r∈p∨r.o=[]
theorem jO (o:List Ob):(fE o).length=o.length*2:=by
 induction o with
 |nil=>rfl
 |cons p o ih=>simp only[fE,List.flatMap_cons,aw,bo,bV]at ih⊢;omega
def zT (p:Ob):List Value:=[.int .i64 (p.1:Int),.int .i64 (p.2:Int)]
theorem nq {o:List Ob}: ∀ {i:Nat} (hi:i<o.length) (j:Nat) (h:j<(zT o[i]).length),(fE o)[i*2+j]? =some (zT o[i])[j]:=by
 induction o with
 |nil=>intro i hi;simp at hi
 |cons p o ih=>
  intro i hi j hj
  show(zT p++fE o)[i*2+j]? =_
  cases i with
  |zero=>rw[Nat.zero_mul,Nat.zero_add,bH (show j<(zT p).length from hj)];exact ap hj
  |succ i=>
   have h2:(zT p).length=2:=rfl
   rw[bT (by rw[h2];omega),show(i+1)*2+j-(zT p).length=i*2+j by rw[h2];omega]
   exact ih (by simpa using hi) j hj
theorem vn (o:List Ob) (p:Ob):fE (o++[p])=fE o++[.int .i64 (p.1:Int),.int .i64 (p.2:Int)]:=by simp[fE]
structure CR where
 k:Int
 s:Nat
 r:OB
def CR.cf (c:CR):Cf:=⟨c.k,c.s,c.r.o⟩
def CR.cells (c:CR):List Value:=[.int .i64 c.k,.int .i64 (c.s:Int),.slice c.r.b c.r.o.length c.r.c]
def dt (l:List CR):List Value:=l.flatMap CR.cells
theorem pw (l:List CR):(dt l).length=l.length*3:=by
 induction l with
 |nil=>rfl
 |cons p l ih=>simp only[dt,List.flatMap_cons,aw,bo]at ih⊢;rw[ih];simp[CR.cells];omega
theorem su {l:List CR}: ∀ {i:Nat} (hi:i<l.length) (j:Nat) (h:j<l[i].cells.length),(dt l)[i*3+j]? =some l[i].cells[j]:=by
 induction l with
 |nil=>intro i hi;simp at hi
 |cons p l ih=>
  intro i hi j hj
  show(p.cells++dt l)[i*3+j]? =_
  cases i with
  |zero=>rw[Nat.zero_mul,Nat.zero_add,bH (show j<p.cells.length from hj)];exact ap hj
  |succ i=>
   have h3:p.cells.length=3:=rfl
   rw[bT (by rw[h3];omega),show(i+1)*3+j-p.cells.length=i*3+j by rw[h3];omega]
   exact ih (by simpa using hi) j hj
theorem CS (l:List CR) (c:CR):dt (l++[c])=dt l++c.cells:=by simp[dt]
def yK (l:List CR) (c:CR):List CR:=if c.cf∈l.map CR.cf then l else l++[c]
theorem F8 (l:List CR) (c:CR):(yK l c).map CR.cf=add (l.map CR.cf) c.cf:=by
 unfold yK add;split<;>simp
theorem mg.sl {T:TypeId} {w base:World} {O:List Item} {p:List OB} {r:OB} (hI:Inv base O w) (hO: ∀it∈gg T p,it∈O) (h:mg p r):Sl w r.b (fE r.o):=by
 rcases h with h|h
 ·exact hI.ii (hO _ (List.mem_map.2 ⟨r,h,F⟩))
 ·rw[h];exact fun i hi=>absurd hi (by simp[fE])
theorem mg.mono {p q:List OB} {r:OB} (h:mg p r) (hq: ∀x∈p,x∈q):mg q r:=h.elim (fun h=>.inl (hq _ h)) .inr
structure LK where
 k:DK
 b:Option Addr
 c:Nat
instance:Inhabited LK:=⟨⟨⟨none,0,none,0,[]⟩,none,0⟩⟩
def kI (l:Lf) (k:LK):List Value:=[.int .u8 (l.op:Int)]++dC l.d k.k++[.slice k.b l.fo.length k.c,.bool l.la]
def dj (ls:List Lf) (ks:List LK):List Value:=(ls.zip ks).flatMap fun p=>kI p.1 p.2
abbrev lk (ks:List LK) (k:Nat):LK:=ks.getD k default
theorem xD: ∀ {ls:List Lf} {ks:List LK} {i:Nat} (hk:ks.length=ls.length) (hi:i<ls.length) (j:Nat) (h:j<(kI (lf ls i) (lk ks i)).length),(dj ls ks)[i*7+j]? =some (kI (lf ls i) (lk ks i))[j]:=by
 intro ls
 induction ls with
 |nil=>intro ks i _ hi;simp at hi
 |cons l ls ih=>
  intro ks i hk hi j hj
  cases ks with
  |nil=>simp at hk
  |cons k ks=>
   show(kI l k++dj ls ks)[i*7+j]? =_
   cases i with
   |zero=>rw[Nat.zero_mul,Nat.zero_add,bH (show j<(kI l k).length from hj)];exact ap hj
   |succ i=>
    have h7:(kI l k).length=7:=rfl
    rw[bT (by rw[h7];omega),show(i+1)*7+j-(kI l k).length=i*7+j by rw[h7];omega]
    exact ih (by simpa using hk) (by simpa using hi) j hj
theorem dS {ls:List Lf} {ks:List LK} (hk:ks.length=ls.length):(dj ls ks).length=ls.length*7:=by
 have: ∀(z:List (Lf×LK)),(z.flatMap fun p=>kI p.1 p.2).length=z.length*7:=by
  intro z
  induction z with
  |nil=>rfl
  |cons p z ih=>rw[List.flatMap_cons,aw,ih,show(kI p.1 p.2).length=7 from F,bo];omega
 unfold dj;rw[this,List.length_zip,hk,Nat.min_self]
structure ll (w:World) (ob:Nat) (lb:Option Addr) (lc:Nat) (cv fv:Value) (ls:List Lf) (ks:List LK):Prop where
 bx:Sl w (some ⟨ob,0,none⟩) [cv,.slice lb ls.length lc,fv]
 rw:Sl w lb (dj ls ks)
 kl:ks.length=ls.length
 dk: ∀k,k<ls.length→At w (lf ls k).d (lk ks k).k
 fo: ∀k,k<ls.length→Sl w (lk ks k).b (bS (lf ls k).fo)
theorem Inv.out {base w:World} {O:List Item} (hI:Inv base O w) {ob:Nat} {lb:Option Addr} {lc:Nat} {cv fv:Value} {ls:List Lf} {ks:List LK} (h:ll base ob lb lc cv fv ls ks):ll w ob lb lc cv fv ls ks:=
 ⟨hI.sl h.bx,hI.sl h.rw,h.kl,fun k hk=>hI.pR (h.dk k hk),fun k hk=>hI.sl (h.fo k hk)⟩
theorem CW (T:TypeId) (p q:List OB):gg T (p++q)=gg T p++gg T q:=bm
structure ly (ls:List Lf) (l:List CR) (p:List OB):Prop where
 yL: ∀y∈l,jk ls y.cf
 nd:(l.map CR.cf).Nodup
 K2: ∀y∈l,mg p y.r
theorem ly.mono {ls:List Lf} {l:List CR} {p q:List OB} (h:ly ls l p) (hq: ∀x∈p,x∈q):ly ls l q:=⟨h.yL,h.nd,fun y hy=>(h.K2 y hy).mono hq⟩
theorem ly.len {ls:List Lf} {l:List CR} {p:List OB} (h:ly ls l p) {K:Nat} (hK:qy ls K):l.length≤K:=by
 have:=hK (l.map CR.cf) h.nd fun c hc=>by obtain⟨y,hy,rfl⟩:=List.mem_map.1 hc;exact h.yL y hy
 simpa using this
theorem ly.add {ls:List Lf} {l:List CR} {p:List OB} (h:ly ls l p) {x:CR} (hx:jk ls x.cf) (hp:mg p x.r):ly ls (yK l x) p:=by
 have hm: ∀y∈yK l x,y∈l∨y=x:=fun y hy=>by
  unfold yK at hy;split at hy
  ·exact .inl hy
  ·simpa using hy
 refine⟨fun y hy=>(hm y hy).elim (h.yL y) (fun e=>e▸hx),by rw[F8];exact mT h.nd,fun y hy=>(hm y hy).elim (h.K2 y) (fun e=>e▸hp)⟩
theorem bW.post {P:Program} {base:World} {f:FuncId} {args:List Value} {O:List Item} {R R':Value→List Item→Prop} (h:bW P base f args O R) (hr: ∀v O',R v O'→ ∃O2,Sub O2 O'∧R' v O2):bW P base f args O R':=fun w M hI=>
 (h w M hI).mono fun e w' ⟨v,O',he,n5,hv⟩=>by
  obtain⟨O2,hs,h2⟩:=hr v O' hv
  exact⟨v,O2,he,n5.kn hs.pG,h2⟩
theorem qK (A B C X:List Item) (h:Sub (A++B) C):Sub ((A++X)++B) (C++X):=by
 obtain⟨l,h1,h2⟩:=h
 refine⟨l++X,?_,h2.append (aZ _)⟩
 refine List.Perm.trans ?_ (h1.append_right X)
 rw[aI,aI]
 exact List.Perm.append_left A List.perm_append_comm
theorem qL (A B X:List Item):Sub ((A++B)++X) ((A++X)++B):=by
 refine⟨_,?_,aZ _⟩
 rw[aI,aI]
 exact List.Perm.append_left A List.perm_append_comm
end Go.Lx

namespace Go.Lx
open Go.RowKit
theorem Ia: ∀ {l m:List Key},(∀k∈l,∀b∈k,b≠124)→(∀k∈m,∀b∈k,b≠124)→l.flatMap (fun k=>(124:UInt8)::k)=m.flatMap (fun k=>(124:UInt8)::k)→l=m:=by
 have split: ∀ {x y p q:Key},(∀b∈x,b≠124)→(∀b∈y,b≠124)→(∀b t,p=b::t→b=124)→(∀b t,q=b::t→b=124)→x++p=y++q→x=y∧p=q:=by
  intro x
  induction x with
  |nil=>
   intro y p q _ hy hp _ h
   cases y with
   |nil=>exact⟨F,h⟩
   |cons c y=>
    rw[dn,cI]at h
    exact absurd (hp _ _ h) (hy c (by simp))
  |cons c x ih=>
   intro y p q hx hy hp hq h
   cases y with
   |nil=>
    rw[dn,cI]at h
    exact absurd (hq _ _ h.symm) (hx c (by simp))
   |cons d y=>
    simp only[cI,List.cons.injEq]at h
    obtain⟨h1,h2⟩:=ih (fun b hb=>hx b (by simp[hb])) (fun b hb=>hy b (by simp[hb])) hp hq h.2
    exact⟨by rw[h.1,h1],h2⟩
 have hd: ∀(l:List Key) b t,l.flatMap (fun k=>(124:UInt8)::k)=b::t→b=124:=by
  intro l b t h
  cases l with
  |nil=>simp at h
  |cons k l=>simp only[List.flatMap_cons,cI,List.cons.injEq]at h;exact h.1.symm
 intro l
 induction l with
 |nil=>
  intro m _ _ h
  cases m with
  |nil=>rfl
  |cons k m=>simp at h
 |cons k l ih=>
  intro m hl hm h
  cases m with
  |nil=>simp at h
  |cons k2 m=>
   simp only[List.flatMap_cons,cI,List.cons.injEq,true_and]at h
   obtain⟨h1,h2⟩:=split (hl k (by simp)) (hm k2 (by simp)) (hd l) (hd m) h
   rw[h1,ih (fun x hx=>hl x (by simp[hx])) (fun x hx=>hm x (by simp[hx])) h2]
theorem Ib (l:List Int): ∀b∈iO l,b≠124:=fun b hb e=>by
 obtain⟨n,_,hb⟩:=List.mem_flatMap.1 hb
 rcases List.mem_append.1 hb with hb|hb
 ·have:=rp n b hb;rw[e]at this;simp at this
 ·rw[List.mem_singleton.1 hb]at e;exact absurd e (by decide)
theorem zU (a b c:Key) (h1:wk a b=true) (h2:wk b c=true):wk a c=true:=by
 unfold wk at*;exact ay (List.le_trans (of_decide_eq_true h1) (of_decide_eq_true h2))
theorem zV (a b:Key):(wk a b||wk b a)=true:=by
 unfold wk;rcases List.le_total a b with h|h<;>simp[h]
theorem Db {l m:List Key} (h:l.Perm m):l.mergeSort wk=m.mergeSort wk:=by
 refine List.Perm.eq_of_pairwise (le:=fun a b=>wk a b=true) (fun a b _ _ h1 h2=>?_) (List.pairwise_mergeSort zU zV l) (List.pairwise_mergeSort zU zV m) ?_
 ·unfold wk at h1 h2;exact List.le_antisymm (of_decide_eq_true h1) (of_decide_eq_true h2)
 ·exact(List.mergeSort_perm l wk).trans (h.trans (List.mergeSort_perm m wk).symm)
section
variable {ls:List Lf} {vs:Nat}
theorem pO.num (hG:iw ls vs) {bh:List Nat} (h:pO ls bh): ∀n∈bh.map (fun y:Nat=>(y:Int)),mH n:=fun n hn=>by
 obtain⟨y,hy,rfl⟩:=List.mem_map.1 hn
 obtain⟨k,hk,rfl⟩:=List.mem_iff_getElem.1 hy
 have h1:=h.lt k (by rw[←h.len];exact hk)
 rw[av,ap hk,Option.getD_some]at h1
 have:=(hG.kg (k:=k) (by rw[←h.len];exact hk)).n4
 exact nm (by omega)
theorem Dc (hG:iw ls vs) {a b:St} (ha:ln ls a) (hb:ln ls b) (h:a.key=b.key):a.bh=b.bh∧ ∀c,c∈a.cf↔c∈b.cf:=by
 unfold St.key at h
 have hd: ∀(l:List Key) b t,l.flatMap (fun k=>(124:UInt8)::k)=b::t→b.toNat=124:=by
  intro l b t h
  cases l with
  |nil=>simp at h
  |cons k l=>simp only[List.flatMap_cons,cI,List.cons.injEq]at h;rw[←h.1];rfl
 obtain⟨h1,h2⟩:=Bd (ha.bh.num hG) (hb.bh.num hG) (hd _) (hd _) h
 have hn: ∀s:St,∀k∈(s.cf.map Cf.key).mergeSort wk,∀b∈k,b≠124:=fun s k hk=>by
  obtain⟨c,_,rfl⟩:=List.mem_map.1 (List.mem_mergeSort.1 hk)
  exact Ib _
 have h3:=Ia (hn a) (hn b) h2
 have h4: ∀k,k∈a.cf.map Cf.key↔k∈b.cf.map Cf.key:=fun k=>by
  rw[←List.mem_mergeSort (le:=wk),h3,List.mem_mergeSort]
 have one: ∀ {s t:St},ln ls s→ln ls t→(∀k,k∈s.cf.map Cf.key→k∈t.cf.map Cf.key)→ ∀c,c∈s.cf→c∈t.cf:=fun {s t} hs ht h c hc=>by
  obtain⟨d,hd,e⟩:=List.mem_map.1 (h _ (List.mem_map_of_mem hc))
  rw[key_inj hG (hs.cf c hc) (ht.cf d hd) e.symm];exact hd
 exact⟨rr h1,fun c=>⟨one ha hb (fun k=>(h4 k).1) c,one hb ha (fun k=>(h4 k).2) c⟩⟩
theorem E1 {a b:St} (ha:ln ls a) (hb:ln ls b) (h1:a.bh=b.bh) (h2: ∀c,c∈a.cf↔c∈b.cf):a.key=b.key:=by
 unfold St.key
 rw[h1,Db (((List.perm_ext_iff_of_nodup ha.nd hb.nd).2 h2).map Cf.key)]
theorem Gb (hG:iw ls vs):OS (ln ls) St.key (j9 ls) pt (2^vs):=by
 refine⟨fun a b x ha hb h hx=>?_,fun a b ha hb h=>?_,fun a x ha hx=>rj hG ha hx⟩
 ·obtain⟨h1,h2⟩:=Dc hG ha hb h
  refine E1 (rj hG ha hx) (rj hG hb hx) (by show jv ls a.bh x=jv ls b.bh x;rw[h1]) fun c=>?_
  show c∈List.foldl add [] _↔c∈List.foldl add [] _
  rw[eC,eC,h1]
  simp only[List.mem_flatMap,List.not_mem_nil,false_or]
  exact⟨fun⟨y,hy,hc⟩=>⟨y,(h2 y).1 hy,hc⟩,fun⟨y,hy,hc⟩=>⟨y,(h2 y).2 hy,hc⟩⟩
 ·obtain⟨_,h2⟩:=Dc hG ha hb h
  unfold pt
  rw[eo,dc,dc]
  exact⟨fun⟨c,hc,h⟩=>⟨c,(h2 c).1 hc,h⟩,fun⟨c,hc,h⟩=>⟨c,(h2 c).2 hc,h⟩⟩
end
end Go.Lx

