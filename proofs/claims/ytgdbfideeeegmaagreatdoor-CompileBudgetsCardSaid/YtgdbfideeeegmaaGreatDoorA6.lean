/- Contracts of functions of the program, and what they answer. Conditions: those each theorem names. -/
import Derived.Test.YtgdbfideeeegmaaGreatDoorA5
import Derived.Test.YtgdbfideeeegmaaGreatDoorA2
import Derived.Test.YtgdbfideeeegmaaGreatDoorA3
import Derived.Test.YtgdbfideeeegmaaGreatDoorA1
import Derived.Test.YtgdbfideeeegmaaGreatDoorA4
set_option linter.unusedSectionVars false
set_option linter.unusedSimpArgs false
set_option linter.unusedVariables false
set_option linter.unnecessarySimpa false
set_option maxHeartbeats 8000000
set_option maxRecDepth 20000
namespace Go.Lx
open Go.RowKit
section
variable {P:Program} {base:World} {O:List Item} {ρ:Env} {dst:Option Nat} {t:TypeId} {p:String} {af:Array Edge} {g:Option (Nat×Bool)}
theorem IB {x y:Operand} {T U:TypeId} {a b:List UInt8} (hx:ev ρ x=str a) (hy:ev ρ y=str b):QT P base ⟨dst,.binOp .eql T x y U,t,p,af,g⟩ ρ O (.bool (decide (a=b))):=fun w _=>by
 simp[execOp,hx,hy,eqGuard,binOp,str,Op.stringOp]
 by_cases e:a=b
 ·subst e;simp
 ·simp[e]
end
structure OB where
 b:Option Addr
 c:Nat
 o:List Ob
def OB.val (r:OB):Value:=.slice r.b r.o.length r.c
def eh (o:List Ob):List Value:=o.flatMap fun p=>[.int .i64 (p.1:Int),.int .i64 (p.2:Int)]
def OB.qG (T:TypeId) (r:OB):Item:=am r.b r.c T 2 (eh r.o)
def eI (T:TypeId) (p:List OB):List Item:=p.map (OB.qG T)
def kn (p:List OB) (r:OB):Prop:=r∈p∨r.o=[]
theorem ii (o:List Ob):(eh o).length=o.length*2:=by
 induction o with
 |nil=>rfl
 |cons p o ih=>simp only[eh,List.flatMap_cons,List.length_append,List.length_cons,List.length_nil]at ih⊢;omega
def xI (p:Ob):List Value:=[.int .i64 (p.1:Int),.int .i64 (p.2:Int)]
theorem ln {o:List Ob}: ∀ {i:Nat} (hi:i<o.length) (j:Nat) (h:j<(xI o[i]).length),(eh o)[i*2+j]? =some (xI o[i])[j]:=by
 induction o with
 |nil=>intro i hi;simp at hi
 |cons p o ih=>
  intro i hi j hj
  show(xI p++eh o)[i*2+j]? =_
  cases i with
  |zero=>rw[Nat.zero_mul,Nat.zero_add,List.getElem?_append_left (show j<(xI p).length from hj)];exact List.getElem?_eq_getElem hj
  |succ i=>
   have h2:(xI p).length=2:=rfl
   rw[List.getElem?_append_right (by rw[h2];omega),show(i+1)*2+j-(xI p).length=i*2+j by rw[h2];omega]
   exact ih (by simpa using hi) j hj
theorem tw (o:List Ob) (p:Ob):eh (o++[p])=eh o++[.int .i64 (p.1:Int),.int .i64 (p.2:Int)]:=by simp[eh]
structure CR where
 k:Int
 s:Nat
 r:OB
def CR.cf (c:CR):Cf:=⟨c.k,c.s,c.r.o⟩
def CR.cells (c:CR):List Value:=[.int .i64 c.k,.int .i64 (c.s:Int),.slice c.r.b c.r.o.length c.r.c]
def cr (l:List CR):List Value:=l.flatMap CR.cells
theorem nl (l:List CR):(cr l).length=l.length*3:=by
 induction l with
 |nil=>rfl
 |cons p l ih=>simp only[cr,List.flatMap_cons,List.length_append,List.length_cons]at ih⊢;rw[ih];simp[CR.cells];omega
theorem qq {l:List CR}: ∀ {i:Nat} (hi:i<l.length) (j:Nat) (h:j<l[i].cells.length),(cr l)[i*3+j]? =some l[i].cells[j]:=by
 induction l with
 |nil=>intro i hi;simp at hi
 |cons p l ih=>
  intro i hi j hj
  show(p.cells++cr l)[i*3+j]? =_
  cases i with
  |zero=>rw[Nat.zero_mul,Nat.zero_add,List.getElem?_append_left (show j<p.cells.length from hj)];exact List.getElem?_eq_getElem hj
  |succ i=>
   have h3:p.cells.length=3:=rfl
   rw[List.getElem?_append_right (by rw[h3];omega),show(i+1)*3+j-p.cells.length=i*3+j by rw[h3];omega]
   exact ih (by simpa using hi) j hj
theorem AT (l:List CR) (c:CR):cr (l++[c])=cr l++c.cells:=by simp[cr]
def wG (l:List CR) (c:CR):List CR:=if c.cf∈l.map CR.cf then l else l++[c]
theorem D8 (l:List CR) (c:CR):(wG l c).map CR.cf=add (l.map CR.cf) c.cf:=by
 unfold wG add;split<;>simp
theorem kn.sl {T:TypeId} {w base:World} {O:List Item} {p:List OB} {r:OB} (hI:Inv base O w) (hO: ∀it∈eI T p,it∈O) (h:kn p r):Sl w r.b (eh r.o):=by
 rcases h with h|h
 ·exact hI.fV (hO _ (List.mem_map.2 ⟨r,h,F⟩))
 ·rw[h];exact fun i hi=>absurd hi (by simp[eh])
theorem kn.mono {p q:List OB} {r:OB} (h:kn p r) (hq: ∀x∈p,x∈q):kn q r:=h.elim (fun h=>.inl (hq _ h)) .inr
structure LK where
 k:DK
 b:Option Addr
 c:Nat
instance:Inhabited LK:=⟨⟨⟨none,0,none,0,[]⟩,none,0⟩⟩
def jf (l:Lf) (k:LK):List Value:=[.int .u8 (l.op:Int)]++dC l.d k.k++[.slice k.b l.fo.length k.c,.bool l.la]
def cj (ls:List Lf) (ks:List LK):List Value:=(ls.zip ks).flatMap fun p=>jf p.1 p.2
abbrev lk (ks:List LK) (k:Nat):LK:=ks.getD k default
theorem vv: ∀ {ls:List Lf} {ks:List LK} {i:Nat} (hk:ks.length=ls.length) (hi:i<ls.length) (j:Nat) (h:j<(jf (lf ls i) (lk ks i)).length),(cj ls ks)[i*7+j]? =some (jf (lf ls i) (lk ks i))[j]:=by
 intro ls
 induction ls with
 |nil=>intro ks i _ hi;simp at hi
 |cons l ls ih=>
  intro ks i hk hi j hj
  cases ks with
  |nil=>simp at hk
  |cons k ks=>
   show(jf l k++cj ls ks)[i*7+j]? =_
   cases i with
   |zero=>rw[Nat.zero_mul,Nat.zero_add,List.getElem?_append_left (show j<(jf l k).length from hj)];exact List.getElem?_eq_getElem hj
   |succ i=>
    have h7:(jf l k).length=7:=rfl
    rw[List.getElem?_append_right (by rw[h7];omega),show(i+1)*7+j-(jf l k).length=i*7+j by rw[h7];omega]
    exact ih (by simpa using hk) (by simpa using hi) j hj
theorem cU {ls:List Lf} {ks:List LK} (hk:ks.length=ls.length):(cj ls ks).length=ls.length*7:=by
 have: ∀(z:List (Lf×LK)),(z.flatMap fun p=>jf p.1 p.2).length=z.length*7:=by
  intro z
  induction z with
  |nil=>rfl
  |cons p z ih=>rw[List.flatMap_cons,List.length_append,ih,show(jf p.1 p.2).length=7 from F,List.length_cons];omega
 unfold cj;rw[this,List.length_zip,hk,Nat.min_self]
structure jv (w:World) (ob:Nat) (lb:Option Addr) (lc:Nat) (cv fv:Value) (ls:List Lf) (ks:List LK):Prop where
 bx:Sl w (some ⟨ob,0,none⟩) [cv,.slice lb ls.length lc,fv]
 rw:Sl w lb (cj ls ks)
 kl:ks.length=ls.length
 dk: ∀k,k<ls.length→At w (lf ls k).d (lk ks k).k
 fo: ∀k,k<ls.length→Sl w (lk ks k).b (aX (lf ls k).fo)
theorem Inv.out {base w:World} {O:List Item} (hI:Inv base O w) {ob:Nat} {lb:Option Addr} {lc:Nat} {cv fv:Value} {ls:List Lf} {ks:List LK} (h:jv base ob lb lc cv fv ls ks):jv w ob lb lc cv fv ls ks:=
 ⟨hI.sl h.bx,hI.sl h.rw,h.kl,fun k hk=>hI.nN (h.dk k hk),fun k hk=>hI.sl (h.fo k hk)⟩
theorem AX (T:TypeId) (p q:List OB):eI T (p++q)=eI T p++eI T q:=List.map_append
structure jC (ls:List Lf) (l:List CR) (p:List OB):Prop where
 LO: ∀y∈l,gW ls y.cf
 nd:(l.map CR.cf).Nodup
 IJ: ∀y∈l,kn p y.r
theorem jC.mono {ls:List Lf} {l:List CR} {p q:List OB} (h:jC ls l p) (hq: ∀x∈p,x∈q):jC ls l q:=⟨h.LO,h.nd,fun y hy=>(h.IJ y hy).mono hq⟩
theorem jC.len {ls:List Lf} {l:List CR} {p:List OB} (h:jC ls l p) {K:Nat} (hK:oC ls K):l.length≤K:=by
 have:=hK (l.map CR.cf) h.nd fun c hc=>by obtain⟨y,hy,rfl⟩:=List.mem_map.1 hc;exact h.LO y hy
 simpa using this
theorem jC.add {ls:List Lf} {l:List CR} {p:List OB} (h:jC ls l p) {x:CR} (hx:gW ls x.cf) (hp:kn p x.r):jC ls (wG l x) p:=by
 have hm: ∀y∈wG l x,y∈l∨y=x:=fun y hy=>by
  unfold wG at hy;split at hy
  ·exact .inl hy
  ·simpa using hy
 refine⟨fun y hy=>(hm y hy).elim (h.LO y) (fun e=>e▸hx),by rw[D8];exact kT h.nd,fun y hy=>(hm y hy).elim (h.IJ y) (fun e=>e▸hp)⟩
theorem bm.post {P:Program} {base:World} {f:FuncId} {args:List Value} {O:List Item} {R R':Value→List Item→Prop} (h:bm P base f args O R) (hr: ∀v O',R v O'→ ∃O2,Sub O2 O'∧R' v O2):bm P base f args O R':=fun w M hI=>
 (h w M hI).mono fun e w' ⟨v,O',he,l6,hv⟩=>by
  obtain⟨O2,hs,h2⟩:=hr v O' hv
  exact⟨v,O2,he,l6.iN hs.qR,h2⟩
theorem oR (A B C X:List Item) (h:Sub (A++B) C):Sub ((A++X)++B) (C++X):=by
 obtain⟨l,h1,h2⟩:=h
 refine⟨l++X,?_,h2.append (List.Sublist.refl _)⟩
 refine List.Perm.trans ?_ (h1.append_right X)
 rw[List.append_assoc,List.append_assoc]
 exact List.Perm.append_left A List.perm_append_comm
theorem oS (A B X:List Item):Sub ((A++B)++X) ((A++X)++B):=by
 refine⟨_,?_,List.Sublist.refl _⟩
 rw[List.append_assoc,List.append_assoc]
 exact List.Perm.append_left A List.perm_append_comm
end Go.Lx

namespace Go.Lx
open Go.RowKit
theorem F1: ∀ {l m:List Key},(∀k∈l,∀b∈k,b≠124)→(∀k∈m,∀b∈k,b≠124)→l.flatMap (fun k=>(124:UInt8)::k)=m.flatMap (fun k=>(124:UInt8)::k)→l=m:=by
 have split: ∀ {x y p q:Key},(∀b∈x,b≠124)→(∀b∈y,b≠124)→(∀b t,p=b::t→b=124)→(∀b t,q=b::t→b=124)→x++p=y++q→x=y∧p=q:=by
  intro x
  induction x with
  |nil=>
   intro y p q _ hy hp _ h
   cases y with
   |nil=>exact⟨F,h⟩
   |cons c y=>
    rw[List.nil_append,List.cons_append]at h
    exact absurd (hp _ _ h) (hy c (by simp))
  |cons c x ih=>
   intro y p q hx hy hp hq h
   cases y with
   |nil=>
    rw[List.nil_append,List.cons_append]at h
    exact absurd (hq _ _ h.symm) (hx c (by simp))
   |cons d y=>
    simp only[List.cons_append,List.cons.injEq]at h
    obtain⟨h1,h2⟩:=ih (fun b hb=>hx b (by simp[hb])) (fun b hb=>hy b (by simp[hb])) hp hq h.2
    exact⟨by rw[h.1,h1],h2⟩
 have hd: ∀(l:List Key) b t,l.flatMap (fun k=>(124:UInt8)::k)=b::t→b=124:=by
  intro l b t h
  cases l with
  |nil=>simp at h
  |cons k l=>simp only[List.flatMap_cons,List.cons_append,List.cons.injEq]at h;exact h.1.symm
 intro l
 induction l with
 |nil=>
  intro m _ _ h
  cases m with
  |nil=>rfl
  |cons k m=>simp at h
 |cons k l ih=>
  intro m hl hm h
  cases m with
  |nil=>simp at h
  |cons k2 m=>
   simp only[List.flatMap_cons,List.cons_append,List.cons.injEq,true_and]at h
   obtain⟨h1,h2⟩:=split (hl k (by simp)) (hm k2 (by simp)) (hd l) (hd m) h
   rw[h1,ih (fun x hx=>hl x (by simp[hx])) (fun x hx=>hm x (by simp[hx])) h2]
theorem F2 (l:List Int): ∀b∈gi l,b≠124:=fun b hb e=>by
 obtain⟨n,_,hb⟩:=List.mem_flatMap.1 hb
 rcases List.mem_append.1 hb with hb|hb
 ·have:=pv n b hb;rw[e]at this;simp at this
 ·rw[List.mem_singleton.1 hb]at e;exact absurd e (by decide)
theorem xJ (a b c:Key) (h1:ui a b=true) (h2:ui b c=true):ui a c=true:=by
 unfold ui at*;exact decide_eq_true (List.le_trans (of_decide_eq_true h1) (of_decide_eq_true h2))
theorem xK (a b:Key):(ui a b||ui b a)=true:=by
 unfold ui;rcases List.le_total a b with h|h<;>simp[h]
theorem Bi {l m:List Key} (h:l.Perm m):l.mergeSort ui=m.mergeSort ui:=by
 refine List.Perm.eq_of_pairwise (le:=fun a b=>ui a b=true) (fun a b _ _ h1 h2=>?_) (List.pairwise_mergeSort xJ xK l) (List.pairwise_mergeSort xJ xK m) ?_
 ·unfold ui at h1 h2;exact List.le_antisymm (of_decide_eq_true h1) (of_decide_eq_true h2)
 ·exact(List.mergeSort_perm l ui).trans (h.trans (List.mergeSort_perm m ui).symm)
section
variable {ls:List Lf} {vs:Nat}
theorem nG.num (hG:gN ls vs) {bh:List Nat} (h:nG ls bh): ∀n∈bh.map (fun y:Nat=>(y:Int)),kI n:=fun n hn=>by
 obtain⟨y,hy,rfl⟩:=List.mem_map.1 hn
 obtain⟨k,hk,rfl⟩:=List.mem_iff_getElem.1 hy
 have h1:=h.lt k (by rw[←h.len];exact hk)
 rw[List.getD_eq_getElem?_getD,List.getElem?_eq_getElem hk,Option.getD_some]at h1
 have:=(hG.iI (k:=k) (by rw[←h.len];exact hk)).n4
 exact ll (by omega)
theorem Bj (hG:gN ls vs) {a b:St} (ha:jw ls a) (hb:jw ls b) (h:a.key=b.key):a.bh=b.bh∧ ∀c,c∈a.cf↔c∈b.cf:=by
 unfold St.key at h
 have hd: ∀(l:List Key) b t,l.flatMap (fun k=>(124:UInt8)::k)=b::t→b.toNat=124:=by
  intro l b t h
  cases l with
  |nil=>simp at h
  |cons k l=>simp only[List.flatMap_cons,List.cons_append,List.cons.injEq]at h;rw[←h.1];rfl
 obtain⟨h1,h2⟩:=yW (ha.bh.num hG) (hb.bh.num hG) (hd _) (hd _) h
 have hn: ∀s:St,∀k∈(s.cf.map Cf.key).mergeSort ui,∀b∈k,b≠124:=fun s k hk=>by
  obtain⟨c,_,rfl⟩:=List.mem_map.1 (List.mem_mergeSort.1 hk)
  exact F2 _
 have h3:=F1 (hn a) (hn b) h2
 have h4: ∀k,k∈a.cf.map Cf.key↔k∈b.cf.map Cf.key:=fun k=>by
  rw[←List.mem_mergeSort (le:=ui),h3,List.mem_mergeSort]
 have one: ∀ {s t:St},jw ls s→jw ls t→(∀k,k∈s.cf.map Cf.key→k∈t.cf.map Cf.key)→ ∀c,c∈s.cf→c∈t.cf:=fun {s t} hs ht h c hc=>by
  obtain⟨d,hd,e⟩:=List.mem_map.1 (h _ (List.mem_map_of_mem hc))
  rw[key_inj hG (hs.cf c hc) (ht.cf d hd) e.symm];exact hd
 exact⟨pw h1,fun c=>⟨one ha hb (fun k=>(h4 k).1) c,one hb ha (fun k=>(h4 k).2) c⟩⟩
theorem C4 {a b:St} (ha:jw ls a) (hb:jw ls b) (h1:a.bh=b.bh) (h2: ∀c,c∈a.cf↔c∈b.cf):a.key=b.key:=by
 unfold St.key
 rw[h1,Bi (((List.perm_ext_iff_of_nodup ha.nd hb.nd).2 h2).map Cf.key)]
theorem Eb (hG:gN ls vs):L8 (jw ls) St.key (li ls) ql (2^vs):=by
 refine⟨fun a b x ha hb h hx=>?_,fun a b ha hb h=>?_,fun a x ha hx=>pr hG ha hx⟩
 ·obtain⟨h1,h2⟩:=Bj hG ha hb h
  refine C4 (pr hG ha hx) (pr hG hb hx) (by show ky ls a.bh x=ky ls b.bh x;rw[h1]) fun c=>?_
  show c∈List.foldl add [] _↔c∈List.foldl add [] _
  rw[dc,dc,h1]
  simp only[List.mem_flatMap,List.not_mem_nil,false_or]
  exact⟨fun⟨y,hy,hc⟩=>⟨y,(h2 y).1 hy,hc⟩,fun⟨y,hy,hc⟩=>⟨y,(h2 y).2 hy,hc⟩⟩
 ·obtain⟨_,h2⟩:=Bj hG ha hb h
  unfold ql
  rw[Bool.eq_iff_iff,List.any_eq_true,List.any_eq_true]
  exact⟨fun⟨c,hc,h⟩=>⟨c,(h2 c).1 hc,h⟩,fun⟨c,hc,h⟩=>⟨c,(h2 c).2 hc,h⟩⟩
end
end Go.Lx

namespace Go.Lx
open Go.RowKit
def Rx.wf:Rx→Bool
 | .jl a b| .j5 a b=>a.wf&&b.wf
 | .ahead a| .behind a=>a.plain
 |t=>t.plain
def ko (ls:List Lf) (b x:List Nat):List Lf:=b.foldl (fun ls k=>ls.set k {lf ls k with fo:=(lf ls k).fo++x}) ls
structure BR where
 ls:List Lf
 fi:List Nat
 la:List Nat
noncomputable def nI (v:Nat):Rx→Lf
 | .ahead a=>⟨9,minOf v (ki (gd a) fun _=>true),[],false⟩
 | .behind a=>⟨10,minOf v (ki (fun _=>true) (gd a)),[],false⟩
 |t=>⟨0,minOf v (gd t),[],false⟩
noncomputable def aH (v:Nat):Rx→List Lf→BR
 | .jl a b,ls=>⟨ko (aH v b (aH v a ls).ls).ls (aH v a ls).la (aH v b (aH v a ls).ls).fi,(aH v a ls).fi,(aH v b (aH v a ls).ls).la⟩
 | .j5 a b,ls=>⟨(aH v b (aH v a ls).ls).ls,(aH v a ls).fi++(aH v b (aH v a ls).ls).fi,(aH v a ls).la++(aH v b (aH v a ls).ls).la⟩
 |t,ls=>⟨ls++[nI v t],[ls.length],[ls.length]⟩
def okB (v:Nat):Rx→Nat→Prop
 | .jl a b,B=>okB v a B∧okB v b B
 | .j5 a b,B=>okB v a B∧okB v b B
 | .ahead a,B=>iP v a B∧yD (minOf v (gd a)) (eo (v:Int) true) (da (minOf v (gd a))) B
 | .behind a,B=>iP v a B∧yD (eo (v:Int) true) (minOf v (gd a)) (da (eo (v:Int) true)) B
 |t,B=>iP v t B
theorem oY {v:Nat} {B B':Nat} (hB:B≤B'): ∀ {t:Rx},okB v t B→okB v t B'
 | .jl a b,h=>⟨oY hB h.1,oY hB h.2⟩
 | .j5 a b,h=>⟨oY hB h.1,oY hB h.2⟩
 | .ahead a,h=>⟨eP hB h.1,vi.mono h.2 hB⟩
 | .behind a,h=>⟨eP hB h.1,vi.mono h.2 hB⟩
 | .none,h=>eP (t:=.none) hB h
 | .empty,h=>eP (t:=.empty) hB h
 | .letter p n,h=>eP (t:=.letter p n) hB h
 | .and a b,h=>eP (t:=.and a b) hB h
 | .not a,h=>eP (t:=.not a) hB h
 | .star a,h=>eP (t:=.star a) hB h
def Rx.lv:Rx→Nat
 | .jl a b| .j5 a b=>a.lv+b.lv
 |_=>1
theorem sD: ∀(b x:List Nat) (ls:List Lf),(ko ls b x).length=ls.length
 | [],x,ls=>rfl
 |k::b,x,ls=>by
  show(ko (ls.set k _) b x).length=_
  rw[sD b x,List.length_set]
theorem dR (v:Nat): ∀(t:Rx) (ls:List Lf),(aH v t ls).ls.length=ls.length+t.lv
 | .jl a b,ls=>by show(ko _ _ _).length=_;rw[sD,dR v b,dR v a,Nat.add_assoc];rfl
 | .j5 a b,ls=>by show(aH v b _).ls.length=_;rw[dR v b,dR v a,Nat.add_assoc];rfl
 | .none,ls=>by simp[aH,Rx.lv]
 | .empty,ls=>by simp[aH,Rx.lv]
 | .letter p n,ls=>by simp[aH,Rx.lv]
 | .and a b,ls=>by simp[aH,Rx.lv]
 | .not a,ls=>by simp[aH,Rx.lv]
 | .star a,ls=>by simp[aH,Rx.lv]
 | .ahead a,ls=>by simp[aH,Rx.lv]
 | .behind a,ls=>by simp[aH,Rx.lv]
theorem eU (v:Nat): ∀(t:Rx) (ls:List Lf),(∀k∈(aH v t ls).fi,ls.length≤k∧k<ls.length+t.lv)∧(∀k∈(aH v t ls).la,ls.length≤k∧k<ls.length+t.lv)∧(aH v t ls).fi.length≤t.lv∧(aH v t ls).la.length≤t.lv
 | .jl a b,ls=>by
  obtain⟨h1,_,h3,_⟩:=eU v a ls
  obtain⟨_,h2,_,h4⟩:=eU v b (aH v a ls).ls
  rw[dR]at h2
  refine⟨fun k hk=>?_,fun k hk=>?_,?_,?_⟩
  ·have:=h1 k hk;show _∧k<ls.length+(a.lv+b.lv);omega
  ·have:=h2 k hk;show _∧k<ls.length+(a.lv+b.lv);omega
  ·show(aH v a ls).fi.length≤a.lv+b.lv;omega
  ·show(aH v b (aH v a ls).ls).la.length≤a.lv+b.lv;omega
 | .j5 a b,ls=>by
  obtain⟨h1,h5,h3,h6⟩:=eU v a ls
  obtain⟨h7,h2,h8,h4⟩:=eU v b (aH v a ls).ls
  rw[dR]at h2 h7
  refine⟨fun k hk=>?_,fun k hk=>?_,?_,?_⟩
  ·show _∧k<ls.length+(a.lv+b.lv)
   rcases List.mem_append.1 hk with hk|hk
   ·have:=h1 k hk;omega
   ·have:=h7 k hk;omega
  ·show _∧k<ls.length+(a.lv+b.lv)
   rcases List.mem_append.1 hk with hk|hk
   ·have:=h5 k hk;omega
   ·have:=h2 k hk;omega
  ·show(_++_:List Nat).length≤a.lv+b.lv;rw[List.length_append];omega
  ·show(_++_:List Nat).length≤a.lv+b.lv;rw[List.length_append];omega
 | .none,ls=>by simp[aH,Rx.lv]
 | .empty,ls=>by simp[aH,Rx.lv]
 | .letter p n,ls=>by simp[aH,Rx.lv]
 | .and a b,ls=>by simp[aH,Rx.lv]
 | .not a,ls=>by simp[aH,Rx.lv]
 | .star a,ls=>by simp[aH,Rx.lv]
 | .ahead a,ls=>by simp[aH,Rx.lv]
 | .behind a,ls=>by simp[aH,Rx.lv]
def dG (ls:List Lf) (ks:List LK):List Rec:=(ls.zip ks).map fun p=>⟨p.2.b,p.2.c,p.1.fo.map fun y:Nat=>(y:Int)⟩
def fm (II Bo I:TypeId) (ls:List Lf) (ks:List LK):List Item:=(ls.zip ks).map fun p=>dI II Bo I p.1.d p.2.k
theorem FU {ls:List Lf} {ks:List LK} (h:ks.length=ls.length):(dG ls ks).length=ls.length:=by unfold dG;rw[List.length_map,List.length_zip,h,Nat.min_self]
theorem Jd {ls:List Lf} {ks:List LK} (h:ks.length=ls.length) {k:Nat} (hk:k<ls.length):(ls.zip ks)[k]? =some (lf ls k,lk ks k):=by
 rw[List.getElem?_eq_getElem (by rw[List.length_zip];omega),List.getElem_zip,vy hk]
 show some (ls[k],ks[k]'_)=some (ls[k],ks.getD k default)
 rw[List.getD_eq_getElem?_getD,List.getElem?_eq_getElem (by omega)];rfl
theorem A5 {ls:List Lf} {ks:List LK} (h:ks.length=ls.length) {k:Nat} (hk:k<ls.length):(dG ls ks)[k]? =some ⟨(lk ks k).b,(lk ks k).c,(lf ls k).fo.map fun y:Nat=>(y:Int)⟩:=by
 unfold dG;rw[List.getElem?_map,Jd h hk];rfl
theorem qv {ls:List Lf} {ks:List LK} (h:ks.length=ls.length) (l:Lf) (k:LK):dG (ls++[l]) (ks++[k])=dG ls ks++[⟨k.b,k.c,l.fo.map fun y:Nat=>(y:Int)⟩]:=by
 unfold dG;rw[List.zip_append h.symm,List.map_append];rfl
theorem sC {II Bo I:TypeId} {ls:List Lf} {ks:List LK} (h:ks.length=ls.length) (l:Lf) (k:LK):fm II Bo I (ls++[l]) (ks++[k])=fm II Bo I ls ks++[dI II Bo I l.d k.k]:=by
 unfold fm;rw[List.zip_append h.symm,List.map_append];rfl
theorem oV {ls:List Lf} {ks:List LK} (h:ks.length=ls.length) (l:Lf) (k:LK):cj (ls++[l]) (ks++[k])=cj ls ks++jf l k:=by
 unfold cj;rw[List.zip_append h.symm,List.flatMap_append];simp
theorem CV: ∀ {ls:List Lf} {ks:List LK} {k:Nat} (hk:ks.length=ls.length) (h:k<ls.length) (b':Option Addr) (c':Nat) (x:List Nat),
  cj (ls.set k {lf ls k with fo:=x}) (ks.set k {lk ks k with b:=b',c:=c'})=(cj ls ks).set (k*7+5) (.slice b' x.length c'):=by
 intro ls
 induction ls with
 |nil=>intro ks k _ h;simp at h
 |cons l ls ih=>
  intro ks k hk h b' c' x
  cases ks with
  |nil=>simp at hk
  |cons q ks=>
   cases k with
   |zero=>rfl
   |succ k=>
    show jf l q++cj (ls.set k {lf ls k with fo:=x}) (ks.set k {lk ks k with b:=b',c:=c'})=(jf l q++cj ls ks).set ((k+1)*7+5) _
    have h7:(jf l q).length=7:=rfl
    rw[ih (by simpa using hk) (by simpa using h),List.set_append_right _ _ (by rw[h7];omega),show(k+1)*7+5-(jf l q).length=k*7+5 by rw[h7];omega]
theorem FT: ∀ {ls:List Lf} {ks:List LK} {k:Nat} (hk:ks.length=ls.length) (h:k<ls.length) (b':Option Addr) (c':Nat) (x:List Nat),
  dG (ls.set k {lf ls k with fo:=x}) (ks.set k {lk ks k with b:=b',c:=c'})=(dG ls ks).set k ⟨b',c',x.map fun y:Nat=>(y:Int)⟩:=by
 intro ls
 induction ls with
 |nil=>intro ks k _ h;simp at h
 |cons l ls ih=>
  intro ks k hk h b' c' x
  cases ks with
  |nil=>simp at hk
  |cons q ks=>
   cases k with
   |zero=>rfl
   |succ k=>
    show(⟨q.b,q.c,_⟩:Rec)::dG (ls.set k {lf ls k with fo:=x}) (ks.set k {lk ks k with b:=b',c:=c'})=(_::dG ls ks).set (k+1) _
    rw[ih (by simpa using hk) (by simpa using h)];rfl
theorem IV {II Bo I:TypeId}: ∀ {ls:List Lf} {ks:List LK} {k:Nat} (hk:ks.length=ls.length) (h:k<ls.length) (b':Option Addr) (c':Nat) (x:List Nat),
  fm II Bo I (ls.set k {lf ls k with fo:=x}) (ks.set k {lk ks k with b:=b',c:=c'})=fm II Bo I ls ks:=by
 intro ls
 induction ls with
 |nil=>intro ks k _ h;simp at h
 |cons l ls ih=>
  intro ks k hk h b' c' x
  cases ks with
  |nil=>simp at hk
  |cons q ks=>
   cases k with
   |zero=>rfl
   |succ k=>
    show dI II Bo I l.d q.k::fm II Bo I (ls.set k {lf ls k with fo:=x}) (ks.set k {lk ks k with b:=b',c:=c'})=dI II Bo I l.d q.k::fm II Bo I ls ks
    rw[ih (by simpa using hk) (by simpa using h)]
theorem A7: ∀ {ls:List Lf} {ks:List LK} {k:Nat} (hk:ks.length=ls.length) (h:k<ls.length),
  cj (ls.set k {lf ls k with la:=true}) ks=(cj ls ks).set (k*7+6) (.bool true):=by
 intro ls
 induction ls with
 |nil=>intro ks k _ h;simp at h
 |cons l ls ih=>
  intro ks k hk h
  cases ks with
  |nil=>simp at hk
  |cons q ks=>
   cases k with
   |zero=>rfl
   |succ k=>
    show jf l q++cj (ls.set k {lf ls k with la:=true}) ks=(jf l q++cj ls ks).set ((k+1)*7+6) _
    have h7:(jf l q).length=7:=rfl
    rw[ih (by simpa using hk) (by simpa using h),List.set_append_right _ _ (by rw[h7];omega),show(k+1)*7+6-(jf l q).length=k*7+6 by rw[h7];omega]
theorem CY: ∀ {ls:List Lf} {ks:List LK} {k:Nat} (hk:ks.length=ls.length) (h:k<ls.length),dG (ls.set k {lf ls k with la:=true}) ks=dG ls ks:=by
 intro ls
 induction ls with
 |nil=>intro ks k _ h;simp at h
 |cons l ls ih=>
  intro ks k hk h
  cases ks with
  |nil=>simp at hk
  |cons q ks=>
   cases k with
   |zero=>rfl
   |succ k=>
    show(⟨q.b,q.c,_⟩:Rec)::dG (ls.set k {lf ls k with la:=true}) ks=_::dG ls ks
    rw[ih (by simpa using hk) (by simpa using h)]
theorem FW {II Bo I:TypeId}: ∀ {ls:List Lf} {ks:List LK} {k:Nat} (hk:ks.length=ls.length) (h:k<ls.length),fm II Bo I (ls.set k {lf ls k with la:=true}) ks=fm II Bo I ls ks:=by
 intro ls
 induction ls with
 |nil=>intro ks k _ h;simp at h
 |cons l ls ih=>
  intro ks k hk h
  cases ks with
  |nil=>simp at hk
  |cons q ks=>
   cases k with
   |zero=>rfl
   |succ k=>
    show dI II Bo I l.d q.k::fm II Bo I (ls.set k {lf ls k with la:=true}) ks=dI II Bo I l.d q.k::fm II Bo I ls ks
    rw[ih (by simpa using hk) (by simpa using h)]
theorem CW {ls:List Lf} {b x:List Nat} {i:Nat} (h:i<b.length):ko ls (b.take (i+1)) x=(ko ls (b.take i) x).set b[i] {lf (ko ls (b.take i) x) b[i]with fo:=(lf (ko ls (b.take i) x) b[i]).fo++x}:=by
 unfold ko;rw[List.take_succ_eq_append_getElem h,List.foldl_append];rfl
theorem sG {E:TypeId}: ∀ {qs:List Rec} {c:Nat} (h:c<qs.length),(a_ E qs).Perm (qs[c].qG E::a_ E (qs.eraseIdx c))
 |q::qs,0,_=>by simp
 |q::qs,c+1,h=>by
  have ih:=sG (E:=E) (qs:=qs) (c:=c) (by simpa using h)
  simp only[a_,List.map_cons,List.eraseIdx_cons_succ,List.getElem_cons_succ]at ih⊢
  exact(ih.cons _).trans (List.Perm.swap _ _ _)
theorem IU {E:TypeId} {qs:List Rec} {c:Nat} {q:Rec} (h:qs[c]? =some q) (X Y:List Item):Sub (q.qG E::(X++(a_ E (qs.eraseIdx c)++Y))) (X++(a_ E qs++Y)):=by
 obtain⟨hc,rfl⟩:=List.getElem?_eq_some_iff.1 h
 refine⟨X++(a_ E qs++Y),?_,List.Sublist.refl _⟩
 refine((List.perm_middle (a:=qs[c].qG E) (l₁:=X)).symm).trans (List.Perm.append_left X ?_)
 exact((sG hc).symm.append_right Y)
theorem L1 {E:TypeId} {qs:List Rec} {c:Nat} (h:c<qs.length) (X Y:List Item) (q:Rec):Sub (X++(a_ E (qs.set c q)++Y)) (q.qG E::(X++(a_ E (qs.eraseIdx c)++Y))):=by
 have h1:=sG (E:=E) (qs:=qs.set c q) (c:=c) (by simpa using h)
 rw[List.getElem_set_self,List.eraseIdx_set_eq]at h1
 refine⟨_,?_,List.Sublist.refl _⟩
 exact((h1.append_right Y).append_left X).trans (List.perm_middle (a:=q.qG E) (l₁:=X))
theorem cB.post {P:Program} {base:World} {tm:Value} {f:FuncId} {args:List Value} {O:List Item} {R R':Value→List Item→Prop} {Z:Prop} (h:cB P base tm f args O R Z) (hr: ∀v O',R v O'→ ∃O2,Sub O2 O'∧R' v O2):cB P base tm f args O R' Z:=fun w M hI=>
 (h w M hI).mono fun e w' h9=>h9.imp (fun⟨v,O',he,l6,hv⟩=>by
  obtain⟨O2,hs,h2⟩:=hr v O' hv
  exact⟨v,O2,he,l6.iN hs.qR,h2⟩) id
theorem oW (A B X Y:List Item) (c d:Item) (h:Sub (A++[c,d]) B):Sub (A++((X++[c])++(Y++[d]))) (B++(X++Y)):=by
 obtain⟨l,h1,h2⟩:=h
 refine⟨l++(X++Y),?_,h2.append (List.Sublist.refl _)⟩
 refine List.Perm.trans ?_ (h1.append_right (X++Y))
 rw[List.append_assoc A]
 refine List.Perm.append_left A ?_
 rw[List.append_assoc X]
 refine(List.perm_append_comm_assoc X [c] (Y++[d])).trans ?_
 show(c::(X++(Y++[d]))).Perm (c::d::(X++Y))
 refine List.Perm.cons c ?_
 rw[←List.append_assoc]
 exact List.perm_append_comm
theorem qw (E:TypeId) (qs:List Rec) (q:Rec):a_ E (qs++[q])=a_ E qs++[q.qG E]:=List.map_append
theorem vF: ∀(b x:List Nat) (ls:List Lf) (M:Nat),(∀l∈ls,l.fo.length≤M)→ ∀l∈ko ls b x,l.fo.length≤M+b.length*x.length
 | [],x,ls,M,h,l,hl=>by have:=h l hl;simpa using this
 |k::b,x,ls,M,h,l,hl=>by
  have h2: ∀l∈ls.set k {lf ls k with fo:=(lf ls k).fo++x},l.fo.length≤M+x.length:=fun l hl=>by
   by_cases hk:k<ls.length
   ·rcases List.mem_or_eq_of_mem_set hl with hl|rfl
    ·have:=h l hl;omega
    ·have:=h _ (iU hk);rw[List.length_append];omega
   ·rw[List.set_eq_of_length_le (by omega)]at hl;have:=h l hl;omega
  have:=vF b x _ _ h2 l hl
  rw[List.length_cons,Nat.succ_mul];omega
theorem vG (a b:Nat):(a+b)*(a+b)=a*a+b*b+2*(a*b):=by
 rw[Nat.add_mul,Nat.mul_add,Nat.mul_add,Nat.mul_comm b a];omega
theorem pu (v:Nat): ∀(t:Rx) (ls:List Lf) (N:Nat),(∀l∈ls,l.fo.length≤N)→ ∀l∈(aH v t ls).ls,l.fo.length≤N+t.lv*t.lv:=by
 have leaf: ∀(ls:List Lf) (N:Nat) (q:Lf),q.fo=[]→(∀l∈ls,l.fo.length≤N)→ ∀l∈ls++[q],l.fo.length≤N+1*1:=fun ls N q hq h l hl=>by
  rcases List.mem_append.1 hl with hl|hl
  ·have:=h l hl;omega
  ·rw[List.mem_singleton.1 hl,hq];exact Nat.zero_le _
 intro t
 induction t with
 |jl a b Je Jf=>
  intro ls N h l hl
  have h1:=Jf _ _ (Je ls N h)
  have h2:=vF _ (aH v b (aH v a ls).ls).fi _ _ h1 l hl
  have h3:=(eU v a ls).2.2.2
  have h4:=(eU v b (aH v a ls).ls).2.2.1
  have h5:(aH v a ls).la.length*(aH v b (aH v a ls).ls).fi.length≤a.lv*b.lv:=Nat.mul_le_mul h3 h4
  show _≤N+(a.lv+b.lv)*(a.lv+b.lv)
  rw[vG];omega
 |j5 a b Je Jf=>
  intro ls N h l hl
  have h1:=Jf _ _ (Je ls N h) l hl
  show _≤N+(a.lv+b.lv)*(a.lv+b.lv)
  rw[vG];omega
 |none=>exact fun ls N h=>leaf ls N _ F h
 |empty=>exact fun ls N h=>leaf ls N _ F h
 |letter p n=>exact fun ls N h=>leaf ls N _ F h
 |and a b _ _=>exact fun ls N h=>leaf ls N _ F h
 |not a _=>exact fun ls N h=>leaf ls N _ F h
 |star a _=>exact fun ls N h=>leaf ls N _ F h
 |ahead a _=>exact fun ls N h=>leaf ls N _ F h
 |behind a _=>exact fun ls N h=>leaf ls N _ F h
def qu (ls:List Lf) (t:Rx):Prop:= ∃N,(∀l∈ls,l.fo.length≤N)∧N+t.lv*t.lv≤100000
theorem qu.left {ls:List Lf} {a b:Rx} (h: ∃N,(∀l∈ls,l.fo.length≤N)∧N+(a.lv+b.lv)*(a.lv+b.lv)≤100000):qu ls a:=by
 obtain⟨N,h1,h2⟩:=h;rw[vG]at h2;exact⟨N,h1,by omega⟩
theorem qu.right {v:Nat} {ls:List Lf} {a b:Rx} (h: ∃N,(∀l∈ls,l.fo.length≤N)∧N+(a.lv+b.lv)*(a.lv+b.lv)≤100000):qu (aH v a ls).ls b:=by
 obtain⟨N,h1,h2⟩:=h;rw[vG]at h2;exact⟨_,pu v a ls N h1,by omega⟩
theorem CU {v:Nat} {ls:List Lf} {a b:Rx} (h: ∃N,(∀l∈ls,l.fo.length≤N)∧N+(a.lv+b.lv)*(a.lv+b.lv)≤100000) {y:List Nat} (hy:y.length≤a.lv) {k:Nat} (hk:k<(ko (aH v b (aH v a ls).ls).ls y (aH v b (aH v a ls).ls).fi).length):(lf (ko (aH v b (aH v a ls).ls).ls y (aH v b (aH v a ls).ls).fi) k).fo.length≤100000:=by
 obtain⟨N,h1,h2⟩:=h
 rw[vG]at h2
 have h3:=vF y (aH v b (aH v a ls).ls).fi _ _ (pu v b _ _ (pu v a ls N h1)) _ (iU hk)
 have h4:=(eU v b (aH v a ls).ls).2.2.1
 have h5:y.length*(aH v b (aH v a ls).ls).fi.length≤a.lv*b.lv:=Nat.mul_le_mul hy h4
 omega
end Go.Lx

namespace Go.Lx
open Go.RowKit
instance:Nonempty St:=⟨⟨[],[]⟩⟩
def lu (x:dF):Bool:=decide (x.op=9)||decide (x.op=10)
def nH (ls:List Lf) (la:List Nat):List Lf:=la.foldl (fun ls k=>ls.set k {lf ls k with la:=true}) ls
theorem sE: ∀(la:List Nat) (ls:List Lf),(nH ls la).length=ls.length
 | [],ls=>rfl
 |k::la,ls=>by
  show(nH (ls.set k _) la).length=_
  rw[sE la,List.length_set]
theorem CZ {ls:List Lf} {la:List Nat} {i:Nat} (h:i<la.length):nH ls (la.take (i+1))=(nH ls (la.take i)).set la[i] {lf (nH ls (la.take i)) la[i]with la:=true}:=by
 unfold nH;rw[List.take_succ_eq_append_getElem h,List.foldl_append];rfl
noncomputable def lD (v:Nat) (t:Rx):List Lf:=nH (aH v t []).ls (aH v t []).la
noncomputable def HM (v:Nat) (t:Rx):List Nat:=(aH v t []).fi
noncomputable def Vu (v:Nat) (t:Rx):Lg:=fun u=>ql (u.foldl (li (lD v t)) (jU (lD v t) (HM v t)))
def O9 (v:Nat) (t:Rx) (B:Nat):Prop:=vi (zj (jw (lD v t)) St.key (li (lD v t))) (2^v) (jU (lD v t) (HM v t)).key B
def Uj (v:Nat) (t:Rx) (B:Nat):Prop:=okB v t B∧O9 v t B
theorem Jc {v:Nat} {t:Rx} {B B':Nat} (hB:B≤B') (h:Uj v t B):Uj v t B':=⟨oY hB h.1,vi.mono h.2 hB⟩
theorem Be (v:Nat) (t:Rx):(lD v t).length=t.lv:=by unfold lD;rw[sE,dR];simp
theorem Ec {v:Nat} {t:Rx}: ∀k∈HM v t,k<(lD v t).length:=fun k hk=>by
 have:=(eU v t []).1 k hk;rw[Be];simpa using this.2
theorem I0 {v:Nat} {t:Rx} (hG:gN (lD v t) v) {u:List Nat} (hu: ∀x∈u,x<2^v):FH (jw (lD v t)) St.key ql (u.foldl (zj (jw (lD v t)) St.key (li (lD v t))) (jU (lD v t) (HM v t)).key)=Vu v t u:=
 yU (Eb hG) (vE hG Ec) hu
theorem jv.of {w base:World} {O:List Item} (hI:Inv base O w) {ob:Nat} {lb:Option Addr} {lc:Nat} {cv fv:Value} {ls:List Lf} {ks:List LK} {OL LT:TypeId} (hk:ks.length=ls.length)
  (h1:cR ob (.cells [cv,.slice lb ls.length lc,fv].toArray OL (0,0))∈O) (h2:am lb lc LT 7 (cj ls ks)∈O) {II Bo I:TypeId} (h3: ∀it∈a_ I (dG ls ks),it∈O) (h4: ∀it∈fm II Bo I ls ks,it∈O):jv w ob lb lc cv fv ls ks:=by
 refine⟨hI.iG h1,hI.fV h2,hk,fun k s8=>?_,fun k s8=>?_⟩
 ·have hz:=List.mem_of_getElem? (Jd hk s8)
  exact hI.at (k:=(lk ks k).k) (h4 _ (List.mem_map.2 ⟨_,hz,F⟩))
 ·have hr:=List.mem_of_getElem? (A5 hk s8)
  have h5:=hI.fV (h3 _ (List.mem_map.2 ⟨_,hr,F⟩))
  rw[eS]at h5;exact h5
end Go.Lx

namespace Go.Proofs.YtgdbfideeeegmaaGreatDoor
open Go.Lx Go.RowKit _root_.Go.Proofs.Tryz
theorem Ta (base:World) [cG Tryz.prog base] (b:Option Addr) (c m:Nat) (l:List UInt8) (hl:l.length=m) (hm:m≤900000):
  bm Tryz.prog base 210 [.slice b m c,vI (-1),vI 10] [am b c 5 1 (bZ l)] (fun v O'=> ∃b' c',v=.slice b' (m+(iQ (-1)).length) c'∧O'=[am b' c' 5 1 (bZ (l++iQ (-1)))]):=by
 refine aw func210 F ntmps210 F ?_
 refine ai (aj F (ae (ai (ah F (ad (G2 uT2 Tb F) (aj F (ae (aB (ai (ah F (ad (bT F F) (ae ?_))))))))))))
 refine bj F ?_
 refine ai (ah F (ak F (bM (v:=.int .u8 45) lj cI F F F (fun lX=>?_))))
 refine ak F (bY 1 lj lj cI F F F F (by simp[hl]) (by decide) (Src.row (j:=0) F (by simp)) (by simp[dS]) (by omega) (by decide) (by decide) (fun vd c3=>?_))
 refine aj F (ae (aJ (ah F (ad (Tc F) (aj F (ae (ai (ah F (ah F (ah F ?_))))))))))
 have lh:=(bm.sub (O':=[am vd c3 5 1 (bZ (l++[45]))]) (O:=[am (aD lX) 1 5 1 [.int .u8 45],am vd c3 5 1 ((bZ l)++[.int .u8 45])]) (by rw[show bZ (l++[45])=bZ l++[Value.int .u8 45]from List.map_append];exact(by exact Sub.d (.k .z))) (Ay base vd c3 0 (m+1) 1 (l++[45]) (by simp[hl]) (by decide) (by omega)))
 refine ak F (aP HT lh F ?_)
 clear lh
 rintro vr O' ⟨b9,c9,rfl,rfl⟩
 refine aj F (ae (aA ?_))
 refine aE (.slice b9 (m+1+(Lib.decDigits 1).length) c9) Tryz.results210 F ?_
 exact⟨b9,c9,by simp[iQ,Lib.decDigits,Nat.add_assoc],by simp[iQ,Lib.decDigits]⟩
theorem WN (base:World) [cG Tryz.prog base] (b:Option Addr) (c m:Nat) (l:List UInt8) (hl:l.length=m) (hm:m≤900000):
  bm Tryz.prog base 160 [.slice b m c,vI (-1),vI 10] [am b c 5 1 (bZ l)] (fun v O'=> ∃b' c',v=.slice b' (m+(iQ (-1)).length) c'∧O'=[am b' c' 5 1 (bZ (l++iQ (-1)))]):=by
 refine aw func160 F ntmps160 F ?_
 refine ai (aj F (ae (ai (ah F (ah F (ah F ?_))))))
 have oB:=Ta base b c m l hl hm
 refine ak F (aP HU oB F ?_)
 clear oB
 rintro vr O' ⟨b2,c2,rfl,rfl⟩
 refine aj F (ae (aA ?_))
 refine aE (.slice b2 (m+(iQ (-1)).length) c2) Tryz.results160 F ?_
 exact⟨b2,c2,F,F⟩
theorem Td (base:World) [cG Tryz.prog base] (b:Option Addr) (c m:Nat) (l:List UInt8) (n:Int) (hl:l.length=m) (hn:kI n) (hm:m≤900000):
  bm Tryz.prog base 160 [.slice b m c,vI n,vI 10] [am b c 5 1 (bZ l)] (fun v O'=> ∃b' c',v=.slice b' (m+(iQ (n)).length) c'∧O'=[am b' c' 5 1 (bZ (l++iQ (n)))]):=by
 by_cases h:n= -1
 ·subst h;exact WN base b c m l hl hm
 ·rcases hn with hn|⟨h0,h1⟩
  ·contradiction
  ·obtain⟨k,rfl⟩:=Int.eq_ofNat_of_zero_le h0
   have h9:=Pe base b c 0 m k l hl (by omega) (by omega)
   unfold iQ;rw[if_neg h];exact h9
theorem Nk (base:World) [cG Tryz.prog base] (b lb:Option Addr) (c m lc:Nat) (xs:List UInt8) (l:List Int) (hx:xs.length=m) (hL:Sl base lb (ints l)) (hn: ∀n∈l,kI n) (hm:m+13*l.length≤800000):
  bm Tryz.prog base 112 [.slice b m c,.slice lb l.length lc] [am b c 5 1 (bZ xs)] (fun v O'=> ∃b' c',v=.slice b' (m+(gi l).length) c'∧O'=[am b' c' 5 1 (bZ (xs++gi l))]):=by
 refine aw func112 F ntmps112 F ?_
 refine ai (aj F (ae (aB (ai (ah F (ad (bS bK F) (ah F (ae (aG ?_)))))))))
 refine cM (fun(i:Nat) ρ O=> ∃(jb:Option Addr) (jc:Nat),O=[am jb jc 5 1 (bZ (xs++gi (l.take i)))]∧i≤l.length∧cw [(0,(.slice jb (m+(gi (l.take i)).length) jc)),(1,(.slice lb l.length lc)),(4,nS),(7,(.slice lb l.length lc)),(8,vI (l.length:Int)),(9,vN i)] ρ) (fun i=>l.length-i) 0 ?_ ?_
 ·exact⟨b,c,by simp[gi],Nat.zero_le _,⟨(by show Value.slice b m c=_;simp[gi]),F,F,F,F,F,trivial⟩⟩
 rintro i ρ O ⟨jb,jc,rfl,hi,hH⟩
 obtain⟨fE,rfl⟩:=hH.elim
 clear hH
 have Lt:=nh (l:=l.take i) fun n h=>hn n (List.mem_of_mem_take h)
 have eV:=List.length_take_le i l
 refine ai (ad (bT F F) (ae (aB (aC F (fun hc=>?_) (fun hc=>?_)))))
 ·have jJ:i<l.length:=by omega
  have hdl:=oE (hn _ (List.getElem_mem jJ))
  refine av (aB (aG (ai (ad (cV (i:=i) bK aO F F (ay hL)) (ad (cd cS F F (ay hL) fp) (aj F (ae (aJ (ah F (ah F ?_))))))))))
  have HV:=Td base jb jc (m+(gi (l.take i)).length) (xs++gi (l.take i)) l[i] (by simp[hx]) (hn _ (List.getElem_mem jJ)) (by omega)
  refine ak F (aP yu HV F ?_)
  clear HV
  rintro vr O' ⟨b2,c2,rfl,rfl⟩
  refine ak F (bM (v:=.int .u8 32) lj cI F F F (fun lX=>?_))
  refine ak F (bY 1 lj lj cI F F F F (by simp[hx,Nat.add_assoc]) (by decide) (Src.row (j:=0) F (by simp)) (by simp[dS]) (by have:=oE (hn _ (List.getElem_mem jJ));omega) (by decide) (by decide) (fun vd c3=>?_))
  refine aj F (ae (aJ (ad (cx (a:=i) (b:=1) F F (by omega)) (ah F (ae ?_)))))
  have e9:=Az jJ
  exact⟨i+1,by omega,[am vd c3 5 1 ((bZ (xs++gi (l.take i)++iQ l[i]))++[.int .u8 32])],(by exact Sub.d (.k .z)),vd,c3,by rw[e9,←List.append_assoc,←List.append_assoc,show bZ (xs++gi (l.take i)++iQ l[i]++[32])=bZ (xs++gi (l.take i)++iQ l[i])++[Value.int .u8 32]from List.map_append],by omega,⟨(congrArg (fun n9=>Value.slice vd n9 c3) (show m+(gi (l.take i)).length+(iQ l[i]).length+1=m+(gi (l.take (i+1))).length by rw[e9];simp only[List.length_append,List.length_cons,List.length_nil,Nat.add_assoc])),F,F,F,F,F,trivial⟩⟩
 have ta: ¬i<l.length:=by omega
 refine bJ ?_
 refine ai (ah F (aj F (ae (aA ?_))))
 refine aE (.slice jb (m+(gi (l.take i)).length) jc) Tryz.results112 F ?_
 have uf:i=l.length:=by omega
 subst uf
 rw[List.take_length]
 exact⟨jb,jc,F,F⟩
theorem kj (w:World) [cG Tryz.prog w] (cb:Nat) (eb:Option Addr) (en ec vs B:Nat) (hc:Sl w (aD cb) [.slice eb en ec,vI (vs:Int),vI (B:Int)]) (d:bU) (k:DK) (e:Int):
  cB Tryz.prog w (.iface 163 (.agg #[])) 101 [(cW (aD cb) 0),dV d k,vI e] [] (fun v N=>v=dV d k∧N=[]∧e=0∧d.next.length≤B) (¬(e=0∧d.next.length≤B)):=by
 refine cJ func101 F ntmps101 F ?_
 refine ai (ak F (cH (cs:=(dC d k)) F F (fun lX=>?_)))
 refine ak F (aR aY F (fun vd=>?_))
 refine ae (aB (aB ?_))
 refine eD [(0,0),(1,0),(2,0),(3,0),(4,0),(5,0),(6,0),(7,0),(8,0),(9,0),(10,0),(11,0)] ?_
 refine ao F (az F) ?_
 by_cases he:e≠0
 ·refine ao F (aq (cT F F) (decide_eq_true he)) ?_
  refine ao F (az F) (a6 F F F (a6 F F F (a6 F F F (a6 F F F (a6 F F F (a6 F F F (a6 F F F ?_)))))))
  refine a6 F F F (ao F (bu F F) ?_)
  refine bw ?_
  refine bj F ?_
  refine aJ (ad (bG rn ve F) (ad (mv AA F) ?_))
  exact de F (rp F (fun _=>⟨F,fun h9=>by omega⟩))
 refine ao F (aq (cT F F) (decide_eq_false he)) (ao F (az F) ?_)
 refine aS F F F (aN bW F dM F F) ?_
 refine aS F F F (aQ 1 du F F F F) ?_
 refine aS F F F (bS du F) ?_
 refine aS F F F (az F) ?_
 refine aS F F F (aK F) ?_
 refine aS F F F (br iR F aO F F (ay hc) (by first|omega|(simp;done)|(simp;omega)|(simp_all;done)|(simp_all;omega))) ?_
 refine aS F F F (cd cS F F (ay hc) F) ?_
 refine aS F F F (fW F F) ?_
 refine ao F (bl F F) ?_
 refine bw ?_
 refine aC F (fun hc=>?_) (fun hc=>?_)
 ·have ML:d.next.length>B:=by omega
  refine aJ (ad (bG rn ve F) (ad (mv AA F) ?_))
  exact de F (rp F (fun _=>⟨F,fun h9=>by omega⟩))
 have wR: ¬d.next.length>B:=by omega
 have Ds:d.next.length≤B:=by omega
 refine av (ai (ad (dh 1 bW F aY F F F) (ak F (a8 (vs:=(dC d k)) 0 aY F F F F ?_))))
 refine ae (aA (ap ?_))
 refine bL (i:=0) Tryz.results101 bW F aY F F F ?_
 exact⟨[],Sub.z,F,F,by omega,Ds⟩
end Go.Proofs.YtgdbfideeeegmaaGreatDoor

namespace Go.Proofs.YtgdbfideeeegmaaGreatDoor
open Go.Lx Go.RowKit _root_.Go.Proofs.Tryz
theorem Gk (base:World) [cG Tryz.prog base] (b:Option Addr) (c:Nat) (xs:List Nat) (hS:Sl base b (x7 xs)) (hb:xs.length<9223372036854775807) (fv:Value) (p:Nat→Bool) (OO:List Lx.Item) (hy: ∀x∈xs,dn Tryz.prog base fv [.int .u8 (x:Int)] OO (fun v O'=>v=.bool (p x)∧O'=OO)):
  bm Tryz.prog base 128 [.slice b xs.length c,fv] OO (fun v O'=> ∃i:Int,v=vI i∧decide (i≥0)=xs.any p∧O'=OO):=by
 refine aw func128 F ntmps128 F ?_
 refine ai (aj F (ae (aB (ai (ah F (ad (bS underlying43 F) (ah F (ae (aG ?_)))))))))
 refine dm (fun(k:Nat) ρ O=>O=OO∧k≤xs.length∧(xs.take k).any p=false∧cw [(0,(.slice b xs.length c)),(1,fv),(7,vI (xs.length:Int)),(8,vI (k:Int))] ρ) (fun k=>xs.length-k) 0 ?_ ?_
 ·exact⟨F,Nat.zero_le _,F,⟨F,F,F,F,trivial⟩⟩
 rintro k ρ O ⟨rfl,hk,kJ,hH⟩
 obtain⟨fE,rfl⟩:=hH.elim
 clear hH
 refine ai (ad (bT F F) (ae (aB (aC F (fun hc=>?_) (fun hc=>?_)))))
 ·have iS:k<xs.length:=by omega
  refine av (aB (aG (ai (ah F (aj F (ae (ai (ah F (ah F (ah F (ad (cV (i:=k) underlying43 cI F F (ay hS) iS (by rw[List.length_map];exact iS)) (ad (cd underlying5 F F (ay hS) (zO iS)) ?_))))))))))))
  have oF:=hy xs[k] (List.getElem_mem iS)
  refine ak F (dx oF F F ?_)
  clear oF
  rintro v O' ⟨rfl,rfl⟩
  refine ae (T.cond F (fun hc=>?_) (fun hc=>?_))
  ·refine aB ?_
   refine aJ (ah F (aj F (ae (aA (ap ?_)))))
   refine aE (vI (k:Int)) Tryz.results128 F ?_
   exact⟨_,bn (List.Sublist.refl _),k,F,by rw[OI iS hc];exact decide_eq_true (by omega),F⟩
  refine av (aJ (ad (jD F F (by omega)) (ah F (ae ?_))))
  exact⟨k+1,by omega,F,by omega,Hh iS kJ hc,⟨F,F,F,F,trivial⟩⟩
 have HW: ¬k<xs.length:=by omega
 refine bJ ?_
 refine ai (aj F (ae (aA (ap ?_))))
 refine aE (vI (-1)) Tryz.results128 F ?_
 exact⟨_,bn (List.Sublist.refl _), -1,F,by rw[List.take_of_length_le (by omega)]at kJ;rw[kJ];decide,F⟩
theorem rP (base:World) [cG Tryz.prog base] (b:Option Addr) (c:Nat) (xs:List Nat) (hS:Sl base b (x7 xs)) (hb:xs.length<9223372036854775807) (fv:Value) (p:Nat→Bool) (OO:List Lx.Item) (hy: ∀x∈xs,dn Tryz.prog base fv [.int .u8 (x:Int)] OO (fun v O'=>v=.bool (p x)∧O'=OO)):
  bm Tryz.prog base 91 [.slice b xs.length c,fv] OO (fun v O'=>v=.bool (xs.any p)∧O'=OO):=by
 refine aw func91 F ntmps91 F ?_
 refine ai (aj F (ae (ai (ah F (ah F ?_)))))
 have AB:=Gk base b c xs hS hb fv p OO hy
 refine ak F (aP QD AB F ?_)
 clear AB
 rintro v O' ⟨i,rfl,hi,rfl⟩
 refine ad (jF F F) (aj F (ae (aA (ap ?_))))
 refine aE (.bool (decide (i≥0))) Tryz.results91 F ?_
 exact⟨_,bn (List.Sublist.refl _),congrArg Value.bool hi,F⟩
theorem BF (base:World) [cG Tryz.prog base] (d:bU) (nb fb:Option Addr) (nc fc:Nat) (KC:0≤d.vars) (Od:d.vars≤6) (bx x:Nat) (hx:x<256):
  bm Tryz.prog base 94 [.int .u8 (x:Int),.pointer (aD bx)] [oI bx 25 [(vI d.vars),(vI d.start),(.slice nb d.next.length nc),(.slice fb d.ax.length fc)]] (fun v O'=>v=.bool (decide (2^d.vars.toNat≤x))∧O'=[oI bx 25 [(vI d.vars),(vI d.start),(.slice nb d.next.length nc),(.slice fb d.ax.length fc)]]):=by
 refine aw func94 F ntmps94 F ?_
 refine ai (aj F (ae (ai (ah F (ad (et underlying5 underlying3 F (fz ⟨by omega,by omega⟩)) (ad (aN underlying25 F aO F F) (ad (aQ 0 underlying3 F F F F) (ad (kV (v:=d.vars.toNat) F (by show Value.int _ d.vars=_;rw[Int.toNat_of_nonneg KC]) (by omega)) (ad (jF F F) (aj F (ae (aA ?_))))))))))))
 refine aE (.bool (decide ((x:Int)≥((2^d.vars.toNat:Nat):Int)))) Tryz.results94 F ?_
 exact⟨congrArg Value.bool (decide_eq_decide.2 (by omega)),F⟩
theorem Yf (w:World) [cG Tryz.prog w] (d:bU) (nb fb:Option Addr) (nc fc:Nat) (vs:List Value) (h:fZ w d nb vs fb) (hv:Valid d) (wb:Option Addr) (wc:Nat) (l:List Nat) (hW:Sl w wb (x7 l)) (RA:l.length<9223372036854775807) (Mp:Wd d l):
  bI Tryz.prog 95 [.agg (dB d nb nc fb fc).toArray,.slice wb l.length wc] w fun v N=>v=vI ((Lx.runN d d.start.toNat l:Nat):Int)∧N=[]:=by
 refine aw func95 F ntmps95 F ?_
 have x3:=hv.s0
 have MM:=hv.s1
 have KB:=h.rows.1
 let eQ:Value:=(.slice fb d.ax.length fc)
 let jj:Value:=(.slice nb d.next.length nc)
 refine ai (ak F (cH (cs:=[(vI d.vars),(vI d.start),jj,eQ]) F F (fun b1=>?_)))
 refine aj F (ae (ai (ad (aN underlying146 F aY F F) (ad (aN underlying25 F aO F F) (ad (a7 (aQ 0 underlying3 F F F F) (v':=vI ((Lx.runN d d.start.toNat (l.take 0):Nat):Int)) (by show Value.int _ d.start=_;rw[show Lx.runN d d.start.toNat (l.take 0)=d.start.toNat from F,Int.toNat_of_nonneg x3])) (aj F (ae (aB (ai (ah F (ad (bS underlying43 F) (ah F (ae (aG ?_))))))))))))))
 refine dm (fun(k:Nat) ρ O=>O=[oI b1 146 [(vI d.vars),(vI d.start),jj,eQ]]∧k≤l.length∧cw [(0,(.agg #[(vI d.vars),(vI d.start),jj,eQ])),(1,(.slice wb l.length wc)),(2,(.pointer (aD b1))),(4,vI 0),(5,vI ((Lx.runN d d.start.toNat (l.take k):Nat):Int)),(11,(.slice wb l.length wc)),(12,vI (l.length:Int)),(13,vI (k:Int))] ρ) (fun k=>l.length-k) 0 ?_ ?_
 ·exact⟨F,Nat.zero_le _,(.of F)⟩
 rintro k ρ O ⟨rfl,hk,hH⟩
 obtain⟨fE,rfl⟩:=hH.elim
 clear hH
 refine ai (ad (bT F F) (ae (aB (aC F (fun hc=>?_) (fun hc=>?_)))))
 ·have nF:k<l.length:=by omega
  obtain⟨o,ho⟩: ∃o,Lx.runN d d.start.toNat (l.take k)=o:=⟨_,F⟩
  have Vf:o<d.next.length:=by rw[←ho];exact jW hv.toVal (by omega) _ (fun x hx=>Mp x (List.mem_of_mem_take hx))
  have TH:l[k]<2^d.vars.toNat:=Mp _ (List.getElem_mem nF)
  obtain⟨vb,vc,g1,s1⟩:=h.rows.get Vf
  have HX:d.next[o].length=2^d.vars.toNat:=hv.len _ (List.getElem_mem Vf)
  obtain⟨hta,_,Yg,LX⟩:=hv.fF Vf TH
  have LX:(ints d.next[o])[l[k]]? =some (vI ((dY d o l[k]:Nat):Int)):=by rw[fp Yg,LX]
  refine av (aB (aG (ai (ad (cV (i:=k) underlying43 cI F F (ay hW) nF (by rw[List.length_map];exact nF)) (ad (cd underlying5 F F (ay hW) (zO nF)) (aj F (ae (aJ (ad (aN underlying146 F aY F F) (ad (aN underlying25 F dM F F) (ad (aQ 0 underlying22 F F F F) (ad (a7 (az F) (v':=vI ((o:Nat):Int)) (by show Value.int _ _=_;rw[ho])) (ad (cV (i:=o) underlying22 bV F F (ay h.outer) Vf (KB▸Vf)) (ad (cd underlying56 F F (ay h.outer) g1) (ah F (ad (cV (i:=l[k]) underlying56 aO F F (ay s1) (by rw[HX];exact TH) (by rw[List.length_map,HX];exact TH)) (ad (cd underlying3 F F (ay s1) LX) (aj F (ae (aJ (ad (jD F F (by omega)) (ah F ?_))))))))))))))))))))))
  refine ae ?_
  refine⟨k+1,by omega,F,by omega,?_⟩
  rw[Gl nF,ho];exact(.of F)
 have vu: ¬k<l.length:=by omega
 refine bJ ?_
 refine ai (ah F (aj F (ae (aA (ap ?_)))))
 refine aE (vI ((Lx.runN d d.start.toNat (l.take k):Nat):Int)) Tryz.results95 F ?_
 have Rr:k=l.length:=by omega
 exact⟨[],bn (List.nil_sublist _),by rw[List.take_of_length_le (by omega)],F⟩
theorem Yh (w:World) [cG Tryz.prog w] (d:bU) (nb fb:Option Addr) (nc fc:Nat) (vs:List Value) (h:fZ w d nb vs fb) (hb:d.next.length<9223372036854775807) (rQ: ∀r∈d.next,r.length<9223372036854775807) (tN:d.ax.length<9223372036854775807) (wb:Option Addr) (wc:Nat) (l:List Nat) (hW:Sl w wb (x7 l)) (RA:l.length<9223372036854775807) (VU: ∀x∈l,x<256):
  bI Tryz.prog 58 [.agg (dB d nb nc fb fc).toArray,.slice wb l.length wc] w fun v N=>v=.tuple #[vI ((t_ d l:Nat):Int),vI ((j7 d l:Nat):Int)]∧N=[]:=by
 refine aw func58 F ntmps58 F ?_
 refine ai (ak F (cH (cs:=[(vI d.vars),(vI d.start),(.slice nb d.next.length nc),(.slice fb d.ax.length fc)]) F F (fun b1=>?_)))
 refine aj F (aj F (ae (aB (ai (ad (dh 0 underlying25 F aY F F F) ?_)))))
 let il:List Lx.Item:=[oI b1 25 [(vI d.vars),(vI d.start),(.slice nb d.next.length nc),(.slice fb d.ax.length fc)]]
 have s8:=fun(w1:World) (hI:Inv w il w1)=>(haveI:=Inv.tab (P:=Tryz.prog) hI;gF w1 d nb fb nc fc vs (hI.zP h) hb rQ tN)
 refine ak F (aP tA (aI s8) F ?_)
 clear s8
 rintro v O' ⟨N,rfl,rfl,rfl⟩
 refine aj F (ae (ai (ah F ?_)))
 by_cases hE:(cE d:Int)≠0
 ·refine ad (aq (cT F F) (decide_eq_true hE)) ?_
  refine ae ?_
  refine bj F ?_
  refine ai (ah F (aj F (aj F (ae (aA (ap ?_))))))
  refine cy (vI 0) (vI (cE d:Int)) Tryz.results58 F F ?_
  have Q7:j7 d l=cE d:=by unfold j7;rw[if_pos (by omega)]
  have GL: ¬j7 d l=0:=by omega
  exact⟨[],bn (List.nil_sublist _),by unfold t_;rw[if_neg GL,Q7];try rfl,F⟩
 refine ad (aq (cT F F) (decide_eq_false hE)) (ae (aL F (av (aB (aG (aB ?_))))))
 have he:cE d=0:=by omega
 have hv:Valid d:=dq.1 he
 refine aJ (ah F (ad (bS underlying43 F) ?_))
 by_cases ZW:(l.length:Int)>64
 ·refine ad (aq (fW F F) (decide_eq_true ZW)) ?_
  refine aj F (ae ?_)
  refine bj F ?_
  refine ai (aj F (aj F (ae (aA (ap ?_)))))
  refine cy (vI 0) (vI 4) Tryz.results58 F F ?_
  have Q7:j7 d l=4:=by unfold j7;rw[if_neg (by simp[he]),if_pos (by omega)]
  have GL: ¬j7 d l=0:=by omega
  exact⟨[],bn (List.nil_sublist _),by unfold t_;rw[if_neg GL,Q7];try rfl,F⟩
 refine ad (aq (fW F F) (decide_eq_false ZW)) (aj F (ae (aL F (ai (ah F (ad (dQ) ?_))))))
 by_cases kJ:l.any (fun x=>decide (2^d.vars.toNat≤x))=true
 ·have lh:=(rP w wb wc l hW RA (.func (.func 94) #[] #[.pointer (aD b1)]) (fun x=>decide (2^d.vars.toNat≤x)) il (fun x hx=>bQ (first:=[]) (args:=[.int .u8 (x:Int)]) (eY:=[.pointer (aD b1)]) NY (BF w d nb fb nc fc hv.v0 hv.v6 b1 x (VU x hx)))).mono (fun v O' hh=>(⟨hh.1.trans (congrArg Value.bool ((show∀b:Bool,b=decide (b=true)from fun b=>by cases b<;>rfl) _)),hh.2⟩:v=.bool (decide (l.any (fun x=>decide (2^d.vars.toNat≤x))=true))∧O'=il))
  refine ak F (aP NX lh F ?_)
  clear lh
  rintro v O' ⟨rfl,rfl⟩
  rw[decide_eq_true kJ]
  refine aj F (ae ?_)
  refine bj F ?_
  refine ai (aj F (aj F (ae (aA (ap ?_)))))
  refine cy (vI 0) (vI 1) Tryz.results58 F F ?_
  have Q7:j7 d l=1:=by unfold j7;rw[if_neg (by simp[he]),if_neg (by omega),if_pos kJ]
  have GL: ¬j7 d l=0:=by omega
  exact⟨[],bn (List.nil_sublist _),by unfold t_;rw[if_neg GL,Q7];try rfl,F⟩
 have lh:=(rP w wb wc l hW RA (.func (.func 94) #[] #[.pointer (aD b1)]) (fun x=>decide (2^d.vars.toNat≤x)) il (fun x hx=>bQ (first:=[]) (args:=[.int .u8 (x:Int)]) (eY:=[.pointer (aD b1)]) NY (BF w d nb fb nc fc hv.v0 hv.v6 b1 x (VU x hx)))).mono (fun v O' hh=>(⟨hh.1.trans (congrArg Value.bool ((show∀b:Bool,b=decide (b=true)from fun b=>by cases b<;>rfl) _)),hh.2⟩:v=.bool (decide (l.any (fun x=>decide (2^d.vars.toNat≤x))=true))∧O'=il))
 refine ak F (aP NX lh F ?_)
 clear lh
 rintro v O' ⟨rfl,rfl⟩
 rw[decide_eq_false kJ]
 refine aj F (ae (aL F (av (aB ?_))))
 have GL:j7 d l=0:=by unfold j7;rw[if_neg (by simp[he]),if_neg (by omega),if_neg kJ]
 have Mp:Wd d l:=(sq.1 GL).2.2
 refine aJ (ad (dh 0 underlying25 F aY F F F) (ad (bG (cs:=[(vI d.vars),(vI d.start),(.slice nb d.next.length nc),(.slice fb d.ax.length fc)]) L6 Qw (by kernel_rfl)) (ad (dQ) (aj F (ae (ai (ah F (ah F ?_))))))))
 have Jz:=bQ (first:=[.agg (dB d nb nc fb fc).toArray]) (args:=[.slice wb l.length wc]) (eY:=[]) UG (aI (fun w1 (hI:Inv w il w1)=>haveI:=Inv.tab (P:=Tryz.prog) hI;Yf w1 d nb fb nc fc vs (hI.zP h) hv wb wc l (hI.sl hW) RA Mp))
 refine ak F (dx Jz F F ?_)
 clear Jz
 rintro v O' ⟨N,rfl,rfl,rfl⟩
 refine aj F (aj F (ae (aA (ap ?_))))
 refine cy (vI ((Lx.runN d d.start.toNat l:Nat):Int)) (vI 0) Tryz.results58 F F ?_
 have Q7:=GL
 exact⟨[],bn (List.nil_sublist _),by unfold t_;rw[if_pos GL,Q7];try rfl,F⟩
theorem HQ (w:World) [cG Tryz.prog w] (d:bU) (nb fb:Option Addr) (nc fc:Nat) (vs:List Value) (h:fZ w d nb vs fb) (hb:d.next.length<9223372036854775807) (rQ: ∀r∈d.next,r.length<9223372036854775807) (tN:d.ax.length<9223372036854775807) (wb:Option Addr) (wc:Nat) (l:List Nat) (hW:Sl w wb (x7 l)) (RA:l.length<9223372036854775807) (VU: ∀x∈l,x<256):
  bI Tryz.prog 29 [.agg (dB d nb nc fb fc).toArray,.slice wb l.length wc] w fun v N=>v=.tuple #[.bool (E5 d l),vI ((j7 d l:Nat):Int)]∧N=[]:=by
 refine aw func29 F ntmps29 F ?_
 refine ai (ak F (cH (cs:=[(vI d.vars),(vI d.start),(.slice nb d.next.length nc),(.slice fb d.ax.length fc)]) F F (fun b1=>?_)))
 refine aj F (aj F (ae (ai (ad (dh 0 underlying25 F aY F F F) (ah F ?_)))))
 have AL:=fun(w1:World) (hI:Inv w [oI b1 25 [(vI d.vars),(vI d.start),(.slice nb d.next.length nc),(.slice fb d.ax.length fc)]] w1)=>(haveI:=Inv.tab (P:=Tryz.prog) hI;Yh w1 d nb fb nc fc vs (hI.zP h) hb rQ tN wb wc l (hI.sl hW) RA VU)
 refine ak F (aP UC (aI AL) F ?_)
 clear AL
 rintro v O' ⟨N,rfl,rfl,rfl⟩
 refine ah F (ad (aV (vs:=_) F F) (ad (aV (vs:=_) F F) (aj F (aj F (ae (aB ?_))))))
 have wC:j7 d l=0→t_ d l<d.ax.length:=fun h0=>by
  obtain⟨hv,_,Mp⟩:=sq.1 h0
  unfold t_;rw[if_pos h0,hv.fin]
  exact jW hv.toVal (by have:=hv.s0;have:=hv.s1;omega) _ Mp
 refine aJ (ah F ?_)
 by_cases h0:((j7 d l:Nat):Int)=0
 ·refine ad (aq (aZ F F) (decide_eq_true h0)) ?_
  refine ah F (au F F (aN underlying25 F cA F F) (au F F (aQ 0 underlying23 F F F F) (au F F (az F) (au F F (cV (i:=(t_ d l)) underlying23 dU F F (ay h.ax) (wC (by omega)) (by rw[List.length_map];exact wC (by omega))) (au F F (cd underlying4 F F (ay h.ax) (show(bf d.ax)[t_ d l]? =some (.bool (cF d (t_ d l))) by rw[fY (wC (by omega))];simp[cF,wC (by omega)])) (ad (bu F F) (ah F (aj F (aj F (ae (aA (ap ?_))))))))))))
  refine cy (.bool (cF d (t_ d l))) (vI ((j7 d l:Nat):Int)) Tryz.results29 F F ?_
  have h9:j7 d l=0:=by omega
  exact⟨[],bn (List.nil_sublist _),by unfold E5 t_;rw[if_pos h9,if_pos h9],F⟩
 refine ad (aq (aZ F F) (decide_eq_false h0)) (ah F (aF F F (aF F F (aF F F (aF F F (aF F F (ad (bl F F) (ah F (aj F (aj F (ae (aA (ap ?_)))))))))))))
 refine cy (.bool false) (vI ((j7 d l:Nat):Int)) Tryz.results29 F F ?_
 have h9: ¬j7 d l=0:=by omega
 exact⟨[],bn (List.nil_sublist _),by unfold E5;rw[if_neg h9],F⟩
end Go.Proofs.YtgdbfideeeegmaaGreatDoor

namespace Go.Proofs.YtgdbfideeeegmaaGreatDoor
open Go.Lx Go.RowKit _root_.Go.Proofs.Tryz
theorem xU:Dy Tryz.prog 234 {name:= "s",type:=3,offset:=0,embedded:=false,tag:= "",pkgPath:= "sentinel/boolean",byteOffset:=0} {name:= "t",type:=3,offset:=1,embedded:=false,tag:= "",pkgPath:= "sentinel/boolean",byteOffset:=8}:=⟨lz,cS,cS,F,F,by decide,by decide,by kernel_rfl⟩
theorem JS (w:World) [cG Tryz.prog w] (a b:bU) (j k:DK) (ha:At w a j) (hb:At w b k) (Kr:a.next.length<9223372036854775807) (wI: ∀r∈a.next,r.length<9223372036854775807) (wJ:a.ax.length<9223372036854775807) (Qk:b.next.length<9223372036854775807) (JT: ∀r∈b.next,r.length<9223372036854775807) (JU:b.ax.length<9223372036854775807) (he:fA a b≠0):
  bI Tryz.prog 190 [dV a j,dV b k] w fun v N=>v=.tuple #[.pointer none,vI (fA a b:Int)]∧N=[]:=by
 refine aw func190 F ntmps190 F ?_
 refine ai (ak F (cH (cs:=(dC a j)) F F (fun lX=>?_)))
 refine ak F (cH (cs:=(dC b k)) F F (fun vd=>?_))
 refine aj F (aj F (ae (aB (ai (ad (dh 1 bW F aY F F F) (ak F (aP tA (aI fun w1 hI=>(haveI:=di hI;gF w1 a j.nb j.fb j.nc j.fc (bO j.qs) (hI.zP ha) Kr wI wJ)) F ?_)))))))
 rintro vr O' ⟨N,rfl,rfl,rfl⟩
 refine aj F (ae (ai (ah F (ad (cT F F) (ae (aC F (fun hc=>?_) (fun hc=>?_)))))))
 ·have AC:cE a≠0:=by omega
  refine ai (ah F (aj F (aj F (ae (aA (ap ?_))))))
  refine cy (.pointer none) (vI (cE a:Int)) Tryz.results190 F F ?_
  exact⟨[],Sub.z,by rw[zw (by omega)],F⟩
 have Nn: ¬cE a≠0:=by omega
 refine av (aB (ai (ad (dh 0 bW F aY F F F) (ak F (aP tA (aI fun w1 hI=>(haveI:=di hI;gF w1 b k.nb k.fb k.nc k.fc (bO k.qs) (hI.zP hb) Qk JT JU)) F ?_)))))
 rintro vr O' ⟨N,rfl,rfl,rfl⟩
 refine aj F (ae (ai (ah F (ad (cT F F) (ae (aC F (fun hc=>?_) (fun hc=>?_)))))))
 ·have ZK:cE b≠0:=by omega
  refine ai (ah F (aj F (aj F (ae (aA (ap ?_))))))
  refine cy (.pointer none) (vI (cE b:Int)) Tryz.results190 F F ?_
  exact⟨[],Sub.z,by rw[xY (by omega) (by omega)],F⟩
 have ZL: ¬cE b≠0:=by omega
 refine av (aB (ai (ad (aN bW F aO F F) (ad (aQ 1 cS F F F F) (ad (aN bW F aO F F) (ad (aQ 0 cS F F F F) (ad (cT F F) (ae (aC (p:= ¬a.vars=b.vars) (congrArg Value.bool (decide_eq_decide.2 (by omega))) (fun hc=>?_) (fun hc=>?_))))))))))
 ·refine aB ?_
  refine aJ (aj F (aj F (ae (aA (ap ?_)))))
  refine cy (.pointer none) (vI 7) Tryz.results190 F F ?_
  exact⟨[],Sub.z,by rw[B4 (by omega) (by omega) hc];rfl,F⟩
 refine absurd (nW.2 ⟨dq.1 (by omega),dq.1 (by omega),Classical.not_not.1 hc⟩) he
theorem EP (w:World) [cG Tryz.prog w] (a b:bU) (j k:DK) (ha:At w a j) (hb:At w b k) (va:Valid a) (vb:Valid b) (hv:a.vars=b.vars):
  bI Tryz.prog 190 [dV a j,dV b k] w fun v N=> ∃(bp qb m:Nat),v=.tuple #[.pointer (aD bp),vI 0]∧N=[oI bp 238 [(vI a.vars),(vI a.start),(.slice j.nb a.next.length j.nc),(.slice j.fb a.ax.length j.fc),(vI b.vars),(vI b.start),(.slice k.nb b.next.length k.nc),(.slice k.fb b.ax.length k.fc),(.slice (aD qb) ([a.start.toNat*b.next.length+b.start.toNat].length) 1),(.map (some m))],am (aD qb) 1 234 2 (jM b.next.length [a.start.toNat*b.next.length+b.start.toNat]),cm dv (fun n:Nat=>Value.int .i64 (n:Int)) m (pmap b.next.length [a.start.toNat*b.next.length+b.start.toNat])]:=by
 refine aw func190 F ntmps190 F ?_
 have wa:cE a=0:=dq.2 va
 have wb:cE b=0:=dq.2 vb
 have MM:a.start=((a.start.toNat:Nat):Int):=by have:=va.s0;omega
 have BM:b.start=((b.start.toNat:Nat):Int):=by have:=vb.s0;omega
 have KW:=xX (s:=a.start.toNat) (dl vb.toVal)
 refine ai (ak F (cH (cs:=(dC a j)) F F (fun lX=>?_)))
 refine ak F (cH (cs:=(dC b k)) F F (fun vd=>?_))
 refine aj F (aj F (ae (aB (ai (ad (dh 1 bW F aY F F F) (ak F (aP tA (aI fun w1 hI=>(haveI:=di hI;gF w1 a j.nb j.fb j.nc j.fc (bO j.qs) (hI.zP ha) (by have:=va.n4;omega) va.uA (by have:=va.fin;have:=va.n4;omega))) F ?_)))))))
 rintro vr O' ⟨N,rfl,rfl,rfl⟩
 rw[wa]
 refine aj F (ae (ai (ah F (ad (cT F F) (ae (aL F (av (aB (ai (ad (dh 0 bW F aY F F F) (ak F (aP tA (aI fun w1 hI=>(haveI:=di hI;gF w1 b k.nb k.fb k.nc k.fc (bO k.qs) (hI.zP hb) (by have:=vb.n4;omega) vb.uA (by have:=vb.fin;have:=vb.n4;omega))) F ?_))))))))))))
 rintro vr O' ⟨N,rfl,rfl,rfl⟩
 rw[wb]
 refine aj F (ae (ai (ah F (ad (cT F F) (ae (aL F (av (aB (ai (ad (aN bW F aO F F) (ad (aQ 1 cS F F F F) (ad (aN bW F aO F F) (ad (aQ 0 cS F F F F) (ad (cT F F) ?_))))))))))))))
 refine ae (aL (congrArg Value.bool (decide_eq_false (fun h=>h hv))) (av (ai (ad (aN bW F aO F F) (ad (aQ 1 cS F F F F) (ad (aN bW F aO F F) (ad (aQ 0 cS F F F F) (ad (bG (cs:=[(vI a.start),(vI b.start)]) Ef fH (by kernel_rfl)) (ak F (aR fH F (fun Ip=>?_)))))))))))
 refine ak F (a8 (vs:=[(vI a.start),(vI b.start)]) 0 fH F F F F ?_)
 refine ae ?_
 let eQ:Value:=(.slice j.fb a.ax.length j.fc)
 let jj:Value:=(.slice k.fb b.ax.length k.fc)
 let il:Value:=(.slice j.nb a.next.length j.nc)
 let iL:Value:=(.slice k.nb b.next.length k.nc)
 refine e7 (fun ρ O=> ∃(bp qb m:Nat),O=[oI bp 238 [(vI a.vars),(vI a.start),il,eQ,(vI b.vars),(vI b.start),iL,jj,(.slice (aD qb) 1 1),(.map (some m))],am (aD qb) 1 234 2 [(vI a.start),(vI b.start)],cm dv (fun n:Nat=>Value.int .i64 (n:Int)) m [((a.start,b.start),(0:Nat))]]∧cw [(0,(dV a j)),(1,(dV b k)),(2,(.pointer (aD lX))),(3,(.pointer (aD vd))),(4,(.pointer (aD bp))),(5,vI 0),(6,vN 0),(7,vN 0),(8,(.pointer (aD Ip)))] ρ) ?_ ?_
 ·refine ma [oI Ip 234 [(vI a.start),(vI b.start)],oI vd 25 (dC b k),oI lX 25 (dC a j)] 12 mixed F (by exact Sub.rf) (fun _ _ _ _ h=>h) ?_
  refine bF 0 F (by kernel_rfl) (dh 2 bW F aY F F F) ?_
  refine bF 1 F (by kernel_rfl) (dh 1 bW F aY F F F) ?_
  refine bF 2 F (by kernel_rfl) (dh 0 lz F fH F F F) ?_
  refine bF 5 F (by kernel_rfl) (dh 0 lz F fH F F F) ?_
  refine aM [3,4] (by kernel_rfl) F ⟨⟨_,F,F,bH (m:=1) (parts:=[(0,_)]) (cs:=[(vI a.start),(vI b.start)]) ku fH (by decide) (by kernel_rfl) F (fun qb=>⟨by exact Sub.d (.k (.k (.k .z))),?_⟩)⟩,⟨_,F,F,i_ dv (fun n:Nat=>Value.int .i64 (n:Int)) (fun m=>⟨by exact Sub.d (.k (.k (.k .z))),?_⟩)⟩,trivial⟩
  ·refine aM [4] (by kernel_rfl) F ⟨⟨_,F,F,i_ dv (fun n:Nat=>Value.int .i64 (n:Int)) (fun m=>⟨by exact Sub.d (.d (.k (.k (.k .z)))),?_⟩)⟩,trivial⟩
   refine aM [6] (by kernel_rfl) F ⟨⟨_,F,F,ep (a:=(a.start,b.start)) (v:=(0:Nat)) 0 rM (iq xU) F F F F (by simp) ⟨by exact Sub.d (.d (.k (.k (.k .z)))),?_⟩⟩,trivial⟩
   refine bF 7 F (by kernel_rfl) (az F) ?_
   refine bF 8 F (by kernel_rfl) (bG (cs:=[(vI a.vars),(vI a.start),il,eQ,(vI b.vars),(vI b.start),iL,jj,(.slice (aD qb) 1 1),(.map (some m))]) yR C0 (by kernel_rfl)) ?_
   refine aM [9] (by kernel_rfl) F ⟨⟨_,F,F,cH (cs:=[(vI a.vars),(vI a.start),il,eQ,(vI b.vars),(vI b.start),iL,jj,(.slice (aD qb) 1 1),(.map (some m))]) F F (fun bp=>⟨by exact Sub.d (.d (.d (.k (.k (.k .z))))),?_⟩)⟩,trivial⟩
   refine bF 10 F (by kernel_rfl) (bt F) ?_
   refine bF 11 F (by kernel_rfl) (bt F) ?_
   exact cz (by kernel_rfl) ⟨bp,qb,m,F,(.of F)⟩ (by exact Sub.k (.dr [cm dv (fun n:Nat=>Value.int .i64 (n:Int)) m [((a.start,b.start),(0:Nat))]] _ (.k .z)))
  refine aM [3,6] (by kernel_rfl) F ⟨⟨_,F,F,bH (m:=1) (parts:=[(0,_)]) (cs:=[(vI a.start),(vI b.start)]) ku fH (by decide) (by kernel_rfl) F (fun qb=>⟨by exact Sub.d (.d (.k (.k (.k .z)))),?_⟩)⟩,⟨_,F,F,ep (a:=(a.start,b.start)) (v:=(0:Nat)) 0 rM (iq xU) F F F F (by simp) ⟨by exact Sub.d (.k (.k (.k .z))),?_⟩⟩,trivial⟩
  ·refine aM [6] (by kernel_rfl) F ⟨⟨_,F,F,ep (a:=(a.start,b.start)) (v:=(0:Nat)) 1 rM (iq xU) F F F F (by simp) ⟨by exact Sub.d (.d (.k (.k (.k .z)))),?_⟩⟩,trivial⟩
   refine bF 7 F (by kernel_rfl) (az F) ?_
   refine bF 8 F (by kernel_rfl) (bG (cs:=[(vI a.vars),(vI a.start),il,eQ,(vI b.vars),(vI b.start),iL,jj,(.slice (aD qb) 1 1),(.map (some m))]) yR C0 (by kernel_rfl)) ?_
   refine aM [9] (by kernel_rfl) F ⟨⟨_,F,F,cH (cs:=[(vI a.vars),(vI a.start),il,eQ,(vI b.vars),(vI b.start),iL,jj,(.slice (aD qb) 1 1),(.map (some m))]) F F (fun bp=>⟨by exact Sub.d (.d (.d (.k (.k (.k .z))))),?_⟩)⟩,trivial⟩
   refine bF 10 F (by kernel_rfl) (bt F) ?_
   refine bF 11 F (by kernel_rfl) (bt F) ?_
   exact cz (by kernel_rfl) ⟨bp,qb,m,F,(.of F)⟩ (by exact Sub.k (.k (.k .z)))
  refine bF 7 F (by kernel_rfl) (az F) ?_
  refine aM [3] (by kernel_rfl) F ⟨⟨_,F,F,bH (m:=1) (parts:=[(0,_)]) (cs:=[(vI a.start),(vI b.start)]) ku fH (by decide) (by kernel_rfl) F (fun qb=>⟨by exact Sub.d (.d (.k (.k (.k .z)))),?_⟩)⟩,trivial⟩
  refine bF 8 F (by kernel_rfl) (bG (cs:=[(vI a.vars),(vI a.start),il,eQ,(vI b.vars),(vI b.start),iL,jj,(.slice (aD qb) 1 1),(.map (some m))]) yR C0 (by kernel_rfl)) ?_
  refine aM [9] (by kernel_rfl) F ⟨⟨_,F,F,cH (cs:=[(vI a.vars),(vI a.start),il,eQ,(vI b.vars),(vI b.start),iL,jj,(.slice (aD qb) 1 1),(.map (some m))]) F F (fun bp=>⟨by exact Sub.d (.d (.d (.k (.k (.k .z))))),?_⟩)⟩,trivial⟩
  refine bF 10 F (by kernel_rfl) (bt F) ?_
  refine bF 11 F (by kernel_rfl) (bt F) ?_
  exact cz (by kernel_rfl) ⟨bp,qb,m,F,(.of F)⟩ (by exact Sub.k (.k (.k .z)))
 rintro ρ O ⟨bp,qb,m,rfl,hH⟩
 obtain⟨fE,rfl⟩:=hH.elim
 clear hH
 refine aA (ap ?_)
 refine cy (.pointer (aD bp)) (vI 0) Tryz.results190 F F ?_
 have e1:jM b.next.length [a.start.toNat*b.next.length+b.start.toNat]=[vI a.start,vI b.start]:=by
  simp only[jM,List.flatMap_cons,List.flatMap_nil,List.append_nil,MH,KW.1,KW.2,←MM,←BM]
 have e2:pmap b.next.length [a.start.toNat*b.next.length+b.start.toNat]=[((a.start,b.start),0)]:=by
  show[(un _ _,0)]=_
  simp only[un,KW.1,KW.2,←MM,←BM]
 exact⟨[oI bp 238 [(vI a.vars),(vI a.start),il,eQ,(vI b.vars),(vI b.start),iL,jj,(.slice (aD qb) 1 1),(.map (some m))],am (aD qb) 1 234 2 [(vI a.start),(vI b.start)],cm dv (fun n:Nat=>Value.int .i64 (n:Int)) m [((a.start,b.start),(0:Nat))]],(by exact Sub.rf),bp,qb,m,F,by rw[e1,e2];rfl⟩
theorem JV (w:World) [cG Tryz.prog w] (bp:Nat):bI Tryz.prog 191 [.pointer (aD bp)] w fun v N=> ∃b,v=.func (.func 218) #[] #[.pointer (aD b)]∧N=[oI b 227 [(.pointer (aD bp))]]:=by
 refine aw func191 F ntmps191 F ?_
 refine ai (ak F (cH (cs:=[(.pointer (aD bp))]) F F (fun lX=>?_)))
 refine aj F (ae (ai (ad (dQ) (aj F (ae (aA ?_))))))
 refine aE (.func (.func 218) #[] #[(.pointer (aD lX))]) Tryz.results191 F ?_
 exact⟨lX,F,F⟩
theorem UR (base:World) [cG Tryz.prog base] (a b:bU) (j k:DK) (bp m:Nat) (ks:List Nat) (c:Nat) (qb:Option Addr) (qc:Nat) (hk:c∈ks) (hl:ks.length≤17000000):
  bm Tryz.prog base 219 [.pointer (aD bp),(.agg #[vN (c/b.next.length),vN (c%b.next.length)])] [oI bp 238 [(vI a.vars),(vI a.start),(.slice j.nb a.next.length j.nc),(.slice j.fb a.ax.length j.fc),(vI b.vars),(vI b.start),(.slice k.nb b.next.length k.nc),(.slice k.fb b.ax.length k.fc),(.slice qb ks.length qc),(.map (some m))],am qb qc 234 2 (jM b.next.length ks),cm dv (fun n:Nat=>Value.int .i64 (n:Int)) m (pmap b.next.length ks)] (fun v O'=>v=vN (ix c (add ks c))∧ ∃JW JX,O'=[oI bp 238 [(vI a.vars),(vI a.start),(.slice j.nb a.next.length j.nc),(.slice j.fb a.ax.length j.fc),(vI b.vars),(vI b.start),(.slice k.nb b.next.length k.nc),(.slice k.fb b.ax.length k.fc),(.slice JW ((add ks c).length) JX),(.map (some m))],am JW JX 234 2 (jM b.next.length (add ks c)),cm dv (fun n:Nat=>Value.int .i64 (n:Int)) m (pmap b.next.length (add ks c))]):=by
 refine aw func219 F ntmps219 F ?_
 refine ai (ak F (cH (cs:=[vN (c/b.next.length),vN (c%b.next.length)]) F F (fun lX=>?_)))
 refine aj F (ae (aB ?_))
 let pN:Lx.Item:=oI bp 238 [(vI a.vars),(vI a.start),(.slice j.nb a.next.length j.nc),(.slice j.fb a.ax.length j.fc),(vI b.vars),(vI b.start),(.slice k.nb b.next.length k.nc),(.slice k.fb b.ax.length k.fc),(.slice qb ks.length qc),(.map (some m))]
 refine T.ds [oI lX 234 [vN (c/b.next.length),vN (c%b.next.length)],pN,am qb qc 234 2 (jM b.next.length ks),cm dv (fun n:Nat=>Value.int .i64 (n:Int)) m (pmap b.next.length ks)] [(0,0),(1,0),(2,0),(3,0),(4,0),(5,0),(6,0),(7,0),(8,0),(9,0),(10,0)] (by exact Sub.rf) ?_
 refine ao F (az F) (ao F (aK F) (ao F (aN mJ F yQ F F) (ao F (aQ 1 rM F F F F) (ao F (dh 0 lz F fH F F F) (ao F (a7 (gL (a:=un b.next.length c) rM aO (iq xU) F F (mG 3 F)) (v':=(.tuple #[vN (ix c ks),.bool true])) (by rw[iE];simp only[B5,hk,if_true,if_false,GH,Nat.zero_add];rfl)) (ao F (az F) (ao F (aV (vs:=_) F F) (ao F (aV (vs:=_) F F) (ao F (bt F) (ao F (bt F) ?_))))))))))
 refine bw ?_
 refine aB (ai (ah F (ad (gy F) (ae (aL F (av (ai (ah F (aj F (ae (aA (ap ?_))))))))))))
 refine aE (vN (ix c ks)) Tryz.results219 F ?_
 have ha:add ks c=ks:=if_pos hk
 rw[ha]
 exact⟨[pN,am qb qc 234 2 (jM b.next.length ks),cm dv (fun n:Nat=>Value.int .i64 (n:Int)) m (pmap b.next.length ks)],(by exact Sub.d (.k (.k (.k .z)))),F,qb,qc,F⟩
theorem US (base:World) [cG Tryz.prog base] (a b:bU) (j k:DK) (bp m:Nat) (ks:List Nat) (c:Nat) (qb:Option Addr) (qc:Nat) (hk:c∉ks) (hl:ks.length≤17000000):
  bm Tryz.prog base 219 [.pointer (aD bp),(.agg #[vN (c/b.next.length),vN (c%b.next.length)])] [oI bp 238 [(vI a.vars),(vI a.start),(.slice j.nb a.next.length j.nc),(.slice j.fb a.ax.length j.fc),(vI b.vars),(vI b.start),(.slice k.nb b.next.length k.nc),(.slice k.fb b.ax.length k.fc),(.slice qb ks.length qc),(.map (some m))],am qb qc 234 2 (jM b.next.length ks),cm dv (fun n:Nat=>Value.int .i64 (n:Int)) m (pmap b.next.length ks)] (fun v O'=>v=vN (ix c (add ks c))∧ ∃JW JX,O'=[oI bp 238 [(vI a.vars),(vI a.start),(.slice j.nb a.next.length j.nc),(.slice j.fb a.ax.length j.fc),(vI b.vars),(vI b.start),(.slice k.nb b.next.length k.nc),(.slice k.fb b.ax.length k.fc),(.slice JW ((add ks c).length) JX),(.map (some m))],am JW JX 234 2 (jM b.next.length (add ks c)),cm dv (fun n:Nat=>Value.int .i64 (n:Int)) m (pmap b.next.length (add ks c))]):=by
 refine aw func219 F ntmps219 F ?_
 refine ai (ak F (cH (cs:=[vN (c/b.next.length),vN (c%b.next.length)]) F F (fun lX=>?_)))
 refine aj F (ae (aB ?_))
 refine T.ds [oI lX 234 [vN (c/b.next.length),vN (c%b.next.length)],oI bp 238 [(vI a.vars),(vI a.start),(.slice j.nb a.next.length j.nc),(.slice j.fb a.ax.length j.fc),(vI b.vars),(vI b.start),(.slice k.nb b.next.length k.nc),(.slice k.fb b.ax.length k.fc),(.slice qb ks.length qc),(.map (some m))],am qb qc 234 2 (jM b.next.length ks),cm dv (fun n:Nat=>Value.int .i64 (n:Int)) m (pmap b.next.length ks)] [(0,0),(1,0),(2,0),(3,0),(4,0),(5,0),(6,0),(7,0),(8,0),(9,0),(10,0)] (by exact Sub.rf) ?_
 refine ao F (az F) (ao F (aK F) (ao F (aN mJ F yQ F F) (ao F (aQ 1 rM F F F F) (ao F (dh 0 lz F fH F F F) (ao F (a7 (gL (a:=un b.next.length c) rM aO (iq xU) F F (mG 3 F)) (v':=(.tuple #[vI 0,.bool false])) (by rw[iE];simp only[B5,hk,if_true,if_false,GH,Nat.zero_add];rfl)) (ao F (az F) (ao F (aV (vs:=_) F F) (ao F (aV (vs:=_) F F) (ao F (bt F) (ao F (bt F) ?_))))))))))
 refine bw ?_
 refine aB (ai (ah F (ad (gy F) (ae ?_))))
 refine bj F ?_
 refine ai (ah F (ad (aK F) (ad (aN mJ F np F F) (ad (aQ 1 ku F F F F) (ad (bS ku F) (aj F (ae (aB ?_))))))))
 refine T.ds [oI lX 234 [vN (c/b.next.length),vN (c%b.next.length)],oI bp 238 [(vI a.vars),(vI a.start),(.slice j.nb a.next.length j.nc),(.slice j.fb a.ax.length j.fc),(vI b.vars),(vI b.start),(.slice k.nb b.next.length k.nc),(.slice k.fb b.ax.length k.fc),(.slice qb ks.length qc),(.map (some m))],am qb qc 234 2 (jM b.next.length ks),cm dv (fun n:Nat=>Value.int .i64 (n:Int)) m (pmap b.next.length ks)] [(0,0),(1,0),(2,0),(3,0),(4,0),(5,0),(6,2)] (by exact Sub.rf) ?_
 refine ao F (az F) (ao F (aK F) (ao F (aN mJ F yQ F F) (ao F (aQ 1 rM F F F F) (ao F (dh 0 lz F fH F F F) (ao F (az F) ?_)))))
 refine bq F F (me (a:=un b.next.length c) (v:=ks.length) 3 rM (iq xU) F F F F (by rw[GI,B5];exact hk) ?_)
 refine bw ?_
 refine T.ds [oI lX 234 [vN (c/b.next.length),vN (c%b.next.length)],oI bp 238 [(vI a.vars),(vI a.start),(.slice j.nb a.next.length j.nc),(.slice j.fb a.ax.length j.fc),(vI b.vars),(vI b.start),(.slice k.nb b.next.length k.nc),(.slice k.fb b.ax.length k.fc),(.slice qb ks.length qc),(.map (some m))],cm dv (fun n:Nat=>Value.int .i64 (n:Int)) m ((pmap b.next.length ks)++[(un b.next.length c,ks.length)])] [(0,0),(1,0),(2,0),(3,0),(4,0),(5,0),(6,1),(7,1),(8,0),(9,0),(10,2)] (by exact Sub.k (.k (.d (.k .z)))) ?_
 refine ao F (az F) (ao F (az F) (ao F (aK F) (ao F (aN mJ F np F F) (ao F (aQ 1 ku F F F F) (ao F (dh 0 lz F fH F F F) ?_)))))
 refine bo F F (bH (m:=1) (parts:=[(0,_)]) (cs:=[vN (c/b.next.length),vN (c%b.next.length)]) ku fH (by decide) (by kernel_rfl) F (fun vd=>⟨by exact Sub.d (.k (.k (.d (.k .z)))),?_⟩))
 refine bo F F (bY 3 ku ku fH F F F F (by rw[xZ]) (by decide) (Src.row (j:=0) F (by simp)) (by simp[dS]) (by omega) (by decide) (by decide) (fun Ip c4=>⟨by exact Sub.d (.k (.k (.d (.k .z)))),?_⟩))
 refine ao F (aK F) (ao F (aN mJ F np F F) ?_)
 refine bq F F (a8 (vs:=[(.slice Ip (ks.length+1) c4)]) 2 np F F F F ?_)
 refine bw ?_
 refine ai (ah F (aj F (ae (aA (ap ?_)))))
 refine aE (vI (ks.length:Int)) Tryz.results219 F ?_
 have ha:add ks c=ks++[c]:=if_neg hk
 rw[ha]
 exact⟨[oI bp 238 [(vI a.vars),(vI a.start),(.slice j.nb a.next.length j.nc),(.slice j.fb a.ax.length j.fc),(vI b.vars),(vI b.start),(.slice k.nb b.next.length k.nc),(.slice k.fb b.ax.length k.fc),(.slice Ip (ks.length+1) c4),(.map (some m))],am Ip c4 234 2 ((jM b.next.length ks)++[vN (c/b.next.length),vN (c%b.next.length)]),cm dv (fun n:Nat=>Value.int .i64 (n:Int)) m ((pmap b.next.length ks)++[(un b.next.length c,ks.length)])],(by exact Sub.d (.d (.k (.k (.k .z))))),by rw[ei hk];simp[ix],_,_,by rw[GG,E3,List.length_append];rfl⟩
theorem pvC (base:World) [cG Tryz.prog base] (a b:bU) (j k:DK) (bp m:Nat) (ks:List Nat) (c:Nat) (qb:Option Addr) (qc:Nat) (hl:ks.length≤17000000):
  bm Tryz.prog base 219 [.pointer (aD bp),(.agg #[vN (c/b.next.length),vN (c%b.next.length)])] [cR bp (.cells (List.toArray [(vI a.vars),(vI a.start),(.slice j.nb a.next.length j.nc),(.slice j.fb a.ax.length j.fc),(vI b.vars),(vI b.start),(.slice k.nb b.next.length k.nc),(.slice k.fb b.ax.length k.fc),(.slice qb ks.length qc),(.map (some m))]) 238 (0,0)),am qb qc 234 2 (jM b.next.length ks),cm dv (fun n:Nat=>Value.int .i64 (n:Int)) m (pmap b.next.length ks)] (fun v O'=>v=vN (ix c (add ks c))∧ ∃JW JX,O'=[cR bp (.cells (List.toArray [(vI a.vars),(vI a.start),(.slice j.nb a.next.length j.nc),(.slice j.fb a.ax.length j.fc),(vI b.vars),(vI b.start),(.slice k.nb b.next.length k.nc),(.slice k.fb b.ax.length k.fc),(.slice JW ((add ks c).length) JX),(.map (some m))]) 238 (0,0)),am JW JX 234 2 (jM b.next.length (add ks c)),cm dv (fun n:Nat=>Value.int .i64 (n:Int)) m (pmap b.next.length (add ks c))]):=by
 by_cases hk:c∈ks
 ·exact UR base a b j k bp m ks c qb qc hk hl
 ·exact US base a b j k bp m ks c qb qc hk hl
end Go.Proofs.YtgdbfideeeegmaaGreatDoor

namespace Go.Proofs.YtgdbfideeeegmaaGreatDoor
open Go.Lx Go.RowKit _root_.Go.Proofs.Tryz
theorem pvS (base:World) [cG Tryz.prog base] (f:Bool→Bool→Bool) (a b:bU) (j k:DK) (bp m i o x:Nat) (qb:Option Addr) (qc:Nat) (va:Valid a) (vb:Valid b) (hv:a.vars=b.vars) (hq:(b_ (aU f a b) i)[i]? =some o) (hx:x<2^a.vars.toNat):
  bm Tryz.prog base 219 [.pointer (aD bp),(.agg #[vN ((dY (aU f a b) o x)/b.next.length),vN ((dY (aU f a b) o x)%b.next.length)])] [cR bp (.cells (List.toArray [(vI a.vars),(vI a.start),(.slice j.nb a.next.length j.nc),(.slice j.fb a.ax.length j.fc),(vI b.vars),(vI b.start),(.slice k.nb b.next.length k.nc),(.slice k.fb b.ax.length k.fc),(.slice qb ((jo (aU f a b) i o x).length) qc),(.map (some m))]) 238 (0,0)),am qb qc 234 2 (jM b.next.length (jo (aU f a b) i o x)),cm dv (fun n:Nat=>Value.int .i64 (n:Int)) m (pmap b.next.length (jo (aU f a b) i o x))] (fun v O'=>v=vN (ix (dY (aU f a b) o x) (order (aU f a b)))∧ ∃JW JX,O'=[cR bp (.cells (List.toArray [(vI a.vars),(vI a.start),(.slice j.nb a.next.length j.nc),(.slice j.fb a.ax.length j.fc),(vI b.vars),(vI b.start),(.slice k.nb b.next.length k.nc),(.slice k.fb b.ax.length k.fc),(.slice JW ((jo (aU f a b) i o (x+1)).length) JX),(.map (some m))]) 238 (0,0)),am JW JX 234 2 (jM b.next.length (jo (aU f a b) i o (x+1))),cm dv (fun n:Nat=>Value.int .i64 (n:Int)) m (pmap b.next.length (jo (aU f a b) i o (x+1)))]):=by
 have ho:=(iV (f:=f) va vb hv i).2 o (List.mem_of_getElem? hq)
 have Vy:=(List.getElem?_eq_some_iff.1 hq).1
 have Qh:=iO (f:=f) va vb hv i
 have hml:=zr (f:=f) va vb hv (i:=i) ho (Nat.le_of_lt hx)
 have h4:a.next.length*b.next.length≤4096*4096:=Nat.mul_le_mul va.n4 vb.n4
 rw[sS]
 refine(pvC base a b j k bp m (jo (aU f a b) i o x) (dY (aU f a b) o x) qb qc (by omega)).mono ?_
 rintro v O' ⟨rfl,h⟩
 refine⟨?_,h⟩
 rw[←sS,E2 hq (x:=x+1) hx (by rw[gY];omega) (by rw[sS];exact pA.2 (.inr F))]
theorem JY (base:World) [cG Tryz.prog base] (f:Bool→Bool→Bool) (a b:bU) (j k:DK) (ha:At base a j) (hb:At base b k) (va:Valid a) (vb:Valid b) (hv:a.vars=b.vars) (L:Nat) (hL:2^a.vars.toNat=L) (bx bp m:Nat) (XQ:Option Addr) (XR:Nat) (yv:Value) (J:Nat→List Lx.Item→Prop) (Q:List Lx.Item→Prop)
  (hy: ∀(i o:Nat) (qb:Option Addr) (qc rb:Nat) (O:List Lx.Item),(b_ (aU f a b) i)[i]? =some o→J i O→dn Tryz.prog base yv [(.agg #[vN (o/b.next.length),vN (o%b.next.length)]),.slice (aD rb) L L] (O++[oI bp 238 [(vI a.vars),(vI a.start),(.slice j.nb a.next.length j.nc),(.slice j.fb a.ax.length j.fc),(vI b.vars),(vI b.start),(.slice k.nb b.next.length k.nc),(.slice k.fb b.ax.length k.fc),(.slice qb ((b_ (aU f a b) (i+1)).length) qc),(.map (some m))],am qb qc 234 2 (jM b.next.length (b_ (aU f a b) (i+1))),cm dv (fun n:Nat=>Value.int .i64 (n:Int)) m (pmap b.next.length (b_ (aU f a b) (i+1))),am (aD rb) L 3 1 (ints (pH (aU f a b) o))])
   (fun v O'=>(v=.bool true∧ ∃O2,O'=O2++[oI bp 238 [(vI a.vars),(vI a.start),(.slice j.nb a.next.length j.nc),(.slice j.fb a.ax.length j.fc),(vI b.vars),(vI b.start),(.slice k.nb b.next.length k.nc),(.slice k.fb b.ax.length k.fc),(.slice qb ((b_ (aU f a b) (i+1)).length) qc),(.map (some m))],am qb qc 234 2 (jM b.next.length (b_ (aU f a b) (i+1))),cm dv (fun n:Nat=>Value.int .i64 (n:Int)) m (pmap b.next.length (b_ (aU f a b) (i+1)))]∧J (i+1) O2)∨(v=.bool false∧Q O')))
  (O:List Lx.Item) (h0:J 0 O):
  bm Tryz.prog base 218 [yv,.pointer (aD bx)] ([oI bx 227 [(.pointer (aD bp))],oI bp 238 [(vI a.vars),(vI a.start),(.slice j.nb a.next.length j.nc),(.slice j.fb a.ax.length j.fc),(vI b.vars),(vI b.start),(.slice k.nb b.next.length k.nc),(.slice k.fb b.ax.length k.fc),(.slice XQ ((b_ (aU f a b) 0).length) XR),(.map (some m))],am XQ XR 234 2 (jM b.next.length (b_ (aU f a b) 0)),cm dv (fun n:Nat=>Value.int .i64 (n:Int)) m (pmap b.next.length (b_ (aU f a b) 0))]++O) (fun _ O'=>(∃N qb qc O2,O'=O2++[oI bp 238 [(vI a.vars),(vI a.start),(.slice j.nb a.next.length j.nc),(.slice j.fb a.ax.length j.fc),(vI b.vars),(vI b.start),(.slice k.nb b.next.length k.nc),(.slice k.fb b.ax.length k.fc),(.slice qb ((b_ (aU f a b) N).length) qc),(.map (some m))],am qb qc 234 2 (jM b.next.length (b_ (aU f a b) N)),cm dv (fun n:Nat=>Value.int .i64 (n:Int)) m (pmap b.next.length (b_ (aU f a b) N))]∧(b_ (aU f a b) N).length=N∧J N O2)∨Q O'):=by
 refine aw func218 F ntmps218 F ?_
 have h4:a.next.length*b.next.length≤4096*4096:=Nat.mul_le_mul va.n4 vb.n4
 have hw:L≤64:=by rw[←hL];exact va.width
 have M6:=ha.rows.1
 have Cd:=hb.rows.1
 refine ai (aj F (ae (aG ?_)))
 refine dm (fun(i:Nat) ρ O=> ∃(qb:Option Addr) (qc:Nat) (O1:List Lx.Item),O=([oI bx 227 [(.pointer (aD bp))],oI bp 238 [(vI a.vars),(vI a.start),(.slice j.nb a.next.length j.nc),(.slice j.fb a.ax.length j.fc),(vI b.vars),(vI b.start),(.slice k.nb b.next.length k.nc),(.slice k.fb b.ax.length k.fc),(.slice qb ((b_ (aU f a b) i).length) qc),(.map (some m))],am qb qc 234 2 (jM b.next.length (b_ (aU f a b) i)),cm dv (fun n:Nat=>Value.int .i64 (n:Int)) m (pmap b.next.length (b_ (aU f a b) i))]++O1)∧i≤(b_ (aU f a b) i).length∧J i O1∧cw [(0,yv),(1,(.pointer (aD bx))),(3,vN i)] ρ) (fun i=>a.next.length*b.next.length-i) 0 ?_ ?_
 ·exact⟨XQ,XR,O,F,Nat.zero_le _,h0,⟨F,F,F,trivial⟩⟩
 rintro i ρ O ⟨qb,qc,O1,rfl,Ds,hJ,hH⟩
 obtain⟨fE,rfl⟩:=hH.elim
 clear hH
 have Qh:=iO (f:=f) va vb hv i
 refine aB (ai (ah F (ad (aQ 0 pT F F F F) (ad (aK F) (ad (aN mJ F np F F) (ad (aQ 1 ku F F F F) (ad (bS ku F) (ad (bT F F) (ae (aC F (fun hc=>?_) (fun hc=>?_)))))))))))
 ·have jI:i<(b_ (aU f a b) i).length:=by omega
  obtain⟨o,hq⟩: ∃o,(b_ (aU f a b) i)[i]? =some o:=⟨_,List.getElem?_eq_getElem jI⟩
  have ho:=(iV (f:=f) va vb hv i).2 o (List.mem_of_getElem? hq)
  obtain⟨hs,ht⟩:=l8 ho
  obtain⟨v1,c1,g1,s1⟩:=ha.rows.get hs
  obtain⟨v2,c2,g2,s2⟩:=hb.rows.get ht
  refine av (aB (aG (ai (ad (aQ 0 pT F F F F) (ad (aK F) (ad (aN mJ F np F F) (ad (aQ 1 ku F F F F) (ah F (ad (cY (i:=i) ku fH F F (cP (mG 2 F)) jI (by rw[xZ];omega)) (ad (dy (vs:=[vN (o/b.next.length),vN (o%b.next.length)]) lz F fH F F (Nat.succ_pos _) (cP (mG 2 F)) (Dl hq)) (ak F (aR fH F (fun z1=>?_)))))))))))))
  refine ak F (a8 (vs:=[vN (o/b.next.length),vN (o%b.next.length)]) 0 fH F F F F ?_)
  refine ae (ai (ad (aQ 1 pT F F F F) (ad (aK F) (ad (aN mJ F aY F F) (ad (aN bW F aO F F) (ad (aQ 2 cS F F F F) (ad (a7 (kV (v:=a.vars.toNat) F (by show Value.int _ a.vars=_;rw[Int.toNat_of_nonneg va.v0]) (by have:=va.v6;omega)) (v':=vN L) (by rw[hL])) (ak F (bX (m:=L) bK aO F F (by omega) (by omega) (fun z2=>?_))))))))))
  refine aj F (ae (aB (ai (ah F (ad (bS bK F) (ah F (ae (aG ?_))))))))
  refine ck (O':=([oI bp 238 [(vI a.vars),(vI a.start),(.slice j.nb a.next.length j.nc),(.slice j.fb a.ax.length j.fc),(vI b.vars),(vI b.start),(.slice k.nb b.next.length k.nc),(.slice k.fb b.ax.length k.fc),(.slice qb ((b_ (aU f a b) i).length) qc),(.map (some m))],am qb qc 234 2 (jM b.next.length (b_ (aU f a b) i)),cm dv (fun n:Nat=>Value.int .i64 (n:Int)) m (pmap b.next.length (b_ (aU f a b) i)),am (aD z2) L 3 1 (List.replicate L (vI 0)),oI z1 234 [vN (o/b.next.length),vN (o%b.next.length)],oI bx 227 [(.pointer (aD bp))]]++O1)) (by exact Sub.dr [am (aD z2) L 3 1 (List.replicate L (vI 0)),oI z1 234 [vN (o/b.next.length),vN (o%b.next.length)],oI bx 227 [(.pointer (aD bp))]] _ (.dr [am (aD z2) L 3 1 (List.replicate L (vI 0)),oI z1 234 [vN (o/b.next.length),vN (o%b.next.length)],oI bx 227 [(.pointer (aD bp))]] _ (.dr [am (aD z2) L 3 1 (List.replicate L (vI 0)),oI z1 234 [vN (o/b.next.length),vN (o%b.next.length)],oI bx 227 [(.pointer (aD bp))]] _ (.k (.k (.k .rf)))))) ?_
  refine dm (fun(x:Nat) ρ O=> ∃(Df:Option Addr) (Dg:Nat) (ys:List Nat),O=([oI bp 238 [(vI a.vars),(vI a.start),(.slice j.nb a.next.length j.nc),(.slice j.fb a.ax.length j.fc),(vI b.vars),(vI b.start),(.slice k.nb b.next.length k.nc),(.slice k.fb b.ax.length k.fc),(.slice Df ((jo (aU f a b) i o x).length) Dg),(.map (some m))],am Df Dg 234 2 (jM b.next.length (jo (aU f a b) i o x)),cm dv (fun n:Nat=>Value.int .i64 (n:Int)) m (pmap b.next.length (jo (aU f a b) i o x)),am (aD z2) L 3 1 (aX ys),oI z1 234 [vN (o/b.next.length),vN (o%b.next.length)],oI bx 227 [(.pointer (aD bp))]]++O1)∧x≤L∧ys.length=L∧(∀y,y<x→ys[y]? =some (ix (dY (aU f a b) o y) (order (aU f a b))))∧cw [(0,yv),(1,(.pointer (aD bx))),(3,vN i),(4,(.pointer (aD z1))),(5,(.slice (aD z2) L L)),(31,vI (L:Int)),(32,vN x)] ρ) (fun x=>L-x) 0 ?_ ?_
  ·refine⟨qb,qc,List.replicate L 0,?_,Nat.zero_le _,by simp,fun y XT=>absurd XT (by omega),(.of F)⟩
   rw[show List.replicate L (Value.int .i64 0)=aX (List.replicate L 0) by simp];rfl
  rintro x ρ O ⟨Df,Dg,ys,rfl,hx,wD,tW,hH⟩
  obtain⟨fE,rfl⟩:=hH.elim
  clear hH
  refine ai (ad (bT F F) (ae (aB (aC F (fun hc=>?_) (fun hc=>?_)))))
  ·have ZM:x<L:=by omega
   have N4:x<2^a.vars.toNat:=by omega
   have Rq:x<2^b.vars.toNat:=by rw[←hv];exact N4
   obtain⟨t1,_,x1,d1⟩:=va.fF hs N4
   obtain⟨t2,_,x2,d2⟩:=vb.fF ht Rq
   have wq:=(rX (f:=f) va vb hv ho N4).1
   have XU:=xX (n:=b.next.length) (s:=dY a (o/b.next.length) x) t2
   rw[←wq]at XU
   have LX:(ints a.next[o/b.next.length])[x]? =some (vN (dY (aU f a b) o x/b.next.length)):=by rw[fp x1,d1,XU.1]
   have K2:(ints b.next[o%b.next.length])[x]? =some (vN (dY (aU f a b) o x%b.next.length)):=by rw[fp x2,d2,XU.2]
   refine av (aB (aG (ai (ah F (aj F (ae ?_))))))
   refine p9 [] [oI bp 238 [(vI a.vars),(vI a.start),(.slice j.nb a.next.length j.nc),(.slice j.fb a.ax.length j.fc),(vI b.vars),(vI b.start),(.slice k.nb b.next.length k.nc),(.slice k.fb b.ax.length k.fc),(.slice Df ((jo (aU f a b) i o x).length) Dg),(.map (some m))],oI z1 234 [vN (o/b.next.length),vN (o%b.next.length)],oI bx 227 [(.pointer (aD bp))]] [(0,0),(1,0),(2,3),(3,3),(4,3),(5,3),(6,3),(7,3),(8,3),(9,3),(10,3),(11,3),(12,3),(13,3),(14,3),(15,3),(16,3),(17,3),(18,3),(19,3),(20,3),(21,3),(22,3),(23,3),(24,3),(25,3),(26,3),(27,3),(28,4),(29,2),(30,2)] mixed (uS (by kernel_rfl)) (bn (List.nil_sublist _)) (by exact Sub.k (.d (.d (.d (.k (.k .z)))))) (fun _ _ _ _ h=>h) ?_
   refine ao F (az F) (ao F (az F) ?_)
   refine cK F (aQ 2 pT F F F F) ?_
   refine cK F (aQ 2 pT F F F F) ?_
   refine cK F (aK F) ?_
   refine cK F (aN mJ F aY F F) ?_
   refine cK F (aN bW F dM F F) ?_
   refine cK F (aQ 0 du F F F F) ?_
   refine cK F (aN lz F aO F F) ?_
   refine cK F (aQ 1 cS F F F F) ?_
   refine cK F (cV (i:=(o/b.next.length)) du bV F F (ay ha.outer) hs (by rw[M6];exact hs)) ?_
   refine cK F (cd bK F F (ay ha.outer) g1) ?_
   refine cK F (az F) ?_
   refine cK F (cV (i:=x) bK aO F F (ay s1) x1 (by rw[List.length_map];exact x1)) ?_
   refine cK F (cd cS F F (ay s1) LX) ?_
   refine cK F (aQ 2 pT F F F F) ?_
   refine cK F (aK F) ?_
   refine cK F (aN mJ F aY F F) ?_
   refine cK F (aN bW F dM F F) ?_
   refine cK F (aQ 0 du F F F F) ?_
   refine cK F (aN lz F aO F F) ?_
   refine cK F (aQ 1 cS F F F F) ?_
   refine cK F (cV (i:=(o%b.next.length)) du bV F F (ay hb.outer) ht (by rw[Cd];exact ht)) ?_
   refine cK F (cd bK F F (ay hb.outer) g2) ?_
   refine cK F (az F) ?_
   refine cK F (cV (i:=x) bK aO F F (ay s2) x2 (by rw[List.length_map];exact x2)) ?_
   refine cK F (cd cS F F (ay s2) K2) ?_
   refine cK F (bG (cs:=[vN ((dY (aU f a b) o x)/b.next.length),vN ((dY (aU f a b) o x)%b.next.length)]) Ef fH (by kernel_rfl)) ?_
   have Ix:=bm.under (B:=([am (aD z2) L 3 1 (aX ys),oI z1 234 [vN (o/b.next.length),vN (o%b.next.length)],oI bx 227 [(.pointer (aD bp))]]++O1)) (O:=([oI bp 238 [(vI a.vars),(vI a.start),(.slice j.nb a.next.length j.nc),(.slice j.fb a.ax.length j.fc),(vI b.vars),(vI b.start),(.slice k.nb b.next.length k.nc),(.slice k.fb b.ax.length k.fc),(.slice Df ((jo (aU f a b) i o x).length) Dg),(.map (some m))],am Df Dg 234 2 (jM b.next.length (jo (aU f a b) i o x)),cm dv (fun n:Nat=>Value.int .i64 (n:Int)) m (pmap b.next.length (jo (aU f a b) i o x)),am (aD z2) L 3 1 (aX ys),oI z1 234 [vN (o/b.next.length),vN (o%b.next.length)],oI bx 227 [(.pointer (aD bp))]]++O1)) (pvS base f a b j k bp m i o x Df Dg va vb hv hq (by omega)) (by exact Sub.rf)
   refine uI F F (aP QL Ix F ?_)
   clear Ix
   rintro vr O' ⟨A1,rfl,rfl,XV,XW,rfl⟩
   refine⟨by exact Sub.z,?_⟩
   refine bq F F (dw F F (cV (i:=x) bK aO F F (cP (mG 3 F))) ?_)
   refine bq F F (lB (j:=x) (v:=vN (ix (dY (aU f a b) o x) (order (aU f a b)))) (vs:=[(vN (ix (dY (aU f a b) o x) (order (aU f a b))))]) (cs:=aX ys) 3 aO F F F F F (by simp) F (by first|(simp;omega)|(simp_all;omega)) ?_)
   refine dL (O':=([oI bp 238 [(vI a.vars),(vI a.start),(.slice j.nb a.next.length j.nc),(.slice j.fb a.ax.length j.fc),(vI b.vars),(vI b.start),(.slice k.nb b.next.length k.nc),(.slice k.fb b.ax.length k.fc),(.slice XV ((jo (aU f a b) i o (x+1)).length) XW),(.map (some m))],am XV XW 234 2 (jM b.next.length (jo (aU f a b) i o (x+1))),cm dv (fun n:Nat=>Value.int .i64 (n:Int)) m (pmap b.next.length (jo (aU f a b) i o (x+1))),am (aD z2) L 3 1 (aX (ys.set x (ix (dY (aU f a b) o x) (order (aU f a b))))),oI z1 234 [vN (o/b.next.length),vN (o%b.next.length)],oI bx 227 [(.pointer (aD bp))]]++O1)) (by rw[show dK (aX ys) x [(vN (ix (dY (aU f a b) o x) (order (aU f a b))))]=aX (ys.set x (ix (dY (aU f a b) o x) (order (aU f a b))))from by simp[dK]];exact bn (List.Sublist.refl _)) ?_
   refine bw ?_
   refine aJ (ad (cx (a:=x) (b:=1) F F (by omega)) (ah F (ae ?_)))
   refine⟨x+1,by omega,XV,XW,ys.set x (ix (dY (aU f a b) o x) (order (aU f a b))),F,by omega,by simp[wD],fun y XT=>?_,(.of F)⟩
   by_cases e:y=x
   ·subst e;rw[List.getElem?_set_self (by omega)]
   ·rw[List.getElem?_set_ne (fun h=>e h.symm)];exact tW y (by omega)
  have ZN: ¬x<L:=by omega
  refine bJ ?_
  refine aB ?_
  have AH:x=L:=by omega
  have e1:b_ (aU f a b) (i+1)=jo (aU f a b) i o x:=by rw[AH,←hL];exact(wM hq).symm
  have e3:pY (aU f a b) o=ys:=by
   apply List.ext_getElem?
   intro y
   by_cases XT:y<L
   ·rw[tW y (by omega)]
    have hy8:y<2^(aU f a b).vars.toNat:=by show y<2^a.vars.toNat;omega
    unfold pY
    rw[List.getElem?_map,vT hy8];rfl
   ·rw[List.getElem?_eq_none (by rw[lZ];show 2^a.vars.toNat≤y;omega),List.getElem?_eq_none (by omega)]
  have e2:ints (pH (aU f a b) o)=aX ys:=by unfold pH;rw[e3];simp[Function.comp_def]
  refine ck (O':=([oI bp 238 [(vI a.vars),(vI a.start),(.slice j.nb a.next.length j.nc),(.slice j.fb a.ax.length j.fc),(vI b.vars),(vI b.start),(.slice k.nb b.next.length k.nc),(.slice k.fb b.ax.length k.fc),(.slice Df ((b_ (aU f a b) (i+1)).length) Dg),(.map (some m))],am Df Dg 234 2 (jM b.next.length (b_ (aU f a b) (i+1))),cm dv (fun n:Nat=>Value.int .i64 (n:Int)) m (pmap b.next.length (b_ (aU f a b) (i+1))),am (aD z2) L 3 1 (ints (pH (aU f a b) o)),oI z1 234 [vN (o/b.next.length),vN (o%b.next.length)],oI bx 227 [(.pointer (aD bp))]]++O1)) (by rw[e1,e2];exact Sub.rf) ?_
  refine aJ (ah F (ad (dh 4 lz F fH F F F) (ah F ?_)))
  have HI:=dn.under (B:=[oI z1 234 [vN (o/b.next.length),vN (o%b.next.length)],oI bx 227 [(.pointer (aD bp))]]) (O:=([oI bp 238 [(vI a.vars),(vI a.start),(.slice j.nb a.next.length j.nc),(.slice j.fb a.ax.length j.fc),(vI b.vars),(vI b.start),(.slice k.nb b.next.length k.nc),(.slice k.fb b.ax.length k.fc),(.slice Df ((b_ (aU f a b) (i+1)).length) Dg),(.map (some m))],am Df Dg 234 2 (jM b.next.length (b_ (aU f a b) (i+1))),cm dv (fun n:Nat=>Value.int .i64 (n:Int)) m (pmap b.next.length (b_ (aU f a b) (i+1))),am (aD z2) L 3 1 (ints (pH (aU f a b) o)),oI z1 234 [vN (o/b.next.length),vN (o%b.next.length)],oI bx 227 [(.pointer (aD bp))]]++O1)) (hy i o Df Dg z2 O1 hq hJ) (fC [])
  refine ak F (dx HI F F ?_)
  clear HI
  rintro vr O' ⟨A1,rfl,⟨rfl,O2,rfl,Ru⟩|⟨rfl,Xk⟩⟩
  ·refine ad (gy F) ?_
   refine ae (aL F (av ?_))
   refine ck (O':=([oI bx 227 [(.pointer (aD bp))],oI bp 238 [(vI a.vars),(vI a.start),(.slice j.nb a.next.length j.nc),(.slice j.fb a.ax.length j.fc),(vI b.vars),(vI b.start),(.slice k.nb b.next.length k.nc),(.slice k.fb b.ax.length k.fc),(.slice Df ((b_ (aU f a b) (i+1)).length) Dg),(.map (some m))],am Df Dg 234 2 (jM b.next.length (b_ (aU f a b) (i+1))),cm dv (fun n:Nat=>Value.int .i64 (n:Int)) m (pmap b.next.length (b_ (aU f a b) (i+1)))]++O2)) (fC [oI z1 234 [vN (o/b.next.length),vN (o%b.next.length)]]) ?_
   refine aJ (ah F (ad (cx (a:=i) (b:=1) F F (by omega)) (aj F (ae ?_))))
   have AW:=(gZ (aU f a b) i (i+1) (by omega)).length_le
   exact⟨i+1,by omega,Df,Dg,O2,F,by omega,Ru,⟨F,F,F,trivial⟩⟩
  refine ad (gy F) (ae ?_)
  refine bj F ?_
  refine aA (ap ?_)
  refine pD.zero Tryz.results218 ?_
  exact⟨A1,bn (List.sublist_append_left _ _),.inr Xk⟩
 have HD: ¬i<(b_ (aU f a b) i).length:=by omega
 refine bJ ?_
 refine ap ?_
 refine pD.zero Tryz.results218 ?_
 have hN:(b_ (aU f a b) i).length=i:=by omega
 exact⟨O1++[oI bp 238 [(vI a.vars),(vI a.start),(.slice j.nb a.next.length j.nc),(.slice j.fb a.ax.length j.fc),(vI b.vars),(vI b.start),(.slice k.nb b.next.length k.nc),(.slice k.fb b.ax.length k.fc),(.slice qb ((b_ (aU f a b) i).length) qc),(.map (some m))],am qb qc 234 2 (jM b.next.length (b_ (aU f a b) i)),cm dv (fun n:Nat=>Value.int .i64 (n:Int)) m (pmap b.next.length (b_ (aU f a b) i))],fC [oI bx 227 [(.pointer (aD bp))]],.inl ⟨i,qb,qc,O1,F,hN,hJ⟩⟩
end Go.Proofs.YtgdbfideeeegmaaGreatDoor

