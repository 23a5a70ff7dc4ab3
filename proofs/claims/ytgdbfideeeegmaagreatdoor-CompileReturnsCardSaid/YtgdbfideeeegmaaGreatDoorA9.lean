/- Contracts of functions of the program, and what they answer. Conditions: those each theorem names. -/
import Derived.Test.YtgdbfideeeegmaaGreatDoorA8
import Derived.Test.YtgdbfideeeegmaaGreatDoorA6
import Derived.Test.YtgdbfideeeegmaaGreatDoorA5
import Derived.Test.YtgdbfideeeegmaaGreatDoorA2
import Derived.Test.YtgdbfideeeegmaaGreatDoorA7
import Derived.Test.YtgdbfideeeegmaaGreatDoorA4
import Derived.Test.YtgdbfideeeegmaaGreatDoorA0
set_option linter.unusedSectionVars false
set_option linter.unusedSimpArgs false
set_option linter.unusedVariables false
set_option linter.unnecessarySimpa false
set_option maxHeartbeats 8000000
set_option maxRecDepth 20000
namespace Go.Lx
open Go.RowKit Go.Proofs.YtgdbfideeeegmaaGreatDoor
theorem tF {v b:Nat} {fs:List Nat} {x:eE} (hb: ∀j,j<fs.length→fs.getD j 0≤j) (h:gC v fs x=.ok b):
  b≤fs.length∧fY v x=0∧(dQ x.op=1→0<fs.length∧x.a=(fs.length:Int)-1∧b=fs.getD (fs.length-1) 0)∧
  (dQ x.op=2→0<fs.length∧x.b=(fs.length:Int)-1∧0<fs.getD (fs.length-1) 0∧x.a=(fs.getD (fs.length-1) 0:Int)-1∧b=fs.getD x.a.toNat 0)∧(dQ x.op=0→b=fs.length):=by
 unfold gC at h
 split at h
 ·cases h
 ·rename_i h0
  have Z5:fY v x=0:=by omega
  split at h
  ·rename_i h1
   split at h
   ·cases h
   ·rename_i h2
    injection h with h
    have:=hb (fs.length-1) (by omega)
    exact⟨by omega,Z5,fun _=>⟨by omega,by omega,h.symm⟩,fun h9=>by omega,fun h9=>by omega⟩
  ·rename_i h1
   split at h
   ·rename_i h2
    split at h
    ·cases h
    ·rename_i h3
     injection h with h
     have h4:=hb (fs.length-1) (by omega)
     have h5:x.a.toNat<fs.length:=by omega
     have h6:=hb _ h5
     exact⟨by omega,Z5,fun h9=>by omega,fun _=>⟨by omega,by omega,by omega,by omega,h.symm⟩,fun h9=>by omega⟩
   ·injection h with h
    exact⟨by omega,Z5,fun h9=>by omega,fun h9=>by omega,fun _=>h.symm⟩
theorem Ov (n:Nat):dQ n≤2:=by unfold dQ;split<;>(try split)<;>omega
theorem pg {v:Nat} {e:List eE} {fs:List Nat} (h:jP v e=.ok fs): ∀i,i≤e.length→ ∃gs,jP v (e.take i)=.ok gs∧gs.length=i∧(∀j,j<i→gs.getD j 0≤j)∧gs=fs.take i
 |0,_=>⟨[],F,F,fun j hj=>by omega,by simp⟩
 |i+1,hi=>by
  obtain⟨gs,h1,h2,h3,h4⟩:=pg h i (by omega)
  have gn:i<e.length:=by omega
  cases hs:gC v gs e[i]with
  |error n=>rw[jI gn h1 hs]at h;cases h
  |ok b=>
   have hn:=qN gn h1 hs
   have hb:=tF (by rw[h2];exact h3) hs
   refine⟨gs++[b],hn,by simp[h2],rj h2 h3 (by omega),?_⟩
   have hp: ∀(l:List eE) (a:List Nat) (c:List Nat),l.foldl (mA v) (.ok a)=.ok c→a<+:c:=by
    intro l
    induction l with
    |nil=>intro a c h;injection h with h;subst h;exact List.prefix_refl _
    |cons x l ih=>
     intro a c h
     rw[cV]at h
     cases hx:mA v (.ok a) x with
     |error n=>rw[hx,tD]at h;cases h
     |ok a2=>
      rw[hx]at h
      have h5:=ih a2 c h
      have h6:a<+:a2:=by
       unfold mA at hx
       cases hy:gC v a x with
       |error n=>simp only[hy]at hx;cases hx
       |ok b2=>simp only[hy]at hx;injection hx with hx;subst hx;exact List.prefix_append _ _
      exact h6.trans h5
   have h7:(gs++[b])<+:fs:=by
    have h8:jP v e=(e.drop (i+1)).foldl (mA v) (jP v (e.take (i+1))):=by
     conv=>lhs;rw[←List.take_append_drop (i+1) e]
     unfold jP;rw[cY]
    rw[h8,hn]at h
    exact hp _ _ _ h
   have:=List.prefix_iff_eq_take.1 h7
   simpa[h2]using this
theorem qq {v:Nat} {e:List eE} {fs:List Nat} (h:jP v e=.ok fs):K3 e:=fun i hi=>by
 obtain⟨gs,h1,h2,h3,_⟩:=pg h i (Nat.le_of_lt hi)
 cases hs:gC v gs e[i]with
 |error n=>rw[jI hi h1 hs]at h;cases h
 |ok b=>
  obtain⟨_,_,k1,k2,_⟩:=tF (by rw[h2];exact h3) hs
  have hc:=Ov e[i].op
  refine⟨fun hh=>?_,fun hh=>?_⟩
  ·by_cases h5:dQ e[i].op=1
   ·have:=k1 h5;exact⟨i-1,by omega,by omega⟩
   ·have:=k2 (by omega)
    have h6:=h3 (gs.length-1) (by omega)
    exact⟨gs.getD (gs.length-1) 0-1,by omega,by omega⟩
  ·have:=k2 (by omega);exact⟨i-1,by omega,by omega⟩
theorem AQ {v n:Nat}: ∀ {e:List eE} {a:List Nat},e.foldl (mA v) (.ok a)=.error n→n≠0
 | [],a,h=>by cases h
 |x::e,a,h=>by
  rw[cV]at h
  cases hs:gC v a x with
  |error k=>
   have hk:mA v (.ok a) x=.error k:=by unfold mA;simp only[hs]
   rw[hk,tD]at h
   injection h with h
   subst h
   unfold gC at hs
   split at hs
   ·injection hs with hs;omega
   ·split at hs
    ·split at hs
     ·injection hs with hs;omega
     ·cases hs
    ·split at hs
     ·split at hs
      ·injection hs with hs;omega
      ·cases hs
     ·cases hs
  |ok b=>
   have hk:mA v (.ok a) x=.ok (a++[b]):=by unfold mA;simp only[hs]
   rw[hk]at h
   exact AQ h
def im (vars:Int) (e:List eE):Nat:=
 if vars<0∨6<vars then 7 else if e.length=0 then 3 else if 64<e.length then 4 else
  match jP vars.toNat e with
  | .error n=>n
  | .ok fs=>if fs.getD (e.length-1) 0≠0 then 2 else if mh e e.length (e.length-1) true=true then 0 else 2
end Go.Lx

namespace Go.Lx
open Go.RowKit
theorem H2: ∀ {l m:List Key},(∀k∈l,∀b∈k,b≠124)→(∀k∈m,∀b∈k,b≠124)→l.flatMap (fun k=>(124:UInt8)::k)=m.flatMap (fun k=>(124:UInt8)::k)→l=m:=by
 have split: ∀ {x y p q:Key},(∀b∈x,b≠124)→(∀b∈y,b≠124)→(∀b t,p=b::t→b=124)→(∀b t,q=b::t→b=124)→x++p=y++q→x=y∧p=q:=by
  intro x
  induction x with
  |nil=>
   intro y p q _ hy hp _ h
   cases y with
   |nil=>exact⟨F,h⟩
   |cons c y=>
    rw[c8,cJ]at h
    exact absurd (hp _ _ h) (hy c (by simp))
  |cons c x ih=>
   intro y p q hx hy hp hq h
   cases y with
   |nil=>
    rw[c8,cJ]at h
    exact absurd (hq _ _ h.symm) (hx c (by simp))
   |cons d y=>
    simp only[cJ,List.cons.injEq]at h
    obtain⟨h1,h2⟩:=ih (fun b hb=>hx b (by simp[hb])) (fun b hb=>hy b (by simp[hb])) hp hq h.2
    exact⟨by rw[h.1,h1],h2⟩
 have hd: ∀(l:List Key) b t,l.flatMap (fun k=>(124:UInt8)::k)=b::t→b=124:=by
  intro l b t h
  cases l with
  |nil=>simp at h
  |cons k l=>simp only[List.flatMap_cons,cJ,List.cons.injEq]at h;exact h.1.symm
 intro l
 induction l with
 |nil=>
  intro m _ _ h
  cases m with
  |nil=>rfl
  |cons k m=>simp at h
 |cons k l ih=>
  intro m hl hm h
  cases m with
  |nil=>simp at h
  |cons k2 m=>
   simp only[List.flatMap_cons,cJ,List.cons.injEq,true_and]at h
   obtain⟨h1,h2⟩:=split (hl k (by simp)) (hm k2 (by simp)) (hd l) (hd m) h
   rw[h1,ih (fun x hx=>hl x (by simp[hx])) (fun x hx=>hm x (by simp[hx])) h2]
theorem H3 (l:List Int): ∀b∈iK l,b≠124:=fun b hb e=>by
 obtain⟨n,_,hb⟩:=List.mem_flatMap.1 hb
 rcases List.mem_append.1 hb with hb|hb
 ·have:=rl n b hb;rw[e]at this;simp at this
 ·rw[List.mem_singleton.1 hb]at e;exact absurd e (by decide)
theorem zP (a b c:Key) (h1:wq a b=true) (h2:wq b c=true):wq a c=true:=by
 unfold wq at*;exact av (List.le_trans (of_decide_eq_true h1) (of_decide_eq_true h2))
theorem zQ (a b:Key):(wq a b||wq b a)=true:=by
 unfold wq;rcases List.le_total a b with h|h<;>simp[h]
theorem C4 {l m:List Key} (h:l.Perm m):l.mergeSort wq=m.mergeSort wq:=by
 refine List.Perm.eq_of_pairwise (le:=fun a b=>wq a b=true) (fun a b _ _ h1 h2=>?_) (List.pairwise_mergeSort zP zQ l) (List.pairwise_mergeSort zP zQ m) ?_
 ·unfold wq at h1 h2;exact List.le_antisymm (of_decide_eq_true h1) (of_decide_eq_true h2)
 ·exact(List.mergeSort_perm l wq).trans (h.trans (List.mergeSort_perm m wq).symm)
section
variable {ls:List Lf} {vs:Nat}
theorem pJ.num (hG:ji ls vs) {bh:List Nat} (h:pJ ls bh): ∀n∈bh.map (fun y:Nat=>(y:Int)),my n:=fun n hn=>by
 obtain⟨y,hy,rfl⟩:=List.mem_map.1 hn
 obtain⟨k,hk,rfl⟩:=List.mem_iff_getElem.1 hy
 have h1:=h.lt k (by rw[←h.len];exact hk)
 rw[aw,ap hk,Option.getD_some]at h1
 have:=(hG.j4 (k:=k) (by rw[←h.len];exact hk)).n4
 exact nf (by omega)
theorem C5 (hG:ji ls vs) {a b:St} (ha:kV ls a) (hb:kV ls b) (h:a.key=b.key):a.bh=b.bh∧ ∀c,c∈a.cf↔c∈b.cf:=by
 unfold St.key at h
 have hd: ∀(l:List Key) b t,l.flatMap (fun k=>(124:UInt8)::k)=b::t→b.toNat=124:=by
  intro l b t h
  cases l with
  |nil=>simp at h
  |cons k l=>simp only[List.flatMap_cons,cJ,List.cons.injEq]at h;rw[←h.1];rfl
 obtain⟨h1,h2⟩:=AY (ha.bh.num hG) (hb.bh.num hG) (hd _) (hd _) h
 have hn: ∀s:St,∀k∈(s.cf.map Cf.key).mergeSort wq,∀b∈k,b≠124:=fun s k hk=>by
  obtain⟨c,_,rfl⟩:=List.mem_map.1 (List.mem_mergeSort.1 hk)
  exact H3 _
 have h3:=H2 (hn a) (hn b) h2
 have h4: ∀k,k∈a.cf.map Cf.key↔k∈b.cf.map Cf.key:=fun k=>by
  rw[←List.mem_mergeSort (le:=wq),h3,List.mem_mergeSort]
 have one: ∀ {s t:St},kV ls s→kV ls t→(∀k,k∈s.cf.map Cf.key→k∈t.cf.map Cf.key)→ ∀c,c∈s.cf→c∈t.cf:=fun {s t} hs ht h c hc=>by
  obtain⟨d,hd,e⟩:=List.mem_map.1 (h _ (List.mem_map_of_mem hc))
  rw[key_inj hG (hs.cf c hc) (ht.cf d hd) e.symm];exact hd
 exact⟨rm h1,fun c=>⟨one ha hb (fun k=>(h4 k).1) c,one hb ha (fun k=>(h4 k).2) c⟩⟩
theorem EU {a b:St} (ha:kV ls a) (hb:kV ls b) (h1:a.bh=b.bh) (h2: ∀c,c∈a.cf↔c∈b.cf):a.key=b.key:=by
 unfold St.key
 rw[h1,C4 (((List.perm_ext_iff_of_nodup ha.nd hb.nd).2 h2).map Cf.key)]
theorem F1 (hG:ji ls vs):Ot (kV ls) St.key (mZ ls) sf (2^vs):=by
 refine⟨fun a b x ha hb h hx=>?_,fun a b ha hb h=>?_,fun a x ha hx=>ri hG ha hx⟩
 ·obtain⟨h1,h2⟩:=C5 hG ha hb h
  refine EU (ri hG ha hx) (ri hG hb hx) (by show mj ls a.bh x=mj ls b.bh x;rw[h1]) fun c=>?_
  show c∈List.foldl add [] _↔c∈List.foldl add [] _
  rw[eN,eN,h1]
  simp only[List.mem_flatMap,List.not_mem_nil,false_or]
  exact⟨fun⟨y,hy,hc⟩=>⟨y,(h2 y).1 hy,hc⟩,fun⟨y,hy,hc⟩=>⟨y,(h2 y).2 hy,hc⟩⟩
 ·obtain⟨_,h2⟩:=C5 hG ha hb h
  unfold sf
  rw[eB,dW,dW]
  exact⟨fun⟨c,hc,h⟩=>⟨c,(h2 c).1 hc,h⟩,fun⟨c,hc,h⟩=>⟨c,(h2 c).2 hc,h⟩⟩
end
end Go.Lx

namespace Go.Lx
open Go.RowKit
def Rx.wf:Rx→Bool
 | .je a b| .jq a b=>a.wf&&b.wf
 | .ahead a| .behind a=>a.plain
 |t=>t.plain
def Rx.op:Rx→Nat
 | .none=>1| .empty=>2| .letter _ _=>3| .je _ _=>4| .jq _ _=>5| .and _ _=>6| .not _=>7| .star _=>8| .ahead _=>9| .behind _=>10
def l6 (ls:List Lf) (b x:List Nat):List Lf:=b.foldl (fun ls k=>ls.set k {lf ls k with fo:=(lf ls k).fo++x}) ls
structure BR where
 ls:List Lf
 fi:List Nat
 la:List Nat
noncomputable def pL (v:Nat):Rx→Lf
 | .ahead a=>⟨9,minOf v (jS (gj a) fun _=>true),[],false⟩
 | .behind a=>⟨10,minOf v (jS (fun _=>true) (gj a)),[],false⟩
 |t=>⟨0,minOf v (gj t),[],false⟩
noncomputable def aY (v:Nat):Rx→List Lf→BR
 | .je a b,ls=>⟨l6 (aY v b (aY v a ls).ls).ls (aY v a ls).la (aY v b (aY v a ls).ls).fi,(aY v a ls).fi,(aY v b (aY v a ls).ls).la⟩
 | .jq a b,ls=>⟨(aY v b (aY v a ls).ls).ls,(aY v a ls).fi++(aY v b (aY v a ls).ls).fi,(aY v a ls).la++(aY v b (aY v a ls).ls).la⟩
 |t,ls=>⟨ls++[pL v t],[ls.length],[ls.length]⟩
def okB (v:Nat):Rx→Nat→Prop
 | .je a b,B=>okB v a B∧okB v b B
 | .jq a b,B=>okB v a B∧okB v b B
 | .ahead a,B=>jY v a B∧AF (minOf v (gj a)) (fD (v:Int) true) (dT (minOf v (gj a))) B
 | .behind a,B=>jY v a B∧AF (fD (v:Int) true) (minOf v (gj a)) (dT (fD (v:Int) true)) B
 |t,B=>jY v t B
def Rx.lv:Rx→Nat
 | .je a b| .jq a b=>a.lv+b.lv
 |_=>1
theorem uA: ∀(b x:List Nat) (ls:List Lf),(l6 ls b x).length=ls.length
 | [],x,ls=>rfl
 |k::b,x,ls=>by
  show(l6 (ls.set k _) b x).length=_
  rw[uA b x,eX]
theorem e_ (v:Nat): ∀(t:Rx) (ls:List Lf),(aY v t ls).ls.length=ls.length+t.lv
 | .je a b,ls=>by show(l6 _ _ _).length=_;rw[uA,e_ v b,e_ v a,Nat.add_assoc];rfl
 | .jq a b,ls=>by show(aY v b _).ls.length=_;rw[e_ v b,e_ v a,Nat.add_assoc];rfl
 | .none,ls=>by simp[aY,Rx.lv]
 | .empty,ls=>by simp[aY,Rx.lv]
 | .letter p n,ls=>by simp[aY,Rx.lv]
 | .and a b,ls=>by simp[aY,Rx.lv]
 | .not a,ls=>by simp[aY,Rx.lv]
 | .star a,ls=>by simp[aY,Rx.lv]
 | .ahead a,ls=>by simp[aY,Rx.lv]
 | .behind a,ls=>by simp[aY,Rx.lv]
theorem gl (v:Nat): ∀(t:Rx) (ls:List Lf),(∀k∈(aY v t ls).fi,ls.length≤k∧k<ls.length+t.lv)∧(∀k∈(aY v t ls).la,ls.length≤k∧k<ls.length+t.lv)∧(aY v t ls).fi.length≤t.lv∧(aY v t ls).la.length≤t.lv
 | .je a b,ls=>by
  obtain⟨h1,_,h3,_⟩:=gl v a ls
  obtain⟨_,h2,_,h4⟩:=gl v b (aY v a ls).ls
  rw[e_]at h2
  refine⟨fun k hk=>?_,fun k hk=>?_,?_,?_⟩
  ·have:=h1 k hk;show _∧k<ls.length+(a.lv+b.lv);omega
  ·have:=h2 k hk;show _∧k<ls.length+(a.lv+b.lv);omega
  ·show(aY v a ls).fi.length≤a.lv+b.lv;omega
  ·show(aY v b (aY v a ls).ls).la.length≤a.lv+b.lv;omega
 | .jq a b,ls=>by
  obtain⟨h1,h5,h3,h6⟩:=gl v a ls
  obtain⟨h7,h2,h8,h4⟩:=gl v b (aY v a ls).ls
  rw[e_]at h2 h7
  refine⟨fun k hk=>?_,fun k hk=>?_,?_,?_⟩
  ·show _∧k<ls.length+(a.lv+b.lv)
   rcases List.mem_append.1 hk with hk|hk
   ·have:=h1 k hk;omega
   ·have:=h7 k hk;omega
  ·show _∧k<ls.length+(a.lv+b.lv)
   rcases List.mem_append.1 hk with hk|hk
   ·have:=h5 k hk;omega
   ·have:=h2 k hk;omega
  ·show(_++_:List Nat).length≤a.lv+b.lv;rw[aF];omega
  ·show(_++_:List Nat).length≤a.lv+b.lv;rw[aF];omega
 | .none,ls=>by simp[aY,Rx.lv]
 | .empty,ls=>by simp[aY,Rx.lv]
 | .letter p n,ls=>by simp[aY,Rx.lv]
 | .and a b,ls=>by simp[aY,Rx.lv]
 | .not a,ls=>by simp[aY,Rx.lv]
 | .star a,ls=>by simp[aY,Rx.lv]
 | .ahead a,ls=>by simp[aY,Rx.lv]
 | .behind a,ls=>by simp[aY,Rx.lv]
def eU (ls:List Lf) (ks:List LK):List Rec:=(ls.zip ks).map fun p=>⟨p.2.b,p.2.c,p.1.fo.map fun y:Nat=>(y:Int)⟩
def gF (II Bo I:TypeId) (ls:List Lf) (ks:List LK):List Item:=(ls.zip ks).map fun p=>dI II Bo I p.1.d p.2.k
theorem HV {ls:List Lf} {ks:List LK} (h:ks.length=ls.length):(eU ls ks).length=ls.length:=by unfold eU;rw[ar,List.length_zip,h,Nat.min_self]
theorem Le {ls:List Lf} {ks:List LK} (h:ks.length=ls.length) {k:Nat} (hk:k<ls.length):(ls.zip ks)[k]? =some (lf ls k,lk ks k):=by
 rw[ap (by rw[List.length_zip];omega),List.getElem_zip,xK hk]
 show some (ls[k],ks[k]'_)=some (ls[k],ks.getD k default)
 rw[aw,ap (by omega)];rfl
theorem CP {ls:List Lf} {ks:List LK} (h:ks.length=ls.length) {k:Nat} (hk:k<ls.length):(eU ls ks)[k]? =some ⟨(lk ks k).b,(lk ks k).c,(lf ls k).fo.map fun y:Nat=>(y:Int)⟩:=by
 unfold eU;rw[bq,Le h hk];rfl
theorem su {ls:List Lf} {ks:List LK} (h:ks.length=ls.length) (l:Lf) (k:LK):eU (ls++[l]) (ks++[k])=eU ls ks++[⟨k.b,k.c,l.fo.map fun y:Nat=>(y:Int)⟩]:=by
 unfold eU;rw[List.zip_append h.symm,bo];rfl
theorem uz {II Bo I:TypeId} {ls:List Lf} {ks:List LK} (h:ks.length=ls.length) (l:Lf) (k:LK):gF II Bo I (ls++[l]) (ks++[k])=gF II Bo I ls ks++[dI II Bo I l.d k.k]:=by
 unfold gF;rw[List.zip_append h.symm,bo];rfl
theorem qL {ls:List Lf} {ks:List LK} (h:ks.length=ls.length) (l:Lf) (k:LK):dj (ls++[l]) (ks++[k])=dj ls ks++kz l k:=by
 unfold dj;rw[List.zip_append h.symm,List.flatMap_append];simp
theorem EK: ∀ {ls:List Lf} {ks:List LK} {k:Nat} (hk:ks.length=ls.length) (h:k<ls.length) (b':Option Addr) (c':Nat) (x:List Nat),
  dj (ls.set k {lf ls k with fo:=x}) (ks.set k {lk ks k with b:=b',c:=c'})=(dj ls ks).set (k*7+5) (.slice b' x.length c'):=by
 intro ls
 induction ls with
 |nil=>intro ks k _ h;simp at h
 |cons l ls ih=>
  intro ks k hk h b' c' x
  cases ks with
  |nil=>simp at hk
  |cons q ks=>
   cases k with
   |zero=>rfl
   |succ k=>
    show kz l q++dj (ls.set k {lf ls k with fo:=x}) (ks.set k {lk ks k with b:=b',c:=c'})=(kz l q++dj ls ks).set ((k+1)*7+5) _
    have h7:(kz l q).length=7:=rfl
    rw[ih (by simpa using hk) (by simpa using h),List.set_append_right _ _ (by rw[h7];omega),show(k+1)*7+5-(kz l q).length=k*7+5 by rw[h7];omega]
theorem HU: ∀ {ls:List Lf} {ks:List LK} {k:Nat} (hk:ks.length=ls.length) (h:k<ls.length) (b':Option Addr) (c':Nat) (x:List Nat),
  eU (ls.set k {lf ls k with fo:=x}) (ks.set k {lk ks k with b:=b',c:=c'})=(eU ls ks).set k ⟨b',c',x.map fun y:Nat=>(y:Int)⟩:=by
 intro ls
 induction ls with
 |nil=>intro ks k _ h;simp at h
 |cons l ls ih=>
  intro ks k hk h b' c' x
  cases ks with
  |nil=>simp at hk
  |cons q ks=>
   cases k with
   |zero=>rfl
   |succ k=>
    show(⟨q.b,q.c,_⟩:Rec)::eU (ls.set k {lf ls k with fo:=x}) (ks.set k {lk ks k with b:=b',c:=c'})=(_::eU ls ks).set (k+1) _
    rw[ih (by simpa using hk) (by simpa using h)];rfl
theorem KW {II Bo I:TypeId}: ∀ {ls:List Lf} {ks:List LK} {k:Nat} (hk:ks.length=ls.length) (h:k<ls.length) (b':Option Addr) (c':Nat) (x:List Nat),
  gF II Bo I (ls.set k {lf ls k with fo:=x}) (ks.set k {lk ks k with b:=b',c:=c'})=gF II Bo I ls ks:=by
 intro ls
 induction ls with
 |nil=>intro ks k _ h;simp at h
 |cons l ls ih=>
  intro ks k hk h b' c' x
  cases ks with
  |nil=>simp at hk
  |cons q ks=>
   cases k with
   |zero=>rfl
   |succ k=>
    show dI II Bo I l.d q.k::gF II Bo I (ls.set k {lf ls k with fo:=x}) (ks.set k {lk ks k with b:=b',c:=c'})=dI II Bo I l.d q.k::gF II Bo I ls ks
    rw[ih (by simpa using hk) (by simpa using h)]
theorem CS: ∀ {ls:List Lf} {ks:List LK} {k:Nat} (hk:ks.length=ls.length) (h:k<ls.length),
  dj (ls.set k {lf ls k with la:=true}) ks=(dj ls ks).set (k*7+6) (.bool true):=by
 intro ls
 induction ls with
 |nil=>intro ks k _ h;simp at h
 |cons l ls ih=>
  intro ks k hk h
  cases ks with
  |nil=>simp at hk
  |cons q ks=>
   cases k with
   |zero=>rfl
   |succ k=>
    show kz l q++dj (ls.set k {lf ls k with la:=true}) ks=(kz l q++dj ls ks).set ((k+1)*7+6) _
    have h7:(kz l q).length=7:=rfl
    rw[ih (by simpa using hk) (by simpa using h),List.set_append_right _ _ (by rw[h7];omega),show(k+1)*7+6-(kz l q).length=k*7+6 by rw[h7];omega]
theorem EN: ∀ {ls:List Lf} {ks:List LK} {k:Nat} (hk:ks.length=ls.length) (h:k<ls.length),eU (ls.set k {lf ls k with la:=true}) ks=eU ls ks:=by
 intro ls
 induction ls with
 |nil=>intro ks k _ h;simp at h
 |cons l ls ih=>
  intro ks k hk h
  cases ks with
  |nil=>simp at hk
  |cons q ks=>
   cases k with
   |zero=>rfl
   |succ k=>
    show(⟨q.b,q.c,_⟩:Rec)::eU (ls.set k {lf ls k with la:=true}) ks=_::eU ls ks
    rw[ih (by simpa using hk) (by simpa using h)]
theorem HX {II Bo I:TypeId}: ∀ {ls:List Lf} {ks:List LK} {k:Nat} (hk:ks.length=ls.length) (h:k<ls.length),gF II Bo I (ls.set k {lf ls k with la:=true}) ks=gF II Bo I ls ks:=by
 intro ls
 induction ls with
 |nil=>intro ks k _ h;simp at h
 |cons l ls ih=>
  intro ks k hk h
  cases ks with
  |nil=>simp at hk
  |cons q ks=>
   cases k with
   |zero=>rfl
   |succ k=>
    show dI II Bo I l.d q.k::gF II Bo I (ls.set k {lf ls k with la:=true}) ks=dI II Bo I l.d q.k::gF II Bo I ls ks
    rw[ih (by simpa using hk) (by simpa using h)]
theorem EL {ls:List Lf} {b x:List Nat} {i:Nat} (h:i<b.length):l6 ls (b.take (i+1)) x=(l6 ls (b.take i) x).set b[i] {lf (l6 ls (b.take i) x) b[i]with fo:=(lf (l6 ls (b.take i) x) b[i]).fo++x}:=by
 unfold l6;rw[aH h,cY];rfl
theorem uD {E:TypeId}: ∀ {qs:List Rec} {c:Nat} (h:c<qs.length),(ce E qs).Perm (qs[c].sM E::ce E (qs.eraseIdx c))
 |q::qs,0,_=>by simp
 |q::qs,c+1,h=>by
  have ih:=uD (E:=E) (qs:=qs) (c:=c) (by simpa using h)
  simp only[ce,cD,List.eraseIdx_cons_succ,List.getElem_cons_succ]at ih⊢
  exact(ih.cons _).trans (List.Perm.swap _ _ _)
theorem KV {E:TypeId} {qs:List Rec} {c:Nat} {q:Rec} (h:qs[c]? =some q) (X Y:List Item):Sub (q.sM E::(X++(ce E (qs.eraseIdx c)++Y))) (X++(ce E qs++Y)):=by
 obtain⟨hc,rfl⟩:=List.getElem?_eq_some_iff.1 h
 refine⟨X++(ce E qs++Y),?_,aZ _⟩
 refine((List.perm_middle (a:=qs[c].sM E) (l₁:=X)).symm).trans (List.Perm.append_left X ?_)
 exact((uD hc).symm.append_right Y)
theorem Oh {E:TypeId} {qs:List Rec} {c:Nat} (h:c<qs.length) (X Y:List Item) (q:Rec):Sub (X++(ce E (qs.set c q)++Y)) (q.sM E::(X++(ce E (qs.eraseIdx c)++Y))):=by
 have h1:=uD (E:=E) (qs:=qs.set c q) (c:=c) (by simpa using h)
 rw[List.getElem_set_self,List.eraseIdx_set_eq]at h1
 refine⟨_,?_,aZ _⟩
 exact((h1.append_right Y).append_left X).trans (List.perm_middle (a:=q.sM E) (l₁:=X))
theorem dA.post {P:Program} {base:World} {tm:Value} {f:FuncId} {args:List Value} {O:List Item} {R R':Value→List Item→Prop} {Z:Prop} (h:dA P base tm f args O R Z) (hr: ∀v O',R v O'→ ∃O2,Sub O2 O'∧R' v O2):dA P base tm f args O R' Z:=fun w M hI=>
 (h w M hI).mono fun e w' h9=>h9.imp (fun⟨v,O',he,nT,hv⟩=>by
  obtain⟨O2,hs,h2⟩:=hr v O' hv
  exact⟨v,O2,he,nT.j_ hs.oM,h2⟩) id
theorem qM (A B X Y:List Item) (c d:Item) (h:Sub (A++[c,d]) B):Sub (A++((X++[c])++(Y++[d]))) (B++(X++Y)):=by
 obtain⟨l,h1,h2⟩:=h
 refine⟨l++(X++Y),?_,h2.append (aZ _)⟩
 refine List.Perm.trans ?_ (h1.append_right (X++Y))
 rw[aI A]
 refine List.Perm.append_left A ?_
 rw[aI X]
 refine(List.perm_append_comm_assoc X [c] (Y++[d])).trans ?_
 show(c::(X++(Y++[d]))).Perm (c::d::(X++Y))
 refine List.Perm.cons c ?_
 rw[←aI]
 exact List.perm_append_comm
theorem sv (E:TypeId) (qs:List Rec) (q:Rec):ce E (qs++[q])=ce E qs++[q.sM E]:=bo
theorem xQ: ∀(b x:List Nat) (ls:List Lf) (M:Nat),(∀l∈ls,l.fo.length≤M)→ ∀l∈l6 ls b x,l.fo.length≤M+b.length*x.length
 | [],x,ls,M,h,l,hl=>by have:=h l hl;simpa using this
 |k::b,x,ls,M,h,l,hl=>by
  have h2: ∀l∈ls.set k {lf ls k with fo:=(lf ls k).fo++x},l.fo.length≤M+x.length:=fun l hl=>by
   by_cases hk:k<ls.length
   ·rcases List.mem_or_eq_of_mem_set hl with hl|rfl
    ·have:=h l hl;omega
    ·have:=h _ (ko hk);rw[aF];omega
   ·rw[List.set_eq_of_length_le (by omega)]at hl;have:=h l hl;omega
  have:=xQ b x _ _ h2 l hl
  rw[bL,Nat.succ_mul];omega
theorem xR (a b:Nat):(a+b)*(a+b)=a*a+b*b+2*(a*b):=by
 rw[Nat.add_mul,Nat.mul_add,Nat.mul_add,Nat.mul_comm b a];omega
theorem rk (v:Nat): ∀(t:Rx) (ls:List Lf) (N:Nat),(∀l∈ls,l.fo.length≤N)→ ∀l∈(aY v t ls).ls,l.fo.length≤N+t.lv*t.lv:=by
 have leaf: ∀(ls:List Lf) (N:Nat) (q:Lf),q.fo=[]→(∀l∈ls,l.fo.length≤N)→ ∀l∈ls++[q],l.fo.length≤N+1*1:=fun ls N q hq h l hl=>by
  rcases List.mem_append.1 hl with hl|hl
  ·have:=h l hl;omega
  ·rw[List.mem_singleton.1 hl,hq];exact bs _
 intro t
 induction t with
 |je a b mJ uE=>
  intro ls N h l hl
  have h1:=uE _ _ (mJ ls N h)
  have h2:=xQ _ (aY v b (aY v a ls).ls).fi _ _ h1 l hl
  have h3:=(gl v a ls).2.2.2
  have h4:=(gl v b (aY v a ls).ls).2.2.1
  have h5:(aY v a ls).la.length*(aY v b (aY v a ls).ls).fi.length≤a.lv*b.lv:=Nat.mul_le_mul h3 h4
  show _≤N+(a.lv+b.lv)*(a.lv+b.lv)
  rw[xR];omega
 |jq a b mJ uE=>
  intro ls N h l hl
  have h1:=uE _ _ (mJ ls N h) l hl
  show _≤N+(a.lv+b.lv)*(a.lv+b.lv)
  rw[xR];omega
 |none=>exact fun ls N h=>leaf ls N _ F h
 |empty=>exact fun ls N h=>leaf ls N _ F h
 |letter p n=>exact fun ls N h=>leaf ls N _ F h
 |and a b _ _=>exact fun ls N h=>leaf ls N _ F h
 |not a _=>exact fun ls N h=>leaf ls N _ F h
 |star a _=>exact fun ls N h=>leaf ls N _ F h
 |ahead a _=>exact fun ls N h=>leaf ls N _ F h
 |behind a _=>exact fun ls N h=>leaf ls N _ F h
def sr (ls:List Lf) (t:Rx):Prop:= ∃N,(∀l∈ls,l.fo.length≤N)∧N+t.lv*t.lv≤100000
theorem sr.left {ls:List Lf} {a b:Rx} (h: ∃N,(∀l∈ls,l.fo.length≤N)∧N+(a.lv+b.lv)*(a.lv+b.lv)≤100000):sr ls a:=by
 obtain⟨N,h1,h2⟩:=h;rw[xR]at h2;exact⟨N,h1,by omega⟩
theorem sr.right {v:Nat} {ls:List Lf} {a b:Rx} (h: ∃N,(∀l∈ls,l.fo.length≤N)∧N+(a.lv+b.lv)*(a.lv+b.lv)≤100000):sr (aY v a ls).ls b:=by
 obtain⟨N,h1,h2⟩:=h;rw[xR]at h2;exact⟨_,rk v a ls N h1,by omega⟩
theorem EJ {v:Nat} {ls:List Lf} {a b:Rx} (h: ∃N,(∀l∈ls,l.fo.length≤N)∧N+(a.lv+b.lv)*(a.lv+b.lv)≤100000) {y:List Nat} (hy:y.length≤a.lv) {k:Nat} (hk:k<(l6 (aY v b (aY v a ls).ls).ls y (aY v b (aY v a ls).ls).fi).length):(lf (l6 (aY v b (aY v a ls).ls).ls y (aY v b (aY v a ls).ls).fi) k).fo.length≤100000:=by
 obtain⟨N,h1,h2⟩:=h
 rw[xR]at h2
 have h3:=xQ y (aY v b (aY v a ls).ls).fi _ _ (rk v b _ _ (rk v a ls N h1)) _ (ko hk)
 have h4:=(gl v b (aY v a ls).ls).2.2.1
 have h5:y.length*(aY v b (aY v a ls).ls).fi.length≤a.lv*b.lv:=Nat.mul_le_mul hy h4
 omega
end Go.Lx

namespace Go.Lx
open Go.RowKit
instance:Nonempty St:=⟨⟨[],[]⟩⟩
def h_ (x:eE):Bool:=decide (x.op=9)||decide (x.op=10)
def pK (ls:List Lf) (la:List Nat):List Lf:=la.foldl (fun ls k=>ls.set k {lf ls k with la:=true}) ls
theorem uB: ∀(la:List Nat) (ls:List Lf),(pK ls la).length=ls.length
 | [],ls=>rfl
 |k::la,ls=>by
  show(pK (ls.set k _) la).length=_
  rw[uB la,eX]
theorem EO {ls:List Lf} {la:List Nat} {i:Nat} (h:i<la.length):pK ls (la.take (i+1))=(pK ls (la.take i)).set la[i] {lf (pK ls (la.take i)) la[i]with la:=true}:=by
 unfold pK;rw[aH h,cY];rfl
noncomputable def nw (v:Nat) (t:Rx):List Lf:=pK (aY v t []).ls (aY v t []).la
noncomputable def JM (v:Nat) (t:Rx):List Nat:=(aY v t []).fi
noncomputable def Ya (v:Nat) (t:Rx):Lg:=fun u=>sf (u.foldl (mZ (nw v t)) (lF (nw v t) (JM v t)))
def Ry (v:Nat) (t:Rx) (B:Nat):Prop:=HI (Bi (kV (nw v t)) St.key (mZ (nw v t))) (2^v) (lF (nw v t) (JM v t)).key B
def ZV (v:Nat) (t:Rx) (B:Nat):Prop:=okB v t B∧Ry v t B
theorem CZ (v:Nat) (t:Rx):(nw v t).length=t.lv:=by unfold nw;rw[uB,e_];simp
theorem F2 {v:Nat} {t:Rx}: ∀k∈JM v t,k<(nw v t).length:=fun k hk=>by
 have:=(gl v t []).1 k hk;rw[CZ];simpa using this.2
theorem K1 {v:Nat} {t:Rx} (hG:ji (nw v t) v) {u:List Nat} (hu: ∀x∈u,x<2^v):HL (kV (nw v t)) St.key sf (u.foldl (Bi (kV (nw v t)) St.key (mZ (nw v t))) (lF (nw v t) (JM v t)).key)=Ya v t u:=
 AW (F1 hG) (xP hG F2) hu
theorem kU.of {w base:World} {O:List Item} (hI:Inv base O w) {ob:Nat} {lb:Option Addr} {lc:Nat} {cv fv:Value} {ls:List Lf} {ks:List LK} {OL LT:TypeId} (hk:ks.length=ls.length)
  (h1:dR ob (.cells [cv,.slice lb ls.length lc,fv].toArray OL (0,0))∈O) (h2:aq lb lc LT 7 (dj ls ks)∈O) {II Bo I:TypeId} (h3: ∀it∈ce I (eU ls ks),it∈O) (h4: ∀it∈gF II Bo I ls ks,it∈O):kU w ob lb lc cv fv ls ks:=by
 refine⟨hI.jZ h1,hI.gW h2,hk,fun k vd=>?_,fun k vd=>?_⟩
 ·have hz:=bS (Le hk vd)
  exact hI.at (k:=(lk ks k).k) (h4 _ (List.mem_map.2 ⟨_,hz,F⟩))
 ·have hr:=bS (CP hk vd)
  have h5:=hI.gW (h3 _ (List.mem_map.2 ⟨_,hr,F⟩))
  rw[gk]at h5;exact h5
end Go.Lx

namespace Go.Proofs.YtgdbfideeeegmaaGreatDoor
open Go.Lx Go.RowKit _root_.Go.Proofs.Tryz
theorem ZF (w:World) [dB Tryz.prog w] (p n x:Nat) (hp:p<256) (hn:n<256) (hx:x<256):
  cA Tryz.prog 140 [.agg #[v8 p,v8 n],v8 x] w fun v N=>v=.bool (gm p n x)∧N=[]:=by
 refine aG func140 F ntmps140 F ?_
 refine ai (ao F (dE (cs:=[v8 p,v8 n]) F F (fun nP=>?_)))
 refine aj F (ae (ai (ah F (ad (bj kQ F dF F F) (ad (bn 0 fF F F F F) (ad (Ft (a:=x) (b:=p) .u8 F F (by show _<256;omega) (by show _<256;omega)) (ad (bj kQ F dF F F) (ad (bn 0 fF F F F F) (ad (bM F F) ?_)))))))))
 by_cases V6:((x&&&p:Nat):Int)=((p:Nat):Int)
 ·refine ad (aA (aK F) (av V6)) ?_
  refine aB F F (aK F) (aB F F (bj kQ F dF F F) (aB F F (bn 0 fF F F F F) (aB F F (Ft (a:=x) (b:=n) .u8 F F (by show _<256;omega) (by show _<256;omega)) (aB F F (bM F F) (ad (cg F F) (aj F (ae (aN (az ?_)))))))))
  refine aT (.bool (decide (((x&&&n:Nat):Int)=0))) Tryz.results140 F ?_
  exact⟨[],cj (cm _),ax Value.bool (Eq.symm (decide_eq_decide.2 (by omega))),F⟩
 refine ad (aA (aK F) (ak V6)) (aS F F (aS F F (aS F F (aS F F (aS F F (ad (b_ F F) (aj F (ae (aN (az ?_))))))))))
 refine aT (.bool false) Tryz.results140 F ?_
 exact⟨[],cj (cm _),ax Value.bool (Eq.symm (ak (fun hm=>by omega))),F⟩
theorem Cw (A B X:List Lx.Item) (c:Lx.Item) (h:Sub (A++[c]) B):Sub (A++(X++[c])) (B++X):=by
 have:=qA A B X [] c h
 simpa using this
theorem ZG (w:World) [dB Tryz.prog w] (cb:Nat) (eb:Option Addr) (en ec vs B:Nat) (eR:Sl w (aD cb) [.slice eb en ec,vI (vs:Int),vI (B:Int)]) (gq:vs≤6):
  cA Tryz.prog 103 [(d_ (aD cb) 0)] w fun v N=> ∃nb nc fb fc qs,v=.agg (eG (fD (vs:Int) true) nb nc fb fc).toArray∧N=[aq nb nc 56 1 (dl qs),aq fb fc 4 1 (cE (fD (vs:Int) true).aV)]++ce 3 qs∧nums qs=(fD (vs:Int) true).next:=by
 refine aG func103 F ntmps103 F ?_
 obtain⟨L,hL⟩: ∃L,2^vs=L:=⟨_,F⟩
 have RN:L≤64:=by rw[←hL];exact bO (by decide) gq
 refine ai (ao F (bu bK F (fun nP=>?_)))
 refine ae ?_
 refine gh (fun ρ O=> ∃(zA zB zC:Nat),O=[aq (aD zA) L 3 1 (List.replicate L (vI 0)),aq (aD zB) 1 56 1 [(.slice (aD zA) L L)],aq (aD zC) 1 4 1 [.bool true],oI nP 25 [vI ((vs:Nat):Int),(vI 0),(.slice (aD zB) 1 1),(.slice (aD zC) 1 1)]]∧dt [(0,(d_ (aD cb) 0)),(2,(.pointer (aD nP)))] ρ) ?_ ?_
 ·refine n5 [] 14 mixed F (by exact Sub.z) (fun _ _ _ _ h=>h) ?_
  refine cB 0 F (by kernel_rfl) (aK F) ?_
  refine cB 1 F (by kernel_rfl) (bf F) ?_
  refine cB 2 F (by kernel_rfl) (ck k_ F bl F F (aJ eR) (by first|omega|(simp;done)|(simp;omega)|(simp_all;done)|(simp_all;omega))) ?_
  refine cB 3 F (by kernel_rfl) (c_ dS F F (aJ eR) F) ?_
  refine cB 4 F (by kernel_rfl) (aK F) ?_
  refine cB 5 F (by kernel_rfl) (bf F) ?_
  refine cB 6 F (by kernel_rfl) (ck k_ F bl F F (aJ eR) (by first|omega|(simp;done)|(simp;omega)|(simp_all;done)|(simp_all;omega))) ?_
  refine cB 7 F (by kernel_rfl) (c_ dS F F (aJ eR) F) ?_
  refine cB 8 F (by kernel_rfl) (bT (nL (v:=vs) F F (by omega)) (v':=vI ((L:Nat):Int)) (by rw[hL])) ?_
  refine bg [9,11] (by kernel_rfl) F ⟨⟨_,F,F,cW (m:=L) cI bl F F (by omega) (by omega) (fun zA=>⟨by exact Sub.z,?_⟩)⟩,⟨_,F,F,cO (v:=.bool true) eu fw F F F (fun zC=>⟨by exact Sub.z,?_⟩)⟩,trivial⟩
  ·refine bg [10,11] (by kernel_rfl) F ⟨⟨_,F,F,cO (v:=(.slice (aD zA) L L)) eI cU F F F (fun zB=>⟨by exact Sub.z,?_⟩)⟩,⟨_,F,F,cO (v:=.bool true) eu fw F F F (fun zC=>⟨by exact Sub.z,?_⟩)⟩,trivial⟩
   ·refine bg [11] (by kernel_rfl) F ⟨⟨_,F,F,cO (v:=.bool true) eu fw F F F (fun zC=>⟨by exact Sub.z,?_⟩)⟩,trivial⟩
    refine cB 12 F (by kernel_rfl) (cF (cs:=[vI ((vs:Nat):Int),(vI 0),(.slice (aD zB) 1 1),(.slice (aD zC) 1 1)]) jj bK (by kernel_rfl)) ?_
    refine bg [13] (by kernel_rfl) F ⟨⟨_,F,F,bV (vs:=[vI ((vs:Nat):Int),(vI 0),(.slice (aD zB) 1 1),(.slice (aD zC) 1 1)]) 3 bK F F F F ⟨by exact Sub.z,?_⟩⟩,trivial⟩
    exact dw (by kernel_rfl) ⟨zA,zB,zC,F,⟨F,F,trivial⟩⟩ (by exact Sub.eQ [aq (aD zC) 1 4 1 [.bool true],aq (aD zB) 1 56 1 [(.slice (aD zA) L L)]] _ (.eQ [aq (aD zC) 1 4 1 [.bool true]] _ (.k (.k .z))))
   refine bg [10] (by kernel_rfl) F ⟨⟨_,F,F,cO (v:=(.slice (aD zA) L L)) eI cU F F F (fun zB=>⟨by exact Sub.z,?_⟩)⟩,trivial⟩
   refine cB 12 F (by kernel_rfl) (cF (cs:=[vI ((vs:Nat):Int),(vI 0),(.slice (aD zB) 1 1),(.slice (aD zC) 1 1)]) jj bK (by kernel_rfl)) ?_
   refine bg [13] (by kernel_rfl) F ⟨⟨_,F,F,bV (vs:=[vI ((vs:Nat):Int),(vI 0),(.slice (aD zB) 1 1),(.slice (aD zC) 1 1)]) 3 bK F F F F ⟨by exact Sub.z,?_⟩⟩,trivial⟩
   exact dw (by kernel_rfl) ⟨zA,zB,zC,F,⟨F,F,trivial⟩⟩ (by exact Sub.eQ [aq (aD zB) 1 56 1 [(.slice (aD zA) L L)],aq (aD zC) 1 4 1 [.bool true]] _ (.k (.k (.k .z))))
  refine bg [9] (by kernel_rfl) F ⟨⟨_,F,F,cW (m:=L) cI bl F F (by omega) (by omega) (fun zA=>⟨by exact Sub.z,?_⟩)⟩,trivial⟩
  refine bg [10] (by kernel_rfl) F ⟨⟨_,F,F,cO (v:=(.slice (aD zA) L L)) eI cU F F F (fun zB=>⟨by exact Sub.z,?_⟩)⟩,trivial⟩
  refine cB 12 F (by kernel_rfl) (cF (cs:=[vI ((vs:Nat):Int),(vI 0),(.slice (aD zB) 1 1),(.slice (aD zC) 1 1)]) jj bK (by kernel_rfl)) ?_
  refine bg [13] (by kernel_rfl) F ⟨⟨_,F,F,bV (vs:=[vI ((vs:Nat):Int),(vI 0),(.slice (aD zB) 1 1),(.slice (aD zC) 1 1)]) 3 bK F F F F ⟨by exact Sub.z,?_⟩⟩,trivial⟩
  exact dw (by kernel_rfl) ⟨zA,zB,zC,F,⟨F,F,trivial⟩⟩ (by exact Sub.eQ [aq (aD zB) 1 56 1 [(.slice (aD zA) L L)]] _ (.k (.k (.k .z))))
 rintro ρ O ⟨zA,zB,zC,rfl,hH⟩
 obtain⟨gP,rfl⟩:=hH.elim
 clear hH
 refine aN (az ?_)
 refine cL (i:=3) Tryz.results103 cS F bK F F F ?_
 exact⟨[aq (aD zB) 1 56 1 (dl [⟨(aD zA),L,List.replicate L 0⟩]),aq (aD zC) 1 4 1 (cE [true])]++ce 3 [⟨(aD zA),L,List.replicate L 0⟩],by rw[show ce 3 [(⟨(aD zA),L,List.replicate L 0⟩:Rec)]=[aq (aD zA) L 3 1 (List.replicate L (vI 0))] by simp[ce,Rec.sM],show dl [(⟨(aD zA),L,List.replicate L 0⟩:Rec)]=[(.slice (aD zA) L L)] by simp[Rec.val]];exact(by exact Sub.eQ [aq (aD zA) L 3 1 (List.replicate L (vI 0))] _ (.eQ [aq (aD zA) L 3 1 (List.replicate L (vI 0))] _ (.k .z))),(aD zB),1,(aD zC),1,[⟨(aD zA),L,List.replicate L 0⟩],F,F,by rw[←hL];rfl⟩
theorem MN (w:World) [dB Tryz.prog w] (cb:Nat) (eb:Option Addr) (en ec vs B:Nat) (eR:Sl w (aD cb) [.slice eb en ec,vI (vs:Int),vI (B:Int)]) (gq:vs≤6):
  cA Tryz.prog 103 [(d_ (aD cb) 0)] w fun v N=> ∃k,v=dV (fD (vs:Int) true) k∧N=[dI 56 4 3 (fD (vs:Int) true) k]:=
 cd.dk (g:=id) (ZG w cb eb en ec vs B eR gq)
theorem Km (w:World) [dB Tryz.prog w] (cb:Nat) (eb:Option Addr) (en ec vs B:Nat) (eR:Sl w (aD cb) [.slice eb en ec,vI (vs:Int),vI (B:Int)]) (gq:vs≤6) (iN:1≤B) (hB:B≤4096) (n op pp pn:Nat) (pa pb:Int) (hn:n≤1) (Nc:pp<256) (oz:pn<256):
  dA Tryz.prog w (.iface 163 (.agg #[])) 104 [(d_ (aD cb) 0),vI ((n:Nat):Int),(.agg #[v8 op,v8 pp,v8 pn,vI pa,vI pb])] [] (fun v N=> ∃M k',v=dV M k'∧N=[dI 56 4 3 M k']∧gf (vs:Int) B M (Cx n (gm pp pn))∧(fJ (Er vs n (gm pp pn))).next.length≤B) (¬(fJ (Er vs n (gm pp pn))).next.length≤B):=by
 refine dL func104 F ntmps104 F ?_
 obtain⟨L,hL⟩: ∃L,2^vs=L:=⟨_,F⟩
 have RN:L≤64:=by rw[←hL];exact bO (by decide) gq
 refine ai (ao F (dE (cs:=[v8 op,v8 pp,v8 pn,vI pa,vI pb]) F F (fun z1=>?_)))
 refine ao F (bu bK F (fun z2=>?_))
 refine ae (ai (ah F (ad (dx (a:=n) (b:=1) F F (by omega)) (aj F (ae ?_)))))
 refine gh (fun ρ O=> ∃(zF zd:Nat),O=[aq (aD zF) (n+2) 4 1 (List.replicate (n+2) (.bool false)),oI zd 25 [vI ((vs:Nat):Int),(vI 0),nS,(.slice (aD zF) (n+2) (n+2))],oI z2 25 [(vI 0),(vI 0),nS,nS],oI z1 72 [v8 op,v8 pp,v8 pn,vI pa,vI pb]]∧dt [(0,(d_ (aD cb) 0)),(1,vI ((n:Nat):Int)),(2,(.agg #[v8 op,v8 pp,v8 pn,vI pa,vI pb])),(5,(.pointer (aD z1))),(6,(.pointer (aD z2))),(7,vI ((n+1:Nat):Int)),(8,(.pointer (aD zd)))] ρ) ?_ ?_
 ·refine n5 [] 10 mixed F (by exact Sub.z) (fun _ _ _ _ h=>h) ?_
  refine cB 0 F (by kernel_rfl) (aK F) ?_
  refine cB 1 F (by kernel_rfl) (bf F) ?_
  refine cB 2 F (by kernel_rfl) (ck k_ F bl F F (aJ eR) (by first|omega|(simp;done)|(simp;omega)|(simp_all;done)|(simp_all;omega))) ?_
  refine cB 3 F (by kernel_rfl) (c_ dS F F (aJ eR) F) ?_
  refine cB 4 F (by kernel_rfl) (aK F) ?_
  refine cB 5 F (by kernel_rfl) (dx (a:=n) (b:=2) F F (by omega)) ?_
  refine bg [6,8] (by kernel_rfl) F ⟨⟨_,F,F,cW (m:=n+2) eu fw F F (by omega) (by omega) (fun zF=>⟨by exact Sub.z,?_⟩)⟩,⟨_,F,F,bu bK F (fun zd=>⟨by exact Sub.z,?_⟩)⟩,trivial⟩
  ·refine cB 7 F (by kernel_rfl) (cF (cs:=[vI ((vs:Nat):Int),(vI 0),nS,(.slice (aD zF) (n+2) (n+2))]) jj bK (by kernel_rfl)) ?_
   refine bg [8] (by kernel_rfl) F ⟨⟨_,F,F,bu bK F (fun zd=>⟨by exact Sub.z,?_⟩)⟩,trivial⟩
   refine bg [9] (by kernel_rfl) F ⟨⟨_,F,F,bV (vs:=[vI ((vs:Nat):Int),(vI 0),nS,(.slice (aD zF) (n+2) (n+2))]) 0 bK F F F F ⟨by exact Sub.z,?_⟩⟩,trivial⟩
   exact dw (by kernel_rfl) ⟨zF,zd,F,(.of F)⟩ (by exact Sub.eQ [oI zd 25 [vI ((vs:Nat):Int),(vI 0),nS,(.slice (aD zF) (n+2) (n+2))]] _ (.k (.k (.k .z))))
  refine bg [6] (by kernel_rfl) F ⟨⟨_,F,F,cW (m:=n+2) eu fw F F (by omega) (by omega) (fun zF=>⟨by exact Sub.z,?_⟩)⟩,trivial⟩
  refine cB 7 F (by kernel_rfl) (cF (cs:=[vI ((vs:Nat):Int),(vI 0),nS,(.slice (aD zF) (n+2) (n+2))]) jj bK (by kernel_rfl)) ?_
  refine bg [9] (by kernel_rfl) F ⟨⟨_,F,F,bV (vs:=[vI ((vs:Nat):Int),(vI 0),nS,(.slice (aD zF) (n+2) (n+2))]) 1 bK F F F F ⟨by exact Sub.z,?_⟩⟩,trivial⟩
  exact dw (by kernel_rfl) ⟨zF,zd,F,(.of F)⟩ (by exact Sub.rf)
 rintro ρ O ⟨zF,zd,rfl,hH⟩
 obtain⟨gP,rfl⟩:=hH.elim
 clear hH
 refine ai (ad (bj cS F dy F F) (ad (bn 1 eu F F F F) (ah F (ad (dZ (i:=n) eu fw F F (dX (mG 0 F)) (by omega) (by simp)) (ao F (n7 (j:=n) (v:=.bool true) (vs:=[(.bool true)]) (cs:=List.replicate (n+2) (.bool false)) 0 fw F F F F F (by simp) F (by simp;try omega) ?_))))))
 refine ef (O':=[aq (aD zF) (n+2) 4 1 ((List.replicate (n+2) (.bool false)).set n (.bool true)),oI zd 25 [vI ((vs:Nat):Int),(vI 0),nS,(.slice (aD zF) (n+2) (n+2))],oI z2 25 [(vI 0),(vI 0),nS,nS],oI z1 72 [v8 op,v8 pp,v8 pn,vI pa,vI pb]]) (by rw[show fe (List.replicate (n+2) (.bool false)) n [(.bool true)]=(List.replicate (n+2) (.bool false)).set n (.bool true)from(by simp[fe])];exact cj (aZ _)) ?_
 refine ae (aO (ai (ah F (ad (dx (a:=n) (b:=2) F F (by omega)) (ah F (ae (aU (T.eY 56 1 ?_))))))))
 refine dv (O':=[aq none 0 56 1 [],aq (aD zF) (n+2) 4 1 ((List.replicate (n+2) (.bool false)).set n (.bool true)),oI zd 25 [vI ((vs:Nat):Int),(vI 0),nS,(.slice (aD zF) (n+2) (n+2))],oI z2 25 [(vI 0),(vI 0),nS,nS],oI z1 72 [v8 op,v8 pp,v8 pn,vI pa,vI pb]]++ce 3 []) ((aC [0,0,0,0,0] F)) ?_
 refine dM (fun(s:Nat) ρ O=> ∃(rq:List Rec) (ob:Option Addr) (oc:Nat),O=([aq ob oc 56 1 (dl rq),aq (aD zF) (n+2) 4 1 ((List.replicate (n+2) (.bool false)).set n (.bool true)),oI zd 25 [vI ((vs:Nat):Int),(vI 0),(.slice ob s oc),(.slice (aD zF) (n+2) (n+2))],oI z2 25 [(vI 0),(vI 0),nS,nS],oI z1 72 [v8 op,v8 pp,v8 pn,vI pa,vI pb]]++(ce 3 rq))∧s≤n+2∧nums rq=(List.range s).map (vl L n (gm pp pn))∧dt [(0,(d_ (aD cb) 0)),(1,vI ((n:Nat):Int)),(2,(.agg #[v8 op,v8 pp,v8 pn,vI pa,vI pb])),(5,(.pointer (aD z1))),(6,(.pointer (aD z2))),(7,vI ((n+1:Nat):Int)),(8,(.pointer (aD zd))),(27,vI ((n+2:Nat):Int)),(28,vI ((s:Nat):Int))] ρ) (fun s=>n+2-s) 0 ?_ ?_
 ·exact⟨[],none,0,F,by omega,F,(.of F)⟩
 rintro s ρ O ⟨rq,ob,oc,rfl,hs,ZH,hH⟩
 obtain⟨gP,rfl⟩:=hH.elim
 clear hH
 have Dw:rq.length=s:=by have:=ax List.length ZH;simpa using this
 refine ai (ad (cR F F) (ae (aO (aP F (fun hc=>?_) (fun hc=>?_)))))
 ·have V7:s<n+2:=by omega
  refine aE (aO (aU (ai (ah F (aj F (ae (ai (ah F (ad (bf F) (ad (ck k_ F bl F F (aJ eR) (by first|omega|(simp;done)|(simp;omega)|(simp_all;done)|(simp_all;omega))) (ad (c_ dS F F (aJ eR) F) (ad (bT (nL (v:=vs) F F (by omega)) (v':=vI ((L:Nat):Int)) (by rw[hL])) (ao F (cW (m:=L) cI bl F F (by omega) (by omega) (fun z3=>?_)))))))))))))))
  refine aj F (ae (aO (ai (ah F (ad (cP cI F) (ah F (ae (aU ?_))))))))
  refine dM (fun(x:Nat) ρ O=> ∃(ys:List Int),O=([aq (aD z3) L 3 1 (ints ys),aq ob oc 56 1 (dl rq),aq (aD zF) (n+2) 4 1 ((List.replicate (n+2) (.bool false)).set n (.bool true)),oI zd 25 [vI ((vs:Nat):Int),(vI 0),(.slice ob s oc),(.slice (aD zF) (n+2) (n+2))],oI z2 25 [(vI 0),(vI 0),nS,nS],oI z1 72 [v8 op,v8 pp,v8 pn,vI pa,vI pb]]++(ce 3 rq))∧x≤L∧ys.length=L∧(∀i,i<x→ys[i]? =some (PZ n (gm pp pn) s i))∧dt [(0,(d_ (aD cb) 0)),(1,vI ((n:Nat):Int)),(2,(.agg #[v8 op,v8 pp,v8 pn,vI pa,vI pb])),(5,(.pointer (aD z1))),(6,(.pointer (aD z2))),(7,vI ((n+1:Nat):Int)),(8,(.pointer (aD zd))),(9,vI ((s:Nat):Int)),(10,(.slice (aD z3) L L)),(27,vI ((n+2:Nat):Int)),(28,vI ((s:Nat):Int)),(38,vI (L:Int)),(39,vI ((x:Nat):Int))] ρ) (fun x=>L-x) 0 ?_ ?_
  ·exact⟨List.replicate L 0,by simp,bs _,by simp,fun i hi=>absurd hi (by omega),(.of F)⟩
  rintro x ρ O ⟨ys,rfl,hx,Cl,yJ,hH⟩
  obtain⟨gP,rfl⟩:=hH.elim
  clear hH
  refine ai (ad (cR F F) (ae (aO (aP F (fun hc=>?_) (fun hc=>?_)))))
  ·have xE:x<L:=by omega
   refine aE (aO (aU (ai (ah F (aj F (ae (ai (ah F (ah F (ah F (ad (dZ (i:=x) cI bl F F (dX (mG 0 F)) (by omega) (by rw[ar];omega)) (ao F (n7 (j:=x) (v:=vI ((n+1:Nat):Int)) (vs:=[(vI ((n+1:Nat):Int))]) (cs:=ints ys) 0 bl F F F F F (by simp) F (by first|(simp;omega)|(simp_all;omega)) ?_)))))))))))))
   refine ef (O':=([aq (aD z3) L 3 1 (ints (ys.set x ((n+1:Nat):Int))),aq ob oc 56 1 (dl rq),aq (aD zF) (n+2) 4 1 ((List.replicate (n+2) (.bool false)).set n (.bool true)),oI zd 25 [vI ((vs:Nat):Int),(vI 0),(.slice ob s oc),(.slice (aD zF) (n+2) (n+2))],oI z2 25 [(vI 0),(vI 0),nS,nS],oI z1 72 [v8 op,v8 pp,v8 pn,vI pa,vI pb]]++(ce 3 rq))) (by rw[show fe (ints ys) x [(vI ((n+1:Nat):Int))]=ints (ys.set x ((n+1:Nat):Int))from(by simp[fe])];exact cj (aZ _)) ?_
   refine ae (ai (ah F (ah F ?_)))
   by_cases rH:((s:Nat):Int)<((n:Nat):Int)
   ·refine ad (aA (cR F F) (av rH)) ?_
    refine ah F (aB F F (bj cp F dF F F) (aB F F (bn 5 fF F F F F) (aB F F (bj cp F dF F F) (aB F F (bn 5 fF F F F F) (aB F F (cF (cs:=[v8 pp,v8 pn]) jh gi (by kernel_rfl)) (aB F F (aK F) (aB F F (fS dS fF F (qg (by omega))) ?_)))))))
    refine iv F F F (bm Sa (aX fun w1 hI=>(haveI:=ey hI;ZF w1 pp pn x Nc oz (by omega))) F ?_)
    rintro vr O' ⟨N,rfl,rfl,rfl⟩
    refine ad (cg F F) (ae (T.cond F (fun hc=>?_) (fun hc=>?_)))
    ·refine be ?_
     refine ah F (ah F (ah F (ad (dx (a:=s) (b:=1) F F (by omega)) (ad (dZ (i:=x) cI bl F F (dX (mG 0 F)) (by omega) (by first|(simp;done)|(simp;omega))) (ao F (n7 (j:=x) (v:=vI ((s+1:Nat):Int)) (vs:=[(vI ((s+1:Nat):Int))]) (cs:=ints (ys.set x ((n+1:Nat):Int))) 0 bl F F F F F (by simp) F (by first|(simp;omega)|(simp_all;omega)) ?_))))))
     refine ef (O':=([aq (aD z3) L 3 1 (ints ((ys.set x ((n+1:Nat):Int)).set x ((s+1:Nat):Int))),aq ob oc 56 1 (dl rq),aq (aD zF) (n+2) 4 1 ((List.replicate (n+2) (.bool false)).set n (.bool true)),oI zd 25 [vI ((vs:Nat):Int),(vI 0),(.slice ob s oc),(.slice (aD zF) (n+2) (n+2))],oI z2 25 [(vI 0),(vI 0),nS,nS],oI z1 72 [v8 op,v8 pp,v8 pn,vI pa,vI pb]]++(ce 3 rq))) (by rw[show fe (ints (ys.set x ((n+1:Nat):Int))) x [(vI ((s+1:Nat):Int))]=ints ((ys.set x ((n+1:Nat):Int)).set x ((s+1:Nat):Int))from(by simp[fe])];exact cj (aZ _)) ?_
     refine ae (be (ad (dx (a:=x) (b:=1) F F (by omega)) (ah F (ae ?_))))
     have hv:PZ n (gm pp pn) s x=((s+1:Nat):Int):=aR ⟨by omega,by first|exact hc|simpa using hc⟩
     exact⟨x+1,by omega,([aq (aD z3) L 3 1 (ints ((ys.set x ((n+1:Nat):Int)).set x ((s+1:Nat):Int))),aq ob oc 56 1 (dl rq),aq (aD zF) (n+2) 4 1 ((List.replicate (n+2) (.bool false)).set n (.bool true)),oI zd 25 [vI ((vs:Nat):Int),(vI 0),(.slice ob s oc),(.slice (aD zF) (n+2) (n+2))],oI z2 25 [(vI 0),(vI 0),nS,nS],oI z1 72 [v8 op,v8 pp,v8 pn,vI pa,vI pb]]++(ce 3 rq)),(by exact Sub.rf),((ys.set x ((n+1:Nat):Int)).set x ((s+1:Nat):Int)),F,by omega,by simp[Cl],fun i hi=>by
      by_cases e:i=x
      ·subst e;rw[hv,List.getElem?_set_self (by first|omega|(simp;omega))]
      ·rw[List.getElem?_set_ne (fun h=>e h.symm)];first|exact yJ i (by omega)|(rw[List.getElem?_set_ne (fun h=>e h.symm)];exact yJ i (by omega)),(.of F)⟩
    refine aE (be (ad (dx (a:=x) (b:=1) F F (by omega)) (ah F (ae ?_))))
    have hv:PZ n (gm pp pn) s x=((n+1:Nat):Int):=ay (fun h9=>by first|omega|(have h8:=h9.2;simp_all;done))
    exact⟨x+1,by omega,([aq (aD z3) L 3 1 (ints (ys.set x ((n+1:Nat):Int))),aq ob oc 56 1 (dl rq),aq (aD zF) (n+2) 4 1 ((List.replicate (n+2) (.bool false)).set n (.bool true)),oI zd 25 [vI ((vs:Nat):Int),(vI 0),(.slice ob s oc),(.slice (aD zF) (n+2) (n+2))],oI z2 25 [(vI 0),(vI 0),nS,nS],oI z1 72 [v8 op,v8 pp,v8 pn,vI pa,vI pb]]++(ce 3 rq)),(by exact Sub.rf),(ys.set x ((n+1:Nat):Int)),F,by omega,by simp[Cl],fun i hi=>by
     by_cases e:i=x
     ·subst e;rw[hv,List.getElem?_set_self (by first|omega|(simp;omega))]
     ·rw[List.getElem?_set_ne (fun h=>e h.symm)];first|exact yJ i (by omega)|(rw[List.getElem?_set_ne (fun h=>e h.symm)];exact yJ i (by omega)),(.of F)⟩
   refine ad (aA (cR F F) (ak rH)) (ah F (aS F F (aS F F (aS F F (aS F F (aS F F (aS F F (aS F F ?_))))))))
   refine aS F F (ad (b_ F F) (ae (a_ F (aE (be (ad (dx (a:=x) (b:=1) F F (by omega)) (ah F (ae ?_))))))))
   have hv:PZ n (gm pp pn) s x=((n+1:Nat):Int):=ay (fun h9=>by first|omega|(have h8:=h9.2;simp_all;done))
   exact⟨x+1,by omega,([aq (aD z3) L 3 1 (ints (ys.set x ((n+1:Nat):Int))),aq ob oc 56 1 (dl rq),aq (aD zF) (n+2) 4 1 ((List.replicate (n+2) (.bool false)).set n (.bool true)),oI zd 25 [vI ((vs:Nat):Int),(vI 0),(.slice ob s oc),(.slice (aD zF) (n+2) (n+2))],oI z2 25 [(vI 0),(vI 0),nS,nS],oI z1 72 [v8 op,v8 pp,v8 pn,vI pa,vI pb]]++(ce 3 rq)),(by exact Sub.rf),(ys.set x ((n+1:Nat):Int)),F,by omega,by simp[Cl],fun i hi=>by
    by_cases e:i=x
    ·subst e;rw[hv,List.getElem?_set_self (by first|omega|(simp;omega))]
    ·rw[List.getElem?_set_ne (fun h=>e h.symm)];first|exact yJ i (by omega)|(rw[List.getElem?_set_ne (fun h=>e h.symm)];exact yJ i (by omega)),(.of F)⟩
  have P0: ¬x<L:=by omega
  refine cG ?_
  refine be (ad (bj cS F fa F F) (ad (bn 3 eI F F F F) (ah F (ao F (cO (v:=(.slice (aD z3) L L)) eI cU F F F (fun z4=>?_))))))
  refine ao F (dh 2 eI eI cU F F F F (by simp;omega) (by decide) (Src.row (j:=0) F (by simp)) (by simp[fu]) (by omega) (by decide) (by decide) (fun z5 P1=>?_))
  refine ad (bj cS F fa F F) (ao F (bV (vs:=[(.slice z5 (s+1) P1)]) 4 fa F F F F ?_))
  refine ae ?_
  refine dv (O':=[aq z5 P1 56 1 (dl (rq++[⟨(aD z3),L,ys⟩])),aq (aD zF) (n+2) 4 1 ((List.replicate (n+2) (.bool false)).set n (.bool true)),oI zd 25 [vI ((vs:Nat):Int),(vI 0),(.slice z5 (s+1) P1),(.slice (aD zF) (n+2) (n+2))],oI z2 25 [(vI 0),(vI 0),nS,nS],oI z1 72 [v8 op,v8 pp,v8 pn,vI pa,vI pb]]++ce 3 (rq++[⟨(aD z3),L,ys⟩])) (by
   rw[show dl (rq++[⟨(aD z3),L,ys⟩])=(dl rq)++[(.slice (aD z3) L L)] by simp[Rec.val,Cl],show ce 3 (rq++[⟨(aD z3),L,ys⟩])=ce 3 rq++[aq (aD z3) L 3 1 (ints ys)] by simp[ce,Rec.sM]]
   exact Cw [aq z5 P1 56 1 ((dl rq)++[(.slice (aD z3) L L)]),aq (aD zF) (n+2) 4 1 ((List.replicate (n+2) (.bool false)).set n (.bool true)),oI zd 25 [vI ((vs:Nat):Int),(vI 0),(.slice z5 (s+1) P1),(.slice (aD zF) (n+2) (n+2))],oI z2 25 [(vI 0),(vI 0),nS,nS],oI z1 72 [v8 op,v8 pp,v8 pn,vI pa,vI pb]] [aq (aD z4) 1 56 1 [(.slice (aD z3) L L)],aq (aD z3) L 3 1 (ints ys),aq z5 P1 56 1 ((dl rq)++[(.slice (aD z3) L L)]),aq (aD zF) (n+2) 4 1 ((List.replicate (n+2) (.bool false)).set n (.bool true)),oI zd 25 [vI ((vs:Nat):Int),(vI 0),(.slice z5 (s+1) P1),(.slice (aD zF) (n+2) (n+2))],oI z2 25 [(vI 0),(vI 0),nS,nS],oI z1 72 [v8 op,v8 pp,v8 pn,vI pa,vI pb]] (ce 3 rq) (aq (aD z3) L 3 1 (ints ys)) (by exact Sub.d (.eQ [aq (aD z3) L 3 1 (ints ys)] _ (.eQ [aq (aD z3) L 3 1 (ints ys)] _ (.eQ [aq (aD z3) L 3 1 (ints ys)] _ (.eQ [aq (aD z3) L 3 1 (ints ys)] _ (.eQ [aq (aD z3) L 3 1 (ints ys)] _ (.k .z)))))))) ?_
  refine be (ad (dx (a:=s) (b:=1) F F (by omega)) (ah F (ae ?_)))
  have Ej:x=L:=by omega
  have RR:ys=vl L n (gm pp pn) s:=by
   apply List.ext_getElem?
   intro i
   by_cases hi:i<L
   ·rw[yJ i (by omega)];simp only[vl];simp[hi]
   ·rw[bQ (by omega),bQ (by simp[vl];omega)]
  exact⟨s+1,by omega,_,cj (aZ _),rq++[⟨(aD z3),L,ys⟩],z5,P1,F,by omega,by rw[List.range_succ,bo,←ZH];simp[nums,RR],(.of F)⟩
 have V8: ¬s<n+2:=by omega
 refine cG ?_
 refine aO ?_
 have PT:s=n+2:=by omega
 obtain⟨W,hW⟩: ∃W,W=Er vs n (gm pp pn):=⟨_,F⟩
 have FO:HasL (vs:Int) 3 W (Cx n (gm pp pn)):=hW▸nG _ gq hn
 have e1:nums rq=W.next:=by rw[hW,ZH,PT,←hL];rfl
 have e2:(List.replicate (n+2) (.bool false)).set n (.bool true)=cE W.aV:=by rw[hW];show _=cE ((List.replicate (n+2) false).set n true);simp
 have e3:(vs:Int)=W.vars:=by rw[hW];rfl
 have e4:(0:Int)=W.start:=by rw[hW];rfl
 have e5:s=W.next.length:=by rw[←e1,←Dw];simp
 have e6:n+2=W.aV.length:=by rw[FO.valid.fin,←e5,PT]
 obtain⟨M,hM⟩: ∃m,fJ W=m:=⟨_,F⟩
 have Mz:gf (vs:Int) 3 M (Cx n (gm pp pn)):=hM▸FO.nX
 obtain⟨z9,VW⟩: ∃z:DK,z=⟨ob,oc,(aD zF),n+2,rq⟩:=⟨_,F⟩
 refine dv (O':=([aq ob oc 56 1 (dl rq),aq (aD zF) (n+2) 4 1 ((List.replicate (n+2) (.bool false)).set n (.bool true)),oI zd 25 [vI ((vs:Nat):Int),(vI 0),(.slice ob s oc),(.slice (aD zF) (n+2) (n+2))],oI z2 25 [(vI 0),(vI 0),nS,nS],oI z1 72 [v8 op,v8 pp,v8 pn,vI pa,vI pb]]++ce 3 rq)) Sub.rf ?_
 refine dv (O':=(([aq ob oc 56 1 (dl rq),aq (aD zF) (n+2) 4 1 (cE W.aV)]++ce 3 rq)++[oI zd 25 [(vI W.vars),(vI W.start),(.slice ob W.next.length oc),(.slice (aD zF) W.aV.length (n+2))],oI z2 25 [(vI 0),(vI 0),nS,nS],oI z1 72 [v8 op,v8 pp,v8 pn,vI pa,vI pb]])) (by rw[←e5,←e6,←e2,←e3,←e4];exact gK [aq ob oc 56 1 (dl rq),aq (aD zF) (n+2) 4 1 ((List.replicate (n+2) (.bool false)).set n (.bool true))] (ce 3 rq) [oI zd 25 [vI ((vs:Nat):Int),(vI 0),(.slice ob s oc),(.slice (aD zF) (n+2) (n+2))],oI z2 25 [(vI 0),(vI 0),nS,nS],oI z1 72 [v8 op,v8 pp,v8 pn,vI pa,vI pb]]) ?_
 refine sY (φ:=nums rq=W.next) e1 ?_
 refine dv (O':=[dI 56 4 3 W z9,oI zd 25 (dC W z9),oI z2 25 [(vI 0),(vI 0),nS,nS],oI z1 72 [v8 op,v8 pp,v8 pn,vI pa,vI pb]]) (by subst VW;exact Sub.rf) ?_
 refine be (ah F (ad (ew 1 cS F bK F F F) (ao F (bm xm (aX fun w1 hI=>(haveI:=ey hI;B2 w1 W z9 (hI.at (k:=z9) (mG 0 F)) FO.valid (by have:=FO.valid.n4;omega) (M:=M) hM)) F ?_))))
 rintro vr O' ⟨N,rfl,k9,rfl,rfl⟩
 refine ad (bG (vs:=_) F F) (ad (bG (vs:=_) F F) ?_)
 have V9:=fun(w1:World) (hI:Inv w [dI 56 4 3 M k9,dI 56 4 3 W z9,oI zd 25 (dC W z9),oI z2 25 [(vI 0),(vI 0),nS,nS],oI z1 72 [v8 op,v8 pp,v8 pn,vI pa,vI pb]] w1)=>(haveI:=ey hI;na w1 cb eb en ec vs B (hI.sl eR) M k9 0)
 refine eC F (eV si (dA.pure V9) F (fun z _=>⟨F,fun h9=>z ⟨F,hM▸hW▸h9⟩⟩) ?_)
 clear V9
 rintro vr O' ⟨N,rfl,rfl,rfl,_,yK⟩
 refine ao F (bV (vs:=(dC M k9)) 3 bK F F F F ?_)
 refine ae (aN (az ?_))
 refine cL (i:=3) Tryz.results104 cS F bK F F F ?_
 exact⟨[dI 56 4 3 M k9],(by exact Sub.k .z),M,k9,F,F,⟨Mz.toHasL.le yK,Mz.min⟩,by rw[←hW,hM];exact yK⟩
end Go.Proofs.YtgdbfideeeegmaaGreatDoor

namespace Go.Proofs.YtgdbfideeeegmaaGreatDoor
open Go.Lx Go.RowKit _root_.Go.Proofs.Tryz
theorem Ek (w:World) [dB Tryz.prog w] (cb:Nat) (eb:Option Addr) (en ec vs B L:Nat) (eR:Sl w (aD cb) [.slice eb en ec,vI (vs:Int),vI (B:Int)]) (gq:vs≤6) (hL:2^vs=L) (iN:1≤B) (hB:B≤4096)
  (tr:Key→Nat→Key) (fin:Key→Bool) (start:Key) (Rp:Key→SR→Prop) (r0:SR) (fk fn ff:Value) (HH:Rp start r0) (T5:r0.kL=[]) (vK: ∀k r,Rp k r→fu r.a=true∧fu r.b=true)
  (Cj: ∀w1 k r,Inv w [] w1→Rp k r→(∀it∈r.kL,it.P w1)→eK Tryz.prog w1 fk [r.a] [] (fun v O'=>v=str k∧O'=[]))
  (fm: ∀w1 k r x,Inv w [] w1→Rp k r→(∀it∈r.kL,it.P w1)→x<L→eK Tryz.prog w1 fn [r.a,.int .u8 (x:Int)] [] (fun v N=> ∃r',v=r'.a∧N=r'.kL∧Rp (tr k x) r'))
  (wQ: ∀w1 k r,Inv w [] w1→Rp k r→(∀it∈r.kL,it.P w1)→eK Tryz.prog w1 ff [r.a] [] (fun v O'=>v=.bool (fin k)∧O'=[])):
  dA Tryz.prog w (.iface 163 (.agg #[])) 141 [(d_ (aD cb) 0),r0.a,fk,fn,ff] [] (fun v N=> ∃M k',v=dV M k'∧N=[dI 56 4 3 M k']∧gf (vs:Int) B M (fun u=>fin (u.foldl tr start))∧HI tr L start B) (¬HI tr L start B):=by
 refine dL func141 F ntmps141 F ?_
 have RN:L≤64:=by rw[←hL];exact bO (by decide) gq
 obtain⟨Zo,It⟩:=vK _ _ HH
 refine ai (ao F (bu bK F (fun z1=>?_)))
 refine ae (ai (ah F (ao F (cO (v:=r0.a) eI cU F F Zo (fun z2=>?_)))))
 refine aj F (ae (ai (ao F (lz str (fun n:Nat=>Value.int .i64 (n:Int)) (fun m3=>?_)))))
 refine ah F (ah F ?_)
 have qy:=(eo (O:=[dz str (fun n:Nat=>Value.int .i64 (n:Int)) m3 [],aq (aD z2) 1 56 1 [r0.a],oI z1 25 [(vI 0),(vI 0),nS,nS]]) fun w1 hI=>haveI:=ey hI;Cj w1 start r0 hI.mq HH (by rw[T5];simp))
 refine ao F (fh qy F F ?_)
 clear qy
 rintro vr O' ⟨N,rfl,rfl,rfl⟩
 refine ao F (fT (a:=start) (v:=(0:Nat)) 0 iE (gB.string vg) F F F F (by simp) ?_)
 refine ah F (aj F (ae (ai (ah F (ad (bf F) (ad (ck k_ F bl F F (aJ eR) (by first|omega|(simp;done)|(simp;omega)|(simp_all;done)|(simp_all;omega))) (ad (c_ dS F F (aJ eR) F) (ad (cF (cs:=[vN vs,(vI 0),nS,nS]) jj bK (by kernel_rfl)) (ao F (bu bK F (fun z4=>?_)))))))))))
 refine ao F (bV (vs:=[vN vs,(vI 0),nS,nS]) 0 bK F F F F ?_)
 refine ae (aO (ai (aj F (ae (aU (T.eY 4 1 ?_))))))
 refine T.eY 56 1 ?_
 refine dv (O':=[aq (aD z2) 1 56 1 (eL c1 [r0]),dz str (fun n:Nat=>Value.int .i64 (n:Int)) m3 [start].zipIdx,aq none 0 56 1 (dl []),aq none 0 4 1 (cE []),oI z4 25 [vN vs,(vI 0),nS,nS],oI z1 25 [(vI 0),(vI 0),nS,nS]]++(ce 3 []++jm [r0])) (by rw[show jm [r0]=[] by simp[jm,T5]];exact(aC [4,3,0,0,0,0] F)) ?_
 refine dM (fun(s:Nat) ρ O=> ∃(ks:List Key) (qs:List SR) (rq:List Rec) (sb ob fb:Option Addr) (sc oc fc:Nat),O=([aq sb sc 56 1 (eL c1 qs),dz str (fun n:Nat=>Value.int .i64 (n:Int)) m3 ks.zipIdx,aq ob oc 56 1 (dl rq),aq fb fc 4 1 (cE ((ks.take s).map fin)),oI z4 25 [vN vs,(vI 0),(.slice ob s oc),(.slice fb s fc)],oI z1 25 [(vI 0),(vI 0),nS,nS]]++(ce 3 rq++jm qs))∧xA tr L start s=ks∧Ck tr L start ks∧J2 Rp ks qs∧ks.length≤B∧qz tr L ks s (nums rq)∧dt [(0,(d_ (aD cb) 0)),(1,r0.a),(2,fk),(3,fn),(4,ff),(10,(.pointer (aD z1))),(11,(.slice sb qs.length sc)),(12,(.map (some m3))),(13,(.pointer (aD z4))),(14,vN s)] ρ) (fun s=>B-s) 0 ?_ ?_
 ·exact⟨[start],[r0],[],(aD z2),none,none,1,0,0,F,F,Ck.one _ _ _,J2.one HH,by simpa using iN,⟨F,bs _,fun i hi=>absurd hi (by omega),fun i hi=>absurd hi (by omega)⟩,(.of F)⟩
 rintro s ρ O ⟨ks,qs,rq,sb,ob,fb,sc,oc,fc,rfl,n8,hF,hR,NT,hE,hH⟩
 obtain⟨gP,rfl⟩:=hH.elim
 clear hH
 have Hw:=hR.1
 have Dw:rq.length=s:=by have:=hE.len;simpa using this
 have Ms:=hE.le
 refine aO (ai (ah F (ah F (ad (cP eI F) (ad (cR F F) (ae (aP F (fun hc=>?_) (fun hc=>?_))))))))
 ·have qk:s<qs.length:=by omega
  have RP:s<ks.length:=by omega
  refine aE (aO (aU (ai (ah F (ad (bf F) (ad (ck k_ F bl F F (aJ eR) (by first|omega|(simp;done)|(simp;omega)|(simp_all;done)|(simp_all;omega))) (ad (c_ dS F F (aJ eR) F) (ad (bT (nL (v:=vs) F F (by omega)) (v':=vN L) (by rw[hL])) (ao F (cW (m:=L) cI bl F F (by omega) (by omega) (fun z5=>?_)))))))))))
  refine aj F (ae (aO (ai (ah F (ad (cP cI F) (ah F (ae (aU ?_))))))))
  refine dM (fun(x:Nat) ρ O=> ∃(fg:List Key) (io:List SR) (ys:List Int) (tb:Option Addr) (tc:Nat),O=([aq (aD z5) L 3 1 (ints ys),aq tb tc 56 1 (eL c1 io),dz str (fun n:Nat=>Value.int .i64 (n:Int)) m3 fg.zipIdx,aq ob oc 56 1 (dl rq),aq fb fc 4 1 (cE ((ks.take s).map fin)),oI z4 25 [vN vs,(vI 0),(.slice ob s oc),(.slice fb s fc)],oI z1 25 [(vI 0),(vI 0),nS,nS]]++(ce 3 rq++jm io))∧x≤L∧ys.length=L∧Ck tr L start fg∧J2 Rp fg io∧fg.length≤B∧fg=((List.range x).map (tr (ks.getD s []))).foldl add ks∧(∀i,i<x→ys[i]? =some ((ix (tr (ks.getD s []) i) fg:Nat):Int))∧dt [(0,(d_ (aD cb) 0)),(1,r0.a),(2,fk),(3,fn),(4,ff),(10,(.pointer (aD z1))),(11,(.slice tb io.length tc)),(12,(.map (some m3))),(13,(.pointer (aD z4))),(14,vN s),(15,(.slice (aD z5) L L)),(45,vI (L:Int)),(46,vN x)] ρ) (fun x=>L-x) 0 ?_ ?_
  ·exact⟨ks,qs,List.replicate L 0,sb,sc,by simp,bs _,by simp,hF,hR,NT,F,fun i hi=>absurd hi (by omega),(.of F)⟩
  rintro x ρ O ⟨fg,io,ys,tb,tc,rfl,hx,Cl,NU,yr,J3,pO,yJ,hH⟩
  obtain⟨gP,rfl⟩:=hH.elim
  clear hH
  have ur:ks<+:fg:=pO▸gD _ _
  have sh:fg.getD s []=ks.getD s []:=lX ur RP
  have VR:=ur.length_le
  have J4:=yr.1
  have vP:s<io.length:=by omega
  have RQ:=yr.2 s vP
  rw[sh]at RQ
  refine ai (ad (cR F F) (ae (aO (aP F (fun hc=>?_) (fun hc=>?_)))))
  ·have ot:x<L:=by omega
   have J5:x<L:=by omega
   have My:ks.getD s []∈fg:=by rw[←sh,aw,ap (by omega),Option.getD_some];exact aL _
   refine aE (aO (aU (ai (ah F (aj F (ae (ai (ah F (ah F (ah F (ad (dZ (i:=s) eI cU F F (dX (mG 1 F)) vP (by rw[km (f:=c1) (n:=1) (fun _=>rfl)];omega)) (ad (c_ cI F F (dX (mG 1 F)) (PU vP)) (ah F (ad (fS dS fF F (qg (by omega))) ?_))))))))))))))
   have J6:=(eo (O:=([aq (aD z5) L 3 1 (ints ys),aq tb tc 56 1 (eL c1 io),dz str (fun n:Nat=>Value.int .i64 (n:Int)) m3 fg.zipIdx,aq ob oc 56 1 (dl rq),aq fb fc 4 1 (cE ((ks.take s).map fin)),oI z4 25 [vN vs,(vI 0),(.slice ob s oc),(.slice fb s fc)],oI z1 25 [(vI 0),(vI 0),nS,nS]]++(ce 3 rq++jm io))) fun w1 hI=>haveI:=ey hI;fm w1 (ks.getD s []) io[s] x hI.mq RQ (fun it fC=>hI.holds it (am _ (am _ (tv vP fC)))) J5)
   refine ao F (fh J6 F F ?_)
   clear J6
   rintro vr O' ⟨N9,rfl,r9,rfl,rfl,J7⟩
   obtain⟨VS,ZA⟩:=vK _ _ J7
   refine ef (O':=([aq (aD z5) L 3 1 (ints ys),aq tb tc 56 1 (eL c1 io),dz str (fun n:Nat=>Value.int .i64 (n:Int)) m3 fg.zipIdx,aq ob oc 56 1 (dl rq),aq fb fc 4 1 (cE ((ks.take s).map fin)),oI z4 25 [vN vs,(vI 0),(.slice ob s oc),(.slice fb s fc)],oI z1 25 [(vI 0),(vI 0),nS,nS]]++(r9.kL++(ce 3 rq++jm io)))) (by exact fE [] _ r9.kL (ce 3 rq++jm io)) ?_
   refine aj F (ae (ai (ah F (ah F (ah F ?_)))))
   have Ca:=(eo (O:=([aq (aD z5) L 3 1 (ints ys),aq tb tc 56 1 (eL c1 io),dz str (fun n:Nat=>Value.int .i64 (n:Int)) m3 fg.zipIdx,aq ob oc 56 1 (dl rq),aq fb fc 4 1 (cE ((ks.take s).map fin)),oI z4 25 [vN vs,(vI 0),(.slice ob s oc),(.slice fb s fc)],oI z1 25 [(vI 0),(vI 0),nS,nS]]++(r9.kL++(ce 3 rq++jm io)))) fun w1 hI=>haveI:=ey hI;Cj w1 (tr (ks.getD s []) x) r9 hI.mq J7 (fun it fC=>hI.holds it (am _ (aQ _ fC))))
   refine ao F (fh Ca F F ?_)
   clear Ca
   rintro vr O' ⟨N,rfl,rfl,rfl⟩
   refine ad (bT (jD (a:=tr (ks.getD s []) x) iE bl (gB.string vg) F F (mG 2 F)) (v':=(.tuple #[vN (if tr (ks.getD s []) x∈fg then ix (tr (ks.getD s []) x) fg else 0),.bool (decide (tr (ks.getD s []) x∈fg))])) (by rw[kR];generalize tr (ks.getD s []) x=k9;by_cases h9:k9∈fg<;>simp[h9])) (ah F (ad (bG (vs:=_) F F) (ad (bG (vs:=_) F F) (aj F (aj F (ae (aO (ai (ah F (ad (i_ F) (ae (T.cond F (fun hc=>?_) (fun hc=>?_)))))))))))))
   ·have HJ:tr (ks.getD s []) x∉fg:=by simpa using hc
    have nQ:=FM HJ
    refine ai (ah F (ad (cP eI F) (aj F (ae (ai (ah F (ah F (ah F ?_))))))))
    have Cm:=(eo (O:=([aq (aD z5) L 3 1 (ints ys),aq tb tc 56 1 (eL c1 io),dz str (fun n:Nat=>Value.int .i64 (n:Int)) m3 fg.zipIdx,aq ob oc 56 1 (dl rq),aq fb fc 4 1 (cE ((ks.take s).map fin)),oI z4 25 [vN vs,(vI 0),(.slice ob s oc),(.slice fb s fc)],oI z1 25 [(vI 0),(vI 0),nS,nS]]++(r9.kL++(ce 3 rq++jm io)))) fun w1 hI=>haveI:=ey hI;Cj w1 (tr (ks.getD s []) x) r9 hI.mq J7 (fun it fC=>hI.holds it (am _ (aQ _ fC))))
    refine ao F (fh Cm F F ?_)
    clear Cm
    rintro vr O' ⟨N,rfl,rfl,rfl⟩
    refine ah F (ao F (qf (a:=tr (ks.getD s []) x) (v:=io.length) 2 iE (gB.string vg) F F F F (by rw[mN];exact HJ) ?_))
    refine ae (ai (ah F (ah F (ao F (cO (v:=r9.a) eI cU F F VS (fun z6=>?_))))))
    refine ao F (dh 2 eI eI cU F F F F (by rw[km (f:=c1) (n:=1) (fun _=>rfl)]) (by decide) (Src.row (j:=0) F (by simp)) (by simp[VS]) (by omega) (by decide) (by decide) (fun z7 B4=>?_))
    refine aj F (ae (ai (ah F (ah F (ad (bf F) (ad (ck k_ F bl F F (aJ eR) (by first|omega|(simp;done)|(simp;omega)|(simp_all;done)|(simp_all;omega))) (ad (c_ dS F F (aJ eR) F) (ad (lR F F) (ae (aP F (fun hc=>?_) (fun hc=>?_)))))))))))
    ·have VT:io.length≥B:=by omega
     refine be (ad (cF wk AA F) (ad (ra FK F) ?_))
     exact eC F (wl F (fun _=>⟨F,(NU.add My J5).VU (by rw[nQ];simp;omega)⟩))
    have VV: ¬io.length≥B:=by omega
    refine aE (be (ah F (ah F (ah F (ad (dZ (i:=x) cI bl F F (dX (mG 1 F)) (by omega) (by rw[ar];omega)) (ao F (n7 (j:=x) (v:=vI (io.length:Int)) (vs:=[(vI (io.length:Int))]) (cs:=ints ys) 1 bl F F F F F (by simp) F (by first|(simp;omega)|(simp_all;omega)) ?_)))))))
    refine ef (O':=([aq (aD z6) 1 56 1 [r9.a],aq (aD z5) L 3 1 (ints (ys.set x ((ix (tr (ks.getD s []) x) (add fg (tr (ks.getD s []) x)):Nat):Int))),aq z7 B4 56 1 ((eL c1 io)++[r9.a]),dz str (fun n:Nat=>Value.int .i64 (n:Int)) m3 (fg.zipIdx++[(tr (ks.getD s []) x,io.length)]),aq ob oc 56 1 (dl rq),aq fb fc 4 1 (cE ((ks.take s).map fin)),oI z4 25 [vN vs,(vI 0),(.slice ob s oc),(.slice fb s fc)],oI z1 25 [(vI 0),(vI 0),nS,nS]]++(r9.kL++(ce 3 rq++jm io)))) (by rw[show fe (ints ys) x [(vI (io.length:Int))]=ints (ys.set x ((ix (tr (ks.getD s []) x) (add fg (tr (ks.getD s []) x)):Nat):Int))from(by rw[nQ,fM HJ,show ix (tr (ks.getD s []) x) [tr (ks.getD s []) x]=0 by simp[ix],Nat.add_zero,←J4];simp[fe])];exact cj (aZ _)) ?_
    refine ae (be (ad (dx (a:=x) (b:=1) F F (by omega)) (ah F (ae ?_))))
    have Eh: ∀y,y<x→tr (ks.getD s []) y∈fg:=fun y hy=>by rw[pO,eN];exact .inr (List.mem_map_of_mem (List.mem_range.2 hy))
    have Ei: ∀i,i<x+1→(ys.set x ((ix (tr (ks.getD s []) x) (add fg (tr (ks.getD s []) x)):Nat):Int))[i]? =some ((ix (tr (ks.getD s []) i) (add fg (tr (ks.getD s []) x)):Nat):Int):=fun i hi=>by
     by_cases e:i=x
     ·subst e;rw[List.getElem?_set_self (by omega)]
     ·rw[List.getElem?_set_ne (fun h=>e h.symm),yJ i (by omega),ig (jE _ _) (Eh i (by omega))]
    have zu:=yr.snoc J7
    rw[←nQ]at zu
    have ZB:=NU.add My J5
    exact⟨x+1,by omega,[aq (aD z5) L 3 1 (ints (ys.set x ((ix (tr (ks.getD s []) x) (add fg (tr (ks.getD s []) x)):Nat):Int))),aq z7 B4 56 1 (eL c1 (io++[r9])),dz str (fun n:Nat=>Value.int .i64 (n:Int)) m3 ((add fg (tr (ks.getD s []) x)).zipIdx),aq ob oc 56 1 (dl rq),aq fb fc 4 1 (cE ((ks.take s).map fin)),oI z4 25 [vN vs,(vI 0),(.slice ob s oc),(.slice fb s fc)],oI z1 25 [(vI 0),(vI 0),nS,nS]]++(ce 3 rq++jm (io++[r9])),(by rw[zw,vi,nQ,show(fg++[tr (ks.getD s []) x]).zipIdx=fg.zipIdx++[(tr (ks.getD s []) x,io.length)] by rw[List.zipIdx_append,J4];simp];exact xB _ _ _ _ _ (by exact Sub.d (.k (.k (.k (.k (.k (.k (.k .z))))))))),add fg (tr (ks.getD s []) x),io++[r9],_,z7,B4,F,by omega,by simp[Cl],ZB,zu,by rw[nQ];simp;omega,by rw[iW,←pO],Ei,⟨F,F,F,F,F,F,(show Value.slice z7 (io.length+1) B4=_ by rw[aF];rfl),F,F,F,F,F,F,trivial⟩⟩
   have HJ:tr (ks.getD s []) x∈fg:=by simpa using hc
   have nQ:=FN HJ
   refine aE (be (ah F (ah F (ah F (ad (dZ (i:=x) cI bl F F (dX (mG 0 F)) (by omega) (by rw[ar];omega)) (ao F (n7 (j:=x) (v:=vN (if tr (ks.getD s []) x∈fg then ix (tr (ks.getD s []) x) fg else 0)) (vs:=[(vN (if tr (ks.getD s []) x∈fg then ix (tr (ks.getD s []) x) fg else 0))]) (cs:=ints ys) 0 bl F F F F F (by simp) F (by first|(simp;omega)|(simp_all;omega)) ?_)))))))
   refine ef (O':=([aq (aD z5) L 3 1 (ints (ys.set x ((ix (tr (ks.getD s []) x) (add fg (tr (ks.getD s []) x)):Nat):Int))),aq tb tc 56 1 (eL c1 io),dz str (fun n:Nat=>Value.int .i64 (n:Int)) m3 fg.zipIdx,aq ob oc 56 1 (dl rq),aq fb fc 4 1 (cE ((ks.take s).map fin)),oI z4 25 [vN vs,(vI 0),(.slice ob s oc),(.slice fb s fc)],oI z1 25 [(vI 0),(vI 0),nS,nS]]++(r9.kL++(ce 3 rq++jm io)))) (by rw[show fe (ints ys) x [(vN (if tr (ks.getD s []) x∈fg then ix (tr (ks.getD s []) x) fg else 0))]=ints (ys.set x ((ix (tr (ks.getD s []) x) (add fg (tr (ks.getD s []) x)):Nat):Int))from(by rw[nQ,aR HJ];simp[fe])];exact cj (aZ _)) ?_
   refine ae (be (ad (dx (a:=x) (b:=1) F F (by omega)) (ah F (ae ?_))))
   have Eh: ∀y,y<x→tr (ks.getD s []) y∈fg:=fun y hy=>by rw[pO,eN];exact .inr (List.mem_map_of_mem (List.mem_range.2 hy))
   have Ei: ∀i,i<x+1→(ys.set x ((ix (tr (ks.getD s []) x) (add fg (tr (ks.getD s []) x)):Nat):Int))[i]? =some ((ix (tr (ks.getD s []) i) (add fg (tr (ks.getD s []) x)):Nat):Int):=fun i hi=>by
    by_cases e:i=x
    ·subst e;rw[List.getElem?_set_self (by omega)]
    ·rw[List.getElem?_set_ne (fun h=>e h.symm),yJ i (by omega),ig (jE _ _) (Eh i (by omega))]
   have zu:=yr
   rw[←nQ]at zu
   exact⟨x+1,by omega,[aq (aD z5) L 3 1 (ints (ys.set x ((ix (tr (ks.getD s []) x) (add fg (tr (ks.getD s []) x)):Nat):Int))),aq tb tc 56 1 (eL c1 io),dz str (fun n:Nat=>Value.int .i64 (n:Int)) m3 ((add fg (tr (ks.getD s []) x)).zipIdx),aq ob oc 56 1 (dl rq),aq fb fc 4 1 (cE ((ks.take s).map fin)),oI z4 25 [vN vs,(vI 0),(.slice ob s oc),(.slice fb s fc)],oI z1 25 [(vI 0),(vI 0),nS,nS]]++(ce 3 rq++jm io),(by rw[nQ];exact fq _ _ _ _ (by exact Sub.rf)),add fg (tr (ks.getD s []) x),io,_,tb,tc,F,by omega,by simp[Cl],NU.add My J5,zu,by rw[nQ];exact J3,by rw[iW,←pO],Ei,(.of F)⟩
  have ou: ¬x<L:=by omega
  refine cG ?_
  refine T.ds [aq tb tc 56 1 (eL c1 io),oI z4 25 [vN vs,(vI 0),(.slice ob s oc),(.slice fb s fc)]] [(0,0),(1,0),(2,0),(5,0),(6,0),(7,0),(8,0),(9,0),(10,0),(11,0),(3,1),(4,1),(15,0),(12,1),(13,1),(14,1),(16,2),(17,2),(18,2)] (by exact Sub.d (.k (.d (.d (.d (.k .z)))))) ?_
  refine au F (bj cS F fa F F) (au F (bn 1 eI F F F F) (au F (aK F) (au F (bj cS F dy F F) (au F (bn 1 eu F F F F) (au F (aK F) (au F (aK F) (au F (aK F) (au F (dZ (i:=s) eI cU F F (dX (mG 0 F)) vP (by rw[km (f:=c1) (n:=1) (fun _=>rfl)];omega)) (au F (c_ cI F F (dX (mG 0 F)) (PU vP)) ?_)))))))))
  refine cx F F (cO (v:=(.slice (aD z5) L L)) eI cU F F F (fun z9=>⟨by exact Sub.d (.d (.k (.d (.d (.d (.k .z)))))),?_⟩))
  refine cx F F (dh 4 eI eI cU F F F F (by simp;omega) (by decide) (Src.row (j:=0) F (by simp)) (by simp[fu]) (by omega) (by decide) (by decide) (fun pF kn=>⟨by exact Sub.d (.d (.k (.d (.d (.d (.k .z)))))),?_⟩))
  refine au F (bj cS F fa F F) ?_
  have Cn:=(eo (O:=([aq (aD z9) 1 56 1 [(.slice (aD z5) L L)],aq (aD z5) L 3 1 (ints ys),aq tb tc 56 1 (eL c1 io),dz str (fun n:Nat=>Value.int .i64 (n:Int)) m3 fg.zipIdx,aq pF kn 56 1 ((dl rq)++[(.slice (aD z5) L L)]),aq fb fc 4 1 (cE ((ks.take s).map fin)),oI z4 25 [vN vs,(vI 0),(.slice ob s oc),(.slice fb s fc)],oI z1 25 [(vI 0),(vI 0),nS,nS]]++(ce 3 rq++jm io))) fun w1 hI=>haveI:=ey hI;wQ w1 (ks.getD s []) io[s] hI.mq RQ (fun it fC=>hI.holds it (am _ (am _ (tv vP fC)))))
  refine cx F F (fh Cn F F ?_)
  clear Cn
  rintro vr O' ⟨N,rfl,rfl,rfl⟩
  refine⟨by exact Sub.d (.d (.k (.d (.d (.d (.k .z)))))),?_⟩
  refine cx F F (cO (v:=.bool (fin (ks.getD s []))) eu fw F F F (fun z12=>⟨by exact Sub.d (.d (.d (.k (.d (.d (.d (.k .z))))))),?_⟩))
  refine cx F F (dh 6 eu eu fw F F F F (by simp;omega) (by decide) (Src.row (j:=0) F (by simp)) (by simp[fu]) (by omega) (by decide) (by decide) (fun nF lY=>⟨by exact Sub.d (.d (.d (.k (.d (.d (.d (.k .z))))))),?_⟩))
  refine cu F F (bV (vs:=[(.slice pF (s+1) kn)]) 7 fa F F F F ?_)
  refine cu F F (eO F F (bj cS F dy F F) ?_)
  refine cu F F (bV (vs:=[(.slice nF (s+1) lY)]) 7 dy F F F F ?_)
  refine cy ?_
  have mf:cE ((fg.take (s+1)).map fin)=cE ((ks.take s).map fin)++[.bool (fin (ks.getD s []))]:=by
   rw[aH (by omega:s<fg.length),bo,show fg.take s=ks.take s by obtain⟨t9,rfl⟩:=ur;rw[List.take_append_of_le_length (by omega)],←sh,show fg.getD s []=fg[s] by rw[aw,ap (by omega),Option.getD_some]]
   simp
  refine dv (O':=[aq tb tc 56 1 (eL c1 io),dz str (fun n:Nat=>Value.int .i64 (n:Int)) m3 fg.zipIdx,aq pF kn 56 1 (dl (rq++[⟨(aD z5),L,ys⟩])),aq nF lY 4 1 (cE ((fg.take (s+1)).map fin)),oI z4 25 [vN vs,(vI 0),(.slice pF (s+1) kn),(.slice nF (s+1) lY)],oI z1 25 [(vI 0),(vI 0),nS,nS]]++(ce 3 (rq++[⟨(aD z5),L,ys⟩])++jm io)) (by
   rw[mf,show dl (rq++[⟨(aD z5),L,ys⟩])=(dl rq)++[(.slice (aD z5) L L)] by simp[Rec.val,Cl],show ce 3 (rq++[⟨(aD z5),L,ys⟩])=ce 3 rq++[aq (aD z5) L 3 1 (ints ys)] by simp[ce,Rec.sM]]
   exact qA [aq tb tc 56 1 (eL c1 io),dz str (fun n:Nat=>Value.int .i64 (n:Int)) m3 fg.zipIdx,aq pF kn 56 1 ((dl rq)++[(.slice (aD z5) L L)]),aq nF lY 4 1 ((cE ((ks.take s).map fin))++[.bool (fin (ks.getD s []))]),oI z4 25 [vN vs,(vI 0),(.slice pF (s+1) kn),(.slice nF (s+1) lY)],oI z1 25 [(vI 0),(vI 0),nS,nS]] [aq (aD z12) 1 4 1 [.bool (fin (ks.getD s []))],aq (aD z9) 1 56 1 [(.slice (aD z5) L L)],aq (aD z5) L 3 1 (ints ys),aq tb tc 56 1 (eL c1 io),dz str (fun n:Nat=>Value.int .i64 (n:Int)) m3 fg.zipIdx,aq pF kn 56 1 ((dl rq)++[(.slice (aD z5) L L)]),aq nF lY 4 1 ((cE ((ks.take s).map fin))++[.bool (fin (ks.getD s []))]),oI z4 25 [vN vs,(vI 0),(.slice pF (s+1) kn),(.slice nF (s+1) lY)],oI z1 25 [(vI 0),(vI 0),nS,nS]] (ce 3 rq) (jm io) (aq (aD z5) L 3 1 (ints ys)) (by exact Sub.d (.d (.eQ [aq (aD z5) L 3 1 (ints ys)] _ (.eQ [aq (aD z5) L 3 1 (ints ys)] _ (.eQ [aq (aD z5) L 3 1 (ints ys)] _ (.eQ [aq (aD z5) L 3 1 (ints ys)] _ (.eQ [aq (aD z5) L 3 1 (ints ys)] _ (.eQ [aq (aD z5) L 3 1 (ints ys)] _ (.k .z)))))))))) ?_
  refine be (ah F (ad (dx (a:=s) (b:=1) F F (by omega)) (aj F (ae ?_))))
  have Ej:x=L:=by omega
  have RR:ys=kT tr L fg s:=by
   apply List.ext_getElem?
   intro i
   by_cases hi:i<L
   ·rw[yJ i (by omega)];simp only[kT,sh];simp[hi]
   ·rw[bQ (by omega),bQ (by simp[kT];omega)]
  have Eh: ∀y,y<L→tr (ks.getD s []) y∈fg:=fun y hy=>by rw[pO,eN];exact .inr (List.mem_map_of_mem (List.mem_range.2 (by omega)))
  have Rm:qz tr L fg (s+1) (nums (rq++[⟨(aD z5),L,ys⟩])):=by
   have:=hE.snoc ur RP RR (by rw[sh];exact Eh)
   simpa[nums]using this
  exact⟨s+1,by omega,_,cj (aZ _),fg,io,rq++[⟨(aD z5),L,ys⟩],tb,pF,nF,tc,kn,lY,F,by rw[xA,n8,pO,Ej],NU,yr,J3,Rm,(.of F)⟩
 have ql: ¬s<qs.length:=by omega
 refine cG ?_
 refine aO ?_
 have PT:s=ks.length:=by omega
 have rH:rq.length=(nums rq).length:=by simp
 obtain⟨W,hW⟩: ∃W,W=Iw vs (nums rq) (ks.map fin):=⟨_,F⟩
 have FO:HasL (vs:Int) ks.length W (fun u=>fin (u.foldl tr start)):=by rw[hW];exact FP gq (by rw[hL];exact hF) (by rw[hL,←PT];exact hE) (by omega)
 have e1:nums rq=W.next:=by rw[hW];rfl
 have e2:(ks.take s).map fin=W.aV:=by rw[hW,bt (by omega)];rfl
 have e3:(vs:Int)=W.vars:=by rw[hW];rfl
 have e4:(0:Int)=W.start:=by rw[hW];rfl
 have e5:s=W.next.length:=by rw[←e1,←rH];omega
 have e6:s=W.aV.length:=by rw[FO.valid.fin,←e5]
 obtain⟨M,hM⟩: ∃m,fJ W=m:=⟨_,F⟩
 have Mz:gf (vs:Int) ks.length M (fun u=>fin (u.foldl tr start)):=hM▸FO.nX
 obtain⟨z9,VW⟩: ∃z:DK,z=⟨ob,oc,fb,fc,rq⟩:=⟨_,F⟩
 refine dv (O':=([aq ob oc 56 1 (dl rq),aq fb fc 4 1 (cE ((ks.take s).map fin)),oI z4 25 [vN vs,(vI 0),(.slice ob s oc),(.slice fb s fc)],oI z1 25 [(vI 0),(vI 0),nS,nS]]++ce 3 rq)) (vj _ _ _ _ (by exact Sub.d (.d (.k (.k (.k (.k .z))))))) ?_
 refine dv (O':=(([aq ob oc 56 1 (dl rq),aq fb fc 4 1 (cE W.aV)]++ce 3 rq)++[oI z4 25 [(vI W.vars),(vI W.start),(.slice ob W.next.length oc),(.slice fb W.aV.length fc)],oI z1 25 [(vI 0),(vI 0),nS,nS]])) (by rw[←e5,←e6,←e2,←e3,←e4];exact gK [aq ob oc 56 1 (dl rq),aq fb fc 4 1 (cE ((ks.take s).map fin))] (ce 3 rq) [oI z4 25 [vN vs,(vI 0),(.slice ob s oc),(.slice fb s fc)],oI z1 25 [(vI 0),(vI 0),nS,nS]]) ?_
 refine sY (φ:=nums rq=W.next) e1 ?_
 refine dv (O':=[dI 56 4 3 W z9,oI z4 25 (dC W z9),oI z1 25 [(vI 0),(vI 0),nS,nS]]) (by subst VW;exact Sub.rf) ?_
 refine be (ah F (ad (ew 1 cS F bK F F F) (ao F (bm xm (aX fun w1 hI=>(haveI:=ey hI;B2 w1 W z9 (hI.at (k:=z9) (mG 0 F)) FO.valid (by have:=FO.valid.n4;omega) (M:=M) hM)) F ?_))))
 rintro vr O' ⟨N,rfl,k9,rfl,rfl⟩
 refine ad (bG (vs:=_) F F) (ad (bG (vs:=_) F F) ?_)
 have Cp:=fun(w1:World) (hI:Inv w [dI 56 4 3 M k9,dI 56 4 3 W z9,oI z4 25 (dC W z9),oI z1 25 [(vI 0),(vI 0),nS,nS]] w1)=>(haveI:=ey hI;na w1 cb eb en ec vs B (hI.sl eR) M k9 0)
 refine eC F (eV si (dA.pure Cp) F (fun z _=>⟨F,fun _=>z ⟨F,by have:=Mz.len;omega⟩⟩) ?_)
 clear Cp
 rintro vr O' ⟨N,rfl,rfl,rfl,_,yK⟩
 refine ao F (bV (vs:=(dC M k9)) 3 bK F F F F ?_)
 refine ae (aN (az ?_))
 refine cL (i:=3) Tryz.results141 cS F bK F F F ?_
 exact⟨[dI 56 4 3 M k9],(by exact Sub.k .z),M,k9,F,F,⟨Mz.toHasL.le yK,Mz.min⟩,Cq hF (PT▸hE) NT⟩
end Go.Proofs.YtgdbfideeeegmaaGreatDoor

namespace Go.Proofs.YtgdbfideeeegmaaGreatDoor
open Go.Lx Go.RowKit _root_.Go.Proofs.Tryz
theorem R0 (base:World) [dB Tryz.prog base] (x:Int):cd Tryz.prog base 147 [vI x] [] (fun v O'=>v=.bool (decide (x<0))∧O'=[]):=by
 refine aG func147 F ntmps147 F ?_
 refine ai (aj F (ae (ai (ah F (ad (cR F F) (aj F (ae (aN ?_))))))))
 refine aT (.bool (decide (x<0))) Tryz.results147 F ?_
 exact⟨F,F⟩
theorem NY (base:World) [dB Tryz.prog base] (b:Option Addr) (c:Nat) (z:List Int) (hz: ∀x∈z,0≤x) (hb:z.length≤1000000):
  cd Tryz.prog base 145 [.slice b z.length c,(.func (.func 147) #[] #[])] [aq b c 3 1 (ints z)] (fun v O'=>v=.slice b z.length c∧O'=[aq b c 3 1 (ints z)]):=by
 refine aG func145 F ntmps145 F ?_
 refine ai (aj F (ae (ai (ah F (ah F ?_)))))
 refine ao F (bm Ef (aX fun w1 hI=>(haveI:=ey hI;(show cA _ _ _ _ _ from by
   have h9:=sg w1 b c z (hI.gW (mG 0 F)) (by omega) (.func (.func 147) #[] #[]) (fun x=>decide (x<0)) [] (fun x hx=>cQ (first:=[]) (args:=[vI x]) (gv:=[]) Em (R0 w1 x))
   exact h9))) F ?_)
 rintro vr O' ⟨N,rfl,i9,rfl,hi,rfl⟩
 have MW:i9= -1:=by
  rcases hi with⟨_,h⟩|⟨k,_,h1,_,h2⟩
  ·exact h
  ·have:=hz _ (aL h1)
   rw[aw,ap h1]at h2
   simp at h2;omega
 refine aj F (ae (aO (ai (ah F (ad (bM F F) (ae ?_))))))
 refine bW (by rw[MW];rfl) ?_
 refine ai (ah F (aj F (ae (aN ?_))))
 refine aT (.slice b z.length c) Tryz.results145 F ?_
 exact⟨F,F⟩
def XS (z:List Int) (k:Nat):List Int:=z.take k++((-1)::z).drop k
theorem xC {z:List Int} {k:Nat} (h:k≤z.length):(XS z k).length=z.length+1:=by simp[XS];omega
theorem V4 {z:List Int} {k:Nat} (h:k<z.length):(XS z k)[k+1]? =some z[k]:=by
 unfold XS
 rw[bY (by simp;omega),List.getElem?_drop]
 simp[Nat.min_eq_left (Nat.le_of_lt h),show k+(k+1-k)=k+1 by omega,h]
theorem R1 {z:List Int} {k:Nat} (h:k<z.length):fe (ints (XS z k)) k [vI z[k]]=ints (XS z (k+1)):=by
 simp only[fe]
 apply List.ext_getElem?
 intro j
 have hl:(ints (XS z k)).length=z.length+1:=by rw[ar,xC (Nat.le_of_lt h)]
 by_cases c1:j=k
 ·subst c1
  rw[List.getElem?_set_self (by omega),bq]
  unfold XS
  rw[bI (by simp;omega),List.getElem?_take,aR (by omega),ap h];rfl
 ·rw[List.getElem?_set_ne (fun e=>c1 e.symm),bq,bq]
  congr 1
  unfold XS
  by_cases c2:j<k
  ·rw[bI (by simp;omega),bI (by simp;omega),List.getElem?_take,List.getElem?_take,aR c2,aR (by omega)]
  ·rw[bY (by simp;omega),bY (by simp;omega),List.getElem?_drop,List.getElem?_drop]
   simp only[cw,Nat.min_eq_left (Nat.le_of_lt h),Nat.min_eq_left h]
   congr 1;omega
theorem NZ (base:World) [dB Tryz.prog base] (bk o c:Nat) (z:List Int) (hz: ∀x∈z,0≤x) (hb:z.length≤1000000) (DA:z.length+1≤c):
  cd Tryz.prog base 145 [.slice (some ⟨bk,o,none⟩) (z.length+1) c,(.func (.func 147) #[] #[])] [aq (some ⟨bk,o,none⟩) c 3 1 (ints (-1::z))] (fun v O'=>v=.slice (some ⟨bk,o,none⟩) z.length c∧O'=[aq (some ⟨bk,o,none⟩) c 3 1 (ints z)]):=by
 refine aG func145 F ntmps145 F ?_
 have hcz:z.length+1≤c:=DA
 refine ai (aj F (ae (ai (ah F (ah F ?_)))))
 refine ao F (bm Ef (aX fun w1 hI=>(haveI:=ey hI;(show cA _ _ _ _ _ from by
   have h9:=sg w1 (some ⟨bk,o,none⟩) c (-1::z) (hI.gW (mG 0 F)) (by simp;omega) (.func (.func 147) #[] #[]) (fun x=>decide (x<0)) [] (fun x hx=>cQ (first:=[]) (args:=[vI x]) (gv:=[]) Em (R0 w1 x))
   exact h9))) F ?_)
 rintro vr O' ⟨N,rfl,i9,rfl,hi,rfl⟩
 have MW:i9=((0:Nat):Int):=by
  rcases hi with⟨h,_⟩|⟨k,h,_,h1,_⟩
  ·simp at h
  ·cases k with
   |zero=>exact h
   |succ k=>simp at h1
 refine ad (bT (cq F) (v':=vN 0) (show Value.int .i64 i9=_ by rw[MW])) (ae (aO (ai (ah F (ad (bM F F) (ae (a_ F (aE (aO (ai (ah F (ad (dx (a:=0) (b:=1) F F (by omega)) (aj F (ae (aU ?_)))))))))))))))
 refine et (fun(k:Nat) ρ O=>O=[aq (some ⟨bk,o,none⟩) c 3 1 (ints (XS z k))]∧k≤z.length∧dt [(0,(.slice (some ⟨bk,o,none⟩) (z.length+1) c)),(1,(.func (.func 147) #[] #[])),(4,nS),(5,vN k),(6,vN (k+1))] ρ) (fun k=>z.length-k) 0 ?_ ?_
 ·exact⟨F,bs _,(.of F)⟩
 rintro k ρ O ⟨rfl,hk,hH⟩
 obtain⟨gP,rfl⟩:=hH.elim
 clear hH
 have DQ:=xC hk
 refine aO (ai (ah F (ah F (ad (cP cI F) (ad (cR F F) (ae (aP F (fun hc=>?_) (fun hc=>?_))))))))
 ·have PW:k+1<z.length+1:=by omega
  have ZC:k<z.length:=by omega
  refine aE (aO (aU (ai ?_)))
  refine ah F (ah F (ad (dZ (i:=(k+1)) cI bl F F (dX (mG 0 F)) (by omega) (by rw[ar,xC hk];omega)) (ad (c_ dS F F (dX (mG 0 F)) (show(ints (XS z k))[k+1]? =some (vI z[k]) by rw[bq,V4 ZC];rfl)) ?_)))
  refine aj F (ae (ai (ah F (ah F ?_))))
  let eJ:Lx.Item:=aq (some ⟨bk,o,none⟩) c 3 1 (ints (XS z k))
  have Cu:=(eK.under (A:=[]) (B:=[eJ]) (O:=[eJ]) (cQ (first:=[]) (args:=[vI z[k]]) (gv:=[]) Em (R0 base z[k])) (cj (aZ _)))
  refine ao F (fh Cu F F ?_)
  clear Cu
  rintro vr O' ⟨A1,rfl,rfl,rfl⟩
  refine ad (i_ F) (ae ?_)
  refine bW (show Value.bool (!decide (z[k]<0))=_ by rw[ak (by have:=hz _ (aL ZC);omega)];rfl) ?_
  refine ai (ah F (ah F (ah F (ad (dZ (i:=k) cI bl F F (dX (mG 0 F)) (by omega) (by rw[ar,xC hk];omega)) (ao F (n7 (j:=k) (v:=vI z[k]) (vs:=[(vI z[k])]) (cs:=ints (XS z k)) 0 bl F F F F F (by simp) F (by rw[ar,xC hk];simp;omega) ?_))))))
  refine ef (O':=[aq (some ⟨bk,o,none⟩) c 3 1 (ints (XS z (k+1)))]) (by rw[show fe (ints (XS z k)) k [(vI z[k])]=ints (XS z (k+1))from(R1 ZC)];exact cj (aZ _)) ?_
  refine ae (be (ah F (ad (dx (a:=k) (b:=1) F F (by omega)) (aj F (ae (be (ah F (ad (dx (a:=(k+1)) (b:=1) F F (by omega)) (aj F (ae ?_))))))))))
  exact⟨k+1,by omega,F,by omega,(.of F)⟩
 have PY: ¬k+1<z.length+1:=by omega
 refine cG ?_
 refine ai (ah F (ah F (ad (BJ (lo:=k) cI bl F F (by omega) (by omega)) (ao F (Kf (m:=z.length+1) (lo:=k) 0 cI bl F F F (by omega) (by omega) F ?_)))))
 refine ae (ai (ah F (ah F (ad (Hm (hi:=k) cI bl F F (by omega)) (aj F (ae (aN ?_)))))))
 refine aT (.slice (some ⟨bk,o,none⟩) k c) Tryz.results145 F ?_
 have T7:k=z.length:=by omega
 have ZD:(ints (XS z k)).take k=ints z:=by
  rw[T7,←List.map_take];unfold XS;rw[List.take_length,List.take_append_of_le_length (a8 _),List.take_length]
 rw[ZD]
 exact⟨ax (fun n9:Nat=>Value.slice (some ⟨bk,o,none⟩) n9 c) T7,F⟩
theorem N0 (base:World) [dB Tryz.prog base] (b:Option Addr) (c:Nat) (q:Bool×List Nat) (hb:q.2.length≤1000000):
  cd Tryz.prog base 145 [.slice b (jp q).length c,(.func (.func 147) #[] #[])] [aq b c 3 1 (ints (jp q))] (fun v O'=>v=.slice b q.2.length c∧O'=[aq b c 3 1 (bU q.2)]):=by
 obtain⟨g,l⟩:=q
 have hz: ∀x∈l.map (fun y:Nat=>(y:Int)),0≤x:=fun x hx=>by obtain⟨y,_,rfl⟩:=List.mem_map.1 hx;omega
 cases g with
 |false=>
  have h9:=NY base b c (l.map fun y:Nat=>(y:Int)) hz (by rw[ar];exact hb)
  rw[ar,gk]at h9
  rw[show jp (false,l)=l.map (fun y:Nat=>(y:Int))from F,ar,gk]
  exact h9
 |true=>
  rw[show jp (true,l)= -1::l.map (fun y:Nat=>(y:Int))from F,bL,ar]
  intro w M hI
  have hO:(([aq b c 3 1 (ints (-1::l.map fun y:Nat=>(y:Int)))]++M:List Lx.Item))[0]? =some (aq b c 3 1 (ints (-1::l.map fun y:Nat=>(y:Int)))):=rfl
  cases b with
  |none=>exact absurd (hI.row hO).1 (by simp)
  |some a=>
   obtain⟨bk,o,sp⟩:=a
   have yw:sp=none:=(hI.row hO).1
   subst yw
   obtain⟨_,full,_,h1,_⟩:=hI.row hO
   have h9:=NZ base bk o c (l.map fun y:Nat=>(y:Int)) hz (by rw[ar];exact hb) (by simpa using h1)
   rw[ar,gk]at h9
   exact h9 w M hI
end Go.Proofs.YtgdbfideeeegmaaGreatDoor

namespace Go.Proofs.YtgdbfideeeegmaaGreatDoor
open Go.Lx Go.RowKit _root_.Go.Proofs.Tryz
theorem Kg (w:World) [dB Tryz.prog w] (a:cM) (va:Valid a) (g:Bool) (l:List Nat) (sb:Option Addr) (c:Nat) (hS:Sl w sb (ints (jp (g,l)))) (hG:GS a (g,l)):
  cA Tryz.prog 142 [(.slice sb ((jp (g,l)).length) c)] w fun v N=>v=str (Bj (g,l))∧N=[]:=by
 refine aG func142 F ntmps142 F ?_
 have ZE:l.length≤4096:=bE (eT (hG.RV.imp fun h=>Nat.ne_of_lt h) hG.lt) va.n4
 have Yf:(jp (g,l)).length≤4097:=by unfold jp;split<;>simp<;>omega
 refine ai (aj F (ae (ai (ah F (ao F (bm ut (aX fun w1 hI=>(haveI:=ey hI;FQ w1 sb c (jp (g,l)) (hI.sl hS) (xD va.n4 hG) (by omega))) F ?_))))))
 rintro vr O' ⟨N,rfl,jb,jc,rfl,rfl⟩
 refine ad (BG (l:=Bj (g,l)) m_ vg fF F (mG 0 F) F) (aj F (ae (aN (az ?_))))
 refine aT (str (Bj (g,l))) Tryz.results142 F ?_
 exact⟨[],Sub.z,F,F⟩
theorem HM (w:World) [dB Tryz.prog w] (a:cM) (ka:DK) (ha:At w a ka) (va:Valid a) (za:Nat) (tw:Sl w (aD za) (dC a ka)) (g:Bool) (l:List Nat) (sb:Option Addr) (c:Nat) (hS:Sl w sb (ints (jp (g,l)))) (hG:GS a (g,l)) (x:Nat) (hx:x<dT a):
  cA Tryz.prog 143 [(.slice sb ((jp (g,l)).length) c),v8 x,(d_ (aD za) 0)] w fun v N=> ∃b' c' c2,v=.slice b' (tx a (g,l) x).2.length c'∧N=[aq b' c2 3 1 (bU (tx a (g,l) x).2)]:=by
 refine aG func143 F ntmps143 F ?_
 have ZE:l.length≤4096:=bE (eT (hG.RV.imp fun h=>Nat.ne_of_lt h) hG.lt) va.n4
 have Yf:(jp (g,l)).length≤4097:=by unfold jp;split<;>simp<;>omega
 have MC:=ng a l x
 have Ms:(fN a l x).length≤4096:=bE (Kh _ _) va.n4
 refine ai (aj F (ae (aO ?_)))
 refine T.ds [] [(0,0),(1,0),(4,0),(2,1),(3,1),(5,2),(6,2)] (cj (cm _)) ?_
 refine au F (eP (vs:=(dC a ka)) cS F bK F F (bw _) (aJ tw) (fun j hj=>by rw[Nat.zero_add];exact ap hj)) (au F (aK F) (au F (aK F) ?_))
 refine cx F F (bm J0 (aX fun w1 hI=>(haveI:=ey hI;J1 w1 sb c (jp (g,l)) (hI.sl hS) (by omega))) F ?_)
 rintro vr O' ⟨N,rfl,nb,nc,rfl,rfl,Yb⟩
 refine⟨by exact Sub.z,?_⟩
 refine cx F F (bm R3 (mR [0] (N0 w nb nc (g,l) (by show l.length≤_;omega))) F ?_)
 rintro vr O' ⟨A1,rfl,rfl,rfl⟩
 refine⟨by exact Sub.z,?_⟩
 refine cu F F (bm Ka (aX fun w1 hI=>(haveI:=ey hI;PL w1 a ka (hI.oP ha) va nb nc l (hI.gW (mG 0 F)) hG.lt (by omega) x hx)) F ?_)
 rintro vr O' ⟨N,rfl,tb,tc,rfl,rfl⟩
 refine cu F F (eO F F (cq F) ?_)
 refine cy ?_
 refine aO (ai ?_)
 refine ad (eP (vs:=(dC a ka)) cS F bK F F (bw _) (aJ tw) (fun j hj=>by rw[Nat.zero_add];exact ap hj)) (ah F ?_)
 refine ao F (bm AD (aX fun w1 hI=>(haveI:=ey hI;wo w1 a ka (hI.oP ha) va tb tc (fN a l x) (hI.gW (mG 0 F)) MC.2 (by omega))) F ?_)
 rintro vr O' ⟨N,rfl,rfl,rfl⟩
 refine ae (T.cond F (fun hc=>?_) (fun hc=>?_))
 ·refine be ?_
  refine ah F (ad (ck cS F bl F F (aJ tw) (by show _<4;decide)) (ad (c_ dS F F (aJ tw) (show _=some (Value.int .i64 ((a.start.toNat:Nat):Int)) by rw[dn va.s0];rfl)) (ao F (bm J9 (mR [0] (PN w a.next.length tb tc tc (fN a l x) a.start.toNat MC.1 MC.2 (ez va.toVal) (by omega))) F ?_))))
  rintro vr O' ⟨A1,rfl,wb,wc,VX,rfl,rfl⟩
  refine aj F (ae (ai (ah F (aj F (ae (aN (az ?_)))))))
  refine aT (.slice wb ((AB a.next.length (fN a l x) a.start.toNat).length) wc) Tryz.results143 F ?_
  have e9:(tx a (g,l) x).2=AB a.next.length (fN a l x) a.start.toNat:=by show(if _ then _ else _)=_;rw[aR hc]
  rw[e9]
  exact⟨[aq wb VX 3 1 (bU (AB a.next.length (fN a l x) a.start.toNat))],(by exact Sub.k .z),wb,wc,VX,F,F⟩
 refine aE (ai (ah F (aj F (ae (aN (az ?_))))))
 refine aT (.slice tb ((fN a l x).length) tc) Tryz.results143 F ?_
 have e9:(tx a (g,l) x).2=fN a l x:=by show(if _ then _ else _)=_;rw[ay (by rw[hc];simp)]
 rw[e9]
 exact⟨[aq tb tc 3 1 (bU (fN a l x))],(by exact Sub.k .z),tb,tc,tc,F,F⟩
theorem Ki (w:World) [dB Tryz.prog w] (a:cM) (ka:DK) (ha:At w a ka) (va:Valid a) (za:Nat) (tw:Sl w (aD za) (dC a ka)) (l:List Nat) (sb:Option Addr) (c:Nat) (hS:Sl w sb (ints (jp (true,l)))) (hG:GS a (true,l)):
  cA Tryz.prog 150 [(.slice sb (l.length+1) c),(d_ (aD za) 0)] w fun v N=>v=.bool (N1 a (true,l))∧N=[]:=by
 refine aG func150 F ntmps150 F ?_
 have ZE:l.length≤4096:=bE (eT (hG.RV.imp fun h=>Nat.ne_of_lt h) hG.lt) va.n4
 rw[show jp (true,l)= -1::l.map (fun y:Nat=>(y:Int))from F]at hS
 refine ai (aj F (ae (ai (ah F (ad (cP cI F) (ad (aA (gH F F) (av (by omega))) (ah F (aB F F (aK F) (aB F F (dZ (i:=0) cI bl F F (aJ hS) (by omega) (by simp)) (aB F F (c_ dS F F (aJ hS) F) (aB F F (aA (cR F F) (av (by decide))) ?_)))))))))))
 refine ad (cg F F) (ah F (aS F F (aS F F (aS F F (ad (cg F F) (aj F (ae (aN (az ?_)))))))))
 refine aT (.bool true) Tryz.results150 F ?_
 exact⟨[],Sub.z,F,F⟩
theorem Kj (w:World) [dB Tryz.prog w] (a:cM) (ka:DK) (ha:At w a ka) (va:Valid a) (za:Nat) (tw:Sl w (aD za) (dC a ka)) (l:List Nat) (sb:Option Addr) (c:Nat) (hS:Sl w sb (ints (jp (false,l)))) (hG:GS a (false,l)):
  cA Tryz.prog 150 [(.slice sb l.length c),(d_ (aD za) 0)] w fun v N=>v=.bool (N1 a (false,l))∧N=[]:=by
 refine aG func150 F ntmps150 F ?_
 have ZE:l.length≤4096:=bE (eT (hG.RV.imp fun h=>Nat.ne_of_lt h) hG.lt) va.n4
 rw[show ints (jp (false,l))=bU l by rw[←gk];rfl]at hS
 refine ai (aj F (ae (ai (ah F (ad (cP cI F) ?_)))))
 by_cases Iu:((l.length:Nat):Int)>0
 ·refine ad (aA (gH F F) (av Iu)) ?_
  refine ah F (aB F F (aK F) (aB F F (dZ (i:=0) cI bl F F (aJ hS) (by omega) (by rw[ar];omega)) (aB F F (c_ dS F F (aJ hS) (ij (show 0<l.length by omega))) (aB F F (aA (cR F F) (ak (by omega))) (ad (cg F F) (ah F ?_))))))
  refine aB F F (eP (vs:=(dC a ka)) cS F bK F F (bw _) (aJ tw) (fun j hj=>by rw[Nat.zero_add];exact ap hj)) ?_
  refine aB F F (aK F) ?_
  refine iv F F F (bm AD (aX fun w1 hI=>(haveI:=ey hI;wo w1 a ka (hI.oP ha) va sb c l (hI.sl hS) hG.lt (by omega))) F ?_)
  rintro vr O' ⟨N,rfl,rfl,rfl⟩
  refine ad (b_ F F) (aj F (ae (aN (az ?_))))
  refine aT (.bool (l.any (dD a))) Tryz.results150 F ?_
  exact⟨[],Sub.z,F,F⟩
 refine ad (aA (gH F F) (ak Iu)) (ah F (aS F F (aS F F (aS F F (aS F F (ad (b_ F F) (ah F ?_)))))))
 refine aB F F (eP (vs:=(dC a ka)) cS F bK F F (bw _) (aJ tw) (fun j hj=>by rw[Nat.zero_add];exact ap hj)) ?_
 refine aB F F (aK F) ?_
 refine iv F F F (bm AD (aX fun w1 hI=>(haveI:=ey hI;wo w1 a ka (hI.oP ha) va sb c l (hI.sl hS) hG.lt (by omega))) F ?_)
 rintro vr O' ⟨N,rfl,rfl,rfl⟩
 refine ad (b_ F F) (aj F (ae (aN (az ?_))))
 refine aT (.bool (l.any (dD a))) Tryz.results150 F ?_
 exact⟨[],Sub.z,F,F⟩
theorem Kk (w:World) [dB Tryz.prog w] (a:cM) (ka:DK) (ha:At w a ka) (va:Valid a) (za:Nat) (tw:Sl w (aD za) (dC a ka)) (g:Bool) (l:List Nat) (sb:Option Addr) (c:Nat) (hS:Sl w sb (ints (jp (g,l)))) (hG:GS a (g,l)):
  cA Tryz.prog 150 [(.slice sb ((jp (g,l)).length) c),(d_ (aD za) 0)] w fun v N=>v=.bool (N1 a (g,l))∧N=[]:=by
 cases g with
 |true=>
  rw[show(jp (true,l)).length=l.length+1 by rw[show jp (true,l)= -1::l.map (fun y:Nat=>(y:Int))from F];simp]
  exact Ki w a ka ha va za tw l sb c hS hG
 |false=>
  rw[show(jp (false,l)).length=l.length by rw[show jp (false,l)=l.map (fun y:Nat=>(y:Int))from F];simp]
  exact Kj w a ka ha va za tw l sb c hS hG
def Kl (a:cM) (w:World) (k:Key) (r:SR):Prop:= ∃g l sb cc,GS a (g,l)∧k=Bj (g,l)∧r.a=.slice sb (jp (g,l)).length cc∧r.b=.bool false∧((∃c2,r.kL=[aq sb c2 3 1 (ints (jp (g,l)))])∨(r.kL=[]∧Sl w sb (ints (jp (g,l)))))
theorem Kl.sl {w w1:World} {sb:Option Addr} {cs:List Value} {kL:List Lx.Item} (hI:Inv w [] w1) (h:(∃c2,kL=[aq sb c2 3 1 cs])∨(kL=[]∧Sl w sb cs)) (fC: ∀it∈kL,it.P w1):Sl w1 sb cs:=by
 rcases h with⟨c2,he⟩|⟨_,h⟩
 ·exact rowP.sl (fC (aq sb c2 3 1 cs) (by rw[he];simp))
 ·exact hI.sl h
theorem Kl.one {a:cM} {w:World} {k:Key} {r:SR} (h:Kl a w k r):fu r.a=true∧fu r.b=true:=by
 obtain⟨g,l,sb,cc,_,_,h1,h2,_⟩:=h
 rw[h1,h2];exact⟨F,F⟩
set_option maxRecDepth 20000 in
theorem R4 (w:World) [dB Tryz.prog w] (a:cM) (ka:DK) (ha:At w a ka) (va:Valid a) (za:Nat) (tw:Sl w (aD za) (dC a ka)) (w1:World) [dB Tryz.prog w1] (hI:Inv w [] w1) (k:Key) (r:SR) (hR:Kl a w k r) (fC: ∀it∈r.kL,it.P w1):eK Tryz.prog w1 (.func (.func 142) #[] #[]) [r.a] [] (fun v O'=>v=str k∧O'=[]):=by
 obtain⟨g,l,sb,cc,hG,rfl,e1,e2,hm⟩:=hR
 have hS:=Kl.sl hI hm fC
 rw[e1]
 exact cQ (first:=[]) (args:=[.slice sb (jp (g,l)).length cc]) (gv:=[]) R5 (Kg w1 a va g l sb cc hS hG)
set_option maxRecDepth 20000 in
theorem R6 (w:World) [dB Tryz.prog w] (a:cM) (ka:DK) (ha:At w a ka) (va:Valid a) (za:Nat) (tw:Sl w (aD za) (dC a ka)) (w1:World) [dB Tryz.prog w1] (hI:Inv w [] w1) (k:Key) (r:SR) (hR:Kl a w k r) (fC: ∀it∈r.kL,it.P w1) (x:Nat) (hx:x<dT a):eK Tryz.prog w1 (.func (.func 143) #[] #[(d_ (aD za) 0)]) [r.a,.int .u8 (x:Int)] [] (fun v N=> ∃r',v=r'.a∧N=r'.kL∧Kl a w (Bi (GS a) Bj (tx a) k x) r'):=by
 obtain⟨g,l,sb,cc,hG,rfl,e1,e2,hm⟩:=hR
 have hS:=Kl.sl hI hm fC
 rw[e1]
 refine(cQ (first:=[]) (args:=[.slice sb (jp (g,l)).length cc,.int .u8 (x:Int)]) (gv:=[(d_ (aD za) 0)]) R7 (HM w1 a ka (hI.oP ha) va za (hI.sl tw) g l sb cc hS hG x hx)).mono ?_
 rintro v O' ⟨b',c',c2,rfl,rfl⟩
 have e3:jp (tx a (g,l) x)=(tx a (g,l) x).2.map fun y:Nat=>(y:Int):=rfl
 exact⟨⟨.slice b' (tx a (g,l) x).2.length c',.bool false,[aq b' c2 3 1 (bU (tx a (g,l) x).2)]⟩,F,F,false,(tx a (g,l) x).2,b',c',GS.next x,uu (AG va) hG hx,by show _=Value.slice b' (jp (tx a (g,l) x)).length c';rw[e3,ar],F,.inl ⟨c2,by show _=[aq b' c2 3 1 (ints (jp (tx a (g,l) x)))];rw[e3,gk]⟩⟩
set_option maxRecDepth 20000 in
theorem R8 (w:World) [dB Tryz.prog w] (a:cM) (ka:DK) (ha:At w a ka) (va:Valid a) (za:Nat) (tw:Sl w (aD za) (dC a ka)) (w1:World) [dB Tryz.prog w1] (hI:Inv w [] w1) (k:Key) (r:SR) (hR:Kl a w k r) (fC: ∀it∈r.kL,it.P w1):eK Tryz.prog w1 (.func (.func 150) #[] #[(d_ (aD za) 0)]) [r.a] [] (fun v O'=>v=.bool (HL (GS a) Bj (N1 a) k)∧O'=[]):=by
 obtain⟨g,l,sb,cc,hG,rfl,e1,e2,hm⟩:=hR
 have hS:=Kl.sl hI hm fC
 rw[e1]
 rw[AE (AG va) hG]
 exact cQ (first:=[]) (args:=[.slice sb (jp (g,l)).length cc]) (gv:=[(d_ (aD za) 0)]) R9 (Kk w1 a ka (hI.oP ha) va za (hI.sl tw) g l sb cc hS hG)
theorem V5 (w:World) [dB Tryz.prog w] (cb:Nat) (eb:Option Addr) (en ec vs B:Nat) (eR:Sl w (aD cb) [.slice eb en ec,vI (vs:Int),vI (B:Int)]) (gq:vs≤6) (iN:1≤B) (hB:B≤4096) (a:cM) (ka:DK) (ha:At w a ka) (va:Valid a) (V2:a.vars=(vs:Int)):
  dA Tryz.prog w (.iface 163 (.agg #[])) 105 [(d_ (aD cb) 0),dV a ka] [] (fun v N=> ∃M k',v=dV M k'∧N=[dI 56 4 3 M k']∧gf (vs:Int) B M (oA (iI a))∧Eo a (dT a) B) (¬Eo a (dT a) B):=by
 refine dL func105 F ntmps105 F ?_
 refine ai (ao F (dE (cs:=(dC a ka)) F F (fun z1=>?_)))
 refine ao F (bu bK F (fun z2=>?_))
 refine ae (ai (ah F (ad (bj cS F bl F F) (ad (bT (bn 1 dS F F F F) (v':=vI ((a.start.toNat:Nat):Int)) (show Value.int .i64 a.start=_ by rw[dn va.s0])) (ao F (cH (m:=2) (parts:=[(0,.const (vI (-1))),(1,.tmp 7)]) (cs:=[vI (-1),vI ((a.start.toNat:Nat):Int)]) cI bl (by decide) (by kernel_rfl) F (fun z3=>?_)))))))
 refine ad (e8) (ad (e8) ?_)
 have Cv:=fun(w1:World) (hI:Inv w [aq (aD z3) 2 3 1 [vI (-1),vI ((a.start.toNat:Nat):Int)],oI z2 25 [(vI 0),(vI 0),nS,nS],oI z1 25 (dC a ka)] w1)=>(haveI:=ey hI;Ek w1 cb eb en ec vs B (dT a) (hI.sl eR) gq (by unfold dT;rw[V2];rfl) iN hB (Bi (GS a) Bj (tx a)) (HL (GS a) Bj (N1 a)) (Bj (Ep a)) (Kl a w1) ⟨.slice (aD z3) 2 2,.bool false,[]⟩ (.func (.func 142) #[] #[]) (.func (.func 143) #[] #[(d_ (aD z1) 0)]) (.func (.func 150) #[] #[(d_ (aD z1) 0)]) ⟨true,[a.start.toNat],(aD z3),2,GS.start va.toVal,F,F,F,.inr ⟨F,hI.gW (mG 0 F)⟩⟩ F (fun k r h=>h.one) (fun w2 k r pC hR fC=>haveI:=ey pC;R4 w1 a ka (hI.oP ha) va z1 (hI.jZ (mG 2 F)) w2 pC k r hR fC) (fun w2 k r x pC hR fC hx=>haveI:=ey pC;R6 w1 a ka (hI.oP ha) va z1 (hI.jZ (mG 2 F)) w2 pC k r hR fC x hx) (fun w2 k r pC hR fC=>haveI:=ey pC;R8 w1 a ka (hI.oP ha) va z1 (hI.jZ (mG 2 F)) w2 pC k r hR fC))
 refine eC F (eV R_ (dA.pure Cv) F (fun z _=>⟨F,z⟩) ?_)
 clear Cv
 rintro vr O' ⟨N,rfl,M,k9,rfl,rfl,hM,Ke⟩
 refine ao F (bV (vs:=(dC M k9)) 2 bK F F F F ?_)
 refine ae (aN (az ?_))
 refine cL (i:=2) Tryz.results105 cS F bK F F F ?_
 exact⟨[dI 56 4 3 M k9],(by exact Sub.k .z),M,k9,F,F,⟨⟨hM.valid,hM.len,hM.vars,fun u hu=>by rw[hM.iI u hu];exact zz va (fun x hx=>by have:=hu x hx;unfold dT;rw[V2];exact this)⟩,hM.min⟩,Ke⟩
end Go.Proofs.YtgdbfideeeegmaaGreatDoor

namespace Go.Proofs.YtgdbfideeeegmaaGreatDoor
open Go.Lx Go.RowKit _root_.Go.Proofs.Tryz
def Kc (a b:cM) (w:World) (k:Key) (r:SR):Prop:= ∃s l sb cc,GC a b (s,l)∧k=zy (s,l)∧r.a=vI (s:Int)∧r.b=.slice sb l.length cc∧((∃c2,r.kL=[aq sb c2 3 1 (bU l)])∨(r.kL=[]∧Sl w sb (bU l)))
theorem rowAt {w1:World} {b:Option Addr} {c:Nat} {T:TypeId} {cs:List Value} {kL:List Lx.Item} (he:kL=[aq b c T 1 cs]) (h: ∀it∈kL,it.P w1):Sl w1 b cs:=rowP.sl (h (aq b c T 1 cs) (by rw[he];simp))
theorem Kc.sl {a b:cM} {w w1:World} {sb:Option Addr} {l:List Nat} {kL:List Lx.Item} (hI:Inv w [] w1) (h:(∃c2,kL=[aq sb c2 3 1 (bU l)])∨(kL=[]∧Sl w sb (bU l))) (fC: ∀it∈kL,it.P w1):Sl w1 sb (bU l):=by
 rcases h with⟨c2,he⟩|⟨_,h⟩
 ·exact rowAt he fC
 ·exact hI.sl h
theorem Kc.one {a b:cM} {w:World} {k:Key} {r:SR} (h:Kc a b w k r):fu r.a=true∧fu r.b=true:=by
 obtain⟨s,l,sb,cc,_,_,h1,h2,_⟩:=h
 rw[h1,h2];exact⟨F,F⟩
set_option maxRecDepth 20000 in
theorem VZ (w:World) [dB Tryz.prog w] (a:cM) (ka:DK) (ha:At w a ka) (va:Valid a) (za:Nat) (tw:Sl w (aD za) (dC a ka)) (b:cM) (kb:DK) (hb:At w b kb) (vb:Valid b) (zb:Nat) (FR:Sl w (aD zb) (dC b kb)) (yL:a.vars=b.vars) (zf:Nat) (VY:Sl w (aD zf) [(.func (.func 153) #[] #[(d_ (aD za) 0),(d_ (aD zb) 0)])]) (w1:World) [dB Tryz.prog w1] (hI:Inv w [] w1) (k:Key) (r:SR) (hR:Kc a b w k r) (fC: ∀it∈r.kL,it.P w1):eK Tryz.prog w1 (.func (.func 155) #[] #[]) [.agg #[r.a,r.b]] [] (fun v O'=>v=str k∧O'=[]):=by
 obtain⟨s,l,sb,cc,hG,rfl,e1,e2,hm⟩:=hR
 have hS:=Kc.sl (a:=a) (b:=b) hI hm fC
 have HK:=hG.len vb.n4
 rw[e1,e2]
 exact cQ (first:=[]) (args:=[.agg #[vI (s:Int),.slice sb l.length cc]]) (gv:=[]) RT (NV w1 s (by have:=hG.s;have:=va.n4;omega) sb cc l hS (fun t ht=>by have:=hG.lt t ht;have:=vb.n4;omega) HK)
set_option maxRecDepth 20000 in
theorem V0 (w:World) [dB Tryz.prog w] (a:cM) (ka:DK) (ha:At w a ka) (va:Valid a) (za:Nat) (tw:Sl w (aD za) (dC a ka)) (b:cM) (kb:DK) (hb:At w b kb) (vb:Valid b) (zb:Nat) (FR:Sl w (aD zb) (dC b kb)) (yL:a.vars=b.vars) (zf:Nat) (VY:Sl w (aD zf) [(.func (.func 153) #[] #[(d_ (aD za) 0),(d_ (aD zb) 0)])]) (w1:World) [dB Tryz.prog w1] (hI:Inv w [] w1) (k:Key) (r:SR) (hR:Kc a b w k r) (fC: ∀it∈r.kL,it.P w1) (x:Nat) (hx:x<dT a):eK Tryz.prog w1 (.func (.func 156) #[] #[(d_ (aD zf) 0),(d_ (aD za) 0),(d_ (aD zb) 0)]) [.agg #[r.a,r.b],.int .u8 (x:Int)] [] (fun v N=> ∃r',v=.agg #[r'.a,r'.b]∧N=r'.kL∧Kc a b w (Bi (GC a b) zy (Ix a b) k x) r'):=by
 obtain⟨s,l,sb,cc,hG,rfl,e1,e2,hm⟩:=hR
 have hS:=Kc.sl (a:=a) (b:=b) hI hm fC
 have HK:=hG.len vb.n4
 rw[e1,e2]
 refine(cQ (first:=[]) (args:=[.agg #[vI (s:Int),.slice sb l.length cc],.int .u8 (x:Int)]) (gv:=[(d_ (aD zf) 0),(d_ (aD za) 0),(d_ (aD zb) 0)]) RU (J_ w1 a ka (hI.oP ha) va za (hI.sl tw) b kb (hI.oP hb) vb zb (hI.sl FR) yL zf (hI.sl VY) s hG.s sb cc l hS hG.RV hG.lt x hx)).mono ?_
 rintro v O' ⟨b',c',c2,rfl,rfl⟩
 exact⟨⟨vI ((e7 a s x:Nat):Int),.slice b' (vk a b (e7 a s x) (fN b l x)).length c',[aq b' c2 3 1 (bU (vk a b (e7 a s x) (fN b l x)))]⟩,F,F,e7 a s x,_,b',c',hG.next va.toVal vb.toVal hx,uu (FU va vb) hG hx,F,F,.inl ⟨c2,F⟩⟩
set_option maxRecDepth 20000 in
theorem V1 (w:World) [dB Tryz.prog w] (a:cM) (ka:DK) (ha:At w a ka) (va:Valid a) (za:Nat) (tw:Sl w (aD za) (dC a ka)) (b:cM) (kb:DK) (hb:At w b kb) (vb:Valid b) (zb:Nat) (FR:Sl w (aD zb) (dC b kb)) (yL:a.vars=b.vars) (zf:Nat) (VY:Sl w (aD zf) [(.func (.func 153) #[] #[(d_ (aD za) 0),(d_ (aD zb) 0)])]) (w1:World) [dB Tryz.prog w1] (hI:Inv w [] w1) (k:Key) (r:SR) (hR:Kc a b w k r) (fC: ∀it∈r.kL,it.P w1):eK Tryz.prog w1 (.func (.func 157) #[] #[(d_ (aD zb) 0)]) [.agg #[r.a,r.b]] [] (fun v O'=>v=.bool (HL (GC a b) zy (RS b) k)∧O'=[]):=by
 obtain⟨s,l,sb,cc,hG,rfl,e1,e2,hm⟩:=hR
 have hS:=Kc.sl (a:=a) (b:=b) hI hm fC
 have HK:=hG.len vb.n4
 rw[e1,e2]
 rw[AE (FU va vb) hG]
 exact cQ (first:=[]) (args:=[.agg #[vI (s:Int),.slice sb l.length cc]]) (gv:=[(d_ (aD zb) 0)]) RW (NW w1 b kb (hI.oP hb) vb zb (hI.sl FR) s sb cc l hS hG.lt HK)
set_option maxRecDepth 20000 in
theorem RX (w:World) [dB Tryz.prog w] (a:cM) (ka:DK) (ha:At w a ka) (va:Valid a) (za:Nat) (tw:Sl w (aD za) (dC a ka)) (b:cM) (kb:DK) (hb:At w b kb) (vb:Valid b) (zb:Nat) (FR:Sl w (aD zb) (dC b kb)):eK Tryz.prog w (.func (.func 153) #[] #[(d_ (aD za) 0),(d_ (aD zb) 0)]) [.agg #[vI a.start,nS]] [] (fun v N=> ∃sb sc MD,v=.agg #[vI a.start,.slice sb (vk a b a.start.toNat []).length sc]∧N=[aq sb MD 3 1 (bU (vk a b a.start.toNat []))]):=by
 refine cQ (first:=[]) (args:=[.agg #[vI a.start,nS]]) (gv:=[(d_ (aD za) 0),(d_ (aD zb) 0)]) Kb (cd.eY 3 1 ?_)
 have h9:=J8 w a ka ha va za tw b kb hb vb zb FR a.start.toNat (ez va.toVal) none 0 0 [] List.Pairwise.nil (by simp)
 rw[dn va.s0]at h9
 exact h9
theorem RY (w:World) [dB Tryz.prog w] (cb:Nat) (eb:Option Addr) (en ec vs B:Nat) (eR:Sl w (aD cb) [.slice eb en ec,vI (vs:Int),vI (B:Int)]) (gq:vs≤6) (iN:1≤B) (hB:B≤4096) (a:cM) (ka:DK) (ha:At w a ka) (va:Valid a) (V2:a.vars=(vs:Int)) (b:cM) (kb:DK) (hb:At w b kb) (vb:Valid b) (yL:a.vars=b.vars):
  dA Tryz.prog w (.iface 163 (.agg #[])) 108 [(d_ (aD cb) 0),dV a ka,dV b kb] [] (fun v N=> ∃M k',v=dV M k'∧N=[dI 56 4 3 M k']∧gf (vs:Int) B M (jS (iI a) (iI b))∧AF a b (dT a) B) (¬AF a b (dT a) B):=by
 refine dL func108 F ntmps108 F ?_
 refine ai (ao F (dE (cs:=(dC a ka)) F F (fun z1=>?_)))
 refine ao F (dE (cs:=(dC b kb)) F F (fun z2=>?_))
 refine ao F (bu bK F (fun z3=>?_))
 refine ae (ai (ad (e8) (ao F (bu Kd F (fun z4=>?_)))))
 let eJ:Value:=(.func (.func 153) #[] #[(.pointer (aD z1)),(.pointer (aD z2))])
 refine ao F (bV (vs:=[eJ]) 0 Kd F F F F ?_)
 refine ae (ai (ah F (ad (bn 0 PV F F F F) (ad (bj cS F bl F F) (ad (bn 3 dS F F F F) (ad (cF (cs:=[(vI a.start),nS]) FT lG (by kernel_rfl)) ?_))))))
 have Cs:=(eo (O:=[oI z4 209 [eJ],oI z3 25 [(vI 0),(vI 0),nS,nS],oI z2 25 (dC b kb),oI z1 25 (dC a ka)]) fun w1 hI=>haveI:=ey hI;(haveI:=ey hI;RX w1 a ka (hI.oP ha) va z1 (hI.jZ (mG 3 F)) b kb (hI.oP hb) vb z2 (hI.jZ (mG 2 F))))
 refine ao F (fh Cs F F ?_)
 clear Cs
 rintro vr O' ⟨N,rfl,sb,sc,MD,rfl,rfl⟩
 refine ad (e8) (ad (e8) ?_)
 have V3:=fun(w1:World) (hI:Inv w [aq sb MD 3 1 (bU (vk a b a.start.toNat [])),oI z4 209 [eJ],oI z3 25 [(vI 0),(vI 0),nS,nS],oI z2 25 (dC b kb),oI z1 25 (dC a ka)] w1)=>(haveI:=ey hI;Cr w1 cb eb en ec vs B (dT a) (hI.sl eR) gq (by unfold dT;rw[V2];rfl) iN hB (Bi (GC a b) zy (Ix a b)) (HL (GC a b) zy (RS b)) (zy (NX a b)) (Kc a b w1) ⟨vI a.start,.slice sb (vk a b a.start.toNat []).length sc,[]⟩ (.func (.func 155) #[] #[]) (.func (.func 156) #[] #[(d_ (aD z4) 0),(d_ (aD z1) 0),(d_ (aD z2) 0)]) (.func (.func 157) #[] #[(d_ (aD z2) 0)]) ⟨a.start.toNat,vk a b a.start.toNat [],sb,sc,GC.start va.toVal vb.toVal,F,(show Value.int .i64 a.start=_ by rw[dn va.s0]),F,.inr ⟨F,hI.gW (mG 0 F)⟩⟩ F (fun k r h=>h.one) (fun w2 k r pC hR fC=>haveI:=ey pC;VZ w1 a ka (hI.oP ha) va z1 (hI.jZ (mG 4 F)) b kb (hI.oP hb) vb z2 (hI.jZ (mG 3 F)) yL z4 (hI.jZ (mG 1 F)) w2 pC k r hR fC) (fun w2 k r x pC hR fC hx=>haveI:=ey pC;V0 w1 a ka (hI.oP ha) va z1 (hI.jZ (mG 4 F)) b kb (hI.oP hb) vb z2 (hI.jZ (mG 3 F)) yL z4 (hI.jZ (mG 1 F)) w2 pC k r hR fC x hx) (fun w2 k r pC hR fC=>haveI:=ey pC;V1 w1 a ka (hI.oP ha) va z1 (hI.jZ (mG 4 F)) b kb (hI.oP hb) vb z2 (hI.jZ (mG 3 F)) yL z4 (hI.jZ (mG 1 F)) w2 pC k r hR fC))
 refine eC F (eV RZ (dA.pure V3) F (fun z _=>⟨F,z⟩) ?_)
 clear V3
 rintro vr O' ⟨N,rfl,M,k9,rfl,rfl,hM,Ke⟩
 refine ao F (bV (vs:=(dC M k9)) 3 bK F F F F ?_)
 refine ae (aN (az ?_))
 refine cL (i:=3) Tryz.results108 cS F bK F F F ?_
 exact⟨[dI 56 4 3 M k9],(by exact Sub.k .z),M,k9,F,F,⟨⟨hM.valid,hM.len,hM.vars,fun u hu=>by rw[hM.iI u hu];exact Ct va vb yL (fun x hx=>by have:=hu x hx;unfold dT;rw[V2];exact this)⟩,hM.min⟩,Ke⟩
end Go.Proofs.YtgdbfideeeegmaaGreatDoor

