/- Contracts of functions of the program, and what they answer. Conditions: those each theorem names. -/
import Derived.Test.YtgdbfideeeegmaaGreatDoorB3
import Derived.Test.YtgdbfideeeegmaaGreatDoorB2
import Derived.Test.YtgdbfideeeegmaaGreatDoorA1
import Derived.Test.YtgdbfideeeegmaaGreatDoorA2
import Derived.Test.YtgdbfideeeegmaaGreatDoorA5
import Derived.Test.YtgdbfideeeegmaaGreatDoorA0
set_option linter.unusedSectionVars false
set_option linter.unusedSimpArgs false
set_option linter.unusedVariables false
set_option linter.unnecessarySimpa false
set_option maxHeartbeats 8000000
set_option maxRecDepth 20000
namespace Go.Lx
open Go.RowKit Go.Proofs.YtgdbfideeeegmaaGreatDoor
def post:Rx→Nat→List eE
 | .none,_=>[⟨1,0,0,0,0⟩]
 | .empty,_=>[⟨2,0,0,0,0⟩]
 | .letter p n,_=>[⟨3,p,n,0,0⟩]
 | .je a b,s=>post a s++(post b (s+a.sz)++[⟨4,0,0,((s+a.sz:Nat):Int)-1,((s+a.sz+b.sz:Nat):Int)-1⟩])
 | .jq a b,s=>post a s++(post b (s+a.sz)++[⟨5,0,0,((s+a.sz:Nat):Int)-1,((s+a.sz+b.sz:Nat):Int)-1⟩])
 | .and a b,s=>post a s++(post b (s+a.sz)++[⟨6,0,0,((s+a.sz:Nat):Int)-1,((s+a.sz+b.sz:Nat):Int)-1⟩])
 | .not a,s=>post a s++[⟨7,0,0,((s+a.sz:Nat):Int)-1,0⟩]
 | .star a,s=>post a s++[⟨8,0,0,((s+a.sz:Nat):Int)-1,0⟩]
 | .ahead a,s=>post a s++[⟨9,0,0,((s+a.sz:Nat):Int)-1,0⟩]
 | .behind a,s=>post a s++[⟨10,0,0,((s+a.sz:Nat):Int)-1,0⟩]
theorem fI: ∀(t:Rx) (s:Nat),(post t s).length=t.sz
 | .none,_| .empty,_| .letter _ _,_=>rfl
 | .je a b,s| .jq a b,s| .and a b,s=>by simp only[post,aF,bL,cN,fI a,fI b,Rx.sz];omega
 | .not a,s| .star a,s| .ahead a,s| .behind a,s=>by simp only[post,aF,bL,cN,fI a,Rx.sz]
theorem sJ.oM {e f:List eE}: ∀ {t:Rx} {i:Nat},sJ e t i→sJ (e++f) t i:=by
 have g: ∀ {x:eE} {i:Nat},e[i]? =some x→(e++f)[i]? =some x:=fun h=>by rw[bI (List.getElem?_eq_some_iff.1 h).1];exact h
 intro t
 induction t with
 |none=>exact g
 |empty=>exact g
 |letter p n=>exact fun h=>⟨g h.1,h.2⟩
 |je a b mJ uE=>exact fun⟨j,k,h,ha,hb⟩=>⟨j,k,g h,mJ ha,uE hb⟩
 |jq a b mJ uE=>exact fun⟨j,k,h,ha,hb⟩=>⟨j,k,g h,mJ ha,uE hb⟩
 |and a b mJ uE=>exact fun⟨j,k,h,ha,hb⟩=>⟨j,k,g h,mJ ha,uE hb⟩
 |not a mJ=>exact fun⟨j,h,ha⟩=>⟨j,g h,mJ ha⟩
 |star a mJ=>exact fun⟨j,h,ha⟩=>⟨j,g h,mJ ha⟩
 |ahead a mJ=>exact fun⟨j,h,ha⟩=>⟨j,g h,mJ ha⟩
 |behind a mJ=>exact fun⟨j,h,ha⟩=>⟨j,g h,mJ ha⟩
def Rx.GO (v:Nat):Rx→Prop
 | .letter p n=>fY v ⟨3,p,n,0,0⟩=0∧p<256∧n<256
 | .je a b| .jq a b| .and a b=>a.GO v∧b.GO v
 | .not a| .star a| .ahead a| .behind a=>a.GO v
 |_=>True
theorem lI {α:Type} {e:List α} {x:α} {n:Nat} (h:e.length=n):(e++[x])[n]? =some x:=by subst h;simp
theorem post_at {v:Nat}: ∀ {t:Rx} (_:t.GO v) (pre:List eE),sJ (pre++post t pre.length) t (pre.length+t.sz-1)
 | .none,_,pre| .empty,_,pre=>by show(_++_)[_]? =_;exact lI F
 | .letter p n,h,pre=>⟨lI F,h.2⟩
 | .je a b,h,pre=>by
  have hb:=post_at h.2 (pre++post a pre.length)
  have e1:(pre++post a pre.length).length=pre.length+a.sz:=by rw[aF,fI]
  rw[e1]at hb
  have pa:=a.dN;have pb:=b.dN
  refine⟨pre.length+a.sz-1,pre.length+a.sz+b.sz-1,?_,?_,?_⟩
  ·simp only[post]
   rw[←aI (post a _),←aI pre,lI (by rw[aF,aF,fI,fI];simp only[Rx.sz];omega)]
   congr 2<;>omega
  ·simp only[post];rw[←aI pre];exact(post_at h.1 pre).oM
  ·simp only[post];rw[←aI pre,←aI (pre++_)];exact hb.oM
 | .jq a b,h,pre=>by
  have hb:=post_at h.2 (pre++post a pre.length)
  have e1:(pre++post a pre.length).length=pre.length+a.sz:=by rw[aF,fI]
  rw[e1]at hb
  have pa:=a.dN;have pb:=b.dN
  refine⟨pre.length+a.sz-1,pre.length+a.sz+b.sz-1,?_,?_,?_⟩
  ·simp only[post]
   rw[←aI (post a _),←aI pre,lI (by rw[aF,aF,fI,fI];simp only[Rx.sz];omega)]
   congr 2<;>omega
  ·simp only[post];rw[←aI pre];exact(post_at h.1 pre).oM
  ·simp only[post];rw[←aI pre,←aI (pre++_)];exact hb.oM
 | .and a b,h,pre=>by
  have hb:=post_at h.2 (pre++post a pre.length)
  have e1:(pre++post a pre.length).length=pre.length+a.sz:=by rw[aF,fI]
  rw[e1]at hb
  have pa:=a.dN;have pb:=b.dN
  refine⟨pre.length+a.sz-1,pre.length+a.sz+b.sz-1,?_,?_,?_⟩
  ·simp only[post]
   rw[←aI (post a _),←aI pre,lI (by rw[aF,aF,fI,fI];simp only[Rx.sz];omega)]
   congr 2<;>omega
  ·simp only[post];rw[←aI pre];exact(post_at h.1 pre).oM
  ·simp only[post];rw[←aI pre,←aI (pre++_)];exact hb.oM
 | .not a,h,pre| .star a,h,pre| .ahead a,h,pre| .behind a,h,pre=>by
  have pa:=a.dN
  refine⟨pre.length+a.sz-1,?_,?_⟩
  ·simp only[post]
   rw[←aI,lI (by rw[aF,fI];simp only[Rx.sz];omega)]
   congr 2;omega
  ·simp only[post]
   rw[←aI];exact(post_at (t:=a) h pre).oM
theorem sJ.QF {e:List eE} {t:Rx} {i:Nat} (h:sJ e t i): ∃x,e[i]? =some x∧x.op=t.op:=by
 cases t<;>first|exact⟨_,h,F⟩|exact⟨_,h.1,F⟩|(obtain⟨j,k,h,_,_⟩:=h;exact⟨_,h,F⟩)|(obtain⟨j,h,_⟩:=h;exact⟨_,h,F⟩)
theorem sJ.rN {e:List eE} {t u:Rx} {i:Nat} (h:sJ e t i) (h2:sJ e u i):t.op=u.op:=by
 obtain⟨x,h3,h4⟩:=h.QF
 obtain⟨y,h5,h6⟩:=h2.QF
 rw[h3]at h5
 rw[←h4,←h6,cZ h5]
theorem sJ.XO {e:List eE}: ∀ {t u:Rx} {i:Nat},sJ e t i→sJ e u i→t=u:=by
 intro t
 induction t with
 |none=>
  intro u i h h2
  have e0:=h.rN h2
  cases u with
  |none=>rfl
  |_=>simp[Rx.op]at e0
 |empty=>
  intro u i h h2
  have e0:=h.rN h2
  cases u with
  |empty=>rfl
  |_=>simp[Rx.op]at e0
 |letter p n=>
  intro u i h h2
  have e0:=h.rN h2
  cases u with
  |letter p' n'=>
   obtain⟨_,e1,e2,_⟩:=eE.mk.inj (cZ (h.1.symm.trans h2.1))
   rw[e1,e2]
  |_=>simp[Rx.op]at e0
 |je a b mJ uE=>
  intro u i h h2
  have e0:=h.rN h2
  cases u with
  |je a' b'=>
   obtain⟨j,k,h,ha,hb⟩:=h
   obtain⟨j',k',h3,DZ,yz⟩:=h2
   obtain⟨_,_,_,e1,e2⟩:=eE.mk.inj (cZ (h.symm.trans h3))
   obtain rfl:j=j':=by omega
   obtain rfl:k=k':=by omega
   rw[mJ ha DZ,uE hb yz]
  |_=>simp[Rx.op]at e0
 |jq a b mJ uE=>
  intro u i h h2
  have e0:=h.rN h2
  cases u with
  |jq a' b'=>
   obtain⟨j,k,h,ha,hb⟩:=h
   obtain⟨j',k',h3,DZ,yz⟩:=h2
   obtain⟨_,_,_,e1,e2⟩:=eE.mk.inj (cZ (h.symm.trans h3))
   obtain rfl:j=j':=by omega
   obtain rfl:k=k':=by omega
   rw[mJ ha DZ,uE hb yz]
  |_=>simp[Rx.op]at e0
 |and a b mJ uE=>
  intro u i h h2
  have e0:=h.rN h2
  cases u with
  |and a' b'=>
   obtain⟨j,k,h,ha,hb⟩:=h
   obtain⟨j',k',h3,DZ,yz⟩:=h2
   obtain⟨_,_,_,e1,e2⟩:=eE.mk.inj (cZ (h.symm.trans h3))
   obtain rfl:j=j':=by omega
   obtain rfl:k=k':=by omega
   rw[mJ ha DZ,uE hb yz]
  |_=>simp[Rx.op]at e0
 |not a mJ=>
  intro u i h h2
  have e0:=h.rN h2
  cases u with
  |not a'=>
   obtain⟨j,h,ha⟩:=h
   obtain⟨j',h3,DZ⟩:=h2
   obtain⟨_,_,_,e1,_⟩:=eE.mk.inj (cZ (h.symm.trans h3))
   obtain rfl:j=j':=by omega
   rw[mJ ha DZ]
  |_=>simp[Rx.op]at e0
 |star a mJ=>
  intro u i h h2
  have e0:=h.rN h2
  cases u with
  |star a'=>
   obtain⟨j,h,ha⟩:=h
   obtain⟨j',h3,DZ⟩:=h2
   obtain⟨_,_,_,e1,_⟩:=eE.mk.inj (cZ (h.symm.trans h3))
   obtain rfl:j=j':=by omega
   rw[mJ ha DZ]
  |_=>simp[Rx.op]at e0
 |ahead a mJ=>
  intro u i h h2
  have e0:=h.rN h2
  cases u with
  |ahead a'=>
   obtain⟨j,h,ha⟩:=h
   obtain⟨j',h3,DZ⟩:=h2
   obtain⟨_,_,_,e1,_⟩:=eE.mk.inj (cZ (h.symm.trans h3))
   obtain rfl:j=j':=by omega
   rw[mJ ha DZ]
  |_=>simp[Rx.op]at e0
 |behind a mJ=>
  intro u i h h2
  have e0:=h.rN h2
  cases u with
  |behind a'=>
   obtain⟨j,h,ha⟩:=h
   obtain⟨j',h3,DZ⟩:=h2
   obtain⟨_,_,_,e1,_⟩:=eE.mk.inj (cZ (h.symm.trans h3))
   obtain rfl:j=j':=by omega
   rw[mJ ha DZ]
  |_=>simp[Rx.op]at e0
end Go.Lx

namespace Go.Lx
open Go.RowKit Go.Proofs.YtgdbfideeeegmaaGreatDoor
theorem A_ {v b:Nat} {fs:List Nat} {x:eE} (h:gC v fs x=.ok b): [x].foldl (mA v) (.ok fs)=.ok (fs++[b]):=by
 show mA v (.ok fs) x=_
 unfold mA;simp only[h]
theorem yP {fs gs:List Nat} {i:Nat} (h:i<fs.length):(fs++gs).getD i 0=fs.getD i 0:=by
 rw[aw,aw,bI h]
theorem ns {fs:List Nat} {b n:Nat} (h:fs.length=n):(fs++[b]).getD n 0=b:=by
 subst h;rw[aw,lI F];rfl
theorem ym {v:Nat} {fs:List Nat} {x:eE} (h0:fY v x=0) (h1:dQ x.op=0): ∃gs,[x].foldl (mA v) (.ok fs)=.ok (fs++gs)∧gs.length=1∧(fs++gs).getD (fs.length+1-1) 0=fs.length:=by
 refine⟨[fs.length],A_ ?_,F,ns F⟩
 unfold gC
 rw[ay (by rw[h0];decide),ay (by rw[h1];decide),ay (by rw[h1];decide)]
theorem Ba {v s n:Nat} {fs ga:List Nat} {pa:List eE} {x:eE} (h:pa.foldl (mA v) (.ok fs)=.ok (fs++ga)) (hl:ga.length=n) (hn:1≤n) (hg:(fs++ga).getD (fs.length+n-1) 0=fs.length) (h0:fY v x=0) (h1:dQ x.op=1) (ha:x.a=((fs.length+n:Nat):Int)-1):
  ∃gs,(pa++[x]).foldl (mA v) (.ok fs)=.ok (fs++gs)∧gs.length=n+1∧(fs++gs).getD (fs.length+(n+1)-1) 0=fs.length:=by
 have hL:(fs++ga).length=fs.length+n:=by rw[aF,hl]
 refine⟨ga++[fs.length],?_,by simp[hl],?_⟩
 ·rw[cY,h,A_ (b:=fs.length),aI]
  unfold gC
  rw[ay (by rw[h0];decide),aR h1,ay (by rw[hL,ha];omega),hL,hg]
 ·rw[←aI];exact ns (by rw[hL];omega)
theorem E_ {v n m:Nat} {fs ga gb:List Nat} {pa pb:List eE} {x:eE} (h:pa.foldl (mA v) (.ok fs)=.ok (fs++ga)) (hl:ga.length=n) (hn:1≤n) (hg:(fs++ga).getD (fs.length+n-1) 0=fs.length)
  (h':pb.foldl (mA v) (.ok (fs++ga))=.ok (fs++ga++gb)) (Q_:gb.length=m) (hm:1≤m) (UU:(fs++ga++gb).getD ((fs++ga).length+m-1) 0=(fs++ga).length) (h0:fY v x=0) (h1:dQ x.op=2) (ha:x.a=((fs.length+n:Nat):Int)-1) (hb:x.b=((fs.length+n+m:Nat):Int)-1):
  ∃gs,(pa++(pb++[x])).foldl (mA v) (.ok fs)=.ok (fs++gs)∧gs.length=n+m+1∧(fs++gs).getD (fs.length+(n+m+1)-1) 0=fs.length:=by
 have hL:(fs++ga).length=fs.length+n:=by rw[aF,hl]
 have Iv:(fs++ga++gb).length=fs.length+n+m:=by rw[aF,hL,Q_]
 have hk:x.a.toNat=fs.length+n-1:=by rw[ha];omega
 refine⟨ga++gb++[fs.length],?_,by simp[hl,Q_];omega,?_⟩
 ·rw[cY,h,cY,h',A_ (b:=fs.length),aI,aI,aI]
  rw[hL]at UU
  unfold gC
  rw[ay (by rw[h0];decide),ay (by rw[h1];decide),aR h1,ay (by rw[Iv,UU,ha,hb];omega),hk,yP (by rw[hL];omega),hg]
 ·rw[←aI,←aI];exact ns (by rw[Iv];omega)
theorem jK {v:Nat}: ∀ {t:Rx} (_:t.GO v) (fs:List Nat),∃gs,(post t fs.length).foldl (mA v) (.ok fs)=.ok (fs++gs)∧gs.length=t.sz∧(fs++gs).getD (fs.length+t.sz-1) 0=fs.length
 | .none,_,fs=>ym (by simp[fY,dQ]) F
 | .empty,_,fs=>ym (by simp[fY,dQ]) F
 | .letter p n,h,fs=>ym h.1 F
 | .je a b,h,fs=>by
  obtain⟨ga,a1,a2,a3⟩:=jK h.1 fs
  obtain⟨gb,b1,b2,b3⟩:=jK h.2 (fs++ga)
  have e:fs.length+a.sz=(fs++ga).length:=by rw[aF,a2]
  exact E_ a1 a2 a.dN a3 (by rw[e];exact b1) b2 b.dN b3 (by simp[fY,dQ]) F F F
 | .jq a b,h,fs=>by
  obtain⟨ga,a1,a2,a3⟩:=jK h.1 fs
  obtain⟨gb,b1,b2,b3⟩:=jK h.2 (fs++ga)
  have e:fs.length+a.sz=(fs++ga).length:=by rw[aF,a2]
  exact E_ a1 a2 a.dN a3 (by rw[e];exact b1) b2 b.dN b3 (by simp[fY,dQ]) F F F
 | .and a b,h,fs=>by
  obtain⟨ga,a1,a2,a3⟩:=jK h.1 fs
  obtain⟨gb,b1,b2,b3⟩:=jK h.2 (fs++ga)
  have e:fs.length+a.sz=(fs++ga).length:=by rw[aF,a2]
  exact E_ a1 a2 a.dN a3 (by rw[e];exact b1) b2 b.dN b3 (by simp[fY,dQ]) F F F
 | .not a,h,fs=>by
  obtain⟨ga,a1,a2,a3⟩:=jK (t:=a) h fs
  exact Ba (s:=0) a1 a2 a.dN a3 (by simp[fY,dQ]) F F
 | .star a,h,fs=>by
  obtain⟨ga,a1,a2,a3⟩:=jK (t:=a) h fs
  exact Ba (s:=0) a1 a2 a.dN a3 (by simp[fY,dQ]) F F
 | .ahead a,h,fs=>by
  obtain⟨ga,a1,a2,a3⟩:=jK (t:=a) h fs
  exact Ba (s:=0) a1 a2 a.dN a3 (by simp[fY,dQ]) F F
 | .behind a,h,fs=>by
  obtain⟨ga,a1,a2,a3⟩:=jK (t:=a) h fs
  exact Ba (s:=0) a1 a2 a.dN a3 (by simp[fY,dQ]) F F
theorem TH {e:List eE}: ∀ {t:Rx} {i:Nat},sJ e t i→ ∀f,t.sz≤f→mh e f i true=t.wf∧mh e f i false=t.plain:=by
 intro t
 induction t with
 |none|empty=>
  intro i h f hf
  obtain⟨f,rfl⟩: ∃g,f=g+1:=⟨f-1,by simp only[Rx.sz]at hf;omega⟩
  obtain⟨hi,h1⟩:=List.getElem?_eq_some_iff.1 (show e[i]? =_ from h)
  rw[iC hi,iC hi,h1];simp[dQ,Rx.wf,Rx.plain]
 |letter p n=>
  intro i h f hf
  obtain⟨f,rfl⟩: ∃g,f=g+1:=⟨f-1,by simp only[Rx.sz]at hf;omega⟩
  obtain⟨hi,h1⟩:=List.getElem?_eq_some_iff.1 h.1
  rw[iC hi,iC hi,h1];simp[dQ,Rx.wf,Rx.plain]
 |je a b mJ uE|jq a b mJ uE|and a b mJ uE=>
  intro i h f hf
  obtain⟨f,rfl⟩: ∃g,f=g+1:=⟨f-1,by simp only[Rx.sz]at hf;omega⟩
  simp only[Rx.sz]at hf
  obtain⟨j,k,h,ha,hb⟩:=h
  obtain⟨hi,h1⟩:=List.getElem?_eq_some_iff.1 h
  obtain⟨a1,a2⟩:=mJ ha f (by omega)
  obtain⟨b1,b2⟩:=uE hb f (by omega)
  rw[iC hi,iC hi,h1];simp[dQ,Rx.wf,Rx.plain,a1,a2,b1,b2]
 |not a mJ|star a mJ|ahead a mJ|behind a mJ=>
  intro i h f hf
  obtain⟨f,rfl⟩: ∃g,f=g+1:=⟨f-1,by simp only[Rx.sz]at hf;omega⟩
  simp only[Rx.sz]at hf
  obtain⟨j,h,ha⟩:=h
  obtain⟨hi,h1⟩:=List.getElem?_eq_some_iff.1 h
  obtain⟨a1,a2⟩:=mJ ha f (by omega)
  rw[iC hi,iC hi,h1];simp[dQ,Rx.wf,Rx.plain,a1,a2]
theorem pA {v:Nat}: ∀ {t:Rx} (_:t.GO v) (s:Nat),∀x∈post t s,x.p<256∧x.n<256
 | .none,_,_| .empty,_,_=>fun x hx=>by rw[List.mem_singleton.1 hx];decide
 | .letter p n,h,_=>fun x hx=>by rw[List.mem_singleton.1 hx];exact h.2
 | .je a b,h,s| .jq a b,h,s| .and a b,h,s=>fun x hx=>by
  rcases List.mem_append.1 hx with hx|hx
  ·exact pA h.1 _ x hx
  ·rcases List.mem_append.1 hx with hx|hx
   ·exact pA h.2 _ x hx
   ·rw[List.mem_singleton.1 hx];exact⟨bw 255,bw 255⟩
 | .not a,h,s| .star a,h,s| .ahead a,h,s| .behind a,h,s=>fun x hx=>by
  rcases List.mem_append.1 hx with hx|hx
  ·exact pA (t:=a) h _ x hx
  ·rw[List.mem_singleton.1 hx];exact⟨bw 255,bw 255⟩
theorem Mh {vars:Int} {t:Rx} (h0:0≤vars) (h6:vars≤6) (hc:t.GO vars.toNat) (hw:t.wf=true) (hs:t.sz≤64):im vars (post t 0)=0∧uo (post t 0)=t:=by
 obtain⟨gs,g1,g2,g3⟩:=jK hc []
 have hp:=t.dN
 have hl:=fI t 0
 simp only[c8,cN,Nat.zero_add]at g1 g3
 have EM:sJ (post t 0) t (t.sz-1):=by have:=post_at hc [];simpa using this
 have hv:=(TH EM t.sz (a8 _)).1
 refine⟨?_,?_⟩
 ·unfold im
  rw[hl]
  have hb:jP vars.toNat (post t 0)=.ok gs:=g1
  rw[ay (by omega),ay (by omega),ay (by omega),hb]
  simp only
  rw[ay (by rw[g3];decide),aR (by rw[hv];exact hw)]
 ·unfold uo
  rw[hl]
  exact(j7 (v:=vars.toNat) g1 (pA hc 0) t.sz (t.sz-1) (by omega) (by omega)).XO EM
end Go.Lx

namespace Go.Lx
open Go.RowKit Go.Proofs.YtgdbfideeeegmaaGreatDoor
def wy (m:cM) (k:Nat):List Nat→Nat→Nat→Prop
 | [],s,t=>s=t
 |x::w,s,t=>match w with
  | []=>e7 m s x=t
  |_::_=>e7 m s x<k∧wy m k w (e7 m s x) t
theorem nr {m:cM} {k s t:Nat}:wy m k [] s t↔s=t:=by rw[wy]
theorem pw {m:cM} {k x s t:Nat}:wy m k [x] s t↔e7 m s x=t:=by rw[wy]
theorem j9 {m:cM} {k x y s t:Nat} {w:List Nat}:wy m k (x::y::w) s t↔e7 m s x<k∧wy m k (y::w) (e7 m s x) t:=by rw[wy]
theorem tT {m:cM} {k k':Nat} (h:k≤k'): ∀ {w:List Nat} {s t:Nat},wy m k w s t→wy m k' w s t
 | [],_,_,h1=>nr.2 (nr.1 h1)
 | [x],_,_,h1=>pw.2 (pw.1 h1)
 |x::y::w,_,_,h1=>j9.2 ⟨eA (j9.1 h1).1 h,tT h (j9.1 h1).2⟩
theorem A8 {m:cM} {k r:Nat} (hr:r<k) {v:List Nat} {t:Nat} (hv:wy m k v r t): ∀ {u:List Nat} {s:Nat},wy m k u s r→wy m k (u++v) s t
 | [],s,h=>by rw[nr.1 h];exact hv
 | [x],s,h=>by
  have h1:=pw.1 h
  cases v with
  |nil=>exact pw.2 (h1.trans (nr.1 hv))
  |cons y v=>exact j9.2 ⟨by rw[h1];exact hr,by rw[h1];exact hv⟩
 |x::y::u,s,h=>j9.2 ⟨(j9.1 h).1,A8 hr hv (j9.1 h).2⟩
theorem yj {m:cM} {k:Nat}: ∀ {w:List Nat} {s t:Nat},wy m (k+1) w s t→wy m k w s t∨ ∃u v,w=u++v∧u≠ []∧wy m k u s k∧wy m (k+1) v k t
 | [],s,t,h=>.inl (nr.2 (nr.1 h))
 | [x],s,t,h=>.inl (pw.2 (pw.1 h))
 |x::y::w,s,t,h=>by
  obtain⟨h1,h2⟩:=j9.1 h
  by_cases hk:e7 m s x=k
  ·exact .inr ⟨[x],y::w,F,by simp,pw.2 hk,by rw[hk]at h2;exact h2⟩
  ·rcases yj h2 with h3|⟨u,v,e,hu,h3,h4⟩
   ·exact .inl (j9.2 ⟨by omega,h3⟩)
   ·refine .inr ⟨x::u,v,by rw[e];rfl,by simp,?_,h4⟩
    cases u with
    |nil=>exact absurd F hu
    |cons z u=>exact j9.2 ⟨by omega,h3⟩
theorem jn.left {V:Int} {u w:List Nat} (h:jn V (u++w)):jn V u:=fun x hx=>h x (aQ _ hx)
theorem jn.right {V:Int} {u w:List Nat} (h:jn V (u++w)):jn V w:=fun x hx=>h x (am _ hx)
theorem GN {V:Int} {m:cM} {k:Nat} {p:Lg} (hp: ∀w,jn V w→(p w=true↔wy m k w k k)): ∀(n:Nat) {v:List Nat} {t:Nat},jn V v→v.length≤n→wy m (k+1) v k t→ ∃x y,v=x++y∧iD p x∧wy m k y k t
 |0,v,t,hV,hn,h=>by
  have:v=[]:=List.length_eq_zero_iff.1 (by omega)
  subst this
  exact⟨[],[],F,.nil,nr.2 (nr.1 h)⟩
 |n+1,v,t,hV,hn,h=>by
  rcases yj h with h1|⟨u,w,e,hu,h3,h4⟩
  ·exact⟨[],v,F,.nil,h1⟩
  ·have hl:0<u.length:=List.length_pos_iff.2 hu
   have hw:w.length≤n:=by have:=ax List.length e;rw[aF]at this;omega
   subst e
   obtain⟨x,y,e2,h5,h6⟩:=GN hp n hV.right hw h4
   exact⟨u++x,y,by rw[e2,aI],.oM ((hp u hV.left).2 h3) h5,h6⟩
theorem OS {V:Int} {m:cM} {k:Nat} {p:Lg} (hp: ∀w,jn V w→(p w=true↔wy m k w k k)) {x:List Nat} (h:iD p x):jn V x→wy m (k+1) x k k:=by
 induction h with
 |nil=>exact fun _=>nr.2 F
 |oM h1 _ ih=>exact fun hV=>A8 (Nat.lt_succ_self k) (ih hV.right) (tT (Nat.le_succ k) ((hp _ hV.left).1 h1))
theorem OT {V:Int} {m:cM} {k s t:Nat} {p q r z:Lg} (h1: ∀w,jn V w→(p w=true↔wy m k w s t)) (h2: ∀w,jn V w→(q w=true↔wy m k w s k)) (h3: ∀w,jn V w→(r w=true↔wy m k w k k)) (h4: ∀w,jn V w→(z w=true↔wy m k w k t)) {w:List Nat} (hV:jn V w):
  (p w||jS (jS q (oA r)) z w)=true↔wy m (k+1) w s t:=by
 rw[Bool.or_eq_true,h1 w hV,gT]
 constructor
 ·rintro(h|⟨a,b,rfl,ha,hb⟩)
  ·exact tT (Nat.le_succ k) h
  ·rw[gT]at ha
   obtain⟨c,d,rfl,hc,hd⟩:=ha
   rw[mE]at hd
   have:=OS h3 hd hV.left.right
   have hz:=(h4 _ hV.right).1 hb
   have hq:=(h2 _ hV.left.left).1 hc
   rw[aI]
   exact A8 (Nat.lt_succ_self k) (A8 (Nat.lt_succ_self k) (tT (Nat.le_succ k) hz) this) (tT (Nat.le_succ k) hq)
 ·intro h
  rcases yj h with h5|⟨u,v,e,_,h6,h7⟩
  ·exact .inl h5
  ·subst e
   obtain⟨x,y,e2,h8,h9⟩:=GN h3 _ hV.right (a8 _) h7
   subst e2
   refine .inr ⟨u++x,y,by rw[aI],?_,(h4 _ hV.right.right).2 h9⟩
   rw[gT]
   exact⟨u,x,F,(h2 _ hV.left).2 h6,mE.2 h8⟩
theorem L9 {m:cM} {n:Nat} (hn: ∀s x,s<n→e7 m s x<n): ∀ {w:List Nat} {s t:Nat},s<n→(wy m n w s t↔runN m s w=t)
 | [],s,t,hs=>nr
 | [x],s,t,hs=>pw
 |x::y::w,s,t,hs=>by
  rw[j9,L9 hn (hn s x hs)]
  exact⟨fun h=>h.2,fun h=>⟨hn s x hs,h⟩⟩
end Go.Lx

namespace Go.Lx
open Go.RowKit Go.Proofs.YtgdbfideeeegmaaGreatDoor
theorem OU (t:Rx) (s:Nat):post t s≠ []:=fun h=>by
 have:=fI t s
 rw[h]at this
 have:=t.dN
 simp at*
 omega
theorem pz: ∀ {t:Rx} (_:t.plain=true) (r s:Nat),(post t r).map (ep s)=post t (r+s)
 | .none,_,_,_| .empty,_,_,_=>by simp[post,ep]
 | .letter p n,_,_,_=>by simp[post,ep]
 | .je a b,h,r,s| .jq a b,h,r,s| .and a b,h,r,s=>by
  simp only[Rx.plain,aM]at h
  simp only[post,bo,cD,fz]
  rw[pz h.1,pz h.2,show r+a.sz+s=r+s+a.sz by omega]
  congr 3
  simp only[ep]
  simp
  omega
 | .not a,h,r,s| .star a,h,r,s=>by
  simp only[Rx.plain]at h
  simp only[post,bo,cD,fz]
  rw[pz h]
  congr 2
  simp only[ep]
  simp
  omega
 | .ahead a,h,_,_| .behind a,h,_,_=>absurd h (by simp[Rx.plain])
theorem L_ {v:Nat} {t u:Rx} (ht:t.GO v) (hu:u.GO v) (h:post t 0=post u 0):t=u:=by
 have h1:=post_at ht []
 have h2:=post_at hu []
 have h3:t.sz=u.sz:=by rw[←fI t 0,←fI u 0,h]
 simp only[c8,cN,Nat.zero_add]at h1 h2
 rw[h,h3]at h1
 exact h1.XO h2
def oR (v:Nat) (a:PP) (p:Lg):Prop:=
 (a.1=3∧a.2=[])∨(a.1≠3∧ ∃t:Rx,a.2=post t 0∧t.plain=true∧t.GO v∧(∀w,jn (v:Int) w→gj t w=p w)∧(a.1=1→ ∀w,jn (v:Int) w→p w=false)∧(a.1=2→ ∀w,jn (v:Int) w→p w=decide (w=[])))
theorem oR.to {v:Nat} {a:PP} {p q:Lg} (h:oR v a p) (hq: ∀w,jn (v:Int) w→p w=q w):oR v a q:=
 h.imp id fun⟨h3,t,h4,h5,h6,h7,h8,h9⟩=>⟨h3,t,h4,h5,h6,fun w hw=>(h7 w hw).trans (hq w hw),fun h w hw=>(hq w hw).symm.trans (h8 h w hw),fun h w hw=>(hq w hw).symm.trans (h9 h w hw)⟩
theorem oR.end {v op:Nat} {out:List eE} {p:Lg} {t:Rx} (ho:out=post t 0) (h1:t.plain=true) (h2:t.GO v) (h3: ∀w,jn (v:Int) w→gj t w=p w):oR v (BQ op out) p:=by
 unfold BQ
 split
 ·exact .inl ⟨F,F⟩
 ·exact .inr ⟨by simp,t,ho,h1,h2,h3,fun h=>absurd h (by simp),fun h=>absurd h (by simp)⟩
theorem oR.Hq {v:Nat} {p:Lg}:oR v (3,[]) p:=.inl ⟨F,F⟩
theorem oR.two {v op:Nat} {a b:PP} {p q z:Lg} {aa:Rx→Rx→Rx} (ha:oR v a p) (hb:oR v b q) (hF: ∀t u,post (aa t u) 0=post t 0++(post u (0+t.sz)++[⟨op,0,0,((0+t.sz:Nat):Int)-1,((0+t.sz+u.sz:Nat):Int)-1⟩]))
  (h1: ∀t u,t.plain=true→u.plain=true→(aa t u).plain=true) (h2: ∀t u,t.GO v→u.GO v→(aa t u).GO v) (h3: ∀t u w,jn (v:Int) w→(∀w,jn (v:Int) w→gj t w=p w)→(∀w,jn (v:Int) w→gj u w=q w)→gj (aa t u) w=z w):oR v (mT op a b) z:=by
 unfold mT
 split
 ·exact .Hq
 ·rename_i hn
  rcases ha with ha|⟨_,t,t1,t2,t3,t4,_⟩
  ·exact absurd (.inl ha.1) hn
  rcases hb with hb|⟨_,u,u1,u2,u3,u4,_⟩
  ·exact absurd (.inr hb.1) hn
  refine oR.end (t:=aa t u) ?_ (h1 _ _ t2 u2) (h2 _ _ t3 u3) fun w hw=>h3 _ _ w hw t4 u4
  rw[hF,t1,u1,pz u2,fI,fI,aI,Nat.zero_add]
theorem oR.jq {v:Nat} {a b:PP} {p q:Lg} (ha:oR v a p) (hb:oR v b q):oR v (xg a b) (fun w=>p w||q w):=by
 unfold xg
 split
 ·rename_i h1
  rcases ha with ha|⟨_,t,t1,t2,t3,t4,t5,t6⟩
  ·exact absurd (ha.1.symm.trans h1) (by decide)
  ·exact hb.to fun w hw=>by rw[t5 h1 w hw];rfl
 ·rename_i h1
  split
  ·rename_i h2
   rcases ha with ha|⟨h3,t,t1,t2,t3,t4,t5,t6⟩
   ·exact .inl ha
   ·refine oR.to (p:=p) (.inr ⟨h3,t,t1,t2,t3,t4,t5,t6⟩) fun w hw=>?_
    rcases hb with hb|⟨_,u,u1,u2,u3,u4,u5,u6⟩
    ·rcases h2 with h2|h2
     ·exact absurd (hb.1.symm.trans h2) (by decide)
     ·rw[hb.2,t1]at h2;exact absurd h2.2 (OU _ _)
    ·rcases h2 with h2|h2
     ·rw[u5 h2 w hw,Bool.or_false]
     ·rw[t1,u1]at h2
      have:=L_ t3 u3 h2.2
      subst this
      rw[←t4 w hw,←u4 w hw,Bool.or_self]
  ·exact oR.two (aa:=Rx.jq) ha hb (fun _ _=>rfl) (fun t u h1 h2=>by simp[Rx.plain,h1,h2]) (fun t u h1 h2=>⟨h1,h2⟩) fun t u w hw h1 h2=>by show(gj t w||gj u w)=_;rw[h1 w hw,h2 w hw]
theorem Ma {v:Nat} {p q:Lg} (h: ∀w,jn (v:Int) w→p w=false) {w:List Nat} (hw:jn (v:Int) w):jS p q w=false:=by
 rw[Bool.eq_false_iff]
 intro hc
 obtain⟨x,y,rfl,h1,_⟩:=gT.1 hc
 rw[h x (fun z hz=>hw z (aQ _ hz))]at h1;cases h1
theorem Im {v:Nat} {p q:Lg} (h: ∀w,jn (v:Int) w→q w=false) {w:List Nat} (hw:jn (v:Int) w):jS p q w=false:=by
 rw[Bool.eq_false_iff]
 intro hc
 obtain⟨x,y,rfl,_,h1⟩:=gT.1 hc
 rw[h y (fun z hz=>hw z (am _ hz))]at h1;cases h1
theorem OV {v:Nat} {p q:Lg} (h: ∀w,jn (v:Int) w→q w=decide (w=[])) {w:List Nat} (hw:jn (v:Int) w):jS p q w=p w:=by
 rw[eB,gT]
 constructor
 ·rintro⟨x,y,rfl,h1,h2⟩
  rw[h y (fun z hz=>hw z (am _ hz)),dm]at h2
  rw[h2,cT];exact h1
 ·intro h1
  exact⟨w,[],(cT w).symm,h1,by rw[h [] (fun z hz=>by simp at hz)];rfl⟩
theorem Mb {v:Nat} {p q:Lg} (h: ∀w,jn (v:Int) w→p w=decide (w=[])) {w:List Nat} (hw:jn (v:Int) w):jS p q w=q w:=by
 rw[eB,gT]
 constructor
 ·rintro⟨x,y,rfl,h2,h1⟩
  rw[h x (fun z hz=>hw z (aQ _ hz)),dm]at h2
  rw[h2,c8];exact h1
 ·intro h1
  exact⟨[],w,F,by rw[h [] (fun z hz=>by simp at hz)];rfl,h1⟩
theorem oR.je {v:Nat} {a b:PP} {p q:Lg} (ha:oR v a p) (hb:oR v b q):oR v (yD a b) (jS p q):=by
 unfold yD
 split
 ·rename_i h1
  rcases ha with ha|⟨h3,t,t1,t2,t3,t4,t5,t6⟩
  ·exact .inl ha
  ·refine oR.to (p:=p) (.inr ⟨h3,t,t1,t2,t3,t4,t5,t6⟩) fun w hw=>?_
   rcases h1 with h1|h1
   ·rw[t5 h1 w hw,Ma (t5 h1) hw]
   ·rcases hb with hb|⟨_,u,u1,u2,u3,u4,u5,u6⟩
    ·exact absurd (hb.1.symm.trans h1) (by decide)
    ·exact(OV (u6 h1) hw).symm
 ·split
  ·rename_i h2
   rcases hb with hb|⟨h3,t,t1,t2,t3,t4,t5,t6⟩
   ·exact .inl hb
   ·refine oR.to (p:=q) (.inr ⟨h3,t,t1,t2,t3,t4,t5,t6⟩) fun w hw=>?_
    rcases h2 with h1|h1
    ·rw[t5 h1 w hw,Im (t5 h1) hw]
    ·rcases ha with ha|⟨_,u,u1,u2,u3,u4,u5,u6⟩
     ·exact absurd (ha.1.symm.trans h1) (by decide)
     ·exact(Mb (u6 h1) hw).symm
  ·exact oR.two (aa:=Rx.je) ha hb (fun _ _=>rfl) (fun t u h1 h2=>by simp[Rx.plain,h1,h2]) (fun t u h1 h2=>⟨h1,h2⟩) fun t u w hw h1 h2=>nh h1 h2 hw
theorem Me {v:Nat} {p:Lg} (h: ∀w,jn (v:Int) w→p w=true→w=[]) {w:List Nat} (hw:jn (v:Int) w):oA p w=decide (w=[]):=by
 rw[eB,mE,dm]
 constructor
 ·intro hs
  induction hs with
  |nil=>rfl
  |oM h1 _ ih=>
   rw[h _ (fun z hz=>hw z (aQ _ hz)) h1,ih (fun z hz=>hw z (am _ hz))];rfl
 ·rintro rfl;exact .nil
theorem TA (w:List Nat):gj .empty w=decide (w=[]):=by
 show Cx 0 _ w=_
 unfold Cx
 cases w with
 |nil=>rfl
 |cons x w=>simp
theorem oR.mq {v:Nat} {p:Lg} (h: ∀w,jn (v:Int) w→p w=decide (w=[])):oR v Y7 p:=
 .inr ⟨by decide,.empty,F,F,trivial,fun w hw=>(TA w).trans (h w hw).symm,fun h=>absurd h (by decide),fun _=>h⟩
theorem Do {v:Nat} {p:Lg} (h: ∀w,jn (v:Int) w→p w=false):oR v X7 p:=
 .inr ⟨by decide,.none,F,F,trivial,fun w hw=>(h w hw).symm,fun _=>h,fun h=>absurd h (by decide)⟩
theorem oR.star {v:Nat} {a:PP} {p:Lg} (ha:oR v a p):oR v (u7 a) (oA p):=by
 unfold u7
 split
 ·rename_i h1
  rcases ha with ha|⟨h3,t,t1,t2,t3,t4,t5,t6⟩
  ·rcases h1 with h1|h1<;>exact absurd (ha.1.symm.trans h1) (by decide)
  ·refine oR.mq fun w hw=>Me (v:=v) (fun u hu hp=>?_) hw
   rcases h1 with h1|h1
   ·rw[t5 h1 u hu]at hp;cases hp
   ·rw[t6 h1 u hu]at hp;exact of_decide_eq_true hp
 ·unfold pE
  split
  ·exact .Hq
  ·rename_i hn
   rcases ha with ha|⟨h3,t,t1,t2,t3,t4,t5,t6⟩
   ·exact absurd ha.1 hn
   ·refine oR.end (t:=.star t) ?_ t2 t3 fun w hw=>qC t4 hw
    rw[t1,fI]
    simp[post]
theorem TB: ∀v,v<7→ ∀x,x<2^v→oy v x (2^v-1-x)=0∧ ∀y,y<2^v→gm x (2^v-1-x) y=decide (y=x):=by decide+kernel
theorem oR.le {v x:Nat} (hv:v<7) (hx:x<2^v):oR v (T2 (2^v) x) (fun w=>decide (w=[x])):=by
 obtain⟨h1,h2⟩:=TB v hv x hx
 have h64:2^v≤64:=bO (by decide) (show v≤6 by omega)
 refine .inr ⟨by simp[T2],.letter x (2^v-1-x),F,F,⟨?_,by omega,by omega⟩,fun w hw=>?_,fun h=>absurd h (by simp[T2]),fun h=>absurd h (by simp[T2])⟩
 ·unfold fY
  rw[ay (by simp),ay (by simp[dQ]),aR F]
  exact h1
 ·show Cx 1 _ w=_
  unfold Cx
  match w,hw with
  | [],_=>rfl
  | [y],hw=>
   have hy:y<2^v:=by have:=hw y (List.mem_singleton.2 F);simpa using this
   simp[h2 y hy]
  |y::z::w,_=>simp
theorem Mf {m:cM} {v:Nat} (hv:v<7) (hL:dT m=2^v) (s t:Nat): ∀x,x≤2^v→oR v (DB m s t x) (fun w=>(decide (s=t)&&decide (w=[]))||(List.range x).any fun y=>decide (e7 m s y=t)&&decide (w=[y]))
 |0,_=>by
  unfold DB
  split
  ·rename_i h;exact oR.mq fun w _=>by simp[h]
  ·rename_i h;exact Do fun w _=>by simp[h]
 |x+1,hx=>by
  have ih:=Mf hv hL s t x (by omega)
  unfold DB
  split
  ·rename_i h
   refine(ih.jq (by rw[hL];exact oR.le hv (by omega))).to fun w _=>?_
   rw[List.range_succ,List.any_append,Bool.or_assoc]
   simp[h]
  ·rename_i h
   refine ih.to fun w _=>?_
   rw[List.range_succ,List.any_append]
   simp[h]
theorem qU {m:cM} {v:Nat} (hv:v<7) (hL:dT m=2^v): ∀(k s t:Nat),∃p:Lg,oR v (kN m k s t) p∧ ∀w,jn (v:Int) w→(p w=true↔wy m k w s t)
 |0,s,t=>by
  refine⟨_,by unfold kN;rw[hL];exact Mf hv hL s t _ (a8 _),fun w hw=>?_⟩
  simp only[Bool.or_eq_true,aM,dm,dW,fj]
  match w,hw with
  | [],_=>rw[nr];simp
  | [x],hw=>
   have hx:x<2^v:=by have:=hw x (List.mem_singleton.2 F);simpa using this
   rw[pw]
   constructor
   ·rintro(⟨_,h⟩|⟨y,_,h1,h2⟩)
    ·cases h
    ·have:x=y:=by simpa using h2
     rw[this];exact h1
   ·intro h;exact .inr ⟨x,hx,h,F⟩
  |x::y::w,_=>
   rw[j9]
   constructor
   ·rintro(⟨_,h⟩|⟨y,_,h1,h2⟩)
    ·cases h
    ·simp at h2
   ·rintro⟨h,_⟩;omega
 |k+1,s,t=>by
  obtain⟨p,p1,p2⟩:=qU hv hL k s t
  obtain⟨q,q1,q2⟩:=qU hv hL k s k
  obtain⟨r,r1,r2⟩:=qU hv hL k k k
  obtain⟨z,z1,z2⟩:=qU hv hL k k t
  exact⟨_,p1.jq ((q1.je r1.star).je z1),fun w hw=>OT p2 q2 r2 z2 hw⟩
theorem GP {m:cM} {v:Nat} (hv:v<7) (hL:dT m=2^v) (hn: ∀s x,s<m.next.length→e7 m s x<m.next.length) (h0:0<m.next.length): ∀t,t≤m.next.length→ ∃p:Lg,oR v (vL m t) p∧ ∀w,jn (v:Int) w→(p w=true↔runN m 0 w<t∧dD m (runN m 0 w)=true)
 |0,_=>⟨fun _=>false,Do fun _ _=>rfl,fun w _=>by simp⟩
 |t+1,ht=>by
  obtain⟨p,p1,p2⟩:=GP hv hL hn h0 t (by omega)
  unfold vL
  split
  ·rename_i hf
   obtain⟨q,q1,q2⟩:=qU hv hL m.next.length 0 t
   refine⟨_,p1.jq q1,fun w hw=>?_⟩
   rw[Bool.or_eq_true,p2 w hw,q2 w hw,L9 hn h0]
   constructor
   ·rintro(⟨h1,h2⟩|h1)
    ·exact⟨by omega,h2⟩
    ·exact⟨by omega,by rw[h1];exact hf⟩
   ·rintro⟨h1,h2⟩
    by_cases h3:runN m 0 w=t
    ·exact .inr h3
    ·exact .inl ⟨by omega,h2⟩
  ·rename_i hf
   refine⟨p,p1,fun w hw=>?_⟩
   rw[p2 w hw]
   constructor
   ·rintro⟨h1,h2⟩;exact⟨by omega,h2⟩
   ·rintro⟨h1,h2⟩
    refine⟨?_,h2⟩
    by_cases h3:runN m 0 w=t
    ·rw[h3]at h2;exact absurd h2 hf
    ·omega
end Go.Lx

namespace Go.Lx
open Go.RowKit Go.Proofs.YtgdbfideeeegmaaGreatDoor
theorem oL: ∀ {t:Rx} (_:t.plain=true) (s:Nat),(post t s).any h_=false
 | .none,_,_| .empty,_,_| .letter _ _,_,_=>by simp[post,h_]
 | .je a b,h,s| .jq a b,h,s| .and a b,h,s=>by
  simp only[Rx.plain,aM]at h
  simp[post,List.any_append,oL h.1,oL h.2,h_]
 | .not a,h,s| .star a,h,s=>by
  simp only[Rx.plain]at h
  simp[post,List.any_append,oL h,h_]
 | .ahead a,h,_| .behind a,h,_=>absurd h (by simp[Rx.plain])
theorem yk: ∀ {t:Rx},t.plain=true→t.wf=true
 | .none,_| .empty,_| .letter _ _,_=>rfl
 | .je a b,h| .jq a b,h=>by
  simp only[Rx.plain,aM]at h
  simp[Rx.wf,yk h.1,yk h.2]
 | .and a b,h=>h
 | .not a,h| .star a,h=>h
 | .ahead a,h| .behind a,h=>absurd h (by simp[Rx.plain])
theorem Mg {m:cM} {vars:Int} (h0:0≤vars) (h6:vars≤6) (hL:dT m=2^vars.toNat) (hn: ∀s x,s<m.next.length→e7 m s x<m.next.length) (DX:0<m.next.length) (Ah: ∀w,jn vars w→runN m 0 w<m.next.length) (h3:(nv m).1≠3):
  im vars (nv m).2=0∧(uo (nv m).2).plain=true∧((nv m).2).any h_=false∧ ∀w,jn vars w→mY vars.toNat (nv m).2 w=dD m (runN m 0 w):=by
 obtain⟨p,p1,p2⟩:=GP (v:=vars.toNat) (by omega) hL hn DX m.next.length (a8 _)
 have hg:=lB (m:=m) (by rw[hL];exact bE (bO (by decide) (show vars.toNat≤6 by omega)) (by decide)) m.next.length
 rcases p1 with p1|⟨_,t,t1,t2,t3,t4,_⟩
 ·exact absurd p1.1 h3
 ·have t1':(nv m).2=post t 0:=t1
  have hs:t.sz≤64:=by rw[←fI t 0,←t1'];exact hg.len
  obtain⟨c1,c2⟩:=Mh h0 h6 t3 (yk t2) hs
  rw[t1']
  refine⟨c1,by rw[c2];exact t2,oL t2 0,fun w hw=>?_⟩
  have Fk:jn ((vars.toNat:Nat):Int) w:=by rw[dn h0];exact hw
  unfold mY
  rw[ay (by rw[oL t2 0];decide),c2,t4 w Fk,eB,p2 w Fk]
  exact⟨fun h=>h.2,fun h=>⟨Ah w hw,h⟩⟩
theorem TC {m:cM} (hv:Val m) (s x:Nat) (hs:s<m.next.length):e7 m s x<m.next.length:=by
 have e:m.next.getD s []=m.next[s]:=by rw[aw,ap hs];rfl
 unfold e7
 rw[e,aw]
 by_cases hx:x<(m.next[s]).length
 ·rw[ap hx]
  have:=hv.ok _ (aL hs) _ (aL hx)
  show(m.next[s][x]).toNat<_
  omega
 ·rw[bQ (by omega)]
  exact hv.n0
theorem OW {d:cM} (hv:Valid d) (h3:(nv (fJ d)).1≠3):im d.vars (nv (fJ d)).2=0∧(uo (nv (fJ d)).2).plain=true∧((nv (fJ d)).2).any h_=false∧
  ∀ {k:cM} {B:Nat},gf d.vars B k (mY d.vars.toNat (nv (fJ d)).2)→k=fJ d:=by
 have hm:=(HasL.of hv (a8 _)).nX
 have hV:(fJ d).vars=d.vars:=hm.vars
 have hM:=hm.valid
 have hs:(fJ d).start.toNat=0:=rfl
 have Ah: ∀w,jn d.vars w→runN (fJ d) 0 w<(fJ d).next.length:=fun w hw=>by
  have:=kG hM.toVal (ez hM.toVal) w (hm.wd.2 hw)
  rwa[hs]at this
 obtain⟨c1,c2,c3,c4⟩:=Mg (m:=fJ d) (vars:=d.vars) hv.v0 hv.v6 (by unfold dT;rw[hV]) (TC hM.toVal) hM.n0 Ah h3
 refine⟨c1,c2,c3,fun {k B} hk=>hk.ext hm fun w hw=>?_⟩
 rw[c4 w hw,←hm.iI w hw]
 unfold Lx.iI
 rw[hs]
end Go.Lx

namespace Go.Lx
open Go.RowKit Go.Proofs.YtgdbfideeeegmaaGreatDoor
def Ch (S:List UInt8) (i c:Nat):Prop:=S[i]?.map UInt8.toNat=some c
theorem Ch.lt {S:List UInt8} {i c:Nat} (h:Ch S i c):i<S.length:=by
 unfold Ch at h
 rcases Nat.lt_or_ge i S.length with e|e
 ·exact e
 ·rw[bQ e]at h;cases h
section
variable {P:Program} {base:World} {ρ:Env} {O:List Item} {dst:Option Nat} {t:TypeId} {p:String} {af:Array Edge} {g:Option (Nat×Bool)}
theorem Vd {x y:Operand} {T:TypeId} {S:List UInt8} {i c:Nat} (hu:P.underlying T=some .string) (hx:ev ρ x=str S) (hy:ev ρ y=.int .i64 (i:Int)) (h:Ch S i c):QT P base ⟨dst,.index T x y,t,p,af,g⟩ ρ O (.int .u8 (c:Int)):=fun w _=>by
 obtain⟨b,hb,rfl⟩:=Option.map_eq_some_iff.1 h
 have DW:(ByteArray.mk S.toArray)[i]? =some b:=by
  have hl:=h.lt
  rw[show(ByteArray.mk S.toArray)[i]? =some ((ByteArray.mk S.toArray)[i]'hl)from dif_pos hl]
  rw[ap hl]at hb
  exact hb
 have I2:ev ρ x=.string ⟨S.toArray⟩:=hx
 simp[execOp,I2,hy,Instr.index,asIntOf,bH hu,DW]
end
end Go.Lx

namespace Go.Proofs.YtgdbfideeeegmaaGreatDoor
open Go.Lx Go.RowKit _root_.Go.Proofs.Tryz
theorem s_ (base:World) [dB Tryz.prog base] (rb:Nat) (S:List UInt8) (qo:S.length≤4096) (ia c n lc:Nat) (lb:Option Addr) (h:Ch S ia c):
  cd Tryz.prog base 132 [(.pointer (aD rb))] [oI rb 149 [(str S),vN ia,(.slice lb n lc),vI 0]] (fun v O'=>v=v8 c∧O'=[oI rb 149 [(str S),vN ia,(.slice lb n lc),vI 0]]):=by
 refine aG func132 F ntmps132 F ?_
 have gn:=h.lt
 refine ai (aj F (ae (aO (ai (ah F (ad (bf F) (ad (bj fV F iV F F) (ad (bn 0 ow F F F F) (ad (aA (dP F F) (ak (by decide))) (ae (a_ F (aE (aO (aO ?_))))))))))))))
 refine fQ [(0,0),(1,0),(2,0),(3,0),(4,0),(5,0),(6,0),(7,0),(8,0),(9,0)] ?_
 refine au F (aK F) (au F (bf F) (au F (bj fV F bl F F) (au F (bn 0 dS F F F F) (au F (aK F) (au F (bf F) (au F (bj fV F Ea F F) (au F (bn 0 vg F F F F) (au F (w0 vg F) (au F (aA (bM F F) (ak (by omega))) ?_)))))))))
 refine cy ?_
 refine a_ F (aE (aO ?_))
 refine fQ [(0,0),(1,0),(2,0),(3,0),(4,0),(5,0),(6,0),(7,0),(8,0),(9,0)] ?_
 refine au F (aK F) (au F (bf F) (au F (bj fV F Ea F F) (au F (bn 0 vg F F F F) (au F (aK F) (au F (bf F) (au F (bj fV F bl F F) (au F (bn 0 dS F F F F) (au F (Vd (i:=ia) vg F F h) (au F (cq F) ?_)))))))))
 refine cy ?_
 refine aN ?_
 refine aT (v8 c) Tryz.results132 F ?_
 exact⟨F,F⟩
theorem Nk (base:World) [dB Tryz.prog base] (rb:Nat) (S:List UInt8) (qo:S.length≤4096) (ia c n lc:Nat) (lb:Option Addr) (h:Ch S ia c):
  cd Tryz.prog base 189 [(.pointer (aD rb)),v8 c] [oI rb 149 [(str S),vN ia,(.slice lb n lc),vI 0]] (fun v O'=>v=.tuple #[]∧O'=[oI rb 149 [(str S),vN (ia+1),(.slice lb n lc),vI 0]]):=by
 refine aG func189 F ntmps189 F ?_
 have gn:=h.lt
 refine ai (ah F ?_)
 have Jy:=(cd.under (A:=[oI rb 149 [(str S),vN ia,(.slice lb n lc),vI 0]]) (B:=[]) (O:=[oI rb 149 [(str S),vN ia,(.slice lb n lc),vI 0]]) (s_ base rb S qo ia c n lc lb h) (by exact Sub.rf))
 refine ao F (bm kP Jy F ?_)
 clear Jy
 rintro vr O' ⟨A9,rfl,rfl,rfl⟩
 refine aj F (ae (aO (ai (ah F (ad (bf F) (ad (bj fV F iV F F) (ad (bn 0 ow F F F F) (ad (aA (bM F F) (av (by decide))) (ah F (aB F F (aK F) (aB F F (aK F) (aB F F (aA (dP F F) (ak (by omega))) (ad (cg F F) ?_)))))))))))))
 refine ae (a_ F (aE (ai (ah F (ad (bf F) (ad (bj fV F iV F F) (ad (bn 0 ow F F F F) (ad (aA (bM F F) (av (by decide))) (ae ?_)))))))))
 refine bW F ?_
 refine be (ah F (ad (bf F) (ad (bj fV F bl F F) (ad (bn 0 dS F F F F) (ad (dx (a:=ia) (b:=1) F F (by omega)) (ad (bf F) (ad (bj fV F bl F F) (ao F (bV (vs:=[(vN (ia+1))]) 0 bl F F F F ?_)))))))))
 refine ae ?_
 refine ru.zero Tryz.results189 ?_
 exact⟨F,F⟩
theorem FA (base:World) [dB Tryz.prog base] (rb:Nat) (S:List UInt8) (ia lc:Nat) (lb:Option Addr) (l:List eE) (x:eE) (hl:l.length≤1000):
  cd Tryz.prog base 133 [(.pointer (aD rb)),x.ag] [oI rb 149 [(str S),vN ia,(.slice lb l.length lc),vI 0],aq lb lc 72 5 (bX l)] (fun v O'=> ∃tX tY,v=vN l.length∧O'=[oI rb 149 [(str S),vN ia,(.slice tX ((l++[x]).length) tY),vI 0],aq tX tY 72 5 (bX (l++[x]))]):=by
 refine aG func133 F ntmps133 F ?_
 refine ai (ao F (dE (cs:=x.cl) F F (fun z1=>?_)))
 refine aj F (ae (aO ?_))
 refine T.ds [oI z1 72 x.cl,oI rb 149 [(str S),vN ia,(.slice lb l.length lc),vI 0]] [(0,0),(1,0),(2,0),(3,0),(4,0),(5,0),(6,1),(7,1),(8,0),(9,0),(10,2)] (by exact Sub.k (.k .z)) ?_
 refine au F (aK F) (au F (aK F) (au F (bf F) (au F (bj fV F g_ F F) (au F (bn 1 dJ F F F F) (au F (ew 0 cp F cK F F F) ?_)))))
 refine cx F F (cH (m:=1) (parts:=[(0,_)]) (cs:=x.cl) dJ cK (by decide) (by kernel_rfl) F (fun z2=>⟨by exact Sub.d (.k (.k .z)),?_⟩))
 refine cx F F (dh 3 dJ dJ cK F F F F (by rw[cz]) (by decide) (Src.row (j:=0) F (by simp)) (by simp[fu]) (by omega) (by decide) (by decide) (fun z3 nU=>⟨by exact Sub.d (.k (.k .z)),?_⟩))
 refine au F (bf F) (au F (bj fV F g_ F F) ?_)
 refine cu F F (bV (vs:=[(.slice z3 (l.length+1) nU)]) 2 g_ F F F F ?_)
 refine cy ?_
 refine ai (ah F (ad (bf F) (ad (bj fV F g_ F F) (ad (bn 2 dJ F F F F) (ad (cP dJ F) (ad (sa (a:=(l.length+1)) (b:=1) F F (by omega) (by omega)) (aj F (ae (aN (az ?_))))))))))
 refine aT (vN ((l.length+1)-1)) Tryz.results133 F ?_
 exact⟨[oI rb 149 [(str S),vN ia,(.slice z3 (l.length+1) nU),vI 0],aq z3 nU 72 5 ((bX l)++x.cl)],(by exact Sub.d (.d (.k (.k .z)))),z3,nU,by simp,by rw[lA,aF];rfl⟩
theorem Ve (base:World) [dB Tryz.prog base] (rb:Nat) (S:List UInt8) (qo:S.length≤4096) (ia n lc:Nat) (lb:Option Addr) (h1:Ch S ia 42) (h2:Ch S (ia+1) 93):
  cd Tryz.prog base 134 [(.pointer (aD rb))] [oI rb 149 [(str S),vN ia,(.slice lb n lc),vI 0]] (fun v O'=>v=.agg #[v8 0,v8 0]∧O'=[oI rb 149 [(str S),vN (ia+1+1),(.slice lb n lc),vI 0]]):=by
 refine aG func134 F ntmps134 F ?_
 have gn:=h1.lt;have lC:=h2.lt
 refine ai (ao F (bu gi F (fun z1=>?_)))
 refine ae (ai (ad (cF jh gi F) (ao F (bu gi F (fun z2=>?_)))))
 refine ao F (bV (vs:=[(.int .u8 0),(.int .u8 0)]) 0 gi F F F F ?_)
 refine aj F (ae (aO (ai (ah F ?_))))
 have vd:=(cd.under (A:=[oI rb 149 [(str S),vN ia,(.slice lb n lc),vI 0]]) (B:=[oI z2 129 [(.int .u8 0),(.int .u8 0)],oI z1 129 [(.int .u8 0),(.int .u8 0)]]) (O:=[oI z2 129 [(.int .u8 0),(.int .u8 0)],oI z1 129 [(.int .u8 0),(.int .u8 0)],oI rb 149 [(str S),vN ia,(.slice lb n lc),vI 0]]) (s_ base rb S qo ia 42 n lc lb h1) (by exact Sub.eQ [oI z2 129 [(.int .u8 0),(.int .u8 0)],oI z1 129 [(.int .u8 0),(.int .u8 0)]] _ (.k (.k .z))))
 refine ao F (bm kP vd F ?_)
 clear vd
 rintro vr O' ⟨A9,rfl,rfl,rfl⟩
 refine ad (aA (bM F F) (av (by decide))) (ae ?_)
 refine bW F ?_
 refine ai (ah F (ad (bf F) (ad (bj fV F bl F F) (ad (bn 0 dS F F F F) (ad (dx (a:=ia) (b:=1) F F (by omega)) (ad (bf F) (ad (bj fV F bl F F) (ao F (bV (vs:=[(vN (ia+1))]) 0 bl F F F F ?_)))))))))
 refine ae (ai (ah F ?_))
 have qp:=(cd.under (A:=[oI rb 149 [(str S),(vN (ia+1)),(.slice lb n lc),vI 0]]) (B:=[oI z2 129 [(.int .u8 0),(.int .u8 0)],oI z1 129 [(.int .u8 0),(.int .u8 0)]]) (O:=[oI rb 149 [(str S),(vN (ia+1)),(.slice lb n lc),vI 0],oI z2 129 [(.int .u8 0),(.int .u8 0)],oI z1 129 [(.int .u8 0),(.int .u8 0)]]) (Nk base rb S qo (ia+1) 93 n lc lb h2) (by exact Sub.rf))
 refine ao F (bm Av qp F ?_)
 clear qp
 rintro vr O' ⟨A9,rfl,rfl,rfl⟩
 refine ae (ai (ad (ew 1 kQ F gi F F F) (ao F (bV (vs:=[(.int .u8 0),(.int .u8 0)]) 2 gi F F F F ?_))))
 refine ae (aN (az ?_))
 refine cL (i:=2) Tryz.results134 kQ F gi F F F ?_
 exact⟨[oI rb 149 [(str S),vN (ia+1+1),(.slice lb n lc),vI 0]],(by exact Sub.k .z),F,F⟩
theorem Vf (base:World) [dB Tryz.prog base] (rb:Nat) (S:List UInt8) (qo:S.length≤4096) (ia k n lc:Nat) (lb:Option Addr) (hk:k<6) (h1:Ch S ia (97+k)) (h2:Ch S (ia+1) 93):
  cd Tryz.prog base 134 [(.pointer (aD rb))] [oI rb 149 [(str S),vN ia,(.slice lb n lc),vI 0]] (fun v O'=>v=.agg #[v8 (0|||1*2^k),v8 0]∧O'=[oI rb 149 [(str S),vN (ia+1+1),(.slice lb n lc),vI 0]]):=by
 refine aG func134 F ntmps134 F ?_
 have gn:=h1.lt;have lC:=h2.lt
 have hpk:2^k<256:=Nat.pow_lt_pow_right (a:=2) (by decide) (show k<8 by omega)
 refine ai (ao F (bu gi F (fun z1=>?_)))
 refine ae (ai (ad (cF jh gi F) (ao F (bu gi F (fun z2=>?_)))))
 refine ao F (bV (vs:=[(.int .u8 0),(.int .u8 0)]) 0 gi F F F F ?_)
 refine aj F (ae (aO (ai (ah F ?_))))
 have vd:=(cd.under (A:=[oI rb 149 [(str S),vN ia,(.slice lb n lc),vI 0]]) (B:=[oI z2 129 [(.int .u8 0),(.int .u8 0)],oI z1 129 [(.int .u8 0),(.int .u8 0)]]) (O:=[oI z2 129 [(.int .u8 0),(.int .u8 0)],oI z1 129 [(.int .u8 0),(.int .u8 0)],oI rb 149 [(str S),vN ia,(.slice lb n lc),vI 0]]) (s_ base rb S qo ia (97+k) n lc lb h1) (by exact Sub.eQ [oI z2 129 [(.int .u8 0),(.int .u8 0)],oI z1 129 [(.int .u8 0),(.int .u8 0)]] _ (.k (.k .z))))
 refine ao F (bm kP vd F ?_)
 clear vd
 rintro vr O' ⟨A9,rfl,rfl,rfl⟩
 refine ad (aA (bM F F) (ak (by omega))) (ae (a_ F (aE (aO (aU ?_)))))
 refine o9 3 (T.round ?_)
 refine aO (ai (ah F (ad (bf F) (ad (bj fV F iV F F) (ad (bn 0 ow F F F F) (ad (aA (bM F F) (av (by decide))) (ae ?_)))))))
 refine bW F ?_
 refine aE (aU (ai (ah F ?_)))
 have ta:=(cd.under (A:=[oI rb 149 [(str S),vN ia,(.slice lb n lc),vI 0]]) (B:=[oI z2 129 [(.int .u8 0),(.int .u8 0)],oI z1 129 [(.int .u8 0),(.int .u8 0)]]) (O:=[oI rb 149 [(str S),vN ia,(.slice lb n lc),vI 0],oI z2 129 [(.int .u8 0),(.int .u8 0)],oI z1 129 [(.int .u8 0),(.int .u8 0)]]) (s_ base rb S qo ia (97+k) n lc lb h1) (by exact Sub.rf))
 refine ao F (bm kP ta F ?_)
 clear ta
 rintro vr O' ⟨A9,rfl,rfl,rfl⟩
 refine ad (aA (bM F F) (ak (by omega))) (ah F (aS F F (aS F F (ad (b_ F F) (aj F (ae (aO (ai (ah F (ae (a_ F ?_)))))))))))
 refine aE (ai (ah F ?_))
 have xq:=(cd.under (A:=[oI rb 149 [(str S),vN ia,(.slice lb n lc),vI 0]]) (B:=[oI z2 129 [(.int .u8 0),(.int .u8 0)],oI z1 129 [(.int .u8 0),(.int .u8 0)]]) (O:=[oI rb 149 [(str S),vN ia,(.slice lb n lc),vI 0],oI z2 129 [(.int .u8 0),(.int .u8 0)],oI z1 129 [(.int .u8 0),(.int .u8 0)]]) (s_ base rb S qo ia (97+k) n lc lb h1) (by exact Sub.rf))
 refine ao F (bm kP xq F ?_)
 clear xq
 rintro vr O' ⟨A9,rfl,rfl,rfl⟩
 refine aj F (ae (aO (ai (ah F (ad (aA (bM F F) (ak (by omega))) (ah F (aS F F (aS F F (ad (b_ F F) (ah F (aS F F (aS F F ?_))))))))))))
 refine ad (b_ F F) (ae (a_ F (aE (aO (ai (ah F (ad (bf F) (ad (bj fV F iV F F) (ad (bn 0 ow F F F F) (ad (aA (bM F F) (av (by decide))) (ah F (aB F F (aK F) (aB F F (aA (cR F F) (ak (by omega))) ?_)))))))))))))
 refine aB F F (aK F) (aB F F (aK F) (aB F F (aA (gH F F) (ak (by omega))) (aB F F (b_ F F) (aB F F (aK F) (aB F F (aK F) (aB F F (bT (Jh (a:=(97+k)) (b:=97) .u8 F F (by show _<256;omega) (by omega)) (v':=v8 k) (ax (Value.int .u8) (by omega))) (aB F F (fS fF dS F (by first|rfl|exact gO ⟨by omega,by omega⟩|exact qg (by omega)|exact nA (by omega))) ?_)))))))
 refine aB F F (aK F) (aB F F (aA (I7 F F) (ak (by omega))) (aB F F (b_ F F) (ad (cg F F) (ae (a_ F (aE (aO (ai (ah F (ad (bf F) (ad (bj fV F iV F F) (ad (bn 0 ow F F F F) ?_))))))))))))
 refine ad (aA (dP F F) (ak (by decide))) (ae (a_ F (aE (ai (ah F (ad (bT (Jh (a:=(97+k)) (b:=97) .u8 F F (by show _<256;omega) (by omega)) (v':=v8 k) (ax (Value.int .u8) (by omega))) (ad (fS fF dS F (by first|rfl|exact gO ⟨by omega,by omega⟩|exact qg (by omega)|exact nA (by omega))) (aj F (ae (aO (ai (ah F (ae ?_)))))))))))))
 refine a_ F (be (ad (bj kQ F dF F F) (ad (bn 1 fF F F F F) (ah F (ad (fS dS Px F (by first|rfl|exact gO ⟨by omega,by omega⟩|exact qg (by omega)|exact nA (by omega))) (ad (Q9 (a:=1) (b:=k) .u8 F F (by show _≤8;omega) (by show _<256;omega)) (ad (Q8 (a:=0) (b:=(1*2^k)) .u8 F F (by show _<256;omega) (by show _<256;omega)) (ad (bj kQ F dF F F) (ao F (bV (vs:=[(v8 (0|||(1*2^k)))]) 1 dF F F F F ?_))))))))))
 refine ae (be (ah F (ad (bf F) (ad (bj fV F bl F F) (ad (bn 0 dS F F F F) (ad (dx (a:=ia) (b:=1) F F (by omega)) (ad (bf F) (ad (bj fV F bl F F) (ao F (bV (vs:=[(vN (ia+1))]) 0 bl F F F F ?_))))))))))
 refine ae ?_
 refine nB [oI rb 149 [(str S),(vN (ia+1)),(.slice lb n lc),vI 0],oI z2 129 [(v8 (0|||(1*2^k))),(.int .u8 0)],oI z1 129 [(.int .u8 0),(.int .u8 0)]] [(0,(.pointer (aD rb))),(2,(.pointer (aD z1))),(3,(.pointer (aD z2))),(4,vN k),(5,.bool false),(6,v8 (97+k)),(7,(.agg #[(.int .u8 0),(.int .u8 0)])),(8,(.pointer (aD rb))),(9,v8 (97+k)),(10,.bool false)] F (.of F) (fun gP=>?_)
 refine T.round ?_
 refine aO (ai (ah F (ad (bf F) (ad (bj fV F iV F F) (ad (bn 0 ow F F F F) (ad (aA (bM F F) (av (by decide))) (ae ?_)))))))
 refine bW F ?_
 refine aE (aU (ai (ah F ?_)))
 have ta:=(cd.under (A:=[oI rb 149 [(str S),(vN (ia+1)),(.slice lb n lc),vI 0]]) (B:=[oI z2 129 [(v8 (0|||(1*2^k))),(.int .u8 0)],oI z1 129 [(.int .u8 0),(.int .u8 0)]]) (O:=[oI rb 149 [(str S),(vN (ia+1)),(.slice lb n lc),vI 0],oI z2 129 [(v8 (0|||(1*2^k))),(.int .u8 0)],oI z1 129 [(.int .u8 0),(.int .u8 0)]]) (s_ base rb S qo (ia+1) 93 n lc lb h2) (by exact Sub.rf))
 refine ao F (bm kP ta F ?_)
 clear ta
 rintro vr O' ⟨A9,rfl,rfl,rfl⟩
 refine ad (aA (bM F F) (ak (by omega))) (ah F (aS F F (aS F F (ad (b_ F F) (aj F (ae (aO (ai (ah F (ae (a_ F ?_)))))))))))
 refine aE (ai (ah F ?_))
 have xq:=(cd.under (A:=[oI rb 149 [(str S),(vN (ia+1)),(.slice lb n lc),vI 0]]) (B:=[oI z2 129 [(v8 (0|||(1*2^k))),(.int .u8 0)],oI z1 129 [(.int .u8 0),(.int .u8 0)]]) (O:=[oI rb 149 [(str S),(vN (ia+1)),(.slice lb n lc),vI 0],oI z2 129 [(v8 (0|||(1*2^k))),(.int .u8 0)],oI z1 129 [(.int .u8 0),(.int .u8 0)]]) (s_ base rb S qo (ia+1) 93 n lc lb h2) (by exact Sub.rf))
 refine ao F (bm kP xq F ?_)
 clear xq
 rintro vr O' ⟨A9,rfl,rfl,rfl⟩
 refine aj F (ae (aO (ai (ah F (ad (aA (bM F F) (av (by decide))) (ah F (aB F F (aK F) (aB F F (i_ F) (ad (cg F F) (ah F (aB F F (aK F) (aB F F (aA (lR F F) (av (by omega))) ?_))))))))))))
 refine ad (cg F F) (ae ?_)
 refine bW F ?_
 refine ai (ah F (ad (bf F) (ad (bj fV F bl F F) (ad (bn 0 dS F F F F) (ad (dx (a:=(ia+1)) (b:=1) F F (by omega)) (ad (bf F) (ad (bj fV F bl F F) (ao F (bV (vs:=[(vN ((ia+1)+1))]) 0 bl F F F F ?_)))))))))
 refine ae (ai (ad (ew 1 kQ F gi F F F) (ao F (bV (vs:=[(v8 (0|||(1*2^k))),(.int .u8 0)]) 2 gi F F F F ?_))))
 refine ae (aN (az ?_))
 refine cL (i:=2) Tryz.results134 kQ F gi F F F ?_
 exact⟨[oI rb 149 [(str S),(vN ((ia+1)+1)),(.slice lb n lc),vI 0]],(by exact Sub.k .z),F,F⟩
def tZ (f:FuncId) (S:List UInt8) (ia:Nat) (l:List eE) (i ib:Nat) (m:List eE):Prop:= ∀(base:World) [dB Tryz.prog base] (rb:Nat) (lb:Option Addr) (lc:Nat),cd Tryz.prog base f [(.pointer (aD rb))] [dR rb (.cells (List.toArray [(str S),vN ia,(.slice lb l.length lc),vI 0]) 149 (0,0)),aq lb lc 72 5 (bX l)] (fun v O'=> ∃tX tY,v=vN i∧O'=[dR rb (.cells (List.toArray [(str S),vN ib,(.slice tX m.length tY),vI 0]) 149 (0,0)),aq tX tY 72 5 (bX m)])
theorem Py {S:List UInt8} (qo:S.length≤4096) {ia pp:Nat} {l:List eE} (hl:l.length≤1000) (h1:Ch S ia 91) (Zk: ∀(base:World) [dB Tryz.prog base] (rb:Nat) (lb:Option Addr) (n lc:Nat),cd Tryz.prog base 134 [(.pointer (aD rb))] [oI rb 149 [(str S),vN (ia+1),(.slice lb n lc),vI 0]] (fun v O'=>v=.agg #[v8 pp,v8 0]∧O'=[oI rb 149 [(str S),vN (ia+3),(.slice lb n lc),vI 0]])):tZ 96 S ia l l.length (ia+3) (l++[(⟨3,pp,0,0,0⟩:eE)]):=by
 intro base _ rb lb lc
 refine aG func96 F ntmps96 F ?_
 have gn:=h1.lt
 refine ai (aj F (ae (ai (ah F ?_))))
 let eJ:Lx.Item:=aq lb lc 72 5 (bX l)
 let gr:Value:=(.slice lb l.length lc)
 have Jy:=(cd.under (A:=[oI rb 149 [(str S),vN ia,gr,vI 0]]) (B:=[eJ]) (O:=[oI rb 149 [(str S),vN ia,gr,vI 0],eJ]) (s_ base rb S qo ia 91 l.length lc lb h1) (by exact Sub.rf))
 refine ao F (bm kP Jy F ?_)
 clear Jy
 rintro vr O' ⟨A9,rfl,rfl,rfl⟩
 refine aj F (ae (aO (ai (ah F (ad (bf F) (ad (bj fV F iV F F) (ad (bn 0 ow F F F F) (ad (aA (dP F F) (ak (by decide))) (ae (a_ F (aE (ai (ah F (ad (bf F) (ad (bj fV F bl F F) (ad (bn 0 dS F F F F) ?_))))))))))))))))
 refine ad (dx (a:=ia) (b:=1) F F (by omega)) (ad (bf F) (ad (bj fV F bl F F) (ao F (bV (vs:=[(vN (ia+1))]) 0 bl F F F F ?_))))
 refine ae (aO (ai (ah F (ae (aU (ai (ad (aA (bM F F) (ak (by decide))) (aj F (ae (a_ F (ai (ad (aA (bM F F) (ak (by decide))) (aj F ?_)))))))))))))
 refine ae (a_ F (ai (ad (aA (bM F F) (av (by decide))) (aj F (ae ?_)))))
 refine bW F ?_
 refine ai (ah F ?_)
 have xr:=(cd.under (A:=[oI rb 149 [(str S),(vN (ia+1)),gr,vI 0]]) (B:=[eJ]) (O:=[oI rb 149 [(str S),(vN (ia+1)),gr,vI 0],eJ]) (Zk base rb lb l.length lc) (by exact Sub.rf))
 refine ao F (bm Rk xr F ?_)
 clear xr
 rintro vr O' ⟨A9,rfl,rfl,rfl⟩
 refine ao F (bu gi F (fun z1=>?_))
 refine ao F (bV (vs:=[v8 pp,v8 0]) 0 gi F F F F ?_)
 refine ae (ai (ah F (ad (bj kQ F dF F F) (ad (bn 0 fF F F F F) (ad (bj kQ F dF F F) (ad (bn 0 fF F F F F) (ad (cF (cs:=[.int .u8 3,v8 pp,v8 0,(vI 0),(vI 0)]) mV cK (by kernel_rfl)) ?_)))))))
 let gd:Lx.Item:=oI z1 129 [v8 pp,v8 0]
 have ox:=(cd.under (A:=[oI rb 149 [(str S),vN (ia+3),gr,vI 0],eJ]) (B:=[gd]) (O:=[gd,oI rb 149 [(str S),vN (ia+3),gr,vI 0],eJ]) (FA base rb S (ia+3) lc lb l (⟨3,pp,0,0,0⟩:eE) hl) (by exact Sub.eQ [gd] _ (.eQ [gd] _ (.k .z))))
 refine ao F (bm Aw ox F ?_)
 clear ox
 rintro vr O' ⟨A9,rfl,td,te,rfl,rfl⟩
 refine aj F (ae (aN (az ?_)))
 refine aT (vN l.length) Tryz.results96 F ?_
 exact⟨[oI rb 149 [(str S),vN (ia+3),(.slice td ((l++[(⟨3,pp,0,0,0⟩:eE)]).length) te),vI 0],aq td te 72 5 (bX (l++[(⟨3,pp,0,0,0⟩:eE)]))],(by exact Sub.k (.k .z)),_,_,F,F⟩
theorem xt {S:List UInt8} (qo:S.length≤4096) {ia i ib:Nat} {l m:List eE} (h1:Ch S ia 40) (DU:tZ 135 S (ia+1) l i ib m):tZ 96 S ia l i ib m:=by
 intro base _ rb lb lc
 refine aG func96 F ntmps96 F ?_
 have gn:=h1.lt
 refine ai (aj F (ae (ai (ah F ?_))))
 have Jy:=(cd.under (A:=[oI rb 149 [(str S),vN ia,(.slice lb l.length lc),vI 0]]) (B:=[aq lb lc 72 5 (bX l)]) (O:=[oI rb 149 [(str S),vN ia,(.slice lb l.length lc),vI 0],aq lb lc 72 5 (bX l)]) (s_ base rb S qo ia 40 l.length lc lb h1) (by exact Sub.rf))
 refine ao F (bm kP Jy F ?_)
 clear Jy
 rintro vr O' ⟨A9,rfl,rfl,rfl⟩
 refine aj F (ae (aO (ai (ah F (ad (bf F) (ad (bj fV F iV F F) (ad (bn 0 ow F F F F) (ad (aA (dP F F) (ak (by decide))) (ae (a_ F (aE (ai (ah F (ad (bf F) (ad (bj fV F bl F F) (ad (bn 0 dS F F F F) ?_))))))))))))))))
 refine ad (dx (a:=ia) (b:=1) F F (by omega)) (ad (bf F) (ad (bj fV F bl F F) (ao F (bV (vs:=[(vN (ia+1))]) 0 bl F F F F ?_))))
 refine ae (aO (ai (ah F (ae (aU (ai (ad (aA (bM F F) (ak (by decide))) (aj F (ae (a_ F (ai (ad (aA (bM F F) (ak (by decide))) (aj F ?_)))))))))))))
 refine ae (a_ F (ai (ad (aA (bM F F) (ak (by decide))) (aj F (ae (a_ F (ai (ad (aA (bM F F) (av (by decide))) (aj F ?_)))))))))
 refine ae ?_
 refine bW F ?_
 refine ai (ah F ?_)
 let gG:List Lx.Item:=[oI rb 149 [(str S),(vN (ia+1)),(.slice lb l.length lc),vI 0],aq lb lc 72 5 (bX l)]
 have B7:=(cd.under (A:=gG) (B:=[]) (O:=gG) (DU base rb lb lc) (by exact Sub.rf))
 refine ao F (bm Rl B7 F ?_)
 clear B7
 rintro vr O' ⟨A9,rfl,td,te,rfl,rfl⟩
 refine aj F (ae (aN (az ?_)))
 refine aT (vN i) Tryz.results96 F ?_
 exact⟨[oI rb 149 [(str S),vN ib,(.slice td m.length te),vI 0],aq td te 72 5 (bX m)],(by exact Sub.rf),_,_,F,F⟩
theorem Nl {S:List UInt8} (qo:S.length≤4096) {ia i ib:Nat} {l m:List eE} (hm:m.length≤1000) (h1:Ch S ia 62) (hE:tZ 96 S (ia+1) l i ib m) (h2:Ch S ib 41):tZ 135 S ia l m.length (ib+1) (m++[(⟨9,0,0,(i:Int),0⟩:eE)]):=by
 intro base _ rb lb lc
 refine aG func135 F ntmps135 F ?_
 have gn:=h1.lt;have lC:=h2.lt
 refine ai (aj F (ae (ai (ah F ?_))))
 have vd:=(cd.under (A:=[oI rb 149 [(str S),vN ia,(.slice lb l.length lc),vI 0]]) (B:=[aq lb lc 72 5 (bX l)]) (O:=[oI rb 149 [(str S),vN ia,(.slice lb l.length lc),vI 0],aq lb lc 72 5 (bX l)]) (s_ base rb S qo ia 62 l.length lc lb h1) (by exact Sub.rf))
 refine ao F (bm kP vd F ?_)
 clear vd
 rintro vr O' ⟨A9,rfl,rfl,rfl⟩
 refine aj F (ae (ai (aj F (ae (aO (ai (ah F (ae (aU (ai (ad (aA (bM F F) (ak (by omega))) (aj F (ae ?_)))))))))))))
 refine a_ F (ai (ad (aA (bM F F) (av (by omega))) (aj F (ae ?_))))
 refine bW F ?_
 refine be (aj F (ae (aO (ai (ah F (ad (aA (dP F F) (av (by decide))) (ae ?_)))))))
 refine bW F ?_
 refine ai (ah F (ad (bf F) (ad (bj fV F bl F F) (ad (bn 0 dS F F F F) (ad (dx (a:=ia) (b:=1) F F (by omega)) (ad (bf F) (ad (bj fV F bl F F) (ao F (bV (vs:=[(vN (ia+1))]) 0 bl F F F F ?_)))))))))
 refine ae (ai (ah F ?_))
 let iB:List Lx.Item:=[oI rb 149 [(str S),(vN (ia+1)),(.slice lb l.length lc),vI 0],aq lb lc 72 5 (bX l)]
 have ta:=(cd.under (A:=iB) (B:=[]) (O:=iB) (hE base rb lb lc) (by exact Sub.rf))
 refine ao F (bm B8 ta F ?_)
 clear ta
 rintro vr O' ⟨A9,rfl,td,te,rfl,rfl⟩
 refine aj F (ae (ai (ah F ?_)))
 have tg:=(cd.under (A:=[oI rb 149 [(str S),vN ib,(.slice td m.length te),vI 0]]) (B:=[aq td te 72 5 (bX m)]) (O:=[oI rb 149 [(str S),vN ib,(.slice td m.length te),vI 0],aq td te 72 5 (bX m)]) (Nk base rb S qo ib 41 m.length te td h2) (by exact Sub.rf))
 refine ao F (bm Av tg F ?_)
 clear tg
 rintro vr O' ⟨A9,rfl,rfl,rfl⟩
 refine ae (ai (ah F (ah F (ah F (ad (cF (cs:=[.int .u8 9,(.int .u8 0),(.int .u8 0),vN i,(vI 0)]) mV cK (by kernel_rfl)) ?_)))))
 let k8:List Lx.Item:=[oI rb 149 [(str S),vN (ib+1),(.slice td m.length te),vI 0],aq td te 72 5 (bX m)]
 have Jz:=(cd.under (A:=k8) (B:=[]) (O:=k8) (FA base rb S (ib+1) te td m (⟨9,0,0,(i:Int),0⟩:eE) hm) (by exact Sub.rf))
 refine ao F (bm Aw Jz F ?_)
 clear Jz
 rintro vr O' ⟨A9,rfl,Pz,PA,rfl,rfl⟩
 refine aj F (ae (aN (az ?_)))
 refine aT (vN m.length) Tryz.results135 F ?_
 exact⟨[oI rb 149 [(str S),vN (ib+1),(.slice Pz ((m++[(⟨9,0,0,(i:Int),0⟩:eE)]).length) PA),vI 0],aq Pz PA 72 5 (bX (m++[(⟨9,0,0,(i:Int),0⟩:eE)]))],(by exact Sub.rf),_,_,F,F⟩
theorem JA {S:List UInt8} (qo:S.length≤4096) {ia i ib c0:Nat} {l m:List eE} (hm:m.length≤1000) (h1:Ch S ia c0) (yG:c0=40∨c0=91) (hE:tZ 96 S ia l i ib m) (h2:Ch S ib 42) (h3:Ch S (ib+1) 41):tZ 135 S ia l m.length (ib+1+1) (m++[(⟨8,0,0,(i:Int),0⟩:eE)]):=by
 intro base _ rb lb lc
 refine aG func135 F ntmps135 F ?_
 have gn:=h1.lt;have lC:=h2.lt;have Zl:=h3.lt
 refine ai (aj F (ae (ai (ah F ?_))))
 let jw:List Lx.Item:=[oI rb 149 [(str S),vN ia,(.slice lb l.length lc),vI 0],aq lb lc 72 5 (bX l)]
 have vd:=(cd.under (A:=[oI rb 149 [(str S),vN ia,(.slice lb l.length lc),vI 0]]) (B:=[aq lb lc 72 5 (bX l)]) (O:=jw) (s_ base rb S qo ia c0 l.length lc lb h1) (by exact Sub.rf))
 refine ao F (bm kP vd F ?_)
 clear vd
 rintro vr O' ⟨A9,rfl,rfl,rfl⟩
 refine aj F (ae (ai (aj F (ae (aO (ai (ah F (ae (aU (ai (ad (aA (bM F F) (ak (by omega))) (aj F (ae ?_)))))))))))))
 refine a_ F (ai (ad (aA (bM F F) (ak (by omega))) (aj F (ae (a_ F (ai (ad (aA (bM F F) (ak (by omega))) (aj F (ae ?_)))))))))
 refine a_ F (aE (aO (ai (ah F (ad (aA (dP F F) (ak (by decide))) (ae (a_ F (aE (ai (ah F ?_))))))))))
 have B9:=(cd.under (A:=jw) (B:=[]) (O:=jw) (hE base rb lb lc) (by exact Sub.rf))
 refine ao F (bm B8 B9 F ?_)
 clear B9
 rintro vr O' ⟨A9,rfl,td,te,rfl,rfl⟩
 refine aj F (ae (aO (ai (ah F ?_))))
 let s9:Lx.Item:=aq td te 72 5 (bX m)
 let ul:Value:=(.slice td m.length te)
 have JB:=(cd.under (A:=[oI rb 149 [(str S),vN ib,ul,vI 0]]) (B:=[s9]) (O:=[oI rb 149 [(str S),vN ib,ul,vI 0],s9]) (s_ base rb S qo ib 42 m.length te td h2) (by exact Sub.rf))
 refine ao F (bm kP JB F ?_)
 clear JB
 rintro vr O' ⟨A9,rfl,rfl,rfl⟩
 refine ae (aU (ai (ad (aA (bM F F) (av (by decide))) (aj F (ae ?_)))))
 refine bW F ?_
 refine ai (ah F (ad (bf F) (ad (bj fV F bl F F) (ad (bn 0 dS F F F F) (ad (dx (a:=ib) (b:=1) F F (by omega)) (ad (bf F) (ad (bj fV F bl F F) (ao F (bV (vs:=[(vN (ib+1))]) 0 bl F F F F ?_)))))))))
 refine ae (ai (ah F ?_))
 have B_:=(cd.under (A:=[oI rb 149 [(str S),(vN (ib+1)),ul,vI 0]]) (B:=[s9]) (O:=[oI rb 149 [(str S),(vN (ib+1)),ul,vI 0],s9]) (Nk base rb S qo (ib+1) 41 m.length te td h3) (by exact Sub.rf))
 refine ao F (bm Av B_ F ?_)
 clear B_
 rintro vr O' ⟨A9,rfl,rfl,rfl⟩
 refine ae (ai (ah F (ah F (ad (cF (cs:=[.int .u8 8,(.int .u8 0),(.int .u8 0),vN i,(vI 0)]) mV cK (by kernel_rfl)) ?_))))
 have Ca:=(cd.under (A:=[oI rb 149 [(str S),vN (ib+1+1),ul,vI 0],s9]) (B:=[]) (O:=[oI rb 149 [(str S),vN (ib+1+1),ul,vI 0],s9]) (FA base rb S (ib+1+1) te td m (⟨8,0,0,(i:Int),0⟩:eE) hm) (by exact Sub.rf))
 refine ao F (bm Aw Ca F ?_)
 clear Ca
 rintro vr O' ⟨A9,rfl,Pz,PA,rfl,rfl⟩
 refine aj F (ae (aN (az ?_)))
 refine aT (vN m.length) Tryz.results135 F ?_
 exact⟨[oI rb 149 [(str S),vN (ib+1+1),(.slice Pz ((m++[(⟨8,0,0,(i:Int),0⟩:eE)]).length) PA),vI 0],aq Pz PA 72 5 (bX (m++[(⟨8,0,0,(i:Int),0⟩:eE)]))],(by exact Sub.rf),_,_,F,F⟩
theorem FB {S:List UInt8} (qo:S.length≤4096) {ia i ib j ic c0:Nat} {l m m2:List eE} (hm:m2.length≤1000) (h1:Ch S ia c0) (yG:c0=40∨c0=91) (hE:tZ 96 S ia l i ib m) (h2:Ch S ib 46) (Rm:tZ 96 S (ib+1) m j ic m2) (h3:Ch S ic 41):tZ 135 S ia l m2.length (ic+1) (m2++[(⟨4,0,0,(i:Int),(j:Int)⟩:eE)]):=by
 intro base _ rb lb lc
 refine aG func135 F ntmps135 F ?_
 have gn:=h1.lt;have lC:=h2.lt;have Zl:=h3.lt
 refine ai (aj F (ae (ai (ah F ?_))))
 let oQ:List Lx.Item:=[oI rb 149 [(str S),vN ia,(.slice lb l.length lc),vI 0],aq lb lc 72 5 (bX l)]
 have vd:=(cd.under (A:=[oI rb 149 [(str S),vN ia,(.slice lb l.length lc),vI 0]]) (B:=[aq lb lc 72 5 (bX l)]) (O:=oQ) (s_ base rb S qo ia c0 l.length lc lb h1) (by exact Sub.rf))
 refine ao F (bm kP vd F ?_)
 clear vd
 rintro vr O' ⟨A9,rfl,rfl,rfl⟩
 refine aj F (ae (ai (aj F (ae (aO (ai (ah F (ae (aU (ai (ad (aA (bM F F) (ak (by omega))) (aj F (ae ?_)))))))))))))
 refine a_ F (ai (ad (aA (bM F F) (ak (by omega))) (aj F (ae (a_ F (ai (ad (aA (bM F F) (ak (by omega))) (aj F (ae ?_)))))))))
 refine a_ F (aE (aO (ai (ah F (ad (aA (dP F F) (ak (by decide))) (ae (a_ F (aE (ai (ah F ?_))))))))))
 have B9:=(cd.under (A:=oQ) (B:=[]) (O:=oQ) (hE base rb lb lc) (by exact Sub.rf))
 refine ao F (bm B8 B9 F ?_)
 clear B9
 rintro vr O' ⟨A9,rfl,td,te,rfl,rfl⟩
 refine aj F (ae (aO (ai (ah F ?_))))
 have JB:=(cd.under (A:=[oI rb 149 [(str S),vN ib,(.slice td m.length te),vI 0]]) (B:=[aq td te 72 5 (bX m)]) (O:=[oI rb 149 [(str S),vN ib,(.slice td m.length te),vI 0],aq td te 72 5 (bX m)]) (s_ base rb S qo ib 46 m.length te td h2) (by exact Sub.rf))
 refine ao F (bm kP JB F ?_)
 clear JB
 rintro vr O' ⟨A9,rfl,rfl,rfl⟩
 refine ae (aU (ai (ad (aA (bM F F) (ak (by decide))) (aj F (ae (a_ F (ai (ad (aA (bM F F) (av (by decide))) (aj F (ae ?_))))))))))
 refine bW F ?_
 refine be (aj F (ae (ai (ah F (ad (bf F) (ad (bj fV F bl F F) (ad (bn 0 dS F F F F) (ad (dx (a:=ib) (b:=1) F F (by omega)) (ad (bf F) (ad (bj fV F bl F F) (ao F (bV (vs:=[(vN (ib+1))]) 0 bl F F F F ?_))))))))))))
 refine ae (ai (ah F ?_))
 let k7:List Lx.Item:=[oI rb 149 [(str S),(vN (ib+1)),(.slice td m.length te),vI 0],aq td te 72 5 (bX m)]
 have Vg:=(cd.under (A:=k7) (B:=[]) (O:=k7) (Rm base rb td te) (by exact Sub.rf))
 refine ao F (bm B8 Vg F ?_)
 clear Vg
 rintro vr O' ⟨A9,rfl,Rn,Ro,rfl,rfl⟩
 refine aj F (ae (ai (ah F ?_)))
 let mv:Lx.Item:=oI rb 149 [(str S),vN ic,(.slice Rn m2.length Ro),vI 0]
 have JC:=(cd.under (A:=[mv]) (B:=[aq Rn Ro 72 5 (bX m2)]) (O:=[mv,aq Rn Ro 72 5 (bX m2)]) (Nk base rb S qo ic 41 m2.length Ro Rn h3) (by exact Sub.rf))
 refine ao F (bm Av JC F ?_)
 clear JC
 rintro vr O' ⟨A9,rfl,rfl,rfl⟩
 refine ae (ai (ah F (ah F (ah F (ah F (ad (cF (cs:=[.int .u8 4,(.int .u8 0),(.int .u8 0),vN i,vN j]) mV cK (by kernel_rfl)) ?_))))))
 let mg:List Lx.Item:=[oI rb 149 [(str S),vN (ic+1),(.slice Rn m2.length Ro),vI 0],aq Rn Ro 72 5 (bX m2)]
 have Vh:=(cd.under (A:=mg) (B:=[]) (O:=mg) (FA base rb S (ic+1) Ro Rn m2 (⟨4,0,0,(i:Int),(j:Int)⟩:eE) hm) (by exact Sub.rf))
 refine ao F (bm Aw Vh F ?_)
 clear Vh
 rintro vr O' ⟨A9,rfl,Pz,PA,rfl,rfl⟩
 refine aj F (ae (aN (az ?_)))
 refine aT (vN m2.length) Tryz.results135 F ?_
 exact⟨[oI rb 149 [(str S),vN (ic+1),(.slice Pz ((m2++[(⟨4,0,0,(i:Int),(j:Int)⟩:eE)]).length) PA),vI 0],aq Pz PA 72 5 (bX (m2++[(⟨4,0,0,(i:Int),(j:Int)⟩:eE)]))],(by exact Sub.rf),_,_,F,F⟩
end Go.Proofs.YtgdbfideeeegmaaGreatDoor

namespace Go.Proofs.YtgdbfideeeegmaaGreatDoor
open Go.Lx Go.RowKit _root_.Go.Proofs.Tryz
theorem Ax (w:World) [dB Tryz.prog w] (o:Nat) (h1:1≤o) (h2:o≤10):
  cA Tryz.prog 48 [v8 o] w fun v N=>v=vI (dQ o:Int)∧N=[]:=by
 refine aG func48 F ntmps48 F ?_
 refine ai (aj F (ae (aO (ai (ah F (ae (aU ?_)))))))
 refine gh (fun ρ O=>Sub [] O∧dt [(0,v8 o),(2,vI 0),(3,v8 o),(4,.bool (decide (o=1∨o=2∨o=3)))] ρ) ?_ ?_
 ·refine aO ?_
  refine be (ad (bM F F) (aj F (ae (aP F (fun hc=>?_) (fun hc=>?_)))))
  ·have Zm:o=1:=by omega
   refine aE ?_
   exact⟨(by exact Sub.rf),⟨F,F,F,(ax Value.bool (decide_eq_decide.2 (by omega))),trivial⟩⟩
  have Zn: ¬o=1:=by omega
  refine ai (ad (bM F F) (aj F (ae (aP F (fun hc=>?_) (fun hc=>?_)))))
  ·have Zm:o=2:=by omega
   refine aE ?_
   exact⟨(by exact Sub.rf),⟨F,F,F,(ax Value.bool (decide_eq_decide.2 (by omega))),trivial⟩⟩
  have Zn: ¬o=2:=by omega
  refine be (ad (bM F F) (aj F (ae ?_)))
  exact⟨(by exact Sub.rf),⟨F,F,F,(ax Value.bool (decide_eq_decide.2 (by omega))),trivial⟩⟩
 rintro ρ O ⟨hS,hH⟩
 obtain⟨gP,rfl⟩:=hH.elim
 clear hH
 refine dv hS ?_
 refine aP F (fun hc=>?_) (fun hc=>?_)
 ·refine aO ?_
  refine be (aj F (ae (aN ?_)))
  refine aT (vI 0) Tryz.results48 F ?_
  exact⟨ax (fun n:Nat=>Value.int .i64 (n:Int)) (show 0=dQ o by unfold dQ;rw[ay (by omega),ay (by omega)]),F⟩
 refine gh (fun ρ O=>Sub [] O∧dt [(0,v8 o),(2,vI 0),(3,v8 o),(4,.bool (decide (o=1∨o=2∨o=3))),(8,.bool (decide (o=7∨o=8∨o=9∨o=10)))] ρ) ?_ ?_
 ·refine aO ?_
  refine be (ad (bM F F) (aj F (ae (aP F (fun hc=>?_) (fun hc=>?_)))))
  ·have nV:o=7:=by omega
   refine aE ?_
   exact⟨(by exact Sub.rf),⟨F,F,F,F,(ax Value.bool (decide_eq_decide.2 (by omega))),trivial⟩⟩
  have QG: ¬o=7:=by omega
  refine ai (ad (bM F F) (aj F (ae (aP F (fun hc=>?_) (fun hc=>?_)))))
  ·have nV:o=8:=by omega
   refine aE ?_
   exact⟨(by exact Sub.rf),⟨F,F,F,F,(ax Value.bool (decide_eq_decide.2 (by omega))),trivial⟩⟩
  have QG: ¬o=8:=by omega
  refine ai (ad (bM F F) (aj F (ae (aP F (fun hc=>?_) (fun hc=>?_)))))
  ·have nV:o=9:=by omega
   refine aE ?_
   exact⟨(by exact Sub.rf),⟨F,F,F,F,(ax Value.bool (decide_eq_decide.2 (by omega))),trivial⟩⟩
  have QG: ¬o=9:=by omega
  refine be (ad (bM F F) (aj F (ae ?_)))
  exact⟨(by exact Sub.rf),⟨F,F,F,F,(ax Value.bool (decide_eq_decide.2 (by omega))),trivial⟩⟩
 rintro ρ O ⟨hS,hH⟩
 obtain⟨gP,rfl⟩:=hH.elim
 clear hH
 refine dv hS ?_
 refine aP F (fun hc=>?_) (fun hc=>?_)
 ·refine aO ?_
  refine be (aj F (ae (aN ?_)))
  refine aT (vI 1) Tryz.results48 F ?_
  exact⟨ax (fun n:Nat=>Value.int .i64 (n:Int)) (show 1=dQ o by unfold dQ;rw[ay (by omega),aR (by omega)]),F⟩
 refine gh (fun ρ O=>Sub [] O∧dt [(0,v8 o),(2,vI 0),(3,v8 o),(4,.bool (decide (o=1∨o=2∨o=3))),(8,.bool (decide (o=7∨o=8∨o=9∨o=10))),(13,.bool (decide (o=4∨o=5∨o=6)))] ρ) ?_ ?_
 ·refine aO ?_
  refine be (ad (bM F F) (aj F (ae (aP F (fun hc=>?_) (fun hc=>?_)))))
  ·have lm:o=4:=by omega
   refine aE ?_
   exact⟨(by exact Sub.rf),⟨F,F,F,F,F,(ax Value.bool (decide_eq_decide.2 (by omega))),trivial⟩⟩
  have JD: ¬o=4:=by omega
  refine ai (ad (bM F F) (aj F (ae (aP F (fun hc=>?_) (fun hc=>?_)))))
  ·have lm:o=5:=by omega
   refine aE ?_
   exact⟨(by exact Sub.rf),⟨F,F,F,F,F,(ax Value.bool (decide_eq_decide.2 (by omega))),trivial⟩⟩
  have JD: ¬o=5:=by omega
  refine be (ad (bM F F) (aj F (ae ?_)))
  exact⟨(by exact Sub.rf),⟨F,F,F,F,F,(ax Value.bool (decide_eq_decide.2 (by omega))),trivial⟩⟩
 rintro ρ O ⟨hS,hH⟩
 obtain⟨gP,rfl⟩:=hH.elim
 clear hH
 refine dv hS ?_
 refine aP F (fun hc=>?_) (fun hc=>?_)
 ·refine aO ?_
  refine be (aj F (ae (aN ?_)))
  refine aT (vI 2) Tryz.results48 F ?_
  exact⟨ax (fun n:Nat=>Value.int .i64 (n:Int)) (show 2=dQ o by unfold dQ;rw[aR (by omega)]),F⟩
 refine aE (ai (aj F (ae (aN ?_))))
 refine aT (vI (-1)) Tryz.results48 F ?_
 exact absurd h1 (by omega)
theorem Rq (w:World) [dB Tryz.prog w] (p n v:Nat) (hp:p<256) (hn:n<256) (hv:v≤6) (h0:oy v p n=0):
  cA Tryz.prog 79 [.agg #[v8 p,v8 n],vN v] w fun r N=>r=vI 0∧N=[]:=by
 refine aG func79 F ntmps79 F ?_
 have hb:(p|||n)<2^v∧p&&&n=0:=by
  unfold oy at h0;split at h0<;>(try split at h0)<;>omega
 have hvt:(2:Nat)^((v:Int)).toNat=2^v:=by simp
 have Hk:p≤p|||n:=Nat.left_le_or
 have DW:n≤p|||n:=Nat.right_le_or
 refine ai (ao F (dE (cs:=[v8 p,v8 n]) F F (fun nP=>?_)))
 refine aj F (ae (aO (ai (ah F (ad (aA (cR F F) (ak (by omega))) (ah F (aB F F (aK F) (aB F F (aA (gH F F) (ak (by omega))) (ad (b_ F F) (ae (a_ F ?_)))))))))))
 refine aE (ai (ah F ?_))
 have xu:=fun(w1:World) (hI:Inv w [oI nP 129 [v8 p,v8 n]] w1)=>(haveI:=ey hI;IW w1 (v:Int) (by omega) (by omega))
 refine ao F (bm Vi (aX xu) F ?_)
 clear xu
 rintro vr O' ⟨N,rfl,rfl,rfl⟩
 refine aj F (ae (aO (ai (ad (bj kQ F dF F F) (ad (bn 0 fF F F F F) (ad (fS fF dS F (by first|rfl|exact gO ⟨by omega,by omega⟩|exact qg (by omega)|exact nA (by omega))) (ah F (ad (aA (lR F F) (ak (by omega))) (ah F (aB F F (bj kQ F dF F F) (aB F F (bn 0 fF F F F F) (aB F F (fS fF dS F (by first|rfl|exact gO ⟨by omega,by omega⟩|exact qg (by omega)|exact nA (by omega))) (aB F F (aK F) ?_)))))))))))))
 refine aB F F (aA (lR F F) (ak (by omega))) (ad (b_ F F) (ae (a_ F (aE (aO (ai (ad (bj kQ F dF F F) (ad (bn 0 fF F F F F) (ad (bj kQ F dF F F) (ad (bn 0 fF F F F F) (ad (Ft (a:=p) (b:=n) .u8 F F (by show _<256;omega) (by show _<256;omega)) (ad (aA (dP F F) (ak (by simp only[hb.2];decide))) (ae ?_)))))))))))))
 refine a_ F (aE (ai (aj F (ae (aN (az ?_))))))
 refine aT (vI 0) Tryz.results79 F ?_
 exact⟨[],Sub.z,F,F⟩
theorem Nn (w:World) [dB Tryz.prog w] (x:eE) (v:Nat) (hp:x.p<256) (hn:x.n<256) (hv:v≤6) (h0:fY v x=0):
  cA Tryz.prog 47 [x.ag,vN v] w fun r N=>r=vI 0∧N=[]:=by
 refine aG func47 F ntmps47 F ?_
 obtain⟨vQ,sH,q1,q2,q3⟩:=lD h0
 have hp0:x.op=3∨(x.p=0∧x.n=0):=by
  by_cases h:x.op=3
  ·exact .inl h
  ·exact .inr (q1 h)
 have Zo: ¬dQ x.op<1∨x.a=0:=by
  by_cases h:dQ x.op<1
  ·exact .inr (q2 h)
  ·exact .inl h
 have It: ¬dQ x.op<2∨x.b=0:=by
  by_cases h:dQ x.op<2
  ·exact .inr (q3 h)
  ·exact .inl h
 have Zk:x.op=3→oy v x.p x.n=0:=fun h=>by unfold fY at h0;rw[ay (by omega),aR h]at h0;split at h0<;>first|exact h0|omega
 clear q1 q2 q3
 refine ai (ao F (dE (cs:=x.cl) F F (fun nP=>?_)))
 refine aj F (ae (ai (ad (bj cp F dF F F) (ad (bn 0 fF F F F F) ?_))))
 have FC:=fun(w1:World) (hI:Inv w [oI nP 72 x.cl] w1)=>(haveI:=ey hI;Ax w1 x.op vQ sH)
 refine ao F (bm FD (aX FC) F ?_)
 clear FC
 rintro vr O' ⟨N,rfl,rfl,rfl⟩
 refine aj F (ae (aO (ai (ah F (ad (aA (cR F F) (ak (by omega))) (ae (a_ F (aE ?_))))))))
 refine gh (fun ρ O=>Sub [oI nP 72 x.cl] O∧dt [(0,x.ag),(1,vN v),(2,(.pointer (aD nP))),(5,vI (dQ x.op:Int)),(41,.bool false)] ρ) ?_ ?_
 ·refine aO ?_
  refine be (ad (bj cp F dF F F) (ad (bn 0 fF F F F F) ?_))
  by_cases h3:((x.op:Nat):Int)≠3
  ·refine ad (aA (dP F F) (av h3)) ?_
   refine ah F (aB F F (bj cp F dF F F) (aB F F (bn 0 fF F F F F) (aB F F (aA (dP F F) (ak (by omega))) (aB F F (aK F) (aB F F (bj cp F dF F F) (aB F F (bn 0 fF F F F F) (aB F F (aA (dP F F) (ak (by omega))) ?_)))))))
   refine aB F F (b_ F F) (ad (cg F F) (ah F (aB F F (aK F) ?_)))
   by_cases yG:((dQ x.op:Nat):Int)<1
   ·refine aB F F (aA (cR F F) (av yG)) ?_
    refine aB F F (aK F) (aB F F (bj cp F bl F F) (aB F F (bn 0 dS F F F F) (aB F F (aA (dP F F) (ak (by omega))) (aB F F (cg F F) (ad (b_ F F) (ah F (aB F F (aK F) ?_)))))))
    by_cases rG:((dQ x.op:Nat):Int)<2
    ·refine aB F F (aA (cR F F) (av rG)) ?_
     refine aB F F (aK F) (aB F F (bj cp F bl F F) (aB F F (bn 0 dS F F F F) (aB F F (aA (dP F F) (ak (by omega))) (aB F F (cg F F) (ad (b_ F F) (ae (a_ F ?_)))))))
     refine aE ?_
     exact⟨(by exact Sub.rf),(.of F)⟩
    refine aB F F (aA (cR F F) (ak rG)) (aB F F (aK F) (aS F F (aS F F (aS F F (aB F F (b_ F F) (ad (b_ F F) (ae ?_)))))))
    refine a_ F (aE ?_)
    exact⟨(by exact Sub.rf),(.of F)⟩
   refine aB F F (aA (cR F F) (ak yG)) (aB F F (aK F) (aS F F (aS F F (aS F F (aB F F (b_ F F) (ad (b_ F F) (ah F (aB F F (aK F) ?_))))))))
   by_cases rG:((dQ x.op:Nat):Int)<2
   ·refine aB F F (aA (cR F F) (av rG)) ?_
    refine aB F F (aK F) (aB F F (bj cp F bl F F) (aB F F (bn 0 dS F F F F) (aB F F (aA (dP F F) (ak (by omega))) (aB F F (cg F F) (ad (b_ F F) (ae (a_ F ?_)))))))
    refine aE ?_
    exact⟨(by exact Sub.rf),(.of F)⟩
   refine aB F F (aA (cR F F) (ak rG)) (aB F F (aK F) (aS F F (aS F F (aS F F (aB F F (b_ F F) (ad (b_ F F) (ae ?_)))))))
   refine a_ F (aE ?_)
   exact⟨(by exact Sub.rf),(.of F)⟩
  refine ad (aA (dP F F) (ak h3)) (ah F (aS F F (aS F F (aS F F (aS F F (aS F F (aS F F (aS F F ?_))))))))
  refine aS F F (ad (b_ F F) (ah F (aB F F (aK F) ?_)))
  by_cases yG:((dQ x.op:Nat):Int)<1
  ·refine aB F F (aA (cR F F) (av yG)) ?_
   refine aB F F (aK F) (aB F F (bj cp F bl F F) (aB F F (bn 0 dS F F F F) (aB F F (aA (dP F F) (ak (by omega))) (aB F F (cg F F) (ad (b_ F F) (ah F (aB F F (aK F) ?_)))))))
   by_cases rG:((dQ x.op:Nat):Int)<2
   ·refine aB F F (aA (cR F F) (av rG)) ?_
    refine aB F F (aK F) (aB F F (bj cp F bl F F) (aB F F (bn 0 dS F F F F) (aB F F (aA (dP F F) (ak (by omega))) (aB F F (cg F F) (ad (b_ F F) (ae (a_ F ?_)))))))
    refine aE ?_
    exact⟨(by exact Sub.rf),(.of F)⟩
   refine aB F F (aA (cR F F) (ak rG)) (aB F F (aK F) (aS F F (aS F F (aS F F (aB F F (b_ F F) (ad (b_ F F) (ae ?_)))))))
   refine a_ F (aE ?_)
   exact⟨(by exact Sub.rf),(.of F)⟩
  refine aB F F (aA (cR F F) (ak yG)) (aB F F (aK F) (aS F F (aS F F (aS F F (aB F F (b_ F F) (ad (b_ F F) (ah F (aB F F (aK F) ?_))))))))
  by_cases rG:((dQ x.op:Nat):Int)<2
  ·refine aB F F (aA (cR F F) (av rG)) ?_
   refine aB F F (aK F) (aB F F (bj cp F bl F F) (aB F F (bn 0 dS F F F F) (aB F F (aA (dP F F) (ak (by omega))) (aB F F (cg F F) (ad (b_ F F) (ae (a_ F ?_)))))))
   refine aE ?_
   exact⟨(by exact Sub.rf),(.of F)⟩
  refine aB F F (aA (cR F F) (ak rG)) (aB F F (aK F) (aS F F (aS F F (aS F F (aB F F (b_ F F) (ad (b_ F F) (ae ?_)))))))
  refine a_ F (aE ?_)
  exact⟨(by exact Sub.rf),(.of F)⟩
 rintro ρ O ⟨hS,hH⟩
 obtain⟨gP,rfl⟩:=hH.elim
 clear hH
 refine dv hS ?_
 refine aO (ai (ad (bj cp F dF F F) (ad (bn 0 fF F F F F) (ad (bM F F) (ae (aP F (fun hc=>?_) (fun hc=>?_)))))))
 ·have lS:x.op=3:=by omega
  refine ai (ad (bj cp F dF F F) (ad (bn 0 fF F F F F) (ad (bj cp F dF F F) (ad (bn 0 fF F F F F) (ad (cF (cs:=[v8 x.p,v8 x.n]) jh gi (by kernel_rfl)) (ah F ?_))))))
  have JE:=fun(w1:World) (hI:Inv w [oI nP 72 x.cl] w1)=>(haveI:=ey hI;Rq w1 x.p x.n v hp hn hv (Zk lS))
  refine ao F (bm Vj (aX JE) F ?_)
  clear JE
  rintro vr O' ⟨N,rfl,rfl,rfl⟩
  refine aj F (ae (aN (az ?_)))
  refine aT (vI 0) Tryz.results47 F ?_
  exact⟨[],Sub.z,F,F⟩
 have Pe: ¬x.op=3:=by omega
 refine aE (ai (aj F (ae (aN (az ?_)))))
 refine aT (vI 0) Tryz.results47 F ?_
 exact⟨[],Sub.z,F,F⟩
theorem Vk (w:World) [dB Tryz.prog w] (o:Nat):
  cA Tryz.prog 80 [v8 o] w fun v N=>v=.bool (decide (o=9)||decide (o=10))∧N=[]:=by
 refine aG func80 F ntmps80 F ?_
 refine ai (aj F (ae (ai (ah F ?_))))
 by_cases h9:((o:Nat):Int)=9
 ·refine ad (aA (bM F F) (av h9)) ?_
  refine ah F (aS F F (aS F F (ad (cg F F) (aj F (ae (aN ?_))))))
  refine aT (.bool true) Tryz.results80 F ?_
  exact⟨ax Value.bool (by rw[av (show o=9 by omega)];rfl),F⟩
 refine ad (aA (bM F F) (ak h9)) (ah F (aB F F (aK F) (aB F F (bM F F) (ad (b_ F F) (aj F (ae (aN ?_)))))))
 refine aT (.bool (decide (((o:Nat):Int)=10))) Tryz.results80 F ?_
 exact⟨ax Value.bool (by rw[ak (show¬o=9 by omega)];exact decide_eq_decide.2 (by omega)),F⟩
theorem No (w:World) [dB Tryz.prog w] (eb:Option Addr) (ec:Nat) (e:List eE) (hE:Sl w eb (bX e)) (i:Nat) (fr:Bool) (hi:i<e.length) (vQ:1≤e[i].op) (sH:e[i].op≤10) (Zp:(decide (e[i].op=9)||decide (e[i].op=10))=true→(!fr)=false) (FE:1≤dQ e[i].op→ ∀w1 [dB Tryz.prog w1],Inv w [] w1→cA Tryz.prog 49 [(.slice eb e.length ec),vI e[i].a,.bool (fr&&decide (e[i].op=4∨e[i].op=5))] w1 fun v N=>v=.bool false∧N=[]) (JF:2≤dQ e[i].op→ ∀w1 [dB Tryz.prog w1],Inv w [] w1→cA Tryz.prog 49 [(.slice eb e.length ec),vI e[i].b,.bool (fr&&decide (e[i].op=4∨e[i].op=5))] w1 fun v N=>v=.bool false∧N=[]):
  cA Tryz.prog 49 [(.slice eb e.length ec),vN i,.bool fr] w fun v N=>v=.bool false∧N=[]:=by
 refine aG func49 F ntmps49 F ?_
 refine ai (aj F (ae ?_))
 refine gh (fun ρ O=>Sub [] O∧dt [(0,(.slice eb e.length ec)),(1,vN i),(2,.bool fr)] ρ) ?_ ?_
 ·refine aO ?_
  refine be (ah F (ah F (ad (dU (i:=i) dJ cK F F (aJ hE) hi (by rw[cz];omega)) (ad (ck cp F dF F F (aJ hE) (by rw[cz];omega)) ?_))))
  refine ad (c_ fF F F (aJ hE) (fH (ap hi) 0 (by show 0<5;decide))) ?_
  have xu:=fun(w1:World) (hI:Inv w [] w1)=>(haveI:=ey hI;Vk w1 e[i].op)
  refine ao F (bm Vl (aX xu) F ?_)
  clear xu
  rintro vr O' ⟨N,rfl,rfl,rfl⟩
  by_cases HC:(decide (e[i].op=9)||decide (e[i].op=10))=true
  ·refine ad (aA (aK F) (HC)) ?_
   refine aB F F (aK F) (aB F F (i_ F) (ad (cg F F) (ae (a_ (ax Value.bool (Zp HC)) (aE ?_)))))
   exact⟨(by exact Sub.rf),⟨F,F,F,trivial⟩⟩
  refine ad (aA (aK F) (Bool.eq_false_iff.2 HC)) (aS F F (aS F F (ad (b_ F F) (ae (a_ F (aE ?_))))))
  exact⟨(by exact Sub.rf),⟨F,F,F,trivial⟩⟩
 rintro ρ O ⟨hS,hH⟩
 obtain⟨gP,rfl⟩:=hH.elim
 clear hH
 refine dv hS ?_
 refine gh (fun ρ O=>Sub [] O∧dt [(0,(.slice eb e.length ec)),(1,vN i),(2,.bool fr),(7,.bool (fr&&decide (e[i].op=4∨e[i].op=5)))] ρ) ?_ ?_
 ·refine be ?_
  refine ah F ?_
  by_cases JG:fr=true
  ·refine ad (aA (aK F) (JG)) ?_
   refine aB F F (aK F) (aB F F (aK F) (aB F F (dU (i:=i) dJ cK F F (aJ hE) hi (by rw[cz];omega)) (aB F F (ck cp F dF F F (aJ hE) (by rw[cz];omega)) ?_)))
   refine aB F F (c_ fF F F (aJ hE) (fH (ap hi) 0 (by show 0<5;decide))) ?_
   refine aB F F (bM F F) ?_
   by_cases h4:((e[i].op:Nat):Int)=4
   ·refine aB F F (aA (aK F) (av h4)) ?_
    refine aS F F (aS F F (aS F F (aS F F (aS F F (aS F F (aB F F (cg F F) (ad (cg F F) (aj F ?_))))))))
    refine ae ?_
    exact⟨(by exact Sub.rf),⟨F,F,F,(ax Value.bool (by rw[JG,av (show e[i].op=4∨e[i].op=5 by omega)];rfl)),trivial⟩⟩
   refine aB F F (aA (aK F) (ak h4)) (aB F F (aK F) (aB F F (aK F) (aB F F (dU (i:=i) dJ cK F F (aJ hE) hi (by rw[cz];omega)) (aB F F (ck cp F dF F F (aJ hE) (by rw[cz];omega)) ?_))))
   refine aB F F (c_ fF F F (aJ hE) (fH (ap hi) 0 (by show 0<5;decide))) ?_
   refine aB F F (bM F F) (aB F F (b_ F F) (ad (cg F F) (aj F (ae ?_))))
   exact⟨(by exact Sub.rf),⟨F,F,F,(ax Value.bool (by rw[JG,Bool.true_and];exact decide_eq_decide.2 (by omega))),trivial⟩⟩
  refine ad (aA (aK F) (Bool.eq_false_iff.2 JG)) (aS F F (aS F F (aS F F (aS F F (aS F F (aS F F (aS F F ?_)))))))
  refine aS F F (aS F F (aS F F (aS F F (aS F F (aS F F (aS F F (ad (b_ F F) (aj F ?_))))))))
  refine ae ?_
  exact⟨(by exact Sub.rf),⟨F,F,F,(ax Value.bool (by rw[Bool.eq_false_iff.2 JG];rfl)),trivial⟩⟩
 rintro ρ O ⟨hS,hH⟩
 obtain⟨gP,rfl⟩:=hH.elim
 clear hH
 refine dv hS ?_
 refine aO (ai (ah F (ah F (ad (dU (i:=i) dJ cK F F (aJ hE) hi (by rw[cz];omega)) (ad (ck cp F dF F F (aJ hE) (by rw[cz];omega)) ?_)))))
 refine ad (c_ fF F F (aJ hE) (fH (ap hi) 0 (by show 0<5;decide))) ?_
 have ox:=fun(w1:World) (hI:Inv w [] w1)=>(haveI:=ey hI;Ax w1 e[i].op vQ sH)
 refine ao F (bm FD (aX ox) F ?_)
 clear ox
 rintro vr O' ⟨N,rfl,rfl,rfl⟩
 refine ae (aU (ai (ad (bM F F) (aj F (ae (aP F (fun hc=>?_) (fun hc=>?_)))))))
 ·have xp:dQ e[i].op=1:=by omega
  refine ai (ah F (ah F (ah F (ad (dU (i:=i) dJ cK F F (aJ hE) hi (by rw[cz];omega)) ?_))))
  refine ad (ck cp F bl F F (aJ hE) (by rw[cz];omega)) (ad (c_ dS F F (aJ hE) (fH (ap hi) 3 (by show 3<5;decide))) (ah F ?_))
  have Vm:=fun(w1:World) (hI:Inv w [] w1)=>(haveI:=ey hI;FE (by omega) w1 hI.mq)
  refine ao F (bm FF (aX Vm) F ?_)
  clear Vm
  rintro vr O' ⟨N,rfl,rfl,rfl⟩
  refine aj F (ae (aN ?_))
  refine aT (.bool false) Tryz.results49 F ?_
  exact⟨F,F⟩
 have U1: ¬dQ e[i].op=1:=by omega
 refine ai (ad (bM F F) (aj F (ae (aP F (fun hc=>?_) (fun hc=>?_)))))
 ·have abJ:dQ e[i].op=2:=by omega
  refine ai (ah F (ah F (ah F (ad (dU (i:=i) dJ cK F F (aJ hE) hi (by rw[cz];omega)) ?_))))
  refine ad (ck cp F bl F F (aJ hE) (by rw[cz];omega)) (ad (c_ dS F F (aJ hE) (fH (ap hi) 3 (by show 3<5;decide))) (ah F ?_))
  have JH:=fun(w1:World) (hI:Inv w [] w1)=>(haveI:=ey hI;FE (by omega) w1 hI.mq)
  refine ao F (bm FF (aX JH) F ?_)
  clear JH
  rintro vr O' ⟨N,rfl,rfl,rfl⟩
  refine ah F (aB F F (aK F) (aB F F (aK F) (aB F F (aK F) (aB F F (dU (i:=i) dJ cK F F (aJ hE) hi (by rw[cz];omega)) (aB F F (ck cp F bl F F (aJ hE) (by rw[cz];omega)) ?_)))))
  refine aB F F (c_ dS F F (aJ hE) (fH (ap hi) 4 (by show 4<5;decide))) ?_
  refine aB F F (aK F) ?_
  have JI:=fun(w1:World) (hI:Inv w [] w1)=>(haveI:=ey hI;JF (by omega) w1 hI.mq)
  refine iv F F F (bm FF (aX JI) F ?_)
  clear JI
  rintro vr O' ⟨N,rfl,rfl,rfl⟩
  refine ad (b_ F F) (aj F (ae (aN ?_)))
  refine aT (.bool false) Tryz.results49 F ?_
  exact⟨F,F⟩
 have abK: ¬dQ e[i].op=2:=by omega
 refine aE (ai (aj F (ae (aN ?_))))
 refine aT (.bool false) Tryz.results49 F ?_
 exact⟨F,F⟩
theorem Rr (eb:Option Addr) (ec:Nat) (e:List eE) {v:Nat} {fs:List Nat} (hb:jP v e=.ok fs): ∀(f i:Nat) (fr:Bool) (w:World) [dB Tryz.prog w] (hE:Sl w eb (bX e)) (hi:i<e.length),i<f→mh e f i fr=true→cA Tryz.prog 49 [(.slice eb e.length ec),vN i,.bool fr] w fun v N=>v=.bool false∧N=[]
 |0,i,fr,w,_,_,hi,hf,_=>absurd hf (by omega)
 |f+1,i,fr,w,_,hE,hi,hf,hv=>by
  have ht:=qq hb i hi
  obtain⟨vQ,sH,_⟩:=lD (q_ hb hi)
  rw[iC hi]at hv
  split at hv
  ·cases hv
  ·rename_i hn
   rw[aM,Bool.or_eq_true,Bool.or_eq_true]at hv
   refine No w eb ec e hE i fr hi vQ sH (fun h=>?_) (fun h w2 _ pC=>?_) (fun h w2 _ pC=>?_)
   ·cases fr with
    |true=>rfl
    |false=>exact absurd ⟨by simpa using h,F⟩ hn
   ·obtain⟨j,hj,Fi⟩:=ht.1 h
    rw[hj]
    have h2:=hv.1.resolve_left (by rw[dm];omega)
    rw[hj,Int.toNat_natCast]at h2
    exact Rr eb ec e hb f j _ w2 (pC.sl hE) (by omega) (by omega) h2
   ·obtain⟨j,hj,Fi⟩:=ht.2 h
    rw[hj]
    have h2:=hv.2.resolve_left (by rw[dm];omega)
    rw[hj,Int.toNat_natCast]at h2
    exact Rr eb ec e hb f j _ w2 (pC.sl hE) (by omega) (by omega) h2
theorem zv {fs:List Nat} {i k:Nat} (h1:k<i) (h2:k<fs.length):(bU (fs.take i))[k]? =some (vN (fs.getD k 0)):=by
 show((fs.take i).map _)[k]? =_
 rw[bq,List.getElem?_take,aR h1,aw,ap h2];rfl
theorem Vn (w:World) [dB Tryz.prog w] (eb:Option Addr) (ec:Nat) (e:List eE) (hE:Sl w eb (bX e)) (oz: ∀x∈e,x.p<256∧x.n<256) (v:Nat) (h0:im (v:Int) e=0):
  cA Tryz.prog 22 [(.slice eb e.length ec),vN v] w fun r N=>r=vI 0∧N=[]:=by
 refine aG func22 F ntmps22 F ?_
 obtain⟨_,QH,Hj,Eb,fs,mf,Rs,Zq⟩:=wi h0
 rw[Int.toNat_natCast]at mf
 have qY:fs.length=e.length:=by
  obtain⟨gs,g1,g2,_⟩:=pg mf e.length (a8 _)
  rw[List.take_length,mf]at g1
  injection g1 with g1;rw[g1];exact g2
 refine ai (aj F (ae (aO (ai (ah F (ad (aA (cR F F) (ak (by omega))) (ah F (aB F F (aK F) (aB F F (aA (gH F F) (ak (by omega))) (ad (b_ F F) (ae ?_)))))))))))
 refine a_ F (aE (aO (ai (ah F (ad (cP dJ F) (ad (aA (bM F F) (ak (by omega))) (ae (a_ F (aE (aO (ai (ah F (ad (cP dJ F) (ad (aA (gH F F) (ak (by omega))) (ae ?_)))))))))))))))
 refine a_ F (aE (ai (aj F (ae (aO (ai (aj F (ae (aU (T.eY 3 1 ?_))))))))))
 let gr:Value:=(.slice eb e.length ec)
 refine dM (fun(i:Nat) ρ O=> ∃(b:Option Addr) (c:Nat),O=[aq b c 3 1 (bU (fs.take i))]∧i≤e.length∧dt [(0,gr),(1,vN v),(5,(.slice b i c)),(6,vN i)] ρ) (fun i=>e.length-i) 0 ?_ ?_
 ·exact⟨none,0,F,bs _,⟨F,F,F,F,trivial⟩⟩
 rintro i ρ O ⟨b,c,rfl,hi,hH⟩
 obtain⟨gP,rfl⟩:=hH.elim
 clear hH
 refine aO (ai (ah F (ah F (ad (cP dJ F) (ad (cR F F) (ae (aP F (fun hc=>?_) (fun hc=>?_))))))))
 ·have li:i<e.length:=by omega
  have Mu:=oz _ (aL li)
  have ve:=q_ mf li
  obtain⟨vQ,sH,_⟩:=lD ve
  obtain⟨g0,g1,g2,g3⟩:=Ay mf li
  have X9:dQ e[i].op=0∨dQ e[i].op=1∨dQ e[i].op=2:=PB _
  refine aE (aO (aU (ai (ah F (ah F (ad (dU (i:=i) dJ cK F F (aJ hE) li (by rw[cz];omega)) (ad (eP (vs:=e[i].cl) cp F cK F F (bw _) (aJ hE) (lE li)) (ah F ?_))))))))
  let eJ:List Lx.Item:=[aq b c 3 1 (bU (fs.take i))]
  have JJ:=fun(w1:World) (hI:Inv w eJ w1)=>(haveI:=ey hI;Nn w1 e[i] v Mu.1 Mu.2 (by omega) ve)
  refine ao F (bm Vo (aX JJ) F ?_)
  clear JJ
  rintro vr O' ⟨N,rfl,rfl,rfl⟩
  refine aj F (ae (aO (ai (ah F (ad (aA (dP F F) (ak (by decide))) (ae (a_ F (aE (ai (ah F (aj F (ae ?_))))))))))))
  refine gh (fun ρ O=>Sub eJ O∧dt [(0,gr),(1,vN v),(5,(.slice b i c)),(6,vN i),(7,vI 0),(8,vN (if dQ e[i].op=1 then fs.getD i 0 else i))] ρ) ?_ ?_
  ·refine aO ?_
   refine be (ah F (ah F (ad (dU (i:=i) dJ cK F F (aJ hE) li (by rw[cz];omega)) (ad (ck cp F dF F F (aJ hE) (by rw[cz];omega)) ?_))))
   refine ad (c_ fF F F (aJ hE) (fH (ap li) 0 (by show 0<5;decide))) ?_
   have xq:=fun(w1:World) (hI:Inv w eJ w1)=>(haveI:=ey hI;Ax w1 e[i].op vQ sH)
   refine ao F (bm FD (aX xq) F ?_)
   clear xq
   rintro vr O' ⟨N,rfl,rfl,rfl⟩
   refine ad (bM F F) (ae (aP F (fun hc=>?_) (fun hc=>?_)))
   ·have hU:dQ e[i].op=1:=by omega
    obtain⟨k1,k2,k3⟩:=g1 hU
    refine aO (ai (ah F (ah F (ad (dU (i:=i) dJ cK F F (aJ hE) li (by rw[cz];omega)) (ad (ck cp F bl F F (aJ hE) (by rw[cz];omega)) ?_)))))
    refine ad (c_ dS F F (aJ hE) (fH (ap li) 3 (by show 3<5;decide))) (ah F (ad (bT (fL F F (by omega)) (v':=vN (i-1)) (ax (Value.int .i64) (by omega))) (ad (aA (dP F F) (ak (by omega))) ?_)))
    refine ah F (aB F F (aK F) (aB F F (aA (bM F F) (ak (by omega))) (ad (b_ F F) (ae (a_ F (aE (be (ah F (ah F (ad (bT (fL F F (by omega)) (v':=vN (i-1)) (ax (Value.int .i64) (by omega))) (ad (dZ (i:=(i-1)) cI bl F F (dX (mG 0 F)) (by omega) (by rw[ar,cw];omega)) ?_)))))))))))
    refine ad (c_ dS F F (dX (mG 0 F)) (show(bU (fs.take i))[i-1]? =some (vN (fs.getD (i-1) 0))from zv (by omega) (by omega))) (aj F (ae ?_))
    exact⟨(by exact Sub.rf),⟨F,F,F,F,F,(ax (fun n9:Nat=>Value.int .i64 ((n9:Nat):Int)) (by rw[aR hU];exact k3.symm)),trivial⟩⟩
   have ik: ¬dQ e[i].op=1:=by omega
   refine aE ?_
   exact⟨(by exact Sub.rf),⟨F,F,F,F,F,(ax (fun n9:Nat=>Value.int .i64 ((n9:Nat):Int)) (by rw[ay ik])),trivial⟩⟩
  rintro ρ O ⟨hS,hH⟩
  obtain⟨gP,rfl⟩:=hH.elim
  clear hH
  refine dv hS ?_
  refine gh (fun ρ O=>Sub eJ O∧dt [(0,gr),(1,vN v),(5,(.slice b i c)),(6,vN i),(7,vI 0),(8,vN (fs.getD i 0))] ρ) ?_ ?_
  ·refine aO ?_
   refine be (ah F (ah F (ad (dU (i:=i) dJ cK F F (aJ hE) li (by rw[cz];omega)) (ad (ck cp F dF F F (aJ hE) (by rw[cz];omega)) ?_))))
   refine ad (c_ fF F F (aJ hE) (fH (ap li) 0 (by show 0<5;decide))) ?_
   have Vp:=fun(w1:World) (hI:Inv w eJ w1)=>(haveI:=ey hI;Ax w1 e[i].op vQ sH)
   refine ao F (bm FD (aX Vp) F ?_)
   clear Vp
   rintro vr O' ⟨N,rfl,rfl,rfl⟩
   refine ad (bM F F) (ae (aP F (fun hc=>?_) (fun hc=>?_)))
   ·have xw:dQ e[i].op=2:=by omega
    obtain⟨k1,k2,k3,k4,k5,k6⟩:=g2 xw
    refine aO (aO ?_)
    refine fQ [(0,0),(1,0),(2,0),(3,0),(4,0),(5,0),(6,0),(7,0),(8,0),(9,0),(10,0),(11,0),(12,0),(13,0),(14,0),(15,0),(16,0),(17,0),(18,0),(19,0),(20,0),(21,0),(22,0),(23,0),(24,0),(25,0),(26,0),(27,0),(28,0),(29,0),(30,0),(31,0),(32,0),(33,0)] ?_
    refine au F (aK F) (au F (aK F) (au F (dU (i:=i) dJ cK F F (aJ hE) li (by rw[cz];omega)) (au F (ck cp F bl F F (aJ hE) (by rw[cz];omega)) ?_)))
    refine au F (c_ dS F F (aJ hE) (fH (ap li) 4 (by show 4<5;decide))) (au F (aK F) (au F (bT (fL F F (by omega)) (v':=vN (i-1)) (ax (Value.int .i64) (by omega))) (au F (aA (dP F F) (ak (by omega))) ?_)))
    refine au F (aK F) ?_
    refine bF F F F (aK F) ?_
    refine bF F F F (aA (bM F F) (ak (by omega))) ?_
    refine au F (b_ F F) (au F (aK F) ?_)
    refine bF F F F (aK F) ?_
    refine bF F F F (aK F) ?_
    refine bF F F F (bT (fL F F (by omega)) (v':=vN (i-1)) (ax (Value.int .i64) (by omega))) ?_
    refine bF F F F (dZ (i:=(i-1)) cI bl F F (dX (mG 0 F)) (by omega) (by rw[ar,cw];omega)) ?_
    refine bF F F F (c_ dS F F (dX (mG 0 F)) (show(bU (fs.take i))[i-1]? =some (vN (fs.getD (i-1) 0))from zv (by omega) (by omega))) ?_
    refine bF F F F (aA (bM F F) (ak (by omega))) ?_
    refine au F (b_ F F) (au F (aK F) ?_)
    refine bF F F F (aK F) ?_
    refine bF F F F (aK F) ?_
    refine bF F F F (dU (i:=i) dJ cK F F (aJ hE) li (by rw[cz];omega)) ?_
    refine bF F F F (ck cp F bl F F (aJ hE) (by rw[cz];omega)) ?_
    refine bF F F F (c_ dS F F (aJ hE) (fH (ap li) 3 (by show 3<5;decide))) ?_
    refine bF F F F (aK F) ?_
    refine bF F F F (aK F) ?_
    refine bF F F F (bT (fL F F (by omega)) (v':=vN (i-1)) (ax (Value.int .i64) (by omega))) ?_
    refine bF F F F (dZ (i:=(i-1)) cI bl F F (dX (mG 0 F)) (by omega) (by rw[ar,cw];omega)) ?_
    refine bF F F F (c_ dS F F (dX (mG 0 F)) (show(bU (fs.take i))[i-1]? =some (vN (fs.getD (i-1) 0))from zv (by omega) (by omega))) ?_
    refine bF F F F (sa (a:=(fs.getD (i-1) 0)) (b:=1) F F (by omega) (by omega)) ?_
    refine bF F F F (aA (dP F F) (ak (by omega))) ?_
    refine au F (b_ F F) ?_
    refine cy ?_
    refine a_ F (aE (be (ah F (ah F (ah F (ad (bT (fL F F (by omega)) (v':=vN (i-1)) (ax (Value.int .i64) (by omega))) (ad (dZ (i:=(i-1)) cI bl F F (dX (mG 0 F)) (by omega) (by rw[ar,cw];omega)) (ad (c_ dS F F (dX (mG 0 F)) (show(bU (fs.take i))[i-1]? =some (vN (fs.getD (i-1) 0))from zv (by omega) (by omega))) (ad (bT (fL F F (by omega)) (v':=vN (fs.getD (i-1) 0-1)) (ax (Value.int .i64) (by omega))) (ad (dZ (i:=(fs.getD (i-1) 0-1)) cI bl F F (dX (mG 0 F)) (by omega) (by rw[ar,cw];omega)) (ad (c_ dS F F (dX (mG 0 F)) (show(bU (fs.take i))[(fs.getD (i-1) 0-1)]? =some (vN (fs.getD (fs.getD (i-1) 0-1) 0))from zv (by omega) (by omega))) (aj F (ae ?_)))))))))))))
    exact⟨(by exact Sub.rf),⟨F,F,F,F,F,(ax (fun n9:Nat=>Value.int .i64 ((n9:Nat):Int)) (by rw[k6,k4];congr 1;omega)),trivial⟩⟩
   have Vq: ¬dQ e[i].op=2:=by omega
   refine aE ?_
   exact⟨(by exact Sub.rf),⟨F,F,F,F,F,(ax (fun n9:Nat=>Value.int .i64 ((n9:Nat):Int)) (by split;rfl;exact(g3 (by omega)).symm)),trivial⟩⟩
  rintro ρ O ⟨hS,hH⟩
  obtain⟨gP,rfl⟩:=hH.elim
  clear hH
  refine dv hS ?_
  refine be (ah F (ah F (ao F (cO (v:=vN (fs.getD i 0)) cI bl F F F (fun z1=>?_)))))
  refine ao F (dh 1 cI cI bl F F F F (by rw[ar,cw];omega) (by decide) (Src.row (j:=0) F (by simp)) (by simp[fu]) (by omega) (by decide) (by decide) (fun z2 um=>?_))
  refine aj F (ae (be (ah F (ad (dx (a:=i) (b:=1) F F (by omega)) (aj F (ae ?_))))))
  exact⟨i+1,by omega,[aq z2 um 3 1 ((bU (fs.take i))++[vN (fs.getD i 0)])],(by exact Sub.d (.k .z)),z2,um,by rw[aH (show i<fs.length by omega),show bU (fs.take i++[fs[i]])=bU (fs.take i)++[vN (fs[i])]from bo,show fs.getD i 0=fs[i] by rw[aw,ap (by omega)];rfl],by omega,⟨F,F,F,F,trivial⟩⟩
 have Bt: ¬i<e.length:=by omega
 have wj:i=e.length:=by omega
 refine cG ?_
 refine aO (ai (ah F (ah F (ad (cP dJ F) (ad (bT (fL F F (by omega)) (v':=vN (e.length-1)) (ax (Value.int .i64) (by omega))) (ad (dZ (i:=(e.length-1)) cI bl F F (dX (mG 0 F)) (by omega) (by rw[ar,cw];omega)) (ad (c_ dS F F (dX (mG 0 F)) (show(bU (fs.take i))[e.length-1]? =some (vN (fs.getD (e.length-1) 0))from zv (by omega) (by omega))) (ad (aA (dP F F) (ak (by omega))) (ae (a_ F (aE (aO (ai (ah F (ah F (ad (cP dJ F) (ad (bT (fL F F (by omega)) (v':=vN (e.length-1)) (ax (Value.int .i64) (by omega))) ?_)))))))))))))))))
 have PC:=fun(w1:World) (hI:Inv w [aq b c 3 1 (bU (fs.take i))] w1)=>(haveI:=ey hI;Rr eb ec e mf e.length (e.length-1) true w1 (hI.sl hE) (by omega) (by omega) Zq)
 refine ao F (bm FF (aX PC) F ?_)
 clear PC
 rintro vr O' ⟨N,rfl,rfl,rfl⟩
 refine ae (a_ F (aE (ai (aj F (ae (aN (az ?_)))))))
 refine aT (vI 0) Tryz.results22 F ?_
 exact⟨[],Sub.z,F,F⟩
end Go.Proofs.YtgdbfideeeegmaaGreatDoor

namespace Go.Proofs.YtgdbfideeeegmaaGreatDoor
open Go.Lx Go.RowKit _root_.Go.Proofs.Tryz
theorem Rt (w:World) [dB Tryz.prog w] (S:List UInt8) (qo:S.length≤4096) (v i:Nat) (hv:v≤6) (m:List eE) (hR:tZ 96 S 0 [] i S.length m) (oz: ∀x∈m,x.p<256∧x.n<256) (h0:im (v:Int) m=0):
  cA Tryz.prog 59 [(str S),vN v] w fun v N=> ∃b c,v=.tuple #[.slice b m.length c,vI 0]∧N=[aq b c 72 5 (bX m)]:=by
 refine aG func59 F ntmps59 F ?_
 refine ai (aj F (aj F (ae (aO (ai (ah F (ad (aA (cR F F) (ak (by omega))) (ah F (aB F F (aK F) (aB F F (aA (gH F F) (ak (by omega))) (ad (b_ F F) (ae ?_))))))))))))
 refine a_ F (aE (aO (ai (ah F (ad (w0 vg F) (ad (aA (gH F F) (ak (by omega))) (ae (a_ F (aE (ai (ah F (ad (cF (cs:=[(str S),(vI 0),nS,(vI 0)]) Np Ru (by kernel_rfl)) (ao F (dE (cs:=[(str S),(vI 0),nS,(vI 0)]) F F (fun z1=>?_)))))))))))))))
 refine aj F (ae (aO (T.eY 72 5 ?_)))
 refine be (ah F ?_)
 have mX:=(cd.under (A:=[oI z1 149 [(str S),vN 0,(.slice none (([]:List eE).length) 0),vI 0],aq none 0 72 5 (bX [])]) (B:=[]) (O:=[aq none 0 72 5 [],oI z1 149 [(str S),(vI 0),nS,(vI 0)]]) (hR w z1 none 0) (by exact Sub.eQ [aq none 0 72 5 []] _ (.k .z)))
 refine ao F (bm B8 mX F ?_)
 clear mX
 rintro vr O' ⟨A9,rfl,lb,lc,rfl,rfl⟩
 refine ae (aO (ai (ah F (ad (bf F) (ad (bj fV F iV F F) (ad (bn 0 ow F F F F) (ad (aA (bM F F) (av (by decide))) (ah F (aB F F (aK F) (aB F F (bf F) (aB F F (bj fV F bl F F) (aB F F (bn 0 dS F F F F) (aB F F (aK F) ?_)))))))))))))
 refine aB F F (w0 vg F) (aB F F (aA (cR F F) (ak (by omega))) (ad (cg F F) (ae (a_ F (aE (aO (ai (ah F (ad (bf F) (ad (bj fV F iV F F) (ad (bn 0 ow F F F F) (ad (aA (bM F F) (av (by decide))) ?_))))))))))))
 refine ae ?_
 refine bW F ?_
 refine be (ah F (ah F (ad (bf F) (ad (bj fV F g_ F F) (ad (bn 0 dJ F F F F) (ah F ?_))))))
 have Vr:=fun(w1:World) (hI:Inv w [oI z1 149 [(str S),vN S.length,(.slice lb m.length lc),vI 0],aq lb lc 72 5 (bX m)] w1)=>(haveI:=ey hI;Vn w1 lb lc m (hI.gW (mG 1 F)) oz v h0)
 refine ao F (bm Vs (aX Vr) F ?_)
 clear Vr
 rintro vr O' ⟨N,rfl,rfl,rfl⟩
 refine ad (bf F) (ad (bj fV F iV F F) (ao F (bV (vs:=[(vI 0)]) 0 iV F F F F ?_)))
 refine ae (aO (ai (ah F (ad (bf F) (ad (bj fV F iV F F) (ad (bn 0 ow F F F F) (ad (aA (dP F F) (ak (by decide))) (ae (a_ F (aE (ai (ah F (ad (bf F) (ad (bj fV F g_ F F) (ad (bn 0 dJ F F F F) (aj F (aj F ?_)))))))))))))))))
 refine ae (aN (az ?_))
 refine dc (.slice lb m.length lc) (vI 0) Tryz.results59 F F ?_
 exact⟨[aq lb lc 72 5 (bX m)],(by exact Sub.d (.k .z)),_,_,F,F⟩
theorem JK (w:World) [dB Tryz.prog w] (S:List UInt8) (qo:S.length≤4096) (v i:Nat) (hv:v≤6) (m:List eE) (hR:tZ 96 S 0 [] i S.length m) (oz: ∀x∈m,x.p<256∧x.n<256) (h0:im (v:Int) m=0):
  cA Tryz.prog 32 [(str S),vN v] w fun v N=> ∃b c,v=.slice b m.length c∧N=[aq b c 72 5 (bX m)]:=by
 refine aG func32 F ntmps32 F ?_
 refine ai (aj F (ae (ai (ah F (ah F ?_)))))
 have qt:=fun(w1:World) (hI:Inv w [] w1)=>(haveI:=ey hI;Rt w1 S qo v i hv m hR oz h0)
 refine ao F (bm Vt (aX qt) F ?_)
 clear qt
 rintro vr O' ⟨N,rfl,b,c,rfl,rfl⟩
 refine ah F (ad (bG (vs:=_) F F) (ad (bG (vs:=_) F F) (aj F (aj F (ae (ai (ah F (aj F (ae (aN (az ?_)))))))))))
 refine aT (.slice b m.length c) Tryz.results32 F ?_
 exact⟨[aq b c 72 5 (bX m)],(by exact Sub.rf),_,_,F,F⟩
end Go.Proofs.YtgdbfideeeegmaaGreatDoor

