/- Contracts of functions of the program, and what they answer. Conditions: those each theorem names. -/
import Derived.Test.YtgdbfideeeegmaaGreatDoorB3
import Derived.Test.YtgdbfideeeegmaaGreatDoorA2
import Derived.Test.YtgdbfideeeegmaaGreatDoorA5
import Derived.Test.YtgdbfideeeegmaaGreatDoorA1
import Derived.Test.YtgdbfideeeegmaaGreatDoorA0
set_option linter.unusedSectionVars false
set_option linter.unusedSimpArgs false
set_option linter.unusedVariables false
set_option linter.unnecessarySimpa false
set_option maxHeartbeats 8000000
set_option maxRecDepth 20000
namespace Go.Lx
open Go.RowKit Go.Proofs.YtgdbfideeeegmaaGreatDoor
abbrev PP:=Nat×List dK
def ey (s:Nat) (x:dK):dK:=if x.op=7∨x.op=8 then {x with a:=x.a+s}else if x.op=4∨x.op=5∨x.op=6 then {x with a:=x.a+s,b:=x.b+s}else x
theorem B2 (x:dK):ey 0 x=x:=by
 unfold ey
 split
 ·simp
 ·split<;>simp
def Hz (op:Nat) (out:List dK):PP:=if 64<out.length then(3,[])else(0,out)
def qk (op:Nat) (a:PP):PP:=if a.1=3 then(3,[])else Hz op (a.2++[⟨op,0,0,(a.2.length:Int)-1,0⟩])
def oq (op:Nat) (a b:PP):PP:=if a.1=3∨b.1=3 then(3,[])else Hz op (a.2++b.2.map (ey a.2.length)++[⟨op,0,0,(a.2.length:Int)-1,((a.2.length+b.2.length:Nat):Int)-1⟩])
def AB (a b:PP):PP:=if a.1=1 then b else if b.1=1∨(a.1≠3∧a.2=b.2)then a else oq 5 a b
def B3 (a b:PP):PP:=if a.1=1∨b.1=2 then a else if b.1=1∨a.1=2 then b else oq 4 a b
def zn (a:PP):PP:=if a.1=1∨a.1=2 then(2,[⟨2,0,0,0,0⟩])else qk 8 a
structure yC (n:Nat) (x:dK):Prop where
 op:1≤x.op∧x.op≤8
 p:x.p<256
 nn:x.n<256
 a0:0≤x.a
 a1:x.a<n
 b0:0≤x.b
 b1:x.b<n
theorem yC.mono {n m:Nat} {x:dK} (h:yC n x) (hm:n≤m):yC m x:=⟨h.op,h.p,h.nn,h.a0,by have:=h.a1;omega,h.b0,by have:=h.b1;omega⟩
structure fF (a:PP):Prop where
 k:a.1≤3
 len:a.2.length≤64
 nil:a.1=3→a.2=[]
 ne:a.1≠3→a.2≠ []
 pc: ∀x∈a.2,yC a.2.length x
theorem fF.one {k o p n:Nat} (hk:k≤2) (ho:1≤o∧o≤8) (hp:p<256) (hn:n<256):fF (k,[⟨o,p,n,0,0⟩]):=
 ⟨cn hk (by decide),by simp,fun h=>absurd (show k=3 from h) (by omega),fun _=>by simp,fun x hx=>by rw[List.mem_singleton.1 hx];exact⟨ho,hp,hn,Int.le_refl _,Int.zero_lt_one,Int.le_refl _,Int.zero_lt_one⟩⟩
theorem fF.RJ:fF (3,[]):=⟨by decide,by simp,fun _=>rfl,fun h=>absurd F h,fun x hx=>by simp at hx⟩
theorem zp {op:Nat} {out:List dK} (v_:out≠ []) (h: ∀x∈out,yC out.length x):fF (Hz op out):=by
 unfold Hz
 split
 ·exact .RJ
 ·rename_i hl
  exact⟨bn _,by show out.length≤64;omega,fun h=>absurd (show 0=3 from h) (by decide),fun _=>v_,h⟩
theorem fF.pos {a:PP} (h:fF a) (h3:a.1≠3):0<a.2.length:=List.length_pos_iff.2 (h.ne h3)
theorem Eb {op:Nat} (ho:1≤op∧op≤8) {a:PP} (ha:fF a):fF (qk op a):=by
 unfold qk
 split
 ·exact .RJ
 ·rename_i h3
  have h0:=ha.pos h3
  refine zp (by simp) fun x hx=>?_
  rw[aw,List.length_singleton]
  rcases List.mem_append.1 hx with hx|hx
  ·exact(ha.pc x hx).mono (by omega)
  ·rw[List.mem_singleton.1 hx];exact⟨ho,by show 0<256;omega,by show 0<256;omega,by show 0≤(a.2.length:Int)-1;omega,by show(a.2.length:Int)-1<_;omega,Int.le_refl _,by show(0:Int)<_;omega⟩
theorem RK {s n:Nat} {x:dK} (h:yC n x):yC (s+n) (ey s x):=by
 obtain⟨h1,h2,h3,h4,h5,h6,h7⟩:=h
 unfold ey
 split
 ·exact⟨h1,h2,h3,by show 0≤x.a+s;omega,by show x.a+s<_;omega,h6,by show x.b<_;omega⟩
 ·split
  ·exact⟨h1,h2,h3,by show 0≤x.a+s;omega,by show x.a+s<_;omega,by show 0≤x.b+s;omega,by show x.b+s<_;omega⟩
  ·exact⟨h1,h2,h3,h4,by omega,h6,by omega⟩
theorem xg {op:Nat} (ho:1≤op∧op≤8) {a b:PP} (ha:fF a) (hb:fF b):fF (oq op a b):=by
 unfold oq
 split
 ·exact .RJ
 ·rename_i h3
  have h0:=ha.pos (fun e=>h3 (.inl e))
  have h1:=hb.pos (fun e=>h3 (.inr e))
  refine zp (by simp) fun x hx=>?_
  rw[aw,aw,ar,List.length_singleton]
  rcases List.mem_append.1 hx with hx|hx
  ·rcases List.mem_append.1 hx with hx|hx
   ·exact(ha.pc x hx).mono (by omega)
   ·obtain⟨y,hy,rfl⟩:=List.mem_map.1 hx
    exact(RK (hb.pc y hy)).mono (by omega)
  ·rw[List.mem_singleton.1 hx];exact⟨ho,by show 0<256;omega,by show 0<256;omega,by show 0≤(a.2.length:Int)-1;omega,by show(a.2.length:Int)-1<_;omega,by show(0:Int)≤((a.2.length+b.2.length:Nat):Int)-1;omega,by show((a.2.length+b.2.length:Nat):Int)-1<_;omega⟩
theorem uo {a b:PP} (ha:fF a) (hb:fF b):fF (AB a b):=by
 unfold AB
 split
 ·exact hb
 ·split
  ·exact ha
  ·exact xg (by decide) ha hb
theorem q9 {a b:PP} (ha:fF a) (hb:fF b):fF (B3 a b):=by
 unfold B3
 split
 ·exact ha
 ·split
  ·exact hb
  ·exact xg (by decide) ha hb
theorem xh {a:PP} (ha:fF a):fF (zn a):=by
 unfold zn
 split
 ·exact .one (by decide) (by decide) (by decide) (by decide)
 ·exact Eb (by decide) ha
structure ER where
 b:Option Addr
 c:Nat
 e:List dK
def ER.sQ (T:TypeId) (r:ER):Item:=aq r.b r.c T 5 (bt r.e)
def dq (T:TypeId) (p:List ER):List Item:=p.map (ER.sQ T)
def gi (p:List ER) (r:ER):Prop:=r∈p∨r.e=[]
theorem gi.sl {T:TypeId} {w base:World} {O:List Item} {p:List ER} {r:ER} (hI:Inv base O w) (hO: ∀it∈dq T p,it∈O) (h:gi p r):Sl w r.b (bt r.e):=by
 rcases h with h|h
 ·exact hI.ii (hO _ (List.mem_map.2 ⟨r,h,F⟩))
 ·rw[h];exact fun i hi=>absurd hi (by simp[bt])
theorem gi.mono {p q:List ER} {r:ER} (h:gi p r) (hq: ∀x∈p,x∈q):gi q r:=h.elim (fun h=>.inl (hq _ h)) .inr
theorem ql (T:TypeId) (p q:List ER):dq T (p++q)=dq T p++dq T q:=bm
structure PR where
 k:Nat
 r:ER
instance:Inhabited PR:=⟨⟨0,none,0,[]⟩⟩
def PR.pp (x:PR):PP:=(x.k,x.r.e)
abbrev PR.cells (x:PR):List Value:=[.int .u8 (x.k:Int),.slice x.r.b x.r.e.length x.r.c]
abbrev PR.val (x:PR):Value:=.agg #[.int .u8 (x.k:Int),.slice x.r.b x.r.e.length x.r.c]
def eH (l:List PR):List Value:=l.flatMap PR.cells
theorem hU (l:List PR):(eH l).length=l.length*2:=by
 induction l with
 |nil=>rfl
 |cons p l ih=>simp only[eH,List.flatMap_cons,aw,bo,bV]at ih⊢;rw[ih];omega
theorem nL {l:List PR}: ∀ {i:Nat} (hi:i<l.length) (j:Nat) (h:j<l[i].cells.length),(eH l)[i*2+j]? =some l[i].cells[j]:=by
 induction l with
 |nil=>intro i hi;simp at hi
 |cons p l ih=>
  intro i hi j hj
  show(p.cells++eH l)[i*2+j]? =_
  cases i with
  |zero=>rw[Nat.zero_mul,Nat.zero_add,bH (show j<p.cells.length from hj)];exact ap hj
  |succ i=>
   have h3:p.cells.length=2:=rfl
   rw[bT (by rw[h3];omega),show(i+1)*2+j-p.cells.length=i*2+j by rw[h3];omega]
   exact ih (by simpa using hi) j hj
theorem ta (l:List PR) (c:PR):eH (l++[c])=eH l++c.cells:=by simp[eH]
def Uq (T:TypeId) (a:List PR) (pp:PP) (v:Value) (N:List Item):Prop:= ∃(q:List ER) (c:PR),v=c.val∧N=dq T q∧c.pp=pp∧(gi q c.r∨ ∃x∈a,c.r=x.r)
theorem lN (a b:List dK):bt (a++b)=bt a++bt b:=List.flatMap_append
end Go.Lx

namespace Go.Proofs.YtgdbfideeeegmaaGreatDoor
open Go.Lx Go.RowKit _root_.Go.Proofs.Tryz
theorem xi (w:World) [dE Tryz.prog w] (k:Nat) (x:dK):
  cH Tryz.prog 39 [v8 k,x.ag] w (Uq 72 [] (k,[x])):=by
 refine aF func39 F ntmps39 F ?_
 refine ai (ao F (dG (cs:=x.cl) F F (fun z1=>?_)))
 refine ao F (bs db F (fun z2=>?_))
 refine ae (ai (ah F (ad (eu 1 bU F cm F F F) (ao F (cz (m:=1) (parts:=[(0,_)]) (cs:=x.cl) cX cm (by decide) (by kernel_rfl) F (fun z3=>?_))))))
 refine ad (cE (cs:=[v8 k,(.slice (aD z3) 1 1)]) qm db (by kernel_rfl)) (ao F (bN (vs:=[v8 k,(.slice (aD z3) 1 1)]) 1 db F F F F ?_))
 refine ae (aK (aA ?_))
 refine cM (i:=1) Tryz.results39 fZ F db F F F ?_
 exact⟨[aq (aD z3) 1 72 5 x.cl],(by exact Sub.k .z),[⟨(aD z3),1,[x]⟩],⟨k,⟨(aD z3),1,[x]⟩⟩,F,F,F,.inl (.inl (List.mem_singleton.2 F))⟩
theorem ef {s:Nat} {x:dK} (h:x.op=7∨x.op=8):ey s x=⟨x.op,x.p,x.n,x.a+s,x.b⟩:=aO h
theorem eg {s:Nat} {x:dK} (h:x.op=4∨x.op=5∨x.op=6):ey s x=⟨x.op,x.p,x.n,x.a+s,x.b+s⟩:=by unfold ey;rw[az (by omega),aO h]
theorem eS {s:Nat} {x:dK} (h: ¬(x.op=7∨x.op=8)) (h2: ¬(x.op=4∨x.op=5∨x.op=6)):ey s x=⟨x.op,x.p,x.n,x.a,x.b⟩:=by unfold ey;rw[az h,az h2]
theorem zq {op:Nat} {out:List dK} (h:64<out.length):Hz op out=(3,[]):=aO h
theorem B4 {op:Nat} {out:List dK} (h: ¬64<out.length):Hz op out=(0,out):=az h
theorem Ec {op:Nat} {a:PR} (ha: ¬a.k=3) (h:64<a.r.e.length+1):qk op a.pp=(3,[]):=(az ha).trans (zq (show 64<(a.r.e++[_]).length by simpa using h))
theorem HA {op:Nat} {a:PR} (ha: ¬a.k=3) (h: ¬64<a.r.e.length+1):qk op a.pp=(0,a.r.e++[⟨op,0,0,(a.r.e.length:Int)-1,0⟩]):=(az ha).trans (B4 (show¬64<(a.r.e++[_]).length by simpa using h))
theorem Ed {op:Nat} {a b:PR} (ha: ¬a.k=3) (hb: ¬b.k=3) (h:64<a.r.e.length+b.r.e.length+1):oq op a.pp b.pp=(3,[]):=(az (fun h=>h.elim ha hb)).trans (zq (show 64<(a.r.e++b.r.e.map _++[_]).length by simpa[Nat.add_assoc]using h))
theorem HB {op:Nat} {a b:PR} (ha: ¬a.k=3) (hb: ¬b.k=3) (h: ¬64<a.r.e.length+b.r.e.length+1):oq op a.pp b.pp=(0,a.r.e++b.r.e.map (ey a.r.e.length)++[⟨op,0,0,(a.r.e.length:Int)-1,((a.r.e.length+b.r.e.length:Nat):Int)-1⟩]):=(az (fun h=>h.elim ha hb)).trans (B4 (show¬64<(a.r.e++b.r.e.map _++[_]).length by simpa[Nat.add_assoc]using h))
theorem jw {e:List dK} {j:Nat} (h:j<e.length) (g:dK→dK):(e.take (j+1)).map g=(e.take j).map g++[g e[j]]:=by rw[aH h,bm];rfl
theorem RL (w:World) [dE Tryz.prog w] (op:Nat) (tb:Option Addr) (tc:Nat) (a:PR) (hT:Sl w tb (eH [a])) (ha:Sl w a.r.b (bt a.r.e)) (Bv:fF a.pp):
  cH Tryz.prog 68 [v8 op,(.slice tb 1 tc)] w (Uq 72 [a] (qk op a.pp)):=by
 refine aF func68 F ntmps68 F ?_
 refine ai (ao F (bs db F (fun z1=>?_)))
 refine ae (ai (aj F (ae (ai (ad (s7 (cs:=[(vI 0),(vI 0)]) td bj uq (by kernel_rfl)) (ao F (bs uq F (fun z2=>?_))))))))
 refine ao F (bN (vs:=[(vI 0),(vI 0)]) 0 uq F F F F ?_)
 refine ae (aM (ai (ah F (ad (bK (cQ l9 F) (v':=vI 1) F) (ah F (ae (aU ?_)))))))
 refine pf 2 (T.round ?_)
 refine ai (ad (aB (cT F F) (b':=true) F) (ae (aM ?_)))
 refine bO F ?_
 refine aE (aM (aU (ai (ah F (ad (dT (i:=0) l9 db F F (aL hT) (by simp) (by rw[hU];simp)) (ad (eO (vs:=a.cells) fZ F db F F (br _) (aL hT) (nL (l:=[a]) (i:=0) (by simp))) (ao F (bs db F (fun z3=>?_)))))))))
 refine aj F (ao F (bN (vs:=a.cells) 0 db F F F F ?_))
 refine ae (aM (ai (ad (a_ fZ F nM F F) (ad (bi 0 ur F F F F) (ad (bJ F F) (ae (aP F (fun hc=>?_) (fun hc=>?_))))))))
 ·have tf:a.k=3:=by omega
  refine ai (ad (cE (cs:=[.int .u8 3,nS]) qm db (by kernel_rfl)) (ao F (bN (vs:=[.int .u8 3,nS]) 2 db F F F F ?_)))
  refine ae (aK (aA ?_))
  refine cM (i:=2) Tryz.results68 fZ F db F F F ?_
  exact⟨[],Sub.z,[],⟨3,⟨none,0,[]⟩⟩,F,F,(aO tf).symm,.inl (.inr F)⟩
 have zr: ¬a.k=3:=by omega
 have RM: ¬a.k=3:=zr
 refine aE (ai (ah F (ad (cQ cX F) (aj F (ae (aM (ai (ad (a_ fZ F fT F F) (ad (bi 0 cX F F F F) (ad (cQ cX F) (ah F (ae (aU (T.eX 72 5 ?_))))))))))))))
 refine dO (fun(j1:Nat) ρ O=> ∃(oa:Option Addr) (ka:Nat),O=[aq oa ka 72 5 (bt ((a.r.e.take j1).map (ey 0))),oI z3 69 a.cells,oI z2 153 [(vI 0),(vI 0)],oI z1 69 [(.int .u8 0),nS]]∧j1≤a.r.e.length∧dv [(0,v8 op),(1,(.slice tb 1 tc)),(4,(.pointer (aD z1))),(5,(.slice oa (((a.r.e.take j1).map (ey 0)).length) ka)),(6,(.pointer (aD z2))),(7,vI 0),(8,(.pointer (aD z3))),(9,vI (0:Int)),(12,(.agg #[(vI 0),(vI 0)])),(13,(.slice tb 1 tc)),(14,vI 1),(15,vI 0),(27,(.slice a.r.b a.r.e.length a.r.c)),(28,vI (a.r.e.length:Int)),(29,vN j1)] ρ) (fun j1=>a.r.e.length-j1) 0 ?_ ?_
 ·exact⟨none,0,F,bn _,(.of F)⟩
 rintro j1 ρ O ⟨oa,ka,rfl,hj,hH⟩
 obtain⟨gF,rfl⟩:=hH.elim
 clear hH
 refine ai (ad (cT F F) (ae (aM (aP F (fun hc=>?_) (fun hc=>?_)))))
 ·have iP:j1<a.r.e.length:=by omega
  have DJ:yC a.r.e.length a.r.e[j1]:=Bv.pc _ (aQ iP)
  have Un:=DJ.a0;have zl:=DJ.a1;have DL:=DJ.b0;have Yv:=DJ.b1
  have Zn:a.r.e.length≤64:=Bv.len
  refine aE (aM (aU (ai ?_)))
  refine ad (dT (i:=j1) cX cm F F (aL ha) iP (by rw[bY];omega)) (ad (eO (vs:=a.r.e[j1].cl) bU F cm F F (br _) (aL ha) (fy (ap iP))) ?_)
  refine ao F (bs cm F (fun z4=>?_))
  refine ao F (bN (vs:=a.r.e[j1].cl) 0 cm F F F F ?_)
  refine ae ?_
  refine gz (fun ρ O=>Sub [oI z4 72 (ey 0 a.r.e[j1]).cl,aq oa ka 72 5 (bt ((a.r.e.take j1).map (ey 0))),oI z3 69 a.cells,oI z2 153 [(vI 0),(vI 0)],oI z1 69 [(.int .u8 0),nS]] O∧dv [(0,v8 op),(1,(.slice tb 1 tc)),(4,(.pointer (aD z1))),(5,(.slice oa (((a.r.e.take j1).map (ey 0)).length) ka)),(6,(.pointer (aD z2))),(7,vI 0),(8,(.pointer (aD z3))),(9,vI (0:Int)),(11,(.pointer (aD z4))),(12,(.agg #[(vI 0),(vI 0)])),(13,(.slice tb 1 tc)),(14,vI 1),(15,vI 0),(27,(.slice a.r.b a.r.e.length a.r.c)),(28,vI (a.r.e.length:Int)),(29,vN j1)] ρ) ?_ ?_
  ·refine aM ?_
   refine a7 (ad (a_ bU F du F F) (ad (bi 0 fA F F F F) (ae (aU (aM (ai (ad (bJ F F) (aj F (ae (aP F (fun hc=>?_) (fun hc=>?_)))))))))))
   ·have qn:a.r.e[j1].op=7:=by omega
    refine aE (aP F (fun hc=>?_) (fun hc=>?_))
    ·have qn:a.r.e[j1].op=7:=by omega
     refine a7 (ad (a_ bU F bj F F) (ad (bi 0 dP F F F F) (ah F (ad (dL F F (by omega)) (ad (a_ bU F bj F F) (ao F (bN (vs:=[(vI (a.r.e[j1].a+(0:Int)))]) 0 bj F F F F ?_)))))))
     refine ae ?_
     exact⟨(by first|(rw[ef (by omega)];exact Sub.rf)|(rw[eg (by omega)];exact Sub.rf)|(rw[eS (by omega) (by omega)];exact Sub.rf)),(.of F)⟩
    have qo: ¬a.r.e[j1].op=7:=by omega
    refine aM (ai (ad (bJ F F) (aj F (ae (aP F (fun hc=>?_) (fun hc=>?_))))))
    ·have h_:a.r.e[j1].op=4:=by omega
     refine aE (aP F (fun hc=>?_) (fun hc=>?_))
     ·have h_:a.r.e[j1].op=4:=by omega
      refine a7 (ad (a_ bU F bj F F) (ad (bi 0 dP F F F F) (ah F (ad (dL F F (by omega)) (ad (a_ bU F bj F F) (ad (bi 0 dP F F F F) (ah F (ad (dL F F (by omega)) (ad (a_ bU F bj F F) (ao F (bN (vs:=[(vI (a.r.e[j1].a+(0:Int)))]) 0 bj F F F F ?_)))))))))))
      refine ad (a_ bU F bj F F) (ao F (bN (vs:=[(vI (a.r.e[j1].b+(0:Int)))]) 0 bj F F F F ?_))
      refine ae ?_
      exact⟨(by first|(rw[ef (by omega)];exact Sub.rf)|(rw[eg (by omega)];exact Sub.rf)|(rw[eS (by omega) (by omega)];exact Sub.rf)),(.of F)⟩
     have ik: ¬a.r.e[j1].op=4:=by omega
     refine aE ?_
     exact⟨(by first|(rw[ef (by omega)];exact Sub.rf)|(rw[eg (by omega)];exact Sub.rf)|(rw[eS (by omega) (by omega)];exact Sub.rf)),(.of F)⟩
    have ik: ¬a.r.e[j1].op=4:=by omega
    refine ai (ad (bJ F F) (aj F (ae (aP F (fun hc=>?_) (fun hc=>?_)))))
    ·have h_:a.r.e[j1].op=5:=by omega
     refine aE (aP F (fun hc=>?_) (fun hc=>?_))
     ·have h_:a.r.e[j1].op=5:=by omega
      refine a7 (ad (a_ bU F bj F F) (ad (bi 0 dP F F F F) (ah F (ad (dL F F (by omega)) (ad (a_ bU F bj F F) (ad (bi 0 dP F F F F) (ah F (ad (dL F F (by omega)) (ad (a_ bU F bj F F) (ao F (bN (vs:=[(vI (a.r.e[j1].a+(0:Int)))]) 0 bj F F F F ?_)))))))))))
      refine ad (a_ bU F bj F F) (ao F (bN (vs:=[(vI (a.r.e[j1].b+(0:Int)))]) 0 bj F F F F ?_))
      refine ae ?_
      exact⟨(by first|(rw[ef (by omega)];exact Sub.rf)|(rw[eg (by omega)];exact Sub.rf)|(rw[eS (by omega) (by omega)];exact Sub.rf)),(.of F)⟩
     have ik: ¬a.r.e[j1].op=5:=by omega
     refine aE ?_
     exact⟨(by first|(rw[ef (by omega)];exact Sub.rf)|(rw[eg (by omega)];exact Sub.rf)|(rw[eS (by omega) (by omega)];exact Sub.rf)),(.of F)⟩
    have ik: ¬a.r.e[j1].op=5:=by omega
    refine a7 (ad (bJ F F) (aj F (ae (aP F (fun hc=>?_) (fun hc=>?_)))))
    ·have h_:a.r.e[j1].op=6:=by omega
     refine a7 (ad (a_ bU F bj F F) (ad (bi 0 dP F F F F) (ah F (ad (dL F F (by omega)) (ad (a_ bU F bj F F) (ad (bi 0 dP F F F F) (ah F (ad (dL F F (by omega)) (ad (a_ bU F bj F F) (ao F (bN (vs:=[(vI (a.r.e[j1].a+(0:Int)))]) 0 bj F F F F ?_)))))))))))
     refine ad (a_ bU F bj F F) (ao F (bN (vs:=[(vI (a.r.e[j1].b+(0:Int)))]) 0 bj F F F F ?_))
     refine ae ?_
     exact⟨(by first|(rw[ef (by omega)];exact Sub.rf)|(rw[eg (by omega)];exact Sub.rf)|(rw[eS (by omega) (by omega)];exact Sub.rf)),(.of F)⟩
    have ik: ¬a.r.e[j1].op=6:=by omega
    refine aE ?_
    exact⟨(by first|(rw[ef (by omega)];exact Sub.rf)|(rw[eg (by omega)];exact Sub.rf)|(rw[eS (by omega) (by omega)];exact Sub.rf)),(.of F)⟩
   have qo: ¬a.r.e[j1].op=7:=by omega
   refine a7 (ad (bJ F F) (aj F (ae (aP F (fun hc=>?_) (fun hc=>?_)))))
   ·have qn:a.r.e[j1].op=8:=by omega
    refine a7 (ad (a_ bU F bj F F) (ad (bi 0 dP F F F F) (ah F (ad (dL F F (by omega)) (ad (a_ bU F bj F F) (ao F (bN (vs:=[(vI (a.r.e[j1].a+(0:Int)))]) 0 bj F F F F ?_)))))))
    refine ae ?_
    exact⟨(by first|(rw[ef (by omega)];exact Sub.rf)|(rw[eg (by omega)];exact Sub.rf)|(rw[eS (by omega) (by omega)];exact Sub.rf)),(.of F)⟩
   have qo: ¬a.r.e[j1].op=8:=by omega
   refine aM (ai (ad (bJ F F) (aj F (ae (aP F (fun hc=>?_) (fun hc=>?_))))))
   ·have h_:a.r.e[j1].op=4:=by omega
    refine aE (aP F (fun hc=>?_) (fun hc=>?_))
    ·have h_:a.r.e[j1].op=4:=by omega
     refine a7 (ad (a_ bU F bj F F) (ad (bi 0 dP F F F F) (ah F (ad (dL F F (by omega)) (ad (a_ bU F bj F F) (ad (bi 0 dP F F F F) (ah F (ad (dL F F (by omega)) (ad (a_ bU F bj F F) (ao F (bN (vs:=[(vI (a.r.e[j1].a+(0:Int)))]) 0 bj F F F F ?_)))))))))))
     refine ad (a_ bU F bj F F) (ao F (bN (vs:=[(vI (a.r.e[j1].b+(0:Int)))]) 0 bj F F F F ?_))
     refine ae ?_
     exact⟨(by first|(rw[ef (by omega)];exact Sub.rf)|(rw[eg (by omega)];exact Sub.rf)|(rw[eS (by omega) (by omega)];exact Sub.rf)),(.of F)⟩
    have ik: ¬a.r.e[j1].op=4:=by omega
    refine aE ?_
    exact⟨(by first|(rw[ef (by omega)];exact Sub.rf)|(rw[eg (by omega)];exact Sub.rf)|(rw[eS (by omega) (by omega)];exact Sub.rf)),(.of F)⟩
   have ik: ¬a.r.e[j1].op=4:=by omega
   refine ai (ad (bJ F F) (aj F (ae (aP F (fun hc=>?_) (fun hc=>?_)))))
   ·have h_:a.r.e[j1].op=5:=by omega
    refine aE (aP F (fun hc=>?_) (fun hc=>?_))
    ·have h_:a.r.e[j1].op=5:=by omega
     refine a7 (ad (a_ bU F bj F F) (ad (bi 0 dP F F F F) (ah F (ad (dL F F (by omega)) (ad (a_ bU F bj F F) (ad (bi 0 dP F F F F) (ah F (ad (dL F F (by omega)) (ad (a_ bU F bj F F) (ao F (bN (vs:=[(vI (a.r.e[j1].a+(0:Int)))]) 0 bj F F F F ?_)))))))))))
     refine ad (a_ bU F bj F F) (ao F (bN (vs:=[(vI (a.r.e[j1].b+(0:Int)))]) 0 bj F F F F ?_))
     refine ae ?_
     exact⟨(by first|(rw[ef (by omega)];exact Sub.rf)|(rw[eg (by omega)];exact Sub.rf)|(rw[eS (by omega) (by omega)];exact Sub.rf)),(.of F)⟩
    have ik: ¬a.r.e[j1].op=5:=by omega
    refine aE ?_
    exact⟨(by first|(rw[ef (by omega)];exact Sub.rf)|(rw[eg (by omega)];exact Sub.rf)|(rw[eS (by omega) (by omega)];exact Sub.rf)),(.of F)⟩
   have ik: ¬a.r.e[j1].op=5:=by omega
   refine a7 (ad (bJ F F) (aj F (ae (aP F (fun hc=>?_) (fun hc=>?_)))))
   ·have h_:a.r.e[j1].op=6:=by omega
    refine a7 (ad (a_ bU F bj F F) (ad (bi 0 dP F F F F) (ah F (ad (dL F F (by omega)) (ad (a_ bU F bj F F) (ad (bi 0 dP F F F F) (ah F (ad (dL F F (by omega)) (ad (a_ bU F bj F F) (ao F (bN (vs:=[(vI (a.r.e[j1].a+(0:Int)))]) 0 bj F F F F ?_)))))))))))
    refine ad (a_ bU F bj F F) (ao F (bN (vs:=[(vI (a.r.e[j1].b+(0:Int)))]) 0 bj F F F F ?_))
    refine ae ?_
    exact⟨(by first|(rw[ef (by omega)];exact Sub.rf)|(rw[eg (by omega)];exact Sub.rf)|(rw[eS (by omega) (by omega)];exact Sub.rf)),(.of F)⟩
   have ik: ¬a.r.e[j1].op=6:=by omega
   refine aE ?_
   exact⟨(by first|(rw[ef (by omega)];exact Sub.rf)|(rw[eg (by omega)];exact Sub.rf)|(rw[eS (by omega) (by omega)];exact Sub.rf)),(.of F)⟩
  rintro ρ O ⟨hS,hH⟩
  obtain⟨gF,rfl⟩:=hH.elim
  clear hH
  refine dx hS ?_
  refine a7 (ah F (ad (eu 0 bU F cm F F F) (ao F (cz (m:=1) (parts:=[(0,_)]) (cs:=(ey 0 a.r.e[j1]).cl) cX cm (by decide) (by kernel_rfl) F (fun z5=>?_)))))
  refine ao F (cW 2 cX cX cm F F F F (by rw[bY]) (by decide) (Src.row (j:=0) F (by simp)) (by simp[fa]) (by simp only[dn,aw,ar,ck];omega) (by decide) (by decide) (fun z6 AC=>?_))
  refine aj F (ae (a7 (ad (dy (a:=j1) (b:=1) F F (by omega)) (ah F (ae ?_)))))
  exact⟨j1+1,by omega,[aq z6 AC 72 5 ((bt ((a.r.e.take j1).map (ey 0)))++(ey 0 a.r.e[j1]).cl),oI z3 69 a.cells,oI z2 153 [(vI 0),(vI 0)],oI z1 69 [(.int .u8 0),nS]],(by exact Sub.d (.d (.k (.k (.k (.k .z)))))),z6,AC,by rw[jw iP,lN (((a.r.e.take j1).map (ey 0)))];rfl,by omega,⟨F,F,F,(ax (fun n9=>Value.slice z6 n9 AC) (show(((a.r.e.take j1).map (ey 0)).length)+1=(((a.r.e.take (j1+1)).map (ey 0))).length by rw[jw iP];simp only[aw,bo,bV]<;>omega)),F,F,F,F,F,F,F,F,F,F,F,trivial⟩⟩
 have FH: ¬j1<a.r.e.length:=by omega
 have MU:j1=a.r.e.length:=by omega
 have Jt:0<a.r.e.length:=Bv.pos RM
 have hqa:a.r.e.length≤64:=Bv.len
 have Ur:((a.r.e.take j1).map (ey 0))=a.r.e:=by rw[MU,List.take_length,show ey 0=id from funext B2,List.map_id]
 have JD:((a.r.e.take j1).map (ey 0)).length=a.r.e.length:=by rw[MU];simp
 refine cK ?_
 refine a7 (ah F (ah F (ad (cQ cX F) (ad (kZ (a:=(((a.r.e.take j1).map (ey 0)).length)) (b:=1) F F (by omega) (by omega)) (ad (jA (i:=0) td bj F F (by decide)) (ao F (bN (vs:=[(vN ((((a.r.e.take j1).map (ey 0)).length)-1))]) 2 bj F F F F ?_)))))))
 refine ae (a7 (ad (bK (dL F F (by omega)) (v':=vI 1) F) (ah F (ae ?_))))
 refine nJ [aq oa ka 72 5 (bt ((a.r.e.take j1).map (ey 0))),oI z3 69 a.cells,oI z2 153 [(vN ((((a.r.e.take j1).map (ey 0)).length)-1)),(vI 0)],oI z1 69 [(.int .u8 0),nS]] [(0,v8 op),(1,(.slice tb 1 tc)),(4,(.pointer (aD z1))),(5,(.slice oa (((a.r.e.take j1).map (ey 0)).length) ka)),(6,(.pointer (aD z2))),(7,vI 0),(8,(.pointer (aD z3))),(9,vI (0:Int)),(12,(.agg #[(vI 0),(vI 0)])),(13,(.slice tb 1 tc)),(14,vI 1),(15,vI 1)] F (.of F) (fun gF=>?_)
 refine T.round ?_
 refine ai (ad (aB (cT F F) (b':=false) F) (ae (aM (a6 F ?_))))
 refine cK ?_
 refine ai (ah F (ah F (ad (jA (i:=0) td bj F F (by decide)) (ad (bi 2 dP F F F F) (ad (jA (i:=1) td bj F F (by decide)) (ad (bi 2 dP F F F F) (ad (cE (cs:=[v8 op,(.int .u8 0),(.int .u8 0),(vN ((((a.r.e.take j1).map (ey 0)).length)-1)),(vI 0)]) nh cm (by kernel_rfl)) (ao F (cz (m:=1) (parts:=[(0,_)]) (cs:=[v8 op,(.int .u8 0),(.int .u8 0),(vN ((((a.r.e.take j1).map (ey 0)).length)-1)),(vI 0)]) cX cm (by decide) (by kernel_rfl) F (fun z8=>?_))))))))))
 refine ao F (cW 1 cX cX cm F F F F (by rw[bY]) (by decide) (Src.row (j:=0) F (by simp)) (by simp[fa]) (by simp only[dn,aw,ar,ck];omega) (by decide) (by decide) (fun z9 ni=>?_))
 refine aj F (ae (aM (ai (ah F (ad (cQ cX F) (ad (iy F F) (ae (aP F (fun hc=>?_) (fun hc=>?_)))))))))
 ·have JE:(((a.r.e.take j1).map (ey 0)).length)+1>64:=by omega
  have hL:=JE
  refine ai (ad (cE (cs:=[.int .u8 3,nS]) qm db (by kernel_rfl)) (ao F (bN (vs:=[.int .u8 3,nS]) 4 db F F F F ?_)))
  refine ae (aK (aA ?_))
  refine cM (i:=4) Tryz.results68 fZ F db F F F ?_
  exact⟨[],Sub.z,[],⟨3,⟨none,0,[]⟩⟩,F,F,(Ec RM (by rw[Ur]at hL;simpa using hL)).symm,.inl (.inr F)⟩
 have JF: ¬(((a.r.e.take j1).map (ey 0)).length)+1>64:=by omega
 have hL:=JF
 refine aE (ai (ah F (ad (cE (cs:=[(.int .u8 0),(.slice z9 ((((a.r.e.take j1).map (ey 0)).length)+1) ni)]) qm db (by kernel_rfl)) (ao F (bN (vs:=[(.int .u8 0),(.slice z9 ((((a.r.e.take j1).map (ey 0)).length)+1) ni)]) 4 db F F F F ?_)))))
 refine ae (aK (aA ?_))
 refine cM (i:=4) Tryz.results68 fZ F db F F F ?_
 have RN:=HA (op:=op) RM (by rw[Ur]at hL;simpa using hL)
 exact⟨[aq z9 ni 72 5 ((bt ((a.r.e.take j1).map (ey 0)))++[v8 op,(.int .u8 0),(.int .u8 0),(vN ((((a.r.e.take j1).map (ey 0)).length)-1)),(vI 0)])],(by exact Sub.d (.k .z)),[⟨z9,ni,(qk op a.pp).2⟩],⟨0,⟨z9,ni,(qk op a.pp).2⟩⟩,ax (fun n9=>Value.agg #[.int .u8 0,.slice z9 n9 ni]) (show(((a.r.e.take j1).map (ey 0)).length)+1=((qk op a.pp).2).length by rw[RN,Ur];first|(simp;done)|(simp;omega)),ax (fun z=>[aq z9 ni 72 5 z]) (show(bt ((a.r.e.take j1).map (ey 0)))++[v8 op,(.int .u8 0),(.int .u8 0),(vN ((((a.r.e.take j1).map (ey 0)).length)-1)),(vI 0)]=bt ((qk op a.pp).2) by rw[RN,Ur,lN];first|(simp[bt,dK.cells];done)|(simp[bt,dK.cells];omega)),by rw[RN];rfl,.inl (.inl (List.mem_singleton.2 F))⟩
theorem JG (w:World) [dE Tryz.prog w] (op:Nat) (tb:Option Addr) (tc:Nat) (a b:PR) (hT:Sl w tb (eH [a,b])) (ha:Sl w a.r.b (bt a.r.e)) (Bv:fF a.pp) (hb:Sl w b.r.b (bt b.r.e)) (PZ:fF b.pp):
  cH Tryz.prog 68 [v8 op,(.slice tb 2 tc)] w (Uq 72 [a,b] (oq op a.pp b.pp)):=by
 refine aF func68 F ntmps68 F ?_
 refine ai (ao F (bs db F (fun z1=>?_)))
 refine ae (ai (aj F (ae (ai (ad (s7 (cs:=[(vI 0),(vI 0)]) td bj uq (by kernel_rfl)) (ao F (bs uq F (fun z2=>?_))))))))
 refine ao F (bN (vs:=[(vI 0),(vI 0)]) 0 uq F F F F ?_)
 refine ae (aM (ai (ah F (ad (bK (cQ l9 F) (v':=vI 2) F) (ah F (ae (aU ?_)))))))
 refine pf 3 (T.round ?_)
 refine ai (ad (aB (cT F F) (b':=true) F) (ae (aM ?_)))
 refine bO F ?_
 refine aE (aM (aU (ai (ah F (ad (dT (i:=0) l9 db F F (aL hT) (by simp) (by rw[hU];simp)) (ad (eO (vs:=a.cells) fZ F db F F (br _) (aL hT) (nL (l:=[a,b]) (i:=0) (by simp))) (ao F (bs db F (fun z3=>?_)))))))))
 refine aj F (ao F (bN (vs:=a.cells) 0 db F F F F ?_))
 refine ae (aM (ai (ad (a_ fZ F nM F F) (ad (bi 0 ur F F F F) (ad (bJ F F) (ae (aP F (fun hc=>?_) (fun hc=>?_))))))))
 ·have tf:a.k=3:=by omega
  refine ai (ad (cE (cs:=[.int .u8 3,nS]) qm db (by kernel_rfl)) (ao F (bN (vs:=[.int .u8 3,nS]) 2 db F F F F ?_)))
  refine ae (aK (aA ?_))
  refine cM (i:=2) Tryz.results68 fZ F db F F F ?_
  exact⟨[],Sub.z,[],⟨3,⟨none,0,[]⟩⟩,F,F,(aO (.inl tf)).symm,.inl (.inr F)⟩
 have zr: ¬a.k=3:=by omega
 have RM: ¬a.k=3:=zr
 refine aE (ai (ah F (ad (cQ cX F) (aj F (ae (aM (ai (ad (a_ fZ F fT F F) (ad (bi 0 cX F F F F) (ad (cQ cX F) (ah F (ae (aU (T.eX 72 5 ?_))))))))))))))
 refine dO (fun(j1:Nat) ρ O=> ∃(oa:Option Addr) (ka:Nat),O=[aq oa ka 72 5 (bt ((a.r.e.take j1).map (ey 0))),oI z3 69 a.cells,oI z2 153 [(vI 0),(vI 0)],oI z1 69 [(.int .u8 0),nS]]∧j1≤a.r.e.length∧dv [(0,v8 op),(1,(.slice tb 2 tc)),(4,(.pointer (aD z1))),(5,(.slice oa (((a.r.e.take j1).map (ey 0)).length) ka)),(6,(.pointer (aD z2))),(7,vI 0),(8,(.pointer (aD z3))),(9,vI (0:Int)),(12,(.agg #[(vI 0),(vI 0)])),(13,(.slice tb 2 tc)),(14,vI 2),(15,vI 0),(27,(.slice a.r.b a.r.e.length a.r.c)),(28,vI (a.r.e.length:Int)),(29,vN j1)] ρ) (fun j1=>a.r.e.length-j1) 0 ?_ ?_
 ·exact⟨none,0,F,bn _,(.of F)⟩
 rintro j1 ρ O ⟨oa,ka,rfl,hj,hH⟩
 obtain⟨gF,rfl⟩:=hH.elim
 clear hH
 refine ai (ad (cT F F) (ae (aM (aP F (fun hc=>?_) (fun hc=>?_)))))
 ·have iP:j1<a.r.e.length:=by omega
  have DJ:yC a.r.e.length a.r.e[j1]:=Bv.pc _ (aQ iP)
  have Un:=DJ.a0;have zl:=DJ.a1;have DL:=DJ.b0;have Yv:=DJ.b1
  have Zn:a.r.e.length≤64:=Bv.len
  refine aE (aM (aU (ai ?_)))
  refine ad (dT (i:=j1) cX cm F F (aL ha) iP (by rw[bY];omega)) (ad (eO (vs:=a.r.e[j1].cl) bU F cm F F (br _) (aL ha) (fy (ap iP))) ?_)
  refine ao F (bs cm F (fun z4=>?_))
  refine ao F (bN (vs:=a.r.e[j1].cl) 0 cm F F F F ?_)
  refine ae ?_
  refine gz (fun ρ O=>Sub [oI z4 72 (ey 0 a.r.e[j1]).cl,aq oa ka 72 5 (bt ((a.r.e.take j1).map (ey 0))),oI z3 69 a.cells,oI z2 153 [(vI 0),(vI 0)],oI z1 69 [(.int .u8 0),nS]] O∧dv [(0,v8 op),(1,(.slice tb 2 tc)),(4,(.pointer (aD z1))),(5,(.slice oa (((a.r.e.take j1).map (ey 0)).length) ka)),(6,(.pointer (aD z2))),(7,vI 0),(8,(.pointer (aD z3))),(9,vI (0:Int)),(11,(.pointer (aD z4))),(12,(.agg #[(vI 0),(vI 0)])),(13,(.slice tb 2 tc)),(14,vI 2),(15,vI 0),(27,(.slice a.r.b a.r.e.length a.r.c)),(28,vI (a.r.e.length:Int)),(29,vN j1)] ρ) ?_ ?_
  ·refine aM ?_
   refine a7 (ad (a_ bU F du F F) (ad (bi 0 fA F F F F) (ae (aU (aM (ai (ad (bJ F F) (aj F (ae (aP F (fun hc=>?_) (fun hc=>?_)))))))))))
   ·have qn:a.r.e[j1].op=7:=by omega
    refine aE (aP F (fun hc=>?_) (fun hc=>?_))
    ·have qn:a.r.e[j1].op=7:=by omega
     refine a7 (ad (a_ bU F bj F F) (ad (bi 0 dP F F F F) (ah F (ad (dL F F (by omega)) (ad (a_ bU F bj F F) (ao F (bN (vs:=[(vI (a.r.e[j1].a+(0:Int)))]) 0 bj F F F F ?_)))))))
     refine ae ?_
     exact⟨(by first|(rw[ef (by omega)];exact Sub.rf)|(rw[eg (by omega)];exact Sub.rf)|(rw[eS (by omega) (by omega)];exact Sub.rf)),(.of F)⟩
    have qo: ¬a.r.e[j1].op=7:=by omega
    refine aM (ai (ad (bJ F F) (aj F (ae (aP F (fun hc=>?_) (fun hc=>?_))))))
    ·have h_:a.r.e[j1].op=4:=by omega
     refine aE (aP F (fun hc=>?_) (fun hc=>?_))
     ·have h_:a.r.e[j1].op=4:=by omega
      refine a7 (ad (a_ bU F bj F F) (ad (bi 0 dP F F F F) (ah F (ad (dL F F (by omega)) (ad (a_ bU F bj F F) (ad (bi 0 dP F F F F) (ah F (ad (dL F F (by omega)) (ad (a_ bU F bj F F) (ao F (bN (vs:=[(vI (a.r.e[j1].a+(0:Int)))]) 0 bj F F F F ?_)))))))))))
      refine ad (a_ bU F bj F F) (ao F (bN (vs:=[(vI (a.r.e[j1].b+(0:Int)))]) 0 bj F F F F ?_))
      refine ae ?_
      exact⟨(by first|(rw[ef (by omega)];exact Sub.rf)|(rw[eg (by omega)];exact Sub.rf)|(rw[eS (by omega) (by omega)];exact Sub.rf)),(.of F)⟩
     have ik: ¬a.r.e[j1].op=4:=by omega
     refine aE ?_
     exact⟨(by first|(rw[ef (by omega)];exact Sub.rf)|(rw[eg (by omega)];exact Sub.rf)|(rw[eS (by omega) (by omega)];exact Sub.rf)),(.of F)⟩
    have ik: ¬a.r.e[j1].op=4:=by omega
    refine ai (ad (bJ F F) (aj F (ae (aP F (fun hc=>?_) (fun hc=>?_)))))
    ·have h_:a.r.e[j1].op=5:=by omega
     refine aE (aP F (fun hc=>?_) (fun hc=>?_))
     ·have h_:a.r.e[j1].op=5:=by omega
      refine a7 (ad (a_ bU F bj F F) (ad (bi 0 dP F F F F) (ah F (ad (dL F F (by omega)) (ad (a_ bU F bj F F) (ad (bi 0 dP F F F F) (ah F (ad (dL F F (by omega)) (ad (a_ bU F bj F F) (ao F (bN (vs:=[(vI (a.r.e[j1].a+(0:Int)))]) 0 bj F F F F ?_)))))))))))
      refine ad (a_ bU F bj F F) (ao F (bN (vs:=[(vI (a.r.e[j1].b+(0:Int)))]) 0 bj F F F F ?_))
      refine ae ?_
      exact⟨(by first|(rw[ef (by omega)];exact Sub.rf)|(rw[eg (by omega)];exact Sub.rf)|(rw[eS (by omega) (by omega)];exact Sub.rf)),(.of F)⟩
     have ik: ¬a.r.e[j1].op=5:=by omega
     refine aE ?_
     exact⟨(by first|(rw[ef (by omega)];exact Sub.rf)|(rw[eg (by omega)];exact Sub.rf)|(rw[eS (by omega) (by omega)];exact Sub.rf)),(.of F)⟩
    have ik: ¬a.r.e[j1].op=5:=by omega
    refine a7 (ad (bJ F F) (aj F (ae (aP F (fun hc=>?_) (fun hc=>?_)))))
    ·have h_:a.r.e[j1].op=6:=by omega
     refine a7 (ad (a_ bU F bj F F) (ad (bi 0 dP F F F F) (ah F (ad (dL F F (by omega)) (ad (a_ bU F bj F F) (ad (bi 0 dP F F F F) (ah F (ad (dL F F (by omega)) (ad (a_ bU F bj F F) (ao F (bN (vs:=[(vI (a.r.e[j1].a+(0:Int)))]) 0 bj F F F F ?_)))))))))))
     refine ad (a_ bU F bj F F) (ao F (bN (vs:=[(vI (a.r.e[j1].b+(0:Int)))]) 0 bj F F F F ?_))
     refine ae ?_
     exact⟨(by first|(rw[ef (by omega)];exact Sub.rf)|(rw[eg (by omega)];exact Sub.rf)|(rw[eS (by omega) (by omega)];exact Sub.rf)),(.of F)⟩
    have ik: ¬a.r.e[j1].op=6:=by omega
    refine aE ?_
    exact⟨(by first|(rw[ef (by omega)];exact Sub.rf)|(rw[eg (by omega)];exact Sub.rf)|(rw[eS (by omega) (by omega)];exact Sub.rf)),(.of F)⟩
   have qo: ¬a.r.e[j1].op=7:=by omega
   refine a7 (ad (bJ F F) (aj F (ae (aP F (fun hc=>?_) (fun hc=>?_)))))
   ·have qn:a.r.e[j1].op=8:=by omega
    refine a7 (ad (a_ bU F bj F F) (ad (bi 0 dP F F F F) (ah F (ad (dL F F (by omega)) (ad (a_ bU F bj F F) (ao F (bN (vs:=[(vI (a.r.e[j1].a+(0:Int)))]) 0 bj F F F F ?_)))))))
    refine ae ?_
    exact⟨(by first|(rw[ef (by omega)];exact Sub.rf)|(rw[eg (by omega)];exact Sub.rf)|(rw[eS (by omega) (by omega)];exact Sub.rf)),(.of F)⟩
   have qo: ¬a.r.e[j1].op=8:=by omega
   refine aM (ai (ad (bJ F F) (aj F (ae (aP F (fun hc=>?_) (fun hc=>?_))))))
   ·have h_:a.r.e[j1].op=4:=by omega
    refine aE (aP F (fun hc=>?_) (fun hc=>?_))
    ·have h_:a.r.e[j1].op=4:=by omega
     refine a7 (ad (a_ bU F bj F F) (ad (bi 0 dP F F F F) (ah F (ad (dL F F (by omega)) (ad (a_ bU F bj F F) (ad (bi 0 dP F F F F) (ah F (ad (dL F F (by omega)) (ad (a_ bU F bj F F) (ao F (bN (vs:=[(vI (a.r.e[j1].a+(0:Int)))]) 0 bj F F F F ?_)))))))))))
     refine ad (a_ bU F bj F F) (ao F (bN (vs:=[(vI (a.r.e[j1].b+(0:Int)))]) 0 bj F F F F ?_))
     refine ae ?_
     exact⟨(by first|(rw[ef (by omega)];exact Sub.rf)|(rw[eg (by omega)];exact Sub.rf)|(rw[eS (by omega) (by omega)];exact Sub.rf)),(.of F)⟩
    have ik: ¬a.r.e[j1].op=4:=by omega
    refine aE ?_
    exact⟨(by first|(rw[ef (by omega)];exact Sub.rf)|(rw[eg (by omega)];exact Sub.rf)|(rw[eS (by omega) (by omega)];exact Sub.rf)),(.of F)⟩
   have ik: ¬a.r.e[j1].op=4:=by omega
   refine ai (ad (bJ F F) (aj F (ae (aP F (fun hc=>?_) (fun hc=>?_)))))
   ·have h_:a.r.e[j1].op=5:=by omega
    refine aE (aP F (fun hc=>?_) (fun hc=>?_))
    ·have h_:a.r.e[j1].op=5:=by omega
     refine a7 (ad (a_ bU F bj F F) (ad (bi 0 dP F F F F) (ah F (ad (dL F F (by omega)) (ad (a_ bU F bj F F) (ad (bi 0 dP F F F F) (ah F (ad (dL F F (by omega)) (ad (a_ bU F bj F F) (ao F (bN (vs:=[(vI (a.r.e[j1].a+(0:Int)))]) 0 bj F F F F ?_)))))))))))
     refine ad (a_ bU F bj F F) (ao F (bN (vs:=[(vI (a.r.e[j1].b+(0:Int)))]) 0 bj F F F F ?_))
     refine ae ?_
     exact⟨(by first|(rw[ef (by omega)];exact Sub.rf)|(rw[eg (by omega)];exact Sub.rf)|(rw[eS (by omega) (by omega)];exact Sub.rf)),(.of F)⟩
    have ik: ¬a.r.e[j1].op=5:=by omega
    refine aE ?_
    exact⟨(by first|(rw[ef (by omega)];exact Sub.rf)|(rw[eg (by omega)];exact Sub.rf)|(rw[eS (by omega) (by omega)];exact Sub.rf)),(.of F)⟩
   have ik: ¬a.r.e[j1].op=5:=by omega
   refine a7 (ad (bJ F F) (aj F (ae (aP F (fun hc=>?_) (fun hc=>?_)))))
   ·have h_:a.r.e[j1].op=6:=by omega
    refine a7 (ad (a_ bU F bj F F) (ad (bi 0 dP F F F F) (ah F (ad (dL F F (by omega)) (ad (a_ bU F bj F F) (ad (bi 0 dP F F F F) (ah F (ad (dL F F (by omega)) (ad (a_ bU F bj F F) (ao F (bN (vs:=[(vI (a.r.e[j1].a+(0:Int)))]) 0 bj F F F F ?_)))))))))))
    refine ad (a_ bU F bj F F) (ao F (bN (vs:=[(vI (a.r.e[j1].b+(0:Int)))]) 0 bj F F F F ?_))
    refine ae ?_
    exact⟨(by first|(rw[ef (by omega)];exact Sub.rf)|(rw[eg (by omega)];exact Sub.rf)|(rw[eS (by omega) (by omega)];exact Sub.rf)),(.of F)⟩
   have ik: ¬a.r.e[j1].op=6:=by omega
   refine aE ?_
   exact⟨(by first|(rw[ef (by omega)];exact Sub.rf)|(rw[eg (by omega)];exact Sub.rf)|(rw[eS (by omega) (by omega)];exact Sub.rf)),(.of F)⟩
  rintro ρ O ⟨hS,hH⟩
  obtain⟨gF,rfl⟩:=hH.elim
  clear hH
  refine dx hS ?_
  refine a7 (ah F (ad (eu 0 bU F cm F F F) (ao F (cz (m:=1) (parts:=[(0,_)]) (cs:=(ey 0 a.r.e[j1]).cl) cX cm (by decide) (by kernel_rfl) F (fun z5=>?_)))))
  refine ao F (cW 2 cX cX cm F F F F (by rw[bY]) (by decide) (Src.row (j:=0) F (by simp)) (by simp[fa]) (by simp only[dn,aw,ar,ck];omega) (by decide) (by decide) (fun z6 AC=>?_))
  refine aj F (ae (a7 (ad (dy (a:=j1) (b:=1) F F (by omega)) (ah F (ae ?_)))))
  exact⟨j1+1,by omega,[aq z6 AC 72 5 ((bt ((a.r.e.take j1).map (ey 0)))++(ey 0 a.r.e[j1]).cl),oI z3 69 a.cells,oI z2 153 [(vI 0),(vI 0)],oI z1 69 [(.int .u8 0),nS]],(by exact Sub.d (.d (.k (.k (.k (.k .z)))))),z6,AC,by rw[jw iP,lN (((a.r.e.take j1).map (ey 0)))];rfl,by omega,⟨F,F,F,(ax (fun n9=>Value.slice z6 n9 AC) (show(((a.r.e.take j1).map (ey 0)).length)+1=(((a.r.e.take (j1+1)).map (ey 0))).length by rw[jw iP];simp only[aw,bo,bV]<;>omega)),F,F,F,F,F,F,F,F,F,F,F,trivial⟩⟩
 have FH: ¬j1<a.r.e.length:=by omega
 have MU:j1=a.r.e.length:=by omega
 have Jt:0<a.r.e.length:=Bv.pos RM
 have hqa:a.r.e.length≤64:=Bv.len
 have Ur:((a.r.e.take j1).map (ey 0))=a.r.e:=by rw[MU,List.take_length,show ey 0=id from funext B2,List.map_id]
 have JD:((a.r.e.take j1).map (ey 0)).length=a.r.e.length:=by rw[MU];simp
 refine cK ?_
 refine a7 (ah F (ah F (ad (cQ cX F) (ad (kZ (a:=(((a.r.e.take j1).map (ey 0)).length)) (b:=1) F F (by omega) (by omega)) (ad (jA (i:=0) td bj F F (by decide)) (ao F (bN (vs:=[(vN ((((a.r.e.take j1).map (ey 0)).length)-1))]) 2 bj F F F F ?_)))))))
 refine ae (a7 (ad (bK (dL F F (by omega)) (v':=vI 1) F) (ah F (ae ?_))))
 refine nJ [aq oa ka 72 5 (bt ((a.r.e.take j1).map (ey 0))),oI z3 69 a.cells,oI z2 153 [(vN ((((a.r.e.take j1).map (ey 0)).length)-1)),(vI 0)],oI z1 69 [(.int .u8 0),nS]] [(0,v8 op),(1,(.slice tb 2 tc)),(4,(.pointer (aD z1))),(5,(.slice oa (((a.r.e.take j1).map (ey 0)).length) ka)),(6,(.pointer (aD z2))),(7,vI 0),(8,(.pointer (aD z3))),(9,vI (0:Int)),(12,(.agg #[(vI 0),(vI 0)])),(13,(.slice tb 2 tc)),(14,vI 2),(15,vI 1)] F (.of F) (fun gF=>?_)
 refine T.round ?_
 refine ai (ad (aB (cT F F) (b':=true) F) (ae (aM ?_)))
 refine bO F ?_
 refine aE (aM (aU (ai (ah F (ad (dT (i:=1) l9 db F F (aL hT) (by simp) (by rw[hU];simp)) (ad (eO (vs:=b.cells) fZ F db F F (br _) (aL hT) (nL (l:=[a,b]) (i:=1) (by simp))) (ao F (bs db F (fun z8=>?_)))))))))
 refine aj F (ao F (bN (vs:=b.cells) 0 db F F F F ?_))
 refine ae (aM (ai (ad (a_ fZ F nM F F) (ad (bi 0 ur F F F F) (ad (bJ F F) (ae (aP F (fun hc=>?_) (fun hc=>?_))))))))
 ·have tf:b.k=3:=by omega
  refine ai (ad (cE (cs:=[.int .u8 3,nS]) qm db (by kernel_rfl)) (ao F (bN (vs:=[.int .u8 3,nS]) 4 db F F F F ?_)))
  refine ae (aK (aA ?_))
  refine cM (i:=4) Tryz.results68 fZ F db F F F ?_
  exact⟨[],Sub.z,[],⟨3,⟨none,0,[]⟩⟩,F,F,(aO (.inr tf)).symm,.inl (.inr F)⟩
 have zr: ¬b.k=3:=by omega
 have B5: ¬b.k=3:=zr
 refine aE (ai (ah F (ad (cQ cX F) (aj F (ae (aM (ai (ad (a_ fZ F fT F F) (ad (bi 0 cX F F F F) (ad (cQ cX F) (ah F (ae (aU ?_)))))))))))))
 refine dO (fun(j2:Nat) ρ O=> ∃(ob:Option Addr) (kb:Nat),O=[oI z8 69 b.cells,aq ob kb 72 5 (bt (((a.r.e.take j1).map (ey 0))++(b.r.e.take j2).map (ey (((a.r.e.take j1).map (ey 0)).length)))),oI z3 69 a.cells,oI z2 153 [(vN ((((a.r.e.take j1).map (ey 0)).length)-1)),(vI 0)],oI z1 69 [(.int .u8 0),nS]]∧j2≤b.r.e.length∧dv [(0,v8 op),(1,(.slice tb 2 tc)),(4,(.pointer (aD z1))),(5,(.slice ob ((((a.r.e.take j1).map (ey 0))++(b.r.e.take j2).map (ey (((a.r.e.take j1).map (ey 0)).length))).length) kb)),(6,(.pointer (aD z2))),(7,vI 1),(8,(.pointer (aD z8))),(9,vI (((a.r.e.take j1).map (ey 0)).length:Int)),(12,(.agg #[(vI 0),(vI 0)])),(13,(.slice tb 2 tc)),(14,vI 2),(15,vI 1),(27,(.slice b.r.b b.r.e.length b.r.c)),(28,vI (b.r.e.length:Int)),(29,vN j2)] ρ) (fun j2=>b.r.e.length-j2) 0 ?_ ?_
 ·exact⟨oa,ka,by rw[List.take_zero,fQ,c7];rfl,bn _,⟨F,F,F,(ax (fun n9=>Value.slice oa n9 ka) (show((a.r.e.take j1).map (ey 0)).length=((((a.r.e.take j1).map (ey 0))++(b.r.e.take 0).map (ey (((a.r.e.take j1).map (ey 0)).length)))).length by rw[List.take_zero,fQ,c7])),F,F,F,F,F,F,F,F,F,F,F,trivial⟩⟩
 rintro j2 ρ O ⟨ob,kb,rfl,hj,hH⟩
 obtain⟨gF,rfl⟩:=hH.elim
 clear hH
 refine ai (ad (cT F F) (ae (aM (aP F (fun hc=>?_) (fun hc=>?_)))))
 ·have iP:j2<b.r.e.length:=by omega
  have DJ:yC b.r.e.length b.r.e[j2]:=PZ.pc _ (aQ iP)
  have Un:=DJ.a0;have zl:=DJ.a1;have DL:=DJ.b0;have Yv:=DJ.b1
  have Zn:a.r.e.length≤64:=Bv.len
  have hp6:b.r.e.length≤64:=PZ.len
  have hp7:(((a.r.e.take j1).map (ey 0))).length≤64:=by simp;omega
  refine aE (aM (aU (ai ?_)))
  refine ad (dT (i:=j2) cX cm F F (aL hb) iP (by rw[bY];omega)) (ad (eO (vs:=b.r.e[j2].cl) bU F cm F F (br _) (aL hb) (fy (ap iP))) ?_)
  refine ao F (bs cm F (fun z9=>?_))
  refine ao F (bN (vs:=b.r.e[j2].cl) 0 cm F F F F ?_)
  refine ae ?_
  refine gz (fun ρ O=>Sub [oI z9 72 [.int .u8 (((ey (((a.r.e.take j1).map (ey 0)).length) b.r.e[j2]).op:Nat):Int),.int .u8 (((ey (((a.r.e.take j1).map (ey 0)).length) b.r.e[j2]).p:Nat):Int),.int .u8 (((ey (((a.r.e.take j1).map (ey 0)).length) b.r.e[j2]).n:Nat):Int),vI (ey (((a.r.e.take j1).map (ey 0)).length) b.r.e[j2]).a,vI (ey (((a.r.e.take j1).map (ey 0)).length) b.r.e[j2]).b],oI z8 69 b.cells,aq ob kb 72 5 (bt (((a.r.e.take j1).map (ey 0))++(b.r.e.take j2).map (ey (((a.r.e.take j1).map (ey 0)).length)))),oI z3 69 a.cells,oI z2 153 [(vN ((((a.r.e.take j1).map (ey 0)).length)-1)),(vI 0)],oI z1 69 [(.int .u8 0),nS]] O∧dv [(0,v8 op),(1,(.slice tb 2 tc)),(4,(.pointer (aD z1))),(5,(.slice ob ((((a.r.e.take j1).map (ey 0))++(b.r.e.take j2).map (ey (((a.r.e.take j1).map (ey 0)).length))).length) kb)),(6,(.pointer (aD z2))),(7,vI 1),(8,(.pointer (aD z8))),(9,vI (((a.r.e.take j1).map (ey 0)).length:Int)),(11,(.pointer (aD z9))),(12,(.agg #[(vI 0),(vI 0)])),(13,(.slice tb 2 tc)),(14,vI 2),(15,vI 1),(27,(.slice b.r.b b.r.e.length b.r.c)),(28,vI (b.r.e.length:Int)),(29,vN j2)] ρ) ?_ ?_
  ·refine aM ?_
   refine a7 (ad (a_ bU F du F F) (ad (bi 0 fA F F F F) (ae (aU (aM (ai (ad (bJ F F) (aj F (ae (aP F (fun hc=>?_) (fun hc=>?_)))))))))))
   ·have qn:b.r.e[j2].op=7:=by omega
    refine aE (aP F (fun hc=>?_) (fun hc=>?_))
    ·have qn:b.r.e[j2].op=7:=by omega
     refine a7 (ad (a_ bU F bj F F) (ad (bi 0 dP F F F F) (ah F (ad (dL F F (by omega)) (ad (a_ bU F bj F F) (ao F (bN (vs:=[(vI (b.r.e[j2].a+(((a.r.e.take j1).map (ey 0)).length:Int)))]) 0 bj F F F F ?_)))))))
     refine ae ?_
     exact⟨(by first|(rw[ef (by omega)];exact Sub.rf)|(rw[eg (by omega)];exact Sub.rf)|(rw[eS (by omega) (by omega)];exact Sub.rf)),(.of F)⟩
    have qo: ¬b.r.e[j2].op=7:=by omega
    refine aM (ai (ad (bJ F F) (aj F (ae (aP F (fun hc=>?_) (fun hc=>?_))))))
    ·have h_:b.r.e[j2].op=4:=by omega
     refine aE (aP F (fun hc=>?_) (fun hc=>?_))
     ·have h_:b.r.e[j2].op=4:=by omega
      refine a7 (ad (a_ bU F bj F F) (ad (bi 0 dP F F F F) (ah F (ad (dL F F (by omega)) (ad (a_ bU F bj F F) (ad (bi 0 dP F F F F) (ah F (ad (dL F F (by omega)) (ad (a_ bU F bj F F) (ao F (bN (vs:=[(vI (b.r.e[j2].a+(((a.r.e.take j1).map (ey 0)).length:Int)))]) 0 bj F F F F ?_)))))))))))
      refine ad (a_ bU F bj F F) (ao F (bN (vs:=[(vI (b.r.e[j2].b+(((a.r.e.take j1).map (ey 0)).length:Int)))]) 0 bj F F F F ?_))
      refine ae ?_
      exact⟨(by first|(rw[ef (by omega)];exact Sub.rf)|(rw[eg (by omega)];exact Sub.rf)|(rw[eS (by omega) (by omega)];exact Sub.rf)),(.of F)⟩
     have ik: ¬b.r.e[j2].op=4:=by omega
     refine aE ?_
     exact⟨(by first|(rw[ef (by omega)];exact Sub.rf)|(rw[eg (by omega)];exact Sub.rf)|(rw[eS (by omega) (by omega)];exact Sub.rf)),(.of F)⟩
    have ik: ¬b.r.e[j2].op=4:=by omega
    refine ai (ad (bJ F F) (aj F (ae (aP F (fun hc=>?_) (fun hc=>?_)))))
    ·have h_:b.r.e[j2].op=5:=by omega
     refine aE (aP F (fun hc=>?_) (fun hc=>?_))
     ·have h_:b.r.e[j2].op=5:=by omega
      refine a7 (ad (a_ bU F bj F F) (ad (bi 0 dP F F F F) (ah F (ad (dL F F (by omega)) (ad (a_ bU F bj F F) (ad (bi 0 dP F F F F) (ah F (ad (dL F F (by omega)) (ad (a_ bU F bj F F) (ao F (bN (vs:=[(vI (b.r.e[j2].a+(((a.r.e.take j1).map (ey 0)).length:Int)))]) 0 bj F F F F ?_)))))))))))
      refine ad (a_ bU F bj F F) (ao F (bN (vs:=[(vI (b.r.e[j2].b+(((a.r.e.take j1).map (ey 0)).length:Int)))]) 0 bj F F F F ?_))
      refine ae ?_
      exact⟨(by first|(rw[ef (by omega)];exact Sub.rf)|(rw[eg (by omega)];exact Sub.rf)|(rw[eS (by omega) (by omega)];exact Sub.rf)),(.of F)⟩
     have ik: ¬b.r.e[j2].op=5:=by omega
     refine aE ?_
     exact⟨(by first|(rw[ef (by omega)];exact Sub.rf)|(rw[eg (by omega)];exact Sub.rf)|(rw[eS (by omega) (by omega)];exact Sub.rf)),(.of F)⟩
    have ik: ¬b.r.e[j2].op=5:=by omega
    refine a7 (ad (bJ F F) (aj F (ae (aP F (fun hc=>?_) (fun hc=>?_)))))
    ·have h_:b.r.e[j2].op=6:=by omega
     refine a7 (ad (a_ bU F bj F F) (ad (bi 0 dP F F F F) (ah F (ad (dL F F (by omega)) (ad (a_ bU F bj F F) (ad (bi 0 dP F F F F) (ah F (ad (dL F F (by omega)) (ad (a_ bU F bj F F) (ao F (bN (vs:=[(vI (b.r.e[j2].a+(((a.r.e.take j1).map (ey 0)).length:Int)))]) 0 bj F F F F ?_)))))))))))
     refine ad (a_ bU F bj F F) (ao F (bN (vs:=[(vI (b.r.e[j2].b+(((a.r.e.take j1).map (ey 0)).length:Int)))]) 0 bj F F F F ?_))
     refine ae ?_
     exact⟨(by first|(rw[ef (by omega)];exact Sub.rf)|(rw[eg (by omega)];exact Sub.rf)|(rw[eS (by omega) (by omega)];exact Sub.rf)),(.of F)⟩
    have ik: ¬b.r.e[j2].op=6:=by omega
    refine aE ?_
    exact⟨(by first|(rw[ef (by omega)];exact Sub.rf)|(rw[eg (by omega)];exact Sub.rf)|(rw[eS (by omega) (by omega)];exact Sub.rf)),(.of F)⟩
   have qo: ¬b.r.e[j2].op=7:=by omega
   refine a7 (ad (bJ F F) (aj F (ae (aP F (fun hc=>?_) (fun hc=>?_)))))
   ·have qn:b.r.e[j2].op=8:=by omega
    refine a7 (ad (a_ bU F bj F F) (ad (bi 0 dP F F F F) (ah F (ad (dL F F (by omega)) (ad (a_ bU F bj F F) (ao F (bN (vs:=[(vI (b.r.e[j2].a+(((a.r.e.take j1).map (ey 0)).length:Int)))]) 0 bj F F F F ?_)))))))
    refine ae ?_
    exact⟨(by first|(rw[ef (by omega)];exact Sub.rf)|(rw[eg (by omega)];exact Sub.rf)|(rw[eS (by omega) (by omega)];exact Sub.rf)),(.of F)⟩
   have qo: ¬b.r.e[j2].op=8:=by omega
   refine aM (ai (ad (bJ F F) (aj F (ae (aP F (fun hc=>?_) (fun hc=>?_))))))
   ·have h_:b.r.e[j2].op=4:=by omega
    refine aE (aP F (fun hc=>?_) (fun hc=>?_))
    ·have h_:b.r.e[j2].op=4:=by omega
     refine a7 (ad (a_ bU F bj F F) (ad (bi 0 dP F F F F) (ah F (ad (dL F F (by omega)) (ad (a_ bU F bj F F) (ad (bi 0 dP F F F F) (ah F (ad (dL F F (by omega)) (ad (a_ bU F bj F F) (ao F (bN (vs:=[(vI (b.r.e[j2].a+(((a.r.e.take j1).map (ey 0)).length:Int)))]) 0 bj F F F F ?_)))))))))))
     refine ad (a_ bU F bj F F) (ao F (bN (vs:=[(vI (b.r.e[j2].b+(((a.r.e.take j1).map (ey 0)).length:Int)))]) 0 bj F F F F ?_))
     refine ae ?_
     exact⟨(by first|(rw[ef (by omega)];exact Sub.rf)|(rw[eg (by omega)];exact Sub.rf)|(rw[eS (by omega) (by omega)];exact Sub.rf)),(.of F)⟩
    have ik: ¬b.r.e[j2].op=4:=by omega
    refine aE ?_
    exact⟨(by first|(rw[ef (by omega)];exact Sub.rf)|(rw[eg (by omega)];exact Sub.rf)|(rw[eS (by omega) (by omega)];exact Sub.rf)),(.of F)⟩
   have ik: ¬b.r.e[j2].op=4:=by omega
   refine ai (ad (bJ F F) (aj F (ae (aP F (fun hc=>?_) (fun hc=>?_)))))
   ·have h_:b.r.e[j2].op=5:=by omega
    refine aE (aP F (fun hc=>?_) (fun hc=>?_))
    ·have h_:b.r.e[j2].op=5:=by omega
     refine a7 (ad (a_ bU F bj F F) (ad (bi 0 dP F F F F) (ah F (ad (dL F F (by omega)) (ad (a_ bU F bj F F) (ad (bi 0 dP F F F F) (ah F (ad (dL F F (by omega)) (ad (a_ bU F bj F F) (ao F (bN (vs:=[(vI (b.r.e[j2].a+(((a.r.e.take j1).map (ey 0)).length:Int)))]) 0 bj F F F F ?_)))))))))))
     refine ad (a_ bU F bj F F) (ao F (bN (vs:=[(vI (b.r.e[j2].b+(((a.r.e.take j1).map (ey 0)).length:Int)))]) 0 bj F F F F ?_))
     refine ae ?_
     exact⟨(by first|(rw[ef (by omega)];exact Sub.rf)|(rw[eg (by omega)];exact Sub.rf)|(rw[eS (by omega) (by omega)];exact Sub.rf)),(.of F)⟩
    have ik: ¬b.r.e[j2].op=5:=by omega
    refine aE ?_
    exact⟨(by first|(rw[ef (by omega)];exact Sub.rf)|(rw[eg (by omega)];exact Sub.rf)|(rw[eS (by omega) (by omega)];exact Sub.rf)),(.of F)⟩
   have ik: ¬b.r.e[j2].op=5:=by omega
   refine a7 (ad (bJ F F) (aj F (ae (aP F (fun hc=>?_) (fun hc=>?_)))))
   ·have h_:b.r.e[j2].op=6:=by omega
    refine a7 (ad (a_ bU F bj F F) (ad (bi 0 dP F F F F) (ah F (ad (dL F F (by omega)) (ad (a_ bU F bj F F) (ad (bi 0 dP F F F F) (ah F (ad (dL F F (by omega)) (ad (a_ bU F bj F F) (ao F (bN (vs:=[(vI (b.r.e[j2].a+(((a.r.e.take j1).map (ey 0)).length:Int)))]) 0 bj F F F F ?_)))))))))))
    refine ad (a_ bU F bj F F) (ao F (bN (vs:=[(vI (b.r.e[j2].b+(((a.r.e.take j1).map (ey 0)).length:Int)))]) 0 bj F F F F ?_))
    refine ae ?_
    exact⟨(by first|(rw[ef (by omega)];exact Sub.rf)|(rw[eg (by omega)];exact Sub.rf)|(rw[eS (by omega) (by omega)];exact Sub.rf)),(.of F)⟩
   have ik: ¬b.r.e[j2].op=6:=by omega
   refine aE ?_
   exact⟨(by first|(rw[ef (by omega)];exact Sub.rf)|(rw[eg (by omega)];exact Sub.rf)|(rw[eS (by omega) (by omega)];exact Sub.rf)),(.of F)⟩
  rintro ρ O ⟨hS,hH⟩
  obtain⟨gF,rfl⟩:=hH.elim
  clear hH
  refine dx hS ?_
  refine a7 (ah F (ad (eu 0 bU F cm F F F) (ao F (cz (m:=1) (parts:=[(0,_)]) (cs:=[.int .u8 (((ey (((a.r.e.take j1).map (ey 0)).length) b.r.e[j2]).op:Nat):Int),.int .u8 (((ey (((a.r.e.take j1).map (ey 0)).length) b.r.e[j2]).p:Nat):Int),.int .u8 (((ey (((a.r.e.take j1).map (ey 0)).length) b.r.e[j2]).n:Nat):Int),vI (ey (((a.r.e.take j1).map (ey 0)).length) b.r.e[j2]).a,vI (ey (((a.r.e.take j1).map (ey 0)).length) b.r.e[j2]).b]) cX cm (by decide) (by kernel_rfl) F (fun pJ=>?_)))))
  refine ao F (cW 3 cX cX cm F F F F (by rw[bY]) (by decide) (Src.row (j:=0) F (by simp)) (by simp[fa]) (by simp only[dn,aw,ar,ck];omega) (by decide) (by decide) (fun ym qp=>?_))
  refine aj F (ae (a7 (ad (dy (a:=j2) (b:=1) F F (by omega)) (ah F (ae ?_)))))
  exact⟨j2+1,by omega,[oI z8 69 b.cells,aq ym qp 72 5 ((bt (((a.r.e.take j1).map (ey 0))++(b.r.e.take j2).map (ey (((a.r.e.take j1).map (ey 0)).length))))++[.int .u8 (((ey (((a.r.e.take j1).map (ey 0)).length) b.r.e[j2]).op:Nat):Int),.int .u8 (((ey (((a.r.e.take j1).map (ey 0)).length) b.r.e[j2]).p:Nat):Int),.int .u8 (((ey (((a.r.e.take j1).map (ey 0)).length) b.r.e[j2]).n:Nat):Int),vI (ey (((a.r.e.take j1).map (ey 0)).length) b.r.e[j2]).a,vI (ey (((a.r.e.take j1).map (ey 0)).length) b.r.e[j2]).b]),oI z3 69 a.cells,oI z2 153 [(vN ((((a.r.e.take j1).map (ey 0)).length)-1)),(vI 0)],oI z1 69 [(.int .u8 0),nS]],(by exact Sub.d (.d (.k (.k (.k (.k (.k .z))))))),ym,qp,by rw[jw iP,←aI,lN ((((a.r.e.take j1).map (ey 0))++(b.r.e.take j2).map (ey (((a.r.e.take j1).map (ey 0)).length))))];rfl,by omega,⟨F,F,F,(ax (fun n9=>Value.slice ym n9 qp) (show((((a.r.e.take j1).map (ey 0))++(b.r.e.take j2).map (ey (((a.r.e.take j1).map (ey 0)).length))).length)+1=((((a.r.e.take j1).map (ey 0))++(b.r.e.take (j2+1)).map (ey (((a.r.e.take j1).map (ey 0)).length)))).length by rw[jw iP,←aI];simp only[aw,bo,bV]<;>omega)),F,F,F,F,F,F,F,F,F,F,F,trivial⟩⟩
 have FH: ¬j2<b.r.e.length:=by omega
 have MU:j2=b.r.e.length:=by omega
 have Jt:0<b.r.e.length:=PZ.pos B5
 have hqa:a.r.e.length≤64:=Bv.len
 have Yw:(((a.r.e.take j1).map (ey 0))++(b.r.e.take j2).map (ey ((a.r.e.take j1).map (ey 0)).length))=a.r.e++b.r.e.map (ey a.r.e.length):=by rw[Ur,MU,List.take_length]
 have hqb:b.r.e.length≤64:=PZ.len
 have Yx:(((a.r.e.take j1).map (ey 0))++(b.r.e.take j2).map (ey ((a.r.e.take j1).map (ey 0)).length)).length=a.r.e.length+b.r.e.length:=by rw[aw,JD,MU];simp
 refine cK ?_
 refine a7 (ah F (ah F (ad (cQ cX F) (ad (kZ (a:=((((a.r.e.take j1).map (ey 0))++(b.r.e.take j2).map (ey (((a.r.e.take j1).map (ey 0)).length))).length)) (b:=1) F F (by omega) (by omega)) (ad (jA (i:=1) td bj F F (by decide)) (ao F (bN (vs:=[(vI ((((((a.r.e.take j1).map (ey 0))++(b.r.e.take j2).map (ey (((a.r.e.take j1).map (ey 0)).length))).length)-1:Nat):Int))]) 3 bj F F F F ?_)))))))
 refine ae (a7 (ad (bK (dL F F (by omega)) (v':=vI 2) F) (ah F (ae ?_))))
 refine nJ [oI z8 69 b.cells,aq ob kb 72 5 (bt (((a.r.e.take j1).map (ey 0))++(b.r.e.take j2).map (ey (((a.r.e.take j1).map (ey 0)).length)))),oI z3 69 a.cells,oI z2 153 [(vN ((((a.r.e.take j1).map (ey 0)).length)-1)),(vI ((((((a.r.e.take j1).map (ey 0))++(b.r.e.take j2).map (ey (((a.r.e.take j1).map (ey 0)).length))).length)-1:Nat):Int))],oI z1 69 [(.int .u8 0),nS]] [(0,v8 op),(1,(.slice tb 2 tc)),(4,(.pointer (aD z1))),(5,(.slice ob ((((a.r.e.take j1).map (ey 0))++(b.r.e.take j2).map (ey (((a.r.e.take j1).map (ey 0)).length))).length) kb)),(6,(.pointer (aD z2))),(7,vI 1),(8,(.pointer (aD z8))),(9,vI (((a.r.e.take j1).map (ey 0)).length:Int)),(12,(.agg #[(vI 0),(vI 0)])),(13,(.slice tb 2 tc)),(14,vI 2),(15,vI 2)] F (.of F) (fun gF=>?_)
 refine T.round ?_
 refine ai (ad (aB (cT F F) (b':=false) F) (ae (aM (a6 F ?_))))
 refine cK ?_
 refine ai (ah F (ah F (ad (jA (i:=0) td bj F F (by decide)) (ad (bi 3 dP F F F F) (ad (jA (i:=1) td bj F F (by decide)) (ad (bi 3 dP F F F F) (ad (cE (cs:=[v8 op,(.int .u8 0),(.int .u8 0),(vN ((((a.r.e.take j1).map (ey 0)).length)-1)),(vI ((((((a.r.e.take j1).map (ey 0))++(b.r.e.take j2).map (ey (((a.r.e.take j1).map (ey 0)).length))).length)-1:Nat):Int))]) nh cm (by kernel_rfl)) (ao F (cz (m:=1) (parts:=[(0,_)]) (cs:=[v8 op,(.int .u8 0),(.int .u8 0),(vN ((((a.r.e.take j1).map (ey 0)).length)-1)),(vI ((((((a.r.e.take j1).map (ey 0))++(b.r.e.take j2).map (ey (((a.r.e.take j1).map (ey 0)).length))).length)-1:Nat):Int))]) cX cm (by decide) (by kernel_rfl) F (fun nN=>?_))))))))))
 refine ao F (cW 2 cX cX cm F F F F (by rw[bY]) (by decide) (Src.row (j:=0) F (by simp)) (by simp[fa]) (by simp only[dn,aw,ar,ck];omega) (by decide) (by decide) (fun Bw Ee=>?_))
 refine aj F (ae (aM (ai (ah F (ad (cQ cX F) (ad (iy F F) (ae (aP F (fun hc=>?_) (fun hc=>?_)))))))))
 ·have JE:((((a.r.e.take j1).map (ey 0))++(b.r.e.take j2).map (ey (((a.r.e.take j1).map (ey 0)).length))).length)+1>64:=by omega
  have hL:=JE
  refine ai (ad (cE (cs:=[.int .u8 3,nS]) qm db (by kernel_rfl)) (ao F (bN (vs:=[.int .u8 3,nS]) 5 db F F F F ?_)))
  refine ae (aK (aA ?_))
  refine cM (i:=5) Tryz.results68 fZ F db F F F ?_
  exact⟨[],Sub.z,[],⟨3,⟨none,0,[]⟩⟩,F,F,(Ed RM B5 (by rw[Yw]at hL;simpa using hL)).symm,.inl (.inr F)⟩
 have JF: ¬((((a.r.e.take j1).map (ey 0))++(b.r.e.take j2).map (ey (((a.r.e.take j1).map (ey 0)).length))).length)+1>64:=by omega
 have hL:=JF
 refine aE (ai (ah F (ad (cE (cs:=[(.int .u8 0),(.slice Bw (((((a.r.e.take j1).map (ey 0))++(b.r.e.take j2).map (ey (((a.r.e.take j1).map (ey 0)).length))).length)+1) Ee)]) qm db (by kernel_rfl)) (ao F (bN (vs:=[(.int .u8 0),(.slice Bw (((((a.r.e.take j1).map (ey 0))++(b.r.e.take j2).map (ey (((a.r.e.take j1).map (ey 0)).length))).length)+1) Ee)]) 5 db F F F F ?_)))))
 refine ae (aK (aA ?_))
 refine cM (i:=5) Tryz.results68 fZ F db F F F ?_
 have RN:=HB (op:=op) RM B5 (by rw[Yw]at hL;simpa using hL)
 exact⟨[aq Bw Ee 72 5 ((bt (((a.r.e.take j1).map (ey 0))++(b.r.e.take j2).map (ey (((a.r.e.take j1).map (ey 0)).length))))++[v8 op,(.int .u8 0),(.int .u8 0),(vN ((((a.r.e.take j1).map (ey 0)).length)-1)),(vI ((((((a.r.e.take j1).map (ey 0))++(b.r.e.take j2).map (ey (((a.r.e.take j1).map (ey 0)).length))).length)-1:Nat):Int))])],(by exact Sub.d (.d (.k .z))),[⟨Bw,Ee,(oq op a.pp b.pp).2⟩],⟨0,⟨Bw,Ee,(oq op a.pp b.pp).2⟩⟩,ax (fun n9=>Value.agg #[.int .u8 0,.slice Bw n9 Ee]) (show((((a.r.e.take j1).map (ey 0))++(b.r.e.take j2).map (ey (((a.r.e.take j1).map (ey 0)).length))).length)+1=((oq op a.pp b.pp).2).length by rw[RN,Yw];first|(simp;done)|(simp;omega)),ax (fun z=>[aq Bw Ee 72 5 z]) (show(bt (((a.r.e.take j1).map (ey 0))++(b.r.e.take j2).map (ey (((a.r.e.take j1).map (ey 0)).length))))++[v8 op,(.int .u8 0),(.int .u8 0),(vN ((((a.r.e.take j1).map (ey 0)).length)-1)),(vI ((((((a.r.e.take j1).map (ey 0))++(b.r.e.take j2).map (ey (((a.r.e.take j1).map (ey 0)).length))).length)-1:Nat):Int))]=bt ((oq op a.pp b.pp).2) by rw[RN,Yw,lN];first|(simp[bt,dK.cells];done)|(simp[bt,dK.cells];omega)),by rw[RN];rfl,.inl (.inl (List.mem_singleton.2 F))⟩
theorem ot {a b:PR} (h:a.k=1):AB a.pp b.pp=b.pp:=aO h
theorem ou {a b:PR} (h: ¬a.k=1) (h2:b.k=1∨(a.k≠3∧a.r.e=b.r.e)):AB a.pp b.pp=a.pp:=(az h).trans (aO h2)
theorem Ef {a b:PR} (h: ¬a.k=1) (h2: ¬(b.k=1∨(a.k≠3∧a.r.e=b.r.e))):AB a.pp b.pp=oq 5 a.pp b.pp:=(az h).trans (az h2)
theorem ow {a b:PR} (h:a.k=1∨b.k=2):B3 a.pp b.pp=a.pp:=aO h
theorem ox {a b:PR} (h: ¬(a.k=1∨b.k=2)) (h2:b.k=1∨a.k=2):B3 a.pp b.pp=b.pp:=(az h).trans (aO h2)
theorem Eg {a b:PR} (h: ¬(a.k=1∨b.k=2)) (h2: ¬(b.k=1∨a.k=2)):B3 a.pp b.pp=oq 4 a.pp b.pp:=(az h).trans (az h2)
theorem zu {a:PR} (h:a.k=1∨a.k=2):zn a.pp=(2,[⟨2,0,0,0,0⟩]):=aO h
theorem HC {a:PR} (h: ¬(a.k=1∨a.k=2)):zn a.pp=qk 8 a.pp:=az h
theorem RP (w:World) [dE Tryz.prog w] (a b:PR) (ha:Sl w a.r.b (bt a.r.e)) (Bv:fF a.pp) (hb:Sl w b.r.b (bt b.r.e)) (PZ:fF b.pp):
  cH Tryz.prog 40 [a.val,b.val] w (Uq 72 [a,b] (AB a.pp b.pp)):=by
 refine aF func40 F ntmps40 F ?_
 refine ai (ao F (dG (cs:=a.cells) F F (fun z1=>?_)))
 refine ao F (dG (cs:=b.cells) F F (fun z2=>?_))
 refine ao F (bs db F (fun z3=>?_))
 refine ae (aM (aU (ai (ad (a_ fZ F nM F F) (ad (bi 2 ur F F F F) (ad (bJ F F) (aj F (ae (aP F (fun hc=>?_) (fun hc=>?_))))))))))
 ·have Zo:a.k=1:=by omega
  refine ai (ad (eu 1 fZ F db F F F) (ao F (bN (vs:=b.cells) 0 db F F F F ?_)))
  refine ae (aK (aA ?_))
  refine cM (i:=0) Tryz.results40 fZ F db F F F ?_
  exact⟨[],Sub.z,[],b,F,F,Eq.symm (by first|exact ot ‹_›|exact ou ‹_› hc|exact ow (by omega)|exact ox (by omega) (by omega)),.inr ⟨b,by simp,F⟩⟩
 have Zp: ¬a.k=1:=by omega
 refine gz (fun ρ O=>Sub [oI z3 69 [(.int .u8 0),nS],oI z2 69 b.cells,oI z1 69 a.cells] O∧dv [(0,a.val),(1,b.val),(2,(.pointer (aD z1))),(3,(.pointer (aD z2))),(4,(.pointer (aD z3))),(5,.bool (decide (((a.k:Nat):Int)=1))),(10,.bool (decide (b.k=1∨(a.k≠3∧a.r.e=b.r.e))))] ρ) ?_ ?_
 ·refine a7 ?_
  refine ad (a_ fZ F nM F F) (ad (bi 1 ur F F F F) ?_)
  by_cases h13:((b.k:Nat):Int)=1
  ·refine ad (aB (bJ F F) (ay h13)) ?_
   refine ah F (aV F F (aV F F (aV F F (aV F F (aV F F (aV F F (aV F F ?_)))))))
   refine aV F F (aV F F (aV F F (ad (cA F F) (aj F (ae ?_)))))
   exact⟨(by exact Sub.rf),⟨F,F,F,F,F,F,(ax Value.bool (ay (by exact .inl (by omega))).symm),trivial⟩⟩
  refine ad (aB (bJ F F) (ak h13)) (ah F (aG F F (a_ fZ F nM F F) (aG F F (bi 2 ur F F F F) ?_)))
  by_cases h17:((a.k:Nat):Int)≠3
  ·refine aG F F (aB (dQ F F) (ay h17)) ?_
   refine aG F F (aN F) (aG F F (a_ fZ F fT F F) (aG F F (bi 2 cX F F F F) (aG F F (a_ fZ F fT F F) (aG F F (bi 1 cX F F F F) ?_))))
   refine iD F F F (bl Vi (aX fun w1 hI=>(haveI:=et hI;NB w1 a.r.b b.r.b a.r.c b.r.c a.r.e b.r.e (hI.sl ha) (hI.sl hb) (by have:=Bv.len;have:a.r.e.length≤64:=this;omega))) F ?_)
   rintro vr O' ⟨N,rfl,rfl,rfl⟩
   refine aG F F (cA F F) (ad (cg F F) (aj F (ae ?_)))
   exact⟨(by exact Sub.rf),⟨F,F,F,F,F,F,(ax Value.bool (decide_eq_decide.2 ⟨fun h=>.inr ⟨by omega,h⟩,fun h=>h.elim (fun h=>by omega) (fun h=>h.2)⟩)),trivial⟩⟩
  refine aG F F (aB (dQ F F) (ak h17)) (aG F F (aN F) (aV F F (aV F F (aV F F (aV F F (aV F F (aG F F (cg F F) ?_)))))))
  refine ad (cg F F) (aj F (ae ?_))
  exact⟨(by exact Sub.rf),⟨F,F,F,F,F,F,(ax Value.bool (ak (by intro h9;rcases h9 with h9|h9<;>omega)).symm),trivial⟩⟩
 rintro ρ O ⟨hS,hH⟩
 obtain⟨gF,rfl⟩:=hH.elim
 clear hH
 refine dx hS ?_
 refine aP F (fun hc=>?_) (fun hc=>?_)
 ·refine aM ?_
  refine a7 (ad (eu 2 fZ F db F F F) (ao F (bN (vs:=a.cells) 0 db F F F F ?_)))
  refine ae (aK (aA ?_))
  refine cM (i:=0) Tryz.results40 fZ F db F F F ?_
  exact⟨[],Sub.z,[],a,F,F,Eq.symm (by first|exact ot ‹_›|exact ou ‹_› hc|exact ow (by omega)|exact ox (by omega) (by omega)),.inr ⟨a,by simp,F⟩⟩
 let eP:List Value:=[v8 a.k,(.slice a.r.b a.r.e.length a.r.c),v8 b.k,(.slice b.r.b b.r.e.length b.r.c)]
 refine aE (ai (ad (eu 2 fZ F db F F F) (ad (eu 1 fZ F db F F F) (ao F (cz (m:=2) (parts:=[(0,_),(1,_)]) (cs:=eP) l9 db (by decide) (by kernel_rfl) F (fun z4=>?_))))))
 refine ao F (bl JH (aX fun w1 hI=>(haveI:=et hI;JG w1 5 (aD z4) 2 a b (hI.ii (mG 0 F)) (hI.sl ha) Bv (hI.sl hb) PZ)) F ?_)
 rintro vr O' ⟨N,rfl,qs,c,rfl,rfl,DM,IN⟩
 refine dX (O':=([aq (aD z4) 2 69 2 eP,oI z3 69 [(.int .u8 0),nS],oI z2 69 b.cells,oI z1 69 a.cells]++(dq 72 qs))) (by exact gN [] _ (dq 72 qs)) ?_
 refine ao F (bN (vs:=c.cells) 1 db F F F F ?_)
 refine ae (aK (aA ?_))
 refine cM (i:=1) Tryz.results40 fZ F db F F F ?_
 exact⟨dq 72 qs,(by exact Sub.d (.d (.d (.d .rf)))),qs,c,F,F,DM.trans (Ef ‹_› hc).symm,IN⟩
theorem P0 (w:World) [dE Tryz.prog w] (a b:PR) (ha:Sl w a.r.b (bt a.r.e)) (Bv:fF a.pp) (hb:Sl w b.r.b (bt b.r.e)) (PZ:fF b.pp):
  cH Tryz.prog 41 [a.val,b.val] w (Uq 72 [a,b] (B3 a.pp b.pp)):=by
 refine aF func41 F ntmps41 F ?_
 refine ai (ao F (dG (cs:=a.cells) F F (fun z1=>?_)))
 refine ao F (dG (cs:=b.cells) F F (fun z2=>?_))
 refine ao F (bs db F (fun z3=>?_))
 refine ae (aM (aU (ai (ad (a_ fZ F nM F F) (ad (bi 2 ur F F F F) ?_)))))
 by_cases h8:((a.k:Nat):Int)=1
 ·refine ad (aB (bJ F F) (ay h8)) ?_
  refine ah F (aV F F (aV F F (aV F F (ad (cA F F) (aj F (ae ?_))))))
  refine bO F ?_
  refine ai (ad (eu 2 fZ F db F F F) (ao F (bN (vs:=a.cells) 0 db F F F F ?_)))
  refine ae (aK (aA ?_))
  refine cM (i:=0) Tryz.results41 fZ F db F F F ?_
  exact⟨[],Sub.z,[],a,F,F,Eq.symm (by first|exact ot ‹_›|exact ou ‹_› hc|exact ow (by omega)|exact ox (by omega) (by omega)),.inr ⟨a,by simp,F⟩⟩
 refine ad (aB (bJ F F) (ak h8)) (ah F (aG F F (a_ fZ F nM F F) (aG F F (bi 1 ur F F F F) ?_)))
 by_cases h12:((b.k:Nat):Int)=2
 ·refine aG F F (aB (bJ F F) (ay h12)) ?_
  refine ad (cg F F) (aj F (ae ?_))
  refine bO F ?_
  refine ai (ad (eu 2 fZ F db F F F) (ao F (bN (vs:=a.cells) 0 db F F F F ?_)))
  refine ae (aK (aA ?_))
  refine cM (i:=0) Tryz.results41 fZ F db F F F ?_
  exact⟨[],Sub.z,[],a,F,F,Eq.symm (by first|exact ot ‹_›|exact ou ‹_› hc|exact ow (by omega)|exact ox (by omega) (by omega)),.inr ⟨a,by simp,F⟩⟩
 refine aG F F (aB (bJ F F) (ak h12)) (ad (cg F F) (aj F (ae (a6 F (ai (ad (a_ fZ F nM F F) (ad (bi 1 ur F F F F) ?_)))))))
 by_cases h18:((b.k:Nat):Int)=1
 ·refine ad (aB (bJ F F) (ay h18)) ?_
  refine ah F (aV F F (aV F F (aV F F (ad (cA F F) (aj F (ae ?_))))))
  refine bO F ?_
  refine ai (ad (eu 1 fZ F db F F F) (ao F (bN (vs:=b.cells) 0 db F F F F ?_)))
  refine ae (aK (aA ?_))
  refine cM (i:=0) Tryz.results41 fZ F db F F F ?_
  exact⟨[],Sub.z,[],b,F,F,Eq.symm (by first|exact ot ‹_›|exact ou ‹_› hc|exact ow (by omega)|exact ox (by omega) (by omega)),.inr ⟨b,by simp,F⟩⟩
 refine ad (aB (bJ F F) (ak h18)) (ah F (aG F F (a_ fZ F nM F F) (aG F F (bi 2 ur F F F F) ?_)))
 by_cases h22:((a.k:Nat):Int)=2
 ·refine aG F F (aB (bJ F F) (ay h22)) ?_
  refine ad (cg F F) (aj F (ae ?_))
  refine bO F ?_
  refine ai (ad (eu 1 fZ F db F F F) (ao F (bN (vs:=b.cells) 0 db F F F F ?_)))
  refine ae (aK (aA ?_))
  refine cM (i:=0) Tryz.results41 fZ F db F F F ?_
  exact⟨[],Sub.z,[],b,F,F,Eq.symm (by first|exact ot ‹_›|exact ou ‹_› hc|exact ow (by omega)|exact ox (by omega) (by omega)),.inr ⟨b,by simp,F⟩⟩
 let gC:List Value:=[v8 a.k,(.slice a.r.b a.r.e.length a.r.c),v8 b.k,(.slice b.r.b b.r.e.length b.r.c)]
 refine aG F F (aB (bJ F F) (ak h22)) (ad (cg F F) (aj F (ae (a6 F (aE (ai (ad (eu 2 fZ F db F F F) (ad (eu 1 fZ F db F F F) (ao F (cz (m:=2) (parts:=[(0,_),(1,_)]) (cs:=gC) l9 db (by decide) (by kernel_rfl) F (fun z4=>?_)))))))))))
 refine ao F (bl JH (aX fun w1 hI=>(haveI:=et hI;JG w1 4 (aD z4) 2 a b (hI.ii (mG 0 F)) (hI.sl ha) Bv (hI.sl hb) PZ)) F ?_)
 rintro vr O' ⟨N,rfl,qs,c,rfl,rfl,DM,IN⟩
 refine dX (O':=([aq (aD z4) 2 69 2 gC,oI z3 69 [(.int .u8 0),nS],oI z2 69 b.cells,oI z1 69 a.cells]++(dq 72 qs))) (by exact gN [] _ (dq 72 qs)) ?_
 refine ao F (bN (vs:=c.cells) 1 db F F F F ?_)
 refine ae (aK (aA ?_))
 refine cM (i:=1) Tryz.results41 fZ F db F F F ?_
 exact⟨dq 72 qs,(by exact Sub.d (.d (.d (.d .rf)))),qs,c,F,F,DM.trans (Eg (by omega) (by omega)).symm,IN⟩
theorem RQ (w:World) [dE Tryz.prog w] (a:PR) (ha:Sl w a.r.b (bt a.r.e)) (Bv:fF a.pp):
  cH Tryz.prog 42 [a.val] w (Uq 72 [a] (zn a.pp)):=by
 refine aF func42 F ntmps42 F ?_
 refine ai (ao F (dG (cs:=a.cells) F F (fun z1=>?_)))
 refine ao F (bs db F (fun z2=>?_))
 refine ae (aM (ai (ad (a_ fZ F nM F F) (ad (bi 1 ur F F F F) ?_))))
 by_cases h5:((a.k:Nat):Int)=1
 ·refine ad (aB (bJ F F) (ay h5)) ?_
  refine ah F (aV F F (aV F F (aV F F (ad (cA F F) (ae ?_)))))
  refine bO F ?_
  refine ai (ad (cE (cs:=[.int .u8 2,(.int .u8 0),(.int .u8 0),(vI 0),(vI 0)]) nh cm (by kernel_rfl)) (ao F (bl B6 (aX fun w1 hI=>(haveI:=et hI;xi w1 2 ⟨2,0,0,0,0⟩)) F ?_)))
  rintro vr O' ⟨N,rfl,qs,c,rfl,rfl,DM,IN⟩
  refine dX (O':=([oI z2 69 [(.int .u8 0),nS],oI z1 69 a.cells]++(dq 72 qs))) (by exact gN [] _ (dq 72 qs)) ?_
  refine ao F (bN (vs:=c.cells) 0 db F F F F ?_)
  refine ae (aK (aA ?_))
  refine cM (i:=0) Tryz.results42 fZ F db F F F ?_
  exact⟨dq 72 qs,(by exact Sub.d (.d .rf)),qs,c,F,F,DM.trans (zu (by omega)).symm,IN.elim .inl (fun h=>absurd h (by simp))⟩
 refine ad (aB (bJ F F) (ak h5)) (ah F (aG F F (a_ fZ F nM F F) (aG F F (bi 1 ur F F F F) ?_)))
 by_cases h9:((a.k:Nat):Int)=2
 ·refine aG F F (aB (bJ F F) (ay h9)) ?_
  refine ad (cg F F) (ae ?_)
  refine bO F ?_
  refine ai (ad (cE (cs:=[.int .u8 2,(.int .u8 0),(.int .u8 0),(vI 0),(vI 0)]) nh cm (by kernel_rfl)) (ao F (bl B6 (aX fun w1 hI=>(haveI:=et hI;xi w1 2 ⟨2,0,0,0,0⟩)) F ?_)))
  rintro vr O' ⟨N,rfl,qs,c,rfl,rfl,DM,IN⟩
  refine dX (O':=([oI z2 69 [(.int .u8 0),nS],oI z1 69 a.cells]++(dq 72 qs))) (by exact gN [] _ (dq 72 qs)) ?_
  refine ao F (bN (vs:=c.cells) 0 db F F F F ?_)
  refine ae (aK (aA ?_))
  refine cM (i:=0) Tryz.results42 fZ F db F F F ?_
  exact⟨dq 72 qs,(by exact Sub.d (.d .rf)),qs,c,F,F,DM.trans (zu (by omega)).symm,IN.elim .inl (fun h=>absurd h (by simp))⟩
 refine aG F F (aB (bJ F F) (ak h9)) (ad (cg F F) (ae (a6 F (aE (ai (ad (eu 1 fZ F db F F F) (ao F (cz (m:=1) (parts:=[(0,_)]) (cs:=a.cells) l9 db (by decide) (by kernel_rfl) F (fun z3=>?_)))))))))
 refine ao F (bl JH (aX fun w1 hI=>(haveI:=et hI;RL w1 8 (aD z3) 1 a (hI.ii (mG 0 F)) (hI.sl ha) Bv)) F ?_)
 rintro vr O' ⟨N,rfl,qs,c,rfl,rfl,DM,IN⟩
 refine dX (O':=([aq (aD z3) 1 69 2 a.cells,oI z2 69 [(.int .u8 0),nS],oI z1 69 a.cells]++(dq 72 qs))) (by exact gN [] _ (dq 72 qs)) ?_
 refine ao F (bN (vs:=c.cells) 1 db F F F F ?_)
 refine ae (aK (aA ?_))
 refine cM (i:=1) Tryz.results42 fZ F db F F F ?_
 exact⟨dq 72 qs,(by exact Sub.d (.d (.d .rf))),qs,c,F,F,DM.trans (HC (by omega)).symm,IN⟩
end Go.Proofs.YtgdbfideeeegmaaGreatDoor

namespace Go.Lx
open Go.RowKit Go.Proofs.YtgdbfideeeegmaaGreatDoor
def leX (L x:Nat):PP:=(0,[⟨3,x,L-1-x,0,0⟩])
def Zq:PP:=(1,[⟨1,0,0,0,0⟩])
def emX:PP:=(2,[⟨2,0,0,0,0⟩])
def HD (m:cU) (s t:Nat):Nat→PP
 |0=>if s=t then emX else Zq
 |x+1=>if fm m s x=t then AB (HD m s t x) (leX (eh m) x)else HD m s t x
def l_ (m:cU):Nat→Nat→Nat→PP
 |0,s,t=>HD m s t (eh m)
 |k+1,s,t=>AB (l_ m k s t) (B3 (B3 (l_ m k s k) (zn (l_ m k k k))) (l_ m k k t))
def yD (m:cU):Nat→PP
 |0=>Zq
 |t+1=>if dr m t=true then AB (yD m t) (l_ m m.next.length 0 t)else yD m t
def Eh (m:cU):PP:=yD m m.next.length
def NC (m:cU):Nat:=if(Eh m).1=3 then 4 else 0
def JI (m:cU):List dK:=if(Eh m).1=3 then[]else(Eh m).2
theorem B7 {L x:Nat} (h:x<L) (hL:L≤256):fF (leX L x):=.one (by decide) (by decide) (by omega) (by omega)
theorem xj:fF Zq:=.one (by decide) (by decide) (by decide) (by decide)
theorem JJ:fF emX:=.one (by decide) (by decide) (by decide) (by decide)
theorem tg {m:cU} (hL:eh m≤256) (s t:Nat): ∀x,x≤eh m→fF (HD m s t x)
 |0,_=>by
  unfold HD;split
  ·exact JJ
  ·exact xj
 |x+1,h=>by
  unfold HD;split
  ·exact uo (tg hL s t x (by omega)) (B7 (by omega) hL)
  ·exact tg hL s t x (by omega)
theorem iN {m:cU} (hL:eh m≤256): ∀k s t,fF (l_ m k s t)
 |0,s,t=>tg hL s t _ (bF _)
 |k+1,s,t=>uo (iN hL k s t) (q9 (q9 (iN hL k s k) (xh (iN hL k k k))) (iN hL k k t))
theorem q_ {m:cU} (hL:eh m≤256): ∀t,fF (yD m t)
 |0=>xj
 |t+1=>by
  unfold yD;split
  ·exact uo (q_ hL t) (iN hL _ _ _)
  ·exact q_ hL t
structure MR where
 b:Option Addr
 c:Nat
 l:List PR
instance:Inhabited MR:=⟨⟨none,0,[]⟩⟩
abbrev MR.val (r:MR):Value:=.slice r.b r.l.length r.c
def MR.sQ (T:TypeId) (r:MR):Item:=aq r.b r.c T 2 (eH r.l)
def eI (T:TypeId) (R:List MR):List Item:=R.map (MR.sQ T)
def kG (R:List MR):List Value:=R.map MR.val
structure vL (l:List PR) (p:List ER) (g:Nat→PP):Prop where
 pp: ∀j (h:j<l.length),l[j].pp=g j
 po: ∀x∈l,gi p x.r
theorem vL.nil {p:List ER} {g:Nat→PP}:vL [] p g:=⟨fun j h=>absurd h (by simp),fun x hx=>by simp at hx⟩
theorem vL.mono {l:List PR} {p q:List ER} {g:Nat→PP} (h:vL l p g) (hq: ∀x∈p,x∈q):vL l q g:=⟨h.pp,fun x hx=>(h.po x hx).mono hq⟩
theorem vL.snoc {l:List PR} {p:List ER} {g:Nat→PP} (h:vL l p g) {c:PR} (hc:c.pp=g l.length) (hp:gi p c.r):vL (l++[c]) p g:=by
 refine⟨fun j hj=>?_,fun x hx=>?_⟩
 ·rw[aw,List.length_singleton]at hj
  rcases Nat.lt_or_ge j l.length with e|e
  ·rw[il e];exact h.pp j e
  ·have:j=l.length:=by omega
   subst this
   rw[List.getElem_append_right (bF _)]
   simpa using hc
 ·rcases List.mem_append.1 hx with hx|hx
  ·exact h.po x hx
  ·rw[List.mem_singleton.1 hx];exact hp
structure pP (R:List MR) (p:List ER) (n:Nat) (f:Nat→Nat→PP):Prop where
 len: ∀r∈R,r.l.length=n
 row: ∀i (h:i<R.length),vL R[i].l p (f i)
theorem pP.nil {p:List ER} {n:Nat} {f:Nat→Nat→PP}:pP [] p n f:=⟨fun r hr=>by simp at hr,fun i h=>absurd h (by simp)⟩
theorem pP.mono {R:List MR} {p q:List ER} {n:Nat} {f:Nat→Nat→PP} (h:pP R p n f) (hq: ∀x∈p,x∈q):pP R q n f:=⟨h.len,fun i hi=>(h.row i hi).mono hq⟩
theorem pP.snoc {R:List MR} {p:List ER} {n:Nat} {f:Nat→Nat→PP} (h:pP R p n f) {r:MR} (hl:r.l.length=n) (hr:vL r.l p (f R.length)):pP (R++[r]) p n f:=by
 refine⟨fun x hx=>?_,fun i hi=>?_⟩
 ·rcases List.mem_append.1 hx with hx|hx
  ·exact h.len x hx
  ·rw[List.mem_singleton.1 hx];exact hl
 ·rw[aw,List.length_singleton]at hi
  rcases Nat.lt_or_ge i R.length with e|e
  ·rw[il e];exact h.row i e
  ·have:i=R.length:=by omega
   subst this
   rw[List.getElem_append_right (bF _)]
   simpa using hr
def iY (R:List MR) (n:Nat):List Value:=kG R++List.replicate (n-R.length) (.slice none 0 0)
theorem ma {R:List MR} {n:Nat} (h:R.length≤n):(iY R n).length=n:=by unfold iY kG;rw[aw,ar,iU];omega
theorem ND {R:List MR} {n:Nat} (h:R.length<n):(iY R n)[R.length]? =some (.slice none 0 0):=by
 unfold iY kG
 rw[bT (by simp),ar,fR,show n-R.length=(n-R.length-1)+1 by omega,List.replicate_succ];rfl
theorem th {R:List MR} {n:Nat} (h:R.length<n) (r:MR):(iY R n).set R.length r.val=iY (R++[r]) n:=by
 unfold iY kG
 rw[List.set_append_right _ _ (by simp),ar,fR,show n-R.length=(n-(R++[r]).length)+1 by simp;omega,List.replicate_succ,bm]
 simp
theorem zv {R:List MR} {n:Nat} (h:R.length=n):iY R n=kG R:=by unfold iY;rw[h,fR];simp
theorem oy {R:List MR} {i:Nat} (h:i<R.length):(kG R)[i]? =some R[i].val:=by unfold kG;rw[bq,ap h];rfl
theorem oz (R:List MR):(kG R).length=R.length:=ar _
theorem B8 (T:TypeId) (R S:List MR):eI T (R++S)=eI T R++eI T S:=bm
theorem j8 {T:TypeId} {R:List MR} {i:Nat} (h:i<R.length):aq R[i].b R[i].c T 2 (eH R[i].l)∈eI T R:=List.mem_map.2 ⟨_,aQ h,F⟩
theorem B9 {R:List MR} {n:Nat} (h:R.length<n):iY R n=iY (R++[⟨none,0,[]⟩]) n:=by
 rw[←th h]
 apply List.ext_getElem?
 intro i
 by_cases e:i=R.length
 ·subst e;rw[ND h,List.getElem?_set_self (by rw[ma (by omega)];exact h)];rfl
 ·rw[List.getElem?_set_ne (fun h=>e h.symm)]
theorem B_ {R:List MR} {n:Nat} (h:R.length<n) (r:MR):(iY (R++[r]) n)[R.length]? =some r.val:=by
 rw[←th h,List.getElem?_set_self (by rw[ma (by omega)];exact h)]
theorem zw {R:List MR} {n:Nat} (h:R.length<n) (r r2:MR):(iY (R++[r]) n).set R.length r2.val=iY (R++[r2]) n:=by
 rw[←th h,List.set_set,th h]
theorem JK {M:cU} {qs:List Rec} (h:nums qs=M.next):qs.length=M.next.length:=by rw[←h];simp
theorem AD {M:cU} {qs:List Rec} (h:nums qs=M.next) (hv:Val M) {s:Nat} (hs:s<qs.length):qs[s].xs.length=eh M:=by
 have h1:qs[s].xs∈M.next:=by rw[←h];exact List.mem_map.2 ⟨_,aQ hs,F⟩
 exact hv.len _ h1
theorem Vj {M:cU} {qs:List Rec} (h:nums qs=M.next) (hv:Val M) {s:Nat} (hs:s<qs.length) {x:Nat} (hx:x<eh M):(ints qs[s].xs)[x]? =some (.int .i64 ((fm M s x:Nat):Int)):=by
 obtain⟨_,h1,h2,h3⟩:=hv.gY (o:=s) (by rw[←JK h];exact hs) hx
 have h4:qs[s].xs=M.next[s]:=by
  have:(nums qs)[s]? =M.next[s]? :=by rw[h]
  rw[ap h1,bq,ap hs]at this
  exact df this
 rw[h4,gL h2,h3]
theorem JL {qs:List Rec} {s:Nat} (hs:s<qs.length):(dm qs)[s]? =some (.slice qs[s].b qs[s].xs.length qs[s].c):=by
 show(qs.map Rec.val)[s]? =_
 rw[bq,ap hs];rfl
theorem JM {qs:List Rec} {s:Nat} (hs:s<qs.length):aq qs[s].b qs[s].c 3 1 (ints qs[s].xs)∈cd 3 qs:=List.mem_map.2 ⟨_,aQ hs,F⟩
theorem nj {l:List PR} {i:Nat} {a:PR} (h:l[i]? =some a): ∀j (hj:j<a.cells.length),(eH l)[i*2+j]? =some a.cells[j]:=by
 obtain⟨hi,rfl⟩:=List.getElem?_eq_some_iff.1 h
 exact nL hi
theorem pP.at {R:List MR} {p:List ER} {n:Nat} {f:Nat→Nat→PP} (h:pP R p n f) {i j:Nat} (hi:i<R.length) (hj:j<n): ∃a:PR,R[i].l[j]? =some a∧a.pp=f i j∧gi p a.r:=by
 have hl:=h.len _ (aQ hi)
 have h1:=h.row i hi
 have si:j<R[i].l.length:=by omega
 exact⟨R[i].l[j],ap si,h1.pp j si,h1.po _ (aQ si)⟩
theorem k8 {T:TypeId} {q p:List ER} {O:List Item} (h1: ∀it∈dq T q,it∈O) (h2: ∀it∈dq T p,it∈O): ∀it∈dq T (q++p),it∈O:=fun it fI=>by
 rw[ql]at fI
 exact(List.mem_append.1 fI).elim (h1 it) (h2 it)
theorem u7 {p q:List ER} {a:List PR} {c:PR} (h:gi q c.r∨ ∃x∈a,c.r=x.r) (ha: ∀x∈a,gi p x.r):gi (q++p) c.r:=by
 rcases h with h|⟨x,hx,e⟩
 ·exact h.mono fun y hy=>aT _ hy
 ·rw[e];exact(ha x hx).mono fun y hy=>am _ hy
theorem u9 (A B E X Y:List Item) (c:Item) (h:Sub (A++[c]) B):Sub (A++(E++((X++[c])++Y))) (B++(E++(X++Y))):=by
 obtain⟨l,h1,h2⟩:=h
 refine⟨l++(E++(X++Y)),?_,h2.append (aZ _)⟩
 refine List.Perm.trans ?_ (h1.append_right (E++(X++Y)))
 rw[aI X,aI A]
 refine List.Perm.append_left A ?_
 rw[←aI E X,←aI E X,List.singleton_append]
 exact List.perm_middle
theorem Ca (A B E X Y Z:List Item) (h:Sub A B):Sub (A++(E++(X++Z))) (B++(E++(X++(Y++Z)))):=by
 obtain⟨l,h1,h2⟩:=h
 exact⟨l++(E++(X++Z)),h1.append_right _,h2.append ((aZ E).append ((aZ X).append (List.sublist_append_right Y Z)))⟩
end Go.Lx

namespace Go.Lx
open Go.RowKit Go.Proofs.YtgdbfideeeegmaaGreatDoor
def Ch (S:List UInt8) (i c:Nat):Prop:=S[i]?.map UInt8.toNat=some c
theorem Ch.lt {S:List UInt8} {i c:Nat} (h:Ch S i c):i<S.length:=by
 unfold Ch at h
 rcases Nat.lt_or_ge i S.length with e|e
 ·exact e
 ·rw[bZ e]at h;cases h
section
variable {P:Program} {base:World} {ρ:Env} {O:List Item} {dst:Option Nat} {t:TypeId} {p:String} {af:Array Edge} {g:Option (Nat×Bool)}
theorem Vx {x y:Operand} {T:TypeId} {S:List UInt8} {i c:Nat} (hu:P.underlying T=some .string) (hx:ev ρ x=str S) (hy:ev ρ y=.int .i64 (i:Int)) (h:Ch S i c):QT P base ⟨dst,.index T x y,t,p,af,g⟩ ρ O (.int .u8 (c:Int)):=fun w _=>by
 obtain⟨b,hb,rfl⟩:=Option.map_eq_some_iff.1 h
 have D8:(ByteArray.mk S.toArray)[i]? =some b:=by
  have hl:=h.lt
  rw[show(ByteArray.mk S.toArray)[i]? =some ((ByteArray.mk S.toArray)[i]'hl)from dif_pos hl]
  rw[ap hl]at hb
  exact hb
 have NM:ev ρ x=.string ⟨S.toArray⟩:=hx
 simp[execOp,NM,hy,Instr.index,asIntOf,bG hu,D8]
end
end Go.Lx

