/- Contracts of functions of the program, and what they answer. Conditions: those each theorem names. -/
import Derived.Test.YtgdbfideeeegmaaGreatDoorA9
import Derived.Test.YtgdbfideeeegmaaGreatDoorA2
import Derived.Test.YtgdbfideeeegmaaGreatDoorA7
import Derived.Test.YtgdbfideeeegmaaGreatDoorA6
import Derived.Test.YtgdbfideeeegmaaGreatDoorA8
set_option linter.unusedSectionVars false
set_option linter.unusedSimpArgs false
set_option linter.unusedVariables false
set_option linter.unnecessarySimpa false
set_option maxHeartbeats 8000000
set_option maxRecDepth 20000
namespace Go.Lx
open Go.RowKit
instance:Nonempty St:=⟨⟨[],[]⟩⟩
def mA (x:dE):Bool:=decide (x.op=9)||decide (x.op=10)
def qi (ls:List Lf) (la:List Nat):List Lf:=la.foldl (fun ls k=>ls.set k {lf ls k with la:=true}) ls
theorem sZ: ∀(la:List Nat) (ls:List Lf),(qi ls la).length=ls.length
 | [],ls=>rfl
 |k::la,ls=>by
  show(qi (ls.set k _) la).length=_
  rw[sZ la,List.length_set]
theorem Dj {ls:List Lf} {la:List Nat} {i:Nat} (h:i<la.length):qi ls (la.take (i+1))=(qi ls (la.take i)).set la[i] {lf (qi ls (la.take i)) la[i]with la:=true}:=by
 unfold qi;rw[List.take_succ_eq_append_getElem h,List.foldl_append];rfl
noncomputable def mO (v:Nat) (t:Rx):List Lf:=qi (aK v t []).ls (aK v t []).la
noncomputable def HH (v:Nat) (t:Rx):List Nat:=(aK v t []).fi
noncomputable def Vx (v:Nat) (t:Rx):Lg:=fun u=>qL (u.foldl (lL (mO v t)) (j4 (mO v t) (HH v t)))
def OX (v:Nat) (t:Rx) (B:Nat):Prop:=CT (zI (jL (mO v t)) St.key (lL (mO v t))) (2^v) (j4 (mO v t) (HH v t)).key B
def Xo (v:Nat) (t:Rx) (B:Nat):Prop:=okB v t B∧OX v t B
theorem Bz (v:Nat) (t:Rx):(mO v t).length=t.lv:=by unfold mO;rw[sZ,eI];simp
theorem Eu {v:Nat} {t:Rx}: ∀k∈HH v t,k<(mO v t).length:=fun k hk=>by
 have:=(fN v t []).1 k hk;rw[Bz];simpa using this.2
theorem IU {v:Nat} {t:Rx} (hG:gU (mO v t) v) {u:List Nat} (hu: ∀x∈u,x<2^v):FM (jL (mO v t)) St.key qL (u.foldl (zI (jL (mO v t)) St.key (lL (mO v t))) (j4 (mO v t) (HH v t)).key)=Vx v t u:=
 zn (Et hG) (wl hG Eu) hu
theorem jK.of {w base:World} {O:List Item} (hI:Inv base O w) {ob:Nat} {lb:Option Addr} {lc:Nat} {cv fv:Value} {ls:List Lf} {ks:List LK} {OL LT:TypeId} (hk:ks.length=ls.length)
  (h1:da ob (.cells [cv,.slice lb ls.length lc,fv].toArray OL (0,0))∈O) (h2:ak lb lc LT 7 (cI ls ks)∈O) {II Bo I:TypeId} (h3: ∀it∈bl I (ek ls ks),it∈O) (h4: ∀it∈gr II Bo I ls ks,it∈O):jK w ob lb lc cv fv ls ks:=by
 refine⟨hI.iX h1,hI.eV h2,hk,fun k nF=>?_,fun k nF=>?_⟩
 ·have hz:=List.mem_of_getElem? (I6 hk nF)
  exact hI.at (k:=(lk ks k).k) (h4 _ (List.mem_map.2 ⟨_,hz,F⟩))
 ·have hr:=List.mem_of_getElem? (Bs hk nF)
  have h5:=hI.eV (h3 _ (List.mem_map.2 ⟨_,hr,F⟩))
  rw[e7]at h5;exact h5
end Go.Lx

namespace Go.Proofs.YtgdbfideeeegmaaGreatDoor
open Go.Lx Go.RowKit _root_.Go.Proofs.Tryz
theorem W7 (w:World) [cG Tryz.prog w] (p n x:Nat) (hp:p<256) (hn:n<256) (hx:x<256):
  bs Tryz.prog 140 [.agg #[v8 p,v8 n],v8 x] w fun v N=>v=.bool (gM p n x)∧N=[]:=by
 refine av func140 F ntmps140 F ?_
 refine ai (aj F (cL (cs:=[v8 p,v8 n]) F F (fun uz=>?_)))
 refine TO.qa F (ae (ai (ah F (ad (aJ jG F cP F F) (ad (aO 0 eC F F F F) (ad (DL (a:=x) (b:=p) .u8 F F (by show _<256;omega) (by show _<256;omega)) (ad (aJ jG F cP F F) (ad (aO 0 eC F F F F) (ad (bo F F) ?_)))))))))
 by_cases Im:((x&&&p:Nat):Int)=((p:Nat):Int)
 ·refine ad (ar (aF F) (decide_eq_true Im)) ?_
  refine ap F F (aF F) (ap F F (aJ jG F cP F F) (ap F F (aO 0 eC F F F F) (ap F F (DL (a:=x) (b:=n) .u8 F F (by show _<256;omega) (by show _<256;omega)) (ap F F (bo F F) (ad (bt F F) (TO.qa F (ae (az (ao ?_)))))))))
  refine aG (.bool (decide (((x&&&n:Nat):Int)=0))) Tryz.results140 F ?_
  exact⟨[],a_ (List.nil_sublist _),congrArg Value.bool (Eq.symm (decide_eq_decide.2 (by omega))),F⟩
 refine ad (ar (aF F) (decide_eq_false Im)) (ay F F (ay F F (ay F F (ay F F (ay F F (ad (aZ F F) (TO.qa F (ae (az (ao ?_))))))))))
 refine aG (.bool false) Tryz.results140 F ?_
 exact⟨[],a_ (List.nil_sublist _),congrArg Value.bool (Eq.symm (decide_eq_false (fun hm=>by omega))),F⟩
theorem Bf (A B X:List Lx.Item) (c:Lx.Item) (h:Sub (A++[c]) B):Sub (A++(X++[c])) (B++X):=by
 have:=my A B X [] c h
 simpa using this
theorem W8 (w:World) [cG Tryz.prog w] (cb:Nat) (eb:Option Addr) (en ec vs B:Nat) (eu:Sl w (aD cb) [.slice eb en ec,vI (vs:Int),vI (B:Int)]) (gm:vs≤6):
  bs Tryz.prog 103 [(du (aD cb) 0)] w fun v N=> ∃nb nc fb fc qs,v=.agg (cB (fZ (vs:Int) true) nb nc fb fc).toArray∧N=[ak nb nc 56 1 (bO qs),ak fb fc 4 1 (aU (fZ (vs:Int) true).aA)]++bl 3 qs∧nums qs=(fZ (vs:Int) true).next:=by
 refine av func103 F ntmps103 F ?_
 obtain⟨L,hL⟩: ∃L,2^vs=L:=⟨_,F⟩
 have Lq:L≤64:=by rw[←hL];exact Nat.pow_le_pow_right (by decide) gm
 refine ai (aj F (aR aX F (fun uz=>?_)))
 refine ae ?_
 refine fg (fun ρ O=> ∃(zA zB zC:Nat),O=[ak (aD zA) L 3 1 (List.replicate L (vI 0)),ak (aD zB) 1 56 1 [(.slice (aD zA) L L)],ak (aD zC) 1 4 1 [.bool true],oI uz 25 [vI ((vs:Nat):Int),(vI 0),(.slice (aD zB) 1 1),(.slice (aD zC) 1 1)]]∧bZ [(0,(du (aD cb) 0)),(2,(.pointer (aD uz)))] ρ) ?_ ?_
 ·refine oy [] 14 mixed F (by exact Sub.z) (fun _ _ _ _ h=>h) ?_
  refine cA 0 F (by kernel_rfl) (aF F) ?_
  refine cA 1 F (by kernel_rfl) (aP F) ?_
  refine cA 2 F (by kernel_rfl) (bG kR F aM F F (aB eu) (by first|omega|(simp;done)|(simp;omega)|(simp_all;done)|(simp_all;omega))) ?_
  refine cA 3 F (by kernel_rfl) (bS dh F F (aB eu) F) ?_
  refine cA 4 F (by kernel_rfl) (aF F) ?_
  refine cA 5 F (by kernel_rfl) (aP F) ?_
  refine cA 6 F (by kernel_rfl) (bG kR F aM F F (aB eu) (by first|omega|(simp;done)|(simp;omega)|(simp_all;done)|(simp_all;omega))) ?_
  refine cA 7 F (by kernel_rfl) (bS dh F F (aB eu) F) ?_
  refine cA 8 F (by kernel_rfl) (a8 (mJ (v:=vs) F F (by omega)) (v':=vI ((L:Nat):Int)) (by rw[hL])) ?_
  refine aN [9,11] (by kernel_rfl) F ⟨⟨_,F,F,bV (m:=L) bT aM F F (by omega) (by omega) (fun zA=>⟨by exact Sub.z,?_⟩)⟩,⟨_,F,F,bN (v:=.bool true) dF dc F F F (fun zC=>⟨by exact Sub.z,?_⟩)⟩,trivial⟩
  ·refine aN [10,11] (by kernel_rfl) F ⟨⟨_,F,F,bN (v:=(.slice (aD zA) L L)) dB bP F F F (fun zB=>⟨by exact Sub.z,?_⟩)⟩,⟨_,F,F,bN (v:=.bool true) dF dc F F F (fun zC=>⟨by exact Sub.z,?_⟩)⟩,trivial⟩
   ·refine aN [11] (by kernel_rfl) F ⟨⟨_,F,F,bN (v:=.bool true) dF dc F F F (fun zC=>⟨by exact Sub.z,?_⟩)⟩,trivial⟩
    refine cA 12 F (by kernel_rfl) (bE (cs:=[vI ((vs:Nat):Int),(vI 0),(.slice (aD zB) 1 1),(.slice (aD zC) 1 1)]) gK aX (by kernel_rfl)) ?_
    refine aN [13] (by kernel_rfl) F ⟨⟨_,F,F,bj (vs:=[vI ((vs:Nat):Int),(vI 0),(.slice (aD zB) 1 1),(.slice (aD zC) 1 1)]) 3 aX F F F F ⟨by exact Sub.z,?_⟩⟩,trivial⟩
    exact cH (by kernel_rfl) ⟨zA,zB,zC,F,⟨F,F,trivial⟩⟩ (by exact Sub.dL [ak (aD zC) 1 4 1 [.bool true],ak (aD zB) 1 56 1 [(.slice (aD zA) L L)]] _ (.dL [ak (aD zC) 1 4 1 [.bool true]] _ (.k (.k .z))))
   refine aN [10] (by kernel_rfl) F ⟨⟨_,F,F,bN (v:=(.slice (aD zA) L L)) dB bP F F F (fun zB=>⟨by exact Sub.z,?_⟩)⟩,trivial⟩
   refine cA 12 F (by kernel_rfl) (bE (cs:=[vI ((vs:Nat):Int),(vI 0),(.slice (aD zB) 1 1),(.slice (aD zC) 1 1)]) gK aX (by kernel_rfl)) ?_
   refine aN [13] (by kernel_rfl) F ⟨⟨_,F,F,bj (vs:=[vI ((vs:Nat):Int),(vI 0),(.slice (aD zB) 1 1),(.slice (aD zC) 1 1)]) 3 aX F F F F ⟨by exact Sub.z,?_⟩⟩,trivial⟩
   exact cH (by kernel_rfl) ⟨zA,zB,zC,F,⟨F,F,trivial⟩⟩ (by exact Sub.dL [ak (aD zB) 1 56 1 [(.slice (aD zA) L L)],ak (aD zC) 1 4 1 [.bool true]] _ (.k (.k (.k .z))))
  refine aN [9] (by kernel_rfl) F ⟨⟨_,F,F,bV (m:=L) bT aM F F (by omega) (by omega) (fun zA=>⟨by exact Sub.z,?_⟩)⟩,trivial⟩
  refine aN [10] (by kernel_rfl) F ⟨⟨_,F,F,bN (v:=(.slice (aD zA) L L)) dB bP F F F (fun zB=>⟨by exact Sub.z,?_⟩)⟩,trivial⟩
  refine cA 12 F (by kernel_rfl) (bE (cs:=[vI ((vs:Nat):Int),(vI 0),(.slice (aD zB) 1 1),(.slice (aD zC) 1 1)]) gK aX (by kernel_rfl)) ?_
  refine aN [13] (by kernel_rfl) F ⟨⟨_,F,F,bj (vs:=[vI ((vs:Nat):Int),(vI 0),(.slice (aD zB) 1 1),(.slice (aD zC) 1 1)]) 3 aX F F F F ⟨by exact Sub.z,?_⟩⟩,trivial⟩
  exact cH (by kernel_rfl) ⟨zA,zB,zC,F,⟨F,F,trivial⟩⟩ (by exact Sub.dL [ak (aD zB) 1 56 1 [(.slice (aD zA) L L)]] _ (.k (.k (.k .z))))
 rintro ρ O ⟨zA,zB,zC,rfl,hH⟩
 obtain⟨eP,rfl⟩:=hH.elim
 clear hH
 refine az (ao ?_)
 refine bf (i:=3) Tryz.results103 cy F aX F F F ?_
 exact⟨[ak (aD zB) 1 56 1 (bO [⟨(aD zA),L,List.replicate L 0⟩]),ak (aD zC) 1 4 1 (aU [true])]++bl 3 [⟨(aD zA),L,List.replicate L 0⟩],by rw[show bl 3 [(⟨(aD zA),L,List.replicate L 0⟩:Rec)]=[ak (aD zA) L 3 1 (List.replicate L (vI 0))] by simp[bl,Rec.lZ],show bO [(⟨(aD zA),L,List.replicate L 0⟩:Rec)]=[(.slice (aD zA) L L)] by simp[Rec.val]];exact(by exact Sub.dL [ak (aD zA) L 3 1 (List.replicate L (vI 0))] _ (.dL [ak (aD zA) L 3 1 (List.replicate L (vI 0))] _ (.k .z))),(aD zB),1,(aD zC),1,[⟨(aD zA),L,List.replicate L 0⟩],F,F,by rw[←hL];rfl⟩
theorem Rr (w:World) [cG Tryz.prog w] (cb:Nat) (eb:Option Addr) (en ec vs B:Nat) (eu:Sl w (aD cb) [.slice eb en ec,vI (vs:Int),vI (B:Int)]) (gm:vs≤6):
  bs Tryz.prog 103 [(du (aD cb) 0)] w fun v N=> ∃k,v=dV (fZ (vs:Int) true) k∧N=[dI 56 4 3 (fZ (vs:Int) true) k]:=
 bw.dk (g:=id) (W8 w cb eb en ec vs B eu gm)
theorem Io (w:World) [cG Tryz.prog w] (cb:Nat) (eb:Option Addr) (en ec vs B:Nat) (eu:Sl w (aD cb) [.slice eb en ec,vI (vs:Int),vI (B:Int)]) (gm:vs≤6) (iP:1≤B) (hB:B≤4096) (n op pp pn:Nat) (pa pb:Int) (hn:n≤1) (KH:pp<256) (qK:pn<256):
  dq Tryz.prog w (.iface 163 (.agg #[])) 104 [(du (aD cb) 0),vI ((n:Nat):Int),(.agg #[v8 op,v8 pp,v8 pn,vI pa,vI pb])] [] (fun v N=> ∃M k',v=dV M k'∧N=[dI 56 4 3 M k']∧fm (vs:Int) B M (PE n (gM pp pn))∧(fY (CZ vs n (gM pp pn))).next.length≤B) (¬(fY (CZ vs n (gM pp pn))).next.length≤B):=by
 refine dA func104 F ntmps104 F ?_
 obtain⟨L,hL⟩: ∃L,2^vs=L:=⟨_,F⟩
 have Lq:L≤64:=by rw[←hL];exact Nat.pow_le_pow_right (by decide) gm
 refine ai (aj F (cL (cs:=[v8 op,v8 pp,v8 pn,vI pa,vI pb]) F F (fun z1=>?_)))
 refine aj F (aR aX F (fun z2=>?_))
 refine ae (ai (ah F (ad (cj (a:=n) (b:=1) F F (by omega)) (TO.qa F (ae ?_)))))
 refine fg (fun ρ O=> ∃(zF zd:Nat),O=[ak (aD zF) (n+2) 4 1 (List.replicate (n+2) (.bool false)),oI zd 25 [vI ((vs:Nat):Int),(vI 0),nS,(.slice (aD zF) (n+2) (n+2))],oI z2 25 [(vI 0),(vI 0),nS,nS],oI z1 72 [v8 op,v8 pp,v8 pn,vI pa,vI pb]]∧bZ [(0,(du (aD cb) 0)),(1,vI ((n:Nat):Int)),(2,(.agg #[v8 op,v8 pp,v8 pn,vI pa,vI pb])),(5,(.pointer (aD z1))),(6,(.pointer (aD z2))),(7,vI ((n+1:Nat):Int)),(8,(.pointer (aD zd)))] ρ) ?_ ?_
 ·refine oy [] 10 mixed F (by exact Sub.z) (fun _ _ _ _ h=>h) ?_
  refine cA 0 F (by kernel_rfl) (aF F) ?_
  refine cA 1 F (by kernel_rfl) (aP F) ?_
  refine cA 2 F (by kernel_rfl) (bG kR F aM F F (aB eu) (by first|omega|(simp;done)|(simp;omega)|(simp_all;done)|(simp_all;omega))) ?_
  refine cA 3 F (by kernel_rfl) (bS dh F F (aB eu) F) ?_
  refine cA 4 F (by kernel_rfl) (aF F) ?_
  refine cA 5 F (by kernel_rfl) (cj (a:=n) (b:=2) F F (by omega)) ?_
  refine aN [6,8] (by kernel_rfl) F ⟨⟨_,F,F,bV (m:=n+2) dF dc F F (by omega) (by omega) (fun zF=>⟨by exact Sub.z,?_⟩)⟩,⟨_,F,F,aR aX F (fun zd=>⟨by exact Sub.z,?_⟩)⟩,trivial⟩
  ·refine cA 7 F (by kernel_rfl) (bE (cs:=[vI ((vs:Nat):Int),(vI 0),nS,(.slice (aD zF) (n+2) (n+2))]) gK aX (by kernel_rfl)) ?_
   refine aN [8] (by kernel_rfl) F ⟨⟨_,F,F,aR aX F (fun zd=>⟨by exact Sub.z,?_⟩)⟩,trivial⟩
   refine aN [9] (by kernel_rfl) F ⟨⟨_,F,F,bj (vs:=[vI ((vs:Nat):Int),(vI 0),nS,(.slice (aD zF) (n+2) (n+2))]) 0 aX F F F F ⟨by exact Sub.z,?_⟩⟩,trivial⟩
   exact cH (by kernel_rfl) ⟨zF,zd,F,(.of F)⟩ (by exact Sub.dL [oI zd 25 [vI ((vs:Nat):Int),(vI 0),nS,(.slice (aD zF) (n+2) (n+2))]] _ (.k (.k (.k .z))))
  refine aN [6] (by kernel_rfl) F ⟨⟨_,F,F,bV (m:=n+2) dF dc F F (by omega) (by omega) (fun zF=>⟨by exact Sub.z,?_⟩)⟩,trivial⟩
  refine cA 7 F (by kernel_rfl) (bE (cs:=[vI ((vs:Nat):Int),(vI 0),nS,(.slice (aD zF) (n+2) (n+2))]) gK aX (by kernel_rfl)) ?_
  refine aN [9] (by kernel_rfl) F ⟨⟨_,F,F,bj (vs:=[vI ((vs:Nat):Int),(vI 0),nS,(.slice (aD zF) (n+2) (n+2))]) 1 aX F F F F ⟨by exact Sub.z,?_⟩⟩,trivial⟩
  exact cH (by kernel_rfl) ⟨zF,zd,F,(.of F)⟩ (by exact Sub.rf)
 rintro ρ O ⟨zF,zd,rfl,hH⟩
 obtain⟨eP,rfl⟩:=hH.elim
 clear hH
 refine ai (ad (aJ cy F ce F F) (ad (aO 1 dF F F F F) (ah F (ad (cq (i:=n) dF dc F F (cw (mG 0 F)) (by omega) (by simp)) (aj F (jW (j:=n) (v:=.bool true) (vs:=[(.bool true)]) (cs:=List.replicate (n+2) (.bool false)) 0 dc F F F F F (by simp) F (by simp;try omega) ?_))))))
 refine bM (O':=[ak (aD zF) (n+2) 4 1 ((List.replicate (n+2) (.bool false)).set n (.bool true)),oI zd 25 [vI ((vs:Nat):Int),(vI 0),nS,(.slice (aD zF) (n+2) (n+2))],oI z2 25 [(vI 0),(vI 0),nS,nS],oI z1 72 [v8 op,v8 pp,v8 pn,vI pa,vI pb]]) (by rw[show dl (List.replicate (n+2) (.bool false)) n [(.bool true)]=(List.replicate (n+2) (.bool false)).set n (.bool true)from(by simp[dl])];exact a_ (List.Sublist.refl _)) ?_
 refine ae (ax (ai (ah F (ad (cj (a:=n) (b:=2) F F (by omega)) (ah F (ae (aC (T.dt 56 1 ?_))))))))
 refine cu (O':=[ak none 0 56 1 [],ak (aD zF) (n+2) 4 1 ((List.replicate (n+2) (.bool false)).set n (.bool true)),oI zd 25 [vI ((vs:Nat):Int),(vI 0),nS,(.slice (aD zF) (n+2) (n+2))],oI z2 25 [(vI 0),(vI 0),nS,nS],oI z1 72 [v8 op,v8 pp,v8 pn,vI pa,vI pb]]++bl 3 []) ((au [0,0,0,0,0] F)) ?_
 refine cE (fun(s:Nat) ρ O=> ∃(rq:List Rec) (ob:Option Addr) (oc:Nat),O=([ak ob oc 56 1 (bO rq),ak (aD zF) (n+2) 4 1 ((List.replicate (n+2) (.bool false)).set n (.bool true)),oI zd 25 [vI ((vs:Nat):Int),(vI 0),(.slice ob s oc),(.slice (aD zF) (n+2) (n+2))],oI z2 25 [(vI 0),(vI 0),nS,nS],oI z1 72 [v8 op,v8 pp,v8 pn,vI pa,vI pb]]++(bl 3 rq))∧s≤n+2∧nums rq=(List.range s).map (tG L n (gM pp pn))∧bZ [(0,(du (aD cb) 0)),(1,vI ((n:Nat):Int)),(2,(.agg #[v8 op,v8 pp,v8 pn,vI pa,vI pb])),(5,(.pointer (aD z1))),(6,(.pointer (aD z2))),(7,vI ((n+1:Nat):Int)),(8,(.pointer (aD zd))),(27,vI ((n+2:Nat):Int)),(28,vI ((s:Nat):Int))] ρ) (fun s=>n+2-s) 0 ?_ ?_
 ·exact⟨[],none,0,F,by omega,F,(.of F)⟩
 rintro s ρ O ⟨rq,ob,oc,rfl,hs,W9,hH⟩
 obtain⟨eP,rfl⟩:=hH.elim
 clear hH
 have yw:rq.length=s:=by have:=congrArg List.length W9;simpa using this
 refine ai (ad (bI F F) (ae (ax (aw F (fun hc=>?_) (fun hc=>?_)))))
 ·have TI:s<n+2:=by omega
  refine aq (ax (aC (ai (ah F (TO.qa F (ae (ai (ah F (ad (aP F) (ad (bG kR F aM F F (aB eu) (by first|omega|(simp;done)|(simp;omega)|(simp_all;done)|(simp_all;omega))) (ad (bS dh F F (aB eu) F) (ad (a8 (mJ (v:=vs) F F (by omega)) (v':=vI ((L:Nat):Int)) (by rw[hL])) (aj F (bV (m:=L) bT aM F F (by omega) (by omega) (fun z3=>?_)))))))))))))))
  refine TO.qa F (ae (ax (ai (ah F (ad (bL bT F) (ah F (ae (aC ?_))))))))
  refine cE (fun(x:Nat) ρ O=> ∃(ys:List Int),O=([ak (aD z3) L 3 1 (ints ys),ak ob oc 56 1 (bO rq),ak (aD zF) (n+2) 4 1 ((List.replicate (n+2) (.bool false)).set n (.bool true)),oI zd 25 [vI ((vs:Nat):Int),(vI 0),(.slice ob s oc),(.slice (aD zF) (n+2) (n+2))],oI z2 25 [(vI 0),(vI 0),nS,nS],oI z1 72 [v8 op,v8 pp,v8 pn,vI pa,vI pb]]++(bl 3 rq))∧x≤L∧ys.length=L∧(∀i,i<x→ys[i]? =some (Nv n (gM pp pn) s i))∧bZ [(0,(du (aD cb) 0)),(1,vI ((n:Nat):Int)),(2,(.agg #[v8 op,v8 pp,v8 pn,vI pa,vI pb])),(5,(.pointer (aD z1))),(6,(.pointer (aD z2))),(7,vI ((n+1:Nat):Int)),(8,(.pointer (aD zd))),(9,vI ((s:Nat):Int)),(10,(.slice (aD z3) L L)),(27,vI ((n+2:Nat):Int)),(28,vI ((s:Nat):Int)),(38,vI (L:Int)),(39,vI ((x:Nat):Int))] ρ) (fun x=>L-x) 0 ?_ ?_
  ·exact⟨List.replicate L 0,by simp,Nat.zero_le _,by simp,fun i hi=>absurd hi (by omega),(.of F)⟩
  rintro x ρ O ⟨ys,rfl,hx,yN,wS,hH⟩
  obtain⟨eP,rfl⟩:=hH.elim
  clear hH
  refine ai (ad (bI F F) (ae (ax (aw F (fun hc=>?_) (fun hc=>?_)))))
  ·have tH:x<L:=by omega
   refine aq (ax (aC (ai (ah F (TO.qa F (ae (ai (ah F (ah F (ah F (ad (cq (i:=x) bT aM F F (cw (mG 0 F)) (by omega) (by rw[List.length_map];omega)) (aj F (jW (j:=x) (v:=vI ((n+1:Nat):Int)) (vs:=[(vI ((n+1:Nat):Int))]) (cs:=ints ys) 0 aM F F F F F (by simp) F (by first|(simp;omega)|(simp_all;omega)) ?_)))))))))))))
   refine bM (O':=([ak (aD z3) L 3 1 (ints (ys.set x ((n+1:Nat):Int))),ak ob oc 56 1 (bO rq),ak (aD zF) (n+2) 4 1 ((List.replicate (n+2) (.bool false)).set n (.bool true)),oI zd 25 [vI ((vs:Nat):Int),(vI 0),(.slice ob s oc),(.slice (aD zF) (n+2) (n+2))],oI z2 25 [(vI 0),(vI 0),nS,nS],oI z1 72 [v8 op,v8 pp,v8 pn,vI pa,vI pb]]++(bl 3 rq))) (by rw[show dl (ints ys) x [(vI ((n+1:Nat):Int))]=ints (ys.set x ((n+1:Nat):Int))from(by simp[dl])];exact a_ (List.Sublist.refl _)) ?_
   refine ae (ai (ah F (ah F ?_)))
   by_cases nL:((s:Nat):Int)<((n:Nat):Int)
   ·refine ad (ar (bI F F) (decide_eq_true nL)) ?_
    refine ah F (ap F F (aJ bK F cP F F) (ap F F (aO 5 eC F F F F) (ap F F (aJ bK F cP F F) (ap F F (aO 5 eC F F F F) (ap F F (bE (cs:=[v8 pp,v8 pn]) gT eX (by kernel_rfl)) (ap F F (aF F) (ap F F (ef dh eC F (mm (by omega))) ?_)))))))
    refine fL F F F (aI PF (aE fun w1 hI=>(haveI:=dp hI;W7 w1 pp pn x KH qK (by omega))) F ?_)
    rintro vr O' ⟨N,rfl,rfl,rfl⟩
    refine ad (bt F F) (ae (T.cond F (fun hc=>?_) (fun hc=>?_)))
    ·refine aH ?_
     refine ah F (ah F (ah F (ad (cj (a:=s) (b:=1) F F (by omega)) (ad (cq (i:=x) bT aM F F (cw (mG 0 F)) (by omega) (by first|(simp;done)|(simp;omega))) (aj F (jW (j:=x) (v:=vI ((s+1:Nat):Int)) (vs:=[(vI ((s+1:Nat):Int))]) (cs:=ints (ys.set x ((n+1:Nat):Int))) 0 aM F F F F F (by simp) F (by first|(simp;omega)|(simp_all;omega)) ?_))))))
     refine bM (O':=([ak (aD z3) L 3 1 (ints ((ys.set x ((n+1:Nat):Int)).set x ((s+1:Nat):Int))),ak ob oc 56 1 (bO rq),ak (aD zF) (n+2) 4 1 ((List.replicate (n+2) (.bool false)).set n (.bool true)),oI zd 25 [vI ((vs:Nat):Int),(vI 0),(.slice ob s oc),(.slice (aD zF) (n+2) (n+2))],oI z2 25 [(vI 0),(vI 0),nS,nS],oI z1 72 [v8 op,v8 pp,v8 pn,vI pa,vI pb]]++(bl 3 rq))) (by rw[show dl (ints (ys.set x ((n+1:Nat):Int))) x [(vI ((s+1:Nat):Int))]=ints ((ys.set x ((n+1:Nat):Int)).set x ((s+1:Nat):Int))from(by simp[dl])];exact a_ (List.Sublist.refl _)) ?_
     refine ae (aH (ad (cj (a:=x) (b:=1) F F (by omega)) (ah F (ae ?_))))
     have hv:Nv n (gM pp pn) s x=((s+1:Nat):Int):=if_pos ⟨by omega,by first|exact hc|simpa using hc⟩
     exact⟨x+1,by omega,([ak (aD z3) L 3 1 (ints ((ys.set x ((n+1:Nat):Int)).set x ((s+1:Nat):Int))),ak ob oc 56 1 (bO rq),ak (aD zF) (n+2) 4 1 ((List.replicate (n+2) (.bool false)).set n (.bool true)),oI zd 25 [vI ((vs:Nat):Int),(vI 0),(.slice ob s oc),(.slice (aD zF) (n+2) (n+2))],oI z2 25 [(vI 0),(vI 0),nS,nS],oI z1 72 [v8 op,v8 pp,v8 pn,vI pa,vI pb]]++(bl 3 rq)),(by exact Sub.rf),((ys.set x ((n+1:Nat):Int)).set x ((s+1:Nat):Int)),F,by omega,by simp[yN],fun i hi=>by
      by_cases e:i=x
      ·subst e;rw[hv,List.getElem?_set_self (by first|omega|(simp;omega))]
      ·rw[List.getElem?_set_ne (fun h=>e h.symm)];first|exact wS i (by omega)|(rw[List.getElem?_set_ne (fun h=>e h.symm)];exact wS i (by omega)),(.of F)⟩
    refine aq (aH (ad (cj (a:=x) (b:=1) F F (by omega)) (ah F (ae ?_))))
    have hv:Nv n (gM pp pn) s x=((n+1:Nat):Int):=if_neg (fun h9=>by first|omega|(have h8:=h9.2;simp_all;done))
    exact⟨x+1,by omega,([ak (aD z3) L 3 1 (ints (ys.set x ((n+1:Nat):Int))),ak ob oc 56 1 (bO rq),ak (aD zF) (n+2) 4 1 ((List.replicate (n+2) (.bool false)).set n (.bool true)),oI zd 25 [vI ((vs:Nat):Int),(vI 0),(.slice ob s oc),(.slice (aD zF) (n+2) (n+2))],oI z2 25 [(vI 0),(vI 0),nS,nS],oI z1 72 [v8 op,v8 pp,v8 pn,vI pa,vI pb]]++(bl 3 rq)),(by exact Sub.rf),(ys.set x ((n+1:Nat):Int)),F,by omega,by simp[yN],fun i hi=>by
     by_cases e:i=x
     ·subst e;rw[hv,List.getElem?_set_self (by first|omega|(simp;omega))]
     ·rw[List.getElem?_set_ne (fun h=>e h.symm)];first|exact wS i (by omega)|(rw[List.getElem?_set_ne (fun h=>e h.symm)];exact wS i (by omega)),(.of F)⟩
   refine ad (ar (bI F F) (decide_eq_false nL)) (ah F (ay F F (ay F F (ay F F (ay F F (ay F F (ay F F (ay F F ?_))))))))
   refine ay F F (ad (aZ F F) (ae (aL F (aq (aH (ad (cj (a:=x) (b:=1) F F (by omega)) (ah F (ae ?_))))))))
   have hv:Nv n (gM pp pn) s x=((n+1:Nat):Int):=if_neg (fun h9=>by first|omega|(have h8:=h9.2;simp_all;done))
   exact⟨x+1,by omega,([ak (aD z3) L 3 1 (ints (ys.set x ((n+1:Nat):Int))),ak ob oc 56 1 (bO rq),ak (aD zF) (n+2) 4 1 ((List.replicate (n+2) (.bool false)).set n (.bool true)),oI zd 25 [vI ((vs:Nat):Int),(vI 0),(.slice ob s oc),(.slice (aD zF) (n+2) (n+2))],oI z2 25 [(vI 0),(vI 0),nS,nS],oI z1 72 [v8 op,v8 pp,v8 pn,vI pa,vI pb]]++(bl 3 rq)),(by exact Sub.rf),(ys.set x ((n+1:Nat):Int)),F,by omega,by simp[yN],fun i hi=>by
    by_cases e:i=x
    ·subst e;rw[hv,List.getElem?_set_self (by first|omega|(simp;omega))]
    ·rw[List.getElem?_set_ne (fun h=>e h.symm)];first|exact wS i (by omega)|(rw[List.getElem?_set_ne (fun h=>e h.symm)];exact wS i (by omega)),(.of F)⟩
  have Ip: ¬x<L:=by omega
  refine bn ?_
  refine aH (ad (aJ cy F cU F F) (ad (aO 3 dB F F F F) (ah F (aj F (bN (v:=(.slice (aD z3) L L)) dB bP F F F (fun z4=>?_))))))
  refine aj F (bX 2 dB dB bP F F F F (by simp;omega) (by decide) (Src.row (j:=0) F (by simp)) (by simp[dD]) (by omega) (by decide) (by decide) (fun z5 B8=>?_))
  refine ad (aJ cy F cU F F) (aj F (bj (vs:=[(.slice z5 (s+1) B8)]) 4 cU F F F F ?_))
  refine ae ?_
  refine cu (O':=[ak z5 B8 56 1 (bO (rq++[⟨(aD z3),L,ys⟩])),ak (aD zF) (n+2) 4 1 ((List.replicate (n+2) (.bool false)).set n (.bool true)),oI zd 25 [vI ((vs:Nat):Int),(vI 0),(.slice z5 (s+1) B8),(.slice (aD zF) (n+2) (n+2))],oI z2 25 [(vI 0),(vI 0),nS,nS],oI z1 72 [v8 op,v8 pp,v8 pn,vI pa,vI pb]]++bl 3 (rq++[⟨(aD z3),L,ys⟩])) (by
   rw[show bO (rq++[⟨(aD z3),L,ys⟩])=(bO rq)++[(.slice (aD z3) L L)] by simp[Rec.val,yN],show bl 3 (rq++[⟨(aD z3),L,ys⟩])=bl 3 rq++[ak (aD z3) L 3 1 (ints ys)] by simp[bl,Rec.lZ]]
   exact Bf [ak z5 B8 56 1 ((bO rq)++[(.slice (aD z3) L L)]),ak (aD zF) (n+2) 4 1 ((List.replicate (n+2) (.bool false)).set n (.bool true)),oI zd 25 [vI ((vs:Nat):Int),(vI 0),(.slice z5 (s+1) B8),(.slice (aD zF) (n+2) (n+2))],oI z2 25 [(vI 0),(vI 0),nS,nS],oI z1 72 [v8 op,v8 pp,v8 pn,vI pa,vI pb]] [ak (aD z4) 1 56 1 [(.slice (aD z3) L L)],ak (aD z3) L 3 1 (ints ys),ak z5 B8 56 1 ((bO rq)++[(.slice (aD z3) L L)]),ak (aD zF) (n+2) 4 1 ((List.replicate (n+2) (.bool false)).set n (.bool true)),oI zd 25 [vI ((vs:Nat):Int),(vI 0),(.slice z5 (s+1) B8),(.slice (aD zF) (n+2) (n+2))],oI z2 25 [(vI 0),(vI 0),nS,nS],oI z1 72 [v8 op,v8 pp,v8 pn,vI pa,vI pb]] (bl 3 rq) (ak (aD z3) L 3 1 (ints ys)) (by exact Sub.d (.dL [ak (aD z3) L 3 1 (ints ys)] _ (.dL [ak (aD z3) L 3 1 (ints ys)] _ (.dL [ak (aD z3) L 3 1 (ints ys)] _ (.dL [ak (aD z3) L 3 1 (ints ys)] _ (.dL [ak (aD z3) L 3 1 (ints ys)] _ (.k .z)))))))) ?_
  refine aH (ad (cj (a:=s) (b:=1) F F (by omega)) (ah F (ae ?_)))
  have wX:x=L:=by omega
  have Lr:ys=tG L n (gM pp pn) s:=by
   apply List.ext_getElem?
   intro i
   by_cases hi:i<L
   ·rw[wS i (by omega)];simp only[tG];simp[hi]
   ·rw[List.getElem?_eq_none (by omega),List.getElem?_eq_none (by simp[tG];omega)]
  exact⟨s+1,by omega,_,a_ (List.Sublist.refl _),rq++[⟨(aD z3),L,ys⟩],z5,B8,F,by omega,by rw[List.range_succ,List.map_append,←W9];simp[nums,Lr],(.of F)⟩
 have TJ: ¬s<n+2:=by omega
 refine bn ?_
 refine ax ?_
 have B4:s=n+2:=by omega
 obtain⟨W,hW⟩: ∃W,W=CZ vs n (gM pp pn):=⟨_,F⟩
 have yQ:HasL (vs:Int) 3 W (PE n (gM pp pn)):=hW▸uA _ gm hn
 have e1:nums rq=W.next:=by rw[hW,W9,B4,←hL];rfl
 have e2:(List.replicate (n+2) (.bool false)).set n (.bool true)=aU W.aA:=by rw[hW];show _=aU ((List.replicate (n+2) false).set n true);simp
 have e3:(vs:Int)=W.vars:=by rw[hW];rfl
 have e4:(0:Int)=W.start:=by rw[hW];rfl
 have e5:s=W.next.length:=by rw[←e1,←yw];simp
 have e6:n+2=W.aA.length:=by rw[yQ.valid.fin,←e5,B4]
 obtain⟨M,hM⟩: ∃m,fY W=m:=⟨_,F⟩
 have Ef:fm (vs:Int) 3 M (PE n (gM pp pn)):=hM▸yQ.rn
 obtain⟨z9,Pm⟩: ∃z:DK,z=⟨ob,oc,(aD zF),n+2,rq⟩:=⟨_,F⟩
 refine cu (O':=([ak ob oc 56 1 (bO rq),ak (aD zF) (n+2) 4 1 ((List.replicate (n+2) (.bool false)).set n (.bool true)),oI zd 25 [vI ((vs:Nat):Int),(vI 0),(.slice ob s oc),(.slice (aD zF) (n+2) (n+2))],oI z2 25 [(vI 0),(vI 0),nS,nS],oI z1 72 [v8 op,v8 pp,v8 pn,vI pa,vI pb]]++bl 3 rq)) Sub.rf ?_
 refine cu (O':=(([ak ob oc 56 1 (bO rq),ak (aD zF) (n+2) 4 1 (aU W.aA)]++bl 3 rq)++[oI zd 25 [(vI W.vars),(vI W.start),(.slice ob W.next.length oc),(.slice (aD zF) W.aA.length (n+2))],oI z2 25 [(vI 0),(vI 0),nS,nS],oI z1 72 [v8 op,v8 pp,v8 pn,vI pa,vI pb]])) (by rw[←e5,←e6,←e2,←e3,←e4];exact dm [ak ob oc 56 1 (bO rq),ak (aD zF) (n+2) 4 1 ((List.replicate (n+2) (.bool false)).set n (.bool true))] (bl 3 rq) [oI zd 25 [vI ((vs:Nat):Int),(vI 0),(.slice ob s oc),(.slice (aD zF) (n+2) (n+2))],oI z2 25 [(vI 0),(vI 0),nS,nS],oI z1 72 [v8 op,v8 pp,v8 pn,vI pa,vI pb]]) ?_
 refine oE (φ:=nums rq=W.next) e1 ?_
 refine cu (O':=[dI 56 4 3 W z9,oI zd 25 (dC W z9),oI z2 25 [(vI 0),(vI 0),nS,nS],oI z1 72 [v8 op,v8 pp,v8 pn,vI pa,vI pb]]) (by subst Pm;exact Sub.rf) ?_
 refine aH (ah F (ad (cN 1 cy F aX F F F) (aj F (aI xO (aE fun w1 hI=>(haveI:=dp hI;AI w1 W z9 (hI.at (k:=z9) (mG 0 F)) yQ.valid (by have:=yQ.valid.n4;omega) (M:=M) hM)) F ?_))))
 rintro vr O' ⟨N,rfl,k9,rfl,rfl⟩
 refine ad (bm (vs:=_) F F) (ad (bm (vs:=_) F F) ?_)
 have TK:=fun(w1:World) (hI:Inv w [dI 56 4 3 M k9,dI 56 4 3 W z9,oI zd 25 (dC W z9),oI z2 25 [(vI 0),(vI 0),nS,nS],oI z1 72 [v8 op,v8 pp,v8 pn,vI pa,vI pb]] w1)=>(haveI:=dp hI;rZ w1 cb eb en ec vs B (hI.sl eu) M k9 0)
 refine dP F (fA yS (dq.pure TK) F (fun z _=>⟨F,fun h9=>z ⟨F,hM▸hW▸h9⟩⟩) ?_)
 clear TK
 rintro vr O' ⟨N,rfl,rfl,rfl,_,FL⟩
 refine aj F (bj (vs:=(dC M k9)) 3 aX F F F F ?_)
 refine ae (az (ao ?_))
 refine bf (i:=3) Tryz.results104 cy F aX F F F ?_
 exact⟨[dI 56 4 3 M k9],(by exact Sub.k .z),M,k9,F,F,⟨Ef.toHasL.le FL,Ef.min⟩,by rw[←hW,hM];exact FL⟩
end Go.Proofs.YtgdbfideeeegmaaGreatDoor

namespace Go.Proofs.YtgdbfideeeegmaaGreatDoor
open Go.Lx Go.RowKit _root_.Go.Proofs.Tryz
theorem CU (w:World) [cG Tryz.prog w] (cb:Nat) (eb:Option Addr) (en ec vs B L:Nat) (eu:Sl w (aD cb) [.slice eb en ec,vI (vs:Int),vI (B:Int)]) (gm:vs≤6) (hL:2^vs=L) (iP:1≤B) (hB:B≤4096)
  (tr:Key→Nat→Key) (fin:Key→Bool) (start:Key) (Rp:Key→SR→Prop) (r0:SR) (fk fn ff:Value) (B5:Rp start r0) (Nn:r0.iH=[]) (pW: ∀k r,Rp k r→dD r.a=true∧dD r.b=true)
  (vU: ∀w1 k r,Inv w [] w1→Rp k r→(∀it∈r.iH,it.P w1)→dW Tryz.prog w1 fk [r.a] [] (fun v O'=>v=str k∧O'=[]))
  (dU: ∀w1 k r x,Inv w [] w1→Rp k r→(∀it∈r.iH,it.P w1)→x<L→dW Tryz.prog w1 fn [r.a,.int .u8 (x:Int)] [] (fun v N=> ∃r',v=r'.a∧N=r'.iH∧Rp (tr k x) r'))
  (ud: ∀w1 k r,Inv w [] w1→Rp k r→(∀it∈r.iH,it.P w1)→dW Tryz.prog w1 ff [r.a] [] (fun v O'=>v=.bool (fin k)∧O'=[])):
  dq Tryz.prog w (.iface 163 (.agg #[])) 141 [(du (aD cb) 0),r0.a,fk,fn,ff] [] (fun v N=> ∃M k',v=dV M k'∧N=[dI 56 4 3 M k']∧fm (vs:Int) B M (fun u=>fin (u.foldl tr start))∧CT tr L start B) (¬CT tr L start B):=by
 refine dA func141 F ntmps141 F ?_
 have Lq:L≤64:=by rw[←hL];exact Nat.pow_le_pow_right (by decide) gm
 obtain⟨Vu,An⟩:=pW _ _ B5
 refine ai (aj F (aR aX F (fun z1=>?_)))
 refine ae (ai (ah F (aj F (bN (v:=r0.a) dB bP F F Vu (fun z2=>?_)))))
 refine TO.qa F (ae (ai (aj F (lj str (fun n:Nat=>Value.int .i64 (n:Int)) (fun m3=>?_)))))
 refine ah F (ah F ?_)
 have ng:=(cF (O:=[df str (fun n:Nat=>Value.int .i64 (n:Int)) m3 [],ak (aD z2) 1 56 1 [r0.a],oI z1 25 [(vI 0),(vI 0),nS,nS]]) fun w1 hI=>haveI:=dp hI;vU w1 start r0 hI.lY B5 (by rw[Nn];simp))
 refine aj F (dQ ng F F ?_)
 clear ng
 rintro vr O' ⟨N,rfl,rfl,rfl⟩
 refine aj F (fD (a:=start) (v:=(0:Nat)) 0 fV (e8.string rO) F F F F (by simp) ?_)
 refine ah F (TO.qa F (ae (ai (ah F (ad (aP F) (ad (bG kR F aM F F (aB eu) (by first|omega|(simp;done)|(simp;omega)|(simp_all;done)|(simp_all;omega))) (ad (bS dh F F (aB eu) F) (ad (bE (cs:=[vN vs,(vI 0),nS,nS]) gK aX (by kernel_rfl)) (aj F (aR aX F (fun z4=>?_)))))))))))
 refine aj F (bj (vs:=[vN vs,(vI 0),nS,nS]) 0 aX F F F F ?_)
 refine ae (ax (ai (TO.qa F (ae (aC (T.dt 4 1 ?_))))))
 refine T.dt 56 1 ?_
 refine cu (O':=[ak (aD z2) 1 56 1 (cR c1 [r0]),df str (fun n:Nat=>Value.int .i64 (n:Int)) m3 [start].zipIdx,ak none 0 56 1 (bO []),ak none 0 4 1 (aU []),oI z4 25 [vN vs,(vI 0),nS,nS],oI z1 25 [(vI 0),(vI 0),nS,nS]]++(bl 3 []++fq [r0])) (by rw[show fq [r0]=[] by simp[fq,Nn]];exact(au [4,3,0,0,0,0] F)) ?_
 refine cE (fun(s:Nat) ρ O=> ∃(ks:List Key) (qs:List SR) (rq:List Rec) (sb ob fb:Option Addr) (sc oc fc:Nat),O=([ak sb sc 56 1 (cR c1 qs),df str (fun n:Nat=>Value.int .i64 (n:Int)) m3 ks.zipIdx,ak ob oc 56 1 (bO rq),ak fb fc 4 1 (aU ((ks.take s).map fin)),oI z4 25 [vN vs,(vI 0),(.slice ob s oc),(.slice fb s fc)],oI z1 25 [(vI 0),(vI 0),nS,nS]]++(bl 3 rq++fq qs))∧uo tr L start s=ks∧xU tr L start ks∧Eb Rp ks qs∧ks.length≤B∧nM tr L ks s (nums rq)∧bZ [(0,(du (aD cb) 0)),(1,r0.a),(2,fk),(3,fn),(4,ff),(10,(.pointer (aD z1))),(11,(.slice sb qs.length sc)),(12,(.map (some m3))),(13,(.pointer (aD z4))),(14,vN s)] ρ) (fun s=>B-s) 0 ?_ ?_
 ·exact⟨[start],[r0],[],(aD z2),none,none,1,0,0,F,F,xU.one _ _ _,Eb.one B5,by simpa using iP,⟨F,Nat.zero_le _,fun i hi=>absurd hi (by omega),fun i hi=>absurd hi (by omega)⟩,(.of F)⟩
 rintro s ρ O ⟨ks,qs,rq,sb,ob,fb,sc,oc,fc,rfl,nq,hF,hR,J_,hE,hH⟩
 obtain⟨eP,rfl⟩:=hH.elim
 clear hH
 have wO:=hR.1
 have yw:rq.length=s:=by have:=hE.len;simpa using this
 have Ha:=hE.le
 refine ax (ai (ah F (ah F (ad (bL dB F) (ad (bI F F) (ae (aw F (fun hc=>?_) (fun hc=>?_))))))))
 ·have oM:s<qs.length:=by omega
  have Ka:s<ks.length:=by omega
  refine aq (ax (aC (ai (ah F (ad (aP F) (ad (bG kR F aM F F (aB eu) (by first|omega|(simp;done)|(simp;omega)|(simp_all;done)|(simp_all;omega))) (ad (bS dh F F (aB eu) F) (ad (a8 (mJ (v:=vs) F F (by omega)) (v':=vN L) (by rw[hL])) (aj F (bV (m:=L) bT aM F F (by omega) (by omega) (fun z5=>?_)))))))))))
  refine TO.qa F (ae (ax (ai (ah F (ad (bL bT F) (ah F (ae (aC ?_))))))))
  refine cE (fun(x:Nat) ρ O=> ∃(cV:List Key) (eg:List SR) (ys:List Int) (tb:Option Addr) (tc:Nat),O=([ak (aD z5) L 3 1 (ints ys),ak tb tc 56 1 (cR c1 eg),df str (fun n:Nat=>Value.int .i64 (n:Int)) m3 cV.zipIdx,ak ob oc 56 1 (bO rq),ak fb fc 4 1 (aU ((ks.take s).map fin)),oI z4 25 [vN vs,(vI 0),(.slice ob s oc),(.slice fb s fc)],oI z1 25 [(vI 0),(vI 0),nS,nS]]++(bl 3 rq++fq eg))∧x≤L∧ys.length=L∧xU tr L start cV∧Eb Rp cV eg∧cV.length≤B∧cV=((List.range x).map (tr (ks.getD s []))).foldl add ks∧(∀i,i<x→ys[i]? =some ((ix (tr (ks.getD s []) i) cV:Nat):Int))∧bZ [(0,(du (aD cb) 0)),(1,r0.a),(2,fk),(3,fn),(4,ff),(10,(.pointer (aD z1))),(11,(.slice tb eg.length tc)),(12,(.map (some m3))),(13,(.pointer (aD z4))),(14,vN s),(15,(.slice (aD z5) L L)),(45,vI (L:Int)),(46,vN x)] ρ) (fun x=>L-x) 0 ?_ ?_
  ·exact⟨ks,qs,List.replicate L 0,sb,sc,by simp,Nat.zero_le _,by simp,hF,hR,J_,F,fun i hi=>absurd hi (by omega),(.of F)⟩
  rintro x ρ O ⟨cV,eg,ys,tb,tc,rfl,hx,yN,Ec,sx,A_,l7,wS,hH⟩
  obtain⟨eP,rfl⟩:=hH.elim
  clear hH
  have og:ks<+:cV:=l7▸eY _ _
  have mP:cV.getD s []=ks.getD s []:=jr og Ka
  have Pk:=og.length_le
  have Ba:=sx.1
  have p6:s<eg.length:=by omega
  have H5:=sx.2 s p6
  rw[mP]at H5
  refine ai (ad (bI F F) (ae (ax (aw F (fun hc=>?_) (fun hc=>?_)))))
  ·have mv:x<L:=by omega
   have B6:x<L:=by omega
   have Ed:ks.getD s []∈cV:=by rw[←mP,List.getD_eq_getElem?_getD,List.getElem?_eq_getElem (by omega),Option.getD_some];exact List.getElem_mem _
   refine aq (ax (aC (ai (ah F (TO.qa F (ae (ai (ah F (ah F (ah F (ad (cq (i:=s) dB bP F F (cw (mG 1 F)) p6 (by rw[gC (f:=c1) (n:=1) (fun _=>rfl)];omega)) (ad (bS bT F F (cw (mG 1 F)) (Nr p6)) (ah F (ad (ef dh eC F (mm (by omega))) ?_))))))))))))))
   have vS:=(cF (O:=([ak (aD z5) L 3 1 (ints ys),ak tb tc 56 1 (cR c1 eg),df str (fun n:Nat=>Value.int .i64 (n:Int)) m3 cV.zipIdx,ak ob oc 56 1 (bO rq),ak fb fc 4 1 (aU ((ks.take s).map fin)),oI z4 25 [vN vs,(vI 0),(.slice ob s oc),(.slice fb s fc)],oI z1 25 [(vI 0),(vI 0),nS,nS]]++(bl 3 rq++fq eg))) fun w1 hI=>haveI:=dp hI;dU w1 (ks.getD s []) eg[s] x hI.lY H5 (fun it di=>hI.holds it (List.mem_append_right _ (List.mem_append_right _ (nh p6 di)))) B6)
   refine aj F (dQ vS F F ?_)
   clear vS
   rintro vr O' ⟨N9,rfl,r9,rfl,rfl,B7⟩
   obtain⟨No,Rj⟩:=pW _ _ B7
   refine bM (O':=([ak (aD z5) L 3 1 (ints ys),ak tb tc 56 1 (cR c1 eg),df str (fun n:Nat=>Value.int .i64 (n:Int)) m3 cV.zipIdx,ak ob oc 56 1 (bO rq),ak fb fc 4 1 (aU ((ks.take s).map fin)),oI z4 25 [vN vs,(vI 0),(.slice ob s oc),(.slice fb s fc)],oI z1 25 [(vI 0),(vI 0),nS,nS]]++(r9.iH++(bl 3 rq++fq eg)))) (by exact cQ [] _ r9.iH (bl 3 rq++fq eg)) ?_
   refine TO.qa F (ae (ai (ah F (ah F (ah F ?_)))))
   have vG:=(cF (O:=([ak (aD z5) L 3 1 (ints ys),ak tb tc 56 1 (cR c1 eg),df str (fun n:Nat=>Value.int .i64 (n:Int)) m3 cV.zipIdx,ak ob oc 56 1 (bO rq),ak fb fc 4 1 (aU ((ks.take s).map fin)),oI z4 25 [vN vs,(vI 0),(.slice ob s oc),(.slice fb s fc)],oI z1 25 [(vI 0),(vI 0),nS,nS]]++(r9.iH++(bl 3 rq++fq eg)))) fun w1 hI=>haveI:=dp hI;vU w1 (tr (ks.getD s []) x) r9 hI.lY B7 (fun it di=>hI.holds it (List.mem_append_right _ (List.mem_append_left _ di))))
   refine aj F (dQ vG F F ?_)
   clear vG
   rintro vr O' ⟨N,rfl,rfl,rfl⟩
   refine ad (a8 (jg (a:=tr (ks.getD s []) x) fV aM (e8.string rO) F F (mG 2 F)) (v':=(.tuple #[vN (if tr (ks.getD s []) x∈cV then ix (tr (ks.getD s []) x) cV else 0),.bool (decide (tr (ks.getD s []) x∈cV))])) (by rw[kE];generalize tr (ks.getD s []) x=k9;by_cases h9:k9∈cV<;>simp[h9])) (ah F (ad (bm (vs:=_) F F) (ad (bm (vs:=_) F F) (TO.qa F (TO.qa F (ae (ax (ai (ah F (ad (f_ F) (ae (T.cond F (fun hc=>?_) (fun hc=>?_)))))))))))))
   ·have xV:tr (ks.getD s []) x∉cV:=by simpa using hc
    have iW:=yO xV
    refine ai (ah F (ad (bL dB F) (TO.qa F (ae (ai (ah F (ah F (ah F ?_))))))))
    have vV:=(cF (O:=([ak (aD z5) L 3 1 (ints ys),ak tb tc 56 1 (cR c1 eg),df str (fun n:Nat=>Value.int .i64 (n:Int)) m3 cV.zipIdx,ak ob oc 56 1 (bO rq),ak fb fc 4 1 (aU ((ks.take s).map fin)),oI z4 25 [vN vs,(vI 0),(.slice ob s oc),(.slice fb s fc)],oI z1 25 [(vI 0),(vI 0),nS,nS]]++(r9.iH++(bl 3 rq++fq eg)))) fun w1 hI=>haveI:=dp hI;vU w1 (tr (ks.getD s []) x) r9 hI.lY B7 (fun it di=>hI.holds it (List.mem_append_right _ (List.mem_append_left _ di))))
    refine aj F (dQ vV F F ?_)
    clear vV
    rintro vr O' ⟨N,rfl,rfl,rfl⟩
    refine ah F (aj F (oD (a:=tr (ks.getD s []) x) (v:=eg.length) 2 fV (e8.string rO) F F F F (by rw[lO];exact xV) ?_))
    refine ae (ai (ah F (ah F (aj F (bN (v:=r9.a) dB bP F F No (fun z6=>?_))))))
    refine aj F (bX 2 dB dB bP F F F F (by rw[gC (f:=c1) (n:=1) (fun _=>rfl)]) (by decide) (Src.row (j:=0) F (by simp)) (by simp[No]) (by omega) (by decide) (by decide) (fun z7 AK=>?_))
    refine TO.qa F (ae (ai (ah F (ah F (ad (aP F) (ad (bG kR F aM F F (aB eu) (by first|omega|(simp;done)|(simp;omega)|(simp_all;done)|(simp_all;omega))) (ad (bS dh F F (aB eu) F) (ad (gW F F) (ae (aw F (fun hc=>?_) (fun hc=>?_)))))))))))
    ·have Np:eg.length≥B:=by omega
     refine aH (ad (bE r5 vT F) (ad (nf A6 F) ?_))
     exact dP F (r8 F (fun _=>⟨F,(Ec.add Ed B6).Pl (by rw[iW];simp;omega)⟩))
    have Nq: ¬eg.length≥B:=by omega
    refine aq (aH (ah F (ah F (ah F (ad (cq (i:=x) bT aM F F (cw (mG 1 F)) (by omega) (by rw[List.length_map];omega)) (aj F (jW (j:=x) (v:=vI (eg.length:Int)) (vs:=[(vI (eg.length:Int))]) (cs:=ints ys) 1 aM F F F F F (by simp) F (by first|(simp;omega)|(simp_all;omega)) ?_)))))))
    refine bM (O':=([ak (aD z6) 1 56 1 [r9.a],ak (aD z5) L 3 1 (ints (ys.set x ((ix (tr (ks.getD s []) x) (add cV (tr (ks.getD s []) x)):Nat):Int))),ak z7 AK 56 1 ((cR c1 eg)++[r9.a]),df str (fun n:Nat=>Value.int .i64 (n:Int)) m3 (cV.zipIdx++[(tr (ks.getD s []) x,eg.length)]),ak ob oc 56 1 (bO rq),ak fb fc 4 1 (aU ((ks.take s).map fin)),oI z4 25 [vN vs,(vI 0),(.slice ob s oc),(.slice fb s fc)],oI z1 25 [(vI 0),(vI 0),nS,nS]]++(r9.iH++(bl 3 rq++fq eg)))) (by rw[show dl (ints ys) x [(vI (eg.length:Int))]=ints (ys.set x ((ix (tr (ks.getD s []) x) (add cV (tr (ks.getD s []) x)):Nat):Int))from(by rw[iW,ep xV,show ix (tr (ks.getD s []) x) [tr (ks.getD s []) x]=0 by simp[ix],Nat.add_zero,←Ba];simp[dl])];exact a_ (List.Sublist.refl _)) ?_
    refine ae (aH (ad (cj (a:=x) (b:=1) F F (by omega)) (ah F (ae ?_))))
    have xa: ∀y,y<x→tr (ks.getD s []) y∈cV:=fun y hy=>by rw[l7,dj];exact .inr (List.mem_map_of_mem (List.mem_range.2 hy))
    have vW: ∀i,i<x+1→(ys.set x ((ix (tr (ks.getD s []) x) (add cV (tr (ks.getD s []) x)):Nat):Int))[i]? =some ((ix (tr (ks.getD s []) i) (add cV (tr (ks.getD s []) x)):Nat):Int):=fun i hi=>by
     by_cases e:i=x
     ·subst e;rw[List.getElem?_set_self (by omega)]
     ·rw[List.getElem?_set_ne (fun h=>e h.symm),wS i (by omega),fM (gD _ _) (xa i (by omega))]
    have tw:=sx.snoc B7
    rw[←iW]at tw
    have Tx:=Ec.add Ed B6
    exact⟨x+1,by omega,[ak (aD z5) L 3 1 (ints (ys.set x ((ix (tr (ks.getD s []) x) (add cV (tr (ks.getD s []) x)):Nat):Int))),ak z7 AK 56 1 (cR c1 (eg++[r9])),df str (fun n:Nat=>Value.int .i64 (n:Int)) m3 ((add cV (tr (ks.getD s []) x)).zipIdx),ak ob oc 56 1 (bO rq),ak fb fc 4 1 (aU ((ks.take s).map fin)),oI z4 25 [vN vs,(vI 0),(.slice ob s oc),(.slice fb s fc)],oI z1 25 [(vI 0),(vI 0),nS,nS]]++(bl 3 rq++fq (eg++[r9])),(by rw[sR,o4,iW,show(cV++[tr (ks.getD s []) x]).zipIdx=cV.zipIdx++[(tr (ks.getD s []) x,eg.length)] by rw[List.zipIdx_append,Ba];simp];exact qO _ _ _ _ _ (by exact Sub.d (.k (.k (.k (.k (.k (.k (.k .z))))))))),add cV (tr (ks.getD s []) x),eg++[r9],_,z7,AK,F,by omega,by simp[yN],Tx,tw,by rw[iW];simp;omega,by rw[fF,←l7],vW,⟨F,F,F,F,F,F,(show Value.slice z7 (eg.length+1) AK=_ by rw[List.length_append];rfl),F,F,F,F,F,F,trivial⟩⟩
   have xV:tr (ks.getD s []) x∈cV:=by simpa using hc
   have iW:=yP xV
   refine aq (aH (ah F (ah F (ah F (ad (cq (i:=x) bT aM F F (cw (mG 0 F)) (by omega) (by rw[List.length_map];omega)) (aj F (jW (j:=x) (v:=vN (if tr (ks.getD s []) x∈cV then ix (tr (ks.getD s []) x) cV else 0)) (vs:=[(vN (if tr (ks.getD s []) x∈cV then ix (tr (ks.getD s []) x) cV else 0))]) (cs:=ints ys) 0 aM F F F F F (by simp) F (by first|(simp;omega)|(simp_all;omega)) ?_)))))))
   refine bM (O':=([ak (aD z5) L 3 1 (ints (ys.set x ((ix (tr (ks.getD s []) x) (add cV (tr (ks.getD s []) x)):Nat):Int))),ak tb tc 56 1 (cR c1 eg),df str (fun n:Nat=>Value.int .i64 (n:Int)) m3 cV.zipIdx,ak ob oc 56 1 (bO rq),ak fb fc 4 1 (aU ((ks.take s).map fin)),oI z4 25 [vN vs,(vI 0),(.slice ob s oc),(.slice fb s fc)],oI z1 25 [(vI 0),(vI 0),nS,nS]]++(r9.iH++(bl 3 rq++fq eg)))) (by rw[show dl (ints ys) x [(vN (if tr (ks.getD s []) x∈cV then ix (tr (ks.getD s []) x) cV else 0))]=ints (ys.set x ((ix (tr (ks.getD s []) x) (add cV (tr (ks.getD s []) x)):Nat):Int))from(by rw[iW,if_pos xV];simp[dl])];exact a_ (List.Sublist.refl _)) ?_
   refine ae (aH (ad (cj (a:=x) (b:=1) F F (by omega)) (ah F (ae ?_))))
   have xa: ∀y,y<x→tr (ks.getD s []) y∈cV:=fun y hy=>by rw[l7,dj];exact .inr (List.mem_map_of_mem (List.mem_range.2 hy))
   have vW: ∀i,i<x+1→(ys.set x ((ix (tr (ks.getD s []) x) (add cV (tr (ks.getD s []) x)):Nat):Int))[i]? =some ((ix (tr (ks.getD s []) i) (add cV (tr (ks.getD s []) x)):Nat):Int):=fun i hi=>by
    by_cases e:i=x
    ·subst e;rw[List.getElem?_set_self (by omega)]
    ·rw[List.getElem?_set_ne (fun h=>e h.symm),wS i (by omega),fM (gD _ _) (xa i (by omega))]
   have tw:=sx
   rw[←iW]at tw
   exact⟨x+1,by omega,[ak (aD z5) L 3 1 (ints (ys.set x ((ix (tr (ks.getD s []) x) (add cV (tr (ks.getD s []) x)):Nat):Int))),ak tb tc 56 1 (cR c1 eg),df str (fun n:Nat=>Value.int .i64 (n:Int)) m3 ((add cV (tr (ks.getD s []) x)).zipIdx),ak ob oc 56 1 (bO rq),ak fb fc 4 1 (aU ((ks.take s).map fin)),oI z4 25 [vN vs,(vI 0),(.slice ob s oc),(.slice fb s fc)],oI z1 25 [(vI 0),(vI 0),nS,nS]]++(bl 3 rq++fq eg),(by rw[iW];exact cW _ _ _ _ (by exact Sub.rf)),add cV (tr (ks.getD s []) x),eg,_,tb,tc,F,by omega,by simp[yN],Ec.add Ed B6,tw,by rw[iW];exact A_,by rw[fF,←l7],vW,(.of F)⟩
  have mw: ¬x<L:=by omega
  refine bn ?_
  refine T.ds [ak tb tc 56 1 (cR c1 eg),oI z4 25 [vN vs,(vI 0),(.slice ob s oc),(.slice fb s fc)]] [(0,0),(1,0),(2,0),(5,0),(6,0),(7,0),(8,0),(9,0),(10,0),(11,0),(3,1),(4,1),(15,0),(12,1),(13,1),(14,1),(16,2),(17,2),(18,2)] (by exact Sub.d (.k (.d (.d (.d (.k .z)))))) ?_
  refine am F (aJ cy F cU F F) (am F (aO 1 dB F F F F) (am F (aF F) (am F (aJ cy F ce F F) (am F (aO 1 dF F F F F) (am F (aF F) (am F (aF F) (am F (aF F) (am F (cq (i:=s) dB bP F F (cw (mG 0 F)) p6 (by rw[gC (f:=c1) (n:=1) (fun _=>rfl)];omega)) (am F (bS bT F F (cw (mG 0 F)) (Nr p6)) ?_)))))))))
  refine bJ F F (bN (v:=(.slice (aD z5) L L)) dB bP F F F (fun z9=>⟨by exact Sub.d (.d (.k (.d (.d (.d (.k .z)))))),?_⟩))
  refine bJ F F (bX 4 dB dB bP F F F F (by simp;omega) (by decide) (Src.row (j:=0) F (by simp)) (by simp[dD]) (by omega) (by decide) (by decide) (fun uk yT=>⟨by exact Sub.d (.d (.k (.d (.d (.d (.k .z)))))),?_⟩))
  refine am F (aJ cy F cU F F) ?_
  have tB:=(cF (O:=([ak (aD z9) 1 56 1 [(.slice (aD z5) L L)],ak (aD z5) L 3 1 (ints ys),ak tb tc 56 1 (cR c1 eg),df str (fun n:Nat=>Value.int .i64 (n:Int)) m3 cV.zipIdx,ak uk yT 56 1 ((bO rq)++[(.slice (aD z5) L L)]),ak fb fc 4 1 (aU ((ks.take s).map fin)),oI z4 25 [vN vs,(vI 0),(.slice ob s oc),(.slice fb s fc)],oI z1 25 [(vI 0),(vI 0),nS,nS]]++(bl 3 rq++fq eg))) fun w1 hI=>haveI:=dp hI;ud w1 (ks.getD s []) eg[s] hI.lY H5 (fun it di=>hI.holds it (List.mem_append_right _ (List.mem_append_right _ (nh p6 di)))))
  refine bJ F F (dQ tB F F ?_)
  clear tB
  rintro vr O' ⟨N,rfl,rfl,rfl⟩
  refine⟨by exact Sub.d (.d (.k (.d (.d (.d (.k .z)))))),?_⟩
  refine bJ F F (bN (v:=.bool (fin (ks.getD s []))) dF dc F F F (fun z12=>⟨by exact Sub.d (.d (.d (.k (.d (.d (.d (.k .z))))))),?_⟩))
  refine bJ F F (bX 6 dF dF dc F F F F (by simp;omega) (by decide) (Src.row (j:=0) F (by simp)) (by simp[dD]) (by omega) (by decide) (by decide) (fun sM Bb=>⟨by exact Sub.d (.d (.d (.k (.d (.d (.d (.k .z))))))),?_⟩))
  refine bq F F (bj (vs:=[(.slice uk (s+1) yT)]) 7 cU F F F F ?_)
  refine bq F F (dG F F (aJ cy F ce F F) ?_)
  refine bq F F (bj (vs:=[(.slice sM (s+1) Bb)]) 7 ce F F F F ?_)
  refine bu ?_
  have j8:aU ((cV.take (s+1)).map fin)=aU ((ks.take s).map fin)++[.bool (fin (ks.getD s []))]:=by
   rw[List.take_succ_eq_append_getElem (by omega:s<cV.length),List.map_append,show cV.take s=ks.take s by obtain⟨t9,rfl⟩:=og;rw[List.take_append_of_le_length (by omega)],←mP,show cV.getD s []=cV[s] by rw[List.getD_eq_getElem?_getD,List.getElem?_eq_getElem (by omega),Option.getD_some]]
   simp
  refine cu (O':=[ak tb tc 56 1 (cR c1 eg),df str (fun n:Nat=>Value.int .i64 (n:Int)) m3 cV.zipIdx,ak uk yT 56 1 (bO (rq++[⟨(aD z5),L,ys⟩])),ak sM Bb 4 1 (aU ((cV.take (s+1)).map fin)),oI z4 25 [vN vs,(vI 0),(.slice uk (s+1) yT),(.slice sM (s+1) Bb)],oI z1 25 [(vI 0),(vI 0),nS,nS]]++(bl 3 (rq++[⟨(aD z5),L,ys⟩])++fq eg)) (by
   rw[j8,show bO (rq++[⟨(aD z5),L,ys⟩])=(bO rq)++[(.slice (aD z5) L L)] by simp[Rec.val,yN],show bl 3 (rq++[⟨(aD z5),L,ys⟩])=bl 3 rq++[ak (aD z5) L 3 1 (ints ys)] by simp[bl,Rec.lZ]]
   exact my [ak tb tc 56 1 (cR c1 eg),df str (fun n:Nat=>Value.int .i64 (n:Int)) m3 cV.zipIdx,ak uk yT 56 1 ((bO rq)++[(.slice (aD z5) L L)]),ak sM Bb 4 1 ((aU ((ks.take s).map fin))++[.bool (fin (ks.getD s []))]),oI z4 25 [vN vs,(vI 0),(.slice uk (s+1) yT),(.slice sM (s+1) Bb)],oI z1 25 [(vI 0),(vI 0),nS,nS]] [ak (aD z12) 1 4 1 [.bool (fin (ks.getD s []))],ak (aD z9) 1 56 1 [(.slice (aD z5) L L)],ak (aD z5) L 3 1 (ints ys),ak tb tc 56 1 (cR c1 eg),df str (fun n:Nat=>Value.int .i64 (n:Int)) m3 cV.zipIdx,ak uk yT 56 1 ((bO rq)++[(.slice (aD z5) L L)]),ak sM Bb 4 1 ((aU ((ks.take s).map fin))++[.bool (fin (ks.getD s []))]),oI z4 25 [vN vs,(vI 0),(.slice uk (s+1) yT),(.slice sM (s+1) Bb)],oI z1 25 [(vI 0),(vI 0),nS,nS]] (bl 3 rq) (fq eg) (ak (aD z5) L 3 1 (ints ys)) (by exact Sub.d (.d (.dL [ak (aD z5) L 3 1 (ints ys)] _ (.dL [ak (aD z5) L 3 1 (ints ys)] _ (.dL [ak (aD z5) L 3 1 (ints ys)] _ (.dL [ak (aD z5) L 3 1 (ints ys)] _ (.dL [ak (aD z5) L 3 1 (ints ys)] _ (.dL [ak (aD z5) L 3 1 (ints ys)] _ (.k .z)))))))))) ?_
  refine aH (ah F (ad (cj (a:=s) (b:=1) F F (by omega)) (TO.qa F (ae ?_))))
  have wX:x=L:=by omega
  have Lr:ys=iM tr L cV s:=by
   apply List.ext_getElem?
   intro i
   by_cases hi:i<L
   ·rw[wS i (by omega)];simp only[iM,mP];simp[hi]
   ·rw[List.getElem?_eq_none (by omega),List.getElem?_eq_none (by simp[iM];omega)]
  have xa: ∀y,y<L→tr (ks.getD s []) y∈cV:=fun y hy=>by rw[l7,dj];exact .inr (List.mem_map_of_mem (List.mem_range.2 (by omega)))
  have KQ:nM tr L cV (s+1) (nums (rq++[⟨(aD z5),L,ys⟩])):=by
   have:=hE.snoc og Ka Lr (by rw[mP];exact xa)
   simpa[nums]using this
  exact⟨s+1,by omega,_,a_ (List.Sublist.refl _),cV,eg,rq++[⟨(aD z5),L,ys⟩],tb,uk,sM,tc,yT,Bb,F,by rw[uo,nq,l7,wX],Ec,sx,A_,KQ,(.of F)⟩
 have oN: ¬s<qs.length:=by omega
 refine bn ?_
 refine ax ?_
 have B4:s=ks.length:=by omega
 have nL:rq.length=(nums rq).length:=by simp
 obtain⟨W,hW⟩: ∃W,W=FK vs (nums rq) (ks.map fin):=⟨_,F⟩
 have yQ:HasL (vs:Int) ks.length W (fun u=>fin (u.foldl tr start)):=by rw[hW];exact yR gm (by rw[hL];exact hF) (by rw[hL,←B4];exact hE) (by omega)
 have e1:nums rq=W.next:=by rw[hW];rfl
 have e2:(ks.take s).map fin=W.aA:=by rw[hW,List.take_of_length_le (by omega)];rfl
 have e3:(vs:Int)=W.vars:=by rw[hW];rfl
 have e4:(0:Int)=W.start:=by rw[hW];rfl
 have e5:s=W.next.length:=by rw[←e1,←nL];omega
 have e6:s=W.aA.length:=by rw[yQ.valid.fin,←e5]
 obtain⟨M,hM⟩: ∃m,fY W=m:=⟨_,F⟩
 have Ef:fm (vs:Int) ks.length M (fun u=>fin (u.foldl tr start)):=hM▸yQ.rn
 obtain⟨z9,Pm⟩: ∃z:DK,z=⟨ob,oc,fb,fc,rq⟩:=⟨_,F⟩
 refine cu (O':=([ak ob oc 56 1 (bO rq),ak fb fc 4 1 (aU ((ks.take s).map fin)),oI z4 25 [vN vs,(vI 0),(.slice ob s oc),(.slice fb s fc)],oI z1 25 [(vI 0),(vI 0),nS,nS]]++bl 3 rq)) (o6 _ _ _ _ (by exact Sub.d (.d (.k (.k (.k (.k .z))))))) ?_
 refine cu (O':=(([ak ob oc 56 1 (bO rq),ak fb fc 4 1 (aU W.aA)]++bl 3 rq)++[oI z4 25 [(vI W.vars),(vI W.start),(.slice ob W.next.length oc),(.slice fb W.aA.length fc)],oI z1 25 [(vI 0),(vI 0),nS,nS]])) (by rw[←e5,←e6,←e2,←e3,←e4];exact dm [ak ob oc 56 1 (bO rq),ak fb fc 4 1 (aU ((ks.take s).map fin))] (bl 3 rq) [oI z4 25 [vN vs,(vI 0),(.slice ob s oc),(.slice fb s fc)],oI z1 25 [(vI 0),(vI 0),nS,nS]]) ?_
 refine oE (φ:=nums rq=W.next) e1 ?_
 refine cu (O':=[dI 56 4 3 W z9,oI z4 25 (dC W z9),oI z1 25 [(vI 0),(vI 0),nS,nS]]) (by subst Pm;exact Sub.rf) ?_
 refine aH (ah F (ad (cN 1 cy F aX F F F) (aj F (aI xO (aE fun w1 hI=>(haveI:=dp hI;AI w1 W z9 (hI.at (k:=z9) (mG 0 F)) yQ.valid (by have:=yQ.valid.n4;omega) (M:=M) hM)) F ?_))))
 rintro vr O' ⟨N,rfl,k9,rfl,rfl⟩
 refine ad (bm (vs:=_) F F) (ad (bm (vs:=_) F F) ?_)
 have tC:=fun(w1:World) (hI:Inv w [dI 56 4 3 M k9,dI 56 4 3 W z9,oI z4 25 (dC W z9),oI z1 25 [(vI 0),(vI 0),nS,nS]] w1)=>(haveI:=dp hI;rZ w1 cb eb en ec vs B (hI.sl eu) M k9 0)
 refine dP F (fA yS (dq.pure tC) F (fun z _=>⟨F,fun _=>z ⟨F,by have:=Ef.len;omega⟩⟩) ?_)
 clear tC
 rintro vr O' ⟨N,rfl,rfl,rfl,_,FL⟩
 refine aj F (bj (vs:=(dC M k9)) 3 aX F F F F ?_)
 refine ae (az (ao ?_))
 refine bf (i:=3) Tryz.results141 cy F aX F F F ?_
 exact⟨[dI 56 4 3 M k9],(by exact Sub.k .z),M,k9,F,F,⟨Ef.toHasL.le FL,Ef.min⟩,vX hF (B4▸hE) J_⟩
end Go.Proofs.YtgdbfideeeegmaaGreatDoor

namespace Go.Proofs.YtgdbfideeeegmaaGreatDoor
open Go.Lx Go.RowKit _root_.Go.Proofs.Tryz
theorem Pu (base:World) [cG Tryz.prog base] (x:Int):bw Tryz.prog base 147 [vI x] [] (fun v O'=>v=.bool (decide (x<0))∧O'=[]):=by
 refine av func147 F ntmps147 F ?_
 refine ai (TO.qa F (ae (ai (ah F (ad (bI F F) (TO.qa F (ae (az ?_))))))))
 refine aG (.bool (decide (x<0))) Tryz.results147 F ?_
 exact⟨F,F⟩
theorem Lv (base:World) [cG Tryz.prog base] (b:Option Addr) (c:Nat) (z:List Int) (hz: ∀x∈z,0≤x) (hb:z.length≤1000000):
  bw Tryz.prog base 145 [.slice b z.length c,(.func (.func 147) #[] #[])] [ak b c 3 1 (ints z)] (fun v O'=>v=.slice b z.length c∧O'=[ak b c 3 1 (ints z)]):=by
 refine av func145 F ntmps145 F ?_
 refine ai (TO.qa F (ae (ai (ah F (ah F ?_)))))
 refine aj F (aI CS (aE fun w1 hI=>(haveI:=dp hI;(show bs _ _ _ _ _ from by
   have h9:=qN w1 b c z (hI.eV (mG 0 F)) (by omega) (.func (.func 147) #[] #[]) (fun x=>decide (x<0)) [] (fun x hx=>b_ (first:=[]) (args:=[vI x]) (fK:=[]) CW (Pu w1 x))
   exact h9))) F ?_)
 rintro vr O' ⟨N,rfl,i9,rfl,hi,rfl⟩
 have Kp:i9= -1:=by
  rcases hi with⟨_,h⟩|⟨k,_,h1,_,h2⟩
  ·exact h
  ·have:=hz _ (List.getElem_mem h1)
   rw[List.getD_eq_getElem?_getD,List.getElem?_eq_getElem h1]at h2
   simp at h2;omega
 refine TO.qa F (ae (ax (ai (ah F (ad (bo F F) (ae ?_))))))
 refine bg (by rw[Kp];rfl) ?_
 refine ai (ah F (TO.qa F (ae (az ?_))))
 refine aG (.slice b z.length c) Tryz.results145 F ?_
 exact⟨F,F⟩
def XS (z:List Int) (k:Nat):List Int:=z.take k++((-1)::z).drop k
theorem vY {z:List Int} {k:Nat} (h:k≤z.length):(XS z k).length=z.length+1:=by simp[XS];omega
theorem TF {z:List Int} {k:Nat} (h:k<z.length):(XS z k)[k+1]? =some z[k]:=by
 unfold XS
 rw[List.getElem?_append_right (by simp;omega),List.getElem?_drop]
 simp[Nat.min_eq_left (Nat.le_of_lt h),show k+(k+1-k)=k+1 by omega,h]
theorem Pv {z:List Int} {k:Nat} (h:k<z.length):dl (ints (XS z k)) k [vI z[k]]=ints (XS z (k+1)):=by
 simp only[dl]
 apply List.ext_getElem?
 intro j
 have hl:(ints (XS z k)).length=z.length+1:=by rw[List.length_map,vY (Nat.le_of_lt h)]
 by_cases c1:j=k
 ·subst c1
  rw[List.getElem?_set_self (by omega),List.getElem?_map]
  unfold XS
  rw[List.getElem?_append_left (by simp;omega),List.getElem?_take,if_pos (by omega),List.getElem?_eq_getElem h];rfl
 ·rw[List.getElem?_set_ne (fun e=>c1 e.symm),List.getElem?_map,List.getElem?_map]
  congr 1
  unfold XS
  by_cases c2:j<k
  ·rw[List.getElem?_append_left (by simp;omega),List.getElem?_append_left (by simp;omega),List.getElem?_take,List.getElem?_take,if_pos c2,if_pos (by omega)]
  ·rw[List.getElem?_append_right (by simp;omega),List.getElem?_append_right (by simp;omega),List.getElem?_drop,List.getElem?_drop]
   simp only[List.length_take,Nat.min_eq_left (Nat.le_of_lt h),Nat.min_eq_left h]
   congr 1;omega
theorem Lw (base:World) [cG Tryz.prog base] (bk o c:Nat) (z:List Int) (hz: ∀x∈z,0≤x) (hb:z.length≤1000000) (pI:z.length+1≤c):
  bw Tryz.prog base 145 [.slice (some ⟨bk,o,none⟩) (z.length+1) c,(.func (.func 147) #[] #[])] [ak (some ⟨bk,o,none⟩) c 3 1 (ints (-1::z))] (fun v O'=>v=.slice (some ⟨bk,o,none⟩) z.length c∧O'=[ak (some ⟨bk,o,none⟩) c 3 1 (ints z)]):=by
 refine av func145 F ntmps145 F ?_
 have hcz:z.length+1≤c:=pI
 refine ai (TO.qa F (ae (ai (ah F (ah F ?_)))))
 refine aj F (aI CS (aE fun w1 hI=>(haveI:=dp hI;(show bs _ _ _ _ _ from by
   have h9:=qN w1 (some ⟨bk,o,none⟩) c (-1::z) (hI.eV (mG 0 F)) (by simp;omega) (.func (.func 147) #[] #[]) (fun x=>decide (x<0)) [] (fun x hx=>b_ (first:=[]) (args:=[vI x]) (fK:=[]) CW (Pu w1 x))
   exact h9))) F ?_)
 rintro vr O' ⟨N,rfl,i9,rfl,hi,rfl⟩
 have Kp:i9=((0:Nat):Int):=by
  rcases hi with⟨h,_⟩|⟨k,h,_,h1,_⟩
  ·simp at h
  ·cases k with
   |zero=>exact h
   |succ k=>simp at h1
 refine ad (a8 (cD F) (v':=vN 0) (show Value.int .i64 i9=_ by rw[Kp])) (ae (ax (ai (ah F (ad (bo F F) (ae (aL F (aq (ax (ai (ah F (ad (cj (a:=0) (b:=1) F F (by omega)) (TO.qa F (ae (aC ?_)))))))))))))))
 refine ck (fun(k:Nat) ρ O=>O=[ak (some ⟨bk,o,none⟩) c 3 1 (ints (XS z k))]∧k≤z.length∧bZ [(0,(.slice (some ⟨bk,o,none⟩) (z.length+1) c)),(1,(.func (.func 147) #[] #[])),(4,nS),(5,vN k),(6,vN (k+1))] ρ) (fun k=>z.length-k) 0 ?_ ?_
 ·exact⟨F,Nat.zero_le _,(.of F)⟩
 rintro k ρ O ⟨rfl,hk,hH⟩
 obtain⟨eP,rfl⟩:=hH.elim
 clear hH
 have Cn:=vY hk
 refine ax (ai (ah F (ah F (ad (bL bT F) (ad (bI F F) (ae (aw F (fun hc=>?_) (fun hc=>?_))))))))
 ·have Nt:k+1<z.length+1:=by omega
  have W4:k<z.length:=by omega
  refine aq (ax (aC (ai ?_)))
  refine ah F (ah F (ad (cq (i:=(k+1)) bT aM F F (cw (mG 0 F)) (by omega) (by rw[List.length_map,vY hk];omega)) (ad (bS dh F F (cw (mG 0 F)) (show(ints (XS z k))[k+1]? =some (vI z[k]) by rw[List.getElem?_map,TF W4];rfl)) ?_)))
  refine TO.qa F (ae (ai (ah F (ah F ?_))))
  let dS:Lx.Item:=ak (some ⟨bk,o,none⟩) c 3 1 (ints (XS z k))
  have Be:=(dW.under (A:=[]) (B:=[dS]) (O:=[dS]) (b_ (first:=[]) (args:=[vI z[k]]) (fK:=[]) CW (Pu base z[k])) (a_ (List.Sublist.refl _)))
  refine aj F (dQ Be F F ?_)
  clear Be
  rintro vr O' ⟨A1,rfl,rfl,rfl⟩
  refine ad (f_ F) (ae ?_)
  refine bg (show Value.bool (!decide (z[k]<0))=_ by rw[decide_eq_false (by have:=hz _ (List.getElem_mem W4);omega)];rfl) ?_
  refine ai (ah F (ah F (ah F (ad (cq (i:=k) bT aM F F (cw (mG 0 F)) (by omega) (by rw[List.length_map,vY hk];omega)) (aj F (jW (j:=k) (v:=vI z[k]) (vs:=[(vI z[k])]) (cs:=ints (XS z k)) 0 aM F F F F F (by simp) F (by rw[List.length_map,vY hk];simp;omega) ?_))))))
  refine bM (O':=[ak (some ⟨bk,o,none⟩) c 3 1 (ints (XS z (k+1)))]) (by rw[show dl (ints (XS z k)) k [(vI z[k])]=ints (XS z (k+1))from(Pv W4)];exact a_ (List.Sublist.refl _)) ?_
  refine ae (aH (ah F (ad (cj (a:=k) (b:=1) F F (by omega)) (TO.qa F (ae (aH (ah F (ad (cj (a:=(k+1)) (b:=1) F F (by omega)) (TO.qa F (ae ?_))))))))))
  exact⟨k+1,by omega,F,by omega,(.of F)⟩
 have Nu: ¬k+1<z.length+1:=by omega
 refine bn ?_
 refine ai (ah F (ah F (ad (Am (lo:=k) bT aM F F (by omega) (by omega)) (aj F (If (m:=z.length+1) (lo:=k) 0 bT aM F F F (by omega) (by omega) F ?_)))))
 refine ae (ai (ah F (ah F (ad (Fv (hi:=k) bT aM F F (by omega)) (TO.qa F (ae (az ?_)))))))
 refine aG (.slice (some ⟨bk,o,none⟩) k c) Tryz.results145 F ?_
 have Gs:k=z.length:=by omega
 have W5:(ints (XS z k)).take k=ints z:=by
  rw[Gs,←List.map_take];unfold XS;rw[List.take_length,List.take_append_of_le_length (Nat.le_refl _),List.take_length]
 rw[W5]
 exact⟨congrArg (fun n9:Nat=>Value.slice (some ⟨bk,o,none⟩) n9 c) Gs,F⟩
theorem Ly (base:World) [cG Tryz.prog base] (b:Option Addr) (c:Nat) (q:Bool×List Nat) (hb:q.2.length≤1000000):
  bw Tryz.prog base 145 [.slice b (ig q).length c,(.func (.func 147) #[] #[])] [ak b c 3 1 (ints (ig q))] (fun v O'=>v=.slice b q.2.length c∧O'=[ak b c 3 1 (aQ q.2)]):=by
 obtain⟨g,l⟩:=q
 have hz: ∀x∈l.map (fun y:Nat=>(y:Int)),0≤x:=fun x hx=>by obtain⟨y,_,rfl⟩:=List.mem_map.1 hx;omega
 cases g with
 |false=>
  have h9:=Lv base b c (l.map fun y:Nat=>(y:Int)) hz (by rw[List.length_map];exact hb)
  rw[List.length_map,e7]at h9
  rw[show ig (false,l)=l.map (fun y:Nat=>(y:Int))from F,List.length_map,e7]
  exact h9
 |true=>
  rw[show ig (true,l)= -1::l.map (fun y:Nat=>(y:Int))from F,List.length_cons,List.length_map]
  intro w M hI
  have hO:(([ak b c 3 1 (ints (-1::l.map fun y:Nat=>(y:Int)))]++M:List Lx.Item))[0]? =some (ak b c 3 1 (ints (-1::l.map fun y:Nat=>(y:Int)))):=rfl
  cases b with
  |none=>exact absurd (hI.row hO).1 (by simp)
  |some a=>
   obtain⟨bk,o,sp⟩:=a
   have wT:sp=none:=(hI.row hO).1
   subst wT
   obtain⟨_,full,_,h1,_⟩:=hI.row hO
   have h9:=Lw base bk o c (l.map fun y:Nat=>(y:Int)) hz (by rw[List.length_map];exact hb) (by simpa using h1)
   rw[List.length_map,e7]at h9
   exact h9 w M hI
end Go.Proofs.YtgdbfideeeegmaaGreatDoor

namespace Go.Proofs.YtgdbfideeeegmaaGreatDoor
open Go.Lx Go.RowKit _root_.Go.Proofs.Tryz
theorem Ig (w:World) [cG Tryz.prog w] (a:bY) (va:Valid a) (g:Bool) (l:List Nat) (sb:Option Addr) (c:Nat) (hS:Sl w sb (ints (ig (g,l)))) (hG:GS a (g,l)):
  bs Tryz.prog 142 [(.slice sb ((ig (g,l)).length) c)] w fun v N=>v=str (zJ (g,l))∧N=[]:=by
 refine av func142 F ntmps142 F ?_
 have W6:l.length≤4096:=Nat.le_trans (dR (hG.Pq.imp fun h=>Nat.ne_of_lt h) hG.lt) va.n4
 have hil:(ig (g,l)).length≤4097:=by unfold ig;split<;>simp<;>omega
 refine ai (TO.qa F (ae (ai (ah F (aj F (aI sS (aE fun w1 hI=>(haveI:=dp hI;Eg w1 sb c (ig (g,l)) (hI.sl hS) (vZ va.n4 hG) (by omega))) F ?_))))))
 rintro vr O' ⟨N,rfl,jb,jc,rfl,rfl⟩
 refine ad (Ai (l:=zJ (g,l)) lM rO eC F (mG 0 F) F) (TO.qa F (ae (az (ao ?_))))
 refine aG (str (zJ (g,l))) Tryz.results142 F ?_
 exact⟨[],Sub.z,F,F⟩
theorem FN (w:World) [cG Tryz.prog w] (a:bY) (ka:DK) (ha:At w a ka) (va:Valid a) (za:Nat) (r_:Sl w (aD za) (dC a ka)) (g:Bool) (l:List Nat) (sb:Option Addr) (c:Nat) (hS:Sl w sb (ints (ig (g,l)))) (hG:GS a (g,l)) (x:Nat) (hx:x<cJ a):
  bs Tryz.prog 143 [(.slice sb ((ig (g,l)).length) c),v8 x,(du (aD za) 0)] w fun v N=> ∃b' c' c2,v=.slice b' (sa a (g,l) x).2.length c'∧N=[ak b' c2 3 1 (aQ (sa a (g,l) x).2)]:=by
 refine av func143 F ntmps143 F ?_
 have W6:l.length≤4096:=Nat.le_trans (dR (hG.Pq.imp fun h=>Nat.ne_of_lt h) hG.lt) va.n4
 have hil:(ig (g,l)).length≤4097:=by unfold ig;split<;>simp<;>omega
 have Kb:=lQ a l x
 have Ha:(eD a l x).length≤4096:=Nat.le_trans (Ih _ _) va.n4
 refine ai (TO.qa F (ae (ax ?_)))
 refine T.ds [] [(0,0),(1,0),(4,0),(2,1),(3,1),(5,2),(6,2)] (a_ (List.nil_sublist _)) ?_
 refine am F (dT (vs:=(dC a ka)) cy F aX F F (Nat.succ_pos _) (aB r_) (fun j hj=>by rw[Nat.zero_add];exact List.getElem?_eq_getElem hj)) (am F (aF F) (am F (aF F) ?_))
 refine bJ F F (aI H3 (aE fun w1 hI=>(haveI:=dp hI;H4 w1 sb c (ig (g,l)) (hI.sl hS) (by omega))) F ?_)
 rintro vr O' ⟨N,rfl,nb,nc,rfl,rfl,Vy⟩
 refine⟨by exact Sub.z,?_⟩
 refine bJ F F (aI Pw (jX [0] (Ly w nb nc (g,l) (by show l.length≤_;omega))) F ?_)
 rintro vr O' ⟨A1,rfl,rfl,rfl⟩
 refine⟨by exact Sub.z,?_⟩
 refine bq F F (aI H9 (aE fun w1 hI=>(haveI:=dp hI;Nk w1 a ka (hI.oH ha) va nb nc l (hI.eV (mG 0 F)) hG.lt (by omega) x hx)) F ?_)
 rintro vr O' ⟨N,rfl,tb,tc,rfl,rfl⟩
 refine bq F F (dG F F (cD F) ?_)
 refine bu ?_
 refine ax (ai ?_)
 refine ad (dT (vs:=(dC a ka)) cy F aX F F (Nat.succ_pos _) (aB r_) (fun j hj=>by rw[Nat.zero_add];exact List.getElem?_eq_getElem hj)) (ah F ?_)
 refine aj F (aI yV (aE fun w1 hI=>(haveI:=dp hI;uD w1 a ka (hI.oH ha) va tb tc (eD a l x) (hI.eV (mG 0 F)) Kb.2 (by omega))) F ?_)
 rintro vr O' ⟨N,rfl,rfl,rfl⟩
 refine ae (T.cond F (fun hc=>?_) (fun hc=>?_))
 ·refine aH ?_
  refine ah F (ad (bG cy F aM F F (aB r_) (by show _<4;decide)) (ad (bS dh F F (aB r_) (show _=some (Value.int .i64 ((a.start.toNat:Nat):Int)) by rw[Int.toNat_of_nonneg va.s0];rfl)) (aj F (aI H7 (jX [0] (Nl w a.next.length tb tc tc (eD a l x) a.start.toNat Kb.1 Kb.2 (dH va.toVal) (by omega))) F ?_))))
  rintro vr O' ⟨A1,rfl,wb,wc,Ty,rfl,rfl⟩
  refine TO.qa F (ae (ai (ah F (TO.qa F (ae (az (ao ?_)))))))
  refine aG (.slice wb ((yM a.next.length (eD a l x) a.start.toNat).length) wc) Tryz.results143 F ?_
  have e9:(sa a (g,l) x).2=yM a.next.length (eD a l x) a.start.toNat:=by show(if _ then _ else _)=_;rw[if_pos hc]
  rw[e9]
  exact⟨[ak wb Ty 3 1 (aQ (yM a.next.length (eD a l x) a.start.toNat))],(by exact Sub.k .z),wb,wc,Ty,F,F⟩
 refine aq (ai (ah F (TO.qa F (ae (az (ao ?_))))))
 refine aG (.slice tb ((eD a l x).length) tc) Tryz.results143 F ?_
 have e9:(sa a (g,l) x).2=eD a l x:=by show(if _ then _ else _)=_;rw[if_neg (by rw[hc];simp)]
 rw[e9]
 exact⟨[ak tb tc 3 1 (aQ (eD a l x))],(by exact Sub.k .z),tb,tc,tc,F,F⟩
theorem Ii (w:World) [cG Tryz.prog w] (a:bY) (ka:DK) (ha:At w a ka) (va:Valid a) (za:Nat) (r_:Sl w (aD za) (dC a ka)) (l:List Nat) (sb:Option Addr) (c:Nat) (hS:Sl w sb (ints (ig (true,l)))) (hG:GS a (true,l)):
  bs Tryz.prog 150 [(.slice sb (l.length+1) c),(du (aD za) 0)] w fun v N=>v=.bool (LA a (true,l))∧N=[]:=by
 refine av func150 F ntmps150 F ?_
 have W6:l.length≤4096:=Nat.le_trans (dR (hG.Pq.imp fun h=>Nat.ne_of_lt h) hG.lt) va.n4
 rw[show ig (true,l)= -1::l.map (fun y:Nat=>(y:Int))from F]at hS
 refine ai (TO.qa F (ae (ai (ah F (ad (bL bT F) (ad (ar (fw F F) (decide_eq_true (by omega))) (ah F (ap F F (aF F) (ap F F (cq (i:=0) bT aM F F (aB hS) (by omega) (by simp)) (ap F F (bS dh F F (aB hS) F) (ap F F (ar (bI F F) (decide_eq_true (by decide))) ?_)))))))))))
 refine ad (bt F F) (ah F (ay F F (ay F F (ay F F (ad (bt F F) (TO.qa F (ae (az (ao ?_)))))))))
 refine aG (.bool true) Tryz.results150 F ?_
 exact⟨[],Sub.z,F,F⟩
theorem Ij (w:World) [cG Tryz.prog w] (a:bY) (ka:DK) (ha:At w a ka) (va:Valid a) (za:Nat) (r_:Sl w (aD za) (dC a ka)) (l:List Nat) (sb:Option Addr) (c:Nat) (hS:Sl w sb (ints (ig (false,l)))) (hG:GS a (false,l)):
  bs Tryz.prog 150 [(.slice sb l.length c),(du (aD za) 0)] w fun v N=>v=.bool (LA a (false,l))∧N=[]:=by
 refine av func150 F ntmps150 F ?_
 have W6:l.length≤4096:=Nat.le_trans (dR (hG.Pq.imp fun h=>Nat.ne_of_lt h) hG.lt) va.n4
 rw[show ints (ig (false,l))=aQ l by rw[←e7];rfl]at hS
 refine ai (TO.qa F (ae (ai (ah F (ad (bL bT F) ?_)))))
 by_cases rj:((l.length:Nat):Int)>0
 ·refine ad (ar (fw F F) (decide_eq_true rj)) ?_
  refine ah F (ap F F (aF F) (ap F F (cq (i:=0) bT aM F F (aB hS) (by omega) (by rw[List.length_map];omega)) (ap F F (bS dh F F (aB hS) (eK (show 0<l.length by omega))) (ap F F (ar (bI F F) (decide_eq_false (by omega))) (ad (bt F F) (ah F ?_))))))
  refine ap F F (dT (vs:=(dC a ka)) cy F aX F F (Nat.succ_pos _) (aB r_) (fun j hj=>by rw[Nat.zero_add];exact List.getElem?_eq_getElem hj)) ?_
  refine ap F F (aF F) ?_
  refine fL F F F (aI yV (aE fun w1 hI=>(haveI:=dp hI;uD w1 a ka (hI.oH ha) va sb c l (hI.sl hS) hG.lt (by omega))) F ?_)
  rintro vr O' ⟨N,rfl,rfl,rfl⟩
  refine ad (aZ F F) (TO.qa F (ae (az (ao ?_))))
  refine aG (.bool (l.any (dK a))) Tryz.results150 F ?_
  exact⟨[],Sub.z,F,F⟩
 refine ad (ar (fw F F) (decide_eq_false rj)) (ah F (ay F F (ay F F (ay F F (ay F F (ad (aZ F F) (ah F ?_)))))))
 refine ap F F (dT (vs:=(dC a ka)) cy F aX F F (Nat.succ_pos _) (aB r_) (fun j hj=>by rw[Nat.zero_add];exact List.getElem?_eq_getElem hj)) ?_
 refine ap F F (aF F) ?_
 refine fL F F F (aI yV (aE fun w1 hI=>(haveI:=dp hI;uD w1 a ka (hI.oH ha) va sb c l (hI.sl hS) hG.lt (by omega))) F ?_)
 rintro vr O' ⟨N,rfl,rfl,rfl⟩
 refine ad (aZ F F) (TO.qa F (ae (az (ao ?_))))
 refine aG (.bool (l.any (dK a))) Tryz.results150 F ?_
 exact⟨[],Sub.z,F,F⟩
theorem Ik (w:World) [cG Tryz.prog w] (a:bY) (ka:DK) (ha:At w a ka) (va:Valid a) (za:Nat) (r_:Sl w (aD za) (dC a ka)) (g:Bool) (l:List Nat) (sb:Option Addr) (c:Nat) (hS:Sl w sb (ints (ig (g,l)))) (hG:GS a (g,l)):
  bs Tryz.prog 150 [(.slice sb ((ig (g,l)).length) c),(du (aD za) 0)] w fun v N=>v=.bool (LA a (g,l))∧N=[]:=by
 cases g with
 |true=>
  rw[show(ig (true,l)).length=l.length+1 by rw[show ig (true,l)= -1::l.map (fun y:Nat=>(y:Int))from F];simp]
  exact Ii w a ka ha va za r_ l sb c hS hG
 |false=>
  rw[show(ig (false,l)).length=l.length by rw[show ig (false,l)=l.map (fun y:Nat=>(y:Int))from F];simp]
  exact Ij w a ka ha va za r_ l sb c hS hG
def Il (a:bY) (w:World) (k:Key) (r:SR):Prop:= ∃g l sb cc,GS a (g,l)∧k=zJ (g,l)∧r.a=.slice sb (ig (g,l)).length cc∧r.b=.bool false∧((∃c2,r.iH=[ak sb c2 3 1 (ints (ig (g,l)))])∨(r.iH=[]∧Sl w sb (ints (ig (g,l)))))
theorem Il.sl {w w1:World} {sb:Option Addr} {cs:List Value} {iH:List Lx.Item} (hI:Inv w [] w1) (h:(∃c2,iH=[ak sb c2 3 1 cs])∨(iH=[]∧Sl w sb cs)) (di: ∀it∈iH,it.P w1):Sl w1 sb cs:=by
 rcases h with⟨c2,he⟩|⟨_,h⟩
 ·exact rowP.sl (di (ak sb c2 3 1 cs) (by rw[he];simp))
 ·exact hI.sl h
theorem Il.one {a:bY} {w:World} {k:Key} {r:SR} (h:Il a w k r):dD r.a=true∧dD r.b=true:=by
 obtain⟨g,l,sb,cc,_,_,h1,h2,_⟩:=h
 rw[h1,h2];exact⟨F,F⟩
set_option maxRecDepth 20000 in
theorem Px (w:World) [cG Tryz.prog w] (a:bY) (ka:DK) (ha:At w a ka) (va:Valid a) (za:Nat) (r_:Sl w (aD za) (dC a ka)) (w1:World) [cG Tryz.prog w1] (hI:Inv w [] w1) (k:Key) (r:SR) (hR:Il a w k r) (di: ∀it∈r.iH,it.P w1):dW Tryz.prog w1 (.func (.func 142) #[] #[]) [r.a] [] (fun v O'=>v=str k∧O'=[]):=by
 obtain⟨g,l,sb,cc,hG,rfl,e1,e2,hm⟩:=hR
 have hS:=Il.sl hI hm di
 rw[e1]
 exact b_ (first:=[]) (args:=[.slice sb (ig (g,l)).length cc]) (fK:=[]) Py (Ig w1 a va g l sb cc hS hG)
set_option maxRecDepth 20000 in
theorem Pz (w:World) [cG Tryz.prog w] (a:bY) (ka:DK) (ha:At w a ka) (va:Valid a) (za:Nat) (r_:Sl w (aD za) (dC a ka)) (w1:World) [cG Tryz.prog w1] (hI:Inv w [] w1) (k:Key) (r:SR) (hR:Il a w k r) (di: ∀it∈r.iH,it.P w1) (x:Nat) (hx:x<cJ a):dW Tryz.prog w1 (.func (.func 143) #[] #[(du (aD za) 0)]) [r.a,.int .u8 (x:Int)] [] (fun v N=> ∃r',v=r'.a∧N=r'.iH∧Il a w (zI (GS a) zJ (sa a) k x) r'):=by
 obtain⟨g,l,sb,cc,hG,rfl,e1,e2,hm⟩:=hR
 have hS:=Il.sl hI hm di
 rw[e1]
 refine(b_ (first:=[]) (args:=[.slice sb (ig (g,l)).length cc,.int .u8 (x:Int)]) (fK:=[(du (aD za) 0)]) PA (FN w1 a ka (hI.oH ha) va za (hI.sl r_) g l sb cc hS hG x hx)).mono ?_
 rintro v O' ⟨b',c',c2,rfl,rfl⟩
 have e3:ig (sa a (g,l) x)=(sa a (g,l) x).2.map fun y:Nat=>(y:Int):=rfl
 exact⟨⟨.slice b' (sa a (g,l) x).2.length c',.bool false,[ak b' c2 3 1 (aQ (sa a (g,l) x).2)]⟩,F,F,false,(sa a (g,l) x).2,b',c',GS.next x,sT (yY va) hG hx,by show _=Value.slice b' (ig (sa a (g,l) x)).length c';rw[e3,List.length_map],F,.inl ⟨c2,by show _=[ak b' c2 3 1 (ints (ig (sa a (g,l) x)))];rw[e3,e7]⟩⟩
set_option maxRecDepth 20000 in
theorem PB (w:World) [cG Tryz.prog w] (a:bY) (ka:DK) (ha:At w a ka) (va:Valid a) (za:Nat) (r_:Sl w (aD za) (dC a ka)) (w1:World) [cG Tryz.prog w1] (hI:Inv w [] w1) (k:Key) (r:SR) (hR:Il a w k r) (di: ∀it∈r.iH,it.P w1):dW Tryz.prog w1 (.func (.func 150) #[] #[(du (aD za) 0)]) [r.a] [] (fun v O'=>v=.bool (FM (GS a) zJ (LA a) k)∧O'=[]):=by
 obtain⟨g,l,sb,cc,hG,rfl,e1,e2,hm⟩:=hR
 have hS:=Il.sl hI hm di
 rw[e1]
 rw[yW (yY va) hG]
 exact b_ (first:=[]) (args:=[.slice sb (ig (g,l)).length cc]) (fK:=[(du (aD za) 0)]) PC (Ik w1 a ka (hI.oH ha) va za (hI.sl r_) g l sb cc hS hG)
theorem TH (w:World) [cG Tryz.prog w] (cb:Nat) (eb:Option Addr) (en ec vs B:Nat) (eu:Sl w (aD cb) [.slice eb en ec,vI (vs:Int),vI (B:Int)]) (gm:vs≤6) (iP:1≤B) (hB:B≤4096) (a:bY) (ka:DK) (ha:At w a ka) (va:Valid a) (TE:a.vars=(vs:Int)):
  dq Tryz.prog w (.iface 163 (.agg #[])) 105 [(du (aD cb) 0),dV a ka] [] (fun v N=> ∃M k',v=dV M k'∧N=[dI 56 4 3 M k']∧fm (vs:Int) B M (rV (h_ a))∧CX a (cJ a) B) (¬CX a (cJ a) B):=by
 refine dA func105 F ntmps105 F ?_
 refine ai (aj F (cL (cs:=(dC a ka)) F F (fun z1=>?_)))
 refine aj F (aR aX F (fun z2=>?_))
 refine ae (ai (ah F (ad (aJ cy F aM F F) (ad (a8 (aO 1 dh F F F F) (v':=vI ((a.start.toNat:Nat):Int)) (show Value.int .i64 a.start=_ by rw[Int.toNat_of_nonneg va.s0])) (aj F (bH (m:=2) (parts:=[(0,.const (vI (-1))),(1,.tmp 7)]) (cs:=[vI (-1),vI ((a.start.toNat:Nat):Int)]) bT aM (by decide) (by kernel_rfl) F (fun z3=>?_)))))))
 refine ad (dX) (ad (dX) ?_)
 have ly:=fun(w1:World) (hI:Inv w [ak (aD z3) 2 3 1 [vI (-1),vI ((a.start.toNat:Nat):Int)],oI z2 25 [(vI 0),(vI 0),nS,nS],oI z1 25 (dC a ka)] w1)=>(haveI:=dp hI;CU w1 cb eb en ec vs B (cJ a) (hI.sl eu) gm (by unfold cJ;rw[TE];rfl) iP hB (zI (GS a) zJ (sa a)) (FM (GS a) zJ (LA a)) (zJ (CY a)) (Il a w1) ⟨.slice (aD z3) 2 2,.bool false,[]⟩ (.func (.func 142) #[] #[]) (.func (.func 143) #[] #[(du (aD z1) 0)]) (.func (.func 150) #[] #[(du (aD z1) 0)]) ⟨true,[a.start.toNat],(aD z3),2,GS.start va.toVal,F,F,F,.inr ⟨F,hI.eV (mG 0 F)⟩⟩ F (fun k r h=>h.one) (fun w2 k r nX hR di=>haveI:=dp nX;Px w1 a ka (hI.oH ha) va z1 (hI.iX (mG 2 F)) w2 nX k r hR di) (fun w2 k r x nX hR di hx=>haveI:=dp nX;Pz w1 a ka (hI.oH ha) va z1 (hI.iX (mG 2 F)) w2 nX k r hR di x hx) (fun w2 k r nX hR di=>haveI:=dp nX;PB w1 a ka (hI.oH ha) va z1 (hI.iX (mG 2 F)) w2 nX k r hR di))
 refine dP F (fA PD (dq.pure ly) F (fun z _=>⟨F,z⟩) ?_)
 clear ly
 rintro vr O' ⟨N,rfl,M,k9,rfl,rfl,hM,Ie⟩
 refine aj F (bj (vs:=(dC M k9)) 2 aX F F F F ?_)
 refine ae (az (ao ?_))
 refine bf (i:=2) Tryz.results105 cy F aX F F F ?_
 exact⟨[dI 56 4 3 M k9],(by exact Sub.k .z),M,k9,F,F,⟨⟨hM.valid,hM.len,hM.vars,fun u hu=>by rw[hM.h_ u hu];exact xX va (fun x hx=>by have:=hu x hx;unfold cJ;rw[TE];exact this)⟩,hM.min⟩,Ie⟩
end Go.Proofs.YtgdbfideeeegmaaGreatDoor

namespace Go.Proofs.YtgdbfideeeegmaaGreatDoor
open Go.Lx Go.RowKit _root_.Go.Proofs.Tryz
def Ia (a b:bY) (w:World) (k:Key) (r:SR):Prop:= ∃s l sb cc,GC a b (s,l)∧k=xW (s,l)∧r.a=vI (s:Int)∧r.b=.slice sb l.length cc∧((∃c2,r.iH=[ak sb c2 3 1 (aQ l)])∨(r.iH=[]∧Sl w sb (aQ l)))
theorem rowAt {w1:World} {b:Option Addr} {c:Nat} {T:TypeId} {cs:List Value} {iH:List Lx.Item} (he:iH=[ak b c T 1 cs]) (h: ∀it∈iH,it.P w1):Sl w1 b cs:=rowP.sl (h (ak b c T 1 cs) (by rw[he];simp))
theorem Ia.sl {a b:bY} {w w1:World} {sb:Option Addr} {l:List Nat} {iH:List Lx.Item} (hI:Inv w [] w1) (h:(∃c2,iH=[ak sb c2 3 1 (aQ l)])∨(iH=[]∧Sl w sb (aQ l))) (di: ∀it∈iH,it.P w1):Sl w1 sb (aQ l):=by
 rcases h with⟨c2,he⟩|⟨_,h⟩
 ·exact rowAt he di
 ·exact hI.sl h
theorem Ia.one {a b:bY} {w:World} {k:Key} {r:SR} (h:Ia a b w k r):dD r.a=true∧dD r.b=true:=by
 obtain⟨s,l,sb,cc,_,_,h1,h2,_⟩:=h
 rw[h1,h2];exact⟨F,F⟩
set_option maxRecDepth 20000 in
theorem TA (w:World) [cG Tryz.prog w] (a:bY) (ka:DK) (ha:At w a ka) (va:Valid a) (za:Nat) (r_:Sl w (aD za) (dC a ka)) (b:bY) (kb:DK) (hb:At w b kb) (vb:Valid b) (zb:Nat) (Eh:Sl w (aD zb) (dC b kb)) (xe:a.vars=b.vars) (zf:Nat) (Tz:Sl w (aD zf) [(.func (.func 153) #[] #[(du (aD za) 0),(du (aD zb) 0)])]) (w1:World) [cG Tryz.prog w1] (hI:Inv w [] w1) (k:Key) (r:SR) (hR:Ia a b w k r) (di: ∀it∈r.iH,it.P w1):dW Tryz.prog w1 (.func (.func 155) #[] #[]) [.agg #[r.a,r.b]] [] (fun v O'=>v=str k∧O'=[]):=by
 obtain⟨s,l,sb,cc,hG,rfl,e1,e2,hm⟩:=hR
 have hS:=Ia.sl (a:=a) (b:=b) hI hm di
 have yU:=hG.len vb.n4
 rw[e1,e2]
 exact b_ (first:=[]) (args:=[.agg #[vI (s:Int),.slice sb l.length cc]]) (fK:=[]) Po (Ls w1 s (by have:=hG.s;have:=va.n4;omega) sb cc l hS (fun t ht=>by have:=hG.lt t ht;have:=vb.n4;omega) yU)
set_option maxRecDepth 20000 in
theorem TB (w:World) [cG Tryz.prog w] (a:bY) (ka:DK) (ha:At w a ka) (va:Valid a) (za:Nat) (r_:Sl w (aD za) (dC a ka)) (b:bY) (kb:DK) (hb:At w b kb) (vb:Valid b) (zb:Nat) (Eh:Sl w (aD zb) (dC b kb)) (xe:a.vars=b.vars) (zf:Nat) (Tz:Sl w (aD zf) [(.func (.func 153) #[] #[(du (aD za) 0),(du (aD zb) 0)])]) (w1:World) [cG Tryz.prog w1] (hI:Inv w [] w1) (k:Key) (r:SR) (hR:Ia a b w k r) (di: ∀it∈r.iH,it.P w1) (x:Nat) (hx:x<cJ a):dW Tryz.prog w1 (.func (.func 156) #[] #[(du (aD zf) 0),(du (aD za) 0),(du (aD zb) 0)]) [.agg #[r.a,r.b],.int .u8 (x:Int)] [] (fun v N=> ∃r',v=.agg #[r'.a,r'.b]∧N=r'.iH∧Ia a b w (zI (GC a b) xW (Gr a b) k x) r'):=by
 obtain⟨s,l,sb,cc,hG,rfl,e1,e2,hm⟩:=hR
 have hS:=Ia.sl (a:=a) (b:=b) hI hm di
 have yU:=hG.len vb.n4
 rw[e1,e2]
 refine(b_ (first:=[]) (args:=[.agg #[vI (s:Int),.slice sb l.length cc],.int .u8 (x:Int)]) (fK:=[(du (aD zf) 0),(du (aD za) 0),(du (aD zb) 0)]) Pp (H8 w1 a ka (hI.oH ha) va za (hI.sl r_) b kb (hI.oH hb) vb zb (hI.sl Eh) xe zf (hI.sl Tz) s hG.s sb cc l hS hG.Pq hG.lt x hx)).mono ?_
 rintro v O' ⟨b',c',c2,rfl,rfl⟩
 exact⟨⟨vI ((dJ a s x:Nat):Int),.slice b' (tF a b (dJ a s x) (eD b l x)).length c',[ak b' c2 3 1 (aQ (tF a b (dJ a s x) (eD b l x)))]⟩,F,F,dJ a s x,_,b',c',hG.next va.toVal vb.toVal hx,sT (Ej va vb) hG hx,F,F,.inl ⟨c2,F⟩⟩
set_option maxRecDepth 20000 in
theorem TC (w:World) [cG Tryz.prog w] (a:bY) (ka:DK) (ha:At w a ka) (va:Valid a) (za:Nat) (r_:Sl w (aD za) (dC a ka)) (b:bY) (kb:DK) (hb:At w b kb) (vb:Valid b) (zb:Nat) (Eh:Sl w (aD zb) (dC b kb)) (xe:a.vars=b.vars) (zf:Nat) (Tz:Sl w (aD zf) [(.func (.func 153) #[] #[(du (aD za) 0),(du (aD zb) 0)])]) (w1:World) [cG Tryz.prog w1] (hI:Inv w [] w1) (k:Key) (r:SR) (hR:Ia a b w k r) (di: ∀it∈r.iH,it.P w1):dW Tryz.prog w1 (.func (.func 157) #[] #[(du (aD zb) 0)]) [.agg #[r.a,r.b]] [] (fun v O'=>v=.bool (FM (GC a b) xW (Pn b) k)∧O'=[]):=by
 obtain⟨s,l,sb,cc,hG,rfl,e1,e2,hm⟩:=hR
 have hS:=Ia.sl (a:=a) (b:=b) hI hm di
 have yU:=hG.len vb.n4
 rw[e1,e2]
 rw[yW (Ej va vb) hG]
 exact b_ (first:=[]) (args:=[.agg #[vI (s:Int),.slice sb l.length cc]]) (fK:=[(du (aD zb) 0)]) Pr (Lt w1 b kb (hI.oH hb) vb zb (hI.sl Eh) s sb cc l hS hG.lt yU)
set_option maxRecDepth 20000 in
theorem Ps (w:World) [cG Tryz.prog w] (a:bY) (ka:DK) (ha:At w a ka) (va:Valid a) (za:Nat) (r_:Sl w (aD za) (dC a ka)) (b:bY) (kb:DK) (hb:At w b kb) (vb:Valid b) (zb:Nat) (Eh:Sl w (aD zb) (dC b kb)):dW Tryz.prog w (.func (.func 153) #[] #[(du (aD za) 0),(du (aD zb) 0)]) [.agg #[vI a.start,nS]] [] (fun v N=> ∃sb sc Kc,v=.agg #[vI a.start,.slice sb (tF a b a.start.toNat []).length sc]∧N=[ak sb Kc 3 1 (aQ (tF a b a.start.toNat []))]):=by
 refine b_ (first:=[]) (args:=[.agg #[vI a.start,nS]]) (fK:=[(du (aD za) 0),(du (aD zb) 0)]) H_ (bw.dt 3 1 ?_)
 have h9:=H6 w a ka ha va za r_ b kb hb vb zb Eh a.start.toNat (dH va.toVal) none 0 0 [] List.Pairwise.nil (by simp)
 rw[Int.toNat_of_nonneg va.s0]at h9
 exact h9
theorem TD (w:World) [cG Tryz.prog w] (cb:Nat) (eb:Option Addr) (en ec vs B:Nat) (eu:Sl w (aD cb) [.slice eb en ec,vI (vs:Int),vI (B:Int)]) (gm:vs≤6) (iP:1≤B) (hB:B≤4096) (a:bY) (ka:DK) (ha:At w a ka) (va:Valid a) (TE:a.vars=(vs:Int)) (b:bY) (kb:DK) (hb:At w b kb) (vb:Valid b) (xe:a.vars=b.vars):
  dq Tryz.prog w (.iface 163 (.agg #[])) 108 [(du (aD cb) 0),dV a ka,dV b kb] [] (fun v N=> ∃M k',v=dV M k'∧N=[dI 56 4 3 M k']∧fm (vs:Int) B M (nI (h_ a) (h_ b))∧yX a b (cJ a) B) (¬yX a b (cJ a) B):=by
 refine dA func108 F ntmps108 F ?_
 refine ai (aj F (cL (cs:=(dC a ka)) F F (fun z1=>?_)))
 refine aj F (cL (cs:=(dC b kb)) F F (fun z2=>?_))
 refine aj F (aR aX F (fun z3=>?_))
 refine ae (ai (ad (dX) (aj F (aR Ib F (fun z4=>?_)))))
 let dS:Value:=(.func (.func 153) #[] #[(.pointer (aD z1)),(.pointer (aD z2))])
 refine aj F (bj (vs:=[dS]) 0 Ib F F F F ?_)
 refine ae (ai (ah F (ad (aO 0 Ns F F F F) (ad (aJ cy F aM F F) (ad (aO 3 dh F F F F) (ad (bE (cs:=[(vI a.start),nS]) Ei fE (by kernel_rfl)) ?_))))))
 have Bc:=(cF (O:=[oI z4 209 [dS],oI z3 25 [(vI 0),(vI 0),nS,nS],oI z2 25 (dC b kb),oI z1 25 (dC a ka)]) fun w1 hI=>haveI:=dp hI;(haveI:=dp hI;Ps w1 a ka (hI.oH ha) va z1 (hI.iX (mG 3 F)) b kb (hI.oH hb) vb z2 (hI.iX (mG 2 F))))
 refine aj F (dQ Bc F F ?_)
 clear Bc
 rintro vr O' ⟨N,rfl,sb,sc,Kc,rfl,rfl⟩
 refine ad (dX) (ad (dX) ?_)
 have Ic:=fun(w1:World) (hI:Inv w [ak sb Kc 3 1 (aQ (tF a b a.start.toNat [])),oI z4 209 [dS],oI z3 25 [(vI 0),(vI 0),nS,nS],oI z2 25 (dC b kb),oI z1 25 (dC a ka)] w1)=>(haveI:=dp hI;A8 w1 cb eb en ec vs B (cJ a) (hI.sl eu) gm (by unfold cJ;rw[TE];rfl) iP hB (zI (GC a b) xW (Gr a b)) (FM (GC a b) xW (Pn b)) (xW (Lu a b)) (Ia a b w1) ⟨vI a.start,.slice sb (tF a b a.start.toNat []).length sc,[]⟩ (.func (.func 155) #[] #[]) (.func (.func 156) #[] #[(du (aD z4) 0),(du (aD z1) 0),(du (aD z2) 0)]) (.func (.func 157) #[] #[(du (aD z2) 0)]) ⟨a.start.toNat,tF a b a.start.toNat [],sb,sc,GC.start va.toVal vb.toVal,F,(show Value.int .i64 a.start=_ by rw[Int.toNat_of_nonneg va.s0]),F,.inr ⟨F,hI.eV (mG 0 F)⟩⟩ F (fun k r h=>h.one) (fun w2 k r nX hR di=>haveI:=dp nX;TA w1 a ka (hI.oH ha) va z1 (hI.iX (mG 4 F)) b kb (hI.oH hb) vb z2 (hI.iX (mG 3 F)) xe z4 (hI.iX (mG 1 F)) w2 nX k r hR di) (fun w2 k r x nX hR di hx=>haveI:=dp nX;TB w1 a ka (hI.oH ha) va z1 (hI.iX (mG 4 F)) b kb (hI.oH hb) vb z2 (hI.iX (mG 3 F)) xe z4 (hI.iX (mG 1 F)) w2 nX k r hR di x hx) (fun w2 k r nX hR di=>haveI:=dp nX;TC w1 a ka (hI.oH ha) va z1 (hI.iX (mG 4 F)) b kb (hI.oH hb) vb z2 (hI.iX (mG 3 F)) xe z4 (hI.iX (mG 1 F)) w2 nX k r hR di))
 refine dP F (fA Pt (dq.pure Ic) F (fun z _=>⟨F,z⟩) ?_)
 clear Ic
 rintro vr O' ⟨N,rfl,M,k9,rfl,rfl,hM,Ie⟩
 refine aj F (bj (vs:=(dC M k9)) 3 aX F F F F ?_)
 refine ae (az (ao ?_))
 refine bf (i:=3) Tryz.results108 cy F aX F F F ?_
 exact⟨[dI 56 4 3 M k9],(by exact Sub.k .z),M,k9,F,F,⟨⟨hM.valid,hM.len,hM.vars,fun u hu=>by rw[hM.h_ u hu];exact Bd va vb xe (fun x hx=>by have:=hu x hx;unfold cJ;rw[TE];exact this)⟩,hM.min⟩,Ie⟩
end Go.Proofs.YtgdbfideeeegmaaGreatDoor

namespace Go.Proofs.YtgdbfideeeegmaaGreatDoor
open Go.Lx Go.RowKit _root_.Go.Proofs.Tryz
abbrev xY (vs B:Nat) (t:Rx) (v:Value) (N:List Lx.Item):Prop:= ∃M k',v=dV M k'∧N=[dI 56 4 3 M k']∧fm (vs:Int) B M (jz t)∧mx vs t B
theorem C1 (w:World) [cG Tryz.prog w] (cb:Nat) (eb:Option Addr) (en ec vs B:Nat) (eu:Sl w (aD cb) [.slice eb en ec,vI (vs:Int),vI (B:Int)]) (gm:vs≤6) (iP:1≤B) (hB:B≤4096) (e:List dE) (hE:Sl w eb (aT e)) (kT:en=e.length) (i:Nat) (hp:e[i]? =some ⟨2,0,0,0,0⟩):
  dq Tryz.prog w (.iface 163 (.agg #[])) 72 [(du (aD cb) 0),vN i] [] (xY vs B Rx.empty) (¬mx vs Rx.empty B):=by
 refine dA func72 F ntmps72 F ?_
 obtain⟨hi,_⟩:=kF hp
 refine ai (aj F (aR aX F (fun z1=>?_)))
 refine ae (ai (ah F (ad (aP F) (ad (bG kR F eT F F (aB eu) (by first|omega|(simp;done)|(simp;omega)|(simp_all;done)|(simp_all;omega))) (ad (bS cp F F (aB eu) F) (ah F (ad (db (i:=i) cp bQ F F (aB hE) (by omega) (by rw[bF];omega)) (ad (dT (vs:=[v8 2,v8 0,v8 0,vI 0,vI 0]) bK F bQ F F (Nat.succ_pos _) (aB hE) (fp hp)) (aj F (aR bQ F (fun z2=>?_)))))))))))
 refine aj F (bj (vs:=[v8 2,v8 0,v8 0,vI 0,vI 0]) 0 bQ F F F F ?_)
 refine ae (ax (ai (ad (aJ bK F cP F F) (ad (aO 0 eC F F F F) (ae (aC (ai (ad (bo F F) (ad (ar (cD F) (decide_eq_false (by decide))) (ae (aL F (ai (ad (bo F F) (ad (ar (cD F) (decide_eq_true (by decide))) ?_))))))))))))))
 refine ae ?_
 refine bg F ?_
 refine ai (ah F (ad (cN 0 bK F bQ F F F) ?_))
 have Be:=fun(w1:World) (hI:Inv w [oI z2 72 [v8 2,v8 0,v8 0,vI 0,vI 0],oI z1 25 [(vI 0),(vI 0),nS,nS]] w1)=>(haveI:=dp hI;Io w1 cb eb en ec vs B (hI.sl eu) gm iP hB 0 2 0 0 0 0 (by omega) (by omega) (by omega))
 refine dP F (fA Iq (dq.pure Be) F (fun z _=>⟨F,z⟩) ?_)
 clear Be
 rintro vr O' ⟨N,rfl,M,kr,rfl,rfl,PG,PH⟩
 refine aj F (bj (vs:=(dC M kr)) 2 aX F F F F ?_)
 refine ae (az (ao ?_))
 refine bf (i:=2) Tryz.results72 cy F aX F F F ?_
 exact⟨[dI 56 4 3 M kr],(by exact Sub.k .z),M,kr,F,F,PG,PH⟩
theorem Bg (w:World) [cG Tryz.prog w] (cb:Nat) (eb:Option Addr) (en ec vs B:Nat) (eu:Sl w (aD cb) [.slice eb en ec,vI (vs:Int),vI (B:Int)]) (gm:vs≤6) (iP:1≤B) (hB:B≤4096) (e:List dE) (hE:Sl w eb (aT e)) (kT:en=e.length) (i:Nat) (p n:Nat) (KH:p<256) (qK:n<256) (hp:e[i]? =some ⟨3,p,n,0,0⟩):
  dq Tryz.prog w (.iface 163 (.agg #[])) 72 [(du (aD cb) 0),vN i] [] (xY vs B (.letter p n)) (¬mx vs (.letter p n) B):=by
 refine dA func72 F ntmps72 F ?_
 obtain⟨hi,_⟩:=kF hp
 refine ai (aj F (aR aX F (fun z1=>?_)))
 refine ae (ai (ah F (ad (aP F) (ad (bG kR F eT F F (aB eu) (by first|omega|(simp;done)|(simp;omega)|(simp_all;done)|(simp_all;omega))) (ad (bS cp F F (aB eu) F) (ah F (ad (db (i:=i) cp bQ F F (aB hE) (by omega) (by rw[bF];omega)) (ad (dT (vs:=[v8 3,v8 p,v8 n,vI 0,vI 0]) bK F bQ F F (Nat.succ_pos _) (aB hE) (fp hp)) (aj F (aR bQ F (fun z2=>?_)))))))))))
 refine aj F (bj (vs:=[v8 3,v8 p,v8 n,vI 0,vI 0]) 0 bQ F F F F ?_)
 refine ae (ax (ai (ad (aJ bK F cP F F) (ad (aO 0 eC F F F F) (ae (aC (ai (ad (bo F F) (ad (ar (cD F) (decide_eq_false (by decide))) (ae (aL F (ai (ad (bo F F) (ad (ar (cD F) (decide_eq_false (by decide))) ?_))))))))))))))
 refine ae (aL F (ai (ad (bo F F) (ad (ar (cD F) (decide_eq_true (by decide))) (ae ?_)))))
 refine bg F ?_
 refine ai (ah F (ad (cN 0 bK F bQ F F F) ?_))
 have vC:=fun(w1:World) (hI:Inv w [oI z2 72 [v8 3,v8 p,v8 n,vI 0,vI 0],oI z1 25 [(vI 0),(vI 0),nS,nS]] w1)=>(haveI:=dp hI;Io w1 cb eb en ec vs B (hI.sl eu) gm iP hB 1 3 p n 0 0 (by omega) (by omega) (by omega))
 refine dP F (fA Iq (dq.pure vC) F (fun z _=>⟨F,z⟩) ?_)
 clear vC
 rintro vr O' ⟨N,rfl,M,kr,rfl,rfl,PG,PH⟩
 refine aj F (bj (vs:=(dC M kr)) 2 aX F F F F ?_)
 refine ae (az (ao ?_))
 refine bf (i:=2) Tryz.results72 cy F aX F F F ?_
 exact⟨[dI 56 4 3 M kr],(by exact Sub.k .z),M,kr,F,F,PG,PH⟩
theorem FO (w:World) [cG Tryz.prog w] (cb:Nat) (eb:Option Addr) (en ec vs B:Nat) (eu:Sl w (aD cb) [.slice eb en ec,vI (vs:Int),vI (B:Int)]) (gm:vs≤6) (iP:1≤B) (hB:B≤4096) (e:List dE) (hE:Sl w eb (aT e)) (kT:en=e.length) (i:Nat) (a:Rx) (j:Nat) (hp:e[i]? =some ⟨8,0,0,(j:Int),0⟩) (W_: ∀(w1:World) [cG Tryz.prog w1],Inv w [] w1→dq Tryz.prog w1 (.iface 163 (.agg #[])) 72 [(du (aD cb) 0),vN j] [] (xY vs B a) (¬mx vs a B)):
  dq Tryz.prog w (.iface 163 (.agg #[])) 72 [(du (aD cb) 0),vN i] [] (xY vs B (.star a)) (¬mx vs (.star a) B):=by
 refine dA func72 F ntmps72 F ?_
 obtain⟨hi,_⟩:=kF hp
 refine ai (aj F (aR aX F (fun z1=>?_)))
 refine ae (ai (ah F (ad (aP F) (ad (bG kR F eT F F (aB eu) (by first|omega|(simp;done)|(simp;omega)|(simp_all;done)|(simp_all;omega))) (ad (bS cp F F (aB eu) F) (ah F (ad (db (i:=i) cp bQ F F (aB hE) (by omega) (by rw[bF];omega)) (ad (dT (vs:=[v8 8,v8 0,v8 0,vN j,vI 0]) bK F bQ F F (Nat.succ_pos _) (aB hE) (fp hp)) (aj F (aR bQ F (fun z2=>?_)))))))))))
 refine aj F (bj (vs:=[v8 8,v8 0,v8 0,vN j,vI 0]) 0 bQ F F F F ?_)
 refine ae (ax (ai (ad (aJ bK F cP F F) (ad (aO 0 eC F F F F) (ae (aC (ai (ad (bo F F) (ad (ar (cD F) (decide_eq_false (by decide))) (ae (aL F (ai (ad (bo F F) (ad (ar (cD F) (decide_eq_false (by decide))) ?_))))))))))))))
 refine ae (aL F (ai (ad (bo F F) (ad (ar (cD F) (decide_eq_false (by decide))) (ae (aL F (ai (ad (bo F F) (ad (ar (cD F) (decide_eq_false (by decide))) ?_)))))))))
 refine ae (aL F (ai (ad (bo F F) (ad (ar (cD F) (decide_eq_true (by decide))) (ae ?_)))))
 refine bg F ?_
 refine ai (ah F (ah F (ad (aJ bK F aM F F) (ad (aO 0 dh F F F F) ?_))))
 have Hz:=fun(w1:World) (hI:Inv w [oI z2 72 [v8 8,v8 0,v8 0,vN j,vI 0],oI z1 25 [(vI 0),(vI 0),nS,nS]] w1)=>(haveI:=dp hI;W_ w1 hI.lY)
 refine dP F (fA xZ (dq.pure Hz) F (fun z _=>⟨F,fun h9=>z h9.1⟩) ?_)
 clear Hz
 rintro vr O' ⟨N,rfl,MA,kA,rfl,rfl,B9,TL⟩
 have Nw:=jI B9 hB
 have AZ:=fun(w1:World) (hI:Inv w [dI 56 4 3 MA kA,oI z2 72 [v8 8,v8 0,v8 0,vN j,vI 0],oI z1 25 [(vI 0),(vI 0),nS,nS]] w1)=>(haveI:=dp hI;TH w1 cb eb en ec vs B (hI.sl eu) gm iP hB MA kA (hI.at (k:=kA) (mG 0 F)) B9.valid B9.vars)
 refine dP F (fA PI (dq.pure AZ) F (fun z _=>⟨F,fun h9=>z (by rw[Nw];exact h9.2)⟩) ?_)
 clear AZ
 rintro vr O' ⟨N,rfl,M,kr,rfl,rfl,TM,TN⟩
 have PG:fm (vs:Int) B M (jz (.star a)):=TM.to fun w9 h9=>tI (fun u hu=>B9.h_ u hu) h9
 have PH:mx vs (.star a) B:=⟨TL,by rw[←Nw];exact TN⟩
 refine aj F (bj (vs:=(dC M kr)) 3 aX F F F F ?_)
 refine ae (az (ao ?_))
 refine bf (i:=3) Tryz.results72 cy F aX F F F ?_
 exact⟨[dI 56 4 3 M kr],(by exact Sub.k .z),M,kr,F,F,PG,PH⟩
theorem Ir (w:World) [cG Tryz.prog w] (cb:Nat) (eb:Option Addr) (en ec vs B:Nat) (eu:Sl w (aD cb) [.slice eb en ec,vI (vs:Int),vI (B:Int)]) (gm:vs≤6) (iP:1≤B) (hB:B≤4096) (e:List dE) (hE:Sl w eb (aT e)) (kT:en=e.length) (i:Nat) (a b:Rx) (j k:Nat) (hp:e[i]? =some ⟨4,0,0,(j:Int),(k:Int)⟩) (W_: ∀(w1:World) [cG Tryz.prog w1],Inv w [] w1→dq Tryz.prog w1 (.iface 163 (.agg #[])) 72 [(du (aD cb) 0),vN j] [] (xY vs B a) (¬mx vs a B)) (hpB: ∀(w1:World) [cG Tryz.prog w1],Inv w [] w1→dq Tryz.prog w1 (.iface 163 (.agg #[])) 72 [(du (aD cb) 0),vN k] [] (xY vs B b) (¬mx vs b B)):
  dq Tryz.prog w (.iface 163 (.agg #[])) 72 [(du (aD cb) 0),vN i] [] (xY vs B (.kQ a b)) (¬mx vs (.kQ a b) B):=by
 refine dA func72 F ntmps72 F ?_
 obtain⟨hi,_⟩:=kF hp
 refine ai (aj F (aR aX F (fun z1=>?_)))
 refine ae (ai (ah F (ad (aP F) (ad (bG kR F eT F F (aB eu) (by first|omega|(simp;done)|(simp;omega)|(simp_all;done)|(simp_all;omega))) (ad (bS cp F F (aB eu) F) (ah F (ad (db (i:=i) cp bQ F F (aB hE) (by omega) (by rw[bF];omega)) (ad (dT (vs:=[v8 4,v8 0,v8 0,vN j,vN k]) bK F bQ F F (Nat.succ_pos _) (aB hE) (fp hp)) (aj F (aR bQ F (fun z2=>?_)))))))))))
 refine aj F (bj (vs:=[v8 4,v8 0,v8 0,vN j,vN k]) 0 bQ F F F F ?_)
 refine ae (ax (ai (ad (aJ bK F cP F F) (ad (aO 0 eC F F F F) (ae (aC (ai (ad (bo F F) (ad (ar (cD F) (decide_eq_false (by decide))) (ae (aL F (ai (ad (bo F F) (ad (ar (cD F) (decide_eq_false (by decide))) ?_))))))))))))))
 refine ae (aL F (ai (ad (bo F F) (ad (ar (cD F) (decide_eq_false (by decide))) (ae (aL F (ai (ad (bo F F) (ad (ar (cD F) (decide_eq_false (by decide))) ?_)))))))))
 refine ae (aL F (ai (ad (bo F F) (ad (ar (cD F) (decide_eq_false (by decide))) (ae (aL F (ai (ad (bo F F) (ad (ar (cD F) (decide_eq_false (by decide))) ?_)))))))))
 refine ae (aL F (ai (ad (bo F F) (ad (ar (cD F) (decide_eq_false (by decide))) (ae (aL F (aq (ax ?_))))))))
 refine dO [(0,0),(1,0),(2,0),(3,0),(5,0),(6,0),(7,0),(4,1),(8,1),(9,2),(10,2)] ?_
 refine am F (aF F) (am F (aF F) (am F (aJ bK F aM F F) (am F (aO 0 dh F F F F) (am F (aF F) (am F (aJ bK F aM F F) (am F (aO 0 dh F F F F) ?_))))))
 have TP:=fun(w1:World) (hI:Inv w [oI z2 72 [v8 4,v8 0,v8 0,vN j,vN k],oI z1 25 [(vI 0),(vI 0),nS,nS]] w1)=>(haveI:=dp hI;W_ w1 hI.lY)
 refine lR F F (fA xZ (dq.pure TP) F (fun z _=>⟨F,fun h9=>z h9.1⟩) ?_)
 clear TP
 rintro vr O' ⟨N,rfl,MA,kA,rfl,rfl,B9,TL⟩
 refine⟨by exact Sub.d (.k (.k .z)),?_⟩
 have Nw:=jI B9 hB
 have TQ:=fun(w1:World) (hI:Inv w [dI 56 4 3 MA kA,oI z2 72 [v8 4,v8 0,v8 0,vN j,vN k],oI z1 25 [(vI 0),(vI 0),nS,nS]] w1)=>(haveI:=dp hI;hpB w1 hI.lY)
 refine lR F F (fA xZ (dq.pure TQ) F (fun z _=>⟨F,fun h9=>z h9.2.1⟩) ?_)
 clear TQ
 rintro vr O' ⟨N,rfl,MB,kB,rfl,rfl,FL,PJ⟩
 refine⟨by exact Sub.d (.d (.k (.k .z))),?_⟩
 have YP:=jI FL hB
 have Is:=fun(w1:World) (hI:Inv w [dI 56 4 3 MB kB,dI 56 4 3 MA kA,oI z2 72 [v8 4,v8 0,v8 0,vN j,vN k],oI z1 25 [(vI 0),(vI 0),nS,nS]] w1)=>(haveI:=dp hI;TD w1 cb eb en ec vs B (hI.sl eu) gm iP hB MA kA (hI.at (k:=kA) (mG 1 F)) B9.valid B9.vars MB kB (hI.at (k:=kB) (mG 0 F)) FL.valid (by rw[B9.vars,FL.vars]))
 refine C2 F F (fA It (dq.pure Is) F (fun z _=>⟨F,fun h9=>z (by rw[Nw,YP];exact h9.2.2)⟩) ?_)
 clear Is
 rintro vr O' ⟨N,rfl,M,kr,rfl,rfl,TM,TN⟩
 have PG:fm (vs:Int) B M (jz (.kQ a b)):=TM.to fun w9 h9=>qQ (fun u hu=>B9.h_ u hu) (fun u hu=>FL.h_ u hu) h9
 have PH:mx vs (.kQ a b) B:=⟨TL,PJ,by rw[←Nw,←YP];exact TN⟩
 refine bq F F (bj (vs:=(dC M kr)) 4 aX F F F F ?_)
 refine bu ?_
 refine az (ao ?_)
 refine bf (i:=4) Tryz.results72 cy F aX F F F ?_
 exact⟨[dI 56 4 3 M kr],(by exact Sub.k .z),M,kr,F,F,PG,PH⟩
structure VC (cb:Nat) (eb:Option Addr) (en ec vs B:Nat) (e:List dE):Prop where
 nn: ∀(w:World) [cG Tryz.prog w],vs≤6→1≤B→B≤4096→Sl w (aD cb) [.slice eb en ec,vI (vs:Int),vI (B:Int)]→Sl w eb (aT e)→ ∀(i:Nat),e[i]? =some ⟨1,0,0,0,0⟩→dq Tryz.prog w (.iface 163 (.agg #[])) 72 [(du (aD cb) 0),vN i] [] (xY vs B Rx.none) (¬mx vs Rx.none B)
 nt: ∀(w:World) [cG Tryz.prog w],vs≤6→1≤B→B≤4096→Sl w (aD cb) [.slice eb en ec,vI (vs:Int),vI (B:Int)]→Sl w eb (aT e)→ ∀(i:Nat) (a:Rx) (j:Nat),e[i]? =some ⟨7,0,0,(j:Int),0⟩→(∀(w1:World) [cG Tryz.prog w1],Inv w [] w1→dq Tryz.prog w1 (.iface 163 (.agg #[])) 72 [(du (aD cb) 0),vN j] [] (xY vs B a) (¬mx vs a B))→dq Tryz.prog w (.iface 163 (.agg #[])) 72 [(du (aD cb) 0),vN i] [] (xY vs B (.not a)) (¬mx vs (.not a) B)
 al: ∀(w:World) [cG Tryz.prog w],vs≤6→1≤B→B≤4096→Sl w (aD cb) [.slice eb en ec,vI (vs:Int),vI (B:Int)]→Sl w eb (aT e)→ ∀(i:Nat) (a b:Rx) (j k:Nat),e[i]? =some ⟨5,0,0,(j:Int),(k:Int)⟩→(∀(w1:World) [cG Tryz.prog w1],Inv w [] w1→dq Tryz.prog w1 (.iface 163 (.agg #[])) 72 [(du (aD cb) 0),vN j] [] (xY vs B a) (¬mx vs a B))→(∀(w1:World) [cG Tryz.prog w1],Inv w [] w1→dq Tryz.prog w1 (.iface 163 (.agg #[])) 72 [(du (aD cb) 0),vN k] [] (xY vs B b) (¬mx vs b B))→dq Tryz.prog w (.iface 163 (.agg #[])) 72 [(du (aD cb) 0),vN i] [] (xY vs B (.uE a b)) (¬mx vs (.uE a b) B)
 an: ∀(w:World) [cG Tryz.prog w],vs≤6→1≤B→B≤4096→Sl w (aD cb) [.slice eb en ec,vI (vs:Int),vI (B:Int)]→Sl w eb (aT e)→ ∀(i:Nat) (a b:Rx) (j k:Nat),e[i]? =some ⟨6,0,0,(j:Int),(k:Int)⟩→(∀(w1:World) [cG Tryz.prog w1],Inv w [] w1→dq Tryz.prog w1 (.iface 163 (.agg #[])) 72 [(du (aD cb) 0),vN j] [] (xY vs B a) (¬mx vs a B))→(∀(w1:World) [cG Tryz.prog w1],Inv w [] w1→dq Tryz.prog w1 (.iface 163 (.agg #[])) 72 [(du (aD cb) 0),vN k] [] (xY vs B b) (¬mx vs b B))→dq Tryz.prog w (.iface 163 (.agg #[])) 72 [(du (aD cb) 0),vN i] [] (xY vs B (.and a b)) (¬mx vs (.and a b) B)
def C3 (e:List dE):Bool:=e.all fun x=>!(x.op==1||x.op==5||x.op==6||x.op==7||x.op==10)
theorem ln {e:List dE} (h:C3 e=true) {i:Nat} {x:dE} (hx:e[i]? =some x):x.op≠1∧x.op≠5∧x.op≠6∧x.op≠7∧x.op≠10:=by
 have:=List.all_eq_true.1 h _ (List.mem_of_getElem? hx)
 simpa[and_assoc]using this
theorem yZ {cb:Nat} {eb:Option Addr} {en ec vs B:Nat} {e:List dE} (h:C3 e=true):VC cb eb en ec vs B e:=
 ⟨fun _ _ _ _ _ _ _ i hp=>absurd F (ln h hp).1,fun _ _ _ _ _ _ _ i _ _ hp=>absurd F (ln h hp).2.2.2.1,fun _ _ _ _ _ _ _ i _ _ _ _ hp=>absurd F (ln h hp).2.1,fun _ _ _ _ _ _ _ i _ _ _ _ hp=>absurd F (ln h hp).2.2.1⟩
theorem iD {cb:Nat} {eb:Option Addr} {en ec vs B:Nat} {e:List dE} (Ek:VC cb eb en ec vs B e) (gm:vs≤6) (iP:1≤B) (hB:B≤4096) (kT:en=e.length): ∀(t:Rx) (hp:t.plain=true) (i:Nat),B_ e t i→ ∀(w:World) [cG Tryz.prog w],Sl w (aD cb) [.slice eb en ec,vI (vs:Int),vI (B:Int)]→Sl w eb (aT e)→dq Tryz.prog w (.iface 163 (.agg #[])) 72 [(du (aD cb) 0),vN i] [] (xY vs B t) (¬mx vs t B)
 | .none,hp,i,h,w,_,eu,hE=>Ek.nn w gm iP hB eu hE i h
 | .empty,hp,i,h,w,_,eu,hE=>C1 w cb eb en ec vs B eu gm iP hB e hE kT i h
 | .letter p n,hp,i,⟨h,h1,h2⟩,w,_,eu,hE=>Bg w cb eb en ec vs B eu gm iP hB e hE kT i p n h1 h2 h
 | .not a,hp,i,⟨j,h,ha⟩,w,_,eu,hE=>Ek.nt w gm iP hB eu hE i a j h (fun w1 _ hI=>iD Ek gm iP hB kT a (by simp only[Rx.plain,Bool.and_eq_true]at hp;exact hp) _ ha w1 (hI.sl eu) (hI.sl hE))
 | .star a,hp,i,⟨j,h,ha⟩,w,_,eu,hE=>FO w cb eb en ec vs B eu gm iP hB e hE kT i a j h (fun w1 _ hI=>iD Ek gm iP hB kT a (by simp only[Rx.plain,Bool.and_eq_true]at hp;exact hp) _ ha w1 (hI.sl eu) (hI.sl hE))
 | .kQ a b,hp,i,⟨j,k,h,ha,hb⟩,w,_,eu,hE=>Ir w cb eb en ec vs B eu gm iP hB e hE kT i a b j k h (fun w1 _ hI=>iD Ek gm iP hB kT a (by simp only[Rx.plain,Bool.and_eq_true]at hp;exact hp.1) _ ha w1 (hI.sl eu) (hI.sl hE)) (fun w1 _ hI=>iD Ek gm iP hB kT b (by simp only[Rx.plain,Bool.and_eq_true]at hp;exact hp.2) _ hb w1 (hI.sl eu) (hI.sl hE))
 | .uE a b,hp,i,⟨j,k,h,ha,hb⟩,w,_,eu,hE=>Ek.al w gm iP hB eu hE i a b j k h (fun w1 _ hI=>iD Ek gm iP hB kT a (by simp only[Rx.plain,Bool.and_eq_true]at hp;exact hp.1) _ ha w1 (hI.sl eu) (hI.sl hE)) (fun w1 _ hI=>iD Ek gm iP hB kT b (by simp only[Rx.plain,Bool.and_eq_true]at hp;exact hp.2) _ hb w1 (hI.sl eu) (hI.sl hE))
 | .and a b,hp,i,⟨j,k,h,ha,hb⟩,w,_,eu,hE=>Ek.an w gm iP hB eu hE i a b j k h (fun w1 _ hI=>iD Ek gm iP hB kT a (by simp only[Rx.plain,Bool.and_eq_true]at hp;exact hp.1) _ ha w1 (hI.sl eu) (hI.sl hE)) (fun w1 _ hI=>iD Ek gm iP hB kT b (by simp only[Rx.plain,Bool.and_eq_true]at hp;exact hp.2) _ hb w1 (hI.sl eu) (hI.sl hE))
 | .ahead a,hp,_,_,_,_,_,_=>absurd hp (by simp[Rx.plain])
 | .behind a,hp,_,_,_,_,_,_=>absurd hp (by simp[Rx.plain])
end Go.Proofs.YtgdbfideeeegmaaGreatDoor

