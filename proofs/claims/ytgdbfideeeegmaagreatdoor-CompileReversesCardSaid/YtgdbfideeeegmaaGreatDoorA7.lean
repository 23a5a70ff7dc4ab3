/- Contracts of functions of the program, and what they answer. Conditions: those each theorem names. -/
import Derived.Test.YtgdbfideeeegmaaGreatDoorA2
import Derived.Test.YtgdbfideeeegmaaGreatDoorA6
import Derived.Test.YtgdbfideeeegmaaGreatDoorA5
import Derived.Test.YtgdbfideeeegmaaGreatDoorA3
import Derived.Test.YtgdbfideeeegmaaGreatDoorA1
import Derived.Shelf.Slices.Clone
import Derived.Lib.RowBridge
import Derived.Test.YtgdbfideeeegmaaGreatDoorProg
import Derived.Test.YtgdbfideeeegmaaGreatDoorA4
import Derived.Test.YtgdbfideeeegmaaGreatDoorA0
set_option linter.unusedSectionVars false
set_option linter.unusedSimpArgs false
set_option linter.unusedVariables false
set_option linter.unnecessarySimpa false
set_option maxHeartbeats 8000000
set_option maxRecDepth 20000
namespace Go.Proofs.YtgdbfideeeegmaaGreatDoor
open Go.Lx Go.RowKit _root_.Go.Proofs.Tryz
theorem Tp (w:World) [dE Tryz.prog w] (x:dK) (v:Nat) (hp:x.p<256) (hn:x.n<256) (hv:v≤6):
  cH Tryz.prog 127 [x.ag,vN v] w fun r N=>r=vI (gf v x:Int)∧N=[]:=by
 refine aF func127 F ntmps127 F ?_
 have hor:(x.p|||x.n)<2^8:=Nat.or_lt_two_pow hp hn
 refine ai (ao F (dG (cs:=x.cl) F F (fun z1=>?_)))
 refine aj F (ae ?_)
 let eP:Value:=vN (dH x.op)
 refine gz (fun ρ O=> ∃(m zo:Nat),O=[gT m,oI zo 96 [eP,str (iq x.op).1,str (iq x.op).2.1,str (iq x.op).2.2],oI z1 72 x.cl]∧dv [(0,x.ag),(1,vN v),(2,(.pointer (aD z1))),(4,vI 0),(5,(.pointer (aD zo)))] ρ) ?_ ?_
 ·refine oe [oI z1 72 x.cl] 6 mixed F (by exact Sub.rf) (fun _ _ _ _ h=>h) ?_
  refine cB 1 F (by kernel_rfl) (a_ bU F du F F) ?_
  refine cB 2 F (by kernel_rfl) (bi 0 fA F F F F) ?_
  have JS:=fun(w1:World) (hI:Inv w [oI z1 72 x.cl] w1)=>(haveI:=et hI;jP w1)
  refine bg [0,4] (by kernel_rfl) F ⟨⟨_,F,F,bl vo (aX JS) F ?_⟩,⟨_,F,F,bs jZ F (fun zo=>⟨by exact Sub.d (.k .z),?_⟩)⟩,trivial⟩
  ·clear JS
   rintro vr O' ⟨N,rfl,m,rfl,rfl⟩
   refine⟨by exact Sub.d (.k .z),?_⟩
   let gC:Value:=(.agg #[eP,str (iq x.op).1,str (iq x.op).2.1,str (iq x.op).2.2])
   refine bg [3,4] (by kernel_rfl) F ⟨⟨_,F,F,d_ F F (bK (kY (a:=x.op) rB jZ (gh.u8 fA) F F (mG 0 F)) (v':=gC) (mK x.op)) ⟨by exact Sub.d (.k .z),?_⟩⟩,⟨_,F,F,bs jZ F (fun zo=>⟨by exact Sub.d (.d (.k .z)),?_⟩)⟩,trivial⟩
   ·refine bg [4] (by kernel_rfl) F ⟨⟨_,F,F,bs jZ F (fun zo=>⟨by exact Sub.d (.d (.k .z)),?_⟩)⟩,trivial⟩
    refine bg [5] (by kernel_rfl) F ⟨⟨_,F,F,bN (vs:=[eP,str (iq x.op).1,str (iq x.op).2.1,str (iq x.op).2.2]) 0 jZ F F F F ⟨by exact Sub.d (.d (.k .z)),?_⟩⟩,trivial⟩
    exact dw (by kernel_rfl) ⟨m,zo,F,(.of F)⟩ (by exact Sub.ew [oI zo 96 [eP,str (iq x.op).1,str (iq x.op).2.1,str (iq x.op).2.2]] _ (.k (.k .z)))
   refine bg [3] (by kernel_rfl) F ⟨⟨_,F,F,d_ F F (bK (kY (a:=x.op) rB jZ (gh.u8 fA) F F (mG 1 F)) (v':=gC) (mK x.op)) ⟨by exact Sub.d (.d (.k .z)),?_⟩⟩,trivial⟩
   refine bg [5] (by kernel_rfl) F ⟨⟨_,F,F,bN (vs:=[eP,str (iq x.op).1,str (iq x.op).2.1,str (iq x.op).2.2]) 0 jZ F F F F ⟨by exact Sub.d (.d (.k .z)),?_⟩⟩,trivial⟩
   exact dw (by kernel_rfl) ⟨m,zo,F,(.of F)⟩ (by exact Sub.ew [oI zo 96 [eP,str (iq x.op).1,str (iq x.op).2.1,str (iq x.op).2.2]] _ (.k (.k .z)))
  refine bg [0] (by kernel_rfl) F ⟨⟨_,F,F,bl vo (aW jP) F ?_⟩,trivial⟩
  rintro vr O' ⟨N,rfl,m,rfl,rfl⟩
  refine⟨by exact Sub.d (.d (.k .z)),?_⟩
  refine bg [3] (by kernel_rfl) F ⟨⟨_,F,F,d_ F F (bK (kY (a:=x.op) rB jZ (gh.u8 fA) F F (mG 0 F)) (v':=(.agg #[eP,str (iq x.op).1,str (iq x.op).2.1,str (iq x.op).2.2])) (mK x.op)) ⟨by exact Sub.d (.d (.k .z)),?_⟩⟩,trivial⟩
  refine bg [5] (by kernel_rfl) F ⟨⟨_,F,F,bN (vs:=[eP,str (iq x.op).1,str (iq x.op).2.1,str (iq x.op).2.2]) 1 jZ F F F F ⟨by exact Sub.d (.d (.k .z)),?_⟩⟩,trivial⟩
  exact dw (by kernel_rfl) ⟨m,zo,F,(.of F)⟩ (by exact Sub.rf)
 rintro ρ O ⟨m,zo,rfl,hH⟩
 obtain⟨gF,rfl⟩:=hH.elim
 clear hH
 refine aM (aU (ai (ad (a_ bU F du F F) (ad (bi 2 fA F F F F) (ad (cT F F) ?_)))))
 by_cases h1:((x.op:Nat):Int)<1
 ·refine ad (aB (aN F) (ay h1)) ?_
  refine aV F F (aV F F (aV F F (ad (cA F F) (aj F (ae ?_)))))
  refine bO F ?_
  refine ai (aj F (ae (aK (aA ?_))))
  refine aS (vI 6) Tryz.results127 F ?_
  exact⟨[],Sub.z,by unfold gf;rw[aO (by omega)];rfl,F⟩
 refine ad (aB (aN F) (ak h1)) (aG F F (a_ bU F du F F) (aG F F (bi 2 fA F F F F) (aG F F (iy F F) (ad (cg F F) (aj F (ae (aP F (fun hc=>?_) (fun hc=>?_))))))))
 ·have lG:x.op>10:=by omega
  refine ai (aj F (ae (aK (aA ?_))))
  refine aS (vI 6) Tryz.results127 F ?_
  exact⟨[],Sub.z,by unfold gf;rw[aO (by omega)];rfl,F⟩
 have vg: ¬x.op>10:=by omega
 refine aM (ai (ad (a_ bU F du F F) (ad (bi 2 fA F F F F) (ad (dQ F F) ?_))))
 by_cases h3:((x.op:Nat):Int)≠3
 ·refine ad (aB (aN F) (ay h3)) ?_
  refine aG F F (a_ bU F du F F) (aG F F (bi 2 fA F F F F) (aG F F (a_ bU F du F F) (aG F F (bi 2 fA F F F F) (aG F F (RD (a:=x.p) (b:=x.n) .u8 F F (by simp only[IntKind.bits];omega) (by simp only[IntKind.bits];omega)) (aG F F (dQ F F) (ad (cA F F) (aj F (ae (aP F (fun hc=>?_) (fun hc=>?_))))))))))
  ·have Qn:x.p|||x.n≠0:=by omega
   refine aE (aP F (fun hc=>?_) (fun hc=>?_))
   ·have Qn:x.p|||x.n≠0:=by omega
    refine ai (aj F (ae (aK (aA ?_))))
    refine aS (vI 2) Tryz.results127 F ?_
    exact⟨[],Sub.z,by unfold gf;rw[az (by omega),aO (by omega)];rfl,F⟩
   have Qo: ¬x.p|||x.n≠0:=by omega
   refine ai (ad (a_ bU F du F F) (ad (bi 2 fA F F F F) (ad (bJ F F) (aj F (ae (aP F (fun hc=>?_) (fun hc=>?_)))))))
   ·have oB:x.op=3:=by omega
    refine ai (ad (a_ bU F du F F) (ad (bi 2 fA F F F F) (ad (a_ bU F du F F) (ad (bi 2 fA F F F F) (ad (cE (cs:=[v8 x.p,v8 x.n]) jn gj (by kernel_rfl)) (ah F (ao F (bl ns (aX fun w1 hI=>(haveI:=et hI;ir w1 x.p x.n v hp hn hv)) F ?_))))))))
    rintro vr O' ⟨N,rfl,rfl,rfl⟩
    refine aj F (ae (aK (aA ?_)))
    refine aS (vI (pj v x.p x.n:Int)) Tryz.results127 F ?_
    exact⟨[],Sub.z,by unfold gf;rw[az (by omega),az (by omega),aO (by omega)],F⟩
   have oC: ¬x.op=3:=by omega
   refine aE (ai (aj F (ae (aK (aA ?_)))))
   refine aS (vI 0) Tryz.results127 F ?_
   exact⟨[],Sub.z,by unfold gf;rw[az (by omega),az (by omega),az (by omega)];rfl,F⟩
  have Qo: ¬x.p|||x.n≠0:=by omega
  refine ai (ad (a_ vS F bj F F) (ad (bi 1 dP F F F F) (ad (cT F F) ?_)))
  by_cases yo:((dH x.op:Nat):Int)<1
  ·refine ad (aB (aN F) (ay yo)) ?_
   refine aG F F (a_ bU F bj F F) (aG F F (bi 2 dP F F F F) (aG F F (dQ F F) (ad (cA F F) (aj F (ae (aP F (fun hc=>?_) (fun hc=>?_)))))))
   ·refine aE ?_
    refine aP F (fun hc=>?_) (fun hc=>?_)
    ·refine aM ?_
     refine a7 (aj F (ae (aK (aA ?_))))
     refine aS (vI 2) Tryz.results127 F ?_
     exact⟨[],Sub.z,by unfold gf;rw[az (by omega),aO (by omega)];rfl,F⟩
    refine ai (ad (a_ bU F du F F) (ad (bi 2 fA F F F F) (ad (bJ F F) (aj F (ae (aP F (fun hc=>?_) (fun hc=>?_)))))))
    ·have oB:x.op=3:=by omega
     refine ai (ad (a_ bU F du F F) (ad (bi 2 fA F F F F) (ad (a_ bU F du F F) (ad (bi 2 fA F F F F) (ad (cE (cs:=[v8 x.p,v8 x.n]) jn gj (by kernel_rfl)) (ah F (ao F (bl ns (aX fun w1 hI=>(haveI:=et hI;ir w1 x.p x.n v hp hn hv)) F ?_))))))))
     rintro vr O' ⟨N,rfl,rfl,rfl⟩
     refine aj F (ae (aK (aA ?_)))
     refine aS (vI (pj v x.p x.n:Int)) Tryz.results127 F ?_
     exact⟨[],Sub.z,by unfold gf;rw[az (by omega),az (by omega),aO (by omega)],F⟩
    have oC: ¬x.op=3:=by omega
    refine aE (ai (aj F (ae (aK (aA ?_)))))
    refine aS (vI 0) Tryz.results127 F ?_
    exact⟨[],Sub.z,by unfold gf;rw[az (by omega),az (by omega),az (by omega)];rfl,F⟩
   refine a7 (ad (a_ vS F bj F F) (ad (bi 1 dP F F F F) (ad (cT F F) ?_)))
   by_cases n6:((dH x.op:Nat):Int)<2
   ·refine ad (aB (aN F) (ay n6)) ?_
    refine aG F F (a_ bU F bj F F) (aG F F (bi 2 dP F F F F) (aG F F (dQ F F) (ad (cA F F) (aj F (ae (aP F (fun hc=>?_) (fun hc=>?_)))))))
    ·refine aM ?_
     refine a7 (aj F (ae (aK (aA ?_))))
     refine aS (vI 2) Tryz.results127 F ?_
     exact⟨[],Sub.z,by unfold gf;rw[az (by omega),aO (by omega)];rfl,F⟩
    refine ai (ad (a_ bU F du F F) (ad (bi 2 fA F F F F) (ad (bJ F F) (aj F (ae (aP F (fun hc=>?_) (fun hc=>?_)))))))
    ·have oB:x.op=3:=by omega
     refine ai (ad (a_ bU F du F F) (ad (bi 2 fA F F F F) (ad (a_ bU F du F F) (ad (bi 2 fA F F F F) (ad (cE (cs:=[v8 x.p,v8 x.n]) jn gj (by kernel_rfl)) (ah F (ao F (bl ns (aX fun w1 hI=>(haveI:=et hI;ir w1 x.p x.n v hp hn hv)) F ?_))))))))
     rintro vr O' ⟨N,rfl,rfl,rfl⟩
     refine aj F (ae (aK (aA ?_)))
     refine aS (vI (pj v x.p x.n:Int)) Tryz.results127 F ?_
     exact⟨[],Sub.z,by unfold gf;rw[az (by omega),az (by omega),aO (by omega)],F⟩
    have oC: ¬x.op=3:=by omega
    refine aE (ai (aj F (ae (aK (aA ?_)))))
    refine aS (vI 0) Tryz.results127 F ?_
    exact⟨[],Sub.z,by unfold gf;rw[az (by omega),az (by omega),az (by omega)];rfl,F⟩
   refine ad (aB (aN F) (ak n6)) (aV F F (aV F F (aV F F (ad (cg F F) (aj F (ae (a6 F (ai ?_))))))))
   refine ad (a_ bU F du F F) (ad (bi 2 fA F F F F) (ad (bJ F F) (aj F (ae (aP F (fun hc=>?_) (fun hc=>?_))))))
   ·have oB:x.op=3:=by omega
    refine ai (ad (a_ bU F du F F) (ad (bi 2 fA F F F F) (ad (a_ bU F du F F) (ad (bi 2 fA F F F F) (ad (cE (cs:=[v8 x.p,v8 x.n]) jn gj (by kernel_rfl)) (ah F (ao F (bl ns (aX fun w1 hI=>(haveI:=et hI;ir w1 x.p x.n v hp hn hv)) F ?_))))))))
    rintro vr O' ⟨N,rfl,rfl,rfl⟩
    refine aj F (ae (aK (aA ?_)))
    refine aS (vI (pj v x.p x.n:Int)) Tryz.results127 F ?_
    exact⟨[],Sub.z,by unfold gf;rw[az (by omega),az (by omega),aO (by omega)],F⟩
   have oC: ¬x.op=3:=by omega
   refine aE (ai (aj F (ae (aK (aA ?_)))))
   refine aS (vI 0) Tryz.results127 F ?_
   exact⟨[],Sub.z,by unfold gf;rw[az (by omega),az (by omega),az (by omega)];rfl,F⟩
  refine ad (aB (aN F) (ak yo)) (aV F F (aV F F (aV F F (ad (cg F F) (aj F (ae (a6 F (a7 ?_))))))))
  refine ad (a_ vS F bj F F) (ad (bi 1 dP F F F F) (ad (cT F F) ?_))
  by_cases n6:((dH x.op:Nat):Int)<2
  ·refine ad (aB (aN F) (ay n6)) ?_
   refine aG F F (a_ bU F bj F F) (aG F F (bi 2 dP F F F F) (aG F F (dQ F F) (ad (cA F F) (aj F (ae (aP F (fun hc=>?_) (fun hc=>?_)))))))
   ·refine aM ?_
    refine a7 (aj F (ae (aK (aA ?_))))
    refine aS (vI 2) Tryz.results127 F ?_
    exact⟨[],Sub.z,by unfold gf;rw[az (by omega),aO (by omega)];rfl,F⟩
   refine ai (ad (a_ bU F du F F) (ad (bi 2 fA F F F F) (ad (bJ F F) (aj F (ae (aP F (fun hc=>?_) (fun hc=>?_)))))))
   ·have oB:x.op=3:=by omega
    refine ai (ad (a_ bU F du F F) (ad (bi 2 fA F F F F) (ad (a_ bU F du F F) (ad (bi 2 fA F F F F) (ad (cE (cs:=[v8 x.p,v8 x.n]) jn gj (by kernel_rfl)) (ah F (ao F (bl ns (aX fun w1 hI=>(haveI:=et hI;ir w1 x.p x.n v hp hn hv)) F ?_))))))))
    rintro vr O' ⟨N,rfl,rfl,rfl⟩
    refine aj F (ae (aK (aA ?_)))
    refine aS (vI (pj v x.p x.n:Int)) Tryz.results127 F ?_
    exact⟨[],Sub.z,by unfold gf;rw[az (by omega),az (by omega),aO (by omega)],F⟩
   have oC: ¬x.op=3:=by omega
   refine aE (ai (aj F (ae (aK (aA ?_)))))
   refine aS (vI 0) Tryz.results127 F ?_
   exact⟨[],Sub.z,by unfold gf;rw[az (by omega),az (by omega),az (by omega)];rfl,F⟩
  refine ad (aB (aN F) (ak n6)) (aV F F (aV F F (aV F F (ad (cg F F) (aj F (ae (a6 F (ai ?_))))))))
  refine ad (a_ bU F du F F) (ad (bi 2 fA F F F F) (ad (bJ F F) (aj F (ae (aP F (fun hc=>?_) (fun hc=>?_))))))
  ·have oB:x.op=3:=by omega
   refine ai (ad (a_ bU F du F F) (ad (bi 2 fA F F F F) (ad (a_ bU F du F F) (ad (bi 2 fA F F F F) (ad (cE (cs:=[v8 x.p,v8 x.n]) jn gj (by kernel_rfl)) (ah F (ao F (bl ns (aX fun w1 hI=>(haveI:=et hI;ir w1 x.p x.n v hp hn hv)) F ?_))))))))
   rintro vr O' ⟨N,rfl,rfl,rfl⟩
   refine aj F (ae (aK (aA ?_)))
   refine aS (vI (pj v x.p x.n:Int)) Tryz.results127 F ?_
   exact⟨[],Sub.z,by unfold gf;rw[az (by omega),az (by omega),aO (by omega)],F⟩
  have oC: ¬x.op=3:=by omega
  refine aE (ai (aj F (ae (aK (aA ?_)))))
  refine aS (vI 0) Tryz.results127 F ?_
  exact⟨[],Sub.z,by unfold gf;rw[az (by omega),az (by omega),az (by omega)];rfl,F⟩
 refine ad (aB (aN F) (ak h3)) (aV F F (aV F F (aV F F (aV F F (aV F F (aV F F (ad (cg F F) (aj F ?_))))))))
 refine ae (a6 F (ai (ad (a_ vS F bj F F) (ad (bi 1 dP F F F F) (ad (cT F F) ?_)))))
 by_cases yo:((dH x.op:Nat):Int)<1
 ·refine ad (aB (aN F) (ay yo)) ?_
  refine aG F F (a_ bU F bj F F) (aG F F (bi 2 dP F F F F) (aG F F (dQ F F) (ad (cA F F) (aj F (ae (aP F (fun hc=>?_) (fun hc=>?_)))))))
  ·refine aE ?_
   refine aP F (fun hc=>?_) (fun hc=>?_)
   ·refine aM ?_
    refine a7 (aj F (ae (aK (aA ?_))))
    refine aS (vI 2) Tryz.results127 F ?_
    exact⟨[],Sub.z,by unfold gf;rw[az (by omega),aO (by omega)];rfl,F⟩
   refine ai (ad (a_ bU F du F F) (ad (bi 2 fA F F F F) (ad (bJ F F) (aj F (ae (aP F (fun hc=>?_) (fun hc=>?_)))))))
   ·have oB:x.op=3:=by omega
    refine ai (ad (a_ bU F du F F) (ad (bi 2 fA F F F F) (ad (a_ bU F du F F) (ad (bi 2 fA F F F F) (ad (cE (cs:=[v8 x.p,v8 x.n]) jn gj (by kernel_rfl)) (ah F (ao F (bl ns (aX fun w1 hI=>(haveI:=et hI;ir w1 x.p x.n v hp hn hv)) F ?_))))))))
    rintro vr O' ⟨N,rfl,rfl,rfl⟩
    refine aj F (ae (aK (aA ?_)))
    refine aS (vI (pj v x.p x.n:Int)) Tryz.results127 F ?_
    exact⟨[],Sub.z,by unfold gf;rw[az (by omega),az (by omega),aO (by omega)],F⟩
   have oC: ¬x.op=3:=by omega
   refine aE (ai (aj F (ae (aK (aA ?_)))))
   refine aS (vI 0) Tryz.results127 F ?_
   exact⟨[],Sub.z,by unfold gf;rw[az (by omega),az (by omega),az (by omega)];rfl,F⟩
  refine a7 (ad (a_ vS F bj F F) (ad (bi 1 dP F F F F) (ad (cT F F) ?_)))
  by_cases n6:((dH x.op:Nat):Int)<2
  ·refine ad (aB (aN F) (ay n6)) ?_
   refine aG F F (a_ bU F bj F F) (aG F F (bi 2 dP F F F F) (aG F F (dQ F F) (ad (cA F F) (aj F (ae (aP F (fun hc=>?_) (fun hc=>?_)))))))
   ·refine aM ?_
    refine a7 (aj F (ae (aK (aA ?_))))
    refine aS (vI 2) Tryz.results127 F ?_
    exact⟨[],Sub.z,by unfold gf;rw[az (by omega),aO (by omega)];rfl,F⟩
   refine ai (ad (a_ bU F du F F) (ad (bi 2 fA F F F F) (ad (bJ F F) (aj F (ae (aP F (fun hc=>?_) (fun hc=>?_)))))))
   ·have oB:x.op=3:=by omega
    refine ai (ad (a_ bU F du F F) (ad (bi 2 fA F F F F) (ad (a_ bU F du F F) (ad (bi 2 fA F F F F) (ad (cE (cs:=[v8 x.p,v8 x.n]) jn gj (by kernel_rfl)) (ah F (ao F (bl ns (aX fun w1 hI=>(haveI:=et hI;ir w1 x.p x.n v hp hn hv)) F ?_))))))))
    rintro vr O' ⟨N,rfl,rfl,rfl⟩
    refine aj F (ae (aK (aA ?_)))
    refine aS (vI (pj v x.p x.n:Int)) Tryz.results127 F ?_
    exact⟨[],Sub.z,by unfold gf;rw[az (by omega),az (by omega),aO (by omega)],F⟩
   have oC: ¬x.op=3:=by omega
   refine aE (ai (aj F (ae (aK (aA ?_)))))
   refine aS (vI 0) Tryz.results127 F ?_
   exact⟨[],Sub.z,by unfold gf;rw[az (by omega),az (by omega),az (by omega)];rfl,F⟩
  refine ad (aB (aN F) (ak n6)) (aV F F (aV F F (aV F F (ad (cg F F) (aj F (ae (a6 F (ai ?_))))))))
  refine ad (a_ bU F du F F) (ad (bi 2 fA F F F F) (ad (bJ F F) (aj F (ae (aP F (fun hc=>?_) (fun hc=>?_))))))
  ·have oB:x.op=3:=by omega
   refine ai (ad (a_ bU F du F F) (ad (bi 2 fA F F F F) (ad (a_ bU F du F F) (ad (bi 2 fA F F F F) (ad (cE (cs:=[v8 x.p,v8 x.n]) jn gj (by kernel_rfl)) (ah F (ao F (bl ns (aX fun w1 hI=>(haveI:=et hI;ir w1 x.p x.n v hp hn hv)) F ?_))))))))
   rintro vr O' ⟨N,rfl,rfl,rfl⟩
   refine aj F (ae (aK (aA ?_)))
   refine aS (vI (pj v x.p x.n:Int)) Tryz.results127 F ?_
   exact⟨[],Sub.z,by unfold gf;rw[az (by omega),az (by omega),aO (by omega)],F⟩
  have oC: ¬x.op=3:=by omega
  refine aE (ai (aj F (ae (aK (aA ?_)))))
  refine aS (vI 0) Tryz.results127 F ?_
  exact⟨[],Sub.z,by unfold gf;rw[az (by omega),az (by omega),az (by omega)];rfl,F⟩
 refine ad (aB (aN F) (ak yo)) (aV F F (aV F F (aV F F (ad (cg F F) (aj F (ae (a6 F (a7 ?_))))))))
 refine ad (a_ vS F bj F F) (ad (bi 1 dP F F F F) (ad (cT F F) ?_))
 by_cases n6:((dH x.op:Nat):Int)<2
 ·refine ad (aB (aN F) (ay n6)) ?_
  refine aG F F (a_ bU F bj F F) (aG F F (bi 2 dP F F F F) (aG F F (dQ F F) (ad (cA F F) (aj F (ae (aP F (fun hc=>?_) (fun hc=>?_)))))))
  ·refine aM ?_
   refine a7 (aj F (ae (aK (aA ?_))))
   refine aS (vI 2) Tryz.results127 F ?_
   exact⟨[],Sub.z,by unfold gf;rw[az (by omega),aO (by omega)];rfl,F⟩
  refine ai (ad (a_ bU F du F F) (ad (bi 2 fA F F F F) (ad (bJ F F) (aj F (ae (aP F (fun hc=>?_) (fun hc=>?_)))))))
  ·have oB:x.op=3:=by omega
   refine ai (ad (a_ bU F du F F) (ad (bi 2 fA F F F F) (ad (a_ bU F du F F) (ad (bi 2 fA F F F F) (ad (cE (cs:=[v8 x.p,v8 x.n]) jn gj (by kernel_rfl)) (ah F (ao F (bl ns (aX fun w1 hI=>(haveI:=et hI;ir w1 x.p x.n v hp hn hv)) F ?_))))))))
   rintro vr O' ⟨N,rfl,rfl,rfl⟩
   refine aj F (ae (aK (aA ?_)))
   refine aS (vI (pj v x.p x.n:Int)) Tryz.results127 F ?_
   exact⟨[],Sub.z,by unfold gf;rw[az (by omega),az (by omega),aO (by omega)],F⟩
  have oC: ¬x.op=3:=by omega
  refine aE (ai (aj F (ae (aK (aA ?_)))))
  refine aS (vI 0) Tryz.results127 F ?_
  exact⟨[],Sub.z,by unfold gf;rw[az (by omega),az (by omega),az (by omega)];rfl,F⟩
 refine ad (aB (aN F) (ak n6)) (aV F F (aV F F (aV F F (ad (cg F F) (aj F (ae (a6 F (ai ?_))))))))
 refine ad (a_ bU F du F F) (ad (bi 2 fA F F F F) (ad (bJ F F) (aj F (ae (aP F (fun hc=>?_) (fun hc=>?_))))))
 ·have oB:x.op=3:=by omega
  refine ai (ad (a_ bU F du F F) (ad (bi 2 fA F F F F) (ad (a_ bU F du F F) (ad (bi 2 fA F F F F) (ad (cE (cs:=[v8 x.p,v8 x.n]) jn gj (by kernel_rfl)) (ah F (ao F (bl ns (aX fun w1 hI=>(haveI:=et hI;ir w1 x.p x.n v hp hn hv)) F ?_))))))))
  rintro vr O' ⟨N,rfl,rfl,rfl⟩
  refine aj F (ae (aK (aA ?_)))
  refine aS (vI (pj v x.p x.n:Int)) Tryz.results127 F ?_
  exact⟨[],Sub.z,by unfold gf;rw[az (by omega),az (by omega),aO (by omega)],F⟩
 have oC: ¬x.op=3:=by omega
 refine aE (ai (aj F (ae (aK (aA ?_)))))
 refine aS (vI 0) Tryz.results127 F ?_
 exact⟨[],Sub.z,by unfold gf;rw[az (by omega),az (by omega),az (by omega)];rfl,F⟩
end Go.Proofs.YtgdbfideeeegmaaGreatDoor

namespace Go.Lx
open Go.RowKit Go.Proofs.YtgdbfideeeegmaaGreatDoor
def gG (v:Nat) (fs:List Nat) (x:dK):Except Nat Nat:=
 if gf v x≠0 then .error (gf v x)
 else if dH x.op=1 then(if fs.length=0∨x.a≠(fs.length:Int)-1 then .error 8 else .ok (fs.getD (fs.length-1) 0))
 else if dH x.op=2 then(if fs.length=0∨x.b≠(fs.length:Int)-1∨fs.getD (fs.length-1) 0=0∨x.a≠(fs.getD (fs.length-1) 0:Int)-1 then .error 8 else .ok (fs.getD x.a.toNat 0))
 else .ok fs.length
def mM (v:Nat) (iM:Except Nat (List Nat)) (x:dK):Except Nat (List Nat):=
 match iM with
 | .error n=>.error n
 | .ok fs=>match gG v fs x with
  | .error n=>.error n
  | .ok b=>.ok (fs++[b])
def jW (v:Nat) (e:List dK):Except Nat (List Nat):=e.foldl (mM v) (.ok [])
theorem zS (v:Nat) {e:List dK} {i:Nat} (h:i<e.length):jW v (e.take (i+1))=mM v (jW v (e.take i)) e[i]:=by
 unfold jW;rw[aH h,cO];rfl
theorem tI (v n:Nat): ∀(e:List dK),e.foldl (mM v) (.error n)=.error n
 | []=>rfl
 |x::e=>by rw[cS];exact tI v n e
theorem LF {v n:Nat} {e:List dK} {i:Nat} (h:jW v (e.take i)=.error n):jW v e=.error n:=by
 conv=>lhs;rw[←List.take_append_drop i e]
 unfold jW at h⊢;rw[cO,h,tI]
theorem jQ {v n:Nat} {e:List dK} {fs:List Nat} {i:Nat} (hi:i<e.length) (hf:jW v (e.take i)=.ok fs) (hs:gG v fs e[i]=.error n):jW v e=.error n:=by
 refine LF (i:=i+1) ?_
 rw[zS v hi,hf];unfold mM;simp only[hs]
theorem qQ {v b:Nat} {e:List dK} {fs:List Nat} {i:Nat} (hi:i<e.length) (hf:jW v (e.take i)=.ok fs) (hs:gG v fs e[i]=.ok b):jW v (e.take (i+1))=.ok (fs++[b]):=by
 rw[zS v hi,hf];unfold mM;simp only[hs]
theorem rl {fs:List Nat} {i b:Nat} (hl:fs.length=i) (h: ∀j,j<i→fs.getD j 0≤j) (hb:b≤i): ∀j,j<i+1→(fs++[b]).getD j 0≤j:=fun j hj=>by
 by_cases e:j=i
 ·subst e;rw[av,bT (by omega),hl,fR];exact hb
 ·have:=h j (by omega)
  rw[av]at this⊢
  rw[bH (by omega)];exact this
def mq (e:List dK):Nat→Nat→Bool→Bool
 |0,_,_=>true
 |f+1,i,fr=>
  if((e.getD i ⟨0,0,0,0,0⟩).op=9∨(e.getD i ⟨0,0,0,0,0⟩).op=10)∧fr=false then false
  else(decide (dH (e.getD i ⟨0,0,0,0,0⟩).op<1)||mq e f (e.getD i ⟨0,0,0,0,0⟩).a.toNat (fr&&decide ((e.getD i ⟨0,0,0,0,0⟩).op=4∨(e.getD i ⟨0,0,0,0,0⟩).op=5)))&&
   (decide (dH (e.getD i ⟨0,0,0,0,0⟩).op<2)||mq e f (e.getD i ⟨0,0,0,0,0⟩).b.toNat (fr&&decide ((e.getD i ⟨0,0,0,0,0⟩).op=4∨(e.getD i ⟨0,0,0,0,0⟩).op=5)))
theorem oM {e:List dK} {i:Nat} (h:i<e.length):e.getD i ⟨0,0,0,0,0⟩=e[i]:=by rw[av,ap h];rfl
theorem iH {e:List dK} {f i:Nat} {fr:Bool} (h:i<e.length):mq e (f+1) i fr=if(e[i].op=9∨e[i].op=10)∧fr=false then false else(decide (dH e[i].op<1)||mq e f e[i].a.toNat (fr&&decide (e[i].op=4∨e[i].op=5)))&&(decide (dH e[i].op<2)||mq e f e[i].b.toNat (fr&&decide (e[i].op=4∨e[i].op=5))):=by
 rw[mq,oM h]
end Go.Lx

namespace Go.Proofs.YtgdbfideeeegmaaGreatDoor
open Go.Lx Go.RowKit _root_.Go.Proofs.Tryz
theorem V8 (base:World) [dE Tryz.prog base] (b:Option Addr) (c m:Nat) (l:List UInt8) (hl:l.length=m) (hm:m≤900000):
  bW Tryz.prog base 210 [.slice b m c,vI (-1),vI 10] [aq b c 5 1 (di l)] (fun v O'=> ∃b' c',v=.slice b' (m+(kq (-1)).length) c'∧O'=[aq b' c' 5 1 (di (l++kq (-1)))]):=by
 refine aF func210 F ntmps210 F ?_
 refine ai (aj F (ae (ai (ah F (ad (Jp uT2 V9 F) (aj F (ae (aM (ai (ah F (ad (cT F F) (ae ?_))))))))))))
 refine bO F ?_
 refine ai (ah F (ao F (cN (v:=.int .u8 45) lh du F F F (fun nY=>?_))))
 refine ao F (cW 1 lh lh du F F F F (by simp[hl]) (by decide) (Src.row (j:=0) F (by simp)) (by simp[fa]) (by omega) (by decide) (by decide) (fun xq c3=>?_))
 refine aj F (ae (a7 (ah F (ad (V_ F) (aj F (ae (ai (ah F (ah F (ah F ?_))))))))))
 have nk:=(bW.sub (O':=[aq xq c3 5 1 (di (l++[45]))]) (O:=[aq (aD nY) 1 5 1 [.int .u8 45],aq xq c3 5 1 ((di l)++[.int .u8 45])]) (by rw[show di (l++[45])=di l++[Value.int .u8 45]from bm];exact(by exact Sub.d (.k .z))) (Ct base xq c3 0 (m+1) 1 (l++[45]) (by simp[hl]) (by decide) (by omega)))
 refine ao F (bl Kc nk F ?_)
 clear nk
 rintro vr O' ⟨b9,c9,rfl,rfl⟩
 refine aj F (ae (aK ?_))
 refine aS (.slice b9 (m+1+(Lib.decDigits 1).length) c9) Tryz.results210 F ?_
 exact⟨b9,c9,by simp[kq,Lib.decDigits,Nat.add_assoc],by simp[kq,Lib.decDigits]⟩
theorem ZR (base:World) [dE Tryz.prog base] (b:Option Addr) (c m:Nat) (l:List UInt8) (hl:l.length=m) (hm:m≤900000):
  bW Tryz.prog base 160 [.slice b m c,vI (-1),vI 10] [aq b c 5 1 (di l)] (fun v O'=> ∃b' c',v=.slice b' (m+(kq (-1)).length) c'∧O'=[aq b' c' 5 1 (di (l++kq (-1)))]):=by
 refine aF func160 F ntmps160 F ?_
 refine ai (aj F (ae (ai (ah F (ah F (ah F ?_))))))
 have qx:=V8 base b c m l hl hm
 refine ao F (bl Kd qx F ?_)
 clear qx
 rintro vr O' ⟨b2,c2,rfl,rfl⟩
 refine aj F (ae (aK ?_))
 refine aS (.slice b2 (m+(kq (-1)).length) c2) Tryz.results160 F ?_
 exact⟨b2,c2,F,F⟩
theorem Wa (base:World) [dE Tryz.prog base] (b:Option Addr) (c m:Nat) (l:List UInt8) (n:Int) (hl:l.length=m) (hn:mH n) (hm:m≤900000):
  bW Tryz.prog base 160 [.slice b m c,vI n,vI 10] [aq b c 5 1 (di l)] (fun v O'=> ∃b' c',v=.slice b' (m+(kq (n)).length) c'∧O'=[aq b' c' 5 1 (di (l++kq (n)))]):=by
 by_cases h:n= -1
 ·subst h;exact ZR base b c m l hl hm
 ·rcases hn with hn|⟨h0,h1⟩
  ·contradiction
  ·obtain⟨k,rfl⟩:=Int.eq_ofNat_of_zero_le h0
   have h9:=Sc base b c 0 m k l hl (by omega) (by omega)
   unfold kq;rw[az h];exact h9
theorem Qd (base:World) [dE Tryz.prog base] (b lb:Option Addr) (c m lc:Nat) (xs:List UInt8) (l:List Int) (hx:xs.length=m) (hL:Sl base lb (ints l)) (hn: ∀n∈l,mH n) (hm:m+13*l.length≤800000):
  bW Tryz.prog base 112 [.slice b m c,.slice lb l.length lc] [aq b c 5 1 (di xs)] (fun v O'=> ∃b' c',v=.slice b' (m+(iO l).length) c'∧O'=[aq b' c' 5 1 (di (xs++iO l))]):=by
 refine aF func112 F ntmps112 F ?_
 refine ai (aj F (ae (aM (ai (ah F (ad (cQ cL F) (ah F (ae (aU ?_)))))))))
 refine dO (fun(i:Nat) ρ O=> ∃(jb:Option Addr) (jc:Nat),O=[aq jb jc 5 1 (di (xs++iO (l.take i)))]∧i≤l.length∧dv [(0,(.slice jb (m+(iO (l.take i)).length) jc)),(1,(.slice lb l.length lc)),(4,nS),(7,(.slice lb l.length lc)),(8,vI (l.length:Int)),(9,vN i)] ρ) (fun i=>l.length-i) 0 ?_ ?_
 ·exact⟨b,c,by simp[iO],bn _,⟨(by show Value.slice b m c=_;simp[iO]),F,F,F,F,F,trivial⟩⟩
 rintro i ρ O ⟨jb,jc,rfl,hi,hH⟩
 obtain⟨gF,rfl⟩:=hH.elim
 clear hH
 have Oc:=pu (l:=l.take i) fun n h=>hn n (List.mem_of_mem_take h)
 have gn:=List.length_take_le i l
 refine ai (ad (cT F F) (ae (aM (aP F (fun hc=>?_) (fun hc=>?_)))))
 ·have lG:i<l.length:=by omega
  have hdl:=qz (hn _ (aQ lG))
  refine aE (aM (aU (ai (ad (dU (i:=i) cL bj F F (aL hL)) (ad (de dP F F (aL hL) gL) (aj F (ae (a7 (ah F (ah F ?_))))))))))
  have Ke:=Wa base jb jc (m+(iO (l.take i)).length) (xs++iO (l.take i)) l[i] (by simp[hx]) (hn _ (aQ lG)) (by omega)
  refine ao F (bl AL Ke F ?_)
  clear Ke
  rintro vr O' ⟨b2,c2,rfl,rfl⟩
  refine ao F (cN (v:=.int .u8 32) lh du F F F (fun nY=>?_))
  refine ao F (cW 1 lh lh du F F F F (by simp[hx,Nat.add_assoc]) (by decide) (Src.row (j:=0) F (by simp)) (by simp[fa]) (by have:=qz (hn _ (aQ lG));omega) (by decide) (by decide) (fun xq c3=>?_))
  refine aj F (ae (a7 (ad (dy (a:=i) (b:=1) F F (by omega)) (ah F (ae ?_)))))
  have e9:=Cu lG
  exact⟨i+1,by omega,[aq xq c3 5 1 ((di (xs++iO (l.take i)++kq l[i]))++[.int .u8 32])],(by exact Sub.d (.k .z)),xq,c3,by rw[e9,←aI,←aI,show di (xs++iO (l.take i)++kq l[i]++[32])=di (xs++iO (l.take i)++kq l[i])++[Value.int .u8 32]from bm],by omega,⟨(ax (fun n9=>Value.slice xq n9 c3) (show m+(iO (l.take i)).length+(kq l[i]).length+1=m+(iO (l.take (i+1))).length by rw[e9];simp only[aw,bo,bV,Nat.add_assoc])),F,F,F,F,F,trivial⟩⟩
 have vg: ¬i<l.length:=by omega
 refine cK ?_
 refine ai (ah F (aj F (ae (aK ?_))))
 refine aS (.slice jb (m+(iO (l.take i)).length) jc) Tryz.results112 F ?_
 have we:i=l.length:=by omega
 subst we
 rw[List.take_length]
 exact⟨jb,jc,F,F⟩
theorem nl (w:World) [dE Tryz.prog w] (cb:Nat) (eb:Option Addr) (en ec vs B:Nat) (hc:Sl w (aD cb) [.slice eb en ec,vI (vs:Int),vI (B:Int)]) (d:cU) (k:DK) (e:Int):
  dB Tryz.prog w (.iface 163 (.agg #[])) 101 [(dW (aD cb) 0),dV d k,vI e] [] (fun v N=>v=dV d k∧N=[]∧e=0∧d.next.length≤B) (¬(e=0∧d.next.length≤B)):=by
 refine dM func101 F ntmps101 F ?_
 refine ai (ao F (dG (cs:=(dC d k)) F F (fun nY=>?_)))
 refine ao F (bs bL F (fun xq=>?_))
 refine ae (aM (aM ?_))
 refine fD [(0,0),(1,0),(2,0),(3,0),(4,0),(5,0),(6,0),(7,0),(8,0),(9,0),(10,0),(11,0)] ?_
 refine au F (aN F) ?_
 by_cases he:e≠0
 ·refine au F (aB (dQ F F) (ay he)) ?_
  refine au F (aN F) (bM F F F (bM F F F (bM F F F (bM F F F (bM F F F (bM F F F (bM F F F ?_)))))))
  refine bM F F F (au F (cA F F) ?_)
  refine cw ?_
  refine bO F ?_
  refine a7 (ad (cE wh AM F) (ad (ra FV F) ?_))
  exact eG F (wi F (fun _=>⟨F,fun h9=>by omega⟩))
 refine au F (aB (dQ F F) (ak he)) (au F (aN F) ?_)
 refine bu F F F (a_ cZ F fz F F) ?_
 refine bu F F F (bi 1 e_ F F F F) ?_
 refine bu F F F (cQ e_ F) ?_
 refine bu F F F (aN F) ?_
 refine bu F F F (a8 F) ?_
 refine bu F F F (cy lx F bj F F (aL hc) (by first|omega|(simp;done)|(simp;omega)|(simp_all;done)|(simp_all;omega))) ?_
 refine bu F F F (de dP F F (aL hc) F) ?_
 refine bu F F F (iy F F) ?_
 refine au F (cg F F) ?_
 refine cw ?_
 refine aP F (fun hc=>?_) (fun hc=>?_)
 ·have PF:d.next.length>B:=by omega
  refine a7 (ad (cE wh AM F) (ad (ra FV F) ?_))
  exact eG F (wi F (fun _=>⟨F,fun h9=>by omega⟩))
 have yW: ¬d.next.length>B:=by omega
 have Fw:d.next.length≤B:=by omega
 refine aE (ai (ad (eu 1 cZ F bL F F F) (ao F (bN (vs:=(dC d k)) 0 bL F F F F ?_))))
 refine ae (aK (aA ?_))
 refine cM (i:=0) Tryz.results101 cZ F bL F F F ?_
 exact⟨[],Sub.z,F,F,by omega,Fw⟩
end Go.Proofs.YtgdbfideeeegmaaGreatDoor

namespace Go.Proofs
open Go.Shelf
def Tryz.vm:Go.Shelf.Ren:=⟨fun|189=>192|125=>159|257=>220|128=>208|129=>209|294=>245|295=>246|296=>247|297=>248|298=>249|299=>250|216=>221|300=>251|301=>252|328=>260|329=>226|330=>227|331=>261|332=>262|215=>240|343=>265|n=>n,fun|28=>56|3=>3|46=>101|0=>0|51=>254|53=>256|4=>4|183=>247|182=>246|131=>161|5=>5|9=>9|218=>268|222=>272|228=>289|229=>290|n=>n,fun|n=>n⟩
theorem Tryz.AX:Go.Proofs.Lays.n189 Tryz.prog Tryz.vm:= {
 mixed:=by kernel_rfl
 f125:=func159.trans (ax some (by kernel_rfl))
 f128:=func208.trans (ax some (by kernel_rfl))
 f129:=func209.trans (ax some (by kernel_rfl))
 f189:=func192.trans (ax some (by kernel_rfl))
 f215:=func240.trans (ax some (by kernel_rfl))
 f216:=func221.trans (ax some (by kernel_rfl))
 f257:=func220.trans (ax some (by kernel_rfl))
 f294:=func245.trans (ax some (by kernel_rfl))
 f295:=func246.trans (ax some (by kernel_rfl))
 f296:=func247.trans (ax some (by kernel_rfl))
 f297:=func248.trans (ax some (by kernel_rfl))
 f298:=func249.trans (ax some (by kernel_rfl))
 f299:=func250.trans (ax some (by kernel_rfl))
 f300:=func251.trans (ax some (by kernel_rfl))
 f301:=func252.trans (ax some (by kernel_rfl))
 f328:=func260.trans (ax some (by kernel_rfl))
 f329:=func226.trans (ax some (by kernel_rfl))
 f330:=func227.trans (ax some (by kernel_rfl))
 f331:=func261.trans (ax some (by kernel_rfl))
 f332:=func262.trans (ax some (by kernel_rfl))
 f343:=func265.trans (ax some (by kernel_rfl))
 t0:=underlying0
 a0:=Tryz.isAgg0
 z0:=Tryz.sizeOf0
 v0:=Tryz.zeroValue0
 t3:=underlying3
 a3:=Tryz.isAgg3
 z3:=Tryz.sizeOf3
 v3:=Tryz.zeroValue3
 t4:=underlying4
 a4:=Tryz.isAgg4
 z4:=Tryz.sizeOf4
 v4:=Tryz.zeroValue4
 t5:=underlying5
 a5:=Tryz.isAgg5
 z5:=Tryz.sizeOf5
 v5:=Tryz.zeroValue5
 t9:=underlying9
 a9:=Tryz.isAgg9
 z9:=Tryz.sizeOf9
 v9:=Tryz.zeroValue9
 t28:=underlying56
 a28:=Tryz.isAgg56
 z28:=Tryz.sizeOf56
 v28:=Tryz.zeroValue56
 t46:=underlying101
 a46:=Tryz.isAgg101
 z46:=Tryz.sizeOf101
 v46:=Tryz.zeroValue101
 t51:=underlying254
 a51:=Tryz.isAgg254
 z51:=Tryz.sizeOf254
 v51:=Tryz.zeroValue254
 t53:=underlying256
 a53:=Tryz.isAgg256
 z53:=Tryz.sizeOf256
 v53:=Tryz.zeroValue256
 t131:=underlying161
 a131:=Tryz.isAgg161
 z131:=Tryz.sizeOf161
 v131:=Tryz.zeroValue161
 t182:=underlying246
 a182:=Tryz.isAgg246
 z182:=Tryz.sizeOf246
 v182:=Tryz.zeroValue246
 t183:=underlying247
 a183:=Tryz.isAgg247
 z183:=Tryz.sizeOf247
 v183:=Tryz.zeroValue247
 t218:=underlying268
 a218:=Tryz.isAgg268
 z218:=Tryz.sizeOf268
 v218:=Tryz.zeroValue268
 t222:=underlying272
 a222:=Tryz.isAgg272
 z222:=Tryz.sizeOf272
 v222:=Tryz.zeroValue272
 t228:=underlying289
 a228:=Tryz.isAgg289
 z228:=Tryz.sizeOf289
 v228:=Tryz.zeroValue289
 t229:=underlying290
 a229:=Tryz.isAgg290
 z229:=Tryz.sizeOf290
 v229:=Tryz.zeroValue290}
open Go.RowKit Go.Sort Go.Lib in
theorem Tryz.slices_Sort_int (lD off cap:Nat) (zs:List Int) (w:World) (hH:Holds (Value.int .i64) w lD off zs.toArray) (TQ:lD<w.heap.size) (sR:zs.length<4611686018427387904):
  Calls Tryz.prog 192 #[.slice (some ⟨lD,off,none⟩) zs.length cap] w fun e w'=>
   e=.returned (.tuple #[])∧ ∃n os,w'=grow (putRow (Value.int .i64) (Sort.ahead w n) lD off (zs.mergeSort fun x y=>decide (x≤y)).toArray) os:=Any.slices_Sort_int Tryz.AX lD off cap zs w hH TQ sR
end Go.Proofs
namespace Go.Proofs.YtgdbfideeeegmaaGreatDoor
open Go.Lx Go.RowKit Go.Proofs Go.Sort _root_.Go.Proofs.Tryz
def Ue:Go.Shelf.Ren:=⟨fun|20=>193|n=>n,fun|0=>0|3=>3|4=>4|22=>56|40=>101|n=>n,fun|n=>n⟩
theorem G5:Go.Proofs.Lays2.n20 Tryz.prog Ue:= {
 mixed:=by kernel_rfl
 f20:=func193.trans (ax some (by kernel_rfl))
 t0:=underlying0
 a0:=Tryz.isAgg0
 z0:=Tryz.sizeOf0
 v0:=Tryz.zeroValue0
 t3:=underlying3
 a3:=Tryz.isAgg3
 z3:=Tryz.sizeOf3
 v3:=Tryz.zeroValue3
 t4:=underlying4
 a4:=Tryz.isAgg4
 z4:=Tryz.sizeOf4
 v4:=Tryz.zeroValue4
 t22:=underlying56
 a22:=Tryz.isAgg56
 z22:=Tryz.sizeOf56
 v22:=Tryz.zeroValue56
 i3:=by kernel_rfl
}
def Uf:Go.Shelf.Ren:=⟨fun|25=>197|31=>221|32=>222|37=>240|n=>n,fun|0=>0|3=>3|4=>4|22=>56|40=>101|n=>n,fun|n=>n⟩
theorem G6:Go.Proofs.Lays2.n25 Tryz.prog Uf:= {
 mixed:=by kernel_rfl
 f25:=func197.trans (ax some (by kernel_rfl))
 f31:=func221.trans (ax some (by kernel_rfl))
 f32:=func222.trans (ax some (by kernel_rfl))
 f37:=func240.trans (ax some (by kernel_rfl))
 t0:=underlying0
 a0:=Tryz.isAgg0
 z0:=Tryz.sizeOf0
 v0:=Tryz.zeroValue0
 t3:=underlying3
 a3:=Tryz.isAgg3
 z3:=Tryz.sizeOf3
 v3:=Tryz.zeroValue3
 t4:=underlying4
 a4:=Tryz.isAgg4
 z4:=Tryz.sizeOf4
 v4:=Tryz.zeroValue4
 t22:=underlying56
 a22:=Tryz.isAgg56
 z22:=Tryz.sizeOf56
 v22:=Tryz.zeroValue56
 t40:=underlying101
 a40:=Tryz.isAgg101
 z40:=Tryz.sizeOf101
 v40:=Tryz.zeroValue101
}
def Bt:Go.Shelf.Ren:=⟨fun|21=>198|27=>223|28=>224|35=>253|39=>263|n=>n,fun|0=>0|3=>3|4=>4|22=>56|40=>101|n=>n,fun|n=>n⟩
theorem wy:Go.Proofs.Lays2.n21 Tryz.prog Bt:= {
 mixed:=by kernel_rfl
 f21:=func198.trans (ax some (by kernel_rfl))
 f27:=func223.trans (ax some (by kernel_rfl))
 f28:=func224.trans (ax some (by kernel_rfl))
 f35:=func253.trans (ax some (by kernel_rfl))
 f39:=func263.trans (ax some (by kernel_rfl))
 t0:=underlying0
 a0:=Tryz.isAgg0
 z0:=Tryz.sizeOf0
 v0:=Tryz.zeroValue0
 t3:=underlying3
 a3:=Tryz.isAgg3
 z3:=Tryz.sizeOf3
 v3:=Tryz.zeroValue3
 t4:=underlying4
 a4:=Tryz.isAgg4
 z4:=Tryz.sizeOf4
 v4:=Tryz.zeroValue4
 t22:=underlying56
 a22:=Tryz.isAgg56
 z22:=Tryz.sizeOf56
 v22:=Tryz.zeroValue56
 i3:=by kernel_rfl
}
def Ug:Go.Shelf.Ren:=⟨fun|15=>146|n=>n,fun|0=>0|3=>3|4=>4|22=>56|40=>101|n=>n,fun|n=>n⟩
theorem Bu:Go.Proofs.Lays2.n15 Tryz.prog Ug:= {
 mixed:=by kernel_rfl
 f15:=func146.trans (ax some (by kernel_rfl))
 t3:=underlying3
 a3:=Tryz.isAgg3
 z3:=Tryz.sizeOf3
 v3:=Tryz.zeroValue3
 t4:=underlying4
 a4:=Tryz.isAgg4
 z4:=Tryz.sizeOf4
 v4:=Tryz.zeroValue4
 t22:=underlying56
 a22:=Tryz.isAgg56
 z22:=Tryz.sizeOf56
 v22:=Tryz.zeroValue56
 i3:=by kernel_rfl
}
theorem wA {base w:World} {O:List Lx.Item} {i c:Nat} {T:TypeId} {zs:List Int} (hI:Inv base O w) (hO:O[i]? =some (aq none c T 1 (ints zs))):zs=[]∧c=0:=by
 have h:=hI.row hO
 exact⟨by have:=h.1;simpa using this,h.2⟩
theorem Wb (base:World) (b:Option Addr) (c:Nat) (zs:List Int) (sR:zs.length<4611686018427387904):bW Tryz.prog base 192 [.slice b zs.length c] [aq b c 3 1 (ints zs)] (fun v O'=>v=.tuple #[]∧O'=[aq b c 3 1 (ints (qB zs))]):=fun w M hI=>by
 have hO:(([aq b c 3 1 (ints zs)]++M:List Lx.Item))[0]? =some (aq b c 3 1 (ints zs)):=rfl
 cases b with
 |none=>
  obtain⟨rfl,rfl⟩:=wA hI hO
  refine(Any.slices_Sort_int_none Tryz.AX none 0 w).mono ?_
  rintro e w' ⟨rfl,rfl⟩
  refine⟨_,_,F,?_,F,F⟩
  have h9:qB []=[]:=by simp
  rw[h9];exact hI
 |some a=>
  obtain⟨lD,off,sp⟩:=a
  have yx:sp=none:=(hI.row hO).1
  subst yx
  obtain⟨hH,hb⟩:=Aj hI hO
  refine(Tryz.slices_Sort_int lD off c zs w hH hb sR).mono ?_
  rintro e w' ⟨rfl,n,os,rfl⟩
  refine⟨_,_,F,?_,F,F⟩
  exact hI.LJ (ys:=qB zs) hO (List.length_mergeSort zs) n os
theorem Kh (base:World) (b:Option Addr) (c:Nat) (zs:List Int) (sR:zs.length≤1000000):bW Tryz.prog base 193 [.slice b zs.length c] [aq b c 3 1 (ints zs)] (fun v O'=>v=.slice b (Lib.compact zs).length c∧O'=[aq b c 3 1 (ints (Lib.compact zs))]):=fun w M hI=>by
 have hO:(([aq b c 3 1 (ints zs)]++M:List Lx.Item))[0]? =some (aq b c 3 1 (ints zs)):=rfl
 cases b with
 |none=>
  obtain⟨rfl,rfl⟩:=wA hI hO
  refine(Any.slices_Compact_int_empty G5 none 0 w).mono ?_
  rintro e w' ⟨rfl,rfl⟩
  refine⟨_,_,F,?_,F,F⟩
  have h9:Lib.compact ([]:List Int)=[]:=rfl
  rw[h9];exact hI
 |some a=>
  obtain⟨lD,off,sp⟩:=a
  have yx:sp=none:=(hI.row hO).1
  subst yx
  obtain⟨hH,hb⟩:=Aj hI hO
  have Nv:zs.length≤c:=by have:=(hI.row hO).2;obtain⟨_,_,h,_⟩:=this;simpa using h
  refine(Any.slices_Compact_int G5 lD off c zs w hH (by omega) Nv).mono ?_
  rintro e w' ⟨rfl,n,rfl⟩
  refine⟨_,_,F,?_,F,F⟩
  have Fw:=Lib.compact_length_le zs
  exact hI.H_ (ys:=Lib.compact zs) hO (by simp;omega) n
theorem Oe (w:World) (b:Option Addr) (c:Nat) (l:List Nat) (s:Nat) (hS:Sl w b (bS l)) (ha:l.Pairwise (· < ·)) (hb:l.length≤1000000):cH Tryz.prog 197 [.slice b l.length c,.int .i64 (s:Int)] w fun v N=>v=.tuple #[.int .i64 ((l.countP (· <s):Nat):Int),.bool (decide (s∈l))]∧N=[]:=fun w1 M hI=>by
 have UG:=hI.sl hS
 by_cases h0:l=[]
 ·subst h0
  exact(Any.slices_BinarySearch_int_empty G6 b c (s:Int) w1).mono (by rintro e w' ⟨rfl,rfl⟩;exact⟨_,_,F,hI,F,F⟩)
 ·have Ht:0<(bS l).length:=by simp;exact List.length_pos_iff.2 h0
  obtain⟨bk,o,rfl⟩:=UG.addr Ht
  refine(Any.slices_BinarySearch_int G6 bk o l.length c (l.map fun y:Nat=>(y:Int)) (s:Int) w1 (by simp) (by omega) (fun j hj=>?_) ?_).mono ?_
  ·have si:j<l.length:=by simpa using hj
   rw[UG.get (i:=j) (v:=.int .i64 ((l[j]:Nat):Int)) (by simp[si])]
   simp[av,si]
  ·rw[bw (by simp)]
   exact List.pairwise_map.2 (ha.imp fun h=>by omega)
  ·rintro e w' ⟨rfl,q,rfl⟩
   refine⟨_,_,F,hI.drewN q,?_,F⟩
   rw[bw (by simp),List.countP_map]
   have e1:((fun x:Int=>decide (x<(s:Int)))∘fun y:Nat=>(y:Int))=fun y:Nat=>decide (y<s):=by funext y;simp
   have e2:(List.map (fun y:Nat=>(y:Int)) l).contains (s:Int)=decide (s∈l):=by
    rw[List.contains_eq_mem]
    exact decide_eq_decide.2 ⟨fun h=>(by obtain⟨y,hy,e⟩:=List.mem_map.1 h;have:y=s:=(by omega);exact this▸hy),fun h=>List.mem_map.2 ⟨s,h,F⟩⟩
   rw[e1,e2]
theorem Kj (w:World) (b:Option Addr) (c:Nat) (zs:List Int) (hS:Sl w b (ints zs)) (hz:zs.length≤1000000):cH Tryz.prog 146 [.slice b zs.length c] w fun v N=> ∃b' c',v=.slice b' zs.length c'∧N=[aq b' c' 3 1 (ints zs)]∧c'≤9223372036854775807:=fun w1 M hI=>by
 have UG:=hI.sl hS
 have key: ∀(e:Ending) (w':World),(∃v':Value,e=.returned v'∧w'.ownsRow w1.heap.size 3 1 v' zs.length (ints zs)∧Below w1.heap.size w1 w')→ ∃(v:Value) (O':List Lx.Item),e=.returned v∧Inv w (O'++M) w'∧ ∃b' c',v=.slice b' zs.length c'∧O'=[aq b' c' 3 1 (ints zs)]∧c'≤9223372036854775807:=by
  rintro e w' ⟨v',rfl,⟨hl,ho⟩,hB⟩
  rcases ho with⟨rfl,h0⟩|⟨g,cap,cur,rfl,hg,hh,hn,hm,hs,ht⟩
  ·have UT:zs=[]:=List.length_eq_zero_iff.1 h0
   subst UT
   refine⟨_,_,F,?_,none,0,F,F,by omega⟩
   exact hI.new (N:=[aq none 0 3 1 []]) hB.os hB.tape hB.output hB.size hB.block (by simp[aq,rowP]) (by simp[aq]) (by simp[aq])
  ·refine⟨_,_,F,?_,some ⟨g,0,none⟩,cap,F,F,hm⟩
   have gn:=(Array.getElem?_eq_some_iff.1 hh).1
   refine hI.new (N:=[aq (some ⟨g,0,none⟩) cap 3 1 (ints zs)]) hB.os hB.tape hB.output hB.size hB.block (fun it fI=>?_) (fun it fI k hk=>?_) (by simp[aq])
   ·simp only[c_]at fI;subst fI
    refine⟨F,cur,hh,by simp;omega,by show 0+cap*1≤_;omega,fun j hj=>?_⟩
    have h9:(cur.toList.take (zs.length*1))[j]? =some (ints zs)[j]:=by rw[ht];exact ap hj
    rw[List.getElem?_take,aO (by simpa using hj)]at h9
    simpa using h9
   ·simp only[c_]at fI;subst fI;simp[aq]at hk;omega
 by_cases h0:b=none
 ·subst h0
  have UT:zs=[]:=by
   cases zs with
   |nil=>rfl
   |cons z zs=>obtain⟨_,_,e⟩:=UG.addr (i:=0) (by simp);cases e
  subst UT
  exact(Any.slices_Clone_int_nil Bu _ c w1).mono fun e w' h=>key e w' (by obtain⟨h1,h2⟩:=h;subst h1 h2;exact⟨_,F,⟨by simp,.inl ⟨F,F⟩⟩,Below.refl _ _⟩)
 ·obtain⟨a,rfl⟩:=Option.ne_none_iff_exists'.1 h0
  by_cases hn:zs=[]
  ·subst hn
   exact(Any.slices_Clone_int_zero Bu a c w1).mono fun e w' h=>key e w' (by obtain⟨v',h1,h2,h3,h4⟩:=h;exact⟨v',h1,h2,h4⟩)
  ·obtain⟨bk,o,rfl⟩: ∃bk o,a=⟨bk,o,none⟩:=by
    obtain⟨bk,o,e⟩:=UG.addr (i:=0) (by simp;exact List.length_pos_iff.2 hn)
    exact⟨bk,o,by simpa using e⟩
   refine(Any.slices_Clone_int Bu bk o zs.length c zs w1 (by simp) (by omega) (fun j hj=>?_)).mono fun e w' h=>key e w' (by obtain⟨v',h1,h2,h3,h4⟩:=h;rw[List.take_length]at h2;exact⟨v',h1,h2,h4⟩)
   rw[UG.get (i:=j) (v:=.int .i64 zs[j]) (by simp[hj])]
   simp[av,hj]
theorem Og (base:World) (b:Option Addr) (c i vb:Nat) (xs:List Int) (x:Int) (hi:i≤xs.length) (hx:xs.length≤1000000) (Yp:c≤9223372036854775807):bW Tryz.prog base 198 [.slice b xs.length c,.int .i64 ((i:Nat):Int),.slice (some ⟨vb,0,none⟩) 1 1] [aq b c 3 1 (ints xs),aq (some ⟨vb,0,none⟩) 1 3 1 [.int .i64 x]] (fun v O'=> ∃b' c',v=.slice b' (xs.length+1) c'∧O'=[aq b' c' 3 1 (ints (xs.take i++x::xs.drop i))]):=fun w M hI=>by
 have hO:(([aq b c 3 1 (ints xs),aq (some ⟨vb,0,none⟩) 1 3 1 [.int .i64 x]]++M:List Lx.Item))[0]? =some (aq b c 3 1 (ints xs)):=rfl
 have hV:(([aq b c 3 1 (ints xs),aq (some ⟨vb,0,none⟩) 1 3 1 [.int .i64 x]]++M:List Lx.Item))[1]? =some (aq (some ⟨vb,0,none⟩) 1 3 1 [.int .i64 x]):=rfl
 obtain⟨_,vf,Y0,_,hv2,hv3⟩:=hI.row hV
 have Nl:vf[0]? =some (.int .i64 x):=hv3 0 (by simp)
 have gv: ∀j v,[Value.int .i64 x][j]? =some v→w.cell? ⟨vb,0+j,none⟩=some v:=fun j v h=>by
  cases j with
  |zero=>simp at h;subst h;simp[World.cell?,Y0,Nl]
  |succ j=>simp at h
 have Y1: ∀v∈[Value.int .i64 x],v.oneCell'=true:=by simp[Value.oneCell']
 have h1c: ∀v∈ints xs,v.oneCell'=true:=fun v hv=>by obtain⟨y,_,rfl⟩:=List.mem_map.1 hv;rfl
 have iA:(ints (xs.take i++x::xs.drop i)).length=xs.length+1:=by simp;omega
 have yy: ∀(b':Option Addr) (c':Nat) (W:World),Inv base (aq b' c' 3 1 (ints (xs.take i++x::xs.drop i))::aq (some ⟨vb,0,none⟩) 1 3 1 [.int .i64 x]::M) W→Inv base ([aq b' c' 3 1 (ints (xs.take i++x::xs.drop i))]++M) W:=fun b' c' W h=>
  h.kn ⟨_,List.Perm.refl _,List.Sublist.cons_cons _ (List.sublist_cons_self _ _)⟩
 have grown: ∀(W:World) (cc:Nat) (full:Array Value),W.os=w.os→W.tape=w.tape→W.output=w.output→W.heap.size=w.heap.size+1→(∀k,k<w.heap.size→W.heap[k]? =w.heap[k]?)→W.heap[w.heap.size]? =some (.cells full 3 (0,0))→xs.length+1≤cc→full.size=cc→(∀j,j<xs.length+1→full[j]? =(ints (xs.take i++x::xs.drop i))[j]?)→
   Inv base ([aq (some ⟨w.heap.size,0,none⟩) cc 3 1 (ints (xs.take i++x::xs.drop i))]++M) W:=fun W cc full h1 h2 h3 h4 h5 h6 h7 h8 h9=>by
  have h:=hI.new (N:=[aq (some ⟨w.heap.size,0,none⟩) cc 3 1 (ints (xs.take i++x::xs.drop i))]) h1 h2 h3 (by omega) h5 (fun it fI=>by
   simp only[c_]at fI;subst fI
   exact⟨F,full,h6,by rw[iA];omega,by show 0+cc*1≤_;omega,fun j hj=>by
    show full[0+j]? =_
    rw[Nat.zero_add,h9 j (by omega),ap hj]⟩) (fun it fI k hk=>by
   simp only[c_]at fI;subst fI;simp[aq]at hk;omega) (by simp[aq])
  exact h.kn ⟨_,List.Perm.refl _,List.Sublist.cons_cons _ (List.Sublist.cons _ (List.sublist_cons_self _ _))⟩
 have key:(∃bk o,b=some ⟨bk,o,none⟩)∨(b=none∧xs=[]∧c=0):=by
  cases b with
  |none=>exact .inr ⟨F,(wA hI hO).1,(wA hI hO).2⟩
  |some a=>obtain⟨bk,o,sp⟩:=a;have yx:sp=none:=(hI.row hO).1;subst yx;exact .inl ⟨bk,o,F⟩
 by_cases we:i<xs.length
 ·rcases key with⟨bk,o,rfl⟩|⟨_,rfl,_⟩
  ·obtain⟨_,full,hb,h1,h2,h3⟩:=hI.row hO
   simp only[Nat.mul_one,ar]at h1 h2
   have wM: ∀j v,(ints xs)[j]? =some v→w.cell? ⟨bk,o+j,none⟩=some v:=fun j v hv=>by
    obtain⟨hj,e⟩:=List.getElem?_eq_some_iff.1 hv
    have:=h3 j hj
    simp only[World.cell?,hb];simpa[e]using this
   have yx: ∀j,j<c→(w.cell? ⟨bk,o+j,none⟩).isSome=true:=fun j hj=>by
    simp only[World.cell?,hb];simp;omega
   have hfz: ∀j,w.frozen? ⟨bk,j,none⟩=false:=fun j=>by simp[World.frozen?,hb]
   by_cases MN:xs.length+1≤c
   ·have v_:vb≠bk:=fun e=>by
     have hn:=hI.nodup
     simp[aq,e]at hn
    refine(Any2.slices_Insert_int_shift wy bk o xs.length c i vb 0 1 1 (ints xs) [.int .i64 x] w we (by decide) MN Yp v_ (by simp) F wM (fun j hj=>yx j (by omega)) (fun j _=>hfz _) gv h1c Y1 3 3 vf.size full.size (by simp[World.shape?,Y0]) (by simp[World.shape?,hb]) (by omega) (by simp[World.frozen?,Y0]) (by simp[World.frozen?,Y0])).mono ?_
    rintro e w' ⟨rfl,rfl⟩
    refine⟨_,_,F,?_,_,_,F,F⟩
    have hA:=(hI.drew).setCells (p:=i+1) (vs:=(ints xs).drop i) (As:=ints (xs.take i++xs.getD i 0::xs.drop i)) hO (by simp;omega) (by simp;omega) (fun j hj=>by
     have si:j<xs.length+1:=by simp at hj;omega
     rw[tK xs _ hi]
     simp only[List.length_drop,ar]
     by_cases c1:j<i
     ·rw[aO c1,az (by omega)]
     ·by_cases c2:j=i
      ·subst c2;rw[az c1,aO F,az (by omega),bq];simp[av,we]
      ·rw[az c1,az c2,aO (by omega),List.getElem?_drop,show i+(j-(i+1))=j-1 by omega])
    have hB:=hA.setCells (i:=0) (b:=bk) (o:=o) (c:=c) (T:=3) (cs:=ints (xs.take i++xs.getD i 0::xs.drop i)) (p:=i) (vs:=[.int .i64 x]) (As:=ints (xs.take i++x::xs.drop i)) F (by simp;omega) (by rw[iA];omega) (fun j hj=>by
     rw[tK xs _ hi,tK xs _ hi]
     simp only[bo,bV]
     by_cases c1:j<i
     ·rw[aO c1,az (by omega),aO c1]
     ·by_cases c2:j=i
      ·subst c2;rw[az c1,aO F,aO (by omega),fR];rfl
      ·rw[az c1,az c2,az (by omega),az c1,az c2])
    exact yy _ _ _ hB
   ·refine(Any2.slices_Insert_int_grow wy bk o xs.length c i vb 0 1 1 (ints xs) [.int .i64 x] w we (by decide) h1 (by omega) (by omega) (by simp) F wM gv h1c Y1).mono ?_
    rintro e w' ⟨rfl,rfl⟩
    refine⟨_,_,F,?_,_,_,F,F⟩
    obtain⟨cc,Yq⟩: ∃cc,grownCap w (xs.length+1) c 3=cc:=⟨_,F⟩
    have hge:xs.length+1≤cc:=Yq▸grownCap_ge w _ _ _
    rw[show grownCap w (xs.length+1) c (Bt.t 3)=cc from Yq]
    have hz: ∀k,Builtin.zeroCells (Value.int .i64 0).cells k=(List.replicate k (Value.int .i64 0)).toArray:=fun k=>by
     have:=qX (.int .i64 0) k
     simpa[Builtin.zeroCells,Value.cells]using this
    obtain⟨IH,Uh⟩: ∃IH,IH=(ints xs).take i++List.replicate (xs.length+1-i) (Value.int .i64 0)++List.replicate (cc-(xs.length+1)) (Value.int .i64 0):=⟨_,F⟩
    have yu:IH.length=cc:=by rw[Uh];simp;omega
    have e1:((ints xs).take i).toArray++Builtin.zeroCells (Value.int .i64 0).cells (xs.length+1-i)++Builtin.zeroCells (Value.int .i64 0).cells (cc-(xs.length+1))=IH.toArray:=by
     rw[Uh,hz,hz];simp only[List.append_toArray]
    rw[e1,show Bt.t 3=3 from F]
    have hh1:(w.alloc (.cells IH.toArray 3 (0,0))).drew.heap[w.heap.size]? =some (.cells IH.toArray 3 (0,0)):=by
     show(w.heap.push _)[w.heap.size]? =_
     simp
    rw[l6 _ _ _ _ hh1]
    have hh2:((jS (w.alloc (.cells IH.toArray 3 (0,0))).drew w.heap.size (.cells (fh IH i [.int .i64 x]).toArray 3 (0,0))).drew).heap[w.heap.size]? =some (.cells (fh IH i [.int .i64 x]).toArray 3 (0,0)):=lL (w:=(w.alloc (.cells IH.toArray 3 (0,0))).drew) (by show w.heap.size<(w.heap.push _).size;simp)
    rw[l6 _ _ _ _ hh2]
    refine grown _ cc (fh (fh IH i [.int .i64 x]) (i+1) ((ints xs).drop i)).toArray F F F ?_ ?_ ?_ hge (by simp[iE,yu]) ?_
    ·show(((w.heap.push _).setIfInBounds _ _).setIfInBounds _ _).size=_;simp
    ·intro k hk
     show(((w.heap.push _).setIfInBounds _ _).setIfInBounds _ _)[k]? =_
     rw[Array.getElem?_setIfInBounds_ne (by omega),Array.getElem?_setIfInBounds_ne (by omega),Array.getElem?_push,az (by omega)]
    ·exact lL (w:=(jS (w.alloc (.cells IH.toArray 3 (0,0))).drew w.heap.size (.cells (fh IH i [.int .i64 x]).toArray 3 (0,0))).drew) (by show w.heap.size<((w.heap.push _).setIfInBounds _ _).size;simp)
    ·intro j hj
     rw[tK xs _ hi]
     simp only[List.getElem?_toArray]
     rw[mY _ _ _ _ (by simp[iE,yu];omega),mY _ _ _ _ (by simp[yu];omega)]
     simp only[List.length_drop,ar,bo,bV]
     by_cases c1:j<i
     ·rw[az (by omega),az (by omega),aO c1,Uh,aI,bH (by simp;omega),List.getElem?_take,aO c1]
     ·by_cases c2:j=i
      ·subst c2;rw[az (by omega),aO (by omega),az c1,aO F,fR];rfl
      ·rw[aO (by omega),az c1,az c2,List.getElem?_drop,show i+(j-(i+1))=j-1 by omega]
  ·simp at we
 ·have abr:i=xs.length:=by omega
  subst abr
  have abt:ints (xs.take xs.length++x::xs.drop xs.length)=ints xs++[.int .i64 x]:=by simp
  by_cases MN:xs.length+1≤c
  ·rcases key with⟨bk,o,rfl⟩|⟨_,_,rfl⟩
   ·obtain⟨_,full,hb,h1,h2,h3⟩:=hI.row hO
    simp only[Nat.mul_one,ar]at h1 h2
    refine(Any2.slices_Insert_int_end_room wy bk o xs.length c vb 0 1 1 [.int .i64 x] w (by decide) MN Yp F (fun j hj=>by simp only[World.cell?,hb];simp;omega) (fun j _=>by simp[World.frozen?,hb]) gv Y1).mono ?_
    rintro e w' ⟨rfl,rfl⟩
    refine⟨_,_,F,?_,_,_,F,F⟩
    have hB:=hI.setCells (p:=xs.length) (vs:=[.int .i64 x]) (As:=ints (xs.take xs.length++x::xs.drop xs.length)) hO (by simp;omega) (by rw[iA];omega) (fun j hj=>by
     rw[tK xs _ (bF _)]
     simp only[bo,bV]
     by_cases c1:j<xs.length
     ·rw[aO c1,az (by omega)]
     ·have c2:j=xs.length:=by omega
      subst c2;rw[az c1,aO F,aO (by omega),fR];rfl)
    exact yy _ _ _ hB
   ·omega
  ·have YB:xs.length≤c:=by
    rcases key with⟨bk,o,rfl⟩|⟨_,rfl,_⟩
    ·obtain⟨_,full,_,h1,_⟩:=hI.row hO;simpa using h1
    ·simp
   refine(Any2.slices_Insert_int_end_grow wy b xs.length c vb 0 1 1 (ints xs) [.int .i64 x] w (by decide) YB (by omega) (by omega) (by simp) F (fun e=>key.elim (fun h=>by obtain⟨_,_,h⟩:=h;rw[e]at h;cases h) (fun h=>by rw[h.2.1];rfl)) (fun a ha j v hv=>by
    obtain⟨bk,o,sp⟩:=a
    subst ha
    have yx:sp=none:=(hI.row hO).1
    subst yx
    rw[qY]
    obtain⟨hj,e⟩:=List.getElem?_eq_some_iff.1 hv
    obtain⟨_,full,hb,h1,h2,h3⟩:=hI.row hO
    have:=h3 j hj
    simp only[World.cell?,hb];simpa[e]using this) gv Y1).mono ?_
   rintro e w' ⟨rfl,rfl⟩
   refine⟨_,_,F,?_,_,_,F,F⟩
   obtain⟨cc,Yq⟩: ∃cc,grownCap w (xs.length+1) c 3=cc:=⟨_,F⟩
   have hge:xs.length+1≤cc:=Yq▸grownCap_ge w _ _ _
   rw[show grownCap w (xs.length+1) c (Bt.t 3)=cc from Yq]
   have hz: ∀k,Builtin.zeroCells (Value.int .i64 0).cells k=(List.replicate k (Value.int .i64 0)).toArray:=fun k=>by
    have:=qX (.int .i64 0) k
    simpa[Builtin.zeroCells,Value.cells]using this
   rw[hz]
   refine grown _ cc _ F F F (by show(w.heap.push _).size=_;simp) (fun k hk=>by
    show(w.heap.push _)[k]? =_
    rw[Array.getElem?_push,az (by omega)]) (by show(w.heap.push (Obj.cells _ 3 (0,0)))[w.heap.size]? =_;rw[Array.getElem?_push_size]) hge (by simp;omega) (fun j hj=>by
    rw[abt]
    simp only[List.append_toArray,List.getElem?_toArray]
    rw[bH (by simp;omega)])
end Go.Proofs.YtgdbfideeeegmaaGreatDoor

namespace Go.Proofs.YtgdbfideeeegmaaGreatDoor
open Go.Lx Go.RowKit _root_.Go.Proofs.Tryz
theorem uv {α:Type} {p:α→Bool} {xs:List α} {k:Nat} (h:k<xs.length) (ha:(xs.take k).any p=false) (hp:p xs[k]=false):(xs.take (k+1)).any p=false:=by
 rw[aH h,List.any_append,ha];simp[hp]
theorem Od {p:Int→Bool} {xs:List Int} {i:Int} (h:(xs.any p=false∧i= -1)∨ ∃k:Nat,i=(k:Int)∧k<xs.length∧(xs.take k).any p=false∧p (xs.getD k 0)=true):decide (i≥0)=xs.any p:=by
 rcases h with⟨h1,rfl⟩|⟨k,rfl,h1,_,h2⟩
 ·rw[h1];decide
 ·rw[show xs.any p=true from List.any_eq_true.2 ⟨_,aQ h1,by rwa[av,ap h1]at h2⟩];exact ay (by omega)
theorem FW {α:Type} {p:α→Bool} {xs:List α} {k:Nat} (h:k<xs.length) (hp:p xs[k]=true):xs.any p=true:=List.any_eq_true.2 ⟨_,aQ h,hp⟩
theorem sj (base:World) [dE Tryz.prog base] (b:Option Addr) (c:Nat) (xs:List Int) (hS:Sl base b (ints xs)) (hb:xs.length<9223372036854775807) (fv:Value) (p:Int→Bool) (OO:List Lx.Item) (hy: ∀x∈xs,eK Tryz.prog base fv [vI x] OO (fun v O'=>v=.bool (p x)∧O'=OO)):
  bW Tryz.prog base 194 [.slice b xs.length c,fv] OO (fun v O'=> ∃i:Int,v=vI i∧((xs.any p=false∧i= -1)∨ ∃k:Nat,i=(k:Int)∧k<xs.length∧(xs.take k).any p=false∧p (xs.getD k 0)=true)∧O'=OO):=by
 refine aF func194 F ntmps194 F ?_
 refine ai (aj F (ae (aM (ai (ah F (ad (cQ cL F) (ah F (ae (aU ?_)))))))))
 refine eF (fun(k:Nat) ρ O=>O=OO∧k≤xs.length∧(xs.take k).any p=false∧dv [(0,(.slice b xs.length c)),(1,fv),(7,vI (xs.length:Int)),(8,vI (k:Int))] ρ) (fun k=>xs.length-k) 0 ?_ ?_
 ·exact⟨F,bn _,F,⟨F,F,F,F,trivial⟩⟩
 rintro k ρ O ⟨rfl,hk,mJ,hH⟩
 obtain⟨gF,rfl⟩:=hH.elim
 clear hH
 refine ai (ad (cT F F) (ae (aM (aP F (fun hc=>?_) (fun hc=>?_)))))
 ·have ku:k<xs.length:=by omega
  refine aE (aM (aU (ai (ah F (aj F (ae (ai (ah F (ah F (ah F (ad (dU (i:=k) cL bj F F (aL hS) ku (by rw[ar];exact ku)) (ad (de dP F F (aL hS) (gL ku)) ?_))))))))))))
  have qA:=hy xs[k] (aQ ku)
  refine ao F (eN qA F F ?_)
  clear qA
  rintro vr O' ⟨rfl,rfl⟩
  refine ae (T.cond F (fun hc=>?_) (fun hc=>?_))
  ·refine aM ?_
   refine a7 (ah F (aj F (ae (aK (aA ?_)))))
   refine aS (vI (k:Int)) Tryz.results194 F ?_
   exact⟨_,cj (aZ _),k,F,.inr ⟨k,F,ku,mJ,by rw[av,ap ku];exact hc⟩,F⟩
  refine aE (a7 (ad (dy (a:=k) (b:=1) F F (by omega)) (ah F (ae ?_))))
  exact⟨k+1,by omega,F,by omega,uv ku mJ hc,⟨F,F,F,F,trivial⟩⟩
 have Kf: ¬k<xs.length:=by omega
 refine cK ?_
 refine ai (aj F (ae (aK (aA ?_))))
 refine aS (vI (-1)) Tryz.results194 F ?_
 exact⟨_,cj (aZ _), -1,F,.inl ⟨by rw[bw (by omega)]at mJ;exact mJ,F⟩,F⟩
theorem yG (base:World) [dE Tryz.prog base] (b:Option Addr) (c:Nat) (xs:List Int) (hS:Sl base b (ints xs)) (hb:xs.length<9223372036854775807) (fv:Value) (p:Int→Bool) (OO:List Lx.Item) (hy: ∀x∈xs,eK Tryz.prog base fv [vI x] OO (fun v O'=>v=.bool (p x)∧O'=OO)):
  bW Tryz.prog base 195 [.slice b xs.length c,fv] OO (fun v O'=>v=.bool (xs.any p)∧O'=OO):=by
 refine aF func195 F ntmps195 F ?_
 refine ai (aj F (ae (ai (ah F (ah F ?_)))))
 have Cv:=sj base b c xs hS hb fv p OO hy
 refine ao F (bl Eo Cv F ?_)
 clear Cv
 rintro v O' ⟨i,rfl,hi,rfl⟩
 refine ad (lB F F) (aj F (ae (aK (aA ?_))))
 refine aS (.bool (decide (i≥0))) Tryz.results195 F ?_
 exact⟨_,cj (aZ _),ax Value.bool (Od hi),F⟩
theorem ZS (base:World) [dE Tryz.prog base] (d:cU) (k:DK) (ha:At base d k) (hv:Valid d) (z1 s:Nat) (hs:s<d.next.length):
  bW Tryz.prog base 196 [vN s,.pointer (aD z1)] [oI z1 25 (dC d k)] (fun v O'=>v=.bool (dr d s)∧O'=[oI z1 25 (dC d k)]):=by
 refine aF func196 F ntmps196 F ?_
 refine ai (aj F (ae (ai (ad (a_ cZ F dA F F) (ad (bi 0 eB F F F F) (ah F (ad (dU (i:=s) eB fx F F (aL ha.aY) (by rw[hv.fin];exact hs) (by rw[ar,hv.fin];exact hs)) (ad (de AG F F (aL ha.aY) (o5 hv hs)) (aj F (ae (aK ?_)))))))))))
 refine aS (.bool (dr d s)) Tryz.results196 F ?_
 exact⟨F,F⟩
theorem wj (w:World) [dE Tryz.prog w] (d:cU) (k:DK) (ha:At w d k) (hv:Valid d) (b:Option Addr) (c:Nat) (l:List Nat) (hS:Sl w b (bS l)) (hl: ∀s∈l,s<d.next.length) (hb:l.length≤1000000):
  cH Tryz.prog 148 [dV d k,.slice b l.length c] w fun v N=>v=.bool (l.any (dr d))∧N=[]:=by
 refine aF func148 F ntmps148 F ?_
 refine ai (ao F (dG (cs:=(dC d k)) F F (fun z1=>?_)))
 refine aj F (ae (ai (ah F (ad (eZ) ?_))))
 have Cv:=(show bW _ _ _ _ _ _ from by
   have h9:=yG w b c (l.map fun y:Nat=>(y:Int)) (by rw[gl];exact hS) (by rw[ar];omega) (.func (.func 196) #[] #[.pointer (aD z1)]) (fun x=>dr d x.toNat) [oI z1 25 (dC d k)] (fun x hx=>by
    obtain⟨s,hs,rfl⟩:=List.mem_map.1 hx
    exact cP (first:=[]) (args:=[vI (s:Int)]) (gr:=[.pointer (aD z1)]) Sd (ZS w d k ha hv z1 s (hl s hs)))
   rw[ar]at h9
   exact h9)
 refine ao F (bl Se Cv F ?_)
 clear Cv
 rintro vr O' ⟨rfl,rfl⟩
 refine aj F (ae (aK (aA ?_)))
 refine aS (.bool ((l.map fun y:Nat=>(y:Int)).any fun x=>dr d x.toNat)) Tryz.results148 F ?_
 exact⟨[],Sub.z,ax Value.bool (by rw[List.any_map];rfl),F⟩
theorem Qe (w:World) [dE Tryz.prog w] (d:cU) (k:DK) (ha:At w d k) (hv:Valid d) (b:Option Addr) (c:Nat) (l:List Nat) (hS:Sl w b (bS l)) (hl: ∀s∈l,s<d.next.length) (hb:l.length≤1000000) (x:Nat) (hx:x<eh d):
  cH Tryz.prog 144 [dV d k,.slice b l.length c,v8 x] w fun v N=> ∃b' c',v=.slice b' (fU d l x).length c'∧N=[aq b' c' 3 1 (bS (fU d l x))]:=by
 refine aF func144 F ntmps144 F ?_
 have Nk:=ha.rows.1
 refine ai (ao F (dG (cs:=(dC d k)) F F (fun z1=>?_)))
 refine aj F (ae (aM (ai (ah F (ad (cQ cL F) (ah F (ae (aU (T.eX 3 1 ?_)))))))))
 let eP:Lx.Item:=oI z1 25 (dC d k)
 refine dO (fun(i:Nat) ρ O=> ∃(rb:Option Addr) (rc:Nat),O=[aq rb rc 3 1 (ints ((l.take i).map fun s=>((fm d s x:Nat):Int))),eP]∧i≤l.length∧dv [(0,(dV d k)),(1,(.slice b l.length c)),(2,v8 x),(3,(.pointer (aD z1))),(6,(.slice rb i rc)),(9,(.slice b l.length c)),(10,vI (l.length:Int)),(11,vN i)] ρ) (fun i=>l.length-i) 0 ?_ ?_
 ·exact⟨none,0,F,bn _,(.of F)⟩
 rintro i ρ O ⟨rb,rc,rfl,hi,hH⟩
 obtain⟨gF,rfl⟩:=hH.elim
 clear hH
 refine ai (ad (cT F F) (ae (aM (aP F (fun hc=>?_) (fun hc=>?_)))))
 ·have Cw:i<l.length:=by omega
  have rM:l[i]<d.next.length:=hl _ (aQ Cw)
  obtain⟨v1,c1,g1,s1⟩:=ha.rows.get rM
  have Kg:d.next[l[i]].length=eh d:=hv.len _ (aQ rM)
  have yY:x<d.next[l[i]].length:=by rw[Kg];exact hx
  refine aE (aM (aU (ai (ad (dU (i:=i) cL bj F F (aL hS)) (ad (de dP F F (aL hS) ij) (aj F (ae (a7 (ah F (ad (a_ cZ F fz F F) (ad (bi 1 e_ F F F F) (ah F (ad (dU (i:=l[i]) e_ cV F F (aL ha.outer) rM (Nk▸rM)) (ad (de cL F F (aL ha.outer) g1) (ah F (ad (dU (i:=x) cL bj F F (aL s1) yY (by rw[ar];exact yY)) (ad (de dP F F (aL s1) (wH hv rM hx)) (ao F (cN (v:=vN (fm d l[i] x)) cL bj F F F (fun z2=>?_))))))))))))))))))))
  refine ao F (cW 1 cL cL bj F F F F (by simp;omega) (by decide) (Src.row (j:=0) F (by simp)) (by simp[fa]) (by omega) (by decide) (by decide) (fun z3 kH=>?_))
  refine aj F (ae (a7 (ad (dy (a:=i) (b:=1) F F (by omega)) (ah F (ae ?_)))))
  exact⟨i+1,by omega,[aq z3 kH 3 1 ((ints ((l.take i).map fun s=>((fm d s x:Nat):Int)))++[vN (fm d l[i] x)]),eP],(by exact Sub.d (.k (.k .z))),z3,kH,by rw[aH Cw,bm,show ints ((l.take i).map (fun s=>((fm d s x:Nat):Int))++[l[i]].map (fun s=>((fm d s x:Nat):Int)))=ints ((l.take i).map fun s=>((fm d s x:Nat):Int))++[vN (fm d l[i] x)]from bm],by omega,(.of F)⟩
 have Qg: ¬i<l.length:=by omega
 refine cK ?_
 refine aM ?_
 have we:i=l.length:=by omega
 subst we
 rw[List.take_length]
 refine a7 (ah F (ao F (bl Sf (na [0] (by have h9:=Wb w rb rc (l.map fun s=>((fm d s x:Nat):Int)) (by rw[ar];omega);rw[ar]at h9;exact h9)) F ?_)))
 rintro vr O' ⟨A1,rfl,rfl,rfl⟩
 refine ae (ai (ah F ?_))
 have xr:=bW.under (A:=[aq rb rc 3 1 (ints (qB (l.map fun s=>((fm d s x:Nat):Int))))]) (B:=[eP]) (O:=[aq rb rc 3 1 (ints (qB (l.map fun s=>((fm d s x:Nat):Int)))),eP]) (show bW _ _ _ _ _ (fun v O'=>v=.slice rb (fU d l x).length rc∧O'=[aq rb rc 3 1 (bS (fU d l x))])from by
   have h9:=Kh w rb rc (qB (l.map fun s=>((fm d s x:Nat):Int))) (by rw[List.length_mergeSort,ar];exact hb)
   rw[HO hv.toVal hl hx,ar,gl,List.length_mergeSort,ar]at h9
   exact h9) (by exact Sub.rf)
 refine ao F (bl Sg xr F ?_)
 clear xr
 rintro vr O' ⟨A1,rfl,rfl,rfl⟩
 refine aj F (ae (aK (aA ?_)))
 refine aS (.slice rb ((fU d l x).length) rc) Tryz.results144 F ?_
 exact⟨[aq rb rc 3 1 (bS (fU d l x))],(by exact Sub.k .z),rb,rc,F,F⟩
theorem Qh (base:World) [dE Tryz.prog base] (n:Nat) (b:Option Addr) (c cv:Nat) (l:List Nat) (s:Nat) (ha:l.Pairwise (· < ·)) (hl: ∀s∈l,s<n) (hs:s<n) (hb:l.length≤1000000):
  bW Tryz.prog base 149 [.slice b l.length cv,vN s] [aq b c 3 1 (bS l)] (fun v O'=> ∃b' c' c2,v=.slice b' (AN n l s).length c'∧O'=[aq b' c2 3 1 (bS (AN n l s))]):=by
 refine aF func149 F ntmps149 F ?_
 refine ai (aj F (ae (ai (ah F (ah F (ao F (bl Sh (aX fun w1 hI=>(haveI:=et hI;Oe w1 b cv l s (hI.ii (mG 0 F)) ha hb)) F ?_)))))))
 rintro vr O' ⟨N,rfl,rfl,rfl⟩
 refine ah F (ad (bE (vs:=_) F F) (ad (bE (vs:=_) F F) (aj F (aj F (ae (aM (ai (ah F (ae (aP F (fun hc=>?_) (fun hc=>?_)))))))))))
 ·refine aM ?_
  refine a7 (ah F (aj F (ae (aK (aA ?_)))))
  refine aS (.slice b l.length cv) Tryz.results149 F ?_
  rw[Of ha hl hc]
  exact⟨[aq b c 3 1 (bS l)],(by exact Sub.rf),b,cv,c,F,F⟩
 refine aE (ai (ah F ?_))
 refine ao F (bl Ki (aX fun w1 hI=>(haveI:=et hI;(show cH _ _ _ _ _ from by
   have h9:=Kj w1 b cv (l.map fun y:Nat=>(y:Int)) (by rw[gl];exact hI.ii (mG 0 F)) (by rw[ar];exact hb)
   rw[ar,gl]at h9
   exact h9))) F ?_)
 rintro vr O' ⟨N,rfl,nb,nc,rfl,rfl,YB⟩
 refine ah F (ah F (ao F (cN (v:=vN s) cL bj F F F (fun z1=>?_))))
 have nk:=bW.under (A:=[aq nb nc 3 1 (bS l),aq (aD z1) 1 3 1 [vN s]]) (B:=[aq b c 3 1 (bS l)]) (O:=[aq (aD z1) 1 3 1 [vN s],aq nb nc 3 1 (bS l),aq b c 3 1 (bS l)]) (show bW _ _ _ _ _ (fun v O'=> ∃b' c',v=.slice b' (l.length+1) c'∧O'=[aq b' c' 3 1 (bS (AN n l s))])from by
   have h9:=Og base nb nc (l.countP (· <s)) z1 (l.map fun y:Nat=>(y:Int)) (s:Int) (by rw[ar];exact List.countP_le_length) (by rw[ar];exact hb) YB
   rw[←List.map_take,←List.map_drop,ar,gl,show ints (List.map (fun y:Nat=>(y:Int)) (l.take (l.countP (· <s)))++(s:Int)::List.map (fun y:Nat=>(y:Int)) (l.drop (l.countP (· <s))))=bS (AN n l s) by rw[←FX ha hl hs hc,←gl,bm,cJ]]at h9
   exact h9) (by exact Sub.ew [aq (aD z1) 1 3 1 [vN s]] _ (.k (.k .z)))
 refine ao F (bl Si nk F ?_)
 clear nk
 rintro vr O' ⟨A1,rfl,ib,ic,rfl,rfl⟩
 refine aj F (ae (aK (aA ?_)))
 refine aS (.slice ib (l.length+1) ic) Tryz.results149 F ?_
 have IL:(AN n l s).length=l.length+1:=by rw[←FX ha hl hs hc];simp;have:=List.countP_le_length (p:=fun y=>decide (y<s)) (l:=l);omega
 exact⟨[aq ib ic 3 1 (bS (AN n l s))],(by exact Sub.k .z),ib,ic,ic,by rw[IL],F⟩
end Go.Proofs.YtgdbfideeeegmaaGreatDoor

namespace Go.Proofs.YtgdbfideeeegmaaGreatDoor
open Go.Lx Go.RowKit _root_.Go.Proofs.Tryz
theorem ID (base:World) [dE Tryz.prog base] (b:Option Addr) (c:Nat) (xs:List Nat) (hS:Sl base b (p7 xs)) (hb:xs.length<9223372036854775807) (fv:Value) (p:Nat→Bool) (OO:List Lx.Item) (hy: ∀x∈xs,eK Tryz.prog base fv [.int .u8 (x:Int)] OO (fun v O'=>v=.bool (p x)∧O'=OO)):
  bW Tryz.prog base 128 [.slice b xs.length c,fv] OO (fun v O'=> ∃i:Int,v=vI i∧decide (i≥0)=xs.any p∧O'=OO):=by
 refine aF func128 F ntmps128 F ?_
 refine ai (aj F (ae (aM (ai (ah F (ad (cQ underlying43 F) (ah F (ae (aU ?_)))))))))
 refine eF (fun(k:Nat) ρ O=>O=OO∧k≤xs.length∧(xs.take k).any p=false∧dv [(0,(.slice b xs.length c)),(1,fv),(7,vI (xs.length:Int)),(8,vI (k:Int))] ρ) (fun k=>xs.length-k) 0 ?_ ?_
 ·exact⟨F,bn _,F,⟨F,F,F,F,trivial⟩⟩
 rintro k ρ O ⟨rfl,hk,mJ,hH⟩
 obtain⟨gF,rfl⟩:=hH.elim
 clear hH
 refine ai (ad (cT F F) (ae (aM (aP F (fun hc=>?_) (fun hc=>?_)))))
 ·have ku:k<xs.length:=by omega
  refine aE (aM (aU (ai (ah F (aj F (ae (ai (ah F (ah F (ah F (ad (dU (i:=k) underlying43 du F F (aL hS) ku (by rw[ar];exact ku)) (ad (de underlying5 F F (aL hS) (wV ku)) ?_))))))))))))
  have qA:=hy xs[k] (aQ ku)
  refine ao F (eN qA F F ?_)
  clear qA
  rintro v O' ⟨rfl,rfl⟩
  refine ae (T.cond F (fun hc=>?_) (fun hc=>?_))
  ·refine aM ?_
   refine a7 (ah F (aj F (ae (aK (aA ?_)))))
   refine aS (vI (k:Int)) Tryz.results128 F ?_
   exact⟨_,cj (aZ _),k,F,by rw[RI ku hc];exact ay (by omega),F⟩
  refine aE (a7 (ad (lz F F (by omega)) (ah F (ae ?_))))
  exact⟨k+1,by omega,F,by omega,JB ku mJ hc,⟨F,F,F,F,trivial⟩⟩
 have Kf: ¬k<xs.length:=by omega
 refine cK ?_
 refine ai (aj F (ae (aK (aA ?_))))
 refine aS (vI (-1)) Tryz.results128 F ?_
 exact⟨_,cj (aZ _), -1,F,by rw[bw (by omega)]at mJ;rw[mJ];decide,F⟩
theorem tY (base:World) [dE Tryz.prog base] (b:Option Addr) (c:Nat) (xs:List Nat) (hS:Sl base b (p7 xs)) (hb:xs.length<9223372036854775807) (fv:Value) (p:Nat→Bool) (OO:List Lx.Item) (hy: ∀x∈xs,eK Tryz.prog base fv [.int .u8 (x:Int)] OO (fun v O'=>v=.bool (p x)∧O'=OO)):
  bW Tryz.prog base 91 [.slice b xs.length c,fv] OO (fun v O'=>v=.bool (xs.any p)∧O'=OO):=by
 refine aF func91 F ntmps91 F ?_
 refine ai (aj F (ae (ai (ah F (ah F ?_)))))
 have Cv:=ID base b c xs hS hb fv p OO hy
 refine ao F (bl Tz Cv F ?_)
 clear Cv
 rintro v O' ⟨i,rfl,hi,rfl⟩
 refine ad (lB F F) (aj F (ae (aK (aA ?_))))
 refine aS (.bool (decide (i≥0))) Tryz.results91 F ?_
 exact⟨_,cj (aZ _),ax Value.bool hi,F⟩
theorem DD (base:World) [dE Tryz.prog base] (d:cU) (nb fb:Option Addr) (nc fc:Nat) (Nl:0≤d.vars) (Re:d.vars≤6) (bx x:Nat) (hx:x<256):
  bW Tryz.prog base 94 [.int .u8 (x:Int),.pointer (aD bx)] [oI bx 25 [(vI d.vars),(vI d.start),(.slice nb d.next.length nc),(.slice fb d.aY.length fc)]] (fun v O'=>v=.bool (decide (2^d.vars.toNat≤x))∧O'=[oI bx 25 [(vI d.vars),(vI d.start),(.slice nb d.next.length nc),(.slice fb d.aY.length fc)]]):=by
 refine aF func94 F ntmps94 F ?_
 refine ai (aj F (ae (ai (ah F (ad (fX underlying5 underlying3 F (gS ⟨by omega,by omega⟩)) (ad (a_ underlying25 F bj F F) (ad (bi 0 underlying3 F F F F) (ad (nU (v:=d.vars.toNat) F (by show Value.int _ d.vars=_;rw[cR Nl]) (by omega)) (ad (lB F F) (aj F (ae (aK ?_))))))))))))
 refine aS (.bool (decide ((x:Int)≥((2^d.vars.toNat:Nat):Int)))) Tryz.results94 F ?_
 exact⟨ax Value.bool (decide_eq_decide.2 (by omega)),F⟩
theorem abi (w:World) [dE Tryz.prog w] (d:cU) (nb fb:Option Addr) (nc fc:Nat) (vs:List Value) (h:jt w d nb vs fb) (hv:Valid d) (wb:Option Addr) (wc:Nat) (l:List Nat) (hW:Sl w wb (p7 l)) (UF:l.length<9223372036854775807) (Pe:Wd d l):
  cH Tryz.prog 95 [.agg (fw d nb nc fb fc).toArray,.slice wb l.length wc] w fun v N=>v=vI ((Lx.runN d d.start.toNat l:Nat):Int)∧N=[]:=by
 refine aF func95 F ntmps95 F ?_
 have Ar:=hv.s0
 have PG:=hv.s1
 have Nk:=h.rows.1
 let eP:Value:=(.slice fb d.aY.length fc)
 let gC:Value:=(.slice nb d.next.length nc)
 refine ai (ao F (dG (cs:=[(vI d.vars),(vI d.start),gC,eP]) F F (fun b1=>?_)))
 refine aj F (ae (ai (ad (a_ underlying146 F bL F F) (ad (a_ underlying25 F bj F F) (ad (bK (bi 0 underlying3 F F F F) (v':=vI ((Lx.runN d d.start.toNat (l.take 0):Nat):Int)) (by show Value.int _ d.start=_;rw[show Lx.runN d d.start.toNat (l.take 0)=d.start.toNat from F,cR Ar])) (aj F (ae (aM (ai (ah F (ad (cQ underlying43 F) (ah F (ae (aU ?_))))))))))))))
 refine eF (fun(k:Nat) ρ O=>O=[oI b1 146 [(vI d.vars),(vI d.start),gC,eP]]∧k≤l.length∧dv [(0,(.agg #[(vI d.vars),(vI d.start),gC,eP])),(1,(.slice wb l.length wc)),(2,(.pointer (aD b1))),(4,vI 0),(5,vI ((Lx.runN d d.start.toNat (l.take k):Nat):Int)),(11,(.slice wb l.length wc)),(12,vI (l.length:Int)),(13,vI (k:Int))] ρ) (fun k=>l.length-k) 0 ?_ ?_
 ·exact⟨F,bn _,(.of F)⟩
 rintro k ρ O ⟨rfl,hk,hH⟩
 obtain⟨gF,rfl⟩:=hH.elim
 clear hH
 refine ai (ad (cT F F) (ae (aM (aP F (fun hc=>?_) (fun hc=>?_)))))
 ·have pN:k<l.length:=by omega
  obtain⟨o,ho⟩: ∃o,Lx.runN d d.start.toNat (l.take k)=o:=⟨_,F⟩
  have Yk:o<d.next.length:=by rw[←ho];exact lU hv.toVal (by omega) _ (fun x hx=>Pe x (List.mem_of_mem_take hx))
  have WL:l[k]<2^d.vars.toNat:=Pe _ (aQ pN)
  obtain⟨vb,vc,g1,s1⟩:=h.rows.get Yk
  have Kg:d.next[o].length=2^d.vars.toNat:=hv.len _ (aQ Yk)
  obtain⟨hta,_,abj,OF⟩:=hv.gY Yk WL
  have OF:(ints d.next[o])[l[k]]? =some (vI ((fm d o l[k]:Nat):Int)):=by rw[gL abj,OF]
  refine aE (aM (aU (ai (ad (dU (i:=k) underlying43 du F F (aL hW) pN (by rw[ar];exact pN)) (ad (de underlying5 F F (aL hW) (wV pN)) (aj F (ae (a7 (ad (a_ underlying146 F bL F F) (ad (a_ underlying25 F fz F F) (ad (bi 0 underlying22 F F F F) (ad (bK (aN F) (v':=vI ((o:Nat):Int)) (by show Value.int _ _=_;rw[ho])) (ad (dU (i:=o) underlying22 cV F F (aL h.outer) Yk (Nk▸Yk)) (ad (de underlying56 F F (aL h.outer) g1) (ah F (ad (dU (i:=l[k]) underlying56 bj F F (aL s1) (by rw[Kg];exact WL) (by rw[ar,Kg];exact WL)) (ad (de underlying3 F F (aL s1) OF) (aj F (ae (a7 (ad (lz F F (by omega)) (ah F ?_))))))))))))))))))))))
  refine ae ?_
  refine⟨k+1,by omega,F,by omega,?_⟩
  rw[IE pN,ho];exact(.of F)
 have xC: ¬k<l.length:=by omega
 refine cK ?_
 refine ai (ah F (aj F (ae (aK (aA ?_)))))
 refine aS (vI ((Lx.runN d d.start.toNat (l.take k):Nat):Int)) Tryz.results95 F ?_
 have Ux:k=l.length:=by omega
 exact⟨[],cj (cq _),by rw[bw (by omega)],F⟩
theorem abk (w:World) [dE Tryz.prog w] (d:cU) (nb fb:Option Addr) (nc fc:Nat) (vs:List Value) (h:jt w d nb vs fb) (hb:d.next.length<9223372036854775807) (vY: ∀r∈d.next,r.length<9223372036854775807) (yw:d.aY.length<9223372036854775807) (wb:Option Addr) (wc:Nat) (l:List Nat) (hW:Sl w wb (p7 l)) (UF:l.length<9223372036854775807) (Pt: ∀x∈l,x<256):
  cH Tryz.prog 58 [.agg (fw d nb nc fb fc).toArray,.slice wb l.length wc] w fun v N=>v=.tuple #[vI ((vW d l:Nat):Int),vI ((kp d l:Nat):Int)]∧N=[]:=by
 refine aF func58 F ntmps58 F ?_
 refine ai (ao F (dG (cs:=[(vI d.vars),(vI d.start),(.slice nb d.next.length nc),(.slice fb d.aY.length fc)]) F F (fun b1=>?_)))
 refine aj F (aj F (ae (aM (ai (ad (eu 0 underlying25 F bL F F F) ?_)))))
 let gu:List Lx.Item:=[oI b1 25 [(vI d.vars),(vI d.start),(.slice nb d.next.length nc),(.slice fb d.aY.length fc)]]
 have u_:=fun(w1:World) (hI:Inv w gu w1)=>(haveI:=Inv.tab (P:=Tryz.prog) hI;jf w1 d nb fb nc fc vs (hI.BQ h) hb vY yw)
 refine ao F (bl vp (aX u_) F ?_)
 clear u_
 rintro v O' ⟨N,rfl,rfl,rfl⟩
 refine aj F (ae (ai (ah F ?_)))
 by_cases hE:(dD d:Int)≠0
 ·refine ad (aB (dQ F F) (ay hE)) ?_
  refine ae ?_
  refine bO F ?_
  refine ai (ah F (aj F (aj F (ae (aK (aA ?_))))))
  refine dl (vI 0) (vI (dD d:Int)) Tryz.results58 F F ?_
  have T_:kp d l=dD d:=by unfold kp;rw[aO (by omega)]
  have Ja: ¬kp d l=0:=by omega
  exact⟨[],cj (cq _),by unfold vW;rw[az Ja,T_];try rfl,F⟩
 refine ad (aB (dQ F F) (ak hE)) (ae (a6 F (aE (aM (aU (aM ?_))))))
 have he:dD d=0:=by omega
 have hv:Valid d:=eA.1 he
 refine a7 (ah F (ad (cQ underlying43 F) ?_))
 by_cases h64:(l.length:Int)>64
 ·refine ad (aB (iy F F) (ay h64)) ?_
  refine aj F (ae ?_)
  refine bO F ?_
  refine ai (aj F (aj F (ae (aK (aA ?_)))))
  refine dl (vI 0) (vI 4) Tryz.results58 F F ?_
  have T_:kp d l=4:=by unfold kp;rw[az (by simp[he]),aO (by omega)]
  have Ja: ¬kp d l=0:=by omega
  exact⟨[],cj (cq _),by unfold vW;rw[az Ja,T_];try rfl,F⟩
 refine ad (aB (iy F F) (ak h64)) (aj F (ae (a6 F (ai (ah F (ad (eZ) ?_))))))
 by_cases mJ:l.any (fun x=>decide (2^d.vars.toNat≤x))=true
 ·have nk:=(tY w wb wc l hW UF (.func (.func 94) #[] #[.pointer (aD b1)]) (fun x=>decide (2^d.vars.toNat≤x)) gu (fun x hx=>cP (first:=[]) (args:=[.int .u8 (x:Int)]) (gr:=[.pointer (aD b1)]) QW (DD w d nb fb nc fc hv.v0 hv.v6 b1 x (Pt x hx)))).mono (fun v O' hh=>(⟨hh.1.trans (ax Value.bool ((show∀b:Bool,b=decide (b=true)from fun b=>by cases b<;>rfl) _)),hh.2⟩:v=.bool (decide (l.any (fun x=>decide (2^d.vars.toNat≤x))=true))∧O'=gu))
  refine ao F (bl QV nk F ?_)
  clear nk
  rintro v O' ⟨rfl,rfl⟩
  rw[ay mJ]
  refine aj F (ae ?_)
  refine bO F ?_
  refine ai (aj F (aj F (ae (aK (aA ?_)))))
  refine dl (vI 0) (vI 1) Tryz.results58 F F ?_
  have T_:kp d l=1:=by unfold kp;rw[az (by simp[he]),az (by omega),aO mJ]
  have Ja: ¬kp d l=0:=by omega
  exact⟨[],cj (cq _),by unfold vW;rw[az Ja,T_];try rfl,F⟩
 have nk:=(tY w wb wc l hW UF (.func (.func 94) #[] #[.pointer (aD b1)]) (fun x=>decide (2^d.vars.toNat≤x)) gu (fun x hx=>cP (first:=[]) (args:=[.int .u8 (x:Int)]) (gr:=[.pointer (aD b1)]) QW (DD w d nb fb nc fc hv.v0 hv.v6 b1 x (Pt x hx)))).mono (fun v O' hh=>(⟨hh.1.trans (ax Value.bool ((show∀b:Bool,b=decide (b=true)from fun b=>by cases b<;>rfl) _)),hh.2⟩:v=.bool (decide (l.any (fun x=>decide (2^d.vars.toNat≤x))=true))∧O'=gu))
 refine ao F (bl QV nk F ?_)
 clear nk
 rintro v O' ⟨rfl,rfl⟩
 rw[ak mJ]
 refine aj F (ae (a6 F (aE (aM ?_))))
 have Ja:kp d l=0:=by unfold kp;rw[az (by simp[he]),az (by omega),az mJ]
 have Pe:Wd d l:=(uu.1 Ja).2.2
 refine a7 (ad (eu 0 underlying25 F bL F F F) (ad (cE (cs:=[(vI d.vars),(vI d.start),(.slice nb d.next.length nc),(.slice fb d.aY.length fc)]) OQ Tt (by kernel_rfl)) (ad (eZ) (aj F (ae (ai (ah F (ah F ?_))))))))
 have L1:=cP (first:=[.agg (fw d nb nc fb fc).toArray]) (args:=[.slice wb l.length wc]) (gr:=[]) XH (aX (fun w1 (hI:Inv w gu w1)=>haveI:=Inv.tab (P:=Tryz.prog) hI;abi w1 d nb fb nc fc vs (hI.BQ h) hv wb wc l (hI.sl hW) UF Pe))
 refine ao F (eN L1 F F ?_)
 clear L1
 rintro v O' ⟨N,rfl,rfl,rfl⟩
 refine aj F (aj F (ae (aK (aA ?_))))
 refine dl (vI ((Lx.runN d d.start.toNat l:Nat):Int)) (vI 0) Tryz.results58 F F ?_
 have T_:=Ja
 exact⟨[],cj (cq _),by unfold vW;rw[aO Ja,T_];try rfl,F⟩
theorem Cs (w:World) [dE Tryz.prog w] (d:cU) (nb fb:Option Addr) (nc fc:Nat) (vs:List Value) (h:jt w d nb vs fb) (hb:d.next.length<9223372036854775807) (vY: ∀r∈d.next,r.length<9223372036854775807) (yw:d.aY.length<9223372036854775807) (wb:Option Addr) (wc:Nat) (l:List Nat) (hW:Sl w wb (p7 l)) (UF:l.length<9223372036854775807) (Pt: ∀x∈l,x<256):
  cH Tryz.prog 29 [.agg (fw d nb nc fb fc).toArray,.slice wb l.length wc] w fun v N=>v=.tuple #[.bool (Aq d l),vI ((kp d l:Nat):Int)]∧N=[]:=by
 refine aF func29 F ntmps29 F ?_
 refine ai (ao F (dG (cs:=[(vI d.vars),(vI d.start),(.slice nb d.next.length nc),(.slice fb d.aY.length fc)]) F F (fun b1=>?_)))
 refine aj F (aj F (ae (ai (ad (eu 0 underlying25 F bL F F F) (ah F ?_)))))
 have oG:=fun(w1:World) (hI:Inv w [oI b1 25 [(vI d.vars),(vI d.start),(.slice nb d.next.length nc),(.slice fb d.aY.length fc)]] w1)=>(haveI:=Inv.tab (P:=Tryz.prog) hI;abk w1 d nb fb nc fc vs (hI.BQ h) hb vY yw wb wc l (hI.sl hW) UF Pt)
 refine ao F (bl XC (aX oG) F ?_)
 clear oG
 rintro v O' ⟨N,rfl,rfl,rfl⟩
 refine ah F (ad (bE (vs:=_) F F) (ad (bE (vs:=_) F F) (aj F (aj F (ae (aM ?_))))))
 have xt:kp d l=0→vW d l<d.aY.length:=fun h0=>by
  obtain⟨hv,_,Pe⟩:=uu.1 h0
  unfold vW;rw[aO h0,hv.fin]
  exact lU hv.toVal (by have:=hv.s0;have:=hv.s1;omega) _ Pe
 refine a7 (ah F ?_)
 by_cases h0:((kp d l:Nat):Int)=0
 ·refine ad (aB (bJ F F) (ay h0)) ?_
  refine ah F (aG F F (a_ underlying25 F dA F F) (aG F F (bi 0 underlying23 F F F F) (aG F F (aN F) (aG F F (dU (i:=(vW d l)) underlying23 fx F F (aL h.aY) (xt (by omega)) (by rw[ar];exact xt (by omega))) (aG F F (de underlying4 F F (aL h.aY) (show(cG d.aY)[vW d l]? =some (.bool (dr d (vW d l))) by rw[iB (xt (by omega))];simp[dr,xt (by omega)])) (ad (cA F F) (ah F (aj F (aj F (ae (aK (aA ?_))))))))))))
  refine dl (.bool (dr d (vW d l))) (vI ((kp d l:Nat):Int)) Tryz.results29 F F ?_
  have h9:kp d l=0:=by omega
  exact⟨[],cj (cq _),by unfold Aq vW;rw[aO h9,aO h9],F⟩
 refine ad (aB (bJ F F) (ak h0)) (ah F (aV F F (aV F F (aV F F (aV F F (aV F F (ad (cg F F) (ah F (aj F (aj F (ae (aK (aA ?_)))))))))))))
 refine dl (.bool false) (vI ((kp d l:Nat):Int)) Tryz.results29 F F ?_
 have h9: ¬kp d l=0:=by omega
 exact⟨[],cj (cq _),by unfold Aq;rw[az h9],F⟩
end Go.Proofs.YtgdbfideeeegmaaGreatDoor

namespace Go.Proofs.YtgdbfideeeegmaaGreatDoor
open Go.Lx Go.RowKit _root_.Go.Proofs.Tryz
theorem Ah:FC Tryz.prog 234 {name:= "s",type:=3,offset:=0,embedded:=false,tag:= "",pkgPath:= "sentinel/boolean",byteOffset:=0} {name:= "t",type:=3,offset:=1,embedded:=false,tag:= "",pkgPath:= "sentinel/boolean",byteOffset:=8}:=⟨ny,dP,dP,F,F,by decide,by decide,by kernel_rfl⟩
theorem Mn (w:World) [dE Tryz.prog w] (a b:cU) (j k:DK) (ha:At w a j) (hb:At w b k) (M_:a.next.length<9223372036854775807) (yN: ∀r∈a.next,r.length<9223372036854775807) (yO:a.aY.length<9223372036854775807) (Ti:b.next.length<9223372036854775807) (Mo: ∀r∈b.next,r.length<9223372036854775807) (Mp:b.aY.length<9223372036854775807) (he:gU a b≠0):
  cH Tryz.prog 190 [dV a j,dV b k] w fun v N=>v=.tuple #[.pointer none,vI (gU a b:Int)]∧N=[]:=by
 refine aF func190 F ntmps190 F ?_
 refine ai (ao F (dG (cs:=(dC a j)) F F (fun nY=>?_)))
 refine ao F (dG (cs:=(dC b k)) F F (fun xq=>?_))
 refine aj F (aj F (ae (aM (ai (ad (eu 1 cZ F bL F F F) (ao F (bl vp (aX fun w1 hI=>(haveI:=et hI;jf w1 a j.nb j.fb j.nc j.fc (dm j.qs) (hI.BQ ha) M_ yN yO)) F ?_)))))))
 rintro vr O' ⟨N,rfl,rfl,rfl⟩
 refine aj F (ae (ai (ah F (ad (dQ F F) (ae (aP F (fun hc=>?_) (fun hc=>?_)))))))
 ·have Cw:dD a≠0:=by omega
  refine ai (ah F (aj F (aj F (ae (aK (aA ?_))))))
  refine dl (.pointer none) (vI (dD a:Int)) Tryz.results190 F F ?_
  exact⟨[],Sub.z,by rw[BG (by omega)],F⟩
 have Qg: ¬dD a≠0:=by omega
 refine aE (aM (ai (ad (eu 0 cZ F bL F F F) (ao F (bl vp (aX fun w1 hI=>(haveI:=et hI;jf w1 b k.nb k.fb k.nc k.fc (dm k.qs) (hI.BQ hb) Ti Mo Mp)) F ?_)))))
 rintro vr O' ⟨N,rfl,rfl,rfl⟩
 refine aj F (ae (ai (ah F (ad (dQ F F) (ae (aP F (fun hc=>?_) (fun hc=>?_)))))))
 ·have acX:dD b≠0:=by omega
  refine ai (ah F (aj F (aj F (ae (aK (aA ?_))))))
  refine dl (.pointer none) (vI (dD b:Int)) Tryz.results190 F F ?_
  exact⟨[],Sub.z,by rw[An (by omega) (by omega)],F⟩
 have acY: ¬dD b≠0:=by omega
 refine aE (aM (ai (ad (a_ cZ F bj F F) (ad (bi 1 dP F F F F) (ad (a_ cZ F bj F F) (ad (bi 0 dP F F F F) (ad (dQ F F) (ae (aP (p:= ¬a.vars=b.vars) (ax Value.bool (decide_eq_decide.2 (by omega))) (fun hc=>?_) (fun hc=>?_))))))))))
 ·refine aM ?_
  refine a7 (aj F (aj F (ae (aK (aA ?_)))))
  refine dl (.pointer none) (vI 7) Tryz.results190 F F ?_
  exact⟨[],Sub.z,by rw[DW (by omega) (by omega) hc];rfl,F⟩
 refine absurd (pY.2 ⟨eA.1 (by omega),eA.1 (by omega),Classical.not_not.1 hc⟩) he
theorem GW (w:World) [dE Tryz.prog w] (a b:cU) (j k:DK) (ha:At w a j) (hb:At w b k) (va:Valid a) (vb:Valid b) (hv:a.vars=b.vars):
  cH Tryz.prog 190 [dV a j,dV b k] w fun v N=> ∃(bp qb m:Nat),v=.tuple #[.pointer (aD bp),vI 0]∧N=[oI bp 238 [(vI a.vars),(vI a.start),(.slice j.nb a.next.length j.nc),(.slice j.fb a.aY.length j.fc),(vI b.vars),(vI b.start),(.slice k.nb b.next.length k.nc),(.slice k.fb b.aY.length k.fc),(.slice (aD qb) ([a.start.toNat*b.next.length+b.start.toNat].length) 1),(.map (some m))],aq (aD qb) 1 234 2 (lI b.next.length [a.start.toNat*b.next.length+b.start.toNat]),dz eL (fun n:Nat=>Value.int .i64 (n:Int)) m (pmap b.next.length [a.start.toNat*b.next.length+b.start.toNat])]:=by
 refine aF func190 F ntmps190 F ?_
 have wa:dD a=0:=eA.2 va
 have wb:dD b=0:=eA.2 vb
 have PG:a.start=((a.start.toNat:Nat):Int):=by have:=va.s0;omega
 have DI:b.start=((b.start.toNat:Nat):Int):=by have:=vb.s0;omega
 have NG:=Am (s:=a.start.toNat) (eE vb.toVal)
 refine ai (ao F (dG (cs:=(dC a j)) F F (fun nY=>?_)))
 refine ao F (dG (cs:=(dC b k)) F F (fun xq=>?_))
 refine aj F (aj F (ae (aM (ai (ad (eu 1 cZ F bL F F F) (ao F (bl vp (aX fun w1 hI=>(haveI:=et hI;jf w1 a j.nb j.fb j.nc j.fc (dm j.qs) (hI.BQ ha) (by have:=va.n4;omega) va.wJ (by have:=va.fin;have:=va.n4;omega))) F ?_)))))))
 rintro vr O' ⟨N,rfl,rfl,rfl⟩
 rw[wa]
 refine aj F (ae (ai (ah F (ad (dQ F F) (ae (a6 F (aE (aM (ai (ad (eu 0 cZ F bL F F F) (ao F (bl vp (aX fun w1 hI=>(haveI:=et hI;jf w1 b k.nb k.fb k.nc k.fc (dm k.qs) (hI.BQ hb) (by have:=vb.n4;omega) vb.wJ (by have:=vb.fin;have:=vb.n4;omega))) F ?_))))))))))))
 rintro vr O' ⟨N,rfl,rfl,rfl⟩
 rw[wb]
 refine aj F (ae (ai (ah F (ad (dQ F F) (ae (a6 F (aE (aM (ai (ad (a_ cZ F bj F F) (ad (bi 1 dP F F F F) (ad (a_ cZ F bj F F) (ad (bi 0 dP F F F F) (ad (dQ F F) ?_))))))))))))))
 refine ae (a6 (ax Value.bool (ak (fun h=>h hv))) (aE (ai (ad (a_ cZ F bj F F) (ad (bi 1 dP F F F F) (ad (a_ cZ F bj F F) (ad (bi 0 dP F F F F) (ad (cE (cs:=[(vI a.start),(vI b.start)]) Gd g_ (by kernel_rfl)) (ao F (bs g_ F (fun KK=>?_)))))))))))
 refine ao F (bN (vs:=[(vI a.start),(vI b.start)]) 0 g_ F F F F ?_)
 refine ae ?_
 let eP:Value:=(.slice j.fb a.aY.length j.fc)
 let gC:Value:=(.slice k.fb b.aY.length k.fc)
 let gu:Value:=(.slice j.nb a.next.length j.nc)
 let gK:Value:=(.slice k.nb b.next.length k.nc)
 refine gz (fun ρ O=> ∃(bp qb m:Nat),O=[oI bp 238 [(vI a.vars),(vI a.start),gu,eP,(vI b.vars),(vI b.start),gK,gC,(.slice (aD qb) 1 1),(.map (some m))],aq (aD qb) 1 234 2 [(vI a.start),(vI b.start)],dz eL (fun n:Nat=>Value.int .i64 (n:Int)) m [((a.start,b.start),(0:Nat))]]∧dv [(0,(dV a j)),(1,(dV b k)),(2,(.pointer (aD nY))),(3,(.pointer (aD xq))),(4,(.pointer (aD bp))),(5,vI 0),(6,vN 0),(7,vN 0),(8,(.pointer (aD KK)))] ρ) ?_ ?_
 ·refine oe [oI KK 234 [(vI a.start),(vI b.start)],oI xq 25 (dC b k),oI nY 25 (dC a j)] 12 mixed F (by exact Sub.rf) (fun _ _ _ _ h=>h) ?_
  refine cB 0 F (by kernel_rfl) (eu 2 cZ F bL F F F) ?_
  refine cB 1 F (by kernel_rfl) (eu 1 cZ F bL F F F) ?_
  refine cB 2 F (by kernel_rfl) (eu 0 ny F g_ F F F) ?_
  refine cB 5 F (by kernel_rfl) (eu 0 ny F g_ F F F) ?_
  refine bg [3,4] (by kernel_rfl) F ⟨⟨_,F,F,cz (m:=1) (parts:=[(0,_)]) (cs:=[(vI a.start),(vI b.start)]) ml g_ (by decide) (by kernel_rfl) F (fun qb=>⟨by exact Sub.d (.k (.k (.k .z))),?_⟩)⟩,⟨_,F,F,lM eL (fun n:Nat=>Value.int .i64 (n:Int)) (fun m=>⟨by exact Sub.d (.k (.k (.k .z))),?_⟩)⟩,trivial⟩
  ·refine bg [4] (by kernel_rfl) F ⟨⟨_,F,F,lM eL (fun n:Nat=>Value.int .i64 (n:Int)) (fun m=>⟨by exact Sub.d (.d (.k (.k (.k .z)))),?_⟩)⟩,trivial⟩
   refine bg [6] (by kernel_rfl) F ⟨⟨_,F,F,fY (a:=(a.start,b.start)) (v:=(0:Nat)) 0 tV (jU Ah) F F F F (by simp) ⟨by exact Sub.d (.d (.k (.k (.k .z)))),?_⟩⟩,trivial⟩
   refine cB 7 F (by kernel_rfl) (aN F) ?_
   refine cB 8 F (by kernel_rfl) (cE (cs:=[(vI a.vars),(vI a.start),gu,eP,(vI b.vars),(vI b.start),gK,gC,(.slice (aD qb) 1 1),(.map (some m))]) A8 EY (by kernel_rfl)) ?_
   refine bg [9] (by kernel_rfl) F ⟨⟨_,F,F,dG (cs:=[(vI a.vars),(vI a.start),gu,eP,(vI b.vars),(vI b.start),gK,gC,(.slice (aD qb) 1 1),(.map (some m))]) F F (fun bp=>⟨by exact Sub.d (.d (.d (.k (.k (.k .z))))),?_⟩)⟩,trivial⟩
   refine cB 10 F (by kernel_rfl) (cx F) ?_
   refine cB 11 F (by kernel_rfl) (cx F) ?_
   exact dw (by kernel_rfl) ⟨bp,qb,m,F,(.of F)⟩ (by exact Sub.k (.ew [dz eL (fun n:Nat=>Value.int .i64 (n:Int)) m [((a.start,b.start),(0:Nat))]] _ (.k .z)))
  refine bg [3,6] (by kernel_rfl) F ⟨⟨_,F,F,cz (m:=1) (parts:=[(0,_)]) (cs:=[(vI a.start),(vI b.start)]) ml g_ (by decide) (by kernel_rfl) F (fun qb=>⟨by exact Sub.d (.d (.k (.k (.k .z)))),?_⟩)⟩,⟨_,F,F,fY (a:=(a.start,b.start)) (v:=(0:Nat)) 0 tV (jU Ah) F F F F (by simp) ⟨by exact Sub.d (.k (.k (.k .z))),?_⟩⟩,trivial⟩
  ·refine bg [6] (by kernel_rfl) F ⟨⟨_,F,F,fY (a:=(a.start,b.start)) (v:=(0:Nat)) 1 tV (jU Ah) F F F F (by simp) ⟨by exact Sub.d (.d (.k (.k (.k .z)))),?_⟩⟩,trivial⟩
   refine cB 7 F (by kernel_rfl) (aN F) ?_
   refine cB 8 F (by kernel_rfl) (cE (cs:=[(vI a.vars),(vI a.start),gu,eP,(vI b.vars),(vI b.start),gK,gC,(.slice (aD qb) 1 1),(.map (some m))]) A8 EY (by kernel_rfl)) ?_
   refine bg [9] (by kernel_rfl) F ⟨⟨_,F,F,dG (cs:=[(vI a.vars),(vI a.start),gu,eP,(vI b.vars),(vI b.start),gK,gC,(.slice (aD qb) 1 1),(.map (some m))]) F F (fun bp=>⟨by exact Sub.d (.d (.d (.k (.k (.k .z))))),?_⟩)⟩,trivial⟩
   refine cB 10 F (by kernel_rfl) (cx F) ?_
   refine cB 11 F (by kernel_rfl) (cx F) ?_
   exact dw (by kernel_rfl) ⟨bp,qb,m,F,(.of F)⟩ (by exact Sub.k (.k (.k .z)))
  refine cB 7 F (by kernel_rfl) (aN F) ?_
  refine bg [3] (by kernel_rfl) F ⟨⟨_,F,F,cz (m:=1) (parts:=[(0,_)]) (cs:=[(vI a.start),(vI b.start)]) ml g_ (by decide) (by kernel_rfl) F (fun qb=>⟨by exact Sub.d (.d (.k (.k (.k .z)))),?_⟩)⟩,trivial⟩
  refine cB 8 F (by kernel_rfl) (cE (cs:=[(vI a.vars),(vI a.start),gu,eP,(vI b.vars),(vI b.start),gK,gC,(.slice (aD qb) 1 1),(.map (some m))]) A8 EY (by kernel_rfl)) ?_
  refine bg [9] (by kernel_rfl) F ⟨⟨_,F,F,dG (cs:=[(vI a.vars),(vI a.start),gu,eP,(vI b.vars),(vI b.start),gK,gC,(.slice (aD qb) 1 1),(.map (some m))]) F F (fun bp=>⟨by exact Sub.d (.d (.d (.k (.k (.k .z))))),?_⟩)⟩,trivial⟩
  refine cB 10 F (by kernel_rfl) (cx F) ?_
  refine cB 11 F (by kernel_rfl) (cx F) ?_
  exact dw (by kernel_rfl) ⟨bp,qb,m,F,(.of F)⟩ (by exact Sub.k (.k (.k .z)))
 rintro ρ O ⟨bp,qb,m,rfl,hH⟩
 obtain⟨gF,rfl⟩:=hH.elim
 clear hH
 refine aK (aA ?_)
 refine dl (.pointer (aD bp)) (vI 0) Tryz.results190 F F ?_
 have e1:lI b.next.length [a.start.toNat*b.next.length+b.start.toNat]=[vI a.start,vI b.start]:=by
  simp only[lI,List.flatMap_cons,List.flatMap_nil,c7,PA,NG.1,NG.2,←PG,←DI]
 have e2:pmap b.next.length [a.start.toNat*b.next.length+b.start.toNat]=[((a.start,b.start),0)]:=by
  show[(un _ _,0)]=_
  simp only[un,NG.1,NG.2,←PG,←DI]
 exact⟨[oI bp 238 [(vI a.vars),(vI a.start),gu,eP,(vI b.vars),(vI b.start),gK,gC,(.slice (aD qb) 1 1),(.map (some m))],aq (aD qb) 1 234 2 [(vI a.start),(vI b.start)],dz eL (fun n:Nat=>Value.int .i64 (n:Int)) m [((a.start,b.start),(0:Nat))]],(by exact Sub.rf),bp,qb,m,F,by rw[e1,e2];rfl⟩
theorem Mq (w:World) [dE Tryz.prog w] (bp:Nat):cH Tryz.prog 191 [.pointer (aD bp)] w fun v N=> ∃b,v=.func (.func 218) #[] #[.pointer (aD b)]∧N=[oI b 227 [(.pointer (aD bp))]]:=by
 refine aF func191 F ntmps191 F ?_
 refine ai (ao F (dG (cs:=[(.pointer (aD bp))]) F F (fun nY=>?_)))
 refine aj F (ae (ai (ad (eZ) (aj F (ae (aK ?_))))))
 refine aS (.func (.func 218) #[] #[(.pointer (aD nY))]) Tryz.results191 F ?_
 exact⟨nY,F,F⟩
theorem XU (base:World) [dE Tryz.prog base] (a b:cU) (j k:DK) (bp m:Nat) (ks:List Nat) (c:Nat) (qb:Option Addr) (qc:Nat) (hk:c∈ks) (hl:ks.length≤17000000):
  bW Tryz.prog base 219 [.pointer (aD bp),(.agg #[vN (c/b.next.length),vN (c%b.next.length)])] [oI bp 238 [(vI a.vars),(vI a.start),(.slice j.nb a.next.length j.nc),(.slice j.fb a.aY.length j.fc),(vI b.vars),(vI b.start),(.slice k.nb b.next.length k.nc),(.slice k.fb b.aY.length k.fc),(.slice qb ks.length qc),(.map (some m))],aq qb qc 234 2 (lI b.next.length ks),dz eL (fun n:Nat=>Value.int .i64 (n:Int)) m (pmap b.next.length ks)] (fun v O'=>v=vN (ix c (add ks c))∧ ∃Mr Ms,O'=[oI bp 238 [(vI a.vars),(vI a.start),(.slice j.nb a.next.length j.nc),(.slice j.fb a.aY.length j.fc),(vI b.vars),(vI b.start),(.slice k.nb b.next.length k.nc),(.slice k.fb b.aY.length k.fc),(.slice Mr ((add ks c).length) Ms),(.map (some m))],aq Mr Ms 234 2 (lI b.next.length (add ks c)),dz eL (fun n:Nat=>Value.int .i64 (n:Int)) m (pmap b.next.length (add ks c))]):=by
 refine aF func219 F ntmps219 F ?_
 refine ai (ao F (dG (cs:=[vN (c/b.next.length),vN (c%b.next.length)]) F F (fun nY=>?_)))
 refine aj F (ae (aM ?_))
 let lw:Lx.Item:=oI bp 238 [(vI a.vars),(vI a.start),(.slice j.nb a.next.length j.nc),(.slice j.fb a.aY.length j.fc),(vI b.vars),(vI b.start),(.slice k.nb b.next.length k.nc),(.slice k.fb b.aY.length k.fc),(.slice qb ks.length qc),(.map (some m))]
 refine T.ds [oI nY 234 [vN (c/b.next.length),vN (c%b.next.length)],lw,aq qb qc 234 2 (lI b.next.length ks),dz eL (fun n:Nat=>Value.int .i64 (n:Int)) m (pmap b.next.length ks)] [(0,0),(1,0),(2,0),(3,0),(4,0),(5,0),(6,0),(7,0),(8,0),(9,0),(10,0)] (by exact Sub.rf) ?_
 refine au F (aN F) (au F (a8 F) (au F (a_ oR F A7 F F) (au F (bi 1 tV F F F F) (au F (eu 0 ny F g_ F F F) (au F (bK (jK (a:=un b.next.length c) tV bj (jU Ah) F F (mG 3 F)) (v':=(.tuple #[vN (ix c ks),.bool true])) (by rw[li];simp only[DX,hk,if_true,if_false,I7,Nat.zero_add];rfl)) (au F (aN F) (au F (bE (vs:=_) F F) (au F (bE (vs:=_) F F) (au F (cx F) (au F (cx F) ?_))))))))))
 refine cw ?_
 refine aM (ai (ah F (ad (jh F) (ae (a6 F (aE (ai (ah F (aj F (ae (aK (aA ?_))))))))))))
 refine aS (vN (ix c ks)) Tryz.results219 F ?_
 have ha:add ks c=ks:=aO hk
 rw[ha]
 exact⟨[lw,aq qb qc 234 2 (lI b.next.length ks),dz eL (fun n:Nat=>Value.int .i64 (n:Int)) m (pmap b.next.length ks)],(by exact Sub.d (.k (.k (.k .z)))),F,qb,qc,F⟩
theorem XV (base:World) [dE Tryz.prog base] (a b:cU) (j k:DK) (bp m:Nat) (ks:List Nat) (c:Nat) (qb:Option Addr) (qc:Nat) (hk:c∉ks) (hl:ks.length≤17000000):
  bW Tryz.prog base 219 [.pointer (aD bp),(.agg #[vN (c/b.next.length),vN (c%b.next.length)])] [oI bp 238 [(vI a.vars),(vI a.start),(.slice j.nb a.next.length j.nc),(.slice j.fb a.aY.length j.fc),(vI b.vars),(vI b.start),(.slice k.nb b.next.length k.nc),(.slice k.fb b.aY.length k.fc),(.slice qb ks.length qc),(.map (some m))],aq qb qc 234 2 (lI b.next.length ks),dz eL (fun n:Nat=>Value.int .i64 (n:Int)) m (pmap b.next.length ks)] (fun v O'=>v=vN (ix c (add ks c))∧ ∃Mr Ms,O'=[oI bp 238 [(vI a.vars),(vI a.start),(.slice j.nb a.next.length j.nc),(.slice j.fb a.aY.length j.fc),(vI b.vars),(vI b.start),(.slice k.nb b.next.length k.nc),(.slice k.fb b.aY.length k.fc),(.slice Mr ((add ks c).length) Ms),(.map (some m))],aq Mr Ms 234 2 (lI b.next.length (add ks c)),dz eL (fun n:Nat=>Value.int .i64 (n:Int)) m (pmap b.next.length (add ks c))]):=by
 refine aF func219 F ntmps219 F ?_
 refine ai (ao F (dG (cs:=[vN (c/b.next.length),vN (c%b.next.length)]) F F (fun nY=>?_)))
 refine aj F (ae (aM ?_))
 refine T.ds [oI nY 234 [vN (c/b.next.length),vN (c%b.next.length)],oI bp 238 [(vI a.vars),(vI a.start),(.slice j.nb a.next.length j.nc),(.slice j.fb a.aY.length j.fc),(vI b.vars),(vI b.start),(.slice k.nb b.next.length k.nc),(.slice k.fb b.aY.length k.fc),(.slice qb ks.length qc),(.map (some m))],aq qb qc 234 2 (lI b.next.length ks),dz eL (fun n:Nat=>Value.int .i64 (n:Int)) m (pmap b.next.length ks)] [(0,0),(1,0),(2,0),(3,0),(4,0),(5,0),(6,0),(7,0),(8,0),(9,0),(10,0)] (by exact Sub.rf) ?_
 refine au F (aN F) (au F (a8 F) (au F (a_ oR F A7 F F) (au F (bi 1 tV F F F F) (au F (eu 0 ny F g_ F F F) (au F (bK (jK (a:=un b.next.length c) tV bj (jU Ah) F F (mG 3 F)) (v':=(.tuple #[vI 0,.bool false])) (by rw[li];simp only[DX,hk,if_true,if_false,I7,Nat.zero_add];rfl)) (au F (aN F) (au F (bE (vs:=_) F F) (au F (bE (vs:=_) F F) (au F (cx F) (au F (cx F) ?_))))))))))
 refine cw ?_
 refine aM (ai (ah F (ad (jh F) (ae ?_))))
 refine bO F ?_
 refine ai (ah F (ad (a8 F) (ad (a_ oR F pz F F) (ad (bi 1 ml F F F F) (ad (cQ ml F) (aj F (ae (aM ?_))))))))
 refine T.ds [oI nY 234 [vN (c/b.next.length),vN (c%b.next.length)],oI bp 238 [(vI a.vars),(vI a.start),(.slice j.nb a.next.length j.nc),(.slice j.fb a.aY.length j.fc),(vI b.vars),(vI b.start),(.slice k.nb b.next.length k.nc),(.slice k.fb b.aY.length k.fc),(.slice qb ks.length qc),(.map (some m))],aq qb qc 234 2 (lI b.next.length ks),dz eL (fun n:Nat=>Value.int .i64 (n:Int)) m (pmap b.next.length ks)] [(0,0),(1,0),(2,0),(3,0),(4,0),(5,0),(6,2)] (by exact Sub.rf) ?_
 refine au F (aN F) (au F (a8 F) (au F (a_ oR F A7 F F) (au F (bi 1 tV F F F F) (au F (eu 0 ny F g_ F F F) (au F (aN F) ?_)))))
 refine b_ F F (qh (a:=un b.next.length c) (v:=ks.length) 3 tV (jU Ah) F F F F (by rw[I8,DX];exact hk) ?_)
 refine cw ?_
 refine T.ds [oI nY 234 [vN (c/b.next.length),vN (c%b.next.length)],oI bp 238 [(vI a.vars),(vI a.start),(.slice j.nb a.next.length j.nc),(.slice j.fb a.aY.length j.fc),(vI b.vars),(vI b.start),(.slice k.nb b.next.length k.nc),(.slice k.fb b.aY.length k.fc),(.slice qb ks.length qc),(.map (some m))],dz eL (fun n:Nat=>Value.int .i64 (n:Int)) m ((pmap b.next.length ks)++[(un b.next.length c,ks.length)])] [(0,0),(1,0),(2,0),(3,0),(4,0),(5,0),(6,1),(7,1),(8,0),(9,0),(10,2)] (by exact Sub.k (.k (.d (.k .z)))) ?_
 refine au F (aN F) (au F (aN F) (au F (a8 F) (au F (a_ oR F pz F F) (au F (bi 1 ml F F F F) (au F (eu 0 ny F g_ F F F) ?_)))))
 refine cr F F (cz (m:=1) (parts:=[(0,_)]) (cs:=[vN (c/b.next.length),vN (c%b.next.length)]) ml g_ (by decide) (by kernel_rfl) F (fun xq=>⟨by exact Sub.d (.k (.k (.d (.k .z)))),?_⟩))
 refine cr F F (cW 3 ml ml g_ F F F F (by rw[Ao]) (by decide) (Src.row (j:=0) F (by simp)) (by simp[fa]) (by omega) (by decide) (by decide) (fun KK c4=>⟨by exact Sub.d (.k (.k (.d (.k .z)))),?_⟩))
 refine au F (a8 F) (au F (a_ oR F pz F F) ?_)
 refine b_ F F (bN (vs:=[(.slice KK (ks.length+1) c4)]) 2 pz F F F F ?_)
 refine cw ?_
 refine ai (ah F (aj F (ae (aK (aA ?_)))))
 refine aS (vI (ks.length:Int)) Tryz.results219 F ?_
 have ha:add ks c=ks++[c]:=az hk
 rw[ha]
 exact⟨[oI bp 238 [(vI a.vars),(vI a.start),(.slice j.nb a.next.length j.nc),(.slice j.fb a.aY.length j.fc),(vI b.vars),(vI b.start),(.slice k.nb b.next.length k.nc),(.slice k.fb b.aY.length k.fc),(.slice KK (ks.length+1) c4),(.map (some m))],aq KK c4 234 2 ((lI b.next.length ks)++[vN (c/b.next.length),vN (c%b.next.length)]),dz eL (fun n:Nat=>Value.int .i64 (n:Int)) m ((pmap b.next.length ks)++[(un b.next.length c,ks.length)])],(by exact Sub.d (.d (.k (.k (.k .z))))),by rw[fS hk];simp[ix],_,_,by rw[I6,G9,aw];rfl⟩
theorem pvC (base:World) [dE Tryz.prog base] (a b:cU) (j k:DK) (bp m:Nat) (ks:List Nat) (c:Nat) (qb:Option Addr) (qc:Nat) (hl:ks.length≤17000000):
  bW Tryz.prog base 219 [.pointer (aD bp),(.agg #[vN (c/b.next.length),vN (c%b.next.length)])] [dF bp (.cells (List.toArray [(vI a.vars),(vI a.start),(.slice j.nb a.next.length j.nc),(.slice j.fb a.aY.length j.fc),(vI b.vars),(vI b.start),(.slice k.nb b.next.length k.nc),(.slice k.fb b.aY.length k.fc),(.slice qb ks.length qc),(.map (some m))]) 238 (0,0)),aq qb qc 234 2 (lI b.next.length ks),dz eL (fun n:Nat=>Value.int .i64 (n:Int)) m (pmap b.next.length ks)] (fun v O'=>v=vN (ix c (add ks c))∧ ∃Mr Ms,O'=[dF bp (.cells (List.toArray [(vI a.vars),(vI a.start),(.slice j.nb a.next.length j.nc),(.slice j.fb a.aY.length j.fc),(vI b.vars),(vI b.start),(.slice k.nb b.next.length k.nc),(.slice k.fb b.aY.length k.fc),(.slice Mr ((add ks c).length) Ms),(.map (some m))]) 238 (0,0)),aq Mr Ms 234 2 (lI b.next.length (add ks c)),dz eL (fun n:Nat=>Value.int .i64 (n:Int)) m (pmap b.next.length (add ks c))]):=by
 by_cases hk:c∈ks
 ·exact XU base a b j k bp m ks c qb qc hk hl
 ·exact XV base a b j k bp m ks c qb qc hk hl
end Go.Proofs.YtgdbfideeeegmaaGreatDoor

