/- Contracts of functions of the program, and what they answer. Conditions: those each theorem names. -/
import Derived.Test.YtgdbfideeeegmaaGreatDoorA2
import Derived.Test.YtgdbfideeeegmaaGreatDoorA5
import Derived.Test.YtgdbfideeeegmaaGreatDoorA3
import Derived.Test.YtgdbfideeeegmaaGreatDoorA1
import Derived.Shelf.Slices.Clone
import Derived.Lib.RowBridge
import Derived.Test.YtgdbfideeeegmaaGreatDoorProg
import Derived.Test.YtgdbfideeeegmaaGreatDoorA4
import Derived.Test.YtgdbfideeeegmaaGreatDoorA0
set_option linter.unusedSectionVars false
set_option linter.unusedSimpArgs false
set_option linter.unusedVariables false
set_option linter.unnecessarySimpa false
set_option maxHeartbeats 8000000
set_option maxRecDepth 20000
namespace Go.Proofs.YtgdbfideeeegmaaGreatDoor
open Go.Lx Go.RowKit _root_.Go.Proofs.Tryz
theorem SS (w:World) [dB Tryz.prog w] (x:eE) (v:Nat) (hp:x.p<256) (hn:x.n<256) (hv:v≤6):
  cA Tryz.prog 127 [x.ag,vN v] w fun r N=>r=vI (fY v x:Int)∧N=[]:=by
 refine aG func127 F ntmps127 F ?_
 have ZW:(x.p|||x.n)<2^8:=Nat.or_lt_two_pow hp hn
 refine ai (ao F (dE (cs:=x.cl) F F (fun z1=>?_)))
 refine aj F (ae ?_)
 let eJ:Value:=vN (dQ x.op)
 refine gh (fun ρ O=> ∃(m zo:Nat),O=[CU m,oI zo 96 [eJ,str (jH x.op).1,str (jH x.op).2.1,str (jH x.op).2.2],oI z1 72 x.cl]∧dt [(0,x.ag),(1,vN v),(2,(.pointer (aD z1))),(4,vI 0),(5,(.pointer (aD zo)))] ρ) ?_ ?_
 ·refine n5 [oI z1 72 x.cl] 6 mixed F (by exact Sub.rf) (fun _ _ _ _ h=>h) ?_
  refine cB 1 F (by kernel_rfl) (bj cp F dF F F) ?_
  refine cB 2 F (by kernel_rfl) (bn 0 fF F F F F) ?_
  have Jy:=fun(w1:World) (hI:Inv w [oI z1 72 x.cl] w1)=>(haveI:=ey hI;pk w1)
  refine bg [0,4] (by kernel_rfl) F ⟨⟨_,F,F,bm F3 (aX Jy) F ?_⟩,⟨_,F,F,bu lr F (fun zo=>⟨by exact Sub.d (.k .z),?_⟩)⟩,trivial⟩
  ·clear Jy
   rintro vr O' ⟨N,rfl,m,rfl,rfl⟩
   refine⟨by exact Sub.d (.k .z),?_⟩
   let gr:Value:=(.agg #[eJ,str (jH x.op).1,str (jH x.op).2.1,str (jH x.op).2.2])
   refine bg [3,4] (by kernel_rfl) F ⟨⟨_,F,F,eO F F (bT (qe (a:=x.op) vU lr (gB.u8 fF) F F (mG 0 F)) (v':=gr) (tC x.op)) ⟨by exact Sub.d (.k .z),?_⟩⟩,⟨_,F,F,bu lr F (fun zo=>⟨by exact Sub.d (.d (.k .z)),?_⟩)⟩,trivial⟩
   ·refine bg [4] (by kernel_rfl) F ⟨⟨_,F,F,bu lr F (fun zo=>⟨by exact Sub.d (.d (.k .z)),?_⟩)⟩,trivial⟩
    refine bg [5] (by kernel_rfl) F ⟨⟨_,F,F,bV (vs:=[eJ,str (jH x.op).1,str (jH x.op).2.1,str (jH x.op).2.2]) 0 lr F F F F ⟨by exact Sub.d (.d (.k .z)),?_⟩⟩,trivial⟩
    exact dw (by kernel_rfl) ⟨m,zo,F,(.of F)⟩ (by exact Sub.eQ [oI zo 96 [eJ,str (jH x.op).1,str (jH x.op).2.1,str (jH x.op).2.2]] _ (.k (.k .z)))
   refine bg [3] (by kernel_rfl) F ⟨⟨_,F,F,eO F F (bT (qe (a:=x.op) vU lr (gB.u8 fF) F F (mG 1 F)) (v':=gr) (tC x.op)) ⟨by exact Sub.d (.d (.k .z)),?_⟩⟩,trivial⟩
   refine bg [5] (by kernel_rfl) F ⟨⟨_,F,F,bV (vs:=[eJ,str (jH x.op).1,str (jH x.op).2.1,str (jH x.op).2.2]) 0 lr F F F F ⟨by exact Sub.d (.d (.k .z)),?_⟩⟩,trivial⟩
   exact dw (by kernel_rfl) ⟨m,zo,F,(.of F)⟩ (by exact Sub.eQ [oI zo 96 [eJ,str (jH x.op).1,str (jH x.op).2.1,str (jH x.op).2.2]] _ (.k (.k .z)))
  refine bg [0] (by kernel_rfl) F ⟨⟨_,F,F,bm F3 (aW pk) F ?_⟩,trivial⟩
  rintro vr O' ⟨N,rfl,m,rfl,rfl⟩
  refine⟨by exact Sub.d (.d (.k .z)),?_⟩
  refine bg [3] (by kernel_rfl) F ⟨⟨_,F,F,eO F F (bT (qe (a:=x.op) vU lr (gB.u8 fF) F F (mG 0 F)) (v':=(.agg #[eJ,str (jH x.op).1,str (jH x.op).2.1,str (jH x.op).2.2])) (tC x.op)) ⟨by exact Sub.d (.d (.k .z)),?_⟩⟩,trivial⟩
  refine bg [5] (by kernel_rfl) F ⟨⟨_,F,F,bV (vs:=[eJ,str (jH x.op).1,str (jH x.op).2.1,str (jH x.op).2.2]) 1 lr F F F F ⟨by exact Sub.d (.d (.k .z)),?_⟩⟩,trivial⟩
  exact dw (by kernel_rfl) ⟨m,zo,F,(.of F)⟩ (by exact Sub.rf)
 rintro ρ O ⟨m,zo,rfl,hH⟩
 obtain⟨gP,rfl⟩:=hH.elim
 clear hH
 refine aO (aU (ai (ad (bj cp F dF F F) (ad (bn 2 fF F F F F) (ad (cR F F) ?_)))))
 by_cases h1:((x.op:Nat):Int)<1
 ·refine ad (aA (aK F) (av h1)) ?_
  refine aS F F (aS F F (aS F F (ad (cg F F) (aj F (ae ?_)))))
  refine bW F ?_
  refine ai (aj F (ae (aN (az ?_))))
  refine aT (vI 6) Tryz.results127 F ?_
  exact⟨[],Sub.z,by unfold fY;rw[aR (by omega)];rfl,F⟩
 refine ad (aA (aK F) (ak h1)) (aB F F (bj cp F dF F F) (aB F F (bn 2 fF F F F F) (aB F F (gH F F) (ad (b_ F F) (aj F (ae (aP F (fun hc=>?_) (fun hc=>?_))))))))
 ·have ln:x.op>10:=by omega
  refine ai (aj F (ae (aN (az ?_))))
  refine aT (vI 6) Tryz.results127 F ?_
  exact⟨[],Sub.z,by unfold fY;rw[aR (by omega)];rfl,F⟩
 have vh: ¬x.op>10:=by omega
 refine aO (ai (ad (bj cp F dF F F) (ad (bn 2 fF F F F F) (ad (dP F F) ?_))))
 by_cases h3:((x.op:Nat):Int)≠3
 ·refine ad (aA (aK F) (av h3)) ?_
  refine aB F F (bj cp F dF F F) (aB F F (bn 2 fF F F F F) (aB F F (bj cp F dF F F) (aB F F (bn 2 fF F F F F) (aB F F (Q8 (a:=x.p) (b:=x.n) .u8 F F (by simp only[IntKind.bits];omega) (by simp only[IntKind.bits];omega)) (aB F F (dP F F) (ad (cg F F) (aj F (ae (aP F (fun hc=>?_) (fun hc=>?_))))))))))
  ·have PW:x.p|||x.n≠0:=by omega
   refine aE (aP F (fun hc=>?_) (fun hc=>?_))
   ·have PW:x.p|||x.n≠0:=by omega
    refine ai (aj F (ae (aN (az ?_))))
    refine aT (vI 2) Tryz.results127 F ?_
    exact⟨[],Sub.z,by unfold fY;rw[ay (by omega),aR (by omega)];rfl,F⟩
   have PY: ¬x.p|||x.n≠0:=by omega
   refine ai (ad (bj cp F dF F F) (ad (bn 2 fF F F F F) (ad (bM F F) (aj F (ae (aP F (fun hc=>?_) (fun hc=>?_)))))))
   ·have ot:x.op=3:=by omega
    refine ai (ad (bj cp F dF F F) (ad (bn 2 fF F F F F) (ad (bj cp F dF F F) (ad (bn 2 fF F F F F) (ad (cF (cs:=[v8 x.p,v8 x.n]) jh gi (by kernel_rfl)) (ah F (ao F (bm nl (aX fun w1 hI=>(haveI:=ey hI;ir w1 x.p x.n v hp hn hv)) F ?_))))))))
    rintro vr O' ⟨N,rfl,rfl,rfl⟩
    refine aj F (ae (aN (az ?_)))
    refine aT (vI (oy v x.p x.n:Int)) Tryz.results127 F ?_
    exact⟨[],Sub.z,by unfold fY;rw[ay (by omega),ay (by omega),aR (by omega)],F⟩
   have ou: ¬x.op=3:=by omega
   refine aE (ai (aj F (ae (aN (az ?_)))))
   refine aT (vI 0) Tryz.results127 F ?_
   exact⟨[],Sub.z,by unfold fY;rw[ay (by omega),ay (by omega),ay (by omega)];rfl,F⟩
  have PY: ¬x.p|||x.n≠0:=by omega
  refine ai (ad (bj CV F bl F F) (ad (bn 1 dS F F F F) (ad (cR F F) ?_)))
  by_cases yG:((dQ x.op:Nat):Int)<1
  ·refine ad (aA (aK F) (av yG)) ?_
   refine aB F F (bj cp F bl F F) (aB F F (bn 2 dS F F F F) (aB F F (dP F F) (ad (cg F F) (aj F (ae (aP F (fun hc=>?_) (fun hc=>?_)))))))
   ·refine aE ?_
    refine aP F (fun hc=>?_) (fun hc=>?_)
    ·refine aO ?_
     refine be (aj F (ae (aN (az ?_))))
     refine aT (vI 2) Tryz.results127 F ?_
     exact⟨[],Sub.z,by unfold fY;rw[ay (by omega),aR (by omega)];rfl,F⟩
    refine ai (ad (bj cp F dF F F) (ad (bn 2 fF F F F F) (ad (bM F F) (aj F (ae (aP F (fun hc=>?_) (fun hc=>?_)))))))
    ·have ot:x.op=3:=by omega
     refine ai (ad (bj cp F dF F F) (ad (bn 2 fF F F F F) (ad (bj cp F dF F F) (ad (bn 2 fF F F F F) (ad (cF (cs:=[v8 x.p,v8 x.n]) jh gi (by kernel_rfl)) (ah F (ao F (bm nl (aX fun w1 hI=>(haveI:=ey hI;ir w1 x.p x.n v hp hn hv)) F ?_))))))))
     rintro vr O' ⟨N,rfl,rfl,rfl⟩
     refine aj F (ae (aN (az ?_)))
     refine aT (vI (oy v x.p x.n:Int)) Tryz.results127 F ?_
     exact⟨[],Sub.z,by unfold fY;rw[ay (by omega),ay (by omega),aR (by omega)],F⟩
    have ou: ¬x.op=3:=by omega
    refine aE (ai (aj F (ae (aN (az ?_)))))
    refine aT (vI 0) Tryz.results127 F ?_
    exact⟨[],Sub.z,by unfold fY;rw[ay (by omega),ay (by omega),ay (by omega)];rfl,F⟩
   refine be (ad (bj CV F bl F F) (ad (bn 1 dS F F F F) (ad (cR F F) ?_)))
   by_cases rG:((dQ x.op:Nat):Int)<2
   ·refine ad (aA (aK F) (av rG)) ?_
    refine aB F F (bj cp F bl F F) (aB F F (bn 2 dS F F F F) (aB F F (dP F F) (ad (cg F F) (aj F (ae (aP F (fun hc=>?_) (fun hc=>?_)))))))
    ·refine aO ?_
     refine be (aj F (ae (aN (az ?_))))
     refine aT (vI 2) Tryz.results127 F ?_
     exact⟨[],Sub.z,by unfold fY;rw[ay (by omega),aR (by omega)];rfl,F⟩
    refine ai (ad (bj cp F dF F F) (ad (bn 2 fF F F F F) (ad (bM F F) (aj F (ae (aP F (fun hc=>?_) (fun hc=>?_)))))))
    ·have ot:x.op=3:=by omega
     refine ai (ad (bj cp F dF F F) (ad (bn 2 fF F F F F) (ad (bj cp F dF F F) (ad (bn 2 fF F F F F) (ad (cF (cs:=[v8 x.p,v8 x.n]) jh gi (by kernel_rfl)) (ah F (ao F (bm nl (aX fun w1 hI=>(haveI:=ey hI;ir w1 x.p x.n v hp hn hv)) F ?_))))))))
     rintro vr O' ⟨N,rfl,rfl,rfl⟩
     refine aj F (ae (aN (az ?_)))
     refine aT (vI (oy v x.p x.n:Int)) Tryz.results127 F ?_
     exact⟨[],Sub.z,by unfold fY;rw[ay (by omega),ay (by omega),aR (by omega)],F⟩
    have ou: ¬x.op=3:=by omega
    refine aE (ai (aj F (ae (aN (az ?_)))))
    refine aT (vI 0) Tryz.results127 F ?_
    exact⟨[],Sub.z,by unfold fY;rw[ay (by omega),ay (by omega),ay (by omega)];rfl,F⟩
   refine ad (aA (aK F) (ak rG)) (aS F F (aS F F (aS F F (ad (b_ F F) (aj F (ae (a_ F (ai ?_))))))))
   refine ad (bj cp F dF F F) (ad (bn 2 fF F F F F) (ad (bM F F) (aj F (ae (aP F (fun hc=>?_) (fun hc=>?_))))))
   ·have ot:x.op=3:=by omega
    refine ai (ad (bj cp F dF F F) (ad (bn 2 fF F F F F) (ad (bj cp F dF F F) (ad (bn 2 fF F F F F) (ad (cF (cs:=[v8 x.p,v8 x.n]) jh gi (by kernel_rfl)) (ah F (ao F (bm nl (aX fun w1 hI=>(haveI:=ey hI;ir w1 x.p x.n v hp hn hv)) F ?_))))))))
    rintro vr O' ⟨N,rfl,rfl,rfl⟩
    refine aj F (ae (aN (az ?_)))
    refine aT (vI (oy v x.p x.n:Int)) Tryz.results127 F ?_
    exact⟨[],Sub.z,by unfold fY;rw[ay (by omega),ay (by omega),aR (by omega)],F⟩
   have ou: ¬x.op=3:=by omega
   refine aE (ai (aj F (ae (aN (az ?_)))))
   refine aT (vI 0) Tryz.results127 F ?_
   exact⟨[],Sub.z,by unfold fY;rw[ay (by omega),ay (by omega),ay (by omega)];rfl,F⟩
  refine ad (aA (aK F) (ak yG)) (aS F F (aS F F (aS F F (ad (b_ F F) (aj F (ae (a_ F (be ?_))))))))
  refine ad (bj CV F bl F F) (ad (bn 1 dS F F F F) (ad (cR F F) ?_))
  by_cases rG:((dQ x.op:Nat):Int)<2
  ·refine ad (aA (aK F) (av rG)) ?_
   refine aB F F (bj cp F bl F F) (aB F F (bn 2 dS F F F F) (aB F F (dP F F) (ad (cg F F) (aj F (ae (aP F (fun hc=>?_) (fun hc=>?_)))))))
   ·refine aO ?_
    refine be (aj F (ae (aN (az ?_))))
    refine aT (vI 2) Tryz.results127 F ?_
    exact⟨[],Sub.z,by unfold fY;rw[ay (by omega),aR (by omega)];rfl,F⟩
   refine ai (ad (bj cp F dF F F) (ad (bn 2 fF F F F F) (ad (bM F F) (aj F (ae (aP F (fun hc=>?_) (fun hc=>?_)))))))
   ·have ot:x.op=3:=by omega
    refine ai (ad (bj cp F dF F F) (ad (bn 2 fF F F F F) (ad (bj cp F dF F F) (ad (bn 2 fF F F F F) (ad (cF (cs:=[v8 x.p,v8 x.n]) jh gi (by kernel_rfl)) (ah F (ao F (bm nl (aX fun w1 hI=>(haveI:=ey hI;ir w1 x.p x.n v hp hn hv)) F ?_))))))))
    rintro vr O' ⟨N,rfl,rfl,rfl⟩
    refine aj F (ae (aN (az ?_)))
    refine aT (vI (oy v x.p x.n:Int)) Tryz.results127 F ?_
    exact⟨[],Sub.z,by unfold fY;rw[ay (by omega),ay (by omega),aR (by omega)],F⟩
   have ou: ¬x.op=3:=by omega
   refine aE (ai (aj F (ae (aN (az ?_)))))
   refine aT (vI 0) Tryz.results127 F ?_
   exact⟨[],Sub.z,by unfold fY;rw[ay (by omega),ay (by omega),ay (by omega)];rfl,F⟩
  refine ad (aA (aK F) (ak rG)) (aS F F (aS F F (aS F F (ad (b_ F F) (aj F (ae (a_ F (ai ?_))))))))
  refine ad (bj cp F dF F F) (ad (bn 2 fF F F F F) (ad (bM F F) (aj F (ae (aP F (fun hc=>?_) (fun hc=>?_))))))
  ·have ot:x.op=3:=by omega
   refine ai (ad (bj cp F dF F F) (ad (bn 2 fF F F F F) (ad (bj cp F dF F F) (ad (bn 2 fF F F F F) (ad (cF (cs:=[v8 x.p,v8 x.n]) jh gi (by kernel_rfl)) (ah F (ao F (bm nl (aX fun w1 hI=>(haveI:=ey hI;ir w1 x.p x.n v hp hn hv)) F ?_))))))))
   rintro vr O' ⟨N,rfl,rfl,rfl⟩
   refine aj F (ae (aN (az ?_)))
   refine aT (vI (oy v x.p x.n:Int)) Tryz.results127 F ?_
   exact⟨[],Sub.z,by unfold fY;rw[ay (by omega),ay (by omega),aR (by omega)],F⟩
  have ou: ¬x.op=3:=by omega
  refine aE (ai (aj F (ae (aN (az ?_)))))
  refine aT (vI 0) Tryz.results127 F ?_
  exact⟨[],Sub.z,by unfold fY;rw[ay (by omega),ay (by omega),ay (by omega)];rfl,F⟩
 refine ad (aA (aK F) (ak h3)) (aS F F (aS F F (aS F F (aS F F (aS F F (aS F F (ad (b_ F F) (aj F ?_))))))))
 refine ae (a_ F (ai (ad (bj CV F bl F F) (ad (bn 1 dS F F F F) (ad (cR F F) ?_)))))
 by_cases yG:((dQ x.op:Nat):Int)<1
 ·refine ad (aA (aK F) (av yG)) ?_
  refine aB F F (bj cp F bl F F) (aB F F (bn 2 dS F F F F) (aB F F (dP F F) (ad (cg F F) (aj F (ae (aP F (fun hc=>?_) (fun hc=>?_)))))))
  ·refine aE ?_
   refine aP F (fun hc=>?_) (fun hc=>?_)
   ·refine aO ?_
    refine be (aj F (ae (aN (az ?_))))
    refine aT (vI 2) Tryz.results127 F ?_
    exact⟨[],Sub.z,by unfold fY;rw[ay (by omega),aR (by omega)];rfl,F⟩
   refine ai (ad (bj cp F dF F F) (ad (bn 2 fF F F F F) (ad (bM F F) (aj F (ae (aP F (fun hc=>?_) (fun hc=>?_)))))))
   ·have ot:x.op=3:=by omega
    refine ai (ad (bj cp F dF F F) (ad (bn 2 fF F F F F) (ad (bj cp F dF F F) (ad (bn 2 fF F F F F) (ad (cF (cs:=[v8 x.p,v8 x.n]) jh gi (by kernel_rfl)) (ah F (ao F (bm nl (aX fun w1 hI=>(haveI:=ey hI;ir w1 x.p x.n v hp hn hv)) F ?_))))))))
    rintro vr O' ⟨N,rfl,rfl,rfl⟩
    refine aj F (ae (aN (az ?_)))
    refine aT (vI (oy v x.p x.n:Int)) Tryz.results127 F ?_
    exact⟨[],Sub.z,by unfold fY;rw[ay (by omega),ay (by omega),aR (by omega)],F⟩
   have ou: ¬x.op=3:=by omega
   refine aE (ai (aj F (ae (aN (az ?_)))))
   refine aT (vI 0) Tryz.results127 F ?_
   exact⟨[],Sub.z,by unfold fY;rw[ay (by omega),ay (by omega),ay (by omega)];rfl,F⟩
  refine be (ad (bj CV F bl F F) (ad (bn 1 dS F F F F) (ad (cR F F) ?_)))
  by_cases rG:((dQ x.op:Nat):Int)<2
  ·refine ad (aA (aK F) (av rG)) ?_
   refine aB F F (bj cp F bl F F) (aB F F (bn 2 dS F F F F) (aB F F (dP F F) (ad (cg F F) (aj F (ae (aP F (fun hc=>?_) (fun hc=>?_)))))))
   ·refine aO ?_
    refine be (aj F (ae (aN (az ?_))))
    refine aT (vI 2) Tryz.results127 F ?_
    exact⟨[],Sub.z,by unfold fY;rw[ay (by omega),aR (by omega)];rfl,F⟩
   refine ai (ad (bj cp F dF F F) (ad (bn 2 fF F F F F) (ad (bM F F) (aj F (ae (aP F (fun hc=>?_) (fun hc=>?_)))))))
   ·have ot:x.op=3:=by omega
    refine ai (ad (bj cp F dF F F) (ad (bn 2 fF F F F F) (ad (bj cp F dF F F) (ad (bn 2 fF F F F F) (ad (cF (cs:=[v8 x.p,v8 x.n]) jh gi (by kernel_rfl)) (ah F (ao F (bm nl (aX fun w1 hI=>(haveI:=ey hI;ir w1 x.p x.n v hp hn hv)) F ?_))))))))
    rintro vr O' ⟨N,rfl,rfl,rfl⟩
    refine aj F (ae (aN (az ?_)))
    refine aT (vI (oy v x.p x.n:Int)) Tryz.results127 F ?_
    exact⟨[],Sub.z,by unfold fY;rw[ay (by omega),ay (by omega),aR (by omega)],F⟩
   have ou: ¬x.op=3:=by omega
   refine aE (ai (aj F (ae (aN (az ?_)))))
   refine aT (vI 0) Tryz.results127 F ?_
   exact⟨[],Sub.z,by unfold fY;rw[ay (by omega),ay (by omega),ay (by omega)];rfl,F⟩
  refine ad (aA (aK F) (ak rG)) (aS F F (aS F F (aS F F (ad (b_ F F) (aj F (ae (a_ F (ai ?_))))))))
  refine ad (bj cp F dF F F) (ad (bn 2 fF F F F F) (ad (bM F F) (aj F (ae (aP F (fun hc=>?_) (fun hc=>?_))))))
  ·have ot:x.op=3:=by omega
   refine ai (ad (bj cp F dF F F) (ad (bn 2 fF F F F F) (ad (bj cp F dF F F) (ad (bn 2 fF F F F F) (ad (cF (cs:=[v8 x.p,v8 x.n]) jh gi (by kernel_rfl)) (ah F (ao F (bm nl (aX fun w1 hI=>(haveI:=ey hI;ir w1 x.p x.n v hp hn hv)) F ?_))))))))
   rintro vr O' ⟨N,rfl,rfl,rfl⟩
   refine aj F (ae (aN (az ?_)))
   refine aT (vI (oy v x.p x.n:Int)) Tryz.results127 F ?_
   exact⟨[],Sub.z,by unfold fY;rw[ay (by omega),ay (by omega),aR (by omega)],F⟩
  have ou: ¬x.op=3:=by omega
  refine aE (ai (aj F (ae (aN (az ?_)))))
  refine aT (vI 0) Tryz.results127 F ?_
  exact⟨[],Sub.z,by unfold fY;rw[ay (by omega),ay (by omega),ay (by omega)];rfl,F⟩
 refine ad (aA (aK F) (ak yG)) (aS F F (aS F F (aS F F (ad (b_ F F) (aj F (ae (a_ F (be ?_))))))))
 refine ad (bj CV F bl F F) (ad (bn 1 dS F F F F) (ad (cR F F) ?_))
 by_cases rG:((dQ x.op:Nat):Int)<2
 ·refine ad (aA (aK F) (av rG)) ?_
  refine aB F F (bj cp F bl F F) (aB F F (bn 2 dS F F F F) (aB F F (dP F F) (ad (cg F F) (aj F (ae (aP F (fun hc=>?_) (fun hc=>?_)))))))
  ·refine aO ?_
   refine be (aj F (ae (aN (az ?_))))
   refine aT (vI 2) Tryz.results127 F ?_
   exact⟨[],Sub.z,by unfold fY;rw[ay (by omega),aR (by omega)];rfl,F⟩
  refine ai (ad (bj cp F dF F F) (ad (bn 2 fF F F F F) (ad (bM F F) (aj F (ae (aP F (fun hc=>?_) (fun hc=>?_)))))))
  ·have ot:x.op=3:=by omega
   refine ai (ad (bj cp F dF F F) (ad (bn 2 fF F F F F) (ad (bj cp F dF F F) (ad (bn 2 fF F F F F) (ad (cF (cs:=[v8 x.p,v8 x.n]) jh gi (by kernel_rfl)) (ah F (ao F (bm nl (aX fun w1 hI=>(haveI:=ey hI;ir w1 x.p x.n v hp hn hv)) F ?_))))))))
   rintro vr O' ⟨N,rfl,rfl,rfl⟩
   refine aj F (ae (aN (az ?_)))
   refine aT (vI (oy v x.p x.n:Int)) Tryz.results127 F ?_
   exact⟨[],Sub.z,by unfold fY;rw[ay (by omega),ay (by omega),aR (by omega)],F⟩
  have ou: ¬x.op=3:=by omega
  refine aE (ai (aj F (ae (aN (az ?_)))))
  refine aT (vI 0) Tryz.results127 F ?_
  exact⟨[],Sub.z,by unfold fY;rw[ay (by omega),ay (by omega),ay (by omega)];rfl,F⟩
 refine ad (aA (aK F) (ak rG)) (aS F F (aS F F (aS F F (ad (b_ F F) (aj F (ae (a_ F (ai ?_))))))))
 refine ad (bj cp F dF F F) (ad (bn 2 fF F F F F) (ad (bM F F) (aj F (ae (aP F (fun hc=>?_) (fun hc=>?_))))))
 ·have ot:x.op=3:=by omega
  refine ai (ad (bj cp F dF F F) (ad (bn 2 fF F F F F) (ad (bj cp F dF F F) (ad (bn 2 fF F F F F) (ad (cF (cs:=[v8 x.p,v8 x.n]) jh gi (by kernel_rfl)) (ah F (ao F (bm nl (aX fun w1 hI=>(haveI:=ey hI;ir w1 x.p x.n v hp hn hv)) F ?_))))))))
  rintro vr O' ⟨N,rfl,rfl,rfl⟩
  refine aj F (ae (aN (az ?_)))
  refine aT (vI (oy v x.p x.n:Int)) Tryz.results127 F ?_
  exact⟨[],Sub.z,by unfold fY;rw[ay (by omega),ay (by omega),aR (by omega)],F⟩
 have ou: ¬x.op=3:=by omega
 refine aE (ai (aj F (ae (aN (az ?_)))))
 refine aT (vI 0) Tryz.results127 F ?_
 exact⟨[],Sub.z,by unfold fY;rw[ay (by omega),ay (by omega),ay (by omega)];rfl,F⟩
end Go.Proofs.YtgdbfideeeegmaaGreatDoor

namespace Go.Lx
open Go.RowKit Go.Proofs.YtgdbfideeeegmaaGreatDoor
def gC (v:Nat) (fs:List Nat) (x:eE):Except Nat Nat:=
 if fY v x≠0 then .error (fY v x)
 else if dQ x.op=1 then(if fs.length=0∨x.a≠(fs.length:Int)-1 then .error 8 else .ok (fs.getD (fs.length-1) 0))
 else if dQ x.op=2 then(if fs.length=0∨x.b≠(fs.length:Int)-1∨fs.getD (fs.length-1) 0=0∨x.a≠(fs.getD (fs.length-1) 0:Int)-1 then .error 8 else .ok (fs.getD x.a.toNat 0))
 else .ok fs.length
def mA (v:Nat) (iI:Except Nat (List Nat)) (x:eE):Except Nat (List Nat):=
 match iI with
 | .error n=>.error n
 | .ok fs=>match gC v fs x with
  | .error n=>.error n
  | .ok b=>.ok (fs++[b])
def jP (v:Nat) (e:List eE):Except Nat (List Nat):=e.foldl (mA v) (.ok [])
theorem zN (v:Nat) {e:List eE} {i:Nat} (h:i<e.length):jP v (e.take (i+1))=mA v (jP v (e.take i)) e[i]:=by
 unfold jP;rw[aH h,cY];rfl
theorem tD (v n:Nat): ∀(e:List eE),e.foldl (mA v) (.error n)=.error n
 | []=>rfl
 |x::e=>by rw[cV];exact tD v n e
theorem Ln {v n:Nat} {e:List eE} {i:Nat} (h:jP v (e.take i)=.error n):jP v e=.error n:=by
 conv=>lhs;rw[←List.take_append_drop i e]
 unfold jP at h⊢;rw[cY,h,tD]
theorem jI {v n:Nat} {e:List eE} {fs:List Nat} {i:Nat} (hi:i<e.length) (hf:jP v (e.take i)=.ok fs) (hs:gC v fs e[i]=.error n):jP v e=.error n:=by
 refine Ln (i:=i+1) ?_
 rw[zN v hi,hf];unfold mA;simp only[hs]
theorem qN {v b:Nat} {e:List eE} {fs:List Nat} {i:Nat} (hi:i<e.length) (hf:jP v (e.take i)=.ok fs) (hs:gC v fs e[i]=.ok b):jP v (e.take (i+1))=.ok (fs++[b]):=by
 rw[zN v hi,hf];unfold mA;simp only[hs]
theorem rj {fs:List Nat} {i b:Nat} (hl:fs.length=i) (h: ∀j,j<i→fs.getD j 0≤j) (hb:b≤i): ∀j,j<i+1→(fs++[b]).getD j 0≤j:=fun j hj=>by
 by_cases e:j=i
 ·subst e;rw[aw,bY (by omega),hl,gL];exact hb
 ·have:=h j (by omega)
  rw[aw]at this⊢
  rw[bI (by omega)];exact this
def mh (e:List eE):Nat→Nat→Bool→Bool
 |0,_,_=>true
 |f+1,i,fr=>
  if((e.getD i ⟨0,0,0,0,0⟩).op=9∨(e.getD i ⟨0,0,0,0,0⟩).op=10)∧fr=false then false
  else(decide (dQ (e.getD i ⟨0,0,0,0,0⟩).op<1)||mh e f (e.getD i ⟨0,0,0,0,0⟩).a.toNat (fr&&decide ((e.getD i ⟨0,0,0,0,0⟩).op=4∨(e.getD i ⟨0,0,0,0,0⟩).op=5)))&&
   (decide (dQ (e.getD i ⟨0,0,0,0,0⟩).op<2)||mh e f (e.getD i ⟨0,0,0,0,0⟩).b.toNat (fr&&decide ((e.getD i ⟨0,0,0,0,0⟩).op=4∨(e.getD i ⟨0,0,0,0,0⟩).op=5)))
theorem oE {e:List eE} {i:Nat} (h:i<e.length):e.getD i ⟨0,0,0,0,0⟩=e[i]:=by rw[aw,ap h];rfl
theorem iC {e:List eE} {f i:Nat} {fr:Bool} (h:i<e.length):mh e (f+1) i fr=if(e[i].op=9∨e[i].op=10)∧fr=false then false else(decide (dQ e[i].op<1)||mh e f e[i].a.toNat (fr&&decide (e[i].op=4∨e[i].op=5)))&&(decide (dQ e[i].op<2)||mh e f e[i].b.toNat (fr&&decide (e[i].op=4∨e[i].op=5))):=by
 rw[mh,oE h]
end Go.Lx

namespace Go.Lx
open Go.RowKit
structure Lf where
 op:Nat
 d:cM
 fo:List Nat
 la:Bool
instance:Inhabited Lf:=⟨⟨0,Dv,[],false⟩⟩
abbrev Ob:=Nat×Nat
structure Cf where
 k:Int
 s:Nat
 o:List Ob
deriving DecidableEq
def sq (o:List Ob):List Int:=o.flatMap fun p=>[(p.1:Int),(p.2:Int)]
def Cf.nums (c:Cf):List Int:=c.k::(c.s:Int)::sq c.o
def Cf.key (c:Cf):Key:=iK c.nums
structure St where
 bh:List Nat
 cf:List Cf
def wq (x y:Key):Bool:=decide (x≤y)
def St.key (s:St):Key:=iK (s.bh.map fun y:Nat=>(y:Int))++((s.cf.map Cf.key).mergeSort wq).flatMap (fun k=>124::k)
theorem Gf: ∀ {o p:List Ob},sq o=sq p→o=p
 | [],[],_=>rfl
 | [],(a,b)::p,h=>by simp[sq]at h
 |(a,b)::o,[],h=>by simp[sq]at h
 |(a,b)::o,(c,d)::p,h=>by
  simp only[sq,List.flatMap_cons,cJ,c8,List.cons.injEq]at h
  rw[Gf (o:=o) (p:=p) h.2.2,show a=c by omega,show b=d by omega]
theorem Lq {a b:Cf} (h:a.nums=b.nums):a=b:=by
 obtain⟨k,s,o⟩:=a
 obtain⟨k2,s2,o2⟩:=b
 simp only[Cf.nums,List.cons.injEq]at h
 obtain⟨h1,h2,h3⟩:=h
 rw[h1,show s=s2 by omega,Gf h3]
theorem KC (o:List Ob) (p:Ob):sq (o++[p])=sq o++[(p.1:Int),(p.2:Int)]:=by simp[sq]
theorem FW (o:List Ob):(sq o).length=o.length*2:=by
 induction o with
 |nil=>rfl
 |cons p o ih=>simp only[sq,List.flatMap_cons,aF,bL,cN]at ih⊢;omega
section
variable (ls:List Lf)
abbrev lf (k:Nat):Lf:=ls.getD k default
def tA (o:List Ob) (x:Ob):List Ob:=if dD (lf ls x.1).d x.2=true then o else o++[x]
mutual
def gz:Nat→List Nat→Nat→List Ob→List Cf
 |0,_,_,_=>[]
 |f+1,bh,k,o=>
  if(lf ls k).op=9 then gX f bh k (tA ls o (k,(lf ls k).d.start.toNat))
  else if(lf ls k).op=10 then(if dD (lf ls k).d (bh.getD k 0)=true then gX f bh k o else[])
  else⟨(k:Int),(lf ls k).d.start.toNat,o⟩::(if dD (lf ls k).d (lf ls k).d.start.toNat=true then gX f bh k o else[])
def gX:Nat→List Nat→Nat→List Ob→List Cf
 |0,_,_,_=>[]
 |f+1,bh,k,o=>((lf ls k).fo.flatMap fun j=>gz f bh j o)++(if(lf ls k).la=true then[⟨-1,0,o⟩]else[])
end
def nj (o:List Ob) (x:Nat):List Ob:=o.foldl (fun o p=>tA ls o (p.1,e7 (lf ls p.1).d p.2 x)) []
def jQ (bh:List Nat) (x:Nat) (c:Cf):List Cf:=
 if c.k<0 then[]else
  ⟨c.k,e7 (lf ls c.k.toNat).d c.s x,nj ls c.o x⟩::(if dD (lf ls c.k.toNat).d (e7 (lf ls c.k.toNat).d c.s x)=true then gX ls (2*ls.length) bh c.k.toNat (nj ls c.o x)else[])
def mj (bh:List Nat) (x:Nat):List Nat:=(List.range ls.length).map fun k=>if(lf ls k).op=10 then e7 (lf ls k).d (bh.getD k 0) x else 0
def lF (first:List Nat):St:=⟨ls.map fun l=>l.d.start.toNat,(first.flatMap fun k=>gz ls (2*ls.length) (ls.map fun l=>l.d.start.toNat) k []).foldl add []⟩
def mZ (s:St) (x:Nat):St:=⟨mj ls s.bh x,(s.cf.flatMap (jQ ls (mj ls s.bh x) x)).foldl add []⟩
def sf (s:St):Bool:=s.cf.any fun c=>decide (c.k<0)&&c.o.isEmpty
structure ji (vs:Nat):Prop where
 len:ls.length≤12
 val: ∀l∈ls,Valid l.d
 vars: ∀l∈ls,l.d.vars=(vs:Int)
 op: ∀l∈ls,l.op=0∨l.op=9∨l.op=10
 fo: ∀k,k<ls.length→ ∀j∈(lf ls k).fo,k<j∧j<ls.length
 fol: ∀l∈ls,l.fo.length≤1000000
def fO (k:Nat) (o:List Ob):Prop:=o.Pairwise (fun p q=>p.1<q.1)∧ ∀p∈o,p.1<k∧p.2<(lf ls p.1).d.next.length
def jv (c:Cf):Prop:=(c.k= -1∧c.s=0∧fO ls ls.length c.o)∨ ∃k:Nat,c.k=(k:Int)∧k<ls.length∧c.s<(lf ls k).d.next.length∧fO ls k c.o
structure pJ (bh:List Nat):Prop where
 len:bh.length=ls.length
 lt: ∀k,k<ls.length→bh.getD k 0<(lf ls k).d.next.length
structure kV (s:St):Prop where
 bh:pJ ls s.bh
 nd:s.cf.Nodup
 cf: ∀c∈s.cf,jv ls c
def qu (K:Nat):Prop:= ∀l:List Cf,l.Nodup→(∀c∈l,jv ls c)→l.length≤K
variable {ls}
theorem ko {k:Nat} (h:k<ls.length):lf ls k∈ls:=by
 unfold lf;rw[aw,ap h];exact aL h
theorem xK {k:Nat} (h:k<ls.length):lf ls k=ls[k]:=by
 unfold lf;rw[aw,ap h];rfl
theorem ji.j4 {vs:Nat} (h:ji ls vs) {k:Nat} (hk:k<ls.length):Valid (lf ls k).d:=h.val _ (ko hk)
theorem fO.nil {k:Nat}:fO ls k []:=⟨List.Pairwise.nil,fun p hp=>by simp at hp⟩
theorem fO.mono {k m:Nat} {o:List Ob} (h:fO ls k o) (hm:k≤m):fO ls m o:=⟨h.1,fun p hp=>⟨by have:=(h.2 p hp).1;omega,(h.2 p hp).2⟩⟩
theorem Td: ∀ {o:List Ob} {k:Nat},o.Pairwise (fun p q=>p.1<q.1)→(∀p∈o,p.1<k)→o.length≤k:=fun {o k} h1 h2=>by
 have h3:(o.map Prod.fst).Nodup:=by
  rw[List.nodup_iff_pairwise_ne]
  exact List.pairwise_map.2 (h1.imp fun h=>Nat.ne_of_lt h)
 have:=eT h3 (n:=k) fun x hx=>by obtain⟨p,hp,rfl⟩:=List.mem_map.1 hx;exact h2 p hp
 simpa using this
theorem fO.len {k:Nat} {o:List Ob} (h:fO ls k o):o.length≤k:=Td h.1 fun p hp=>(h.2 p hp).1
theorem ux {k:Nat} {o:List Ob} {x:Ob} (h:fO ls k o) (hk:k≤x.1) (hx:x.2<(lf ls x.1).d.next.length):fO ls (x.1+1) (tA ls o x):=by
 unfold tA
 split
 ·exact h.mono (by omega)
 ·refine⟨List.pairwise_append.2 ⟨h.1,List.pairwise_singleton _ _,fun p hp q hq=>?_⟩,fun p hp=>?_⟩
  ·rw[List.mem_singleton.1 hq];exact eA (h.2 p hp).1 hk
  ·rcases List.mem_append.1 hp with hp|hp
   ·exact⟨by have:=(h.2 p hp).1;omega,(h.2 p hp).2⟩
   ·rw[List.mem_singleton.1 hp];exact⟨by omega,hx⟩
theorem uy {vs:Nat} (hG:ji ls vs) {x:Nat} (hx:x<2^vs): ∀ {o o1:List Ob} {m k:Nat},k≤ls.length→fO ls m o1→o.Pairwise (fun p q=>p.1<q.1)→(∀p∈o,m≤p.1∧p.1<k∧p.2<(lf ls p.1).d.next.length)→m≤k→fO ls k (o.foldl (fun o p=>tA ls o (p.1,e7 (lf ls p.1).d p.2 x)) o1)
 | [],o1,m,k,_,h1,_,_,hm=>h1.mono hm
 |p::o,o1,m,k,hk,h1,h2,h3,hm=>by
  rw[cV]
  have hp:=h3 p (by simp)
  have CH:p.1<ls.length:=by omega
  have vo:e7 (lf ls p.1).d p.2 x<(lf ls p.1).d.next.length:=((hG.j4 CH).toVal.gV hp.2.2 (by rw[hG.vars _ (ko CH)];exact hx)).1
  have h4:=ux (x:=(p.1,e7 (lf ls p.1).d p.2 x)) h1 hp.1 vo
  refine uy hG hx hk h4 (List.pairwise_cons.1 h2).2 (fun q hq=>?_) (by show p.1+1≤k;omega)
  have:=(List.pairwise_cons.1 h2).1 q hq
  have h5:=h3 q (by simp[hq])
  exact⟨by show p.1+1≤q.1;omega,h5.2⟩
theorem xM {vs:Nat} (hG:ji ls vs) {x:Nat} (hx:x<2^vs) {k:Nat} {o:List Ob} (hk:k≤ls.length) (h:fO ls k o):fO ls k (nj ls o x):=
 uy hG hx hk (m:=0) .nil h.1 (fun p hp=>⟨bs _,h.2 p hp⟩) (bs _)
mutual
theorem vv {vs:Nat} (hG:ji ls vs) {bh:List Nat}: ∀(f:Nat) {k:Nat} {o:List Ob},k<ls.length→fO ls k o→ ∀c∈gz ls f bh k o,jv ls c
 |0,k,o,_,_,c,hc=>by simp[gz]at hc
 |f+1,k,o,hk,ho,c,hc=>by
  have hs:=ez (hG.j4 hk).toVal
  have hko:fO ls (k+1) o:=ho.mono (by omega)
  unfold gz at hc
  split at hc
  ·exact nJ hG f hk (ux (x:=(k,_)) ho (a8 _) hs) c hc
  ·split at hc
   ·split at hc
    ·exact nJ hG f hk hko c hc
    ·simp at hc
   ·rcases List.mem_cons.1 hc with rfl|hc
    ·exact .inr ⟨k,F,hk,hs,ho⟩
    ·split at hc
     ·exact nJ hG f hk hko c hc
     ·simp at hc
theorem nJ {vs:Nat} (hG:ji ls vs) {bh:List Nat}: ∀(f:Nat) {k:Nat} {o:List Ob},k<ls.length→fO ls (k+1) o→ ∀c∈gX ls f bh k o,jv ls c
 |0,k,o,_,_,c,hc=>by simp[gX]at hc
 |f+1,k,o,hk,ho,c,hc=>by
  unfold gX at hc
  rcases List.mem_append.1 hc with hc|hc
  ·obtain⟨j,hj,hc⟩:=List.mem_flatMap.1 hc
   have:=hG.fo k hk j hj
   exact vv hG f this.2 (ho.mono (by omega)) c hc
  ·split at hc
   ·rw[List.mem_singleton.1 hc];exact .inl ⟨F,F,ho.mono (by omega)⟩
   ·simp at hc
end
theorem pq: ∀(l ks:List Cf),ks.Nodup→(l.foldl add ks).Nodup
 | [],ks,h=>h
 |k::l,ks,h=>pq l _ (mK h)
theorem qJ {vs:Nat} (hG:ji ls vs):pJ ls (ls.map fun l=>l.d.start.toNat):=
 ⟨by simp,fun k hk=>by rw[aw,bq,ap hk];rw[xK hk];exact ez (hG.val _ (aL hk)).toVal⟩
theorem xL {vs:Nat} (hG:ji ls vs) {bh:List Nat} (hb:pJ ls bh) {x:Nat} (hx:x<2^vs):pJ ls (mj ls bh x):=
 ⟨by simp[mj],fun k hk=>by
  unfold mj
  rw[aw,bq,List.getElem?_range hk]
  show(if _ then _ else _)<_
  split
  ·exact((hG.j4 hk).toVal.gV (hb.lt k hk) (by rw[hG.vars _ (ko hk)];exact hx)).1
  ·exact(hG.j4 hk).n0⟩
theorem xP {vs:Nat} (hG:ji ls vs) {first:List Nat} (hf: ∀k∈first,k<ls.length):kV ls (lF ls first):=by
 refine⟨qJ hG,pq _ _ List.nodup_nil,fun c hc=>?_⟩
 rcases(eN _ _).1 hc with hc|hc
 ·simp at hc
 ·obtain⟨k,hk,hc⟩:=List.mem_flatMap.1 hc
  exact vv hG _ (hf k hk) .nil c hc
theorem ET {vs:Nat} (hG:ji ls vs) {bh:List Nat} {x:Nat} (hx:x<2^vs) {c:Cf} (h:jv ls c): ∀d∈jQ ls bh x c,jv ls d:=fun d hd=>by
 rcases h with⟨h1,_,_⟩|⟨k,h1,hk,hs,ho⟩
 ·unfold jQ at hd;rw[aR (by omega)]at hd;simp at hd
 ·unfold jQ at hd
  rw[ay (by omega),h1]at hd
  have sH:=xM hG hx (Nat.le_of_lt hk) ho
  have vo:e7 (lf ls k).d c.s x<(lf ls k).d.next.length:=((hG.j4 hk).toVal.gV hs (by rw[hG.vars _ (ko hk)];exact hx)).1
  rcases List.mem_cons.1 hd with rfl|hd
  ·exact .inr ⟨k,F,hk,vo,sH⟩
  ·split at hd
   ·exact nJ hG _ hk (sH.mono (by omega)) d hd
   ·simp at hd
theorem ri {vs:Nat} (hG:ji ls vs) {s:St} (h:kV ls s) {x:Nat} (hx:x<2^vs):kV ls (mZ ls s x):=by
 refine⟨xL hG h.bh hx,pq _ _ List.nodup_nil,fun c hc=>?_⟩
 rcases(eN _ _).1 hc with hc|hc
 ·simp at hc
 ·obtain⟨y,hy,hc⟩:=List.mem_flatMap.1 hc
  exact ET hG hx (h.cf y hy) c hc
theorem fO.num {vs:Nat} (hG:ji ls vs) {k:Nat} {o:List Ob} (hk:k≤ls.length) (h:fO ls k o): ∀n∈sq o,my n:=fun n hn=>by
 obtain⟨p,hp,hn⟩:=List.mem_flatMap.1 hn
 have h1:=h.2 p hp
 have:=hG.len;have:=(hG.j4 (show p.1<ls.length by omega)).n4
 simp only[df,List.not_mem_nil,or_false]at hn
 rcases hn with rfl|rfl<;>exact .inr ⟨by omega,by omega⟩
theorem jv.num {vs:Nat} (hG:ji ls vs) {c:Cf} (h:jv ls c): ∀n∈c.nums,my n:=fun n hn=>by
 have:=hG.len
 unfold Cf.nums at hn
 rcases h with⟨h1,h2,h3⟩|⟨k,h1,hk,h2,h3⟩
 ·rw[h1,h2]at hn
  rcases List.mem_cons.1 hn with rfl|hn
  ·exact .inl F
  ·rcases List.mem_cons.1 hn with rfl|hn
   ·exact .inr ⟨by omega,by omega⟩
   ·exact h3.num hG (a8 _) n hn
 ·have:=(hG.j4 hk).n4
  rw[h1]at hn
  rcases List.mem_cons.1 hn with rfl|hn
  ·exact .inr ⟨by omega,by omega⟩
  ·rcases List.mem_cons.1 hn with rfl|hn
   ·exact .inr ⟨by omega,by omega⟩
   ·exact h3.num hG (Nat.le_of_lt hk) n hn
theorem jv.Sm {vs:Nat} (hG:ji ls vs) {c:Cf} (h:jv ls c):c.o.length≤64:=by
 have:=hG.len
 rcases h with⟨_,_,h3⟩|⟨k,_,hk,_,h3⟩
 ·have:=h3.len;omega
 ·have:=h3.len;omega
theorem key_inj {vs:Nat} (hG:ji ls vs) {c d:Cf} (hc:jv ls c) (hd:jv ls d) (h:c.key=d.key):c=d:=
 Lq (xU (hc.num hG) (hd.num hG) h)
end
end Go.Lx

namespace Go.Lx
open Go.RowKit
section
variable {P:Program} {base:World} {O:List Item} {ρ:Env} {dst:Option Nat} {t:TypeId} {p:String} {af:Array Edge} {g:Option (Nat×Bool)}
theorem KD {x y:Operand} {T U:TypeId} {a b:List UInt8} (hx:ev ρ x=str a) (hy:ev ρ y=str b):QT P base ⟨dst,.binOp .eql T x y U,t,p,af,g⟩ ρ O (.bool (decide (a=b))):=fun w _=>by
 simp[execOp,hx,hy,eqGuard,binOp,str,Op.stringOp]
 by_cases e:a=b
 ·subst e;simp
 ·simp[e]
end
structure OB where
 b:Option Addr
 c:Nat
 o:List Ob
def OB.val (r:OB):Value:=.slice r.b r.o.length r.c
def fA (o:List Ob):List Value:=o.flatMap fun p=>[.int .i64 (p.1:Int),.int .i64 (p.2:Int)]
def OB.sM (T:TypeId) (r:OB):Item:=aq r.b r.c T 2 (fA r.o)
def fZ (T:TypeId) (p:List OB):List Item:=p.map (OB.sM T)
def lZ (p:List OB) (r:OB):Prop:=r∈p∨r.o=[]
theorem jG (o:List Ob):(fA o).length=o.length*2:=by
 induction o with
 |nil=>rfl
 |cons p o ih=>simp only[fA,List.flatMap_cons,aF,bL,cN]at ih⊢;omega
def zO (p:Ob):List Value:=[.int .i64 (p.1:Int),.int .i64 (p.2:Int)]
theorem ni {o:List Ob}: ∀ {i:Nat} (hi:i<o.length) (j:Nat) (h:j<(zO o[i]).length),(fA o)[i*2+j]? =some (zO o[i])[j]:=by
 induction o with
 |nil=>intro i hi;simp at hi
 |cons p o ih=>
  intro i hi j hj
  show(zO p++fA o)[i*2+j]? =_
  cases i with
  |zero=>rw[Nat.zero_mul,Nat.zero_add,bI (show j<(zO p).length from hj)];exact ap hj
  |succ i=>
   have h2:(zO p).length=2:=rfl
   rw[bY (by rw[h2];omega),show(i+1)*2+j-(zO p).length=i*2+j by rw[h2];omega]
   exact ih (by simpa using hi) j hj
theorem vn (o:List Ob) (p:Ob):fA (o++[p])=fA o++[.int .i64 (p.1:Int),.int .i64 (p.2:Int)]:=by simp[fA]
structure CR where
 k:Int
 s:Nat
 r:OB
def CR.cf (c:CR):Cf:=⟨c.k,c.s,c.r.o⟩
def CR.cells (c:CR):List Value:=[.int .i64 c.k,.int .i64 (c.s:Int),.slice c.r.b c.r.o.length c.r.c]
def du (l:List CR):List Value:=l.flatMap CR.cells
theorem pj (l:List CR):(du l).length=l.length*3:=by
 induction l with
 |nil=>rfl
 |cons p l ih=>simp only[du,List.flatMap_cons,aF,bL]at ih⊢;rw[ih];simp[CR.cells];omega
theorem so {l:List CR}: ∀ {i:Nat} (hi:i<l.length) (j:Nat) (h:j<l[i].cells.length),(du l)[i*3+j]? =some l[i].cells[j]:=by
 induction l with
 |nil=>intro i hi;simp at hi
 |cons p l ih=>
  intro i hi j hj
  show(p.cells++du l)[i*3+j]? =_
  cases i with
  |zero=>rw[Nat.zero_mul,Nat.zero_add,bI (show j<p.cells.length from hj)];exact ap hj
  |succ i=>
   have h3:p.cells.length=3:=rfl
   rw[bY (by rw[h3];omega),show(i+1)*3+j-p.cells.length=i*3+j by rw[h3];omega]
   exact ih (by simpa using hi) j hj
theorem CE (l:List CR) (c:CR):du (l++[c])=du l++c.cells:=by simp[du]
def yM (l:List CR) (c:CR):List CR:=if c.cf∈l.map CR.cf then l else l++[c]
theorem FX (l:List CR) (c:CR):(yM l c).map CR.cf=add (l.map CR.cf) c.cf:=by
 unfold yM add;split<;>simp
theorem lZ.sl {T:TypeId} {w base:World} {O:List Item} {p:List OB} {r:OB} (hI:Inv base O w) (hO: ∀it∈fZ T p,it∈O) (h:lZ p r):Sl w r.b (fA r.o):=by
 rcases h with h|h
 ·exact hI.gW (hO _ (List.mem_map.2 ⟨r,h,F⟩))
 ·rw[h];exact fun i hi=>absurd hi (by simp[fA])
theorem lZ.mono {p q:List OB} {r:OB} (h:lZ p r) (hq: ∀x∈p,x∈q):lZ q r:=h.elim (fun h=>.inl (hq _ h)) .inr
structure LK where
 k:DK
 b:Option Addr
 c:Nat
instance:Inhabited LK:=⟨⟨⟨none,0,none,0,[]⟩,none,0⟩⟩
def kz (l:Lf) (k:LK):List Value:=[.int .u8 (l.op:Int)]++dC l.d k.k++[.slice k.b l.fo.length k.c,.bool l.la]
def dj (ls:List Lf) (ks:List LK):List Value:=(ls.zip ks).flatMap fun p=>kz p.1 p.2
abbrev lk (ks:List LK) (k:Nat):LK:=ks.getD k default
theorem xH: ∀ {ls:List Lf} {ks:List LK} {i:Nat} (hk:ks.length=ls.length) (hi:i<ls.length) (j:Nat) (h:j<(kz (lf ls i) (lk ks i)).length),(dj ls ks)[i*7+j]? =some (kz (lf ls i) (lk ks i))[j]:=by
 intro ls
 induction ls with
 |nil=>intro ks i _ hi;simp at hi
 |cons l ls ih=>
  intro ks i hk hi j hj
  cases ks with
  |nil=>simp at hk
  |cons k ks=>
   show(kz l k++dj ls ks)[i*7+j]? =_
   cases i with
   |zero=>rw[Nat.zero_mul,Nat.zero_add,bI (show j<(kz l k).length from hj)];exact ap hj
   |succ i=>
    have h7:(kz l k).length=7:=rfl
    rw[bY (by rw[h7];omega),show(i+1)*7+j-(kz l k).length=i*7+j by rw[h7];omega]
    exact ih (by simpa using hk) (by simpa using hi) j hj
theorem dY {ls:List Lf} {ks:List LK} (hk:ks.length=ls.length):(dj ls ks).length=ls.length*7:=by
 have: ∀(z:List (Lf×LK)),(z.flatMap fun p=>kz p.1 p.2).length=z.length*7:=by
  intro z
  induction z with
  |nil=>rfl
  |cons p z ih=>rw[List.flatMap_cons,aF,ih,show(kz p.1 p.2).length=7 from F,bL];omega
 unfold dj;rw[this,List.length_zip,hk,Nat.min_self]
structure kU (w:World) (ob:Nat) (lb:Option Addr) (lc:Nat) (cv fv:Value) (ls:List Lf) (ks:List LK):Prop where
 bx:Sl w (some ⟨ob,0,none⟩) [cv,.slice lb ls.length lc,fv]
 rw:Sl w lb (dj ls ks)
 kl:ks.length=ls.length
 dk: ∀k,k<ls.length→At w (lf ls k).d (lk ks k).k
 fo: ∀k,k<ls.length→Sl w (lk ks k).b (bU (lf ls k).fo)
theorem Inv.out {base w:World} {O:List Item} (hI:Inv base O w) {ob:Nat} {lb:Option Addr} {lc:Nat} {cv fv:Value} {ls:List Lf} {ks:List LK} (h:kU base ob lb lc cv fv ls ks):kU w ob lb lc cv fv ls ks:=
 ⟨hI.sl h.bx,hI.sl h.rw,h.kl,fun k hk=>hI.oP (h.dk k hk),fun k hk=>hI.sl (h.fo k hk)⟩
theorem CI (T:TypeId) (p q:List OB):fZ T (p++q)=fZ T p++fZ T q:=bo
structure ld (ls:List Lf) (l:List CR) (p:List OB):Prop where
 N5: ∀y∈l,jv ls y.cf
 nd:(l.map CR.cf).Nodup
 KK: ∀y∈l,lZ p y.r
theorem ld.mono {ls:List Lf} {l:List CR} {p q:List OB} (h:ld ls l p) (hq: ∀x∈p,x∈q):ld ls l q:=⟨h.N5,h.nd,fun y hy=>(h.KK y hy).mono hq⟩
theorem ld.len {ls:List Lf} {l:List CR} {p:List OB} (h:ld ls l p) {K:Nat} (hK:qu ls K):l.length≤K:=by
 have:=hK (l.map CR.cf) h.nd fun c hc=>by obtain⟨y,hy,rfl⟩:=List.mem_map.1 hc;exact h.N5 y hy
 simpa using this
theorem ld.add {ls:List Lf} {l:List CR} {p:List OB} (h:ld ls l p) {x:CR} (hx:jv ls x.cf) (hp:lZ p x.r):ld ls (yM l x) p:=by
 have hm: ∀y∈yM l x,y∈l∨y=x:=fun y hy=>by
  unfold yM at hy;split at hy
  ·exact .inl hy
  ·simpa using hy
 refine⟨fun y hy=>(hm y hy).elim (h.N5 y) (fun e=>e▸hx),by rw[FX];exact mK h.nd,fun y hy=>(hm y hy).elim (h.KK y) (fun e=>e▸hp)⟩
theorem cd.post {P:Program} {base:World} {f:FuncId} {args:List Value} {O:List Item} {R R':Value→List Item→Prop} (h:cd P base f args O R) (hr: ∀v O',R v O'→ ∃O2,Sub O2 O'∧R' v O2):cd P base f args O R':=fun w M hI=>
 (h w M hI).mono fun e w' ⟨v,O',he,nT,hv⟩=>by
  obtain⟨O2,hs,h2⟩:=hr v O' hv
  exact⟨v,O2,he,nT.j_ hs.oM,h2⟩
theorem qH (A B C X:List Item) (h:Sub (A++B) C):Sub ((A++X)++B) (C++X):=by
 obtain⟨l,h1,h2⟩:=h
 refine⟨l++X,?_,h2.append (aZ _)⟩
 refine List.Perm.trans ?_ (h1.append_right X)
 rw[aI,aI]
 exact List.Perm.append_left A List.perm_append_comm
theorem qI (A B X:List Item):Sub ((A++B)++X) ((A++X)++B):=by
 refine⟨_,?_,aZ _⟩
 rw[aI,aI]
 exact List.Perm.append_left A List.perm_append_comm
end Go.Lx

namespace Go.Proofs.YtgdbfideeeegmaaGreatDoor
open Go.Lx Go.RowKit _root_.Go.Proofs.Tryz
theorem VK (base:World) [dB Tryz.prog base] (b:Option Addr) (c m:Nat) (l:List UInt8) (hl:l.length=m) (hm:m≤900000):
  cd Tryz.prog base 210 [.slice b m c,vI (-1),vI 10] [aq b c 5 1 (di l)] (fun v O'=> ∃b' c',v=.slice b' (m+(kg (-1)).length) c'∧O'=[aq b' c' 5 1 (di (l++kg (-1)))]):=by
 refine aG func210 F ntmps210 F ?_
 refine ai (aj F (ae (ai (ah F (ad (I9 uT2 VL F) (aj F (ae (aO (ai (ah F (ad (cR F F) (ae ?_))))))))))))
 refine bW F ?_
 refine ai (ah F (ao F (cO (v:=.int .u8 45) m_ dF F F F (fun nP=>?_))))
 refine ao F (dh 1 m_ m_ dF F F F F (by simp[hl]) (by decide) (Src.row (j:=0) F (by simp)) (by simp[fu]) (by omega) (by decide) (by decide) (fun xy c3=>?_))
 refine aj F (ae (be (ah F (ad (VM F) (aj F (ae (ai (ah F (ah F (ah F ?_))))))))))
 have mX:=(cd.sub (O':=[aq xy c3 5 1 (di (l++[45]))]) (O:=[aq (aD nP) 1 5 1 [.int .u8 45],aq xy c3 5 1 ((di l)++[.int .u8 45])]) (by rw[show di (l++[45])=di l++[Value.int .u8 45]from bo];exact(by exact Sub.d (.k .z))) (Cd base xy c3 0 (m+1) 1 (l++[45]) (by simp[hl]) (by decide) (by omega)))
 refine ao F (bm JU mX F ?_)
 clear mX
 rintro vr O' ⟨b9,c9,rfl,rfl⟩
 refine aj F (ae (aN ?_))
 refine aT (.slice b9 (m+1+(Lib.decDigits 1).length) c9) Tryz.results210 F ?_
 exact⟨b9,c9,by simp[kg,Lib.decDigits,Nat.add_assoc],by simp[kg,Lib.decDigits]⟩
theorem Zy (base:World) [dB Tryz.prog base] (b:Option Addr) (c m:Nat) (l:List UInt8) (hl:l.length=m) (hm:m≤900000):
  cd Tryz.prog base 160 [.slice b m c,vI (-1),vI 10] [aq b c 5 1 (di l)] (fun v O'=> ∃b' c',v=.slice b' (m+(kg (-1)).length) c'∧O'=[aq b' c' 5 1 (di (l++kg (-1)))]):=by
 refine aG func160 F ntmps160 F ?_
 refine ai (aj F (ae (ai (ah F (ah F (ah F ?_))))))
 have qt:=VK base b c m l hl hm
 refine ao F (bm JV qt F ?_)
 clear qt
 rintro vr O' ⟨b2,c2,rfl,rfl⟩
 refine aj F (ae (aN ?_))
 refine aT (.slice b2 (m+(kg (-1)).length) c2) Tryz.results160 F ?_
 exact⟨b2,c2,F,F⟩
theorem VN (base:World) [dB Tryz.prog base] (b:Option Addr) (c m:Nat) (l:List UInt8) (n:Int) (hl:l.length=m) (hn:my n) (hm:m≤900000):
  cd Tryz.prog base 160 [.slice b m c,vI n,vI 10] [aq b c 5 1 (di l)] (fun v O'=> ∃b' c',v=.slice b' (m+(kg (n)).length) c'∧O'=[aq b' c' 5 1 (di (l++kg (n)))]):=by
 by_cases h:n= -1
 ·subst h;exact Zy base b c m l hl hm
 ·rcases hn with hn|⟨h0,h1⟩
  ·contradiction
  ·obtain⟨k,rfl⟩:=Int.eq_ofNat_of_zero_le h0
   have h9:=RG base b c 0 m k l hl (by omega) (by omega)
   unfold kg;rw[ay h];exact h9
theorem PK (base:World) [dB Tryz.prog base] (b lb:Option Addr) (c m lc:Nat) (xs:List UInt8) (l:List Int) (hx:xs.length=m) (hL:Sl base lb (ints l)) (hn: ∀n∈l,my n) (hm:m+13*l.length≤800000):
  cd Tryz.prog base 112 [.slice b m c,.slice lb l.length lc] [aq b c 5 1 (di xs)] (fun v O'=> ∃b' c',v=.slice b' (m+(iK l).length) c'∧O'=[aq b' c' 5 1 (di (xs++iK l))]):=by
 refine aG func112 F ntmps112 F ?_
 refine ai (aj F (ae (aO (ai (ah F (ad (cP cI F) (ah F (ae (aU ?_)))))))))
 refine dM (fun(i:Nat) ρ O=> ∃(jb:Option Addr) (jc:Nat),O=[aq jb jc 5 1 (di (xs++iK (l.take i)))]∧i≤l.length∧dt [(0,(.slice jb (m+(iK (l.take i)).length) jc)),(1,(.slice lb l.length lc)),(4,nS),(7,(.slice lb l.length lc)),(8,vI (l.length:Int)),(9,vN i)] ρ) (fun i=>l.length-i) 0 ?_ ?_
 ·exact⟨b,c,by simp[iK],bs _,⟨(by show Value.slice b m c=_;simp[iK]),F,F,F,F,F,trivial⟩⟩
 rintro i ρ O ⟨jb,jc,rfl,hi,hH⟩
 obtain⟨gP,rfl⟩:=hH.elim
 clear hH
 have Mx:=ph (l:=l.take i) fun n h=>hn n (List.mem_of_mem_take h)
 have gn:=List.length_take_le i l
 refine ai (ad (cR F F) (ae (aO (aP F (fun hc=>?_) (fun hc=>?_)))))
 ·have ln:i<l.length:=by omega
  have hdl:=qv (hn _ (aL ln))
  refine aE (aO (aU (ai (ad (dZ (i:=i) cI bl F F (aJ hL)) (ad (c_ dS F F (aJ hL) gI) (aj F (ae (be (ah F (ah F ?_))))))))))
  have JW:=VN base jb jc (m+(iK (l.take i)).length) (xs++iK (l.take i)) l[i] (by simp[hx]) (hn _ (aL ln)) (by omega)
  refine ao F (bm Az JW F ?_)
  clear JW
  rintro vr O' ⟨b2,c2,rfl,rfl⟩
  refine ao F (cO (v:=.int .u8 32) m_ dF F F F (fun nP=>?_))
  refine ao F (dh 1 m_ m_ dF F F F F (by simp[hx,Nat.add_assoc]) (by decide) (Src.row (j:=0) F (by simp)) (by simp[fu]) (by have:=qv (hn _ (aL ln));omega) (by decide) (by decide) (fun xy c3=>?_))
  refine aj F (ae (be (ad (dx (a:=i) (b:=1) F F (by omega)) (ah F (ae ?_)))))
  have e9:=Ce ln
  exact⟨i+1,by omega,[aq xy c3 5 1 ((di (xs++iK (l.take i)++kg l[i]))++[.int .u8 32])],(by exact Sub.d (.k .z)),xy,c3,by rw[e9,←aI,←aI,show di (xs++iK (l.take i)++kg l[i]++[32])=di (xs++iK (l.take i)++kg l[i])++[Value.int .u8 32]from bo],by omega,⟨(ax (fun n9=>Value.slice xy n9 c3) (show m+(iK (l.take i)).length+(kg l[i]).length+1=m+(iK (l.take (i+1))).length by rw[e9];simp only[aF,bL,cN,Nat.add_assoc])),F,F,F,F,F,trivial⟩⟩
 have vh: ¬i<l.length:=by omega
 refine cG ?_
 refine ai (ah F (aj F (ae (aN ?_))))
 refine aT (.slice jb (m+(iK (l.take i)).length) jc) Tryz.results112 F ?_
 have wj:i=l.length:=by omega
 subst wj
 rw[List.take_length]
 exact⟨jb,jc,F,F⟩
theorem na (w:World) [dB Tryz.prog w] (cb:Nat) (eb:Option Addr) (en ec vs B:Nat) (hc:Sl w (aD cb) [.slice eb en ec,vI (vs:Int),vI (B:Int)]) (d:cM) (k:DK) (e:Int):
  dA Tryz.prog w (.iface 163 (.agg #[])) 101 [(d_ (aD cb) 0),dV d k,vI e] [] (fun v N=>v=dV d k∧N=[]∧e=0∧d.next.length≤B) (¬(e=0∧d.next.length≤B)):=by
 refine dL func101 F ntmps101 F ?_
 refine ai (ao F (dE (cs:=(dC d k)) F F (fun nP=>?_)))
 refine ao F (bu bK F (fun xy=>?_))
 refine ae (aO (aO ?_))
 refine fQ [(0,0),(1,0),(2,0),(3,0),(4,0),(5,0),(6,0),(7,0),(8,0),(9,0),(10,0),(11,0)] ?_
 refine au F (aK F) ?_
 by_cases he:e≠0
 ·refine au F (aA (dP F F) (av he)) ?_
  refine au F (aK F) (bN F F F (bN F F F (bN F F F (bN F F F (bN F F F (bN F F F (bN F F F ?_)))))))
  refine bN F F F (au F (cg F F) ?_)
  refine cy ?_
  refine bW F ?_
  refine be (ad (cF wk AA F) (ad (ra FK F) ?_))
  exact eC F (wl F (fun _=>⟨F,fun h9=>by omega⟩))
 refine au F (aA (dP F F) (ak he)) (au F (aK F) ?_)
 refine bF F F F (bj cS F fa F F) ?_
 refine bF F F F (bn 1 eI F F F F) ?_
 refine bF F F F (cP eI F) ?_
 refine bF F F F (aK F) ?_
 refine bF F F F (bf F) ?_
 refine bF F F F (ck k_ F bl F F (aJ hc) (by first|omega|(simp;done)|(simp;omega)|(simp_all;done)|(simp_all;omega))) ?_
 refine bF F F F (c_ dS F F (aJ hc) F) ?_
 refine bF F F F (gH F F) ?_
 refine au F (b_ F F) ?_
 refine cy ?_
 refine aP F (fun hc=>?_) (fun hc=>?_)
 ·have O_:d.next.length>B:=by omega
  refine be (ad (cF wk AA F) (ad (ra FK F) ?_))
  exact eC F (wl F (fun _=>⟨F,fun h9=>by omega⟩))
 have yX: ¬d.next.length>B:=by omega
 have Fj:d.next.length≤B:=by omega
 refine aE (ai (ad (ew 1 cS F bK F F F) (ao F (bV (vs:=(dC d k)) 0 bK F F F F ?_))))
 refine ae (aN (az ?_))
 refine cL (i:=0) Tryz.results101 cS F bK F F F ?_
 exact⟨[],Sub.z,F,F,by omega,Fj⟩
end Go.Proofs.YtgdbfideeeegmaaGreatDoor

namespace Go.Proofs
open Go.Shelf
def Tryz.vm:Go.Shelf.Ren:=⟨fun|189=>192|125=>159|257=>220|128=>208|129=>209|294=>245|295=>246|296=>247|297=>248|298=>249|299=>250|216=>221|300=>251|301=>252|328=>260|329=>226|330=>227|331=>261|332=>262|215=>240|343=>265|n=>n,fun|28=>56|3=>3|46=>101|0=>0|51=>254|53=>256|4=>4|183=>247|182=>246|131=>161|5=>5|9=>9|218=>268|222=>272|228=>289|229=>290|n=>n,fun|n=>n⟩
theorem Tryz.AK:Go.Proofs.Lays.n189 Tryz.prog Tryz.vm:= {
 mixed:=by kernel_rfl
 f125:=func159.trans (ax some (by kernel_rfl))
 f128:=func208.trans (ax some (by kernel_rfl))
 f129:=func209.trans (ax some (by kernel_rfl))
 f189:=func192.trans (ax some (by kernel_rfl))
 f215:=func240.trans (ax some (by kernel_rfl))
 f216:=func221.trans (ax some (by kernel_rfl))
 f257:=func220.trans (ax some (by kernel_rfl))
 f294:=func245.trans (ax some (by kernel_rfl))
 f295:=func246.trans (ax some (by kernel_rfl))
 f296:=func247.trans (ax some (by kernel_rfl))
 f297:=func248.trans (ax some (by kernel_rfl))
 f298:=func249.trans (ax some (by kernel_rfl))
 f299:=func250.trans (ax some (by kernel_rfl))
 f300:=func251.trans (ax some (by kernel_rfl))
 f301:=func252.trans (ax some (by kernel_rfl))
 f328:=func260.trans (ax some (by kernel_rfl))
 f329:=func226.trans (ax some (by kernel_rfl))
 f330:=func227.trans (ax some (by kernel_rfl))
 f331:=func261.trans (ax some (by kernel_rfl))
 f332:=func262.trans (ax some (by kernel_rfl))
 f343:=func265.trans (ax some (by kernel_rfl))
 t0:=underlying0
 a0:=Tryz.isAgg0
 z0:=Tryz.sizeOf0
 v0:=Tryz.zeroValue0
 t3:=underlying3
 a3:=Tryz.isAgg3
 z3:=Tryz.sizeOf3
 v3:=Tryz.zeroValue3
 t4:=underlying4
 a4:=Tryz.isAgg4
 z4:=Tryz.sizeOf4
 v4:=Tryz.zeroValue4
 t5:=underlying5
 a5:=Tryz.isAgg5
 z5:=Tryz.sizeOf5
 v5:=Tryz.zeroValue5
 t9:=underlying9
 a9:=Tryz.isAgg9
 z9:=Tryz.sizeOf9
 v9:=Tryz.zeroValue9
 t28:=underlying56
 a28:=Tryz.isAgg56
 z28:=Tryz.sizeOf56
 v28:=Tryz.zeroValue56
 t46:=underlying101
 a46:=Tryz.isAgg101
 z46:=Tryz.sizeOf101
 v46:=Tryz.zeroValue101
 t51:=underlying254
 a51:=Tryz.isAgg254
 z51:=Tryz.sizeOf254
 v51:=Tryz.zeroValue254
 t53:=underlying256
 a53:=Tryz.isAgg256
 z53:=Tryz.sizeOf256
 v53:=Tryz.zeroValue256
 t131:=underlying161
 a131:=Tryz.isAgg161
 z131:=Tryz.sizeOf161
 v131:=Tryz.zeroValue161
 t182:=underlying246
 a182:=Tryz.isAgg246
 z182:=Tryz.sizeOf246
 v182:=Tryz.zeroValue246
 t183:=underlying247
 a183:=Tryz.isAgg247
 z183:=Tryz.sizeOf247
 v183:=Tryz.zeroValue247
 t218:=underlying268
 a218:=Tryz.isAgg268
 z218:=Tryz.sizeOf268
 v218:=Tryz.zeroValue268
 t222:=underlying272
 a222:=Tryz.isAgg272
 z222:=Tryz.sizeOf272
 v222:=Tryz.zeroValue272
 t228:=underlying289
 a228:=Tryz.isAgg289
 z228:=Tryz.sizeOf289
 v228:=Tryz.zeroValue289
 t229:=underlying290
 a229:=Tryz.isAgg290
 z229:=Tryz.sizeOf290
 v229:=Tryz.zeroValue290}
open Go.RowKit Go.Sort Go.Lib in
theorem Tryz.slices_Sort_int (ll off cap:Nat) (zs:List Int) (w:World) (hH:Holds (Value.int .i64) w ll off zs.toArray) (Tg:ll<w.heap.size) (sN:zs.length<4611686018427387904):
  Calls Tryz.prog 192 #[.slice (some ⟨ll,off,none⟩) zs.length cap] w fun e w'=>
   e=.returned (.tuple #[])∧ ∃n os,w'=grow (putRow (Value.int .i64) (Sort.ahead w n) ll off (zs.mergeSort fun x y=>decide (x≤y)).toArray) os:=Any.slices_Sort_int Tryz.AK ll off cap zs w hH Tg sN
end Go.Proofs
namespace Go.Proofs.YtgdbfideeeegmaaGreatDoor
open Go.Lx Go.RowKit Go.Proofs Go.Sort _root_.Go.Proofs.Tryz
def TJ:Go.Shelf.Ren:=⟨fun|20=>193|n=>n,fun|0=>0|3=>3|4=>4|22=>56|40=>101|n=>n,fun|n=>n⟩
theorem GR:Go.Proofs.Lays2.n20 Tryz.prog TJ:= {
 mixed:=by kernel_rfl
 f20:=func193.trans (ax some (by kernel_rfl))
 t0:=underlying0
 a0:=Tryz.isAgg0
 z0:=Tryz.sizeOf0
 v0:=Tryz.zeroValue0
 t3:=underlying3
 a3:=Tryz.isAgg3
 z3:=Tryz.sizeOf3
 v3:=Tryz.zeroValue3
 t4:=underlying4
 a4:=Tryz.isAgg4
 z4:=Tryz.sizeOf4
 v4:=Tryz.zeroValue4
 t22:=underlying56
 a22:=Tryz.isAgg56
 z22:=Tryz.sizeOf56
 v22:=Tryz.zeroValue56
 i3:=by kernel_rfl
}
def TK:Go.Shelf.Ren:=⟨fun|25=>197|31=>221|32=>222|37=>240|n=>n,fun|0=>0|3=>3|4=>4|22=>56|40=>101|n=>n,fun|n=>n⟩
theorem GU:Go.Proofs.Lays2.n25 Tryz.prog TK:= {
 mixed:=by kernel_rfl
 f25:=func197.trans (ax some (by kernel_rfl))
 f31:=func221.trans (ax some (by kernel_rfl))
 f32:=func222.trans (ax some (by kernel_rfl))
 f37:=func240.trans (ax some (by kernel_rfl))
 t0:=underlying0
 a0:=Tryz.isAgg0
 z0:=Tryz.sizeOf0
 v0:=Tryz.zeroValue0
 t3:=underlying3
 a3:=Tryz.isAgg3
 z3:=Tryz.sizeOf3
 v3:=Tryz.zeroValue3
 t4:=underlying4
 a4:=Tryz.isAgg4
 z4:=Tryz.sizeOf4
 v4:=Tryz.zeroValue4
 t22:=underlying56
 a22:=Tryz.isAgg56
 z22:=Tryz.sizeOf56
 v22:=Tryz.zeroValue56
 t40:=underlying101
 a40:=Tryz.isAgg101
 z40:=Tryz.sizeOf101
 v40:=Tryz.zeroValue101
}
def Bd:Go.Shelf.Ren:=⟨fun|21=>198|27=>223|28=>224|35=>253|39=>263|n=>n,fun|0=>0|3=>3|4=>4|22=>56|40=>101|n=>n,fun|n=>n⟩
theorem wA:Go.Proofs.Lays2.n21 Tryz.prog Bd:= {
 mixed:=by kernel_rfl
 f21:=func198.trans (ax some (by kernel_rfl))
 f27:=func223.trans (ax some (by kernel_rfl))
 f28:=func224.trans (ax some (by kernel_rfl))
 f35:=func253.trans (ax some (by kernel_rfl))
 f39:=func263.trans (ax some (by kernel_rfl))
 t0:=underlying0
 a0:=Tryz.isAgg0
 z0:=Tryz.sizeOf0
 v0:=Tryz.zeroValue0
 t3:=underlying3
 a3:=Tryz.isAgg3
 z3:=Tryz.sizeOf3
 v3:=Tryz.zeroValue3
 t4:=underlying4
 a4:=Tryz.isAgg4
 z4:=Tryz.sizeOf4
 v4:=Tryz.zeroValue4
 t22:=underlying56
 a22:=Tryz.isAgg56
 z22:=Tryz.sizeOf56
 v22:=Tryz.zeroValue56
 i3:=by kernel_rfl
}
def TL:Go.Shelf.Ren:=⟨fun|15=>146|n=>n,fun|0=>0|3=>3|4=>4|22=>56|40=>101|n=>n,fun|n=>n⟩
theorem Be:Go.Proofs.Lays2.n15 Tryz.prog TL:= {
 mixed:=by kernel_rfl
 f15:=func146.trans (ax some (by kernel_rfl))
 t3:=underlying3
 a3:=Tryz.isAgg3
 z3:=Tryz.sizeOf3
 v3:=Tryz.zeroValue3
 t4:=underlying4
 a4:=Tryz.isAgg4
 z4:=Tryz.sizeOf4
 v4:=Tryz.zeroValue4
 t22:=underlying56
 a22:=Tryz.isAgg56
 z22:=Tryz.sizeOf56
 v22:=Tryz.zeroValue56
 i3:=by kernel_rfl
}
theorem wB {base w:World} {O:List Lx.Item} {i c:Nat} {T:TypeId} {zs:List Int} (hI:Inv base O w) (hO:O[i]? =some (aq none c T 1 (ints zs))):zs=[]∧c=0:=by
 have h:=hI.row hO
 exact⟨by have:=h.1;simpa using this,h.2⟩
theorem VO (base:World) (b:Option Addr) (c:Nat) (zs:List Int) (sN:zs.length<4611686018427387904):cd Tryz.prog base 192 [.slice b zs.length c] [aq b c 3 1 (ints zs)] (fun v O'=>v=.tuple #[]∧O'=[aq b c 3 1 (ints (qx zs))]):=fun w M hI=>by
 have hO:(([aq b c 3 1 (ints zs)]++M:List Lx.Item))[0]? =some (aq b c 3 1 (ints zs)):=rfl
 cases b with
 |none=>
  obtain⟨rfl,rfl⟩:=wB hI hO
  refine(Any.slices_Sort_int_none Tryz.AK none 0 w).mono ?_
  rintro e w' ⟨rfl,rfl⟩
  refine⟨_,_,F,?_,F,F⟩
  have h9:qx []=[]:=by simp
  rw[h9];exact hI
 |some a=>
  obtain⟨ll,off,sp⟩:=a
  have yw:sp=none:=(hI.row hO).1
  subst yw
  obtain⟨hH,hb⟩:=z_ hI hO
  refine(Tryz.slices_Sort_int ll off c zs w hH hb sN).mono ?_
  rintro e w' ⟨rfl,n,os,rfl⟩
  refine⟨_,_,F,?_,F,F⟩
  exact hI.Lr (ys:=qx zs) hO (List.length_mergeSort zs) n os
theorem JZ (base:World) (b:Option Addr) (c:Nat) (zs:List Int) (sN:zs.length≤1000000):cd Tryz.prog base 193 [.slice b zs.length c] [aq b c 3 1 (ints zs)] (fun v O'=>v=.slice b (Lib.compact zs).length c∧O'=[aq b c 3 1 (ints (Lib.compact zs))]):=fun w M hI=>by
 have hO:(([aq b c 3 1 (ints zs)]++M:List Lx.Item))[0]? =some (aq b c 3 1 (ints zs)):=rfl
 cases b with
 |none=>
  obtain⟨rfl,rfl⟩:=wB hI hO
  refine(Any.slices_Compact_int_empty GR none 0 w).mono ?_
  rintro e w' ⟨rfl,rfl⟩
  refine⟨_,_,F,?_,F,F⟩
  have h9:Lib.compact ([]:List Int)=[]:=rfl
  rw[h9];exact hI
 |some a=>
  obtain⟨ll,off,sp⟩:=a
  have yw:sp=none:=(hI.row hO).1
  subst yw
  obtain⟨hH,hb⟩:=z_ hI hO
  have M3:zs.length≤c:=by have:=(hI.row hO).2;obtain⟨_,_,h,_⟩:=this;simpa using h
  refine(Any.slices_Compact_int GR ll off c zs w hH (by omega) M3).mono ?_
  rintro e w' ⟨rfl,n,rfl⟩
  refine⟨_,_,F,?_,F,F⟩
  have Fj:=Lib.compact_length_le zs
  exact hI.H1 (ys:=Lib.compact zs) hO (by simp;omega) n
theorem NP (w:World) (b:Option Addr) (c:Nat) (l:List Nat) (s:Nat) (hS:Sl w b (bU l)) (ha:l.Pairwise (· < ·)) (hb:l.length≤1000000):cA Tryz.prog 197 [.slice b l.length c,.int .i64 (s:Int)] w fun v N=>v=.tuple #[.int .i64 ((l.countP (· <s):Nat):Int),.bool (decide (s∈l))]∧N=[]:=fun w1 M hI=>by
 have Ug:=hI.sl hS
 by_cases h0:l=[]
 ·subst h0
  exact(Any.slices_BinarySearch_int_empty GU b c (s:Int) w1).mono (by rintro e w' ⟨rfl,rfl⟩;exact⟨_,_,F,hI,F,F⟩)
 ·have DX:0<(bU l).length:=by simp;exact List.length_pos_iff.2 h0
  obtain⟨bk,o,rfl⟩:=Ug.addr DX
  refine(Any.slices_BinarySearch_int GU bk o l.length c (l.map fun y:Nat=>(y:Int)) (s:Int) w1 (by simp) (by omega) (fun j hj=>?_) ?_).mono ?_
  ·have se:j<l.length:=by simpa using hj
   rw[Ug.get (i:=j) (v:=.int .i64 ((l[j]:Nat):Int)) (by simp[se])]
   simp[aw,se]
  ·rw[bt (by simp)]
   exact List.pairwise_map.2 (ha.imp fun h=>by omega)
  ·rintro e w' ⟨rfl,q,rfl⟩
   refine⟨_,_,F,hI.drewN q,?_,F⟩
   rw[bt (by simp),List.countP_map]
   have e1:((fun x:Int=>decide (x<(s:Int)))∘fun y:Nat=>(y:Int))=fun y:Nat=>decide (y<s):=by funext y;simp
   have e2:(List.map (fun y:Nat=>(y:Int)) l).contains (s:Int)=decide (s∈l):=by
    rw[List.contains_eq_mem]
    exact decide_eq_decide.2 ⟨fun h=>(by obtain⟨y,hy,e⟩:=List.mem_map.1 h;have:y=s:=(by omega);exact this▸hy),fun h=>List.mem_map.2 ⟨s,h,F⟩⟩
   rw[e1,e2]
theorem J1 (w:World) (b:Option Addr) (c:Nat) (zs:List Int) (hS:Sl w b (ints zs)) (hz:zs.length≤1000000):cA Tryz.prog 146 [.slice b zs.length c] w fun v N=> ∃b' c',v=.slice b' zs.length c'∧N=[aq b' c' 3 1 (ints zs)]∧c'≤9223372036854775807:=fun w1 M hI=>by
 have Ug:=hI.sl hS
 have key: ∀(e:Ending) (w':World),(∃v':Value,e=.returned v'∧w'.ownsRow w1.heap.size 3 1 v' zs.length (ints zs)∧Below w1.heap.size w1 w')→ ∃(v:Value) (O':List Lx.Item),e=.returned v∧Inv w (O'++M) w'∧ ∃b' c',v=.slice b' zs.length c'∧O'=[aq b' c' 3 1 (ints zs)]∧c'≤9223372036854775807:=by
  rintro e w' ⟨v',rfl,⟨hl,ho⟩,hB⟩
  rcases ho with⟨rfl,h0⟩|⟨g,cap,cur,rfl,hg,hh,hn,hm,hs,ht⟩
  ·have hz0:zs=[]:=List.length_eq_zero_iff.1 h0
   subst hz0
   refine⟨_,_,F,?_,none,0,F,F,by omega⟩
   exact hI.new (N:=[aq none 0 3 1 []]) hB.os hB.tape hB.output hB.size hB.block (by simp[aq,rowP]) (by simp[aq]) (by simp[aq])
  ·refine⟨_,_,F,?_,some ⟨g,0,none⟩,cap,F,F,hm⟩
   have gn:=(Array.getElem?_eq_some_iff.1 hh).1
   refine hI.new (N:=[aq (some ⟨g,0,none⟩) cap 3 1 (ints zs)]) hB.os hB.tape hB.output hB.size hB.block (fun it fC=>?_) (fun it fC k hk=>?_) (by simp[aq])
   ·simp only[db]at fC;subst fC
    refine⟨F,cur,hh,by simp;omega,by show 0+cap*1≤_;omega,fun j hj=>?_⟩
    have h9:(cur.toList.take (zs.length*1))[j]? =some (ints zs)[j]:=by rw[ht];exact ap hj
    rw[List.getElem?_take,aR (by simpa using hj)]at h9
    simpa using h9
   ·simp only[db]at fC;subst fC;simp[aq]at hk;omega
 by_cases h0:b=none
 ·subst h0
  have hz0:zs=[]:=by
   cases zs with
   |nil=>rfl
   |cons z zs=>obtain⟨_,_,e⟩:=Ug.addr (i:=0) (by simp);cases e
  subst hz0
  exact(Any.slices_Clone_int_nil Be _ c w1).mono fun e w' h=>key e w' (by obtain⟨h1,h2⟩:=h;subst h1 h2;exact⟨_,F,⟨by simp,.inl ⟨F,F⟩⟩,Below.refl _ _⟩)
 ·obtain⟨a,rfl⟩:=Option.ne_none_iff_exists'.1 h0
  by_cases hn:zs=[]
  ·subst hn
   exact(Any.slices_Clone_int_zero Be a c w1).mono fun e w' h=>key e w' (by obtain⟨v',h1,h2,h3,h4⟩:=h;exact⟨v',h1,h2,h4⟩)
  ·obtain⟨bk,o,rfl⟩: ∃bk o,a=⟨bk,o,none⟩:=by
    obtain⟨bk,o,e⟩:=Ug.addr (i:=0) (by simp;exact List.length_pos_iff.2 hn)
    exact⟨bk,o,by simpa using e⟩
   refine(Any.slices_Clone_int Be bk o zs.length c zs w1 (by simp) (by omega) (fun j hj=>?_)).mono fun e w' h=>key e w' (by obtain⟨v',h1,h2,h3,h4⟩:=h;rw[List.take_length]at h2;exact⟨v',h1,h2,h4⟩)
   rw[Ug.get (i:=j) (v:=.int .i64 zs[j]) (by simp[hj])]
   simp[aw,hj]
theorem NR (base:World) (b:Option Addr) (c i vb:Nat) (xs:List Int) (x:Int) (hi:i≤xs.length) (hx:xs.length≤1000000) (XY:c≤9223372036854775807):cd Tryz.prog base 198 [.slice b xs.length c,.int .i64 ((i:Nat):Int),.slice (some ⟨vb,0,none⟩) 1 1] [aq b c 3 1 (ints xs),aq (some ⟨vb,0,none⟩) 1 3 1 [.int .i64 x]] (fun v O'=> ∃b' c',v=.slice b' (xs.length+1) c'∧O'=[aq b' c' 3 1 (ints (xs.take i++x::xs.drop i))]):=fun w M hI=>by
 have hO:(([aq b c 3 1 (ints xs),aq (some ⟨vb,0,none⟩) 1 3 1 [.int .i64 x]]++M:List Lx.Item))[0]? =some (aq b c 3 1 (ints xs)):=rfl
 have hV:(([aq b c 3 1 (ints xs),aq (some ⟨vb,0,none⟩) 1 3 1 [.int .i64 x]]++M:List Lx.Item))[1]? =some (aq (some ⟨vb,0,none⟩) 1 3 1 [.int .i64 x]):=rfl
 obtain⟨_,vf,YD,_,hv2,hv3⟩:=hI.row hV
 have MV:vf[0]? =some (.int .i64 x):=hv3 0 (by simp)
 have gq: ∀j v,[Value.int .i64 x][j]? =some v→w.cell? ⟨vb,0+j,none⟩=some v:=fun j v h=>by
  cases j with
  |zero=>simp at h;subst h;simp[World.cell?,YD,MV]
  |succ j=>simp at h
 have YE: ∀v∈[Value.int .i64 x],v.oneCell'=true:=by simp[Value.oneCell']
 have h1c: ∀v∈ints xs,v.oneCell'=true:=fun v hv=>by obtain⟨y,_,rfl⟩:=List.mem_map.1 hv;rfl
 have iM:(ints (xs.take i++x::xs.drop i)).length=xs.length+1:=by simp;omega
 have yy: ∀(b':Option Addr) (c':Nat) (W:World),Inv base (aq b' c' 3 1 (ints (xs.take i++x::xs.drop i))::aq (some ⟨vb,0,none⟩) 1 3 1 [.int .i64 x]::M) W→Inv base ([aq b' c' 3 1 (ints (xs.take i++x::xs.drop i))]++M) W:=fun b' c' W h=>
  h.j_ ⟨_,List.Perm.refl _,List.Sublist.cons_cons _ (List.sublist_cons_self _ _)⟩
 have grown: ∀(W:World) (cc:Nat) (full:Array Value),W.os=w.os→W.tape=w.tape→W.output=w.output→W.heap.size=w.heap.size+1→(∀k,k<w.heap.size→W.heap[k]? =w.heap[k]?)→W.heap[w.heap.size]? =some (.cells full 3 (0,0))→xs.length+1≤cc→full.size=cc→(∀j,j<xs.length+1→full[j]? =(ints (xs.take i++x::xs.drop i))[j]?)→
   Inv base ([aq (some ⟨w.heap.size,0,none⟩) cc 3 1 (ints (xs.take i++x::xs.drop i))]++M) W:=fun W cc full h1 h2 h3 h4 h5 h6 h7 h8 h9=>by
  have h:=hI.new (N:=[aq (some ⟨w.heap.size,0,none⟩) cc 3 1 (ints (xs.take i++x::xs.drop i))]) h1 h2 h3 (by omega) h5 (fun it fC=>by
   simp only[db]at fC;subst fC
   exact⟨F,full,h6,by rw[iM];omega,by show 0+cc*1≤_;omega,fun j hj=>by
    show full[0+j]? =_
    rw[Nat.zero_add,h9 j (by omega),ap hj]⟩) (fun it fC k hk=>by
   simp only[db]at fC;subst fC;simp[aq]at hk;omega) (by simp[aq])
  exact h.j_ ⟨_,List.Perm.refl _,List.Sublist.cons_cons _ (List.Sublist.cons _ (List.sublist_cons_self _ _))⟩
 have key:(∃bk o,b=some ⟨bk,o,none⟩)∨(b=none∧xs=[]∧c=0):=by
  cases b with
  |none=>exact .inr ⟨F,(wB hI hO).1,(wB hI hO).2⟩
  |some a=>obtain⟨bk,o,sp⟩:=a;have yw:sp=none:=(hI.row hO).1;subst yw;exact .inl ⟨bk,o,F⟩
 by_cases wj:i<xs.length
 ·rcases key with⟨bk,o,rfl⟩|⟨_,rfl,_⟩
  ·obtain⟨_,full,hb,h1,h2,h3⟩:=hI.row hO
   simp only[Nat.mul_one,ar]at h1 h2
   have yx: ∀j v,(ints xs)[j]? =some v→w.cell? ⟨bk,o+j,none⟩=some v:=fun j v hv=>by
    obtain⟨hj,e⟩:=List.getElem?_eq_some_iff.1 hv
    have:=h3 j hj
    simp only[World.cell?,hb];simpa[e]using this
   have yw: ∀j,j<c→(w.cell? ⟨bk,o+j,none⟩).isSome=true:=fun j hj=>by
    simp only[World.cell?,hb];simp;omega
   have hfz: ∀j,w.frozen? ⟨bk,j,none⟩=false:=fun j=>by simp[World.frozen?,hb]
   by_cases Mn:xs.length+1≤c
   ·have wh:vb≠bk:=fun e=>by
     have hn:=hI.nodup
     simp[aq,e]at hn
    refine(Any2.slices_Insert_int_shift wA bk o xs.length c i vb 0 1 1 (ints xs) [.int .i64 x] w wj (by decide) Mn XY wh (by simp) F yx (fun j hj=>yw j (by omega)) (fun j _=>hfz _) gq h1c YE 3 3 vf.size full.size (by simp[World.shape?,YD]) (by simp[World.shape?,hb]) (by omega) (by simp[World.frozen?,YD]) (by simp[World.frozen?,YD])).mono ?_
    rintro e w' ⟨rfl,rfl⟩
    refine⟨_,_,F,?_,_,_,F,F⟩
    have hA:=(hI.drew).setCells (p:=i+1) (vs:=(ints xs).drop i) (By:=ints (xs.take i++xs.getD i 0::xs.drop i)) hO (by simp;omega) (by simp;omega) (fun j hj=>by
     have se:j<xs.length+1:=by simp at hj;omega
     rw[tG xs _ hi]
     simp only[List.length_drop,ar]
     by_cases c1:j<i
     ·rw[aR c1,ay (by omega)]
     ·by_cases c2:j=i
      ·subst c2;rw[ay c1,aR F,ay (by omega),bq];simp[aw,wj]
      ·rw[ay c1,ay c2,aR (by omega),List.getElem?_drop,show i+(j-(i+1))=j-1 by omega])
    have hB:=hA.setCells (i:=0) (b:=bk) (o:=o) (c:=c) (T:=3) (cs:=ints (xs.take i++xs.getD i 0::xs.drop i)) (p:=i) (vs:=[.int .i64 x]) (By:=ints (xs.take i++x::xs.drop i)) F (by simp;omega) (by rw[iM];omega) (fun j hj=>by
     rw[tG xs _ hi,tG xs _ hi]
     simp only[bL,cN]
     by_cases c1:j<i
     ·rw[aR c1,ay (by omega),aR c1]
     ·by_cases c2:j=i
      ·subst c2;rw[ay c1,aR F,aR (by omega),gL];rfl
      ·rw[ay c1,ay c2,ay (by omega),ay c1,ay c2])
    exact yy _ _ _ hB
   ·refine(Any2.slices_Insert_int_grow wA bk o xs.length c i vb 0 1 1 (ints xs) [.int .i64 x] w wj (by decide) h1 (by omega) (by omega) (by simp) F yx gq h1c YE).mono ?_
    rintro e w' ⟨rfl,rfl⟩
    refine⟨_,_,F,?_,_,_,F,F⟩
    obtain⟨cc,XZ⟩: ∃cc,grownCap w (xs.length+1) c 3=cc:=⟨_,F⟩
    have hge:xs.length+1≤cc:=XZ▸grownCap_ge w _ _ _
    rw[show grownCap w (xs.length+1) c (Bd.t 3)=cc from XZ]
    have hz: ∀k,Builtin.zeroCells (Value.int .i64 0).cells k=(List.replicate k (Value.int .i64 0)).toArray:=fun k=>by
     have:=qZ (.int .i64 0) k
     simpa[Builtin.zeroCells,Value.cells]using this
    obtain⟨Ir,TM⟩: ∃Ir,Ir=(ints xs).take i++List.replicate (xs.length+1-i) (Value.int .i64 0)++List.replicate (cc-(xs.length+1)) (Value.int .i64 0):=⟨_,F⟩
    have Aj:Ir.length=cc:=by rw[TM];simp;omega
    have e1:((ints xs).take i).toArray++Builtin.zeroCells (Value.int .i64 0).cells (xs.length+1-i)++Builtin.zeroCells (Value.int .i64 0).cells (cc-(xs.length+1))=Ir.toArray:=by
     rw[TM,hz,hz];simp only[List.append_toArray]
    rw[e1,show Bd.t 3=3 from F]
    have hh1:(w.alloc (.cells Ir.toArray 3 (0,0))).drew.heap[w.heap.size]? =some (.cells Ir.toArray 3 (0,0)):=by
     show(w.heap.push _)[w.heap.size]? =_
     simp
    rw[lO _ _ _ _ hh1]
    have hh2:((jL (w.alloc (.cells Ir.toArray 3 (0,0))).drew w.heap.size (.cells (fe Ir i [.int .i64 x]).toArray 3 (0,0))).drew).heap[w.heap.size]? =some (.cells (fe Ir i [.int .i64 x]).toArray 3 (0,0)):=ly (w:=(w.alloc (.cells Ir.toArray 3 (0,0))).drew) (by show w.heap.size<(w.heap.push _).size;simp)
    rw[lO _ _ _ _ hh2]
    refine grown _ cc (fe (fe Ir i [.int .i64 x]) (i+1) ((ints xs).drop i)).toArray F F F ?_ ?_ ?_ hge (by simp[iz,Aj]) ?_
    ·show(((w.heap.push _).setIfInBounds _ _).setIfInBounds _ _).size=_;simp
    ·intro k hk
     show(((w.heap.push _).setIfInBounds _ _).setIfInBounds _ _)[k]? =_
     rw[Array.getElem?_setIfInBounds_ne (by omega),Array.getElem?_setIfInBounds_ne (by omega),Array.getElem?_push,ay (by omega)]
    ·exact ly (w:=(jL (w.alloc (.cells Ir.toArray 3 (0,0))).drew w.heap.size (.cells (fe Ir i [.int .i64 x]).toArray 3 (0,0))).drew) (by show w.heap.size<((w.heap.push _).setIfInBounds _ _).size;simp)
    ·intro j hj
     rw[tG xs _ hi]
     simp only[List.getElem?_toArray]
     rw[mO _ _ _ _ (by simp[iz,Aj];omega),mO _ _ _ _ (by simp[Aj];omega)]
     simp only[List.length_drop,ar,bL,cN]
     by_cases c1:j<i
     ·rw[ay (by omega),ay (by omega),aR c1,TM,aI,bI (by simp;omega),List.getElem?_take,aR c1]
     ·by_cases c2:j=i
      ·subst c2;rw[ay (by omega),aR (by omega),ay c1,aR F,gL];rfl
      ·rw[aR (by omega),ay c1,ay c2,List.getElem?_drop,show i+(j-(i+1))=j-1 by omega]
  ·simp at wj
 ·have abb:i=xs.length:=by omega
  subst abb
  have abc:ints (xs.take xs.length++x::xs.drop xs.length)=ints xs++[.int .i64 x]:=by simp
  by_cases Mn:xs.length+1≤c
  ·rcases key with⟨bk,o,rfl⟩|⟨_,_,rfl⟩
   ·obtain⟨_,full,hb,h1,h2,h3⟩:=hI.row hO
    simp only[Nat.mul_one,ar]at h1 h2
    refine(Any2.slices_Insert_int_end_room wA bk o xs.length c vb 0 1 1 [.int .i64 x] w (by decide) Mn XY F (fun j hj=>by simp only[World.cell?,hb];simp;omega) (fun j _=>by simp[World.frozen?,hb]) gq YE).mono ?_
    rintro e w' ⟨rfl,rfl⟩
    refine⟨_,_,F,?_,_,_,F,F⟩
    have hB:=hI.setCells (p:=xs.length) (vs:=[.int .i64 x]) (By:=ints (xs.take xs.length++x::xs.drop xs.length)) hO (by simp;omega) (by rw[iM];omega) (fun j hj=>by
     rw[tG xs _ (a8 _)]
     simp only[bL,cN]
     by_cases c1:j<xs.length
     ·rw[aR c1,ay (by omega)]
     ·have c2:j=xs.length:=by omega
      subst c2;rw[ay c1,aR F,aR (by omega),gL];rfl)
    exact yy _ _ _ hB
   ·omega
  ·have Yb:xs.length≤c:=by
    rcases key with⟨bk,o,rfl⟩|⟨_,rfl,_⟩
    ·obtain⟨_,full,_,h1,_⟩:=hI.row hO;simpa using h1
    ·simp
   refine(Any2.slices_Insert_int_end_grow wA b xs.length c vb 0 1 1 (ints xs) [.int .i64 x] w (by decide) Yb (by omega) (by omega) (by simp) F (fun e=>key.elim (fun h=>by obtain⟨_,_,h⟩:=h;rw[e]at h;cases h) (fun h=>by rw[h.2.1];rfl)) (fun a ha j v hv=>by
    obtain⟨bk,o,sp⟩:=a
    subst ha
    have yw:sp=none:=(hI.row hO).1
    subst yw
    rw[q5]
    obtain⟨hj,e⟩:=List.getElem?_eq_some_iff.1 hv
    obtain⟨_,full,hb,h1,h2,h3⟩:=hI.row hO
    have:=h3 j hj
    simp only[World.cell?,hb];simpa[e]using this) gq YE).mono ?_
   rintro e w' ⟨rfl,rfl⟩
   refine⟨_,_,F,?_,_,_,F,F⟩
   obtain⟨cc,XZ⟩: ∃cc,grownCap w (xs.length+1) c 3=cc:=⟨_,F⟩
   have hge:xs.length+1≤cc:=XZ▸grownCap_ge w _ _ _
   rw[show grownCap w (xs.length+1) c (Bd.t 3)=cc from XZ]
   have hz: ∀k,Builtin.zeroCells (Value.int .i64 0).cells k=(List.replicate k (Value.int .i64 0)).toArray:=fun k=>by
    have:=qZ (.int .i64 0) k
    simpa[Builtin.zeroCells,Value.cells]using this
   rw[hz]
   refine grown _ cc _ F F F (by show(w.heap.push _).size=_;simp) (fun k hk=>by
    show(w.heap.push _)[k]? =_
    rw[Array.getElem?_push,ay (by omega)]) (by show(w.heap.push (Obj.cells _ 3 (0,0)))[w.heap.size]? =_;rw[Array.getElem?_push_size]) hge (by simp;omega) (fun j hj=>by
    rw[abc]
    simp only[List.append_toArray,List.getElem?_toArray]
    rw[bI (by simp;omega)])
end Go.Proofs.YtgdbfideeeegmaaGreatDoor

namespace Go.Proofs.YtgdbfideeeegmaaGreatDoor
open Go.Lx Go.RowKit _root_.Go.Proofs.Tryz
theorem re {α:Type} {p:α→Bool} {xs:List α} {k:Nat} (h:k<xs.length) (ha:(xs.take k).any p=false) (hp:p xs[k]=false):(xs.take (k+1)).any p=false:=by
 rw[aH h,List.any_append,ha];simp[hp]
theorem NO {p:Int→Bool} {xs:List Int} {i:Int} (h:(xs.any p=false∧i= -1)∨ ∃k:Nat,i=(k:Int)∧k<xs.length∧(xs.take k).any p=false∧p (xs.getD k 0)=true):decide (i≥0)=xs.any p:=by
 rcases h with⟨h1,rfl⟩|⟨k,rfl,h1,_,h2⟩
 ·rw[h1];decide
 ·rw[show xs.any p=true from List.any_eq_true.2 ⟨_,aL h1,by rwa[aw,ap h1]at h2⟩];exact av (by omega)
theorem wm {α:Type} {p:α→Bool} {xs:List α} {k:Nat} (h:k<xs.length) (hp:p xs[k]=true):xs.any p=true:=List.any_eq_true.2 ⟨_,aL h,hp⟩
theorem sg (base:World) [dB Tryz.prog base] (b:Option Addr) (c:Nat) (xs:List Int) (hS:Sl base b (ints xs)) (hb:xs.length<9223372036854775807) (fv:Value) (p:Int→Bool) (OO:List Lx.Item) (hy: ∀x∈xs,eK Tryz.prog base fv [vI x] OO (fun v O'=>v=.bool (p x)∧O'=OO)):
  cd Tryz.prog base 194 [.slice b xs.length c,fv] OO (fun v O'=> ∃i:Int,v=vI i∧((xs.any p=false∧i= -1)∨ ∃k:Nat,i=(k:Int)∧k<xs.length∧(xs.take k).any p=false∧p (xs.getD k 0)=true)∧O'=OO):=by
 refine aG func194 F ntmps194 F ?_
 refine ai (aj F (ae (aO (ai (ah F (ad (cP cI F) (ah F (ae (aU ?_)))))))))
 refine et (fun(k:Nat) ρ O=>O=OO∧k≤xs.length∧(xs.take k).any p=false∧dt [(0,(.slice b xs.length c)),(1,fv),(7,vI (xs.length:Int)),(8,vI (k:Int))] ρ) (fun k=>xs.length-k) 0 ?_ ?_
 ·exact⟨F,bs _,F,⟨F,F,F,F,trivial⟩⟩
 rintro k ρ O ⟨rfl,hk,kZ,hH⟩
 obtain⟨gP,rfl⟩:=hH.elim
 clear hH
 refine ai (ad (cR F F) (ae (aO (aP F (fun hc=>?_) (fun hc=>?_)))))
 ·have ki:k<xs.length:=by omega
  refine aE (aO (aU (ai (ah F (aj F (ae (ai (ah F (ah F (ah F (ad (dZ (i:=k) cI bl F F (aJ hS) ki (by rw[ar];exact ki)) (ad (c_ dS F F (aJ hS) (gI ki)) ?_))))))))))))
  have qw:=hy xs[k] (aL ki)
  refine ao F (fh qw F F ?_)
  clear qw
  rintro vr O' ⟨rfl,rfl⟩
  refine ae (T.cond F (fun hc=>?_) (fun hc=>?_))
  ·refine aO ?_
   refine be (ah F (aj F (ae (aN (az ?_)))))
   refine aT (vI (k:Int)) Tryz.results194 F ?_
   exact⟨_,cj (aZ _),k,F,.inr ⟨k,F,ki,kZ,by rw[aw,ap ki];exact hc⟩,F⟩
  refine aE (be (ad (dx (a:=k) (b:=1) F F (by omega)) (ah F (ae ?_))))
  exact⟨k+1,by omega,F,by omega,re ki kZ hc,⟨F,F,F,F,trivial⟩⟩
 have JX: ¬k<xs.length:=by omega
 refine cG ?_
 refine ai (aj F (ae (aN (az ?_))))
 refine aT (vI (-1)) Tryz.results194 F ?_
 exact⟨_,cj (aZ _), -1,F,.inl ⟨by rw[bt (by omega)]at kZ;exact kZ,F⟩,F⟩
theorem yI (base:World) [dB Tryz.prog base] (b:Option Addr) (c:Nat) (xs:List Int) (hS:Sl base b (ints xs)) (hb:xs.length<9223372036854775807) (fv:Value) (p:Int→Bool) (OO:List Lx.Item) (hy: ∀x∈xs,eK Tryz.prog base fv [vI x] OO (fun v O'=>v=.bool (p x)∧O'=OO)):
  cd Tryz.prog base 195 [.slice b xs.length c,fv] OO (fun v O'=>v=.bool (xs.any p)∧O'=OO):=by
 refine aG func195 F ntmps195 F ?_
 refine ai (aj F (ae (ai (ah F (ah F ?_)))))
 have Cg:=sg base b c xs hS hb fv p OO hy
 refine ao F (bm Ef Cg F ?_)
 clear Cg
 rintro v O' ⟨i,rfl,hi,rfl⟩
 refine ad (lR F F) (aj F (ae (aN (az ?_))))
 refine aT (.bool (decide (i≥0))) Tryz.results195 F ?_
 exact⟨_,cj (aZ _),ax Value.bool (NO hi),F⟩
theorem Zz (base:World) [dB Tryz.prog base] (d:cM) (k:DK) (ha:At base d k) (hv:Valid d) (z1 s:Nat) (hs:s<d.next.length):
  cd Tryz.prog base 196 [vN s,.pointer (aD z1)] [oI z1 25 (dC d k)] (fun v O'=>v=.bool (dD d s)∧O'=[oI z1 25 (dC d k)]):=by
 refine aG func196 F ntmps196 F ?_
 refine ai (aj F (ae (ai (ad (bj cS F dy F F) (ad (bn 0 eu F F F F) (ah F (ad (dZ (i:=s) eu fw F F (aJ ha.aV) (by rw[hv.fin];exact hs) (by rw[ar,hv.fin];exact hs)) (ad (c_ Bh F F (aJ ha.aV) (oV hv hs)) (aj F (ae (aN ?_)))))))))))
 refine aT (.bool (dD d s)) Tryz.results196 F ?_
 exact⟨F,F⟩
theorem wo (w:World) [dB Tryz.prog w] (d:cM) (k:DK) (ha:At w d k) (hv:Valid d) (b:Option Addr) (c:Nat) (l:List Nat) (hS:Sl w b (bU l)) (hl: ∀s∈l,s<d.next.length) (hb:l.length≤1000000):
  cA Tryz.prog 148 [dV d k,.slice b l.length c] w fun v N=>v=.bool (l.any (dD d))∧N=[]:=by
 refine aG func148 F ntmps148 F ?_
 refine ai (ao F (dE (cs:=(dC d k)) F F (fun z1=>?_)))
 refine aj F (ae (ai (ah F (ad (e8) ?_))))
 have Cg:=(show cd _ _ _ _ _ _ from by
   have h9:=yI w b c (l.map fun y:Nat=>(y:Int)) (by rw[gk];exact hS) (by rw[ar];omega) (.func (.func 196) #[] #[.pointer (aD z1)]) (fun x=>dD d x.toNat) [oI z1 25 (dC d k)] (fun x hx=>by
    obtain⟨s,hs,rfl⟩:=List.mem_map.1 hx
    exact cQ (first:=[]) (args:=[vI (s:Int)]) (gv:=[.pointer (aD z1)]) RH (Zz w d k ha hv z1 s (hl s hs)))
   rw[ar]at h9
   exact h9)
 refine ao F (bm RI Cg F ?_)
 clear Cg
 rintro vr O' ⟨rfl,rfl⟩
 refine aj F (ae (aN (az ?_)))
 refine aT (.bool ((l.map fun y:Nat=>(y:Int)).any fun x=>dD d x.toNat)) Tryz.results148 F ?_
 exact⟨[],Sub.z,ax Value.bool (by rw[List.any_map];rfl),F⟩
theorem PL (w:World) [dB Tryz.prog w] (d:cM) (k:DK) (ha:At w d k) (hv:Valid d) (b:Option Addr) (c:Nat) (l:List Nat) (hS:Sl w b (bU l)) (hl: ∀s∈l,s<d.next.length) (hb:l.length≤1000000) (x:Nat) (hx:x<dT d):
  cA Tryz.prog 144 [dV d k,.slice b l.length c,v8 x] w fun v N=> ∃b' c',v=.slice b' (fN d l x).length c'∧N=[aq b' c' 3 1 (bU (fN d l x))]:=by
 refine aG func144 F ntmps144 F ?_
 have IX:=ha.rows.1
 refine ai (ao F (dE (cs:=(dC d k)) F F (fun z1=>?_)))
 refine aj F (ae (aO (ai (ah F (ad (cP cI F) (ah F (ae (aU (T.eY 3 1 ?_)))))))))
 let eJ:Lx.Item:=oI z1 25 (dC d k)
 refine dM (fun(i:Nat) ρ O=> ∃(rb:Option Addr) (rc:Nat),O=[aq rb rc 3 1 (ints ((l.take i).map fun s=>((e7 d s x:Nat):Int))),eJ]∧i≤l.length∧dt [(0,(dV d k)),(1,(.slice b l.length c)),(2,v8 x),(3,(.pointer (aD z1))),(6,(.slice rb i rc)),(9,(.slice b l.length c)),(10,vI (l.length:Int)),(11,vN i)] ρ) (fun i=>l.length-i) 0 ?_ ?_
 ·exact⟨none,0,F,bs _,(.of F)⟩
 rintro i ρ O ⟨rb,rc,rfl,hi,hH⟩
 obtain⟨gP,rfl⟩:=hH.elim
 clear hH
 refine ai (ad (cR F F) (ae (aO (aP F (fun hc=>?_) (fun hc=>?_)))))
 ·have Ci:i<l.length:=by omega
  have rH:l[i]<d.next.length:=hl _ (aL Ci)
  obtain⟨v1,c1,g1,s1⟩:=ha.rows.get rH
  have JY:d.next[l[i]].length=dT d:=hv.len _ (aL rH)
  have DQ:x<d.next[l[i]].length:=by rw[JY];exact hx
  refine aE (aO (aU (ai (ad (dZ (i:=i) cI bl F F (aJ hS)) (ad (c_ dS F F (aJ hS) ij) (aj F (ae (be (ah F (ad (bj cS F fa F F) (ad (bn 1 eI F F F F) (ah F (ad (dZ (i:=l[i]) eI cU F F (aJ ha.outer) rH (IX▸rH)) (ad (c_ cI F F (aJ ha.outer) g1) (ah F (ad (dZ (i:=x) cI bl F F (aJ s1) DQ (by rw[ar];exact DQ)) (ad (c_ dS F F (aJ s1) (wK hv rH hx)) (ao F (cO (v:=vN (e7 d l[i] x)) cI bl F F F (fun z2=>?_))))))))))))))))))))
  refine ao F (dh 1 cI cI bl F F F F (by simp;omega) (by decide) (Src.row (j:=0) F (by simp)) (by simp[fu]) (by omega) (by decide) (by decide) (fun z3 nU=>?_))
  refine aj F (ae (be (ad (dx (a:=i) (b:=1) F F (by omega)) (ah F (ae ?_)))))
  exact⟨i+1,by omega,[aq z3 nU 3 1 ((ints ((l.take i).map fun s=>((e7 d s x:Nat):Int)))++[vN (e7 d l[i] x)]),eJ],(by exact Sub.d (.k (.k .z))),z3,nU,by rw[aH Ci,bo,show ints ((l.take i).map (fun s=>((e7 d s x:Nat):Int))++[l[i]].map (fun s=>((e7 d s x:Nat):Int)))=ints ((l.take i).map fun s=>((e7 d s x:Nat):Int))++[vN (e7 d l[i] x)]from bo],by omega,(.of F)⟩
 have PM: ¬i<l.length:=by omega
 refine cG ?_
 refine aO ?_
 have wj:i=l.length:=by omega
 subst wj
 rw[List.take_length]
 refine be (ah F (ao F (bm RJ (mR [0] (by have h9:=VO w rb rc (l.map fun s=>((e7 d s x:Nat):Int)) (by rw[ar];omega);rw[ar]at h9;exact h9)) F ?_)))
 rintro vr O' ⟨A1,rfl,rfl,rfl⟩
 refine ae (ai (ah F ?_))
 have xz:=cd.under (A:=[aq rb rc 3 1 (ints (qx (l.map fun s=>((e7 d s x:Nat):Int))))]) (B:=[eJ]) (O:=[aq rb rc 3 1 (ints (qx (l.map fun s=>((e7 d s x:Nat):Int)))),eJ]) (show cd _ _ _ _ _ (fun v O'=>v=.slice rb (fN d l x).length rc∧O'=[aq rb rc 3 1 (bU (fN d l x))])from by
   have h9:=JZ w rb rc (qx (l.map fun s=>((e7 d s x:Nat):Int))) (by rw[List.length_mergeSort,ar];exact hb)
   rw[HG hv.toVal hl hx,ar,gk,List.length_mergeSort,ar]at h9
   exact h9) (by exact Sub.rf)
 refine ao F (bm RK xz F ?_)
 clear xz
 rintro vr O' ⟨A1,rfl,rfl,rfl⟩
 refine aj F (ae (aN (az ?_)))
 refine aT (.slice rb ((fN d l x).length) rc) Tryz.results144 F ?_
 exact⟨[aq rb rc 3 1 (bU (fN d l x))],(by exact Sub.k .z),rb,rc,F,F⟩
theorem PN (base:World) [dB Tryz.prog base] (n:Nat) (b:Option Addr) (c cv:Nat) (l:List Nat) (s:Nat) (ha:l.Pairwise (· < ·)) (hl: ∀s∈l,s<n) (hs:s<n) (hb:l.length≤1000000):
  cd Tryz.prog base 149 [.slice b l.length cv,vN s] [aq b c 3 1 (bU l)] (fun v O'=> ∃b' c' c2,v=.slice b' (AB n l s).length c'∧O'=[aq b' c2 3 1 (bU (AB n l s))]):=by
 refine aG func149 F ntmps149 F ?_
 refine ai (aj F (ae (ai (ah F (ah F (ao F (bm RL (aX fun w1 hI=>(haveI:=ey hI;NP w1 b cv l s (hI.gW (mG 0 F)) ha hb)) F ?_)))))))
 rintro vr O' ⟨N,rfl,rfl,rfl⟩
 refine ah F (ad (bG (vs:=_) F F) (ad (bG (vs:=_) F F) (aj F (aj F (ae (aO (ai (ah F (ae (aP F (fun hc=>?_) (fun hc=>?_)))))))))))
 ·refine aO ?_
  refine be (ah F (aj F (ae (aN (az ?_)))))
  refine aT (.slice b l.length cv) Tryz.results149 F ?_
  rw[NQ ha hl hc]
  exact⟨[aq b c 3 1 (bU l)],(by exact Sub.rf),b,cv,c,F,F⟩
 refine aE (ai (ah F ?_))
 refine ao F (bm J0 (aX fun w1 hI=>(haveI:=ey hI;(show cA _ _ _ _ _ from by
   have h9:=J1 w1 b cv (l.map fun y:Nat=>(y:Int)) (by rw[gk];exact hI.gW (mG 0 F)) (by rw[ar];exact hb)
   rw[ar,gk]at h9
   exact h9))) F ?_)
 rintro vr O' ⟨N,rfl,nb,nc,rfl,rfl,Yb⟩
 refine ah F (ah F (ao F (cO (v:=vN s) cI bl F F F (fun z1=>?_))))
 have mX:=cd.under (A:=[aq nb nc 3 1 (bU l),aq (aD z1) 1 3 1 [vN s]]) (B:=[aq b c 3 1 (bU l)]) (O:=[aq (aD z1) 1 3 1 [vN s],aq nb nc 3 1 (bU l),aq b c 3 1 (bU l)]) (show cd _ _ _ _ _ (fun v O'=> ∃b' c',v=.slice b' (l.length+1) c'∧O'=[aq b' c' 3 1 (bU (AB n l s))])from by
   have h9:=NR base nb nc (l.countP (· <s)) z1 (l.map fun y:Nat=>(y:Int)) (s:Int) (by rw[ar];exact List.countP_le_length) (by rw[ar];exact hb) Yb
   rw[←List.map_take,←List.map_drop,ar,gk,show ints (List.map (fun y:Nat=>(y:Int)) (l.take (l.countP (· <s)))++(s:Int)::List.map (fun y:Nat=>(y:Int)) (l.drop (l.countP (· <s))))=bU (AB n l s) by rw[←FL ha hl hs hc,←gk,bo,cD]]at h9
   exact h9) (by exact Sub.eQ [aq (aD z1) 1 3 1 [vN s]] _ (.k (.k .z)))
 refine ao F (bm RM mX F ?_)
 clear mX
 rintro vr O' ⟨A1,rfl,ib,ic,rfl,rfl⟩
 refine aj F (ae (aN (az ?_)))
 refine aT (.slice ib (l.length+1) ic) Tryz.results149 F ?_
 have Pt:(AB n l s).length=l.length+1:=by rw[←FL ha hl hs hc];simp;have:=List.countP_le_length (p:=fun y=>decide (y<s)) (l:=l);omega
 exact⟨[aq ib ic 3 1 (bU (AB n l s))],(by exact Sub.k .z),ib,ic,ic,by rw[Pt],F⟩
end Go.Proofs.YtgdbfideeeegmaaGreatDoor

namespace Go.Proofs.YtgdbfideeeegmaaGreatDoor
open Go.Lx Go.RowKit _root_.Go.Proofs.Tryz
theorem Ip (base:World) [dB Tryz.prog base] (b:Option Addr) (c:Nat) (xs:List Nat) (hS:Sl base b (Ai xs)) (hb:xs.length<9223372036854775807) (fv:Value) (p:Nat→Bool) (OO:List Lx.Item) (hy: ∀x∈xs,eK Tryz.prog base fv [.int .u8 (x:Int)] OO (fun v O'=>v=.bool (p x)∧O'=OO)):
  cd Tryz.prog base 128 [.slice b xs.length c,fv] OO (fun v O'=> ∃i:Int,v=vI i∧decide (i≥0)=xs.any p∧O'=OO):=by
 refine aG func128 F ntmps128 F ?_
 refine ai (aj F (ae (aO (ai (ah F (ad (cP underlying43 F) (ah F (ae (aU ?_)))))))))
 refine et (fun(k:Nat) ρ O=>O=OO∧k≤xs.length∧(xs.take k).any p=false∧dt [(0,(.slice b xs.length c)),(1,fv),(7,vI (xs.length:Int)),(8,vI (k:Int))] ρ) (fun k=>xs.length-k) 0 ?_ ?_
 ·exact⟨F,bs _,F,⟨F,F,F,F,trivial⟩⟩
 rintro k ρ O ⟨rfl,hk,kZ,hH⟩
 obtain⟨gP,rfl⟩:=hH.elim
 clear hH
 refine ai (ad (cR F F) (ae (aO (aP F (fun hc=>?_) (fun hc=>?_)))))
 ·have ki:k<xs.length:=by omega
  refine aE (aO (aU (ai (ah F (aj F (ae (ai (ah F (ah F (ah F (ad (dZ (i:=k) underlying43 dF F F (aJ hS) ki (by rw[ar];exact ki)) (ad (c_ underlying5 F F (aJ hS) (BE ki)) ?_))))))))))))
  have qw:=hy xs[k] (aL ki)
  refine ao F (fh qw F F ?_)
  clear qw
  rintro v O' ⟨rfl,rfl⟩
  refine ae (T.cond F (fun hc=>?_) (fun hc=>?_))
  ·refine aO ?_
   refine be (ah F (aj F (ae (aN (az ?_)))))
   refine aT (vI (k:Int)) Tryz.results128 F ?_
   exact⟨_,cj (aZ _),k,F,by rw[wC ki hc];exact av (by omega),F⟩
  refine aE (be (ad (kp F F (by omega)) (ah F (ae ?_))))
  exact⟨k+1,by omega,F,by omega,wD ki kZ hc,⟨F,F,F,F,trivial⟩⟩
 have JX: ¬k<xs.length:=by omega
 refine cG ?_
 refine ai (aj F (ae (aN (az ?_))))
 refine aT (vI (-1)) Tryz.results128 F ?_
 exact⟨_,cj (aZ _), -1,F,by rw[bt (by omega)]at kZ;rw[kZ];decide,F⟩
theorem tW (base:World) [dB Tryz.prog base] (b:Option Addr) (c:Nat) (xs:List Nat) (hS:Sl base b (Ai xs)) (hb:xs.length<9223372036854775807) (fv:Value) (p:Nat→Bool) (OO:List Lx.Item) (hy: ∀x∈xs,eK Tryz.prog base fv [.int .u8 (x:Int)] OO (fun v O'=>v=.bool (p x)∧O'=OO)):
  cd Tryz.prog base 91 [.slice b xs.length c,fv] OO (fun v O'=>v=.bool (xs.any p)∧O'=OO):=by
 refine aG func91 F ntmps91 F ?_
 refine ai (aj F (ae (ai (ah F (ah F ?_)))))
 have Cg:=Ip base b c xs hS hb fv p OO hy
 refine ao F (bm S4 Cg F ?_)
 clear Cg
 rintro v O' ⟨i,rfl,hi,rfl⟩
 refine ad (lR F F) (aj F (ae (aN (az ?_))))
 refine aT (.bool (decide (i≥0))) Tryz.results91 F ?_
 exact⟨_,cj (aZ _),ax Value.bool hi,F⟩
theorem Dp (base:World) [dB Tryz.prog base] (d:cM) (nb fb:Option Addr) (nc fc:Nat) (MV:0≤d.vars) (QH:d.vars≤6) (bx x:Nat) (hx:x<256):
  cd Tryz.prog base 94 [.int .u8 (x:Int),.pointer (aD bx)] [oI bx 25 [(vI d.vars),(vI d.start),(.slice nb d.next.length nc),(.slice fb d.aV.length fc)]] (fun v O'=>v=.bool (decide (2^d.vars.toNat≤x))∧O'=[oI bx 25 [(vI d.vars),(vI d.start),(.slice nb d.next.length nc),(.slice fb d.aV.length fc)]]):=by
 refine aG func94 F ntmps94 F ?_
 refine ai (aj F (ae (ai (ah F (ad (fS underlying5 underlying3 F (gO ⟨by omega,by omega⟩)) (ad (bj underlying25 F bl F F) (ad (bn 0 underlying3 F F F F) (ad (nL (v:=d.vars.toNat) F (by show Value.int _ d.vars=_;rw[dn MV]) (by omega)) (ad (lR F F) (aj F (ae (aN ?_))))))))))))
 refine aT (.bool (decide ((x:Int)≥((2^d.vars.toNat:Nat):Int)))) Tryz.results94 F ?_
 exact⟨ax Value.bool (decide_eq_decide.2 (by omega)),F⟩
theorem aa6 (w:World) [dB Tryz.prog w] (d:cM) (nb fb:Option Addr) (nc fc:Nat) (vs:List Value) (h:ii w d nb vs fb) (hv:Valid d) (wb:Option Addr) (wc:Nat) (l:List Nat) (hW:Sl w wb (Ai l)) (Uf:l.length<9223372036854775807) (OJ:Wd d l):
  cA Tryz.prog 95 [.agg (eG d nb nc fb fc).toArray,.slice wb l.length wc] w fun v N=>v=vI ((Lx.runN d d.start.toNat l:Nat):Int)∧N=[]:=by
 refine aG func95 F ntmps95 F ?_
 have Ae:=hv.s0
 have Pb:=hv.s1
 have IX:=h.rows.1
 let eJ:Value:=(.slice fb d.aV.length fc)
 let gr:Value:=(.slice nb d.next.length nc)
 refine ai (ao F (dE (cs:=[(vI d.vars),(vI d.start),gr,eJ]) F F (fun b1=>?_)))
 refine aj F (ae (ai (ad (bj underlying146 F bK F F) (ad (bj underlying25 F bl F F) (ad (bT (bn 0 underlying3 F F F F) (v':=vI ((Lx.runN d d.start.toNat (l.take 0):Nat):Int)) (by show Value.int _ d.start=_;rw[show Lx.runN d d.start.toNat (l.take 0)=d.start.toNat from F,dn Ae])) (aj F (ae (aO (ai (ah F (ad (cP underlying43 F) (ah F (ae (aU ?_))))))))))))))
 refine et (fun(k:Nat) ρ O=>O=[oI b1 146 [(vI d.vars),(vI d.start),gr,eJ]]∧k≤l.length∧dt [(0,(.agg #[(vI d.vars),(vI d.start),gr,eJ])),(1,(.slice wb l.length wc)),(2,(.pointer (aD b1))),(4,vI 0),(5,vI ((Lx.runN d d.start.toNat (l.take k):Nat):Int)),(11,(.slice wb l.length wc)),(12,vI (l.length:Int)),(13,vI (k:Int))] ρ) (fun k=>l.length-k) 0 ?_ ?_
 ·exact⟨F,bs _,(.of F)⟩
 rintro k ρ O ⟨rfl,hk,hH⟩
 obtain⟨gP,rfl⟩:=hH.elim
 clear hH
 refine ai (ad (cR F F) (ae (aO (aP F (fun hc=>?_) (fun hc=>?_)))))
 ·have pI:k<l.length:=by omega
  obtain⟨o,ho⟩: ∃o,Lx.runN d d.start.toNat (l.take k)=o:=⟨_,F⟩
  have XX:o<d.next.length:=by rw[←ho];exact kG hv.toVal (by omega) _ (fun x hx=>OJ x (List.mem_of_mem_take hx))
  have Wn:l[k]<2^d.vars.toNat:=OJ _ (aL pI)
  obtain⟨vb,vc,g1,s1⟩:=h.rows.get XX
  have JY:d.next[o].length=2^d.vars.toNat:=hv.len _ (aL XX)
  obtain⟨hta,_,aa7,Od⟩:=hv.gV XX Wn
  have Od:(ints d.next[o])[l[k]]? =some (vI ((e7 d o l[k]:Nat):Int)):=by rw[gI aa7,Od]
  refine aE (aO (aU (ai (ad (dZ (i:=k) underlying43 dF F F (aJ hW) pI (by rw[ar];exact pI)) (ad (c_ underlying5 F F (aJ hW) (BE pI)) (aj F (ae (be (ad (bj underlying146 F bK F F) (ad (bj underlying25 F fa F F) (ad (bn 0 underlying22 F F F F) (ad (bT (aK F) (v':=vI ((o:Nat):Int)) (by show Value.int _ _=_;rw[ho])) (ad (dZ (i:=o) underlying22 cU F F (aJ h.outer) XX (IX▸XX)) (ad (c_ underlying56 F F (aJ h.outer) g1) (ah F (ad (dZ (i:=l[k]) underlying56 bl F F (aJ s1) (by rw[JY];exact Wn) (by rw[ar,JY];exact Wn)) (ad (c_ underlying3 F F (aJ s1) Od) (aj F (ae (be (ad (kp F F (by omega)) (ah F ?_))))))))))))))))))))))
  refine ae ?_
  refine⟨k+1,by omega,F,by omega,?_⟩
  rw[Iq pI,ho];exact(.of F)
 have xG: ¬k<l.length:=by omega
 refine cG ?_
 refine ai (ah F (aj F (ae (aN (az ?_)))))
 refine aT (vI ((Lx.runN d d.start.toNat (l.take k):Nat):Int)) Tryz.results95 F ?_
 have T7:k=l.length:=by omega
 exact⟨[],cj (cm _),by rw[bt (by omega)],F⟩
theorem aa8 (w:World) [dB Tryz.prog w] (d:cM) (nb fb:Option Addr) (nc fc:Nat) (vs:List Value) (h:ii w d nb vs fb) (hb:d.next.length<9223372036854775807) (qV: ∀r∈d.next,r.length<9223372036854775807) (rP:d.aV.length<9223372036854775807) (wb:Option Addr) (wc:Nat) (l:List Nat) (hW:Sl w wb (Ai l)) (Uf:l.length<9223372036854775807) (YB: ∀x∈l,x<256):
  cA Tryz.prog 58 [.agg (eG d nb nc fb fc).toArray,.slice wb l.length wc] w fun v N=>v=.tuple #[vI ((v7 d l:Nat):Int),vI ((lP d l:Nat):Int)]∧N=[]:=by
 refine aG func58 F ntmps58 F ?_
 refine ai (ao F (dE (cs:=[(vI d.vars),(vI d.start),(.slice nb d.next.length nc),(.slice fb d.aV.length fc)]) F F (fun b1=>?_)))
 refine aj F (aj F (ae (aO (ai (ad (ew 0 underlying25 F bK F F F) ?_)))))
 let gd:List Lx.Item:=[oI b1 25 [(vI d.vars),(vI d.start),(.slice nb d.next.length nc),(.slice fb d.aV.length fc)]]
 have vd:=fun(w1:World) (hI:Inv w gd w1)=>(haveI:=Inv.tab (P:=Tryz.prog) hI;iY w1 d nb fb nc fc vs (hI.BF h) hb qV rP)
 refine ao F (bm vp (aX vd) F ?_)
 clear vd
 rintro v O' ⟨N,rfl,rfl,rfl⟩
 refine aj F (ae (ai (ah F ?_)))
 by_cases hE:(cX d:Int)≠0
 ·refine ad (aA (dP F F) (av hE)) ?_
  refine ae ?_
  refine bW F ?_
  refine ai (ah F (aj F (aj F (ae (aN (az ?_))))))
  refine dc (vI 0) (vI (cX d:Int)) Tryz.results58 F F ?_
  have TF:lP d l=cX d:=by unfold lP;rw[aR (by omega)]
  have Mj: ¬lP d l=0:=by omega
  exact⟨[],cj (cm _),by unfold v7;rw[ay Mj,TF];try rfl,F⟩
 refine ad (aA (dP F F) (ak hE)) (ae (a_ F (aE (aO (aU (aO ?_))))))
 have he:cX d=0:=by omega
 have hv:Valid d:=dO.1 he
 refine be (ah F (ad (cP underlying43 F) ?_))
 by_cases h64:(l.length:Int)>64
 ·refine ad (aA (gH F F) (av h64)) ?_
  refine aj F (ae ?_)
  refine bW F ?_
  refine ai (aj F (aj F (ae (aN (az ?_)))))
  refine dc (vI 0) (vI 4) Tryz.results58 F F ?_
  have TF:lP d l=4:=by unfold lP;rw[ay (by simp[he]),aR (by omega)]
  have Mj: ¬lP d l=0:=by omega
  exact⟨[],cj (cm _),by unfold v7;rw[ay Mj,TF];try rfl,F⟩
 refine ad (aA (gH F F) (ak h64)) (aj F (ae (a_ F (ai (ah F (ad (e8) ?_))))))
 by_cases kZ:l.any (fun x=>decide (2^d.vars.toNat≤x))=true
 ·have mX:=(tW w wb wc l hW Uf (.func (.func 94) #[] #[.pointer (aD b1)]) (fun x=>decide (2^d.vars.toNat≤x)) gd (fun x hx=>cQ (first:=[]) (args:=[.int .u8 (x:Int)]) (gv:=[.pointer (aD b1)]) Qt (Dp w d nb fb nc fc hv.v0 hv.v6 b1 x (YB x hx)))).mono (fun v O' hh=>(⟨hh.1.trans (ax Value.bool ((show∀b:Bool,b=decide (b=true)from fun b=>by cases b<;>rfl) _)),hh.2⟩:v=.bool (decide (l.any (fun x=>decide (2^d.vars.toNat≤x))=true))∧O'=gd))
  refine ao F (bm Qs mX F ?_)
  clear mX
  rintro v O' ⟨rfl,rfl⟩
  rw[av kZ]
  refine aj F (ae ?_)
  refine bW F ?_
  refine ai (aj F (aj F (ae (aN (az ?_)))))
  refine dc (vI 0) (vI 1) Tryz.results58 F F ?_
  have TF:lP d l=1:=by unfold lP;rw[ay (by simp[he]),ay (by omega),aR kZ]
  have Mj: ¬lP d l=0:=by omega
  exact⟨[],cj (cm _),by unfold v7;rw[ay Mj,TF];try rfl,F⟩
 have mX:=(tW w wb wc l hW Uf (.func (.func 94) #[] #[.pointer (aD b1)]) (fun x=>decide (2^d.vars.toNat≤x)) gd (fun x hx=>cQ (first:=[]) (args:=[.int .u8 (x:Int)]) (gv:=[.pointer (aD b1)]) Qt (Dp w d nb fb nc fc hv.v0 hv.v6 b1 x (YB x hx)))).mono (fun v O' hh=>(⟨hh.1.trans (ax Value.bool ((show∀b:Bool,b=decide (b=true)from fun b=>by cases b<;>rfl) _)),hh.2⟩:v=.bool (decide (l.any (fun x=>decide (2^d.vars.toNat≤x))=true))∧O'=gd))
 refine ao F (bm Qs mX F ?_)
 clear mX
 rintro v O' ⟨rfl,rfl⟩
 rw[ak kZ]
 refine aj F (ae (a_ F (aE (aO ?_))))
 have Mj:lP d l=0:=by unfold lP;rw[ay (by simp[he]),ay (by omega),ay kZ]
 have OJ:Wd d l:=(uq.1 Mj).2.2
 refine be (ad (ew 0 underlying25 F bK F F F) (ad (cF (cs:=[(vI d.vars),(vI d.start),(.slice nb d.next.length nc),(.slice fb d.aV.length fc)]) Oo SX (by kernel_rfl)) (ad (e8) (aj F (ae (ai (ah F (ah F ?_))))))))
 have LC:=cQ (first:=[.agg (eG d nb nc fb fc).toArray]) (args:=[.slice wb l.length wc]) (gv:=[]) Xk (aX (fun w1 (hI:Inv w gd w1)=>haveI:=Inv.tab (P:=Tryz.prog) hI;aa6 w1 d nb fb nc fc vs (hI.BF h) hv wb wc l (hI.sl hW) Uf OJ))
 refine ao F (fh LC F F ?_)
 clear LC
 rintro v O' ⟨N,rfl,rfl,rfl⟩
 refine aj F (aj F (ae (aN (az ?_))))
 refine dc (vI ((Lx.runN d d.start.toNat l:Nat):Int)) (vI 0) Tryz.results58 F F ?_
 have TF:=Mj
 exact⟨[],cj (cm _),by unfold v7;rw[aR Mj,TF];try rfl,F⟩
theorem JQ (w:World) [dB Tryz.prog w] (d:cM) (nb fb:Option Addr) (nc fc:Nat) (vs:List Value) (h:ii w d nb vs fb) (hb:d.next.length<9223372036854775807) (qV: ∀r∈d.next,r.length<9223372036854775807) (rP:d.aV.length<9223372036854775807) (wb:Option Addr) (wc:Nat) (l:List Nat) (hW:Sl w wb (Ai l)) (Uf:l.length<9223372036854775807) (YB: ∀x∈l,x<256):
  cA Tryz.prog 29 [.agg (eG d nb nc fb fc).toArray,.slice wb l.length wc] w fun v N=>v=.tuple #[.bool (G5 d l),vI ((lP d l:Nat):Int)]∧N=[]:=by
 refine aG func29 F ntmps29 F ?_
 refine ai (ao F (dE (cs:=[(vI d.vars),(vI d.start),(.slice nb d.next.length nc),(.slice fb d.aV.length fc)]) F F (fun b1=>?_)))
 refine aj F (aj F (ae (ai (ad (ew 0 underlying25 F bK F F F) (ah F ?_)))))
 have Cv:=fun(w1:World) (hI:Inv w [oI b1 25 [(vI d.vars),(vI d.start),(.slice nb d.next.length nc),(.slice fb d.aV.length fc)]] w1)=>(haveI:=Inv.tab (P:=Tryz.prog) hI;aa8 w1 d nb fb nc fc vs (hI.BF h) hb qV rP wb wc l (hI.sl hW) Uf YB)
 refine ao F (bm Xg (aX Cv) F ?_)
 clear Cv
 rintro v O' ⟨N,rfl,rfl,rfl⟩
 refine ah F (ad (bG (vs:=_) F F) (ad (bG (vs:=_) F F) (aj F (aj F (ae (aO ?_))))))
 have wQ:lP d l=0→v7 d l<d.aV.length:=fun h0=>by
  obtain⟨hv,_,OJ⟩:=uq.1 h0
  unfold v7;rw[aR h0,hv.fin]
  exact kG hv.toVal (by have:=hv.s0;have:=hv.s1;omega) _ OJ
 refine be (ah F ?_)
 by_cases h0:((lP d l:Nat):Int)=0
 ·refine ad (aA (bM F F) (av h0)) ?_
  refine ah F (aB F F (bj underlying25 F dy F F) (aB F F (bn 0 underlying23 F F F F) (aB F F (aK F) (aB F F (dZ (i:=(v7 d l)) underlying23 fw F F (aJ h.aV) (wQ (by omega)) (by rw[ar];exact wQ (by omega))) (aB F F (c_ underlying4 F F (aJ h.aV) (show(cE d.aV)[v7 d l]? =some (.bool (dD d (v7 d l))) by rw[iy (wQ (by omega))];simp[dD,wQ (by omega)])) (ad (cg F F) (ah F (aj F (aj F (ae (aN (az ?_))))))))))))
  refine dc (.bool (dD d (v7 d l))) (vI ((lP d l:Nat):Int)) Tryz.results29 F F ?_
  have h9:lP d l=0:=by omega
  exact⟨[],cj (cm _),by unfold G5 v7;rw[aR h9,aR h9],F⟩
 refine ad (aA (bM F F) (ak h0)) (ah F (aS F F (aS F F (aS F F (aS F F (aS F F (ad (b_ F F) (ah F (aj F (aj F (ae (aN (az ?_)))))))))))))
 refine dc (.bool false) (vI ((lP d l:Nat):Int)) Tryz.results29 F F ?_
 have h9: ¬lP d l=0:=by omega
 exact⟨[],cj (cm _),by unfold G5;rw[ay h9],F⟩
end Go.Proofs.YtgdbfideeeegmaaGreatDoor

