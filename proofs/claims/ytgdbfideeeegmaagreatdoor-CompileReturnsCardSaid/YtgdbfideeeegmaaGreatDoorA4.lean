/- Contracts of functions of the program, and what they answer. Conditions: those each theorem names. -/
import Derived.Test.YtgdbfideeeegmaaGreatDoorA2
import Derived.Test.YtgdbfideeeegmaaGreatDoorA3
import Derived.Test.YtgdbfideeeegmaaGreatDoorA1
import Derived.Test.YtgdbfideeeegmaaGreatDoorA0
set_option linter.unusedSectionVars false
set_option linter.unusedSimpArgs false
set_option linter.unusedVariables false
set_option linter.unnecessarySimpa false
set_option maxHeartbeats 8000000
set_option maxRecDepth 20000
namespace Go.Proofs.YtgdbfideeeegmaaGreatDoor
open Go.Lx Go.RowKit _root_.Go.Proofs.Tryz
theorem OR (w:World) [dB Tryz.prog w] (d:cM) (nb fb:Option Addr) (nc fc:Nat) (vs:List Value) (h:ii w d nb vs fb) (hv:Valid d) (hn:d.next.length<10000):
  cA Tryz.prog 52 [.agg (eG d nb nc fb fc).toArray] w fun v N=> ∃BN BO oN oO qs,v=.tuple #[.agg (eG (ek d) BN BO oN oO).toArray,vI 0]∧N=[aq BN BO 56 1 (dl qs),aq oN oO 4 1 (cE (ek d).aV)]++ce 3 qs∧nums qs=(ek d).next:=by
 refine aG func52 F ntmps52 F ?_
 have he:=dO.2 hv
 have hb:d.next.length<9223372036854775807:=by omega
 have qV: ∀r∈d.next,r.length<9223372036854775807:=hv.wM
 have rP:d.aV.length<9223372036854775807:=by have:=hv.fin;omega
 have Q2:=hv.n0
 have Ae:=hv.s0
 have Pb:=hv.s1
 have rH:d.start.toNat<d.next.length:=by omega
 refine ai (ao F (dE (cs:=[(vI d.vars),(vI d.start),(.slice nb d.next.length nc),(.slice fb d.aV.length fc)]) F F (fun z1=>?_)))
 refine ao F (bu bK F (fun z2=>?_))
 refine aj F (ae (aO (ai (ad (ew 1 cS F bK F F F) ?_))))
 let eJ:Lx.Item:=oI z1 25 [(vI d.vars),(vI d.start),(.slice nb d.next.length nc),(.slice fb d.aV.length fc)]
 let mg:Lx.Item:=oI z2 25 [(vI 0),(vI 0),nS,nS]
 have Cv:=fun(w1:World) (hI:Inv w [mg,eJ] w1)=>(haveI:=ey hI;iY w1 d nb fb nc fc vs (hI.BF h) hb qV rP)
 refine ao F (bm vp (aX Cv) F ?_)
 clear Cv
 rintro v O' ⟨N,rfl,rfl,rfl⟩
 rw[he]
 refine aj F (ae (ai (ah F (ad (dP F F) (ae (a_ F (aE ?_)))))))
 let ul:Value:=(.agg #[(vI d.vars),(vI d.start),(.slice nb d.next.length nc),(.slice fb d.aV.length fc)])
 refine gh (fun ρ O=> ∃(bA bB bC bD:Nat),O=[oI bC 56 [(.slice (aD bA) 1 1)],oI bD 23 [(.slice (aD bB) d.next.length d.next.length)],aq (aD bA) 1 3 1 [(vI d.start)],aq (aD bB) d.next.length 4 1 (List.replicate d.next.length (.bool false)),mg,eJ]∧dt [(0,ul),(1,(.pointer (aD z1))),(2,(.pointer (aD z2))),(3,vI 0),(4,vI ((0:Nat):Int)),(5,(.pointer (aD bC))),(6,(.pointer (aD bD)))] ρ) ?_ ?_
 ·refine n5 [eJ] 11 mixed F (aC [1] F) (fun _ _ _ _ h=>h) ?_
  refine cB 0 F (by kernel_rfl) (bj cS F bl F F) ?_
  refine cB 1 F (by kernel_rfl) (bn 0 dS F F F F) ?_
  refine cB 3 F (by kernel_rfl) (bj cS F fa F F) ?_
  refine cB 4 F (by kernel_rfl) (bn 0 eI F F F F) ?_
  refine cB 5 F (by kernel_rfl) (cP eI F) ?_
  refine bg [2,6,7,8] (by kernel_rfl) F ⟨⟨_,F,F,cO (v:=(vI d.start)) cI bl F F F (fun bA=>⟨aC [2] F,?_⟩)⟩,⟨_,F,F,cW (m:=d.next.length) eu fw F F (by omega) (by omega) (fun bB=>⟨aC [2] F,?_⟩)⟩,⟨_,F,F,bu cU F (fun bC=>⟨aC [2] F,?_⟩)⟩,⟨_,F,F,bu dy F (fun bD=>⟨aC [2] F,?_⟩)⟩,trivial⟩
  ·refine bg [6,7,8] (by kernel_rfl) F ⟨⟨_,F,F,cW (m:=d.next.length) eu fw F F (by omega) (by omega) (fun bB=>⟨aC [3] F,?_⟩)⟩,⟨_,F,F,bu cU F (fun bC=>⟨aC [3] F,?_⟩)⟩,⟨_,F,F,bu dy F (fun bD=>⟨aC [3] F,?_⟩)⟩,trivial⟩
   ·refine bg [7,8] (by kernel_rfl) F ⟨⟨_,F,F,bu cU F (fun bC=>⟨aC [4] F,?_⟩)⟩,⟨_,F,F,bu dy F (fun bD=>⟨aC [4] F,?_⟩)⟩,trivial⟩
    ·refine bg [8] (by kernel_rfl) F ⟨⟨_,F,F,bu dy F (fun bD=>⟨aC [5] F,?_⟩)⟩,trivial⟩
     refine bg [9] (by kernel_rfl) F ⟨⟨_,F,F,bV (vs:=[(.slice (aD bA) 1 1)]) 1 cU F F F F ⟨aC [5] F,?_⟩⟩,trivial⟩
     refine bg [10] (by kernel_rfl) F ⟨⟨_,F,F,bV (vs:=[(.slice (aD bB) d.next.length d.next.length)]) 0 dy F F F F ⟨aC [5] F,?_⟩⟩,trivial⟩
     exact dw (by kernel_rfl) ⟨bA,bB,bC,bD,F,(.of F)⟩ (aC [1,0,1,0,0,0] F)
    refine bg [7] (by kernel_rfl) F ⟨⟨_,F,F,bu cU F (fun bC=>⟨aC [5] F,?_⟩)⟩,trivial⟩
    refine bg [9] (by kernel_rfl) F ⟨⟨_,F,F,bV (vs:=[(.slice (aD bA) 1 1)]) 0 cU F F F F ⟨aC [5] F,?_⟩⟩,trivial⟩
    refine bg [10] (by kernel_rfl) F ⟨⟨_,F,F,bV (vs:=[(.slice (aD bB) d.next.length d.next.length)]) 1 dy F F F F ⟨aC [5] F,?_⟩⟩,trivial⟩
    exact dw (by kernel_rfl) ⟨bA,bB,bC,bD,F,(.of F)⟩ (aC [0,0,1,0,0,0] F)
   ·refine bg [6,8] (by kernel_rfl) F ⟨⟨_,F,F,cW (m:=d.next.length) eu fw F F (by omega) (by omega) (fun bB=>⟨aC [4] F,?_⟩)⟩,⟨_,F,F,bu dy F (fun bD=>⟨aC [4] F,?_⟩)⟩,trivial⟩
    ·refine bg [8] (by kernel_rfl) F ⟨⟨_,F,F,bu dy F (fun bD=>⟨aC [5] F,?_⟩)⟩,trivial⟩
     refine bg [9] (by kernel_rfl) F ⟨⟨_,F,F,bV (vs:=[(.slice (aD bA) 1 1)]) 2 cU F F F F ⟨aC [5] F,?_⟩⟩,trivial⟩
     refine bg [10] (by kernel_rfl) F ⟨⟨_,F,F,bV (vs:=[(.slice (aD bB) d.next.length d.next.length)]) 0 dy F F F F ⟨aC [5] F,?_⟩⟩,trivial⟩
     exact dw (by kernel_rfl) ⟨bA,bB,bC,bD,F,(.of F)⟩ (aC [2,0,1,0,0,0] F)
    refine bg [6,9] (by kernel_rfl) F ⟨⟨_,F,F,cW (m:=d.next.length) eu fw F F (by omega) (by omega) (fun bB=>⟨aC [5] F,?_⟩)⟩,⟨_,F,F,bV (vs:=[(.slice (aD bA) 1 1)]) 1 cU F F F F ⟨aC [4] F,?_⟩⟩,trivial⟩
    ·refine bg [9] (by kernel_rfl) F ⟨⟨_,F,F,bV (vs:=[(.slice (aD bA) 1 1)]) 2 cU F F F F ⟨aC [5] F,?_⟩⟩,trivial⟩
     refine bg [10] (by kernel_rfl) F ⟨⟨_,F,F,bV (vs:=[(.slice (aD bB) d.next.length d.next.length)]) 1 dy F F F F ⟨aC [5] F,?_⟩⟩,trivial⟩
     exact dw (by kernel_rfl) ⟨bA,bB,bC,bD,F,(.of F)⟩ (aC [2,1,1,0,0,0] F)
    refine bg [6] (by kernel_rfl) F ⟨⟨_,F,F,cW (m:=d.next.length) eu fw F F (by omega) (by omega) (fun bB=>⟨aC [5] F,?_⟩)⟩,trivial⟩
    refine bg [10] (by kernel_rfl) F ⟨⟨_,F,F,bV (vs:=[(.slice (aD bB) d.next.length d.next.length)]) 1 dy F F F F ⟨aC [5] F,?_⟩⟩,trivial⟩
    exact dw (by kernel_rfl) ⟨bA,bB,bC,bD,F,(.of F)⟩ (aC [2,1,1,0,0,0] F)
   refine bg [6,7] (by kernel_rfl) F ⟨⟨_,F,F,cW (m:=d.next.length) eu fw F F (by omega) (by omega) (fun bB=>⟨aC [4] F,?_⟩)⟩,⟨_,F,F,bu cU F (fun bC=>⟨aC [4] F,?_⟩)⟩,trivial⟩
   ·refine bg [7] (by kernel_rfl) F ⟨⟨_,F,F,bu cU F (fun bC=>⟨aC [5] F,?_⟩)⟩,trivial⟩
    refine bg [9] (by kernel_rfl) F ⟨⟨_,F,F,bV (vs:=[(.slice (aD bA) 1 1)]) 0 cU F F F F ⟨aC [5] F,?_⟩⟩,trivial⟩
    refine bg [10] (by kernel_rfl) F ⟨⟨_,F,F,bV (vs:=[(.slice (aD bB) d.next.length d.next.length)]) 2 dy F F F F ⟨aC [5] F,?_⟩⟩,trivial⟩
    exact dw (by kernel_rfl) ⟨bA,bB,bC,bD,F,(.of F)⟩ (aC [0,1,1,0,0,0] F)
   refine bg [6,9] (by kernel_rfl) F ⟨⟨_,F,F,cW (m:=d.next.length) eu fw F F (by omega) (by omega) (fun bB=>⟨aC [5] F,?_⟩)⟩,⟨_,F,F,bV (vs:=[(.slice (aD bA) 1 1)]) 0 cU F F F F ⟨aC [4] F,?_⟩⟩,trivial⟩
   ·refine bg [9] (by kernel_rfl) F ⟨⟨_,F,F,bV (vs:=[(.slice (aD bA) 1 1)]) 1 cU F F F F ⟨aC [5] F,?_⟩⟩,trivial⟩
    refine bg [10] (by kernel_rfl) F ⟨⟨_,F,F,bV (vs:=[(.slice (aD bB) d.next.length d.next.length)]) 2 dy F F F F ⟨aC [5] F,?_⟩⟩,trivial⟩
    exact dw (by kernel_rfl) ⟨bA,bB,bC,bD,F,(.of F)⟩ (aC [1,1,1,0,0,0] F)
   refine bg [6] (by kernel_rfl) F ⟨⟨_,F,F,cW (m:=d.next.length) eu fw F F (by omega) (by omega) (fun bB=>⟨aC [5] F,?_⟩)⟩,trivial⟩
   refine bg [10] (by kernel_rfl) F ⟨⟨_,F,F,bV (vs:=[(.slice (aD bB) d.next.length d.next.length)]) 2 dy F F F F ⟨aC [5] F,?_⟩⟩,trivial⟩
   exact dw (by kernel_rfl) ⟨bA,bB,bC,bD,F,(.of F)⟩ (aC [1,1,1,0,0,0] F)
  ·refine bg [2,7,8] (by kernel_rfl) F ⟨⟨_,F,F,cO (v:=(vI d.start)) cI bl F F F (fun bA=>⟨aC [3] F,?_⟩)⟩,⟨_,F,F,bu cU F (fun bC=>⟨aC [3] F,?_⟩)⟩,⟨_,F,F,bu dy F (fun bD=>⟨aC [3] F,?_⟩)⟩,trivial⟩
   ·refine bg [7,8] (by kernel_rfl) F ⟨⟨_,F,F,bu cU F (fun bC=>⟨aC [4] F,?_⟩)⟩,⟨_,F,F,bu dy F (fun bD=>⟨aC [4] F,?_⟩)⟩,trivial⟩
    ·refine bg [8] (by kernel_rfl) F ⟨⟨_,F,F,bu dy F (fun bD=>⟨aC [5] F,?_⟩)⟩,trivial⟩
     refine bg [9] (by kernel_rfl) F ⟨⟨_,F,F,bV (vs:=[(.slice (aD bA) 1 1)]) 1 cU F F F F ⟨aC [5] F,?_⟩⟩,trivial⟩
     refine bg [10] (by kernel_rfl) F ⟨⟨_,F,F,bV (vs:=[(.slice (aD bB) d.next.length d.next.length)]) 0 dy F F F F ⟨aC [5] F,?_⟩⟩,trivial⟩
     exact dw (by kernel_rfl) ⟨bA,bB,bC,bD,F,(.of F)⟩ (aC [1,0,0,0,0,0] F)
    refine bg [7] (by kernel_rfl) F ⟨⟨_,F,F,bu cU F (fun bC=>⟨aC [5] F,?_⟩)⟩,trivial⟩
    refine bg [9] (by kernel_rfl) F ⟨⟨_,F,F,bV (vs:=[(.slice (aD bA) 1 1)]) 0 cU F F F F ⟨aC [5] F,?_⟩⟩,trivial⟩
    refine bg [10] (by kernel_rfl) F ⟨⟨_,F,F,bV (vs:=[(.slice (aD bB) d.next.length d.next.length)]) 1 dy F F F F ⟨aC [5] F,?_⟩⟩,trivial⟩
    exact dw (by kernel_rfl) ⟨bA,bB,bC,bD,F,(.of F)⟩ (aC [0,0,0,0,0,0] F)
   ·refine bg [2,8] (by kernel_rfl) F ⟨⟨_,F,F,cO (v:=(vI d.start)) cI bl F F F (fun bA=>⟨aC [4] F,?_⟩)⟩,⟨_,F,F,bu dy F (fun bD=>⟨aC [4] F,?_⟩)⟩,trivial⟩
    ·refine bg [8] (by kernel_rfl) F ⟨⟨_,F,F,bu dy F (fun bD=>⟨aC [5] F,?_⟩)⟩,trivial⟩
     refine bg [9] (by kernel_rfl) F ⟨⟨_,F,F,bV (vs:=[(.slice (aD bA) 1 1)]) 2 cU F F F F ⟨aC [5] F,?_⟩⟩,trivial⟩
     refine bg [10] (by kernel_rfl) F ⟨⟨_,F,F,bV (vs:=[(.slice (aD bB) d.next.length d.next.length)]) 0 dy F F F F ⟨aC [5] F,?_⟩⟩,trivial⟩
     exact dw (by kernel_rfl) ⟨bA,bB,bC,bD,F,(.of F)⟩ (aC [2,0,0,0,0,0] F)
    refine bg [2] (by kernel_rfl) F ⟨⟨_,F,F,cO (v:=(vI d.start)) cI bl F F F (fun bA=>⟨aC [5] F,?_⟩)⟩,trivial⟩
    refine bg [9] (by kernel_rfl) F ⟨⟨_,F,F,bV (vs:=[(.slice (aD bA) 1 1)]) 2 cU F F F F ⟨aC [5] F,?_⟩⟩,trivial⟩
    refine bg [10] (by kernel_rfl) F ⟨⟨_,F,F,bV (vs:=[(.slice (aD bB) d.next.length d.next.length)]) 1 dy F F F F ⟨aC [5] F,?_⟩⟩,trivial⟩
    exact dw (by kernel_rfl) ⟨bA,bB,bC,bD,F,(.of F)⟩ (aC [2,1,0,0,0,0] F)
   refine bg [2,7] (by kernel_rfl) F ⟨⟨_,F,F,cO (v:=(vI d.start)) cI bl F F F (fun bA=>⟨aC [4] F,?_⟩)⟩,⟨_,F,F,bu cU F (fun bC=>⟨aC [4] F,?_⟩)⟩,trivial⟩
   ·refine bg [7] (by kernel_rfl) F ⟨⟨_,F,F,bu cU F (fun bC=>⟨aC [5] F,?_⟩)⟩,trivial⟩
    refine bg [9] (by kernel_rfl) F ⟨⟨_,F,F,bV (vs:=[(.slice (aD bA) 1 1)]) 0 cU F F F F ⟨aC [5] F,?_⟩⟩,trivial⟩
    refine bg [10] (by kernel_rfl) F ⟨⟨_,F,F,bV (vs:=[(.slice (aD bB) d.next.length d.next.length)]) 2 dy F F F F ⟨aC [5] F,?_⟩⟩,trivial⟩
    exact dw (by kernel_rfl) ⟨bA,bB,bC,bD,F,(.of F)⟩ (aC [0,1,0,0,0,0] F)
   refine bg [2] (by kernel_rfl) F ⟨⟨_,F,F,cO (v:=(vI d.start)) cI bl F F F (fun bA=>⟨aC [5] F,?_⟩)⟩,trivial⟩
   refine bg [9] (by kernel_rfl) F ⟨⟨_,F,F,bV (vs:=[(.slice (aD bA) 1 1)]) 1 cU F F F F ⟨aC [5] F,?_⟩⟩,trivial⟩
   refine bg [10] (by kernel_rfl) F ⟨⟨_,F,F,bV (vs:=[(.slice (aD bB) d.next.length d.next.length)]) 2 dy F F F F ⟨aC [5] F,?_⟩⟩,trivial⟩
   exact dw (by kernel_rfl) ⟨bA,bB,bC,bD,F,(.of F)⟩ (aC [1,1,0,0,0,0] F)
  ·refine bg [2,6,8] (by kernel_rfl) F ⟨⟨_,F,F,cO (v:=(vI d.start)) cI bl F F F (fun bA=>⟨aC [3] F,?_⟩)⟩,⟨_,F,F,cW (m:=d.next.length) eu fw F F (by omega) (by omega) (fun bB=>⟨aC [3] F,?_⟩)⟩,⟨_,F,F,bu dy F (fun bD=>⟨aC [3] F,?_⟩)⟩,trivial⟩
   ·refine bg [6,8] (by kernel_rfl) F ⟨⟨_,F,F,cW (m:=d.next.length) eu fw F F (by omega) (by omega) (fun bB=>⟨aC [4] F,?_⟩)⟩,⟨_,F,F,bu dy F (fun bD=>⟨aC [4] F,?_⟩)⟩,trivial⟩
    ·refine bg [8] (by kernel_rfl) F ⟨⟨_,F,F,bu dy F (fun bD=>⟨aC [5] F,?_⟩)⟩,trivial⟩
     refine bg [9] (by kernel_rfl) F ⟨⟨_,F,F,bV (vs:=[(.slice (aD bA) 1 1)]) 3 cU F F F F ⟨aC [5] F,?_⟩⟩,trivial⟩
     refine bg [10] (by kernel_rfl) F ⟨⟨_,F,F,bV (vs:=[(.slice (aD bB) d.next.length d.next.length)]) 0 dy F F F F ⟨aC [5] F,?_⟩⟩,trivial⟩
     exact dw (by kernel_rfl) ⟨bA,bB,bC,bD,F,(.of F)⟩ (aC [3,0,1,0,0,0] F)
    refine bg [6,9] (by kernel_rfl) F ⟨⟨_,F,F,cW (m:=d.next.length) eu fw F F (by omega) (by omega) (fun bB=>⟨aC [5] F,?_⟩)⟩,⟨_,F,F,bV (vs:=[(.slice (aD bA) 1 1)]) 2 cU F F F F ⟨aC [4] F,?_⟩⟩,trivial⟩
    ·refine bg [9] (by kernel_rfl) F ⟨⟨_,F,F,bV (vs:=[(.slice (aD bA) 1 1)]) 3 cU F F F F ⟨aC [5] F,?_⟩⟩,trivial⟩
     refine bg [10] (by kernel_rfl) F ⟨⟨_,F,F,bV (vs:=[(.slice (aD bB) d.next.length d.next.length)]) 1 dy F F F F ⟨aC [5] F,?_⟩⟩,trivial⟩
     exact dw (by kernel_rfl) ⟨bA,bB,bC,bD,F,(.of F)⟩ (aC [3,1,1,0,0,0] F)
    refine bg [6] (by kernel_rfl) F ⟨⟨_,F,F,cW (m:=d.next.length) eu fw F F (by omega) (by omega) (fun bB=>⟨aC [5] F,?_⟩)⟩,trivial⟩
    refine bg [10] (by kernel_rfl) F ⟨⟨_,F,F,bV (vs:=[(.slice (aD bB) d.next.length d.next.length)]) 1 dy F F F F ⟨aC [5] F,?_⟩⟩,trivial⟩
    exact dw (by kernel_rfl) ⟨bA,bB,bC,bD,F,(.of F)⟩ (aC [3,1,1,0,0,0] F)
   ·refine bg [2,8] (by kernel_rfl) F ⟨⟨_,F,F,cO (v:=(vI d.start)) cI bl F F F (fun bA=>⟨aC [4] F,?_⟩)⟩,⟨_,F,F,bu dy F (fun bD=>⟨aC [4] F,?_⟩)⟩,trivial⟩
    ·refine bg [8] (by kernel_rfl) F ⟨⟨_,F,F,bu dy F (fun bD=>⟨aC [5] F,?_⟩)⟩,trivial⟩
     refine bg [9] (by kernel_rfl) F ⟨⟨_,F,F,bV (vs:=[(.slice (aD bA) 1 1)]) 3 cU F F F F ⟨aC [5] F,?_⟩⟩,trivial⟩
     refine bg [10] (by kernel_rfl) F ⟨⟨_,F,F,bV (vs:=[(.slice (aD bB) d.next.length d.next.length)]) 0 dy F F F F ⟨aC [5] F,?_⟩⟩,trivial⟩
     exact dw (by kernel_rfl) ⟨bA,bB,bC,bD,F,(.of F)⟩ (aC [3,0,0,0,0,0] F)
    refine bg [2] (by kernel_rfl) F ⟨⟨_,F,F,cO (v:=(vI d.start)) cI bl F F F (fun bA=>⟨aC [5] F,?_⟩)⟩,trivial⟩
    refine bg [9] (by kernel_rfl) F ⟨⟨_,F,F,bV (vs:=[(.slice (aD bA) 1 1)]) 3 cU F F F F ⟨aC [5] F,?_⟩⟩,trivial⟩
    refine bg [10] (by kernel_rfl) F ⟨⟨_,F,F,bV (vs:=[(.slice (aD bB) d.next.length d.next.length)]) 1 dy F F F F ⟨aC [5] F,?_⟩⟩,trivial⟩
    exact dw (by kernel_rfl) ⟨bA,bB,bC,bD,F,(.of F)⟩ (aC [3,1,0,0,0,0] F)
   refine bg [2,6] (by kernel_rfl) F ⟨⟨_,F,F,cO (v:=(vI d.start)) cI bl F F F (fun bA=>⟨aC [4] F,?_⟩)⟩,⟨_,F,F,cW (m:=d.next.length) eu fw F F (by omega) (by omega) (fun bB=>⟨aC [4] F,?_⟩)⟩,trivial⟩
   ·refine bg [6,9] (by kernel_rfl) F ⟨⟨_,F,F,cW (m:=d.next.length) eu fw F F (by omega) (by omega) (fun bB=>⟨aC [5] F,?_⟩)⟩,⟨_,F,F,bV (vs:=[(.slice (aD bA) 1 1)]) 2 cU F F F F ⟨aC [4] F,?_⟩⟩,trivial⟩
    ·refine bg [9] (by kernel_rfl) F ⟨⟨_,F,F,bV (vs:=[(.slice (aD bA) 1 1)]) 3 cU F F F F ⟨aC [5] F,?_⟩⟩,trivial⟩
     refine bg [10] (by kernel_rfl) F ⟨⟨_,F,F,bV (vs:=[(.slice (aD bB) d.next.length d.next.length)]) 2 dy F F F F ⟨aC [5] F,?_⟩⟩,trivial⟩
     exact dw (by kernel_rfl) ⟨bA,bB,bC,bD,F,(.of F)⟩ (aC [3,2,1,0,0,0] F)
    refine bg [6] (by kernel_rfl) F ⟨⟨_,F,F,cW (m:=d.next.length) eu fw F F (by omega) (by omega) (fun bB=>⟨aC [5] F,?_⟩)⟩,trivial⟩
    refine bg [10] (by kernel_rfl) F ⟨⟨_,F,F,bV (vs:=[(.slice (aD bB) d.next.length d.next.length)]) 2 dy F F F F ⟨aC [5] F,?_⟩⟩,trivial⟩
    exact dw (by kernel_rfl) ⟨bA,bB,bC,bD,F,(.of F)⟩ (aC [3,2,1,0,0,0] F)
   refine bg [2] (by kernel_rfl) F ⟨⟨_,F,F,cO (v:=(vI d.start)) cI bl F F F (fun bA=>⟨aC [5] F,?_⟩)⟩,trivial⟩
   refine bg [9] (by kernel_rfl) F ⟨⟨_,F,F,bV (vs:=[(.slice (aD bA) 1 1)]) 3 cU F F F F ⟨aC [5] F,?_⟩⟩,trivial⟩
   refine bg [10] (by kernel_rfl) F ⟨⟨_,F,F,bV (vs:=[(.slice (aD bB) d.next.length d.next.length)]) 2 dy F F F F ⟨aC [5] F,?_⟩⟩,trivial⟩
   exact dw (by kernel_rfl) ⟨bA,bB,bC,bD,F,(.of F)⟩ (aC [3,2,0,0,0,0] F)
  refine bg [2,6,7] (by kernel_rfl) F ⟨⟨_,F,F,cO (v:=(vI d.start)) cI bl F F F (fun bA=>⟨aC [3] F,?_⟩)⟩,⟨_,F,F,cW (m:=d.next.length) eu fw F F (by omega) (by omega) (fun bB=>⟨aC [3] F,?_⟩)⟩,⟨_,F,F,bu cU F (fun bC=>⟨aC [3] F,?_⟩)⟩,trivial⟩
  ·refine bg [6,7] (by kernel_rfl) F ⟨⟨_,F,F,cW (m:=d.next.length) eu fw F F (by omega) (by omega) (fun bB=>⟨aC [4] F,?_⟩)⟩,⟨_,F,F,bu cU F (fun bC=>⟨aC [4] F,?_⟩)⟩,trivial⟩
   ·refine bg [7] (by kernel_rfl) F ⟨⟨_,F,F,bu cU F (fun bC=>⟨aC [5] F,?_⟩)⟩,trivial⟩
    refine bg [9] (by kernel_rfl) F ⟨⟨_,F,F,bV (vs:=[(.slice (aD bA) 1 1)]) 0 cU F F F F ⟨aC [5] F,?_⟩⟩,trivial⟩
    refine bg [10] (by kernel_rfl) F ⟨⟨_,F,F,bV (vs:=[(.slice (aD bB) d.next.length d.next.length)]) 3 dy F F F F ⟨aC [5] F,?_⟩⟩,trivial⟩
    exact dw (by kernel_rfl) ⟨bA,bB,bC,bD,F,(.of F)⟩ (aC [0,2,1,0,0,0] F)
   refine bg [6,9] (by kernel_rfl) F ⟨⟨_,F,F,cW (m:=d.next.length) eu fw F F (by omega) (by omega) (fun bB=>⟨aC [5] F,?_⟩)⟩,⟨_,F,F,bV (vs:=[(.slice (aD bA) 1 1)]) 0 cU F F F F ⟨aC [4] F,?_⟩⟩,trivial⟩
   ·refine bg [9] (by kernel_rfl) F ⟨⟨_,F,F,bV (vs:=[(.slice (aD bA) 1 1)]) 1 cU F F F F ⟨aC [5] F,?_⟩⟩,trivial⟩
    refine bg [10] (by kernel_rfl) F ⟨⟨_,F,F,bV (vs:=[(.slice (aD bB) d.next.length d.next.length)]) 3 dy F F F F ⟨aC [5] F,?_⟩⟩,trivial⟩
    exact dw (by kernel_rfl) ⟨bA,bB,bC,bD,F,(.of F)⟩ (aC [1,2,1,0,0,0] F)
   refine bg [6] (by kernel_rfl) F ⟨⟨_,F,F,cW (m:=d.next.length) eu fw F F (by omega) (by omega) (fun bB=>⟨aC [5] F,?_⟩)⟩,trivial⟩
   refine bg [10] (by kernel_rfl) F ⟨⟨_,F,F,bV (vs:=[(.slice (aD bB) d.next.length d.next.length)]) 3 dy F F F F ⟨aC [5] F,?_⟩⟩,trivial⟩
   exact dw (by kernel_rfl) ⟨bA,bB,bC,bD,F,(.of F)⟩ (aC [1,2,1,0,0,0] F)
  ·refine bg [2,7] (by kernel_rfl) F ⟨⟨_,F,F,cO (v:=(vI d.start)) cI bl F F F (fun bA=>⟨aC [4] F,?_⟩)⟩,⟨_,F,F,bu cU F (fun bC=>⟨aC [4] F,?_⟩)⟩,trivial⟩
   ·refine bg [7] (by kernel_rfl) F ⟨⟨_,F,F,bu cU F (fun bC=>⟨aC [5] F,?_⟩)⟩,trivial⟩
    refine bg [9] (by kernel_rfl) F ⟨⟨_,F,F,bV (vs:=[(.slice (aD bA) 1 1)]) 0 cU F F F F ⟨aC [5] F,?_⟩⟩,trivial⟩
    refine bg [10] (by kernel_rfl) F ⟨⟨_,F,F,bV (vs:=[(.slice (aD bB) d.next.length d.next.length)]) 3 dy F F F F ⟨aC [5] F,?_⟩⟩,trivial⟩
    exact dw (by kernel_rfl) ⟨bA,bB,bC,bD,F,(.of F)⟩ (aC [0,2,0,0,0,0] F)
   refine bg [2] (by kernel_rfl) F ⟨⟨_,F,F,cO (v:=(vI d.start)) cI bl F F F (fun bA=>⟨aC [5] F,?_⟩)⟩,trivial⟩
   refine bg [9] (by kernel_rfl) F ⟨⟨_,F,F,bV (vs:=[(.slice (aD bA) 1 1)]) 1 cU F F F F ⟨aC [5] F,?_⟩⟩,trivial⟩
   refine bg [10] (by kernel_rfl) F ⟨⟨_,F,F,bV (vs:=[(.slice (aD bB) d.next.length d.next.length)]) 3 dy F F F F ⟨aC [5] F,?_⟩⟩,trivial⟩
   exact dw (by kernel_rfl) ⟨bA,bB,bC,bD,F,(.of F)⟩ (aC [1,2,0,0,0,0] F)
  refine bg [2,6] (by kernel_rfl) F ⟨⟨_,F,F,cO (v:=(vI d.start)) cI bl F F F (fun bA=>⟨aC [4] F,?_⟩)⟩,⟨_,F,F,cW (m:=d.next.length) eu fw F F (by omega) (by omega) (fun bB=>⟨aC [4] F,?_⟩)⟩,trivial⟩
  ·refine bg [6,9] (by kernel_rfl) F ⟨⟨_,F,F,cW (m:=d.next.length) eu fw F F (by omega) (by omega) (fun bB=>⟨aC [5] F,?_⟩)⟩,⟨_,F,F,bV (vs:=[(.slice (aD bA) 1 1)]) 1 cU F F F F ⟨aC [4] F,?_⟩⟩,trivial⟩
   ·refine bg [9] (by kernel_rfl) F ⟨⟨_,F,F,bV (vs:=[(.slice (aD bA) 1 1)]) 2 cU F F F F ⟨aC [5] F,?_⟩⟩,trivial⟩
    refine bg [10] (by kernel_rfl) F ⟨⟨_,F,F,bV (vs:=[(.slice (aD bB) d.next.length d.next.length)]) 3 dy F F F F ⟨aC [5] F,?_⟩⟩,trivial⟩
    exact dw (by kernel_rfl) ⟨bA,bB,bC,bD,F,(.of F)⟩ (aC [2,2,1,0,0,0] F)
   refine bg [6] (by kernel_rfl) F ⟨⟨_,F,F,cW (m:=d.next.length) eu fw F F (by omega) (by omega) (fun bB=>⟨aC [5] F,?_⟩)⟩,trivial⟩
   refine bg [10] (by kernel_rfl) F ⟨⟨_,F,F,bV (vs:=[(.slice (aD bB) d.next.length d.next.length)]) 3 dy F F F F ⟨aC [5] F,?_⟩⟩,trivial⟩
   exact dw (by kernel_rfl) ⟨bA,bB,bC,bD,F,(.of F)⟩ (aC [2,2,1,0,0,0] F)
  refine bg [2] (by kernel_rfl) F ⟨⟨_,F,F,cO (v:=(vI d.start)) cI bl F F F (fun bA=>⟨aC [5] F,?_⟩)⟩,trivial⟩
  refine bg [9] (by kernel_rfl) F ⟨⟨_,F,F,bV (vs:=[(.slice (aD bA) 1 1)]) 2 cU F F F F ⟨aC [5] F,?_⟩⟩,trivial⟩
  refine bg [10] (by kernel_rfl) F ⟨⟨_,F,F,bV (vs:=[(.slice (aD bB) d.next.length d.next.length)]) 3 dy F F F F ⟨aC [5] F,?_⟩⟩,trivial⟩
  exact dw (by kernel_rfl) ⟨bA,bB,bC,bD,F,(.of F)⟩ (aC [2,2,0,0,0,0] F)
 rintro ρ O ⟨bA,bB,bC,bD,rfl,hH⟩
 obtain⟨gP,rfl⟩:=hH.elim
 clear hH
 refine ai (ad (bn 1 eu F F F F) (ad (bj cS F bl F F) (ad (bn 5 dS F F F F) (ad (Fq (i:=d.start) eu fw F F (dX (mG 3 F)) Ae rH (by rw[iQ];exact rH)) (ao F (n7 (j:=d.start.toNat) (v:=.bool true) (vs:=[(.bool true)]) (cs:=List.replicate d.next.length (.bool false)) 3 fw F F F F F (by simp) F (by first|(simp;omega)|(simp_all;omega)) ?_))))))
 let gr:Lx.Item:=oI bD 23 [(.slice (aD bB) d.next.length d.next.length)]
 refine ef (O':=[oI bC 56 [(.slice (aD bA) 1 1)],gr,aq (aD bA) 1 3 1 [(vI d.start)],aq (aD bB) d.next.length 4 1 (cE ((List.replicate d.next.length false).set d.start.toNat true)),mg,eJ]) (by rw[show fe (List.replicate d.next.length (.bool false)) d.start.toNat [(.bool true)]=cE ((List.replicate d.next.length false).set d.start.toNat true)from by simp[fe]];exact cj (aZ _)) ?_
 refine ae (ai (ad (e8) (aj F (ae (ai (ad (bj cS F bl F F) (ad (bn 5 dS F F F F) (ad (bj cS F bl F F) (ao F (bV (vs:=[(vI d.vars)]) 4 bl F F F F ?_))))))))))
 refine ae (aO ?_)
 have hJ0: [oI z1 25 [(vI d.vars),(vI d.start),(.slice nb d.next.length nc),(.slice fb d.aV.length fc)],oI bC 56 [(.slice (aD bA) 1 1)],aq (aD bA) 1 3 1 [(vI d.start)],oI bD 23 [(.slice (aD bB) d.next.length d.next.length)],aq (aD bB) d.next.length 4 1 (cE ((List.replicate d.next.length false).set d.start.toNat true))]=[oI z1 25 [(vI d.vars),(vI d.start),(.slice nb d.next.length nc),(.slice fb d.aV.length fc)],oI bC 56 [(.slice (aD bA) 1 1)],aq (aD bA) 1 3 1 (bU [d.start.toNat]),oI bD 23 [(.slice (aD bB) d.next.length d.next.length)],aq (aD bB) d.next.length 4 1 (cE ((List.replicate d.next.length false).set d.start.toNat true))]:=by
  rw[show bU [d.start.toNat]=[vI d.start] by simp[dn Ae]]
 have XM: ∀t,t<d.next.length→((List.replicate d.next.length false).set d.start.toNat true)[t]? =some (decide (t∈[d.start.toNat])):=fun t ht=>by
  by_cases e:t=d.start.toNat
  ·subst e;rw[List.getElem?_set_self (by simpa using ht)];simp
  ·rw[List.getElem?_set_ne (fun h=>e h.symm)];simp[ht,e]
 refine T.ds [eJ] [(0,0),(1,0),(2,0),(3,0),(4,0),(5,0),(6,0),(7,0),(9,0),(8,1),(10,1),(11,0),(12,0),(13,0),(14,0),(15,1)] (aC [5] F) ?_
 refine au F (bj cS F bl F F) (au F (bn 0 dS F F F F) (au F (nL (v:=d.vars.toNat) F (by show Value.int _ d.vars=_;rw[dn hv.v0]) (by have:=hv.v6;omega)) (au F (bj cS F fa F F) (au F (bn 0 eI F F F F) (au F (cP eI F) (au F (bj cS F bl F F) (au F (bT (bn 0 dS F F F F) (v':=vI ((d.start.toNat:Nat):Int)) (by rw[dn Ae])) (au F (aK F) ?_))))))))
 let k8:List Lx.Item:=[oI bC 56 [(.slice (aD bA) 1 1)],gr,aq (aD bA) 1 3 1 [(vI d.start)],aq (aD bB) d.next.length 4 1 (cE ((List.replicate d.next.length false).set d.start.toNat true)),oI z2 25 [(vI d.vars),(vI 0),nS,nS],eJ]
 have ox:=fun(w1:World) (hI:Inv w k8 w1)=>(haveI:=ey hI;L8 w1 d.start.toNat (by omega))
 refine cx F F (bm K_ (aX ox) F ?_)
 clear ox
 rintro v O' ⟨N,rfl,rfl,rfl⟩
 refine⟨aC [5] F,?_⟩
 let k7:Lx.Item:=oI z2 25 [(vI d.vars),(vI 0),nS,nS]
 have xq:=cd.under (B:=[k7]) (O:=k8) (L7 w (DF d) (2^d.vars.toNat) d.next.length (Lib.decDigits d.start.toNat) (.func (.func 84) #[] #[.pointer (aD z1),.pointer (aD bC),.pointer (aD bD)]) (Tz d nb fb nc fc z1 bB bC bD) (fun ks=>ks.length≤d.next.length) hv.width hv.n4 (fun ks s x O hs hx _ hJ=>XK w d nb fb nc fc vs h hv hn z1 bB bC bD ks s x O hs hx hJ) (fun _ h=>h) [eJ,oI bC 56 [(.slice (aD bA) 1 1)],aq (aD bA) 1 3 1 [(vI d.start)],gr,aq (aD bB) d.next.length 4 1 (cE ((List.replicate d.next.length false).set d.start.toNat true))] (by simp;omega) ⟨[d.start.toNat],(List.replicate d.next.length false).set d.start.toNat true,some ⟨bA,0,none⟩,1,F,hJ0,by simp,by simp;omega,by simp,XM⟩) (aC [5,0,1,0,0,0] F)
 refine cx F F (bm Xj xq F ?_)
 clear xq
 rintro v O' ⟨A1,rfl,rb,rc,qs,N,O1,rfl,rfl,⟨os,sn,ob,oc,n8,rfl,lx,H8,Ms,aeC⟩,hgl,XN,hE,jU⟩
 let gd:Lx.Item:=aq (aD bB) d.next.length 4 1 (cE sn)
 let gG:Lx.Item:=oI bC 56 [(.slice ob os.length oc)]
 let iB:Lx.Item:=aq rb rc 56 1 (dl qs)
 let jw:Lx.Item:=aq ob oc 3 1 (bU os)
 refine⟨gS ([iB]++ce 3 qs++[gG,jw,gr,gd,k7]),?_⟩
 refine eW (O':=[iB,eJ,gG,jw,gr,gd,k7]++ce 3 qs) (gS []) ?_
 refine au F (aK F) (au F (bG (vs:=_) F F) (au F (bG (vs:=_) F F) (au F (bj cS F fa F F) ?_)))
 let oQ:Value:=(.slice rb N rc)
 refine cx F F (bV (vs:=[oQ]) 6 fa F F F F ⟨fp [1] [iB,eJ,gG,jw,gr,gd,oI z2 25 [(vI d.vars),(vI 0),oQ,nS]] (ce 3 qs) F F,?_⟩)
 refine cy ?_
 refine aO (ai (ad (bn 2 cI F F F F) (ad (cP cI F) (ah F (ae (aU ?_))))))
 have Sj:=eT lx H8
 refine T.eY 4 1 ?_
 refine et (fun(k:Nat) ρ O=> ∃(ww:Option Addr) (wx:Nat),O=([aq ww wx 4 1 (cE ((os.take k).map fun o=>d.aV.getD o false)),iB,eJ,gG,jw,gr,gd,oI z2 25 [(vI d.vars),(vI 0),oQ,(.slice ww k wx)]]++(ce 3 qs))∧k≤os.length∧dt [(0,ul),(1,(.pointer (aD z1))),(2,(.pointer (aD z2))),(3,vI 0),(4,vI ((0:Nat):Int)),(5,(.pointer (aD bC))),(6,(.pointer (aD bD))),(7,(.func (.func 84) #[] #[(.pointer (aD z1)),(.pointer (aD bC)),(.pointer (aD bD))])),(46,(.slice ob os.length oc)),(47,vI (os.length:Int)),(48,vI (k:Int))] ρ) (fun k=>os.length-k) 0 ?_ ?_
 ·exact⟨none,0,F,bs _,(.of F)⟩
 rintro k ρ O ⟨ww,wx,rfl,hk,hH⟩
 obtain⟨gP,rfl⟩:=hH.elim
 clear hH
 refine ai (ad (cR F F) (ae (aO (aP F (fun hc=>?_) (fun hc=>?_)))))
 ·have QE:k<os.length:=by omega
  have WI:os[k]<d.next.length:=H8 _ (aL QE)
  have aa0:os[k]<d.aV.length:=by have:=hv.fin;omega
  refine aE (aO (aU (ai (ad (dZ (i:=k) cI bl F F (dX (mG 4 F))) (ad (c_ dS F F (dX (mG 4 F)) ij) (aj F (ae ?_)))))))
  let s9:Lx.Item:=oI z2 25 [(vI d.vars),(vI 0),(.slice rb N rc),(.slice ww k wx)]
  refine T.ds [eJ,s9] [(0,0),(1,0),(2,0),(3,0),(4,0),(5,0),(6,0),(7,1),(8,2),(9,2),(10,2)] (fp [2,6] [aq ww wx 4 1 (cE ((os.take k).map fun o=>d.aV.getD o false)),iB,eJ,gG,jw,gr,gd,s9] (ce 3 qs) F F) ?_
  refine au F (bj cS F dy F F) (au F (bn 1 eu F F F F) (au F (bj cS F dy F F) (au F (bn 0 eu F F F F) (au F (aK F) (au F (dZ (i:=os[k]) eu fw F F (aJ h.aV)) (au F (c_ Bh F F (aJ h.aV) iy) ?_))))))
  let pf:List Value:=[.bool d.aV[os[k]]]
  refine cx F F (cO (v:=.bool d.aV[os[k]]) eu fw F F F (fun z3=>⟨fp [3,7] [aq (aD z3) 1 4 1 pf,aq ww wx 4 1 (cE ((os.take k).map fun o=>d.aV.getD o false)),iB,eJ,gG,jw,gr,gd,s9] (ce 3 qs) F F,?_⟩))
  refine cu F F (dh 1 eu eu fw F F F F (by simp;omega) (by decide) (Src.row (j:=0) F (by simp)) (by simp[fu]) (by omega) (by decide) (by decide) (fun z4 IA=>?_))
  refine cu F F (eO F F (bj cS F dy F F) ?_)
  refine cu F F (bV (vs:=[(.slice z4 (k+1) IA)]) 8 dy F F F F ?_)
  let mv:Lx.Item:=oI z2 25 [(vI d.vars),(vI 0),oQ,(.slice z4 (k+1) IA)]
  refine eW (O':=([aq z4 IA 4 1 ((cE ((os.take k).map fun o=>d.aV.getD o false))++pf),iB,eJ,gG,jw,gr,gd,mv]++(ce 3 qs))) (kx [1,1,1,1,1,1,1,1] [aq (aD z3) 1 4 1 pf,aq z4 IA 4 1 ((cE ((os.take k).map fun o=>d.aV.getD o false))++pf),iB,eJ,gG,jw,gr,gd,mv] (ce 3 qs) F F) ?_
  refine cy ?_
  refine be (ad (kp F F (by omega)) (ah F (ae ?_)))
  have yB:(List.take (k+1) os).map (fun o=>d.aV.getD o false)=(List.take k os).map (fun o=>d.aV.getD o false)++[d.aV[os[k]]]:=by
   rw[aH QE,bo];simp[aa0]
  exact⟨k+1,by omega,z4,IA,by rw[yB,show cE ((List.take k os).map (fun o=>d.aV.getD o false)++[d.aV[os[k]]])=cE ((List.take k os).map fun o=>d.aV.getD o false)++[.bool d.aV[os[k]]]from bo],by omega,(.of F)⟩
 have acF: ¬k<os.length:=by omega
 refine cG ?_
 refine ai (ad (ew 7 cS F bK F F F) (ao F (bV (vs:=[(vI d.vars),(vI 0),oQ,(.slice ww k wx)]) 7 bK F F F F ?_)))
 refine aj F (ae (aN (az ?_)))
 refine jM (vI 0) (i:=7) Tryz.results52 cS F bK F F F F ?_
 have T7:k=os.length:=by omega
 obtain⟨ho,hN9⟩:=Ik jU n8 XN (eT lx H8)
 have ME:=L5 n8 hE ho hN9
 have UM:(List.take k os).map (fun o=>d.aV.getD o false)=(ek d).aV:=by rw[bt (by omega),ho];rfl
 have JY:(ek d).next.length=N:=by rw[←ME,hE.len]
 have Yl:(ek d).aV.length=k:=by rw[←UM,ar,cw];omega
 refine⟨[iB,aq ww wx 4 1 (cE ((os.take k).map fun o=>d.aV.getD o false))]++ce 3 qs,(kx [1,0] [aq ww wx 4 1 (cE ((os.take k).map fun o=>d.aV.getD o false)),iB,eJ,gG,jw,gr,gd,oI z2 25 [(vI d.vars),(vI 0),oQ,(.slice ww k wx)]] (ce 3 qs) F F),rb,rc,ww,wx,qs,?_,by rw[UM],ME⟩
 show Value.tuple #[Value.agg (List.toArray [vI d.vars,vI 0,.slice rb N rc,.slice ww k wx]),_]=Value.tuple #[Value.agg (List.toArray [vI d.vars,vI 0,.slice rb (ek d).next.length rc,.slice ww (ek d).aV.length wx]),_]
 rw[JY,Yl]
end Go.Proofs.YtgdbfideeeegmaaGreatDoor

namespace Go.Proofs.YtgdbfideeeegmaaGreatDoor
open Go.Lx Go.RowKit _root_.Go.Proofs.Tryz
theorem Tw (w:World) [dB Tryz.prog w] (d:cM) (nb fb:Option Addr) (nc fc:Nat) (vs:List Value) (h:ii w d nb vs fb) (hb:d.next.length<9223372036854775807) (qV: ∀r∈d.next,r.length<9223372036854775807) (rP:d.aV.length<9223372036854775807) (he:cX d≠0):
  cA Tryz.prog 23 [.agg (eG d nb nc fb fc).toArray] w fun v N=>v=.tuple #[.agg #[vI 0,vI 0,nS,nS],vI (cX d:Int)]∧N=[]:=by
 refine aG func23 F ntmps23 F ?_
 refine ai (ao F (dE (cs:=[(vI d.vars),(vI d.start),(.slice nb d.next.length nc),(.slice fb d.aV.length fc)]) F F (fun b1=>?_)))
 refine ao F (bu bK F (fun b2=>?_))
 refine aj F (ae (ai (ad (ew 1 cS F bK F F F) ?_)))
 have Cs:=fun(w1:World) (hI:Inv w [oI b2 25 [(vI 0),(vI 0),nS,nS],oI b1 25 [(vI d.vars),(vI d.start),(.slice nb d.next.length nc),(.slice fb d.aV.length fc)]] w1)=>(haveI:=ey hI;EZ w1 d nb fb nc fc vs (hI.BF h) hb qV rP he)
 refine ao F (bm Qo (aX Cs) F ?_)
 clear Cs
 rintro v O' ⟨N,rfl,rfl,rfl⟩
 refine ah F (ad (bG (vs:=_) F F) (ad (bG (vs:=_) F F) (ao F (bu cU F (fun b3=>?_)))))
 refine ao F (bV (vs:=[nS]) 0 cU F F F F ?_)
 refine aj F (ae (aO (ai (ah F (ad (aA (dP F F) (av (by omega))) (ae ?_))))))
 refine bW F ?_
 refine ai (ad (cF jj bK F) (ah F (ao F (bV (vs:=[(vI 0),(vI 0),nS,nS]) 1 bK F F F F ?_))))
 refine aj F (ae (aN (az ?_)))
 refine jM (vI (cX d:Int)) (i:=1) Tryz.results23 cS F bK F F F F ?_
 exact⟨[],cj (cm _),F,F⟩
theorem XB (w:World) [dB Tryz.prog w] (d:cM) (nb fb:Option Addr) (nc fc:Nat) (vs:List Value) (h:ii w d nb vs fb) (hv:Valid d) (hn:d.next.length<10000) (hqv:Valid (quo d (ie d d.next.length))) (hqn:(quo d (ie d d.next.length)).next.length<10000):
  cA Tryz.prog 23 [.agg (eG d nb nc fb fc).toArray] w fun v N=> ∃BN BO oN oO qs,v=.tuple #[.agg (eG (ek (quo d (ie d d.next.length))) BN BO oN oO).toArray,vI 0]∧N=[aq BN BO 56 1 (dl qs),aq oN oO 4 1 (cE (ek (quo d (ie d d.next.length))).aV)]++ce 3 qs∧nums qs=(ek (quo d (ie d d.next.length))).next:=by
 refine aG func23 F ntmps23 F ?_
 obtain⟨cs,yx⟩: ∃cs,ie d d.next.length=cs:=⟨_,F⟩
 rw[yx]at hqv hqn⊢
 have n3:cs.length=d.next.length:=yx▸ft d _
 have DA: ∀x∈cs,x<10000:=yx▸LL hn _
 have Ae:=hv.s0
 have Pb:=hv.s1
 have Q2:=hv.n0
 have Y8:=hv.n4
 have rH:d.start.toNat<cs.length:=by omega
 have hb:d.next.length<9223372036854775807:=by omega
 let mv:Value:=(.slice fb d.aV.length fc)
 let pf:Value:=(.slice nb d.next.length nc)
 refine ai (ao F (dE (cs:=[(vI d.vars),(vI d.start),pf,mv]) F F (fun z1=>?_)))
 refine ao F (bu bK F (fun z2=>?_))
 refine aj F (ae (ai (ad (ew 1 cS F bK F F F) ?_)))
 let eJ:Lx.Item:=oI z1 25 [(vI d.vars),(vI d.start),(.slice nb d.next.length nc),(.slice fb d.aV.length fc)]
 let gG:Lx.Item:=oI z2 25 [(vI 0),(vI 0),nS,nS]
 have Cs:=fun(w1:World) (hI:Inv w [gG,eJ] w1)=>(haveI:=ey hI;H_ w1 d nb fb nc fc vs (hI.BF h) hv hn)
 refine ao F (bm Qo (aX Cs) F ?_)
 clear Cs
 rintro v O' ⟨N,rfl,cb,cc,rfl,rfl⟩
 rw[yx]
 refine ah F (ad (bG (vs:=_) F F) (ad (bG (vs:=_) F F) (ao F (bu cU F (fun z3=>?_)))))
 refine ao F (bV (vs:=[(.slice cb d.next.length cc)]) 0 cU F F F F ?_)
 refine aj F (ae (aO (ai (ah F (ad (dP F F) (ae (a_ F (aE (aO ?_)))))))))
 let gd:Lx.Item:=oI z3 56 [(.slice cb d.next.length cc)]
 let iB:Lx.Item:=aq cb cc 3 1 (bU cs)
 refine T.ds [gd,iB,eJ] [(0,0),(1,0),(2,0),(3,0),(4,0),(5,0),(6,0),(7,0),(8,1),(9,2)] (aC [0,0,1] F) ?_
 refine au F (bj cS F bl F F) (au F (bn 2 dS F F F F) (au F (bn 0 cI F F F F) (au F (bj cS F bl F F) (au F (bn 2 dS F F F F) (au F (Fq (i:=d.start) cI bl F F (dX (mG 1 F)) Ae (n3▸rH) (by rw[ar];exact rH)) (au F (c_ dS F F (dX (mG 1 F)) (show(bU cs)[d.start.toNat]? =some (vN (cs.getD d.start.toNat 0)) by rw[ij rH];simp[rH])) (au F (cF (cs:=[(vI d.vars),vN (cs.getD d.start.toNat 0),nS,nS]) jj bK (by kernel_rfl)) ?_)))))))
 refine cx F F (bu bK F (fun z4=>⟨aC [1,1,2] F,?_⟩))
 refine cu F F (bV (vs:=[(vI d.vars),vN (cs.getD d.start.toNat 0),nS,nS]) 0 bK F F F F ?_)
 refine cy ?_
 refine aO (ai (ad (ew 4 cS F bK F F F) ?_))
 let mg:Lx.Item:=oI z4 25 [(vI d.vars),vN (cs.getD d.start.toNat 0),nS,nS]
 have xz:=fun(w1:World) (hI:Inv w [mg,gd,iB,gG,eJ] w1)=>(haveI:=ey hI;Qw w1 d nb fb nc fc)
 refine ao F (bm Qp (aX xz) F ?_)
 clear xz
 rintro v O' ⟨N,rfl,bR,rfl,rfl⟩
 refine ae (T.eY 4 1 ?_)
 refine T.eY 56 1 ?_
 refine dv (O':=[oI bR 25 [(vI d.vars),(vI d.start),pf,mv],mg,aq none 0 56 1 (dl []),aq none 0 4 1 (cE []),gd,iB,gG,eJ]) (aC [2,2,0,0,0,0,0,0] F) ?_
 refine aU ?_
 refine T.rangeFunc (first:=[]) (gv:=[(.pointer (aD bR))]) F Qr (fun yl yq Tk=>?_)
 refine cd.mono (cd.sub (O':=oI bR 25 [(vI d.vars),(vI d.start),pf,mv]::(dR yl (lp yq none)::[mg,aq none 0 56 1 (dl []),aq none 0 4 1 (cE []),gd,iB,gG,eJ])) (aC [1,0,0,0,0,0,0,0,0] F) (Qy w d nb fb nc fc vs h hb bR (.func (.yield yl) #[] #[]) (fun k O=> ∃(ob ww:Option Addr) (oc wx:Nat) (qs:List Rec) (fs:List Bool),O=dR yl (lp yq none)::([oI z4 25 [(vI d.vars),(vN (cs.getD d.start.toNat 0)),(.slice ob qs.length oc),(.slice ww fs.length wx)],aq ob oc 56 1 (dl qs),aq ww wx 4 1 (cE fs),gd,iB,gG,eJ]++(ce 3 qs))∧k≤d.next.length∧nums qs=(iO d cs k).1∧fs=(iO d cs k).2) (fun _=>False) ?_ _ ?_)) ?_
 ·intro k gn vb vc O g1 s1 hJ
  obtain⟨ob,ww,oc,wx,qs,fs,rfl,hk,zr,mf⟩:=hJ
  refine eK.yield Tk F F ?_
  have Xn:k<cs.length:=by omega
  have Hw:qs.length=(iO d cs k).1.length:=by rw[←zr];simp
  have qY:fs.length=(iO d cs k).1.length:=by rw[mf];exact(kH d cs k).1.symm
  have hqk:=(kH d cs k).2
  have Tm:k<d.aV.length:=by have:=hv.fin;omega
  have Dw:d.next[k].length≤64:=by
   have:=hv.len _ (aL gn);have:=hv.width;omega
  have vo: ∀j (hj:j<d.next[k].length),0≤d.next[k][j]∧d.next[k][j].toNat<cs.length:=fun j hj=>by have:=hv.ok _ (aL gn) _ (aL hj);omega
  refine ai (aj F (ae (be (aj F (ae (aU (aO (aO ?_))))))))
  let gr:Lx.Item:=oI z4 25 [(vI d.vars),(vN (cs.getD d.start.toNat 0)),(.slice ob qs.length oc),(.slice ww fs.length wx)]
  let jw:Lx.Item:=aq ww wx 4 1 (cE fs)
  let oQ:Lx.Item:=aq ob oc 56 1 (dl qs)
  refine T.ds [gr,gd,iB] [(0,0),(1,0),(2,0),(3,0),(4,0),(5,0),(6,0),(7,0)] (fp [0,2,2] [gr,oQ,jw,gd,iB,gG,eJ] (ce 3 qs) F F) ?_
  refine au F (bn 1 cI F F F F) (au F (aK F) (au F (dZ (i:=k) cI bl F F (dX (mG 2 F))) (au F (c_ dS F F (dX (mG 2 F)) ij) (au F (bj cS F fa F F) (au F (bn 0 eI F F F F) (au F (cP eI F) (au F (cR F F) ?_)))))))
  refine cy ?_
  refine aP F (fun hc=>?_) (fun hc=>?_)
  ·have xE:cs[k]<qs.length:=by omega
   have XC:iO d cs (k+1)=iO d cs k:=by rw[iO,aR (by simp[Xn];omega)]
   refine cG ?_
   refine .inl ⟨F,ob,ww,oc,wx,qs,fs,F,by omega,?_,?_⟩
   ·rw[XC];exact zr
   ·rw[XC];exact mf
  have P0: ¬cs[k]<qs.length:=by omega
  have XD:iO d cs (k+1)=((iO d cs k).1++[(fW cs d.next[k]).map fun c:Nat=>(c:Int)],(iO d cs k).2++[d.aV[k]]):=by rw[iO,ay (by simp[Xn];omega)];simp[gn,Tm]
  refine aE (ai (aj F (ae (aO (ai (ah F (ad (cP cI F) (ah F (ae (aU (T.eY 3 1 ?_)))))))))))
  let As:Value:=(.slice vb d.next[k].length vc)
  refine et (fun(j:Nat) ρ O=> ∃(kb:Option Addr) (kc:Nat),O=([aq kb kc 3 1 (bU ((fW cs d.next[k]).take j)),gr,oQ,jw,gd,iB,gG,eJ]++(ce 3 qs))∧j≤d.next[k].length∧dt [(0,(.agg #[(vI d.vars),(vI d.start),pf,mv])),(1,(.pointer (aD z1))),(2,(.pointer (aD z2))),(3,vI 0),(4,(.pointer (aD z3))),(5,vI 0),(6,(.pointer (aD z4))),(7,vI (k:Int)),(8,As),(9,(.slice kb j kc)),(41,As),(42,vI (d.next[k].length:Int)),(43,vI (j:Int))] ρ) (fun j=>d.next[k].length-j) 0 ?_ ?_
  ·exact⟨none,0,F,bs _,(.of F)⟩
  rintro j ρ O ⟨kb,kc,rfl,hj,hH⟩
  obtain⟨gP,rfl⟩:=hH.elim
  clear hH
  refine ai (ad (cR F F) (ae (aO (aP F (fun hc=>?_) (fun hc=>?_)))))
  ·have lS:j<d.next[k].length:=by omega
   have htj:=(vo j lS).2
   refine aE (aO (aU (ai (ad (dZ (i:=j) cI bl F F (aJ s1)) (ad (c_ dS F F (aJ s1) gI) (aj F (ae (be (ah F (ad (bn 4 cI F F F F) (ah F (ad (Fq (i:=d.next[k][j]) cI bl F F (dX (mG 5 F)) (vo j lS).1 (n3▸(vo j lS).2) (by rw[ar];exact(vo j lS).2)) (ad (c_ dS F F (dX (mG 5 F)) (ij (vo j lS).2)) (ao F (cO (v:=vN (cs[d.next[k][j].toNat])) cI bl F F F (fun z5=>?_))))))))))))))))
   refine ao F (dh 1 cI cI bl F F F F (by rw[ar,cw,iG];omega) (by decide) (Src.row (j:=0) F (by simp)) (by simp[fu]) (by omega) (by decide) (by decide) (fun z6 Ht=>?_))
   refine aj F ?_
   let yF:Lx.Item:=aq z6 Ht 3 1 ((bU ((fW cs d.next[k]).take j))++[vN (cs[d.next[k][j].toNat])])
   refine ef (O':=([yF,gr,oQ,jw,gd,iB,gG,eJ]++(ce 3 qs))) (kx [1,1,1,1,1,1,1,1] [aq (aD z5) 1 3 1 [vN (cs[d.next[k][j].toNat])],yF,gr,oQ,jw,gd,iB,gG,eJ] (ce 3 qs) F F) ?_
   refine ae (be (ad (kp F F (by omega)) (ah F (ae ?_))))
   have yB:(fW cs d.next[k]).take (j+1)=(fW cs d.next[k]).take j++[cs[d.next[k][j].toNat]]:=by rw[aH (by rw[iG];exact lS),Dm lS (vo j lS).2]
   exact⟨j+1,by omega,z6,Ht,by rw[yB,show bU ((fW cs d.next[k]).take j++[cs[d.next[k][j].toNat]])=bU ((fW cs d.next[k]).take j)++[vN (cs[d.next[k][j].toNat])]from bo],by omega,(.of F)⟩
  have Pe: ¬j<d.next[k].length:=by omega
  refine cG ?_
  have hjf:j=d.next[k].length:=by omega
  have hR:aq kb kc 3 1 (bU ((fW cs d.next[k]).take j))=Rec.sM 3 ⟨kb,kc,(fW cs d.next[k]).map fun c:Nat=>(c:Int)⟩:=by
   rw[bt (by rw[iG];omega)];simp[Rec.sM,Function.comp_def]
  refine Jg (fun ρ O=> ∃(vY:Option Addr) (vZ:Nat) (oS:Option Addr) (pP:Nat),O=([oI z4 25 [(vI d.vars),(vN (cs.getD d.start.toNat 0)),(.slice vY (qs.length+1) vZ),(.slice oS (fs.length+1) pP)],aq vY vZ 56 1 ((dl qs)++[(.slice kb j kc)]),aq oS pP 4 1 ((cE fs)++[(.bool d.aV[k])]),gd,iB,gG,eJ]++(ce 3 (qs++[⟨kb,kc,(fW cs d.next[k]).map fun c:Nat=>(c:Int)⟩])))∧dt [(0,(.agg #[(vI d.vars),(vI d.start),pf,mv])),(1,(.pointer (aD z1))),(2,(.pointer (aD z2))),(3,vI 0),(4,(.pointer (aD z3))),(5,vI 0),(6,(.pointer (aD z4))),(7,vI (k:Int)),(8,As),(9,(.slice kb j kc)),(41,As),(42,vI (d.next[k].length:Int)),(43,vI (j:Int))] ρ) ?_ ?_
  ·let k8:Lx.Item:=aq kb kc 3 1 (bU ((fW cs d.next[k]).take j))
   refine Hg [gr,eJ] [15,17] 18 mixed F (fp [1,6] [k8,gr,oQ,jw,gd,iB,gG,eJ] (ce 3 qs) F F) (fun _ _ _ _ h=>h) ?_
   refine gE 0 F (by kernel_rfl) (bj cS F fa F F) ?_
   refine gE 1 F (by kernel_rfl) (bn 0 eI F F F F) ?_
   refine gE 2 F (by kernel_rfl) (aK F) ?_
   refine gE 5 F (by kernel_rfl) (bj cS F dy F F) ?_
   refine gE 6 F (by kernel_rfl) (bn 0 eu F F F F) ?_
   refine gE 7 F (by kernel_rfl) (bj cS F dy F F) ?_
   refine gE 8 F (by kernel_rfl) (bn 1 eu F F F F) ?_
   refine gE 9 F (by kernel_rfl) (aK F) ?_
   refine gE 10 F (by kernel_rfl) (dZ (i:=k) eu fw F F (aJ h.aV) Tm (by rw[ar];exact Tm)) ?_
   refine gE 11 F (by kernel_rfl) (c_ Bh F F (aJ h.aV) (iy Tm)) ?_
   refine fP [3,12] (by kernel_rfl) F ⟨⟨_,F,F,cO (v:=(.slice kb j kc)) eI cU F F F (fun zA=>⟨.inr (fp [2,7] [aq (aD zA) 1 56 1 [(.slice kb j kc)],k8,gr,oQ,jw,gd,iB,gG,eJ] (ce 3 qs) F F),?_⟩)⟩,⟨_,F,F,cO (v:=(.bool d.aV[k])) eu fw F F F (fun zB=>⟨.inr (fp [2,7] [aq (aD zB) 1 4 1 [(.bool d.aV[k])],k8,gr,oQ,jw,gd,iB,gG,eJ] (ce 3 qs) F F),?_⟩)⟩,trivial⟩ (by kernel_rfl)
   ·let k7:Lx.Item:=aq (aD zA) 1 56 1 [(.slice kb j kc)]
    refine fP [4,12] (by kernel_rfl) F ⟨⟨_,F,F,dh 3 eI eI cU F F F F (by rw[ar];omega) (by decide) (Src.row (j:=0) F (by simp)) (by simp[fu]) (by omega) (by decide) (by decide) (fun vY vZ=>⟨.inr (fp [2,7] [k7,k8,gr,aq vY vZ 56 1 ((dl qs)++[(.slice kb j kc)]),jw,gd,iB,gG,eJ] (ce 3 qs) F F),?_⟩)⟩,⟨_,F,F,cO (v:=(.bool d.aV[k])) eu fw F F F (fun zB=>⟨.inr (fp [3,8] [aq (aD zB) 1 4 1 [(.bool d.aV[k])],k7,k8,gr,oQ,jw,gd,iB,gG,eJ] (ce 3 qs) F F),?_⟩)⟩,trivial⟩ (by kernel_rfl)
    ·refine kw 14 F (by kernel_rfl) (bj cS F fa F F) ?_
     let Jv:Lx.Item:=aq vY vZ 56 1 ((dl qs)++[(.slice kb j kc)])
     refine fP [12] (by kernel_rfl) F ⟨⟨_,F,F,cO (v:=(.bool d.aV[k])) eu fw F F F (fun zB=>⟨.inr (fp [3,8] [aq (aD zB) 1 4 1 [(.bool d.aV[k])],k7,k8,gr,Jv,jw,gd,iB,gG,eJ] (ce 3 qs) F F),?_⟩)⟩,trivial⟩ (by kernel_rfl)
     refine fP [13] (by kernel_rfl) F ⟨⟨_,F,F,dh 5 eu eu fw F F F F (by rw[ar];omega) (by decide) (Src.row (j:=0) F (by simp)) (by simp[fu]) (by omega) (by decide) (by decide) (fun oS pP=>⟨.inr (fp [3,8] [aq (aD zB) 1 4 1 [(.bool d.aV[k])],k7,k8,gr,Jv,aq oS pP 4 1 ((cE fs)++[(.bool d.aV[k])]),gd,iB,gG,eJ] (ce 3 qs) F F),?_⟩)⟩,trivial⟩ (by kernel_rfl)
     refine fP [15] (by kernel_rfl) F ⟨⟨_,F,F,bV (vs:=[(.slice vY (qs.length+1) vZ)]) 3 fa F F F F ⟨.inl (by decide),?_⟩⟩,trivial⟩ (by kernel_rfl)
     refine kw 16 F (by kernel_rfl) (bj cS F dy F F) ?_
     refine fP [17] (by kernel_rfl) F ⟨⟨_,F,F,bV (vs:=[(.slice oS (fs.length+1) pP)]) 3 dy F F F F ⟨.inl (by decide),?_⟩⟩,trivial⟩ (by kernel_rfl)
     exact dw (by kernel_rfl) ⟨vY,vZ,oS,pP,F,(.of F)⟩ (by show Sub _ ([aq (aD zB) 1 4 1 [(.bool d.aV[k])],aq (aD zA) 1 56 1 [(.slice kb j kc)],aq kb kc 3 1 (bU ((fW cs d.next[k]).take j)),oI z4 25 [(vI d.vars),(vN (cs.getD d.start.toNat 0)),(.slice vY (qs.length+1) vZ),(.slice oS (fs.length+1) pP)],aq vY vZ 56 1 ((dl qs)++[(.slice kb j kc)]),aq oS pP 4 1 ((cE fs)++[(.bool d.aV[k])]),oI z3 56 [(.slice cb d.next.length cc)],aq cb cc 3 1 (bU cs),oI z2 25 [(vI 0),(vI 0),nS,nS],oI z1 25 [(vI d.vars),(vI d.start),(.slice nb d.next.length nc),(.slice fb d.aV.length fc)]]++ce 3 qs);rw[hR];exact gS [aq (aD zB) 1 4 1 [(.bool d.aV[k])],aq (aD zA) 1 56 1 [(.slice kb j kc)]])
    refine fP [4] (by kernel_rfl) F ⟨⟨_,F,F,dh 4 eI eI cU F F F F (by rw[ar];omega) (by decide) (Src.row (j:=1) F (by simp)) (by simp[fu]) (by omega) (by decide) (by decide) (fun vY vZ=>⟨.inr (fp [3,8] [aq (aD zB) 1 4 1 [(.bool d.aV[k])],k7,k8,gr,aq vY vZ 56 1 ((dl qs)++[(.slice kb j kc)]),jw,gd,iB,gG,eJ] (ce 3 qs) F F),?_⟩)⟩,trivial⟩ (by kernel_rfl)
    refine kw 14 F (by kernel_rfl) (bj cS F fa F F) ?_
    refine fP [13] (by kernel_rfl) F ⟨⟨_,F,F,dh 5 eu eu fw F F F F (by rw[ar];omega) (by decide) (Src.row (j:=0) F (by simp)) (by simp[fu]) (by omega) (by decide) (by decide) (fun oS pP=>⟨.inr (fp [3,8] [aq (aD zB) 1 4 1 [(.bool d.aV[k])],k7,k8,gr,aq vY vZ 56 1 ((dl qs)++[(.slice kb j kc)]),aq oS pP 4 1 ((cE fs)++[(.bool d.aV[k])]),gd,iB,gG,eJ] (ce 3 qs) F F),?_⟩)⟩,trivial⟩ (by kernel_rfl)
    refine fP [15] (by kernel_rfl) F ⟨⟨_,F,F,bV (vs:=[(.slice vY (qs.length+1) vZ)]) 3 fa F F F F ⟨.inl (by decide),?_⟩⟩,trivial⟩ (by kernel_rfl)
    refine kw 16 F (by kernel_rfl) (bj cS F dy F F) ?_
    refine fP [17] (by kernel_rfl) F ⟨⟨_,F,F,bV (vs:=[(.slice oS (fs.length+1) pP)]) 3 dy F F F F ⟨.inl (by decide),?_⟩⟩,trivial⟩ (by kernel_rfl)
    exact dw (by kernel_rfl) ⟨vY,vZ,oS,pP,F,(.of F)⟩ (by show Sub _ ([aq (aD zB) 1 4 1 [(.bool d.aV[k])],aq (aD zA) 1 56 1 [(.slice kb j kc)],aq kb kc 3 1 (bU ((fW cs d.next[k]).take j)),oI z4 25 [(vI d.vars),(vN (cs.getD d.start.toNat 0)),(.slice vY (qs.length+1) vZ),(.slice oS (fs.length+1) pP)],aq vY vZ 56 1 ((dl qs)++[(.slice kb j kc)]),aq oS pP 4 1 ((cE fs)++[(.bool d.aV[k])]),oI z3 56 [(.slice cb d.next.length cc)],aq cb cc 3 1 (bU cs),oI z2 25 [(vI 0),(vI 0),nS,nS],oI z1 25 [(vI d.vars),(vI d.start),(.slice nb d.next.length nc),(.slice fb d.aV.length fc)]]++ce 3 qs);rw[hR];exact gS [aq (aD zB) 1 4 1 [(.bool d.aV[k])],aq (aD zA) 1 56 1 [(.slice kb j kc)]])
   refine fP [3] (by kernel_rfl) F ⟨⟨_,F,F,cO (v:=(.slice kb j kc)) eI cU F F F (fun zA=>⟨.inr (fp [3,8] [aq (aD zA) 1 56 1 [(.slice kb j kc)],aq (aD zB) 1 4 1 [(.bool d.aV[k])],k8,gr,oQ,jw,gd,iB,gG,eJ] (ce 3 qs) F F),?_⟩)⟩,trivial⟩ (by kernel_rfl)
   refine fP [4] (by kernel_rfl) F ⟨⟨_,F,F,dh 4 eI eI cU F F F F (by rw[ar];omega) (by decide) (Src.row (j:=0) F (by simp)) (by simp[fu]) (by omega) (by decide) (by decide) (fun vY vZ=>⟨.inr (fp [3,8] [aq (aD zA) 1 56 1 [(.slice kb j kc)],aq (aD zB) 1 4 1 [(.bool d.aV[k])],k8,gr,aq vY vZ 56 1 ((dl qs)++[(.slice kb j kc)]),jw,gd,iB,gG,eJ] (ce 3 qs) F F),?_⟩)⟩,trivial⟩ (by kernel_rfl)
   refine kw 14 F (by kernel_rfl) (bj cS F fa F F) ?_
   refine fP [13] (by kernel_rfl) F ⟨⟨_,F,F,dh 5 eu eu fw F F F F (by rw[ar];omega) (by decide) (Src.row (j:=1) F (by simp)) (by simp[fu]) (by omega) (by decide) (by decide) (fun oS pP=>⟨.inr (fp [3,8] [aq (aD zA) 1 56 1 [(.slice kb j kc)],aq (aD zB) 1 4 1 [(.bool d.aV[k])],k8,gr,aq vY vZ 56 1 ((dl qs)++[(.slice kb j kc)]),aq oS pP 4 1 ((cE fs)++[(.bool d.aV[k])]),gd,iB,gG,eJ] (ce 3 qs) F F),?_⟩)⟩,trivial⟩ (by kernel_rfl)
   refine fP [15] (by kernel_rfl) F ⟨⟨_,F,F,bV (vs:=[(.slice vY (qs.length+1) vZ)]) 3 fa F F F F ⟨.inl (by decide),?_⟩⟩,trivial⟩ (by kernel_rfl)
   refine kw 16 F (by kernel_rfl) (bj cS F dy F F) ?_
   refine fP [17] (by kernel_rfl) F ⟨⟨_,F,F,bV (vs:=[(.slice oS (fs.length+1) pP)]) 3 dy F F F F ⟨.inl (by decide),?_⟩⟩,trivial⟩ (by kernel_rfl)
   exact dw (by kernel_rfl) ⟨vY,vZ,oS,pP,F,(.of F)⟩ (by show Sub _ ([aq (aD zA) 1 56 1 [(.slice kb j kc)],aq (aD zB) 1 4 1 [(.bool d.aV[k])],aq kb kc 3 1 (bU ((fW cs d.next[k]).take j)),oI z4 25 [(vI d.vars),(vN (cs.getD d.start.toNat 0)),(.slice vY (qs.length+1) vZ),(.slice oS (fs.length+1) pP)],aq vY vZ 56 1 ((dl qs)++[(.slice kb j kc)]),aq oS pP 4 1 ((cE fs)++[(.bool d.aV[k])]),oI z3 56 [(.slice cb d.next.length cc)],aq cb cc 3 1 (bU cs),oI z2 25 [(vI 0),(vI 0),nS,nS],oI z1 25 [(vI d.vars),(vI d.start),(.slice nb d.next.length nc),(.slice fb d.aV.length fc)]]++ce 3 qs);rw[hR];exact gS [aq (aD zA) 1 56 1 [(.slice kb j kc)],aq (aD zB) 1 4 1 [(.bool d.aV[k])]])
  rintro ρ O ⟨vY,vZ,oS,pP,rfl,hH⟩
  obtain⟨gP,rfl⟩:=hH.elim
  clear hH
  refine .inl ⟨F,vY,oS,vZ,pP,qs++[⟨kb,kc,(fW cs d.next[k]).map fun c:Nat=>(c:Int)⟩],fs++[d.aV[k]],?_,by omega,?_,?_⟩
  ·simp[Rec.val,iG,hjf]
  ·rw[XD,←zr];simp
  ·rw[XD,mf]
 ·refine⟨none,none,0,0,[],[],?_,bs _,F,F⟩
  rfl
 rintro v O' (⟨ob,ww,oc,wx,qs,fs,rfl,hk,zr,mf⟩|hF)
 rotate_left
 ·exact hF.elim
 refine⟨none,_,F,?_⟩
 refine aO ?_
 have Hw:qs.length=(quo d cs).next.length:=by rw[show qs.length=(nums qs).length by simp,zr];rfl
 obtain rfl:fs=(quo d cs).aV:=mf
 rw[Hw]
 refine be (ad (ew 0 cS F bK F F F) ?_)
 let s9:Lx.Item:=oI z4 25 [(vI d.vars),(vN (cs.getD d.start.toNat 0)),(.slice ob ((quo d cs).next.length) oc),(.slice ww ((quo d cs).aV.length) wx)]
 let ul:Lx.Item:=oI z1 25 [(vI d.vars),(vI d.start),(.slice nb d.next.length nc),(.slice fb d.aV.length fc)]
 let xo:Lx.Item:=aq ww wx 4 1 (cE (quo d cs).aV)
 let Hz:Lx.Item:=oI z3 56 [(.slice cb d.next.length cc)]
 let HB:Lx.Item:=aq ob oc 56 1 (dl qs)
 let Tx:Lx.Item:=aq cb cc 3 1 (bU cs)
 have Cm:=fun(w1:World) (hI:Inv w ([s9,HB,xo,Hz,Tx,gG,ul]++(ce 3 qs)) w1)=>(haveI:=ey hI;OR w1 (quo d cs) ob ww oc wx (dl qs) ⟨hI.gW (mG 1 F),(show nums qs=(quo d cs).next from zr)▸hI.US (fun q hq=>am _ (List.mem_map_of_mem (f:=Rec.sM 3) hq)),hI.gW (mG 2 F)⟩ hqv hqn)
 refine ao F (bm Xf (aX Cm) F ?_)
 clear Cm
 rintro v O' ⟨N,rfl,BN,BO,oN,oO,XF,rfl,rfl,ME⟩
 refine ef (O':=([aq BN BO 56 1 (dl XF),aq oN oO 4 1 (cE (ek (quo d cs)).aV),s9,HB,xo,Hz,Tx,gG,ul]++((ce 3 XF)++(ce 3 qs)))) (gS []) ?_
 refine ad (bG (vs:=_) F F) (ad (bG (vs:=_) F F) (ao F (bV (vs:=[(vI (ek (quo d cs)).vars),(vI (ek (quo d cs)).start),(.slice BN ((ek (quo d cs)).next.length) BO),(.slice oN ((ek (quo d cs)).aV.length) oO)]) 7 bK F F F F ?_)))
 refine aj F (ae (aN (az ?_)))
 refine jM (vI 0) (i:=7) Tryz.results23 cS F bK F F F F ?_
 exact⟨[aq BN BO 56 1 (dl XF),aq oN oO 4 1 (cE (ek (quo d cs)).aV)]++ce 3 XF,gS ([s9,HB,xo,Hz,Tx,oI z2 25 [(vI (ek (quo d cs)).vars),(vI (ek (quo d cs)).start),(.slice BN ((ek (quo d cs)).next.length) BO),(.slice oN ((ek (quo d cs)).aV.length) oO)],ul]++ce 3 qs),BN,BO,oN,oO,XF,F,F,ME⟩
end Go.Proofs.YtgdbfideeeegmaaGreatDoor

namespace Go.Proofs.YtgdbfideeeegmaaGreatDoor
open Go.Lx Go.RowKit _root_.Go.Proofs.Tryz
end Go.Proofs.YtgdbfideeeegmaaGreatDoor

namespace Go.Proofs.YtgdbfideeeegmaaGreatDoor
open Go.Lx Go.RowKit _root_.Go.Proofs.Tryz
end Go.Proofs.YtgdbfideeeegmaaGreatDoor

namespace Go.Proofs.YtgdbfideeeegmaaGreatDoor
open Go.Lx Go.RowKit _root_.Go.Proofs.Tryz
end Go.Proofs.YtgdbfideeeegmaaGreatDoor

namespace Go.Proofs.YtgdbfideeeegmaaGreatDoor
open Go.Lx Go.RowKit _root_.Go.Proofs.Tryz
end Go.Proofs.YtgdbfideeeegmaaGreatDoor

namespace Go.Proofs.YtgdbfideeeegmaaGreatDoor
open Go.Lx Go.RowKit _root_.Go.Proofs.Tryz
end Go.Proofs.YtgdbfideeeegmaaGreatDoor

namespace Go.Proofs.YtgdbfideeeegmaaGreatDoor
open Go.Lx Go.RowKit _root_.Go.Proofs.Tryz
theorem aaK (w:World) [dB Tryz.prog w] (d:cM) (nb fb:Option Addr) (nc fc:Nat) (vs:List Value) (h:ii w d nb vs fb) (hb:d.next.length<9223372036854775807) (qV: ∀r∈d.next,r.length<9223372036854775807) (rP:d.aV.length<9223372036854775807) (hn:Valid d→d.next.length<10000):
  cA Tryz.prog 23 [.agg (eG d nb nc fb fc).toArray] w fun v N=> ∃BN BO oN oO qs,v=.tuple #[.agg (eG (rO d) BN BO oN oO).toArray,.int .i64 (cX d:Int)]∧N=[aq BN BO 56 1 (dl qs),aq oN oO 4 1 (cE (rO d).aV)]++ce 3 qs∧nums qs=(rO d).next:=by
 unfold rO
 by_cases he:cX d=0
 ·have hv:=dO.1 he
  obtain⟨q1,q2⟩:=Gq hv d.next.length
  rw[he,aR F]
  exact XB w d nb fb nc fc vs h hv (hn hv) q1 (by have:=hn hv;omega)
 ·rw[ay he]
  refine(gg 56 1 (gg 4 1 (Tw w d nb fb nc fc vs h hb qV rP he))).mono ?_
  rintro v N ⟨O2,rfl,O3,rfl,rfl,rfl⟩
  exact⟨none,0,none,0,[],F,F,F⟩
end Go.Proofs.YtgdbfideeeegmaaGreatDoor

namespace Go.Lx
open Go.RowKit
structure vE where
 d:cM
 nb:Option Addr
 fb:Option Addr
 nc:Nat
 fc:Nat
 vs:List Value
def vE.cells (r:vE):List Value:=eG r.d r.nb r.nc r.fb r.fc
abbrev me (L:List vE):List Value:=L.flatMap vE.cells
theorem jf: ∀L:List vE,(me L).length=L.length*4
 | []=>rfl
 |q::rs=>by
  have:=jf rs
  simp only[me]at this
  simp only[me,List.flatMap_cons,aF,this,bL,vE.cells,cN]
  omega
theorem mM: ∀ {L:List vE} {i:Nat} (h:i<L.length) {j:Nat},j<4→(me L)[i*4+j]? =(L[i].cells)[j]?
 |q::rs,0,h,j,hj=>by
  simp only[me,List.flatMap_cons]
  rw[bI (by simp[vE.cells];omega)]
  simp
 |q::rs,i+1,h,j,hj=>by
  have ih:=mM (L:=rs) (i:=i) (by simpa using h) hj
  simp only[me,List.flatMap_cons]
  rw[bY (by simp[vE.cells];omega)]
  simp only[me]at ih
  rw[show(i+1)*4+j-q.cells.length=i*4+j by simp[vE.cells];omega,ih]
  simp
def pB (d:cM):Bool:=decide (40<d.next.length)||decide (40<d.aV.length)||d.next.any fun r=>decide (100<r.length)
theorem wD {α:Type} {L:List α} {f:α→Bool} {i:Nat} (hi:i<L.length) (h:(L.take i).any f=false) (h2:f L[i]=false):(L.take (i+1)).any f=false:=by
 rw[aH hi,List.any_append,h];simp[h2]
theorem wC {α:Type} {L:List α} {f:α→Bool} {i:Nat} (hi:i<L.length) (h:f L[i]=true):L.any f=true:=
 List.any_eq_true.2 ⟨_,aL hi,h⟩
end Go.Lx
namespace Go.Lx
end Go.Lx
namespace Go.Lx
end Go.Lx

namespace Go.Proofs.YtgdbfideeeegmaaGreatDoor
open Go.Lx Go.RowKit _root_.Go.Proofs.Tryz
theorem GV (w:World) [dB Tryz.prog w] (d e:cM) (Ds Dt Du oS:Option Addr) (GW GX GY pP:Nat) (vs us:List Value) (h1:ii w d Ds vs Du) (h2:ii w e Dt us oS) (hb:d.next.length<9223372036854775807) (qV: ∀r∈d.next,r.length<9223372036854775807) (rP:d.aV.length<9223372036854775807):
  cA Tryz.prog 16 [.agg (eG d Ds GW Du GY).toArray,.agg (eG e Dt GX oS pP).toArray] w fun v N=>v=.bool (decide (d=e))∧N=[]:=
 (sK (Bk w d e Ds Dt Du oS GW GX GY pP vs us h1 h2 hb qV rP)).mono fun v N ⟨h1,O2,h2,_⟩=>⟨h2,h1⟩
theorem GZ (w:World) [dB Tryz.prog w] (d:cM) (Ds Dt Du oS:Option Addr) (GW GX GY pP:Nat) (vs us:List Value) (h1:ii w d Ds vs Du) (h2:ii w d Dt us oS) (hb:d.next.length<9223372036854775807) (qV: ∀r∈d.next,r.length<9223372036854775807) (rP:d.aV.length<9223372036854775807):
  cA Tryz.prog 16 [.agg (eG d Ds GW Du GY).toArray,.agg (eG d Dt GX oS pP).toArray] w fun v N=>v=.bool true∧N=[]:=
 (GV w d d Ds Dt Du oS GW GX GY pP vs us h1 h2 hb qV rP).mono fun v N ⟨h1,h2⟩=>⟨h1.trans (ax Value.bool (av F)),h2⟩
theorem Uh (w:World) [dB Tryz.prog w] (b:Option Addr) (c:Nat) (L:List vE) (hS:Sl w b (me L)) (hD: ∀r∈L,ii w r.d r.nb r.vs r.fb) (hL:L.length<9223372036854775807) (hB: ∀r∈L,r.d.next.length<9223372036854775807):
  cA Tryz.prog 9 [.slice b L.length c] w fun v N=>v=.bool (L.any fun r=>pB r.d)∧N=[]:=by
 refine aG func9 F ntmps9 F ?_
 refine ai (aj F (ae (aO (ai (aj F (ae (aU ?_)))))))
 refine et (fun(i:Nat) ρ O=>O=[]∧i≤L.length∧(L.take i).any (fun r=>pB r.d)=false∧dt [(0,(.slice b L.length c)),(3,vI (i:Int))] ρ) (fun i=>L.length-i) 0 ?_ ?_
 ·exact⟨F,bs _,F,⟨F,F,trivial⟩⟩
 rintro i ρ O ⟨rfl,hi,kZ,hH⟩
 obtain⟨gP,rfl⟩:=hH.elim
 clear hH
 refine aO (ai (ah F (ah F (ad (cP G0 F) (ad (cR F F) (ae (aP F (fun hc=>?_) (fun hc=>?_))))))))
 ·have nV:i<L.length:=by omega
  refine aE (aO (aU (aO (ai (ah F (ah F (ad (dU (i:=i) G0 bK F F (aJ hS) nV (by rw[jf];omega)) (ad (ck cS F fa F F (aJ hS) (by rw[jf];omega)) (ad (c_ eI F F (aJ hS) (show(me L)[i*4+2]? =some (.slice L[i].nb L[i].d.next.length L[i].nc) by rw[mM nV (by decide)];rfl)) (ad (cP eI F) ?_))))))))))
  by_cases h1:(L[i].d.next.length:Int)>40
  ·refine ad (aA (gH F F) (av h1)) ?_
   refine ah F (aS F F (aS F F (aS F F (aS F F (aS F F (aS F F (aS F F ?_)))))))
   refine ad (cg F F) (ae ?_)
   refine bW F ?_
   refine ai (aj F (ae (aN ?_)))
   refine aT (.bool true) Tryz.results9 F ?_
   exact⟨ax Value.bool (wC nV (by simp only[pB,Bool.or_eq_true,dm];exact .inl (.inl (by omega)))).symm,F⟩
  refine ad (aA (gH F F) (ak h1)) (ah F (aB F F (aK F) (aB F F (aK F) (aB F F (dU (i:=i) G0 bK F F (aJ hS) nV (by rw[jf];omega)) (aB F F (ck cS F dy F F (aJ hS) (by rw[jf];omega)) (aB F F (c_ eu F F (aJ hS) (show(me L)[i*4+3]? =some (.slice L[i].fb L[i].d.aV.length L[i].fc) by rw[mM nV (by decide)];rfl)) (aB F F (cP eu F) ?_)))))))
  by_cases h2:(L[i].d.aV.length:Int)>40
  ·refine aB F F (aA (gH F F) (av h2)) ?_
   refine ad (b_ F F) (ae ?_)
   refine bW F ?_
   refine ai (aj F (ae (aN ?_)))
   refine aT (.bool true) Tryz.results9 F ?_
   exact⟨ax Value.bool (wC nV (by simp only[pB,Bool.or_eq_true,dm];exact .inl (.inr (by omega)))).symm,F⟩
  refine aB F F (aA (gH F F) (ak h2)) (ad (b_ F F) (ae (a_ F (aE (ai (aj F (ae (aU ?_))))))))
  refine et (fun(s:Nat) ρ O=>O=[]∧s≤L[i].d.next.length∧(L[i].d.next.take s).any (fun r=>decide (100<r.length))=false∧dt [(0,(.slice b L.length c)),(3,vI (i:Int)),(4,vI (s:Int))] ρ) (fun s=>L[i].d.next.length-s) 0 ?_ ?_
  ·exact⟨F,bs _,F,⟨F,F,F,trivial⟩⟩
  rintro s ρ O ⟨rfl,hs,O6,hH⟩
  obtain⟨gP,rfl⟩:=hH.elim
  clear hH
  refine aO (ai (ah F (ah F (ah F (ad (dU (i:=i) G0 bK F F (aJ hS) nV (by rw[jf];omega)) (ad (ck cS F fa F F (aJ hS) (by rw[jf];omega)) (ad (c_ eI F F (aJ hS) (show(me L)[i*4+2]? =some (.slice L[i].nb L[i].d.next.length L[i].nc) by rw[mM nV (by decide)];rfl)) (ad (cP eI F) (ad (cR F F) (ae (aP F (fun hc=>?_) (fun hc=>?_))))))))))))
  ·have yQ:s<L[i].d.next.length:=by omega
   obtain⟨vb,vc,g1,s1⟩:=(hD _ (aL nV)).rows.get yQ
   have hB9:=hB _ (aL nV)
   refine aE (aO (aU (ai (ah F (ah F (ad (dU (i:=i) G0 bK F F (aJ hS) nV (by rw[jf];omega)) (ad (ck cS F fa F F (aJ hS) (by rw[jf];omega)) (ad (c_ eI F F (aJ hS) (show(me L)[i*4+2]? =some (.slice L[i].nb L[i].d.next.length L[i].nc) by rw[mM nV (by decide)];rfl)) (ah F (ad (dZ (i:=s) eI cU F F (aJ (hD _ (aL nV)).outer) yQ (by rw[(hD _ (aL nV)).rows.1];exact yQ)) (ad (c_ cI F F (aJ (hD _ (aL nV)).outer) g1) (ad (cP cI F) (ad (gH F F) (ae (aP F (fun hc=>?_) (fun hc=>?_))))))))))))))))
   ·have abd:L[i].d.next[s].length>100:=by omega
    refine ai (aj F (ae (aN ?_)))
    refine aT (.bool true) Tryz.results9 F ?_
    exact⟨ax Value.bool (wC nV (by simp only[pB,Bool.or_eq_true,dm];exact .inr (wC yQ (by simp;omega)))).symm,F⟩
   have abe: ¬L[i].d.next[s].length>100:=by omega
   refine aE (be (ah F (ad (kp F F (by omega)) (aj F (ae ?_)))))
   exact⟨s+1,by omega,F,by omega,wD yQ O6 (by simp;omega),⟨F,F,F,trivial⟩⟩
  have Ui: ¬s<L[i].d.next.length:=by omega
  refine cG ?_
  refine be (ah F (ad (kp F F (by omega)) (aj F (ae ?_))))
  have hLi:pB L[i].d=false:=by
   simp only[pB,Bool.or_eq_false_iff,decide_eq_false_iff_not]
   exact⟨⟨by omega,by omega⟩,by rwa[bt (by omega)]at O6⟩
  exact⟨i+1,by omega,F,by omega,wD nV kZ hLi,⟨F,F,trivial⟩⟩
 have QG: ¬i<L.length:=by omega
 refine cG ?_
 refine ai (aj F (ae (aN ?_)))
 refine aT (.bool false) Tryz.results9 F ?_
 exact⟨ax Value.bool (by rw[bt (by omega)]at kZ;exact kZ.symm),F⟩
end Go.Proofs.YtgdbfideeeegmaaGreatDoor

namespace Go.Lx
def j5 (d:cM) (s:Nat):Nat:=(ie d d.next.length).getD s 0
theorem oG {d:cM} (hv:Val d) {s t:Nat} (hs:s<d.next.length) (ht:t<d.next.length):j5 d s=j5 d t↔ ∀u,Wd d u→ ¬dst d s t u:=OA hv hs ht
theorem Ia {d:cM} (hv:Val d) {s t:Nat} (hs:s<d.next.length) (ht:t<d.next.length) (h:j5 d s=j5 d t):dD d s=dD d t:=by
 have:=(oG hv hs ht).1 h [] (fun x hx=>by cases hx)
 exact Classical.not_not.1 this
theorem E0 {d:cM} (hv:Val d) {s t x:Nat} (hs:s<d.next.length) (ht:t<d.next.length) (hx:x<dT d) (h:j5 d s=j5 d t):j5 d (e7 d s x)=j5 d (e7 d t x):=by
 rw[oG hv (nK hv hs hx) (nK hv ht hx)]
 intro u hu hd
 exact(oG hv hs ht).1 h (x::u) (fun y hy=>by rcases List.mem_cons.1 hy with rfl|hy;exact hx;exact hu y hy) hd
theorem Gs {d:cM} {cs:List Nat} (hl:cs.length=d.next.length) (hc:wv cs=cs): ∀k,k≤d.next.length→ ∀c,c<(iO d cs k).1.length→ ∃s,s<k∧cs.getD s 0=c∧(iO d cs k).1[c]? =some ((fW cs (d.next.getD s [])).map fun c:Nat=>(c:Int))∧(iO d cs k).2[c]? =some (dD d s)
 |0,_,c,h=>by simp[iO]at h
 |k+1,hk,c,h=>by
  have ih:=Gs hl hc k (by omega)
  have iM:=kH d cs k
  by_cases hn:cs.getD k 0<(iO d cs k).1.length
  ·rw[iO,aR hn]at h⊢
   obtain⟨s,h1,h2⟩:=ih c h
   exact⟨s,by omega,h2⟩
  ·rw[iO,ay hn]at h⊢
   by_cases n3:c<(iO d cs k).1.length
   ·obtain⟨s,h1,h2,h3,h4⟩:=ih c n3
    exact⟨s,by omega,h2,by rw[bI n3];exact h3,by rw[bI (by omega)];exact h4⟩
   ·have Hn:c=(iO d cs k).1.length:=by simp at h;omega
    refine⟨k,by omega,?_,?_,?_⟩
    ·have h1:=tI (l:=cs) hl hc.symm k (by omega)
     have h2:=tI (l:=cs) hl hc.symm (k+1) hk
     have nu:k<cs.length:=by omega
     have hg:=ap nu
     have Ua:cs.getD k 0=ix cs[k] (dd cs):=by
      have:=kW hg
      rw[hc]at this
      rw[aw,this];rfl
     have zi:dd (cs.take (k+1))<+:dd cs:=by
      conv=>rhs;rw[←List.take_append_drop (k+1) cs]
      rw[uI];exact gD _ _
     have hm:cs[k]∈dd (cs.take (k+1)):=jT.2 (by rw[aH nu];exact am _ (List.mem_singleton.2 F))
     have gn:=rJ hm
     rw[Ua,ig zi hm]
     rw[Ua,ig zi hm]at hn
     rw[iO,ay (by rw[Ua,ig zi hm];exact hn)]at h2
     simp at h2
     omega
    ·rw[Hn,bY (a8 _)];simp
    ·rw[Hn,iM.1,bY (a8 _)];simp[dD]
def pR (d:cM):cM:=quo d (ie d d.next.length)
theorem pS {d:cM} (hv:Val d):Val (pR d):=(OC hv d.next.length).1
theorem E1 {d:cM} (hv:Valid d):Valid (pR d):=(Gq hv d.next.length).1
theorem LM {d:cM} (hv:Val d) {s:Nat} (hs:s<d.next.length):j5 d s<(pR d).next.length:=by
 rw[pR,Gn (ft d _) (pu d _)]
 exact Ly (pu d _) (Gm hs)
theorem Gt {d:cM} (hv:Val d) {c:Nat} (hc:c<(pR d).next.length): ∃s,s<d.next.length∧j5 d s=c∧dD (pR d) c=dD d s∧ ∀x,x<dT d→e7 (pR d) c x=j5 d (e7 d s x):=by
 obtain⟨s,h1,h2,h3,h4⟩:=Gs (ft d d.next.length) (pu d _) d.next.length (a8 _) c hc
 refine⟨s,h1,h2,?_,?_⟩
 ·show(iO d (ie d d.next.length) d.next.length).2.getD c false=_
  rw[aw,h4];rfl
 ·intro x hx
  have pM:(pR d).next.getD c []=(fW (ie d d.next.length) (d.next.getD s [])).map fun c:Nat=>(c:Int):=by
   show(iO d (ie d d.next.length) d.next.length).1.getD c []=_
   rw[aw,h3];rfl
  have Z8:(d.next.getD s []).length=dT d:=by simp[h1];exact hv.len _ (aL h1)
  have sQ:x<(d.next.getD s []).length:=by omega
  have e1:(d.next.getD s []).getD x 0=(d.next.getD s [])[x]:=by rw[aw,ap sQ];rfl
  rw[e7,pM,aw,bq,fW,bq,ap sQ]
  show(((ie d d.next.length).getD (d.next.getD s [])[x].toNat 0:Nat):Int).toNat=j5 d (e7 d s x)
  rw[Int.toNat_natCast,j5,e7,e1]
theorem uJ {d:cM} (hv:Val d) {s x:Nat} (hs:s<d.next.length) (hx:x<dT d):e7 (pR d) (j5 d s) x=j5 d (e7 d s x):=by
 obtain⟨s',h1,h2,_,h4⟩:=Gt hv (LM hv hs)
 rw[h4 x hx]
 exact E0 hv h1 hs hx h2
theorem x4 {d:cM} (hv:Val d) {s:Nat} (hs:s<d.next.length):dD (pR d) (j5 d s)=dD d s:=by
 obtain⟨s',h1,h2,h3,_⟩:=Gt hv (LM hv hs)
 rw[h3];exact Ia hv h1 hs h2
theorem LN {d:cM} (hv:Val d) {s:Nat} (hs:s<d.next.length): ∀w,Wd d w→runN (pR d) (j5 d s) w=j5 d (runN d s w):=by
 refine oT (fun _=>rfl) ?_
 intro w x ih hw
 have Fk:Wd d w:=fun y hy=>hw y (by simp[hy])
 rw[fR,fR,ih Fk,uJ hv (kG hv hs w Fk) (hw x (by simp))]
theorem sD (d:cM):(pR d).start.toNat=j5 d d.start.toNat:=by
 show(((ie d d.next.length).getD d.start.toNat 0:Nat):Int).toNat=_
 rw[Int.toNat_natCast];rfl
theorem qP {d:cM} (hv:Val d): ∃r,order d=d.start.toNat::r:=by
 have hp:=jy d 0 d.next.length (bs _)
 obtain⟨r,hr⟩:=hp
 exact⟨r,hr.symm⟩
theorem uK {d:cM} (hv:Val d):Val (ek d):=by
 obtain⟨r,hr⟩:=qP hv
 have hl:=qW hv
 have DX:0<(order d).length:=by rw[hr];simp
 refine⟨hv.v0,hv.v6,?_,?_,Int.le_refl _,?_,?_,?_⟩
 ·simpa[ek]using DX
 ·simp[ek]
 ·show(0:Int)<((ek d).next.length:Nat)
  simp only[ek,ar];omega
 ·intro r hr
  obtain⟨o,ho,rfl⟩:=List.mem_map.1 hr
  rw[ar,Db];rfl
 ·intro r hr x hx
  obtain⟨o,ho,rfl⟩:=List.mem_map.1 hr
  obtain⟨t,ht,rfl⟩:=List.mem_map.1 hx
  refine⟨Int.natCast_nonneg _,?_⟩
  have:=rJ (tJ hv o ho t ht)
  simp only[ek,ar];omega
theorem E2 {d:cM} (hv:Val d) {s x:Nat} (hs:s∈order d) (hx:x<dT d):e7 (ek d) (ix s (order d)) x=ix (e7 d s x) (order d):=by
 have hg:=pr hs
 have pM:(ek d).next.getD (ix s (order d)) []=(mB d s).map fun t=>((ix t (order d):Nat):Int):=by
  show((order d).map fun o=>(mB d o).map fun t=>((ix t (order d):Nat):Int)).getD _ []=_
  rw[aw,bq,hg];rfl
 rw[e7,pM,aw,bq,x5 hx]
 show((ix (e7 d s x) (order d):Nat):Int).toNat=_
 rw[Int.toNat_natCast]
theorem Ib {d:cM} {s:Nat} (hs:s∈order d):dD (ek d) (ix s (order d))=dD d s:=by
 show((order d).map fun o=>d.aV.getD o false).getD _ false=_
 rw[aw,bq,pr hs];rfl
theorem zS {d:cM} (hv:Val d) {s:Nat} (hs:s∈order d): ∀w,Wd d w→runN d s w∈order d:=by
 refine oT (fun _=>hs) ?_
 intro w x ih hw
 rw[fR]
 exact tJ hv _ (ih fun y hy=>hw y (by simp[hy])) _ (bS (x5 (hw x (by simp))))
theorem Ic {d:cM} (hv:Val d) {s:Nat} (hs:s∈order d): ∀w,Wd d w→runN (ek d) (ix s (order d)) w=ix (runN d s w) (order d):=by
 refine oT (fun _=>rfl) ?_
 intro w x ih hw
 have Fk:Wd d w:=fun y hy=>hw y (by simp[hy])
 rw[fR,fR,ih Fk,E2 hv (zS hv hs w Fk) (hw x (by simp))]
theorem zT {d:cM} (hv:Val d):d.start.toNat∈order d:=by
 obtain⟨r,hr⟩:=qP hv
 rw[hr];simp
theorem LO {d:cM} (hv:Val d):ix d.start.toNat (order d)=0:=by
 obtain⟨r,hr⟩:=qP hv
 rw[hr];simp[ix]
def iI (d:cM) (w:List Nat):Bool:=dD d (runN d d.start.toNat w)
theorem ez {d:cM} (hv:Val d):d.start.toNat<d.next.length:=by have:=hv.s0;have:=hv.s1;omega
theorem zU {d:cM} (hv:Val d) {w:List Nat} (hw:Wd d w):iI (ek d) w=iI d w:=by
 have h:=Ic hv (zT hv) w hw
 rw[LO hv]at h
 show dD (ek d) (runN (ek d) 0 w)=_
 rw[h,Ib (zS hv (zT hv) w hw)];rfl
theorem LP {d:cM} (hv:Val d) {w:List Nat} (hw:Wd d w):iI (pR d) w=iI d w:=by
 unfold iI
 rw[sD,LN hv (ez hv) w hw,x4 hv (kG hv (ez hv) w hw)]
theorem LQ {d:cM} (hv:Val d):Val (fJ d):=uK (pS hv)
theorem ud {d:cM} (hv:Val d) (h:(order d).length≤4096):Valid (ek d):=⟨uK hv,by simpa[ek]using h⟩
theorem Dc {d:cM} (hv:Valid d):Valid (ek d):=ud hv (bE (qW hv.toVal) hv.n4)
theorem lu {d:cM} (hv:Valid d):Valid (fJ d):=Dc (E1 hv)
theorem sL {d:cM} (hv:Val d) {w:List Nat} (hw:Wd d w):iI (fJ d) w=iI d w:=
 (zU (pS hv) hw).trans (LP hv hw)
inductive j6 (ρ:Nat→Nat→Prop):List Nat→List Nat→Prop
 |nil:j6 ρ [] []
 |cons {a b l m}:ρ a b→j6 ρ l m→j6 ρ (a::l) (b::m)
theorem j6.append {ρ:Nat→Nat→Prop} {l m l' m':List Nat} (h:j6 ρ l m) (h':j6 ρ l' m'):j6 ρ (l++l') (m++m'):=by
 induction h with
 |nil=>exact h'
 |cons h1 _ ih=>exact .cons h1 ih
theorem j6.len {ρ:Nat→Nat→Prop} {l m:List Nat} (h:j6 ρ l m):l.length=m.length:=by
 induction h with
 |nil=>rfl
 |cons _ _ ih=>simp[ih]
theorem j6.get {ρ:Nat→Nat→Prop} {l m:List Nat} (h:j6 ρ l m): ∀ {i a b:Nat},l[i]? =some a→m[i]? =some b→ρ a b:=by
 induction h with
 |nil=>intro i a b h;simp at h
 |cons h1 _ ih=>
  intro i a b ha hb
  cases i with
  |zero=>simp at ha hb;subst ha;subst hb;exact h1
  |succ i=>exact ih (by simpa using ha) (by simpa using hb)
section
variable {ρ:Nat→Nat→Prop}
def x6 (ρ:Nat→Nat→Prop):Prop:= ∀a b a' b',ρ a b→ρ a' b'→(a=a'↔b=b')
theorem j6.mem (ho:x6 ρ) {l m:List Nat} (h:j6 ρ l m) {a b:Nat} (yL:ρ a b):a∈l↔b∈m:=by
 induction h with
 |nil=>simp
 |cons h1 _ ih=>rw[df,df,ih,ho _ _ _ _ yL h1]
theorem j6.ix (ho:x6 ρ) {l m:List Nat} (h:j6 ρ l m) {a b:Nat} (yL:ρ a b):Lx.ix a l=Lx.ix b m:=by
 induction h with
 |nil=>rfl
 | @cons x y l m h1 _ ih=>
  simp only[Lx.ix,ih]
  by_cases e:a=x
  ·rw[aR e,aR ((ho _ _ _ _ yL h1).1 e)]
  ·rw[ay e,ay (fun h=>e ((ho _ _ _ _ yL h1).2 h))]
theorem j6.add (ho:x6 ρ) {l m:List Nat} (h:j6 ρ l m) {a b:Nat} (yL:ρ a b):j6 ρ (Lx.add l a) (Lx.add m b):=by
 unfold Lx.add
 by_cases e:a∈l
 ·rw[aR e,aR ((h.mem ho yL).1 e)];exact h
 ·rw[ay e,ay (fun h9=>e ((h.mem ho yL).2 h9))];exact h.append (.cons yL .nil)
theorem j6.foldl (ho:x6 ρ) {xs ys:List Nat} (hx:j6 ρ xs ys): ∀ {l m:List Nat},j6 ρ l m→j6 ρ (xs.foldl Lx.add l) (ys.foldl Lx.add m):=by
 induction hx with
 |nil=>intro l m h;exact h
 |cons h1 _ ih=>intro l m h;exact ih (h.add ho h1)
theorem j6.map {f g:Nat→Nat}: ∀(l:List Nat),(∀x∈l,ρ (f x) (g x))→j6 ρ (l.map f) (l.map g)
 | [],_=>.nil
 |x::l,h=>.cons (h x (by simp)) (j6.map l fun y hy=>h y (by simp[hy]))
structure tK (ρ:Nat→Nat→Prop) (p q:cM):Prop where
 vars:p.vars=q.vars
 one:x6 ρ
 start:ρ p.start.toNat q.start.toNat
 step: ∀a b x,ρ a b→x<dT p→ρ (e7 p a x) (e7 q b x)
 fin: ∀a b,ρ a b→dD p a=dD q b
theorem tK.mB {p q:cM} (h:tK ρ p q) {a b:Nat} (yL:ρ a b):j6 ρ (mB p a) (mB q b):=by
 unfold Lx.mB
 rw[←h.vars]
 exact j6.map _ fun x hx=>h.step a b x yL (List.mem_range.1 hx)
theorem tK.bfs {p q:cM} (h:tK ρ p q): ∀i,j6 ρ (da p i) (da q i)
 |0=>.cons h.start .nil
 |i+1=>by
  have ih:=h.bfs i
  have hl:=ih.len
  rw[da,da,←hl]
  by_cases hi:i<(da p i).length
  ·rw[aR hi,aR hi]
   have Hd:i<(da q i).length:=by omega
   have g1:=ap hi
   have g2:=ap Hd
   have e1:(da p i).getD i 0=(da p i)[i]:=by rw[aw,g1];rfl
   have e2:(da q i).getD i 0=(da q i)[i]:=by rw[aw,g2];rfl
   rw[e1,e2]
   exact(h.mB (ih.get g1 g2)).foldl h.one ih
  ·rw[ay hi,ay hi];exact ih
theorem tK.order {p q:cM} (h:tK ρ p q) (hp:Val p) (hq:Val q):j6 ρ (order p) (order q):=by
 obtain⟨N,h1,h2,_⟩:=x7 hp
 have e1:=pX h2 h1
 have hb:=h.bfs N
 have h2q:(da q N).length=N:=by rw[←hb.len];exact h2
 have hNq:N≤q.next.length:=by rw[←h2q];exact x8 hq N
 rw[e1,pX h2q hNq]
 exact hb
theorem tK.ek {p q:cM} (h:tK ρ p q) (hp:Val p) (hq:Val q):ek p=ek q:=by
 have ho:=h.order hp hq
 have rows: ∀ {l m:List Nat},j6 ρ l m→(l.map fun o=>(Lx.mB p o).map fun t=>((Lx.ix t (Lx.order p):Nat):Int))=m.map fun o=>(Lx.mB q o).map fun t=>((Lx.ix t (Lx.order q):Nat):Int):=by
  intro l m W2
  induction W2 with
  |nil=>rfl
  |cons h1 _ ih=>
   rw[cD,cD,ih]
   congr 1
   have hs:=h.mB h1
   have each: ∀ {x y:List Nat},j6 ρ x y→(x.map fun t=>((Lx.ix t (Lx.order p):Nat):Int))=y.map fun t=>((Lx.ix t (Lx.order q):Nat):Int):=by
    intro x y hxy
    induction hxy with
    |nil=>rfl
    |cons h2 _ ih2=>rw[cD,cD,ih2,ho.ix h.one h2]
   exact each hs
 have aad: ∀ {l m:List Nat},j6 ρ l m→(l.map fun o=>p.aV.getD o false)=m.map fun o=>q.aV.getD o false:=by
  intro l m W2
  induction W2 with
  |nil=>rfl
  |cons h1 _ ih=>rw[cD,cD,ih];congr 1;exact h.fin _ _ h1
 unfold Lx.ek
 rw[rows ho,aad ho,h.vars]
end
theorem pT {a b:cM} (ha:Val a) (hb:Val b) (yY:a.vars=b.vars) (h: ∀w,Wd a w→iI a w=iI b w):fJ a=fJ b:=by
 have OJ: ∀w,Wd a w↔Wd b w:=fun w=>by unfold Wd dT;rw[yY]
 refine tK.ek (ρ:=fun c1 c2=> ∃s t,s<a.next.length∧t<b.next.length∧j5 a s=c1∧j5 b t=c2∧ ∀w,Wd a w→dD a (runN a s w)=dD b (runN b t w)) ⟨yY,?_,?_,?_,?_⟩ (pS ha) (pS hb)
 ·rintro c1 c2 c1' c2' ⟨s,t,hs,ht,rfl,rfl,hw⟩ ⟨s',t',QZ,Mr,rfl,rfl,Fk⟩
  rw[oG ha hs QZ,oG hb ht Mr]
  constructor
  ·intro h1 u hu hd
   have IJ:=(OJ u).2 hu
   refine h1 u IJ ?_
   unfold dst at*
   rw[hw u IJ,Fk u IJ];exact hd
  ·intro h1 u hu hd
   refine h1 u ((OJ u).1 hu) ?_
   unfold dst at*
   rw[←hw u hu,←Fk u hu];exact hd
 ·exact⟨a.start.toNat,b.start.toNat,ez ha,ez hb,(sD a).symm,(sD b).symm,h⟩
 ·rintro c1 c2 x ⟨s,t,hs,ht,rfl,rfl,hw⟩ hx
  have QA:x<dT a:=hx
  have T6:x<dT b:=by unfold dT at*;rw[←yY];exact QA
  refine⟨e7 a s x,e7 b t x,nK ha hs QA,nK hb ht T6,(uJ ha hs QA).symm,(uJ hb ht T6).symm,fun w hww=>?_⟩
  exact hw (x::w) (fun y hy=>by rcases List.mem_cons.1 hy with rfl|hy;exact QA;exact hww y hy)
 ·rintro c1 c2 ⟨s,t,hs,ht,rfl,rfl,hw⟩
  show dD (pR a) _=dD (pR b) _
  rw[x4 ha hs,x4 hb ht]
  exact hw [] (fun x hx=>by cases hx)
end Go.Lx

namespace Go.Lx
end Go.Lx

namespace Go.Lx
def lP (d:cM) (w:List Nat):Nat:=if cX d≠0 then cX d else if 64<w.length then 4 else if w.any (fun x=>decide (2^d.vars.toNat≤x))=true then 1 else 0
def v7 (d:cM) (w:List Nat):Nat:=if lP d w=0 then runN d d.start.toNat w else 0
def G5 (d:cM) (w:List Nat):Bool:=if lP d w=0 then dD d (runN d d.start.toNat w)else false
theorem uq {d:cM} {w:List Nat}:lP d w=0↔Valid d∧w.length≤64∧Wd d w:=by
 unfold lP
 by_cases h:cX d=0
 ·rw[ay (by simp[h])]
  by_cases h2:64<w.length
  ·rw[aR h2];exact⟨fun h=>absurd h (by decide),fun h=>by omega⟩
  ·rw[ay h2]
   by_cases h3:w.any (fun x=>decide (2^d.vars.toNat≤x))=true
   ·rw[aR h3]
    refine⟨fun h=>absurd h (by decide),fun h=>?_⟩
    obtain⟨x,hx,I2⟩:=List.any_eq_true.1 h3
    have:=h.2.2 x hx
    simp at I2
    unfold dT at this
    omega
   ·rw[ay h3]
    refine⟨fun _=>⟨dO.1 h,by omega,fun x hx=>?_⟩,fun _=>rfl⟩
    rcases Nat.lt_or_ge x (dT d)with h4|h4
    ·exact h4
    ·exact absurd (List.any_eq_true.2 ⟨x,hx,av h4⟩) h3
 ·rw[aR h];exact⟨fun e=>absurd e h,fun hh=>absurd (dO.2 hh.1) h⟩
theorem Iq {d:cM} {s:Nat} {w:List Nat} {k:Nat} (hk:k<w.length):runN d s (w.take (k+1))=e7 d (runN d s (w.take k)) w[k]:=by
 rw[aH hk,fR]
end Go.Lx

namespace Go.Lx
theorem oU {d:cM} (hv:Val d): ∀i,∀o∈da d i,∃w,Wd d w∧runN d d.start.toNat w=o
 |0,o,h=>by
  simp only[da,db]at h
  subst h
  exact⟨[],fun x hx=>(List.not_mem_nil hx).elim,F⟩
 |i+1,o,h=>by
  rw[da]at h
  split at h
  ·rename_i hi
   rcases(eN _ _).1 h with h|h
   ·exact oU hv i o h
   ·obtain⟨x,hx,rfl⟩:=List.mem_map.1 h
    have hm:(da d i).getD i 0∈da d i:=by
     rw[aw,ap hi];exact aL hi
    obtain⟨w,hw,he⟩:=oU hv i _ hm
    refine⟨w++[x],fun y hy=>?_,by rw[fR,he]⟩
    rcases List.mem_append.1 hy with hy|hy
    ·exact hw y hy
    ·rw[List.mem_singleton.1 hy];exact List.mem_range.1 hx
  ·exact oU hv i o h
theorem yU {f:Nat→Nat}: ∀ {l:List Nat},l.Nodup→(∀a∈l,∀b∈l,f a=f b→a=b)→(l.map f).Nodup
 | [],_,_=>List.nodup_nil
 |a::l,hn,hi=>by
  obtain⟨h1,h2⟩:=List.nodup_cons.1 hn
  rw[cD,List.nodup_cons]
  refine⟨fun hm=>?_,yU h2 fun x hx y hy=>hi x (by simp[hx]) y (by simp[hy])⟩
  obtain⟨y,hy,e⟩:=List.mem_map.1 hm
  have:=hi a (by simp) y (by simp[hy]) e.symm
  exact h1 (this▸hy)
theorem wS {d:cM} (hv:Val d):fJ (ek d)=fJ d:=pT (uK hv) hv F fun w hw=>zU hv hw
theorem wF {d:cM} (hv:Val d):fJ (fJ d)=fJ d:=pT (LQ hv) hv F fun w hw=>sL hv hw
theorem yg {d:cM} (hv:Valid d):rO d=fJ d:=by unfold rO;rw[aR (dO.2 hv)]
end Go.Lx

namespace Go.Lx
open Go.RowKit
def Fa (a b:cM) (s t:Nat):List Int:=(List.range (dT a)).map fun x=>((e7 a s x*b.next.length+e7 b t x:Nat):Int)
def rQ (a b:cM):List (List Int):=(List.range (a.next.length*b.next.length)).map fun c=>Fa a b (c/b.next.length) (c%b.next.length)
def Bl (f:Bool→Bool→Bool) (a b:cM):List Bool:=(List.range (a.next.length*b.next.length)).map fun c=>f (dD a (c/b.next.length)) (dD b (c%b.next.length))
def bJ (f:Bool→Bool→Bool) (a b:cM):cM:=⟨a.vars,((a.start.toNat*b.next.length+b.start.toNat:Nat):Int),rQ a b,Bl f a b⟩
theorem Aa {n s t:Nat} (ht:t<n):(s*n+t)/n=s∧(s*n+t)%n=t:=by
 rw[Nat.mul_comm]
 exact⟨by rw[Nat.mul_add_div (by omega),Nat.div_eq_of_lt ht,Nat.add_zero],by rw[Nat.mul_add_mod,Nat.mod_eq_of_lt ht]⟩
theorem yR {n k s t:Nat} (hs:s<k) (ht:t<n):s*n+t<k*n:=by
 have:=Nat.mul_le_mul_right n (show s+1≤k by omega);rw[Nat.succ_mul]at this;omega
theorem nW {n k c:Nat} (h:c<k*n):c/n<k∧c%n<n:=by
 have hn:0<n:=by
  rcases Nat.eq_zero_or_pos n with h0|h0
  ·rw[h0,Nat.mul_zero]at h;exact absurd h (Nat.not_lt_zero _)
  ·exact h0
 exact⟨(Nat.div_lt_iff_lt_mul hn).2 h,Nat.mod_lt _ hn⟩
theorem jl (f:Bool→Bool→Bool) (a b:cM):(bJ f a b).next.length=a.next.length*b.next.length:=by
 show(rQ a b).length=_;unfold rQ;simp
theorem jV {f:Bool→Bool→Bool} {a b:cM} (ha:Val a) (hb:Val b) (hv:a.vars=b.vars):Val (bJ f a b):=by
 have a0:=ez ha;have b0:=ez hb
 have gn:=yR a0 b0
 refine {v0:=ha.v0,v6:=ha.v6,n0:=?_,fin:=?_,s0:=?_,s1:=?_,len:=?_,ok:=?_}
 ·rw[jl];omega
 ·rw[jl];show(Bl f a b).length=_;unfold Bl;simp
 ·show(0:Int)≤((_:Nat):Int);omega
 ·rw[jl];show((_:Nat):Int)<((_:Nat):Int);omega
 ·intro r hr
  obtain⟨c,_,rfl⟩:=List.mem_map.1 (show r∈rQ a b from hr)
  unfold Fa;simp;rfl
 ·intro r hr x hx
  obtain⟨c,hc,rfl⟩:=List.mem_map.1 (show r∈rQ a b from hr)
  obtain⟨y,hy,rfl⟩:=List.mem_map.1 (show x∈Fa a b _ _ from hx)
  rw[fj]at hc hy
  obtain⟨h1,h2⟩:=nW hc
  have h3:=(ha.gV h1 hy).1
  have h4:=(hb.gV h2 (by rw[←hv];exact hy)).1
  have:=yR h3 h4
  rw[jl];omega
theorem DG {f:Bool→Bool→Bool} {a b:cM} (ha:Val a) (hb:Val b) (hv:a.vars=b.vars) (hn:a.next.length*b.next.length≤4096):Valid (bJ f a b):=⟨jV ha hb hv,by rw[jl];exact hn⟩
theorem Bm {f:Bool→Bool→Bool} {a b:cM} {s t:Nat} (hs:s<a.next.length) (ht:t<b.next.length):dD (bJ f a b) (s*b.next.length+t)=f (dD a s) (dD b t):=by
 have hd:=Aa (s:=s) ht
 have hc:=yR hs ht
 show(Bl f a b).getD _ false=_
 unfold Bl
 rw[aw,bq,List.getElem?_range hc]
 simp only[Option.map_some,Option.getD_some,hd.1,hd.2]
theorem yS {f:Bool→Bool→Bool} {a b:cM} {s t x:Nat} (hs:s<a.next.length) (ht:t<b.next.length) (hx:x<dT a):e7 (bJ f a b) (s*b.next.length+t) x=e7 a s x*b.next.length+e7 b t x:=by
 have hd:=Aa (s:=s) ht
 have hc:=yR hs ht
 show(((rQ a b).getD _ []).getD x 0).toNat=_
 unfold rQ
 rw[aw (l:=List.map _ _),bq,List.getElem?_range hc]
 simp only[Option.map_some,Option.getD_some,hd.1,hd.2]
 unfold Fa
 rw[aw,bq,List.getElem?_range hx]
 exact Int.toNat_natCast _
theorem wE {f:Bool→Bool→Bool} {a b:cM} (ha:Val a) (hb:Val b) (hv:a.vars=b.vars) {s t:Nat} (hs:s<a.next.length) (ht:t<b.next.length): ∀w,Wd a w→runN (bJ f a b) (s*b.next.length+t) w=runN a s w*b.next.length+runN b t w:=by
 refine oT (fun _=>rfl) ?_
 intro w x ih hw
 have YF:Wd a w:=fun y hy=>hw y (by simp[hy])
 have TP:Wd b w:=fun y hy=>by have:=YF y hy;unfold dT at this⊢;rw[←hv];exact this
 rw[fR,fR,fR,ih YF,yS (kG ha hs w YF) (kG hb ht w TP) (hw x (by simp))]
theorem Bn {f:Bool→Bool→Bool} {a b:cM} (ha:Val a) (hb:Val b) (hv:a.vars=b.vars) {w:List Nat} (hw:Wd a w):iI (bJ f a b) w=f (iI a w) (iI b w):=by
 have a0:=ez ha;have b0:=ez hb
 have TP:Wd b w:=fun y hy=>by have:=hw y hy;unfold dT at this⊢;rw[←hv];exact this
 unfold iI
 rw[show(bJ f a b).start.toNat=a.start.toNat*b.next.length+b.start.toNat from Int.toNat_natCast _,wE ha hb hv a0 b0 w hw,Bm (kG ha a0 w hw) (kG hb b0 w TP)]
def t_ (f:Bool→Bool→Bool) (a b:cM):cM:=fJ (bJ f a b)
theorem G1 {f:Bool→Bool→Bool} {a b:cM} (ha:Val a) (hb:Val b) (hv:a.vars=b.vars) (hn:a.next.length*b.next.length≤4096):Valid (t_ f a b):=lu (DG ha hb hv hn)
theorem MO {f:Bool→Bool→Bool} {a b:cM} (ha:Val a) (hb:Val b) (hv:a.vars=b.vars) (hn:a.next.length*b.next.length≤4096) {w:List Nat} (hw:Wd a w):iI (t_ f a b) w=f (iI a w) (iI b w):=by
 unfold t_;rw[sL (jV ha hb hv) hw,Bn ha hb hv hw]
theorem MP {f:Bool→Bool→Bool} {a b:cM} (ha:Val a) (hb:Val b) (hv:a.vars=b.vars) (hn:a.next.length*b.next.length≤4096):fJ (t_ f a b)=t_ f a b:=wF (jV ha hb hv)
theorem ID {f:Bool→Bool→Bool} {a b:cM} (ha:Val a) (hb:Val b) (hv:a.vars=b.vars) {w:List Nat} (hw:Wd a w):iI (t_ f a b) w=f (iI a w) (iI b w):=by
 unfold t_;rw[sL (jV ha hb hv) hw,Bn ha hb hv hw]
theorem IE {f:Bool→Bool→Bool} {a b:cM} (ha:Val a) (hb:Val b) (hv:a.vars=b.vars):fJ (t_ f a b)=t_ f a b:=wF (jV ha hb hv)
theorem wG {d:cM} (hv:Val d):(fJ d).next.length≤d.next.length:=by
 have h1:(fJ d).next.length≤(pR d).next.length:=by
  show(ek (pR d)).next.length≤_
  unfold ek
  rw[ar];exact qW (pS hv)
 have h2:=(kH d (ie d d.next.length) d.next.length).2
 exact bE h1 h2
theorem Fb {f:Bool→Bool→Bool} {a b:cM} (ha:Val a) (hb:Val b) (hv:a.vars=b.vars) (hn:a.next.length*b.next.length≤4096):(t_ f a b).next.length≤a.next.length*b.next.length:=by
 rw[←jl f a b];exact wG (jV ha hb hv)
theorem MQ {a b:cM} (ha:Val a) (hb:Val b) (hma:fJ a=a) (hmb:fJ b=b) (hv:a.vars=b.vars) (h: ∀w,Wd a w→iI a w=iI b w):a=b:=by
 rw[←hma,←hmb];exact pT ha hb hv h
end Go.Lx

namespace Go.Lx
end Go.Lx

namespace Go.Lx
theorem G4 {d:cM} {w:List Nat} (h:lP d w=0):G5 d w=iI d w:=by unfold G5 iI;rw[aR h]
end Go.Lx

namespace Go.Lx
open Go.RowKit
def fD (v:Int) (f:Bool):cM:=⟨v,0,[List.replicate (2^v.toNat) 0],[f]⟩
theorem wH {v:Int} (h0:0≤v) (h6:v≤6) (f:Bool):Valid (fD v f):=by
 have n0:0<(fD v f).next.length:=by show 0< [_].length;simp
 have s1:(fD v f).start<((fD v f).next.length:Int):=by show(0:Int)<(([_].length:Nat):Int);simp
 have len: ∀r∈(fD v f).next,r.length=2^(fD v f).vars.toNat:=by
  intro r hr
  rw[List.mem_singleton.1 (show r∈[List.replicate (2^v.toNat) (0:Int)]from hr),iQ];rfl
 have ok: ∀r∈(fD v f).next,∀x∈r,0≤x∧x<((fD v f).next.length:Int):=by
  intro r hr x hx
  rw[List.mem_singleton.1 (show r∈[List.replicate (2^v.toNat) (0:Int)]from hr)]at hx
  rw[List.eq_of_mem_replicate hx]
  exact⟨Int.le_refl _,by show(0:Int)<(([_].length:Nat):Int);simp⟩
 exact⟨{v0:=h0,v6:=h6,n0:=n0,fin:=rfl,s0:=Int.le_refl _,s1:=s1,len:=len,ok:=ok},by show[_].length≤4096;simp⟩
theorem IF {v:Int} (h0:0≤v) (h6:v≤6) (f:Bool) {w:List Nat} (hw:Wd (fD v f) w):iI (fD v f) w=f:=by
 have hv:=wH h0 h6 f
 have h1:=kG hv (ez hv) w hw
 have h2:runN (fD v f) (fD v f).start.toNat w=0:=Nat.lt_one_iff.1 h1
 unfold iI;rw[h2];rfl
end Go.Lx

namespace Go.Lx
open Go.RowKit
def jn (v:Int) (w:List Nat):Prop:= ∀x∈w,x<2^v.toNat
structure HasL (v:Int) (n:Nat) (d:cM) (p:List Nat→Bool):Prop where
 valid:Valid d
 len:d.next.length≤n
 vars:d.vars=v
 iI: ∀w,jn v w→iI d w=p w
theorem HasL.of {d:cM} {n:Nat} (h:Valid d) (hl:d.next.length≤n):HasL d.vars n d (Lx.iI d):=⟨h,hl,F,fun _ _=>rfl⟩
theorem HasL.wd {v:Int} {n:Nat} {d:cM} {p:List Nat→Bool} (h:HasL v n d p) {w:List Nat}:Wd d w↔jn v w:=by unfold Wd jn dT;rw[h.vars]
structure gf (v:Int) (n:Nat) (d:cM) (p:List Nat→Bool):Prop extends HasL v n d p where
 min:fJ d=d
theorem HasL.op {f:Bool→Bool→Bool} {v:Int} {n m:Nat} {a b:cM} {p q:List Nat→Bool} (ha:HasL v n a p) (hb:HasL v m b q) (h:n*m≤4096):gf v (n*m) (t_ f a b) (fun w=>f (p w) (q w)):=by
 have hl:a.next.length*b.next.length≤n*m:=Nat.mul_le_mul ha.len hb.len
 have hv:a.vars=b.vars:=by rw[ha.vars,hb.vars]
 refine⟨⟨G1 ha.valid hb.valid hv (by omega),bE (Fb ha.valid hb.valid hv (by omega)) hl,ha.vars,fun w hw=>?_⟩,MP ha.valid hb.valid hv (by omega)⟩
 rw[MO ha.valid hb.valid hv (by omega) (ha.wd.2 hw),ha.iI w hw,hb.iI w hw]
theorem HasL.nX {v:Int} {n:Nat} {d:cM} {p:List Nat→Bool} (h:HasL v n d p):gf v n (fJ d) p:=
 ⟨⟨lu h.valid,bE (wG h.valid) h.len,h.vars,fun w hw=>by rw[sL h.valid (h.wd.2 hw)];exact h.iI w hw⟩,wF h.valid⟩
theorem gf.ext {v:Int} {n m:Nat} {a b:cM} {p q:List Nat→Bool} (ha:gf v n a p) (hb:gf v m b q) (h: ∀w,jn v w→p w=q w):a=b:=
 MQ ha.valid hb.valid ha.min hb.min (by rw[ha.vars,hb.vars]) fun w hw=>by rw[ha.iI w (ha.wd.1 hw),hb.iI w (ha.wd.1 hw),h w (ha.wd.1 hw)]
def rR (x y:Bool):Bool:=x&&y
def DH (x y:Bool):Bool:=x||y
def IG (x y:Bool):Bool:=x !=y
def wI (x y:Bool):Bool:=x&&!y
def pU (x _y:Bool):Bool:=!x
def nY (d:cM):cM:=t_ pU d d
theorem HasL.not {v:Int} {n:Nat} {d:cM} {p:List Nat→Bool} (h:HasL v n d p) (hn:n*n≤4096):gf v (n*n) (nY d) (fun w=>!p w):=h.op h hn
end Go.Lx

namespace Go.Lx
open Go.RowKit
end Go.Lx

namespace Go.Lx
open Go.RowKit
theorem ua {f:Bool→Bool→Bool} {a b:cM} (ha:Val a) (hb:Val b) (hv:a.vars=b.vars) {o x:Nat} (ho:o<a.next.length*b.next.length) (hx:x<dT a):
  e7 (bJ f a b) o x=e7 a (o/b.next.length) x*b.next.length+e7 b (o%b.next.length) x∧e7 (bJ f a b) o x<a.next.length*b.next.length:=by
 obtain⟨h1,h2⟩:=nW ho
 have h3:=yS (f:=f) (a:=a) (b:=b) h1 h2 hx
 rw[Nat.div_add_mod']at h3
 refine⟨h3,?_⟩
 rw[h3]
 exact yR (ha.gV h1 hx).1 (hb.gV h2 (by rw[←hv];exact hx)).1
theorem kq {f:Bool→Bool→Bool} {a b:cM} (ha:Val a) (hb:Val b) (hv:a.vars=b.vars): ∀i,(da (bJ f a b) i).Nodup∧ ∀o∈da (bJ f a b) i,o<a.next.length*b.next.length
 |0=>by
  refine⟨by simp[da],fun o ho=>?_⟩
  simp only[da,db]at ho
  rw[ho,show(bJ f a b).start.toNat=a.start.toNat*b.next.length+b.start.toNat from Int.toNat_natCast _]
  exact yR (ez ha) (ez hb)
 |i+1=>by
  obtain⟨h1,h2⟩:=kq ha hb hv i
  rw[da]
  split
  ·rename_i hi
   refine mm _ _ h1 h2 (fun t ht=>?_)
   obtain⟨x,hx,rfl⟩:=List.mem_map.1 ht
   refine(ua ha hb hv (h2 _ ?_) (List.mem_range.1 hx)).2
   rw[aw,ap hi]
   exact aL hi
  ·exact⟨h1,h2⟩
theorem ke {f:Bool→Bool→Bool} {a b:cM} (ha:Val a) (hb:Val b) (hv:a.vars=b.vars) (i:Nat):(da (bJ f a b) i).length≤a.next.length*b.next.length:=eT (kq ha hb hv i).1 (kq ha hb hv i).2
theorem wJ {f:Bool→Bool→Bool} {a b:cM} (ha:Val a) (hb:Val b) (hv:a.vars=b.vars) {i o x:Nat} (ho:o<a.next.length*b.next.length) (hx:x≤dT a):
  (kI (bJ f a b) i o x).Nodup∧ ∀t∈kI (bJ f a b) i o x,t<a.next.length*b.next.length:=by
 obtain⟨h1,h2⟩:=kq (f:=f) ha hb hv i
 exact mm _ _ h1 h2 (fun t ht=>by
  obtain⟨y,hy,rfl⟩:=List.mem_map.1 ht
  exact(ua ha hb hv ho (by have:=List.mem_range.1 hy;omega)).2)
theorem Bp {f:Bool→Bool→Bool} {a b:cM} (ha:Val a) (hb:Val b) (hv:a.vars=b.vars) {i o x:Nat} (ho:o<a.next.length*b.next.length) (hx:x≤dT a):
  (kI (bJ f a b) i o x).length≤a.next.length*b.next.length:=eT (wJ ha hb hv ho hx).1 (wJ ha hb hv ho hx).2
theorem yT {d:cM} {i o:Nat} (h:(da d i)[i]? =some o):kI d i o (2^d.vars.toNat)=da d (i+1):=by rw[ub h];rfl
theorem Bq {d:cM} {i o x:Nat} (h:(da d i)[i]? =some o) (hx:x≤2^d.vars.toNat):kI d i o x<+:da d (i+1):=by
 rw[←yT h]
 unfold kI
 have h1:List.range (2^d.vars.toNat)=List.range x++(List.range (2^d.vars.toNat)).drop x:=by
  have h2:=List.take_append_drop x (List.range (2^d.vars.toNat))
  rw[List.take_range,Nat.min_eq_left hx]at h2
  exact h2.symm
 rw[h1,bo,cY]
 exact gD _ _
theorem DI {d:cM} {i o x:Nat} (h:(da d i)[i]? =some o) (hx:x≤2^d.vars.toNat) (hi:i+1≤d.next.length):kI d i o x<+:order d:=
 (Bq h hx).trans (jy d _ _ hi)
theorem G2 {d:cM} {i o x:Nat} (h:(da d i)[i]? =some o) (hx:x≤2^d.vars.toNat) (hi:i+1≤d.next.length) {t:Nat} (ht:t∈kI d i o x):ix t (kI d i o x)=ix t (order d):=
 (ig (DI h hx hi) ht).symm
end Go.Lx

namespace Go.Lx
open Go.RowKit
def MS (z a:cM):Prop:= ∀u u',jn z.vars u→jn z.vars u'→runN z z.start.toNat u=runN z z.start.toNat u'→runN a a.start.toNat u=runN a a.start.toNat u'
theorem ku (d:cM) (s:Nat) (u w:List Nat):runN d s (u++w)=runN d (runN d s u) w:=by simp[runN]
theorem IH {d:cM} {w:List Nat}:Wd d w↔jn d.vars w:=Iff.rfl
theorem MS.refl (z:cM):MS z z:=fun _ _ _ _ h=>h
theorem DJ {d z:cM} (hd:Val d) (hz:Val z) (hv:z.vars=d.vars) (h:MS z d):(order d).length≤z.next.length:=by
 classical
 have hr: ∀o∈order d,∃w,Wd d w∧runN d d.start.toNat w=o:=fun o ho=>oU hd _ o ho
 let g:Nat→Nat:=fun o=>if hx: ∃w,Wd d w∧runN d d.start.toNat w=o then runN z z.start.toNat (Classical.choose hx)else 0
 have hg: ∀o∈order d,∃w,Wd d w∧runN d d.start.toNat w=o∧g o=runN z z.start.toNat w:=fun o ho=>by
  have hx:=hr o ho
  refine⟨Classical.choose hx,(Classical.choose_spec hx).1,(Classical.choose_spec hx).2,?_⟩
  show(if hx:_ then _ else _)=_
  rw[dif_pos hx]
 have wz: ∀w,Wd d w→jn z.vars w:=fun w hw=>by rw[hv];exact hw
 have hn:((order d).map g).Nodup:=yU (v_ hd _).1 fun a ha b hb e=>by
  obtain⟨u,hu,rfl,e1⟩:=hg a ha
  obtain⟨u',IJ,rfl,e2⟩:=hg b hb
  exact h u u' (wz u hu) (wz u' IJ) (by rw[←e1,←e2,e])
 have:=eT (n:=z.next.length) hn fun x hx=>by
  obtain⟨o,ho,rfl⟩:=List.mem_map.1 hx
  obtain⟨u,hu,_,e1⟩:=hg o ho
  rw[e1]
  exact kG hz (ez hz) u (wz u hu)
 simpa using this
theorem pV {f:Bool→Bool→Bool} {a b z:cM} (ha:Val a) (hb:Val b) (hv:a.vars=b.vars) (hz:Val z) (YG:z.vars=a.vars) (h1:MS z a) (h2:MS z b):(order (bJ f a b)).length≤z.next.length:=by
 refine DJ (jV ha hb hv) hz YG fun u u' hu IJ e=>?_
 rw[show(bJ f a b).start.toNat=a.start.toNat*b.next.length+b.start.toNat from Int.toNat_natCast _,
  wE ha hb hv (ez ha) (ez hb) u (by rw[IH,←YG];exact hu),wE ha hb hv (ez ha) (ez hb) u' (by rw[IH,←YG];exact IJ),h1 u u' hu IJ e,h2 u u' hu IJ e]
end Go.Lx

namespace Go.Lx
open Go.RowKit
def Dv:cM:=⟨0,0,[],[]⟩
def gQ (a b:cM):Nat:=if cX a≠0 then cX a else if cX b≠0 then cX b else if a.vars≠b.vars then 7 else 0
def Is (f:Bool→Bool→Bool) (a b:cM):cM:=if gQ a b=0 then t_ f a b else Dv
theorem pW {a b:cM}:gQ a b=0↔Valid a∧Valid b∧a.vars=b.vars:=by
 unfold gQ
 rw[←dO,←dO]
 split
 ·rename_i h;constructor
  ·intro e;exact absurd e h
  ·intro e;exact absurd e.1 h
 ·rename_i h1;split
  ·rename_i h;constructor
   ·intro e;exact absurd e h
   ·intro e;exact absurd e.2.1 h
  ·rename_i h2;split
   ·rename_i h;constructor
    ·intro e;exact absurd e (by decide)
    ·intro e;exact absurd e.2.2 h
   ·rename_i h;constructor
    ·intro _;exact⟨by omega,by omega,Classical.not_not.1 h⟩
    ·intro _;rfl
theorem Br {a b:cM} (h:cX a≠0):gQ a b=cX a:=by unfold gQ;rw[aR h]
theorem Ab {a b:cM} (h:cX a=0) (h2:cX b≠0):gQ a b=cX b:=by unfold gQ;rw[ay (by omega),aR h2]
theorem DL {a b:cM} (h:cX a=0) (h2:cX b=0) (h3:a.vars≠b.vars):gQ a b=7:=by unfold gQ;rw[ay (by omega),ay (by omega),aR h3]
theorem IK {f:Bool→Bool→Bool} {a b:cM} (h:gQ a b=0):Is f a b=t_ f a b:=by unfold Is;rw[aR h]
theorem MT {f:Bool→Bool→Bool} {a b:cM} (h:gQ a b≠0):Is f a b=Dv:=by unfold Is;rw[ay h]
def un (n c:Nat):Int×Int:=(((c/n:Nat):Int),((c%n:Nat):Int))
theorem IL {n c e:Nat} (h:un n c=un n e):c=e:=by
 unfold un at h
 simp only[Prod.mk.injEq]at h
 have h1:c/n=e/n:=by omega
 have h2:c%n=e%n:=by omega
 rw[←Nat.div_add_mod c n,←Nat.div_add_mod e n,h1,h2]
abbrev O7 (n c:Nat):List Value:=[.int .i64 ((c/n:Nat):Int),.int .i64 ((c%n:Nat):Int)]
def lw (n:Nat) (ks:List Nat):List Value:=ks.flatMap (O7 n)
theorem IM (n:Nat) (ks:List Nat) (c:Nat):lw n (ks++[c])=lw n ks++O7 n c:=by simp[lw]
theorem Ac (n:Nat): ∀ks:List Nat,(lw n ks).length=ks.length*2
 | []=>rfl
 |c::ks=>by
  have:=Ac n ks
  simp only[lw,List.flatMap_cons,aF,bL,cN]at this⊢
  omega
theorem Fc {n:Nat}: ∀ {ks:List Nat} {i c:Nat},ks[i]? =some c→ ∀j (h:j<(O7 n c).length),(lw n ks)[i*2+j]? =some (O7 n c)[j]
 | [],i,c,h,_,_=>by simp at h
 |e::ks,0,c,h,j,hj=>by
  simp only[List.getElem?_cons_zero,Option.some.injEq]at h
  subst h
  rw[Nat.zero_mul,Nat.zero_add,show lw n (e::ks)=O7 n e++lw n ks from F,bI hj]
  exact ap hj
 |e::ks,i+1,c,h,j,hj=>by
  rw[show lw n (e::ks)=O7 n e++lw n ks from F,bY (by show 2≤_;omega),show(i+1)*2+j-(O7 n e).length=i*2+j by show(i+1)*2+j-2=_;omega]
  exact Fc (by simpa using h) j hj
abbrev pmap (n:Nat) (ks:List Nat):List ((Int×Int)×Nat):=(ks.map (un n)).zipIdx
theorem DM {n c:Nat} {ks:List Nat}:un n c∈ks.map (un n)↔c∈ks:=by
 constructor
 ·intro h
  obtain⟨e,he,h2⟩:=List.mem_map.1 h
  rw[←IL h2];exact he
 ·exact fun h=>List.mem_map_of_mem h
theorem IN (n c:Nat): ∀ks:List Nat,ix (un n c) (ks.map (un n))=ix c ks
 | []=>rfl
 |e::ks=>by
  simp only[cD,ix,IN n c ks]
  by_cases h:c=e
  ·rw[h];simp
  ·rw[ay (fun h2=>h (IL h2)),ay h]
theorem G3 (n:Nat) (ks:List Nat) (c:Nat):pmap n (ks++[c])=pmap n ks++[(un n c,ks.length)]:=by
 show((ks++[c]).map (un n)).zipIdx=_
 rw[bo,List.zipIdx_append];simp
theorem IP (n:Nat) (ks:List Nat):(pmap n ks).map Prod.fst=ks.map (un n):=mN _ 0
def rA (d:cM) (o:Nat):List Int:=(rS d o).map fun x:Nat=>(x:Int)
theorem rT (d:cM):(ek d).next=(order d).map (rA d):=DN d
theorem DP (d:cM):(ek d).aV=(order d).map (dD d):=rfl
theorem IQ {d:cM} {i o:Nat} (h:(da d i)[i]? =some o) (hi:i≤d.next.length):(order d)[i]? =some o:=by
 obtain⟨hl,e⟩:=List.getElem?_eq_some_iff.1 h
 obtain⟨r,hr⟩:=jy d i d.next.length hi
 show(da d d.next.length)[i]? =_
 rw[←hr,bI hl];exact h
theorem take_at {α:Type} {l:List α} {i:Nat} {o:α} (h:l[i]? =some o):l.take (i+1)=l.take i++[o]:=by
 obtain⟨hl,e⟩:=List.getElem?_eq_some_iff.1 h
 rw[aH hl,e]
theorem yV {f:Bool→Bool→Bool} {a b:cM} {o:Nat} (ho:o<a.next.length*b.next.length):dD (bJ f a b) o=f (dD a (o/b.next.length)) (dD b (o%b.next.length)):=by
 obtain⟨h1,h2⟩:=nW ho
 have:=Bm (f:=f) h1 h2
 rwa[Nat.div_add_mod']at this
theorem Fe {f:Bool→Bool→Bool} {a b:cM} {N:Nat} (va:Valid a) (vb:Valid b) (hv:a.vars=b.vars) (h:(da (bJ f a b) N).length=N):order (bJ f a b)=da (bJ f a b) N:=
 pX h (by have:=ke (f:=f) va vb hv N;rw[jl];omega)
theorem yW (E:TypeId) (qs:List Rec) (r:Rec):ce E (qs++[r])=ce E qs++[r.sM E]:=bo
theorem Sub.fold (A:List Item) (x:Item) (B S S':List Item) (h:S'=S++[x]):Sub ((A++S')++B) ((A++(x::B))++S):=by
 subst h
 refine⟨_,?_,aZ _⟩
 have h1:(A++(S++[x]))++B=A++(S++(x::B)):=by simp
 have h2:(A++(x::B))++S=A++((x::B)++S):=by simp
 rw[h1,h2]
 exact List.Perm.append_left A List.perm_append_comm
end Go.Lx

namespace Go.Lx
open Go.RowKit
theorem uT {d:cM}:gQ d d=cX d:=by
 unfold gQ
 by_cases h:cX d=0<;>simp[h]
abbrev Uj:DK:=⟨none,0,none,0,[]⟩
theorem Ad {P:Program} {base:World} {f:FuncId} {args:List Value} {O:List Item} {R:Value→List Item→Prop} (II Bo I:TypeId) (h:cd P base f args O R):cd P base f args O (fun v O'=> ∃O2,O'=dI II Bo I Dv Uj::O2∧R v O2):=
 (gg II 1 (gg Bo 1 h)).O8 fun v O' hR=>by
  obtain⟨O2,rfl,O3,rfl,h3⟩:=hR
  exact⟨nums Uj.qs=Dv.next,[aq Option.none 0 II 1 [],aq Option.none 0 Bo 1 []]++[],O3,F,F,O3,F,h3⟩
theorem oV {d:cM} (hv:Valid d) {s:Nat} (hs:s<d.next.length):(cE d.aV)[s]? =some (.bool (dD d s)):=by
 have hl:s<d.aV.length:=by rw[hv.fin];exact hs
 rw[iy hl];unfold dD;rw[aw,ap hl];rfl
theorem wK {d:cM} (hv:Valid d) {s x:Nat} (hs:s<d.next.length) (hx:x<2^d.vars.toNat):(ints d.next[s])[x]? =some (.int .i64 ((e7 d s x:Nat):Int)):=by
 obtain⟨_,_,h2,e⟩:=hv.gV hs hx
 rw[gI h2,e]
end Go.Lx

namespace Go.Lx
open Go.RowKit
theorem wL {v:Int} {n:Nat} {d:cM} {p:List Nat→Bool} (h:HasL v n d p):d.next.length<9223372036854775807∧(∀r∈d.next,r.length<9223372036854775807)∧d.aV.length<9223372036854775807:=
 ⟨by have:=h.valid.n4;omega,h.valid.wM,by have:=h.valid.fin;have:=h.valid.n4;omega⟩
end Go.Lx

namespace Go.Lx
open Go.RowKit
theorem HasL.le {v:Int} {n m:Nat} {a:cM} {p:List Nat→Bool} (ha:HasL v n a p) (h:a.next.length≤m):HasL v m a p:=⟨ha.valid,h,ha.vars,ha.iI⟩
end Go.Lx

namespace Go.Lx
open Go.RowKit
end Go.Lx

