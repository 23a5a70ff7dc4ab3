/- Contracts of functions of the program, and what they answer. Conditions: those each theorem names. -/
import Derived.Test.YtgdbfideeeegmaaGreatDoorA2
import Derived.Test.YtgdbfideeeegmaaGreatDoorA3
import Derived.Test.YtgdbfideeeegmaaGreatDoorA1
import Derived.OpenShut
import Derived.Deep.DeepHandedRow
import Derived.Deep.Matrix
import Derived.Deep.Grids
import Derived.WideKeyArgs
import Derived.SizedLaws
import Derived.Shelf.Sort.Plain
import Derived.Shelf.Slices.In.SortNone
import Derived.Test.YtgdbfideeeegmaaGreatDoorA0
set_option linter.unusedSectionVars false
set_option linter.unusedSimpArgs false
set_option linter.unusedVariables false
set_option linter.unnecessarySimpa false
set_option maxHeartbeats 8000000
set_option maxRecDepth 20000
namespace Go.Proofs.YtgdbfideeeegmaaGreatDoor
open Go.Lx Go.RowKit _root_.Go.Proofs.Tryz
theorem Pu (w:World) [dE Tryz.prog w] (d:cU) (nb fb:Option Addr) (nc fc:Nat) (vs:List Value) (h:jt w d nb vs fb) (hv:Valid d) (hn:d.next.length<10000):
  cH Tryz.prog 52 [.agg (fw d nb nc fb fc).toArray] w fun v N=> ∃BZ B1 oT oU qs,v=.tuple #[.agg (fw (ei d) BZ B1 oT oU).toArray,vI 0]∧N=[aq BZ B1 56 1 (dm qs),aq oT oU 4 1 (cG (ei d).aY)]++cd 3 qs∧nums qs=(ei d).next:=by
 refine aF func52 F ntmps52 F ?_
 have he:=eA.2 hv
 have hb:d.next.length<9223372036854775807:=by omega
 have vY: ∀r∈d.next,r.length<9223372036854775807:=hv.wJ
 have yw:d.aY.length<9223372036854775807:=by have:=hv.fin;omega
 have Rw:=hv.n0
 have Ar:=hv.s0
 have PG:=hv.s1
 have rM:d.start.toNat<d.next.length:=by omega
 refine ai (ao F (dG (cs:=[(vI d.vars),(vI d.start),(.slice nb d.next.length nc),(.slice fb d.aY.length fc)]) F F (fun z1=>?_)))
 refine ao F (bs bL F (fun z2=>?_))
 refine aj F (ae (aM (ai (ad (eu 1 cZ F bL F F F) ?_))))
 let eP:Lx.Item:=oI z1 25 [(vI d.vars),(vI d.start),(.slice nb d.next.length nc),(.slice fb d.aY.length fc)]
 let mn:Lx.Item:=oI z2 25 [(vI 0),(vI 0),nS,nS]
 have oG:=fun(w1:World) (hI:Inv w [mn,eP] w1)=>(haveI:=et hI;jf w1 d nb fb nc fc vs (hI.BQ h) hb vY yw)
 refine ao F (bl vp (aX oG) F ?_)
 clear oG
 rintro v O' ⟨N,rfl,rfl,rfl⟩
 rw[he]
 refine aj F (ae (ai (ah F (ad (dQ F F) (ae (a6 F (aE ?_)))))))
 let ut:Value:=(.agg #[(vI d.vars),(vI d.start),(.slice nb d.next.length nc),(.slice fb d.aY.length fc)])
 refine gz (fun ρ O=> ∃(bA bB bC bD:Nat),O=[oI bC 56 [(.slice (aD bA) 1 1)],oI bD 23 [(.slice (aD bB) d.next.length d.next.length)],aq (aD bA) 1 3 1 [(vI d.start)],aq (aD bB) d.next.length 4 1 (List.replicate d.next.length (.bool false)),mn,eP]∧dv [(0,ut),(1,(.pointer (aD z1))),(2,(.pointer (aD z2))),(3,vI 0),(4,vI ((0:Nat):Int)),(5,(.pointer (aD bC))),(6,(.pointer (aD bD)))] ρ) ?_ ?_
 ·refine oe [eP] 11 mixed F (aC [1] F) (fun _ _ _ _ h=>h) ?_
  refine cB 0 F (by kernel_rfl) (a_ cZ F bj F F) ?_
  refine cB 1 F (by kernel_rfl) (bi 0 dP F F F F) ?_
  refine cB 3 F (by kernel_rfl) (a_ cZ F fz F F) ?_
  refine cB 4 F (by kernel_rfl) (bi 0 e_ F F F F) ?_
  refine cB 5 F (by kernel_rfl) (cQ e_ F) ?_
  refine bg [2,6,7,8] (by kernel_rfl) F ⟨⟨_,F,F,cN (v:=(vI d.start)) cL bj F F F (fun bA=>⟨aC [2] F,?_⟩)⟩,⟨_,F,F,cY (m:=d.next.length) eB fx F F (by omega) (by omega) (fun bB=>⟨aC [2] F,?_⟩)⟩,⟨_,F,F,bs cV F (fun bC=>⟨aC [2] F,?_⟩)⟩,⟨_,F,F,bs dA F (fun bD=>⟨aC [2] F,?_⟩)⟩,trivial⟩
  ·refine bg [6,7,8] (by kernel_rfl) F ⟨⟨_,F,F,cY (m:=d.next.length) eB fx F F (by omega) (by omega) (fun bB=>⟨aC [3] F,?_⟩)⟩,⟨_,F,F,bs cV F (fun bC=>⟨aC [3] F,?_⟩)⟩,⟨_,F,F,bs dA F (fun bD=>⟨aC [3] F,?_⟩)⟩,trivial⟩
   ·refine bg [7,8] (by kernel_rfl) F ⟨⟨_,F,F,bs cV F (fun bC=>⟨aC [4] F,?_⟩)⟩,⟨_,F,F,bs dA F (fun bD=>⟨aC [4] F,?_⟩)⟩,trivial⟩
    ·refine bg [8] (by kernel_rfl) F ⟨⟨_,F,F,bs dA F (fun bD=>⟨aC [5] F,?_⟩)⟩,trivial⟩
     refine bg [9] (by kernel_rfl) F ⟨⟨_,F,F,bN (vs:=[(.slice (aD bA) 1 1)]) 1 cV F F F F ⟨aC [5] F,?_⟩⟩,trivial⟩
     refine bg [10] (by kernel_rfl) F ⟨⟨_,F,F,bN (vs:=[(.slice (aD bB) d.next.length d.next.length)]) 0 dA F F F F ⟨aC [5] F,?_⟩⟩,trivial⟩
     exact dw (by kernel_rfl) ⟨bA,bB,bC,bD,F,(.of F)⟩ (aC [1,0,1,0,0,0] F)
    refine bg [7] (by kernel_rfl) F ⟨⟨_,F,F,bs cV F (fun bC=>⟨aC [5] F,?_⟩)⟩,trivial⟩
    refine bg [9] (by kernel_rfl) F ⟨⟨_,F,F,bN (vs:=[(.slice (aD bA) 1 1)]) 0 cV F F F F ⟨aC [5] F,?_⟩⟩,trivial⟩
    refine bg [10] (by kernel_rfl) F ⟨⟨_,F,F,bN (vs:=[(.slice (aD bB) d.next.length d.next.length)]) 1 dA F F F F ⟨aC [5] F,?_⟩⟩,trivial⟩
    exact dw (by kernel_rfl) ⟨bA,bB,bC,bD,F,(.of F)⟩ (aC [0,0,1,0,0,0] F)
   ·refine bg [6,8] (by kernel_rfl) F ⟨⟨_,F,F,cY (m:=d.next.length) eB fx F F (by omega) (by omega) (fun bB=>⟨aC [4] F,?_⟩)⟩,⟨_,F,F,bs dA F (fun bD=>⟨aC [4] F,?_⟩)⟩,trivial⟩
    ·refine bg [8] (by kernel_rfl) F ⟨⟨_,F,F,bs dA F (fun bD=>⟨aC [5] F,?_⟩)⟩,trivial⟩
     refine bg [9] (by kernel_rfl) F ⟨⟨_,F,F,bN (vs:=[(.slice (aD bA) 1 1)]) 2 cV F F F F ⟨aC [5] F,?_⟩⟩,trivial⟩
     refine bg [10] (by kernel_rfl) F ⟨⟨_,F,F,bN (vs:=[(.slice (aD bB) d.next.length d.next.length)]) 0 dA F F F F ⟨aC [5] F,?_⟩⟩,trivial⟩
     exact dw (by kernel_rfl) ⟨bA,bB,bC,bD,F,(.of F)⟩ (aC [2,0,1,0,0,0] F)
    refine bg [6,9] (by kernel_rfl) F ⟨⟨_,F,F,cY (m:=d.next.length) eB fx F F (by omega) (by omega) (fun bB=>⟨aC [5] F,?_⟩)⟩,⟨_,F,F,bN (vs:=[(.slice (aD bA) 1 1)]) 1 cV F F F F ⟨aC [4] F,?_⟩⟩,trivial⟩
    ·refine bg [9] (by kernel_rfl) F ⟨⟨_,F,F,bN (vs:=[(.slice (aD bA) 1 1)]) 2 cV F F F F ⟨aC [5] F,?_⟩⟩,trivial⟩
     refine bg [10] (by kernel_rfl) F ⟨⟨_,F,F,bN (vs:=[(.slice (aD bB) d.next.length d.next.length)]) 1 dA F F F F ⟨aC [5] F,?_⟩⟩,trivial⟩
     exact dw (by kernel_rfl) ⟨bA,bB,bC,bD,F,(.of F)⟩ (aC [2,1,1,0,0,0] F)
    refine bg [6] (by kernel_rfl) F ⟨⟨_,F,F,cY (m:=d.next.length) eB fx F F (by omega) (by omega) (fun bB=>⟨aC [5] F,?_⟩)⟩,trivial⟩
    refine bg [10] (by kernel_rfl) F ⟨⟨_,F,F,bN (vs:=[(.slice (aD bB) d.next.length d.next.length)]) 1 dA F F F F ⟨aC [5] F,?_⟩⟩,trivial⟩
    exact dw (by kernel_rfl) ⟨bA,bB,bC,bD,F,(.of F)⟩ (aC [2,1,1,0,0,0] F)
   refine bg [6,7] (by kernel_rfl) F ⟨⟨_,F,F,cY (m:=d.next.length) eB fx F F (by omega) (by omega) (fun bB=>⟨aC [4] F,?_⟩)⟩,⟨_,F,F,bs cV F (fun bC=>⟨aC [4] F,?_⟩)⟩,trivial⟩
   ·refine bg [7] (by kernel_rfl) F ⟨⟨_,F,F,bs cV F (fun bC=>⟨aC [5] F,?_⟩)⟩,trivial⟩
    refine bg [9] (by kernel_rfl) F ⟨⟨_,F,F,bN (vs:=[(.slice (aD bA) 1 1)]) 0 cV F F F F ⟨aC [5] F,?_⟩⟩,trivial⟩
    refine bg [10] (by kernel_rfl) F ⟨⟨_,F,F,bN (vs:=[(.slice (aD bB) d.next.length d.next.length)]) 2 dA F F F F ⟨aC [5] F,?_⟩⟩,trivial⟩
    exact dw (by kernel_rfl) ⟨bA,bB,bC,bD,F,(.of F)⟩ (aC [0,1,1,0,0,0] F)
   refine bg [6,9] (by kernel_rfl) F ⟨⟨_,F,F,cY (m:=d.next.length) eB fx F F (by omega) (by omega) (fun bB=>⟨aC [5] F,?_⟩)⟩,⟨_,F,F,bN (vs:=[(.slice (aD bA) 1 1)]) 0 cV F F F F ⟨aC [4] F,?_⟩⟩,trivial⟩
   ·refine bg [9] (by kernel_rfl) F ⟨⟨_,F,F,bN (vs:=[(.slice (aD bA) 1 1)]) 1 cV F F F F ⟨aC [5] F,?_⟩⟩,trivial⟩
    refine bg [10] (by kernel_rfl) F ⟨⟨_,F,F,bN (vs:=[(.slice (aD bB) d.next.length d.next.length)]) 2 dA F F F F ⟨aC [5] F,?_⟩⟩,trivial⟩
    exact dw (by kernel_rfl) ⟨bA,bB,bC,bD,F,(.of F)⟩ (aC [1,1,1,0,0,0] F)
   refine bg [6] (by kernel_rfl) F ⟨⟨_,F,F,cY (m:=d.next.length) eB fx F F (by omega) (by omega) (fun bB=>⟨aC [5] F,?_⟩)⟩,trivial⟩
   refine bg [10] (by kernel_rfl) F ⟨⟨_,F,F,bN (vs:=[(.slice (aD bB) d.next.length d.next.length)]) 2 dA F F F F ⟨aC [5] F,?_⟩⟩,trivial⟩
   exact dw (by kernel_rfl) ⟨bA,bB,bC,bD,F,(.of F)⟩ (aC [1,1,1,0,0,0] F)
  ·refine bg [2,7,8] (by kernel_rfl) F ⟨⟨_,F,F,cN (v:=(vI d.start)) cL bj F F F (fun bA=>⟨aC [3] F,?_⟩)⟩,⟨_,F,F,bs cV F (fun bC=>⟨aC [3] F,?_⟩)⟩,⟨_,F,F,bs dA F (fun bD=>⟨aC [3] F,?_⟩)⟩,trivial⟩
   ·refine bg [7,8] (by kernel_rfl) F ⟨⟨_,F,F,bs cV F (fun bC=>⟨aC [4] F,?_⟩)⟩,⟨_,F,F,bs dA F (fun bD=>⟨aC [4] F,?_⟩)⟩,trivial⟩
    ·refine bg [8] (by kernel_rfl) F ⟨⟨_,F,F,bs dA F (fun bD=>⟨aC [5] F,?_⟩)⟩,trivial⟩
     refine bg [9] (by kernel_rfl) F ⟨⟨_,F,F,bN (vs:=[(.slice (aD bA) 1 1)]) 1 cV F F F F ⟨aC [5] F,?_⟩⟩,trivial⟩
     refine bg [10] (by kernel_rfl) F ⟨⟨_,F,F,bN (vs:=[(.slice (aD bB) d.next.length d.next.length)]) 0 dA F F F F ⟨aC [5] F,?_⟩⟩,trivial⟩
     exact dw (by kernel_rfl) ⟨bA,bB,bC,bD,F,(.of F)⟩ (aC [1,0,0,0,0,0] F)
    refine bg [7] (by kernel_rfl) F ⟨⟨_,F,F,bs cV F (fun bC=>⟨aC [5] F,?_⟩)⟩,trivial⟩
    refine bg [9] (by kernel_rfl) F ⟨⟨_,F,F,bN (vs:=[(.slice (aD bA) 1 1)]) 0 cV F F F F ⟨aC [5] F,?_⟩⟩,trivial⟩
    refine bg [10] (by kernel_rfl) F ⟨⟨_,F,F,bN (vs:=[(.slice (aD bB) d.next.length d.next.length)]) 1 dA F F F F ⟨aC [5] F,?_⟩⟩,trivial⟩
    exact dw (by kernel_rfl) ⟨bA,bB,bC,bD,F,(.of F)⟩ (aC [0,0,0,0,0,0] F)
   ·refine bg [2,8] (by kernel_rfl) F ⟨⟨_,F,F,cN (v:=(vI d.start)) cL bj F F F (fun bA=>⟨aC [4] F,?_⟩)⟩,⟨_,F,F,bs dA F (fun bD=>⟨aC [4] F,?_⟩)⟩,trivial⟩
    ·refine bg [8] (by kernel_rfl) F ⟨⟨_,F,F,bs dA F (fun bD=>⟨aC [5] F,?_⟩)⟩,trivial⟩
     refine bg [9] (by kernel_rfl) F ⟨⟨_,F,F,bN (vs:=[(.slice (aD bA) 1 1)]) 2 cV F F F F ⟨aC [5] F,?_⟩⟩,trivial⟩
     refine bg [10] (by kernel_rfl) F ⟨⟨_,F,F,bN (vs:=[(.slice (aD bB) d.next.length d.next.length)]) 0 dA F F F F ⟨aC [5] F,?_⟩⟩,trivial⟩
     exact dw (by kernel_rfl) ⟨bA,bB,bC,bD,F,(.of F)⟩ (aC [2,0,0,0,0,0] F)
    refine bg [2] (by kernel_rfl) F ⟨⟨_,F,F,cN (v:=(vI d.start)) cL bj F F F (fun bA=>⟨aC [5] F,?_⟩)⟩,trivial⟩
    refine bg [9] (by kernel_rfl) F ⟨⟨_,F,F,bN (vs:=[(.slice (aD bA) 1 1)]) 2 cV F F F F ⟨aC [5] F,?_⟩⟩,trivial⟩
    refine bg [10] (by kernel_rfl) F ⟨⟨_,F,F,bN (vs:=[(.slice (aD bB) d.next.length d.next.length)]) 1 dA F F F F ⟨aC [5] F,?_⟩⟩,trivial⟩
    exact dw (by kernel_rfl) ⟨bA,bB,bC,bD,F,(.of F)⟩ (aC [2,1,0,0,0,0] F)
   refine bg [2,7] (by kernel_rfl) F ⟨⟨_,F,F,cN (v:=(vI d.start)) cL bj F F F (fun bA=>⟨aC [4] F,?_⟩)⟩,⟨_,F,F,bs cV F (fun bC=>⟨aC [4] F,?_⟩)⟩,trivial⟩
   ·refine bg [7] (by kernel_rfl) F ⟨⟨_,F,F,bs cV F (fun bC=>⟨aC [5] F,?_⟩)⟩,trivial⟩
    refine bg [9] (by kernel_rfl) F ⟨⟨_,F,F,bN (vs:=[(.slice (aD bA) 1 1)]) 0 cV F F F F ⟨aC [5] F,?_⟩⟩,trivial⟩
    refine bg [10] (by kernel_rfl) F ⟨⟨_,F,F,bN (vs:=[(.slice (aD bB) d.next.length d.next.length)]) 2 dA F F F F ⟨aC [5] F,?_⟩⟩,trivial⟩
    exact dw (by kernel_rfl) ⟨bA,bB,bC,bD,F,(.of F)⟩ (aC [0,1,0,0,0,0] F)
   refine bg [2] (by kernel_rfl) F ⟨⟨_,F,F,cN (v:=(vI d.start)) cL bj F F F (fun bA=>⟨aC [5] F,?_⟩)⟩,trivial⟩
   refine bg [9] (by kernel_rfl) F ⟨⟨_,F,F,bN (vs:=[(.slice (aD bA) 1 1)]) 1 cV F F F F ⟨aC [5] F,?_⟩⟩,trivial⟩
   refine bg [10] (by kernel_rfl) F ⟨⟨_,F,F,bN (vs:=[(.slice (aD bB) d.next.length d.next.length)]) 2 dA F F F F ⟨aC [5] F,?_⟩⟩,trivial⟩
   exact dw (by kernel_rfl) ⟨bA,bB,bC,bD,F,(.of F)⟩ (aC [1,1,0,0,0,0] F)
  ·refine bg [2,6,8] (by kernel_rfl) F ⟨⟨_,F,F,cN (v:=(vI d.start)) cL bj F F F (fun bA=>⟨aC [3] F,?_⟩)⟩,⟨_,F,F,cY (m:=d.next.length) eB fx F F (by omega) (by omega) (fun bB=>⟨aC [3] F,?_⟩)⟩,⟨_,F,F,bs dA F (fun bD=>⟨aC [3] F,?_⟩)⟩,trivial⟩
   ·refine bg [6,8] (by kernel_rfl) F ⟨⟨_,F,F,cY (m:=d.next.length) eB fx F F (by omega) (by omega) (fun bB=>⟨aC [4] F,?_⟩)⟩,⟨_,F,F,bs dA F (fun bD=>⟨aC [4] F,?_⟩)⟩,trivial⟩
    ·refine bg [8] (by kernel_rfl) F ⟨⟨_,F,F,bs dA F (fun bD=>⟨aC [5] F,?_⟩)⟩,trivial⟩
     refine bg [9] (by kernel_rfl) F ⟨⟨_,F,F,bN (vs:=[(.slice (aD bA) 1 1)]) 3 cV F F F F ⟨aC [5] F,?_⟩⟩,trivial⟩
     refine bg [10] (by kernel_rfl) F ⟨⟨_,F,F,bN (vs:=[(.slice (aD bB) d.next.length d.next.length)]) 0 dA F F F F ⟨aC [5] F,?_⟩⟩,trivial⟩
     exact dw (by kernel_rfl) ⟨bA,bB,bC,bD,F,(.of F)⟩ (aC [3,0,1,0,0,0] F)
    refine bg [6,9] (by kernel_rfl) F ⟨⟨_,F,F,cY (m:=d.next.length) eB fx F F (by omega) (by omega) (fun bB=>⟨aC [5] F,?_⟩)⟩,⟨_,F,F,bN (vs:=[(.slice (aD bA) 1 1)]) 2 cV F F F F ⟨aC [4] F,?_⟩⟩,trivial⟩
    ·refine bg [9] (by kernel_rfl) F ⟨⟨_,F,F,bN (vs:=[(.slice (aD bA) 1 1)]) 3 cV F F F F ⟨aC [5] F,?_⟩⟩,trivial⟩
     refine bg [10] (by kernel_rfl) F ⟨⟨_,F,F,bN (vs:=[(.slice (aD bB) d.next.length d.next.length)]) 1 dA F F F F ⟨aC [5] F,?_⟩⟩,trivial⟩
     exact dw (by kernel_rfl) ⟨bA,bB,bC,bD,F,(.of F)⟩ (aC [3,1,1,0,0,0] F)
    refine bg [6] (by kernel_rfl) F ⟨⟨_,F,F,cY (m:=d.next.length) eB fx F F (by omega) (by omega) (fun bB=>⟨aC [5] F,?_⟩)⟩,trivial⟩
    refine bg [10] (by kernel_rfl) F ⟨⟨_,F,F,bN (vs:=[(.slice (aD bB) d.next.length d.next.length)]) 1 dA F F F F ⟨aC [5] F,?_⟩⟩,trivial⟩
    exact dw (by kernel_rfl) ⟨bA,bB,bC,bD,F,(.of F)⟩ (aC [3,1,1,0,0,0] F)
   ·refine bg [2,8] (by kernel_rfl) F ⟨⟨_,F,F,cN (v:=(vI d.start)) cL bj F F F (fun bA=>⟨aC [4] F,?_⟩)⟩,⟨_,F,F,bs dA F (fun bD=>⟨aC [4] F,?_⟩)⟩,trivial⟩
    ·refine bg [8] (by kernel_rfl) F ⟨⟨_,F,F,bs dA F (fun bD=>⟨aC [5] F,?_⟩)⟩,trivial⟩
     refine bg [9] (by kernel_rfl) F ⟨⟨_,F,F,bN (vs:=[(.slice (aD bA) 1 1)]) 3 cV F F F F ⟨aC [5] F,?_⟩⟩,trivial⟩
     refine bg [10] (by kernel_rfl) F ⟨⟨_,F,F,bN (vs:=[(.slice (aD bB) d.next.length d.next.length)]) 0 dA F F F F ⟨aC [5] F,?_⟩⟩,trivial⟩
     exact dw (by kernel_rfl) ⟨bA,bB,bC,bD,F,(.of F)⟩ (aC [3,0,0,0,0,0] F)
    refine bg [2] (by kernel_rfl) F ⟨⟨_,F,F,cN (v:=(vI d.start)) cL bj F F F (fun bA=>⟨aC [5] F,?_⟩)⟩,trivial⟩
    refine bg [9] (by kernel_rfl) F ⟨⟨_,F,F,bN (vs:=[(.slice (aD bA) 1 1)]) 3 cV F F F F ⟨aC [5] F,?_⟩⟩,trivial⟩
    refine bg [10] (by kernel_rfl) F ⟨⟨_,F,F,bN (vs:=[(.slice (aD bB) d.next.length d.next.length)]) 1 dA F F F F ⟨aC [5] F,?_⟩⟩,trivial⟩
    exact dw (by kernel_rfl) ⟨bA,bB,bC,bD,F,(.of F)⟩ (aC [3,1,0,0,0,0] F)
   refine bg [2,6] (by kernel_rfl) F ⟨⟨_,F,F,cN (v:=(vI d.start)) cL bj F F F (fun bA=>⟨aC [4] F,?_⟩)⟩,⟨_,F,F,cY (m:=d.next.length) eB fx F F (by omega) (by omega) (fun bB=>⟨aC [4] F,?_⟩)⟩,trivial⟩
   ·refine bg [6,9] (by kernel_rfl) F ⟨⟨_,F,F,cY (m:=d.next.length) eB fx F F (by omega) (by omega) (fun bB=>⟨aC [5] F,?_⟩)⟩,⟨_,F,F,bN (vs:=[(.slice (aD bA) 1 1)]) 2 cV F F F F ⟨aC [4] F,?_⟩⟩,trivial⟩
    ·refine bg [9] (by kernel_rfl) F ⟨⟨_,F,F,bN (vs:=[(.slice (aD bA) 1 1)]) 3 cV F F F F ⟨aC [5] F,?_⟩⟩,trivial⟩
     refine bg [10] (by kernel_rfl) F ⟨⟨_,F,F,bN (vs:=[(.slice (aD bB) d.next.length d.next.length)]) 2 dA F F F F ⟨aC [5] F,?_⟩⟩,trivial⟩
     exact dw (by kernel_rfl) ⟨bA,bB,bC,bD,F,(.of F)⟩ (aC [3,2,1,0,0,0] F)
    refine bg [6] (by kernel_rfl) F ⟨⟨_,F,F,cY (m:=d.next.length) eB fx F F (by omega) (by omega) (fun bB=>⟨aC [5] F,?_⟩)⟩,trivial⟩
    refine bg [10] (by kernel_rfl) F ⟨⟨_,F,F,bN (vs:=[(.slice (aD bB) d.next.length d.next.length)]) 2 dA F F F F ⟨aC [5] F,?_⟩⟩,trivial⟩
    exact dw (by kernel_rfl) ⟨bA,bB,bC,bD,F,(.of F)⟩ (aC [3,2,1,0,0,0] F)
   refine bg [2] (by kernel_rfl) F ⟨⟨_,F,F,cN (v:=(vI d.start)) cL bj F F F (fun bA=>⟨aC [5] F,?_⟩)⟩,trivial⟩
   refine bg [9] (by kernel_rfl) F ⟨⟨_,F,F,bN (vs:=[(.slice (aD bA) 1 1)]) 3 cV F F F F ⟨aC [5] F,?_⟩⟩,trivial⟩
   refine bg [10] (by kernel_rfl) F ⟨⟨_,F,F,bN (vs:=[(.slice (aD bB) d.next.length d.next.length)]) 2 dA F F F F ⟨aC [5] F,?_⟩⟩,trivial⟩
   exact dw (by kernel_rfl) ⟨bA,bB,bC,bD,F,(.of F)⟩ (aC [3,2,0,0,0,0] F)
  refine bg [2,6,7] (by kernel_rfl) F ⟨⟨_,F,F,cN (v:=(vI d.start)) cL bj F F F (fun bA=>⟨aC [3] F,?_⟩)⟩,⟨_,F,F,cY (m:=d.next.length) eB fx F F (by omega) (by omega) (fun bB=>⟨aC [3] F,?_⟩)⟩,⟨_,F,F,bs cV F (fun bC=>⟨aC [3] F,?_⟩)⟩,trivial⟩
  ·refine bg [6,7] (by kernel_rfl) F ⟨⟨_,F,F,cY (m:=d.next.length) eB fx F F (by omega) (by omega) (fun bB=>⟨aC [4] F,?_⟩)⟩,⟨_,F,F,bs cV F (fun bC=>⟨aC [4] F,?_⟩)⟩,trivial⟩
   ·refine bg [7] (by kernel_rfl) F ⟨⟨_,F,F,bs cV F (fun bC=>⟨aC [5] F,?_⟩)⟩,trivial⟩
    refine bg [9] (by kernel_rfl) F ⟨⟨_,F,F,bN (vs:=[(.slice (aD bA) 1 1)]) 0 cV F F F F ⟨aC [5] F,?_⟩⟩,trivial⟩
    refine bg [10] (by kernel_rfl) F ⟨⟨_,F,F,bN (vs:=[(.slice (aD bB) d.next.length d.next.length)]) 3 dA F F F F ⟨aC [5] F,?_⟩⟩,trivial⟩
    exact dw (by kernel_rfl) ⟨bA,bB,bC,bD,F,(.of F)⟩ (aC [0,2,1,0,0,0] F)
   refine bg [6,9] (by kernel_rfl) F ⟨⟨_,F,F,cY (m:=d.next.length) eB fx F F (by omega) (by omega) (fun bB=>⟨aC [5] F,?_⟩)⟩,⟨_,F,F,bN (vs:=[(.slice (aD bA) 1 1)]) 0 cV F F F F ⟨aC [4] F,?_⟩⟩,trivial⟩
   ·refine bg [9] (by kernel_rfl) F ⟨⟨_,F,F,bN (vs:=[(.slice (aD bA) 1 1)]) 1 cV F F F F ⟨aC [5] F,?_⟩⟩,trivial⟩
    refine bg [10] (by kernel_rfl) F ⟨⟨_,F,F,bN (vs:=[(.slice (aD bB) d.next.length d.next.length)]) 3 dA F F F F ⟨aC [5] F,?_⟩⟩,trivial⟩
    exact dw (by kernel_rfl) ⟨bA,bB,bC,bD,F,(.of F)⟩ (aC [1,2,1,0,0,0] F)
   refine bg [6] (by kernel_rfl) F ⟨⟨_,F,F,cY (m:=d.next.length) eB fx F F (by omega) (by omega) (fun bB=>⟨aC [5] F,?_⟩)⟩,trivial⟩
   refine bg [10] (by kernel_rfl) F ⟨⟨_,F,F,bN (vs:=[(.slice (aD bB) d.next.length d.next.length)]) 3 dA F F F F ⟨aC [5] F,?_⟩⟩,trivial⟩
   exact dw (by kernel_rfl) ⟨bA,bB,bC,bD,F,(.of F)⟩ (aC [1,2,1,0,0,0] F)
  ·refine bg [2,7] (by kernel_rfl) F ⟨⟨_,F,F,cN (v:=(vI d.start)) cL bj F F F (fun bA=>⟨aC [4] F,?_⟩)⟩,⟨_,F,F,bs cV F (fun bC=>⟨aC [4] F,?_⟩)⟩,trivial⟩
   ·refine bg [7] (by kernel_rfl) F ⟨⟨_,F,F,bs cV F (fun bC=>⟨aC [5] F,?_⟩)⟩,trivial⟩
    refine bg [9] (by kernel_rfl) F ⟨⟨_,F,F,bN (vs:=[(.slice (aD bA) 1 1)]) 0 cV F F F F ⟨aC [5] F,?_⟩⟩,trivial⟩
    refine bg [10] (by kernel_rfl) F ⟨⟨_,F,F,bN (vs:=[(.slice (aD bB) d.next.length d.next.length)]) 3 dA F F F F ⟨aC [5] F,?_⟩⟩,trivial⟩
    exact dw (by kernel_rfl) ⟨bA,bB,bC,bD,F,(.of F)⟩ (aC [0,2,0,0,0,0] F)
   refine bg [2] (by kernel_rfl) F ⟨⟨_,F,F,cN (v:=(vI d.start)) cL bj F F F (fun bA=>⟨aC [5] F,?_⟩)⟩,trivial⟩
   refine bg [9] (by kernel_rfl) F ⟨⟨_,F,F,bN (vs:=[(.slice (aD bA) 1 1)]) 1 cV F F F F ⟨aC [5] F,?_⟩⟩,trivial⟩
   refine bg [10] (by kernel_rfl) F ⟨⟨_,F,F,bN (vs:=[(.slice (aD bB) d.next.length d.next.length)]) 3 dA F F F F ⟨aC [5] F,?_⟩⟩,trivial⟩
   exact dw (by kernel_rfl) ⟨bA,bB,bC,bD,F,(.of F)⟩ (aC [1,2,0,0,0,0] F)
  refine bg [2,6] (by kernel_rfl) F ⟨⟨_,F,F,cN (v:=(vI d.start)) cL bj F F F (fun bA=>⟨aC [4] F,?_⟩)⟩,⟨_,F,F,cY (m:=d.next.length) eB fx F F (by omega) (by omega) (fun bB=>⟨aC [4] F,?_⟩)⟩,trivial⟩
  ·refine bg [6,9] (by kernel_rfl) F ⟨⟨_,F,F,cY (m:=d.next.length) eB fx F F (by omega) (by omega) (fun bB=>⟨aC [5] F,?_⟩)⟩,⟨_,F,F,bN (vs:=[(.slice (aD bA) 1 1)]) 1 cV F F F F ⟨aC [4] F,?_⟩⟩,trivial⟩
   ·refine bg [9] (by kernel_rfl) F ⟨⟨_,F,F,bN (vs:=[(.slice (aD bA) 1 1)]) 2 cV F F F F ⟨aC [5] F,?_⟩⟩,trivial⟩
    refine bg [10] (by kernel_rfl) F ⟨⟨_,F,F,bN (vs:=[(.slice (aD bB) d.next.length d.next.length)]) 3 dA F F F F ⟨aC [5] F,?_⟩⟩,trivial⟩
    exact dw (by kernel_rfl) ⟨bA,bB,bC,bD,F,(.of F)⟩ (aC [2,2,1,0,0,0] F)
   refine bg [6] (by kernel_rfl) F ⟨⟨_,F,F,cY (m:=d.next.length) eB fx F F (by omega) (by omega) (fun bB=>⟨aC [5] F,?_⟩)⟩,trivial⟩
   refine bg [10] (by kernel_rfl) F ⟨⟨_,F,F,bN (vs:=[(.slice (aD bB) d.next.length d.next.length)]) 3 dA F F F F ⟨aC [5] F,?_⟩⟩,trivial⟩
   exact dw (by kernel_rfl) ⟨bA,bB,bC,bD,F,(.of F)⟩ (aC [2,2,1,0,0,0] F)
  refine bg [2] (by kernel_rfl) F ⟨⟨_,F,F,cN (v:=(vI d.start)) cL bj F F F (fun bA=>⟨aC [5] F,?_⟩)⟩,trivial⟩
  refine bg [9] (by kernel_rfl) F ⟨⟨_,F,F,bN (vs:=[(.slice (aD bA) 1 1)]) 2 cV F F F F ⟨aC [5] F,?_⟩⟩,trivial⟩
  refine bg [10] (by kernel_rfl) F ⟨⟨_,F,F,bN (vs:=[(.slice (aD bB) d.next.length d.next.length)]) 3 dA F F F F ⟨aC [5] F,?_⟩⟩,trivial⟩
  exact dw (by kernel_rfl) ⟨bA,bB,bC,bD,F,(.of F)⟩ (aC [2,2,0,0,0,0] F)
 rintro ρ O ⟨bA,bB,bC,bD,rfl,hH⟩
 obtain⟨gF,rfl⟩:=hH.elim
 clear hH
 refine ai (ad (bi 1 eB F F F F) (ad (a_ cZ F bj F F) (ad (bi 5 dP F F F F) (ad (FB (i:=d.start) eB fx F F (dR (mG 3 F)) Ar rM (by rw[iU];exact rM)) (ao F (ol (j:=d.start.toNat) (v:=.bool true) (vs:=[(.bool true)]) (cs:=List.replicate d.next.length (.bool false)) 3 fx F F F F F (by simp) F (by first|(simp;omega)|(simp_all;omega)) ?_))))))
 let gC:Lx.Item:=oI bD 23 [(.slice (aD bB) d.next.length d.next.length)]
 refine dX (O':=[oI bC 56 [(.slice (aD bA) 1 1)],gC,aq (aD bA) 1 3 1 [(vI d.start)],aq (aD bB) d.next.length 4 1 (cG ((List.replicate d.next.length false).set d.start.toNat true)),mn,eP]) (by rw[show fh (List.replicate d.next.length (.bool false)) d.start.toNat [(.bool true)]=cG ((List.replicate d.next.length false).set d.start.toNat true)from by simp[fh]];exact cj (aZ _)) ?_
 refine ae (ai (ad (eZ) (aj F (ae (ai (ad (a_ cZ F bj F F) (ad (bi 5 dP F F F F) (ad (a_ cZ F bj F F) (ao F (bN (vs:=[(vI d.vars)]) 4 bj F F F F ?_))))))))))
 refine ae (aM ?_)
 have hJ0: [oI z1 25 [(vI d.vars),(vI d.start),(.slice nb d.next.length nc),(.slice fb d.aY.length fc)],oI bC 56 [(.slice (aD bA) 1 1)],aq (aD bA) 1 3 1 [(vI d.start)],oI bD 23 [(.slice (aD bB) d.next.length d.next.length)],aq (aD bB) d.next.length 4 1 (cG ((List.replicate d.next.length false).set d.start.toNat true))]=[oI z1 25 [(vI d.vars),(vI d.start),(.slice nb d.next.length nc),(.slice fb d.aY.length fc)],oI bC 56 [(.slice (aD bA) 1 1)],aq (aD bA) 1 3 1 (bS [d.start.toNat]),oI bD 23 [(.slice (aD bB) d.next.length d.next.length)],aq (aD bB) d.next.length 4 1 (cG ((List.replicate d.next.length false).set d.start.toNat true))]:=by
  rw[show bS [d.start.toNat]=[vI d.start] by simp[cR Ar]]
 have Yh: ∀t,t<d.next.length→((List.replicate d.next.length false).set d.start.toNat true)[t]? =some (decide (t∈[d.start.toNat])):=fun t ht=>by
  by_cases e:t=d.start.toNat
  ·subst e;rw[List.getElem?_set_self (by simpa using ht)];simp
  ·rw[List.getElem?_set_ne (fun h=>e h.symm)];simp[ht,e]
 refine T.ds [eP] [(0,0),(1,0),(2,0),(3,0),(4,0),(5,0),(6,0),(7,0),(9,0),(8,1),(10,1),(11,0),(12,0),(13,0),(14,0),(15,1)] (aC [5] F) ?_
 refine au F (a_ cZ F bj F F) (au F (bi 0 dP F F F F) (au F (nU (v:=d.vars.toNat) F (by show Value.int _ d.vars=_;rw[cR hv.v0]) (by have:=hv.v6;omega)) (au F (a_ cZ F fz F F) (au F (bi 0 e_ F F F F) (au F (cQ e_ F) (au F (a_ cZ F bj F F) (au F (bK (bi 0 dP F F F F) (v':=vI ((d.start.toNat:Nat):Int)) (by rw[cR Ar])) (au F (aN F) ?_))))))))
 let lw:List Lx.Item:=[oI bC 56 [(.slice (aD bA) 1 1)],gC,aq (aD bA) 1 3 1 [(vI d.start)],aq (aD bB) d.next.length 4 1 (cG ((List.replicate d.next.length false).set d.start.toNat true)),oI z2 25 [(vI d.vars),(vI 0),nS,nS],eP]
 have oE:=fun(w1:World) (hI:Inv w lw w1)=>(haveI:=et hI;Mz w1 d.start.toNat (by omega))
 refine cr F F (bl Lr (aX oE) F ?_)
 clear oE
 rintro v O' ⟨N,rfl,rfl,rfl⟩
 refine⟨aC [5] F,?_⟩
 let lu:Lx.Item:=oI z2 25 [(vI d.vars),(vI 0),nS,nS]
 have qv:=bW.under (B:=[lu]) (O:=lw) (My w (DR d) (2^d.vars.toNat) d.next.length (Lib.decDigits d.start.toNat) (.func (.func 84) #[] #[.pointer (aD z1),.pointer (aD bC),.pointer (aD bD)]) (T9 d nb fb nc fc z1 bB bC bD) (fun ks=>ks.length≤d.next.length) hv.width hv.n4 (fun ks s x O hs hx _ hJ=>Yf w d nb fb nc fc vs h hv hn z1 bB bC bD ks s x O hs hx hJ) (fun _ h=>h) [eP,oI bC 56 [(.slice (aD bA) 1 1)],aq (aD bA) 1 3 1 [(vI d.start)],gC,aq (aD bB) d.next.length 4 1 (cG ((List.replicate d.next.length false).set d.start.toNat true))] (by simp;omega) ⟨[d.start.toNat],(List.replicate d.next.length false).set d.start.toNat true,some ⟨bA,0,none⟩,1,F,hJ0,by simp,by simp;omega,by simp,Yh⟩) (aC [5,0,1,0,0,0] F)
 refine cr F F (bl XG qv F ?_)
 clear qv
 rintro v O' ⟨A1,rfl,rb,rc,qs,N,O1,rfl,rfl,⟨os,sn,ob,oc,om,rfl,lJ,Io,MT,ae7⟩,hgl,Yi,hE,j6⟩
 let gu:Lx.Item:=aq (aD bB) d.next.length 4 1 (cG sn)
 let gK:Lx.Item:=oI bC 56 [(.slice ob os.length oc)]
 let iG:Lx.Item:=aq rb rc 56 1 (dm qs)
 let jD:Lx.Item:=aq ob oc 3 1 (bS os)
 refine⟨gW ([iG]++cd 3 qs++[gK,jD,gC,gu,lu]),?_⟩
 refine e7 (O':=[iG,eP,gK,jD,gC,gu,lu]++cd 3 qs) (gW []) ?_
 refine au F (aN F) (au F (bE (vs:=_) F F) (au F (bE (vs:=_) F F) (au F (a_ cZ F fz F F) ?_)))
 let oV:Value:=(.slice rb N rc)
 refine cr F F (bN (vs:=[oV]) 6 fz F F F F ⟨fq [1] [iG,eP,gK,jD,gC,gu,oI z2 25 [(vI d.vars),(vI 0),oV,nS]] (cd 3 qs) F F,?_⟩)
 refine cw ?_
 refine aM (ai (ad (bi 2 cL F F F F) (ad (cQ cL F) (ah F (ae (aU ?_))))))
 have SS:=eT lJ Io
 refine T.eX 4 1 ?_
 refine eF (fun(k:Nat) ρ O=> ∃(ws:Option Addr) (wu:Nat),O=([aq ws wu 4 1 (cG ((os.take k).map fun o=>d.aY.getD o false)),iG,eP,gK,jD,gC,gu,oI z2 25 [(vI d.vars),(vI 0),oV,(.slice ws k wu)]]++(cd 3 qs))∧k≤os.length∧dv [(0,ut),(1,(.pointer (aD z1))),(2,(.pointer (aD z2))),(3,vI 0),(4,vI ((0:Nat):Int)),(5,(.pointer (aD bC))),(6,(.pointer (aD bD))),(7,(.func (.func 84) #[] #[(.pointer (aD z1)),(.pointer (aD bC)),(.pointer (aD bD))])),(46,(.slice ob os.length oc)),(47,vI (os.length:Int)),(48,vI (k:Int))] ρ) (fun k=>os.length-k) 0 ?_ ?_
 ·exact⟨none,0,F,bn _,(.of F)⟩
 rintro k ρ O ⟨ws,wu,rfl,hk,hH⟩
 obtain⟨gF,rfl⟩:=hH.elim
 clear hH
 refine ai (ad (cT F F) (ae (aM (aP F (fun hc=>?_) (fun hc=>?_)))))
 ·have MC:k<os.length:=by omega
  have W4:os[k]<d.next.length:=Io _ (aQ MC)
  have abh:os[k]<d.aY.length:=by have:=hv.fin;omega
  refine aE (aM (aU (ai (ad (dU (i:=k) cL bj F F (dR (mG 4 F))) (ad (de dP F F (dR (mG 4 F)) ij) (aj F (ae ?_)))))))
  let tk:Lx.Item:=oI z2 25 [(vI d.vars),(vI 0),(.slice rb N rc),(.slice ws k wu)]
  refine T.ds [eP,tk] [(0,0),(1,0),(2,0),(3,0),(4,0),(5,0),(6,0),(7,1),(8,2),(9,2),(10,2)] (fq [2,6] [aq ws wu 4 1 (cG ((os.take k).map fun o=>d.aY.getD o false)),iG,eP,gK,jD,gC,gu,tk] (cd 3 qs) F F) ?_
  refine au F (a_ cZ F dA F F) (au F (bi 1 eB F F F F) (au F (a_ cZ F dA F F) (au F (bi 0 eB F F F F) (au F (aN F) (au F (dU (i:=os[k]) eB fx F F (aL h.aY)) (au F (de AG F F (aL h.aY) iB) ?_))))))
  let ph:List Value:=[.bool d.aY[os[k]]]
  refine cr F F (cN (v:=.bool d.aY[os[k]]) eB fx F F F (fun z3=>⟨fq [3,7] [aq (aD z3) 1 4 1 ph,aq ws wu 4 1 (cG ((os.take k).map fun o=>d.aY.getD o false)),iG,eP,gK,jD,gC,gu,tk] (cd 3 qs) F F,?_⟩))
  refine b_ F F (cW 1 eB eB fx F F F F (by simp;omega) (by decide) (Src.row (j:=0) F (by simp)) (by simp[fa]) (by omega) (by decide) (by decide) (fun z4 IU=>?_))
  refine b_ F F (d_ F F (a_ cZ F dA F F) ?_)
  refine b_ F F (bN (vs:=[(.slice z4 (k+1) IU)]) 8 dA F F F F ?_)
  let mF:Lx.Item:=oI z2 25 [(vI d.vars),(vI 0),oV,(.slice z4 (k+1) IU)]
  refine e7 (O':=([aq z4 IU 4 1 ((cG ((os.take k).map fun o=>d.aY.getD o false))++ph),iG,eP,gK,jD,gC,gu,mF]++(cd 3 qs))) (kF [1,1,1,1,1,1,1,1] [aq (aD z3) 1 4 1 ph,aq z4 IU 4 1 ((cG ((os.take k).map fun o=>d.aY.getD o false))++ph),iG,eP,gK,jD,gC,gu,mF] (cd 3 qs) F F) ?_
  refine cw ?_
  refine a7 (ad (lz F F (by omega)) (ah F (ae ?_)))
  have yA:(List.take (k+1) os).map (fun o=>d.aY.getD o false)=(List.take k os).map (fun o=>d.aY.getD o false)++[d.aY[os[k]]]:=by
   rw[aH MC,bm];simp[abh]
  exact⟨k+1,by omega,z4,IU,by rw[yA,show cG ((List.take k os).map (fun o=>d.aY.getD o false)++[d.aY[os[k]]])=cG ((List.take k os).map fun o=>d.aY.getD o false)++[.bool d.aY[os[k]]]from bm],by omega,(.of F)⟩
 have Yj: ¬k<os.length:=by omega
 refine cK ?_
 refine ai (ad (eu 7 cZ F bL F F F) (ao F (bN (vs:=[(vI d.vars),(vI 0),oV,(.slice ws k wu)]) 7 bL F F F F ?_)))
 refine aj F (ae (aK (aA ?_)))
 refine jT (vI 0) (i:=7) Tryz.results52 cZ F bL F F F F ?_
 have Ux:k=os.length:=by omega
 obtain⟨ho,hN9⟩:=IB j6 om Yi (eT lJ Io)
 have M2:=Mv om hE ho hN9
 have U6:(List.take k os).map (fun o=>d.aY.getD o false)=(ei d).aY:=by rw[bw (by omega),ho];rfl
 have Kg:(ei d).next.length=N:=by rw[←M2,hE.len]
 have YN:(ei d).aY.length=k:=by rw[←U6,ar,ck];omega
 refine⟨[iG,aq ws wu 4 1 (cG ((os.take k).map fun o=>d.aY.getD o false))]++cd 3 qs,(kF [1,0] [aq ws wu 4 1 (cG ((os.take k).map fun o=>d.aY.getD o false)),iG,eP,gK,jD,gC,gu,oI z2 25 [(vI d.vars),(vI 0),oV,(.slice ws k wu)]] (cd 3 qs) F F),rb,rc,ws,wu,qs,?_,by rw[U6],M2⟩
 show Value.tuple #[Value.agg (List.toArray [vI d.vars,vI 0,.slice rb N rc,.slice ws k wu]),_]=Value.tuple #[Value.agg (List.toArray [vI d.vars,vI 0,.slice rb (ei d).next.length rc,.slice ws (ei d).aY.length wu]),_]
 rw[Kg,YN]
end Go.Proofs.YtgdbfideeeegmaaGreatDoor

namespace Go.Proofs.YtgdbfideeeegmaaGreatDoor
open Go.Lx Go.RowKit _root_.Go.Proofs.Tryz
theorem T6 (w:World) [dE Tryz.prog w] (d:cU) (nb fb:Option Addr) (nc fc:Nat) (vs:List Value) (h:jt w d nb vs fb) (hb:d.next.length<9223372036854775807) (vY: ∀r∈d.next,r.length<9223372036854775807) (yw:d.aY.length<9223372036854775807) (he:dD d≠0):
  cH Tryz.prog 23 [.agg (fw d nb nc fb fc).toArray] w fun v N=>v=.tuple #[.agg #[vI 0,vI 0,nS,nS],vI (dD d:Int)]∧N=[]:=by
 refine aF func23 F ntmps23 F ?_
 refine ai (ao F (dG (cs:=[(vI d.vars),(vI d.start),(.slice nb d.next.length nc),(.slice fb d.aY.length fc)]) F F (fun b1=>?_)))
 refine ao F (bs bL F (fun b2=>?_))
 refine aj F (ae (ai (ad (eu 1 cZ F bL F F F) ?_)))
 have CG:=fun(w1:World) (hI:Inv w [oI b2 25 [(vI 0),(vI 0),nS,nS],oI b1 25 [(vI d.vars),(vI d.start),(.slice nb d.next.length nc),(.slice fb d.aY.length fc)]] w1)=>(haveI:=et hI;E7 w1 d nb fb nc fc vs (hI.BQ h) hb vY yw he)
 refine ao F (bl QQ (aX CG) F ?_)
 clear CG
 rintro v O' ⟨N,rfl,rfl,rfl⟩
 refine ah F (ad (bE (vs:=_) F F) (ad (bE (vs:=_) F F) (ao F (bs cV F (fun b3=>?_)))))
 refine ao F (bN (vs:=[nS]) 0 cV F F F F ?_)
 refine aj F (ae (aM (ai (ah F (ad (aB (dQ F F) (ay (by omega))) (ae ?_))))))
 refine bO F ?_
 refine ai (ad (cE jp bL F) (ah F (ao F (bN (vs:=[(vI 0),(vI 0),nS,nS]) 1 bL F F F F ?_))))
 refine aj F (ae (aK (aA ?_)))
 refine jT (vI (dD d:Int)) (i:=1) Tryz.results23 cZ F bL F F F F ?_
 exact⟨[],cj (cq _),F,F⟩
theorem X8 (w:World) [dE Tryz.prog w] (d:cU) (nb fb:Option Addr) (nc fc:Nat) (vs:List Value) (h:jt w d nb vs fb) (hv:Valid d) (hn:d.next.length<10000) (hqv:Valid (quo d (ie d d.next.length))) (hqn:(quo d (ie d d.next.length)).next.length<10000):
  cH Tryz.prog 23 [.agg (fw d nb nc fb fc).toArray] w fun v N=> ∃BZ B1 oT oU qs,v=.tuple #[.agg (fw (ei (quo d (ie d d.next.length))) BZ B1 oT oU).toArray,vI 0]∧N=[aq BZ B1 56 1 (dm qs),aq oT oU 4 1 (cG (ei (quo d (ie d d.next.length))).aY)]++cd 3 qs∧nums qs=(ei (quo d (ie d d.next.length))).next:=by
 refine aF func23 F ntmps23 F ?_
 obtain⟨cs,wM⟩: ∃cs,ie d d.next.length=cs:=⟨_,F⟩
 rw[wM]at hqv hqn⊢
 have n_:cs.length=d.next.length:=wM▸fu d _
 have DM: ∀x∈cs,x<10000:=wM▸L9 hn _
 have Ar:=hv.s0
 have PG:=hv.s1
 have Rw:=hv.n0
 have Zr:=hv.n4
 have rM:d.start.toNat<cs.length:=by omega
 have hb:d.next.length<9223372036854775807:=by omega
 let mF:Value:=(.slice fb d.aY.length fc)
 let ph:Value:=(.slice nb d.next.length nc)
 refine ai (ao F (dG (cs:=[(vI d.vars),(vI d.start),ph,mF]) F F (fun z1=>?_)))
 refine ao F (bs bL F (fun z2=>?_))
 refine aj F (ae (ai (ad (eu 1 cZ F bL F F F) ?_)))
 let eP:Lx.Item:=oI z1 25 [(vI d.vars),(vI d.start),(.slice nb d.next.length nc),(.slice fb d.aY.length fc)]
 let gK:Lx.Item:=oI z2 25 [(vI 0),(vI 0),nS,nS]
 have CG:=fun(w1:World) (hI:Inv w [gK,eP] w1)=>(haveI:=et hI;Iq w1 d nb fb nc fc vs (hI.BQ h) hv hn)
 refine ao F (bl QQ (aX CG) F ?_)
 clear CG
 rintro v O' ⟨N,rfl,cb,cc,rfl,rfl⟩
 rw[wM]
 refine ah F (ad (bE (vs:=_) F F) (ad (bE (vs:=_) F F) (ao F (bs cV F (fun z3=>?_)))))
 refine ao F (bN (vs:=[(.slice cb d.next.length cc)]) 0 cV F F F F ?_)
 refine aj F (ae (aM (ai (ah F (ad (dQ F F) (ae (a6 F (aE (aM ?_)))))))))
 let gu:Lx.Item:=oI z3 56 [(.slice cb d.next.length cc)]
 let iG:Lx.Item:=aq cb cc 3 1 (bS cs)
 refine T.ds [gu,iG,eP] [(0,0),(1,0),(2,0),(3,0),(4,0),(5,0),(6,0),(7,0),(8,1),(9,2)] (aC [0,0,1] F) ?_
 refine au F (a_ cZ F bj F F) (au F (bi 2 dP F F F F) (au F (bi 0 cL F F F F) (au F (a_ cZ F bj F F) (au F (bi 2 dP F F F F) (au F (FB (i:=d.start) cL bj F F (dR (mG 1 F)) Ar (n_▸rM) (by rw[ar];exact rM)) (au F (de dP F F (dR (mG 1 F)) (show(bS cs)[d.start.toNat]? =some (vN (cs.getD d.start.toNat 0)) by rw[ij rM];simp[rM])) (au F (cE (cs:=[(vI d.vars),vN (cs.getD d.start.toNat 0),nS,nS]) jp bL (by kernel_rfl)) ?_)))))))
 refine cr F F (bs bL F (fun z4=>⟨aC [1,1,2] F,?_⟩))
 refine b_ F F (bN (vs:=[(vI d.vars),vN (cs.getD d.start.toNat 0),nS,nS]) 0 bL F F F F ?_)
 refine cw ?_
 refine aM (ai (ad (eu 4 cZ F bL F F F) ?_))
 let mn:Lx.Item:=oI z4 25 [(vI d.vars),vN (cs.getD d.start.toNat 0),nS,nS]
 have xr:=fun(w1:World) (hI:Inv w [mn,gu,iG,gK,eP] w1)=>(haveI:=et hI;Q3 w1 d nb fb nc fc)
 refine ao F (bl QR (aX xr) F ?_)
 clear xr
 rintro v O' ⟨N,rfl,bR,rfl,rfl⟩
 refine ae (T.eX 4 1 ?_)
 refine T.eX 56 1 ?_
 refine dx (O':=[oI bR 25 [(vI d.vars),(vI d.start),ph,mF],mn,aq none 0 56 1 (dm []),aq none 0 4 1 (cG []),gu,iG,gK,eP]) (aC [2,2,0,0,0,0,0,0] F) ?_
 refine aU ?_
 refine T.rangeFunc (first:=[]) (gr:=[(.pointer (aD bR))]) F QU (fun yl yq TW=>?_)
 refine bW.mono (bW.sub (O':=oI bR 25 [(vI d.vars),(vI d.start),ph,mF]::(dF yl (lp yq none)::[mn,aq none 0 56 1 (dm []),aq none 0 4 1 (cG []),gu,iG,gK,eP])) (aC [1,0,0,0,0,0,0,0,0] F) (Q4 w d nb fb nc fc vs h hb bR (.func (.yield yl) #[] #[]) (fun k O=> ∃(ob ws:Option Addr) (oc wu:Nat) (qs:List Rec) (fs:List Bool),O=dF yl (lp yq none)::([oI z4 25 [(vI d.vars),(vN (cs.getD d.start.toNat 0)),(.slice ob qs.length oc),(.slice ws fs.length wu)],aq ob oc 56 1 (dm qs),aq ws wu 4 1 (cG fs),gu,iG,gK,eP]++(cd 3 qs))∧k≤d.next.length∧nums qs=(iS d cs k).1∧fs=(iS d cs k).2) (fun _=>False) ?_ _ ?_)) ?_
 ·intro k gn vb vc O g1 s1 hJ
  obtain⟨ob,ws,oc,wu,qs,fs,rfl,hk,zy,nF⟩:=hJ
  refine eK.yield TW F F ?_
  have XN:k<cs.length:=by omega
  have HF:qs.length=(iS d cs k).1.length:=by rw[←zy];simp
  have rL:fs.length=(iS d cs k).1.length:=by rw[nF];exact(kU d cs k).1.symm
  have hqk:=(kU d cs k).2
  have TY:k<d.aY.length:=by have:=hv.fin;omega
  have IK:d.next[k].length≤64:=by
   have:=hv.len _ (aQ gn);have:=hv.width;omega
  have tH: ∀j (hj:j<d.next[k].length),0≤d.next[k][j]∧d.next[k][j].toNat<cs.length:=fun j hj=>by have:=hv.ok _ (aQ gn) _ (aQ hj);omega
  refine ai (aj F (ae (a7 (aj F (ae (aU (aM (aM ?_))))))))
  let gC:Lx.Item:=oI z4 25 [(vI d.vars),(vN (cs.getD d.start.toNat 0)),(.slice ob qs.length oc),(.slice ws fs.length wu)]
  let jD:Lx.Item:=aq ws wu 4 1 (cG fs)
  let oV:Lx.Item:=aq ob oc 56 1 (dm qs)
  refine T.ds [gC,gu,iG] [(0,0),(1,0),(2,0),(3,0),(4,0),(5,0),(6,0),(7,0)] (fq [0,2,2] [gC,oV,jD,gu,iG,gK,eP] (cd 3 qs) F F) ?_
  refine au F (bi 1 cL F F F F) (au F (aN F) (au F (dU (i:=k) cL bj F F (dR (mG 2 F))) (au F (de dP F F (dR (mG 2 F)) ij) (au F (a_ cZ F fz F F) (au F (bi 0 e_ F F F F) (au F (cQ e_ F) (au F (cT F F) ?_)))))))
  refine cw ?_
  refine aP F (fun hc=>?_) (fun hc=>?_)
  ·have xA:cs[k]<qs.length:=by omega
   have X9:iS d cs (k+1)=iS d cs k:=by rw[iS,aO (by simp[XN];omega)]
   refine cK ?_
   refine .inl ⟨F,ob,ws,oc,wu,qs,fs,F,by omega,?_,?_⟩
   ·rw[X9];exact zy
   ·rw[X9];exact nF
  have Qq: ¬cs[k]<qs.length:=by omega
  have X_:iS d cs (k+1)=((iS d cs k).1++[(gd cs d.next[k]).map fun c:Nat=>(c:Int)],(iS d cs k).2++[d.aY[k]]):=by rw[iS,az (by simp[XN];omega)];simp[gn,TY]
  refine aE (ai (aj F (ae (aM (ai (ah F (ad (cQ cL F) (ah F (ae (aU (T.eX 3 1 ?_)))))))))))
  let AE:Value:=(.slice vb d.next[k].length vc)
  refine eF (fun(j:Nat) ρ O=> ∃(kb:Option Addr) (kc:Nat),O=([aq kb kc 3 1 (bS ((gd cs d.next[k]).take j)),gC,oV,jD,gu,iG,gK,eP]++(cd 3 qs))∧j≤d.next[k].length∧dv [(0,(.agg #[(vI d.vars),(vI d.start),ph,mF])),(1,(.pointer (aD z1))),(2,(.pointer (aD z2))),(3,vI 0),(4,(.pointer (aD z3))),(5,vI 0),(6,(.pointer (aD z4))),(7,vI (k:Int)),(8,AE),(9,(.slice kb j kc)),(41,AE),(42,vI (d.next[k].length:Int)),(43,vI (j:Int))] ρ) (fun j=>d.next[k].length-j) 0 ?_ ?_
  ·exact⟨none,0,F,bn _,(.of F)⟩
  rintro j ρ O ⟨kb,kc,rfl,hj,hH⟩
  obtain⟨gF,rfl⟩:=hH.elim
  clear hH
  refine ai (ad (cT F F) (ae (aM (aP F (fun hc=>?_) (fun hc=>?_)))))
  ·have l7:j<d.next[k].length:=by omega
   have htj:=(tH j l7).2
   refine aE (aM (aU (ai (ad (dU (i:=j) cL bj F F (aL s1)) (ad (de dP F F (aL s1) gL) (aj F (ae (a7 (ah F (ad (bi 4 cL F F F F) (ah F (ad (FB (i:=d.next[k][j]) cL bj F F (dR (mG 5 F)) (tH j l7).1 (n_▸(tH j l7).2) (by rw[ar];exact(tH j l7).2)) (ad (de dP F F (dR (mG 5 F)) (ij (tH j l7).2)) (ao F (cN (v:=vN (cs[d.next[k][j].toNat])) cL bj F F F (fun z5=>?_))))))))))))))))
   refine ao F (cW 1 cL cL bj F F F F (by rw[ar,ck,iL];omega) (by decide) (Src.row (j:=0) F (by simp)) (by simp[fa]) (by omega) (by decide) (by decide) (fun z6 AC=>?_))
   refine aj F ?_
   let yE:Lx.Item:=aq z6 AC 3 1 ((bS ((gd cs d.next[k]).take j))++[vN (cs[d.next[k][j].toNat])])
   refine dX (O':=([yE,gC,oV,jD,gu,iG,gK,eP]++(cd 3 qs))) (kF [1,1,1,1,1,1,1,1] [aq (aD z5) 1 3 1 [vN (cs[d.next[k][j].toNat])],yE,gC,oV,jD,gu,iG,gK,eP] (cd 3 qs) F F) ?_
   refine ae (a7 (ad (lz F F (by omega)) (ah F (ae ?_))))
   have yA:(gd cs d.next[k]).take (j+1)=(gd cs d.next[k]).take j++[cs[d.next[k][j].toNat]]:=by rw[aH (by rw[iL];exact l7),DB l7 (tH j l7).2]
   exact⟨j+1,by omega,z6,AC,by rw[yA,show bS ((gd cs d.next[k]).take j++[cs[d.next[k][j].toNat]])=bS ((gd cs d.next[k]).take j)++[vN (cs[d.next[k][j].toNat])]from bm],by omega,(.of F)⟩
  have PJ: ¬j<d.next[k].length:=by omega
  refine cK ?_
  have hjf:j=d.next[k].length:=by omega
  have hR:aq kb kc 3 1 (bS ((gd cs d.next[k]).take j))=Rec.sQ 3 ⟨kb,kc,(gd cs d.next[k]).map fun c:Nat=>(c:Int)⟩:=by
   rw[bw (by rw[iL];omega)];simp[Rec.sQ,Function.comp_def]
  refine Jy (fun ρ O=> ∃(vU:Option Addr) (vV:Nat) (sC:Option Addr) (sO:Nat),O=([oI z4 25 [(vI d.vars),(vN (cs.getD d.start.toNat 0)),(.slice vU (qs.length+1) vV),(.slice sC (fs.length+1) sO)],aq vU vV 56 1 ((dm qs)++[(.slice kb j kc)]),aq sC sO 4 1 ((cG fs)++[(.bool d.aY[k])]),gu,iG,gK,eP]++(cd 3 (qs++[⟨kb,kc,(gd cs d.next[k]).map fun c:Nat=>(c:Int)⟩])))∧dv [(0,(.agg #[(vI d.vars),(vI d.start),ph,mF])),(1,(.pointer (aD z1))),(2,(.pointer (aD z2))),(3,vI 0),(4,(.pointer (aD z3))),(5,vI 0),(6,(.pointer (aD z4))),(7,vI (k:Int)),(8,AE),(9,(.slice kb j kc)),(41,AE),(42,vI (d.next[k].length:Int)),(43,vI (j:Int))] ρ) ?_ ?_
  ·let lw:Lx.Item:=aq kb kc 3 1 (bS ((gd cs d.next[k]).take j))
   refine Hm [gC,eP] [15,17] 18 mixed F (fq [1,6] [lw,gC,oV,jD,gu,iG,gK,eP] (cd 3 qs) F F) (fun _ _ _ _ h=>h) ?_
   refine gI 0 F (by kernel_rfl) (a_ cZ F fz F F) ?_
   refine gI 1 F (by kernel_rfl) (bi 0 e_ F F F F) ?_
   refine gI 2 F (by kernel_rfl) (aN F) ?_
   refine gI 5 F (by kernel_rfl) (a_ cZ F dA F F) ?_
   refine gI 6 F (by kernel_rfl) (bi 0 eB F F F F) ?_
   refine gI 7 F (by kernel_rfl) (a_ cZ F dA F F) ?_
   refine gI 8 F (by kernel_rfl) (bi 1 eB F F F F) ?_
   refine gI 9 F (by kernel_rfl) (aN F) ?_
   refine gI 10 F (by kernel_rfl) (dU (i:=k) eB fx F F (aL h.aY) TY (by rw[ar];exact TY)) ?_
   refine gI 11 F (by kernel_rfl) (de AG F F (aL h.aY) (iB TY)) ?_
   refine fW [3,12] (by kernel_rfl) F ⟨⟨_,F,F,cN (v:=(.slice kb j kc)) e_ cV F F F (fun zA=>⟨.inr (fq [2,7] [aq (aD zA) 1 56 1 [(.slice kb j kc)],lw,gC,oV,jD,gu,iG,gK,eP] (cd 3 qs) F F),?_⟩)⟩,⟨_,F,F,cN (v:=(.bool d.aY[k])) eB fx F F F (fun zB=>⟨.inr (fq [2,7] [aq (aD zB) 1 4 1 [(.bool d.aY[k])],lw,gC,oV,jD,gu,iG,gK,eP] (cd 3 qs) F F),?_⟩)⟩,trivial⟩ (by kernel_rfl)
   ·let lu:Lx.Item:=aq (aD zA) 1 56 1 [(.slice kb j kc)]
    refine fW [4,12] (by kernel_rfl) F ⟨⟨_,F,F,cW 3 e_ e_ cV F F F F (by rw[ar];omega) (by decide) (Src.row (j:=0) F (by simp)) (by simp[fa]) (by omega) (by decide) (by decide) (fun vU vV=>⟨.inr (fq [2,7] [lu,lw,gC,aq vU vV 56 1 ((dm qs)++[(.slice kb j kc)]),jD,gu,iG,gK,eP] (cd 3 qs) F F),?_⟩)⟩,⟨_,F,F,cN (v:=(.bool d.aY[k])) eB fx F F F (fun zB=>⟨.inr (fq [3,8] [aq (aD zB) 1 4 1 [(.bool d.aY[k])],lu,lw,gC,oV,jD,gu,iG,gK,eP] (cd 3 qs) F F),?_⟩)⟩,trivial⟩ (by kernel_rfl)
    ·refine kE 14 F (by kernel_rfl) (a_ cZ F fz F F) ?_
     let JP:Lx.Item:=aq vU vV 56 1 ((dm qs)++[(.slice kb j kc)])
     refine fW [12] (by kernel_rfl) F ⟨⟨_,F,F,cN (v:=(.bool d.aY[k])) eB fx F F F (fun zB=>⟨.inr (fq [3,8] [aq (aD zB) 1 4 1 [(.bool d.aY[k])],lu,lw,gC,JP,jD,gu,iG,gK,eP] (cd 3 qs) F F),?_⟩)⟩,trivial⟩ (by kernel_rfl)
     refine fW [13] (by kernel_rfl) F ⟨⟨_,F,F,cW 5 eB eB fx F F F F (by rw[ar];omega) (by decide) (Src.row (j:=0) F (by simp)) (by simp[fa]) (by omega) (by decide) (by decide) (fun sC sO=>⟨.inr (fq [3,8] [aq (aD zB) 1 4 1 [(.bool d.aY[k])],lu,lw,gC,JP,aq sC sO 4 1 ((cG fs)++[(.bool d.aY[k])]),gu,iG,gK,eP] (cd 3 qs) F F),?_⟩)⟩,trivial⟩ (by kernel_rfl)
     refine fW [15] (by kernel_rfl) F ⟨⟨_,F,F,bN (vs:=[(.slice vU (qs.length+1) vV)]) 3 fz F F F F ⟨.inl (by decide),?_⟩⟩,trivial⟩ (by kernel_rfl)
     refine kE 16 F (by kernel_rfl) (a_ cZ F dA F F) ?_
     refine fW [17] (by kernel_rfl) F ⟨⟨_,F,F,bN (vs:=[(.slice sC (fs.length+1) sO)]) 3 dA F F F F ⟨.inl (by decide),?_⟩⟩,trivial⟩ (by kernel_rfl)
     exact dw (by kernel_rfl) ⟨vU,vV,sC,sO,F,(.of F)⟩ (by show Sub _ ([aq (aD zB) 1 4 1 [(.bool d.aY[k])],aq (aD zA) 1 56 1 [(.slice kb j kc)],aq kb kc 3 1 (bS ((gd cs d.next[k]).take j)),oI z4 25 [(vI d.vars),(vN (cs.getD d.start.toNat 0)),(.slice vU (qs.length+1) vV),(.slice sC (fs.length+1) sO)],aq vU vV 56 1 ((dm qs)++[(.slice kb j kc)]),aq sC sO 4 1 ((cG fs)++[(.bool d.aY[k])]),oI z3 56 [(.slice cb d.next.length cc)],aq cb cc 3 1 (bS cs),oI z2 25 [(vI 0),(vI 0),nS,nS],oI z1 25 [(vI d.vars),(vI d.start),(.slice nb d.next.length nc),(.slice fb d.aY.length fc)]]++cd 3 qs);rw[hR];exact gW [aq (aD zB) 1 4 1 [(.bool d.aY[k])],aq (aD zA) 1 56 1 [(.slice kb j kc)]])
    refine fW [4] (by kernel_rfl) F ⟨⟨_,F,F,cW 4 e_ e_ cV F F F F (by rw[ar];omega) (by decide) (Src.row (j:=1) F (by simp)) (by simp[fa]) (by omega) (by decide) (by decide) (fun vU vV=>⟨.inr (fq [3,8] [aq (aD zB) 1 4 1 [(.bool d.aY[k])],lu,lw,gC,aq vU vV 56 1 ((dm qs)++[(.slice kb j kc)]),jD,gu,iG,gK,eP] (cd 3 qs) F F),?_⟩)⟩,trivial⟩ (by kernel_rfl)
    refine kE 14 F (by kernel_rfl) (a_ cZ F fz F F) ?_
    refine fW [13] (by kernel_rfl) F ⟨⟨_,F,F,cW 5 eB eB fx F F F F (by rw[ar];omega) (by decide) (Src.row (j:=0) F (by simp)) (by simp[fa]) (by omega) (by decide) (by decide) (fun sC sO=>⟨.inr (fq [3,8] [aq (aD zB) 1 4 1 [(.bool d.aY[k])],lu,lw,gC,aq vU vV 56 1 ((dm qs)++[(.slice kb j kc)]),aq sC sO 4 1 ((cG fs)++[(.bool d.aY[k])]),gu,iG,gK,eP] (cd 3 qs) F F),?_⟩)⟩,trivial⟩ (by kernel_rfl)
    refine fW [15] (by kernel_rfl) F ⟨⟨_,F,F,bN (vs:=[(.slice vU (qs.length+1) vV)]) 3 fz F F F F ⟨.inl (by decide),?_⟩⟩,trivial⟩ (by kernel_rfl)
    refine kE 16 F (by kernel_rfl) (a_ cZ F dA F F) ?_
    refine fW [17] (by kernel_rfl) F ⟨⟨_,F,F,bN (vs:=[(.slice sC (fs.length+1) sO)]) 3 dA F F F F ⟨.inl (by decide),?_⟩⟩,trivial⟩ (by kernel_rfl)
    exact dw (by kernel_rfl) ⟨vU,vV,sC,sO,F,(.of F)⟩ (by show Sub _ ([aq (aD zB) 1 4 1 [(.bool d.aY[k])],aq (aD zA) 1 56 1 [(.slice kb j kc)],aq kb kc 3 1 (bS ((gd cs d.next[k]).take j)),oI z4 25 [(vI d.vars),(vN (cs.getD d.start.toNat 0)),(.slice vU (qs.length+1) vV),(.slice sC (fs.length+1) sO)],aq vU vV 56 1 ((dm qs)++[(.slice kb j kc)]),aq sC sO 4 1 ((cG fs)++[(.bool d.aY[k])]),oI z3 56 [(.slice cb d.next.length cc)],aq cb cc 3 1 (bS cs),oI z2 25 [(vI 0),(vI 0),nS,nS],oI z1 25 [(vI d.vars),(vI d.start),(.slice nb d.next.length nc),(.slice fb d.aY.length fc)]]++cd 3 qs);rw[hR];exact gW [aq (aD zB) 1 4 1 [(.bool d.aY[k])],aq (aD zA) 1 56 1 [(.slice kb j kc)]])
   refine fW [3] (by kernel_rfl) F ⟨⟨_,F,F,cN (v:=(.slice kb j kc)) e_ cV F F F (fun zA=>⟨.inr (fq [3,8] [aq (aD zA) 1 56 1 [(.slice kb j kc)],aq (aD zB) 1 4 1 [(.bool d.aY[k])],lw,gC,oV,jD,gu,iG,gK,eP] (cd 3 qs) F F),?_⟩)⟩,trivial⟩ (by kernel_rfl)
   refine fW [4] (by kernel_rfl) F ⟨⟨_,F,F,cW 4 e_ e_ cV F F F F (by rw[ar];omega) (by decide) (Src.row (j:=0) F (by simp)) (by simp[fa]) (by omega) (by decide) (by decide) (fun vU vV=>⟨.inr (fq [3,8] [aq (aD zA) 1 56 1 [(.slice kb j kc)],aq (aD zB) 1 4 1 [(.bool d.aY[k])],lw,gC,aq vU vV 56 1 ((dm qs)++[(.slice kb j kc)]),jD,gu,iG,gK,eP] (cd 3 qs) F F),?_⟩)⟩,trivial⟩ (by kernel_rfl)
   refine kE 14 F (by kernel_rfl) (a_ cZ F fz F F) ?_
   refine fW [13] (by kernel_rfl) F ⟨⟨_,F,F,cW 5 eB eB fx F F F F (by rw[ar];omega) (by decide) (Src.row (j:=1) F (by simp)) (by simp[fa]) (by omega) (by decide) (by decide) (fun sC sO=>⟨.inr (fq [3,8] [aq (aD zA) 1 56 1 [(.slice kb j kc)],aq (aD zB) 1 4 1 [(.bool d.aY[k])],lw,gC,aq vU vV 56 1 ((dm qs)++[(.slice kb j kc)]),aq sC sO 4 1 ((cG fs)++[(.bool d.aY[k])]),gu,iG,gK,eP] (cd 3 qs) F F),?_⟩)⟩,trivial⟩ (by kernel_rfl)
   refine fW [15] (by kernel_rfl) F ⟨⟨_,F,F,bN (vs:=[(.slice vU (qs.length+1) vV)]) 3 fz F F F F ⟨.inl (by decide),?_⟩⟩,trivial⟩ (by kernel_rfl)
   refine kE 16 F (by kernel_rfl) (a_ cZ F dA F F) ?_
   refine fW [17] (by kernel_rfl) F ⟨⟨_,F,F,bN (vs:=[(.slice sC (fs.length+1) sO)]) 3 dA F F F F ⟨.inl (by decide),?_⟩⟩,trivial⟩ (by kernel_rfl)
   exact dw (by kernel_rfl) ⟨vU,vV,sC,sO,F,(.of F)⟩ (by show Sub _ ([aq (aD zA) 1 56 1 [(.slice kb j kc)],aq (aD zB) 1 4 1 [(.bool d.aY[k])],aq kb kc 3 1 (bS ((gd cs d.next[k]).take j)),oI z4 25 [(vI d.vars),(vN (cs.getD d.start.toNat 0)),(.slice vU (qs.length+1) vV),(.slice sC (fs.length+1) sO)],aq vU vV 56 1 ((dm qs)++[(.slice kb j kc)]),aq sC sO 4 1 ((cG fs)++[(.bool d.aY[k])]),oI z3 56 [(.slice cb d.next.length cc)],aq cb cc 3 1 (bS cs),oI z2 25 [(vI 0),(vI 0),nS,nS],oI z1 25 [(vI d.vars),(vI d.start),(.slice nb d.next.length nc),(.slice fb d.aY.length fc)]]++cd 3 qs);rw[hR];exact gW [aq (aD zA) 1 56 1 [(.slice kb j kc)],aq (aD zB) 1 4 1 [(.bool d.aY[k])]])
  rintro ρ O ⟨vU,vV,sC,sO,rfl,hH⟩
  obtain⟨gF,rfl⟩:=hH.elim
  clear hH
  refine .inl ⟨F,vU,sC,vV,sO,qs++[⟨kb,kc,(gd cs d.next[k]).map fun c:Nat=>(c:Int)⟩],fs++[d.aY[k]],?_,by omega,?_,?_⟩
  ·simp[Rec.val,iL,hjf]
  ·rw[X_,←zy];simp
  ·rw[X_,nF]
 ·refine⟨none,none,0,0,[],[],?_,bn _,F,F⟩
  rfl
 rintro v O' (⟨ob,ws,oc,wu,qs,fs,rfl,hk,zy,nF⟩|hF)
 rotate_left
 ·exact hF.elim
 refine⟨none,_,F,?_⟩
 refine aM ?_
 have HF:qs.length=(quo d cs).next.length:=by rw[show qs.length=(nums qs).length by simp,zy];rfl
 obtain rfl:fs=(quo d cs).aY:=nF
 rw[HF]
 refine a7 (ad (eu 0 cZ F bL F F F) ?_)
 let tk:Lx.Item:=oI z4 25 [(vI d.vars),(vN (cs.getD d.start.toNat 0)),(.slice ob ((quo d cs).next.length) oc),(.slice ws ((quo d cs).aY.length) wu)]
 let ut:Lx.Item:=oI z1 25 [(vI d.vars),(vI d.start),(.slice nb d.next.length nc),(.slice fb d.aY.length fc)]
 let xl:Lx.Item:=aq ws wu 4 1 (cG (quo d cs).aY)
 let HH:Lx.Item:=oI z3 56 [(.slice cb d.next.length cc)]
 let HJ:Lx.Item:=aq ob oc 56 1 (dm qs)
 let T7:Lx.Item:=aq cb cc 3 1 (bS cs)
 have CA:=fun(w1:World) (hI:Inv w ([tk,HJ,xl,HH,T7,gK,ut]++(cd 3 qs)) w1)=>(haveI:=et hI;Pu w1 (quo d cs) ob ws oc wu (dm qs) ⟨hI.ii (mG 1 F),(show nums qs=(quo d cs).next from zy)▸hI.Vb (fun q hq=>am _ (List.mem_map_of_mem (f:=Rec.sQ 3) hq)),hI.ii (mG 2 F)⟩ hqv hqn)
 refine ao F (bl XA (aX CA) F ?_)
 clear CA
 rintro v O' ⟨N,rfl,BZ,B1,oT,oU,Ya,rfl,rfl,M2⟩
 refine dX (O':=([aq BZ B1 56 1 (dm Ya),aq oT oU 4 1 (cG (ei (quo d cs)).aY),tk,HJ,xl,HH,T7,gK,ut]++((cd 3 Ya)++(cd 3 qs)))) (gW []) ?_
 refine ad (bE (vs:=_) F F) (ad (bE (vs:=_) F F) (ao F (bN (vs:=[(vI (ei (quo d cs)).vars),(vI (ei (quo d cs)).start),(.slice BZ ((ei (quo d cs)).next.length) B1),(.slice oT ((ei (quo d cs)).aY.length) oU)]) 7 bL F F F F ?_)))
 refine aj F (ae (aK (aA ?_)))
 refine jT (vI 0) (i:=7) Tryz.results23 cZ F bL F F F F ?_
 exact⟨[aq BZ B1 56 1 (dm Ya),aq oT oU 4 1 (cG (ei (quo d cs)).aY)]++cd 3 Ya,gW ([tk,HJ,xl,HH,T7,oI z2 25 [(vI (ei (quo d cs)).vars),(vI (ei (quo d cs)).start),(.slice BZ ((ei (quo d cs)).next.length) B1),(.slice oT ((ei (quo d cs)).aY.length) oU)],ut]++cd 3 qs),BZ,B1,oT,oU,Ya,F,F,M2⟩
end Go.Proofs.YtgdbfideeeegmaaGreatDoor

namespace Go.Proofs.YtgdbfideeeegmaaGreatDoor
open Go.Lx Go.RowKit _root_.Go.Proofs.Tryz
end Go.Proofs.YtgdbfideeeegmaaGreatDoor

namespace Go.Proofs.YtgdbfideeeegmaaGreatDoor
open Go.Lx Go.RowKit _root_.Go.Proofs.Tryz
end Go.Proofs.YtgdbfideeeegmaaGreatDoor

namespace Go.Proofs.YtgdbfideeeegmaaGreatDoor
open Go.Lx Go.RowKit _root_.Go.Proofs.Tryz
end Go.Proofs.YtgdbfideeeegmaaGreatDoor

namespace Go.Proofs.YtgdbfideeeegmaaGreatDoor
open Go.Lx Go.RowKit _root_.Go.Proofs.Tryz
end Go.Proofs.YtgdbfideeeegmaaGreatDoor

namespace Go.Proofs.YtgdbfideeeegmaaGreatDoor
open Go.Lx Go.RowKit _root_.Go.Proofs.Tryz
end Go.Proofs.YtgdbfideeeegmaaGreatDoor

namespace Go.Proofs.YtgdbfideeeegmaaGreatDoor
open Go.Lx Go.RowKit _root_.Go.Proofs.Tryz
theorem aa2 (w:World) [dE Tryz.prog w] (d:cU) (nb fb:Option Addr) (nc fc:Nat) (vs:List Value) (h:jt w d nb vs fb) (hb:d.next.length<9223372036854775807) (vY: ∀r∈d.next,r.length<9223372036854775807) (yw:d.aY.length<9223372036854775807) (hn:Valid d→d.next.length<10000):
  cH Tryz.prog 23 [.agg (fw d nb nc fb fc).toArray] w fun v N=> ∃BZ B1 oT oU qs,v=.tuple #[.agg (fw (BA d) BZ B1 oT oU).toArray,.int .i64 (dD d:Int)]∧N=[aq BZ B1 56 1 (dm qs),aq oT oU 4 1 (cG (BA d).aY)]++cd 3 qs∧nums qs=(BA d).next:=by
 unfold BA
 by_cases he:dD d=0
 ·have hv:=eA.1 he
  obtain⟨q1,q2⟩:=Gz hv d.next.length
  rw[he,aO F]
  exact X8 w d nb fb nc fc vs h hv (hn hv) q1 (by have:=hn hv;omega)
 ·rw[az he]
  refine(fO 56 1 (fO 4 1 (T6 w d nb fb nc fc vs h hb vY yw he))).mono ?_
  rintro v N ⟨O2,rfl,O3,rfl,rfl,rfl⟩
  exact⟨none,0,none,0,[],F,F,F⟩
end Go.Proofs.YtgdbfideeeegmaaGreatDoor

namespace Go.Lx
open Go.RowKit
theorem JB {α:Type} {L:List α} {f:α→Bool} {i:Nat} (hi:i<L.length) (h:(L.take i).any f=false) (h2:f L[i]=false):(L.take (i+1)).any f=false:=by
 rw[aH hi,List.any_append,h];simp[h2]
theorem RI {α:Type} {L:List α} {f:α→Bool} {i:Nat} (hi:i<L.length) (h:f L[i]=true):L.any f=true:=
 List.any_eq_true.2 ⟨_,aQ hi,h⟩
end Go.Lx
namespace Go.Lx
end Go.Lx
namespace Go.Lx
end Go.Lx

namespace Go.Proofs.YtgdbfideeeegmaaGreatDoor
open Go.Lx Go.RowKit _root_.Go.Proofs.Tryz
end Go.Proofs.YtgdbfideeeegmaaGreatDoor

namespace Go.Lx
def ki (d:cU) (s:Nat):Nat:=(ie d d.next.length).getD s 0
theorem oO {d:cU} (hv:Val d) {s t:Nat} (hs:s<d.next.length) (ht:t<d.next.length):ki d s=ki d t↔ ∀u,Wd d u→ ¬dst d s t u:=OZ hv hs ht
theorem Ir {d:cU} (hv:Val d) {s t:Nat} (hs:s<d.next.length) (ht:t<d.next.length) (h:ki d s=ki d t):dr d s=dr d t:=by
 have:=(oO hv hs ht).1 h [] (fun x hx=>by cases hx)
 exact Classical.not_not.1 this
theorem E8 {d:cU} (hv:Val d) {s t x:Nat} (hs:s<d.next.length) (ht:t<d.next.length) (hx:x<eh d) (h:ki d s=ki d t):ki d (fm d s x)=ki d (fm d t x):=by
 rw[oO hv (nR hv hs hx) (nR hv ht hx)]
 intro u hu hd
 exact(oO hv hs ht).1 h (x::u) (fun y hy=>by rcases List.mem_cons.1 hy with rfl|hy;exact hx;exact hu y hy) hd
theorem GK {d:cU} {cs:List Nat} (hl:cs.length=d.next.length) (hc:wq cs=cs): ∀k,k≤d.next.length→ ∀c,c<(iS d cs k).1.length→ ∃s,s<k∧cs.getD s 0=c∧(iS d cs k).1[c]? =some ((gd cs (d.next.getD s [])).map fun c:Nat=>(c:Int))∧(iS d cs k).2[c]? =some (dr d s)
 |0,_,c,h=>by simp[iS]at h
 |k+1,hk,c,h=>by
  have ih:=GK hl hc k (by omega)
  have iA:=kU d cs k
  by_cases hn:cs.getD k 0<(iS d cs k).1.length
  ·rw[iS,aO hn]at h⊢
   obtain⟨s,h1,h2⟩:=ih c h
   exact⟨s,by omega,h2⟩
  ·rw[iS,az hn]at h⊢
   by_cases n_:c<(iS d cs k).1.length
   ·obtain⟨s,h1,h2,h3,h4⟩:=ih c n_
    exact⟨s,by omega,h2,by rw[bH n_];exact h3,by rw[bH (by omega)];exact h4⟩
   ·have Yu:c=(iS d cs k).1.length:=by simp at h;omega
    refine⟨k,by omega,?_,?_,?_⟩
    ·have h1:=tM (l:=cs) hl hc.symm k (by omega)
     have h2:=tM (l:=cs) hl hc.symm (k+1) hk
     have nE:k<cs.length:=by omega
     have hg:=ap nE
     have UB:cs.getD k 0=ix cs[k] (dd cs):=by
      have:=lq hg
      rw[hc]at this
      rw[av,this];rfl
     have zl:dd (cs.take (k+1))<+:dd cs:=by
      conv=>rhs;rw[←List.take_append_drop (k+1) cs]
      rw[uK];exact gH _ _
     have hm:cs[k]∈dd (cs.take (k+1)):=j5.2 (by rw[aH nE];exact am _ (List.mem_singleton.2 F))
     have gn:=rO hm
     rw[UB,ig zl hm]
     rw[UB,ig zl hm]at hn
     rw[iS,az (by rw[UB,ig zl hm];exact hn)]at h2
     simp at h2
     omega
    ·rw[Yu,bT (bF _)];simp
    ·rw[Yu,iA.1,bT (bF _)];simp[dr]
def pT (d:cU):cU:=quo d (ie d d.next.length)
theorem pU {d:cU} (hv:Val d):Val (pT d):=(O0 hv d.next.length).1
theorem E9 {d:cU} (hv:Valid d):Valid (pT d):=(Gz hv d.next.length).1
theorem L_ {d:cU} (hv:Val d) {s:Nat} (hs:s<d.next.length):ki d s<(pT d).next.length:=by
 rw[pT,Gx (fu d _) (pE d _)]
 exact LQ (pE d _) (Gw hs)
theorem GL {d:cU} (hv:Val d) {c:Nat} (hc:c<(pT d).next.length): ∃s,s<d.next.length∧ki d s=c∧dr (pT d) c=dr d s∧ ∀x,x<eh d→fm (pT d) c x=ki d (fm d s x):=by
 obtain⟨s,h1,h2,h3,h4⟩:=GK (fu d d.next.length) (pE d _) d.next.length (bF _) c hc
 refine⟨s,h1,h2,?_,?_⟩
 ·show(iS d (ie d d.next.length) d.next.length).2.getD c false=_
  rw[av,h4];rfl
 ·intro x hx
  have sf:(pT d).next.getD c []=(gd (ie d d.next.length) (d.next.getD s [])).map fun c:Nat=>(c:Int):=by
   show(iS d (ie d d.next.length) d.next.length).1.getD c []=_
   rw[av,h3];rfl
  have hls:(d.next.getD s []).length=eh d:=by simp[h1];exact hv.len _ (aQ h1)
  have sU:x<(d.next.getD s []).length:=by omega
  have e1:(d.next.getD s []).getD x 0=(d.next.getD s [])[x]:=by rw[av,ap sU];rfl
  rw[fm,sf,av,bq,gd,bq,ap sU]
  show(((ie d d.next.length).getD (d.next.getD s [])[x].toNat 0:Nat):Int).toNat=ki d (fm d s x)
  rw[Int.toNat_natCast,ki,fm,e1]
theorem uL {d:cU} (hv:Val d) {s x:Nat} (hs:s<d.next.length) (hx:x<eh d):fm (pT d) (ki d s) x=ki d (fm d s x):=by
 obtain⟨s',h1,h2,_,h4⟩:=GL hv (L_ hv hs)
 rw[h4 x hx]
 exact E8 hv h1 hs hx h2
theorem x0 {d:cU} (hv:Val d) {s:Nat} (hs:s<d.next.length):dr (pT d) (ki d s)=dr d s:=by
 obtain⟨s',h1,h2,h3,_⟩:=GL hv (L_ hv hs)
 rw[h3];exact Ir hv h1 hs h2
theorem Ma {d:cU} (hv:Val d) {s:Nat} (hs:s<d.next.length): ∀w,Wd d w→runN (pT d) (ki d s) w=ki d (runN d s w):=by
 refine oX (fun _=>rfl) ?_
 intro w x ih hw
 have Hq:Wd d w:=fun y hy=>hw y (by simp[hy])
 rw[fG,fG,ih Hq,uL hv (lU hv hs w Hq) (hw x (by simp))]
theorem sJ (d:cU):(pT d).start.toNat=ki d d.start.toNat:=by
 show(((ie d d.next.length).getD d.start.toNat 0:Nat):Int).toNat=_
 rw[Int.toNat_natCast];rfl
theorem qS {d:cU} (hv:Val d): ∃r,order d=d.start.toNat::r:=by
 have hp:=jG d 0 d.next.length (bn _)
 obtain⟨r,hr⟩:=hp
 exact⟨r,hr.symm⟩
theorem uM {d:cU} (hv:Val d):Val (ei d):=by
 obtain⟨r,hr⟩:=qS hv
 have hl:=ue hv
 have Ht:0<(order d).length:=by rw[hr];simp
 refine⟨hv.v0,hv.v6,?_,?_,Int.le_refl _,?_,?_,?_⟩
 ·simpa[ei]using Ht
 ·simp[ei]
 ·show(0:Int)<((ei d).next.length:Nat)
  simp only[ei,ar];omega
 ·intro r hr
  obtain⟨o,ho,rfl⟩:=List.mem_map.1 hr
  rw[ar,Dq];rfl
 ·intro r hr x hx
  obtain⟨o,ho,rfl⟩:=List.mem_map.1 hr
  obtain⟨t,ht,rfl⟩:=List.mem_map.1 hx
  refine⟨Int.natCast_nonneg _,?_⟩
  have:=rO (tO hv o ho t ht)
  simp only[ei,ar];omega
theorem E_ {d:cU} (hv:Val d) {s x:Nat} (hs:s∈order d) (hx:x<eh d):fm (ei d) (ix s (order d)) x=ix (fm d s x) (order d):=by
 have hg:=pC hs
 have sf:(ei d).next.getD (ix s (order d)) []=(mN d s).map fun t=>((ix t (order d):Nat):Int):=by
  show((order d).map fun o=>(mN d o).map fun t=>((ix t (order d):Nat):Int)).getD _ []=_
  rw[av,bq,hg];rfl
 rw[fm,sf,av,bq,x3 hx]
 show((ix (fm d s x) (order d):Nat):Int).toNat=_
 rw[Int.toNat_natCast]
theorem Is {d:cU} {s:Nat} (hs:s∈order d):dr (ei d) (ix s (order d))=dr d s:=by
 show((order d).map fun o=>d.aY.getD o false).getD _ false=_
 rw[av,bq,pC hs];rfl
theorem zZ {d:cU} (hv:Val d) {s:Nat} (hs:s∈order d): ∀w,Wd d w→runN d s w∈order d:=by
 refine oX (fun _=>hs) ?_
 intro w x ih hw
 rw[fG]
 exact tO hv _ (ih fun y hy=>hw y (by simp[hy])) _ (bQ (x3 (hw x (by simp))))
theorem It {d:cU} (hv:Val d) {s:Nat} (hs:s∈order d): ∀w,Wd d w→runN (ei d) (ix s (order d)) w=ix (runN d s w) (order d):=by
 refine oX (fun _=>rfl) ?_
 intro w x ih hw
 have Hq:Wd d w:=fun y hy=>hw y (by simp[hy])
 rw[fG,fG,ih Hq,E_ hv (zZ hv hs w Hq) (hw x (by simp))]
theorem z_ {d:cU} (hv:Val d):d.start.toNat∈order d:=by
 obtain⟨r,hr⟩:=qS hv
 rw[hr];simp
theorem Mb {d:cU} (hv:Val d):ix d.start.toNat (order d)=0:=by
 obtain⟨r,hr⟩:=qS hv
 rw[hr];simp[ix]
def iM (d:cU) (w:List Nat):Bool:=dr d (runN d d.start.toNat w)
theorem eE {d:cU} (hv:Val d):d.start.toNat<d.next.length:=by have:=hv.s0;have:=hv.s1;omega
theorem Aa {d:cU} (hv:Val d) {w:List Nat} (hw:Wd d w):iM (ei d) w=iM d w:=by
 have h:=It hv (z_ hv) w hw
 rw[Mb hv]at h
 show dr (ei d) (runN (ei d) 0 w)=_
 rw[h,Is (zZ hv (z_ hv) w hw)];rfl
theorem Me {d:cU} (hv:Val d) {w:List Nat} (hw:Wd d w):iM (pT d) w=iM d w:=by
 unfold iM
 rw[sJ,Ma hv (eE hv) w hw,x0 hv (lU hv (eE hv) w hw)]
theorem Mf {d:cU} (hv:Val d):Val (js d):=uM (pU hv)
theorem ui {d:cU} (hv:Val d) (h:(order d).length≤4096):Valid (ei d):=⟨uM hv,by simpa[ei]using h⟩
theorem Dr {d:cU} (hv:Valid d):Valid (ei d):=ui hv (cn (ue hv.toVal) hv.n4)
theorem oY {d:cU} (hv:Valid d):Valid (js d):=Dr (E9 hv)
theorem sP {d:cU} (hv:Val d) {w:List Nat} (hw:Wd d w):iM (js d) w=iM d w:=
 (Aa (pU hv) hw).trans (Me hv hw)
inductive kj (ρ:Nat→Nat→Prop):List Nat→List Nat→Prop
 |nil:kj ρ [] []
 |cons {a b l m}:ρ a b→kj ρ l m→kj ρ (a::l) (b::m)
theorem kj.append {ρ:Nat→Nat→Prop} {l m l' m':List Nat} (h:kj ρ l m) (h':kj ρ l' m'):kj ρ (l++l') (m++m'):=by
 induction h with
 |nil=>exact h'
 |cons h1 _ ih=>exact .cons h1 ih
theorem kj.len {ρ:Nat→Nat→Prop} {l m:List Nat} (h:kj ρ l m):l.length=m.length:=by
 induction h with
 |nil=>rfl
 |cons _ _ ih=>simp[ih]
theorem kj.get {ρ:Nat→Nat→Prop} {l m:List Nat} (h:kj ρ l m): ∀ {i a b:Nat},l[i]? =some a→m[i]? =some b→ρ a b:=by
 induction h with
 |nil=>intro i a b h;simp at h
 |cons h1 _ ih=>
  intro i a b ha hb
  cases i with
  |zero=>simp at ha hb;subst ha;subst hb;exact h1
  |succ i=>exact ih (by simpa using ha) (by simpa using hb)
section
variable {ρ:Nat→Nat→Prop}
def x4 (ρ:Nat→Nat→Prop):Prop:= ∀a b a' b',ρ a b→ρ a' b'→(a=a'↔b=b')
theorem kj.mem (ho:x4 ρ) {l m:List Nat} (h:kj ρ l m) {a b:Nat} (yJ:ρ a b):a∈l↔b∈m:=by
 induction h with
 |nil=>simp
 |cons h1 _ ih=>rw[dh,dh,ih,ho _ _ _ _ yJ h1]
theorem kj.ix (ho:x4 ρ) {l m:List Nat} (h:kj ρ l m) {a b:Nat} (yJ:ρ a b):Lx.ix a l=Lx.ix b m:=by
 induction h with
 |nil=>rfl
 | @cons x y l m h1 _ ih=>
  simp only[Lx.ix,ih]
  by_cases e:a=x
  ·rw[aO e,aO ((ho _ _ _ _ yJ h1).1 e)]
  ·rw[az e,az (fun h=>e ((ho _ _ _ _ yJ h1).2 h))]
theorem kj.add (ho:x4 ρ) {l m:List Nat} (h:kj ρ l m) {a b:Nat} (yJ:ρ a b):kj ρ (Lx.add l a) (Lx.add m b):=by
 unfold Lx.add
 by_cases e:a∈l
 ·rw[aO e,aO ((h.mem ho yJ).1 e)];exact h
 ·rw[az e,az (fun h9=>e ((h.mem ho yJ).2 h9))];exact h.append (.cons yJ .nil)
theorem kj.foldl (ho:x4 ρ) {xs ys:List Nat} (hx:kj ρ xs ys): ∀ {l m:List Nat},kj ρ l m→kj ρ (xs.foldl Lx.add l) (ys.foldl Lx.add m):=by
 induction hx with
 |nil=>intro l m h;exact h
 |cons h1 _ ih=>intro l m h;exact ih (h.add ho h1)
theorem kj.map {f g:Nat→Nat}: ∀(l:List Nat),(∀x∈l,ρ (f x) (g x))→kj ρ (l.map f) (l.map g)
 | [],_=>.nil
 |x::l,h=>.cons (h x (by simp)) (kj.map l fun y hy=>h y (by simp[hy]))
structure tP (ρ:Nat→Nat→Prop) (p q:cU):Prop where
 vars:p.vars=q.vars
 one:x4 ρ
 start:ρ p.start.toNat q.start.toNat
 step: ∀a b x,ρ a b→x<eh p→ρ (fm p a x) (fm q b x)
 fin: ∀a b,ρ a b→dr p a=dr q b
theorem tP.mN {p q:cU} (h:tP ρ p q) {a b:Nat} (yJ:ρ a b):kj ρ (mN p a) (mN q b):=by
 unfold Lx.mN
 rw[←h.vars]
 exact kj.map _ fun x hx=>h.step a b x yJ (List.mem_range.1 hx)
theorem tP.bfs {p q:cU} (h:tP ρ p q): ∀i,kj ρ (c8 p i) (c8 q i)
 |0=>.cons h.start .nil
 |i+1=>by
  have ih:=h.bfs i
  have hl:=ih.len
  rw[c8,c8,←hl]
  by_cases hi:i<(c8 p i).length
  ·rw[aO hi,aO hi]
   have Hj:i<(c8 q i).length:=by omega
   have g1:=ap hi
   have g2:=ap Hj
   have e1:(c8 p i).getD i 0=(c8 p i)[i]:=by rw[av,g1];rfl
   have e2:(c8 q i).getD i 0=(c8 q i)[i]:=by rw[av,g2];rfl
   rw[e1,e2]
   exact(h.mN (ih.get g1 g2)).foldl h.one ih
  ·rw[az hi,az hi];exact ih
theorem tP.order {p q:cU} (h:tP ρ p q) (hp:Val p) (hq:Val q):kj ρ (order p) (order q):=by
 obtain⟨N,h1,h2,_⟩:=x5 hp
 have e1:=pZ h2 h1
 have hb:=h.bfs N
 have h2q:(c8 q N).length=N:=by rw[←hb.len];exact h2
 have hNq:N≤q.next.length:=by rw[←h2q];exact x6 hq N
 rw[e1,pZ h2q hNq]
 exact hb
theorem tP.ei {p q:cU} (h:tP ρ p q) (hp:Val p) (hq:Val q):ei p=ei q:=by
 have ho:=h.order hp hq
 have rows: ∀ {l m:List Nat},kj ρ l m→(l.map fun o=>(Lx.mN p o).map fun t=>((Lx.ix t (Lx.order p):Nat):Int))=m.map fun o=>(Lx.mN q o).map fun t=>((Lx.ix t (Lx.order q):Nat):Int):=by
  intro l m Xn
  induction Xn with
  |nil=>rfl
  |cons h1 _ ih=>
   rw[cJ,cJ,ih]
   congr 1
   have hs:=h.mN h1
   have each: ∀ {x y:List Nat},kj ρ x y→(x.map fun t=>((Lx.ix t (Lx.order p):Nat):Int))=y.map fun t=>((Lx.ix t (Lx.order q):Nat):Int):=by
    intro x y hxy
    induction hxy with
    |nil=>rfl
    |cons h2 _ ih2=>rw[cJ,cJ,ih2,ho.ix h.one h2]
   exact each hs
 have aau: ∀ {l m:List Nat},kj ρ l m→(l.map fun o=>p.aY.getD o false)=m.map fun o=>q.aY.getD o false:=by
  intro l m Xn
  induction Xn with
  |nil=>rfl
  |cons h1 _ ih=>rw[cJ,cJ,ih];congr 1;exact h.fin _ _ h1
 unfold Lx.ei
 rw[rows ho,aau ho,h.vars]
end
theorem pV {a b:cU} (ha:Val a) (hb:Val b) (yX:a.vars=b.vars) (h: ∀w,Wd a w→iM a w=iM b w):js a=js b:=by
 have Pe: ∀w,Wd a w↔Wd b w:=fun w=>by unfold Wd eh;rw[yX]
 refine tP.ei (ρ:=fun c1 c2=> ∃s t,s<a.next.length∧t<b.next.length∧ki a s=c1∧ki b t=c2∧ ∀w,Wd a w→dr a (runN a s w)=dr b (runN b t w)) ⟨yX,?_,?_,?_,?_⟩ (pU ha) (pU hb)
 ·rintro c1 c2 c1' c2' ⟨s,t,hs,ht,rfl,rfl,hw⟩ ⟨s',t',Rt,Hs,rfl,rfl,Hq⟩
  rw[oO ha hs Rt,oO hb ht Hs]
  constructor
  ·intro h1 u hu hd
   have I3:=(Pe u).2 hu
   refine h1 u I3 ?_
   unfold dst at*
   rw[hw u I3,Hq u I3];exact hd
  ·intro h1 u hu hd
   refine h1 u ((Pe u).1 hu) ?_
   unfold dst at*
   rw[←hw u hu,←Hq u hu];exact hd
 ·exact⟨a.start.toNat,b.start.toNat,eE ha,eE hb,(sJ a).symm,(sJ b).symm,h⟩
 ·rintro c1 c2 x ⟨s,t,hs,ht,rfl,rfl,hw⟩ hx
  have Q6:x<eh a:=hx
  have Uw:x<eh b:=by unfold eh at*;rw[←yX];exact Q6
  refine⟨fm a s x,fm b t x,nR ha hs Q6,nR hb ht Uw,(uL ha hs Q6).symm,(uL hb ht Uw).symm,fun w hww=>?_⟩
  exact hw (x::w) (fun y hy=>by rcases List.mem_cons.1 hy with rfl|hy;exact Q6;exact hww y hy)
 ·rintro c1 c2 ⟨s,t,hs,ht,rfl,rfl,hw⟩
  show dr (pT a) _=dr (pT b) _
  rw[x0 ha hs,x0 hb ht]
  exact hw [] (fun x hx=>by cases hx)
end Go.Lx

namespace Go.Lx
end Go.Lx

namespace Go.Lx
def kp (d:cU) (w:List Nat):Nat:=if dD d≠0 then dD d else if 64<w.length then 4 else if w.any (fun x=>decide (2^d.vars.toNat≤x))=true then 1 else 0
def vW (d:cU) (w:List Nat):Nat:=if kp d w=0 then runN d d.start.toNat w else 0
def Aq (d:cU) (w:List Nat):Bool:=if kp d w=0 then dr d (runN d d.start.toNat w)else false
theorem uu {d:cU} {w:List Nat}:kp d w=0↔Valid d∧w.length≤64∧Wd d w:=by
 unfold kp
 by_cases h:dD d=0
 ·rw[az (by simp[h])]
  by_cases h2:64<w.length
  ·rw[aO h2];exact⟨fun h=>absurd h (by decide),fun h=>by omega⟩
  ·rw[az h2]
   by_cases h3:w.any (fun x=>decide (2^d.vars.toNat≤x))=true
   ·rw[aO h3]
    refine⟨fun h=>absurd h (by decide),fun h=>?_⟩
    obtain⟨x,hx,NM⟩:=List.any_eq_true.1 h3
    have:=h.2.2 x hx
    simp at NM
    unfold eh at this
    omega
   ·rw[az h3]
    refine⟨fun _=>⟨eA.1 h,by omega,fun x hx=>?_⟩,fun _=>rfl⟩
    rcases Nat.lt_or_ge x (eh d)with h4|h4
    ·exact h4
    ·exact absurd (List.any_eq_true.2 ⟨x,hx,ay h4⟩) h3
 ·rw[aO h];exact⟨fun e=>absurd e h,fun hh=>absurd (eA.2 hh.1) h⟩
theorem IE {d:cU} {s:Nat} {w:List Nat} {k:Nat} (hk:k<w.length):runN d s (w.take (k+1))=fm d (runN d s (w.take k)) w[k]:=by
 rw[aH hk,fG]
end Go.Lx

namespace Go.Lx
theorem oZ {d:cU} (hv:Val d): ∀i,∀o∈c8 d i,∃w,Wd d w∧runN d d.start.toNat w=o
 |0,o,h=>by
  simp only[c8,c_]at h
  subst h
  exact⟨[],fun x hx=>(List.not_mem_nil hx).elim,F⟩
 |i+1,o,h=>by
  rw[c8]at h
  split at h
  ·rename_i hi
   rcases(eC _ _).1 h with h|h
   ·exact oZ hv i o h
   ·obtain⟨x,hx,rfl⟩:=List.mem_map.1 h
    have hm:(c8 d i).getD i 0∈c8 d i:=by
     rw[av,ap hi];exact aQ hi
    obtain⟨w,hw,he⟩:=oZ hv i _ hm
    refine⟨w++[x],fun y hy=>?_,by rw[fG,he]⟩
    rcases List.mem_append.1 hy with hy|hy
    ·exact hw y hy
    ·rw[List.mem_singleton.1 hy];exact List.mem_range.1 hx
  ·exact oZ hv i o h
theorem yT {f:Nat→Nat}: ∀ {l:List Nat},l.Nodup→(∀a∈l,∀b∈l,f a=f b→a=b)→(l.map f).Nodup
 | [],_,_=>List.nodup_nil
 |a::l,hn,hi=>by
  obtain⟨h1,h2⟩:=List.nodup_cons.1 hn
  rw[cJ,List.nodup_cons]
  refine⟨fun hm=>?_,yT h2 fun x hx y hy=>hi x (by simp[hx]) y (by simp[hy])⟩
  obtain⟨y,hy,e⟩:=List.mem_map.1 hm
  have:=hi a (by simp) y (by simp[hy]) e.symm
  exact h1 (this▸hy)
theorem wO {d:cU} (hv:Val d):js (ei d)=js d:=pV (uM hv) hv F fun w hw=>Aa hv hw
theorem wC {d:cU} (hv:Val d):js (js d)=js d:=pV (Mf hv) hv F fun w hw=>sP hv hw
theorem Fg {d:cU} (hv:Valid d):BA d=js d:=by unfold BA;rw[aO (eA.2 hv)]
end Go.Lx

namespace Go.Lx
open Go.RowKit
def Fo (a b:cU) (s t:Nat):List Int:=(List.range (eh a)).map fun x=>((fm a s x*b.next.length+fm b t x:Nat):Int)
def rU (a b:cU):List (List Int):=(List.range (a.next.length*b.next.length)).map fun c=>Fo a b (c/b.next.length) (c%b.next.length)
def BB (f:Bool→Bool→Bool) (a b:cU):List Bool:=(List.range (a.next.length*b.next.length)).map fun c=>f (dr a (c/b.next.length)) (dr b (c%b.next.length))
def bI (f:Bool→Bool→Bool) (a b:cU):cU:=⟨a.vars,((a.start.toNat*b.next.length+b.start.toNat:Nat):Int),rU a b,BB f a b⟩
theorem Am {n s t:Nat} (ht:t<n):(s*n+t)/n=s∧(s*n+t)%n=t:=by
 rw[Nat.mul_comm]
 exact⟨by rw[Nat.mul_add_div (by omega),Nat.div_eq_of_lt ht,Nat.add_zero],by rw[Nat.mul_add_mod,Nat.mod_eq_of_lt ht]⟩
theorem yQ {n k s t:Nat} (hs:s<k) (ht:t<n):s*n+t<k*n:=by
 have:=Nat.mul_le_mul_right n (show s+1≤k by omega);rw[Nat.succ_mul]at this;omega
theorem n7 {n k c:Nat} (h:c<k*n):c/n<k∧c%n<n:=by
 have hn:0<n:=by
  rcases Nat.eq_zero_or_pos n with h0|h0
  ·rw[h0,Nat.mul_zero]at h;exact absurd h (Nat.not_lt_zero _)
  ·exact h0
 exact⟨(Nat.div_lt_iff_lt_mul hn).2 h,Nat.mod_lt _ hn⟩
theorem jF (f:Bool→Bool→Bool) (a b:cU):(bI f a b).next.length=a.next.length*b.next.length:=by
 show(rU a b).length=_;unfold rU;simp
theorem kT {f:Bool→Bool→Bool} {a b:cU} (ha:Val a) (hb:Val b) (hv:a.vars=b.vars):Val (bI f a b):=by
 have a0:=eE ha;have b0:=eE hb
 have gn:=yQ a0 b0
 refine {v0:=ha.v0,v6:=ha.v6,n0:=?_,fin:=?_,s0:=?_,s1:=?_,len:=?_,ok:=?_}
 ·rw[jF];omega
 ·rw[jF];show(BB f a b).length=_;unfold BB;simp
 ·show(0:Int)≤((_:Nat):Int);omega
 ·rw[jF];show((_:Nat):Int)<((_:Nat):Int);omega
 ·intro r hr
  obtain⟨c,_,rfl⟩:=List.mem_map.1 (show r∈rU a b from hr)
  unfold Fo;simp;rfl
 ·intro r hr x hx
  obtain⟨c,hc,rfl⟩:=List.mem_map.1 (show r∈rU a b from hr)
  obtain⟨y,hy,rfl⟩:=List.mem_map.1 (show x∈Fo a b _ _ from hx)
  rw[eY]at hc hy
  obtain⟨h1,h2⟩:=n7 hc
  have h3:=(ha.gY h1 hy).1
  have h4:=(hb.gY h2 (by rw[←hv];exact hy)).1
  have:=yQ h3 h4
  rw[jF];omega
theorem DS {f:Bool→Bool→Bool} {a b:cU} (ha:Val a) (hb:Val b) (hv:a.vars=b.vars) (hn:a.next.length*b.next.length≤4096):Valid (bI f a b):=⟨kT ha hb hv,by rw[jF];exact hn⟩
theorem BC {f:Bool→Bool→Bool} {a b:cU} {s t:Nat} (hs:s<a.next.length) (ht:t<b.next.length):dr (bI f a b) (s*b.next.length+t)=f (dr a s) (dr b t):=by
 have hd:=Am (s:=s) ht
 have hc:=yQ hs ht
 show(BB f a b).getD _ false=_
 unfold BB
 rw[av,bq,List.getElem?_range hc]
 simp only[Option.map_some,Option.getD_some,hd.1,hd.2]
theorem yR {f:Bool→Bool→Bool} {a b:cU} {s t x:Nat} (hs:s<a.next.length) (ht:t<b.next.length) (hx:x<eh a):fm (bI f a b) (s*b.next.length+t) x=fm a s x*b.next.length+fm b t x:=by
 have hd:=Am (s:=s) ht
 have hc:=yQ hs ht
 show(((rU a b).getD _ []).getD x 0).toNat=_
 unfold rU
 rw[av (l:=List.map _ _),bq,List.getElem?_range hc]
 simp only[Option.map_some,Option.getD_some,hd.1,hd.2]
 unfold Fo
 rw[av,bq,List.getElem?_range hx]
 exact Int.toNat_natCast _
theorem wB {f:Bool→Bool→Bool} {a b:cU} (ha:Val a) (hb:Val b) (hv:a.vars=b.vars) {s t:Nat} (hs:s<a.next.length) (ht:t<b.next.length): ∀w,Wd a w→runN (bI f a b) (s*b.next.length+t) w=runN a s w*b.next.length+runN b t w:=by
 refine oX (fun _=>rfl) ?_
 intro w x ih hw
 have Y2:Wd a w:=fun y hy=>hw y (by simp[hy])
 have UH:Wd b w:=fun y hy=>by have:=Y2 y hy;unfold eh at this⊢;rw[←hv];exact this
 rw[fG,fG,fG,ih Y2,yR (lU ha hs w Y2) (lU hb ht w UH) (hw x (by simp))]
theorem BD {f:Bool→Bool→Bool} {a b:cU} (ha:Val a) (hb:Val b) (hv:a.vars=b.vars) {w:List Nat} (hw:Wd a w):iM (bI f a b) w=f (iM a w) (iM b w):=by
 have a0:=eE ha;have b0:=eE hb
 have UH:Wd b w:=fun y hy=>by have:=hw y hy;unfold eh at this⊢;rw[←hv];exact this
 unfold iM
 rw[show(bI f a b).start.toNat=a.start.toNat*b.next.length+b.start.toNat from Int.toNat_natCast _,wB ha hb hv a0 b0 w hw,BC (lU ha a0 w hw) (lU hb b0 w UH)]
def ud (f:Bool→Bool→Bool) (a b:cU):cU:=js (bI f a b)
theorem G7 {f:Bool→Bool→Bool} {a b:cU} (ha:Val a) (hb:Val b) (hv:a.vars=b.vars) (hn:a.next.length*b.next.length≤4096):Valid (ud f a b):=oY (DS ha hb hv hn)
theorem Nb {f:Bool→Bool→Bool} {a b:cU} (ha:Val a) (hb:Val b) (hv:a.vars=b.vars) (hn:a.next.length*b.next.length≤4096) {w:List Nat} (hw:Wd a w):iM (ud f a b) w=f (iM a w) (iM b w):=by
 unfold ud;rw[sP (kT ha hb hv) hw,BD ha hb hv hw]
theorem Nc {f:Bool→Bool→Bool} {a b:cU} (ha:Val a) (hb:Val b) (hv:a.vars=b.vars) (hn:a.next.length*b.next.length≤4096):js (ud f a b)=ud f a b:=wC (kT ha hb hv)
theorem IY {f:Bool→Bool→Bool} {a b:cU} (ha:Val a) (hb:Val b) (hv:a.vars=b.vars) {w:List Nat} (hw:Wd a w):iM (ud f a b) w=f (iM a w) (iM b w):=by
 unfold ud;rw[sP (kT ha hb hv) hw,BD ha hb hv hw]
theorem IZ {f:Bool→Bool→Bool} {a b:cU} (ha:Val a) (hb:Val b) (hv:a.vars=b.vars):js (ud f a b)=ud f a b:=wC (kT ha hb hv)
theorem wD {d:cU} (hv:Val d):(js d).next.length≤d.next.length:=by
 have h1:(js d).next.length≤(pT d).next.length:=by
  show(ei (pT d)).next.length≤_
  unfold ei
  rw[ar];exact ue (pU hv)
 have h2:=(kU d (ie d d.next.length) d.next.length).2
 exact cn h1 h2
theorem Nd {f:Bool→Bool→Bool} {a b:cU} (ha:Val a) (hb:Val b) (hv:a.vars=b.vars) (hn:a.next.length*b.next.length≤4096):(ud f a b).next.length≤a.next.length*b.next.length:=by
 rw[←jF f a b];exact wD (kT ha hb hv)
theorem Nf {a b:cU} (ha:Val a) (hb:Val b) (hma:js a=a) (hmb:js b=b) (hv:a.vars=b.vars) (h: ∀w,Wd a w→iM a w=iM b w):a=b:=by
 rw[←hma,←hmb];exact pV ha hb hv h
end Go.Lx

namespace Go.Lx
end Go.Lx

namespace Go.Lx
theorem G_ {d:cU} {w:List Nat} (h:kp d w=0):Aq d w=iM d w:=by unfold Aq iM;rw[aO h]
end Go.Lx

namespace Go.Lx
open Go.RowKit
def fJ (v:Int) (f:Bool):cU:=⟨v,0,[List.replicate (2^v.toNat) 0],[f]⟩
theorem wE {v:Int} (h0:0≤v) (h6:v≤6) (f:Bool):Valid (fJ v f):=by
 have n0:0<(fJ v f).next.length:=by show 0< [_].length;simp
 have s1:(fJ v f).start<((fJ v f).next.length:Int):=by show(0:Int)<(([_].length:Nat):Int);simp
 have len: ∀r∈(fJ v f).next,r.length=2^(fJ v f).vars.toNat:=by
  intro r hr
  rw[List.mem_singleton.1 (show r∈[List.replicate (2^v.toNat) (0:Int)]from hr),iU];rfl
 have ok: ∀r∈(fJ v f).next,∀x∈r,0≤x∧x<((fJ v f).next.length:Int):=by
  intro r hr x hx
  rw[List.mem_singleton.1 (show r∈[List.replicate (2^v.toNat) (0:Int)]from hr)]at hx
  rw[List.eq_of_mem_replicate hx]
  exact⟨Int.le_refl _,by show(0:Int)<(([_].length:Nat):Int);simp⟩
 exact⟨{v0:=h0,v6:=h6,n0:=n0,fin:=rfl,s0:=Int.le_refl _,s1:=s1,len:=len,ok:=ok},by show[_].length≤4096;simp⟩
theorem I0 {v:Int} (h0:0≤v) (h6:v≤6) (f:Bool) {w:List Nat} (hw:Wd (fJ v f) w):iM (fJ v f) w=f:=by
 have hv:=wE h0 h6 f
 have h1:=lU hv (eE hv) w hw
 have h2:runN (fJ v f) (fJ v f).start.toNat w=0:=Nat.lt_one_iff.1 h1
 unfold iM;rw[h2];rfl
end Go.Lx

namespace Go.Lx
open Go.RowKit
def kO (v:Int) (w:List Nat):Prop:= ∀x∈w,x<2^v.toNat
structure HasL (v:Int) (n:Nat) (d:cU) (p:List Nat→Bool):Prop where
 valid:Valid d
 len:d.next.length≤n
 vars:d.vars=v
 iM: ∀w,kO v w→iM d w=p w
theorem HasL.wd {v:Int} {n:Nat} {d:cU} {p:List Nat→Bool} (h:HasL v n d p) {w:List Nat}:Wd d w↔kO v w:=by unfold Wd kO eh;rw[h.vars]
structure fM (v:Int) (n:Nat) (d:cU) (p:List Nat→Bool):Prop extends HasL v n d p where
 min:js d=d
theorem HasL.op {f:Bool→Bool→Bool} {v:Int} {n m:Nat} {a b:cU} {p q:List Nat→Bool} (ha:HasL v n a p) (hb:HasL v m b q) (h:n*m≤4096):fM v (n*m) (ud f a b) (fun w=>f (p w) (q w)):=by
 have hl:a.next.length*b.next.length≤n*m:=Nat.mul_le_mul ha.len hb.len
 have hv:a.vars=b.vars:=by rw[ha.vars,hb.vars]
 refine⟨⟨G7 ha.valid hb.valid hv (by omega),cn (Nd ha.valid hb.valid hv (by omega)) hl,ha.vars,fun w hw=>?_⟩,Nc ha.valid hb.valid hv (by omega)⟩
 rw[Nb ha.valid hb.valid hv (by omega) (ha.wd.2 hw),ha.iM w hw,hb.iM w hw]
theorem HasL.uW {v:Int} {n:Nat} {d:cU} {p:List Nat→Bool} (h:HasL v n d p):fM v n (js d) p:=
 ⟨⟨oY h.valid,cn (wD h.valid) h.len,h.vars,fun w hw=>by rw[sP h.valid (h.wd.2 hw)];exact h.iM w hw⟩,wC h.valid⟩
theorem fM.ext {v:Int} {n m:Nat} {a b:cU} {p q:List Nat→Bool} (ha:fM v n a p) (hb:fM v m b q) (h: ∀w,kO v w→p w=q w):a=b:=
 Nf ha.valid hb.valid ha.min hb.min (by rw[ha.vars,hb.vars]) fun w hw=>by rw[ha.iM w (ha.wd.1 hw),hb.iM w (ha.wd.1 hw),h w (ha.wd.1 hw)]
def rV (x y:Bool):Bool:=x&&y
def DT (x y:Bool):Bool:=x||y
def I1 (x y:Bool):Bool:=x !=y
def wF (x y:Bool):Bool:=x&&!y
def pW (x _y:Bool):Bool:=!x
def n8 (d:cU):cU:=ud pW d d
theorem HasL.not {v:Int} {n:Nat} {d:cU} {p:List Nat→Bool} (h:HasL v n d p) (hn:n*n≤4096):fM v (n*n) (n8 d) (fun w=>!p w):=h.op h hn
end Go.Lx

namespace Go.Lx
open Go.RowKit
end Go.Lx

namespace Go.Lx
open Go.RowKit
theorem uf {f:Bool→Bool→Bool} {a b:cU} (ha:Val a) (hb:Val b) (hv:a.vars=b.vars) {o x:Nat} (ho:o<a.next.length*b.next.length) (hx:x<eh a):
  fm (bI f a b) o x=fm a (o/b.next.length) x*b.next.length+fm b (o%b.next.length) x∧fm (bI f a b) o x<a.next.length*b.next.length:=by
 obtain⟨h1,h2⟩:=n7 ho
 have h3:=yR (f:=f) (a:=a) (b:=b) h1 h2 hx
 rw[Nat.div_add_mod']at h3
 refine⟨h3,?_⟩
 rw[h3]
 exact yQ (ha.gY h1 hx).1 (hb.gY h2 (by rw[←hv];exact hx)).1
theorem kz {f:Bool→Bool→Bool} {a b:cU} (ha:Val a) (hb:Val b) (hv:a.vars=b.vars): ∀i,(c8 (bI f a b) i).Nodup∧ ∀o∈c8 (bI f a b) i,o<a.next.length*b.next.length
 |0=>by
  refine⟨by simp[c8],fun o ho=>?_⟩
  simp only[c8,c_]at ho
  rw[ho,show(bI f a b).start.toNat=a.start.toNat*b.next.length+b.start.toNat from Int.toNat_natCast _]
  exact yQ (eE ha) (eE hb)
 |i+1=>by
  obtain⟨h1,h2⟩:=kz ha hb hv i
  rw[c8]
  split
  ·rename_i hi
   refine mz _ _ h1 h2 (fun t ht=>?_)
   obtain⟨x,hx,rfl⟩:=List.mem_map.1 ht
   refine(uf ha hb hv (h2 _ ?_) (List.mem_range.1 hx)).2
   rw[av,ap hi]
   exact aQ hi
  ·exact⟨h1,h2⟩
theorem ko {f:Bool→Bool→Bool} {a b:cU} (ha:Val a) (hb:Val b) (hv:a.vars=b.vars) (i:Nat):(c8 (bI f a b) i).length≤a.next.length*b.next.length:=eT (kz ha hb hv i).1 (kz ha hb hv i).2
theorem wG {f:Bool→Bool→Bool} {a b:cU} (ha:Val a) (hb:Val b) (hv:a.vars=b.vars) {i o x:Nat} (ho:o<a.next.length*b.next.length) (hx:x≤eh a):
  (kV (bI f a b) i o x).Nodup∧ ∀t∈kV (bI f a b) i o x,t<a.next.length*b.next.length:=by
 obtain⟨h1,h2⟩:=kz (f:=f) ha hb hv i
 exact mz _ _ h1 h2 (fun t ht=>by
  obtain⟨y,hy,rfl⟩:=List.mem_map.1 ht
  exact(uf ha hb hv ho (by have:=List.mem_range.1 hy;omega)).2)
theorem BE {f:Bool→Bool→Bool} {a b:cU} (ha:Val a) (hb:Val b) (hv:a.vars=b.vars) {i o x:Nat} (ho:o<a.next.length*b.next.length) (hx:x≤eh a):
  (kV (bI f a b) i o x).length≤a.next.length*b.next.length:=eT (wG ha hb hv ho hx).1 (wG ha hb hv ho hx).2
theorem yS {d:cU} {i o:Nat} (h:(c8 d i)[i]? =some o):kV d i o (2^d.vars.toNat)=c8 d (i+1):=by rw[ug h];rfl
theorem BF {d:cU} {i o x:Nat} (h:(c8 d i)[i]? =some o) (hx:x≤2^d.vars.toNat):kV d i o x<+:c8 d (i+1):=by
 rw[←yS h]
 unfold kV
 have h1:List.range (2^d.vars.toNat)=List.range x++(List.range (2^d.vars.toNat)).drop x:=by
  have h2:=List.take_append_drop x (List.range (2^d.vars.toNat))
  rw[List.take_range,Nat.min_eq_left hx]at h2
  exact h2.symm
 rw[h1,bm,cO]
 exact gH _ _
theorem DU {d:cU} {i o x:Nat} (h:(c8 d i)[i]? =some o) (hx:x≤2^d.vars.toNat) (hi:i+1≤d.next.length):kV d i o x<+:order d:=
 (BF h hx).trans (jG d _ _ hi)
theorem G8 {d:cU} {i o x:Nat} (h:(c8 d i)[i]? =some o) (hx:x≤2^d.vars.toNat) (hi:i+1≤d.next.length) {t:Nat} (ht:t∈kV d i o x):ix t (kV d i o x)=ix t (order d):=
 (ig (DU h hx hi) ht).symm
end Go.Lx

namespace Go.Lx
open Go.RowKit
def Ng (z a:cU):Prop:= ∀u u',kO z.vars u→kO z.vars u'→runN z z.start.toNat u=runN z z.start.toNat u'→runN a a.start.toNat u=runN a a.start.toNat u'
theorem kC (d:cU) (s:Nat) (u w:List Nat):runN d s (u++w)=runN d (runN d s u) w:=by simp[runN]
theorem I2 {d:cU} {w:List Nat}:Wd d w↔kO d.vars w:=Iff.rfl
theorem Ng.refl (z:cU):Ng z z:=fun _ _ _ _ h=>h
theorem DV {d z:cU} (hd:Val d) (hz:Val z) (hv:z.vars=d.vars) (h:Ng z d):(order d).length≤z.next.length:=by
 classical
 have hr: ∀o∈order d,∃w,Wd d w∧runN d d.start.toNat w=o:=fun o ho=>oZ hd _ o ho
 let g:Nat→Nat:=fun o=>if hx: ∃w,Wd d w∧runN d d.start.toNat w=o then runN z z.start.toNat (Classical.choose hx)else 0
 have hg: ∀o∈order d,∃w,Wd d w∧runN d d.start.toNat w=o∧g o=runN z z.start.toNat w:=fun o ho=>by
  have hx:=hr o ho
  refine⟨Classical.choose hx,(Classical.choose_spec hx).1,(Classical.choose_spec hx).2,?_⟩
  show(if hx:_ then _ else _)=_
  rw[dif_pos hx]
 have wz: ∀w,Wd d w→kO z.vars w:=fun w hw=>by rw[hv];exact hw
 have hn:((order d).map g).Nodup:=yT (vX hd _).1 fun a ha b hb e=>by
  obtain⟨u,hu,rfl,e1⟩:=hg a ha
  obtain⟨u',I3,rfl,e2⟩:=hg b hb
  exact h u u' (wz u hu) (wz u' I3) (by rw[←e1,←e2,e])
 have:=eT (n:=z.next.length) hn fun x hx=>by
  obtain⟨o,ho,rfl⟩:=List.mem_map.1 hx
  obtain⟨u,hu,_,e1⟩:=hg o ho
  rw[e1]
  exact lU hz (eE hz) u (wz u hu)
 simpa using this
theorem pX {f:Bool→Bool→Bool} {a b z:cU} (ha:Val a) (hb:Val b) (hv:a.vars=b.vars) (hz:Val z) (Y3:z.vars=a.vars) (h1:Ng z a) (h2:Ng z b):(order (bI f a b)).length≤z.next.length:=by
 refine DV (kT ha hb hv) hz Y3 fun u u' hu I3 e=>?_
 rw[show(bI f a b).start.toNat=a.start.toNat*b.next.length+b.start.toNat from Int.toNat_natCast _,
  wB ha hb hv (eE ha) (eE hb) u (by rw[I2,←Y3];exact hu),wB ha hb hv (eE ha) (eE hb) u' (by rw[I2,←Y3];exact I3),h1 u u' hu I3 e,h2 u u' hu I3 e]
end Go.Lx

namespace Go.Lx
open Go.RowKit
def DH:cU:=⟨0,0,[],[]⟩
def gU (a b:cU):Nat:=if dD a≠0 then dD a else if dD b≠0 then dD b else if a.vars≠b.vars then 7 else 0
def IJ (f:Bool→Bool→Bool) (a b:cU):cU:=if gU a b=0 then ud f a b else DH
theorem pY {a b:cU}:gU a b=0↔Valid a∧Valid b∧a.vars=b.vars:=by
 unfold gU
 rw[←eA,←eA]
 split
 ·rename_i h;constructor
  ·intro e;exact absurd e h
  ·intro e;exact absurd e.1 h
 ·rename_i h1;split
  ·rename_i h;constructor
   ·intro e;exact absurd e h
   ·intro e;exact absurd e.2.1 h
  ·rename_i h2;split
   ·rename_i h;constructor
    ·intro e;exact absurd e (by decide)
    ·intro e;exact absurd e.2.2 h
   ·rename_i h;constructor
    ·intro _;exact⟨by omega,by omega,Classical.not_not.1 h⟩
    ·intro _;rfl
theorem BG {a b:cU} (h:dD a≠0):gU a b=dD a:=by unfold gU;rw[aO h]
theorem An {a b:cU} (h:dD a=0) (h2:dD b≠0):gU a b=dD b:=by unfold gU;rw[az (by omega),aO h2]
theorem DW {a b:cU} (h:dD a=0) (h2:dD b=0) (h3:a.vars≠b.vars):gU a b=7:=by unfold gU;rw[az (by omega),az (by omega),aO h3]
theorem I4 {f:Bool→Bool→Bool} {a b:cU} (h:gU a b=0):IJ f a b=ud f a b:=by unfold IJ;rw[aO h]
theorem Nh {f:Bool→Bool→Bool} {a b:cU} (h:gU a b≠0):IJ f a b=DH:=by unfold IJ;rw[az h]
def un (n c:Nat):Int×Int:=(((c/n:Nat):Int),((c%n:Nat):Int))
theorem I5 {n c e:Nat} (h:un n c=un n e):c=e:=by
 unfold un at h
 simp only[Prod.mk.injEq]at h
 have h1:c/n=e/n:=by omega
 have h2:c%n=e%n:=by omega
 rw[←Nat.div_add_mod c n,←Nat.div_add_mod e n,h1,h2]
abbrev PA (n c:Nat):List Value:=[.int .i64 ((c/n:Nat):Int),.int .i64 ((c%n:Nat):Int)]
def lI (n:Nat) (ks:List Nat):List Value:=ks.flatMap (PA n)
theorem I6 (n:Nat) (ks:List Nat) (c:Nat):lI n (ks++[c])=lI n ks++PA n c:=by simp[lI]
theorem Ao (n:Nat): ∀ks:List Nat,(lI n ks).length=ks.length*2
 | []=>rfl
 |c::ks=>by
  have:=Ao n ks
  simp only[lI,List.flatMap_cons,aw,bo,bV]at this⊢
  omega
theorem Fp {n:Nat}: ∀ {ks:List Nat} {i c:Nat},ks[i]? =some c→ ∀j (h:j<(PA n c).length),(lI n ks)[i*2+j]? =some (PA n c)[j]
 | [],i,c,h,_,_=>by simp at h
 |e::ks,0,c,h,j,hj=>by
  simp only[List.getElem?_cons_zero,Option.some.injEq]at h
  subst h
  rw[Nat.zero_mul,Nat.zero_add,show lI n (e::ks)=PA n e++lI n ks from F,bH hj]
  exact ap hj
 |e::ks,i+1,c,h,j,hj=>by
  rw[show lI n (e::ks)=PA n e++lI n ks from F,bT (by show 2≤_;omega),show(i+1)*2+j-(PA n e).length=i*2+j by show(i+1)*2+j-2=_;omega]
  exact Fp (by simpa using h) j hj
abbrev pmap (n:Nat) (ks:List Nat):List ((Int×Int)×Nat):=(ks.map (un n)).zipIdx
theorem DX {n c:Nat} {ks:List Nat}:un n c∈ks.map (un n)↔c∈ks:=by
 constructor
 ·intro h
  obtain⟨e,he,h2⟩:=List.mem_map.1 h
  rw[←I5 h2];exact he
 ·exact fun h=>List.mem_map_of_mem h
theorem I7 (n c:Nat): ∀ks:List Nat,ix (un n c) (ks.map (un n))=ix c ks
 | []=>rfl
 |e::ks=>by
  simp only[cJ,ix,I7 n c ks]
  by_cases h:c=e
  ·rw[h];simp
  ·rw[az (fun h2=>h (I5 h2)),az h]
theorem G9 (n:Nat) (ks:List Nat) (c:Nat):pmap n (ks++[c])=pmap n ks++[(un n c,ks.length)]:=by
 show((ks++[c]).map (un n)).zipIdx=_
 rw[bm,List.zipIdx_append];simp
theorem I8 (n:Nat) (ks:List Nat):(pmap n ks).map Prod.fst=ks.map (un n):=mW _ 0
def rE (d:cU) (o:Nat):List Int:=(rW d o).map fun x:Nat=>(x:Int)
theorem rX (d:cU):(ei d).next=(order d).map (rE d):=DY d
theorem DZ (d:cU):(ei d).aY=(order d).map (dr d):=rfl
theorem I9 {d:cU} {i o:Nat} (h:(c8 d i)[i]? =some o) (hi:i≤d.next.length):(order d)[i]? =some o:=by
 obtain⟨hl,e⟩:=List.getElem?_eq_some_iff.1 h
 obtain⟨r,hr⟩:=jG d i d.next.length hi
 show(c8 d d.next.length)[i]? =_
 rw[←hr,bH hl];exact h
theorem take_at {α:Type} {l:List α} {i:Nat} {o:α} (h:l[i]? =some o):l.take (i+1)=l.take i++[o]:=by
 obtain⟨hl,e⟩:=List.getElem?_eq_some_iff.1 h
 rw[aH hl,e]
theorem yU {f:Bool→Bool→Bool} {a b:cU} {o:Nat} (ho:o<a.next.length*b.next.length):dr (bI f a b) o=f (dr a (o/b.next.length)) (dr b (o%b.next.length)):=by
 obtain⟨h1,h2⟩:=n7 ho
 have:=BC (f:=f) h1 h2
 rwa[Nat.div_add_mod']at this
theorem Fq {f:Bool→Bool→Bool} {a b:cU} {N:Nat} (va:Valid a) (vb:Valid b) (hv:a.vars=b.vars) (h:(c8 (bI f a b) N).length=N):order (bI f a b)=c8 (bI f a b) N:=
 pZ h (by have:=ko (f:=f) va vb hv N;rw[jF];omega)
theorem yV (E:TypeId) (qs:List Rec) (r:Rec):cd E (qs++[r])=cd E qs++[r.sQ E]:=bm
theorem Sub.fold (A:List Item) (x:Item) (B S S':List Item) (h:S'=S++[x]):Sub ((A++S')++B) ((A++(x::B))++S):=by
 subst h
 refine⟨_,?_,aZ _⟩
 have h1:(A++(S++[x]))++B=A++(S++(x::B)):=by simp
 have h2:(A++(x::B))++S=A++((x::B)++S):=by simp
 rw[h1,h2]
 exact List.Perm.append_left A List.perm_append_comm
end Go.Lx

namespace Go.Lx
open Go.RowKit
theorem uX {d:cU}:gU d d=dD d:=by
 unfold gU
 by_cases h:dD d=0<;>simp[h]
abbrev UI:DK:=⟨none,0,none,0,[]⟩
theorem Ap {P:Program} {base:World} {f:FuncId} {args:List Value} {O:List Item} {R:Value→List Item→Prop} (II Bo I:TypeId) (h:bW P base f args O R):bW P base f args O (fun v O'=> ∃O2,O'=dI II Bo I DH UI::O2∧R v O2):=
 (fO II 1 (fO Bo 1 h)).PB fun v O' hR=>by
  obtain⟨O2,rfl,O3,rfl,h3⟩:=hR
  exact⟨nums UI.qs=DH.next,[aq Option.none 0 II 1 [],aq Option.none 0 Bo 1 []]++[],O3,F,F,O3,F,h3⟩
theorem o5 {d:cU} (hv:Valid d) {s:Nat} (hs:s<d.next.length):(cG d.aY)[s]? =some (.bool (dr d s)):=by
 have hl:s<d.aY.length:=by rw[hv.fin];exact hs
 rw[iB hl];unfold dr;rw[av,ap hl];rfl
theorem wH {d:cU} (hv:Valid d) {s x:Nat} (hs:s<d.next.length) (hx:x<2^d.vars.toNat):(ints d.next[s])[x]? =some (.int .i64 ((fm d s x:Nat):Int)):=by
 obtain⟨_,_,h2,e⟩:=hv.gY hs hx
 rw[gL h2,e]
end Go.Lx

namespace Go.Lx
open Go.RowKit
theorem wI {v:Int} {n:Nat} {d:cU} {p:List Nat→Bool} (h:HasL v n d p):d.next.length<9223372036854775807∧(∀r∈d.next,r.length<9223372036854775807)∧d.aY.length<9223372036854775807:=
 ⟨by have:=h.valid.n4;omega,h.valid.wJ,by have:=h.valid.fin;have:=h.valid.n4;omega⟩
end Go.Lx

namespace Go.Lx
open Go.RowKit
theorem HasL.le {v:Int} {n m:Nat} {a:cU} {p:List Nat→Bool} (ha:HasL v n a p) (h:a.next.length≤m):HasL v m a p:=⟨ha.valid,h,ha.vars,ha.iM⟩
end Go.Lx

namespace Go.Lx
open Go.RowKit
end Go.Lx

namespace Go.Lx
open Go.RowKit Go.ChangeShapes Go.WideShapes Go.Deep
section
variable {H:Type} {enc:TypeId×Value→H} {P:Program}
theorem rF (hl:laidOutB P=true) {W W':World} {sp':Nat→Bool}: ∀ {ts:List TypeId} {vs:List Value} {ds:List (DataW H)} {ps:List MemPlace},
  (∀t∈ts,P.readableRec t=true∧t<P.types.size)→DataW.TrodAll enc P W 0 (fun _=>true) true ts vs ds ps→(∀p∈ps,W.sameAt W' p)→(∀p∈ps,sp' p.block=true)→DataW.TrodAll enc P W' 0 sp' true ts vs ds ps
 | [],_,_,_,_,h,_,_=>by
  obtain⟨rfl,rfl,rfl⟩:=trodAll_nil h
  rfl
 |t::ts,_,_,_,hr,h,hs,yx=>by
  obtain⟨v,vs1,d,ds1,p,q,rfl,rfl,rfl,h1,h2⟩:=trodAll_cons h
  have ht:=hr t (by simp)
  exact⟨p,q,WideElems.Trod_stays hl ht.1 ht.2 h1 (fun x hx=>hs x (aT _ hx)) (fun x hx=>yx x (aT _ hx)),
   rF hl (fun t ht=>hr t (by simp[ht])) h2 (fun x hx=>hs x (am _ hx)) (fun x hx=>yx x (am _ hx)),F⟩
theorem Jb {f:Func} {s:ChangeSpec} {W W':World} {args:Array Value} {ds gs:List (DataW H)} {before:List MemPlace} {tb:TypeId}
  (hl:laidOutB P=true) (hr: ∀t∈f.params.toList,P.readableRec t=true∧t<P.types.size) (UR:f.resultTypes= #[tb]) (hb:P.underlying tb=some .bool) (hv:s.vars=[])
  (hW:DataW.Whole enc P f.params.toList s.vars false W args.toList ds gs before)
  (h1:(s.fn H ds).results=[.lit (.bool true)]) (h2:(s.fn H ds).args=ds) (h3:(s.fn H ds).vars=[])
  (hB:Below W.heap.size W W'):s.post enc P f false true false false W args (.bool true) W':=by
 have Y9:=hW
 obtain⟨p,q,hA,hV,rfl,hz,hn⟩:=hW
 rw[hv]at hV
 obtain⟨rfl,rfl⟩:=trodVars_none hV
 simp only[c7]at Y9 hz hn
 have gn:=Y9.lt
 have US: ∀x∈p,W.sameAt W' x:=fun x hx=>hB.same (gn x hx)
 have Ft: ∀sp:Nat→Bool,(∀x∈p,sp x.block=true)→DataW.TrodAll enc P W' 0 sp true f.params.toList args.toList (s.fn H (ds++[])).args p:=fun sp yx=>by
  rw[c7,h2]
  exact rF hl hr hA US yx
 have yX: ∀sp:Nat→Bool,DataW.TrodVars enc P W' sp s.vars (s.fn H (ds++[])).vars []:=fun sp=>by
  rw[c7,hv,h3];rfl
 have Fu: ∀(b:Nat) (sp:Nat→Bool) (hd:Bool),DataW.TrodAll enc P W' b sp hd f.resultTypes.toList ((Value.bool true).resultList f.resultTypes.size) (s.fn H (ds++[])).results []:=fun b sp hd=>by
  rw[c7,h1,UR]
  exact trodAll_cons_mk (shut_bool hb _) trodAll_mk0
 have hold: ∀x∈p,(fun b=>decide (b<W.heap.size)) x.block=true:=fun x hx=>by simpa using gn x hx
 refine⟨ds,[],p,[],p,[],Y9,Fu _ _ _,Ft _ hold,yX _,World.keptBut_mono (fun x hx=>⟨hx,?_⟩) (hB.frame _),fun _=>?_⟩
 ·exact Or.inr (by simpa using hx)
 ·refine⟨ok_one UR F (okWide_bool_mk hb _),_,_,([]++p)++[],⟨[]++p,[],trodAll_append (Ft _ (fun _ _=>rfl)) (Fu _ _ _),yX _,F,?_,?_⟩,?_⟩
  ·intro b off hx
   have sU:MemPlace.cell b off∈p:=by simpa using hx
   rw[hB.frozen (p:=⟨b,off,none⟩) (gn _ sU)]
   exact hz b off sU
  ·intro ha;cases ha
  ·intro x hx _
   simpa using hx
theorem Jg {w:World} {a:Addr} {v:Value} (h:w.cell? a=some v):a.spot=none:=by
 unfold World.cell? at h
 cases e:a.spot with
 |none=>rfl
 |some x=>rw[e]at h;split at h<;>simp at h
theorem sV {w:World} {a:Addr} {cs:List Value} (h: ∀i (hi:i<cs.length),w.cell? (a.add i)=some cs[i]):Sl w (some a) cs:=fun i hi=>by
 have h0:=h 0 (by omega)
 have h1:=h i hi
 have h2:a.spot=none:=Jg (a:=a) (by simpa[Addr.add]using h0)
 refine⟨a,F,h2,?_⟩
 have e:a.add i=⟨a.block,a.off+i,none⟩:=by
  unfold Addr.add
  split
  ·rename_i h;subst h
   cases a with
   |mk b o s=>simp at h2;subst h2;rfl
  ·rfl
 rw[←e];exact h1
theorem u0 (e:TypeId): ∀ {l:List (DataW H)} {d:DataW H},d∈l→ ∀m∈d.weights P e,m∈DataW.weightsAll P e l
 | [],_,h,_,_=>by cases h
 |x::l,d,h,m,hm=>by
  rw[DataW.weightsAll,gR]
  rcases List.mem_cons.1 h with rfl|h
  ·exact .inl hm
  ·exact .inr (u0 e h m hm)
theorem u3 {t e:TypeId} {wL spare:List (DataW H)} (ht:P.underlying t=some (.slice e)) (he:0<P.bytesOf e) (h: ∀m∈(DataW.slice wL spare).weights P t,m≤reachBytes):
  wL.length≤reachBytes∧ ∀d∈wL,∀m∈d.weights P e,m≤reachBytes:=by
 have hw:(DataW.slice wL spare).weights P t=(wL.length+spare.length)*P.bytesOf e::(DataW.weightsAll P e wL++DataW.weightsAll P e spare):=by
  rw[DataW.weights,ht]
 rw[hw]at h
 refine⟨?_,fun d hd m hm=>h m (List.mem_cons_of_mem _ (aT _ (u0 e hd m hm)))⟩
 have h1:=h _ List.mem_cons_self
 have h2:=Nat.mul_le_mul_left (wL.length+spare.length) (show 1≤P.bytesOf e from he)
 omega
theorem Nn {n:Int} (h:(Lit.int .u8 n).wf=true):0≤n∧n<256:=by
 simp only[Lit.wf,aJ,cD]at h
 have h1:(0:Int)≤n:=h.1
 have h2:n≤255:=h.2
 omega
theorem He {t e:TypeId} {W:World} {r:Reach} {b0:Nat} {v:Value} {d:DataW H} {p:List MemPlace} (ht:P.underlying t=some (.slice e)) (he:P.underlying e=some (.int .u8)) (ce:P.cellsOf e=1) (be:0<P.bytesOf e)
  (mA:Value.okWide P W r b0 t v) (hw: ∀m∈d.weights P t,m≤reachBytes) (h:DataW.Trod enc P W 0 (fun _=>true) true t v d p):
  ∃(l:List Nat) (b:Option Addr) (c:Nat),v=.slice b l.length c∧(Sl W b (p7 l)∧ ∀x∈l,x<256)∧l.length≤reachBytes:=by
 obtain⟨gq,hT⟩:=h
 have hv:v.cells.toList=[v]:=by
  unfold Value.okWide at mA
  rw[ht]at mA
  simp only at mA
  unfold Cell.okWide Cell.ok at mA
  rw[ht]at mA
  cases v<;>simp_all[Value.cells]
 rcases open_ints ht he ce hT with⟨wM,_⟩|⟨a,len,cap,zs,wM,_,hl,_,hz,hx,Jh,hwz⟩
 ·rw[hv]at wM
  exact⟨[],none,0,by simpa using wM,⟨Sl.nil _ _,fun x hx=>by cases hx⟩,bn _⟩
 ·rw[hv]at wM
  simp only[if_true]at hz
  have hd:d=_:=ax Prod.fst hx
  rw[hd]at hw
  have hb:=(u3 ht be hw).1
  have IL:(zs.take len).length=len:=by rw[ck];omega
  have hwt: ∀z∈zs,0≤z∧z<256:=fun z hz=>Nn (hwz z hz)
  refine⟨(zs.take len).map Int.toNat,some a,cap,?_,⟨?_,?_⟩,?_⟩
  ·rw[ar,IL];simpa using wM
  ·refine sV fun i hi=>?_
   have vE:i<len:=by rw[ar,ar,IL]at hi;exact hi
   have Uj:i<zs.length:=by omega
   have UT:=(hwt _ (aQ Uj)).1
   rw[Jh i Uj]
   simp[Uj,cR UT]
  ·intro x hx
   obtain⟨z,hz',rfl⟩:=List.mem_map.1 hx
   have:=hwt z (List.mem_of_mem_take hz')
   omega
  ·rw[ar,IL]
   have:(lits (H:=H) .u8 (zs.take len)).length=len:=by simp[lits];omega
   omega
end
end Go.Lx

namespace Go.Lx
open Go.RowKit
theorem wN {f:Bool→Bool→Bool} {v:Int} {n m N:Nat} {a b:cU} {p q:List Nat→Bool} (ha:HasL v n a p) (hb:HasL v m b q) (h:(order (bI f a b)).length≤N) (hN:N≤4096):fM v N (ud f a b) (fun w=>f (p w) (q w)):=by
 have hv:a.vars=b.vars:=by rw[ha.vars,hb.vars]
 have vD:Val (bI f a b):=kT ha.valid.toVal hb.valid.toVal hv
 have vR:Valid (ei (bI f a b)):=ui vD (cn h hN)
 have e:ud f a b=js (ei (bI f a b)):=(wO vD).symm
 have hl:(js (ei (bI f a b))).next.length≤(ei (bI f a b)).next.length:=wD vR.toVal
 have hr:(ei (bI f a b)).next.length=(order (bI f a b)).length:=by simp[ei]
 refine⟨⟨?_,?_,ha.vars,fun w hw=>?_⟩,IZ ha.valid.toVal hb.valid.toVal hv⟩
 ·rw[e];exact oY vR
 ·rw[e];omega
 ·rw[IY ha.valid.toVal hb.valid.toVal hv (ha.wd.2 hw),ha.iM w hw,hb.iM w hw]
end Go.Lx

namespace Go.Lx
open Go.RowKit
end Go.Lx

namespace Go.Lx
open Go.RowKit
end Go.Lx

namespace Go.Lx
open Go.RowKit
end Go.Lx

namespace Go.Lx
open Go.RowKit
abbrev cC (a g:cU) (j k:DK):List Value:=[.int .i64 a.vars,.int .i64 a.start,.slice j.nb a.next.length j.nc,.slice j.fb a.aY.length j.fc,.int .i64 g.vars,.int .i64 g.start,.slice k.nb g.next.length k.nc,.slice k.fb g.aY.length k.fc]
abbrev bC (e:Value) (a g:cU) (j k:DK):List Value:=e::cC a g j k
end Go.Lx
namespace Go.Lx
end Go.Lx

namespace Go.Lx
open Go.RowKit
end Go.Lx

namespace Go.Lx
open Go.RowKit
section
variable {v:Int} {px py p q p1 q1 p2 q2 p3 q3:List Nat→Bool}
end
section
variable {z x a b c d:cU} {px p q p2 q2:List Nat→Bool}
end
section
variable {v:Int} {px py p q p1 q1 p2 q2 p3 q3:List Nat→Bool}
theorem fi {P Q:List Nat→Prop} (h: ∀w,P w↔Q w):(∀w,kO v w→P w)↔ ∀w,kO v w→Q w:=forall_congr' fun w=>forall_congr' fun _=>h w
theorem fc {P Q R:List Nat→Prop} (h: ∀w,P w↔Q w∧R w):(∀w,kO v w→P w)↔(∀w,kO v w→Q w)∧ ∀w,kO v w→R w:=
 ⟨fun a=>⟨fun w hw=>((h w).1 (a w hw)).1,fun w hw=>((h w).1 (a w hw)).2⟩,fun a w hw=>(h w).2 ⟨a.1 w hw,a.2 w hw⟩⟩
end
end Go.Lx

namespace Go.Lx
open Go.RowKit
end Go.Lx
namespace Go.Lx
end Go.Lx

namespace Go.Lx
open Go.RowKit Go.ChangeShapes Go.WideShapes Go.Deep
section
variable {H:Type} {enc:TypeId×Value→H} {P:Program}
end
end Go.Lx

namespace Go.Lx
open Go.RowKit Go.Sort
theorem rN {α:Type} [Inhabited α] (enc:α→Value) (off:Nat) (d:Array α) (c:Array Value):(putCells enc off d c).size=c.size:=by simp[putCells]
theorem vx {α:Type} [Inhabited α] (enc:α→Value) (off:Nat) (d:Array α) (c:Array Value) {i:Nat} (hi:i<d.size) (hc:off+i<c.size):(putCells enc off d c)[off+i]? =some (enc d[i]!):=by
 simp only[putCells,Array.getElem?_mapIdx,Array.getElem?_eq_getElem hc,Option.map_some]
 rw[aO ⟨by omega,by omega⟩,show off+i-off=i by omega]
theorem Inv.LJ {base w:World} {O:List Item} {i lD off cap:Nat} {T:TypeId} {zs ys:List Int} (hI:Inv base O w) (hO:O[i]? =some (aq (some ⟨lD,off,none⟩) cap T 1 (ints zs))) (hl:ys.length=zs.length) (n:Nat) (os:Array Obj):
  Inv base (O.set i (aq (some ⟨lD,off,none⟩) cap T 1 (ints ys))) (Go.Sort.grow (putRow (Value.int .i64) (Sort.ahead w n) lD off ys.toArray) os):=by
 obtain⟨_,full,hb,n_,TR,zQ⟩:=hI.row hO
 have gn:lD<w.heap.size:=(Array.getElem?_eq_some_iff.1 hb).1
 have xW:(Go.Sort.grow (putRow (Value.int .i64) (Sort.ahead w n) lD off ys.toArray) os).heap=(w.heap.modify lD (onCells (putCells (Value.int .i64) off ys.toArray)))++os:=rfl
 refine hI.rY hO F F F ?_ (fun b Yx hk=>?_) ⟨F,putCells (Value.int .i64) off ys.toArray full,?_,?_,?_,fun j hj=>?_⟩ (fun k hk=>.inl hk) (by simp[aq])
 ·rw[xW];simp
 ·rw[xW,Array.getElem?_append_left (by simpa using Yx),Array.getElem?_modify,az (fun e=>hk (by simp[aq,e]))]
 ·rw[xW,Array.getElem?_append_left (by simpa using gn),Array.getElem?_modify,aO F,hb];rfl
 ·simp only[ar]at n_⊢;omega
 ·rw[rN];exact TR
 ·have si:j<ys.length:=by simpa using hj
  have aal:zs.length≤cap*1:=by simpa using n_
  have aam:off+cap*1≤full.size:=TR
  show(putCells (Value.int .i64) off ys.toArray full)[off+j]? =_
  rw[vx _ _ _ _ (by simpa using si) (by omega)]
  simp[si]
theorem Aj {base w:World} {O:List Item} {i lD off cap:Nat} {T:TypeId} {zs:List Int} (hI:Inv base O w) (hO:O[i]? =some (aq (some ⟨lD,off,none⟩) cap T 1 (ints zs))):Holds (Value.int .i64) w lD off zs.toArray∧lD<w.heap.size:=by
 obtain⟨_,full,hb,n_,TR,zQ⟩:=hI.row hO
 refine⟨fun j hj=>?_,(Array.getElem?_eq_some_iff.1 hb).1⟩
 have si:j<zs.length:=by simpa using hj
 have h9:=zQ j (by simpa using si)
 constructor
 ·simp only[World.cell?,hb]
  simp at h9
  simp[h9,si]
 ·simp[World.frozen?,hb]
end Go.Lx

