/- Contracts of functions of the program, and what they answer. Conditions: those each theorem names. -/
import Derived.Test.YtgdbfideeeegmaaGreatDoorA2
import Derived.Test.YtgdbfideeeegmaaGreatDoorA3
set_option linter.unusedSectionVars false
set_option linter.unusedSimpArgs false
set_option linter.unusedVariables false
set_option linter.unnecessarySimpa false
set_option maxHeartbeats 8000000
set_option maxRecDepth 20000
namespace Go.Proofs.YtgdbfideeeegmaaGreatDoor
open Go.Lx Go.RowKit _root_.Go.Proofs.Tryz
theorem MD (w:World) [cG Tryz.prog w] (d:bU) (nb fb:Option Addr) (nc fc:Nat) (vs:List Value) (h:fZ w d nb vs fb) (hv:Valid d) (hn:d.next.length<10000):
  bI Tryz.prog 52 [.agg (dB d nb nc fb fc).toArray] w fun v N=> ∃zX zY mK mL qs,v=.tuple #[.agg (dB (db d) zX zY mK mL).toArray,vI 0]∧N=[am zX zY 56 1 (bO qs),am mK mL 4 1 (bf (db d).ax)]++a_ 3 qs∧nums qs=(db d).next:=by
 refine aw func52 F ntmps52 F ?_
 have he:=dq.2 hv
 have hb:d.next.length<9223372036854775807:=by omega
 have rQ: ∀r∈d.next,r.length<9223372036854775807:=hv.uA
 have tN:d.ax.length<9223372036854775807:=by have:=hv.fin;omega
 have Oy:=hv.n0
 have x3:=hv.s0
 have MM:=hv.s1
 have pm:d.start.toNat<d.next.length:=by omega
 refine ai (ak F (cH (cs:=[(vI d.vars),(vI d.start),(.slice nb d.next.length nc),(.slice fb d.ax.length fc)]) F F (fun z1=>?_)))
 refine ak F (aR aY F (fun z2=>?_))
 refine aj F (ae (aB (ai (ad (dh 1 bW F aY F F F) ?_))))
 have AL:=fun(w1:World) (hI:Inv w [oI z2 25 [(vI 0),(vI 0),nS,nS],oI z1 25 [(vI d.vars),(vI d.start),(.slice nb d.next.length nc),(.slice fb d.ax.length fc)]] w1)=>(haveI:=di hI;gF w1 d nb fb nc fc vs (hI.zP h) hb rQ tN)
 refine ak F (aP tA (aI AL) F ?_)
 clear AL
 rintro v O' ⟨N,rfl,rfl,rfl⟩
 rw[he]
 refine aj F (ae (ai (ah F (ad (cT F F) (ae (aL F (av ?_)))))))
 refine e7 (fun ρ O=> ∃(bA bB bC bD:Nat),O=[oI bC 56 [(.slice (aD bA) 1 1)],oI bD 23 [(.slice (aD bB) d.next.length d.next.length)],am (aD bA) 1 3 1 [(vI d.start)],am (aD bB) d.next.length 4 1 (List.replicate d.next.length (.bool false)),oI z2 25 [(vI 0),(vI 0),nS,nS],oI z1 25 [(vI d.vars),(vI d.start),(.slice nb d.next.length nc),(.slice fb d.ax.length fc)]]∧cw [(0,(.agg #[(vI d.vars),(vI d.start),(.slice nb d.next.length nc),(.slice fb d.ax.length fc)])),(1,(.pointer (aD z1))),(2,(.pointer (aD z2))),(3,vI 0),(4,vI ((0:Nat):Int)),(5,(.pointer (aD bC))),(6,(.pointer (aD bD)))] ρ) ?_ ?_
 ·refine ma [oI z1 25 [(vI d.vars),(vI d.start),(.slice nb d.next.length nc),(.slice fb d.ax.length fc)]] 11 mixed F (ar [1] F) (fun _ _ _ _ h=>h) ?_
  refine bF 0 F (by kernel_rfl) (aN bW F aO F F) ?_
  refine bF 1 F (by kernel_rfl) (aQ 0 cS F F F F) ?_
  refine bF 3 F (by kernel_rfl) (aN bW F dM F F) ?_
  refine bF 4 F (by kernel_rfl) (aQ 0 du F F F F) ?_
  refine bF 5 F (by kernel_rfl) (bS du F) ?_
  refine aM [2,6,7,8] (by kernel_rfl) F ⟨⟨_,F,F,bM (v:=(vI d.start)) bK aO F F F (fun bA=>⟨ar [2] F,?_⟩)⟩,⟨_,F,F,bX (m:=d.next.length) df dU F F (by omega) (by omega) (fun bB=>⟨ar [2] F,?_⟩)⟩,⟨_,F,F,aR bV F (fun bC=>⟨ar [2] F,?_⟩)⟩,⟨_,F,F,aR cA F (fun bD=>⟨ar [2] F,?_⟩)⟩,trivial⟩
  ·refine aM [6,7,8] (by kernel_rfl) F ⟨⟨_,F,F,bX (m:=d.next.length) df dU F F (by omega) (by omega) (fun bB=>⟨ar [3] F,?_⟩)⟩,⟨_,F,F,aR bV F (fun bC=>⟨ar [3] F,?_⟩)⟩,⟨_,F,F,aR cA F (fun bD=>⟨ar [3] F,?_⟩)⟩,trivial⟩
   ·refine aM [7,8] (by kernel_rfl) F ⟨⟨_,F,F,aR bV F (fun bC=>⟨ar [4] F,?_⟩)⟩,⟨_,F,F,aR cA F (fun bD=>⟨ar [4] F,?_⟩)⟩,trivial⟩
    ·refine aM [8] (by kernel_rfl) F ⟨⟨_,F,F,aR cA F (fun bD=>⟨ar [5] F,?_⟩)⟩,trivial⟩
     refine aM [9] (by kernel_rfl) F ⟨⟨_,F,F,a8 (vs:=[(.slice (aD bA) 1 1)]) 1 bV F F F F ⟨ar [5] F,?_⟩⟩,trivial⟩
     refine aM [10] (by kernel_rfl) F ⟨⟨_,F,F,a8 (vs:=[(.slice (aD bB) d.next.length d.next.length)]) 0 cA F F F F ⟨ar [5] F,?_⟩⟩,trivial⟩
     exact cz (by kernel_rfl) ⟨bA,bB,bC,bD,F,(.of F)⟩ (ar [1,0,1,0,0,0] F)
    refine aM [7] (by kernel_rfl) F ⟨⟨_,F,F,aR bV F (fun bC=>⟨ar [5] F,?_⟩)⟩,trivial⟩
    refine aM [9] (by kernel_rfl) F ⟨⟨_,F,F,a8 (vs:=[(.slice (aD bA) 1 1)]) 0 bV F F F F ⟨ar [5] F,?_⟩⟩,trivial⟩
    refine aM [10] (by kernel_rfl) F ⟨⟨_,F,F,a8 (vs:=[(.slice (aD bB) d.next.length d.next.length)]) 1 cA F F F F ⟨ar [5] F,?_⟩⟩,trivial⟩
    exact cz (by kernel_rfl) ⟨bA,bB,bC,bD,F,(.of F)⟩ (ar [0,0,1,0,0,0] F)
   ·refine aM [6,8] (by kernel_rfl) F ⟨⟨_,F,F,bX (m:=d.next.length) df dU F F (by omega) (by omega) (fun bB=>⟨ar [4] F,?_⟩)⟩,⟨_,F,F,aR cA F (fun bD=>⟨ar [4] F,?_⟩)⟩,trivial⟩
    ·refine aM [8] (by kernel_rfl) F ⟨⟨_,F,F,aR cA F (fun bD=>⟨ar [5] F,?_⟩)⟩,trivial⟩
     refine aM [9] (by kernel_rfl) F ⟨⟨_,F,F,a8 (vs:=[(.slice (aD bA) 1 1)]) 2 bV F F F F ⟨ar [5] F,?_⟩⟩,trivial⟩
     refine aM [10] (by kernel_rfl) F ⟨⟨_,F,F,a8 (vs:=[(.slice (aD bB) d.next.length d.next.length)]) 0 cA F F F F ⟨ar [5] F,?_⟩⟩,trivial⟩
     exact cz (by kernel_rfl) ⟨bA,bB,bC,bD,F,(.of F)⟩ (ar [2,0,1,0,0,0] F)
    refine aM [6,9] (by kernel_rfl) F ⟨⟨_,F,F,bX (m:=d.next.length) df dU F F (by omega) (by omega) (fun bB=>⟨ar [5] F,?_⟩)⟩,⟨_,F,F,a8 (vs:=[(.slice (aD bA) 1 1)]) 1 bV F F F F ⟨ar [4] F,?_⟩⟩,trivial⟩
    ·refine aM [9] (by kernel_rfl) F ⟨⟨_,F,F,a8 (vs:=[(.slice (aD bA) 1 1)]) 2 bV F F F F ⟨ar [5] F,?_⟩⟩,trivial⟩
     refine aM [10] (by kernel_rfl) F ⟨⟨_,F,F,a8 (vs:=[(.slice (aD bB) d.next.length d.next.length)]) 1 cA F F F F ⟨ar [5] F,?_⟩⟩,trivial⟩
     exact cz (by kernel_rfl) ⟨bA,bB,bC,bD,F,(.of F)⟩ (ar [2,1,1,0,0,0] F)
    refine aM [6] (by kernel_rfl) F ⟨⟨_,F,F,bX (m:=d.next.length) df dU F F (by omega) (by omega) (fun bB=>⟨ar [5] F,?_⟩)⟩,trivial⟩
    refine aM [10] (by kernel_rfl) F ⟨⟨_,F,F,a8 (vs:=[(.slice (aD bB) d.next.length d.next.length)]) 1 cA F F F F ⟨ar [5] F,?_⟩⟩,trivial⟩
    exact cz (by kernel_rfl) ⟨bA,bB,bC,bD,F,(.of F)⟩ (ar [2,1,1,0,0,0] F)
   refine aM [6,7] (by kernel_rfl) F ⟨⟨_,F,F,bX (m:=d.next.length) df dU F F (by omega) (by omega) (fun bB=>⟨ar [4] F,?_⟩)⟩,⟨_,F,F,aR bV F (fun bC=>⟨ar [4] F,?_⟩)⟩,trivial⟩
   ·refine aM [7] (by kernel_rfl) F ⟨⟨_,F,F,aR bV F (fun bC=>⟨ar [5] F,?_⟩)⟩,trivial⟩
    refine aM [9] (by kernel_rfl) F ⟨⟨_,F,F,a8 (vs:=[(.slice (aD bA) 1 1)]) 0 bV F F F F ⟨ar [5] F,?_⟩⟩,trivial⟩
    refine aM [10] (by kernel_rfl) F ⟨⟨_,F,F,a8 (vs:=[(.slice (aD bB) d.next.length d.next.length)]) 2 cA F F F F ⟨ar [5] F,?_⟩⟩,trivial⟩
    exact cz (by kernel_rfl) ⟨bA,bB,bC,bD,F,(.of F)⟩ (ar [0,1,1,0,0,0] F)
   refine aM [6,9] (by kernel_rfl) F ⟨⟨_,F,F,bX (m:=d.next.length) df dU F F (by omega) (by omega) (fun bB=>⟨ar [5] F,?_⟩)⟩,⟨_,F,F,a8 (vs:=[(.slice (aD bA) 1 1)]) 0 bV F F F F ⟨ar [4] F,?_⟩⟩,trivial⟩
   ·refine aM [9] (by kernel_rfl) F ⟨⟨_,F,F,a8 (vs:=[(.slice (aD bA) 1 1)]) 1 bV F F F F ⟨ar [5] F,?_⟩⟩,trivial⟩
    refine aM [10] (by kernel_rfl) F ⟨⟨_,F,F,a8 (vs:=[(.slice (aD bB) d.next.length d.next.length)]) 2 cA F F F F ⟨ar [5] F,?_⟩⟩,trivial⟩
    exact cz (by kernel_rfl) ⟨bA,bB,bC,bD,F,(.of F)⟩ (ar [1,1,1,0,0,0] F)
   refine aM [6] (by kernel_rfl) F ⟨⟨_,F,F,bX (m:=d.next.length) df dU F F (by omega) (by omega) (fun bB=>⟨ar [5] F,?_⟩)⟩,trivial⟩
   refine aM [10] (by kernel_rfl) F ⟨⟨_,F,F,a8 (vs:=[(.slice (aD bB) d.next.length d.next.length)]) 2 cA F F F F ⟨ar [5] F,?_⟩⟩,trivial⟩
   exact cz (by kernel_rfl) ⟨bA,bB,bC,bD,F,(.of F)⟩ (ar [1,1,1,0,0,0] F)
  ·refine aM [2,7,8] (by kernel_rfl) F ⟨⟨_,F,F,bM (v:=(vI d.start)) bK aO F F F (fun bA=>⟨ar [3] F,?_⟩)⟩,⟨_,F,F,aR bV F (fun bC=>⟨ar [3] F,?_⟩)⟩,⟨_,F,F,aR cA F (fun bD=>⟨ar [3] F,?_⟩)⟩,trivial⟩
   ·refine aM [7,8] (by kernel_rfl) F ⟨⟨_,F,F,aR bV F (fun bC=>⟨ar [4] F,?_⟩)⟩,⟨_,F,F,aR cA F (fun bD=>⟨ar [4] F,?_⟩)⟩,trivial⟩
    ·refine aM [8] (by kernel_rfl) F ⟨⟨_,F,F,aR cA F (fun bD=>⟨ar [5] F,?_⟩)⟩,trivial⟩
     refine aM [9] (by kernel_rfl) F ⟨⟨_,F,F,a8 (vs:=[(.slice (aD bA) 1 1)]) 1 bV F F F F ⟨ar [5] F,?_⟩⟩,trivial⟩
     refine aM [10] (by kernel_rfl) F ⟨⟨_,F,F,a8 (vs:=[(.slice (aD bB) d.next.length d.next.length)]) 0 cA F F F F ⟨ar [5] F,?_⟩⟩,trivial⟩
     exact cz (by kernel_rfl) ⟨bA,bB,bC,bD,F,(.of F)⟩ (ar [1,0,0,0,0,0] F)
    refine aM [7] (by kernel_rfl) F ⟨⟨_,F,F,aR bV F (fun bC=>⟨ar [5] F,?_⟩)⟩,trivial⟩
    refine aM [9] (by kernel_rfl) F ⟨⟨_,F,F,a8 (vs:=[(.slice (aD bA) 1 1)]) 0 bV F F F F ⟨ar [5] F,?_⟩⟩,trivial⟩
    refine aM [10] (by kernel_rfl) F ⟨⟨_,F,F,a8 (vs:=[(.slice (aD bB) d.next.length d.next.length)]) 1 cA F F F F ⟨ar [5] F,?_⟩⟩,trivial⟩
    exact cz (by kernel_rfl) ⟨bA,bB,bC,bD,F,(.of F)⟩ (ar [0,0,0,0,0,0] F)
   ·refine aM [2,8] (by kernel_rfl) F ⟨⟨_,F,F,bM (v:=(vI d.start)) bK aO F F F (fun bA=>⟨ar [4] F,?_⟩)⟩,⟨_,F,F,aR cA F (fun bD=>⟨ar [4] F,?_⟩)⟩,trivial⟩
    ·refine aM [8] (by kernel_rfl) F ⟨⟨_,F,F,aR cA F (fun bD=>⟨ar [5] F,?_⟩)⟩,trivial⟩
     refine aM [9] (by kernel_rfl) F ⟨⟨_,F,F,a8 (vs:=[(.slice (aD bA) 1 1)]) 2 bV F F F F ⟨ar [5] F,?_⟩⟩,trivial⟩
     refine aM [10] (by kernel_rfl) F ⟨⟨_,F,F,a8 (vs:=[(.slice (aD bB) d.next.length d.next.length)]) 0 cA F F F F ⟨ar [5] F,?_⟩⟩,trivial⟩
     exact cz (by kernel_rfl) ⟨bA,bB,bC,bD,F,(.of F)⟩ (ar [2,0,0,0,0,0] F)
    refine aM [2] (by kernel_rfl) F ⟨⟨_,F,F,bM (v:=(vI d.start)) bK aO F F F (fun bA=>⟨ar [5] F,?_⟩)⟩,trivial⟩
    refine aM [9] (by kernel_rfl) F ⟨⟨_,F,F,a8 (vs:=[(.slice (aD bA) 1 1)]) 2 bV F F F F ⟨ar [5] F,?_⟩⟩,trivial⟩
    refine aM [10] (by kernel_rfl) F ⟨⟨_,F,F,a8 (vs:=[(.slice (aD bB) d.next.length d.next.length)]) 1 cA F F F F ⟨ar [5] F,?_⟩⟩,trivial⟩
    exact cz (by kernel_rfl) ⟨bA,bB,bC,bD,F,(.of F)⟩ (ar [2,1,0,0,0,0] F)
   refine aM [2,7] (by kernel_rfl) F ⟨⟨_,F,F,bM (v:=(vI d.start)) bK aO F F F (fun bA=>⟨ar [4] F,?_⟩)⟩,⟨_,F,F,aR bV F (fun bC=>⟨ar [4] F,?_⟩)⟩,trivial⟩
   ·refine aM [7] (by kernel_rfl) F ⟨⟨_,F,F,aR bV F (fun bC=>⟨ar [5] F,?_⟩)⟩,trivial⟩
    refine aM [9] (by kernel_rfl) F ⟨⟨_,F,F,a8 (vs:=[(.slice (aD bA) 1 1)]) 0 bV F F F F ⟨ar [5] F,?_⟩⟩,trivial⟩
    refine aM [10] (by kernel_rfl) F ⟨⟨_,F,F,a8 (vs:=[(.slice (aD bB) d.next.length d.next.length)]) 2 cA F F F F ⟨ar [5] F,?_⟩⟩,trivial⟩
    exact cz (by kernel_rfl) ⟨bA,bB,bC,bD,F,(.of F)⟩ (ar [0,1,0,0,0,0] F)
   refine aM [2] (by kernel_rfl) F ⟨⟨_,F,F,bM (v:=(vI d.start)) bK aO F F F (fun bA=>⟨ar [5] F,?_⟩)⟩,trivial⟩
   refine aM [9] (by kernel_rfl) F ⟨⟨_,F,F,a8 (vs:=[(.slice (aD bA) 1 1)]) 1 bV F F F F ⟨ar [5] F,?_⟩⟩,trivial⟩
   refine aM [10] (by kernel_rfl) F ⟨⟨_,F,F,a8 (vs:=[(.slice (aD bB) d.next.length d.next.length)]) 2 cA F F F F ⟨ar [5] F,?_⟩⟩,trivial⟩
   exact cz (by kernel_rfl) ⟨bA,bB,bC,bD,F,(.of F)⟩ (ar [1,1,0,0,0,0] F)
  ·refine aM [2,6,8] (by kernel_rfl) F ⟨⟨_,F,F,bM (v:=(vI d.start)) bK aO F F F (fun bA=>⟨ar [3] F,?_⟩)⟩,⟨_,F,F,bX (m:=d.next.length) df dU F F (by omega) (by omega) (fun bB=>⟨ar [3] F,?_⟩)⟩,⟨_,F,F,aR cA F (fun bD=>⟨ar [3] F,?_⟩)⟩,trivial⟩
   ·refine aM [6,8] (by kernel_rfl) F ⟨⟨_,F,F,bX (m:=d.next.length) df dU F F (by omega) (by omega) (fun bB=>⟨ar [4] F,?_⟩)⟩,⟨_,F,F,aR cA F (fun bD=>⟨ar [4] F,?_⟩)⟩,trivial⟩
    ·refine aM [8] (by kernel_rfl) F ⟨⟨_,F,F,aR cA F (fun bD=>⟨ar [5] F,?_⟩)⟩,trivial⟩
     refine aM [9] (by kernel_rfl) F ⟨⟨_,F,F,a8 (vs:=[(.slice (aD bA) 1 1)]) 3 bV F F F F ⟨ar [5] F,?_⟩⟩,trivial⟩
     refine aM [10] (by kernel_rfl) F ⟨⟨_,F,F,a8 (vs:=[(.slice (aD bB) d.next.length d.next.length)]) 0 cA F F F F ⟨ar [5] F,?_⟩⟩,trivial⟩
     exact cz (by kernel_rfl) ⟨bA,bB,bC,bD,F,(.of F)⟩ (ar [3,0,1,0,0,0] F)
    refine aM [6,9] (by kernel_rfl) F ⟨⟨_,F,F,bX (m:=d.next.length) df dU F F (by omega) (by omega) (fun bB=>⟨ar [5] F,?_⟩)⟩,⟨_,F,F,a8 (vs:=[(.slice (aD bA) 1 1)]) 2 bV F F F F ⟨ar [4] F,?_⟩⟩,trivial⟩
    ·refine aM [9] (by kernel_rfl) F ⟨⟨_,F,F,a8 (vs:=[(.slice (aD bA) 1 1)]) 3 bV F F F F ⟨ar [5] F,?_⟩⟩,trivial⟩
     refine aM [10] (by kernel_rfl) F ⟨⟨_,F,F,a8 (vs:=[(.slice (aD bB) d.next.length d.next.length)]) 1 cA F F F F ⟨ar [5] F,?_⟩⟩,trivial⟩
     exact cz (by kernel_rfl) ⟨bA,bB,bC,bD,F,(.of F)⟩ (ar [3,1,1,0,0,0] F)
    refine aM [6] (by kernel_rfl) F ⟨⟨_,F,F,bX (m:=d.next.length) df dU F F (by omega) (by omega) (fun bB=>⟨ar [5] F,?_⟩)⟩,trivial⟩
    refine aM [10] (by kernel_rfl) F ⟨⟨_,F,F,a8 (vs:=[(.slice (aD bB) d.next.length d.next.length)]) 1 cA F F F F ⟨ar [5] F,?_⟩⟩,trivial⟩
    exact cz (by kernel_rfl) ⟨bA,bB,bC,bD,F,(.of F)⟩ (ar [3,1,1,0,0,0] F)
   ·refine aM [2,8] (by kernel_rfl) F ⟨⟨_,F,F,bM (v:=(vI d.start)) bK aO F F F (fun bA=>⟨ar [4] F,?_⟩)⟩,⟨_,F,F,aR cA F (fun bD=>⟨ar [4] F,?_⟩)⟩,trivial⟩
    ·refine aM [8] (by kernel_rfl) F ⟨⟨_,F,F,aR cA F (fun bD=>⟨ar [5] F,?_⟩)⟩,trivial⟩
     refine aM [9] (by kernel_rfl) F ⟨⟨_,F,F,a8 (vs:=[(.slice (aD bA) 1 1)]) 3 bV F F F F ⟨ar [5] F,?_⟩⟩,trivial⟩
     refine aM [10] (by kernel_rfl) F ⟨⟨_,F,F,a8 (vs:=[(.slice (aD bB) d.next.length d.next.length)]) 0 cA F F F F ⟨ar [5] F,?_⟩⟩,trivial⟩
     exact cz (by kernel_rfl) ⟨bA,bB,bC,bD,F,(.of F)⟩ (ar [3,0,0,0,0,0] F)
    refine aM [2] (by kernel_rfl) F ⟨⟨_,F,F,bM (v:=(vI d.start)) bK aO F F F (fun bA=>⟨ar [5] F,?_⟩)⟩,trivial⟩
    refine aM [9] (by kernel_rfl) F ⟨⟨_,F,F,a8 (vs:=[(.slice (aD bA) 1 1)]) 3 bV F F F F ⟨ar [5] F,?_⟩⟩,trivial⟩
    refine aM [10] (by kernel_rfl) F ⟨⟨_,F,F,a8 (vs:=[(.slice (aD bB) d.next.length d.next.length)]) 1 cA F F F F ⟨ar [5] F,?_⟩⟩,trivial⟩
    exact cz (by kernel_rfl) ⟨bA,bB,bC,bD,F,(.of F)⟩ (ar [3,1,0,0,0,0] F)
   refine aM [2,6] (by kernel_rfl) F ⟨⟨_,F,F,bM (v:=(vI d.start)) bK aO F F F (fun bA=>⟨ar [4] F,?_⟩)⟩,⟨_,F,F,bX (m:=d.next.length) df dU F F (by omega) (by omega) (fun bB=>⟨ar [4] F,?_⟩)⟩,trivial⟩
   ·refine aM [6,9] (by kernel_rfl) F ⟨⟨_,F,F,bX (m:=d.next.length) df dU F F (by omega) (by omega) (fun bB=>⟨ar [5] F,?_⟩)⟩,⟨_,F,F,a8 (vs:=[(.slice (aD bA) 1 1)]) 2 bV F F F F ⟨ar [4] F,?_⟩⟩,trivial⟩
    ·refine aM [9] (by kernel_rfl) F ⟨⟨_,F,F,a8 (vs:=[(.slice (aD bA) 1 1)]) 3 bV F F F F ⟨ar [5] F,?_⟩⟩,trivial⟩
     refine aM [10] (by kernel_rfl) F ⟨⟨_,F,F,a8 (vs:=[(.slice (aD bB) d.next.length d.next.length)]) 2 cA F F F F ⟨ar [5] F,?_⟩⟩,trivial⟩
     exact cz (by kernel_rfl) ⟨bA,bB,bC,bD,F,(.of F)⟩ (ar [3,2,1,0,0,0] F)
    refine aM [6] (by kernel_rfl) F ⟨⟨_,F,F,bX (m:=d.next.length) df dU F F (by omega) (by omega) (fun bB=>⟨ar [5] F,?_⟩)⟩,trivial⟩
    refine aM [10] (by kernel_rfl) F ⟨⟨_,F,F,a8 (vs:=[(.slice (aD bB) d.next.length d.next.length)]) 2 cA F F F F ⟨ar [5] F,?_⟩⟩,trivial⟩
    exact cz (by kernel_rfl) ⟨bA,bB,bC,bD,F,(.of F)⟩ (ar [3,2,1,0,0,0] F)
   refine aM [2] (by kernel_rfl) F ⟨⟨_,F,F,bM (v:=(vI d.start)) bK aO F F F (fun bA=>⟨ar [5] F,?_⟩)⟩,trivial⟩
   refine aM [9] (by kernel_rfl) F ⟨⟨_,F,F,a8 (vs:=[(.slice (aD bA) 1 1)]) 3 bV F F F F ⟨ar [5] F,?_⟩⟩,trivial⟩
   refine aM [10] (by kernel_rfl) F ⟨⟨_,F,F,a8 (vs:=[(.slice (aD bB) d.next.length d.next.length)]) 2 cA F F F F ⟨ar [5] F,?_⟩⟩,trivial⟩
   exact cz (by kernel_rfl) ⟨bA,bB,bC,bD,F,(.of F)⟩ (ar [3,2,0,0,0,0] F)
  refine aM [2,6,7] (by kernel_rfl) F ⟨⟨_,F,F,bM (v:=(vI d.start)) bK aO F F F (fun bA=>⟨ar [3] F,?_⟩)⟩,⟨_,F,F,bX (m:=d.next.length) df dU F F (by omega) (by omega) (fun bB=>⟨ar [3] F,?_⟩)⟩,⟨_,F,F,aR bV F (fun bC=>⟨ar [3] F,?_⟩)⟩,trivial⟩
  ·refine aM [6,7] (by kernel_rfl) F ⟨⟨_,F,F,bX (m:=d.next.length) df dU F F (by omega) (by omega) (fun bB=>⟨ar [4] F,?_⟩)⟩,⟨_,F,F,aR bV F (fun bC=>⟨ar [4] F,?_⟩)⟩,trivial⟩
   ·refine aM [7] (by kernel_rfl) F ⟨⟨_,F,F,aR bV F (fun bC=>⟨ar [5] F,?_⟩)⟩,trivial⟩
    refine aM [9] (by kernel_rfl) F ⟨⟨_,F,F,a8 (vs:=[(.slice (aD bA) 1 1)]) 0 bV F F F F ⟨ar [5] F,?_⟩⟩,trivial⟩
    refine aM [10] (by kernel_rfl) F ⟨⟨_,F,F,a8 (vs:=[(.slice (aD bB) d.next.length d.next.length)]) 3 cA F F F F ⟨ar [5] F,?_⟩⟩,trivial⟩
    exact cz (by kernel_rfl) ⟨bA,bB,bC,bD,F,(.of F)⟩ (ar [0,2,1,0,0,0] F)
   refine aM [6,9] (by kernel_rfl) F ⟨⟨_,F,F,bX (m:=d.next.length) df dU F F (by omega) (by omega) (fun bB=>⟨ar [5] F,?_⟩)⟩,⟨_,F,F,a8 (vs:=[(.slice (aD bA) 1 1)]) 0 bV F F F F ⟨ar [4] F,?_⟩⟩,trivial⟩
   ·refine aM [9] (by kernel_rfl) F ⟨⟨_,F,F,a8 (vs:=[(.slice (aD bA) 1 1)]) 1 bV F F F F ⟨ar [5] F,?_⟩⟩,trivial⟩
    refine aM [10] (by kernel_rfl) F ⟨⟨_,F,F,a8 (vs:=[(.slice (aD bB) d.next.length d.next.length)]) 3 cA F F F F ⟨ar [5] F,?_⟩⟩,trivial⟩
    exact cz (by kernel_rfl) ⟨bA,bB,bC,bD,F,(.of F)⟩ (ar [1,2,1,0,0,0] F)
   refine aM [6] (by kernel_rfl) F ⟨⟨_,F,F,bX (m:=d.next.length) df dU F F (by omega) (by omega) (fun bB=>⟨ar [5] F,?_⟩)⟩,trivial⟩
   refine aM [10] (by kernel_rfl) F ⟨⟨_,F,F,a8 (vs:=[(.slice (aD bB) d.next.length d.next.length)]) 3 cA F F F F ⟨ar [5] F,?_⟩⟩,trivial⟩
   exact cz (by kernel_rfl) ⟨bA,bB,bC,bD,F,(.of F)⟩ (ar [1,2,1,0,0,0] F)
  ·refine aM [2,7] (by kernel_rfl) F ⟨⟨_,F,F,bM (v:=(vI d.start)) bK aO F F F (fun bA=>⟨ar [4] F,?_⟩)⟩,⟨_,F,F,aR bV F (fun bC=>⟨ar [4] F,?_⟩)⟩,trivial⟩
   ·refine aM [7] (by kernel_rfl) F ⟨⟨_,F,F,aR bV F (fun bC=>⟨ar [5] F,?_⟩)⟩,trivial⟩
    refine aM [9] (by kernel_rfl) F ⟨⟨_,F,F,a8 (vs:=[(.slice (aD bA) 1 1)]) 0 bV F F F F ⟨ar [5] F,?_⟩⟩,trivial⟩
    refine aM [10] (by kernel_rfl) F ⟨⟨_,F,F,a8 (vs:=[(.slice (aD bB) d.next.length d.next.length)]) 3 cA F F F F ⟨ar [5] F,?_⟩⟩,trivial⟩
    exact cz (by kernel_rfl) ⟨bA,bB,bC,bD,F,(.of F)⟩ (ar [0,2,0,0,0,0] F)
   refine aM [2] (by kernel_rfl) F ⟨⟨_,F,F,bM (v:=(vI d.start)) bK aO F F F (fun bA=>⟨ar [5] F,?_⟩)⟩,trivial⟩
   refine aM [9] (by kernel_rfl) F ⟨⟨_,F,F,a8 (vs:=[(.slice (aD bA) 1 1)]) 1 bV F F F F ⟨ar [5] F,?_⟩⟩,trivial⟩
   refine aM [10] (by kernel_rfl) F ⟨⟨_,F,F,a8 (vs:=[(.slice (aD bB) d.next.length d.next.length)]) 3 cA F F F F ⟨ar [5] F,?_⟩⟩,trivial⟩
   exact cz (by kernel_rfl) ⟨bA,bB,bC,bD,F,(.of F)⟩ (ar [1,2,0,0,0,0] F)
  refine aM [2,6] (by kernel_rfl) F ⟨⟨_,F,F,bM (v:=(vI d.start)) bK aO F F F (fun bA=>⟨ar [4] F,?_⟩)⟩,⟨_,F,F,bX (m:=d.next.length) df dU F F (by omega) (by omega) (fun bB=>⟨ar [4] F,?_⟩)⟩,trivial⟩
  ·refine aM [6,9] (by kernel_rfl) F ⟨⟨_,F,F,bX (m:=d.next.length) df dU F F (by omega) (by omega) (fun bB=>⟨ar [5] F,?_⟩)⟩,⟨_,F,F,a8 (vs:=[(.slice (aD bA) 1 1)]) 1 bV F F F F ⟨ar [4] F,?_⟩⟩,trivial⟩
   ·refine aM [9] (by kernel_rfl) F ⟨⟨_,F,F,a8 (vs:=[(.slice (aD bA) 1 1)]) 2 bV F F F F ⟨ar [5] F,?_⟩⟩,trivial⟩
    refine aM [10] (by kernel_rfl) F ⟨⟨_,F,F,a8 (vs:=[(.slice (aD bB) d.next.length d.next.length)]) 3 cA F F F F ⟨ar [5] F,?_⟩⟩,trivial⟩
    exact cz (by kernel_rfl) ⟨bA,bB,bC,bD,F,(.of F)⟩ (ar [2,2,1,0,0,0] F)
   refine aM [6] (by kernel_rfl) F ⟨⟨_,F,F,bX (m:=d.next.length) df dU F F (by omega) (by omega) (fun bB=>⟨ar [5] F,?_⟩)⟩,trivial⟩
   refine aM [10] (by kernel_rfl) F ⟨⟨_,F,F,a8 (vs:=[(.slice (aD bB) d.next.length d.next.length)]) 3 cA F F F F ⟨ar [5] F,?_⟩⟩,trivial⟩
   exact cz (by kernel_rfl) ⟨bA,bB,bC,bD,F,(.of F)⟩ (ar [2,2,1,0,0,0] F)
  refine aM [2] (by kernel_rfl) F ⟨⟨_,F,F,bM (v:=(vI d.start)) bK aO F F F (fun bA=>⟨ar [5] F,?_⟩)⟩,trivial⟩
  refine aM [9] (by kernel_rfl) F ⟨⟨_,F,F,a8 (vs:=[(.slice (aD bA) 1 1)]) 2 bV F F F F ⟨ar [5] F,?_⟩⟩,trivial⟩
  refine aM [10] (by kernel_rfl) F ⟨⟨_,F,F,a8 (vs:=[(.slice (aD bB) d.next.length d.next.length)]) 3 cA F F F F ⟨ar [5] F,?_⟩⟩,trivial⟩
  exact cz (by kernel_rfl) ⟨bA,bB,bC,bD,F,(.of F)⟩ (ar [2,2,0,0,0,0] F)
 rintro ρ O ⟨bA,bB,bC,bD,rfl,hH⟩
 obtain⟨fE,rfl⟩:=hH.elim
 clear hH
 refine ai (ad (aQ 1 df F F F F) (ad (aN bW F aO F F) (ad (aQ 5 cS F F F F) (ad (Dx (i:=d.start) df dU F F (cP (mG 3 F)) x3 pm (by rw[List.length_replicate];exact pm)) (ak F (lB (j:=d.start.toNat) (v:=.bool true) (vs:=[(.bool true)]) (cs:=List.replicate d.next.length (.bool false)) 3 dU F F F F F (by simp) F (by first|(simp;omega)|(simp_all;omega)) ?_))))))
 refine cQ (O':=[oI bC 56 [(.slice (aD bA) 1 1)],oI bD 23 [(.slice (aD bB) d.next.length d.next.length)],am (aD bA) 1 3 1 [(vI d.start)],am (aD bB) d.next.length 4 1 (bf ((List.replicate d.next.length false).set d.start.toNat true)),oI z2 25 [(vI 0),(vI 0),nS,nS],oI z1 25 [(vI d.vars),(vI d.start),(.slice nb d.next.length nc),(.slice fb d.ax.length fc)]]) (by rw[show dK (List.replicate d.next.length (.bool false)) d.start.toNat [(.bool true)]=bf ((List.replicate d.next.length false).set d.start.toNat true)from by simp[dK]];exact bn (List.Sublist.refl _)) ?_
 refine ae (ai (ad (dQ) (aj F (ae (ai (ad (aN bW F aO F F) (ad (aQ 5 cS F F F F) (ad (aN bW F aO F F) (ak F (a8 (vs:=[(vI d.vars)]) 4 aO F F F F ?_))))))))))
 refine ae (aB ?_)
 have X_: [oI z1 25 [(vI d.vars),(vI d.start),(.slice nb d.next.length nc),(.slice fb d.ax.length fc)],oI bC 56 [(.slice (aD bA) 1 1)],am (aD bA) 1 3 1 [(vI d.start)],oI bD 23 [(.slice (aD bB) d.next.length d.next.length)],am (aD bB) d.next.length 4 1 (bf ((List.replicate d.next.length false).set d.start.toNat true))]=[oI z1 25 [(vI d.vars),(vI d.start),(.slice nb d.next.length nc),(.slice fb d.ax.length fc)],oI bC 56 [(.slice (aD bA) 1 1)],am (aD bA) 1 3 1 (aX [d.start.toNat]),oI bD 23 [(.slice (aD bB) d.next.length d.next.length)],am (aD bB) d.next.length 4 1 (bf ((List.replicate d.next.length false).set d.start.toNat true))]:=by
  rw[show aX [d.start.toNat]=[vI d.start] by simp[Int.toNat_of_nonneg x3]]
 have Vd: ∀t,t<d.next.length→((List.replicate d.next.length false).set d.start.toNat true)[t]? =some (decide (t∈[d.start.toNat])):=fun t ht=>by
  by_cases e:t=d.start.toNat
  ·subst e;rw[List.getElem?_set_self (by simpa using ht)];simp
  ·rw[List.getElem?_set_ne (fun h=>e h.symm)];simp[ht,e]
 refine T.ds [oI z1 25 [(vI d.vars),(vI d.start),(.slice nb d.next.length nc),(.slice fb d.ax.length fc)]] [(0,0),(1,0),(2,0),(3,0),(4,0),(5,0),(6,0),(7,0),(9,0),(8,1),(10,1),(11,0),(12,0),(13,0),(14,0),(15,1)] (ar [5] F) ?_
 refine ao F (aN bW F aO F F) (ao F (aQ 0 cS F F F F) (ao F (kV (v:=d.vars.toNat) F (by show Value.int _ d.vars=_;rw[Int.toNat_of_nonneg hv.v0]) (by have:=hv.v6;omega)) (ao F (aN bW F dM F F) (ao F (aQ 0 du F F F F) (ao F (bS du F) (ao F (aN bW F aO F F) (ao F (a7 (aQ 0 cS F F F F) (v':=vI ((d.start.toNat:Nat):Int)) (by rw[Int.toNat_of_nonneg x3])) (ao F (az F) ?_))))))))
 have mu:=fun(w1:World) (hI:Inv w [oI bC 56 [(.slice (aD bA) 1 1)],oI bD 23 [(.slice (aD bB) d.next.length d.next.length)],am (aD bA) 1 3 1 [(vI d.start)],am (aD bB) d.next.length 4 1 (bf ((List.replicate d.next.length false).set d.start.toNat true)),oI z2 25 [(vI d.vars),(vI 0),nS,nS],oI z1 25 [(vI d.vars),(vI d.start),(.slice nb d.next.length nc),(.slice fb d.ax.length fc)]] w1)=>(haveI:=di hI;J4 w1 d.start.toNat (by omega))
 refine bo F F (aP I7 (aI mu) F ?_)
 clear mu
 rintro v O' ⟨N,rfl,rfl,rfl⟩
 refine⟨ar [5] F,?_⟩
 have u4:=bm.under (B:=[oI z2 25 [(vI d.vars),(vI 0),nS,nS]]) (O:=[oI bC 56 [(.slice (aD bA) 1 1)],oI bD 23 [(.slice (aD bB) d.next.length d.next.length)],am (aD bA) 1 3 1 [(vI d.start)],am (aD bB) d.next.length 4 1 (bf ((List.replicate d.next.length false).set d.start.toNat true)),oI z2 25 [(vI d.vars),(vI 0),nS,nS],oI z1 25 [(vI d.vars),(vI d.start),(.slice nb d.next.length nc),(.slice fb d.ax.length fc)]]) (J3 w (BY d) (2^d.vars.toNat) d.next.length (Lib.decDigits d.start.toNat) (.func (.func 84) #[] #[.pointer (aD z1),.pointer (aD bC),.pointer (aD bD)]) (Q6 d nb fb nc fc z1 bB bC bD) (fun ks=>ks.length≤d.next.length) hv.width hv.n4 (fun ks s x O hs hx _ hJ=>Vb w d nb fb nc fc vs h hv hn z1 bB bC bD ks s x O hs hx hJ) (fun _ h=>h) [oI z1 25 [(vI d.vars),(vI d.start),(.slice nb d.next.length nc),(.slice fb d.ax.length fc)],oI bC 56 [(.slice (aD bA) 1 1)],am (aD bA) 1 3 1 [(vI d.start)],oI bD 23 [(.slice (aD bB) d.next.length d.next.length)],am (aD bB) d.next.length 4 1 (bf ((List.replicate d.next.length false).set d.start.toNat true))] (by simp;omega) ⟨[d.start.toNat],(List.replicate d.next.length false).set d.start.toNat true,some ⟨bA,0,none⟩,1,F,X_,by simp,by simp;omega,by simp,Vd⟩) (ar [5,0,1,0,0,0] F)
 refine bo F F (aP UF u4 F ?_)
 clear u4
 rintro v O' ⟨A1,rfl,rb,rc,qs,N,O1,rfl,rfl,⟨os,sn,ob,oc,lV,rfl,jO,F6,Hd,abO⟩,hgl,Ve,hE,iA⟩
 refine⟨fC ([am rb rc 56 1 (bO qs)]++a_ 3 qs++[oI bC 56 [(.slice ob os.length oc)],am ob oc 3 1 (aX os),oI bD 23 [(.slice (aD bB) d.next.length d.next.length)],am (aD bB) d.next.length 4 1 (bf sn),oI z2 25 [(vI d.vars),(vI 0),nS,nS]]),?_⟩
 refine dL (O':=[am rb rc 56 1 (bO qs),oI z1 25 [(vI d.vars),(vI d.start),(.slice nb d.next.length nc),(.slice fb d.ax.length fc)],oI bC 56 [(.slice ob os.length oc)],am ob oc 3 1 (aX os),oI bD 23 [(.slice (aD bB) d.next.length d.next.length)],am (aD bB) d.next.length 4 1 (bf sn),oI z2 25 [(vI d.vars),(vI 0),nS,nS]]++a_ 3 qs) (fC []) ?_
 refine ao F (az F) (ao F (aV (vs:=_) F F) (ao F (aV (vs:=_) F F) (ao F (aN bW F dM F F) ?_)))
 refine bo F F (a8 (vs:=[(.slice rb N rc)]) 6 dM F F F F ⟨dW [1] [am rb rc 56 1 (bO qs),oI z1 25 [(vI d.vars),(vI d.start),(.slice nb d.next.length nc),(.slice fb d.ax.length fc)],oI bC 56 [(.slice ob os.length oc)],am ob oc 3 1 (aX os),oI bD 23 [(.slice (aD bB) d.next.length d.next.length)],am (aD bB) d.next.length 4 1 (bf sn),oI z2 25 [(vI d.vars),(vI 0),(.slice rb N rc),nS]] (a_ 3 qs) F F,?_⟩)
 refine bw ?_
 refine aB (ai (ad (aQ 2 bK F F F F) (ad (bS bK F) (ah F (ae (aG ?_))))))
 have PU:=dE jO F6
 refine T.dJ 4 1 ?_
 refine dm (fun(k:Nat) ρ O=> ∃(jA:Option Addr) (jB:Nat),O=([am jA jB 4 1 (bf ((os.take k).map fun o=>d.ax.getD o false)),am rb rc 56 1 (bO qs),oI z1 25 [(vI d.vars),(vI d.start),(.slice nb d.next.length nc),(.slice fb d.ax.length fc)],oI bC 56 [(.slice ob os.length oc)],am ob oc 3 1 (aX os),oI bD 23 [(.slice (aD bB) d.next.length d.next.length)],am (aD bB) d.next.length 4 1 (bf sn),oI z2 25 [(vI d.vars),(vI 0),(.slice rb N rc),(.slice jA k jB)]]++(a_ 3 qs))∧k≤os.length∧cw [(0,(.agg #[(vI d.vars),(vI d.start),(.slice nb d.next.length nc),(.slice fb d.ax.length fc)])),(1,(.pointer (aD z1))),(2,(.pointer (aD z2))),(3,vI 0),(4,vI ((0:Nat):Int)),(5,(.pointer (aD bC))),(6,(.pointer (aD bD))),(7,(.func (.func 84) #[] #[(.pointer (aD z1)),(.pointer (aD bC)),(.pointer (aD bD))])),(46,(.slice ob os.length oc)),(47,vI (os.length:Int)),(48,vI (k:Int))] ρ) (fun k=>os.length-k) 0 ?_ ?_
 ·exact⟨none,0,F,Nat.zero_le _,(.of F)⟩
 rintro k ρ O ⟨jA,jB,rfl,hk,hH⟩
 obtain⟨fE,rfl⟩:=hH.elim
 clear hH
 refine ai (ad (bT F F) (ae (aB (aC F (fun hc=>?_) (fun hc=>?_)))))
 ·have Oa:k<os.length:=by omega
  have T4:os[k]<d.next.length:=F6 _ (List.getElem_mem Oa)
  have Ye:os[k]<d.ax.length:=by have:=hv.fin;omega
  refine av (aB (aG (ai (ad (cV (i:=k) bK aO F F (cP (mG 4 F))) (ad (cd cS F F (cP (mG 4 F)) fO) (aj F (ae ?_)))))))
  refine T.ds [oI z1 25 [(vI d.vars),(vI d.start),(.slice nb d.next.length nc),(.slice fb d.ax.length fc)],oI z2 25 [(vI d.vars),(vI 0),(.slice rb N rc),(.slice jA k jB)]] [(0,0),(1,0),(2,0),(3,0),(4,0),(5,0),(6,0),(7,1),(8,2),(9,2),(10,2)] (dW [2,6] [am jA jB 4 1 (bf ((os.take k).map fun o=>d.ax.getD o false)),am rb rc 56 1 (bO qs),oI z1 25 [(vI d.vars),(vI d.start),(.slice nb d.next.length nc),(.slice fb d.ax.length fc)],oI bC 56 [(.slice ob os.length oc)],am ob oc 3 1 (aX os),oI bD 23 [(.slice (aD bB) d.next.length d.next.length)],am (aD bB) d.next.length 4 1 (bf sn),oI z2 25 [(vI d.vars),(vI 0),(.slice rb N rc),(.slice jA k jB)]] (a_ 3 qs) F F) ?_
  refine ao F (aN bW F cA F F) (ao F (aQ 1 df F F F F) (ao F (aN bW F cA F F) (ao F (aQ 0 df F F F F) (ao F (az F) (ao F (cV (i:=os[k]) df dU F F (ay h.ax)) (ao F (cd zi F F (ay h.ax) fY) ?_))))))
  refine bo F F (bM (v:=.bool d.ax[os[k]]) df dU F F F (fun z3=>⟨dW [3,7] [am (aD z3) 1 4 1 [.bool d.ax[os[k]]],am jA jB 4 1 (bf ((os.take k).map fun o=>d.ax.getD o false)),am rb rc 56 1 (bO qs),oI z1 25 [(vI d.vars),(vI d.start),(.slice nb d.next.length nc),(.slice fb d.ax.length fc)],oI bC 56 [(.slice ob os.length oc)],am ob oc 3 1 (aX os),oI bD 23 [(.slice (aD bB) d.next.length d.next.length)],am (aD bB) d.next.length 4 1 (bf sn),oI z2 25 [(vI d.vars),(vI 0),(.slice rb N rc),(.slice jA k jB)]] (a_ 3 qs) F F,?_⟩))
  refine bq F F (bY 1 df df dU F F F F (by simp;omega) (by decide) (Src.row (j:=0) F (by simp)) (by simp[dS]) (by omega) (by decide) (by decide) (fun z4 FR=>?_))
  refine bq F F (dw F F (aN bW F cA F F) ?_)
  refine bq F F (a8 (vs:=[(.slice z4 (k+1) FR)]) 8 cA F F F F ?_)
  refine dL (O':=([am z4 FR 4 1 ((bf ((os.take k).map fun o=>d.ax.getD o false))++[.bool d.ax[os[k]]]),am rb rc 56 1 (bO qs),oI z1 25 [(vI d.vars),(vI d.start),(.slice nb d.next.length nc),(.slice fb d.ax.length fc)],oI bC 56 [(.slice ob os.length oc)],am ob oc 3 1 (aX os),oI bD 23 [(.slice (aD bB) d.next.length d.next.length)],am (aD bB) d.next.length 4 1 (bf sn),oI z2 25 [(vI d.vars),(vI 0),(.slice rb N rc),(.slice z4 (k+1) FR)]]++(a_ 3 qs))) (iZ [1,1,1,1,1,1,1,1] [am (aD z3) 1 4 1 [.bool d.ax[os[k]]],am z4 FR 4 1 ((bf ((os.take k).map fun o=>d.ax.getD o false))++[.bool d.ax[os[k]]]),am rb rc 56 1 (bO qs),oI z1 25 [(vI d.vars),(vI d.start),(.slice nb d.next.length nc),(.slice fb d.ax.length fc)],oI bC 56 [(.slice ob os.length oc)],am ob oc 3 1 (aX os),oI bD 23 [(.slice (aD bB) d.next.length d.next.length)],am (aD bB) d.next.length 4 1 (bf sn),oI z2 25 [(vI d.vars),(vI 0),(.slice rb N rc),(.slice z4 (k+1) FR)]] (a_ 3 qs) F F) ?_
  refine bw ?_
  refine aJ (ad (jD F F (by omega)) (ah F (ae ?_)))
  have wq:(List.take (k+1) os).map (fun o=>d.ax.getD o false)=(List.take k os).map (fun o=>d.ax.getD o false)++[d.ax[os[k]]]:=by
   rw[List.take_succ_eq_append_getElem Oa,List.map_append];simp[Ye]
  exact⟨k+1,by omega,z4,FR,by rw[wq,show bf ((List.take k os).map (fun o=>d.ax.getD o false)++[d.ax[os[k]]])=bf ((List.take k os).map fun o=>d.ax.getD o false)++[.bool d.ax[os[k]]]from List.map_append],by omega,(.of F)⟩
 have ZV: ¬k<os.length:=by omega
 refine bJ ?_
 refine ai (ad (dh 7 bW F aY F F F) (ak F (a8 (vs:=[(vI d.vars),(vI 0),(.slice rb N rc),(.slice jA k jB)]) 7 aY F F F F ?_)))
 refine aj F (ae (aA (ap ?_)))
 refine io (vI 0) (i:=7) Tryz.results52 bW F aY F F F F ?_
 have Rr:k=os.length:=by omega
 obtain⟨ho,hN9⟩:=Gi iA lV Ve (dE jO F6)
 have Kj:=J0 lV hE ho hN9
 have R0:(List.take k os).map (fun o=>d.ax.getD o false)=(db d).ax:=by rw[List.take_of_length_le (by omega),ho];rfl
 have HX:(db d).next.length=N:=by rw[←Kj,hE.len]
 have VE:(db d).ax.length=k:=by rw[←R0,List.length_map,List.length_take];omega
 refine⟨[am rb rc 56 1 (bO qs),am jA jB 4 1 (bf ((os.take k).map fun o=>d.ax.getD o false))]++a_ 3 qs,(iZ [1,0] [am jA jB 4 1 (bf ((os.take k).map fun o=>d.ax.getD o false)),am rb rc 56 1 (bO qs),oI z1 25 [(vI d.vars),(vI d.start),(.slice nb d.next.length nc),(.slice fb d.ax.length fc)],oI bC 56 [(.slice ob os.length oc)],am ob oc 3 1 (aX os),oI bD 23 [(.slice (aD bB) d.next.length d.next.length)],am (aD bB) d.next.length 4 1 (bf sn),oI z2 25 [(vI d.vars),(vI 0),(.slice rb N rc),(.slice jA k jB)]] (a_ 3 qs) F F),rb,rc,jA,jB,qs,?_,by rw[R0],Kj⟩
 show Value.tuple #[Value.agg (List.toArray [vI d.vars,vI 0,.slice rb N rc,.slice jA k jB]),_]=Value.tuple #[Value.agg (List.toArray [vI d.vars,vI 0,.slice rb (db d).next.length rc,.slice jA (db d).ax.length jB]),_]
 rw[HX,VE]
end Go.Proofs.YtgdbfideeeegmaaGreatDoor

namespace Go.Proofs.YtgdbfideeeegmaaGreatDoor
open Go.Lx Go.RowKit _root_.Go.Proofs.Tryz
theorem Q4 (w:World) [cG Tryz.prog w] (d:bU) (nb fb:Option Addr) (nc fc:Nat) (vs:List Value) (h:fZ w d nb vs fb) (hb:d.next.length<9223372036854775807) (rQ: ∀r∈d.next,r.length<9223372036854775807) (tN:d.ax.length<9223372036854775807) (he:cE d≠0):
  bI Tryz.prog 23 [.agg (dB d nb nc fb fc).toArray] w fun v N=>v=.tuple #[.agg #[vI 0,vI 0,nS,nS],vI (cE d:Int)]∧N=[]:=by
 refine aw func23 F ntmps23 F ?_
 refine ai (ak F (cH (cs:=[(vI d.vars),(vI d.start),(.slice nb d.next.length nc),(.slice fb d.ax.length fc)]) F F (fun b1=>?_)))
 refine ak F (aR aY F (fun b2=>?_))
 refine aj F (ae (ai (ad (dh 1 bW F aY F F F) ?_)))
 have AI:=fun(w1:World) (hI:Inv w [oI b2 25 [(vI 0),(vI 0),nS,nS],oI b1 25 [(vI d.vars),(vI d.start),(.slice nb d.next.length nc),(.slice fb d.ax.length fc)]] w1)=>(haveI:=di hI;C9 w1 d nb fb nc fc vs (hI.zP h) hb rQ tN he)
 refine ak F (aP NT (aI AI) F ?_)
 clear AI
 rintro v O' ⟨N,rfl,rfl,rfl⟩
 refine ah F (ad (aV (vs:=_) F F) (ad (aV (vs:=_) F F) (ak F (aR bV F (fun b3=>?_)))))
 refine ak F (a8 (vs:=[nS]) 0 bV F F F F ?_)
 refine aj F (ae (aB (ai (ah F (ad (aq (cT F F) (decide_eq_true (by omega))) (ae ?_))))))
 refine bj F ?_
 refine ai (ad (bG gD aY F) (ah F (ak F (a8 (vs:=[(vI 0),(vI 0),nS,nS]) 1 aY F F F F ?_))))
 refine aj F (ae (aA (ap ?_)))
 refine io (vI (cE d:Int)) (i:=1) Tryz.results23 bW F aY F F F F ?_
 exact⟨[],bn (List.nil_sublist _),F,F⟩
theorem U4 (w:World) [cG Tryz.prog w] (d:bU) (nb fb:Option Addr) (nc fc:Nat) (vs:List Value) (h:fZ w d nb vs fb) (hv:Valid d) (hn:d.next.length<10000) (ZR:Valid (quo d (fN d d.next.length))) (ZS:(quo d (fN d d.next.length)).next.length<10000):
  bI Tryz.prog 23 [.agg (dB d nb nc fb fc).toArray] w fun v N=> ∃zX zY mK mL qs,v=.tuple #[.agg (dB (db (quo d (fN d d.next.length))) zX zY mK mL).toArray,vI 0]∧N=[am zX zY 56 1 (bO qs),am mK mL 4 1 (bf (db (quo d (fN d d.next.length))).ax)]++a_ 3 qs∧nums qs=(db (quo d (fN d d.next.length))).next:=by
 refine aw func23 F ntmps23 F ?_
 obtain⟨cs,Bp⟩: ∃cs,fN d d.next.length=cs:=⟨_,F⟩
 rw[Bp]at ZR ZS⊢
 have l_:cs.length=d.next.length:=Bp▸dX d _
 have BP: ∀x∈cs,x<10000:=Bp▸JG hn _
 have x3:=hv.s0
 have MM:=hv.s1
 have Oy:=hv.n0
 have Wn:=hv.n4
 have pm:d.start.toNat<cs.length:=by omega
 have hb:d.next.length<9223372036854775807:=by omega
 refine ai (ak F (cH (cs:=[(vI d.vars),(vI d.start),(.slice nb d.next.length nc),(.slice fb d.ax.length fc)]) F F (fun z1=>?_)))
 refine ak F (aR aY F (fun z2=>?_))
 refine aj F (ae (ai (ad (dh 1 bW F aY F F F) ?_)))
 have AI:=fun(w1:World) (hI:Inv w [oI z2 25 [(vI 0),(vI 0),nS,nS],oI z1 25 [(vI d.vars),(vI d.start),(.slice nb d.next.length nc),(.slice fb d.ax.length fc)]] w1)=>(haveI:=di hI;F8 w1 d nb fb nc fc vs (hI.zP h) hv hn)
 refine ak F (aP NT (aI AI) F ?_)
 clear AI
 rintro v O' ⟨N,rfl,cb,cc,rfl,rfl⟩
 rw[Bp]
 refine ah F (ad (aV (vs:=_) F F) (ad (aV (vs:=_) F F) (ak F (aR bV F (fun z3=>?_)))))
 refine ak F (a8 (vs:=[(.slice cb d.next.length cc)]) 0 bV F F F F ?_)
 refine aj F (ae (aB (ai (ah F (ad (cT F F) (ae (aL F (av (aB ?_)))))))))
 refine T.ds [oI z3 56 [(.slice cb d.next.length cc)],am cb cc 3 1 (aX cs),oI z1 25 [(vI d.vars),(vI d.start),(.slice nb d.next.length nc),(.slice fb d.ax.length fc)]] [(0,0),(1,0),(2,0),(3,0),(4,0),(5,0),(6,0),(7,0),(8,1),(9,2)] (ar [0,0,1] F) ?_
 refine ao F (aN bW F aO F F) (ao F (aQ 2 cS F F F F) (ao F (aQ 0 bK F F F F) (ao F (aN bW F aO F F) (ao F (aQ 2 cS F F F F) (ao F (Dx (i:=d.start) bK aO F F (cP (mG 1 F)) x3 (l_▸pm) (by rw[List.length_map];exact pm)) (ao F (cd cS F F (cP (mG 1 F)) (show(aX cs)[d.start.toNat]? =some (vN (cs.getD d.start.toNat 0)) by rw[fO pm];simp[pm])) (ao F (bG (cs:=[(vI d.vars),vN (cs.getD d.start.toNat 0),nS,nS]) gD aY (by kernel_rfl)) ?_)))))))
 refine bo F F (aR aY F (fun z4=>⟨ar [1,1,2] F,?_⟩))
 refine bq F F (a8 (vs:=[(vI d.vars),vN (cs.getD d.start.toNat 0),nS,nS]) 0 aY F F F F ?_)
 refine bw ?_
 refine aB (ai (ad (dh 4 bW F aY F F F) ?_))
 have vg:=fun(w1:World) (hI:Inv w [oI z4 25 [(vI d.vars),vN (cs.getD d.start.toNat 0),nS,nS],oI z3 56 [(.slice cb d.next.length cc)],am cb cc 3 1 (aX cs),oI z2 25 [(vI 0),(vI 0),nS,nS],oI z1 25 [(vI d.vars),(vI d.start),(.slice nb d.next.length nc),(.slice fb d.ax.length fc)]] w1)=>(haveI:=di hI;N1 w1 d nb fb nc fc)
 refine ak F (aP NU (aI vg) F ?_)
 clear vg
 rintro v O' ⟨N,rfl,bR,rfl,rfl⟩
 refine ae (T.dJ 4 1 ?_)
 refine T.dJ 56 1 ?_
 refine ck (O':=[oI bR 25 [(vI d.vars),(vI d.start),(.slice nb d.next.length nc),(.slice fb d.ax.length fc)],oI z4 25 [(vI d.vars),vN (cs.getD d.start.toNat 0),nS,nS],am none 0 56 1 (bO []),am none 0 4 1 (bf []),oI z3 56 [(.slice cb d.next.length cc)],am cb cc 3 1 (aX cs),oI z2 25 [(vI 0),(vI 0),nS,nS],oI z1 25 [(vI d.vars),(vI d.start),(.slice nb d.next.length nc),(.slice fb d.ax.length fc)]]) (ar [2,2,0,0,0,0,0,0] F) ?_
 refine aG ?_
 refine T.rangeFunc (first:=[]) (eY:=[(.pointer (aD bR))]) F NW (fun yl yq QU=>?_)
 refine bm.mono (bm.sub (O':=oI bR 25 [(vI d.vars),(vI d.start),(.slice nb d.next.length nc),(.slice fb d.ax.length fc)]::(cR yl (lp yq none)::[oI z4 25 [(vI d.vars),vN (cs.getD d.start.toNat 0),nS,nS],am none 0 56 1 (bO []),am none 0 4 1 (bf []),oI z3 56 [(.slice cb d.next.length cc)],am cb cc 3 1 (aX cs),oI z2 25 [(vI 0),(vI 0),nS,nS],oI z1 25 [(vI d.vars),(vI d.start),(.slice nb d.next.length nc),(.slice fb d.ax.length fc)]])) (ar [1,0,0,0,0,0,0,0,0] F) (N2 w d nb fb nc fc vs h hb bR (.func (.yield yl) #[] #[]) (fun k O=> ∃(ob jA:Option Addr) (oc jB:Nat) (qs:List Rec) (fs:List Bool),O=cR yl (lp yq none)::([oI z4 25 [(vI d.vars),(vN (cs.getD d.start.toNat 0)),(.slice ob qs.length oc),(.slice jA fs.length jB)],am ob oc 56 1 (bO qs),am jA jB 4 1 (bf fs),oI z3 56 [(.slice cb d.next.length cc)],am cb cc 3 1 (aX cs),oI z2 25 [(vI 0),(vI 0),nS,nS],oI z1 25 [(vI d.vars),(vI d.start),(.slice nb d.next.length nc),(.slice fb d.ax.length fc)]]++(a_ 3 qs))∧k≤d.next.length∧nums qs=(gr d cs k).1∧fs=(gr d cs k).2) (fun _=>False) ?_ _ ?_)) ?_
 ·intro k eV vb vc O g1 s1 hJ
  obtain⟨ob,jA,oc,jB,qs,fs,rfl,hk,xq,kY⟩:=hJ
  refine dn.yield QU F F ?_
  have UL:k<cs.length:=by omega
  have DG:qs.length=(gr d cs k).1.length:=by rw[←xq];simp
  have pP:fs.length=(gr d cs k).1.length:=by rw[kY];exact(jn d cs k).1.symm
  have hqk:=(jn d cs k).2
  have QW:k<d.ax.length:=by have:=hv.fin;omega
  have E8:d.next[k].length≤64:=by
   have:=hv.len _ (List.getElem_mem eV);have:=hv.width;omega
  have tx: ∀j (hj:j<d.next[k].length),0≤d.next[k][j]∧d.next[k][j].toNat<cs.length:=fun j hj=>by have:=hv.ok _ (List.getElem_mem eV) _ (List.getElem_mem hj);omega
  refine ai (aj F (ae (aJ (aj F (ae (aG (aB (aB ?_))))))))
  refine T.ds [oI z4 25 [(vI d.vars),(vN (cs.getD d.start.toNat 0)),(.slice ob qs.length oc),(.slice jA fs.length jB)],oI z3 56 [(.slice cb d.next.length cc)],am cb cc 3 1 (aX cs)] [(0,0),(1,0),(2,0),(3,0),(4,0),(5,0),(6,0),(7,0)] (dW [0,2,2] [oI z4 25 [(vI d.vars),(vN (cs.getD d.start.toNat 0)),(.slice ob qs.length oc),(.slice jA fs.length jB)],am ob oc 56 1 (bO qs),am jA jB 4 1 (bf fs),oI z3 56 [(.slice cb d.next.length cc)],am cb cc 3 1 (aX cs),oI z2 25 [(vI 0),(vI 0),nS,nS],oI z1 25 [(vI d.vars),(vI d.start),(.slice nb d.next.length nc),(.slice fb d.ax.length fc)]] (a_ 3 qs) F F) ?_
  refine ao F (aQ 1 bK F F F F) (ao F (az F) (ao F (cV (i:=k) bK aO F F (cP (mG 2 F))) (ao F (cd cS F F (cP (mG 2 F)) fO) (ao F (aN bW F dM F F) (ao F (aQ 0 du F F F F) (ao F (bS du F) (ao F (bT F F) ?_)))))))
  refine bw ?_
  refine aC F (fun hc=>?_) (fun hc=>?_)
  ·have tp:cs[k]<qs.length:=by omega
   have U5:gr d cs (k+1)=gr d cs k:=by rw[gr,if_pos (by simp[UL];omega)]
   refine bJ ?_
   refine .inl ⟨F,ob,jA,oc,jB,qs,fs,F,by omega,?_,?_⟩
   ·rw[U5];exact xq
   ·rw[U5];exact kY
  have Ij: ¬cs[k]<qs.length:=by omega
  have U6:gr d cs (k+1)=((gr d cs k).1++[(dP cs d.next[k]).map fun c:Nat=>(c:Int)],(gr d cs k).2++[d.ax[k]]):=by rw[gr,if_neg (by simp[UL];omega)];simp[eV,QW]
  refine av (ai (aj F (ae (aB (ai (ah F (ad (bS bK F) (ah F (ae (aG (T.dJ 3 1 ?_)))))))))))
  refine dm (fun(j:Nat) ρ O=> ∃(kb:Option Addr) (kc:Nat),O=([am kb kc 3 1 (aX ((dP cs d.next[k]).take j)),oI z4 25 [(vI d.vars),(vN (cs.getD d.start.toNat 0)),(.slice ob qs.length oc),(.slice jA fs.length jB)],am ob oc 56 1 (bO qs),am jA jB 4 1 (bf fs),oI z3 56 [(.slice cb d.next.length cc)],am cb cc 3 1 (aX cs),oI z2 25 [(vI 0),(vI 0),nS,nS],oI z1 25 [(vI d.vars),(vI d.start),(.slice nb d.next.length nc),(.slice fb d.ax.length fc)]]++(a_ 3 qs))∧j≤d.next[k].length∧cw [(0,(.agg #[(vI d.vars),(vI d.start),(.slice nb d.next.length nc),(.slice fb d.ax.length fc)])),(1,(.pointer (aD z1))),(2,(.pointer (aD z2))),(3,vI 0),(4,(.pointer (aD z3))),(5,vI 0),(6,(.pointer (aD z4))),(7,vI (k:Int)),(8,(.slice vb d.next[k].length vc)),(9,(.slice kb j kc)),(41,(.slice vb d.next[k].length vc)),(42,vI (d.next[k].length:Int)),(43,vI (j:Int))] ρ) (fun j=>d.next[k].length-j) 0 ?_ ?_
  ·exact⟨none,0,F,Nat.zero_le _,(.of F)⟩
  rintro j ρ O ⟨kb,kc,rfl,hj,hH⟩
  obtain⟨fE,rfl⟩:=hH.elim
  clear hH
  refine ai (ad (bT F F) (ae (aB (aC F (fun hc=>?_) (fun hc=>?_)))))
  ·have j8:j<d.next[k].length:=by omega
   have htj:=(tx j j8).2
   refine av (aB (aG (ai (ad (cV (i:=j) bK aO F F (ay s1)) (ad (cd cS F F (ay s1) fp) (aj F (ae (aJ (ah F (ad (aQ 4 bK F F F F) (ah F (ad (Dx (i:=d.next[k][j]) bK aO F F (cP (mG 5 F)) (tx j j8).1 (l_▸(tx j j8).2) (by rw[List.length_map];exact(tx j j8).2)) (ad (cd cS F F (cP (mG 5 F)) (fO (tx j j8).2)) (ak F (bM (v:=vN (cs[d.next[k][j].toNat])) bK aO F F F (fun z5=>?_))))))))))))))))
   refine ak F (bY 1 bK bK aO F F F F (by rw[List.length_map,List.length_take,gg];omega) (by decide) (Src.row (j:=0) F (by simp)) (by simp[dS]) (by omega) (by decide) (by decide) (fun z6 DE=>?_))
   refine aj F ?_
   refine cQ (O':=([am z6 DE 3 1 ((aX ((dP cs d.next[k]).take j))++[vN (cs[d.next[k][j].toNat])]),oI z4 25 [(vI d.vars),(vN (cs.getD d.start.toNat 0)),(.slice ob qs.length oc),(.slice jA fs.length jB)],am ob oc 56 1 (bO qs),am jA jB 4 1 (bf fs),oI z3 56 [(.slice cb d.next.length cc)],am cb cc 3 1 (aX cs),oI z2 25 [(vI 0),(vI 0),nS,nS],oI z1 25 [(vI d.vars),(vI d.start),(.slice nb d.next.length nc),(.slice fb d.ax.length fc)]]++(a_ 3 qs))) (iZ [1,1,1,1,1,1,1,1] [am (aD z5) 1 3 1 [vN (cs[d.next[k][j].toNat])],am z6 DE 3 1 ((aX ((dP cs d.next[k]).take j))++[vN (cs[d.next[k][j].toNat])]),oI z4 25 [(vI d.vars),(vN (cs.getD d.start.toNat 0)),(.slice ob qs.length oc),(.slice jA fs.length jB)],am ob oc 56 1 (bO qs),am jA jB 4 1 (bf fs),oI z3 56 [(.slice cb d.next.length cc)],am cb cc 3 1 (aX cs),oI z2 25 [(vI 0),(vI 0),nS,nS],oI z1 25 [(vI d.vars),(vI d.start),(.slice nb d.next.length nc),(.slice fb d.ax.length fc)]] (a_ 3 qs) F F) ?_
   refine ae (aJ (ad (jD F F (by omega)) (ah F (ae ?_))))
   have wq:(dP cs d.next[k]).take (j+1)=(dP cs d.next[k]).take j++[cs[d.next[k][j].toNat]]:=by rw[List.take_succ_eq_append_getElem (by rw[gg];exact j8),BD j8 (tx j j8).2]
   exact⟨j+1,by omega,z6,DE,by rw[wq,show aX ((dP cs d.next[k]).take j++[cs[d.next[k][j].toNat]])=aX ((dP cs d.next[k]).take j)++[vN (cs[d.next[k][j].toNat])]from List.map_append],by omega,(.of F)⟩
  have MP: ¬j<d.next[k].length:=by omega
  refine bJ ?_
  have Zs:j=d.next[k].length:=by omega
  have hR:am kb kc 3 1 (aX ((dP cs d.next[k]).take j))=Rec.qG 3 ⟨kb,kc,(dP cs d.next[k]).map fun c:Nat=>(c:Int)⟩:=by
   rw[List.take_of_length_le (by rw[gg];omega)];simp[Rec.qG,Function.comp_def]
  refine He (fun ρ O=> ∃(tL:Option Addr) (tM:Nat) (mN:Option Addr) (nM:Nat),O=([oI z4 25 [(vI d.vars),(vN (cs.getD d.start.toNat 0)),(.slice tL (qs.length+1) tM),(.slice mN (fs.length+1) nM)],am tL tM 56 1 ((bO qs)++[(.slice kb j kc)]),am mN nM 4 1 ((bf fs)++[(.bool d.ax[k])]),oI z3 56 [(.slice cb d.next.length cc)],am cb cc 3 1 (aX cs),oI z2 25 [(vI 0),(vI 0),nS,nS],oI z1 25 [(vI d.vars),(vI d.start),(.slice nb d.next.length nc),(.slice fb d.ax.length fc)]]++(a_ 3 (qs++[⟨kb,kc,(dP cs d.next[k]).map fun c:Nat=>(c:Int)⟩])))∧cw [(0,(.agg #[(vI d.vars),(vI d.start),(.slice nb d.next.length nc),(.slice fb d.ax.length fc)])),(1,(.pointer (aD z1))),(2,(.pointer (aD z2))),(3,vI 0),(4,(.pointer (aD z3))),(5,vI 0),(6,(.pointer (aD z4))),(7,vI (k:Int)),(8,(.slice vb d.next[k].length vc)),(9,(.slice kb j kc)),(41,(.slice vb d.next[k].length vc)),(42,vI (d.next[k].length:Int)),(43,vI (j:Int))] ρ) ?_ ?_
  ·refine Fh [oI z4 25 [(vI d.vars),(vN (cs.getD d.start.toNat 0)),(.slice ob qs.length oc),(.slice jA fs.length jB)],oI z1 25 [(vI d.vars),(vI d.start),(.slice nb d.next.length nc),(.slice fb d.ax.length fc)]] [15,17] 18 mixed F (dW [1,6] [am kb kc 3 1 (aX ((dP cs d.next[k]).take j)),oI z4 25 [(vI d.vars),(vN (cs.getD d.start.toNat 0)),(.slice ob qs.length oc),(.slice jA fs.length jB)],am ob oc 56 1 (bO qs),am jA jB 4 1 (bf fs),oI z3 56 [(.slice cb d.next.length cc)],am cb cc 3 1 (aX cs),oI z2 25 [(vI 0),(vI 0),nS,nS],oI z1 25 [(vI d.vars),(vI d.start),(.slice nb d.next.length nc),(.slice fb d.ax.length fc)]] (a_ 3 qs) F F) (fun _ _ _ _ h=>h) ?_
   refine fj 0 F (by kernel_rfl) (aN bW F dM F F) ?_
   refine fj 1 F (by kernel_rfl) (aQ 0 du F F F F) ?_
   refine fj 2 F (by kernel_rfl) (az F) ?_
   refine fj 5 F (by kernel_rfl) (aN bW F cA F F) ?_
   refine fj 6 F (by kernel_rfl) (aQ 0 df F F F F) ?_
   refine fj 7 F (by kernel_rfl) (aN bW F cA F F) ?_
   refine fj 8 F (by kernel_rfl) (aQ 1 df F F F F) ?_
   refine fj 9 F (by kernel_rfl) (az F) ?_
   refine fj 10 F (by kernel_rfl) (cV (i:=k) df dU F F (ay h.ax) QW (by rw[List.length_map];exact QW)) ?_
   refine fj 11 F (by kernel_rfl) (cd zi F F (ay h.ax) (fY QW)) ?_
   refine eC [3,12] (by kernel_rfl) F ⟨⟨_,F,F,bM (v:=(.slice kb j kc)) du bV F F F (fun zA=>⟨.inr (dW [2,7] [am (aD zA) 1 56 1 [(.slice kb j kc)],am kb kc 3 1 (aX ((dP cs d.next[k]).take j)),oI z4 25 [(vI d.vars),(vN (cs.getD d.start.toNat 0)),(.slice ob qs.length oc),(.slice jA fs.length jB)],am ob oc 56 1 (bO qs),am jA jB 4 1 (bf fs),oI z3 56 [(.slice cb d.next.length cc)],am cb cc 3 1 (aX cs),oI z2 25 [(vI 0),(vI 0),nS,nS],oI z1 25 [(vI d.vars),(vI d.start),(.slice nb d.next.length nc),(.slice fb d.ax.length fc)]] (a_ 3 qs) F F),?_⟩)⟩,⟨_,F,F,bM (v:=(.bool d.ax[k])) df dU F F F (fun zB=>⟨.inr (dW [2,7] [am (aD zB) 1 4 1 [(.bool d.ax[k])],am kb kc 3 1 (aX ((dP cs d.next[k]).take j)),oI z4 25 [(vI d.vars),(vN (cs.getD d.start.toNat 0)),(.slice ob qs.length oc),(.slice jA fs.length jB)],am ob oc 56 1 (bO qs),am jA jB 4 1 (bf fs),oI z3 56 [(.slice cb d.next.length cc)],am cb cc 3 1 (aX cs),oI z2 25 [(vI 0),(vI 0),nS,nS],oI z1 25 [(vI d.vars),(vI d.start),(.slice nb d.next.length nc),(.slice fb d.ax.length fc)]] (a_ 3 qs) F F),?_⟩)⟩,trivial⟩ (by kernel_rfl)
   ·refine eC [4,12] (by kernel_rfl) F ⟨⟨_,F,F,bY 3 du du bV F F F F (by rw[List.length_map];omega) (by decide) (Src.row (j:=0) F (by simp)) (by simp[dS]) (by omega) (by decide) (by decide) (fun tL tM=>⟨.inr (dW [2,7] [am (aD zA) 1 56 1 [(.slice kb j kc)],am kb kc 3 1 (aX ((dP cs d.next[k]).take j)),oI z4 25 [(vI d.vars),(vN (cs.getD d.start.toNat 0)),(.slice ob qs.length oc),(.slice jA fs.length jB)],am tL tM 56 1 ((bO qs)++[(.slice kb j kc)]),am jA jB 4 1 (bf fs),oI z3 56 [(.slice cb d.next.length cc)],am cb cc 3 1 (aX cs),oI z2 25 [(vI 0),(vI 0),nS,nS],oI z1 25 [(vI d.vars),(vI d.start),(.slice nb d.next.length nc),(.slice fb d.ax.length fc)]] (a_ 3 qs) F F),?_⟩)⟩,⟨_,F,F,bM (v:=(.bool d.ax[k])) df dU F F F (fun zB=>⟨.inr (dW [3,8] [am (aD zB) 1 4 1 [(.bool d.ax[k])],am (aD zA) 1 56 1 [(.slice kb j kc)],am kb kc 3 1 (aX ((dP cs d.next[k]).take j)),oI z4 25 [(vI d.vars),(vN (cs.getD d.start.toNat 0)),(.slice ob qs.length oc),(.slice jA fs.length jB)],am ob oc 56 1 (bO qs),am jA jB 4 1 (bf fs),oI z3 56 [(.slice cb d.next.length cc)],am cb cc 3 1 (aX cs),oI z2 25 [(vI 0),(vI 0),nS,nS],oI z1 25 [(vI d.vars),(vI d.start),(.slice nb d.next.length nc),(.slice fb d.ax.length fc)]] (a_ 3 qs) F F),?_⟩)⟩,trivial⟩ (by kernel_rfl)
    ·refine iY 14 F (by kernel_rfl) (aN bW F dM F F) ?_
     refine eC [12] (by kernel_rfl) F ⟨⟨_,F,F,bM (v:=(.bool d.ax[k])) df dU F F F (fun zB=>⟨.inr (dW [3,8] [am (aD zB) 1 4 1 [(.bool d.ax[k])],am (aD zA) 1 56 1 [(.slice kb j kc)],am kb kc 3 1 (aX ((dP cs d.next[k]).take j)),oI z4 25 [(vI d.vars),(vN (cs.getD d.start.toNat 0)),(.slice ob qs.length oc),(.slice jA fs.length jB)],am tL tM 56 1 ((bO qs)++[(.slice kb j kc)]),am jA jB 4 1 (bf fs),oI z3 56 [(.slice cb d.next.length cc)],am cb cc 3 1 (aX cs),oI z2 25 [(vI 0),(vI 0),nS,nS],oI z1 25 [(vI d.vars),(vI d.start),(.slice nb d.next.length nc),(.slice fb d.ax.length fc)]] (a_ 3 qs) F F),?_⟩)⟩,trivial⟩ (by kernel_rfl)
     refine eC [13] (by kernel_rfl) F ⟨⟨_,F,F,bY 5 df df dU F F F F (by rw[List.length_map];omega) (by decide) (Src.row (j:=0) F (by simp)) (by simp[dS]) (by omega) (by decide) (by decide) (fun mN nM=>⟨.inr (dW [3,8] [am (aD zB) 1 4 1 [(.bool d.ax[k])],am (aD zA) 1 56 1 [(.slice kb j kc)],am kb kc 3 1 (aX ((dP cs d.next[k]).take j)),oI z4 25 [(vI d.vars),(vN (cs.getD d.start.toNat 0)),(.slice ob qs.length oc),(.slice jA fs.length jB)],am tL tM 56 1 ((bO qs)++[(.slice kb j kc)]),am mN nM 4 1 ((bf fs)++[(.bool d.ax[k])]),oI z3 56 [(.slice cb d.next.length cc)],am cb cc 3 1 (aX cs),oI z2 25 [(vI 0),(vI 0),nS,nS],oI z1 25 [(vI d.vars),(vI d.start),(.slice nb d.next.length nc),(.slice fb d.ax.length fc)]] (a_ 3 qs) F F),?_⟩)⟩,trivial⟩ (by kernel_rfl)
     refine eC [15] (by kernel_rfl) F ⟨⟨_,F,F,a8 (vs:=[(.slice tL (qs.length+1) tM)]) 3 dM F F F F ⟨.inl (by decide),?_⟩⟩,trivial⟩ (by kernel_rfl)
     refine iY 16 F (by kernel_rfl) (aN bW F cA F F) ?_
     refine eC [17] (by kernel_rfl) F ⟨⟨_,F,F,a8 (vs:=[(.slice mN (fs.length+1) nM)]) 3 cA F F F F ⟨.inl (by decide),?_⟩⟩,trivial⟩ (by kernel_rfl)
     exact cz (by kernel_rfl) ⟨tL,tM,mN,nM,F,(.of F)⟩ (by show Sub _ ([am (aD zB) 1 4 1 [(.bool d.ax[k])],am (aD zA) 1 56 1 [(.slice kb j kc)],am kb kc 3 1 (aX ((dP cs d.next[k]).take j)),oI z4 25 [(vI d.vars),(vN (cs.getD d.start.toNat 0)),(.slice tL (qs.length+1) tM),(.slice mN (fs.length+1) nM)],am tL tM 56 1 ((bO qs)++[(.slice kb j kc)]),am mN nM 4 1 ((bf fs)++[(.bool d.ax[k])]),oI z3 56 [(.slice cb d.next.length cc)],am cb cc 3 1 (aX cs),oI z2 25 [(vI 0),(vI 0),nS,nS],oI z1 25 [(vI d.vars),(vI d.start),(.slice nb d.next.length nc),(.slice fb d.ax.length fc)]]++a_ 3 qs);rw[hR];exact fC [am (aD zB) 1 4 1 [(.bool d.ax[k])],am (aD zA) 1 56 1 [(.slice kb j kc)]])
    refine eC [4] (by kernel_rfl) F ⟨⟨_,F,F,bY 4 du du bV F F F F (by rw[List.length_map];omega) (by decide) (Src.row (j:=1) F (by simp)) (by simp[dS]) (by omega) (by decide) (by decide) (fun tL tM=>⟨.inr (dW [3,8] [am (aD zB) 1 4 1 [(.bool d.ax[k])],am (aD zA) 1 56 1 [(.slice kb j kc)],am kb kc 3 1 (aX ((dP cs d.next[k]).take j)),oI z4 25 [(vI d.vars),(vN (cs.getD d.start.toNat 0)),(.slice ob qs.length oc),(.slice jA fs.length jB)],am tL tM 56 1 ((bO qs)++[(.slice kb j kc)]),am jA jB 4 1 (bf fs),oI z3 56 [(.slice cb d.next.length cc)],am cb cc 3 1 (aX cs),oI z2 25 [(vI 0),(vI 0),nS,nS],oI z1 25 [(vI d.vars),(vI d.start),(.slice nb d.next.length nc),(.slice fb d.ax.length fc)]] (a_ 3 qs) F F),?_⟩)⟩,trivial⟩ (by kernel_rfl)
    refine iY 14 F (by kernel_rfl) (aN bW F dM F F) ?_
    refine eC [13] (by kernel_rfl) F ⟨⟨_,F,F,bY 5 df df dU F F F F (by rw[List.length_map];omega) (by decide) (Src.row (j:=0) F (by simp)) (by simp[dS]) (by omega) (by decide) (by decide) (fun mN nM=>⟨.inr (dW [3,8] [am (aD zB) 1 4 1 [(.bool d.ax[k])],am (aD zA) 1 56 1 [(.slice kb j kc)],am kb kc 3 1 (aX ((dP cs d.next[k]).take j)),oI z4 25 [(vI d.vars),(vN (cs.getD d.start.toNat 0)),(.slice ob qs.length oc),(.slice jA fs.length jB)],am tL tM 56 1 ((bO qs)++[(.slice kb j kc)]),am mN nM 4 1 ((bf fs)++[(.bool d.ax[k])]),oI z3 56 [(.slice cb d.next.length cc)],am cb cc 3 1 (aX cs),oI z2 25 [(vI 0),(vI 0),nS,nS],oI z1 25 [(vI d.vars),(vI d.start),(.slice nb d.next.length nc),(.slice fb d.ax.length fc)]] (a_ 3 qs) F F),?_⟩)⟩,trivial⟩ (by kernel_rfl)
    refine eC [15] (by kernel_rfl) F ⟨⟨_,F,F,a8 (vs:=[(.slice tL (qs.length+1) tM)]) 3 dM F F F F ⟨.inl (by decide),?_⟩⟩,trivial⟩ (by kernel_rfl)
    refine iY 16 F (by kernel_rfl) (aN bW F cA F F) ?_
    refine eC [17] (by kernel_rfl) F ⟨⟨_,F,F,a8 (vs:=[(.slice mN (fs.length+1) nM)]) 3 cA F F F F ⟨.inl (by decide),?_⟩⟩,trivial⟩ (by kernel_rfl)
    exact cz (by kernel_rfl) ⟨tL,tM,mN,nM,F,(.of F)⟩ (by show Sub _ ([am (aD zB) 1 4 1 [(.bool d.ax[k])],am (aD zA) 1 56 1 [(.slice kb j kc)],am kb kc 3 1 (aX ((dP cs d.next[k]).take j)),oI z4 25 [(vI d.vars),(vN (cs.getD d.start.toNat 0)),(.slice tL (qs.length+1) tM),(.slice mN (fs.length+1) nM)],am tL tM 56 1 ((bO qs)++[(.slice kb j kc)]),am mN nM 4 1 ((bf fs)++[(.bool d.ax[k])]),oI z3 56 [(.slice cb d.next.length cc)],am cb cc 3 1 (aX cs),oI z2 25 [(vI 0),(vI 0),nS,nS],oI z1 25 [(vI d.vars),(vI d.start),(.slice nb d.next.length nc),(.slice fb d.ax.length fc)]]++a_ 3 qs);rw[hR];exact fC [am (aD zB) 1 4 1 [(.bool d.ax[k])],am (aD zA) 1 56 1 [(.slice kb j kc)]])
   refine eC [3] (by kernel_rfl) F ⟨⟨_,F,F,bM (v:=(.slice kb j kc)) du bV F F F (fun zA=>⟨.inr (dW [3,8] [am (aD zA) 1 56 1 [(.slice kb j kc)],am (aD zB) 1 4 1 [(.bool d.ax[k])],am kb kc 3 1 (aX ((dP cs d.next[k]).take j)),oI z4 25 [(vI d.vars),(vN (cs.getD d.start.toNat 0)),(.slice ob qs.length oc),(.slice jA fs.length jB)],am ob oc 56 1 (bO qs),am jA jB 4 1 (bf fs),oI z3 56 [(.slice cb d.next.length cc)],am cb cc 3 1 (aX cs),oI z2 25 [(vI 0),(vI 0),nS,nS],oI z1 25 [(vI d.vars),(vI d.start),(.slice nb d.next.length nc),(.slice fb d.ax.length fc)]] (a_ 3 qs) F F),?_⟩)⟩,trivial⟩ (by kernel_rfl)
   refine eC [4] (by kernel_rfl) F ⟨⟨_,F,F,bY 4 du du bV F F F F (by rw[List.length_map];omega) (by decide) (Src.row (j:=0) F (by simp)) (by simp[dS]) (by omega) (by decide) (by decide) (fun tL tM=>⟨.inr (dW [3,8] [am (aD zA) 1 56 1 [(.slice kb j kc)],am (aD zB) 1 4 1 [(.bool d.ax[k])],am kb kc 3 1 (aX ((dP cs d.next[k]).take j)),oI z4 25 [(vI d.vars),(vN (cs.getD d.start.toNat 0)),(.slice ob qs.length oc),(.slice jA fs.length jB)],am tL tM 56 1 ((bO qs)++[(.slice kb j kc)]),am jA jB 4 1 (bf fs),oI z3 56 [(.slice cb d.next.length cc)],am cb cc 3 1 (aX cs),oI z2 25 [(vI 0),(vI 0),nS,nS],oI z1 25 [(vI d.vars),(vI d.start),(.slice nb d.next.length nc),(.slice fb d.ax.length fc)]] (a_ 3 qs) F F),?_⟩)⟩,trivial⟩ (by kernel_rfl)
   refine iY 14 F (by kernel_rfl) (aN bW F dM F F) ?_
   refine eC [13] (by kernel_rfl) F ⟨⟨_,F,F,bY 5 df df dU F F F F (by rw[List.length_map];omega) (by decide) (Src.row (j:=1) F (by simp)) (by simp[dS]) (by omega) (by decide) (by decide) (fun mN nM=>⟨.inr (dW [3,8] [am (aD zA) 1 56 1 [(.slice kb j kc)],am (aD zB) 1 4 1 [(.bool d.ax[k])],am kb kc 3 1 (aX ((dP cs d.next[k]).take j)),oI z4 25 [(vI d.vars),(vN (cs.getD d.start.toNat 0)),(.slice ob qs.length oc),(.slice jA fs.length jB)],am tL tM 56 1 ((bO qs)++[(.slice kb j kc)]),am mN nM 4 1 ((bf fs)++[(.bool d.ax[k])]),oI z3 56 [(.slice cb d.next.length cc)],am cb cc 3 1 (aX cs),oI z2 25 [(vI 0),(vI 0),nS,nS],oI z1 25 [(vI d.vars),(vI d.start),(.slice nb d.next.length nc),(.slice fb d.ax.length fc)]] (a_ 3 qs) F F),?_⟩)⟩,trivial⟩ (by kernel_rfl)
   refine eC [15] (by kernel_rfl) F ⟨⟨_,F,F,a8 (vs:=[(.slice tL (qs.length+1) tM)]) 3 dM F F F F ⟨.inl (by decide),?_⟩⟩,trivial⟩ (by kernel_rfl)
   refine iY 16 F (by kernel_rfl) (aN bW F cA F F) ?_
   refine eC [17] (by kernel_rfl) F ⟨⟨_,F,F,a8 (vs:=[(.slice mN (fs.length+1) nM)]) 3 cA F F F F ⟨.inl (by decide),?_⟩⟩,trivial⟩ (by kernel_rfl)
   exact cz (by kernel_rfl) ⟨tL,tM,mN,nM,F,(.of F)⟩ (by show Sub _ ([am (aD zA) 1 56 1 [(.slice kb j kc)],am (aD zB) 1 4 1 [(.bool d.ax[k])],am kb kc 3 1 (aX ((dP cs d.next[k]).take j)),oI z4 25 [(vI d.vars),(vN (cs.getD d.start.toNat 0)),(.slice tL (qs.length+1) tM),(.slice mN (fs.length+1) nM)],am tL tM 56 1 ((bO qs)++[(.slice kb j kc)]),am mN nM 4 1 ((bf fs)++[(.bool d.ax[k])]),oI z3 56 [(.slice cb d.next.length cc)],am cb cc 3 1 (aX cs),oI z2 25 [(vI 0),(vI 0),nS,nS],oI z1 25 [(vI d.vars),(vI d.start),(.slice nb d.next.length nc),(.slice fb d.ax.length fc)]]++a_ 3 qs);rw[hR];exact fC [am (aD zA) 1 56 1 [(.slice kb j kc)],am (aD zB) 1 4 1 [(.bool d.ax[k])]])
  rintro ρ O ⟨tL,tM,mN,nM,rfl,hH⟩
  obtain⟨fE,rfl⟩:=hH.elim
  clear hH
  refine .inl ⟨F,tL,mN,tM,nM,qs++[⟨kb,kc,(dP cs d.next[k]).map fun c:Nat=>(c:Int)⟩],fs++[d.ax[k]],?_,by omega,?_,?_⟩
  ·simp[Rec.val,gg,Zs]
  ·rw[U6,←xq];simp
  ·rw[U6,kY]
 ·refine⟨none,none,0,0,[],[],?_,Nat.zero_le _,F,F⟩
  rfl
 rintro v O' (⟨ob,jA,oc,jB,qs,fs,rfl,hk,xq,kY⟩|hF)
 rotate_left
 ·exact hF.elim
 refine⟨none,_,F,?_⟩
 refine aB ?_
 have DG:qs.length=(quo d cs).next.length:=by rw[show qs.length=(nums qs).length by simp,xq];rfl
 obtain rfl:fs=(quo d cs).ax:=kY
 rw[DG]
 refine aJ (ad (dh 0 bW F aY F F F) ?_)
 have vj:=fun(w1:World) (hI:Inv w ([oI z4 25 [(vI d.vars),(vN (cs.getD d.start.toNat 0)),(.slice ob ((quo d cs).next.length) oc),(.slice jA ((quo d cs).ax.length) jB)],am ob oc 56 1 (bO qs),am jA jB 4 1 (bf (quo d cs).ax),oI z3 56 [(.slice cb d.next.length cc)],am cb cc 3 1 (aX cs),oI z2 25 [(vI 0),(vI 0),nS,nS],oI z1 25 [(vI d.vars),(vI d.start),(.slice nb d.next.length nc),(.slice fb d.ax.length fc)]]++(a_ 3 qs)) w1)=>(haveI:=di hI;MD w1 (quo d cs) ob jA oc jB (bO qs) ⟨hI.fV (mG 1 F),(show nums qs=(quo d cs).next from xq)▸hI.R7 (fun q hq=>List.mem_append_right _ (List.mem_map_of_mem (f:=Rec.qG 3) hq)),hI.fV (mG 2 F)⟩ ZR ZS)
 refine ak F (aP UB (aI vj) F ?_)
 clear vj
 rintro v O' ⟨N,rfl,zX,zY,mK,mL,U7,rfl,rfl,Kj⟩
 refine cQ (O':=([am zX zY 56 1 (bO U7),am mK mL 4 1 (bf (db (quo d cs)).ax),oI z4 25 [(vI d.vars),(vN (cs.getD d.start.toNat 0)),(.slice ob ((quo d cs).next.length) oc),(.slice jA ((quo d cs).ax.length) jB)],am ob oc 56 1 (bO qs),am jA jB 4 1 (bf (quo d cs).ax),oI z3 56 [(.slice cb d.next.length cc)],am cb cc 3 1 (aX cs),oI z2 25 [(vI 0),(vI 0),nS,nS],oI z1 25 [(vI d.vars),(vI d.start),(.slice nb d.next.length nc),(.slice fb d.ax.length fc)]]++((a_ 3 U7)++(a_ 3 qs)))) (fC []) ?_
 refine ad (aV (vs:=_) F F) (ad (aV (vs:=_) F F) (ak F (a8 (vs:=[(vI (db (quo d cs)).vars),(vI (db (quo d cs)).start),(.slice zX ((db (quo d cs)).next.length) zY),(.slice mK ((db (quo d cs)).ax.length) mL)]) 7 aY F F F F ?_)))
 refine aj F (ae (aA (ap ?_)))
 refine io (vI 0) (i:=7) Tryz.results23 bW F aY F F F F ?_
 exact⟨[am zX zY 56 1 (bO U7),am mK mL 4 1 (bf (db (quo d cs)).ax)]++a_ 3 U7,fC ([oI z4 25 [(vI d.vars),(vN (cs.getD d.start.toNat 0)),(.slice ob ((quo d cs).next.length) oc),(.slice jA ((quo d cs).ax.length) jB)],am ob oc 56 1 (bO qs),am jA jB 4 1 (bf (quo d cs).ax),oI z3 56 [(.slice cb d.next.length cc)],am cb cc 3 1 (aX cs),oI z2 25 [(vI (db (quo d cs)).vars),(vI (db (quo d cs)).start),(.slice zX ((db (quo d cs)).next.length) zY),(.slice mK ((db (quo d cs)).ax.length) mL)],oI z1 25 [(vI d.vars),(vI d.start),(.slice nb d.next.length nc),(.slice fb d.ax.length fc)]]++a_ 3 qs),zX,zY,mK,mL,U7,F,F,Kj⟩
end Go.Proofs.YtgdbfideeeegmaaGreatDoor

namespace Go.Proofs.YtgdbfideeeegmaaGreatDoor
open Go.Lx Go.RowKit _root_.Go.Proofs.Tryz
end Go.Proofs.YtgdbfideeeegmaaGreatDoor

namespace Go.Proofs.YtgdbfideeeegmaaGreatDoor
open Go.Lx Go.RowKit _root_.Go.Proofs.Tryz
end Go.Proofs.YtgdbfideeeegmaaGreatDoor

namespace Go.Proofs.YtgdbfideeeegmaaGreatDoor
open Go.Lx Go.RowKit _root_.Go.Proofs.Tryz
end Go.Proofs.YtgdbfideeeegmaaGreatDoor

namespace Go.Proofs.YtgdbfideeeegmaaGreatDoor
open Go.Lx Go.RowKit _root_.Go.Proofs.Tryz
end Go.Proofs.YtgdbfideeeegmaaGreatDoor

namespace Go.Proofs.YtgdbfideeeegmaaGreatDoor
open Go.Lx Go.RowKit _root_.Go.Proofs.Tryz
end Go.Proofs.YtgdbfideeeegmaaGreatDoor

namespace Go.Proofs.YtgdbfideeeegmaaGreatDoor
open Go.Lx Go.RowKit _root_.Go.Proofs.Tryz
theorem XY (w:World) [cG Tryz.prog w] (d:bU) (nb fb:Option Addr) (nc fc:Nat) (vs:List Value) (h:fZ w d nb vs fb) (hb:d.next.length<9223372036854775807) (rQ: ∀r∈d.next,r.length<9223372036854775807) (tN:d.ax.length<9223372036854775807) (hn:Valid d→d.next.length<10000):
  bI Tryz.prog 23 [.agg (dB d nb nc fb fc).toArray] w fun v N=> ∃zX zY mK mL qs,v=.tuple #[.agg (dB (zl d) zX zY mK mL).toArray,.int .i64 (cE d:Int)]∧N=[am zX zY 56 1 (bO qs),am mK mL 4 1 (bf (zl d).ax)]++a_ 3 qs∧nums qs=(zl d).next:=by
 unfold zl
 by_cases he:cE d=0
 ·have hv:=dq.1 he
  obtain⟨q1,q2⟩:=ED hv d.next.length
  rw[he,if_pos F]
  exact U4 w d nb fb nc fc vs h hv (hn hv) q1 (by have:=hn hv;omega)
 ·rw[if_neg he]
  refine(eK 56 1 (eK 4 1 (Q4 w d nb fb nc fc vs h hb rQ tN he))).mono ?_
  rintro v N ⟨O2,rfl,O3,rfl,rfl,rfl⟩
  exact⟨none,0,none,0,[],F,F,F⟩
end Go.Proofs.YtgdbfideeeegmaaGreatDoor

namespace Go.Lx
open Go.RowKit
theorem Hh {α:Type} {L:List α} {f:α→Bool} {i:Nat} (hi:i<L.length) (h:(L.take i).any f=false) (h2:f L[i]=false):(L.take (i+1)).any f=false:=by
 rw[List.take_succ_eq_append_getElem hi,List.any_append,h];simp[h2]
theorem OI {α:Type} {L:List α} {f:α→Bool} {i:Nat} (hi:i<L.length) (h:f L[i]=true):L.any f=true:=
 List.any_eq_true.2 ⟨_,List.getElem_mem hi,h⟩
end Go.Lx
namespace Go.Lx
end Go.Lx
namespace Go.Lx
end Go.Lx

namespace Go.Proofs.YtgdbfideeeegmaaGreatDoor
open Go.Lx Go.RowKit _root_.Go.Proofs.Tryz
theorem EW (w:World) [cG Tryz.prog w] (d e:bU) (BI BJ BK mN:Option Addr) (EX EY EZ nM:Nat) (vs us:List Value) (h1:fZ w d BI vs BK) (h2:fZ w e BJ us mN) (hb:d.next.length<9223372036854775807) (rQ: ∀r∈d.next,r.length<9223372036854775807) (tN:d.ax.length<9223372036854775807):
  bI Tryz.prog 16 [.agg (dB d BI EX BK EZ).toArray,.agg (dB e BJ EY mN nM).toArray] w fun v N=>v=.bool (decide (d=e))∧N=[]:=
 (qJ (zm w d e BI BJ BK mN EX EY EZ nM vs us h1 h2 hb rQ tN)).mono fun v N ⟨h1,O2,h2,_⟩=>⟨h2,h1⟩
theorem E0 (w:World) [cG Tryz.prog w] (d:bU) (BI BJ BK mN:Option Addr) (EX EY EZ nM:Nat) (vs us:List Value) (h1:fZ w d BI vs BK) (h2:fZ w d BJ us mN) (hb:d.next.length<9223372036854775807) (rQ: ∀r∈d.next,r.length<9223372036854775807) (tN:d.ax.length<9223372036854775807):
  bI Tryz.prog 16 [.agg (dB d BI EX BK EZ).toArray,.agg (dB d BJ EY mN nM).toArray] w fun v N=>v=.bool true∧N=[]:=
 (EW w d d BI BJ BK mN EX EY EZ nM vs us h1 h2 hb rQ tN).mono fun v N ⟨h1,h2⟩=>⟨h1.trans (congrArg Value.bool (decide_eq_true F)),h2⟩
end Go.Proofs.YtgdbfideeeegmaaGreatDoor

namespace Go.Lx
def iJ (d:bU) (s:Nat):Nat:=(fN d d.next.length).getD s 0
theorem mE {d:bU} (hv:Val d) {s t:Nat} (hs:s<d.next.length) (ht:t<d.next.length):iJ d s=iJ d t↔ ∀u,Wd d u→ ¬dst d s t u:=Mg hv hs ht
theorem F9 {d:bU} (hv:Val d) {s t:Nat} (hs:s<d.next.length) (ht:t<d.next.length) (h:iJ d s=iJ d t):cF d s=cF d t:=by
 have:=(mE hv hs ht).1 h [] (fun x hx=>by cases hx)
 exact Classical.not_not.1 this
theorem C_ {d:bU} (hv:Val d) {s t x:Nat} (hs:s<d.next.length) (ht:t<d.next.length) (hx:x<da d) (h:iJ d s=iJ d t):iJ d (dY d s x)=iJ d (dY d t x):=by
 rw[mE hv (lQ hv hs hx) (lQ hv ht hx)]
 intro u hu hd
 exact(mE hv hs ht).1 h (x::u) (fun y hy=>by rcases List.mem_cons.1 hy with rfl|hy;exact hx;exact hu y hy) hd
theorem EF {d:bU} {cs:List Nat} (hl:cs.length=d.next.length) (hc:ul cs=cs): ∀k,k≤d.next.length→ ∀c,c<(gr d cs k).1.length→ ∃s,s<k∧cs.getD s 0=c∧(gr d cs k).1[c]? =some ((dP cs (d.next.getD s [])).map fun c:Nat=>(c:Int))∧(gr d cs k).2[c]? =some (cF d s)
 |0,_,c,h=>by simp[gr]at h
 |k+1,hk,c,h=>by
  have ih:=EF hl hc k (by omega)
  have gv:=jn d cs k
  by_cases hn:cs.getD k 0<(gr d cs k).1.length
  ·rw[gr,if_pos hn]at h⊢
   obtain⟨s,h1,h2⟩:=ih c h
   exact⟨s,by omega,h2⟩
  ·rw[gr,if_neg hn]at h⊢
   by_cases l_:c<(gr d cs k).1.length
   ·obtain⟨s,h1,h2,h3,h4⟩:=ih c l_
    exact⟨s,by omega,h2,by rw[List.getElem?_append_left l_];exact h3,by rw[List.getElem?_append_left (by omega)];exact h4⟩
   ·have Vm:c=(gr d cs k).1.length:=by simp at h;omega
    refine⟨k,by omega,?_,?_,?_⟩
    ·have h1:=rF (l:=cs) hl hc.symm k (by omega)
     have h2:=rF (l:=cs) hl hc.symm (k+1) hk
     have lA:k<cs.length:=by omega
     have hg:=List.getElem?_eq_getElem lA
     have Rv:cs.getD k 0=ix cs[k] (dd cs):=by
      have:=jy hg
      rw[hc]at this
      rw[List.getD_eq_getElem?_getD,this];rfl
     have xe:dd (cs.take (k+1))<+:dd cs:=by
      conv=>rhs;rw[←List.take_append_drop (k+1) cs]
      rw[sK];exact eL _ _
     have hm:cs[k]∈dd (cs.take (k+1)):=iz.2 (by rw[List.take_succ_eq_append_getElem lA];exact List.mem_append_right _ (List.mem_singleton.2 F))
     have eV:=pS hm
     rw[Rv,e_ xe hm]
     rw[Rv,e_ xe hm]at hn
     rw[gr,if_neg (by rw[Rv,e_ xe hm];exact hn)]at h2
     simp at h2
     omega
    ·rw[Vm,List.getElem?_append_right (Nat.le_refl _)];simp
    ·rw[Vm,gv.1,List.getElem?_append_right (Nat.le_refl _)];simp[cF]
def nP (d:bU):bU:=quo d (fN d d.next.length)
theorem nQ {d:bU} (hv:Val d):Val (nP d):=(Mh hv d.next.length).1
theorem Da {d:bU} (hv:Valid d):Valid (nP d):=(ED hv d.next.length).1
theorem JH {d:bU} (hv:Val d) {s:Nat} (hs:s<d.next.length):iJ d s<(nP d).next.length:=by
 rw[nP,EB (dX d _) (nu d _)]
 exact Jw (nu d _) (EA hs)
theorem EG {d:bU} (hv:Val d) {c:Nat} (hc:c<(nP d).next.length): ∃s,s<d.next.length∧iJ d s=c∧cF (nP d) c=cF d s∧ ∀x,x<da d→dY (nP d) c x=iJ d (dY d s x):=by
 obtain⟨s,h1,h2,h3,h4⟩:=EF (dX d d.next.length) (nu d _) d.next.length (Nat.le_refl _) c hc
 refine⟨s,h1,h2,?_,?_⟩
 ·show(gr d (fN d d.next.length) d.next.length).2.getD c false=_
  rw[List.getD_eq_getElem?_getD,h4];rfl
 ·intro x hx
  have qf:(nP d).next.getD c []=(dP (fN d d.next.length) (d.next.getD s [])).map fun c:Nat=>(c:Int):=by
   show(gr d (fN d d.next.length) d.next.length).1.getD c []=_
   rw[List.getD_eq_getElem?_getD,h3];rfl
  have Xh:(d.next.getD s []).length=da d:=by simp[h1];exact hv.len _ (List.getElem_mem h1)
  have qO:x<(d.next.getD s []).length:=by omega
  have e1:(d.next.getD s []).getD x 0=(d.next.getD s [])[x]:=by rw[List.getD_eq_getElem?_getD,List.getElem?_eq_getElem qO];rfl
  rw[dY,qf,List.getD_eq_getElem?_getD,List.getElem?_map,dP,List.getElem?_map,List.getElem?_eq_getElem qO]
  show(((fN d d.next.length).getD (d.next.getD s [])[x].toNat 0:Nat):Int).toNat=iJ d (dY d s x)
  rw[Int.toNat_natCast,iJ,dY,e1]
theorem sL {d:bU} (hv:Val d) {s x:Nat} (hs:s<d.next.length) (hx:x<da d):dY (nP d) (iJ d s) x=iJ d (dY d s x):=by
 obtain⟨s',h1,h2,_,h4⟩:=EG hv (JH hv hs)
 rw[h4 x hx]
 exact C_ hv h1 hs hx h2
theorem vS {d:bU} (hv:Val d) {s:Nat} (hs:s<d.next.length):cF (nP d) (iJ d s)=cF d s:=by
 obtain⟨s',h1,h2,h3,_⟩:=EG hv (JH hv hs)
 rw[h3];exact F9 hv h1 hs h2
theorem JI {d:bU} (hv:Val d) {s:Nat} (hs:s<d.next.length): ∀w,Wd d w→runN (nP d) (iJ d s) w=iJ d (runN d s w):=by
 refine mO (fun _=>rfl) ?_
 intro w x ih hw
 have G4:Wd d w:=fun y hy=>hw y (by simp[hy])
 rw[eE,eE,ih G4,sL hv (jW hv hs w G4) (hw x (by simp))]
theorem qD (d:bU):(nP d).start.toNat=iJ d d.start.toNat:=by
 show(((fN d d.next.length).getD d.start.toNat 0:Nat):Int).toNat=_
 rw[Int.toNat_natCast];rfl
theorem o5 {d:bU} (hv:Val d): ∃r,order d=d.start.toNat::r:=by
 have hp:=gZ d 0 d.next.length (Nat.zero_le _)
 obtain⟨r,hr⟩:=hp
 exact⟨r,hr.symm⟩
theorem sM {d:bU} (hv:Val d):Val (db d):=by
 obtain⟨r,hr⟩:=o5 hv
 have hl:=rW hv
 have Hc:0<(order d).length:=by rw[hr];simp
 refine⟨hv.v0,hv.v6,?_,?_,Int.le_refl _,?_,?_,?_⟩
 ·simpa[db]using Hc
 ·simp[db]
 ·show(0:Int)<((db d).next.length:Nat)
  simp only[db,List.length_map];omega
 ·intro r hr
  obtain⟨o,ho,rfl⟩:=List.mem_map.1 hr
  rw[List.length_map,Bs];rfl
 ·intro r hr x hx
  obtain⟨o,ho,rfl⟩:=List.mem_map.1 hr
  obtain⟨t,ht,rfl⟩:=List.mem_map.1 hx
  refine⟨Int.natCast_nonneg _,?_⟩
  have:=pS (rG hv o ho t ht)
  simp only[db,List.length_map];omega
theorem Db {d:bU} (hv:Val d) {s x:Nat} (hs:s∈order d) (hx:x<da d):dY (db d) (ix s (order d)) x=ix (dY d s x) (order d):=by
 have hg:=nr hs
 have qf:(db d).next.getD (ix s (order d)) []=(kL d s).map fun t=>((ix t (order d):Nat):Int):=by
  show((order d).map fun o=>(kL d o).map fun t=>((ix t (order d):Nat):Int)).getD _ []=_
  rw[List.getD_eq_getElem?_getD,List.getElem?_map,hg];rfl
 rw[dY,qf,List.getD_eq_getElem?_getD,List.getElem?_map,vT hx]
 show((ix (dY d s x) (order d):Nat):Int).toNat=_
 rw[Int.toNat_natCast]
theorem F_ {d:bU} {s:Nat} (hs:s∈order d):cF (db d) (ix s (order d))=cF d s:=by
 show((order d).map fun o=>d.ax.getD o false).getD _ false=_
 rw[List.getD_eq_getElem?_getD,List.getElem?_map,nr hs];rfl
theorem xM {d:bU} (hv:Val d) {s:Nat} (hs:s∈order d): ∀w,Wd d w→runN d s w∈order d:=by
 refine mO (fun _=>hs) ?_
 intro w x ih hw
 rw[eE]
 exact rG hv _ (ih fun y hy=>hw y (by simp[hy])) _ (List.mem_of_getElem? (vT (hw x (by simp))))
theorem Ga {d:bU} (hv:Val d) {s:Nat} (hs:s∈order d): ∀w,Wd d w→runN (db d) (ix s (order d)) w=ix (runN d s w) (order d):=by
 refine mO (fun _=>rfl) ?_
 intro w x ih hw
 have G4:Wd d w:=fun y hy=>hw y (by simp[hy])
 rw[eE,eE,ih G4,Db hv (xM hv hs w G4) (hw x (by simp))]
theorem xN {d:bU} (hv:Val d):d.start.toNat∈order d:=by
 obtain⟨r,hr⟩:=o5 hv
 rw[hr];simp
theorem JJ {d:bU} (hv:Val d):ix d.start.toNat (order d)=0:=by
 obtain⟨r,hr⟩:=o5 hv
 rw[hr];simp[ix]
def gq (d:bU) (w:List Nat):Bool:=cF d (runN d d.start.toNat w)
theorem dl {d:bU} (hv:Val d):d.start.toNat<d.next.length:=by have:=hv.s0;have:=hv.s1;omega
theorem xO {d:bU} (hv:Val d) {w:List Nat} (hw:Wd d w):gq (db d) w=gq d w:=by
 have h:=Ga hv (xN hv) w hw
 rw[JJ hv]at h
 show cF (db d) (runN (db d) 0 w)=_
 rw[h,F_ (xM hv (xN hv) w hw)];rfl
theorem JK {d:bU} (hv:Val d) {w:List Nat} (hw:Wd d w):gq (nP d) w=gq d w:=by
 unfold gq
 rw[qD,JI hv (dl hv) w hw,vS hv (jW hv (dl hv) w hw)]
theorem JL {d:bU} (hv:Val d):Val (gJ d):=sM (nQ hv)
theorem r8 {d:bU} (hv:Val d) (h:(order d).length≤4096):Valid (db d):=⟨sM hv,by simpa[db]using h⟩
theorem Bt {d:bU} (hv:Valid d):Valid (db d):=r8 hv (Nat.le_trans (rW hv.toVal) hv.n4)
theorem mP {d:bU} (hv:Valid d):Valid (gJ d):=Bt (Da hv)
theorem qK {d:bU} (hv:Val d) {w:List Nat} (hw:Wd d w):gq (gJ d) w=gq d w:=
 (xO (nQ hv) hw).trans (JK hv hw)
inductive iK (ρ:Nat→Nat→Prop):List Nat→List Nat→Prop
 |nil:iK ρ [] []
 |cons {a b l m}:ρ a b→iK ρ l m→iK ρ (a::l) (b::m)
theorem iK.append {ρ:Nat→Nat→Prop} {l m l' m':List Nat} (h:iK ρ l m) (h':iK ρ l' m'):iK ρ (l++l') (m++m'):=by
 induction h with
 |nil=>exact h'
 |cons h1 _ ih=>exact .cons h1 ih
theorem iK.len {ρ:Nat→Nat→Prop} {l m:List Nat} (h:iK ρ l m):l.length=m.length:=by
 induction h with
 |nil=>rfl
 |cons _ _ ih=>simp[ih]
theorem iK.get {ρ:Nat→Nat→Prop} {l m:List Nat} (h:iK ρ l m): ∀ {i a b:Nat},l[i]? =some a→m[i]? =some b→ρ a b:=by
 induction h with
 |nil=>intro i a b h;simp at h
 |cons h1 _ ih=>
  intro i a b ha hb
  cases i with
  |zero=>simp at ha hb;subst ha;subst hb;exact h1
  |succ i=>exact ih (by simpa using ha) (by simpa using hb)
section
variable {ρ:Nat→Nat→Prop}
def vU (ρ:Nat→Nat→Prop):Prop:= ∀a b a' b',ρ a b→ρ a' b'→(a=a'↔b=b')
theorem iK.mem (ho:vU ρ) {l m:List Nat} (h:iK ρ l m) {a b:Nat} (wF:ρ a b):a∈l↔b∈m:=by
 induction h with
 |nil=>simp
 |cons h1 _ ih=>rw[List.mem_cons,List.mem_cons,ih,ho _ _ _ _ wF h1]
theorem iK.ix (ho:vU ρ) {l m:List Nat} (h:iK ρ l m) {a b:Nat} (wF:ρ a b):Lx.ix a l=Lx.ix b m:=by
 induction h with
 |nil=>rfl
 | @cons x y l m h1 _ ih=>
  simp only[Lx.ix,ih]
  by_cases e:a=x
  ·rw[if_pos e,if_pos ((ho _ _ _ _ wF h1).1 e)]
  ·rw[if_neg e,if_neg (fun h=>e ((ho _ _ _ _ wF h1).2 h))]
theorem iK.add (ho:vU ρ) {l m:List Nat} (h:iK ρ l m) {a b:Nat} (wF:ρ a b):iK ρ (Lx.add l a) (Lx.add m b):=by
 unfold Lx.add
 by_cases e:a∈l
 ·rw[if_pos e,if_pos ((h.mem ho wF).1 e)];exact h
 ·rw[if_neg e,if_neg (fun h9=>e ((h.mem ho wF).2 h9))];exact h.append (.cons wF .nil)
theorem iK.foldl (ho:vU ρ) {xs ys:List Nat} (hx:iK ρ xs ys): ∀ {l m:List Nat},iK ρ l m→iK ρ (xs.foldl Lx.add l) (ys.foldl Lx.add m):=by
 induction hx with
 |nil=>intro l m h;exact h
 |cons h1 _ ih=>intro l m h;exact ih (h.add ho h1)
theorem iK.map {f g:Nat→Nat}: ∀(l:List Nat),(∀x∈l,ρ (f x) (g x))→iK ρ (l.map f) (l.map g)
 | [],_=>.nil
 |x::l,h=>.cons (h x (by simp)) (iK.map l fun y hy=>h y (by simp[hy]))
structure rH (ρ:Nat→Nat→Prop) (p q:bU):Prop where
 vars:p.vars=q.vars
 one:vU ρ
 start:ρ p.start.toNat q.start.toNat
 step: ∀a b x,ρ a b→x<da p→ρ (dY p a x) (dY q b x)
 fin: ∀a b,ρ a b→cF p a=cF q b
theorem rH.kL {p q:bU} (h:rH ρ p q) {a b:Nat} (wF:ρ a b):iK ρ (kL p a) (kL q b):=by
 unfold Lx.kL
 rw[←h.vars]
 exact iK.map _ fun x hx=>h.step a b x wF (List.mem_range.1 hx)
theorem rH.Zw {p q:bU} (h:rH ρ p q): ∀i,iK ρ (b_ p i) (b_ q i)
 |0=>.cons h.start .nil
 |i+1=>by
  have ih:=h.Zw i
  have hl:=ih.len
  rw[b_,b_,←hl]
  by_cases hi:i<(b_ p i).length
  ·rw[if_pos hi,if_pos hi]
   have Fe:i<(b_ q i).length:=by omega
   have g1:=List.getElem?_eq_getElem hi
   have g2:=List.getElem?_eq_getElem Fe
   have e1:(b_ p i).getD i 0=(b_ p i)[i]:=by rw[List.getD_eq_getElem?_getD,g1];rfl
   have e2:(b_ q i).getD i 0=(b_ q i)[i]:=by rw[List.getD_eq_getElem?_getD,g2];rfl
   rw[e1,e2]
   exact(h.kL (ih.get g1 g2)).foldl h.one ih
  ·rw[if_neg hi,if_neg hi];exact ih
theorem rH.order {p q:bU} (h:rH ρ p q) (hp:Val p) (hq:Val q):iK ρ (order p) (order q):=by
 obtain⟨N,h1,h2,_⟩:=vV hp
 have e1:=nX h2 h1
 have hb:=h.Zw N
 have Zx:(b_ q N).length=N:=by rw[←hb.len];exact h2
 have hNq:N≤q.next.length:=by rw[←Zx];exact vW hq N
 rw[e1,nX Zx hNq]
 exact hb
theorem rH.db {p q:bU} (h:rH ρ p q) (hp:Val p) (hq:Val q):db p=db q:=by
 have ho:=h.order hp hq
 have rows: ∀ {l m:List Nat},iK ρ l m→(l.map fun o=>(Lx.kL p o).map fun t=>((Lx.ix t (Lx.order p):Nat):Int))=m.map fun o=>(Lx.kL q o).map fun t=>((Lx.ix t (Lx.order q):Nat):Int):=by
  intro l m Uo
  induction Uo with
  |nil=>rfl
  |cons h1 _ ih=>
   rw[List.map_cons,List.map_cons,ih]
   congr 1
   have hs:=h.kL h1
   have each: ∀ {x y:List Nat},iK ρ x y→(x.map fun t=>((Lx.ix t (Lx.order p):Nat):Int))=y.map fun t=>((Lx.ix t (Lx.order q):Nat):Int):=by
    intro x y Yv
    induction Yv with
    |nil=>rfl
    |cons h2 _ ih2=>rw[List.map_cons,List.map_cons,ih2,ho.ix h.one h2]
   exact each hs
 have Xn: ∀ {l m:List Nat},iK ρ l m→(l.map fun o=>p.ax.getD o false)=m.map fun o=>q.ax.getD o false:=by
  intro l m Uo
  induction Uo with
  |nil=>rfl
  |cons h1 _ ih=>rw[List.map_cons,List.map_cons,ih];congr 1;exact h.fin _ _ h1
 unfold Lx.db
 rw[rows ho,Xn ho,h.vars]
end
theorem nR {a b:bU} (ha:Val a) (hb:Val b) (wS:a.vars=b.vars) (h: ∀w,Wd a w→gq a w=gq b w):gJ a=gJ b:=by
 have Mp: ∀w,Wd a w↔Wd b w:=fun w=>by unfold Wd da;rw[wS]
 refine rH.db (ρ:=fun c1 c2=> ∃s t,s<a.next.length∧t<b.next.length∧iJ a s=c1∧iJ b t=c2∧ ∀w,Wd a w→cF a (runN a s w)=cF b (runN b t w)) ⟨wS,?_,?_,?_,?_⟩ (nQ ha) (nQ hb)
 ·rintro c1 c2 c1' c2' ⟨s,t,hs,ht,rfl,rfl,hw⟩ ⟨s',t',Ov,Kb,rfl,rfl,G4⟩
  rw[mE ha hs Ov,mE hb ht Kb]
  constructor
  ·intro h1 u hu hd
   have GB:=(Mp u).2 hu
   refine h1 u GB ?_
   unfold dst at*
   rw[hw u GB,G4 u GB];exact hd
  ·intro h1 u hu hd
   refine h1 u ((Mp u).1 hu) ?_
   unfold dst at*
   rw[←hw u hu,←G4 u hu];exact hd
 ·exact⟨a.start.toNat,b.start.toNat,dl ha,dl hb,(qD a).symm,(qD b).symm,h⟩
 ·rintro c1 c2 x ⟨s,t,hs,ht,rfl,rfl,hw⟩ hx
  have N4:x<da a:=hx
  have Rq:x<da b:=by unfold da at*;rw[←wS];exact N4
  refine⟨dY a s x,dY b t x,lQ ha hs N4,lQ hb ht Rq,(sL ha hs N4).symm,(sL hb ht Rq).symm,fun w hww=>?_⟩
  exact hw (x::w) (fun y hy=>by rcases List.mem_cons.1 hy with rfl|hy;exact N4;exact hww y hy)
 ·rintro c1 c2 ⟨s,t,hs,ht,rfl,rfl,hw⟩
  show cF (nP a) _=cF (nP b) _
  rw[vS ha hs,vS hb ht]
  exact hw [] (fun x hx=>by cases hx)
end Go.Lx

namespace Go.Lx
end Go.Lx

namespace Go.Lx
def j7 (d:bU) (w:List Nat):Nat:=if cE d≠0 then cE d else if 64<w.length then 4 else if w.any (fun x=>decide (2^d.vars.toNat≤x))=true then 1 else 0
def t_ (d:bU) (w:List Nat):Nat:=if j7 d w=0 then runN d d.start.toNat w else 0
def E5 (d:bU) (w:List Nat):Bool:=if j7 d w=0 then cF d (runN d d.start.toNat w)else false
theorem sq {d:bU} {w:List Nat}:j7 d w=0↔Valid d∧w.length≤64∧Wd d w:=by
 unfold j7
 by_cases h:cE d=0
 ·rw[if_neg (by simp[h])]
  by_cases h2:64<w.length
  ·rw[if_pos h2];exact⟨fun h=>absurd h (by decide),fun h=>by omega⟩
  ·rw[if_neg h2]
   by_cases h3:w.any (fun x=>decide (2^d.vars.toNat≤x))=true
   ·rw[if_pos h3]
    refine⟨fun h=>absurd h (by decide),fun h=>?_⟩
    obtain⟨x,hx,K2⟩:=List.any_eq_true.1 h3
    have:=h.2.2 x hx
    simp at K2
    unfold da at this
    omega
   ·rw[if_neg h3]
    refine⟨fun _=>⟨dq.1 h,by omega,fun x hx=>?_⟩,fun _=>rfl⟩
    rcases Nat.lt_or_ge x (da d)with h4|h4
    ·exact h4
    ·exact absurd (List.any_eq_true.2 ⟨x,hx,decide_eq_true h4⟩) h3
 ·rw[if_pos h];exact⟨fun e=>absurd e h,fun hh=>absurd (dq.2 hh.1) h⟩
theorem Gl {d:bU} {s:Nat} {w:List Nat} {k:Nat} (hk:k<w.length):runN d s (w.take (k+1))=dY d (runN d s (w.take k)) w[k]:=by
 rw[List.take_succ_eq_append_getElem hk,eE]
end Go.Lx

namespace Go.Lx
theorem mQ {d:bU} (hv:Val d): ∀i,∀o∈b_ d i,∃w,Wd d w∧runN d d.start.toNat w=o
 |0,o,h=>by
  simp only[b_,List.mem_singleton]at h
  subst h
  exact⟨[],fun x hx=>(List.not_mem_nil hx).elim,F⟩
 |i+1,o,h=>by
  rw[b_]at h
  split at h
  ·rename_i hi
   rcases(dc _ _).1 h with h|h
   ·exact mQ hv i o h
   ·obtain⟨x,hx,rfl⟩:=List.mem_map.1 h
    have hm:(b_ d i).getD i 0∈b_ d i:=by
     rw[List.getD_eq_getElem?_getD,List.getElem?_eq_getElem hi];exact List.getElem_mem hi
    obtain⟨w,hw,he⟩:=mQ hv i _ hm
    refine⟨w++[x],fun y hy=>?_,by rw[eE,he]⟩
    rcases List.mem_append.1 hy with hy|hy
    ·exact hw y hy
    ·rw[List.mem_singleton.1 hy];exact List.mem_range.1 hx
  ·exact mQ hv i o h
theorem wN {f:Nat→Nat}: ∀ {l:List Nat},l.Nodup→(∀a∈l,∀b∈l,f a=f b→a=b)→(l.map f).Nodup
 | [],_,_=>List.nodup_nil
 |a::l,hn,hi=>by
  obtain⟨h1,h2⟩:=List.nodup_cons.1 hn
  rw[List.map_cons,List.nodup_cons]
  refine⟨fun hm=>?_,wN h2 fun x hx y hy=>hi x (by simp[hx]) y (by simp[hy])⟩
  obtain⟨y,hy,e⟩:=List.mem_map.1 hm
  have:=hi a (by simp) y (by simp[hy]) e.symm
  exact h1 (this▸hy)
theorem uE {d:bU} (hv:Val d):gJ (db d)=gJ d:=nR (sM hv) hv F fun w hw=>xO hv hw
theorem ut {d:bU} (hv:Val d):gJ (gJ d)=gJ d:=nR (JL hv) hv F fun w hw=>qK hv hw
theorem Dh {d:bU} (hv:Valid d):zl d=gJ d:=by unfold zl;rw[if_pos (dq.2 hv)]
end Go.Lx

namespace Go.Lx
open Go.RowKit
def Dk (a b:bU) (s t:Nat):List Int:=(List.range (da a)).map fun x=>((dY a s x*b.next.length+dY b t x:Nat):Int)
def pW (a b:bU):List (List Int):=(List.range (a.next.length*b.next.length)).map fun c=>Dk a b (c/b.next.length) (c%b.next.length)
def zn (f:Bool→Bool→Bool) (a b:bU):List Bool:=(List.range (a.next.length*b.next.length)).map fun c=>f (cF a (c/b.next.length)) (cF b (c%b.next.length))
def aU (f:Bool→Bool→Bool) (a b:bU):bU:=⟨a.vars,((a.start.toNat*b.next.length+b.start.toNat:Nat):Int),pW a b,zn f a b⟩
theorem xX {n s t:Nat} (ht:t<n):(s*n+t)/n=s∧(s*n+t)%n=t:=by
 rw[Nat.mul_comm]
 exact⟨by rw[Nat.mul_add_div (by omega),Nat.div_eq_of_lt ht,Nat.add_zero],by rw[Nat.mul_add_mod,Nat.mod_eq_of_lt ht]⟩
theorem wK {n k s t:Nat} (hs:s<k) (ht:t<n):s*n+t<k*n:=by
 have:=Nat.mul_le_mul_right n (show s+1≤k by omega);rw[Nat.succ_mul]at this;omega
theorem l8 {n k c:Nat} (h:c<k*n):c/n<k∧c%n<n:=by
 have hn:0<n:=by
  rcases Nat.eq_zero_or_pos n with h0|h0
  ·rw[h0,Nat.mul_zero]at h;exact absurd h (Nat.not_lt_zero _)
  ·exact h0
 exact⟨(Nat.div_lt_iff_lt_mul hn).2 h,Nat.mod_lt _ hn⟩
theorem gY (f:Bool→Bool→Bool) (a b:bU):(aU f a b).next.length=a.next.length*b.next.length:=by
 show(pW a b).length=_;unfold pW;simp
theorem jm {f:Bool→Bool→Bool} {a b:bU} (ha:Val a) (hb:Val b) (hv:a.vars=b.vars):Val (aU f a b):=by
 have a0:=dl ha;have b0:=dl hb
 have eV:=wK a0 b0
 refine {v0:=ha.v0,v6:=ha.v6,n0:=?_,fin:=?_,s0:=?_,s1:=?_,len:=?_,ok:=?_}
 ·rw[gY];omega
 ·rw[gY];show(zn f a b).length=_;unfold zn;simp
 ·show(0:Int)≤((_:Nat):Int);omega
 ·rw[gY];show((_:Nat):Int)<((_:Nat):Int);omega
 ·intro r hr
  obtain⟨c,_,rfl⟩:=List.mem_map.1 (show r∈pW a b from hr)
  unfold Dk;simp;rfl
 ·intro r hr x hx
  obtain⟨c,hc,rfl⟩:=List.mem_map.1 (show r∈pW a b from hr)
  obtain⟨y,hy,rfl⟩:=List.mem_map.1 (show x∈Dk a b _ _ from hx)
  rw[List.mem_range]at hc hy
  obtain⟨h1,h2⟩:=l8 hc
  have h3:=(ha.fF h1 hy).1
  have h4:=(hb.fF h2 (by rw[←hv];exact hy)).1
  have:=wK h3 h4
  rw[gY];omega
theorem BZ {f:Bool→Bool→Bool} {a b:bU} (ha:Val a) (hb:Val b) (hv:a.vars=b.vars) (hn:a.next.length*b.next.length≤4096):Valid (aU f a b):=⟨jm ha hb hv,by rw[gY];exact hn⟩
theorem zp {f:Bool→Bool→Bool} {a b:bU} {s t:Nat} (hs:s<a.next.length) (ht:t<b.next.length):cF (aU f a b) (s*b.next.length+t)=f (cF a s) (cF b t):=by
 have hd:=xX (s:=s) ht
 have hc:=wK hs ht
 show(zn f a b).getD _ false=_
 unfold zn
 rw[List.getD_eq_getElem?_getD,List.getElem?_map,List.getElem?_range hc]
 simp only[Option.map_some,Option.getD_some,hd.1,hd.2]
theorem wL {f:Bool→Bool→Bool} {a b:bU} {s t x:Nat} (hs:s<a.next.length) (ht:t<b.next.length) (hx:x<da a):dY (aU f a b) (s*b.next.length+t) x=dY a s x*b.next.length+dY b t x:=by
 have hd:=xX (s:=s) ht
 have hc:=wK hs ht
 show(((pW a b).getD _ []).getD x 0).toNat=_
 unfold pW
 rw[List.getD_eq_getElem?_getD (l:=List.map _ _),List.getElem?_map,List.getElem?_range hc]
 simp only[Option.map_some,Option.getD_some,hd.1,hd.2]
 unfold Dk
 rw[List.getD_eq_getElem?_getD,List.getElem?_map,List.getElem?_range hx]
 exact Int.toNat_natCast _
theorem ur {f:Bool→Bool→Bool} {a b:bU} (ha:Val a) (hb:Val b) (hv:a.vars=b.vars) {s t:Nat} (hs:s<a.next.length) (ht:t<b.next.length): ∀w,Wd a w→runN (aU f a b) (s*b.next.length+t) w=runN a s w*b.next.length+runN b t w:=by
 refine mO (fun _=>rfl) ?_
 intro w x ih hw
 have VX:Wd a w:=fun y hy=>hw y (by simp[hy])
 have VY:Wd b w:=fun y hy=>by have:=VX y hy;unfold da at this⊢;rw[←hv];exact this
 rw[eE,eE,eE,ih VX,wL (jW ha hs w VX) (jW hb ht w VY) (hw x (by simp))]
theorem zq {f:Bool→Bool→Bool} {a b:bU} (ha:Val a) (hb:Val b) (hv:a.vars=b.vars) {w:List Nat} (hw:Wd a w):gq (aU f a b) w=f (gq a w) (gq b w):=by
 have a0:=dl ha;have b0:=dl hb
 have VY:Wd b w:=fun y hy=>by have:=hw y hy;unfold da at this⊢;rw[←hv];exact this
 unfold gq
 rw[show(aU f a b).start.toNat=a.start.toNat*b.next.length+b.start.toNat from Int.toNat_natCast _,ur ha hb hv a0 b0 w hw,zp (jW ha a0 w hw) (jW hb b0 w VY)]
def rV (f:Bool→Bool→Bool) (a b:bU):bU:=gJ (aU f a b)
theorem E1 {f:Bool→Bool→Bool} {a b:bU} (ha:Val a) (hb:Val b) (hv:a.vars=b.vars) (hn:a.next.length*b.next.length≤4096):Valid (rV f a b):=mP (BZ ha hb hv hn)
theorem Ku {f:Bool→Bool→Bool} {a b:bU} (ha:Val a) (hb:Val b) (hv:a.vars=b.vars) (hn:a.next.length*b.next.length≤4096) {w:List Nat} (hw:Wd a w):gq (rV f a b) w=f (gq a w) (gq b w):=by
 unfold rV;rw[qK (jm ha hb hv) hw,zq ha hb hv hw]
theorem Kv {f:Bool→Bool→Bool} {a b:bU} (ha:Val a) (hb:Val b) (hv:a.vars=b.vars) (hn:a.next.length*b.next.length≤4096):gJ (rV f a b)=rV f a b:=ut (jm ha hb hv)
theorem Gw {f:Bool→Bool→Bool} {a b:bU} (ha:Val a) (hb:Val b) (hv:a.vars=b.vars) {w:List Nat} (hw:Wd a w):gq (rV f a b) w=f (gq a w) (gq b w):=by
 unfold rV;rw[qK (jm ha hb hv) hw,zq ha hb hv hw]
theorem Gx {f:Bool→Bool→Bool} {a b:bU} (ha:Val a) (hb:Val b) (hv:a.vars=b.vars):gJ (rV f a b)=rV f a b:=ut (jm ha hb hv)
theorem uu {d:bU} (hv:Val d):(gJ d).next.length≤d.next.length:=by
 have h1:(gJ d).next.length≤(nP d).next.length:=by
  show(db (nP d)).next.length≤_
  unfold db
  rw[List.length_map];exact rW (nQ hv)
 have h2:=(jn d (fN d d.next.length) d.next.length).2
 exact Nat.le_trans h1 h2
theorem Kw {f:Bool→Bool→Bool} {a b:bU} (ha:Val a) (hb:Val b) (hv:a.vars=b.vars) (hn:a.next.length*b.next.length≤4096):(rV f a b).next.length≤a.next.length*b.next.length:=by
 rw[←gY f a b];exact uu (jm ha hb hv)
theorem Kx {a b:bU} (ha:Val a) (hb:Val b) (ZZ:gJ a=a) (Z0:gJ b=b) (hv:a.vars=b.vars) (h: ∀w,Wd a w→gq a w=gq b w):a=b:=by
 rw[←ZZ,←Z0];exact nR ha hb hv h
end Go.Lx

namespace Go.Lx
end Go.Lx

namespace Go.Lx
theorem E4 {d:bU} {w:List Nat} (h:j7 d w=0):E5 d w=gq d w:=by unfold E5 gq;rw[if_pos h]
end Go.Lx

namespace Go.Lx
open Go.RowKit
def eo (v:Int) (f:Bool):bU:=⟨v,0,[List.replicate (2^v.toNat) 0],[f]⟩
theorem uv {v:Int} (h0:0≤v) (h6:v≤6) (f:Bool):Valid (eo v f):=by
 have n0:0<(eo v f).next.length:=by show 0< [_].length;simp
 have s1:(eo v f).start<((eo v f).next.length:Int):=by show(0:Int)<(([_].length:Nat):Int);simp
 have len: ∀r∈(eo v f).next,r.length=2^(eo v f).vars.toNat:=by
  intro r hr
  rw[List.mem_singleton.1 (show r∈[List.replicate (2^v.toNat) (0:Int)]from hr),List.length_replicate];rfl
 have ok: ∀r∈(eo v f).next,∀x∈r,0≤x∧x<((eo v f).next.length:Int):=by
  intro r hr x hx
  rw[List.mem_singleton.1 (show r∈[List.replicate (2^v.toNat) (0:Int)]from hr)]at hx
  rw[List.eq_of_mem_replicate hx]
  exact⟨Int.le_refl _,by show(0:Int)<(([_].length:Nat):Int);simp⟩
 exact⟨{v0:=h0,v6:=h6,n0:=n0,fin:=rfl,s0:=Int.le_refl _,s1:=s1,len:=len,ok:=ok},by show[_].length≤4096;simp⟩
theorem Gy {v:Int} (h0:0≤v) (h6:v≤6) (f:Bool) {w:List Nat} (hw:Wd (eo v f) w):gq (eo v f) w=f:=by
 have hv:=uv h0 h6 f
 have h1:=jW hv (dl hv) w hw
 have h2:runN (eo v f) (eo v f).start.toNat w=0:=Nat.lt_one_iff.1 h1
 unfold gq;rw[h2];rfl
end Go.Lx

namespace Go.Lx
open Go.RowKit
def nT (v:Int) (w:List Nat):Prop:= ∀x∈w,x<2^v.toNat
structure HasL (v:Int) (n:Nat) (d:bU) (p:List Nat→Bool):Prop where
 valid:Valid d
 len:d.next.length≤n
 vars:d.vars=v
 gq: ∀w,nT v w→gq d w=p w
theorem HasL.wd {v:Int} {n:Nat} {d:bU} {p:List Nat→Bool} (h:HasL v n d p) {w:List Nat}:Wd d w↔nT v w:=by unfold Wd nT da;rw[h.vars]
structure eF (v:Int) (n:Nat) (d:bU) (p:List Nat→Bool):Prop extends HasL v n d p where
 min:gJ d=d
theorem HasL.op {f:Bool→Bool→Bool} {v:Int} {n m:Nat} {a b:bU} {p q:List Nat→Bool} (ha:HasL v n a p) (hb:HasL v m b q) (h:n*m≤4096):eF v (n*m) (rV f a b) (fun w=>f (p w) (q w)):=by
 have hl:a.next.length*b.next.length≤n*m:=Nat.mul_le_mul ha.len hb.len
 have hv:a.vars=b.vars:=by rw[ha.vars,hb.vars]
 refine⟨⟨E1 ha.valid hb.valid hv (by omega),Nat.le_trans (Kw ha.valid hb.valid hv (by omega)) hl,ha.vars,fun w hw=>?_⟩,Kv ha.valid hb.valid hv (by omega)⟩
 rw[Ku ha.valid hb.valid hv (by omega) (ha.wd.2 hw),ha.gq w hw,hb.gq w hw]
theorem HasL.qL {v:Int} {n:Nat} {d:bU} {p:List Nat→Bool} (h:HasL v n d p):eF v n (gJ d) p:=
 ⟨⟨mP h.valid,Nat.le_trans (uu h.valid) h.len,h.vars,fun w hw=>by rw[qK h.valid (h.wd.2 hw)];exact h.gq w hw⟩,ut h.valid⟩
theorem eF.ext {v:Int} {n m:Nat} {a b:bU} {p q:List Nat→Bool} (ha:eF v n a p) (hb:eF v m b q) (h: ∀w,nT v w→p w=q w):a=b:=
 Kx ha.valid hb.valid ha.min hb.min (by rw[ha.vars,hb.vars]) fun w hw=>by rw[ha.gq w (ha.wd.1 hw),hb.gq w (ha.wd.1 hw),h w (ha.wd.1 hw)]
def pX (x y:Bool):Bool:=x&&y
def B1 (x y:Bool):Bool:=x||y
def Gz (x y:Bool):Bool:=x !=y
def uw (x y:Bool):Bool:=x&&!y
def nU (x _y:Bool):Bool:=!x
def l9 (d:bU):bU:=rV nU d d
theorem HasL.not {v:Int} {n:Nat} {d:bU} {p:List Nat→Bool} (h:HasL v n d p) (hn:n*n≤4096):eF v (n*n) (l9 d) (fun w=>!p w):=h.op h hn
end Go.Lx

namespace Go.Lx
open Go.RowKit
end Go.Lx

namespace Go.Lx
open Go.RowKit
theorem rX {f:Bool→Bool→Bool} {a b:bU} (ha:Val a) (hb:Val b) (hv:a.vars=b.vars) {o x:Nat} (ho:o<a.next.length*b.next.length) (hx:x<da a):
  dY (aU f a b) o x=dY a (o/b.next.length) x*b.next.length+dY b (o%b.next.length) x∧dY (aU f a b) o x<a.next.length*b.next.length:=by
 obtain⟨h1,h2⟩:=l8 ho
 have h3:=wL (f:=f) (a:=a) (b:=b) h1 h2 hx
 rw[Nat.div_add_mod']at h3
 refine⟨h3,?_⟩
 rw[h3]
 exact wK (ha.fF h1 hx).1 (hb.fF h2 (by rw[←hv];exact hx)).1
theorem iV {f:Bool→Bool→Bool} {a b:bU} (ha:Val a) (hb:Val b) (hv:a.vars=b.vars): ∀i,(b_ (aU f a b) i).Nodup∧ ∀o∈b_ (aU f a b) i,o<a.next.length*b.next.length
 |0=>by
  refine⟨by simp[b_],fun o ho=>?_⟩
  simp only[b_,List.mem_singleton]at ho
  rw[ho,show(aU f a b).start.toNat=a.start.toNat*b.next.length+b.start.toNat from Int.toNat_natCast _]
  exact wK (dl ha) (dl hb)
 |i+1=>by
  obtain⟨h1,h2⟩:=iV ha hb hv i
  rw[b_]
  split
  ·rename_i hi
   refine kz _ _ h1 h2 (fun t ht=>?_)
   obtain⟨x,hx,rfl⟩:=List.mem_map.1 ht
   refine(rX ha hb hv (h2 _ ?_) (List.mem_range.1 hx)).2
   rw[List.getD_eq_getElem?_getD,List.getElem?_eq_getElem hi]
   exact List.getElem_mem hi
  ·exact⟨h1,h2⟩
theorem iO {f:Bool→Bool→Bool} {a b:bU} (ha:Val a) (hb:Val b) (hv:a.vars=b.vars) (i:Nat):(b_ (aU f a b) i).length≤a.next.length*b.next.length:=dE (iV ha hb hv i).1 (iV ha hb hv i).2
theorem ux {f:Bool→Bool→Bool} {a b:bU} (ha:Val a) (hb:Val b) (hv:a.vars=b.vars) {i o x:Nat} (ho:o<a.next.length*b.next.length) (hx:x≤da a):
  (jo (aU f a b) i o x).Nodup∧ ∀t∈jo (aU f a b) i o x,t<a.next.length*b.next.length:=by
 obtain⟨h1,h2⟩:=iV (f:=f) ha hb hv i
 exact kz _ _ h1 h2 (fun t ht=>by
  obtain⟨y,hy,rfl⟩:=List.mem_map.1 ht
  exact(rX ha hb hv ho (by have:=List.mem_range.1 hy;omega)).2)
theorem zr {f:Bool→Bool→Bool} {a b:bU} (ha:Val a) (hb:Val b) (hv:a.vars=b.vars) {i o x:Nat} (ho:o<a.next.length*b.next.length) (hx:x≤da a):
  (jo (aU f a b) i o x).length≤a.next.length*b.next.length:=dE (ux ha hb hv ho hx).1 (ux ha hb hv ho hx).2
theorem wM {d:bU} {i o:Nat} (h:(b_ d i)[i]? =some o):jo d i o (2^d.vars.toNat)=b_ d (i+1):=by rw[rY h];rfl
theorem zu {d:bU} {i o x:Nat} (h:(b_ d i)[i]? =some o) (hx:x≤2^d.vars.toNat):jo d i o x<+:b_ d (i+1):=by
 rw[←wM h]
 unfold jo
 have h1:List.range (2^d.vars.toNat)=List.range x++(List.range (2^d.vars.toNat)).drop x:=by
  have h2:=List.take_append_drop x (List.range (2^d.vars.toNat))
  rw[List.take_range,Nat.min_eq_left hx]at h2
  exact h2.symm
 rw[h1,List.map_append,List.foldl_append]
 exact eL _ _
theorem B2 {d:bU} {i o x:Nat} (h:(b_ d i)[i]? =some o) (hx:x≤2^d.vars.toNat) (hi:i+1≤d.next.length):jo d i o x<+:order d:=
 (zu h hx).trans (gZ d _ _ hi)
theorem E2 {d:bU} {i o x:Nat} (h:(b_ d i)[i]? =some o) (hx:x≤2^d.vars.toNat) (hi:i+1≤d.next.length) {t:Nat} (ht:t∈jo d i o x):ix t (jo d i o x)=ix t (order d):=
 (e_ (B2 h hx hi) ht).symm
end Go.Lx

namespace Go.Lx
open Go.RowKit
def Ky (z a:bU):Prop:= ∀u u',nT z.vars u→nT z.vars u'→runN z z.start.toNat u=runN z z.start.toNat u'→runN a a.start.toNat u=runN a a.start.toNat u'
theorem iW (d:bU) (s:Nat) (u w:List Nat):runN d s (u++w)=runN d (runN d s u) w:=by simp[runN]
theorem GA {d:bU} {w:List Nat}:Wd d w↔nT d.vars w:=Iff.rfl
theorem Ky.refl (z:bU):Ky z z:=fun _ _ _ _ h=>h
theorem B3 {d z:bU} (hd:Val d) (hz:Val z) (hv:z.vars=d.vars) (h:Ky z d):(order d).length≤z.next.length:=by
 classical
 have hr: ∀o∈order d,∃w,Wd d w∧runN d d.start.toNat w=o:=fun o ho=>mQ hd _ o ho
 let g:Nat→Nat:=fun o=>if hx: ∃w,Wd d w∧runN d d.start.toNat w=o then runN z z.start.toNat (Classical.choose hx)else 0
 have hg: ∀o∈order d,∃w,Wd d w∧runN d d.start.toNat w=o∧g o=runN z z.start.toNat w:=fun o ho=>by
  have hx:=hr o ho
  refine⟨Classical.choose hx,(Classical.choose_spec hx).1,(Classical.choose_spec hx).2,?_⟩
  show(if hx:_ then _ else _)=_
  rw[dif_pos hx]
 have wz: ∀w,Wd d w→nT z.vars w:=fun w hw=>by rw[hv];exact hw
 have hn:((order d).map g).Nodup:=wN (ua hd _).1 fun a ha b hb e=>by
  obtain⟨u,hu,rfl,e1⟩:=hg a ha
  obtain⟨u',GB,rfl,e2⟩:=hg b hb
  exact h u u' (wz u hu) (wz u' GB) (by rw[←e1,←e2,e])
 have:=dE (n:=z.next.length) hn fun x hx=>by
  obtain⟨o,ho,rfl⟩:=List.mem_map.1 hx
  obtain⟨u,hu,_,e1⟩:=hg o ho
  rw[e1]
  exact jW hz (dl hz) u (wz u hu)
 simpa using this
theorem nV {f:Bool→Bool→Bool} {a b z:bU} (ha:Val a) (hb:Val b) (hv:a.vars=b.vars) (hz:Val z) (VZ:z.vars=a.vars) (h1:Ky z a) (h2:Ky z b):(order (aU f a b)).length≤z.next.length:=by
 refine B3 (jm ha hb hv) hz VZ fun u u' hu GB e=>?_
 rw[show(aU f a b).start.toNat=a.start.toNat*b.next.length+b.start.toNat from Int.toNat_natCast _,
  ur ha hb hv (dl ha) (dl hb) u (by rw[GA,←VZ];exact hu),ur ha hb hv (dl ha) (dl hb) u' (by rw[GA,←VZ];exact GB),h1 u u' hu GB e,h2 u u' hu GB e]
end Go.Lx

