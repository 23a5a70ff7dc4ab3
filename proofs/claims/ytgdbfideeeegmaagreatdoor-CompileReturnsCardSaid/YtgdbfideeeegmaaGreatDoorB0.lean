/- Contracts of functions of the program, and what they answer. Conditions: those each theorem names. -/
import Derived.Test.YtgdbfideeeegmaaGreatDoorA2
import Derived.Test.YtgdbfideeeegmaaGreatDoorA5
import Derived.Test.YtgdbfideeeegmaaGreatDoorA9
import Derived.Test.YtgdbfideeeegmaaGreatDoorA8
import Derived.Test.YtgdbfideeeegmaaGreatDoorA6
import Derived.Lib.RowBridge
import Derived.Test.YtgdbfideeeegmaaGreatDoorProg
import Derived.Test.YtgdbfideeeegmaaGreatDoorA7
import Derived.Test.YtgdbfideeeegmaaGreatDoorA4
import Derived.Test.YtgdbfideeeegmaaGreatDoorA0
set_option linter.unusedSectionVars false
set_option linter.unusedSimpArgs false
set_option linter.unusedVariables false
set_option linter.unnecessarySimpa false
set_option maxHeartbeats 8000000
set_option maxRecDepth 20000
namespace Go.Proofs.YtgdbfideeeegmaaGreatDoor
open Go.Lx Go.RowKit _root_.Go.Proofs.Tryz
abbrev sI (vs B:Nat) (t:Rx) (v:Value) (N:List Lx.Item):Prop:= ∃M k',v=dV M k'∧N=[dI 56 4 3 M k']∧gf (vs:Int) B M (gj t)∧jY vs t B
theorem Es (w:World) [dB Tryz.prog w] (cb:Nat) (eb:Option Addr) (en ec vs B:Nat) (eR:Sl w (aD cb) [.slice eb en ec,vI (vs:Int),vI (B:Int)]) (gq:vs≤6) (iN:1≤B) (hB:B≤4096) (e:List eE) (hE:Sl w eb (bX e)) (jU:en=e.length) (i:Nat) (hp:e[i]? =some ⟨2,0,0,0,0⟩):
  dA Tryz.prog w (.iface 163 (.agg #[])) 72 [(d_ (aD cb) 0),vN i] [] (sI vs B Rx.empty) (¬jY vs Rx.empty B):=by
 refine dL func72 F ntmps72 F ?_
 obtain⟨hi,_⟩:=iF hp
 refine ai (ao F (bu bK F (fun z1=>?_)))
 refine ae (ai (ah F (ad (bf F) (ad (ck k_ F g_ F F (aJ eR) (by first|omega|(simp;done)|(simp;omega)|(simp_all;done)|(simp_all;omega))) (ad (c_ dJ F F (aJ eR) F) (ah F (ad (dU (i:=i) dJ cK F F (aJ hE) (by omega) (by rw[cz];omega)) (ad (eP (vs:=[v8 2,v8 0,v8 0,vI 0,vI 0]) cp F cK F F (bw _) (aJ hE) (fH hp)) (ao F (bu cK F (fun z2=>?_)))))))))))
 refine ao F (bV (vs:=[v8 2,v8 0,v8 0,vI 0,vI 0]) 0 cK F F F F ?_)
 refine ae (aO (ai (ad (bj cp F dF F F) (ad (bn 0 fF F F F F) (ae (aU (ai (ad (bM F F) (ad (aA (cq F) (ak (by decide))) (ae (a_ F (ai (ad (bM F F) (ad (aA (cq F) (av (by decide))) ?_))))))))))))))
 refine ae ?_
 refine bW F ?_
 refine ai (ah F (ad (ew 0 cp F cK F F F) ?_))
 have Cu:=fun(w1:World) (hI:Inv w [oI z2 72 [v8 2,v8 0,v8 0,vI 0,vI 0],oI z1 25 [(vI 0),(vI 0),nS,nS]] w1)=>(haveI:=ey hI;Km w1 cb eb en ec vs B (hI.sl eR) gq iN hB 0 2 0 0 0 0 (by omega) (by omega) (by omega))
 refine eC F (eV Kn (dA.pure Cu) F (fun z _=>⟨F,z⟩) ?_)
 clear Cu
 rintro vr O' ⟨N,rfl,M,kr,rfl,rfl,Et,DC⟩
 refine ao F (bV (vs:=(dC M kr)) 2 bK F F F F ?_)
 refine ae (aN (az ?_))
 refine cL (i:=2) Tryz.results72 cS F bK F F F ?_
 exact⟨[dI 56 4 3 M kr],(by exact Sub.k .z),M,kr,F,F,Et,DC⟩
theorem Cy (w:World) [dB Tryz.prog w] (cb:Nat) (eb:Option Addr) (en ec vs B:Nat) (eR:Sl w (aD cb) [.slice eb en ec,vI (vs:Int),vI (B:Int)]) (gq:vs≤6) (iN:1≤B) (hB:B≤4096) (e:List eE) (hE:Sl w eb (bX e)) (jU:en=e.length) (i:Nat) (p n:Nat) (Nc:p<256) (oz:n<256) (hp:e[i]? =some ⟨3,p,n,0,0⟩):
  dA Tryz.prog w (.iface 163 (.agg #[])) 72 [(d_ (aD cb) 0),vN i] [] (sI vs B (.letter p n)) (¬jY vs (.letter p n) B):=by
 refine dL func72 F ntmps72 F ?_
 obtain⟨hi,_⟩:=iF hp
 refine ai (ao F (bu bK F (fun z1=>?_)))
 refine ae (ai (ah F (ad (bf F) (ad (ck k_ F g_ F F (aJ eR) (by first|omega|(simp;done)|(simp;omega)|(simp_all;done)|(simp_all;omega))) (ad (c_ dJ F F (aJ eR) F) (ah F (ad (dU (i:=i) dJ cK F F (aJ hE) (by omega) (by rw[cz];omega)) (ad (eP (vs:=[v8 3,v8 p,v8 n,vI 0,vI 0]) cp F cK F F (bw _) (aJ hE) (fH hp)) (ao F (bu cK F (fun z2=>?_)))))))))))
 refine ao F (bV (vs:=[v8 3,v8 p,v8 n,vI 0,vI 0]) 0 cK F F F F ?_)
 refine ae (aO (ai (ad (bj cp F dF F F) (ad (bn 0 fF F F F F) (ae (aU (ai (ad (bM F F) (ad (aA (cq F) (ak (by decide))) (ae (a_ F (ai (ad (bM F F) (ad (aA (cq F) (ak (by decide))) ?_))))))))))))))
 refine ae (a_ F (ai (ad (bM F F) (ad (aA (cq F) (av (by decide))) (ae ?_)))))
 refine bW F ?_
 refine ai (ah F (ad (ew 0 cp F cK F F F) ?_))
 have xr:=fun(w1:World) (hI:Inv w [oI z2 72 [v8 3,v8 p,v8 n,vI 0,vI 0],oI z1 25 [(vI 0),(vI 0),nS,nS]] w1)=>(haveI:=ey hI;Km w1 cb eb en ec vs B (hI.sl eR) gq iN hB 1 3 p n 0 0 (by omega) (by omega) (by omega))
 refine eC F (eV Kn (dA.pure xr) F (fun z _=>⟨F,z⟩) ?_)
 clear xr
 rintro vr O' ⟨N,rfl,M,kr,rfl,rfl,Et,DC⟩
 refine ao F (bV (vs:=(dC M kr)) 2 bK F F F F ?_)
 refine ae (aN (az ?_))
 refine cL (i:=2) Tryz.results72 cS F bK F F F ?_
 exact⟨[dI 56 4 3 M kr],(by exact Sub.k .z),M,kr,F,F,Et,DC⟩
theorem HN (w:World) [dB Tryz.prog w] (cb:Nat) (eb:Option Addr) (en ec vs B:Nat) (eR:Sl w (aD cb) [.slice eb en ec,vI (vs:Int),vI (B:Int)]) (gq:vs≤6) (iN:1≤B) (hB:B≤4096) (e:List eE) (hE:Sl w eb (bX e)) (jU:en=e.length) (i:Nat) (a:Rx) (j:Nat) (hp:e[i]? =some ⟨8,0,0,(j:Int),0⟩) (N2: ∀(w1:World) [dB Tryz.prog w1],Inv w [] w1→dA Tryz.prog w1 (.iface 163 (.agg #[])) 72 [(d_ (aD cb) 0),vN j] [] (sI vs B a) (¬jY vs a B)):
  dA Tryz.prog w (.iface 163 (.agg #[])) 72 [(d_ (aD cb) 0),vN i] [] (sI vs B (.star a)) (¬jY vs (.star a) B):=by
 refine dL func72 F ntmps72 F ?_
 obtain⟨hi,_⟩:=iF hp
 refine ai (ao F (bu bK F (fun z1=>?_)))
 refine ae (ai (ah F (ad (bf F) (ad (ck k_ F g_ F F (aJ eR) (by first|omega|(simp;done)|(simp;omega)|(simp_all;done)|(simp_all;omega))) (ad (c_ dJ F F (aJ eR) F) (ah F (ad (dU (i:=i) dJ cK F F (aJ hE) (by omega) (by rw[cz];omega)) (ad (eP (vs:=[v8 8,v8 0,v8 0,vN j,vI 0]) cp F cK F F (bw _) (aJ hE) (fH hp)) (ao F (bu cK F (fun z2=>?_)))))))))))
 refine ao F (bV (vs:=[v8 8,v8 0,v8 0,vN j,vI 0]) 0 cK F F F F ?_)
 refine ae (aO (ai (ad (bj cp F dF F F) (ad (bn 0 fF F F F F) (ae (aU (ai (ad (bM F F) (ad (aA (cq F) (ak (by decide))) (ae (a_ F (ai (ad (bM F F) (ad (aA (cq F) (ak (by decide))) ?_))))))))))))))
 refine ae (a_ F (ai (ad (bM F F) (ad (aA (cq F) (ak (by decide))) (ae (a_ F (ai (ad (bM F F) (ad (aA (cq F) (ak (by decide))) ?_)))))))))
 refine ae (a_ F (ai (ad (bM F F) (ad (aA (cq F) (av (by decide))) (ae ?_)))))
 refine bW F ?_
 refine ai (ah F (ah F (ad (bj cp F bl F F) (ad (bn 0 dS F F F F) ?_))))
 have JE:=fun(w1:World) (hI:Inv w [oI z2 72 [v8 8,v8 0,v8 0,vN j,vI 0],oI z1 25 [(vI 0),(vI 0),nS,nS]] w1)=>(haveI:=ey hI;N2 w1 hI.mq)
 refine eC F (eV pG (dA.pure JE) F (fun z _=>⟨F,fun h9=>z h9.1⟩) ?_)
 clear JE
 rintro vr O' ⟨N,rfl,MA,kA,rfl,rfl,qB,HO⟩
 have zE:=gU qB hB
 have Ko:=fun(w1:World) (hI:Inv w [dI 56 4 3 MA kA,oI z2 72 [v8 8,v8 0,v8 0,vN j,vI 0],oI z1 25 [(vI 0),(vI 0),nS,nS]] w1)=>(haveI:=ey hI;V5 w1 cb eb en ec vs B (hI.sl eR) gq iN hB MA kA (hI.at (k:=kA) (mG 0 F)) qB.valid qB.vars)
 refine eC F (eV Sb (dA.pure Ko) F (fun z _=>⟨F,fun h9=>z (by rw[zE];exact h9.2)⟩) ?_)
 clear Ko
 rintro vr O' ⟨N,rfl,M,kr,rfl,rfl,Sc,Sd⟩
 have Et:gf (vs:Int) B M (gj (.star a)):=Sc.to fun w9 h9=>qC (fun u hu=>qB.iI u hu) h9
 have DC:jY vs (.star a) B:=⟨HO,by rw[←zE];exact Sd⟩
 refine ao F (bV (vs:=(dC M kr)) 3 bK F F F F ?_)
 refine ae (aN (az ?_))
 refine cL (i:=3) Tryz.results72 cS F bK F F F ?_
 exact⟨[dI 56 4 3 M kr],(by exact Sub.k .z),M,kr,F,F,Et,DC⟩
theorem Kp (w:World) [dB Tryz.prog w] (cb:Nat) (eb:Option Addr) (en ec vs B:Nat) (eR:Sl w (aD cb) [.slice eb en ec,vI (vs:Int),vI (B:Int)]) (gq:vs≤6) (iN:1≤B) (hB:B≤4096) (e:List eE) (hE:Sl w eb (bX e)) (jU:en=e.length) (i:Nat) (a b:Rx) (j k:Nat) (hp:e[i]? =some ⟨4,0,0,(j:Int),(k:Int)⟩) (N2: ∀(w1:World) [dB Tryz.prog w1],Inv w [] w1→dA Tryz.prog w1 (.iface 163 (.agg #[])) 72 [(d_ (aD cb) 0),vN j] [] (sI vs B a) (¬jY vs a B)) (V_: ∀(w1:World) [dB Tryz.prog w1],Inv w [] w1→dA Tryz.prog w1 (.iface 163 (.agg #[])) 72 [(d_ (aD cb) 0),vN k] [] (sI vs B b) (¬jY vs b B)):
  dA Tryz.prog w (.iface 163 (.agg #[])) 72 [(d_ (aD cb) 0),vN i] [] (sI vs B (.je a b)) (¬jY vs (.je a b) B):=by
 refine dL func72 F ntmps72 F ?_
 obtain⟨hi,_⟩:=iF hp
 refine ai (ao F (bu bK F (fun z1=>?_)))
 refine ae (ai (ah F (ad (bf F) (ad (ck k_ F g_ F F (aJ eR) (by first|omega|(simp;done)|(simp;omega)|(simp_all;done)|(simp_all;omega))) (ad (c_ dJ F F (aJ eR) F) (ah F (ad (dU (i:=i) dJ cK F F (aJ hE) (by omega) (by rw[cz];omega)) (ad (eP (vs:=[v8 4,v8 0,v8 0,vN j,vN k]) cp F cK F F (bw _) (aJ hE) (fH hp)) (ao F (bu cK F (fun z2=>?_)))))))))))
 refine ao F (bV (vs:=[v8 4,v8 0,v8 0,vN j,vN k]) 0 cK F F F F ?_)
 refine ae (aO (ai (ad (bj cp F dF F F) (ad (bn 0 fF F F F F) (ae (aU (ai (ad (bM F F) (ad (aA (cq F) (ak (by decide))) (ae (a_ F (ai (ad (bM F F) (ad (aA (cq F) (ak (by decide))) ?_))))))))))))))
 refine ae (a_ F (ai (ad (bM F F) (ad (aA (cq F) (ak (by decide))) (ae (a_ F (ai (ad (bM F F) (ad (aA (cq F) (ak (by decide))) ?_)))))))))
 refine ae (a_ F (ai (ad (bM F F) (ad (aA (cq F) (ak (by decide))) (ae (a_ F (ai (ad (bM F F) (ad (aA (cq F) (ak (by decide))) ?_)))))))))
 refine ae (a_ F (ai (ad (bM F F) (ad (aA (cq F) (ak (by decide))) (ae (a_ F (aE (aO ?_))))))))
 refine fQ [(0,0),(1,0),(2,0),(3,0),(5,0),(6,0),(7,0),(4,1),(8,1),(9,2),(10,2)] ?_
 refine au F (aK F) (au F (aK F) (au F (bj cp F bl F F) (au F (bn 0 dS F F F F) (au F (aK F) (au F (bj cp F bl F F) (au F (bn 0 dS F F F F) ?_))))))
 have Wa:=fun(w1:World) (hI:Inv w [oI z2 72 [v8 4,v8 0,v8 0,vN j,vN k],oI z1 25 [(vI 0),(vI 0),nS,nS]] w1)=>(haveI:=ey hI;N2 w1 hI.mq)
 refine iq F F (eV pG (dA.pure Wa) F (fun z _=>⟨F,fun h9=>z h9.1⟩) ?_)
 clear Wa
 rintro vr O' ⟨N,rfl,MA,kA,rfl,rfl,qB,HO⟩
 refine⟨by exact Sub.d (.k (.k .z)),?_⟩
 have zE:=gU qB hB
 have Wb:=fun(w1:World) (hI:Inv w [dI 56 4 3 MA kA,oI z2 72 [v8 4,v8 0,v8 0,vN j,vN k],oI z1 25 [(vI 0),(vI 0),nS,nS]] w1)=>(haveI:=ey hI;V_ w1 hI.mq)
 refine iq F F (eV pG (dA.pure Wb) F (fun z _=>⟨F,fun h9=>z h9.2.1⟩) ?_)
 clear Wb
 rintro vr O' ⟨N,rfl,MB,kB,rfl,rfl,yK,HP⟩
 refine⟨by exact Sub.d (.d (.k (.k .z))),?_⟩
 have P2:=gU yK hB
 have Kq:=fun(w1:World) (hI:Inv w [dI 56 4 3 MB kB,dI 56 4 3 MA kA,oI z2 72 [v8 4,v8 0,v8 0,vN j,vN k],oI z1 25 [(vI 0),(vI 0),nS,nS]] w1)=>(haveI:=ey hI;RY w1 cb eb en ec vs B (hI.sl eR) gq iN hB MA kA (hI.at (k:=kA) (mG 1 F)) qB.valid qB.vars MB kB (hI.at (k:=kB) (mG 0 F)) yK.valid (by rw[qB.vars,yK.vars]))
 refine sk F F (eV Eu (dA.pure Kq) F (fun z _=>⟨F,fun h9=>z (by rw[zE,P2];exact h9.2.2)⟩) ?_)
 clear Kq
 rintro vr O' ⟨N,rfl,M,kr,rfl,rfl,Sc,Sd⟩
 have Et:gf (vs:Int) B M (gj (.je a b)):=Sc.to fun w9 h9=>nh (fun u hu=>qB.iI u hu) (fun u hu=>yK.iI u hu) h9
 have DC:jY vs (.je a b) B:=⟨HO,HP,by rw[←zE,←P2];exact Sd⟩
 refine cu F F (bV (vs:=(dC M kr)) 4 bK F F F F ?_)
 refine cy ?_
 refine aN (az ?_)
 refine cL (i:=4) Tryz.results72 cS F bK F F F ?_
 exact⟨[dI 56 4 3 M kr],(by exact Sub.k .z),M,kr,F,F,Et,DC⟩
structure Se (cb:Nat) (eb:Option Addr) (en ec vs B:Nat) (e:List eE):Prop where
 nn: ∀(w:World) [dB Tryz.prog w],vs≤6→1≤B→B≤4096→Sl w (aD cb) [.slice eb en ec,vI (vs:Int),vI (B:Int)]→Sl w eb (bX e)→ ∀(i:Nat),e[i]? =some ⟨1,0,0,0,0⟩→dA Tryz.prog w (.iface 163 (.agg #[])) 72 [(d_ (aD cb) 0),vN i] [] (sI vs B Rx.none) (¬jY vs Rx.none B)
 nt: ∀(w:World) [dB Tryz.prog w],vs≤6→1≤B→B≤4096→Sl w (aD cb) [.slice eb en ec,vI (vs:Int),vI (B:Int)]→Sl w eb (bX e)→ ∀(i:Nat) (a:Rx) (j:Nat),e[i]? =some ⟨7,0,0,(j:Int),0⟩→(∀(w1:World) [dB Tryz.prog w1],Inv w [] w1→dA Tryz.prog w1 (.iface 163 (.agg #[])) 72 [(d_ (aD cb) 0),vN j] [] (sI vs B a) (¬jY vs a B))→dA Tryz.prog w (.iface 163 (.agg #[])) 72 [(d_ (aD cb) 0),vN i] [] (sI vs B (.not a)) (¬jY vs (.not a) B)
 al: ∀(w:World) [dB Tryz.prog w],vs≤6→1≤B→B≤4096→Sl w (aD cb) [.slice eb en ec,vI (vs:Int),vI (B:Int)]→Sl w eb (bX e)→ ∀(i:Nat) (a b:Rx) (j k:Nat),e[i]? =some ⟨5,0,0,(j:Int),(k:Int)⟩→(∀(w1:World) [dB Tryz.prog w1],Inv w [] w1→dA Tryz.prog w1 (.iface 163 (.agg #[])) 72 [(d_ (aD cb) 0),vN j] [] (sI vs B a) (¬jY vs a B))→(∀(w1:World) [dB Tryz.prog w1],Inv w [] w1→dA Tryz.prog w1 (.iface 163 (.agg #[])) 72 [(d_ (aD cb) 0),vN k] [] (sI vs B b) (¬jY vs b B))→dA Tryz.prog w (.iface 163 (.agg #[])) 72 [(d_ (aD cb) 0),vN i] [] (sI vs B (.jq a b)) (¬jY vs (.jq a b) B)
 an: ∀(w:World) [dB Tryz.prog w],vs≤6→1≤B→B≤4096→Sl w (aD cb) [.slice eb en ec,vI (vs:Int),vI (B:Int)]→Sl w eb (bX e)→ ∀(i:Nat) (a b:Rx) (j k:Nat),e[i]? =some ⟨6,0,0,(j:Int),(k:Int)⟩→(∀(w1:World) [dB Tryz.prog w1],Inv w [] w1→dA Tryz.prog w1 (.iface 163 (.agg #[])) 72 [(d_ (aD cb) 0),vN j] [] (sI vs B a) (¬jY vs a B))→(∀(w1:World) [dB Tryz.prog w1],Inv w [] w1→dA Tryz.prog w1 (.iface 163 (.agg #[])) 72 [(d_ (aD cb) 0),vN k] [] (sI vs B b) (¬jY vs b B))→dA Tryz.prog w (.iface 163 (.agg #[])) 72 [(d_ (aD cb) 0),vN i] [] (sI vs B (.and a b)) (¬jY vs (.and a b) B)
def Ev (e:List eE):Bool:=e.all fun x=>!(x.op==1||x.op==5||x.op==6||x.op==7||x.op==10)
theorem mF {e:List eE} (h:Ev e=true) {i:Nat} {x:eE} (hx:e[i]? =some x):x.op≠1∧x.op≠5∧x.op≠6∧x.op≠7∧x.op≠10:=by
 have:=List.all_eq_true.1 h _ (bS hx)
 simpa[and_assoc]using this
theorem AH {cb:Nat} {eb:Option Addr} {en ec vs B:Nat} {e:List eE} (h:Ev e=true):Se cb eb en ec vs B e:=
 ⟨fun _ _ _ _ _ _ _ i hp=>absurd F (mF h hp).1,fun _ _ _ _ _ _ _ i _ _ hp=>absurd F (mF h hp).2.2.2.1,fun _ _ _ _ _ _ _ i _ _ _ _ hp=>absurd F (mF h hp).2.1,fun _ _ _ _ _ _ _ i _ _ _ _ hp=>absurd F (mF h hp).2.2.1⟩
theorem jF {cb:Nat} {eb:Option Addr} {en ec vs B:Nat} {e:List eE} (FV:Se cb eb en ec vs B e) (gq:vs≤6) (iN:1≤B) (hB:B≤4096) (jU:en=e.length): ∀(t:Rx) (hp:t.plain=true) (i:Nat),sJ e t i→ ∀(w:World) [dB Tryz.prog w],Sl w (aD cb) [.slice eb en ec,vI (vs:Int),vI (B:Int)]→Sl w eb (bX e)→dA Tryz.prog w (.iface 163 (.agg #[])) 72 [(d_ (aD cb) 0),vN i] [] (sI vs B t) (¬jY vs t B)
 | .none,hp,i,h,w,_,eR,hE=>FV.nn w gq iN hB eR hE i h
 | .empty,hp,i,h,w,_,eR,hE=>Es w cb eb en ec vs B eR gq iN hB e hE jU i h
 | .letter p n,hp,i,⟨h,h1,h2⟩,w,_,eR,hE=>Cy w cb eb en ec vs B eR gq iN hB e hE jU i p n h1 h2 h
 | .not a,hp,i,⟨j,h,ha⟩,w,_,eR,hE=>FV.nt w gq iN hB eR hE i a j h (fun w1 _ hI=>jF FV gq iN hB jU a (by simp only[Rx.plain,aM]at hp;exact hp) _ ha w1 (hI.sl eR) (hI.sl hE))
 | .star a,hp,i,⟨j,h,ha⟩,w,_,eR,hE=>HN w cb eb en ec vs B eR gq iN hB e hE jU i a j h (fun w1 _ hI=>jF FV gq iN hB jU a (by simp only[Rx.plain,aM]at hp;exact hp) _ ha w1 (hI.sl eR) (hI.sl hE))
 | .je a b,hp,i,⟨j,k,h,ha,hb⟩,w,_,eR,hE=>Kp w cb eb en ec vs B eR gq iN hB e hE jU i a b j k h (fun w1 _ hI=>jF FV gq iN hB jU a (by simp only[Rx.plain,aM]at hp;exact hp.1) _ ha w1 (hI.sl eR) (hI.sl hE)) (fun w1 _ hI=>jF FV gq iN hB jU b (by simp only[Rx.plain,aM]at hp;exact hp.2) _ hb w1 (hI.sl eR) (hI.sl hE))
 | .jq a b,hp,i,⟨j,k,h,ha,hb⟩,w,_,eR,hE=>FV.al w gq iN hB eR hE i a b j k h (fun w1 _ hI=>jF FV gq iN hB jU a (by simp only[Rx.plain,aM]at hp;exact hp.1) _ ha w1 (hI.sl eR) (hI.sl hE)) (fun w1 _ hI=>jF FV gq iN hB jU b (by simp only[Rx.plain,aM]at hp;exact hp.2) _ hb w1 (hI.sl eR) (hI.sl hE))
 | .and a b,hp,i,⟨j,k,h,ha,hb⟩,w,_,eR,hE=>FV.an w gq iN hB eR hE i a b j k h (fun w1 _ hI=>jF FV gq iN hB jU a (by simp only[Rx.plain,aM]at hp;exact hp.1) _ ha w1 (hI.sl eR) (hI.sl hE)) (fun w1 _ hI=>jF FV gq iN hB jU b (by simp only[Rx.plain,aM]at hp;exact hp.2) _ hb w1 (hI.sl eR) (hI.sl hE))
 | .ahead a,hp,_,_,_,_,_,_=>absurd hp (by simp[Rx.plain])
 | .behind a,hp,_,_,_,_,_,_=>absurd hp (by simp[Rx.plain])
end Go.Proofs.YtgdbfideeeegmaaGreatDoor

namespace Go.Proofs.YtgdbfideeeegmaaGreatDoor
open Go.Lx Go.RowKit _root_.Go.Proofs.Tryz
theorem qG.frame {base:World} {f:FuncId} {args:List Value} {zs:Nat} {bb:Option Addr} {bc l_:Nat} {bh:List Nat} {ls:List Lf} {r:OB} {E:List Cf} (h:qG base f args zs bb bc l_ bh ls r E) (B:List Lx.Item) {O:List Lx.Item} (cb:Option Addr) (cc:Nat) (l:List CR) (p:List OB) (hS:ld ls l p) (hp:lZ p r) (hs:Sub ([dR zs (.cells (List.toArray [(.slice bb bh.length bc),(.slice cb l.length cc)]) 122 (0,0)),aq cb cc 169 3 (du l),aq bb l_ 3 1 (bU bh)]++B) O):
  cd Tryz.prog base f args (O++fZ 173 p) (fun v O'=> ∃uv uw l' p',v=.tuple #[]∧O'=([dR zs (.cells (List.toArray [(.slice bb bh.length bc),(.slice uv l'.length uw)]) 122 (0,0)),aq uv uw 169 3 (du l'),aq bb l_ 3 1 (bU bh)]++B)++fZ 173 p'∧l'.map CR.cf=E.foldl add (l.map CR.cf)∧ld ls l' p'∧(∀x∈p,x∈p')):=by
 refine((h cb cc l p hS hp).under (B:=B) (qH _ _ _ _ hs)).post ?_
 rintro v O' ⟨A',rfl,uv,uw,l',p',rfl,rfl,h1,h2,h3⟩
 exact⟨_,qI _ _ _,uv,uw,l',p',F,F,h1,h2,h3⟩
def tB (nb:List Nat) (k:Nat):List Nat:=nb.take k++List.replicate (nb.length-k) 0
theorem rh {nb:List Nat} {k:Nat} (h:k≤nb.length):(tB nb k).length=nb.length:=by unfold tB;rw[aF,cw,iQ];omega
theorem CJ (nb:List Nat):tB nb 0=List.replicate nb.length 0:=by simp[tB]
theorem FZ (nb:List Nat):tB nb nb.length=nb:=by simp[tB]
theorem AN {nb:List Nat} {k:Nat} (h:k<nb.length):(tB nb k).set k nb[k]=tB nb (k+1):=by
 unfold tB
 rw[aH h,show nb.length-k=(nb.length-(k+1))+1 by omega,List.replicate_succ,List.set_append_right _ _ (by simp;omega),aI]
 simp[Nat.min_eq_left (Nat.le_of_lt h)]
theorem KP {nb:List Nat} {k:Nat} (h:k<nb.length) (h0:nb[k]=0):tB nb (k+1)=tB nb k:=by
 rw[←AN h,h0]
 unfold tB
 rw[show nb.length-k=(nb.length-(k+1))+1 by omega,List.replicate_succ,List.set_append_right _ _ (by simp;omega)]
 simp[Nat.min_eq_left (Nat.le_of_lt h)]
theorem Oc (w:World) [dB Tryz.prog w] (ob:Nat) (lb:Option Addr) (lc:Nat) (cv fv:Value) (ls:List Lf) (ks:List LK) (ho:kU w ob lb lc cv fv ls ks) (vs:Nat) (hG:ji ls vs) {K:Nat} (hK:qu ls K) (xI:K<1099511627776) (first:List Nat) (fb:Option Addr) (fc:Nat) (hfv:fv=.slice fb first.length fc) (mf:Sl w fb (bU first)) (hf: ∀k∈first,k<ls.length) (qY:first.length≤1000000):
  cA Tryz.prog 75 [(d_ (aD ob) 0)] w fun v N=> ∃bb bc l_ cb cc l p,v=.agg #[.slice bb (ls.map fun l=>l.d.start.toNat).length bc,.slice cb l.length cc]∧N=[aq bb l_ 3 1 (bU (ls.map fun l=>l.d.start.toNat)),aq cb cc 169 3 (du l)]++fZ 173 p∧l.map CR.cf=(first.flatMap fun k=>gz ls (2*ls.length) (ls.map fun l=>l.d.start.toNat) k []).foldl add []∧ld ls l p:=by
 refine aG func75 F ntmps75 F ?_
 have iM:=hG.len
 obtain⟨nb,BT⟩: ∃l:List Nat,l=(ls.map fun l=>l.d.start.toNat):=⟨_,F⟩
 have G9:nb.length=ls.length:=by rw[BT];simp
 refine ai (ao F (bu kj F (fun z1=>?_)))
 refine ae (ai (ah F (ad (bf F) (ad (ck gw F gy F F (aJ ho.bx) (by first|omega|(simp;done)|(simp;omega)|(simp_all;done)|(simp_all;omega))) (ad (c_ fx F F (aJ ho.bx) F) (ad (cP fx F) (ao F (cW (m:=ls.length) cI bl F F (by omega) (by omega) (fun z2=>?_)))))))))
 refine ad (cF (cs:=[(.slice (aD z2) ls.length ls.length),nS]) F0 kj (by kernel_rfl)) (ao F (bu kj F (fun z3=>?_)))
 refine ao F (bV (vs:=[(.slice (aD z2) ls.length ls.length),nS]) 0 kj F F F F ?_)
 refine ae (aO (ai (ah F (ad (bf F) (ad (ck gw F gy F F (aJ ho.bx) (by first|omega|(simp;done)|(simp;omega)|(simp_all;done)|(simp_all;omega))) (ad (c_ fx F F (aJ ho.bx) F) (ad (cP fx F) (ah F (ae (aU ?_))))))))))
 refine dM (fun(k:Nat) ρ O=>O=[oI z3 122 [(.slice (aD z2) ls.length ls.length),nS],aq (aD z2) ls.length 3 1 (bU (tB nb k)),oI z1 122 [nS,nS]]∧k≤ls.length∧dt [(0,(d_ (aD ob) 0)),(2,(.pointer (aD z1))),(3,(.pointer (aD z3))),(18,(.slice lb ls.length lc)),(19,vI (ls.length:Int)),(20,vI ((k:Nat):Int))] ρ) (fun k=>ls.length-k) 0 ?_ ?_
 ·exact⟨by rw[CJ,G9,show bU (List.replicate ls.length 0)=List.replicate ls.length (vI 0) by simp];rfl,bs _,(.of F)⟩
 rintro k ρ O ⟨rfl,hk,hH⟩
 obtain⟨gP,rfl⟩:=hH.elim
 clear hH
 refine ai (ad (cR F F) (ae (aO (aP F (fun hc=>?_) (fun hc=>?_)))))
 ·have uU:k<ls.length:=by omega
  refine aE (aO (aU (ai (ah F (ad (dU (i:=k) fx eZ F F (aJ ho.rw) uU (by rw[dY ho.kl];omega)) (ad (eP (vs:=[v8 ((lf ls k).op),vI (lf ls k).d.vars,vI (((lf ls k).d.start.toNat:Nat):Int),(.slice (lk ks k).k.nb ((lf ls k).d.next.length) ((lk ks k).k.nc)),(.slice (lk ks k).k.fb ((lf ls k).d.aV.length) ((lk ks k).k.fc)),(.slice (lk ks k).b ((lf ls k).fo.length) ((lk ks k).c)),.bool (lf ls k).la]) iw F eZ F F (bw _) (aJ ho.rw) (oB ho.kl uU (hG.j4 uU).s0)) (ao F (bu eZ F (fun z4=>?_)))))))))
  refine aj F (ao F (bV (vs:=[v8 ((lf ls k).op),vI (lf ls k).d.vars,vI (((lf ls k).d.start.toNat:Nat):Int),(.slice (lk ks k).k.nb ((lf ls k).d.next.length) ((lk ks k).k.nc)),(.slice (lk ks k).k.fb ((lf ls k).d.aV.length) ((lk ks k).k.fc)),(.slice (lk ks k).b ((lf ls k).fo.length) ((lk ks k).c)),.bool (lf ls k).la]) 0 eZ F F F F ?_))
  refine ae (be (ad (bj lW F cU F F) (ad (bn 1 cI F F F F) (ah F (ad (bj iw F bK F F) (ad (bj cS F bl F F) (ad (bn 0 dS F F F F) (ad (dZ (i:=k) cI bl F F (dX (mG 2 F)) (by first|omega|(rw[rh (by omega)];omega)) (by first|omega|(rw[ar,rh (by omega)];omega))) (ao F (n7 (j:=k) (v:=vI (((lf ls k).d.start.toNat:Nat):Int)) (vs:=[(vI (((lf ls k).d.start.toNat:Nat):Int))]) (cs:=bU (tB nb k)) 2 bl F F F F F (by simp) F (by rw[ar,rh (by omega)];simp;omega) ?_))))))))))
  refine ef (O':=[oI z4 118 [v8 ((lf ls k).op),vI (lf ls k).d.vars,vI (((lf ls k).d.start.toNat:Nat):Int),(.slice (lk ks k).k.nb ((lf ls k).d.next.length) ((lk ks k).k.nc)),(.slice (lk ks k).k.fb ((lf ls k).d.aV.length) ((lk ks k).k.fc)),(.slice (lk ks k).b ((lf ls k).fo.length) ((lk ks k).c)),.bool (lf ls k).la],oI z3 122 [(.slice (aD z2) ls.length ls.length),nS],aq (aD z2) ls.length 3 1 (bU (tB nb (k+1))),oI z1 122 [nS,nS]]) (by rw[show fe (bU (tB nb k)) k [(vI (((lf ls k).d.start.toNat:Nat):Int))]=bU (tB nb (k+1))from(by rw[←AN (by omega),show nb[k]=(lf ls k).d.start.toNat by simp only[BT,List.getElem_map,xK uU]];simp[fe])];exact cj (aZ _)) ?_
  refine ae (be (ad (dx (a:=k) (b:=1) F F (by omega)) (ah F (ae ?_))))
  exact⟨k+1,by omega,[oI z3 122 [(.slice (aD z2) ls.length ls.length),nS],aq (aD z2) ls.length 3 1 (bU (tB nb (k+1))),oI z1 122 [nS,nS]],(by exact Sub.d (.k (.k (.k .z)))),F,by omega,(.of F)⟩
 have wN: ¬k<ls.length:=by omega
 refine cG ?_
 refine aO (ai (ah F (ad (bf F) (ad (ck gw F cU F F (aJ ho.bx) (by first|omega|(simp;done)|(simp;omega)|(simp_all;done)|(simp_all;omega))) (ad (c_ cI F F (aJ ho.bx) (by rw[hfv];rfl)) (ad (cP cI F) (ah F (ae (aU ?_)))))))))
 have Va:k=ls.length:=by omega
 subst Va
 refine T.eY 169 3 ?_
 refine dv (O':=[oI z3 122 [(.slice (aD z2) nb.length ls.length),(.slice none (([]:List CR).length) 0)],aq none 0 169 3 (du ([]:List CR)),aq (aD z2) ls.length 3 1 (bU nb),oI z1 122 [nS,nS]]++fZ 173 []) (by
  rw[show tB nb ls.length=nb by rw[←G9,FZ],G9]
  exact(aC [1,0,0,0] F)) ?_
 refine dM (fun(i:Nat) ρ O=> ∃(cb:Option Addr) (cc:Nat) (l:List CR) (p:List OB),O=([oI z3 122 [(.slice (aD z2) nb.length ls.length),(.slice cb l.length cc)],aq cb cc 169 3 (du l),aq (aD z2) ls.length 3 1 (bU nb),oI z1 122 [nS,nS]]++(fZ 173 p))∧i≤first.length∧l.map CR.cf=((first.take i).flatMap fun k=>gz ls (2*ls.length) nb k []).foldl add []∧ld ls l p∧dt [(0,(d_ (aD ob) 0)),(2,(.pointer (aD z1))),(3,(.pointer (aD z3))),(36,(.slice fb first.length fc)),(37,vI (first.length:Int)),(38,vI ((i:Nat):Int))] ρ) (fun i=>first.length-i) 0 ?_ ?_
 ·exact⟨none,0,[],[],F,bs _,F,⟨by simp,List.nodup_nil,by simp⟩,(.of F)⟩
 rintro i ρ O ⟨cb,cc,l,p,rfl,hi,hm,hS,hH⟩
 obtain⟨gP,rfl⟩:=hH.elim
 clear hH
 refine ai (ad (cR F F) (ae (aO (aP F (fun hc=>?_) (fun hc=>?_)))))
 ·have zH:i<first.length:=by omega
  refine aE (aO (aU (ai (ad (dZ (i:=i) cI bl F F (aJ mf) zH (by rw[ar];exact zH)) (ad (c_ dS F F (aJ mf) (ij zH)) (aj F (ae (be (ah F (ah F ?_))))))))))
  have B7:=(qG.frame ((EE w ob lb lc cv fv ls ks ho vs hG hK xI z3 (aD z2) ls.length ls.length nb (by rw[BT];exact qJ hG) (2*ls.length)).1 first[i] ⟨none,0,[]⟩ (hf _ (aL zH)) (by omega) .nil) [oI z1 122 [nS,nS]] (O:=[oI z3 122 [(.slice (aD z2) nb.length ls.length),(.slice cb l.length cc)],aq cb cc 169 3 (du l),aq (aD z2) ls.length 3 1 (bU nb),oI z1 122 [nS,nS]]) cb cc l p hS (.inr F) (by exact Sub.rf))
  refine ao F (bm KL B7 F ?_)
  clear B7
  rintro vr O' ⟨N6,N7,l3,p3,rfl,rfl,N8,Iz,Dz⟩
  refine ae (be (ad (dx (a:=i) (b:=1) F F (by omega)) (ah F (ae ?_))))
  exact⟨i+1,by omega,_,cj (aZ _),N6,N7,l3,p3,F,by omega,by rw[aH zH,List.flatMap_append,cY,←hm,N8];simp,Iz,(.of F)⟩
 have Wz: ¬i<first.length:=by omega
 refine cG ?_
 refine ai (ad (ew 0 lW F kj F F F) (ao F (bV (vs:=[(.slice (aD z2) nb.length ls.length),(.slice cb l.length cc)]) 3 kj F F F F ?_)))
 refine ae (aN (az ?_))
 refine cL (i:=3) Tryz.results75 lW F kj F F F ?_
 have wj:i=first.length:=by omega
 subst wj
 rw[List.take_length]at hm
 exact⟨[aq (aD z2) ls.length 3 1 (bU nb),aq cb cc 169 3 (du l)]++fZ 173 p,(by exact Sub.d (.eQ [aq cb cc 169 3 (du l)] _ (.k (.d .rf)))),(aD z2),ls.length,ls.length,cb,cc,l,p,by rw[←BT];rfl,by rw[←BT],by rw[hm,←BT],hS⟩
end Go.Proofs.YtgdbfideeeegmaaGreatDoor

namespace Go.Proofs.YtgdbfideeeegmaaGreatDoor
open Go.Lx Go.RowKit _root_.Go.Proofs.Tryz
theorem EF {ls:List Lf} {vs:Nat} (hG:ji ls vs) {x:Nat} (hx:x<2^vs) {m:Nat} {o:List Ob} (hm:m≤ls.length) (h:fO ls m o) {j:Nat} (hj:j<o.length):fO ls o[j].1 (nj ls (o.take j) x):=by
 have h1:=h.2 _ (aL hj)
 refine uy hG hx (by omega) (m:=0) .nil (h.1.sublist (List.take_sublist j o)) (fun p hp=>?_) (bs _)
 obtain⟨i,hi,rfl⟩:=List.mem_iff_getElem.1 hp
 rw[cw]at hi
 rw[List.getElem_take]
 exact⟨bs _,(List.pairwise_iff_getElem.1 h.1) i j (by omega) hj (by omega),(h.2 _ (aL _)).2⟩
theorem EG {ls:List Lf} {x:Nat} {o:List Ob} {j:Nat} (hj:j<o.length):nj ls (o.take (j+1)) x=tA ls (nj ls (o.take j) x) (o[j].1,e7 (lf ls o[j].1).d o[j].2 x):=by
 unfold nj;rw[aH hj,cY];rfl
theorem SG (w:World) [dB Tryz.prog w] (ob:Nat) (lb:Option Addr) (lc:Nat) (cv fv:Value) (ls:List Lf) (ks:List LK) (ho:kU w ob lb lc cv fv ls ks) (vs:Nat) (hG:ji ls vs) {K:Nat} (hK:qu ls K) (xI:K<1099511627776) (x:Nat) (hx:x<2^vs) (gq:vs≤6) (b0:List Nat) (sb:Option Addr) (sc:Nat) (hsb:Sl w sb (bU b0)) (It:pJ ls b0) (l0:List CR) (tb:Option Addr) (tc:Nat) (htb:Sl w tb (du l0)) (hg: ∀y∈l0,jv ls y.cf) (lx:(l0.map CR.cf).Nodup) (CH: ∀y∈l0,Sl w y.r.b (fA y.r.o)):
  cA Tryz.prog 77 [(d_ (aD ob) 0),.agg #[.slice sb b0.length sc,.slice tb l0.length tc],v8 x] w fun v N=> ∃bb bc l_ cb cc l p,v=.agg #[.slice bb (mj ls b0 x).length bc,.slice cb l.length cc]∧N=[aq bb l_ 3 1 (bU (mj ls b0 x)),aq cb cc 169 3 (du l)]++fZ 173 p∧l.map CR.cf=((l0.map CR.cf).flatMap (jQ ls (mj ls b0 x) x)).foldl add []∧ld ls l p:=by
 refine aG func77 F ntmps77 F ?_
 have iM:=hG.len
 obtain⟨nb,BT⟩: ∃l:List Nat,l=mj ls b0 x:=⟨_,F⟩
 have ZN:=xL hG It hx
 rw[←BT]at ZN
 have G9:nb.length=ls.length:=ZN.len
 have SH:=It.len
 have Hj:l0.length≤K:=by
  have:=hK (l0.map CR.cf) lx fun c hc=>by obtain⟨y,hy,rfl⟩:=List.mem_map.1 hc;exact hg y hy
  simpa using this
 have abU:x<256:=eA hx (bO (by decide) (show vs≤8 by omega))
 refine ai (ao F (dE (cs:=[(.slice sb b0.length sc),(.slice tb l0.length tc)]) F F (fun z1=>?_)))
 refine ao F (bu kj F (fun z2=>?_))
 refine ae (ai (ad (bj lW F cU F F) (ad (bn 1 cI F F F F) (ad (cP cI F) (ao F (cW (m:=b0.length) cI bl F F (by omega) (by omega) (fun z3=>?_)))))))
 refine ad (cF (cs:=[(.slice (aD z3) b0.length b0.length),nS]) F0 kj (by kernel_rfl)) (ao F (bu kj F (fun z4=>?_)))
 refine ao F (bV (vs:=[(.slice (aD z3) b0.length b0.length),nS]) 0 kj F F F F ?_)
 refine ae (aO (ai (ah F (ad (bf F) (ad (ck gw F gy F F (aJ ho.bx) (by first|omega|(simp;done)|(simp;omega)|(simp_all;done)|(simp_all;omega))) (ad (c_ fx F F (aJ ho.bx) F) (ad (cP fx F) (ah F (ae (aU ?_))))))))))
 refine dM (fun(k:Nat) ρ O=>O=[oI z4 122 [(.slice (aD z3) b0.length b0.length),nS],aq (aD z3) b0.length 3 1 (bU (tB nb k)),oI z2 122 [nS,nS],oI z1 122 [(.slice sb b0.length sc),(.slice tb l0.length tc)]]∧k≤ls.length∧dt [(0,(d_ (aD ob) 0)),(1,(.agg #[(.slice sb b0.length sc),(.slice tb l0.length tc)])),(2,v8 x),(4,(.pointer (aD z1))),(6,(.pointer (aD z2))),(7,(.pointer (aD z4))),(25,(.slice lb ls.length lc)),(26,vI (ls.length:Int)),(27,vN k)] ρ) (fun k=>ls.length-k) 0 ?_ ?_
 ·exact⟨by rw[CJ,G9,←SH,show bU (List.replicate b0.length 0)=List.replicate b0.length (vI 0) by simp];rfl,bs _,(.of F)⟩
 rintro k ρ O ⟨rfl,hk,hH⟩
 obtain⟨gP,rfl⟩:=hH.elim
 clear hH
 refine ai (ad (cR F F) (ae (aO (aP F (fun hc=>?_) (fun hc=>?_)))))
 ·have qK:k<ls.length:=by omega
  refine aE (aO (aU (ai (ah F (ad (dU (i:=k) fx eZ F F (aJ ho.rw) qK (by rw[dY ho.kl];omega)) (ad (eP (vs:=[v8 ((lf ls k).op),vI (lf ls k).d.vars,vN ((lf ls k).d.start.toNat),(.slice (lk ks k).k.nb ((lf ls k).d.next.length) ((lk ks k).k.nc)),(.slice (lk ks k).k.fb ((lf ls k).d.aV.length) ((lk ks k).k.fc)),(.slice (lk ks k).b ((lf ls k).fo.length) ((lk ks k).c)),.bool (lf ls k).la]) iw F eZ F F (bw _) (aJ ho.rw) (oB ho.kl qK (hG.j4 qK).s0)) (ao F (bu eZ F (fun z5=>?_)))))))))
  refine aj F (ao F (bV (vs:=[v8 ((lf ls k).op),vI (lf ls k).d.vars,vN ((lf ls k).d.start.toNat),(.slice (lk ks k).k.nb ((lf ls k).d.next.length) ((lk ks k).k.nc)),(.slice (lk ks k).k.fb ((lf ls k).d.aV.length) ((lk ks k).k.fc)),(.slice (lk ks k).b ((lf ls k).fo.length) ((lk ks k).c)),.bool (lf ls k).la]) 0 eZ F F F F ?_))
  refine ae (ai (ad (bj iw F dF F F) (ad (bn 0 fF F F F F) (ad (bM F F) (ae (aP F (fun hc=>?_) (fun hc=>?_)))))))
  ·have yQ:(lf ls k).op=10:=by omega
   have KM:(lf ls k).op=10:=by omega
   have rH:b0.getD k 0<(lf ls k).d.next.length:=It.lt k qK
   obtain⟨v1,c1,g1,s1⟩:=(ho.dk _ qK).rows.get rH
   have JY:(lf ls k).d.next[b0.getD k 0].length=dT (lf ls k).d:=(hG.j4 qK).len _ (aL rH)
   have Od:x<dT (lf ls k).d:=by unfold dT;rw[hG.vars _ (ko qK)];exact hx
   have WA:x<(lf ls k).d.next[b0.getD k 0].length:=by rw[JY];exact Od
   refine fQ [(0,0),(1,0),(2,0),(3,0),(4,0),(5,0),(6,0),(7,0),(8,0),(9,0),(10,0),(11,0),(12,0),(13,0),(14,0),(15,0),(16,0),(17,2)] ?_
   refine au F (bj lW F cU F F) (au F (bn 1 cI F F F F) (au F (aK F) (au F (bj iw F bK F F) (au F (bj cS F fa F F) (au F (bn 0 eI F F F F) (au F (bj lW F cU F F) (au F (bn 4 cI F F F F) (au F (aK F) (au F (dZ (i:=k) cI bl F F (aJ hsb) (by omega) (by rw[ar];omega)) (au F (c_ dS F F (aJ hsb) (lH (by omega))) (au F (dZ (i:=(b0.getD k 0)) eI cU F F (aJ (ho.dk _ qK).outer) rH ((ho.dk _ qK).rows.1▸rH)) (au F (c_ cI F F (aJ (ho.dk _ qK).outer) g1) (au F (aK F) (au F (dZ (i:=x) cI bl F F (aJ s1) WA (by rw[ar];exact WA)) (au F (c_ dS F F (aJ s1) (wK (hG.j4 qK) rH Od)) (au F (dZ (i:=k) cI bl F F (dX (mG 2 F)) (by first|omega|(rw[rh (by omega)];omega)) (by first|omega|(rw[ar,rh (by omega)];omega))) ?_))))))))))))))))
   refine cu F F (n7 (j:=k) (v:=vN (e7 (lf ls k).d (b0.getD k 0) x)) (vs:=[(vN (e7 (lf ls k).d (b0.getD k 0) x))]) (cs:=bU (tB nb k)) 2 bl F F F F F (by simp) F (by rw[ar,rh (by omega)];simp;omega) ?_)
   refine eW (O':=[oI z5 118 [v8 ((lf ls k).op),vI (lf ls k).d.vars,vN ((lf ls k).d.start.toNat),(.slice (lk ks k).k.nb ((lf ls k).d.next.length) ((lk ks k).k.nc)),(.slice (lk ks k).k.fb ((lf ls k).d.aV.length) ((lk ks k).k.fc)),(.slice (lk ks k).b ((lf ls k).fo.length) ((lk ks k).c)),.bool (lf ls k).la],oI z4 122 [(.slice (aD z3) b0.length b0.length),nS],aq (aD z3) b0.length 3 1 (bU (tB nb (k+1))),oI z2 122 [nS,nS],oI z1 122 [(.slice sb b0.length sc),(.slice tb l0.length tc)]]) (by rw[show fe (bU (tB nb k)) k [(vN (e7 (lf ls k).d (b0.getD k 0) x))]=bU (tB nb (k+1))from(by rw[←AN (by omega),show nb[k]=e7 (lf ls k).d (b0.getD k 0) x by simp only[BT,mj,List.getElem_map,List.getElem_range];rw[aR KM]];simp[fe])];exact cj (aZ _)) ?_
   refine cy ?_
   refine be (ad (dx (a:=k) (b:=1) F F (by omega)) (ah F (ae ?_)))
   exact⟨k+1,by omega,[oI z4 122 [(.slice (aD z3) b0.length b0.length),nS],aq (aD z3) b0.length 3 1 (bU (tB nb (k+1))),oI z2 122 [nS,nS],oI z1 122 [(.slice sb b0.length sc),(.slice tb l0.length tc)]],(by exact Sub.d (.k (.k (.k (.k .z))))),F,by omega,(.of F)⟩
  have Ui: ¬(lf ls k).op=10:=by omega
  have KM: ¬(lf ls k).op=10:=by omega
  refine aE (be (ad (dx (a:=k) (b:=1) F F (by omega)) (ah F (ae ?_))))
  have RP:tB nb (k+1)=tB nb k:=KP (by omega) (by simp only[BT,mj,List.getElem_map,List.getElem_range];rw[ay KM])
  exact⟨k+1,by omega,[oI z4 122 [(.slice (aD z3) b0.length b0.length),nS],aq (aD z3) b0.length 3 1 (bU (tB nb k)),oI z2 122 [nS,nS],oI z1 122 [(.slice sb b0.length sc),(.slice tb l0.length tc)]],(by exact Sub.d (.k (.k (.k (.k .z))))),by rw[RP],by omega,(.of F)⟩
 have abV: ¬k<ls.length:=by omega
 refine cG ?_
 refine aO (ai (ad (bj lW F qE F F) (ad (bn 3 nI F F F F) (ad (cP nI F) (ah F (ae (aU ?_)))))))
 have Va:k=ls.length:=by omega
 subst Va
 refine T.eY 169 3 ?_
 refine dv (O':=[oI z4 122 [(.slice (aD z3) nb.length b0.length),(.slice none (([]:List CR).length) 0)],aq none 0 169 3 (du ([]:List CR)),aq (aD z3) b0.length 3 1 (bU nb),oI z2 122 [nS,nS],oI z1 122 [(.slice sb b0.length sc),(.slice tb l0.length tc)]]++fZ 173 []) (by
  rw[show tB nb ls.length=nb by rw[←G9,FZ],G9,←SH]
  exact(aC [1,0,0,0,0] F)) ?_
 refine dM (fun(i:Nat) ρ O=> ∃(cb:Option Addr) (cc:Nat) (l:List CR) (p:List OB),O=([oI z4 122 [(.slice (aD z3) nb.length b0.length),(.slice cb l.length cc)],aq cb cc 169 3 (du l),aq (aD z3) b0.length 3 1 (bU nb),oI z2 122 [nS,nS],oI z1 122 [(.slice sb b0.length sc),(.slice tb l0.length tc)]]++(fZ 173 p))∧i≤l0.length∧l.map CR.cf=(((l0.take i).map CR.cf).flatMap (jQ ls nb x)).foldl add []∧ld ls l p∧dt [(0,(d_ (aD ob) 0)),(1,(.agg #[(.slice sb b0.length sc),(.slice tb l0.length tc)])),(2,v8 x),(4,(.pointer (aD z1))),(6,(.pointer (aD z2))),(7,(.pointer (aD z4))),(54,(.slice tb l0.length tc)),(55,vI (l0.length:Int)),(56,vN i)] ρ) (fun i=>l0.length-i) 0 ?_ ?_
 ·exact⟨none,0,[],[],F,bs _,F,⟨by simp,List.nodup_nil,by simp⟩,(.of F)⟩
 rintro i ρ O ⟨cb,cc,l,p,rfl,hi,hm,hS,hH⟩
 obtain⟨gP,rfl⟩:=hH.elim
 clear hH
 refine ai (ad (cR F F) (ae (aO (aP F (fun hc=>?_) (fun hc=>?_)))))
 ·have zI:i<l0.length:=by omega
  have Yk:=hg _ (aL zI)
  have KQ:((l0.take (i+1)).map CR.cf).flatMap (jQ ls nb x)=((l0.take i).map CR.cf).flatMap (jQ ls nb x)++jQ ls nb x l0[i].cf:=by rw[aH zI,bo,List.flatMap_append];simp only[cD,fz,List.flatMap_cons,List.flatMap_nil,cT]
  refine aE (aO (aU (ai (ad (dU (i:=i) nI jk F F (aJ htb) zI (by rw[pj];omega)) (ad (eP (vs:=[vI l0[i].k,vN (l0[i].s),(.slice l0[i].r.b l0[i].r.o.length l0[i].r.c)]) lq F jk F F (bw _) (aJ htb) (so zI)) (ao F (bu jk F (fun z6=>?_))))))))
  refine ao F (bV (vs:=[vI l0[i].k,vN (l0[i].s),(.slice l0[i].r.b l0[i].r.o.length l0[i].r.c)]) 0 jk F F F F ?_)
  refine ae (aO (ai (ad (bj lq F bl F F) (ad (bn 0 dS F F F F) (ad (cR F F) (ae (aP F (fun hc=>?_) (fun hc=>?_))))))))
  ·have WB:l0[i].k<0:=hc
   refine cG ?_
   refine be (ad (dx (a:=i) (b:=1) F F (by omega)) (ah F (ae ?_)))
   have e9:jQ ls nb x l0[i].cf=[]:=by unfold jQ;rw[aR (show l0[i].cf.k<0 from WB)]
   exact⟨i+1,by omega,[oI z4 122 [(.slice (aD z3) nb.length b0.length),(.slice cb l.length cc)],aq cb cc 169 3 (du l),aq (aD z3) b0.length 3 1 (bU nb),oI z2 122 [nS,nS],oI z1 122 [(.slice sb b0.length sc),(.slice tb l0.length tc)]]++fZ 173 p,(by exact Sub.d (.k (.k (.k (.k (.k .rf)))))),cb,cc,l,p,F,by omega,by rw[KQ,e9,cT];exact hm,hS,(.of F)⟩
  obtain⟨kk,zJ,nu,n8,SI⟩: ∃k:Nat,l0[i].k=(k:Int)∧k<ls.length∧l0[i].s<(lf ls k).d.next.length∧fO ls k l0[i].r.o:=Yk.elim (fun h=>absurd h.1 (by show¬l0[i].k= -1;omega)) id
  have Sj:l0[i].r.o.length≤12:=by have:=SI.len;omega
  refine aE (ai (aj F (ae (aO (ai (ad (bj lq F AJ F F) (ad (bn 0 ju F F F F) (ad (cP ju F) (ah F (ae (aU ?_)))))))))))
  refine dM (fun(j:Nat) ρ O=> ∃(r3:OB) (p3:List OB),O=([oI z6 169 [vI l0[i].k,vN (l0[i].s),(.slice l0[i].r.b l0[i].r.o.length l0[i].r.c)],oI z4 122 [(.slice (aD z3) nb.length b0.length),(.slice cb l.length cc)],aq cb cc 169 3 (du l),aq (aD z3) b0.length 3 1 (bU nb),oI z2 122 [nS,nS],oI z1 122 [(.slice sb b0.length sc),(.slice tb l0.length tc)]]++(fZ 173 p3))∧j≤l0[i].r.o.length∧r3.o=nj ls (l0[i].r.o.take j) x∧lZ p3 r3∧ld ls l p3∧dt [(0,(d_ (aD ob) 0)),(1,(.agg #[(.slice sb b0.length sc),(.slice tb l0.length tc)])),(2,v8 x),(4,(.pointer (aD z1))),(6,(.pointer (aD z2))),(7,(.pointer (aD z4))),(11,(.pointer (aD z6))),(12,(.slice r3.b r3.o.length r3.c)),(54,(.slice tb l0.length tc)),(55,vI (l0.length:Int)),(56,vN i),(64,(.slice l0[i].r.b l0[i].r.o.length l0[i].r.c)),(65,vI (l0[i].r.o.length:Int)),(66,vN j)] ρ) (fun j=>l0[i].r.o.length-j) 0 ?_ ?_
  ·exact⟨⟨none,0,[]⟩,p,F,bs _,F,.inr F,hS,(.of F)⟩
  rintro j ρ O ⟨r3,p3,rfl,hj,T8,Dz,Iz,hH⟩
  obtain⟨gP,rfl⟩:=hH.elim
  clear hH
  refine ai (ad (cR F F) (ae (aO (aP F (fun hc=>?_) (fun hc=>?_)))))
  ·have xw:j<l0[i].r.o.length:=by omega
   have Ni:=SI.2 _ (aL xw)
   have KR:l0[i].r.o[j].1<ls.length:=by omega
   have Jc:l0[i].r.o[j].2<(lf ls l0[i].r.o[j].1).d.next.length:=Ni.2
   obtain⟨v2,c2,g2,s2⟩:=(ho.dk _ KR).rows.get Jc
   have Yl:(lf ls l0[i].r.o[j].1).d.next[l0[i].r.o[j].2].length=dT (lf ls l0[i].r.o[j].1).d:=(hG.j4 KR).len _ (aL Jc)
   have I2:x<dT (lf ls l0[i].r.o[j].1).d:=by unfold dT;rw[hG.vars _ (ko KR)];exact hx
   have WC:x<(lf ls l0[i].r.o[j].1).d.next[l0[i].r.o[j].2].length:=by rw[Yl];exact I2
   have ZO:=((hG.j4 KR).toVal.gV Jc I2).1
   refine aE (aO (aU (ai (ad (dU (i:=j) ju gM F F (aJ (CH _ (aL zI))) xw (by rw[jG];omega)) (ad (eP (vs:=[vN (l0[i].r.o[j].1),vN (l0[i].r.o[j].2)]) j3 F gM F F (bw _) (aJ (CH _ (aL zI))) (ni xw)) (ao F (bu gM F (fun z7=>?_))))))))
   refine ao F (bV (vs:=[vN (l0[i].r.o[j].1),vN (l0[i].r.o[j].2)]) 0 gM F F F F ?_)
   refine ae ?_
   refine fQ [(0,0),(1,0),(2,0),(3,0),(4,0),(5,0),(6,0),(7,0),(8,0),(9,0),(10,0),(11,0),(12,0),(13,0),(14,0),(15,0),(16,0),(17,0),(18,0),(19,0),(20,0),(21,0),(22,2),(23,2)] ?_
   refine au F (aK F) (au F (aK F) (au F (js (i:=0) j3 bl F F (by decide)) (au F (bn 0 dS F F F F) (au F (aK F) (au F (bf F) (au F (ck gw F gy F F (aJ ho.bx) (by first|omega|(simp;done)|(simp;omega)|(simp_all;done)|(simp_all;omega))) (au F (c_ fx F F (aJ ho.bx) F) (au F (js (i:=0) j3 bl F F (by decide)) (au F (bn 0 dS F F F F) (au F (dU (i:=l0[i].r.o[j].1) fx eZ F F (aJ ho.rw) KR (by rw[dY ho.kl];omega)) (au F (ck iw F bK F F (aJ ho.rw) (by rw[dY ho.kl];omega)) (au F (ck cS F fa F F (aJ ho.rw) (by rw[dY ho.kl];show _*7+1<_;omega)) (au F (c_ eI F F (aJ ho.rw) (qF ho.kl KR 3 F F)) (au F (js (i:=1) j3 bl F F (by decide)) (au F (bn 0 dS F F F F) (au F (dZ (i:=l0[i].r.o[j].2) eI cU F F (aJ (ho.dk _ KR).outer) Jc ((ho.dk _ KR).rows.1▸Jc)) (au F (c_ cI F F (aJ (ho.dk _ KR).outer) g2) (au F (aK F) (au F (dZ (i:=x) cI bl F F (aJ s2) WC (by rw[ar];exact WC)) (au F (c_ dS F F (aJ s2) (wK (hG.j4 KR) Jc I2)) (au F (sW (cs:=[vN (l0[i].r.o[j].1),vN (e7 (lf ls l0[i].r.o[j].1).d l0[i].r.o[j].2 x)]) j3 bl gM (by kernel_rfl)) ?_)))))))))))))))))))))
   have Kq:=fun(w1:World) (hI:Inv w ([oI z7 173 [vN (l0[i].r.o[j].1),vN (l0[i].r.o[j].2)],oI z6 169 [vI l0[i].k,vN (l0[i].s),(.slice l0[i].r.b l0[i].r.o.length l0[i].r.c)],oI z4 122 [(.slice (aD z3) nb.length b0.length),(.slice cb l.length cc)],aq cb cc 169 3 (du l),aq (aD z3) b0.length 3 1 (bU nb),oI z2 122 [nS,nS],oI z1 122 [(.slice sb b0.length sc),(.slice tb l0.length tc)]]++(fZ 173 p3)) w1)=>(haveI:=ey hI;Wu w1 ob lb lc cv fv ls ks (hI.out ho) vs hG r3 (lZ.sl hI (fun it fC=>am _ fC) Dz) (l0[i].r.o[j].1,e7 (lf ls l0[i].r.o[j].1).d l0[i].r.o[j].2 x) l0[i].r.o[j].1 (by rw[T8];exact EF hG hx (Nat.le_of_lt nu) SI xw) (a8 _) KR ZO)
   refine cu F F (bm KN (aX Kq) F ?_)
   clear Kq
   rintro vr O' ⟨N,rfl,pl,r4,rfl,rfl,hr4,ZP⟩
   have X4:lZ (pl++p3) r4:=by
    rcases ZP with⟨rfl,rfl⟩|rfl
    ·exact Dz.mono fun x hx=>by simpa using hx
    ·exact .inl (by simp)
   refine eW (O':=([oI z7 173 [vN (l0[i].r.o[j].1),vN (l0[i].r.o[j].2)],oI z6 169 [vI l0[i].k,vN (l0[i].s),(.slice l0[i].r.b l0[i].r.o.length l0[i].r.c)],oI z4 122 [(.slice (aD z3) nb.length b0.length),(.slice cb l.length cc)],aq cb cc 169 3 (du l),aq (aD z3) b0.length 3 1 (bU nb),oI z2 122 [nS,nS],oI z1 122 [(.slice sb b0.length sc),(.slice tb l0.length tc)]]++((fZ 173 pl)++(fZ 173 p3)))) (by exact fE [] _ (fZ 173 pl) (fZ 173 p3)) ?_
   refine cu F F (eO F F (cq F) ?_)
   refine cy ?_
   refine be (ad (dx (a:=j) (b:=1) F F (by omega)) (ah F (ae ?_)))
   exact⟨j+1,by omega,_,(by rw[CI];exact(by exact Sub.d (.k (.k (.k (.k (.k (.k .rf)))))))),r4,pl++p3,F,by omega,by rw[EG xw,←T8,hr4],X4,Iz.mono fun x hx=>am _ hx,(.of F)⟩
  have Vq: ¬j<l0[i].r.o.length:=by omega
  refine cG ?_
  refine aO ?_
  have hje:j=l0[i].r.o.length:=by omega
  subst hje
  rw[List.take_length]at T8
  have WD:fO ls kk r3.o:=by rw[T8];exact xM hG hx (Nat.le_of_lt nu) SI
  obtain⟨v3,c3,g3,s3⟩:=(ho.dk _ nu).rows.get n8
  have MF:(lf ls kk).d.next[l0[i].s].length=dT (lf ls kk).d:=(hG.j4 nu).len _ (aL n8)
  have Ux:x<dT (lf ls kk).d:=by unfold dT;rw[hG.vars _ (ko nu)];exact hx
  have WE:x<(lf ls kk).d.next[l0[i].s].length:=by rw[MF];exact Ux
  have vo:=((hG.j4 nu).toVal.gV n8 Ux).1
  refine fQ [(0,0),(1,0),(2,0),(3,0),(4,0),(5,0),(6,0),(7,0),(8,1),(9,2)] ?_
  refine au F (aK F) (au F (bf F) (au F (ck gw F gy F F (aJ ho.bx) (by first|omega|(simp;done)|(simp;omega)|(simp_all;done)|(simp_all;omega))) (au F (c_ fx F F (aJ ho.bx) F) (au F (bj lq F bl F F) (au F (bT (bn 0 dS F F F F) (v':=vN kk) (by show Value.int _ _=_;rw[zJ])) (au F (dU (i:=kk) fx eZ F F (aJ ho.rw) nu (by rw[dY ho.kl];omega)) (au F (eP (vs:=[v8 ((lf ls kk).op),vI (lf ls kk).d.vars,vN ((lf ls kk).d.start.toNat),(.slice (lk ks kk).k.nb ((lf ls kk).d.next.length) ((lk ks kk).k.nc)),(.slice (lk ks kk).k.fb ((lf ls kk).d.aV.length) ((lk ks kk).k.fc)),(.slice (lk ks kk).b ((lf ls kk).fo.length) ((lk ks kk).c)),.bool (lf ls kk).la]) iw F eZ F F (bw _) (aJ ho.rw) (oB ho.kl nu (hG.j4 nu).s0)) ?_)))))))
  refine cx F F (bu eZ F (fun z8=>⟨by exact Sub.d (.k (.k (.k (.k (.k (.k .rf)))))),?_⟩))
  refine cu F F (bV (vs:=[v8 ((lf ls kk).op),vI (lf ls kk).d.vars,vN ((lf ls kk).d.start.toNat),(.slice (lk ks kk).k.nb ((lf ls kk).d.next.length) ((lk ks kk).k.nc)),(.slice (lk ks kk).k.fb ((lf ls kk).d.aV.length) ((lk ks kk).k.fc)),(.slice (lk ks kk).b ((lf ls kk).fo.length) ((lk ks kk).c)),.bool (lf ls kk).la]) 0 eZ F F F F ?_)
  refine cy ?_
  refine ai (ad (bj iw F bK F F) (ad (bj cS F fa F F) (ad (bn 0 eI F F F F) (ad (bj lq F bl F F) (ad (bn 1 dS F F F F) (ad (dZ (i:=l0[i].s) eI cU F F (aJ (ho.dk _ nu).outer) n8 ((ho.dk _ nu).rows.1▸n8)) (ad (c_ cI F F (aJ (ho.dk _ nu).outer) g3) (ah F (ad (dZ (i:=x) cI bl F F (aJ s3) WE (by rw[ar];exact WE)) (ad (c_ dS F F (aJ s3) (wK (hG.j4 nu) n8 Ux)) (aj F (ae (ai (ah F (ad (bj lq F bl F F) (ad (bT (bn 1 dS F F F F) (v':=vN kk) (by show Value.int _ _=_;rw[zJ])) (ah F (ah F (ad (cF (cs:=[vN kk,vN (e7 (lf ls kk).d l0[i].s x),(.slice r3.b r3.o.length r3.c)]) AL jk (by kernel_rfl)) ?_)))))))))))))))))))
  have P7:=SA w hG hK xI (d_ (aD ob) 0) z4 (aD z3) b0.length nb [oI z8 118 [v8 ((lf ls kk).op),vI (lf ls kk).d.vars,vN ((lf ls kk).d.start.toNat),(.slice (lk ks kk).k.nb ((lf ls kk).d.next.length) ((lk ks kk).k.nc)),(.slice (lk ks kk).k.fb ((lf ls kk).d.aV.length) ((lk ks kk).k.fc)),(.slice (lk ks kk).b ((lf ls kk).fo.length) ((lk ks kk).c)),.bool (lf ls kk).la],oI z6 169 [vI l0[i].k,vN (l0[i].s),(.slice l0[i].r.b l0[i].r.o.length l0[i].r.c)],aq (aD z3) b0.length 3 1 (bU nb),oI z2 122 [nS,nS],oI z1 122 [(.slice sb b0.length sc),(.slice tb l0.length tc)]] cb cc l p3 ⟨(kk:Int),e7 (lf ls kk).d l0[i].s x,r3⟩ Iz (.inr ⟨kk,F,nu,vo,WD⟩) Dz (O:=[oI z8 118 [v8 ((lf ls kk).op),vI (lf ls kk).d.vars,vN ((lf ls kk).d.start.toNat),(.slice (lk ks kk).k.nb ((lf ls kk).d.next.length) ((lk ks kk).k.nc)),(.slice (lk ks kk).k.fb ((lf ls kk).d.aV.length) ((lk ks kk).k.fc)),(.slice (lk ks kk).b ((lf ls kk).fo.length) ((lk ks kk).c)),.bool (lf ls kk).la],oI z6 169 [vI l0[i].k,vN (l0[i].s),(.slice l0[i].r.b l0[i].r.o.length l0[i].r.c)],oI z4 122 [(.slice (aD z3) nb.length b0.length),(.slice cb l.length cc)],aq cb cc 169 3 (du l),aq (aD z3) b0.length 3 1 (bU nb),oI z2 122 [nS,nS],oI z1 122 [(.slice sb b0.length sc),(.slice tb l0.length tc)]]) (by exact Sub.eQ [oI z8 118 [v8 ((lf ls kk).op),vI (lf ls kk).d.vars,vN ((lf ls kk).d.start.toNat),(.slice (lk ks kk).k.nb ((lf ls kk).d.next.length) ((lk ks kk).k.nc)),(.slice (lk ks kk).k.fb ((lf ls kk).d.aV.length) ((lk ks kk).k.fc)),(.slice (lk ks kk).b ((lf ls kk).fo.length) ((lk ks kk).c)),.bool (lf ls kk).la],oI z6 169 [vI l0[i].k,vN (l0[i].s),(.slice l0[i].r.b l0[i].r.o.length l0[i].r.c)]] _ (.eQ [oI z8 118 [v8 ((lf ls kk).op),vI (lf ls kk).d.vars,vN ((lf ls kk).d.start.toNat),(.slice (lk ks kk).k.nb ((lf ls kk).d.next.length) ((lk ks kk).k.nc)),(.slice (lk ks kk).k.fb ((lf ls kk).d.aV.length) ((lk ks kk).k.fc)),(.slice (lk ks kk).b ((lf ls kk).fo.length) ((lk ks kk).c)),.bool (lf ls kk).la],oI z6 169 [vI l0[i].k,vN (l0[i].s),(.slice l0[i].r.b l0[i].r.o.length l0[i].r.c)]] _ (.k (.k (.k (.k (.k .z)))))))
  refine ao F (bm ED P7 F ?_)
  clear P7
  rintro vr O' ⟨CF,CG,l4,rfl,rfl,SC,SD⟩
  refine ae (ai (ad (bj iw F bK F F) (ad (bj cS F dy F F) (ad (bn 2 eu F F F F) (ah F (ad (dZ (i:=(e7 (lf ls kk).d l0[i].s x)) eu fw F F (aJ (ho.dk _ nu).aV) (by rw[(hG.j4 nu).fin];exact vo) (by rw[ar,(hG.j4 nu).fin];exact vo)) (ad (c_ Bh F F (aJ (ho.dk _ nu).aV) (oV (hG.j4 nu) vo)) (ae (T.cond F (fun hc=>?_) (fun hc=>?_))))))))))
  ·have xJ:dD (lf ls kk).d (e7 (lf ls kk).d l0[i].s x)=true:=hc
   refine be (ah F (ad (bj lq F bl F F) (ad (bT (bn 3 dS F F F F) (v':=vN kk) (by show Value.int _ _=_;rw[zJ])) (ah F ?_))))
   have CK:=(qG.frame ((EE w ob lb lc cv fv ls ks ho vs hG hK xI z4 (aD z3) b0.length b0.length nb ZN (2*ls.length)).2 kk r3 nu (by omega) (WD.mono (Nat.le_succ _))) [oI z8 118 [v8 ((lf ls kk).op),vI (lf ls kk).d.vars,vN ((lf ls kk).d.start.toNat),(.slice (lk ks kk).k.nb ((lf ls kk).d.next.length) ((lk ks kk).k.nc)),(.slice (lk ks kk).k.fb ((lf ls kk).d.aV.length) ((lk ks kk).k.fc)),(.slice (lk ks kk).b ((lf ls kk).fo.length) ((lk ks kk).c)),.bool (lf ls kk).la],oI z6 169 [vI l0[i].k,vN (l0[i].s),(.slice l0[i].r.b l0[i].r.o.length l0[i].r.c)],oI z2 122 [nS,nS],oI z1 122 [(.slice sb b0.length sc),(.slice tb l0.length tc)]] (O:=[oI z4 122 [(.slice (aD z3) nb.length b0.length),(.slice CF l4.length CG)],aq CF CG 169 3 (du l4),oI z8 118 [v8 ((lf ls kk).op),vI (lf ls kk).d.vars,vN ((lf ls kk).d.start.toNat),(.slice (lk ks kk).k.nb ((lf ls kk).d.next.length) ((lk ks kk).k.nc)),(.slice (lk ks kk).k.fb ((lf ls kk).d.aV.length) ((lk ks kk).k.fc)),(.slice (lk ks kk).b ((lf ls kk).fo.length) ((lk ks kk).c)),.bool (lf ls kk).la],oI z6 169 [vI l0[i].k,vN (l0[i].s),(.slice l0[i].r.b l0[i].r.o.length l0[i].r.c)],aq (aD z3) b0.length 3 1 (bU nb),oI z2 122 [nS,nS],oI z1 122 [(.slice sb b0.length sc),(.slice tb l0.length tc)]]) CF CG l4 p3 SD Dz (by exact Sub.k (.k (.eQ [oI z8 118 [v8 ((lf ls kk).op),vI (lf ls kk).d.vars,vN ((lf ls kk).d.start.toNat),(.slice (lk ks kk).k.nb ((lf ls kk).d.next.length) ((lk ks kk).k.nc)),(.slice (lk ks kk).k.fb ((lf ls kk).d.aV.length) ((lk ks kk).k.fc)),(.slice (lk ks kk).b ((lf ls kk).fo.length) ((lk ks kk).c)),.bool (lf ls kk).la],oI z6 169 [vI l0[i].k,vN (l0[i].s),(.slice l0[i].r.b l0[i].r.o.length l0[i].r.c)]] _ (.k (.k (.k (.k .z))))))))
   refine ao F (bm AM CK F ?_)
   clear CK
   rintro vr O' ⟨ZQ,ZR,l5,p5,rfl,rfl,hm5,hS5,Y4⟩
   refine ae (be (ad (dx (a:=i) (b:=1) F F (by omega)) (ah F (ae ?_))))
   have e9:jQ ls nb x l0[i].cf=⟨(kk:Int),e7 (lf ls kk).d l0[i].s x,r3.o⟩::gX ls (2*ls.length) nb kk r3.o:=by
    unfold jQ
    rw[ay (show¬l0[i].cf.k<0 from by show¬l0[i].k<0;omega),T8]
    simp only[CR.cf,zJ,Int.toNat_natCast]
    rw[aR xJ]
   exact⟨i+1,by omega,[oI z4 122 [(.slice (aD z3) nb.length b0.length),(.slice ZQ l5.length ZR)],aq ZQ ZR 169 3 (du l5),aq (aD z3) b0.length 3 1 (bU nb),oI z2 122 [nS,nS],oI z1 122 [(.slice sb b0.length sc),(.slice tb l0.length tc)]]++fZ 173 p5,(by exact Sub.k (.k (.k (.d (.d (.k (.k .rf))))))),ZQ,ZR,l5,p5,F,by omega,by rw[KQ,cY,←hm,e9,hm5,SC];rfl,hS5,(.of F)⟩
  have xJ: ¬dD (lf ls kk).d (e7 (lf ls kk).d l0[i].s x)=true:=by rw[hc];simp
  refine aE (be (ad (dx (a:=i) (b:=1) F F (by omega)) (ah F (ae ?_))))
  have e9:jQ ls nb x l0[i].cf=⟨(kk:Int),e7 (lf ls kk).d l0[i].s x,r3.o⟩::[]:=by
   unfold jQ
   rw[ay (show¬l0[i].cf.k<0 from by show¬l0[i].k<0;omega),T8]
   simp only[CR.cf,zJ,Int.toNat_natCast]
   rw[ay xJ]
  exact⟨i+1,by omega,[oI z4 122 [(.slice (aD z3) nb.length b0.length),(.slice CF l4.length CG)],aq CF CG 169 3 (du l4),aq (aD z3) b0.length 3 1 (bU nb),oI z2 122 [nS,nS],oI z1 122 [(.slice sb b0.length sc),(.slice tb l0.length tc)]]++fZ 173 p3,(by exact Sub.k (.k (.d (.d (.k (.k (.k .rf))))))),CF,CG,l4,p3,F,by omega,by rw[KQ,cY,←hm,e9,SC];rfl,SD,(.of F)⟩
 have abW: ¬i<l0.length:=by omega
 refine cG ?_
 refine ai (ad (ew 0 lW F kj F F F) (ao F (bV (vs:=[(.slice (aD z3) nb.length b0.length),(.slice cb l.length cc)]) 3 kj F F F F ?_)))
 refine ae (aN (az ?_))
 refine cL (i:=3) Tryz.results77 lW F kj F F F ?_
 have wj:i=l0.length:=by omega
 subst wj
 rw[List.take_length]at hm
 exact⟨[aq (aD z3) b0.length 3 1 (bU nb),aq cb cc 169 3 (du l)]++fZ 173 p,(by exact Sub.d (.eQ [aq cb cc 169 3 (du l)] _ (.k (.d (.d .rf))))),(aD z3),b0.length,b0.length,cb,cc,l,p,by rw[←BT];rfl,by rw[←BT],by rw[hm,←BT],hS⟩
end Go.Proofs.YtgdbfideeeegmaaGreatDoor

namespace Go.Proofs
open Go.Shelf
def Tryz.C6:Go.Shelf.Ren:=⟨fun|190=>111|125=>159|258=>158|128=>208|129=>209|302=>199|303=>200|304=>201|305=>202|306=>203|307=>204|308=>205|309=>206|310=>207|333=>225|329=>226|330=>227|334=>228|335=>229|336=>230|344=>254|n=>n,fun|31=>166|9=>9|3=>3|46=>101|0=>0|51=>254|53=>256|4=>4|183=>247|182=>246|131=>161|5=>5|218=>268|222=>272|228=>289|229=>290|n=>n,fun|n=>n⟩
theorem Tryz.Gi:Go.Proofs.Lays.n190 Tryz.prog Tryz.C6:= {
 mixed:=by kernel_rfl
 f125:=func159.trans (ax some (by kernel_rfl))
 f128:=func208.trans (ax some (by kernel_rfl))
 f129:=func209.trans (ax some (by kernel_rfl))
 f190:=func111.trans (ax some (by kernel_rfl))
 f258:=func158.trans (ax some (by kernel_rfl))
 f302:=func199.trans (ax some (by kernel_rfl))
 f303:=func200.trans (ax some (by kernel_rfl))
 f304:=func201.trans (ax some (by kernel_rfl))
 f305:=func202.trans (ax some (by kernel_rfl))
 f306:=func203.trans (ax some (by kernel_rfl))
 f307:=func204.trans (ax some (by kernel_rfl))
 f308:=func205.trans (ax some (by kernel_rfl))
 f309:=func206.trans (ax some (by kernel_rfl))
 f310:=func207.trans (ax some (by kernel_rfl))
 f329:=func226.trans (ax some (by kernel_rfl))
 f330:=func227.trans (ax some (by kernel_rfl))
 f333:=func225.trans (ax some (by kernel_rfl))
 f334:=func228.trans (ax some (by kernel_rfl))
 f335:=func229.trans (ax some (by kernel_rfl))
 f336:=func230.trans (ax some (by kernel_rfl))
 f344:=func254.trans (ax some (by kernel_rfl))
 t0:=underlying0
 a0:=Tryz.isAgg0
 z0:=Tryz.sizeOf0
 v0:=Tryz.zeroValue0
 t3:=underlying3
 a3:=Tryz.isAgg3
 z3:=Tryz.sizeOf3
 v3:=Tryz.zeroValue3
 t4:=underlying4
 a4:=Tryz.isAgg4
 z4:=Tryz.sizeOf4
 v4:=Tryz.zeroValue4
 t5:=underlying5
 a5:=Tryz.isAgg5
 z5:=Tryz.sizeOf5
 v5:=Tryz.zeroValue5
 t9:=underlying9
 a9:=Tryz.isAgg9
 z9:=Tryz.sizeOf9
 v9:=Tryz.zeroValue9
 t31:=underlying166
 a31:=Tryz.isAgg166
 z31:=Tryz.sizeOf166
 v31:=Tryz.zeroValue166
 t46:=underlying101
 a46:=Tryz.isAgg101
 z46:=Tryz.sizeOf101
 v46:=Tryz.zeroValue101
 t51:=underlying254
 a51:=Tryz.isAgg254
 z51:=Tryz.sizeOf254
 v51:=Tryz.zeroValue254
 t53:=underlying256
 a53:=Tryz.isAgg256
 z53:=Tryz.sizeOf256
 v53:=Tryz.zeroValue256
 t131:=underlying161
 a131:=Tryz.isAgg161
 z131:=Tryz.sizeOf161
 v131:=Tryz.zeroValue161
 t182:=underlying246
 a182:=Tryz.isAgg246
 z182:=Tryz.sizeOf246
 v182:=Tryz.zeroValue246
 t183:=underlying247
 a183:=Tryz.isAgg247
 z183:=Tryz.sizeOf247
 v183:=Tryz.zeroValue247
 t218:=underlying268
 a218:=Tryz.isAgg268
 z218:=Tryz.sizeOf268
 v218:=Tryz.zeroValue268
 t222:=underlying272
 a222:=Tryz.isAgg272
 z222:=Tryz.sizeOf272
 v222:=Tryz.zeroValue272
 t228:=underlying289
 a228:=Tryz.isAgg289
 z228:=Tryz.sizeOf289
 v228:=Tryz.zeroValue289
 t229:=underlying290
 a229:=Tryz.isAgg290
 z229:=Tryz.sizeOf290
 v229:=Tryz.zeroValue290}
open Go.RowKit Go.Sort Go.Lib in
theorem Tryz.slices_Sort_string (ll off cap:Nat) (ss:List (List UInt8)) (w:World) (hH:Holds encStr w ll off ss.toArray) (Tg:ll<w.heap.size) (sN:ss.length<4611686018427387904):
  Calls Tryz.prog 111 #[.slice (some ⟨ll,off,none⟩) ss.length cap] w fun e w'=>
   e=.returned (.tuple #[])∧ ∃n os,w'=grow (putRow encStr (Sort.ahead w n) ll off (ss.mergeSort fun x y=>decide (x≤y)).toArray) os:=Any.slices_Sort_string Tryz.Gi ll off cap ss w hH Tg sN
end Go.Proofs
namespace Go.Lx
open Go.RowKit Go.Sort Go.Proofs
def strs (l:List Key):List Value:=l.map str
theorem xN (l:List Key):(strs l).length=l.length:=ar _
theorem KT {l:List Key} {i:Nat} (h:i<l.length):(strs l)[i]? =some (str l[i]):=by unfold strs;rw[bq,ap h];rfl
theorem Inv.Ox {base w:World} {O:List Lx.Item} {i ll off cap:Nat} {T:TypeId} {zs ys:List Key} (hI:Inv base O w) (hO:O[i]? =some (aq (some ⟨ll,off,none⟩) cap T 1 (strs zs))) (hl:ys.length=zs.length) (n:Nat) (os:Array Obj):
  Inv base (O.set i (aq (some ⟨ll,off,none⟩) cap T 1 (strs ys))) (Go.Sort.grow (putRow encStr (Sort.ahead w n) ll off ys.toArray) os):=by
 obtain⟨_,full,hb,n3,Th,EM⟩:=hI.row hO
 have gn:ll<w.heap.size:=(Array.getElem?_eq_some_iff.1 hb).1
 have xY:(Go.Sort.grow (putRow encStr (Sort.ahead w n) ll off ys.toArray) os).heap=(w.heap.modify ll (onCells (putCells encStr off ys.toArray)))++os:=rfl
 refine hI.rU hO F F F ?_ (fun b X6 hk=>?_) ⟨F,putCells encStr off ys.toArray full,?_,?_,?_,fun j hj=>?_⟩ (fun k hk=>.inl hk) (by simp[aq])
 ·rw[xY];simp
 ·rw[xY,Array.getElem?_append_left (by simpa using X6),Array.getElem?_modify,ay (fun e=>hk (by simp[aq,e]))]
 ·rw[xY,Array.getElem?_append_left (by simpa using gn),Array.getElem?_modify,aR F,hb];rfl
 ·simp only[xN]at n3⊢;omega
 ·rw[rI];exact Th
 ·have se:j<ys.length:=by simpa[strs]using hj
  have Z6:zs.length≤cap*1:=by simpa[strs]using n3
  have Z7:off+cap*1≤full.size:=Th
  show(putCells encStr off ys.toArray full)[off+j]? =_
  rw[vx _ _ _ _ (by simpa using se) (by omega),show(strs ys)[j]=str ys[j] by simp[strs]]
  simp[se];rfl
theorem EW {base w:World} {O:List Lx.Item} {i ll off cap:Nat} {T:TypeId} {zs:List Key} (hI:Inv base O w) (hO:O[i]? =some (aq (some ⟨ll,off,none⟩) cap T 1 (strs zs))):Holds encStr w ll off zs.toArray∧ll<w.heap.size:=by
 obtain⟨_,full,hb,n3,Th,EM⟩:=hI.row hO
 refine⟨fun j hj=>?_,(Array.getElem?_eq_some_iff.1 hb).1⟩
 have se:j<zs.length:=by simpa using hj
 have h9:=EM j (by simpa[strs]using se)
 rw[show(strs zs)[j]'(by simpa[strs]using se)=str zs[j] by simp[strs]]at h9
 constructor
 ·simp only[World.cell?,hb]
  simp at h9
  simp[h9,se];rfl
 ·simp[World.frozen?,hb]
end Go.Lx
namespace Go.Proofs.YtgdbfideeeegmaaGreatDoor
open Go.Lx Go.RowKit Go.Proofs Go.Sort _root_.Go.Proofs.Tryz
theorem KS (base:World) (b:Option Addr) (c:Nat) (zs:List Key) (sN:zs.length<4611686018427387904):cd Tryz.prog base 111 [.slice b zs.length c] [aq b c 9 1 (strs zs)] (fun v O'=>v=.tuple #[]∧O'=[aq b c 9 1 (strs (zs.mergeSort wq))]):=fun w M hI=>by
 have hO:(([aq b c 9 1 (strs zs)]++M:List Lx.Item))[0]? =some (aq b c 9 1 (strs zs)):=rfl
 cases b with
 |none=>
  have hz:zs=[]:=by have h:=(hI.row hO).1;simpa[strs]using h
  subst hz
  refine(Any.slices_Sort_string_none Tryz.Gi none c w).mono ?_
  rintro e w' ⟨rfl,rfl⟩
  refine⟨_,_,F,?_,F,F⟩
  have h9:([]:List Key).mergeSort wq=[]:=by simp
  rw[h9];exact hI
 |some a=>
  obtain⟨ll,off,sp⟩:=a
  have yw:sp=none:=(hI.row hO).1
  subst yw
  obtain⟨hH,hb⟩:=EW hI hO
  refine(Tryz.slices_Sort_string ll off c zs w hH hb sN).mono ?_
  rintro e w' ⟨rfl,n,os,rfl⟩
  refine⟨_,_,F,?_,F,F⟩
  exact hI.Ox (ys:=zs.mergeSort wq) hO (List.length_mergeSort zs) n os
end Go.Proofs.YtgdbfideeeegmaaGreatDoor

namespace Go.Proofs.YtgdbfideeeegmaaGreatDoor
open Go.Lx Go.RowKit _root_.Go.Proofs.Tryz
theorem Oe (w:World) [dB Tryz.prog w] (y:CR):
  cA Tryz.prog 117 [(.agg #[vI y.k,vN y.s,(.slice y.r.b y.r.o.length y.r.c)])] w fun v N=>v=.bool (decide (y.cf.k<0)&&y.cf.o.isEmpty)∧N=[]:=by
 refine aG func117 F ntmps117 F ?_
 refine ai (ao F (dE (cs:=[vI y.k,vN y.s,(.slice y.r.b y.r.o.length y.r.c)]) F F (fun nP=>?_)))
 refine aj F (ae (ai (ad (bj lq F bl F F) (ad (bn 0 dS F F F F) (ad (cR F F) ?_)))))
 by_cases hk:y.k<0
 ·refine ad (aA (aK F) (av hk)) ?_
  refine aB F F (bj lq F AJ F F) (aB F F (bn 0 ju F F F F) (aB F F (cP ju F) (aB F F (bM F F) (ad (cg F F) (aj F (ae (aN (az ?_))))))))
  refine aT (.bool (decide ((y.r.o.length:Int)=0))) Tryz.results117 F ?_
  exact⟨[],Sub.z,ax Value.bool (by show _=(decide (y.k<0)&&y.r.o.isEmpty);rw[av hk,Bool.true_and];cases y.r.o<;>simp<;>omega),F⟩
 refine ad (aA (aK F) (ak hk)) (aS F F (aS F F (aS F F (aS F F (ad (b_ F F) (aj F (ae (aN (az ?_)))))))))
 refine aT (.bool false) Tryz.results117 F ?_
 exact⟨[],Sub.z,ax Value.bool (by show _=(decide (y.k<0)&&y.r.o.isEmpty);rw[ak hk,Bool.false_and]),F⟩
theorem Of (w:World) [dB Tryz.prog w] (ov:Value) (bh:List Nat) (bv:Value) (cb:Option Addr) (cc:Nat) (l:List CR) (hl:Sl w cb (du l)) (hK:l.length<137438953472):
  cA Tryz.prog 78 [ov,(.agg #[bv,(.slice cb l.length cc)])] w fun v N=>v=.bool (sf ⟨bh,l.map CR.cf⟩)∧N=[]:=by
 refine aG func78 F ntmps78 F ?_
 refine ai (ao F (dE (cs:=[bv,(.slice cb l.length cc)]) F F (fun z1=>?_)))
 refine aj F (ae (ai (ad (bj lW F qE F F) (ad (bn 0 nI F F F F) ?_))))
 have Cg:=fun(w1:World) (hI:Inv w [oI z1 122 [bv,(.slice cb l.length cc)]] w1)=>(haveI:=ey hI;(show cA _ _ _ _ (fun v N=>v=Value.bool (sf ⟨bh,l.map CR.cf⟩)∧N=[])from by
   have h9:=qD w1 cb cc l (hI.sl hl) (by omega) ((.func (.func 117) #[] #[])) (fun y=>decide (y.cf.k<0)&&y.cf.o.isEmpty) (fun y hy=>cQ (first:=[]) (args:=[(.agg #[vI y.k,vN y.s,(.slice y.r.b y.r.o.length y.r.c)])]) (gv:=[]) SJ (Oe w1 y))
   have e9:(l.any fun y=>decide (y.cf.k<0)&&y.cf.o.isEmpty)=sf ⟨bh,l.map CR.cf⟩:=by unfold sf;rw[List.any_map];rfl
   rw[e9]at h9
   exact h9))
 refine ao F (bm KF (aX Cg) F ?_)
 clear Cg
 rintro vr O' ⟨N,rfl,rfl,rfl⟩
 refine aj F (ae (aN (az ?_)))
 refine aT (.bool (sf ⟨bh,l.map CR.cf⟩)) Tryz.results78 F ?_
 exact⟨[],Sub.z,F,F⟩
theorem CL {α β:Type} {B:Nat} {f:α→List β}: ∀ {l:List α},(∀x∈l,(f x).length≤B)→(l.flatMap f).length≤B*l.length
 | [],_=>by simp
 |x::l,h=>by
  have h1:=h x (by simp);have h2:=CL (l:=l) fun y hy=>h y (by simp[hy])
  rw[List.flatMap_cons,aF,bL,Nat.mul_succ];omega
theorem WF (w:World) [dB Tryz.prog w] (ov:Value) (bb:Option Addr) (bc:Nat) (bh:List Nat) (SK:Sl w bb (bU bh)) (SH:bh.length≤12) (hbn: ∀n∈bh.map (fun y:Nat=>(y:Int)),my n) (cb:Option Addr) (cc:Nat) (l:List CR) (hl:Sl w cb (du l)) (hK:l.length<137438953472) {ls:List Lf} {vs:Nat} (hG:ji ls vs) (hg: ∀y∈l,jv ls y.cf) (Ni: ∀y∈l,y.r.o.length≤12) (CH: ∀y∈l,Sl w y.r.b (fA y.r.o)):
  cA Tryz.prog 76 [ov,(.agg #[(.slice bb bh.length bc),(.slice cb l.length cc)])] w fun v N=>v=str (St.key ⟨bh,l.map CR.cf⟩)∧N=[]:=by
 refine aG func76 F ntmps76 F ?_
 refine ai (ao F (dE (cs:=[(.slice bb bh.length bc),(.slice cb l.length cc)]) F F (fun z1=>?_)))
 refine aj F (ae (ai (aj F (ae (aO (ai (ad (bj lW F qE F F) (ad (bn 0 nI F F F F) (ad (cP nI F) (ah F (ae (aU (T.eY 9 1 ?_)))))))))))))
 refine dM (fun(i:Nat) ρ O=> ∃(kb:Option Addr) (kc:Nat),O=[aq kb kc 9 1 (strs ((l.take i).map fun y=>y.cf.key)),oI z1 122 [(.slice bb bh.length bc),(.slice cb l.length cc)]]∧i≤l.length∧dt [(1,(.agg #[(.slice bb bh.length bc),(.slice cb l.length cc)])),(3,(.pointer (aD z1))),(4,(str [])),(5,(.slice kb i kc)),(12,(.slice cb l.length cc)),(13,vI (l.length:Int)),(14,vN i)] ρ) (fun i=>l.length-i) 0 ?_ ?_
 ·exact⟨none,0,F,bs _,(.of F)⟩
 rintro i ρ O ⟨kb,kc,rfl,hi,hH⟩
 obtain⟨gP,rfl⟩:=hH.elim
 clear hH
 refine ai (ad (cR F F) (ae (aO (aP F (fun hc=>?_) (fun hc=>?_)))))
 ·have pY:i<l.length:=by omega
  have Yk:=hg _ (aL pY)
  refine aE (aO (aU (ai (ad (dU (i:=i) nI jk F F (aJ hl) pY (by rw[pj];omega)) (ad (eP (vs:=[vI l[i].k,vN (l[i].s),(.slice l[i].r.b l[i].r.o.length l[i].r.c)]) lq F jk F F (bw _) (aJ hl) (so pY)) (ao F (bu jk F (fun z2=>?_))))))))
  refine ao F (bV (vs:=[vI l[i].k,vN (l[i].s),(.slice l[i].r.b l[i].r.o.length l[i].r.c)]) 0 jk F F F F ?_)
  refine ae (be (ah F (ad (ew 0 lq F jk F F F) ?_)))
  have mX:=fun(w1:World) (hI:Inv w [oI z2 169 [vI l[i].k,vN (l[i].s),(.slice l[i].r.b l[i].r.o.length l[i].r.c)],aq kb kc 9 1 (strs ((l.take i).map fun y=>y.cf.key)),oI z1 122 [(.slice bb bh.length bc),(.slice cb l.length cc)]] w1)=>(haveI:=ey hI;Ez w1 l[i].k l[i].s l[i].r (hI.sl (CH _ (aL pY))) (Yk.num hG) (Yk.Sm hG))
  refine ao F (bm EA (aX mX) F ?_)
  clear mX
  rintro vr O' ⟨N,rfl,rfl,rfl⟩
  refine ao F (cO (v:=str l[i].cf.key) CM Ea F F F (fun z3=>?_))
  refine ao F (dh 2 CM CM Ea F F F F (by rw[xN,ar,cw];omega) (by decide) (Src.row (j:=0) F (by simp)) (by rfl) (by omega) (by decide) (by decide) (fun z4 IA=>?_))
  refine aj F (ae (be (ad (dx (a:=i) (b:=1) F F (by omega)) (ah F (ae ?_)))))
  exact⟨i+1,by omega,[aq z4 IA 9 1 ((strs ((l.take i).map fun y=>y.cf.key))++[str l[i].cf.key]),oI z1 122 [(.slice bb bh.length bc),(.slice cb l.length cc)]],(by exact Sub.d (.d (.k (.k .z)))),z4,IA,by rw[aH pY,bo];simp[strs],by omega,(.of F)⟩
 have O9: ¬i<l.length:=by omega
 refine cG ?_
 refine ai (ah F ?_)
 have qy:=(show cd _ _ _ _ _ (fun v O'=> ∃A',O'=A'++[oI z1 122 [(.slice bb bh.length bc),(.slice cb l.length cc)]]∧(v=Value.tuple #[]∧A'=[aq kb kc 9 1 (strs ((l.map fun y=>y.cf.key).mergeSort wq))]))from by
   have h9:=KS w kb kc ((l.take i).map fun y=>y.cf.key) (by rw[ar,cw];omega)
   rw[ar,cw,Nat.min_eq_left hi]at h9
   have e9:(l.map fun y=>y.cf.key).mergeSort wq=((l.take i).map fun y=>y.cf.key).mergeSort wq:=by rw[bt (show l.length≤i by omega)]
   rw[e9]
   exact h9.under (B:=[oI z1 122 [(.slice bb bh.length bc),(.slice cb l.length cc)]]) (by exact Sub.rf))
 refine ao F (bm SL qy F ?_)
 clear qy
 rintro vr O' ⟨A1,rfl,rfl,rfl⟩
 refine ae (ai (ad (bj lW F cU F F) (ad (bn 1 cI F F F F) ?_)))
 have Cu:=fun(w1:World) (hI:Inv w [aq kb kc 9 1 (strs ((l.map fun y=>y.cf.key).mergeSort wq)),oI z1 122 [(.slice bb bh.length bc),(.slice cb l.length cc)]] w1)=>(haveI:=ey hI;(show cA _ _ _ _ (fun v N=> ∃b' c',v=Value.slice b' (iK (bh.map fun y:Nat=>(y:Int))).length c'∧N=[aq b' c' 5 1 (di (iK (bh.map fun y:Nat=>(y:Int))))])from by
   have h9:=FQ w1 bb bc (bh.map fun y:Nat=>(y:Int)) (by rw[gk];exact hI.sl SK) hbn (by rw[ar];omega)
   rw[ar]at h9
   exact h9))
 refine ao F (bm ut (aX Cu) F ?_)
 clear Cu
 rintro vr O' ⟨N,rfl,jb,jc,rfl,rfl⟩
 
 refine aj F (ae (aO (ai (ah F (ad (cP CM F) (ah F (ae (aU ?_))))))))
 obtain⟨ks,n8⟩: ∃k,k=(l.map fun y=>y.cf.key).mergeSort wq:=⟨_,F⟩
 have nu:ks.length=l.length:=by rw[n8,List.length_mergeSort,ar]
 have wj:i=l.length:=by omega
 have My: ∀k∈ks,k.length≤400:=fun k hk=>by
  rw[n8]at hk
  obtain⟨y,hy,rfl⟩:=List.mem_map.1 ((List.mem_mergeSort).1 hk)
  have h1:=ph ((hg y hy).num hG);have h2:=Ni y hy
  have h3:y.cf.nums.length=y.r.o.length*2+2:=by show(sq y.r.o).length+1+1=_;rw[FW]
  have h4:y.cf.key=iK y.cf.nums:=rfl
  rw[h4];omega
 refine dv (O':=[aq jb jc 5 1 (di (iK (bh.map fun y:Nat=>(y:Int)))),aq kb kc 9 1 (strs ks),oI z1 122 [(.slice bb bh.length bc),(.slice cb l.length cc)]]) (by rw[n8];exact(by exact Sub.rf)) ?_
 refine dM (fun(j:Nat) ρ O=> ∃(tb:Option Addr) (tc:Nat),O=[aq tb tc 5 1 (di (iK (bh.map fun y:Nat=>(y:Int))++(ks.take j).flatMap (fun k=>124::k))),aq kb kc 9 1 (strs ks),oI z1 122 [(.slice bb bh.length bc),(.slice cb l.length cc)]]∧j≤i∧dt [(1,(.agg #[(.slice bb bh.length bc),(.slice cb l.length cc)])),(3,(.pointer (aD z1))),(4,(str [])),(5,(.slice kb i kc)),(8,(.slice tb ((iK (bh.map fun y:Nat=>(y:Int))++(ks.take j).flatMap (fun k=>124::k)).length) tc)),(29,(.slice kb i kc)),(30,vI (i:Int)),(31,vN j)] ρ) (fun j=>i-j) 0 ?_ ?_
 ·exact⟨jb,jc,by simp,bs _,⟨F,F,F,F,(show Value.slice jb (iK (bh.map fun y:Nat=>(y:Int))).length jc=_ by simp),F,F,F,trivial⟩⟩
 rintro j ρ O ⟨tb,tc,rfl,hj,hH⟩
 obtain⟨gP,rfl⟩:=hH.elim
 clear hH
 have qY:((ks.take j).flatMap (fun k=>(124:UInt8)::k)).length≤401*ks.length:=by
  have Vc:=CL (B:=401) (f:=fun k:Key=>(124:UInt8)::k) (l:=ks.take j) (fun k hk=>by have:=My k (List.mem_of_mem_take hk);simp;omega)
  have:=List.length_take_le j ks
  exact bE Vc (Nat.mul_le_mul_left _ (by rw[cw];omega))
 have Mx:=ph hbn
 rw[ar]at Mx
 refine ai (ad (cR F F) (ae (aO (aP F (fun hc=>?_) (fun hc=>?_)))))
 ·have P8:j<i:=by omega
  have QY:j<ks.length:=by omega
  have hkj:=My _ (aL QY)
  refine aE (aO (aU (ai (ad (dZ (i:=j) CM Ea F F (dX (mG 1 F)) P8 (by rw[xN];exact QY)) (ad (c_ vg F F (dX (mG 1 F)) (KT QY)) (aj F (ae (be (ah F (ao F (cO (v:=.int .u8 124) m_ dF F F F (fun z6=>?_))))))))))))
  refine ao F (dh 1 m_ m_ dF F F F F (by first|(simp;done)|(simp;omega)) (by decide) (Src.row (j:=0) F (by simp)) (by simp[fu]) (by simp only[aF];omega) (by decide) (by decide) (fun z7 B4=>?_))
  refine ah F (ao F (zh (l:=ks[j].length) (s:=ks[j]) 1 m_ vg dF F F F F (by first|(simp;done)|(simp;omega)) F (by simp only[aF];omega) (by decide) (by decide) (fun z9 pe=>?_)))
  refine aj F (ae (be (ad (dx (a:=j) (b:=1) F F (by omega)) (ah F (ae ?_)))))
  have e9:iK (bh.map fun y:Nat=>(y:Int))++(ks.take (j+1)).flatMap (fun k=>124::k)=iK (bh.map fun y:Nat=>(y:Int))++(ks.take j).flatMap (fun k=>124::k)++[124]++ks[j]:=by rw[aH QY,List.flatMap_append];simp
  exact⟨j+1,by omega,[aq z9 pe 5 1 (((di (iK (bh.map fun y:Nat=>(y:Int))++(ks.take j).flatMap (fun k=>124::k)))++[.int .u8 124])++di ks[j]),aq kb kc 9 1 (strs ks),oI z1 122 [(.slice bb bh.length bc),(.slice cb l.length cc)]],(by exact Sub.d (.k (.k (.k .z)))),z9,pe,by rw[e9];simp[di],by omega,⟨F,F,F,F,(ax (fun n9:Nat=>Value.slice z9 n9 pe) (by rw[e9];simp;omega)),F,F,F,trivial⟩⟩
 have WG: ¬j<i:=by omega
 refine cG ?_
 refine ai (ah F (ad (BG (l:=iK (bh.map fun y:Nat=>(y:Int))++(ks.take j).flatMap (fun k=>124::k)) m_ vg fF F (mG 0 F) F) (aj F (ae (aN (az ?_))))))
 refine aT (str (iK (bh.map fun y:Nat=>(y:Int))++(ks.take j).flatMap (fun k=>124::k))) Tryz.results76 F ?_
 exact⟨[],Sub.z,by rw[bt (show ks.length≤j by omega),n8];unfold St.key;rw[List.map_map];rfl,F⟩
end Go.Proofs.YtgdbfideeeegmaaGreatDoor

namespace Go.Proofs.YtgdbfideeeegmaaGreatDoor
open Go.Lx Go.RowKit _root_.Go.Proofs.Tryz
def nk (w:World) (cb:Nat) (vs B ob:Nat) (fv:Value) (t:Rx) (i:Nat):Prop:= ∀(lb:Option Addr) (lc:Nat) (ls:List Lf) (ks:List LK),ks.length=ls.length→ls.length+t.lv≤64→sr ls t→
 dA Tryz.prog w (.iface 163 (.agg #[])) 73 [(.pointer (aD ob)),vN i] ([dR ob (.cells (List.toArray [(d_ (aD cb) 0),(.slice lb ls.length lc),fv]) 114 (0,0)),aq lb lc 118 7 (dj ls ks)]++(ce 3 (eU ls ks)++gF 56 4 3 ls ks)) (fun v O'=> ∃tX tY pQ oN oO yt yu,v=.tuple #[(.slice oN (((aY vs t ls).fi).length) oO),(.slice yt (((aY vs t ls).la).length) yu)]∧O'=[dR ob (.cells (List.toArray [(d_ (aD cb) 0),(.slice tX (((aY vs t ls).ls).length) tY),fv]) 114 (0,0)),aq tX tY 118 7 (dj ((aY vs t ls).ls) pQ),aq oN oO 3 1 (bU ((aY vs t ls).fi)),aq yt yu 3 1 (bU ((aY vs t ls).la))]++(ce 3 (eU ((aY vs t ls).ls) pQ)++gF 56 4 3 ((aY vs t ls).ls) pQ)∧pQ.length=(aY vs t ls).ls.length∧okB vs t B) (¬okB vs t B)
theorem nk.frame {w:World} {cb vs B0 ob:Nat} {fv:Value} {t:Rx} {i:Nat} (h:nk w cb vs B0 ob fv t i) (B:List Lx.Item) {O:List Lx.Item} (lb:Option Addr) (lc:Nat) (ls:List Lf) (ks:List LK) (hk:ks.length=ls.length) (hl:ls.length+t.lv≤64) (Iy:sr ls t) (hs:Sub ([dR ob (.cells (List.toArray [(d_ (aD cb) 0),(.slice lb ls.length lc),fv]) 114 (0,0)),aq lb lc 118 7 (dj ls ks)]++B) O):
  dA Tryz.prog w (.iface 163 (.agg #[])) 73 [(.pointer (aD ob)),vN i] (O++(ce 3 (eU ls ks)++gF 56 4 3 ls ks)) (fun v O'=> ∃tX tY pQ oN oO yt yu,v=.tuple #[(.slice oN (((aY vs t ls).fi).length) oO),(.slice yt (((aY vs t ls).la).length) yu)]∧O'=([dR ob (.cells (List.toArray [(d_ (aD cb) 0),(.slice tX (((aY vs t ls).ls).length) tY),fv]) 114 (0,0)),aq tX tY 118 7 (dj ((aY vs t ls).ls) pQ),aq oN oO 3 1 (bU ((aY vs t ls).fi)),aq yt yu 3 1 (bU ((aY vs t ls).la))]++B)++(ce 3 (eU ((aY vs t ls).ls) pQ)++gF 56 4 3 ((aY vs t ls).ls) pQ)∧pQ.length=(aY vs t ls).ls.length∧okB vs t B0) (¬okB vs t B0):=by
 refine((h lb lc ls ks hk hl Iy).under (B:=B) (qH _ _ _ _ hs)).post ?_
 rintro v O' ⟨A',rfl,tX,tY,pQ,oN,oO,yt,yu,rfl,rfl,h1⟩
 exact⟨_,qI _ _ _,tX,tY,pQ,oN,oO,yt,yu,F,F,h1⟩
theorem mH (w:World) [dB Tryz.prog w] (cb:Nat) (eb:Option Addr) (en ec vs B:Nat) (eR:Sl w (aD cb) [.slice eb en ec,vI (vs:Int),vI (B:Int)]) (gq:vs≤6) (iN:1≤B) (hB:B≤4096) (e:List eE) (hE:Sl w eb (bX e)) (jU:en=e.length) (i:Nat) (ob:Nat) (fv:Value) (t:Rx) (x:eE) (hp:e[i]? =some x) (h4:x.op≠4) (h5:x.op≠5) (h9:x.op≠9) (TR:x.op≠10) (MG:t.lv=1) (WH: ∀ls,aY vs t ls=⟨ls++[⟨0,minOf vs (gj t),[],false⟩],[ls.length],[ls.length]⟩) (WI:okB vs t B=jY vs t B) (WJ: ∀(w1:World) [dB Tryz.prog w1],Inv w [] w1→dA Tryz.prog w1 (.iface 163 (.agg #[])) 72 [(d_ (aD cb) 0),vN i] [] (sI vs B t) (¬jY vs t B)) (lb:Option Addr) (lc:Nat) (ls:List Lf) (ks:List LK) (nu:ks.length=ls.length) (hl:ls.length+t.lv≤64) (Iy:sr ls t):
  dA Tryz.prog w (.iface 163 (.agg #[])) 73 [(.pointer (aD ob)),vN i] ([oI ob 114 [(d_ (aD cb) 0),(.slice lb ls.length lc),fv],aq lb lc 118 7 (dj ls ks)]++(ce 3 (eU ls ks)++gF 56 4 3 ls ks)) (fun v O'=> ∃tX tY pQ oN oO yt yu,v=.tuple #[(.slice oN (((aY vs t ls).fi).length) oO),(.slice yt (((aY vs t ls).la).length) yu)]∧O'=[oI ob 114 [(d_ (aD cb) 0),(.slice tX (((aY vs t ls).ls).length) tY),fv],aq tX tY 118 7 (dj ((aY vs t ls).ls) pQ),aq oN oO 3 1 (bU ((aY vs t ls).fi)),aq yt yu 3 1 (bU ((aY vs t ls).la))]++(ce 3 (eU ((aY vs t ls).ls) pQ)++gF 56 4 3 ((aY vs t ls).ls) pQ)∧pQ.length=(aY vs t ls).ls.length∧okB vs t B) (¬okB vs t B):=by
 refine dL func73 F ntmps73 F ?_
 obtain⟨hi,_⟩:=iF hp
 simp only[WH]
 rw[WI]
 refine ai (aj F (aj F (ae (ai (ah F (ad (bf F) (ad (bj gw F oC F F) (ad (bn 0 vT F F F F) (ad (bf F) (ad (ck k_ F g_ F F (aJ eR) (by first|omega|(simp;done)|(simp;omega)|(simp_all;done)|(simp_all;omega))) (ad (c_ dJ F F (aJ eR) F) (ah F (ad (dU (i:=i) dJ cK F F (aJ hE) (by omega) (by rw[cz];omega)) (ad (eP (vs:=x.cl) cp F cK F F (bw _) (aJ hE) (fH hp)) (ao F (bu cK F (fun z1=>?_)))))))))))))))))
 refine ao F (bV (vs:=x.cl) 0 cK F F F F ?_)
 refine ae (aO (ai (ad (bj cp F dF F F) (ad (bn 0 fF F F F F) (ae (aU (ai (ad (bM F F) (ad (aA (cq F) (ak (by omega))) (ae (a_ F (ai (ad (bM F F) (ad (aA (cq F) (ak (by omega))) ?_))))))))))))))
 refine ae (a_ F (ai (ad (bM F F) (ad (aA (cq F) (ak (by omega))) (ae (a_ F (ai (ad (bM F F) (ad (aA (cq F) (ak (by omega))) ?_)))))))))
 refine ae (a_ F ?_)
 refine T.ds [oI z1 72 x.cl,oI ob 114 [(d_ (aD cb) 0),(.slice lb ls.length lc),fv]] [(0,0),(1,0),(2,0),(3,0),(4,0),(5,0),(6,0),(7,0),(8,0),(9,0),(10,1),(11,0),(12,1),(13,1),(14,0),(15,0),(16,2)] (by exact Sub.k (.k .z)) ?_
 refine au F (aK F) (au F (aK F) (au F (bf F) (au F (bj gw F gy F F) (au F (bn 1 fx F F F F) (au F (aK F) (au F (bf F) (au F (bj gw F oC F F) (au F (bn 1 vT F F F F) (au F (aK F) ?_)))))))))
 have ox:=fun(w1:World) (hI:Inv w ([oI z1 72 x.cl,oI ob 114 [(d_ (aD cb) 0),(.slice lb ls.length lc),fv],aq lb lc 118 7 (dj ls ks)]++(ce 3 (eU ls ks)++gF 56 4 3 ls ks)) w1)=>(haveI:=ey hI;WJ w1 hI.mq)
 refine iq F F (eV pG (dA.pure ox) F (fun z _=>⟨F,z⟩) ?_)
 clear ox
 rintro vr O' ⟨N,rfl,M,kM,rfl,rfl,hM,hO⟩
 refine⟨by exact Sub.d (.k (.k .z)),?_⟩
 have eM:=gU hM hB
 refine au F (cF (cs:=[(.int .u8 0),(vI M.vars),(vI M.start),(.slice kM.nb M.next.length kM.nc),(.slice kM.fb M.aV.length kM.fc),nS,(.bool false)]) AO eZ (by kernel_rfl)) ?_
 refine cx F F (cH (m:=1) (parts:=[(0,_)]) (cs:=[(.int .u8 0),(vI M.vars),(vI M.start),(.slice kM.nb M.next.length kM.nc),(.slice kM.fb M.aV.length kM.fc),nS,(.bool false)]) fx eZ (by decide) (by kernel_rfl) F (fun z2=>⟨by exact Sub.d (.d (.k (.k .z))),?_⟩))
 refine cx F F (dh 4 fx fx eZ F F F F (by rw[dY nu]) (by decide) (Src.row (j:=0) F (by simp)) (by simp[fu]) (by omega) (by decide) (by decide) (fun z3 nU=>⟨by exact Sub.d (.d (.k (.k .z))),?_⟩))
 refine au F (bf F) (au F (bj gw F gy F F) ?_)
 refine cu F F (bV (vs:=[(.slice z3 (ls.length+1) nU)]) 3 gy F F F F ?_)
 refine cy ?_
 refine ai (ah F (ad (bf F) (ad (bj gw F gy F F) (ad (bn 3 fx F F F F) (ad (cP fx F) (ad (bT (fL F F (by omega)) (v':=vN ls.length) (ax (Value.int .i64) (by omega))) (aj F (ae (aO (T.eY 3 1 ?_))))))))))
 refine be (ah F (ao F (cO (v:=vN ls.length) cI bl F F F (fun z5=>?_))))
 refine ah F (ao F (cO (v:=vN ls.length) cI bl F F F (fun z6=>?_)))
 refine aj F (aj F (ae (aN (az ?_))))
 refine dc (.slice (aD z5) 1 1) (.slice (aD z6) 1 1) Tryz.results73 F F ?_
 exact⟨[oI ob 114 [(d_ (aD cb) 0),(.slice z3 ((ls++[(⟨0,minOf vs (gj t),[],false⟩:Lf)]).length) nU),fv],aq z3 nU 118 7 (dj (ls++[(⟨0,minOf vs (gj t),[],false⟩:Lf)]) (ks++[(⟨kM,none,0⟩:LK)])),aq (aD z5) 1 3 1 (bU [ls.length]),aq (aD z6) 1 3 1 (bU [ls.length])]++(ce 3 (eU (ls++[(⟨0,minOf vs (gj t),[],false⟩:Lf)]) (ks++[(⟨kM,none,0⟩:LK)]))++gF 56 4 3 (ls++[(⟨0,minOf vs (gj t),[],false⟩:Lf)]) (ks++[(⟨kM,none,0⟩:LK)])),by
   rw[su nu,sv,uz nu,qL nu,aF,←eM]
   exact qM [oI ob 114 [(d_ (aD cb) 0),(.slice z3 (ls.length+1) nU),fv],aq z3 nU 118 7 ((dj ls ks)++[(.int .u8 0),(vI M.vars),(vI M.start),(.slice kM.nb M.next.length kM.nc),(.slice kM.fb M.aV.length kM.fc),nS,(.bool false)]),aq (aD z5) 1 3 1 [vN ls.length],aq (aD z6) 1 3 1 [vN ls.length]] [aq (aD z6) 1 3 1 [vN ls.length],aq (aD z5) 1 3 1 [vN ls.length],aq none 0 3 1 [],aq (aD z2) 1 118 7 [(.int .u8 0),(vI M.vars),(vI M.start),(.slice kM.nb M.next.length kM.nc),(.slice kM.fb M.aV.length kM.fc),nS,(.bool false)],dI 56 4 3 M kM,oI z1 72 x.cl,oI ob 114 [(d_ (aD cb) 0),(.slice z3 (ls.length+1) nU),fv],aq z3 nU 118 7 ((dj ls ks)++[(.int .u8 0),(vI M.vars),(vI M.start),(.slice kM.nb M.next.length kM.nc),(.slice kM.fb M.aV.length kM.fc),nS,(.bool false)])] _ _ _ _ (by exact Sub.eQ [aq (aD z6) 1 3 1 [vN ls.length],aq (aD z5) 1 3 1 [vN ls.length],aq none 0 3 1 [],aq (aD z2) 1 118 7 [(.int .u8 0),(vI M.vars),(vI M.start),(.slice kM.nb M.next.length kM.nc),(.slice kM.fb M.aV.length kM.fc),nS,(.bool false)],dI 56 4 3 M kM,oI z1 72 x.cl] _ (.eQ [aq (aD z6) 1 3 1 [vN ls.length],aq (aD z5) 1 3 1 [vN ls.length],aq none 0 3 1 [],aq (aD z2) 1 118 7 [(.int .u8 0),(vI M.vars),(vI M.start),(.slice kM.nb M.next.length kM.nc),(.slice kM.fb M.aV.length kM.fc),nS,(.bool false)],dI 56 4 3 M kM,oI z1 72 x.cl] _ (.eQ [aq (aD z6) 1 3 1 [vN ls.length]] _ (.k (.k (.d (.k .z))))))),z3,nU,(ks++[(⟨kM,none,0⟩:LK)]),(aD z5),1,(aD z6),1,F,F,by simp[nu],hO⟩
theorem EH (w:World) [dB Tryz.prog w] (cb:Nat) (eb:Option Addr) (en ec vs B:Nat) (eR:Sl w (aD cb) [.slice eb en ec,vI (vs:Int),vI (B:Int)]) (gq:vs≤6) (iN:1≤B) (hB:B≤4096) (e:List eE) (hE:Sl w eb (bX e)) (jU:en=e.length) (i:Nat) (ob:Nat) (fv:Value) (a:Rx) (j:Nat) (hp:e[i]? =some ⟨9,0,0,(j:Int),0⟩) (WH: ∀ls,aY vs (Rx.ahead a) ls=⟨ls++[⟨9,minOf vs (jS (gj a) fun _=>true),[],false⟩],[ls.length],[ls.length]⟩) (WJ: ∀(w1:World) [dB Tryz.prog w1],Inv w [] w1→dA Tryz.prog w1 (.iface 163 (.agg #[])) 72 [(d_ (aD cb) 0),vN j] [] (sI vs B a) (¬jY vs a B)) (lb:Option Addr) (lc:Nat) (ls:List Lf) (ks:List LK) (nu:ks.length=ls.length) (hl:ls.length+(Rx.ahead a).lv≤64) (Iy:sr ls (Rx.ahead a)):
  dA Tryz.prog w (.iface 163 (.agg #[])) 73 [(.pointer (aD ob)),vN i] ([oI ob 114 [(d_ (aD cb) 0),(.slice lb ls.length lc),fv],aq lb lc 118 7 (dj ls ks)]++(ce 3 (eU ls ks)++gF 56 4 3 ls ks)) (fun v O'=> ∃tX tY pQ oN oO yt yu,v=.tuple #[(.slice oN (((aY vs (Rx.ahead a) ls).fi).length) oO),(.slice yt (((aY vs (Rx.ahead a) ls).la).length) yu)]∧O'=[oI ob 114 [(d_ (aD cb) 0),(.slice tX (((aY vs (Rx.ahead a) ls).ls).length) tY),fv],aq tX tY 118 7 (dj ((aY vs (Rx.ahead a) ls).ls) pQ),aq oN oO 3 1 (bU ((aY vs (Rx.ahead a) ls).fi)),aq yt yu 3 1 (bU ((aY vs (Rx.ahead a) ls).la))]++(ce 3 (eU ((aY vs (Rx.ahead a) ls).ls) pQ)++gF 56 4 3 ((aY vs (Rx.ahead a) ls).ls) pQ)∧pQ.length=(aY vs (Rx.ahead a) ls).ls.length∧okB vs (Rx.ahead a) B) (¬okB vs (Rx.ahead a) B):=by
 refine dL func73 F ntmps73 F ?_
 obtain⟨hi,_⟩:=iF hp
 simp only[WH]
 refine ai (aj F (aj F (ae (ai (ah F (ad (bf F) (ad (bj gw F oC F F) (ad (bn 0 vT F F F F) (ad (bf F) (ad (ck k_ F g_ F F (aJ eR) (by first|omega|(simp;done)|(simp;omega)|(simp_all;done)|(simp_all;omega))) (ad (c_ dJ F F (aJ eR) F) (ah F (ad (dU (i:=i) dJ cK F F (aJ hE) (by omega) (by rw[cz];omega)) (ad (eP (vs:=[v8 9,v8 0,v8 0,vN j,vI 0]) cp F cK F F (bw _) (aJ hE) (fH hp)) (ao F (bu cK F (fun z1=>?_)))))))))))))))))
 refine ao F (bV (vs:=[v8 9,v8 0,v8 0,vN j,vI 0]) 0 cK F F F F ?_)
 refine ae (aO (ai (ad (bj cp F dF F F) (ad (bn 0 fF F F F F) (ae (aU (ai (ad (bM F F) (ad (aA (cq F) (ak (by decide))) (ae (a_ F (ai (ad (bM F F) (ad (aA (cq F) (ak (by decide))) ?_))))))))))))))
 refine ae (a_ F (ai (ad (bM F F) (ad (aA (cq F) (av (by decide))) (ae ?_)))))
 refine bW F ?_
 refine T.ds [oI z1 72 [v8 9,v8 0,v8 0,vN j,vI 0],oI ob 114 [(d_ (aD cb) 0),(.slice lb ls.length lc),fv]] [(0,0),(1,0),(2,0),(3,0),(4,0),(5,0),(6,0),(7,0),(8,0),(9,0),(10,0),(11,0),(12,0),(13,0),(14,0),(15,0),(16,0),(18,0),(19,0),(20,0),(21,0),(17,1),(22,1),(23,1),(24,0),(25,1),(26,1),(27,0),(28,0),(29,2)] (by exact Sub.k (.k .z)) ?_
 refine au F (aK F) (au F (aK F) (au F (bf F) (au F (bj gw F gy F F) (au F (bn 1 fx F F F F) (au F (bj cp F dF F F) (au F (bn 0 fF F F F F) (au F (aK F) (au F (bf F) (au F (bj gw F oC F F) (au F (bn 1 vT F F F F) (au F (aK F) (au F (bf F) (au F (bj gw F oC F F) (au F (bn 1 vT F F F F) (au F (bj cp F bl F F) (au F (bn 0 dS F F F F) (au F (aK F) (au F (bf F) (au F (bj gw F oC F F) (au F (bn 1 vT F F F F) ?_))))))))))))))))))))
 have CK:=fun(w1:World) (hI:Inv w ([oI z1 72 [v8 9,v8 0,v8 0,vN j,vI 0],oI ob 114 [(d_ (aD cb) 0),(.slice lb ls.length lc),fv],aq lb lc 118 7 (dj ls ks)]++(ce 3 (eU ls ks)++gF 56 4 3 ls ks)) w1)=>(haveI:=ey hI;WJ w1 hI.mq)
 refine iq F F (eV pG (dA.pure CK) F (fun z _=>⟨F,fun h9=>z h9.1⟩) ?_)
 clear CK
 rintro vr O' ⟨N,rfl,MA,kA,rfl,rfl,qB,hO⟩
 refine⟨by exact Sub.d (.k (.k .z)),?_⟩
 have zE:=gU qB hB
 have P9:=fun(w1:World) (hI:Inv w ([dI 56 4 3 MA kA,oI z1 72 [v8 9,v8 0,v8 0,vN j,vI 0],oI ob 114 [(d_ (aD cb) 0),(.slice lb ls.length lc),fv],aq lb lc 118 7 (dj ls ks)]++(ce 3 (eU ls ks)++gF 56 4 3 ls ks)) w1)=>(haveI:=ey hI;MN w1 cb eb en ec vs B (hI.sl eR) gq)
 refine cx F F (bm Ey (aX P9) F ?_)
 clear P9
 rintro vr O' ⟨N,rfl,kS,rfl,rfl⟩
 refine⟨by exact Sub.d (.d (.k (.k .z))),?_⟩
 have P_:=fun(w1:World) (hI:Inv w ([dI 56 4 3 (fD (vs:Int) true) kS,dI 56 4 3 MA kA,oI z1 72 [v8 9,v8 0,v8 0,vN j,vI 0],oI ob 114 [(d_ (aD cb) 0),(.slice lb ls.length lc),fv],aq lb lc 118 7 (dj ls ks)]++(ce 3 (eU ls ks)++gF 56 4 3 ls ks)) w1)=>(haveI:=ey hI;RY w1 cb eb en ec vs B (hI.sl eR) gq iN hB MA kA (hI.at (k:=kA) (mG 1 F)) qB.valid qB.vars (fD (vs:Int) true) kS (hI.at (k:=kS) (mG 0 F)) (fG gq).valid (by rw[qB.vars];rfl))
 refine iq F F (eV Eu (dA.pure P_) F (fun z _=>⟨F,fun h9=>z (by rw[zE];exact h9.2)⟩) ?_)
 clear P_
 rintro vr O' ⟨N,rfl,M,kM,rfl,rfl,Sc,Sd⟩
 refine⟨by exact Sub.d (.d (.d (.k (.k .z)))),?_⟩
 have eM:M=minOf vs (jS (gj a) fun _=>true):=gU (Sc.to fun w9 h9=>nh (fun u hu=>qB.iI u hu) (fun u hu=>(fG gq).iI u hu) h9) hB
 refine au F (cF (cs:=[v8 9,(vI M.vars),(vI M.start),(.slice kM.nb M.next.length kM.nc),(.slice kM.fb M.aV.length kM.fc),nS,(.bool false)]) AO eZ (by kernel_rfl)) ?_
 refine cx F F (cH (m:=1) (parts:=[(0,_)]) (cs:=[v8 9,(vI M.vars),(vI M.start),(.slice kM.nb M.next.length kM.nc),(.slice kM.fb M.aV.length kM.fc),nS,(.bool false)]) fx eZ (by decide) (by kernel_rfl) F (fun z2=>⟨by exact Sub.d (.d (.d (.d (.k (.k .z))))),?_⟩))
 refine cx F F (dh 6 fx fx eZ F F F F (by rw[dY nu]) (by decide) (Src.row (j:=0) F (by simp)) (by simp[fu]) (by omega) (by decide) (by decide) (fun z3 nU=>⟨by exact Sub.d (.d (.d (.d (.k (.k .z))))),?_⟩))
 refine au F (bf F) (au F (bj gw F gy F F) ?_)
 refine cu F F (bV (vs:=[(.slice z3 (ls.length+1) nU)]) 5 gy F F F F ?_)
 refine cy ?_
 refine ai (ah F (ad (bf F) (ad (bj gw F gy F F) (ad (bn 5 fx F F F F) (ad (cP fx F) (ad (bT (fL F F (by omega)) (v':=vN ls.length) (ax (Value.int .i64) (by omega))) (aj F (ae (aO (T.eY 3 1 ?_))))))))))
 refine be (ah F (ao F (cO (v:=vN ls.length) cI bl F F F (fun z5=>?_))))
 refine ah F (ao F (cO (v:=vN ls.length) cI bl F F F (fun z6=>?_)))
 refine aj F (aj F (ae (aN (az ?_))))
 refine dc (.slice (aD z5) 1 1) (.slice (aD z6) 1 1) Tryz.results73 F F ?_
 exact⟨[oI ob 114 [(d_ (aD cb) 0),(.slice z3 ((ls++[(⟨9,minOf vs (jS (gj a) fun _=>true),[],false⟩:Lf)]).length) nU),fv],aq z3 nU 118 7 (dj (ls++[(⟨9,minOf vs (jS (gj a) fun _=>true),[],false⟩:Lf)]) (ks++[(⟨kM,none,0⟩:LK)])),aq (aD z5) 1 3 1 (bU [ls.length]),aq (aD z6) 1 3 1 (bU [ls.length])]++(ce 3 (eU (ls++[(⟨9,minOf vs (jS (gj a) fun _=>true),[],false⟩:Lf)]) (ks++[(⟨kM,none,0⟩:LK)]))++gF 56 4 3 (ls++[(⟨9,minOf vs (jS (gj a) fun _=>true),[],false⟩:Lf)]) (ks++[(⟨kM,none,0⟩:LK)])),by
   rw[su nu,sv,uz nu,qL nu,aF,←eM]
   exact qM [oI ob 114 [(d_ (aD cb) 0),(.slice z3 (ls.length+1) nU),fv],aq z3 nU 118 7 ((dj ls ks)++[v8 9,(vI M.vars),(vI M.start),(.slice kM.nb M.next.length kM.nc),(.slice kM.fb M.aV.length kM.fc),nS,(.bool false)]),aq (aD z5) 1 3 1 [vN ls.length],aq (aD z6) 1 3 1 [vN ls.length]] [aq (aD z6) 1 3 1 [vN ls.length],aq (aD z5) 1 3 1 [vN ls.length],aq none 0 3 1 [],aq (aD z2) 1 118 7 [v8 9,(vI M.vars),(vI M.start),(.slice kM.nb M.next.length kM.nc),(.slice kM.fb M.aV.length kM.fc),nS,(.bool false)],dI 56 4 3 M kM,dI 56 4 3 (fD (vs:Int) true) kS,dI 56 4 3 MA kA,oI z1 72 [v8 9,v8 0,v8 0,vN j,vI 0],oI ob 114 [(d_ (aD cb) 0),(.slice z3 (ls.length+1) nU),fv],aq z3 nU 118 7 ((dj ls ks)++[v8 9,(vI M.vars),(vI M.start),(.slice kM.nb M.next.length kM.nc),(.slice kM.fb M.aV.length kM.fc),nS,(.bool false)])] _ _ _ _ (by exact Sub.eQ [aq (aD z6) 1 3 1 [vN ls.length],aq (aD z5) 1 3 1 [vN ls.length],aq none 0 3 1 [],aq (aD z2) 1 118 7 [v8 9,(vI M.vars),(vI M.start),(.slice kM.nb M.next.length kM.nc),(.slice kM.fb M.aV.length kM.fc),nS,(.bool false)],dI 56 4 3 M kM,dI 56 4 3 (fD (vs:Int) true) kS,dI 56 4 3 MA kA,oI z1 72 [v8 9,v8 0,v8 0,vN j,vI 0]] _ (.eQ [aq (aD z6) 1 3 1 [vN ls.length],aq (aD z5) 1 3 1 [vN ls.length],aq none 0 3 1 [],aq (aD z2) 1 118 7 [v8 9,(vI M.vars),(vI M.start),(.slice kM.nb M.next.length kM.nc),(.slice kM.fb M.aV.length kM.fc),nS,(.bool false)],dI 56 4 3 M kM,dI 56 4 3 (fD (vs:Int) true) kS,dI 56 4 3 MA kA,oI z1 72 [v8 9,v8 0,v8 0,vN j,vI 0]] _ (.eQ [aq (aD z6) 1 3 1 [vN ls.length]] _ (.k (.k (.d (.k .z))))))),z3,nU,(ks++[(⟨kM,none,0⟩:LK)]),(aD z5),1,(aD z6),1,F,F,by simp[nu],⟨hO,by rw[←zE];exact Sd⟩⟩
theorem KU (w:World) [dB Tryz.prog w] (cb:Nat) (eb:Option Addr) (en ec vs B:Nat) (eR:Sl w (aD cb) [.slice eb en ec,vI (vs:Int),vI (B:Int)]) (gq:vs≤6) (iN:1≤B) (hB:B≤4096) (e:List eE) (hE:Sl w eb (bX e)) (jU:en=e.length) (i:Nat) (ob:Nat) (fv:Value) (a b:Rx) (j k:Nat) (hp:e[i]? =some ⟨4,0,0,(j:Int),(k:Int)⟩) (hA:nk w cb vs B ob fv a j) (hB:nk w cb vs B ob fv b k) (lb:Option Addr) (lc:Nat) (ls:List Lf) (ks:List LK) (nu:ks.length=ls.length) (hl:ls.length+(Rx.je a b).lv≤64) (Iy:sr ls (Rx.je a b)):
  dA Tryz.prog w (.iface 163 (.agg #[])) 73 [(.pointer (aD ob)),vN i] ([oI ob 114 [(d_ (aD cb) 0),(.slice lb ls.length lc),fv],aq lb lc 118 7 (dj ls ks)]++(ce 3 (eU ls ks)++gF 56 4 3 ls ks)) (fun v O'=> ∃tX tY pQ oN oO yt yu,v=.tuple #[(.slice oN (((aY vs (Rx.je a b) ls).fi).length) oO),(.slice yt (((aY vs (Rx.je a b) ls).la).length) yu)]∧O'=[oI ob 114 [(d_ (aD cb) 0),(.slice tX (((aY vs (Rx.je a b) ls).ls).length) tY),fv],aq tX tY 118 7 (dj ((aY vs (Rx.je a b) ls).ls) pQ),aq oN oO 3 1 (bU ((aY vs (Rx.je a b) ls).fi)),aq yt yu 3 1 (bU ((aY vs (Rx.je a b) ls).la))]++(ce 3 (eU ((aY vs (Rx.je a b) ls).ls) pQ)++gF 56 4 3 ((aY vs (Rx.je a b) ls).ls) pQ)∧pQ.length=(aY vs (Rx.je a b) ls).ls.length∧okB vs (Rx.je a b) B) (¬okB vs (Rx.je a b) B):=by
 refine dL func73 F ntmps73 F ?_
 obtain⟨hi,_⟩:=iF hp
 have SM:=gl vs a ls
 have ZS:=gl vs b (aY vs a ls).ls
 have WK:=e_ vs a ls
 have WL:=e_ vs b (aY vs a ls).ls
 have ZT:a.lv+b.lv≤64:=by simp only[Rx.lv]at hl;omega
 simp only[Rx.lv]at hl
 refine ai (aj F (aj F (ae (ai (ah F (ad (bf F) (ad (bj gw F oC F F) (ad (bn 0 vT F F F F) (ad (bf F) (ad (ck k_ F g_ F F (aJ eR) (by first|omega|(simp;done)|(simp;omega)|(simp_all;done)|(simp_all;omega))) (ad (c_ dJ F F (aJ eR) F) (ah F (ad (dU (i:=i) dJ cK F F (aJ hE) (by omega) (by rw[cz];omega)) (ad (eP (vs:=[v8 4,v8 0,v8 0,vN j,vN k]) cp F cK F F (bw _) (aJ hE) (fH hp)) (ao F (bu cK F (fun z1=>?_)))))))))))))))))
 refine ao F (bV (vs:=[v8 4,v8 0,v8 0,vN j,vN k]) 0 cK F F F F ?_)
 refine ae (aO (ai (ad (bj cp F dF F F) (ad (bn 0 fF F F F F) (ae (aU (ai (ad (bM F F) (ad (aA (cq F) (av (by decide))) (ae ?_))))))))))
 refine bW F ?_
 refine ai (ah F (ad (bj cp F bl F F) (ad (bn 0 dS F F F F) ?_)))
 let eJ:Lx.Item:=oI z1 72 [v8 4,v8 0,v8 0,vN j,vN k]
 have Ko:=(hA.frame [eJ] (O:=[eJ,oI ob 114 [(d_ (aD cb) 0),(.slice lb ls.length lc),fv],aq lb lc 118 7 (dj ls ks)]) lb lc ls ks nu (by first|omega|(rw[e_];omega)) (sr.left Iy) (by exact Sub.eQ [eJ] _ (.eQ [eJ] _ (.k .z))))
 refine eC F (eV CN Ko F (fun z _=>⟨F,fun h9=>z h9.1⟩) ?_)
 clear Ko
 rintro vr O' ⟨SN,SO,WM,MH,MI,Qa,Qb,rfl,rfl,ZU,HO⟩
 refine ah F (ad (bG (vs:=_) F F) (ad (bG (vs:=_) F F) (aj F (aj F (ae (ai (ah F (ad (bj cp F bl F F) (ad (bn 4 dS F F F F) ?_)))))))))
 let gG:Lx.Item:=aq MH MI 3 1 (bU ((aY vs a ls).fi))
 let k8:Lx.Item:=aq Qa Qb 3 1 (bU ((aY vs a ls).la))
 have Ky:=(hB.frame [gG,k8,eJ] (O:=[oI ob 114 [(d_ (aD cb) 0),(.slice SN (((aY vs a ls).ls).length) SO),fv],aq SN SO 118 7 (dj ((aY vs a ls).ls) WM),gG,k8,eJ]) SN SO ((aY vs a ls).ls) WM ZU (by first|omega|(rw[e_];omega)) (sr.right Iy) (by exact Sub.rf))
 refine eC F (eV CN Ky F (fun z _=>⟨F,fun h9=>z h9.2⟩) ?_)
 clear Ky
 rintro vr O' ⟨zK,zL,Og,WN,WO,Qc,Qd,rfl,rfl,NT,HP⟩
 refine ah F (ad (bG (vs:=_) F F) (ad (bG (vs:=_) F F) (aj F (aj F (ae (aO (ai (ah F (ad (cP cI F) (ah F (ae (aU ?_))))))))))))
 let ul:Lx.Item:=aq WN WO 3 1 (bU ((aY vs b ((aY vs a ls).ls)).fi))
 let k7:Lx.Item:=aq Qc Qd 3 1 (bU ((aY vs b ((aY vs a ls).ls)).la))
 refine dv (O':=[oI ob 114 [(d_ (aD cb) 0),(.slice zK (((aY vs b ((aY vs a ls).ls)).ls).length) zL),fv],aq zK zL 118 7 (dj ((aY vs b ((aY vs a ls).ls)).ls) Og),ul,k7,gG,k8,eJ]++(ce 3 (eU ((aY vs b ((aY vs a ls).ls)).ls) Og)++gF 56 4 3 ((aY vs b ((aY vs a ls).ls)).ls) Og)) (by exact Sub.rf) ?_
 refine dM (fun(i9:Nat) ρ O=> ∃(l3:List Lf) (k3:List LK),O=([oI ob 114 [(d_ (aD cb) 0),(.slice zK l3.length zL),fv],aq zK zL 118 7 (dj l3 k3),ul,k7,gG,k8,eJ]++(ce 3 (eU l3 k3)++gF 56 4 3 l3 k3))∧i9≤(aY vs a ls).la.length∧l3=l6 ((aY vs b ((aY vs a ls).ls)).ls) ((aY vs a ls).la.take i9) ((aY vs b ((aY vs a ls).ls)).fi)∧k3.length=l3.length∧dt [(0,(.pointer (aD ob))),(1,vN i),(4,nS),(5,nS),(6,(.pointer (aD z1))),(7,(.slice MH ((aY vs a ls).fi.length) MI)),(8,(.slice Qa ((aY vs a ls).la.length) Qb)),(9,(.slice WN ((aY vs b ((aY vs a ls).ls)).fi.length) WO)),(10,(.slice Qc ((aY vs b ((aY vs a ls).ls)).la.length) Qd)),(46,.bool true),(62,(.slice Qa ((aY vs a ls).la.length) Qb)),(63,vI ((aY vs a ls).la.length:Int)),(64,vN i9)] ρ) (fun i9=>(aY vs a ls).la.length-i9) 0 ?_ ?_
 ·exact⟨(aY vs b ((aY vs a ls).ls)).ls,Og,F,bs _,F,NT,(.of F)⟩
 rintro i9 ρ O ⟨l3,k3,rfl,MW,MF,tq,hH⟩
 obtain⟨gP,rfl⟩:=hH.elim
 clear hH
 refine ai (ad (cR F F) (ae (aO (aP F (fun hc=>?_) (fun hc=>?_)))))
 ·have CO:i9<(aY vs a ls).la.length:=by omega
  obtain⟨kk,EI⟩: ∃k,k=(aY vs a ls).la[i9]:=⟨_,F⟩
  have hn3:l3.length=(aY vs b ((aY vs a ls).ls)).ls.length:=by rw[MF,uA]
  have zJ:kk<l3.length:=by
   have:=(SM.2.1 _ (aL CO)).2
   rw[hn3,WL,WK];rw[EI];omega
  have adX:(lf l3 kk).fo.length≤100000:=by
   subst MF
   exact EJ Iy (by rw[cw];have:=SM.2.2.2;omega) zJ
  refine aE (aO (aU (ai (ad (dZ (i:=i9) cI bl F F (dX (mG 5 F)) CO (by rw[ar];exact CO)) (ad (c_ dS F F (dX (mG 5 F)) (show(bU (aY vs a ls).la)[i9]? =some (vN kk) by rw[EI];exact ij CO)) (aj F (ae ?_)))))))
  let gr:Lx.Item:=oI ob 114 [(d_ (aD cb) 0),(.slice zK l3.length zL),fv]
  let gd:Lx.Item:=oI z1 72 [v8 4,v8 0,v8 0,vN j,vN k]
  let iB:Lx.Item:=aq MH MI 3 1 (bU ((aY vs a ls).fi))
  let jw:Lx.Item:=aq Qa Qb 3 1 (bU ((aY vs a ls).la))
  let oQ:Lx.Item:=aq WN WO 3 1 (bU ((aY vs b ((aY vs a ls).ls)).fi))
  let mg:Lx.Item:=aq Qc Qd 3 1 (bU ((aY vs b ((aY vs a ls).ls)).la))
  refine dv (O':=[aq ((lk k3 kk).b) ((lk k3 kk).c) 3 1 (bU (lf l3 kk).fo),gr,aq zK zL 118 7 (dj l3 k3),oQ,mg,iB,jw,gd]++(ce 3 ((eU l3 k3).eraseIdx kk)++gF 56 4 3 l3 k3)) (by
   have h9:=KV (E:=3) (CP tq zJ) [oI ob 114 [(d_ (aD cb) 0),(.slice zK l3.length zL),fv],aq zK zL 118 7 (dj l3 k3),aq WN WO 3 1 (bU ((aY vs b ((aY vs a ls).ls)).fi)),aq Qc Qd 3 1 (bU ((aY vs b ((aY vs a ls).ls)).la)),aq MH MI 3 1 (bU ((aY vs a ls).fi)),aq Qa Qb 3 1 (bU ((aY vs a ls).la)),oI z1 72 [v8 4,v8 0,v8 0,vN j,vN k]] (gF 56 4 3 l3 k3)
   rw[show Rec.sM 3 ⟨(lk k3 kk).b,(lk k3 kk).c,(lf l3 kk).fo.map fun y:Nat=>(y:Int)⟩=aq ((lk k3 kk).b) ((lk k3 kk).c) 3 1 (bU (lf l3 kk).fo)from ax (aq _ _ 3 1) (gk _)]at h9
   exact h9) ?_
  refine T.ds [gr,aq zK zL 118 7 (dj l3 k3),gd] [(0,0),(1,0),(2,0),(3,0),(4,0),(5,0),(6,0),(7,0),(8,0),(9,0),(10,0),(11,0),(12,0),(13,0),(14,1),(15,0),(16,0),(17,2)] (by exact Sub.d (.k (.k (.d (.d (.d (.d (.k .z)))))))) ?_
  refine au F (aK F) (au F (bf F) (au F (bj gw F gy F F) (au F (bn 0 fx F F F F) (au F (aK F) (au F (aK F) (au F (bf F) (au F (bj gw F gy F F) (au F (bn 0 fx F F F F) (au F (aK F) (au F (dU (i:=kk) fx eZ F F (dX (mG 1 F)) zJ (by rw[dY tq];omega)) (au F (ck iw F cU F F (dX (mG 1 F)) (by rw[dY tq];omega)) (au F (c_ cI F F (dX (mG 1 F)) (qF tq zJ 5 F F)) (au F (aK F) ?_)))))))))))))
  refine cx F F (dh 0 cI cI bl F F F F (by rw[ar];omega) (by decide) (Src.row (j:=3) F (by rw[ar];omega)) (by simp[fu]) (by omega) (by decide) (by decide) (fun z2 um=>⟨by exact Sub.d (.k (.k (.d (.d (.d (.d (.k .z))))))),?_⟩))
  refine au F (dU (i:=kk) fx eZ F F (dX (mG 1 F)) zJ (by rw[dY tq];omega)) (au F (ck iw F cU F F (dX (mG 1 F)) (by rw[dY tq];omega)) ?_)
  let s9:Value:=(.slice z2 (((lf l3 kk).fo.length)+((aY vs b ((aY vs a ls).ls)).fi.length)) um)
  refine cu F F (n7 (j:=(kk*7+5)) (v:=s9) (vs:=[s9]) (cs:=dj l3 k3) 2 cU F F F F F (by simp) F (by rw[dY tq];simp;omega) ?_)
  refine eW (O':=([aq z2 um 3 1 ((bU (lf l3 kk).fo)++(bU ((aY vs b ((aY vs a ls).ls)).fi))),gr,aq zK zL 118 7 (dj (l3.set kk {lf l3 kk with fo:=(lf l3 kk).fo++(aY vs b ((aY vs a ls).ls)).fi}) (k3.set kk {lk k3 kk with b:=z2,c:=um})),oQ,mg,iB,jw,gd]++(ce 3 ((eU l3 k3).eraseIdx kk)++gF 56 4 3 l3 k3))) (by rw[show fe (dj l3 k3) (kk*7+5) [(.slice z2 (((lf l3 kk).fo.length)+((aY vs b ((aY vs a ls).ls)).fi.length)) um)]=dj (l3.set kk {lf l3 kk with fo:=(lf l3 kk).fo++(aY vs b ((aY vs a ls).ls)).fi}) (k3.set kk {lk k3 kk with b:=z2,c:=um})from(by rw[EK tq zJ,aF];simp[fe])];exact cj (aZ _)) ?_
  refine cy ?_
  refine be (ad (dx (a:=i9) (b:=1) F F (by omega)) (ah F (ae ?_)))
  exact⟨i9+1,by omega,[oI ob 114 [(d_ (aD cb) 0),(.slice zK ((l3.set kk {lf l3 kk with fo:=(lf l3 kk).fo++(aY vs b ((aY vs a ls).ls)).fi}).length) zL),fv],aq zK zL 118 7 (dj (l3.set kk {lf l3 kk with fo:=(lf l3 kk).fo++(aY vs b ((aY vs a ls).ls)).fi}) (k3.set kk {lk k3 kk with b:=z2,c:=um})),oQ,mg,iB,jw,gd]++(ce 3 (eU (l3.set kk {lf l3 kk with fo:=(lf l3 kk).fo++(aY vs b ((aY vs a ls).ls)).fi}) (k3.set kk {lk k3 kk with b:=z2,c:=um}))++gF 56 4 3 (l3.set kk {lf l3 kk with fo:=(lf l3 kk).fo++(aY vs b ((aY vs a ls).ls)).fi}) (k3.set kk {lk k3 kk with b:=z2,c:=um})),by
   rw[HU tq zJ,KW tq zJ,eX]
   refine Sub.trans (Oh (by rw[HV tq];exact zJ) [gr,aq zK zL 118 7 (dj (l3.set kk {lf l3 kk with fo:=(lf l3 kk).fo++(aY vs b ((aY vs a ls).ls)).fi}) (k3.set kk {lk k3 kk with b:=z2,c:=um})),oQ,mg,iB,jw,gd] (gF 56 4 3 l3 k3) ⟨z2,um,((lf l3 kk).fo++(aY vs b ((aY vs a ls).ls)).fi).map fun y:Nat=>(y:Int)⟩) ?_
   rw[show Rec.sM 3 ⟨z2,um,((lf l3 kk).fo++(aY vs b ((aY vs a ls).ls)).fi).map fun y:Nat=>(y:Int)⟩=aq z2 um 3 1 ((bU (lf l3 kk).fo)++(bU ((aY vs b ((aY vs a ls).ls)).fi)))from ax (aq _ _ 3 1) ((gk _).trans bo)]
   exact(by exact Sub.rf),(l3.set kk {lf l3 kk with fo:=(lf l3 kk).fo++(aY vs b ((aY vs a ls).ls)).fi}),(k3.set kk {lk k3 kk with b:=z2,c:=um}),F,by omega,by rw[EL CO,←EI,←MF],by rw[eX,eX];exact tq,(.of F)⟩
 have abY: ¬i9<(aY vs a ls).la.length:=by omega
 refine cG ?_
 refine ai (ah F (ah F (aj F (aj F (ae (aN (az ?_)))))))
 refine dc (.slice MH ((aY vs a ls).fi.length) MI) (.slice Qc ((aY vs b ((aY vs a ls).ls)).la.length) Qd) Tryz.results73 F F ?_
 have e3:l3=(aY vs (Rx.je a b) ls).ls:=by rw[MF,bt (by omega)];rfl
 let mv:Lx.Item:=aq Qc Qd 3 1 (bU ((aY vs b ((aY vs a ls).ls)).la))
 exact⟨[oI ob 114 [(d_ (aD cb) 0),(.slice zK l3.length zL),fv],aq zK zL 118 7 (dj l3 k3),aq MH MI 3 1 (bU ((aY vs a ls).fi)),mv]++(ce 3 (eU l3 k3)++gF 56 4 3 l3 k3),(by exact Sub.k (.k (.d (.eQ [mv] _ (.k (.d (.d .rf))))))),zK,zL,k3,MH,MI,Qc,Qd,F,by rw[←e3];rfl,by rw[←e3];exact tq,HO,HP⟩
structure SP (cb:Nat) (eb:Option Addr) (en ec vs B:Nat) (e:List eE):Prop where
 pl:Se cb eb en ec vs B e
 jq: ∀(w:World) [dB Tryz.prog w],vs≤6→1≤B→B≤4096→Sl w (aD cb) [.slice eb en ec,vI (vs:Int),vI (B:Int)]→Sl w eb (bX e)→ ∀(ob:Nat) (fv:Value) (i:Nat) (a b:Rx) (j k:Nat),e[i]? =some ⟨5,0,0,(j:Int),(k:Int)⟩→nk w cb vs B ob fv a j→nk w cb vs B ob fv b k→nk w cb vs B ob fv (.jq a b) i
 behind: ∀(w:World) [dB Tryz.prog w],vs≤6→1≤B→B≤4096→Sl w (aD cb) [.slice eb en ec,vI (vs:Int),vI (B:Int)]→Sl w eb (bX e)→ ∀(ob:Nat) (fv:Value) (i:Nat) (a:Rx) (j:Nat),e[i]? =some ⟨10,0,0,(j:Int),0⟩→(∀(w1:World) [dB Tryz.prog w1],Inv w [] w1→dA Tryz.prog w1 (.iface 163 (.agg #[])) 72 [(d_ (aD cb) 0),vN j] [] (sI vs B a) (¬jY vs a B))→nk w cb vs B ob fv (.behind a) i
theorem tp {cb:Nat} {eb:Option Addr} {en ec vs B:Nat} {e:List eE} (h:Ev e=true):SP cb eb en ec vs B e:=
 ⟨AH h,fun _ _ _ _ _ _ _ _ _ i _ _ _ _ hp=>absurd F (mF h hp).2.1,fun _ _ _ _ _ _ _ _ _ i _ _ hp=>absurd F (mF h hp).2.2.2.2⟩
theorem xO {cb:Nat} {eb:Option Addr} {en ec vs B:Nat} {e:List eE} (AP:SP cb eb en ec vs B e) (gq:vs≤6) (iN:1≤B) (hB:B≤4096) (jU:en=e.length) (ob:Nat) (fv:Value): ∀(t:Rx) (hw:t.wf=true) (i:Nat),sJ e t i→ ∀(w:World) [dB Tryz.prog w],Sl w (aD cb) [.slice eb en ec,vI (vs:Int),vI (B:Int)]→Sl w eb (bX e)→nk w cb vs B ob fv t i
 | .none,hw,i,hh,w,_,eR,hE=>mH w cb eb en ec vs B eR gq iN hB e hE jU i ob fv .none ⟨1,0,0,0,0⟩ hh (by simp) (by simp) (by simp) (by simp) F (fun _=>rfl) F (fun w1 _ hI=>jF AP.pl gq iN hB jU .none hw _ hh w1 (hI.sl eR) (hI.sl hE))
 | .empty,hw,i,hh,w,_,eR,hE=>mH w cb eb en ec vs B eR gq iN hB e hE jU i ob fv .empty ⟨2,0,0,0,0⟩ hh (by simp) (by simp) (by simp) (by simp) F (fun _=>rfl) F (fun w1 _ hI=>jF AP.pl gq iN hB jU .empty hw _ hh w1 (hI.sl eR) (hI.sl hE))
 | .letter p n,hw,i,hh,w,_,eR,hE=>mH w cb eb en ec vs B eR gq iN hB e hE jU i ob fv (.letter p n) ⟨3,p,n,0,0⟩ hh.1 (by simp) (by simp) (by simp) (by simp) F (fun _=>rfl) F (fun w1 _ hI=>jF AP.pl gq iN hB jU (.letter p n) hw _ hh w1 (hI.sl eR) (hI.sl hE))
 | .and a b,hw,i,hh,w,_,eR,hE=>by
  obtain⟨j,k,h,ha,hb⟩:=id hh
  exact mH w cb eb en ec vs B eR gq iN hB e hE jU i ob fv (.and a b) ⟨6,0,0,(j:Int),(k:Int)⟩ h (by simp) (by simp) (by simp) (by simp) F (fun _=>rfl) F (fun w1 _ hI=>jF AP.pl gq iN hB jU (.and a b) hw _ hh w1 (hI.sl eR) (hI.sl hE))
 | .not a,hw,i,hh,w,_,eR,hE=>by
  obtain⟨j,h,ha⟩:=id hh
  exact mH w cb eb en ec vs B eR gq iN hB e hE jU i ob fv (.not a) ⟨7,0,0,(j:Int),0⟩ h (by simp) (by simp) (by simp) (by simp) F (fun _=>rfl) F (fun w1 _ hI=>jF AP.pl gq iN hB jU (.not a) hw _ hh w1 (hI.sl eR) (hI.sl hE))
 | .star a,hw,i,hh,w,_,eR,hE=>by
  obtain⟨j,h,ha⟩:=id hh
  exact mH w cb eb en ec vs B eR gq iN hB e hE jU i ob fv (.star a) ⟨8,0,0,(j:Int),0⟩ h (by simp) (by simp) (by simp) (by simp) F (fun _=>rfl) F (fun w1 _ hI=>jF AP.pl gq iN hB jU (.star a) hw _ hh w1 (hI.sl eR) (hI.sl hE))
 | .je a b,hw,i,⟨j,k,h,ha,hb⟩,w,_,eR,hE=>KU w cb eb en ec vs B eR gq iN hB e hE jU i ob fv a b j k h (xO AP gq iN hB jU ob fv a (by simp only[Rx.wf,aM]at hw;exact hw.1) _ ha w eR hE) (xO AP gq iN hB jU ob fv b (by simp only[Rx.wf,aM]at hw;exact hw.2) _ hb w eR hE)
 | .jq a b,hw,i,⟨j,k,h,ha,hb⟩,w,_,eR,hE=>AP.jq w gq iN hB eR hE ob fv i a b j k h (xO AP gq iN hB jU ob fv a (by simp only[Rx.wf,aM]at hw;exact hw.1) _ ha w eR hE) (xO AP gq iN hB jU ob fv b (by simp only[Rx.wf,aM]at hw;exact hw.2) _ hb w eR hE)
 | .ahead a,hw,i,⟨j,h,ha⟩,w,_,eR,hE=>EH w cb eb en ec vs B eR gq iN hB e hE jU i ob fv a j h (fun _=>rfl) (fun w1 _ hI=>jF AP.pl gq iN hB jU a hw _ ha w1 (hI.sl eR) (hI.sl hE))
 | .behind a,hw,i,⟨j,h,ha⟩,w,_,eR,hE=>AP.behind w gq iN hB eR hE ob fv i a j h (fun w1 _ hI=>jF AP.pl gq iN hB jU a hw _ ha w1 (hI.sl eR) (hI.sl hE))
end Go.Proofs.YtgdbfideeeegmaaGreatDoor

namespace Go.Proofs.YtgdbfideeeegmaaGreatDoor
open Go.Lx Go.RowKit _root_.Go.Proofs.Tryz
theorem El:Yc 74:=ExB.2
end Go.Proofs.YtgdbfideeeegmaaGreatDoor

