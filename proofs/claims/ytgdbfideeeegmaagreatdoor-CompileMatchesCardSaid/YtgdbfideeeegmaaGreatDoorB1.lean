/- Contracts of functions; conditions: those each theorem names. -/
import Derived.Test.YtgdbfideeeegmaaGreatDoorB0
set_option linter.unusedSectionVars false
set_option linter.unusedSimpArgs false
set_option linter.unusedVariables false
set_option linter.unnecessarySimpa false
set_option maxHeartbeats 8000000
set_option maxRecDepth 20000
namespace Go.Proofs.YtgdbfideeeegmaaGreatDoor
open Go.Lx Go.RowKit _root_.Go.Proofs.Tryz
theorem afV (w:World) [dQ prog w] (x p n:Nat) (hx:x<256) (hp:p<256) (hn:n<256):
  cB prog 170 [v8 x,v8 p,v8 n] w fun v N=>v=.bool (gl p n x)∧N=[]:=by
 refine aA func170 F ntmps170 F ?_
 refine aQ (aj (a7 (ay (Bj (a:=x) (b:=p) .u8 F F (by show _<256;omega) (by show _<256;omega)) (ay bN ?_))))
 by_cases NH:((x&&&p:Nat):Int)=((p:Nat):Int)
 ·refine ae (bn aw NH) ?_
  refine ao aw (ao aw (ao (Bj (a:=x) (b:=n) .u8 F F (by show _<256;omega) (by show _<256;omega)) (ao bN (ae bw (aR ?_)))))
  refine aF (.bool (decide (((x&&&n:Nat):Int)=0))) results170 F ?_
  exact⟨[],Sub.z,am Value.bool (Eq.symm (decide_eq_decide.2 (by omega))),F⟩
 refine ae (aY aw NH) (du (ae bU (aR ?_)))
 refine aF (.bool false) results170 F ?_
 exact⟨[],Sub.z,am Value.bool (Eq.symm (a8 (fun hm=>by omega))),F⟩
theorem acx (w:World) [dQ prog w] (vars:Int) (h0:0≤vars) (h6:vars≤6) (wb:Option Addr) (wc:Nat) (l:List Nat) (hW:Sl w wb (nY l)) (Dg:l.length<9223372036854775807) (xM: ∀x∈l,x<256):
  cB prog 125 [(.slice wb l.length wc),vI vars] w fun v N=>v=vN (LH vars l)∧N=[]:=by
 refine aA func125 F ntmps125 F ?_
 refine aQ (aS (bq (ay (cL kR) (aX gT (aL F (fun hc=>?_) (fun hc=>?_))))))
 ·have VC:l.length>64:=by omega
  have XM:64<l.length:=by omega
  refine aQ (aR ?_)
  refine aF (vI 4) results125 F ?_
  exact⟨[],Sub.z,by unfold LH;rw[aB XM];rfl,F⟩
 have VD: ¬l.length>64:=by omega
 have XM: ¬64<l.length:=by omega
 refine aE (br (aQ (aj (aK ?_))))
 refine dU (fun(k:Nat) ρ O=>O=[]∧k≤l.length∧(l.take k).any (fun x=>decide (2^vars.toNat≤x))=false∧dh [(0,(.slice wb l.length wc)),(1,vI vars),(5,vN k)] ρ) (fun k=>l.length-k) 0 ?_ ?_
 ·exact⟨F,bj _,F,⟨F,F,F,trivial⟩⟩
 rintro k ρ O ⟨rfl,hk,iO,hH⟩
 obtain⟨gv,rfl⟩:=hH.elim
 clear hH
 refine br (a7 (ay (cL kR) (aX cV (aL F (fun hc=>?_) (fun hc=>?_)))))
 ·have pJ:k<l.length:=by omega
  refine aE (br (aK (br ?_)))
  refine fW [(0,0),(1,0),(2,0),(3,0),(4,0),(5,0),(6,1),(7,0)] ?_
  refine ap F aw (ap F aw (ap F (dB k kR eN F F (a6 hW) pJ (by rw[ai];exact pJ)) (ap F (dD il F F hW (yH pJ)) (ap F (gi il eO F (gX ⟨by omega,by have:=xM _ (av pJ);omega⟩)) (ap F aw ?_)))))
  refine cG F F (eh L6 (aO fun w1 hI=>(haveI:=eP hI;yo w1 vars h0 h6)) ?_)
  rintro vr O' ⟨N,rfl,rfl,rfl⟩
  refine⟨by exact Sub.rf,?_⟩
  refine ap F km ?_
  refine cy ?_
  refine aL F (fun hc=>?_) (fun hc=>?_)
  ·have tx:l[k]≥2^vars.toNat:=by omega
   refine aQ (aR ?_)
   refine aF (vI 1) results125 F ?_
   exact⟨[],Sub.z,by unfold LH;rw[aq XM,aB (Cq (p:=fun x=>decide (2^vars.toNat≤x)) pJ (aZ (by omega)))];rfl,F⟩
  have yW: ¬l[k]≥2^vars.toNat:=by omega
  refine aE (a_ (ay (dj (b:=1) k F F (by omega)) (aj ?_)))
  exact⟨k+1,by omega,F,by omega,sM pJ iO (by rw[a8 (by omega)]),⟨F,F,F,trivial⟩⟩
 have If: ¬k<l.length:=by omega
 refine cD ?_
 refine aQ (aR ?_)
 refine aF (vI 0) results125 F ?_
 exact⟨[],Sub.z,by rw[bt (by omega)]at iO;unfold LH;rw[aq XM,aq (by rw[iO];decide)];rfl,F⟩
theorem P7 (w:World) [dQ prog w] (eb:Option Addr) (ec:Nat) (e:List ei) (hE:Sl w eb (bX e)) (qZ:e.length<4611686018427387904) (mh: ∀x∈e,x.p<256∧x.n<256) (vars:Int) (wb:Option Addr) (wc:Nat) (l:List Nat) (hW:Sl w wb (nY l)) (Dg:l.length<9223372036854775807) (xM: ∀x∈l,x<256):
  cB prog 87 [(.slice eb e.length ec),vI vars,(.slice wb l.length wc)] w fun v N=>v=vN (mE vars e l)∧N=[]:=by
 refine aA func87 F ntmps87 F ?_
 refine aQ (aj (a7 (aN (TO.lc M3 (aO fun w1 hI=>(haveI:=eP hI;M2 w1 eb ec e (hI.sl hE) qZ mh vars)) ?_))))
 rintro vr O' ⟨N,rfl,rfl,rfl⟩
 refine aS (bq (aN (aX bN (aL F (fun hc=>?_) (fun hc=>?_)))))
 ·have pJ:(gJ vars e)=0:=by omega
  have h0:gJ vars e=0:=by omega
  obtain⟨HM,QQ,_⟩:=nG h0
  refine a_ (de (TO.lc W7 (aO fun w1 hI=>(haveI:=eP hI;acx w1 vars HM QQ wb wc l (hI.sl hW) Dg xM)) ?_))
  rintro vr O' ⟨N,rfl,rfl,rfl⟩
  refine aj (a7 (aR ?_))
  refine aF (vN (LH vars l)) results87 F ?_
  exact⟨[],Sub.z,by unfold mE;rw[aq (by omega)],F⟩
 have If: ¬(gJ vars e)=0:=by omega
 refine aE (a7 (aR ?_))
 refine aF (vN (gJ vars e)) results87 F ?_
 exact⟨[],Sub.z,by unfold mE;rw[aB (by omega)],F⟩
theorem rv2 {u:List Nat} {x:ei} {A B T:Nat→Nat→Bool} {i j:Nat} (h:x.op=2):kT u x A B T i j=(decide (i=j)):=by
 unfold kT;rw[aB h]
theorem rv3 {u:List Nat} {x:ei} {A B T:Nat→Nat→Bool} {i j:Nat} (h:x.op=3):kT u x A B T i j=(decide (j=i+1)&&gl x.p x.n (u.getD i 0)):=by
 unfold kT;rw[aq (show¬x.op=2 by omega),aB h]
theorem rv4 {u:List Nat} {x:ei} {A B T:Nat→Nat→Bool} {i j:Nat} (h:x.op=4):kT u x A B T i j=(jO i j fun k=>A i k&&B k j):=by
 unfold kT;rw[aq (show¬x.op=2 by omega),aq (show¬x.op=3 by omega),aB h]
theorem rv5 {u:List Nat} {x:ei} {A B T:Nat→Nat→Bool} {i j:Nat} (h:x.op=5):kT u x A B T i j=(A i j||B i j):=by
 unfold kT;rw[aq (show¬x.op=2 by omega),aq (show¬x.op=3 by omega),aq (show¬x.op=4 by omega),aB h]
theorem rv6 {u:List Nat} {x:ei} {A B T:Nat→Nat→Bool} {i j:Nat} (h:x.op=6):kT u x A B T i j=(A i j&&B i j):=by
 unfold kT;rw[aq (show¬x.op=2 by omega),aq (show¬x.op=3 by omega),aq (show¬x.op=4 by omega),aq (show¬x.op=5 by omega),aB h]
theorem rv7 {u:List Nat} {x:ei} {A B T:Nat→Nat→Bool} {i j:Nat} (h:x.op=7):kT u x A B T i j=(!A i j):=by
 unfold kT;rw[aq (show¬x.op=2 by omega),aq (show¬x.op=3 by omega),aq (show¬x.op=4 by omega),aq (show¬x.op=5 by omega),aq (show¬x.op=6 by omega),aB h]
theorem rv8 {u:List Nat} {x:ei} {A B T:Nat→Nat→Bool} {i j:Nat} (h:x.op=8):kT u x A B T i j=(decide (i=j)||jO (i+1) j fun k=>A i k&&T k j):=by
 unfold kT;rw[aq (show¬x.op=2 by omega),aq (show¬x.op=3 by omega),aq (show¬x.op=4 by omega),aq (show¬x.op=5 by omega),aq (show¬x.op=6 by omega),aq (show¬x.op=7 by omega),aB h]
theorem rv9 {u:List Nat} {x:ei} {A B T:Nat→Nat→Bool} {i j:Nat} (h:x.op=9):kT u x A B T i j=(decide (i=j)&&jO i u.length fun k=>A i k):=by
 unfold kT;rw[aq (show¬x.op=2 by omega),aq (show¬x.op=3 by omega),aq (show¬x.op=4 by omega),aq (show¬x.op=5 by omega),aq (show¬x.op=6 by omega),aq (show¬x.op=7 by omega),aq (show¬x.op=8 by omega),aB h]
theorem P8 {u:List Nat} {x:ei} {A B T:Nat→Nat→Bool} {i j:Nat} (h:x.op=10):kT u x A B T i j=(decide (i=j)&&jO 0 i fun k=>A k i):=by
 unfold kT;rw[aq (show¬x.op=2 by omega),aq (show¬x.op=3 by omega),aq (show¬x.op=4 by omega),aq (show¬x.op=5 by omega),aq (show¬x.op=6 by omega),aq (show¬x.op=7 by omega),aq (show¬x.op=8 by omega),aq (show¬x.op=9 by omega),aB h]
theorem rv0 {u:List Nat} {x:ei} {A B T:Nat→Nat→Bool} {i j:Nat} (h: ¬(2≤x.op∧x.op≤10)):kT u x A B T i j=false:=by
 unfold kT;rw[aq (show¬x.op=2 by omega),aq (show¬x.op=3 by omega),aq (show¬x.op=4 by omega),aq (show¬x.op=5 by omega),aq (show¬x.op=6 by omega),aq (show¬x.op=7 by omega),aq (show¬x.op=8 by omega),aq (show¬x.op=9 by omega),aq (show¬x.op=10 by omega)]
theorem afW (w:World) [dQ prog w] (op p n ja jb:Nat) (hp:p<256) (hn:n<256) (N:Nat) (hN:N≤1000) (TA TB o:TR) (cs:List Value) (ab:Option Addr) (m ac:Nat) (e_:m=cs.length) (hA:Sl w ab cs) (u:List Nat) (wb:Option Addr) (wc:Nat) (hW:Sl w wb (nY u)) (hub: ∀i,i<u.length→u.getD i 0<256) (hu:u.length+1=N)
  (Lm:4≤op→cs[ja]? =some TA.val∧FB w TA∧QG N TA.qs) (S6:(op=4∨op=5∨op=6)→cs[jb]? =some TB.val∧FB w TB∧QG N TB.qs) (hO:FB w o) (hOq:QG N o.qs) (i j:Nat) (hi:i<N) (hj:j<N):
  cB prog 126 [(.agg #[v8 op,v8 p,v8 n,vN ja,vN jb]),(.slice ab m ac),o.val,(.slice wb u.length wc),vN i,vN j] w fun r O'=>r=.bool (kT u ⟨op,p,n,(ja:Int),(jb:Int)⟩ (gB TA.qs) (gB TB.qs) (gB o.qs) i j)∧O'=[]:=by
 refine aA func126 F ntmps126 F ?_
 have hiN:i<N:=hi
 have hjN:j<N:=hj
 have S7:j=i+1→i<u.length:=fun h=>by omega
 let eH:List Value:=[v8 op,v8 p,v8 n,vN ja,vN jb]
 refine aQ (ax (ef eH (fun z1=>?_)))
 refine aS (bq (ae (bu dz eN) (aX (bF 0 il) (aK (aG bN (aj (aL F (fun hc=>?_) (fun hc=>?_))))))))
 ·have TY:op=2:=by omega
  refine a7 (ay bN (aR ?_))
  refine aF (.bool (decide (((i:Nat):Int)=((j:Nat):Int)))) results126 F ?_
  exact⟨[],Sub.z,am Value.bool (by
    rw[rv2 (show op=2 by omega)];exact decide_eq_decide.2 (by omega)),F⟩
 have TZ: ¬op=2:=by omega
 refine aG bN (aj (aL F (fun hc=>?_) (fun hc=>?_)))
 ·have j4:op=3:=by omega
  refine br ?_
  refine fW [(0,0),(1,0),(2,0),(3,0),(4,0),(5,0),(6,0),(7,0),(8,0),(9,0),(10,0),(11,0),(12,0),(13,2),(14,2),(15,2)] ?_
  refine ap F aw (ap F aw (ap F (dj (b:=1) i F F (by omega)) (ap F bN ?_)))
  by_cases h9:((j:Nat):Int)=((i:Nat):Int)+1
  ·refine ap F (bn aw h9) ?_
   refine bs F F F aw ?_
   refine bs F F F aw ?_
   refine bs F F F (dB i kR eN F F (a6 hW) (S7 (by omega)) (by rw[ai];exact(S7 (by omega)))) ?_
   refine bs F F F (dD il F F hW (XW (S7 (by omega)))) ?_
   refine bs F F F (bu dz eN) ?_
   refine bs F F F (bF 0 il) ?_
   refine bs F F F (bu dz eN) ?_
   refine bs F F F (bF 0 il) ?_
   refine ql F F F F (eh Xd (aO fun w1 hI=>(haveI:=eP hI;afV w1 (u.getD i 0) p n (hub i (S7 (by omega))) hp hn)) ?_)
   rintro vr O' ⟨N,rfl,rfl,rfl⟩
   refine cA F F (eV F F bw ?_)
   refine cA F F (eV F F cz ?_)
   refine cy ?_
   refine cM (dS ?_)
   refine aF (.bool (gl p n (u.getD i 0))) results126 F ?_
   exact⟨[],Sub.z,am Value.bool (by
     rw[rv3 (show op=3 by omega),aZ (show j=i+1 by omega)];rfl),F⟩
  refine ap F (aY aw h9) (aU F F F (aU F F F (aU F F F (aU F F F (aU F F F (aU F F F (aU F F F ?_)))))))
  refine aU F F F ?_
  refine uK (by decide) F F F F F ?_
  refine cA F F (eV F F bU ?_)
  refine cA F F (eV F F cz ?_)
  refine cy ?_
  refine cM (dS ?_)
  refine aF (.bool false) results126 F ?_
  exact⟨[],Sub.z,am Value.bool (by
    rw[rv3 (show op=3 by omega),a8 (show¬j=i+1 by omega)];rfl),F⟩
 have A4: ¬op=3:=by omega
 refine aG bN (aj (aL F (fun hc=>?_) (fun hc=>?_)))
 ·have wY:op=5:=by omega
  obtain⟨pX,s8,pY⟩:=Lm (by omega)
  have pZ:=(List.getElem?_eq_some_iff.1 pX).1
  have wL:ja<m:=by rw[e_];exact pZ
  obtain⟨FJ,Jz,FK⟩:=S6 (by omega)
  have FL:=(List.getElem?_eq_some_iff.1 FJ).1
  have P9:jb<m:=by rw[e_];exact FL
  have je:i<TA.qs.length:=by rw[pY.len];omega
  have sx:j<TA.qs[i].xs.length:=by rw[pY.row _ (av je)];omega
  have uu:i<TB.qs.length:=by rw[FK.len];omega
  have Al:j<TB.qs[i].xs.length:=by rw[FK.row _ (av uu)];omega
  refine bo (bu dz bM) (ae (bF 0 eO) (ae (dB ja pV oY F F (a6 hA) (wL) pZ) (ae (dD ni F F hA pX) (ay (dB i ni e7 F F (a6 s8.1) je (by rw[ai];exact je)) (ae (dD eS F F s8.1 (iQ je)) (ay (dB j eS gq F F (a6 (s8.2 _ (av je))) sx (by rw[ai];exact sx)) (ae (dD uT F F (s8.2 _ (av je)) (j8 je sx)) ?_)))))))
  by_cases h54:gB TA.qs i j=true
  ·refine ae (eT aw (h54)) ?_
   refine du (du ?_)
   refine cY (cK (ae bw (aR ?_)))
   refine aF (.bool true) results126 F ?_
   exact⟨[],Sub.z,am Value.bool (by
     rw[rv5 (show op=5 by omega),h54];rfl),F⟩
  refine ae (eT aw (Bool.eq_false_iff.2 h54)) (ao aw (ao (bu dz bM) (ao (bF 0 eO) (ao (dB jb pV oY F F (a6 hA) (P9) FL) (ao (dD ni F F hA FJ) (ao aw (ao (dB i ni e7 F F (a6 Jz.1) uu (by rw[ai];exact uu)) ?_)))))))
  refine ao (dD eS F F Jz.1 (iQ uu)) (ao aw (ao (dB j eS gq F F (a6 (Jz.2 _ (av uu))) Al (by rw[ai];exact Al)) (ao (dD uT F F (Jz.2 _ (av uu)) (j8 uu Al)) (ae bU (aR ?_)))))
  refine aF (.bool (gB TB.qs i j)) results126 F ?_
  exact⟨[],Sub.z,am Value.bool (by
    rw[rv5 (show op=5 by omega),Bool.eq_false_iff.2 h54];rfl),F⟩
 have Ty: ¬op=5:=by omega
 refine aG bN (aj (aL F (fun hc=>?_) (fun hc=>?_)))
 ·have oX:op=6:=by omega
  obtain⟨pX,s8,pY⟩:=Lm (by omega)
  have pZ:=(List.getElem?_eq_some_iff.1 pX).1
  have wL:ja<m:=by rw[e_];exact pZ
  obtain⟨FJ,Jz,FK⟩:=S6 (by omega)
  have FL:=(List.getElem?_eq_some_iff.1 FJ).1
  have P9:jb<m:=by rw[e_];exact FL
  have je:i<TA.qs.length:=by rw[pY.len];omega
  have sx:j<TA.qs[i].xs.length:=by rw[pY.row _ (av je)];omega
  have uu:i<TB.qs.length:=by rw[FK.len];omega
  have Al:j<TB.qs[i].xs.length:=by rw[FK.row _ (av uu)];omega
  refine bo (bu dz bM) (ae (bF 0 eO) (ae (dB ja pV oY F F (a6 hA) (wL) pZ) (ae (dD ni F F hA pX) (ay (dB i ni e7 F F (a6 s8.1) je (by rw[ai];exact je)) (ae (dD eS F F s8.1 (iQ je)) (ay (dB j eS gq F F (a6 (s8.2 _ (av je))) sx (by rw[ai];exact sx)) (ae (dD uT F F (s8.2 _ (av je)) (j8 je sx)) ?_)))))))
  by_cases h80:gB TA.qs i j=true
  ·refine ae (eT aw (h80)) ?_
   refine ao aw (ao (bu dz bM) (ao (bF 0 eO) (ao (dB jb pV oY F F (a6 hA) (P9) FL) (ao (dD ni F F hA FJ) (ao aw (ao (dB i ni e7 F F (a6 Jz.1) uu (by rw[ai];exact uu)) (ao (dD eS F F Jz.1 (iQ uu)) ?_)))))))
   refine ao aw (ao (dB j eS gq F F (a6 (Jz.2 _ (av uu))) Al (by rw[ai];exact Al)) (ao (dD uT F F (Jz.2 _ (av uu)) (j8 uu Al)) (ae bw (aR ?_))))
   refine aF (.bool (gB TB.qs i j)) results126 F ?_
   exact⟨[],Sub.z,am Value.bool (by
     rw[rv6 (show op=6 by omega),h80];rfl),F⟩
  refine ae (eT aw (Bool.eq_false_iff.2 h80)) (cY (cK (du ?_)))
  refine du (ae bU (aR ?_))
  refine aF (.bool false) results126 F ?_
  exact⟨[],Sub.z,am Value.bool (by
    rw[rv6 (show op=6 by omega),Bool.eq_false_iff.2 h80];rfl),F⟩
 have Ix: ¬op=6:=by omega
 refine aG bN (aj (aL F (fun hc=>?_) (fun hc=>?_)))
 ·have aid:op=7:=by omega
  obtain⟨pX,s8,pY⟩:=Lm (by omega)
  have pZ:=(List.getElem?_eq_some_iff.1 pX).1
  have wL:ja<m:=by rw[e_];exact pZ
  have je:i<TA.qs.length:=by rw[pY.len];omega
  have sx:j<TA.qs[i].xs.length:=by rw[pY.row _ (av je)];omega
  refine bo (bu dz bM) (ae (bF 0 eO) (ae (dB ja pV oY F F (a6 hA) (wL) pZ) (ae (dD ni F F hA pX) (ay (dB i ni e7 F F (a6 s8.1) je (by rw[ai];exact je)) (ae (dD eS F F s8.1 (iQ je)) (ay (dB j eS gq F F (a6 (s8.2 _ (av je))) sx (by rw[ai];exact sx)) (ae (dD uT F F (s8.2 _ (av je)) (j8 je sx)) (ae g_ (aR ?_)))))))))
  refine aF (.bool (!(gB TA.qs i j))) results126 F ?_
  exact⟨[],Sub.z,am Value.bool (by
    rw[rv7 (show op=7 by omega)]),F⟩
 have aie: ¬op=7:=by omega
 refine aG bN (aj (aL F (fun hc=>?_) (fun hc=>?_)))
 ·have afY:op=4:=by omega
  obtain⟨pX,s8,pY⟩:=Lm (by omega)
  have pZ:=(List.getElem?_eq_some_iff.1 pX).1
  have wL:ja<m:=by rw[e_];exact pZ
  obtain⟨FJ,Jz,FK⟩:=S6 (by omega)
  have FL:=(List.getElem?_eq_some_iff.1 FJ).1
  have P9:jb<m:=by rw[e_];exact FL
  refine a7 (aj (aK ?_))
  refine dU (fun(k:Nat) ρ O=>O=[oI z1 72 eH]∧i≤k∧jO i j (fun k=>gB TA.qs i k&&gB TB.qs k j)=jO k j (fun k=>gB TA.qs i k&&gB TB.qs k j)∧dh [(0,(.agg eH.toArray)),(1,(.slice ab m ac)),(2,(.slice o.b o.qs.length o.c)),(3,(.slice wb u.length wc)),(4,vN i),(5,vN j),(6,(.pointer (aD z1))),(13,vN k),(19,.bool (decide (((op:Nat):Int)=2))),(24,.bool (decide (((op:Nat):Int)=3))),(41,.bool (decide (((op:Nat):Int)=5))),(67,.bool (decide (((op:Nat):Int)=6))),(93,.bool (decide (((op:Nat):Int)=7))),(107,.bool (decide (((op:Nat):Int)=4)))] ρ) (fun k=>j+1-k) i ?_ ?_
  ·exact⟨F,aI _,F,(.of F)⟩
  rintro k ρ O ⟨rfl,hk,iO,hH⟩
  obtain⟨gv,rfl⟩:=hH.elim
  clear hH
  refine br (a7 (aN (aX tg (aL F (fun hc=>?_) (fun hc=>?_)))))
  ·have afZ:k≤j:=by omega
   have Ln:k≤j:=by omega
   have je:i<TA.qs.length:=by rw[pY.len];omega
   have sy:k<TA.qs[i].xs.length:=by rw[pY.row _ (av je)];omega
   have HD:k<TB.qs.length:=by rw[FK.len];omega
   have P_:j<TB.qs[k].xs.length:=by rw[FK.row _ (av HD)];omega
   refine aE (br (aK (bo (bu dz bM) (ae (bF 0 eO) (ae (dB ja pV oY F F (a6 hA) (wL) pZ) (ae (dD ni F F hA pX) (ay (dB i ni e7 F F (a6 s8.1) je (by rw[ai];exact je)) (ae (dD eS F F s8.1 (iQ je)) (ay (dB k eS gq F F (a6 (s8.2 _ (av je))) sy (by rw[ai];exact sy)) (ae (dD uT F F (s8.2 _ (av je)) (j8 je sy)) ?_))))))))))
   by_cases HE:gB TA.qs i k=true
   ·refine ae (eT aw (HE)) ?_
    refine ao aw (ao (bu dz bM) (ao (bF 0 eO) (ao (dB jb pV oY F F (a6 hA) (P9) FL) (ao (dD ni F F hA FJ) (ao aw (ao (dB k ni e7 F F (a6 Jz.1) HD (by rw[ai];exact HD)) (ao (dD eS F F Jz.1 (iQ HD)) ?_)))))))
    refine ao aw (ao (dB j eS gq F F (a6 (Jz.2 _ (av HD))) P_ (by rw[ai];exact P_)) (ao (dD uT F F (Jz.2 _ (av HD)) (j8 HD P_)) (aX bw (aL (p:=(gB TB.qs k j)=true) (am Value.bool (by cases(gB TB.qs k j)<;>rfl)) (fun hc=>?_) (fun hc=>?_)))))
    ·refine br ?_
     refine a_ (aR ?_)
     refine aF (.bool true) results126 F ?_
     exact⟨[],Sub.z,am Value.bool (by
       rw[rv4 (show op=4 by omega),iO,(jM.2 ⟨k,aI _,Ln,by rw[HE,Bool.true_and];exact hc⟩)]),F⟩
    refine aE (a_ (ay (dj (b:=1) k F F (by omega)) (aj ?_)))
    have Qa:(gB TA.qs i k&&gB TB.qs k j)=false:=by first|(rw[Bool.eq_false_iff.2 HE];rfl)|(rw[HE,Bool.true_and];exact Bool.eq_false_iff.2 hc)|exact Bool.eq_false_iff.2 hc
    exact⟨k+1,by omega,F,by omega,by rw[iO,nU Ln,Qa,Bool.false_or],(.of F)⟩
   refine ae (eT aw (Bool.eq_false_iff.2 HE)) (cY (cK (du ?_)))
   refine du (aX bU (bf (aE (a_ ?_))))
   refine ay (dj (b:=1) k F F (by omega)) (aj ?_)
   have Qa:(gB TA.qs i k&&gB TB.qs k j)=false:=by first|(rw[Bool.eq_false_iff.2 HE];rfl)|(rw[HE,Bool.true_and];exact Bool.eq_false_iff.2 hc)|exact Bool.eq_false_iff.2 hc
   exact⟨k+1,by omega,F,by omega,by rw[iO,nU Ln,Qa,Bool.false_or],(.of F)⟩
  have af4: ¬k≤j:=by omega
  refine cD ?_
  refine aQ (aR ?_)
  refine aF (.bool false) results126 F ?_
  exact⟨[],Sub.z,am Value.bool (by
    rw[rv4 (show op=4 by omega),iO,nj (by omega)]),F⟩
 have af5: ¬op=4:=by omega
 refine aG bN (aj (aL F (fun hc=>?_) (fun hc=>?_)))
 ·have af6:op=8:=by omega
  obtain⟨pX,s8,pY⟩:=Lm (by omega)
  have pZ:=(List.getElem?_eq_some_iff.1 pX).1
  have wL:ja<m:=by rw[e_];exact pZ
  refine br (bo (dj (b:=1) i F F (by omega)) (aj (aK ?_)))
  refine dU (fun(k:Nat) ρ O=>O=[oI z1 72 eH]∧(i+1)≤k∧jO (i+1) j (fun k=>gB TA.qs i k&&gB o.qs k j)=jO k j (fun k=>gB TA.qs i k&&gB o.qs k j)∧dh [(0,(.agg eH.toArray)),(1,(.slice ab m ac)),(2,(.slice o.b o.qs.length o.c)),(3,(.slice wb u.length wc)),(4,vN i),(5,vN j),(6,(.pointer (aD z1))),(14,vN k),(19,.bool (decide (((op:Nat):Int)=2))),(24,.bool (decide (((op:Nat):Int)=3))),(41,.bool (decide (((op:Nat):Int)=5))),(67,.bool (decide (((op:Nat):Int)=6))),(93,.bool (decide (((op:Nat):Int)=7))),(107,.bool (decide (((op:Nat):Int)=4))),(139,.bool (decide (((op:Nat):Int)=8)))] ρ) (fun k=>j+1-k) (i+1) ?_ ?_
  ·exact⟨F,aI _,F,(.of F)⟩
  rintro k ρ O ⟨rfl,hk,iO,hH⟩
  obtain⟨gv,rfl⟩:=hH.elim
  clear hH
  refine br (a7 (aN (aX tg (aL F (fun hc=>?_) (fun hc=>?_)))))
  ·have af7:k≤j:=by omega
   have Ln:k≤j:=by omega
   have hoq:=hOq
   have je:i<TA.qs.length:=by rw[pY.len];omega
   have sy:k<TA.qs[i].xs.length:=by rw[pY.row _ (av je)];omega
   have FR:k<o.qs.length:=by rw[hoq.len];omega
   have X_:j<o.qs[k].xs.length:=by rw[hoq.row _ (av FR)];omega
   refine aE (br (aK (bo (bu dz bM) (ae (bF 0 eO) (ae (dB ja pV oY F F (a6 hA) (wL) pZ) (ae (dD ni F F hA pX) (ay (dB i ni e7 F F (a6 s8.1) je (by rw[ai];exact je)) (ae (dD eS F F s8.1 (iQ je)) (ay (dB k eS gq F F (a6 (s8.2 _ (av je))) sy (by rw[ai];exact sy)) (ae (dD uT F F (s8.2 _ (av je)) (j8 je sy)) ?_))))))))))
   by_cases HF:gB TA.qs i k=true
   ·refine ae (eT aw (HF)) ?_
    refine ao aw (ao aw (ao (dB k ni e7 F F (a6 hO.1) FR (by rw[ai];exact FR)) (ao (dD eS F F hO.1 (iQ FR)) (ao aw (ao (dB j eS gq F F (a6 (hO.2 _ (av FR))) X_ (by rw[ai];exact X_)) (ao (dD uT F F (hO.2 _ (av FR)) (j8 FR X_)) (ae bw ?_)))))))
    refine bi (aL (p:=(gB o.qs k j)=true) (am Value.bool (by cases(gB o.qs k j)<;>rfl)) (fun hc=>?_) (fun hc=>?_))
    ·refine br ?_
     refine a_ (aR ?_)
     refine aF (.bool true) results126 F ?_
     exact⟨[],Sub.z,am Value.bool (by
       rw[rv8 (show op=8 by omega),iO,(jM.2 ⟨k,aI _,Ln,by rw[HF,Bool.true_and];exact hc⟩),Bool.or_true]),F⟩
    refine aE (a_ (ay (dj (b:=1) k F F (by omega)) (aj ?_)))
    have Qa:(gB TA.qs i k&&gB o.qs k j)=false:=by first|(rw[Bool.eq_false_iff.2 HF];rfl)|(rw[HF,Bool.true_and];exact Bool.eq_false_iff.2 hc)|exact Bool.eq_false_iff.2 hc
    exact⟨k+1,by omega,F,by omega,by rw[iO,nU Ln,Qa,Bool.false_or],(.of F)⟩
   refine ae (eT aw (Bool.eq_false_iff.2 HF)) (cY (cK (du ?_)))
   refine aX bU (bf (aE (a_ (ay (dj (b:=1) k F F (by omega)) (aj ?_)))))
   have Qa:(gB TA.qs i k&&gB o.qs k j)=false:=by first|(rw[Bool.eq_false_iff.2 HF];rfl)|(rw[HF,Bool.true_and];exact Bool.eq_false_iff.2 hc)|exact Bool.eq_false_iff.2 hc
   exact⟨k+1,by omega,F,by omega,by rw[iO,nU Ln,Qa,Bool.false_or],(.of F)⟩
  have af8: ¬k≤j:=by omega
  refine cD ?_
  refine a7 (ay bN (aR ?_))
  refine aF (.bool (decide (((i:Nat):Int)=((j:Nat):Int)))) results126 F ?_
  exact⟨[],Sub.z,am Value.bool (by
    rw[rv8 (show op=8 by omega),iO,nj (by omega),Bool.or_false];exact decide_eq_decide.2 (by omega)),F⟩
 have af9: ¬op=8:=by omega
 refine aG bN (aj (aL F (fun hc=>?_) (fun hc=>?_)))
 ·have af_:op=9:=by omega
  obtain⟨pX,s8,pY⟩:=Lm (by omega)
  have pZ:=(List.getElem?_eq_some_iff.1 pX).1
  have wL:ja<m:=by rw[e_];exact pZ
  refine a7 (aj (aK ?_))
  refine dU (fun(k:Nat) ρ O=>O=[oI z1 72 eH]∧i≤k∧jO i u.length (fun k=>gB TA.qs i k)=jO k u.length (fun k=>gB TA.qs i k)∧dh [(0,(.agg eH.toArray)),(1,(.slice ab m ac)),(2,(.slice o.b o.qs.length o.c)),(3,(.slice wb u.length wc)),(4,vN i),(5,vN j),(6,(.pointer (aD z1))),(15,vN k),(19,.bool (decide (((op:Nat):Int)=2))),(24,.bool (decide (((op:Nat):Int)=3))),(41,.bool (decide (((op:Nat):Int)=5))),(67,.bool (decide (((op:Nat):Int)=6))),(93,.bool (decide (((op:Nat):Int)=7))),(107,.bool (decide (((op:Nat):Int)=4))),(139,.bool (decide (((op:Nat):Int)=8))),(171,.bool (decide (((op:Nat):Int)=9)))] ρ) (fun k=>u.length+1-k) i ?_ ?_
  ·exact⟨F,aI _,F,(.of F)⟩
  rintro k ρ O ⟨rfl,hk,iO,hH⟩
  obtain⟨gv,rfl⟩:=hH.elim
  clear hH
  refine br (a7 (ay (cL kR) (ae tg ?_)))
  by_cases acz:((k:Nat):Int)≤((u.length:Nat):Int)
  ·refine ae (bn aw acz) ?_
   refine ao aw (ao aw (ao bN (aX bw (aL F (fun hc=>?_) (fun hc=>?_)))))
   ·have aga:i=j:=by omega
    have Ln:k≤u.length:=by omega
    have F3:i=j:=by omega
    have je:i<TA.qs.length:=by rw[pY.len];omega
    have sy:k<TA.qs[i].xs.length:=by rw[pY.row _ (av je)];omega
    refine aE (br (aK (bo (bu dz bM) (ae (bF 0 eO) (ae (dB ja pV oY F F (a6 hA) (wL) pZ) (ae (dD ni F F hA pX) (ay (dB i ni e7 F F (a6 s8.1) je (by rw[ai];exact je)) (ae (dD eS F F s8.1 (iQ je)) (ay (dB k eS gq F F (a6 (s8.2 _ (av je))) sy (by rw[ai];exact sy)) (aX (dD uT F F (s8.2 _ (av je)) (j8 je sy)) (aL (p:=(gB TA.qs i k)=true) (am Value.bool (by cases(gB TA.qs i k)<;>rfl)) (fun hc=>?_) (fun hc=>?_))))))))))))
    ·refine br ?_
     refine a_ (aR ?_)
     refine aF (.bool true) results126 F ?_
     exact⟨[],Sub.z,am Value.bool (by
       rw[rv9 (show op=9 by omega),iO,(jM.2 ⟨k,aI _,Ln,hc⟩),aZ F3];rfl),F⟩
    refine aE (a_ (ay (dj (b:=1) k F F (by omega)) (aj ?_)))
    have Qa:(gB TA.qs i k)=false:=by first|exact Bool.eq_false_iff.2 hc
    exact⟨k+1,by omega,F,by omega,by rw[iO,nU Ln,Qa,Bool.false_or],(.of F)⟩
   have agb: ¬i=j:=by omega
   refine cD ?_
   refine aQ (aR ?_)
   refine aF (.bool false) results126 F ?_
   exact⟨[],Sub.z,am Value.bool (by
     by_cases e9:i=j
     ·rw[rv9 (show op=9 by omega),iO,nj (by omega),Bool.and_false]
     ·rw[rv9 (show op=9 by omega),a8 e9];rfl),F⟩
  refine ae (aY aw acz) (cY (cK (aX bU (bf ?_))))
  refine cD ?_
  refine aQ (aR ?_)
  refine aF (.bool false) results126 F ?_
  exact⟨[],Sub.z,am Value.bool (by
    by_cases e9:i=j
    ·rw[rv9 (show op=9 by omega),iO,nj (by omega),Bool.and_false]
    ·rw[rv9 (show op=9 by omega),a8 e9];rfl),F⟩
 have agc: ¬op=9:=by omega
 refine aG bN (aj (aL F (fun hc=>?_) (fun hc=>?_)))
 ·have agd:op=10:=by omega
  obtain⟨pX,s8,pY⟩:=Lm (by omega)
  have pZ:=(List.getElem?_eq_some_iff.1 pX).1
  have wL:ja<m:=by rw[e_];exact pZ
  refine aQ (aj (aK ?_))
  refine dU (fun(k:Nat) ρ O=>O=[oI z1 72 eH]∧0≤k∧jO 0 i (fun k=>gB TA.qs k i)=jO k i (fun k=>gB TA.qs k i)∧dh [(0,(.agg eH.toArray)),(1,(.slice ab m ac)),(2,(.slice o.b o.qs.length o.c)),(3,(.slice wb u.length wc)),(4,vN i),(5,vN j),(6,(.pointer (aD z1))),(16,vN k),(19,.bool (decide (((op:Nat):Int)=2))),(24,.bool (decide (((op:Nat):Int)=3))),(41,.bool (decide (((op:Nat):Int)=5))),(67,.bool (decide (((op:Nat):Int)=6))),(93,.bool (decide (((op:Nat):Int)=7))),(107,.bool (decide (((op:Nat):Int)=4))),(139,.bool (decide (((op:Nat):Int)=8))),(171,.bool (decide (((op:Nat):Int)=9))),(196,.bool (decide (((op:Nat):Int)=10)))] ρ) (fun k=>i+1-k) 0 ?_ ?_
  ·exact⟨F,aI _,F,(.of F)⟩
  rintro k ρ O ⟨rfl,hk,iO,hH⟩
  obtain⟨gv,rfl⟩:=hH.elim
  clear hH
  refine br (a7 (ay tg ?_))
  by_cases acA:((k:Nat):Int)≤((i:Nat):Int)
  ·refine ae (bn aw acA) ?_
   refine ao aw (ao aw (ao bN (aX bw (aL F (fun hc=>?_) (fun hc=>?_)))))
   ·have age:i=j:=by omega
    have Ln:k≤i:=by omega
    have F3:i=j:=by omega
    have HG:k<TA.qs.length:=by rw[pY.len];omega
    have Qb:i<TA.qs[k].xs.length:=by rw[pY.row _ (av HG)];omega
    refine aE (br (aK (bo (bu dz bM) (ae (bF 0 eO) (ae (dB ja pV oY F F (a6 hA) (wL) pZ) (ae (dD ni F F hA pX) (ay (dB k ni e7 F F (a6 s8.1) HG (by rw[ai];exact HG)) (ae (dD eS F F s8.1 (iQ HG)) (ay (dB i eS gq F F (a6 (s8.2 _ (av HG))) Qb (by rw[ai];exact Qb)) (aX (dD uT F F (s8.2 _ (av HG)) (j8 HG Qb)) (aL (p:=(gB TA.qs k i)=true) (am Value.bool (by cases(gB TA.qs k i)<;>rfl)) (fun hc=>?_) (fun hc=>?_))))))))))))
    ·refine br ?_
     refine a_ (aR ?_)
     refine aF (.bool true) results126 F ?_
     exact⟨[],Sub.z,am Value.bool (by
       rw[P8 (show op=10 by omega),iO,(jM.2 ⟨k,aI _,Ln,hc⟩),aZ F3];rfl),F⟩
    refine aE (a_ (ay (dj (b:=1) k F F (by omega)) (aj ?_)))
    have Qa:(gB TA.qs k i)=false:=by first|exact Bool.eq_false_iff.2 hc
    exact⟨k+1,by omega,F,by omega,by rw[iO,nU Ln,Qa,Bool.false_or],(.of F)⟩
   have agf: ¬i=j:=by omega
   refine cD ?_
   refine aQ (aR ?_)
   refine aF (.bool false) results126 F ?_
   exact⟨[],Sub.z,am Value.bool (by
     by_cases e9:i=j
     ·rw[P8 (show op=10 by omega),iO,nj (by omega),Bool.and_false]
     ·rw[P8 (show op=10 by omega),a8 e9];rfl),F⟩
  refine ae (aY aw acA) (cY (cK (aX bU (bf ?_))))
  refine cD ?_
  refine aQ (aR ?_)
  refine aF (.bool false) results126 F ?_
  exact⟨[],Sub.z,am Value.bool (by
    by_cases e9:i=j
    ·rw[P8 (show op=10 by omega),iO,nj (by omega),Bool.and_false]
    ·rw[P8 (show op=10 by omega),a8 e9];rfl),F⟩
 have agh: ¬op=10:=by omega
 refine aE (aQ (aR ?_))
 refine aF (.bool false) results126 F ?_
 exact⟨[],Sub.z,am Value.bool (by
   rw[rv0 (by show¬(2≤op∧op≤10);omega)]),F⟩
def FM (n:Nat) (M:Nat→Nat→Bool) (d i:Nat) (qs:List kw):Prop:= ∀a b,a≤b→b<n→(b-a<d∨(b-a=d∧a<i))→gB qs a b=M a b
theorem FM.step {n:Nat} {M:Nat→Nat→Bool} {d i:Nat} {qs:List kw} (h:FM n M d i qs) (hi:i<qs.length) (hj:i+d<qs[i].xs.length) {v:Bool} (hv:v=M i (i+d)):FM n M d (i+1) (qs.set i ⟨qs[i].b,qs[i].c,qs[i].xs.set (i+d) v⟩):=fun a b h2 h3 h4=>by
 rw[XU hi hj]
 by_cases e:a=i∧b=i+d
 ·rw[aB e,hv,e.1,e.2]
 ·rw[aq e]
  exact h a b h2 h3 (by omega)
theorem FM.next {n:Nat} {M:Nat→Nat→Bool} {d i:Nat} {qs:List kw} (h:FM n M d i qs) (hi:n≤i+d):FM n M (d+1) 0 qs:=fun a b h2 h3 h4=>h a b h2 h3 (by omega)
theorem S8 (X B Y:List Lx.Item) (r:Lx.Item):Lx.Sub (X++((B++[r])++Y)) (r::(X++(B++Y))):=
 ⟨r::(X++(B++Y)),by
  have h1:((B++[r])++Y).Perm (r::(B++Y)):=by rw[aV];exact List.perm_middle
  exact(h1.append_left X).trans List.perm_middle,aP _⟩
theorem S9 (w:World) [dQ prog w] (eb:Option Addr) (ec:Nat) (e:List ei) (hE:Sl w eb (bX e)) (hT:PN e) (qZ:e.length≤1000) (u:List Nat) (wb:Option Addr) (wc:Nat) (hW:Sl w wb (nY u)) (hub: ∀i,i<u.length→u.getD i 0<256) (hul:u.length≤900):
  cB prog 88 [.slice eb e.length ec,.slice wb u.length wc] w fun v N=> ∃(zA:Nat) (ts:List TR),v=.slice (aD zA) e.length e.length∧N=bJ zA e.length 91 1 (jt ts)::lS 23 4 ts∧ts.length=e.length∧Lh e u ts:=by
 refine aA func88 F ntmps88 F ?_
 refine aQ (aj (bo (cL kR) (ae (dj (b:=1) u.length F F (by omega)) (aj (bo (cL dX) (ax (fg e.length pV oY F F (by omega) (by omega) (fun zA=>?_))))))))
 refine aS (bq (aj (aK ?_)))
 refine dU (fun(k:Nat) ρ O=> ∃(ts:List TR),O=([bJ zA e.length 91 1 ((jt ts)++(List.replicate (e.length-k) (Value.slice none 0 0)))]++(lS 23 4 ts))∧k≤e.length∧ts.length=k∧Lh e u ts∧dh [(0,(.slice eb e.length ec)),(1,(.slice wb u.length wc)),(4,nS),(5,vN (u.length+1)),(6,(.slice (aD zA) e.length e.length)),(7,vN k)] ρ) (fun k=>e.length-k) 0 ?_ ?_
 ·exact⟨[],F,bj _,F,(fun k t h=>by simp at h),(.of F)⟩
 rintro k ρ O ⟨ts,rfl,hk,Ic,ld,hH⟩
 obtain⟨gv,rfl⟩:=hH.elim
 clear hH
 refine br (a7 (ay (cL dX) (aX cV (aL F (fun hc=>?_) (fun hc=>?_)))))
 ·have re:k<e.length:=by omega
  have rI:k<e.length:=by omega
  obtain⟨ja,jb,hja,hjb,S_,Ta⟩:=hT.kid k rI
  obtain⟨op,p,n,Cu⟩: ∃op p n,e[k]=⟨op,p,n,(ja:Int),(jb:Int)⟩:=⟨e[k].op,e[k].p,e[k].n,by rw[←hja,←hjb]⟩
  obtain⟨hp,hn⟩:=hT.byte _ (av rI)
  rw[Cu]at S_ Ta hp hn
  have S_:4≤op→ja<k:=S_
  have Ta:(op=4∨op=5∨op=6)→jb<k:=Ta
  have hp:p<256:=hp
  have hn:n<256:=hn
  obtain⟨TA,Lm⟩: ∃TA,4≤op→ts[ja]? =some TA:=by
   by_cases c:4≤op
   ·exact⟨ts[ja]'(by have:=S_ c;omega),fun _=>ak _⟩
   ·exact⟨⟨none,0,[]⟩,fun h=>absurd h c⟩
  obtain⟨TB,S6⟩: ∃TB,(op=4∨op=5∨op=6)→ts[jb]? =some TB:=by
   by_cases c:op=4∨op=5∨op=6
   ·exact⟨ts[jb]'(by have:=Ta c;omega),fun _=>ak _⟩
   ·exact⟨⟨none,0,[]⟩,fun h=>absurd h c⟩
  refine aE (br (aK (a7 (ax (fg ((u.length+1)) ni e7 F F (by omega) (by omega) (fun zO=>?_))))))
  refine aS (bq (aj (aK ?_)))
  refine dU (fun(s:Nat) ρ O=> ∃(qs:List kw),O=([bJ zO (u.length+1) 23 1 ((jy qs)++(List.replicate ((u.length+1)-s) (Value.slice none 0 0))),bJ zA e.length 91 1 ((jt ts)++(List.replicate (e.length-k) (Value.slice none 0 0)))]++((js 4 qs)++(lS 23 4 ts)))∧s≤(u.length+1)∧qs.length=s∧(∀q∈qs,q.xs.length=(u.length+1))∧dh [(0,(.slice eb e.length ec)),(1,(.slice wb u.length wc)),(4,nS),(5,vN (u.length+1)),(6,(.slice (aD zA) e.length e.length)),(7,vN k),(8,(.slice (aD zO) (u.length+1) (u.length+1))),(9,vN s)] ρ) (fun s=>(u.length+1)-s) 0 ?_ ?_
  ·exact⟨[],F,bj _,F,(fun q hq=>by simp at hq),(.of F)⟩
  rintro s ρ O ⟨qs,rfl,hs9,Kb,hqr,hH⟩
  obtain⟨gv,rfl⟩:=hH.elim
  clear hH
  refine br (a7 (aN (aX cV (aL F (fun hc=>?_) (fun hc=>?_)))))
  ·have qQ:s<u.length+1:=by omega
   have rQ:s<(u.length+1):=by omega
   refine aE (br (aK (a_ (aN (de (ax (fg ((u.length+1)) eS gq F F (by omega) (by omega) (fun zX=>?_))))))))
   refine ae (dB s ni e7 F F (eA 1) rQ (by simp;omega)) (ax (n7 (v:=(.slice (aD zX) (u.length+1) (u.length+1))) (vs:=[(.slice (aD zX) (u.length+1) (u.length+1))]) (cs:=(jy qs)++(List.replicate ((u.length+1)-s) (Value.slice none 0 0))) s 1 e7 F F F F F (by simp) F (by first|(simp;omega)|(simp_all;omega)) ?_))
   refine dW (O':=([bJ zX (u.length+1) 4 1 (List.replicate (u.length+1) (.bool false)),bJ zO (u.length+1) 23 1 ((jy qs)++((.slice (aD zX) (u.length+1) (u.length+1))::(List.replicate ((u.length+1)-(s+1)) (Value.slice none 0 0)))),bJ zA e.length 91 1 ((jt ts)++(List.replicate (e.length-k) (Value.slice none 0 0)))]++((js 4 qs)++(lS 23 4 ts)))) (by rw[show fC ((jy qs)++(List.replicate ((u.length+1)-s) (Value.slice none 0 0))) s [(.slice (aD zX) (u.length+1) (u.length+1))]=(jy qs)++((.slice (aD zX) (u.length+1) (u.length+1))::(List.replicate ((u.length+1)-(s+1)) (Value.slice none 0 0)))from by rw[←E6 (by simpa using Kb) rQ];simp[fC]];exact cd (aP _)) ?_
   have hR:bJ zX (u.length+1) 4 1 (List.replicate (u.length+1) (.bool false))=kw.qW 4 ⟨(aD zX),(u.length+1),List.replicate (u.length+1) false⟩:=by simp[kw.qW]
   refine dW (O':=[bJ zO (u.length+1) 23 1 ((jy qs)++((.slice (aD zX) (u.length+1) (u.length+1))::(List.replicate ((u.length+1)-(s+1)) (Value.slice none 0 0)))),bJ zA e.length 91 1 ((jt ts)++(List.replicate (e.length-k) (Value.slice none 0 0)))]++((js 4 (qs++[⟨(aD zX),(u.length+1),List.replicate (u.length+1) false⟩]))++(lS 23 4 ts))) (by rw[hR,show js 4 (qs++[⟨(aD zX),(u.length+1),List.replicate (u.length+1) false⟩])=js 4 qs++[kw.qW 4 ⟨(aD zX),(u.length+1),List.replicate (u.length+1) false⟩]from bm];exact S8 _ _ _ _) ?_
   refine bi (a_ (ay (dj (b:=1) s F F (by omega)) (aj ?_)))
   exact⟨s+1,by omega,qs++[⟨(aD zX),(u.length+1),List.replicate (u.length+1) false⟩],by simp[kw.val],by omega,by simp[Kb],(fun q hq=>by
    rcases List.mem_append.1 hq with hq|hq
    ·exact hqr q hq
    ·rw[List.mem_singleton.1 hq];simp),(.of F)⟩
  have aaK: ¬s<u.length+1:=by omega
  refine cD ?_
  refine br (aQ (aj (aK ?_)))
  have Nr:s=(u.length+1):=by omega
  have hR0:(jy qs)++(List.replicate ((u.length+1)-s) (Value.slice none 0 0))=jy qs:=by rw[show(u.length+1)-s=0 by omega];simp
  rw[hR0]
  obtain⟨qs0,hq0⟩: ∃x,x=qs:=⟨_,F⟩
  have agi:QG (u.length+1) qs0:=by rw[hq0];exact⟨by omega,hqr⟩
  rw[←hq0]
  refine dU (fun(d:Nat) ρ O=> ∃(qs:List kw),O=([bJ zO (u.length+1) 23 1 (jy qs),bJ zA e.length 91 1 ((jt ts)++(List.replicate (e.length-k) (Value.slice none 0 0)))]++((js 4 qs)++(lS 23 4 ts)))∧d≤(u.length+1)∧QG (u.length+1) qs∧FM (u.length+1) (oK u (UI e k)) d 0 qs∧dh [(0,(.slice eb e.length ec)),(1,(.slice wb u.length wc)),(4,nS),(5,vN (u.length+1)),(6,(.slice (aD zA) e.length e.length)),(7,vN k),(8,(.slice (aD zO) (u.length+1) (u.length+1))),(10,vN d)] ρ) (fun d=>(u.length+1)-d) 0 ?_ ?_
  ·exact⟨qs0,F,bj _,agi,fun a b h2 h3 h4=>by omega,(.of F)⟩
  rintro d ρ O ⟨qs,rfl,hd,Tb,YG,hH⟩
  obtain⟨gv,rfl⟩:=hH.elim
  clear hH
  refine br (a7 (aN (aX cV (aL F (fun hc=>?_) (fun hc=>?_)))))
  ·have aij:d<u.length+1:=by omega
   refine aE (br (aK (aQ (aj (aK ?_)))))
   refine dU (fun(i:Nat) ρ O=> ∃(qs:List kw),O=([bJ zO (u.length+1) 23 1 (jy qs),bJ zA e.length 91 1 ((jt ts)++(List.replicate (e.length-k) (Value.slice none 0 0)))]++((js 4 qs)++(lS 23 4 ts)))∧i≤(u.length+1)∧QG (u.length+1) qs∧FM (u.length+1) (oK u (UI e k)) d i qs∧dh [(0,(.slice eb e.length ec)),(1,(.slice wb u.length wc)),(4,nS),(5,vN (u.length+1)),(6,(.slice (aD zA) e.length e.length)),(7,vN k),(8,(.slice (aD zO) (u.length+1) (u.length+1))),(10,vN d),(11,vN i)] ρ) (fun i=>(u.length+1)-i) 0 ?_ ?_
   ·exact⟨qs,F,bj _,Tb,YG,(.of F)⟩
   rintro i ρ O ⟨qs,rfl,Lr,Tb,YG,hH⟩
   obtain⟨gv,rfl⟩:=hH.elim
   clear hH
   refine br (a7 (ay (dj (b:=d) i F F (by omega)) (aN (aX cV (aL F (fun hc=>?_) (fun hc=>?_))))))
   ·have L7:i+d<u.length+1:=by omega
    have hqn:=Tb.len
    have Tc:i<qs.length:=by omega
    have rn:=Tb.row _ (av Tc)
    have B6:i+d<qs[i].xs.length:=by omega
    refine aE (br (aK ?_))
    refine dq (Li Tc [bJ zO (u.length+1) 23 1 (jy qs),bJ zA e.length 91 1 ((jt ts)++(List.replicate (e.length-k) (Value.slice none 0 0)))] (lS 23 4 ts)) ?_
    refine fW [(0,0),(1,0),(2,0),(3,0),(4,0),(5,0),(6,0),(7,0),(8,0),(9,0),(10,0),(11,0),(12,0),(13,0),(14,0),(15,0),(16,0),(17,0),(18,1),(19,0),(20,2)] ?_
    refine ap F aw (ap F aw (ap F (dB i ni e7 F F (eA 1) (by omega) (by rw[ai];exact Tc)) (ap F (iN eS F F (eA 1) (iQ Tc)) (ap F aw (ap F aw (ap F (dj (b:=d) i F F (by omega)) (ap F aw (ap F aw (ap F (eF (i:=k) dX cR F F (a6 hE) rI (by rw[cE];omega)) (ap F (fy [v8 op,v8 p,v8 n,vN ja,vN jb] dz F cR F F (bK _) (a6 hE) (by have h9:=lA rI;rw[Cu]at h9;exact h9)) (ap F aw (ap F aw (ap F aw (ap F aw (ap F aw (ap F aw (ap F (dj (b:=d) i F F (by omega)) ?_)))))))))))))))))
    have P6:=fun(w1:World) (hI:Inv w ([az qs[i].b qs[i].c 4 1 (cO qs[i].xs),bJ zO (u.length+1) 23 1 (jy qs),bJ zA e.length 91 1 ((jt ts)++(List.replicate (e.length-k) (Value.slice none 0 0)))]++((js 4 (qs.eraseIdx i))++(lS 23 4 ts))) w1)=>(haveI:=eP hI;(by
      have h8:=afW w1 op p n ja jb hp hn (u.length+1) (by omega) TA TB ⟨(aD zO),(u.length+1),qs⟩ ((jt ts)++(List.replicate (e.length-k) (Value.slice none 0 0))) (aD zA) e.length e.length (by simp;omega) (hI.ij (mG 2)) u wb wc (hI.sl hW) hub F (fun h=>⟨by rw[bG (by rw[ai];exact(List.getElem?_eq_some_iff.1 (Lm h)).1),bl,Lm h];rfl,FB.of (L:=23) (E:=4) hI (fun it h9=>ah _ (ah _ (FC (bT (Lm h)) it h9))),(ld _ _ (Lm h)).1⟩) (fun h=>⟨by rw[bG (by rw[ai];exact(List.getElem?_eq_some_iff.1 (S6 h)).1),bl,S6 h];rfl,FB.of (L:=23) (E:=4) hI (fun it h9=>ah _ (ah _ (FC (bT (S6 h)) it h9))),(ld _ _ (S6 h)).1⟩) (FB.of (t:=⟨(aD zO),(u.length+1),qs⟩) (L:=23) (E:=4) hI (fun it h9=>(List.mem_cons.1 h9).elim (fun e9=>by rw[e9];exact bT (i:=1) F) (fun h9=>(ur Tc [bJ zO (u.length+1) 23 1 (jy qs),bJ zA e.length 91 1 ((jt ts)++(List.replicate (e.length-k) (Value.slice none 0 0)))] (lS 23 4 ts)).mem_iff.1 (ah _ (aH _ h9))))) Tb i (i+d) (by omega) (by omega)
      rw[show TR.val ⟨(aD zO),(u.length+1),qs⟩=.slice (aD zO) (u.length+1) (u.length+1)from am (fun n9=>Value.slice (aD zO) n9 (u.length+1)) hqn]at h8
      exact h8))
    refine cG F F (eh W8 (aO P6) ?_)
    clear P6
    rintro vr O' ⟨N,rfl,rfl,rfl⟩
    refine⟨by exact Sub.rf,?_⟩
    refine ap F (dB ((i+d)) eS gq F F (eA 0) B6 (by rw[ai];exact B6)) ?_
    refine cA F F (n7 (v:=.bool (kT u ⟨op,p,n,(ja:Int),(jb:Int)⟩ (gB TA.qs) (gB TB.qs) (gB qs) i (i+d))) (vs:=[(.bool (kT u ⟨op,p,n,(ja:Int),(jb:Int)⟩ (gB TA.qs) (gB TB.qs) (gB qs) i (i+d)))]) (cs:=cO qs[i].xs) ((i+d)) 0 gq F F F F F (by simp) F (by rw[ai];exact B6) ?_)
    refine fj (O':=([az qs[i].b qs[i].c 4 1 (cO (qs[i].xs.set (i+d) (kT u ⟨op,p,n,(ja:Int),(jb:Int)⟩ (gB TA.qs) (gB TB.qs) (gB qs) i (i+d)))),bJ zO (u.length+1) 23 1 (jy qs),bJ zA e.length 91 1 ((jt ts)++(List.replicate (e.length-k) (Value.slice none 0 0)))]++((js 4 (qs.eraseIdx i))++(lS 23 4 ts)))) (by rw[show fC (cO qs[i].xs) (i+d) [(.bool (kT u ⟨op,p,n,(ja:Int),(jb:Int)⟩ (gB TA.qs) (gB TB.qs) (gB qs) i (i+d)))]=cO (qs[i].xs.set (i+d) (kT u ⟨op,p,n,(ja:Int),(jb:Int)⟩ (gB TA.qs) (gB TB.qs) (gB qs) i (i+d)))from(by simp[fC])];exact cd (aP _)) ?_
    refine fj (O':=[az qs[i].b qs[i].c 4 1 (cO (qs[i].xs.set (i+d) (kT u ⟨op,p,n,(ja:Int),(jb:Int)⟩ (gB TA.qs) (gB TB.qs) (gB qs) i (i+d)))),bJ zO (u.length+1) 23 1 (jy qs),bJ zA e.length 91 1 ((jt ts)++(List.replicate (e.length-k) (Value.slice none 0 0)))]++((js 4 (qs.eraseIdx i))++(lS 23 4 ts))) (by exact Sub.rf) ?_
    refine fj (O':=[bJ zO (u.length+1) 23 1 (jy qs),bJ zA e.length 91 1 ((jt ts)++(List.replicate (e.length-k) (Value.slice none 0 0)))]++((js 4 (qs.set i ⟨qs[i].b,qs[i].c,qs[i].xs.set (i+d) (kT u ⟨op,p,n,(ja:Int),(jb:Int)⟩ (gB TA.qs) (gB TB.qs) (gB qs) i (i+d))⟩))++(lS 23 4 ts))) (PS Tc [bJ zO (u.length+1) 23 1 (jy qs),bJ zA e.length 91 1 ((jt ts)++(List.replicate (e.length-k) (Value.slice none 0 0)))] (lS 23 4 ts) ⟨qs[i].b,qs[i].c,qs[i].xs.set (i+d) (kT u ⟨op,p,n,(ja:Int),(jb:Int)⟩ (gB TA.qs) (gB TB.qs) (gB qs) i (i+d))⟩) ?_
    refine fj (O':=[bJ zO (u.length+1) 23 1 (jy (qs.set i ⟨qs[i].b,qs[i].c,qs[i].xs.set (i+d) (kT u ⟨op,p,n,(ja:Int),(jb:Int)⟩ (gB TA.qs) (gB TB.qs) (gB qs) i (i+d))⟩)),bJ zA e.length 91 1 ((jt ts)++(List.replicate (e.length-k) (Value.slice none 0 0)))]++((js 4 (qs.set i ⟨qs[i].b,qs[i].c,qs[i].xs.set (i+d) (kT u ⟨op,p,n,(ja:Int),(jb:Int)⟩ (gB TA.qs) (gB TB.qs) (gB qs) i (i+d))⟩))++(lS 23 4 ts))) (by rw[Hy Tc (by simp)];exact Sub.rf) ?_
    refine cy ?_
    refine a_ (ay (dj (b:=1) i F F (by omega)) (aj ?_))
    exact⟨i+1,by omega,qs.set i ⟨qs[i].b,qs[i].c,qs[i].xs.set (i+d) (kT u ⟨op,p,n,(ja:Int),(jb:Int)⟩ (gB TA.qs) (gB TB.qs) (gB qs) i (i+d))⟩,F,by omega,Tb.set Tc (by simp;omega),YG.step Tc B6 (SW hT ld rI (by rw[ak rI,Cu]) F F Lm S6 (by omega) (by omega) (fun a h1 h2=>YG a (i+d) h2 (by omega) (.inl (by omega)))),(.of F)⟩
   have AY: ¬i+d<u.length+1:=by omega
   refine cD ?_
   refine a_ (ay (dj (b:=1) d F F (by omega)) (aj ?_))
   exact⟨d+1,by omega,qs,F,by omega,Tb,YG.next (by omega),(.of F)⟩
  have aik: ¬d<u.length+1:=by omega
  refine cD ?_
  refine a_ (de (ay (dB k pV oY F F (eA 1) rI (by simp;omega)) (ax (n7 (v:=(.slice (aD zO) (u.length+1) (u.length+1))) (vs:=[(.slice (aD zO) (u.length+1) (u.length+1))]) (cs:=(jt ts)++(List.replicate (e.length-k) (Value.slice none 0 0))) k 1 oY F F F F F (by simp) F (by first|(simp;omega)|(simp_all;omega)) ?_))))
  refine dW (O':=([bJ zO (u.length+1) 23 1 (jy qs),bJ zA e.length 91 1 ((jt ts)++((.slice (aD zO) (u.length+1) (u.length+1))::(List.replicate (e.length-(k+1)) (Value.slice none 0 0))))]++((js 4 qs)++(lS 23 4 ts)))) (by rw[show fC ((jt ts)++(List.replicate (e.length-k) (Value.slice none 0 0))) k [(.slice (aD zO) (u.length+1) (u.length+1))]=(jt ts)++((.slice (aD zO) (u.length+1) (u.length+1))::(List.replicate (e.length-(k+1)) (Value.slice none 0 0)))from by rw[←E6 (by simpa using Ic) rI];simp[fC]];exact cd (aP _)) ?_
  have agj:=Tb.len
  refine dW (O':=[bJ zA e.length 91 1 ((jt ts)++((.slice (aD zO) (u.length+1) (u.length+1))::(List.replicate (e.length-(k+1)) (Value.slice none 0 0)))),bJ zO (u.length+1) 23 1 (jy qs)]++((js 4 qs)++(lS 23 4 ts))) (by exact Sub.fz [bJ zO (u.length+1) 23 1 (jy qs)] _ (.k .rf)) ?_
  refine dW (O':=[bJ zA e.length 91 1 ((jt (ts++[⟨(aD zO),(u.length+1),qs⟩]))++(List.replicate (e.length-(k+1)) (Value.slice none 0 0)))]++(lS 23 4 (ts++[⟨(aD zO),(u.length+1),qs⟩]))) (by
   rw[Le,show(jt (ts++[⟨(aD zO),(u.length+1),qs⟩]))++(List.replicate (e.length-(k+1)) (Value.slice none 0 0))=(jt ts)++((.slice (aD zO) (u.length+1) (u.length+1))::(List.replicate (e.length-(k+1)) (Value.slice none 0 0))) by simp[TR.val,agj]]
   exact PT _ _ _ _) ?_
  refine bi (a_ (ay (dj (b:=1) k F F (by omega)) (aj ?_)))
  exact⟨k+1,by omega,ts++[⟨(aD zO),(u.length+1),qs⟩],F,by omega,by simp[Ic],ld.snoc (by rw[Ic];exact⟨Tb,fun a b h1 h2=>YG a b h1 h2 (.inl (by omega))⟩),(.of F)⟩
 have rh: ¬k<e.length:=by omega
 refine cD ?_
 refine a7 (aR ?_)
 refine aF (.slice (aD zA) e.length e.length) results88 F ?_
 have hR1:(jt ts)++(List.replicate (e.length-k) (Value.slice none 0 0))=jt ts:=by rw[show e.length-k=0 by omega];simp
 rw[hR1]
 exact⟨[bJ zA e.length 91 1 (jt ts)]++(lS 23 4 ts),Sub.rf,zA,ts,F,F,by omega,ld⟩
theorem Lo (w:World) [dQ prog w] (eb:Option Addr) (ec:Nat) (e:List ei) (hE:Sl w eb (bX e)) (qZ:e.length<4611686018427387904) (mh: ∀x∈e,x.p<256∧x.n<256) (vars:Int) (wb:Option Addr) (wc:Nat) (l:List Nat) (hW:Sl w wb (nY l)) (Dg:l.length<9223372036854775807) (xM: ∀x∈l,x<256) (h9:mE vars e l≠0):
  cB prog 53 [(.slice eb e.length ec),vI vars,(.slice wb l.length wc)] w fun v N=>v=.tuple #[nS,vN (mE vars e l)]∧N=[]:=by
 refine aA func53 F ntmps53 F ?_
 refine aQ (aS (aj (a7 (de ?_))))
 have Qc:=fun(w1:World) (hI:Inv w [] w1)=>(haveI:=eP hI;P7 w1 eb ec e (hI.sl hE) qZ mh vars wb wc l (hI.sl hW) Dg xM)
 refine TO.lc Us (aO Qc) ?_
 clear Qc
 rintro vr O' ⟨N,rfl,rfl,rfl⟩
 refine aS (bq (aN (aX (bn d_ (by omega)) ?_)))
 refine bW ?_
 refine a7 (aS (aR ?_))
 refine dr nS (vN (mE vars e l)) results53 F F ?_
 exact⟨[],Sub.z,F,F⟩
theorem Qd (w:World) [dQ prog w] (eb:Option Addr) (ec:Nat) (e:List ei) (hE:Sl w eb (bX e)) (qZ:e.length<4611686018427387904) (mh: ∀x∈e,x.p<256∧x.n<256) (vars:Int) (wb:Option Addr) (wc:Nat) (l:List Nat) (hW:Sl w wb (nY l)) (Dg:l.length<9223372036854775807) (xM: ∀x∈l,x<256) (h9:mE vars e l=0):
  cB prog 53 [(.slice eb e.length ec),vI vars,(.slice wb l.length wc)] w fun v N=> ∃t:TR,v=.tuple #[t.val,vI 0]∧N=t.cw 23 4∧XV (l.length+1) t (oK l (UI e (e.length-1))):=by
 refine aA func53 F ntmps53 F ?_
 obtain⟨z1,z2,z3⟩:=SX h9
 obtain⟨_,_,HL,ad5,_⟩:=nG z1
 refine aQ (aS (aj (a7 (de ?_))))
 have Qc:=fun(w1:World) (hI:Inv w [] w1)=>(haveI:=eP hI;P7 w1 eb ec e (hI.sl hE) qZ mh vars wb wc l (hI.sl hW) Dg xM)
 refine TO.lc Us (aO Qc) ?_
 clear Qc
 rintro vr O' ⟨N,rfl,rfl,rfl⟩
 refine aS (bq (aN (aX (aY d_ (by omega)) (bf (aE (a7 (aN ?_)))))))
 have acB:=fun(w1:World) (hI:Inv w [] w1)=>(haveI:=eP hI;S9 w1 eb ec e (hI.sl hE) (acq z1 mh) (by omega) l wb wc (hI.sl hW) (fun i hi=>by rw[au,ak hi];exact xM _ (av hi)) (by omega))
 refine TO.lc abA (aO acB) ?_
 clear acB
 rintro vr O' ⟨N,rfl,zA,ts,rfl,rfl,Ic,ld⟩
 obtain⟨t,ht⟩: ∃t,ts[e.length-1]? =some t:=⟨_,ak (by omega)⟩
 let eH:Lx.Item:=bJ zA e.length 91 1 (jt ts)
 refine dW (O':=([eH]++(lS 23 4 ts))) (by exact gR [eH] _ (lS 23 4 ts)) ?_
 refine ay (cL dX) (ae (cg (ga F F (by omega)) (v':=vN (e.length-1)) (am (Value.int .i64) (by omega))) (ae (dB ((e.length-1)) pV oY F F (eA 0) (by omega) (by rw[ai];omega)) ?_))
 refine ae (iN ni F F (eA 0) (show(jt ts)[e.length-1]? =some t.val by rw[bl,ht];rfl)) (aS (aS ?_))
 refine dP ?_
 refine dr (.slice t.b t.qs.length t.c) (vI 0) results53 F F ?_
 exact⟨t.cw 23 4,PO (bT ht) [eH],t,F,F,ld _ _ ht⟩
theorem Td (w:World) [dQ prog w] (eb:Option Addr) (ec:Nat) (e:List ei) (hE:Sl w eb (bX e)) (qZ:e.length<4611686018427387904) (mh: ∀x∈e,x.p<256∧x.n<256) (vars:Int) (wb:Option Addr) (wc:Nat) (l:List Nat) (hW:Sl w wb (nY l)) (Dg:l.length<9223372036854775807) (xM: ∀x∈l,x<256) (h9:mE vars e l≠0):
  cB prog 24 [(.slice eb e.length ec),vI vars,(.slice wb l.length wc)] w fun v N=>v=.tuple #[.bool (mV vars e l),vN (mE vars e l)]∧N=[]:=by
 refine aA func24 F ntmps24 F ?_
 refine aQ (aS (aj (a7 (de ?_))))
 have u_:=fun(w1:World) (hI:Inv w [] w1)=>(haveI:=eP hI;Lo w1 eb ec e (hI.sl hE) qZ mh vars wb wc l (hI.sl hW) Dg xM h9)
 refine TO.lc Up (aO u_) ?_
 clear u_
 rintro vr O' ⟨N,rfl,rfl,rfl⟩
 refine ay (bI _) (ae (bI _) (aS (aS (bq (aN (aX (bn d_ (by omega)) ?_))))))
 refine bW ?_
 refine a7 (aS (aR ?_))
 refine dr (.bool false) (vN (mE vars e l)) results24 F F ?_
 exact⟨[],Sub.z,by unfold mV;rw[aq h9],F⟩
theorem Ya (w:World) [dQ prog w] (eb:Option Addr) (ec:Nat) (e:List ei) (hE:Sl w eb (bX e)) (qZ:e.length<4611686018427387904) (mh: ∀x∈e,x.p<256∧x.n<256) (vars:Int) (wb:Option Addr) (wc:Nat) (l:List Nat) (hW:Sl w wb (nY l)) (Dg:l.length<9223372036854775807) (xM: ∀x∈l,x<256) (h9:mE vars e l=0):
  cB prog 24 [(.slice eb e.length ec),vI vars,(.slice wb l.length wc)] w fun v N=>v=.tuple #[.bool (mV vars e l),vN (mE vars e l)]∧N=[]:=by
 refine aA func24 F ntmps24 F ?_
 refine aQ (aS (aj (a7 (de ?_))))
 have u_:=fun(w1:World) (hI:Inv w [] w1)=>(haveI:=eP hI;Qd w1 eb ec e (hI.sl hE) qZ mh vars wb wc l (hI.sl hW) Dg xM h9)
 refine TO.lc Up (aO u_) ?_
 clear u_
 rintro vr O' ⟨N,rfl,t,rfl,rfl,hM⟩
 have iH:=hM.1.len
 have Yb:0<t.qs.length:=by omega
 have rn:=hM.1.row _ (av Yb)
 have hnt:l.length<t.qs[0].xs.length:=by omega
 refine dW (O':=([az t.b t.c 23 1 (jy t.qs)]++(js 4 t.qs))) (by exact gR [az t.b t.c 23 1 (jy t.qs)] _ (js 4 t.qs)) ?_
 refine ay (bI _) (ae (bI _) (aS (aS (bq (aN (aX d_ (bf (aE (bo (dB 0 ni e7 F F (eA 0) Yb (by rw[ai];exact Yb)) (ae (iN eS F F (eA 0) (iQ Yb)) (aN ?_)))))))))))
 refine ae (cL kR) (ae (dB l.length eS gq F F (fun w9 hI9=>hI9.ij (UJ (E:=4) Yb _)) hnt (by rw[ai];exact hnt)) (ae (iN uT F F (fun w9 hI9=>hI9.ij (UJ (E:=4) Yb _)) (j8 Yb hnt)) (aS (aR ?_))))
 refine dr (.bool (gB t.qs 0 l.length)) (vI 0) results24 F F ?_
 exact⟨[],Sub.z,by unfold mV;rw[aB h9,h9,hM.2 0 l.length (bj _) (by omega)];rfl,F⟩
theorem ab6 (w:World) [dQ prog w] (eb:Option Addr) (ec:Nat) (e:List ei) (hE:Sl w eb (bX e)) (qZ:e.length<4611686018427387904) (mh: ∀x∈e,x.p<256∧x.n<256) (vars:Int) (wb:Option Addr) (wc:Nat) (l:List Nat) (hW:Sl w wb (nY l)) (Dg:l.length<9223372036854775807) (xM: ∀x∈l,x<256):
  cB prog 24 [(.slice eb e.length ec),vI vars,(.slice wb l.length wc)] w fun v N=>v=.tuple #[.bool (mV vars e l),vN (mE vars e l)]∧N=[]:=by
 by_cases h9:mE vars e l=0
 ·exact Ya w eb ec e hE qZ mh vars wb wc l hW Dg xM h9
 ·exact Td w eb ec e hE qZ mh vars wb wc l hW Dg xM h9
def Rm:List UInt8:=[40,40,91,42,93,42,41,46,40,91,97,93,46,91,42,93,41,41]
def Qn:List UInt8:=[40,40,62,40,91,42,93,46,91,98,93,41,41,46,40,91,42,93,42,41,41]
def aS3:List UInt8:=[91,42,93]
def AE:List ei:=[⟨3,0,0,0,0⟩,⟨8,0,0,0,0⟩,⟨3,1,0,0,0⟩,⟨3,0,0,0,0⟩,⟨4,0,0,2,3⟩,⟨4,0,0,1,4⟩]
def u0:List ei:=[⟨3,0,0,0,0⟩,⟨3,2,0,0,0⟩,⟨4,0,0,0,1⟩,⟨9,0,0,2,0⟩,⟨3,0,0,0,0⟩,⟨8,0,0,4,0⟩,⟨4,0,0,3,5⟩]
def H6:List ei:=[⟨3,0,0,0,0⟩]
theorem D7 {S:List UInt8} (rJ:S.length≤4096) {ia:Nat} {l:List ei} (hl:l.length≤1000) (h1:Ch S ia 91) (h2:Ch S (ia+1) 42) (h3:Ch S (ia+1+1) 93):vK 96 S ia l l.length (ia+3) (l++[(⟨3,0,0,0,0⟩:ei)]):=
 TE rJ hl h1 fun base _ rb lb n lc=>Zz base rb S rJ (ia+1) n lc lb h2 h3
theorem TI {S:List UInt8} (rJ:S.length≤4096) {ia k:Nat} {l:List ei} (hk:k<6) (hl:l.length≤1000) (h1:Ch S ia 91) (h2:Ch S (ia+1) (97+k)) (h3:Ch S (ia+1+1) 93):vK 96 S ia l l.length (ia+3) (l++[(⟨3,0|||1*2^k,0,0,0⟩:ei)]):=
 TE rJ hl h1 fun base _ rb lb n lc=>ZA base rb S rJ (ia+1) k n lc lb hk h2 h3
theorem rd1:vK 96 Rm 0 [] 5 18 AE:=by
 have hS:Rm.length≤4096:=by decide
 have a:vK 96 Rm 2 [] 0 5 (AE.take 1):=D7 hS (by decide) F F F
 have b:vK 96 Rm 1 [] 1 7 (AE.take 2):=y8 hS F (MX (ia:=2) (c0:=91) hS (by decide) F (.inr F) a F F)
 have c:vK 96 Rm 9 (AE.take 2) 2 12 (AE.take 3):=TI hS (k:=0) (by decide) (by decide) F F F
 have d:vK 96 Rm 13 (AE.take 3) 3 16 (AE.take 4):=D7 hS (by decide) F F F
 have f:vK 96 Rm 8 (AE.take 2) 4 17 (AE.take 5):=y8 hS F (H5 (ia:=9) (c0:=91) hS (by decide) F (.inr F) c F d F)
 exact y8 hS F (H5 (ia:=1) (c0:=40) hS (by decide) F (.inl F) b F f F)
theorem rd2:vK 96 Qn 0 [] 6 21 u0:=by
 have hS:Qn.length≤4096:=by decide
 have a:vK 96 Qn 4 [] 0 7 (u0.take 1):=D7 hS (by decide) F F F
 have b:vK 96 Qn 8 (u0.take 1) 1 11 (u0.take 2):=TI hS (k:=1) (by decide) (by decide) F F F
 have c:vK 96 Qn 3 [] 2 12 (u0.take 3):=y8 hS F (H5 (ia:=4) (c0:=91) hS (by decide) F (.inr F) a F b F)
 have d:vK 96 Qn 1 [] 3 13 (u0.take 4):=y8 hS F (Rk (ia:=2) hS (by decide) F c F)
 have f:vK 96 Qn 15 (u0.take 4) 4 18 (u0.take 5):=D7 hS (by decide) F F F
 have g:vK 96 Qn 14 (u0.take 4) 5 20 (u0.take 6):=y8 hS F (MX (ia:=15) (c0:=91) hS (by decide) F (.inr F) f F F)
 exact y8 hS F (H5 (ia:=1) (c0:=40) hS (by decide) F (.inl F) d F g F)
theorem rd3:vK 96 aS3 0 [] 0 3 H6:=D7 (by decide) (by decide) F F F
theorem ZG:gJ (1:Nat) AE=0:=by kernel_rfl
theorem ZH:gJ (2:Nat) u0=0:=by kernel_rfl
theorem ad7:gJ (0:Nat) H6=0:=by kernel_rfl
section
variable (w:World) [dQ prog w]
theorem ZI:cB prog 32 [(str Rm),.int .i64 ((1:Nat):Int)] w (fun v N=> ∃b c,v=.slice b AE.length c∧N=[az b c 72 5 (bX AE)]):=M4 w Rm (by decide) 1 5 (by decide) AE rd1 (by decide) ZG
theorem ZJ:cB prog 32 [(str Qn),.int .i64 ((2:Nat):Int)] w (fun v N=> ∃b c,v=.slice b u0.length c∧N=[az b c 72 5 (bX u0)]):=M4 w Qn (by decide) 2 6 (by decide) u0 rd2 (by decide) ZH
theorem ZK:cB prog 32 [(str aS3),.int .i64 ((0:Nat):Int)] w (fun v N=> ∃b c,v=.slice b H6.length c∧N=[az b c 72 5 (bX H6)]):=M4 w aS3 (by decide) 0 0 (by decide) H6 rd3 (by decide) ad7
end
theorem Zn (w:World) [dQ prog w] (d:c_) (k:DK) (h:At w d k) (hv:Valid d) (hn:d.next.length<10000) {M:c_} (hM:jD d=M):
  cB prog 14 [(dV d k)] w (fun v N=> ∃b c,v=.tuple #[.slice b (MI M).length c,vN (Q7 M)]∧N=[az b c 72 5 (bX (MI M))]):=by
 refine aA func14 F ntmps14 F ?_
 have Ka:Valid M:=by rw[←hM];exact p_ hv
 have hn4:=Ka.n4
 have Mm:=Ka.n0
 have hL:eE M≤64:=ck (by decide) (show M.vars.toNat≤6 by have:=Ka.v6;have:=Ka.v0;omega)
 have Q9:eE M≤256:=by omega
 refine aQ (ax (ef ((dC d k)) (fun z1=>?_)))
 refine aS (aj (aG (eR 0 dm bY) (TO.lc Bs (aO fun w1 hI=>(haveI:=eP hI;Bt w1 d k (hI.sE h) hv hn hM)) ?_)))
 rintro vr O' ⟨N,rfl,k2,rfl,rfl⟩
 refine ay (bI _) (ae (bI _) (ax (b_ bY (fun z2=>?_))))
 refine ax (c8 ((dC M k2)) 0 bY ?_)
 refine aS (bq (aN (aX (aY d_ (by decide)) (bf (aE (br ?_))))))
 let iB:Lx.Item:=oI z2 25 (dC M k2)
 refine dq (O':=[dI 56 4 3 M k2,iB]) (by exact Sub.fz [iB] _ (.k .z)) ?_
 refine Gs (fun DX=>?_)
 let fR:Lx.Item:=az k2.fb k2.fc 4 1 (cO M.aT)
 let gn:Lx.Item:=az k2.nb k2.nc 56 1 (dO k2.qs)
 refine dq (O':=([gn,fR,iB]++cw 3 k2.qs)) (by exact gR [gn,fR] _ (cw 3 k2.qs)) ?_
 have Kb:=MK DX
 refine a_ (ae (bu dm fx) (ae (bF 2 eY) (ae (cL eY) (aj (aG (dc [.int .u8 1,(.int .u8 0),(.int .u8 0),(vI 0),(vI 0)] oe cR (by kernel_rfl)) (TO.lc DR (aO fun w1 hI=>(haveI:=eP hI;yV w1 1 ⟨1,0,0,0,0⟩)) ?_))))))
 rintro vr O' ⟨N,rfl,q0,c0,rfl,rfl,AW,DY⟩
 have rG:gH q0 c0.r:=DY.elim id (fun h=>absurd h (by simp))
 refine dW (O':=([gn,fR,iB]++((dH 72 q0)++(cw 3 k2.qs)))) (by exact gh [] _ (dH 72 q0) (cw 3 k2.qs)) ?_
 refine ax (b_ dv (fun z3=>?_))
 refine ax (c8 c0.cells 0 dv ?_)
 refine bi (a7 (ax (fg M.next.length yZ pG F F (by omega) (by omega) (fun z4=>?_))))
 refine aS (bq (ae (bu dm fx) (ae (bF 4 eY) (ae (cL eY) (bH (aK ?_))))))
 let jz:Lx.Item:=oI z3 69 c0.cells
 let li:Value:=(.slice (aD z4) M.next.length M.next.length)
 let nF:Value:=(.pointer (aD z1))
 let Ci:Value:=(.slice k2.nb M.next.length k2.nc)
 let AC:Value:=(.pointer (aD z2))
 let y5:Value:=(.pointer (aD z3))
 refine ep (fun(R:List MR) ρ O=> ∃(p:List ER),O=([bJ z4 M.next.length 75 1 (jI R M.next.length),jz,gn,fR,iB]++(dH 72 p++(eX 69 R++cw 3 k2.qs)))∧R.length≤M.next.length∧qT R p M.next.length (mY M 0)∧gH p c0.r∧dh [(0,(dV d k)),(1,nF),(2,nS),(3,vI 0),(4,AC),(5,vI 0),(6,vI (M.next.length:Int)),(7,y5),(8,li),(38,Ci),(39,vI (M.next.length:Int)),(40,vN R.length)] ρ) (fun R=>M.next.length-R.length) [] ?_ ?_
 ·exact⟨q0,by unfold jI lJ;rfl,bj _,.nil,rG,(.of F)⟩
 rintro R ρ O ⟨p,rfl,hs,hR,rG,hH⟩
 obtain⟨gv,rfl⟩:=hH.elim
 clear hH
 have ai7:fZ c0.pp:=by rw[AW];exact yY
 refine aG cV (dJ (aL F (fun hc=>?_) (fun hc=>?_)))
 ·have wY:R.length<M.next.length:=by omega
  have xC:R.length<k2.qs.length:=by omega
  refine aE (br (aK (bo (dB R.length eY eo F F (eA 2) wY (by rw[ai];exact xC)) (ae (iN da F F (eA 2) (ML xC)) (aS (aj (a7 (bH (aK (T.fJ 69 2 ?_))))))))))
  let qM:Value:=(.slice k2.qs[R.length].b k2.qs[R.length].xs.length k2.qs[R.length].c)
  refine ep (fun(l:List PR) ρ O=> ∃(p2:List ER) (cb:Option Addr) (cc:Nat),O=([az cb cc 69 2 (eW l),bJ z4 M.next.length 75 1 (jI (R++[⟨cb,cc,l⟩]) M.next.length),jz,gn,fR,iB]++(dH 72 p2++(eX 69 R++cw 3 k2.qs)))∧l.length≤M.next.length∧xB l p2 (mY M 0 R.length)∧qT R p2 M.next.length (mY M 0)∧gH p2 c0.r∧dh [(0,(dV d k)),(1,nF),(2,nS),(3,vI 0),(4,AC),(5,vI 0),(6,vI (M.next.length:Int)),(7,y5),(8,li),(9,vN R.length),(10,qM),(38,Ci),(39,vI (M.next.length:Int)),(40,vN R.length),(45,vI (M.next.length:Int)),(46,vN l.length)] ρ) (fun l=>M.next.length-l.length) [] ?_ ?_
  ·exact⟨p,none,0,by rw[DU wY];rfl,bj _,.nil,hR,rG,(.of F)⟩
  rintro l ρ O ⟨p2,cb,cc,rfl,ht,hl,Aq,rG,hH⟩
  obtain⟨gv,rfl⟩:=hH.elim
  clear hH
  refine aG cV (dJ (aL F (fun hc=>?_) (fun hc=>?_)))
  ·have MN:l.length<M.next.length:=by omega
   refine aE (br (aK (a7 (aj (aG (eR 2 gC dv) (ax (b_ dv (fun z5=>?_))))))))
   refine ax (c8 c0.cells 0 dv ?_)
   refine bi ?_
   let kp:Lx.Item:=bJ z4 M.next.length 75 1 (jI (R++[⟨cb,cc,l⟩]) M.next.length)
   let np:Lx.Item:=az cb cc 69 2 (eW l)
   refine fF (fun ρ O=> ∃(p3:List ER) (pc:PR),Sub ([oI z5 69 pc.cells,np,kp,jz,gn,fR,iB]++(dH 72 p3++(eX 69 R++cw 3 k2.qs))) O∧pc.pp=J_ M R.length l.length 0∧gH p3 pc.r∧(∀y∈p2,y∈p3)∧dh [(0,(dV d k)),(1,nF),(2,nS),(3,vI 0),(4,AC),(5,vI 0),(6,vI (M.next.length:Int)),(7,y5),(8,li),(9,vN R.length),(10,qM),(11,vN l.length),(12,(.pointer (aD z5))),(38,Ci),(39,vI (M.next.length:Int)),(40,vN R.length),(45,vI (M.next.length:Int)),(46,vN l.length)] ρ) ?_ ?_
   ·refine br ?_
    refine a_ (de (aX bN (aL F (fun hc=>?_) (fun hc=>?_))))
    ·have Tk:R.length=l.length:=by omega
     refine a_ (ae (dc [.int .u8 2,(.int .u8 0),(.int .u8 0),(vI 0),(vI 0)] oe cR (by kernel_rfl)) (TO.lc DR (aO fun w1 hI=>(haveI:=eP hI;yV w1 2 ⟨2,0,0,0,0⟩)) ?_))
     rintro vr O' ⟨N,rfl,q1,c1,rfl,rfl,AD,DY⟩
     have Q_:gH (q1++p2) c1.r:=wW DY (fun x hx=>by simp at hx)
     refine dW (O':=([oI z5 69 c0.cells,np,kp,jz,gn,fR,iB]++((dH 72 q1)++(dH 72 p2++(eX 69 R++cw 3 k2.qs))))) (by exact gh [] _ (dH 72 q1) (dH 72 p2++(eX 69 R++cw 3 k2.qs))) ?_
     refine ax (c8 c1.cells 0 dv ?_)
     refine bi ?_
     exact⟨(q1++p2),c1,(by rw[rD,aV];exact Sub.rf),by rw[AD];unfold J_;rw[aB (by omega)];rfl,Q_,fun y hy=>ah _ hy,(.of F)⟩
    have HN: ¬R.length=l.length:=by omega
    refine aE ?_
    exact⟨p2,c0,(by exact Sub.rf),by rw[AW];unfold J_;rw[aq (by omega)];rfl,rG,fun y hy=>hy,(.of F)⟩
   rintro ρ O ⟨p3,pc,hS,FX,adQ,Ra,hH⟩
   obtain⟨gv,rfl⟩:=hH.elim
   clear hH
   refine dq hS ?_
   refine br (bo (cg (cL da) (v':=vN (eE M)) (by rw[Cg DX Ka.toVal xC])) (bH (aK ?_)))
   refine ep (fun(x:Nat) ρ O=> ∃(p4:List ER) (pd:PR),O=([oI z5 69 pd.cells,np,kp,jz,gn,fR,iB]++(dH 72 p4++(eX 69 R++cw 3 k2.qs)))∧x≤eE M∧pd.pp=J_ M R.length l.length x∧gH p4 pd.r∧(∀y∈p2,y∈p4)∧dh [(0,(dV d k)),(1,nF),(2,nS),(3,vI 0),(4,AC),(5,vI 0),(6,vI (M.next.length:Int)),(7,y5),(8,li),(9,vN R.length),(10,qM),(11,vN l.length),(12,(.pointer (aD z5))),(38,Ci),(39,vI (M.next.length:Int)),(40,vN R.length),(45,vI (M.next.length:Int)),(46,vN l.length),(55,qM),(56,vN (eE M)),(57,vN x)] ρ) (fun x=>eE M-x) 0 ?_ ?_
   ·exact⟨p3,pc,F,bj _,FX,adQ,Ra,(.of F)⟩
   rintro x ρ O ⟨p4,pd,rfl,hx,Rb,Kc,MO,hH⟩
   obtain⟨gv,rfl⟩:=hH.elim
   clear hH
   refine aG cV (dJ (aL F (fun hc=>?_) (fun hc=>?_)))
   ·have H3:x<eE M:=by omega
    refine aE (br (aK (bo (dB x da bM F F (vV (ah _ (ah _ (ah _ ((MM xC)))))) (by rw[Cg DX Ka.toVal xC];exact H3) (by rw[ai,Cg DX Ka.toVal xC];exact H3)) (ae (iN eO F F (vV (ah _ (ah _ (ah _ ((MM xC)))))) (Zm DX Ka.toVal xC H3)) (aS (aj (a7 (aN (aX bN (aL F (fun hc=>?_) (fun hc=>?_)))))))))))
    ·have agT:fm M R.length x=l.length:=by omega
     refine fW [(0,0),(1,0),(2,0),(3,0),(4,0),(5,0),(6,0),(7,0),(8,0),(9,0),(10,1),(11,2),(12,2)] ?_
     refine ap F (eR 0 gC dv) (ap F aw (ap F (gi eO il F (by first|rfl|exact gX ⟨by omega,by omega⟩|exact rA (by omega)|exact oO (by omega))) (ap F aw (ap F (cg (cL da) (v':=vN (eE M)) (by rw[Cg DX Ka.toVal xC])) (ap F (vW (a:=(eE M)) (b:=1) F F (by omega) (by omega)) (ap F aw (ap F (vW (a:=((eE M)-1)) (b:=x) F F (by omega) (by omega)) (ap F (gi eO il F (by first|rfl|exact gX ⟨by omega,by omega⟩|exact rA (by omega)|exact oO (by omega))) (ap F (dc [.int .u8 3,v8 x,v8 (((eE M)-1)-x),(vI 0),(vI 0)] oe cR (by kernel_rfl)) ?_)))))))))
     refine cG F F (eh DR (aO fun w1 hI=>(haveI:=eP hI;yV w1 0 ⟨3,x,eE M-1-x,0,0⟩)) ?_)
     rintro vr O' ⟨N,rfl,q2,c2,rfl,rfl,rH,DY⟩
     refine⟨n_ _ (by exact Sub.rf),?_⟩
     have MP:gH (q2++p4) c2.r:=wW DY (fun x hx=>by simp at hx)
     have Kc:=Kc.mono (fun y hy=>ah q2 hy)
     have adR:fZ pd.pp:=by rw[Rb];exact uR Q9 _ _ _ hx
     have Rc:fZ c2.pp:=by rw[rH];exact DS H3 Q9
     let MQ:List Lx.Item:=[oI z5 69 pd.cells,np,kp,jz,gn,fR,iB]
     refine fj (O':=(MQ++((dH 72 q2)++(dH 72 p4++(eX 69 R++cw 3 k2.qs))))) (by exact gh [] _ (dH 72 q2) (dH 72 p4++(eX 69 R++cw 3 k2.qs))) ?_
     refine cA F F (eh MS (aO fun w1 hI=>(haveI:=eP hI;Vq w1 pd c2 (gH.sl (T:=72) hI (lY (fun it gf=>ah _ (aH _ gf)) (fun it gf=>ah _ (ah _ (aH _ gf)))) Kc) adR (gH.sl (T:=72) hI (lY (fun it gf=>ah _ (aH _ gf)) (fun it gf=>ah _ (ah _ (aH _ gf)))) MP) Rc)) ?_)
     rintro vr O' ⟨N,rfl,q3,c3,rfl,rfl,hc3,DY⟩
     have Re:gH (q3++(q2++p4)) c3.r:=wW DY (fun x hx=>by simp only[dt,List.not_mem_nil,or_false]at hx;rcases hx with rfl|rfl;exact Kc;exact MP)
     
     refine fj (O':=(MQ++((dH 72 q3)++((dH 72 q2)++(dH 72 p4++(eX 69 R++cw 3 k2.qs)))))) (by exact gh [] _ (dH 72 q3) ((dH 72 q2)++(dH 72 p4++(eX 69 R++cw 3 k2.qs)))) ?_
     refine cA F F (c8 c3.cells 0 dv ?_)
     refine fj (O':=([oI z5 69 c3.cells,np,kp,jz,gn,fR,iB]++(dH 72 (q3++(q2++p4))++(eX 69 R++cw 3 k2.qs)))) (by simp only[rD,aV];exact Sub.rf) ?_
     refine cy ?_
     refine a_ (ae (dj (b:=1) x F F (by omega)) (bH ?_))
     have e9:c3.pp=J_ M R.length l.length (x+1):=by rw[hc3,rH,Rb,J_,aB (by omega)];rfl
     exact⟨x+1,by omega,[oI z5 69 c3.cells,np,kp,jz,gn,fR,iB]++(dH 72 (q3++(q2++p4))++(eX 69 R++cw 3 k2.qs)),(by exact Sub.rf),(q3++(q2++p4)),c3,F,by omega,e9,Re,fun y hy=>ah _ (ah _ (MO y hy)),(.of F)⟩
    have agU: ¬fm M R.length x=l.length:=by omega
    refine aE (a_ (ae (dj (b:=1) x F F (by omega)) (bH ?_)))
    exact⟨x+1,by omega,[oI z5 69 pd.cells,np,kp,jz,gn,fR,iB]++(dH 72 p4++(eX 69 R++cw 3 k2.qs)),(by exact Sub.rf),p4,pd,F,by omega,by unfold J_;rw[aq (by omega)];exact Rb,Kc,MO,(.of F)⟩
   have agV: ¬x<eE M:=by omega
   refine cD ?_
   refine T.ds ([oI z5 69 pd.cells,kp,jz,gn,fR,iB]++(dH 72 p4++(eX 69 R++cw 3 k2.qs))) [(0,0),(1,0),(2,0),(3,0),(4,0),(5,0),(6,0),(7,1),(8,1),(9,0),(10,2)] (by exact Sub.k (.d (.k (.k (.k (.k (.k .rf))))))) ?_
   refine ap F aw (ap F aw (ap F aw (ap F aw (ap F (dB R.length yZ pG F F (eA 1) wY (by rw[mZ (by simp;omega)];exact wY)) (ap F (iN mW F F (eA 1) (DV (by omega) ⟨cb,cc,l⟩)) (ap F (eR 0 gC dv) ?_))))))
   refine cG F F (cP (m:=1) (parts:=[(0,_)]) (cs:=pd.cells) mW dv (by decide) (by kernel_rfl) F (fun z6=>⟨by exact Sub.d (.k (.d (.k (.k (.k (.k (.k .rf))))))),?_⟩))
   refine cG F F (dE 2 mW mW dv F F F F (by rw[iJ]) (by decide) (Src.row (j:=0) F (by simp)) (by simp[fS]) (by dsimp only;omega) (by decide) (by decide) (fun z7 DZ=>⟨by exact Sub.d (.k (.d (.k (.k (.k (.k (.k .rf))))))),?_⟩))
   refine ap F (dB R.length yZ pG F F (eA 1) wY (by rw[mZ (by simp;omega)];exact wY)) ?_
   refine cA F F (n7 (v:=(.slice z7 (l.length+1) DZ)) (vs:=[(.slice z7 (l.length+1) DZ)]) (cs:=jI (R++[⟨cb,cc,l⟩]) M.next.length) R.length 3 pG F F F F F (by simp) F (by rw[mZ (by simp;omega)];simp;omega) ?_)
   let Kd:Lx.Item:=bJ z4 M.next.length 75 1 (jI (R++[⟨z7,DZ,l++[pd]⟩]) M.next.length)
   refine fj (O':=([bJ z6 1 69 2 pd.cells,oI z5 69 pd.cells,az z7 DZ 69 2 ((eW l)++pd.cells),Kd,jz,gn,fR,iB]++(dH 72 p4++(eX 69 R++cw 3 k2.qs)))) (by rw[show fC (jI (R++[⟨cb,cc,l⟩]) M.next.length) R.length [(.slice z7 (l.length+1) DZ)]=jI (R++[⟨z7,DZ,l++[pd]⟩]) M.next.length from(by rw[←Br (by omega) ⟨cb,cc,l⟩ ⟨z7,DZ,l++[pd]⟩,show(⟨z7,DZ,l++[pd]⟩:MR).val=.slice z7 (l.length+1) DZ by simp[MR.val]];rfl)];exact cd (aP _)) ?_
   refine cy ?_
   refine a_ (ae (dj (b:=1) l.length F F (by omega)) (bH ?_))
   exact⟨l++[pd],by simp;omega,[az z7 DZ 69 2 (eW (l++[pd])),Kd,jz,gn,fR,iB]++(dH 72 p4++(eX 69 R++cw 3 k2.qs)),(by rw[uP];exact(by exact Sub.d (.d (.k (.k (.k (.k (.k (.k .rf))))))))),p4,z7,DZ,F,by simp;omega,(hl.mono MO).snoc (Rb.trans (by rw[show x=eE M by omega];rfl)) Kc,Aq.mono MO,rG.mono MO,⟨F,F,F,F,F,F,F,F,F,F,F,F,F,F,F,(am (fun n9:Nat=>Value.int .i64 ((n9:Nat):Int)) (show l.length+1=(l++[pd]).length by simp)),trivial⟩⟩
  have MT: ¬l.length<M.next.length:=by omega
  refine cD ?_
  refine a_ (ae (dj (b:=1) R.length F F (by omega)) (bH ?_))
  have Lq:l.length=M.next.length:=by omega
  exact⟨R++[⟨cb,cc,l⟩],by simp;omega,[bJ z4 M.next.length 75 1 (jI (R++[⟨cb,cc,l⟩]) M.next.length),jz,gn,fR,iB]++(dH 72 p2++(eX 69 (R++[⟨cb,cc,l⟩])++cw 3 k2.qs)),(by rw[DT];exact wX [bJ z4 M.next.length 75 1 (jI (R++[⟨cb,cc,l⟩]) M.next.length),oI z3 69 c0.cells,az k2.nb k2.nc 56 1 (dO k2.qs),az k2.fb k2.fc 4 1 (cO M.aT),oI z2 25 (dC M k2)] [az cb cc 69 2 (eW l),bJ z4 M.next.length 75 1 (jI (R++[⟨cb,cc,l⟩]) M.next.length),oI z3 69 c0.cells,az k2.nb k2.nc 56 1 (dO k2.qs),az k2.fb k2.fc 4 1 (cO M.aT),oI z2 25 (dC M k2)] (dH 72 p2) (eX 69 R) (cw 3 k2.qs) (az cb cc 69 2 (eW l)) (by exact Sub.fz [az cb cc 69 2 (eW l)] _ (.fz [az cb cc 69 2 (eW l)] _ (.fz [az cb cc 69 2 (eW l)] _ (.fz [az cb cc 69 2 (eW l)] _ (.fz [az cb cc 69 2 (eW l)] _ (.k .z))))))),p2,F,by simp;omega,Aq.snoc Lq hl,rG,⟨F,F,F,F,F,F,F,F,F,F,F,(am (fun n9:Nat=>Value.int .i64 ((n9:Nat):Int)) (show R.length+1=(R++[(⟨cb,cc,l⟩:MR)]).length by simp)),trivial⟩⟩
 have Ty: ¬R.length<M.next.length:=by omega
 refine cD ?_
 refine br (a7 (bH (aK ?_)))
 have hRn:R.length=M.next.length:=by omega
 have heV:=Bq hRn
 refine ep (fun(k9:Nat) ρ O=> ∃(R:List MR) (p:List ER) (ob:Option Addr) (oc:Nat),O=([az ob oc 75 1 (lJ R),jz,gn,fR,iB]++(dH 72 p++(eX 69 R++cw 3 k2.qs)))∧k9≤M.next.length∧R.length=M.next.length∧qT R p M.next.length (mY M k9)∧gH p c0.r∧dh [(0,(dV d k)),(1,nF),(2,nS),(3,vI 0),(4,AC),(5,vI 0),(6,vI (M.next.length:Int)),(7,y5),(8,(.slice ob M.next.length oc)),(90,vI (M.next.length:Int)),(91,vN k9)] ρ) (fun k9=>M.next.length-k9) 0 ?_ ?_
 ·exact⟨R,p,(aD z4),M.next.length,by rw[heV],bj _,hRn,hR,rG,(.of F)⟩
 rintro k9 ρ O ⟨R,p,ob,oc,rfl,rI,hRn,hR,rG,hH⟩
 obtain⟨gv,rfl⟩:=hH.elim
 clear hH
 refine aG cV (dJ (aL F (fun hc=>?_) (fun hc=>?_)))
 ·have Tz:k9<M.next.length:=by omega
  refine aE (br (aK (a7 (aj (a7 (ax (fg M.next.length yZ pG F F (by omega) (by omega) (fun z9=>?_))))))))
  refine aS (bq (aN (bH (aK ?_))))
  let lZ:Lx.Item:=az ob oc 75 1 (lJ R)
  refine ep (fun(R2:List MR) ρ O=> ∃(p2:List ER),O=([bJ z9 M.next.length 75 1 (jI R2 M.next.length),lZ,jz,gn,fR,iB]++(dH 72 p2++(eX 69 R2++(eX 69 R++cw 3 k2.qs))))∧R2.length≤M.next.length∧qT R2 p2 M.next.length (mY M (k9+1))∧qT R p2 M.next.length (mY M k9)∧gH p2 c0.r∧dh [(0,(dV d k)),(1,nF),(2,nS),(3,vI 0),(4,AC),(5,vI 0),(6,vI (M.next.length:Int)),(7,y5),(8,(.slice ob M.next.length oc)),(15,vN k9),(16,(.slice (aD z9) M.next.length M.next.length)),(90,vI (M.next.length:Int)),(91,vN k9),(96,vI (M.next.length:Int)),(97,vN R2.length)] ρ) (fun R2=>M.next.length-R2.length) [] ?_ ?_
  ·exact⟨p,by unfold jI lJ;rfl,bj _,.nil,hR,rG,(.of F)⟩
  rintro R2 ρ O ⟨p2,rfl,hs,Aq,hR,rG,hH⟩
  obtain⟨gv,rfl⟩:=hH.elim
  clear hH
  refine aG cV (dJ (aL F (fun hc=>?_) (fun hc=>?_)))
  ·have D0:R2.length<M.next.length:=by omega
   refine aE (br (aK (a7 (aj (a7 (bH (aK (T.fJ 69 2 ?_))))))))
   refine ep (fun(l:List PR) ρ O=> ∃(p3:List ER) (cb:Option Addr) (cc:Nat),O=([az cb cc 69 2 (eW l),bJ z9 M.next.length 75 1 (jI (R2++[⟨cb,cc,l⟩]) M.next.length),lZ,jz,gn,fR,iB]++(dH 72 p3++(eX 69 R2++(eX 69 R++cw 3 k2.qs))))∧l.length≤M.next.length∧xB l p3 (mY M (k9+1) R2.length)∧qT R2 p3 M.next.length (mY M (k9+1))∧qT R p3 M.next.length (mY M k9)∧gH p3 c0.r∧dh [(0,(dV d k)),(1,nF),(2,nS),(3,vI 0),(4,AC),(5,vI 0),(6,vI (M.next.length:Int)),(7,y5),(8,(.slice ob M.next.length oc)),(15,vN k9),(16,(.slice (aD z9) M.next.length M.next.length)),(17,vN R2.length),(90,vI (M.next.length:Int)),(91,vN k9),(96,vI (M.next.length:Int)),(97,vN R2.length),(100,vI (M.next.length:Int)),(101,vN l.length)] ρ) (fun l=>M.next.length-l.length) [] ?_ ?_
   ·exact⟨p2,none,0,by rw[DU D0];rfl,bj _,.nil,Aq,hR,rG,(.of F)⟩
   rintro l ρ O ⟨p3,cb,cc,rfl,ht,hl,Zo,Bu,rG,hH⟩
   obtain⟨gv,rfl⟩:=hH.elim
   clear hH
   refine aG cV (dJ (aL F (fun hc=>?_) (fun hc=>?_)))
   ·have MU:l.length<M.next.length:=by omega
    have B8:R2.length<R.length:=by omega
    have qU:k9<R.length:=by omega
    obtain⟨a1,ea1,Qm,D3⟩:=Bu.at B8 MU
    obtain⟨a2,ea2,Vs,Rf⟩:=Bu.at B8 Tz
    obtain⟨a3,ea3,ha3,Zp⟩:=Bu.at qU Tz
    obtain⟨a4,ea4,ha4,Ke⟩:=Bu.at qU MU
    have adT:fZ a1.pp:=by rw[Qm];exact jv Q9 _ _ _
    have Zq:fZ a2.pp:=by rw[Vs];exact jv Q9 _ _ _
    have Zr:fZ a3.pp:=by rw[ha3];exact jv Q9 _ _ _
    have Zs:fZ a4.pp:=by rw[ha4];exact jv Q9 _ _ _
    have ajc:=Bu.len _ (av B8)
    have ajd:=Bu.len _ (av qU)
    refine aE (br (aK (a7 (aj ?_))))
    let eH:List Lx.Item:=[bJ z9 M.next.length 75 1 (jI (R2++[⟨cb,cc,l⟩]) M.next.length),az ob oc 75 1 (lJ R),oI z3 69 c0.cells,az k2.nb k2.nc 56 1 (dO k2.qs),az k2.fb k2.fc 4 1 (cO M.aT),oI z2 25 (dC M k2)]
    refine T.ds (eH++(dH 72 p3++(eX 69 R2++(eX 69 R++cw 3 k2.qs)))) [(0,0),(1,0),(2,0),(3,0),(4,0),(5,0),(6,0),(7,0),(8,0),(9,0),(10,0),(11,0),(12,0),(13,0),(14,0),(15,0),(16,0),(17,0),(18,0),(19,0),(20,0),(21,0),(22,0),(23,0),(24,0),(25,0),(26,0),(29,0),(30,0),(31,0),(32,0),(33,0),(34,0),(35,0),(27,1),(28,1),(36,1),(37,1),(38,1),(39,1),(40,0),(41,2)] (by exact Sub.d (.k (.k (.k (.k (.k (.k .rf))))))) ?_
    refine ap F aw (ap F aw (ap F aw (ap F aw (ap F (dB R2.length yZ pG F F (eA 0) D0 (by rw[mZ (by simp;omega)];exact D0)) (ap F (iN mW F F (eA 0) (DV (by omega) ⟨cb,cc,l⟩)) (ap F aw (ap F aw (ap F (dB R2.length yZ pG F F (eA 1) (by omega) (by rw[pF];exact B8)) (ap F (iN mW F F (eA 1) (pE B8)) (ap F aw (ap F (eF (i:=l.length) mW dv F F (vV (ah _ (ah _ (ah _ (aH _ (lh B8)))))) (by omega) (by rw[iJ];omega)) (ap F (fy a1.cells gC F dv F F (bK _) (vV (ah _ (ah _ (ah _ (aH _ (lh B8)))))) (og ea1)) (ap F aw (ap F aw (ap F (dB R2.length yZ pG F F (eA 1) (by omega) (by rw[pF];exact B8)) (ap F (iN mW F F (eA 1) (pE B8)) (ap F aw (ap F (eF (i:=k9) mW dv F F (vV (ah _ (ah _ (ah _ (aH _ (lh B8)))))) (by omega) (by rw[iJ];omega)) (ap F (fy a2.cells gC F dv F F (bK _) (vV (ah _ (ah _ (ah _ (aH _ (lh B8)))))) (og ea2)) (ap F aw (ap F aw (ap F (dB k9 yZ pG F F (eA 1) (by omega) (by rw[pF];exact qU)) (ap F (iN mW F F (eA 1) (pE qU)) (ap F aw (ap F (eF (i:=k9) mW dv F F (vV (ah _ (ah _ (ah _ (aH _ (lh qU)))))) (by omega) (by rw[iJ];omega)) (ap F (fy a3.cells gC F dv F F (bK _) (vV (ah _ (ah _ (ah _ (aH _ (lh qU)))))) (og ea3)) (ap F aw (ap F aw (ap F (dB k9 yZ pG F F (eA 1) (by omega) (by rw[pF];exact qU)) (ap F (iN mW F F (eA 1) (pE qU)) (ap F aw ?_)))))))))))))))))))))))))))))))
    refine ap F (eF (i:=l.length) mW dv F F (vV (ah _ (ah _ (ah _ (aH _ (lh qU)))))) (by omega) (by rw[iJ];omega)) (ap F (fy a4.cells gC F dv F F (bK _) (vV (ah _ (ah _ (ah _ (aH _ (lh qU)))))) (og ea4)) ?_)
    refine cG F F (eh Zt (aO fun w1 hI=>(haveI:=eP hI;Vr w1 a3 (gH.sl (T:=72) hI (fun it gf=>ah _ (aH _ gf)) Zp) Zr)) ?_)
    rintro vr O' ⟨N,rfl,q1,c1,rfl,rfl,AD,DY⟩
    refine⟨n_ _ (by exact Sub.d (.k (.k (.k (.k (.k (.k .rf))))))),?_⟩
    have Q_:gH (q1++p3) c1.r:=wW DY (fun x hx=>by simp only[dt,List.not_mem_nil,or_false]at hx;rcases hx with rfl;exact Zp)
    have Zu:fZ c1.pp:=by rw[AD];exact yU Zr
    have D3:=D3.mono (fun y hy=>ah q1 hy)
    have Rf:=Rf.mono (fun y hy=>ah q1 hy)
    have Ke:=Ke.mono (fun y hy=>ah q1 hy)
    let gd:List Lx.Item:=[az cb cc 69 2 (eW l),bJ z9 M.next.length 75 1 (jI (R2++[⟨cb,cc,l⟩]) M.next.length),az ob oc 75 1 (lJ R),oI z3 69 c0.cells,az k2.nb k2.nc 56 1 (dO k2.qs),az k2.fb k2.fc 4 1 (cO M.aT),oI z2 25 (dC M k2)]
    refine fj (O':=(gd++((dH 72 q1)++(dH 72 p3++(eX 69 R2++(eX 69 R++cw 3 k2.qs)))))) (by exact gh [] _ (dH 72 q1) (dH 72 p3++(eX 69 R2++(eX 69 R++cw 3 k2.qs)))) ?_
    refine cG F F (eh TC (aO fun w1 hI=>(haveI:=eP hI;Tx w1 a2 c1 (gH.sl (T:=72) hI (lY (fun it gf=>ah _ (aH _ gf)) (fun it gf=>ah _ (ah _ (aH _ gf)))) Rf) Zq (gH.sl (T:=72) hI (lY (fun it gf=>ah _ (aH _ gf)) (fun it gf=>ah _ (ah _ (aH _ gf)))) Q_) Zu)) ?_)
    rintro vr O' ⟨N,rfl,q2,c2,rfl,rfl,rH,DY⟩
    refine⟨n_ _ (fP eH gd (dH 72 q1) (dH 72 p3++(eX 69 R2++(eX 69 R++cw 3 k2.qs))) (by exact Sub.d (.k (.k (.k (.k (.k (.k .z)))))))),?_⟩
    have MP:gH (q2++(q1++p3)) c2.r:=wW DY (fun x hx=>by simp only[dt,List.not_mem_nil,or_false]at hx;rcases hx with rfl|rfl;exact Rf;exact Q_)
    have Rc:fZ c2.pp:=by rw[rH];exact sG Zq Zu
    have D3:=D3.mono (fun y hy=>ah q2 hy)
    have Ke:=Ke.mono (fun y hy=>ah q2 hy)
    refine fj (O':=(gd++((dH 72 q2)++((dH 72 q1)++(dH 72 p3++(eX 69 R2++(eX 69 R++cw 3 k2.qs))))))) (by exact gh [] _ (dH 72 q2) ((dH 72 q1)++(dH 72 p3++(eX 69 R2++(eX 69 R++cw 3 k2.qs))))) ?_
    refine cG F F (eh TC (aO fun w1 hI=>(haveI:=eP hI;Tx w1 c2 a4 (gH.sl (T:=72) hI (lY (fun it gf=>ah _ (aH _ gf)) (lY (fun it gf=>ah _ (ah _ (aH _ gf))) (fun it gf=>ah _ (ah _ (ah _ (aH _ gf)))))) MP) Rc (gH.sl (T:=72) hI (lY (fun it gf=>ah _ (aH _ gf)) (lY (fun it gf=>ah _ (ah _ (aH _ gf))) (fun it gf=>ah _ (ah _ (ah _ (aH _ gf)))))) Ke) Zs)) ?_)
    rintro vr O' ⟨N,rfl,q3,c3,rfl,rfl,hc3,DY⟩
    refine⟨n_ _ ((fP eH eH (dH 72 q1) (dH 72 p3++(eX 69 R2++(eX 69 R++cw 3 k2.qs))) Sub.rf).trans (fP eH gd (dH 72 q2) ((dH 72 q1)++(dH 72 p3++(eX 69 R2++(eX 69 R++cw 3 k2.qs)))) (by exact Sub.d (.k (.k (.k (.k (.k (.k .z))))))))),?_⟩
    have Re:gH (q3++(q2++(q1++p3))) c3.r:=wW DY (fun x hx=>by simp only[dt,List.not_mem_nil,or_false]at hx;rcases hx with rfl|rfl;exact MP;exact Ke)
    have adU:fZ c3.pp:=by rw[hc3];exact sG Rc Zs
    have D3:=D3.mono (fun y hy=>ah q3 hy)
    refine fj (O':=(gd++((dH 72 q3)++((dH 72 q2)++((dH 72 q1)++(dH 72 p3++(eX 69 R2++(eX 69 R++cw 3 k2.qs)))))))) (by exact gh [] _ (dH 72 q3) ((dH 72 q2)++((dH 72 q1)++(dH 72 p3++(eX 69 R2++(eX 69 R++cw 3 k2.qs)))))) ?_
    refine cG F F (eh MS (aO fun w1 hI=>(haveI:=eP hI;Vq w1 a1 c3 (gH.sl (T:=72) hI (lY (fun it gf=>ah _ (aH _ gf)) (lY (fun it gf=>ah _ (ah _ (aH _ gf))) (lY (fun it gf=>ah _ (ah _ (ah _ (aH _ gf)))) (fun it gf=>ah _ (ah _ (ah _ (ah _ (aH _ gf)))))))) D3) adT (gH.sl (T:=72) hI (lY (fun it gf=>ah _ (aH _ gf)) (lY (fun it gf=>ah _ (ah _ (aH _ gf))) (lY (fun it gf=>ah _ (ah _ (ah _ (aH _ gf)))) (fun it gf=>ah _ (ah _ (ah _ (ah _ (aH _ gf)))))))) Re) adU)) ?_)
    rintro vr O' ⟨N,rfl,q4,c4,rfl,rfl,hc4,DY⟩
    refine⟨n_ _ ((fP eH eH (dH 72 q1) (dH 72 p3++(eX 69 R2++(eX 69 R++cw 3 k2.qs))) Sub.rf).trans ((fP eH eH (dH 72 q2) ((dH 72 q1)++(dH 72 p3++(eX 69 R2++(eX 69 R++cw 3 k2.qs)))) Sub.rf).trans (fP eH gd (dH 72 q3) ((dH 72 q2)++((dH 72 q1)++(dH 72 p3++(eX 69 R2++(eX 69 R++cw 3 k2.qs))))) (by exact Sub.d (.k (.k (.k (.k (.k (.k .z)))))))))),?_⟩
    have adV:gH (q4++(q3++(q2++(q1++p3)))) c4.r:=wW DY (fun x hx=>by simp only[dt,List.not_mem_nil,or_false]at hx;rcases hx with rfl|rfl;exact D3;exact Re)
    have e9:c4.pp=mY M (k9+1) R2.length l.length:=by rw[hc4,hc3,rH,AD,Qm,Vs,ha3,ha4];rfl
    refine fj (O':=(gd++((dH 72 q4)++((dH 72 q3)++((dH 72 q2)++((dH 72 q1)++(dH 72 p3++(eX 69 R2++(eX 69 R++cw 3 k2.qs))))))))) (by exact gh [] _ (dH 72 q4) ((dH 72 q3)++((dH 72 q2)++((dH 72 q1)++(dH 72 p3++(eX 69 R2++(eX 69 R++cw 3 k2.qs))))))) ?_
    let Kf:Lx.Item:=bJ z9 M.next.length 75 1 (jI (R2++[⟨cb,cc,l⟩]) M.next.length)
    refine cG F F (cP (m:=1) (parts:=[(0,_)]) (cs:=c4.cells) mW dv (by decide) (by kernel_rfl) F (fun xV=>⟨(fP eH eH (dH 72 q1) (dH 72 p3++(eX 69 R2++(eX 69 R++cw 3 k2.qs))) Sub.rf).trans ((fP eH eH (dH 72 q2) ((dH 72 q1)++(dH 72 p3++(eX 69 R2++(eX 69 R++cw 3 k2.qs)))) Sub.rf).trans ((fP eH eH (dH 72 q3) ((dH 72 q2)++((dH 72 q1)++(dH 72 p3++(eX 69 R2++(eX 69 R++cw 3 k2.qs))))) Sub.rf).trans (fP eH [bJ xV 1 69 2 c4.cells,az cb cc 69 2 (eW l),Kf,lZ,jz,gn,fR,iB] (dH 72 q4) ((dH 72 q3)++((dH 72 q2)++((dH 72 q1)++(dH 72 p3++(eX 69 R2++(eX 69 R++cw 3 k2.qs)))))) (by exact Sub.d (.d (.k (.k (.k (.k (.k (.k .z))))))))))),?_⟩))
    refine cG F F (dE 1 mW mW dv F F F F (by rw[iJ]) (by decide) (Src.row (j:=0) F (by simp)) (by simp[fS]) (by dsimp only;omega) (by decide) (by decide) (fun Ap rF=>⟨(fP eH eH (dH 72 q1) (dH 72 p3++(eX 69 R2++(eX 69 R++cw 3 k2.qs))) Sub.rf).trans ((fP eH eH (dH 72 q2) ((dH 72 q1)++(dH 72 p3++(eX 69 R2++(eX 69 R++cw 3 k2.qs)))) Sub.rf).trans ((fP eH eH (dH 72 q3) ((dH 72 q2)++((dH 72 q1)++(dH 72 p3++(eX 69 R2++(eX 69 R++cw 3 k2.qs))))) Sub.rf).trans (fP eH [bJ xV 1 69 2 c4.cells,az Ap rF 69 2 ((eW l)++c4.cells),Kf,lZ,jz,gn,fR,iB] (dH 72 q4) ((dH 72 q3)++((dH 72 q2)++((dH 72 q1)++(dH 72 p3++(eX 69 R2++(eX 69 R++cw 3 k2.qs)))))) (by exact Sub.d (.d (.k (.k (.k (.k (.k (.k .z))))))))))),?_⟩))
    refine ap F (dB R2.length yZ pG F F (eA 0) D0 (by rw[mZ (by simp;omega)];exact D0)) ?_
    refine cA F F (n7 (v:=(.slice Ap (l.length+1) rF)) (vs:=[(.slice Ap (l.length+1) rF)]) (cs:=jI (R2++[⟨cb,cc,l⟩]) M.next.length) R2.length 2 pG F F F F F (by simp) F (by rw[mZ (by simp;omega)];simp;omega) ?_)
    let sJ:List Lx.Item:=[bJ xV 1 69 2 c4.cells,az Ap rF 69 2 ((eW l)++c4.cells),bJ z9 M.next.length 75 1 (jI (R2++[⟨Ap,rF,l++[c4]⟩]) M.next.length),az ob oc 75 1 (lJ R),jz,gn,fR,iB]
    refine fj (O':=(sJ++((dH 72 q4)++((dH 72 q3)++((dH 72 q2)++((dH 72 q1)++(dH 72 p3++(eX 69 R2++(eX 69 R++cw 3 k2.qs))))))))) (by rw[show fC (jI (R2++[⟨cb,cc,l⟩]) M.next.length) R2.length [(.slice Ap (l.length+1) rF)]=jI (R2++[⟨Ap,rF,l++[c4]⟩]) M.next.length from(by rw[←Br (by omega) ⟨cb,cc,l⟩ ⟨Ap,rF,l++[c4]⟩,show(⟨Ap,rF,l++[c4]⟩:MR).val=.slice Ap (l.length+1) rF by simp[MR.val]];rfl)];exact cd (aP _)) ?_
    refine fj (O':=(sJ++(dH 72 (q4++(q3++(q2++(q1++p3))))++(eX 69 R2++(eX 69 R++cw 3 k2.qs))))) (by simp only[rD,aV];exact Sub.rf) ?_
    refine cy ?_
    refine a_ (ae (dj (b:=1) l.length F F (by omega)) (bH ?_))
    have Ra: ∀y∈p3,y∈(q4++(q3++(q2++(q1++p3)))):=fun y hy=>by simp[hy]
    exact⟨l++[c4],by simp;omega,[az Ap rF 69 2 (eW (l++[c4])),bJ z9 M.next.length 75 1 (jI (R2++[⟨Ap,rF,l++[c4]⟩]) M.next.length),lZ,jz,gn,fR,iB]++(dH 72 (q4++(q3++(q2++(q1++p3))))++(eX 69 R2++(eX 69 R++cw 3 k2.qs))),(by rw[uP];exact(by exact Sub.d (.k (.k (.k (.k (.k (.k (.k .rf))))))))),(q4++(q3++(q2++(q1++p3)))),Ap,rF,F,by simp;omega,(hl.mono Ra).snoc e9 adV,Zo.mono Ra,Bu.mono Ra,rG.mono Ra,⟨F,F,F,F,F,F,F,F,F,F,F,F,F,F,F,F,F,(am (fun n9:Nat=>Value.int .i64 ((n9:Nat):Int)) (show l.length+1=(l++[c4]).length by simp)),trivial⟩⟩
   have adW: ¬l.length<M.next.length:=by omega
   refine cD ?_
   refine a_ (ae (dj (b:=1) R2.length F F (by omega)) (bH ?_))
   have Lq:l.length=M.next.length:=by omega
   exact⟨R2++[⟨cb,cc,l⟩],by simp;omega,[bJ z9 M.next.length 75 1 (jI (R2++[⟨cb,cc,l⟩]) M.next.length),lZ,jz,gn,fR,iB]++(dH 72 p3++(eX 69 (R2++[⟨cb,cc,l⟩])++(eX 69 R++cw 3 k2.qs))),(by rw[DT];exact wX [bJ z9 M.next.length 75 1 (jI (R2++[⟨cb,cc,l⟩]) M.next.length),az ob oc 75 1 (lJ R),oI z3 69 c0.cells,az k2.nb k2.nc 56 1 (dO k2.qs),az k2.fb k2.fc 4 1 (cO M.aT),oI z2 25 (dC M k2)] [az cb cc 69 2 (eW l),bJ z9 M.next.length 75 1 (jI (R2++[⟨cb,cc,l⟩]) M.next.length),az ob oc 75 1 (lJ R),oI z3 69 c0.cells,az k2.nb k2.nc 56 1 (dO k2.qs),az k2.fb k2.fc 4 1 (cO M.aT),oI z2 25 (dC M k2)] (dH 72 p3) (eX 69 R2) (eX 69 R++cw 3 k2.qs) (az cb cc 69 2 (eW l)) (by exact Sub.fz [az cb cc 69 2 (eW l)] _ (.fz [az cb cc 69 2 (eW l)] _ (.fz [az cb cc 69 2 (eW l)] _ (.fz [az cb cc 69 2 (eW l)] _ (.fz [az cb cc 69 2 (eW l)] _ (.fz [az cb cc 69 2 (eW l)] _ (.k .z)))))))),p3,F,by simp;omega,Zo.snoc Lq hl,Bu,rG,⟨F,F,F,F,F,F,F,F,F,F,F,F,F,F,(am (fun n9:Nat=>Value.int .i64 ((n9:Nat):Int)) (show R2.length+1=(R2++[(⟨cb,cc,l⟩:MR)]).length by simp)),trivial⟩⟩
  have agX: ¬R2.length<M.next.length:=by omega
  refine cD ?_
  refine a_ (aN (aj (a_ (ae (dj (b:=1) k9 F F (by omega)) (bH ?_)))))
  have Zv:R2.length=M.next.length:=by omega
  have adX:=Bq Zv
  exact⟨k9+1,by omega,[bJ z9 M.next.length 75 1 (lJ R2),jz,gn,fR,iB]++(dH 72 p2++(eX 69 R2++cw 3 k2.qs)),(by rw[←adX];exact DW [bJ z9 M.next.length 75 1 (jI R2 M.next.length),oI z3 69 c0.cells,az k2.nb k2.nc 56 1 (dO k2.qs),az k2.fb k2.fc 4 1 (cO M.aT),oI z2 25 (dC M k2)] [bJ z9 M.next.length 75 1 (jI R2 M.next.length),az ob oc 75 1 (lJ R),oI z3 69 c0.cells,az k2.nb k2.nc 56 1 (dO k2.qs),az k2.fb k2.fc 4 1 (cO M.aT),oI z2 25 (dC M k2)] (dH 72 p2) (eX 69 R2) (eX 69 R) (cw 3 k2.qs) (by exact Sub.k (.d (.k (.k (.k (.k .z))))))),R2,p2,(aD z9),M.next.length,F,by omega,Zv,Aq,rG,(.of F)⟩
 have agY: ¬k9<M.next.length:=by omega
 refine cD ?_
 refine br ?_
 have Zw:k9=M.next.length:=by omega
 have Ym:0<R.length:=by omega
 refine a_ (ae (eR 1 gC dv) (ax (b_ dv (fun sH=>?_))))
 refine ax (c8 c0.cells 0 dv ?_)
 refine bq (ae (bu dm e7) (ae (bF 5 eS) (ae (cg (cL eS) (v':=vN M.next.length) (by rw[Ka.fin])) (bH (aK ?_)))))
 let mF:Lx.Item:=az ob oc 75 1 (lJ R)
 refine dq (O':=([oI sH 69 c0.cells,mF,gn,fR]++(dH 72 p++(eX 69 R++cw 3 k2.qs)))) (by exact Sub.k (.k (.d (.k (.k (.d .rf)))))) ?_
 refine ep (fun(t:Nat) ρ O=> ∃(p2:List ER) (po:PR),O=([oI sH 69 po.cells,mF,gn,fR]++(dH 72 p2++(eX 69 R++cw 3 k2.qs)))∧t≤M.next.length∧po.pp=AB M t∧gH p2 po.r∧qT R p2 M.next.length (mY M k9)∧dh [(0,(dV d k)),(1,nF),(2,nS),(3,vI 0),(5,vI 0),(6,vI (M.next.length:Int)),(8,(.slice ob M.next.length oc)),(19,(.pointer (aD sH))),(151,(.slice k2.fb M.aT.length k2.fc)),(152,vN M.next.length),(153,vN t)] ρ) (fun t=>M.next.length-t) 0 ?_ ?_
 ·exact⟨p,c0,F,bj _,AW,rG,hR,(.of F)⟩
 rintro t ρ O ⟨p2,po,rfl,ht,Rg,Rh,Aq,hH⟩
 obtain⟨gv,rfl⟩:=hH.elim
 clear hH
 refine aG cV (dJ (aL F (fun hc=>?_) (fun hc=>?_)))
 ·have Cj:t<M.next.length:=by omega
  obtain⟨a5,ea5,ha5,Zx⟩:=Aq.at Ym Cj
  have adY:fZ a5.pp:=by rw[ha5];exact jv Q9 _ _ _
  have adZ:fZ po.pp:=by rw[Rg];exact sI Q9 _
  have ajg:=Aq.len _ (av Ym)
  refine aE (br (aK (bo (dB t eS gq F F (eA 3) (by rw[Ka.fin];exact Cj) (by rw[ai,Ka.fin];exact Cj)) (ae (iN uT F F (eA 3) (qe Ka Cj)) (aS (aj (a7 (bi (T.cond F (fun hc=>?_) (fun hc=>?_))))))))))
  ·have U_:dR M t=true:=hc
   refine fW [(0,0),(1,0),(2,0),(3,0),(4,0),(5,0),(6,0),(7,2),(8,2)] ?_
   refine ap F (eR 0 gC dv) (ap F aw (ap F (dB 0 yZ pG F F (eA 1) (by omega) (by rw[pF];exact Ym)) (ap F (iN mW F F (eA 1) (pE Ym)) (ap F aw (ap F (eF (i:=t) mW dv F F (vV (ah _ (ah _ (aH _ (lh Ym))))) (by omega) (by rw[iJ];omega)) (ap F (fy a5.cells gC F dv F F (bK _) (vV (ah _ (ah _ (aH _ (lh Ym))))) (og ea5)) ?_))))))
   refine cA F F (eh MS (aO fun w1 hI=>(haveI:=eP hI;Vq w1 po a5 (gH.sl (T:=72) hI (fun it gf=>ah _ (aH _ gf)) Rh) adZ (gH.sl (T:=72) hI (fun it gf=>ah _ (aH _ gf)) Zx) adY)) ?_)
   rintro vr O' ⟨N,rfl,q6,c6,rfl,rfl,hc6,DY⟩
   have ad0:gH (q6++p2) c6.r:=wW DY (fun x hx=>by simp only[dt,List.not_mem_nil,or_false]at hx;rcases hx with rfl|rfl;exact Rh;exact Zx)
   
   refine fj (O':=([oI sH 69 po.cells,mF,gn,fR]++((dH 72 q6)++(dH 72 p2++(eX 69 R++cw 3 k2.qs))))) (by exact gh [] _ (dH 72 q6) (dH 72 p2++(eX 69 R++cw 3 k2.qs))) ?_
   refine cA F F (c8 c6.cells 0 dv ?_)
   refine fj (O':=([oI sH 69 c6.cells,mF,gn,fR]++(dH 72 (q6++p2)++(eX 69 R++cw 3 k2.qs)))) (by simp only[rD,aV];exact Sub.rf) ?_
   refine cy ?_
   refine a_ (ae (dj (b:=1) t F F (by omega)) (bH ?_))
   have e9:c6.pp=AB M (t+1):=by rw[hc6,Rg,ha5,Zw,AB,aB U_]
   exact⟨t+1,by omega,[oI sH 69 c6.cells,mF,gn,fR]++(dH 72 (q6++p2)++(eX 69 R++cw 3 k2.qs)),(by exact Sub.rf),(q6++p2),c6,F,by omega,e9,ad0,Aq.mono (fun y hy=>ah _ hy),(.of F)⟩
  have U_: ¬dR M t=true:=by rw[hc];simp
  refine aE (a_ (ae (dj (b:=1) t F F (by omega)) (bH ?_)))
  exact⟨t+1,by omega,[oI sH 69 po.cells,mF,gn,fR]++(dH 72 p2++(eX 69 R++cw 3 k2.qs)),(by exact Sub.rf),p2,po,F,by omega,by rw[AB,aq U_];exact Rg,Rh,Aq,(.of F)⟩
 have ad1: ¬t<M.next.length:=by omega
 refine cD ?_
 refine br (aG (bu gC oT) (ae (bF 0 vZ) (aX bN (aL F (fun hc=>?_) (fun hc=>?_)))))
 ·have Vt:po.k=3:=by omega
  have xD:po.pp=Gz M:=by rw[Rg,show t=M.next.length by omega];rfl
  refine br (T.fJ 72 5 ?_)
  refine a_ (aS (aR ?_))
  refine dr nS (vI 4) results14 F F ?_
  have h3:(Gz M).1=3:=by rw[←xD];exact Vt
  have e1:MI M=[]:=aB h3
  have e2:Q7 M=4:=aB h3
  exact⟨[az none 0 72 5 []],(by exact Sub.k .z),none,0,by rw[e1,e2];rfl,by rw[e1];rfl⟩
 have Vu: ¬po.k=3:=by omega
 have xD:po.pp=Gz M:=by rw[Rg,show t=M.next.length by omega];rfl
 refine aE (aG (bu gC iK) (ae (bF 0 dX) (aS (aR ?_))))
 refine dr (.slice po.r.b po.r.e.length po.r.c) (vI 0) results14 F F ?_
 have h3: ¬(Gz M).1=3:=by rw[←xD];exact Vu
 have e1:MI M=po.r.e:=(aq h3).trans (by rw[←xD];rfl)
 have e2:Q7 M=0:=aq h3
 have qm:po.r.e≠ []:=by
  have:=(sI (m:=M) Q9 M.next.length).ne h3
  rw[show AB M M.next.length=po.pp from xD.symm]at this;exact this
 exact⟨[po.r.qW 72],cd (List.singleton_sublist.2 (ah _ (aH _ (List.mem_map.2 ⟨po.r,Rh.resolve_right qm,F⟩)))),po.r.b,po.r.c,by rw[e1,e2];rfl,by rw[e1];rfl⟩
end Go.Proofs.YtgdbfideeeegmaaGreatDoor

namespace Go.Lx
open Go.RowKit Go.Proofs.YtgdbfideeeegmaaGreatDoor
theorem tf {v:Nat} (hv:v≤6): ∀ {t:Rx},t.plain=true→t.sz≤7→kZ v t 4096
 | .none,_,_=>bE (HasL.not (fw hv) (by decide)).len (by decide)
 | .empty,_,_=>bE ((oU (gl 0 0) hv (bj 1)).qJ).len (by decide)
 | .letter p n,_,_=>bE ((oU (gl p n) hv (aI 1)).qJ).len (by decide)
 | .not a,hp,hs=>by
  have hs:a.sz+1≤7:=hs
  have ih:=tf hv (t:=a) hp (by omega)
  have h1:=gu hv (aI 4096) (t:=a) hp ih (by omega)
  have h2:=kK a.sz (by omega)
  have h3:=(dw hv (aI 4096) (t:=a) hp ih).toHasL.KV
  have h4:(minOf v (fM a)).next.length*(minOf v (fM a)).next.length≤8*8:=Nat.mul_le_mul (by omega) (by omega)
  exact⟨ih,bE (HasL.not h3 (by omega)).len (by omega)⟩
 | .star a,hp,hs=>by
  have hs:a.sz+1≤7:=hs
  have ih:=tf hv (t:=a) hp (by omega)
  have h1:=gu hv (aI 4096) (t:=a) hp ih (by omega)
  have h2:=kK a.sz (by omega)
  have h4:2^((minOf v (fM a)).next.length+1)≤2^9:=ck (by decide) (by omega)
  exact⟨ih,u4 (dw hv (aI 4096) (t:=a) hp ih).valid (by omega)⟩
 | .iG a b,hp,hs=>by
  have hs:a.sz+b.sz+1≤7:=hs
  simp only[Rx.plain,ar]at hp
  have pa:=a.ft;have pb:=b.ft
  have ia:=tf hv hp.1 (by omega)
  have ib:=tf hv hp.2 (by omega)
  have h1:=gu hv (aI 4096) hp.1 ia (by omega)
  have h2:=gu hv (aI 4096) hp.2 ib (by omega)
  have h6:ul a.sz*2^ul b.sz≤512:=by
   have: ∀i,i≤5→ ∀j,j≤5→ul i*2^ul j≤512:=by decide
   exact this _ (by omega) _ (by omega)
  have h7:(minOf v (fM a)).next.length*2^(minOf v (fM b)).next.length≤ul a.sz*2^ul b.sz:=Nat.mul_le_mul h1 (ck (by decide) h2)
  exact⟨ia,ib,lu (dw hv (aI 4096) hp.1 ia).valid (dw hv (aI 4096) hp.2 ib).valid (by omega)⟩
 | .iR a b,hp,hs=>by
  have hs:a.sz+b.sz+1≤7:=hs
  simp only[Rx.plain,ar]at hp
  have pa:=a.ft;have pb:=b.ft
  have ia:=tf hv hp.1 (by omega)
  have ib:=tf hv hp.2 (by omega)
  have h1:=bE (gu hv (aI 4096) hp.1 ia (by omega)) (kK _ (by omega))
  have h2:=bE (gu hv (aI 4096) hp.2 ib (by omega)) (kK _ (by omega))
  have h6:(minOf v (fM a)).next.length*(minOf v (fM b)).next.length≤8*8:=Nat.mul_le_mul h1 h2
  have ma:=dw hv (aI 4096) hp.1 ia
  have mb:=dw hv (aI 4096) hp.2 ib
  exact⟨ia,ib,C0 ma.valid mb.valid (by rw[ma.vars,mb.vars]) (aI _) (by omega)⟩
 | .and a b,hp,hs=>by
  have hs:a.sz+b.sz+1≤7:=hs
  simp only[Rx.plain,ar]at hp
  have pa:=a.ft;have pb:=b.ft
  have ia:=tf hv hp.1 (by omega)
  have ib:=tf hv hp.2 (by omega)
  have h1:=bE (gu hv (aI 4096) hp.1 ia (by omega)) (kK _ (by omega))
  have h2:=bE (gu hv (aI 4096) hp.2 ib (by omega)) (kK _ (by omega))
  have h6:(minOf v (fM a)).next.length*(minOf v (fM b)).next.length≤8*8:=Nat.mul_le_mul h1 h2
  have ma:=dw hv (aI 4096) hp.1 ia
  have mb:=dw hv (aI 4096) hp.2 ib
  exact⟨ia,ib,C0 ma.valid mb.valid (by rw[ma.vars,mb.vars]) (aI _) (by omega)⟩
 | .ahead a,hp,_=>absurd hp (by simp[Rx.plain])
 | .behind a,hp,_=>absurd hp (by simp[Rx.plain])
theorem Sx {α:Type} [Nonempty α] {G:α→Prop} {kf:α→Key} {nx:α→Nat→α} {fn:α→Bool} {L:Nat} (h:Sh G kf nx fn L) {s:α} (Q:List α) (hG: ∀q∈Q,G q) (h0:s∈Q) (hc: ∀q∈Q,∀x,x<L→nx q x∈Q) {B:Nat} (hB:Q.length≤B):Ih (Cw G kf nx) L (kf s) B:=by
 refine⟨Q.map kf,⟨List.mem_map.2 ⟨s,h0,F⟩,fun k hk x hx=>?_⟩,by simpa using hB⟩
 obtain⟨q,hq,rfl⟩:=List.mem_map.1 hk
 rw[tX h (hG q hq) hx]
 exact List.mem_map.2 ⟨_,hc q hq x hx,F⟩
section
variable {ls:List Lf}
structure AhP (ls:List Lf):Prop where
 len:ls.length=2
 o0:(lf ls 0).op=9
 f0:(lf ls 0).fo=[1]
 l0:(lf ls 0).la=false
 o1:(lf ls 1).op=0
 f1:(lf ls 1).fo=[]
 l1:(lf ls 1).la=true
def QD (ls:List Lf) (bh:List Nat) (q:Nat) (o:List Ob):St:=⟨bh,⟨1,q,o⟩::(if dR (lf ls 1).d q=true then[⟨-1,0,o⟩]else[])⟩
theorem I6 (c:Cf) (f:Bool) (o:List Ob) (h:c.k≠ -1):((c::(if f=true then[(⟨-1,0,o⟩:Cf)]else[])).foldl add [])=c::(if f=true then[⟨-1,0,o⟩]else[]):=by
 cases f with
 |false=>rfl
 |true=>
  show add (add [] c) ⟨-1,0,o⟩=_
  have e:add [] c=[c]:=by unfold add;rw[aq (by simp)];rfl
  rw[e];unfold add
  rw[aq (by rw[dl];intro e2;exact h (by rw[←e2]))]
  rfl
theorem Fb (h:AhP ls) (f:Nat) (bh:List Nat) (o:List Ob):gm ls (f+1) bh 1 o=[⟨-1,0,o⟩]:=by
 unfold gm;rw[h.f1,h.l1];rfl
theorem Pb (h:AhP ls):iz ls [0]=QD ls (ls.map fun l=>l.d.start.toNat) (lf ls 1).d.start.toNat (ow ls [] (0,(lf ls 0).d.start.toNat)):=by
 have e:fL ls (2*ls.length) (ls.map fun l=>l.d.start.toNat) 0 []=⟨1,(lf ls 1).d.start.toNat,ow ls [] (0,(lf ls 0).d.start.toNat)⟩::(if dR (lf ls 1).d (lf ls 1).d.start.toNat=true then[⟨-1,0,ow ls [] (0,(lf ls 0).d.start.toNat)⟩]else[]):=by
  rw[h.len]
  show fL ls (3+1) _ 0 []=_
  unfold fL
  rw[aB h.o0]
  show gm ls (2+1) _ 0 _=_
  unfold gm
  rw[h.f0,h.l0]
  show(fL ls (1+1) _ 1 _++[])++[]=_
  rw[dp,dp]
  unfold fL
  rw[aq (by rw[h.o1];decide),aq (by rw[h.o1];decide),Fb h 0]
  rfl
 unfold iz QD
 rw[show([0]:List Nat).flatMap (fun k=>fL ls (2*ls.length) (ls.map fun l=>l.d.start.toNat) k [])=fL ls (2*ls.length) (ls.map fun l=>l.d.start.toNat) 0 [] by simp,e,I6 _ _ _ (by show(1:Int)≠ -1;decide)]
theorem Sy (h:AhP ls) (bh:List Nat) (q:Nat) (o:List Ob) (x:Nat):jJ ls (QD ls bh q o) x=QD ls [0,0] (fm (lf ls 1).d q x) (me ls o x):=by
 have eb:jq ls bh x=[0,0]:=by
  unfold jq
  rw[h.len,show List.range 2=[0,1]from F]
  simp only[cJ,gM,h.o0,h.o1]
  rfl
 have e1:iD ls [0,0] x ⟨1,q,o⟩=⟨1,fm (lf ls 1).d q x,me ls o x⟩::(if dR (lf ls 1).d (fm (lf ls 1).d q x)=true then[⟨-1,0,me ls o x⟩]else[]):=by
  unfold iD
  rw[aq (by show¬(1:Int)<0;decide)]
  have e2:gm ls (2*ls.length) [0,0] 1 (me ls o x)=[⟨-1,0,me ls o x⟩]:=by rw[h.len];exact Fb h 3 _ _
  show _::(if _ then gm ls (2*ls.length) [0,0] 1 (me ls o x)else[])=_
  rw[e2];rfl
 have e3:((QD ls bh q o).cf.flatMap (iD ls [0,0] x))=iD ls [0,0] x ⟨1,q,o⟩:=by
  unfold QD
  rw[List.flatMap_cons]
  have:(if dR (lf ls 1).d q=true then[(⟨-1,0,o⟩:Cf)]else[]).flatMap (iD ls [0,0] x)=[]:=by
   split
   ·show iD ls [0,0] x ⟨-1,0,o⟩++[]=[]
    unfold iD;rw[aB (by show(-1:Int)<0;decide)];rfl
   ·rfl
  rw[this,dp]
 unfold jJ
 rw[show(QD ls bh q o).bh=bh from F,eb,e3,e1]
 unfold QD
 rw[I6 _ _ _ (by show(1:Int)≠ -1;decide)]
theorem VJ {vs:Nat} (hG:iW ls vs) (h:AhP ls) {B:Nat} (hB:2*((lf ls 1).d.next.length*((lf ls 0).d.next.length+1))≤B):Ih (Cw (lm ls) St.key (jJ ls)) (2^vs) (iz ls [0]).key B:=by
 obtain⟨b0,J2⟩: ∃b,b=ls.map fun l=>l.d.start.toNat:=⟨_,F⟩
 have k0:0<ls.length:=by rw[h.len];decide
 have k1:1<ls.length:=by rw[h.len];decide
 obtain⟨os,KW⟩: ∃os:List (List Ob),os=[]::(List.range (lf ls 0).d.next.length).map fun q=>[(0,q)]:=⟨_,F⟩
 have hom: ∀o,o∈os↔o=[]∨ ∃q,q<(lf ls 0).d.next.length∧o=[(0,q)]:=fun o=>by
  rw[KW,dt,i_]
  exact or_congr Iff.rfl ⟨fun⟨q,h1,h2⟩=>⟨q,List.mem_range.1 h1,h2.symm⟩,fun⟨q,h1,h2⟩=>⟨q,List.mem_range.2 h1,h2.symm⟩⟩
 have abF: ∀q,q<(lf ls 0).d.next.length→ow ls [] (0,q)∈os:=fun q hq=>by
  rw[hom];unfold ow;split
  ·exact .inl F
  ·exact .inr ⟨q,hq,F⟩
 have WM: ∀o∈os,gy ls 1 o:=fun o ho=>by
  rcases(hom o).1 ho with rfl|⟨q,hq,rfl⟩
  ·exact .nil
  ·exact⟨List.pairwise_singleton _ _,fun p hp=>by rw[List.mem_singleton.1 hp];exact⟨Nat.zero_lt_one,hq⟩⟩
 have Qt: ∀o∈os,∀x,x<2^vs→me ls o x∈os:=fun o ho x hx=>by
  rcases(hom o).1 ho with rfl|⟨q,hq,rfl⟩
  ·exact(hom _).2 (.inl F)
  ·exact abF _ ((hG.kW k0).toVal.iw hq (by rw[hG.vars _ (kX k0)];exact hx)).1
 obtain⟨Q,hQ⟩: ∃Q:List St,Q=[b0,[0,0]].flatMap fun b=>(List.range (lf ls 1).d.next.length).flatMap fun q=>os.map fun o=>QD ls b q o:=⟨_,F⟩
 have hm: ∀s,s∈Q↔ ∃b q o,(b=b0∨b=[0,0])∧q<(lf ls 1).d.next.length∧o∈os∧s=QD ls b q o:=fun s=>by
  rw[hQ]
  simp only[List.mem_flatMap,i_,fE,dt,List.not_mem_nil,or_false]
  constructor
  ·rintro⟨b,hb,q,hq,o,ho,rfl⟩;exact⟨b,q,o,hb,hq,ho,F⟩
  ·rintro⟨b,q,o,hb,hq,ho,rfl⟩;exact⟨b,hb,q,hq,o,ho,F⟩
 have s0:=ez (hG.kW k0).toVal
 have s1:=ez (hG.kW k1).toVal
 have n0:=(hG.kW k0).n0
 have n1:=(hG.kW k1).n0
 refine Sx (EK hG) Q (fun s hs=>?_) ?_ (fun s hs x hx=>?_) ?_
 ·obtain⟨b,q,o,hb,hq,ho,rfl⟩:=(hm s).1 hs
  refine⟨?_,?_,fun c hc=>?_⟩
  ·rcases hb with rfl|rfl
   ·rw[J2];exact sa hG
   ·refine⟨by rw[h.len];rfl,fun k hk=>?_⟩
    rw[h.len]at hk
    rcases(show k=0∨k=1 by omega)with rfl|rfl
    ·exact n0
    ·exact n1
  ·show(_::_:List Cf).Nodup
   split
   ·rw[List.nodup_cons]
    exact⟨by rw[dl];intro e;have:=am Cf.k e;simp at this,by simp⟩
   ·simp
  ·rcases List.mem_cons.1 hc with rfl|hc
   ·exact .inr ⟨1,F,k1,hq,WM o ho⟩
   ·split at hc
    ·rw[List.mem_singleton.1 hc];exact .inl ⟨F,F,(WM o ho).mono (by omega)⟩
    ·simp at hc
 ·rw[Pb h,hm]
  exact⟨_,_,_,.inl J2.symm,s1,abF _ s0,F⟩
 ·obtain⟨b,q,o,hb,hq,ho,rfl⟩:=(hm s).1 hs
  rw[Sy h,hm]
  exact⟨_,_,_,.inr F,((hG.kW k1).toVal.iw hq (by rw[hG.vars _ (kX k1)];exact hx)).1,Qt o ho x hx,F⟩
 ·have:Q.length=2*((lf ls 1).d.next.length*((lf ls 0).d.next.length+1)):=by
   rw[hQ]
   have hl:os.length=(lf ls 0).d.next.length+1:=by rw[KW];simp
   simp only[List.flatMap_cons,List.flatMap_nil,dp,aJ,List.length_flatMap,ai,hl]
   rw[show(fun _:Nat=>(lf ls 0).d.next.length+1)=Function.const Nat ((lf ls 0).d.next.length+1)from F,List.map_const,List.sum_replicate_nat,iE]
   omega
  omega
end
set_option maxRecDepth 100000
theorem afz {v:Nat} (hv:v≤6) (h7: ∀ {t:Rx},t.plain=true→t.sz≤7→kZ v t 4096→(minOf v (fM t)).next.length≤11): ∀ {t:Rx},t.plain=true→t.sz≤8→kZ v t 4096
 | .none,_,_=>bE (HasL.not (fw hv) (by decide)).len (by decide)
 | .empty,_,_=>bE ((oU (gl 0 0) hv (bj 1)).qJ).len (by decide)
 | .letter p n,_,_=>bE ((oU (gl p n) hv (aI 1)).qJ).len (by decide)
 | .not a,hp,hs=>by
  have hs:a.sz+1≤8:=hs
  have ih:=tf hv (t:=a) hp (by omega)
  have h1:=h7 (t:=a) hp (by omega) ih
  have h3:=(dw hv (aI 4096) (t:=a) hp ih).toHasL.KV
  have h4:(minOf v (fM a)).next.length*(minOf v (fM a)).next.length≤11*11:=Nat.mul_le_mul h1 h1
  exact⟨ih,bE (HasL.not h3 (by omega)).len (by omega)⟩
 | .star a,hp,hs=>by
  have hs:a.sz+1≤8:=hs
  have ih:=tf hv (t:=a) hp (by omega)
  have h1:=h7 (t:=a) hp (by omega) ih
  have h4:2^((minOf v (fM a)).next.length+1)≤2^12:=ck (by decide) (by omega)
  exact⟨ih,u4 (dw hv (aI 4096) (t:=a) hp ih).valid (by omega)⟩
 | .iG a b,hp,hs=>by
  have hs:a.sz+b.sz+1≤8:=hs
  simp only[Rx.plain,ar]at hp
  have pa:=a.ft;have pb:=b.ft
  have ia:=tf hv hp.1 (by omega)
  have ib:=tf hv hp.2 (by omega)
  have h1:=gu hv (aI 4096) hp.1 ia (by omega)
  have h2:=gu hv (aI 4096) hp.2 ib (by omega)
  have h6:ul a.sz*2^ul b.sz≤2048:=by
   have: ∀i,i≤6→ ∀j,j≤6→ul i*2^ul j≤2048:=by decide
   exact this _ (by omega) _ (by omega)
  have h7:(minOf v (fM a)).next.length*2^(minOf v (fM b)).next.length≤ul a.sz*2^ul b.sz:=Nat.mul_le_mul h1 (ck (by decide) h2)
  exact⟨ia,ib,lu (dw hv (aI 4096) hp.1 ia).valid (dw hv (aI 4096) hp.2 ib).valid (by omega)⟩
 | .iR a b,hp,hs=>by
  have hs:a.sz+b.sz+1≤8:=hs
  simp only[Rx.plain,ar]at hp
  have pa:=a.ft;have pb:=b.ft
  have ia:=tf hv hp.1 (by omega)
  have ib:=tf hv hp.2 (by omega)
  have h1:=bE (gu hv (aI 4096) hp.1 ia (by omega)) (kK _ (by omega))
  have h2:=bE (gu hv (aI 4096) hp.2 ib (by omega)) (kK _ (by omega))
  have h6:(minOf v (fM a)).next.length*(minOf v (fM b)).next.length≤8*8:=Nat.mul_le_mul h1 h2
  have ma:=dw hv (aI 4096) hp.1 ia
  have mb:=dw hv (aI 4096) hp.2 ib
  exact⟨ia,ib,C0 ma.valid mb.valid (by rw[ma.vars,mb.vars]) (aI _) (by omega)⟩
 | .and a b,hp,hs=>by
  have hs:a.sz+b.sz+1≤8:=hs
  simp only[Rx.plain,ar]at hp
  have pa:=a.ft;have pb:=b.ft
  have ia:=tf hv hp.1 (by omega)
  have ib:=tf hv hp.2 (by omega)
  have h1:=bE (gu hv (aI 4096) hp.1 ia (by omega)) (kK _ (by omega))
  have h2:=bE (gu hv (aI 4096) hp.2 ib (by omega)) (kK _ (by omega))
  have h6:(minOf v (fM a)).next.length*(minOf v (fM b)).next.length≤8*8:=Nat.mul_le_mul h1 h2
  have ma:=dw hv (aI 4096) hp.1 ia
  have mb:=dw hv (aI 4096) hp.2 ib
  exact⟨ia,ib,C0 ma.valid mb.valid (by rw[ma.vars,mb.vars]) (aI _) (by omega)⟩
 | .ahead a,hp,_=>absurd hp (by simp[Rx.plain])
 | .behind a,hp,_=>absurd hp (by simp[Rx.plain])
set_option maxRecDepth 100000
def afA:List En:=[⟨0,0,0,0⟩,⟨1,1,0x0,1⟩,⟨4,5,0x43434343444444444321,10⟩,⟨4,4,0x3333222230302211,5⟩,⟨8,4,0x33333333303030303021110033221100,3⟩,⟨8,8,0x3333333373737373736251403322110033333333737373737362514033221100,240⟩,⟨4,5,0x22222222212121214321,10⟩,⟨3,4,0x333222303221,5⟩,⟨8,5,0x4444444444444242444444444242424244332211,25⟩,⟨5,6,0x333335353333333222224433322221,27⟩,⟨8,6,0x555555555555555554545454222222223322332222221111,41⟩,⟨4,5,0x43434343222233332211,17⟩,⟨8,7,0x65656565656565656666666666666666222222226543654322221111,41⟩,⟨8,4,0x32103113222222223210321022221111,9⟩,⟨4,4,0x3333111111113210,3⟩,⟨4,5,0x33333333222243332210,11⟩,⟨8,7,0x54635463443344334433443354635463444444445454545444332211,97⟩,⟨8,6,0x405352104444444440040440405352104433221144332211,33⟩,⟨5,5,0x3333333331434313333133221,3⟩,⟨8,6,0x332211005342110033333333535353535342110033221100,3⟩,⟨4,4,0x3333333033103210,1⟩,⟨3,4,0x222222232100,6⟩,⟨3,5,0x333333343211111,12⟩,⟨8,7,0x66666666666666664433443365666566444444446565656544332211,74⟩,⟨4,4,0x1111313111112211,7⟩,⟨3,4,0x333222333210,8⟩,⟨8,6,0x444444444444444433333333545454545444445433221100,22⟩,⟨8,4,0x33333333323232233222111033221100,6⟩,⟨8,6,0x555555555555555554324352543243525432110054321100,26⟩,⟨8,6,0x555555555555555533333333545454545455555433221100,38⟩,⟨8,8,0x7676766776767667777777777777777777553300775533007654321076543210,86⟩,⟨8,8,0x7777777777777777765476457654764576763223767632237654321076543210,86⟩]
def acj:List (Nat×Nat):=[(7424,3280899),(14848,73735),(16384,1),(17152,508218707976),(21760,142857994249),(23296,508218707978),(24576,3280907),(24832,508218707980),(25088,306637381901),(27136,443539333892),(27648,3277070),(27904,587206927),(30208,508218707984),(30464,443794194705),(30976,443539333892),(32000,287764971538),(32768,442402939667),(33280,807407636),(66320,74261),(66576,74262),(66832,508218707991),(66839,215590506498),(67082,69559390232),(67087,2162969),(67088,443539333914),(67095,69559390214),(67096,508216680476),(67080,508216488453),(71685,508218707997),(71686,508218704155),(71682,443541553413),(74498,508218704158),(78594,508218704159)]
def SM (i:Nat):En:=afA.getD i ⟨0,0,0,0⟩
noncomputable def lk7 (l:List (Nat×Nat)) (k:Nat):Nat:=List.rec (motive:=fun _=>Nat) 0 (fun y _ ih=>cond (Nat.beq k y.1) y.2 ih) l
noncomputable def XK (m:Mc) (L:List Nat):Bool:=AP L m.s0&&(zY L (fun s=>vw m.c fun x=>fo (m.st s x) (AP L))&&Nat.ble L.length 11)
noncomputable def okF (m:Mc) (ct:Nat):Bool:=
 Nat.blt (ct%256) 32&&(vw m.c (fun x=>Nat.blt (((ct/256)>>>(4*x))%16) (SM (ct%256)).c)&&Yy m (SM (ct%256)) (ct/256) (Pq m.c (fun s x=>m.st (s/16) x*16+(SM (ct%256)).to (s%16) (((ct/256)>>>(4*x))%16)) 80 [m.s0*16] [m.s0*16]))
noncomputable def SN (key:Nat) (m:Mc):Bool:=fo (lk7 acj key) fun ct=>cond (Nat.beq ct 0) (XK m (Pq m.c m.st 12 [m.s0] [m.s0])) (okF m ct)
theorem afB:((List.range 31).all fun i=>Nat.ble (SM (i+1)).n 11&&(Nat.blt 0 (SM (i+1)).n&&vw (SM (i+1)).n fun s=>vw (SM (i+1)).c fun x=>Nat.blt ((SM (i+1)).to s x) (SM (i+1)).n))=true:=by kernel_rfl
theorem Jn {v:Nat} (hv:v≤6) {key:Nat} {m:Mc} {p:Lg} (h:SN key m=true) (hr:vv v m p): ∃D,HasL (v:Int) 11 D p:=by
 unfold SN at h
 rw[Fi]at h
 generalize lk7 acj key=ct at h
 cases hb:Nat.beq ct 0 with
 |true=>
  rw[hb]at h
  have h:XK m (Pq m.c m.st 12 [m.s0] [m.s0])=true:=h
  generalize Pq m.c m.st 12 [m.s0] [m.s0]=L at h
  unfold XK at h
  rw[ar,ar,wB]at h
  obtain⟨h1,h2,h3⟩:=h
  have h3:=Nat.le_of_ble_eq_true h3
  obtain⟨D,hD⟩:=uo hv hr (L:=L) (sq.1 h1) (fun s hs x hx=>by have:=kL.1 (h2 s hs) x hx;rwa[Fi,sq]at this) (by omega)
  exact⟨D,hD.le (bE hD.len h3)⟩
 |false=>
  rw[hb]at h
  have h:okF m ct=true:=h
  unfold okF at h
  rw[ar,ar,kL]at h
  obtain⟨h0,h1,h2⟩:=h
  have h0:ct%256<32:=Nat.le_of_ble_eq_true h0
  have Od:=I_ h2 (fun x hx=>by have:=h1 x hx;exact Nat.le_of_ble_eq_true this) hr
  have hz:ct%256≠0:=by
   intro hz
   rw[hz]at Od
   obtain⟨k,k1,_⟩:=Od
   exact absurd (k1 0 (Nat.pos_of_ne_zero (by simp))) (by show¬k 0<0;omega)
  have h4:=List.all_eq_true.1 afB (ct%256-1) (List.mem_range.2 (by omega))
  rw[show ct%256-1+1=ct%256 by omega,ar,ar,kL]at h4
  exact Jf hv Od (Nat.le_of_ble_eq_true h4.1) (by decide) (Nat.le_of_ble_eq_true h4.2.1) (fun s hs x hx=>Nat.le_of_ble_eq_true (kL.1 (h4.2.2 s hs) x hx))
noncomputable def Hw (op i j:Nat) (f:En→En→Mc):Bool:=(K1.getD i []).all fun x=>(K1.getD j []).all fun y=>SN ((op*256+x)*256+y) (f (nl x) (nl y))
theorem vB {v:Nat} (hv:v≤6) {op i j:Nat} {f:En→En→Mc} (h:Hw op i j f=true) {a b:En} (ha:QE i a) (hb:QE j b) {p:Lg} (hr:vv v (f a b) p): ∃D,HasL (v:Int) 11 D p:=by
 obtain⟨x,hx,rfl⟩:=ha
 obtain⟨y,hy,rfl⟩:=hb
 exact Jn hv (List.all_eq_true.1 (List.all_eq_true.1 h x hx) y hy) hr
theorem s7:((K1.getD 6 []).all fun i=>SN (i*256) (oC (nl i)))=true:=by kernel_rfl
theorem c15:Hw 1 1 5 pS=true:=by kernel_rfl
theorem c24:Hw 1 2 4 pS=true:=by kernel_rfl
theorem c33:Hw 1 3 3 pS=true:=by kernel_rfl
theorem c42:Hw 1 4 2 pS=true:=by kernel_rfl
theorem c51:Hw 1 5 1 pS=true:=by kernel_rfl
theorem o15:Hw 2 1 5 (mm or)=true:=by kernel_rfl
theorem o24:Hw 2 2 4 (mm or)=true:=by kernel_rfl
theorem o33:Hw 2 3 3 (mm or)=true:=by kernel_rfl
theorem a15:Hw 3 1 5 (mm and)=true:=by kernel_rfl
theorem a24:Hw 3 2 4 (mm and)=true:=by kernel_rfl
theorem a33:Hw 3 3 3 (mm and)=true:=by kernel_rfl
theorem c7 {i j:Nat} (hi:1≤i) (hj:1≤j) (h:i+j=6):Hw 1 i j pS=true:=by
 rcases(show(i=1∧j=5)∨(i=2∧j=4)∨(i=3∧j=3)∨(i=4∧j=2)∨(i=5∧j=1) by omega)with⟨rfl,rfl⟩|⟨rfl,rfl⟩|⟨rfl,rfl⟩|⟨rfl,rfl⟩|⟨rfl,rfl⟩
 ·exact c15
 ·exact c24
 ·exact c33
 ·exact c42
 ·exact c51
theorem o7 {i j:Nat} (hi:1≤i) (F3:i≤j) (h:i+j=6):Hw 2 i j (mm or)=true∧Hw 3 i j (mm and)=true:=by
 rcases(show(i=1∧j=5)∨(i=2∧j=4)∨(i=3∧j=3) by omega)with⟨rfl,rfl⟩|⟨rfl,rfl⟩|⟨rfl,rfl⟩
 ·exact⟨o15,a15⟩
 ·exact⟨o24,a24⟩
 ·exact⟨o33,a33⟩
theorem BX {v:Nat} (hv:v≤6): ∀ {t:Rx},t.plain=true→t.sz=7→ ∃D,HasL (v:Int) 11 D (fM t)
 | .none,_,hs=>absurd hs (by decide)
 | .empty,_,hs=>absurd hs (by decide)
 | .letter p n,_,hs=>absurd (show 1=7 from hs) (by decide)
 | .not a,hp,hs=>by
  have hs:a.sz+1=7:=hs
  obtain⟨e,h1,h2⟩:=iI (v:=v) a hp (by omega)
  have hk:a.sz=6:=by omega
  rw[hk]at h1
  obtain⟨_,h3,h4,h5⟩:=wC h1 (aI 6)
  have hb:e.n≤8:=h3
  obtain⟨D,hD⟩:=uo hv (Ja h2) (L:=List.range e.n) (List.mem_range.2 h4) (fun s hs x hx=>List.mem_range.2 (h5 s (List.mem_range.1 hs) x hx)) (by simp;omega)
  exact⟨D,hD.le (bE hD.len (by simp;omega))⟩
 | .star a,hp,hs=>by
  have hs:a.sz+1=7:=hs
  obtain⟨e,h1,h2⟩:=iI (v:=v) a hp (by omega)
  have hk:a.sz=6:=by omega
  rw[hk]at h1
  have hf:=(wC h1 (aI 6)).1
  obtain⟨i,hi,rfl⟩:=h1
  exact Jn hv (List.all_eq_true.1 s7 i hi) (Fk hf h2)
 | .iG a b,hp,hs=>by
  have hs:a.sz+b.sz+1=7:=hs
  simp only[Rx.plain,ar]at hp
  have pa:=a.ft;have pb:=b.ft
  obtain⟨e,h1,h2⟩:=iI (v:=v) a hp.1 (by omega)
  obtain⟨f,k1,k2⟩:=iI (v:=v) b hp.2 (by omega)
  exact vB hv (c7 pa pb (by omega)) h1 k1 (Jc h2 k2)
 | .iR a b,hp,hs=>by
  have hs:a.sz+b.sz+1=7:=hs
  simp only[Rx.plain,ar]at hp
  have pa:=a.ft;have pb:=b.ft
  obtain⟨e,h1,h2⟩:=iI (v:=v) a hp.1 (by omega)
  obtain⟨f,k1,k2⟩:=iI (v:=v) b hp.2 (by omega)
  rcases Nat.le_total a.sz b.sz with c|c
  ·exact vB hv (o7 pa c (by omega)).1 h1 k1 (sr or h2 k2)
  ·exact vB hv (o7 pb c (by omega)).1 k1 h1 ((sr or k2 h2).to (q:=fM (.iR a b)) fun w=>Bool.or_comm _ _)
 | .and a b,hp,hs=>by
  have hs:a.sz+b.sz+1=7:=hs
  simp only[Rx.plain,ar]at hp
  have pa:=a.ft;have pb:=b.ft
  obtain⟨e,h1,h2⟩:=iI (v:=v) a hp.1 (by omega)
  obtain⟨f,k1,k2⟩:=iI (v:=v) b hp.2 (by omega)
  rcases Nat.le_total a.sz b.sz with c|c
  ·exact vB hv (o7 pa c (by omega)).2 h1 k1 (sr and h2 k2)
  ·exact vB hv (o7 pb c (by omega)).2 k1 h1 ((sr and k2 h2).to (q:=fM (.and a b)) fun w=>Bool.and_comm _ _)
 | .ahead a,hp,_=>absurd hp (by simp[Rx.plain])
 | .behind a,hp,_=>absurd hp (by simp[Rx.plain])
theorem UG {v:Nat} (hv:v≤6) {t:Rx} (hp:t.plain=true) (hs:t.sz≤8):kZ v t 4096:=by
 refine afz hv (fun {t} hp hs ho=>?_) hp hs
 by_cases h:t.sz≤6
 ·have h1:=gu hv (aI 4096) hp ho h
  have h2:=kK t.sz h
  omega
 ·obtain⟨D,hD⟩:=BX hv hp (show t.sz=7 by omega)
  exact(dw hv (aI 4096) hp ho).w5 hD
def Rx.ut:Rx→List Rx
 | .iG a b| .iR a b=>a.ut++b.ut
 |t=>[t]
def oR:Rx→Nat
 | .ahead _=>1
 | .behind _=>2
 |_=>0
def Ak:Rx→Nat
 | .ahead a| .behind a=>a.sz
 |t=>t.sz
def wR (t:Rx):Nat:=Ak t+(if oR t=0 then 0 else 1)
theorem C7 {t:Rx} (h:t.leaf=true):t.ut=[t]∧wR t=t.sz∧t.lv=1:=by
 cases t<;>first|(cases h;done)|exact⟨F,F,F⟩
theorem sZ: ∀t:Rx,t.ut.length=t.lv
 | .iG a b| .iR a b=>by show(a.ut++b.ut).length=a.lv+b.lv;rw[aJ,sZ a,sZ b]
 | .none| .empty| .letter _ _| .and _ _| .not _| .star _| .ahead _| .behind _=>rfl
theorem C8: ∀t:Rx,(t.ut.map fun r=>wR r+1).sum=t.sz+1
 | .iG a b| .iR a b=>by
  show((a.ut++b.ut).map fun r=>wR r+1).sum=a.sz+b.sz+1+1
  rw[bm,List.sum_append,C8 a,C8 b];omega
 | .none| .empty| .letter _ _| .and _ _| .not _| .star _| .ahead _| .behind _=>rfl
theorem sw: ∀t:Rx,∀r∈t.ut,r.leaf=true
 | .iG a b,r,h| .iR a b,r,h=>(List.mem_append.1 h).elim (sw a r) (sw b r)
 | .none,r,h| .empty,r,h| .letter _ _,r,h| .and _ _,r,h| .not _,r,h| .star _,r,h| .ahead _,r,h| .behind _,r,h=>by rw[List.mem_singleton.1 h];rfl
theorem HB: ∀ {t:Rx},t.wf=true→ ∀r∈t.ut,r.wf=true
 | .iG a b,hw,r,h| .iR a b,hw,r,h=>by
  simp only[Rx.wf,ar]at hw
  exact(List.mem_append.1 h).elim (HB hw.1 r) (HB hw.2 r)
 | .none,hw,r,h| .empty,hw,r,h| .letter _ _,hw,r,h| .and _ _,hw,r,h| .not _,hw,r,h| .star _,hw,r,h| .ahead _,hw,r,h| .behind _,hw,r,h=>by rw[List.mem_singleton.1 h];exact hw
theorem XZ {v:Nat} {LS:List Lf}: ∀ {t:Rx} {n:Nat} {E:List Nat} {l:Bool},AO v LS t n E l→ ∀i,i<t.lv→ ∃r,t.ut[i]? =some r∧(lf LS (n+i)).op=(eZ v r).op∧(lf LS (n+i)).d=(eZ v r).d:=by
 have leaf: ∀ {t:Rx},t.leaf=true→ ∀ {n:Nat} {E:List Nat} {l:Bool},AO v LS t n E l→ ∀i,i<t.lv→ ∃r,t.ut[i]? =some r∧(lf LS (n+i)).op=(eZ v r).op∧(lf LS (n+i)).d=(eZ v r).d:=fun {t} hl {n E l} hi i h=>by
  obtain⟨e1,_,e3⟩:=C7 hl
  obtain⟨_,k2,k3,_,_⟩:=(sj hl).1 hi
  have:i=0:=by omega
  subst this
  exact⟨t,by rw[e1];rfl,k2,k3⟩
 have bin: ∀ {a b:Rx} {n:Nat} {E1 E2:List Nat} {l1 l2:Bool},(∀i,i<a.lv→ ∃r,a.ut[i]? =some r∧(lf LS (n+i)).op=(eZ v r).op∧(lf LS (n+i)).d=(eZ v r).d)→(∀i,i<b.lv→ ∃r,b.ut[i]? =some r∧(lf LS (n+a.lv+i)).op=(eZ v r).op∧(lf LS (n+a.lv+i)).d=(eZ v r).d)→ ∀i,i<a.lv+b.lv→ ∃r,(a.ut++b.ut)[i]? =some r∧(lf LS (n+i)).op=(eZ v r).op∧(lf LS (n+i)).d=(eZ v r).d:=fun {a b n _ _ _ _} ha hb i hi=>by
  rcases Nat.lt_or_ge i a.lv with c|c
  ·obtain⟨r,h1,h2⟩:=ha i c
   exact⟨r,by rw[bG (by rw[sZ];exact c)];exact h1,h2⟩
  ·obtain⟨r,h1,h2⟩:=hb (i-a.lv) (by omega)
   rw[show n+a.lv+(i-a.lv)=n+i by omega]at h2
   exact⟨r,by rw[bZ (by rw[sZ];exact c),sZ];exact h1,h2⟩
 intro t
 induction t with
 |iG a b ln mi=>exact fun hi=>bin (E1:=[]) (E2:=[]) (l1:=true) (l2:=true) (ln hi.1) (mi hi.2)
 |iR a b ln mi=>exact fun hi=>bin (E1:=[]) (E2:=[]) (l1:=true) (l2:=true) (ln hi.1) (mi hi.2)
 |none=>exact fun hi=>leaf (t:=.none) F hi
 |empty=>exact fun hi=>leaf (t:=.empty) F hi
 |letter p q=>exact fun hi=>leaf (t:=.letter p q) F hi
 |and a b _ _=>exact fun hi=>leaf (t:=.and a b) F hi
 |not a _=>exact fun hi=>leaf (t:=.not a) F hi
 |star a _=>exact fun hi=>leaf (t:=.star a) F hi
 |ahead a _=>exact fun hi=>leaf (t:=.ahead a) F hi
 |behind a _=>exact fun hi=>leaf (t:=.behind a) F hi
def UM (o c:Nat):Nat:=cond (Nat.beq o 2) (2^ul c) 1
def UN (o c:Nat):Nat:=cond (Nat.beq o 1) (bO c) 0
def UO (o c:Nat):Nat:=cond (Nat.beq o 0) (bS c) 0
def X0 (b s:Nat) (l:Bool):Bool:=cond l (Nat.ble (b*2^s) 4096&&Nat.ble (b+1) 4096) true
def P1:Nat→Nat→Nat→Nat→Nat→Bool→Bool
 |0,_,b,_,s,l=>X0 b s l
 |f+1,r,b,o,s,l=>X0 b s l&&vw 9 fun c=>vw 3 fun k=>cond (Nat.beq c 0) true (cond (Nat.ble (c+1+cond (Nat.beq k 0) 0 1) r) (P1 f (r-(c+1+cond (Nat.beq k 0) 0 1)) (b*UM k c) (o*(UN k c+1)) (s+o*UO k c) (l||!Nat.beq k 0)) true)
set_option maxRecDepth 100000 in
theorem X1:P1 5 9 1 1 0 false=true:=by kernel_rfl
structure Fo where
 b:Nat
 o:Nat
 s:Nat
def LI (q:Fo):List (Nat×Nat)→Fo
 | []=>q
 |x::l=>LI ⟨q.b*UM x.1 x.2,q.o*(UN x.1 x.2+1),q.s+q.o*UO x.1 x.2⟩ l
theorem Jx: ∀(l:List (Nat×Nat)) {f r:Nat} {q:Fo} {k:Bool},P1 f r q.b q.o q.s k=true→l.length≤f→(∀x∈l,x.1<3∧1≤x.2∧x.2<9)→(l.map fun x=>x.2+1+(if x.1=0 then 0 else 1)).sum≤r→(k=true∨ ∃x∈l,x.1≠0)→(LI q l).b*2^(LI q l).s≤4096∧(LI q l).b+1≤4096
 | [],f,r,q,k,h,_,_,_,hk=>by
  have hk:k=true:=hk.elim id fun⟨x,hx,_⟩=>by simp at hx
  subst hk
  have h2:X0 q.b q.s true=true:=by
   cases f with
   |zero=>exact h
   |succ f=>unfold P1 at h;rw[ar]at h;exact h.1
  have h2:(Nat.ble (q.b*2^q.s) 4096&&Nat.ble (q.b+1) 4096)=true:=h2
  rw[ar]at h2
  exact⟨Nat.le_of_ble_eq_true h2.1,Nat.le_of_ble_eq_true h2.2⟩
 |x::l,0,r,q,k,h,hl,_,_,_=>absurd hl (by simp)
 |x::l,f+1,r,q,k,h,hl,hx,hs,hk=>by
  obtain⟨x1,x2,x3⟩:=hx x (by simp)
  unfold P1 at h
  rw[ar,kL]at h
  have h2:=kL.1 (h.2 x.2 x3) x.1 x1
  rw[cJ,List.sum_cons]at hs
  have e0:Nat.beq x.2 0=false:=by
   cases hb:Nat.beq x.2 0 with
   |false=>rfl
   |true=>have:=Nat.eq_of_beq_eq_true hb;omega
  have ew:cond (Nat.beq x.1 0) 0 1=if x.1=0 then 0 else 1:=by
   by_cases e:x.1=0
   ·rw[e];rfl
   ·rw[aq e]
    cases hb:Nat.beq x.1 0 with
    |false=>rfl
    |true=>exact absurd (Nat.eq_of_beq_eq_true hb) e
  rw[e0,ew]at h2
  have eb:Nat.ble (x.2+1+if x.1=0 then 0 else 1) r=true:=Nat.ble_eq_true_of_le (by omega)
  rw[eb]at h2
  refine Jx l (q:=⟨q.b*UM x.1 x.2,q.o*(UN x.1 x.2+1),q.s+q.o*UO x.1 x.2⟩) h2 (by simp at hl;omega) (fun y hy=>hx y (by simp[hy])) (by omega) ?_
  rcases hk with hk|⟨y,hy,qm⟩
  ·exact .inl (by rw[hk];rfl)
  ·rcases List.mem_cons.1 hy with rfl|hy
   ·refine .inl ?_
    rw[Bool.or_eq_true];refine .inr ?_
    cases hb:Nat.beq y.1 0 with
    |false=>rfl
    |true=>exact absurd (Nat.eq_of_beq_eq_true hb) qm
   ·exact .inr ⟨y,hy,qm⟩
theorem FI: ∀(l:List (Nat×Nat)) (q:Fo) (x:Nat×Nat),LI q (l++[x])=⟨(LI q l).b*UM x.1 x.2,(LI q l).o*(UN x.1 x.2+1),(LI q l).s+(LI q l).o*UO x.1 x.2⟩
 | [],q,x=>rfl
 |y::l,q,x=>FI l _ x
theorem UP {l:List (Nat×Nat)} {mS mO mB:Nat→List Nat}: ∀n,n≤l.length→(∀k,(h:k<l.length)→(mB k).length≤UM l[k].1 l[k].2∧(mO k).length≤UN l[k].1 l[k].2∧(mS k).length≤UO l[k].1 l[k].2)→UL mB n≤(LI ⟨1,1,0⟩ (l.take n)).b∧prO mO n≤(LI ⟨1,1,0⟩ (l.take n)).o∧prS mS mO n≤(LI ⟨1,1,0⟩ (l.take n)).s
 |0,_,_=>⟨aI _,aI _,aI _⟩
 |n+1,hn,h=>by
  obtain⟨i1,i2,i3⟩:=UP n (by omega) h
  obtain⟨k1,k2,k3⟩:=h n (by omega)
  rw[aC (by omega),FI]
  exact⟨Nat.mul_le_mul i1 k1,Nat.mul_le_mul i2 (by omega),Nat.add_le_add i3 (Nat.mul_le_mul i2 k3)⟩
theorem HC {v:Nat} (hv:v≤6) {t:Rx} (hp:t.plain=true) (hs:t.sz≤7):kZ v t 4096∧(minOf v (fM t)).next.length≤ul t.sz:=by
 have ho:=UG hv hp (by omega)
 refine⟨ho,?_⟩
 by_cases h:t.sz≤6
 ·exact gu hv (aI 4096) hp ho h
 ·have e:t.sz=7:=by omega
  obtain⟨D,hD⟩:=BX hv hp e
  rw[e]
  exact(dw hv (aI 4096) hp ho).w5 hD
theorem Ll {v:Nat} (hv:v≤6): ∀ {t:Rx},t.wf=true→t.sz≤8→okB v t 4096
 | .iG a b,hw,hs=>by
  have hs:a.sz+b.sz+1≤8:=hs
  simp only[Rx.wf,ar]at hw
  exact⟨Ll hv hw.1 (by omega),Ll hv hw.2 (by omega)⟩
 | .iR a b,hw,hs=>by
  have hs:a.sz+b.sz+1≤8:=hs
  simp only[Rx.wf,ar]at hw
  exact⟨Ll hv hw.1 (by omega),Ll hv hw.2 (by omega)⟩
 | .ahead a,hw,hs=>by
  have hs:a.sz+1≤8:=hs
  obtain⟨h1,h2⟩:=HC hv (t:=a) hw (by omega)
  have hb: ∀k,k≤7→ul k≤11:=by decide
  have:=hb a.sz (by omega)
  exact⟨h1,lu (dw hv (aI 4096) (t:=a) hw h1).valid (fw hv).valid (by show _*2^1≤4096;omega)⟩
 | .behind a,hw,hs=>by
  have hs:a.sz+1≤8:=hs
  obtain⟨h1,h2⟩:=HC hv (t:=a) hw (by omega)
  have hb: ∀k,k≤7→ul k≤11:=by decide
  have:=hb a.sz (by omega)
  have h4:2^(minOf v (fM a)).next.length≤2^11:=ck (by decide) (by omega)
  exact⟨h1,lu (fw hv).valid (dw hv (aI 4096) (t:=a) hw h1).valid (by show 1*_≤4096;omega)⟩
 | .none,hw,hs=>UG hv (t:=.none) hw hs
 | .empty,hw,hs=>UG hv (t:=.empty) hw hs
 | .letter p n,hw,hs=>UG hv (t:=.letter p n) hw hs
 | .and a b,hw,hs=>UG hv (t:=.and a b) hw hs
 | .not a,hw,hs=>UG hv (t:=.not a) hw hs
 | .star a,hw,hs=>UG hv (t:=.star a) hw hs
theorem Jy {x:Nat}: ∀ {l:List Nat},x∈l→x≤l.sum
 |y::l,h=>by
  rw[List.sum_cons]
  rcases List.mem_cons.1 h with rfl|h
  ·omega
  ·have:=Jy h;omega
def UQ (v:Nat) (r:Rx):Prop:= ∃A B C:List Nat,A.length≤UO (oR r) (Ak r)∧B.length≤UN (oR r) (Ak r)∧C.length≤UM (oR r) (Ak r)∧
  (((eZ v r).op≠9→(eZ v r).op≠10→ ∀u x,iS (v:Int) u→x<2^v→fm (eZ v r).d (runN (eZ v r).d (eZ v r).d.start.toNat u) x∈A)∧
  ((eZ v r).op=9→ ∀u x,iS (v:Int) u→x<2^v→dR (eZ v r).d (fm (eZ v r).d (runN (eZ v r).d (eZ v r).d.start.toNat u) x)=false→fm (eZ v r).d (runN (eZ v r).d (eZ v r).d.start.toNat u) x∈B)∧
  (if(eZ v r).op=10 then∀q,q<(eZ v r).d.next.length→q∈C else 0∈C))
theorem P2 {v:Nat} (hv:v≤6) {r:Rx} (hl:r.leaf=true) (hw:r.wf=true) (hs:wR r≤8):UQ v r:=by
 have qX:r.sz≤8:=by rw[←(C7 hl).2.1];exact hs
 have ho:=Ll hv hw qX
 have hL:=ww hv (aI 4096) hl hw ho
 have pl:oR r=0→Ak r=r.sz→(eZ v r).op=0→r.plain=true→O8 r=fM r→UQ v r:=fun e1 e2 e3 e4 e5=>by
  rw[e5]at hL
  obtain⟨A,hA,hm⟩: ∃A:List Nat,A.length≤bS r.sz∧ ∀u x,iS (v:Int) u→x<2^v→fm (eZ v r).d (runN (eZ v r).d (eZ v r).d.start.toNat u) x∈A:=by
   by_cases h6:r.sz≤6
   ·exact PZ e4 h6 hL
   ·refine⟨List.range (eZ v r).d.next.length,?_,fun u x hu hx=>?_⟩
    ·rw[iE,show bS r.sz=4096 by rcases(show r.sz=7∨r.sz=8 by omega)with e|e<;>rw[e]<;>rfl]
     exact hL.valid.n4
    ·have:=kj hL.valid.toVal (ez hL.valid.toVal) _ (hL.wd.2 (yd hu hx))
     rw[e8]at this
     exact List.mem_range.2 this
  refine⟨A,[],[0],by rw[e1,e2];exact hA,by simp,by rw[e1];exact aI 1,fun _ _=>hm,fun h=>absurd (e3.symm.trans h) (by decide),?_⟩
  rw[e3];exact List.mem_singleton.2 F
 cases r with
 |iG a b=>cases hl
 |iR a b=>cases hl
 |none=>exact pl F F F hw F
 |empty=>exact pl F F F hw F
 |letter p n=>exact pl F F F hw F
 |and a b=>exact pl F F F hw F
 |not a=>exact pl F F F hw F
 |star a=>exact pl F F F hw F
 |ahead a=>
  have qX:a.sz+1≤8:=qX
  obtain⟨A,hA,hm⟩: ∃A:List Nat,A.length≤bO a.sz∧ ∀u x,iS (v:Int) u→x<2^v→dR (eZ v (.ahead a)).d (fm (eZ v (.ahead a)).d (runN (eZ v (.ahead a)).d (eZ v (.ahead a)).d.start.toNat u) x)=false→fm (eZ v (.ahead a)).d (runN (eZ v (.ahead a)).d (eZ v (.ahead a)).d.start.toNat u) x∈A:=by
   by_cases h6:a.sz≤6
   ·exact P0 hw h6 hL
   ·refine⟨List.range (eZ v (.ahead a)).d.next.length,?_,fun u x hu hx _=>?_⟩
    ·rw[iE,show bO a.sz=4096 by rw[show a.sz=7 by omega];rfl]
     exact hL.valid.n4
    ·have:=kj hL.valid.toVal (ez hL.valid.toVal) _ (hL.wd.2 (yd hu hx))
     rw[e8]at this
     exact List.mem_range.2 this
  exact⟨[],A,[0],by simp,hA,aI 1,fun h=>absurd F h,fun _=>hm,List.mem_singleton.2 F⟩
 |behind a=>
  have qX:a.sz+1≤8:=qX
  obtain⟨h1,h2⟩:=HC hv (t:=a) hw (by omega)
  have h4:2^(minOf v (fM a)).next.length≤2^ul a.sz:=ck (by decide) h2
  have hb: ∀k,k≤7→2^ul k≤4096:=by decide
  have h5:=lw hv (hb a.sz (by omega)) (fw hv) (dw hv (aI 4096) (t:=a) hw h1).toHasL (lu (fw hv).valid (dw hv (aI 4096) (t:=a) hw h1).valid (by show 1*_≤_;omega))
  exact⟨[],[],List.range (eZ v (.behind a)).d.next.length,by simp,by simp,by rw[iE];exact h5.len,fun _ h=>absurd F h,fun h=>absurd h (by show¬(10:Nat)=9;decide),fun q hq=>List.mem_range.2 hq⟩
theorem afQ {v:Nat} (hv:v≤6) {t:Rx} (hw:t.wf=true) (hs:t.sz≤8) (Ot:t.plain=false):okC v t 4096:=by
 have ho:=Ll hv hw hs
 have iH:=sZ t
 have afR:=C8 t
 have Kz:t.lv≤4:=by
  have: ∀l:List Rx,(∀r∈l,r.leaf=true)→2*l.length≤(l.map fun r=>wR r+1).sum:=fun l=>by
   induction l with
   |nil=>simp
   |cons r l ih=>
    intro h
    have:=ih fun q hq=>h q (by simp[hq])
    have h1:=(C7 (h r (by simp))).2.1
    have h2:=r.ft
    rw[cJ,List.sum_cons,bQ];omega
  have:=this t.ut (sw t)
  omega
 have hG:=Cn hv (aI 4096) hw (by omega) ho
 have hO:=vj v t
 refine⟨ho,?_⟩
 have Dg: ∀r∈t.ut,wR r≤8:=fun r hr=>by
  have:=Jy (List.mem_map_of_mem (f:=fun r=>wR r+1) hr)
  omega
 classical
 have hk: ∀k,∃X:List Nat×List Nat×List Nat,k<t.lv→ ∃r,t.ut[k]? =some r∧X.1.length≤UO (oR r) (Ak r)∧X.2.1.length≤UN (oR r) (Ak r)∧X.2.2.length≤UM (oR r) (Ak r)∧
   (((lf (jN v t) k).op≠9→(lf (jN v t) k).op≠10→ ∀u x,iS (v:Int) u→x<2^v→fm (lf (jN v t) k).d (runN (lf (jN v t) k).d (lf (jN v t) k).d.start.toNat u) x∈X.1)∧
   ((lf (jN v t) k).op=9→ ∀u x,iS (v:Int) u→x<2^v→dR (lf (jN v t) k).d (fm (lf (jN v t) k).d (runN (lf (jN v t) k).d (lf (jN v t) k).d.start.toNat u) x)=false→fm (lf (jN v t) k).d (runN (lf (jN v t) k).d (lf (jN v t) k).d.start.toNat u) x∈X.2.1)∧
   (if(lf (jN v t) k).op=10 then∀q,q<(lf (jN v t) k).d.next.length→q∈X.2.2 else 0∈X.2.2)):=fun k=>by
  by_cases c:k<t.lv
  ·obtain⟨r,h1,h2,h3⟩:=XZ (CZ v t).1 k c
   rw[Nat.zero_add]at h2 h3
   have hr:=bT h1
   obtain⟨A,B,C,a1,a2,a3,a4⟩:=P2 hv (sw t r hr) (HB hw r hr) (Dg r hr)
   exact⟨(A,B,C),fun _=>⟨r,h1,a1,a2,a3,by rw[h2,h3];exact a4⟩⟩
  ·exact⟨([],[],[]),fun h=>absurd h c⟩
 obtain⟨mX,hm⟩:=Classical.axiomOfChoice hk
 obtain⟨mS,hmS⟩: ∃m:Nat→List Nat,m=fun k=>(mX k).1:=⟨_,F⟩
 obtain⟨mO,hmO⟩: ∃m:Nat→List Nat,m=fun k=>(mX k).2.1:=⟨_,F⟩
 obtain⟨mB,hmB⟩: ∃m:Nat→List Nat,m=fun k=>(mX k).2.2:=⟨_,F⟩
 have X2: ∀k,(h:k<(t.ut.map fun r=>(oR r,Ak r)).length)→(mB k).length≤UM (t.ut.map fun r=>(oR r,Ak r))[k].1 (t.ut.map fun r=>(oR r,Ak r))[k].2∧(mO k).length≤UN (t.ut.map fun r=>(oR r,Ak r))[k].1 (t.ut.map fun r=>(oR r,Ak r))[k].2∧(mS k).length≤UO (t.ut.map fun r=>(oR r,Ak r))[k].1 (t.ut.map fun r=>(oR r,Ak r))[k].2:=fun k h=>by
  have hl:k<t.ut.length:=by simpa using h
  obtain⟨r,h1,h2,h3,h4,_⟩:=hm k (by omega)
  rw[ak hl]at h1
  injection h1 with h1
  simp only[jU,h1,hmS,hmO,hmB]
  exact⟨h4,h3,h2⟩
 have hp:=UP (l:=t.ut.map fun r=>(oR r,Ak r)) t.lv (by simp[iH]) X2
 rw[bt (by simp[iH])]at hp
 have hn:=Jx (t.ut.map fun r=>(oR r,Ak r)) (q:=⟨1,1,0⟩) X1 (by simp;omega) (fun x hx=>?_) (by
  rw[List.map_map]
  have:(fun r:Rx=>wR r+1)=((fun x:Nat×Nat=>x.2+1+(if x.1=0 then 0 else 1))∘fun r=>(oR r,Ak r)):=by
   funext r;show Ak r+(if oR r=0 then 0 else 1)+1=Ak r+1+(if oR r=0 then 0 else 1);omega
  rw[←this,afR];omega) (.inr ?_)
 ·refine SY hG (I5 hv (aI 4096) hw ho) x0 mS mO mB (fun k q x hk h9 xG hq hx=>?_) (fun k q x hk h9 hq hf hx hf2=>?_) (fun k hk=>?_) ?_ ?_
  ·obtain⟨r,_,_,_,_,a1,_,_⟩:=hm k (by omega)
   obtain⟨u,hu,rfl⟩:=hq
   rw[hmS];exact a1 h9 xG u x hu hx
  ·obtain⟨r,_,_,_,_,_,a2,_⟩:=hm k (by omega)
   obtain⟨u,hu,rfl⟩:=hq
   rw[hmO];exact a2 h9 u x hu hx hf2
  ·obtain⟨r,_,_,_,_,_,_,a3⟩:=hm k (by omega)
   rw[hmB];exact a3
  ·rw[hO]
   exact bE (Nat.mul_le_mul hp.1 (ck (by decide) hp.2.2)) hn.1
  ·rw[hO]
   exact bE (Nat.succ_le_succ hp.1) hn.2
 ·obtain⟨r,hr,rfl⟩:=List.mem_map.1 hx
  have h1:=Dg r hr
  have h2:=(C7 (sw t r hr)).2.1
  have h3:1≤Ak r∧oR r<3:=by
   have:=r.ft
   cases r with
   |ahead a=>exact⟨a.ft,by simp[oR]⟩
   |behind a=>exact⟨a.ft,by simp[oR]⟩
   |_=>exact⟨this,by simp[oR]⟩
  refine⟨h3.2,h3.1,?_⟩
  show Ak r<9
  unfold wR at h1;omega
 ·have: ∀ {t:Rx},t.wf=true→(∀r∈t.ut,oR r=0)→t.plain=true:=fun {t}=>by
   induction t with
   |iG a b ln mi=>
    intro hw h
    simp only[Rx.wf,ar]at hw
    simp only[Rx.plain,ar]
    exact⟨ln hw.1 fun r hr=>h r (aH _ hr),mi hw.2 fun r hr=>h r (ah _ hr)⟩
   |iR a b ln mi=>
    intro hw h
    simp only[Rx.wf,ar]at hw
    simp only[Rx.plain,ar]
    exact⟨ln hw.1 fun r hr=>h r (aH _ hr),mi hw.2 fun r hr=>h r (ah _ hr)⟩
   |ahead a _=>exact fun _ h=>absurd (h _ (List.mem_singleton.2 F)) (by show¬(1:Nat)=0;decide)
   |behind a _=>exact fun _ h=>absurd (h _ (List.mem_singleton.2 F)) (by show¬(2:Nat)=0;decide)
   |none=>exact fun hw _=>hw
   |empty=>exact fun hw _=>hw
   |letter _ _=>exact fun hw _=>hw
   |and _ _ _ _=>exact fun hw _=>hw
   |not _ _=>exact fun hw _=>hw
   |star _ _=>exact fun hw _=>hw
  refine Classical.byContradiction fun FU=>?_
  rw[this hw fun r hr=>Classical.byContradiction fun qm=>FU ⟨_,List.mem_map_of_mem (f:=fun r=>(oR r,Ak r)) hr,qm⟩]at Ot
  cases Ot
theorem s6 {v:Nat} {e:List ei} {fs:List Nat} (h:j7 v e=.ok fs): ∀(f i:Nat),i<f→i<e.length→(iZ e f i).sz+fs.getD i 0=i+1∧((iZ e f i).plain=true→ ∀j,fs.getD i 0≤j→j≤i→ ∀x,e[j]? =some x→jj x=false)
 |0,i,hf,hi=>absurd hf (by omega)
 |f+1,i,hf,hi=>by
  obtain⟨g0,g1,g2,g3⟩:=CV h hi
  obtain⟨s1,s2,_⟩:=lM (qA h hi)
  have A1:cX e[i].op=1→(iZ e f e[i].a.toNat).sz+1+fs.getD i 0=i+1∧((iZ e f e[i].a.toNat).plain=true→ ∀j,fs.getD i 0≤j→j<i→ ∀x,e[j]? =some x→jj x=false):=fun c=>by
   obtain⟨c1,c2,c3⟩:=g1 c
   obtain⟨k1,k2⟩:=s6 h f (i-1) (by omega) (by omega)
   rw[show e[i].a.toNat=i-1 by omega,c3]
   exact⟨by omega,fun hp j h1 h2=>k2 hp j h1 (by omega)⟩
  have A2:cX e[i].op=2→(iZ e f e[i].a.toNat).sz+(iZ e f e[i].b.toNat).sz+1+fs.getD i 0=i+1∧(((iZ e f e[i].a.toNat).plain&&(iZ e f e[i].b.toNat).plain)=true→ ∀j,fs.getD i 0≤j→j<i→ ∀x,e[j]? =some x→jj x=false):=fun c=>by
   obtain⟨c1,c2,c3,c4,c5,c6⟩:=g2 c
   obtain⟨k1,k2⟩:=s6 h f (i-1) (by omega) (by omega)
   obtain⟨m1,m2⟩:=s6 h f (fs.getD (i-1) 0-1) (by omega) (by omega)
   have ea:e[i].a.toNat=fs.getD (i-1) 0-1:=by omega
   rw[ea]at c6
   rw[ea,show e[i].b.toNat=i-1 by omega,c6]
   refine⟨by omega,fun hp j h1 h2=>?_⟩
   rw[ar]at hp
   rcases Nat.lt_or_ge j (fs.getD (i-1) 0)with d|d
   ·exact m2 hp.1 j h1 (by omega)
   ·exact k2 hp.2 j d (by omega)
  have last:jj e[i]=false→(∀j,fs.getD i 0≤j→j<i→ ∀x,e[j]? =some x→jj x=false)→ ∀j,fs.getD i 0≤j→j≤i→ ∀x,e[j]? =some x→jj x=false:=fun h0 h1 j h2 h3 x hx=>by
   rcases Nat.lt_or_ge j i with d|d
   ·exact h1 j h2 d x hx
   ·have e2:j=i:=by omega
    subst e2
    rw[ak hi]at hx
    injection hx with hx
    rw[←hx];exact h0
  have lk: ∀n,e[i].op=n→n≠9→n≠10→jj e[i]=false:=fun n hn h9 xG=>by
   unfold jj;rw[hn,a8 h9,a8 xG];rfl
  have P3:cX e[i].op=0→ ∀j,fs.getD i 0≤j→j<i→ ∀x,e[j]? =some x→jj x=false:=fun c j h1 h2=>by
   have:=g3 c;omega
  unfold iZ
  simp only[oz hi]
  have hk:e[i].op=1∨e[i].op=2∨e[i].op=3∨e[i].op=4∨e[i].op=5∨e[i].op=6∨e[i].op=7∨e[i].op=8∨e[i].op=9∨e[i].op=10:=by omega
  rcases hk with c|c|c|c|c|c|c|c|c|c
  ·have o0:cX e[i].op=0:=by rw[c];rfl
   have:=g3 o0
   have l0:=last (lk _ c (by decide) (by decide)) (P3 o0)
   simp only[c]
   exact⟨by show 1+_=_;omega,fun _=>l0⟩
  ·have o0:cX e[i].op=0:=by rw[c];rfl
   have:=g3 o0
   have l0:=last (lk _ c (by decide) (by decide)) (P3 o0)
   simp only[c]
   exact⟨by show 1+_=_;omega,fun _=>l0⟩
  ·have o0:cX e[i].op=0:=by rw[c];rfl
   have:=g3 o0
   have l0:=last (lk _ c (by decide) (by decide)) (P3 o0)
   simp only[c]
   exact⟨by show 1+_=_;omega,fun _=>l0⟩
  ·obtain⟨k1,k2⟩:=A2 (by rw[c];rfl)
   have l0:=fun hp=>last (lk _ c (by decide) (by decide)) (k2 hp)
   simp only[c]
   exact⟨k1,l0⟩
  ·obtain⟨k1,k2⟩:=A2 (by rw[c];rfl)
   have l0:=fun hp=>last (lk _ c (by decide) (by decide)) (k2 hp)
   simp only[c]
   exact⟨k1,l0⟩
  ·obtain⟨k1,k2⟩:=A2 (by rw[c];rfl)
   have l0:=fun hp=>last (lk _ c (by decide) (by decide)) (k2 hp)
   simp only[c]
   exact⟨k1,l0⟩
  ·obtain⟨k1,k2⟩:=A1 (by rw[c];rfl)
   have l0:=fun hp=>last (lk _ c (by decide) (by decide)) (k2 hp)
   simp only[c]
   exact⟨k1,l0⟩
  ·obtain⟨k1,k2⟩:=A1 (by rw[c];rfl)
   have l0:=fun hp=>last (lk _ c (by decide) (by decide)) (k2 hp)
   simp only[c]
   exact⟨k1,l0⟩
  ·obtain⟨k1,k2⟩:=A1 (by rw[c];rfl)
   simp only[c]
   exact⟨k1,fun hp=>Bool.noConfusion (show false=true from hp)⟩
  ·obtain⟨k1,k2⟩:=A1 (by rw[c];rfl)
   simp only[c]
   exact⟨k1,fun hp=>Bool.noConfusion (show false=true from hp)⟩
theorem afK {vars:Int} {e:List ei} (h0:gJ vars e=0) (hs:e.length≤8):AF vars.toNat e 4096:=by
 obtain⟨h1,h2,h3,h4,fs,h5,h6,h7⟩:=nG h0
 obtain⟨k1,k2⟩:=s6 h5 e.length (e.length-1) (by omega) (by omega)
 have hw:(u3 e).wf=true:=(qz h5 e.length (e.length-1) (by omega) (by omega)).2 h7
 have hz:(u3 e).sz≤8:=by unfold u3;omega
 have hv:vars.toNat≤6:=by omega
 unfold AF
 split
 ·rename_i hl
  refine afQ hv hw hz ?_
  cases hp:(u3 e).plain with
  |false=>rfl
  |true=>
   obtain⟨x,hx,hl⟩:=List.any_eq_true.1 hl
   obtain⟨j,hj,rfl⟩:=List.getElem_of_mem hx
   rw[k2 hp j (by omega) (by omega) _ (ak hj)]at hl
   cases hl
 ·rename_i hl
  refine UG hv (oy h5 (fun x hx=>?_) e.length (e.length-1) (by omega) (by omega)) hz
  have:=List.any_eq_false.1 (by simpa using hl:e.any jj=false) x hx
  unfold jj at this
  simp only[Bool.or_eq_true,cj]at this
  omega
end Go.Lx

