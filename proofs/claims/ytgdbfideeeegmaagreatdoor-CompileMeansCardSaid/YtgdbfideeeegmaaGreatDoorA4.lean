/- Contracts of functions; conditions: those each theorem names. -/
import Derived.Shelf.Small.Bits
import Derived.Test.YtgdbfideeeegmaaGreatDoorA3
set_option linter.unusedSectionVars false
set_option linter.unusedSimpArgs false
set_option linter.unusedVariables false
set_option linter.unnecessarySimpa false
set_option maxHeartbeats 8000000
set_option maxRecDepth 20000
namespace Go.Proofs.YtgdbfideeeegmaaGreatDoor
open Go.Lx Go.RowKit _root_.Go.Proofs.Tryz
theorem VD (w:World) [dA prog w] (x:eC) (v:Nat) (hp:x.p<256) (hn:x.n<256) (hv:v≤6):
  cn prog 127 [x.ag,vN v] w fun r N=>r=vI (oF v x:Int)∧N=[]:=by
 refine aE func127 F ntmps127 F ?_
 have hor:(x.p|||x.n)<2^8:=Nat.or_lt_two_pow hp hn
 refine aj (aq (dE (cs:=x.cl) (fun z1=>?_)))
 refine ak F (ah ?_)
 let eh:Value:=vN (dU x.op)
 refine fg (fun ρ O=> ∃(m zo:Nat),O=[AS m,oI zo 96 [eh,str (jD x.op).1,str (jD x.op).2.1,str (jD x.op).2.2],oI z1 72 x.cl]∧df [(0,x.ag),(1,vN v),(2,(.pointer (aD z1))),(4,vI 0),(5,(.pointer (aD zo)))] ρ) ?_ ?_
 ·refine oP [oI z1 72 x.cl] 6 mixed F (by exact Sub.rf) (fun _ _ _ _ h=>h) ?_
  refine cE 1 F (by kernel_rfl) (bt dt eD) ?_
  refine cE 2 F (by kernel_rfl) (bq 0 gH) ?_
  have LI:=fun(w1:World) (hI:Inv w [oI z1 72 x.cl] w1)=>(haveI:=ef hI;pW w1)
  refine bf [0,4] (by kernel_rfl) F ⟨⟨_,F,F,bm HD (aX LI) ?_⟩,⟨_,F,F,bs lX (fun zo=>⟨by exact Sub.d (.k .z),?_⟩)⟩,trivial⟩
  ·clear LI
   rintro vr O' ⟨N,rfl,m,rfl,rfl⟩
   refine⟨by exact Sub.d (.k .z),?_⟩
   let fe:Value:=(.agg #[eh,str (jD x.op).1,str (jD x.op).2.1,str (jD x.op).2.2])
   refine bf [3,4] (by kernel_rfl) F ⟨⟨_,F,F,eK F F (bL (qD (a:=x.op) wW lX (gG.u8 gH) F F (mG 0)) (v':=fe) (uw x.op)) ⟨by exact Sub.d (.k .z),?_⟩⟩,⟨_,F,F,bs lX (fun zo=>⟨by exact Sub.d (.d (.k .z)),?_⟩)⟩,trivial⟩
   ·refine bf [4] (by kernel_rfl) F ⟨⟨_,F,F,bs lX (fun zo=>⟨by exact Sub.d (.d (.k .z)),?_⟩)⟩,trivial⟩
    refine bf [5] (by kernel_rfl) F ⟨⟨_,F,F,cq (vs:=[eh,str (jD x.op).1,str (jD x.op).2.1,str (jD x.op).2.2]) 0 lX ⟨by exact Sub.d (.d (.k .z)),?_⟩ F F F F⟩,trivial⟩
    exact dD (by kernel_rfl) ⟨m,zo,F,(.of F)⟩ (by exact Sub.dP [oI zo 96 [eh,str (jD x.op).1,str (jD x.op).2.1,str (jD x.op).2.2]] _ (.k (.k .z)))
   refine bf [3] (by kernel_rfl) F ⟨⟨_,F,F,eK F F (bL (qD (a:=x.op) wW lX (gG.u8 gH) F F (mG 1)) (v':=fe) (uw x.op)) ⟨by exact Sub.d (.d (.k .z)),?_⟩⟩,trivial⟩
   refine bf [5] (by kernel_rfl) F ⟨⟨_,F,F,cq (vs:=[eh,str (jD x.op).1,str (jD x.op).2.1,str (jD x.op).2.2]) 0 lX ⟨by exact Sub.d (.d (.k .z)),?_⟩ F F F F⟩,trivial⟩
   exact dD (by kernel_rfl) ⟨m,zo,F,(.of F)⟩ (by exact Sub.dP [oI zo 96 [eh,str (jD x.op).1,str (jD x.op).2.1,str (jD x.op).2.2]] _ (.k (.k .z)))
  refine bf [0] (by kernel_rfl) F ⟨⟨_,F,F,bm HD (aW pW) ?_⟩,trivial⟩
  rintro vr O' ⟨N,rfl,m,rfl,rfl⟩
  refine⟨by exact Sub.d (.d (.k .z)),?_⟩
  refine bf [3] (by kernel_rfl) F ⟨⟨_,F,F,eK F F (bL (qD (a:=x.op) wW lX (gG.u8 gH) F F (mG 0)) (v':=(.agg #[eh,str (jD x.op).1,str (jD x.op).2.1,str (jD x.op).2.2])) (uw x.op)) ⟨by exact Sub.d (.d (.k .z)),?_⟩⟩,trivial⟩
  refine bf [5] (by kernel_rfl) F ⟨⟨_,F,F,cq (vs:=[eh,str (jD x.op).1,str (jD x.op).2.1,str (jD x.op).2.2]) 1 lX ⟨by exact Sub.d (.d (.k .z)),?_⟩ F F F F⟩,trivial⟩
  exact dD (by kernel_rfl) ⟨m,zo,F,(.of F)⟩ (by exact Sub.rf)
 rintro ρ O ⟨m,zo,rfl,hH⟩
 obtain⟨gA,rfl⟩:=hH.elim
 clear hH
 refine aR (aV (aj (ae (bt dt eD) (ae (bq 2 gH) (ae cU ?_)))))
 by_cases h1:((x.op:Nat):Int)<1
 ·refine ae (aC aI (ax h1)) ?_
  refine aQ (aQ (aQ (ae cm (ak F (ah ?_)))))
  refine b_ ?_
  refine aj (ak F (ah (aM (aB ?_))))
  refine aT (vI 6) results127 F ?_
  exact⟨[],Sub.z,by unfold oF;rw[aJ (by omega)];rfl,F⟩
 refine ae (aC aI (am h1)) (aF (bt dt eD) (aF (bq 2 gH) (aF ij (ae bX (ak F (ah (aZ F (fun hc=>?_) (fun hc=>?_))))))))
 ·have lC:x.op>10:=by omega
  refine aj (ak F (ah (aM (aB ?_))))
  refine aT (vI 6) results127 F ?_
  exact⟨[],Sub.z,by unfold oF;rw[aJ (by omega)];rfl,F⟩
 have uo: ¬x.op>10:=by omega
 refine fg (fun ρ O=>Sub [AS m,oI zo 96 [eh,str (jD x.op).1,str (jD x.op).2.1,str (jD x.op).2.2],oI z1 72 x.cl] O∧df [(0,x.ag),(1,vN v),(2,(.pointer (aD z1))),(4,vI 0),(5,(.pointer (aD zo))),(10,.bool (decide (((x.op:Nat):Int)>10))),(19,.bool (decide ((x.op≠3∧(x.p|||x.n)≠0)∨(dU x.op<1∧x.a≠0)∨(dU x.op<2∧x.b≠0))))] ρ) ?_ ?_
 ·refine aR ?_
  refine bg (ae (bt dt eD) (ae (bq 2 gH) (ae dW ?_)))
  by_cases h3:((x.op:Nat):Int)≠3
  ·refine ae (aC aI (ax h3)) ?_
   refine aF (bt dt eD) (aF (bq 2 gH) (aF (bt dt eD) (aF (bq 2 gH) (aF (T5 (a:=x.p) (b:=x.n) .u8 F F (by simp only[IntKind.bits];omega) (by simp only[IntKind.bits];omega)) (aF dW (ae cm (ak F (ah (aZ F (fun hc=>?_) (fun hc=>?_))))))))))
   ·have Zl:x.p|||x.n≠0:=by omega
    refine aL ?_
    exact⟨(by exact Sub.rf),⟨F,F,F,F,F,F,(au Value.bool (decide_eq_decide.2 (by omega))),trivial⟩⟩
   have Zm: ¬x.p|||x.n≠0:=by omega
   refine aj (ae (bt Ed bF) (ae (bq 1 ey) (ae cU ?_)))
   by_cases zP:((dU x.op:Nat):Int)<1
   ·refine ae (aC aI (ax zP)) ?_
    refine aF (bt dt bF) (aF (bq 2 ey) (aF dW (ae cm (ak F (ah (aZ F (fun hc=>?_) (fun hc=>?_)))))))
    ·refine aL ?_
     exact⟨(by exact Sub.rf),⟨F,F,F,F,F,F,(au Value.bool (decide_eq_decide.2 (by omega))),trivial⟩⟩
    refine bg (ae (bt Ed bF) (ae (bq 1 ey) (ae cU ?_)))
    by_cases qN:((dU x.op:Nat):Int)<2
    ·refine ae (aC aI (ax qN)) ?_
     refine aF (bt dt bF) (aF (bq 2 ey) (aF dW (ae cm (ak F (ah ?_)))))
     exact⟨(by exact Sub.rf),⟨F,F,F,F,F,F,(au Value.bool (decide_eq_decide.2 (by omega))),trivial⟩⟩
    refine ae (aC aI (am qN)) (aQ (aQ (aQ (ae bX (ak F (ah ?_))))))
    exact⟨(by exact Sub.rf),⟨F,F,F,F,F,F,(au Value.bool (am (show¬((x.op≠3∧(x.p|||x.n)≠0)∨(dU x.op<1∧x.a≠0)∨(dU x.op<2∧x.b≠0)) by omega)).symm),trivial⟩⟩
   refine ae (aC aI (am zP)) (aQ (aQ (aQ (ae bX (ak F (ah (a8 (bg ?_))))))))
   refine ae (bt Ed bF) (ae (bq 1 ey) (ae cU ?_))
   by_cases qN:((dU x.op:Nat):Int)<2
   ·refine ae (aC aI (ax qN)) ?_
    refine aF (bt dt bF) (aF (bq 2 ey) (aF dW (ae cm (ak F (ah ?_)))))
    exact⟨(by exact Sub.rf),⟨F,F,F,F,F,F,(au Value.bool (decide_eq_decide.2 (by omega))),trivial⟩⟩
   refine ae (aC aI (am qN)) (aQ (aQ (aQ (ae bX (ak F (ah ?_))))))
   exact⟨(by exact Sub.rf),⟨F,F,F,F,F,F,(au Value.bool (am (show¬((x.op≠3∧(x.p|||x.n)≠0)∨(dU x.op<1∧x.a≠0)∨(dU x.op<2∧x.b≠0)) by omega)).symm),trivial⟩⟩
  refine ae (aC aI (am h3)) (aQ (aQ (aQ (aQ (aQ (aQ (ae bX (ak F ?_))))))))
  refine ah (a8 (aj (ae (bt Ed bF) (ae (bq 1 ey) (ae cU ?_)))))
  by_cases zP:((dU x.op:Nat):Int)<1
  ·refine ae (aC aI (ax zP)) ?_
   refine aF (bt dt bF) (aF (bq 2 ey) (aF dW (ae cm (ak F (ah (aZ F (fun hc=>?_) (fun hc=>?_)))))))
   ·refine aL ?_
    exact⟨(by exact Sub.rf),⟨F,F,F,F,F,F,(au Value.bool (decide_eq_decide.2 (by omega))),trivial⟩⟩
   refine bg (ae (bt Ed bF) (ae (bq 1 ey) (ae cU ?_)))
   by_cases qN:((dU x.op:Nat):Int)<2
   ·refine ae (aC aI (ax qN)) ?_
    refine aF (bt dt bF) (aF (bq 2 ey) (aF dW (ae cm (ak F (ah ?_)))))
    exact⟨(by exact Sub.rf),⟨F,F,F,F,F,F,(au Value.bool (decide_eq_decide.2 (by omega))),trivial⟩⟩
   refine ae (aC aI (am qN)) (aQ (aQ (aQ (ae bX (ak F (ah ?_))))))
   exact⟨(by exact Sub.rf),⟨F,F,F,F,F,F,(au Value.bool (am (show¬((x.op≠3∧(x.p|||x.n)≠0)∨(dU x.op<1∧x.a≠0)∨(dU x.op<2∧x.b≠0)) by omega)).symm),trivial⟩⟩
  refine ae (aC aI (am zP)) (aQ (aQ (aQ (ae bX (ak F (ah (a8 (bg ?_))))))))
  refine ae (bt Ed bF) (ae (bq 1 ey) (ae cU ?_))
  by_cases qN:((dU x.op:Nat):Int)<2
  ·refine ae (aC aI (ax qN)) ?_
   refine aF (bt dt bF) (aF (bq 2 ey) (aF dW (ae cm (ak F (ah ?_)))))
   exact⟨(by exact Sub.rf),⟨F,F,F,F,F,F,(au Value.bool (decide_eq_decide.2 (by omega))),trivial⟩⟩
  refine ae (aC aI (am qN)) (aQ (aQ (aQ (ae bX (ak F (ah ?_))))))
  exact⟨(by exact Sub.rf),⟨F,F,F,F,F,F,(au Value.bool (am (show¬((x.op≠3∧(x.p|||x.n)≠0)∨(dU x.op<1∧x.a≠0)∨(dU x.op<2∧x.b≠0)) by omega)).symm),trivial⟩⟩
 rintro ρ O ⟨hS,hH⟩
 obtain⟨gA,rfl⟩:=hH.elim
 clear hH
 refine dc hS ?_
 refine aZ F (fun hc=>?_) (fun hc=>?_)
 ·refine aR ?_
  refine bg (ak F (ah (aM (aB ?_))))
  refine aT (vI 2) results127 F ?_
  exact⟨[],Sub.z,by unfold oF;rw[aA (by omega),aJ (by omega)];rfl,F⟩
 refine aj (ae (bt dt eD) (ae (bq 2 gH) (ae bK (ak F (ah (aZ F (fun hc=>?_) (fun hc=>?_)))))))
 ·have LB:x.op=3:=by omega
  refine aj (ae (bt dt eD) (ae (bq 2 gH) (ae (bt dt eD) (ae (bq 2 gH) (ae (cT (cs:=[v8 x.p,v8 x.n]) rN ji (by kernel_rfl)) (ai F (aq (bm VE (aX fun w1 hI=>(haveI:=ef hI;Gl w1 x.p x.n v hp hn hv)) ?_))))))))
  rintro vr O' ⟨N,rfl,rfl,rfl⟩
  refine ak F (ah (aM (aB ?_)))
  refine aT (vI (BF v x.p x.n:Int)) results127 F ?_
  exact⟨[],Sub.z,by unfold oF;rw[aA (by omega),aA (by omega),aJ (by omega)],F⟩
 have LG: ¬x.op=3:=by omega
 refine aL (aj (ak F (ah (aM (aB ?_)))))
 refine aT (vI 0) results127 F ?_
 exact⟨[],Sub.z,by unfold oF;rw[aA (by omega),aA (by omega),aA (by omega)];rfl,F⟩
theorem Y2 (base:World) [dA prog base] (b:Option Addr) (c m:Nat) (l:List UInt8) (hl:l.length=m) (hm:m≤900000):
  cj prog base 210 [.slice b m c,vI (-1),vI 10] [av b c 5 1 (dn l)] (fun v O'=> ∃b' c',v=.slice b' (m+(kQ (-1)).length) c'∧O'=[av b' c' 5 1 (dn (l++kQ (-1)))]):=by
 refine aE func210 F ntmps210 F ?_
 refine aj (ak F (ah (aj (ai F (ae (K9 uT2 Y3 F) (ak F (ah (aR (aj (ai F (ae cU (ah ?_))))))))))))
 refine b_ ?_
 refine aj (ai F (aq (cR (v:=.int .u8 45) kC eD F F F (fun n5=>?_))))
 refine aq (dq 1 kC kC eD F F F F (by simp[hl]) (by decide) (Src.row (j:=0) F (by simp)) (by simp[fF]) (by omega) (by decide) (by decide) (fun yf c3=>?_))
 refine ak F (ah (bg (ai F (ae (Y4 F) (ak F (ah (aj (ai F (ai F (ai F ?_))))))))))
 have mx:=(cj.sub (O':=[av yf c3 5 1 (dn (l++[45]))]) (O:=[av (aD n5) 1 5 1 [.int .u8 45],av yf c3 5 1 ((dn l)++[.int .u8 45])]) (by rw[show dn (l++[45])=dn l++[Value.int .u8 45]from bj];exact(by exact Sub.d (.k .z))) (Dw base yf c3 0 (m+1) 1 (l++[45]) (by simp[hl]) (by decide) (by omega)))
 refine aq (bm L7 mx ?_)
 clear mx
 rintro vr O' ⟨b9,c9,rfl,rfl⟩
 refine ak F (ah (aM ?_))
 refine aT (.slice b9 (m+1+(Lib.decDigits 1).length) c9) results210 F ?_
 exact⟨b9,c9,by simp[kQ,Lib.decDigits,Nat.add_assoc],by simp[kQ,Lib.decDigits]⟩
theorem acZ (base:World) [dA prog base] (b:Option Addr) (c m:Nat) (l:List UInt8) (hl:l.length=m) (hm:m≤900000):
  cj prog base 160 [.slice b m c,vI (-1),vI 10] [av b c 5 1 (dn l)] (fun v O'=> ∃b' c',v=.slice b' (m+(kQ (-1)).length) c'∧O'=[av b' c' 5 1 (dn (l++kQ (-1)))]):=by
 refine aE func160 F ntmps160 F ?_
 refine aj (ak F (ah (aj (ai F (ai F (ai F ?_))))))
 have lB:=Y2 base b c m l hl hm
 refine aq (bm L8 lB ?_)
 clear lB
 rintro vr O' ⟨b2,c2,rfl,rfl⟩
 refine ak F (ah (aM ?_))
 refine aT (.slice b2 (m+(kQ (-1)).length) c2) results160 F ?_
 exact⟨b2,c2,F,F⟩
theorem Y5 (base:World) [dA prog base] (b:Option Addr) (c m:Nat) (l:List UInt8) (n:Int) (hl:l.length=m) (hn:ng n) (hm:m≤900000):
  cj prog base 160 [.slice b m c,vI n,vI 10] [av b c 5 1 (dn l)] (fun v O'=> ∃b' c',v=.slice b' (m+(kQ (n)).length) c'∧O'=[av b' c' 5 1 (dn (l++kQ (n)))]):=by
 by_cases h:n= -1
 ·subst h;exact acZ base b c m l hl hm
 ·rcases hn with hn|⟨h0,h1⟩
  ·contradiction
  ·obtain⟨k,rfl⟩:=Int.eq_ofNat_of_zero_le h0
   have h9:=Uy base b c 0 m k l hl (by omega) (by omega)
   unfold kQ;rw[aA h];exact h9
theorem Sv (base:World) [dA prog base] (b lb:Option Addr) (c m lc:Nat) (xs:List UInt8) (l:List Int) (hx:xs.length=m) (hL:Sl base lb (ints l)) (hn: ∀n∈l,ng n) (hm:m+13*l.length≤800000):
  cj prog base 112 [.slice b m c,.slice lb l.length lc] [av b c 5 1 (dn xs)] (fun v O'=> ∃b' c',v=.slice b' (m+(iU l).length) c'∧O'=[av b' c' 5 1 (dn (xs++iU l))]):=by
 refine aE func112 F ntmps112 F ?_
 refine aj (ak F (ah (aR (aj (ai F (ae (cQ cL) (ai F (ah (aV ?_)))))))))
 refine dZ (fun(i:Nat) ρ O=> ∃(jb:Option Addr) (jc:Nat),O=[av jb jc 5 1 (dn (xs++iU (l.take i)))]∧i≤l.length∧df [(0,(.slice jb (m+(iU (l.take i)).length) jc)),(1,(.slice lb l.length lc)),(4,nS),(7,(.slice lb l.length lc)),(8,vI (l.length:Int)),(9,vN i)] ρ) (fun i=>l.length-i) 0 ?_ ?_
 ·exact⟨b,c,by simp[iU],bl _,⟨(by show Value.slice b m c=_;simp[iU]),F,F,F,F,F,trivial⟩⟩
 rintro i ρ O ⟨jb,jc,rfl,hi,hH⟩
 obtain⟨gA,rfl⟩:=hH.elim
 clear hH
 have L9:=pS (l:=l.take i) fun n h=>hn n (List.mem_of_mem_take h)
 have gw:=List.length_take_le i l
 refine aj (ae cU (ah (aR (aZ F (fun hc=>?_) (fun hc=>?_)))))
 ·have lC:i<l.length:=by omega
  have hdl:=qS (hn _ (aN lC))
  refine aL (aR (aV (aj (ae (dX (i:=i) cL bF F F (aK hL)) (ae (cS ey F F (aK hL) gL) (ak F (ah (bg (ai F (ai F ?_))))))))))
  have um:=Y5 base jb jc (m+(iU (l.take i)).length) (xs++iU (l.take i)) l[i] (by simp[hx]) (hn _ (aN lC)) (by omega)
  refine aq (bm BI um ?_)
  clear um
  rintro vr O' ⟨b2,c2,rfl,rfl⟩
  refine aq (cR (v:=.int .u8 32) kC eD F F F (fun n5=>?_))
  refine aq (dq 1 kC kC eD F F F F (by simp[hx,Nat.add_assoc]) (by decide) (Src.row (j:=0) F (by simp)) (by simp[fF]) (by have:=qS (hn _ (aN lC));omega) (by decide) (by decide) (fun yf c3=>?_))
  refine ak F (ah (bg (ae (dr (a:=i) (b:=1) F F (by omega)) (ai F (ah ?_)))))
  have e9:=Dx lC
  exact⟨i+1,by omega,[av yf c3 5 1 ((dn (xs++iU (l.take i)++kQ l[i]))++[.int .u8 32])],(by exact Sub.d (.k .z)),yf,c3,by rw[e9,←a6,←a6,show dn (xs++iU (l.take i)++kQ l[i]++[32])=dn (xs++iU (l.take i)++kQ l[i])++[Value.int .u8 32]from bj],by omega,⟨(au (fun n9=>Value.slice yf n9 c3) (show m+(iU (l.take i)).length+(kQ l[i]).length+1=m+(iU (l.take (i+1))).length by rw[e9];simp only[aP,bG,dl,Nat.add_assoc])),F,F,F,F,F,trivial⟩⟩
 have uo: ¬i<l.length:=by omega
 refine cG ?_
 refine aj (ai F (ak F (ah (aM ?_))))
 refine aT (.slice jb (m+(iU (l.take i)).length) jc) results112 F ?_
 have xf:i=l.length:=by omega
 subst xf
 rw[List.take_length]
 exact⟨jb,jc,F,F⟩
theorem nN (w:World) [dA prog w] (cb:Nat) (eb:Option Addr) (en ec vs B:Nat) (hc:Sl w (aD cb) [.slice eb en ec,vI (vs:Int),vI (B:Int)]) (d:cV) (k:DK) (e:Int):
  dK prog w (.iface 163 (.agg #[])) 101 [(dJ (aD cb) 0),dV d k,vI e] [] (fun v N=>v=dV d k∧N=[]∧e=0∧d.next.length≤B) (¬(e=0∧d.next.length≤B)):=by
 refine dS func101 F ntmps101 F ?_
 refine aj (aq (dE (cs:=(dC d k)) (fun n5=>?_)))
 refine aq (bs bN (fun yf=>?_))
 refine ah (aR (aR ?_))
 refine fS [(0,0),(1,0),(2,0),(3,0),(4,0),(5,0),(6,0),(7,0),(8,0),(9,0),(10,0),(11,0)] ?_
 refine aw F aI ?_
 by_cases he:e≠0
 ·refine aw F (aC dW (ax he)) ?_
  refine aw F aI (bH F F F (bH F F F (bH F F F (bH F F F (bH F F F (bH F F F (bH F F F ?_)))))))
  refine bH F F F (aw F cm ?_)
  refine cA ?_
  refine b_ ?_
  refine bg (ae (cT xg BJ F) (ae (rP Hl F) ?_))
  exact eJ F (xh F (fun _=>⟨F,fun h9=>by omega⟩))
 refine aw F (aC dW (am he)) (aw F aI ?_)
 refine bn F F F (bt dj fR) ?_
 refine bn F F F (bq 1 fp) ?_
 refine bn F F F (cQ fp) ?_
 refine bn F F F aI ?_
 refine bn F F F a_ ?_
 refine bn F F F (cz lM F bF F F (aK hc) (by first|omega|(simp;done)|(simp;omega)|(simp_all;done)|(simp_all;omega))) ?_
 refine bn F F F (cS ey F F (aK hc) F) ?_
 refine bn F F F ij ?_
 refine aw F bX ?_
 refine cA ?_
 refine aZ F (fun hc=>?_) (fun hc=>?_)
 ·have RY:d.next.length>B:=by omega
  refine bg (ae (cT xg BJ F) (ae (rP Hl F) ?_))
  exact eJ F (xh F (fun _=>⟨F,fun h9=>by omega⟩))
 have Ai: ¬d.next.length>B:=by omega
 have GZ:d.next.length≤B:=by omega
 refine aL (aj (ae (eN 1 dj bN) (aq (cq (vs:=(dC d k)) 0 bN ?_))))
 refine ah (aM (aB ?_))
 refine cN (i:=0) results101 dj F bN F F F ?_
 exact⟨[],Sub.z,F,F,by omega,GZ⟩
theorem vg {α:Type} {p:α→Bool} {xs:List α} {k:Nat} (h:k<xs.length) (ha:(xs.take k).any p=false) (hp:p xs[k]=false):(xs.take (k+1)).any p=false:=by
 rw[aH h,List.any_append,ha];simp[hp]
theorem Qr {p:Int→Bool} {xs:List Int} {i:Int} (h:(xs.any p=false∧i= -1)∨ ∃k:Nat,i=(k:Int)∧k<xs.length∧(xs.take k).any p=false∧p (xs.getD k 0)=true):decide (i≥0)=xs.any p:=by
 rcases h with⟨h1,rfl⟩|⟨k,rfl,h1,_,h2⟩
 ·rw[h1];decide
 ·rw[show xs.any p=true from List.any_eq_true.2 ⟨_,aN h1,by rwa[az,ap h1]at h2⟩];exact ax (by omega)
theorem Hm {α:Type} {p:α→Bool} {xs:List α} {k:Nat} (h:k<xs.length) (hp:p xs[k]=true):xs.any p=true:=List.any_eq_true.2 ⟨_,aN h,hp⟩
theorem sR (base:World) [dA prog base] (b:Option Addr) (c:Nat) (xs:List Int) (hS:Sl base b (ints xs)) (hb:xs.length<9223372036854775807) (fv:Value) (p:Int→Bool) (OO:List Lx.Item) (hy: ∀x∈xs,eH prog base fv [vI x] OO (fun v O'=>v=.bool (p x)∧O'=OO)):
  cj prog base 194 [.slice b xs.length c,fv] OO (fun v O'=> ∃i:Int,v=vI i∧((xs.any p=false∧i= -1)∨ ∃k:Nat,i=(k:Int)∧k<xs.length∧(xs.take k).any p=false∧p (xs.getD k 0)=true)∧O'=OO):=by
 refine aE func194 F ntmps194 F ?_
 refine aj (ak F (ah (aR (aj (ai F (ae (cQ cL) (ai F (ah (aV ?_)))))))))
 refine ek (fun(k:Nat) ρ O=>O=OO∧k≤xs.length∧(xs.take k).any p=false∧df [(0,(.slice b xs.length c)),(1,fv),(7,vI (xs.length:Int)),(8,vI (k:Int))] ρ) (fun k=>xs.length-k) 0 ?_ ?_
 ·exact⟨F,bl _,F,⟨F,F,F,F,trivial⟩⟩
 rintro k ρ O ⟨rfl,hk,lN,hH⟩
 obtain⟨gA,rfl⟩:=hH.elim
 clear hH
 refine aj (ae cU (ah (aR (aZ F (fun hc=>?_) (fun hc=>?_)))))
 ·have ln:k<xs.length:=by omega
  refine aL (aR (aV (aj (ai F (ak F (ah (aj (ai F (ai F (ai F (ae (dX (i:=k) cL bF F F (aK hS) ln (by rw[ar];exact ln)) (ae (cS ey F F (aK hS) (gL ln)) ?_))))))))))))
  have o9:=hy xs[k] (aN ln)
  refine aq (eu o9 F F ?_)
  clear o9
  rintro vr O' ⟨rfl,rfl⟩
  refine ah (T.cond F (fun hc=>?_) (fun hc=>?_))
  ·refine aR ?_
   refine bg (ai F (ak F (ah (aM (aB ?_)))))
   refine aT (vI (k:Int)) results194 F ?_
   exact⟨_,ck (aY _),k,F,.inr ⟨k,F,ln,lN,by rw[az,ap ln];exact hc⟩,F⟩
  refine aL (bg (ae (dr (a:=k) (b:=1) F F (by omega)) (ai F (ah ?_))))
  exact⟨k+1,by omega,F,by omega,vg ln lN hc,⟨F,F,F,F,trivial⟩⟩
 have L_: ¬k<xs.length:=by omega
 refine cG ?_
 refine aj (ak F (ah (aM (aB ?_))))
 refine aT (vI (-1)) results194 F ?_
 exact⟨_,ck (aY _), -1,F,.inl ⟨by rw[br (by omega)]at lN;exact lN,F⟩,F⟩
theorem zR (base:World) [dA prog base] (b:Option Addr) (c:Nat) (xs:List Int) (hS:Sl base b (ints xs)) (hb:xs.length<9223372036854775807) (fv:Value) (p:Int→Bool) (OO:List Lx.Item) (hy: ∀x∈xs,eH prog base fv [vI x] OO (fun v O'=>v=.bool (p x)∧O'=OO)):
  cj prog base 195 [.slice b xs.length c,fv] OO (fun v O'=>v=.bool (xs.any p)∧O'=OO):=by
 refine aE func195 F ntmps195 F ?_
 refine aj (ak F (ah (aj (ai F (ai F ?_)))))
 have Dy:=sR base b c xs hS hb fv p OO hy
 refine aq (bm FO Dy ?_)
 clear Dy
 rintro v O' ⟨i,rfl,hi,rfl⟩
 refine ae kV (ak F (ah (aM (aB ?_))))
 refine aT (.bool (decide (i≥0))) results195 F ?_
 exact⟨_,ck (aY _),au Value.bool (Qr hi),F⟩
theorem ac0 (base:World) [dA prog base] (d:cV) (k:DK) (ha:At base d k) (hv:Valid d) (z1 s:Nat) (hs:s<d.next.length):
  cj prog base 196 [vN s,.pointer (aD z1)] [oI z1 25 (dC d k)] (fun v O'=>v=.bool (dF d s)∧O'=[oI z1 25 (dC d k)]):=by
 refine aE func196 F ntmps196 F ?_
 refine aj (ak F (ah (aj (ae (bt dj dH) (ae (bq 0 eI) (ai F (ae (dX (i:=s) eI fC F F (aK ha.a7) (by rw[hv.fin];exact hs) (by rw[ar,hv.fin];exact hs)) (ae (cS BB F F (aK ha.a7) (pC hv hs)) (ak F (ah (aM ?_)))))))))))
 refine aT (.bool (dF d s)) results196 F ?_
 exact⟨F,F⟩
theorem xi (w:World) [dA prog w] (d:cV) (k:DK) (ha:At w d k) (hv:Valid d) (b:Option Addr) (c:Nat) (l:List Nat) (hS:Sl w b (bW l)) (hl: ∀s∈l,s<d.next.length) (hb:l.length≤1000000):
  cn prog 148 [dV d k,.slice b l.length c] w fun v N=>v=.bool (l.any (dF d))∧N=[]:=by
 refine aE func148 F ntmps148 F ?_
 refine aj (aq (dE (cs:=(dC d k)) (fun z1=>?_)))
 refine ak F (ah (aj (ai F (ae (dx) ?_))))
 have Dy:=(show cj _ _ _ _ _ _ from by
   have h9:=zR w b c (l.map fun y:Nat=>(y:Int)) (by rw[gr];exact hS) (by rw[ar];omega) (.func (.func 196) #[] #[.pointer (aD z1)]) (fun x=>dF d x.toNat) [oI z1 25 (dC d k)] (fun x hx=>by
    obtain⟨s,hs,rfl⟩:=List.mem_map.1 hx
    exact bU (first:=[]) (args:=[vI (s:Int)]) (fG:=[.pointer (aD z1)]) Uz (ac0 w d k ha hv z1 s (hl s hs)))
   rw[ar]at h9
   exact h9)
 refine aq (bm UA Dy ?_)
 clear Dy
 rintro vr O' ⟨rfl,rfl⟩
 refine ak F (ah (aM (aB ?_)))
 refine aT (.bool ((l.map fun y:Nat=>(y:Int)).any fun x=>dF d x.toNat)) results148 F ?_
 exact⟨[],Sub.z,au Value.bool (by rw[List.any_map];rfl),F⟩
theorem Sw (w:World) [dA prog w] (d:cV) (k:DK) (ha:At w d k) (hv:Valid d) (b:Option Addr) (c:Nat) (l:List Nat) (hS:Sl w b (bW l)) (hl: ∀s∈l,s<d.next.length) (hb:l.length≤1000000) (x:Nat) (hx:x<ez d):
  cn prog 144 [dV d k,.slice b l.length c,v8 x] w fun v N=> ∃b' c',v=.slice b' (ga d l x).length c'∧N=[av b' c' 3 1 (bW (ga d l x))]:=by
 refine aE func144 F ntmps144 F ?_
 have Py:=ha.rows.1
 refine aj (aq (dE (cs:=(dC d k)) (fun z1=>?_)))
 refine ak F (ah (aR (aj (ai F (ae (cQ cL) (ai F (ah (aV (T.fq 3 1 ?_)))))))))
 let eh:Lx.Item:=oI z1 25 (dC d k)
 refine dZ (fun(i:Nat) ρ O=> ∃(rb:Option Addr) (rc:Nat),O=[av rb rc 3 1 (ints ((l.take i).map fun s=>((eS d s x:Nat):Int))),eh]∧i≤l.length∧df [(0,(dV d k)),(1,(.slice b l.length c)),(2,v8 x),(3,(.pointer (aD z1))),(6,(.slice rb i rc)),(9,(.slice b l.length c)),(10,vI (l.length:Int)),(11,vN i)] ρ) (fun i=>l.length-i) 0 ?_ ?_
 ·exact⟨none,0,F,bl _,(.of F)⟩
 rintro i ρ O ⟨rb,rc,rfl,hi,hH⟩
 obtain⟨gA,rfl⟩:=hH.elim
 clear hH
 refine aj (ae cU (ah (aR (aZ F (fun hc=>?_) (fun hc=>?_)))))
 ·have Dz:i<l.length:=by omega
  have qT:l[i]<d.next.length:=hl _ (aN Dz)
  obtain⟨v1,c1,g1,s1⟩:=ha.rows.get qT
  have Ma:d.next[l[i]].length=ez d:=hv.len _ (aN qT)
  have Ft:x<d.next[l[i]].length:=by rw[Ma];exact hx
  refine aL (aR (aV (aj (ae (dX (i:=i) cL bF F F (aK hS)) (ae (cS ey F F (aK hS) iw) (ak F (ah (bg (ai F (ae (bt dj fR) (ae (bq 1 fp) (ai F (ae (dX (i:=l[i]) fp cZ F F (aK ha.outer) qT (Py▸qT)) (ae (cS cL F F (aK ha.outer) g1) (ai F (ae (dX (i:=x) cL bF F F (aK s1) Ft (by rw[ar];exact Ft)) (ae (cS ey F F (aK s1) (xC hv qT hx)) (aq (cR (v:=vN (eS d l[i] x)) cL bF F F F (fun z2=>?_))))))))))))))))))))
  refine aq (dq 1 cL cL bF F F F F (by simp;omega) (by decide) (Src.row (j:=0) F (by simp)) (by simp[fF]) (by omega) (by decide) (by decide) (fun z3 oK=>?_))
  refine ak F (ah (bg (ae (dr (a:=i) (b:=1) F F (by omega)) (ai F (ah ?_)))))
  exact⟨i+1,by omega,[av z3 oK 3 1 ((ints ((l.take i).map fun s=>((eS d s x:Nat):Int)))++[vN (eS d l[i] x)]),eh],(by exact Sub.d (.k (.k .z))),z3,oK,by rw[aH Dz,bj,show ints ((l.take i).map (fun s=>((eS d s x:Nat):Int))++[l[i]].map (fun s=>((eS d s x:Nat):Int)))=ints ((l.take i).map fun s=>((eS d s x:Nat):Int))++[vN (eS d l[i] x)]from bj],by omega,(.of F)⟩
 have Sx: ¬i<l.length:=by omega
 refine cG ?_
 refine aR ?_
 have xf:i=l.length:=by omega
 subst xf
 rw[List.take_length]
 refine bg (ai F (aq (bm UB (nG [0] (by have h9:=Y6 w rb rc (l.map fun s=>((eS d s x:Nat):Int)) (by rw[ar];omega);rw[ar]at h9;exact h9)) ?_)))
 rintro vr O' ⟨A1,rfl,rfl,rfl⟩
 refine ah (aj (ai F ?_))
 have yg:=cj.under (A:=[av rb rc 3 1 (ints (qU (l.map fun s=>((eS d s x:Nat):Int))))]) (B:=[eh]) (O:=[av rb rc 3 1 (ints (qU (l.map fun s=>((eS d s x:Nat):Int)))),eh]) (show cj _ _ _ _ _ (fun v O'=>v=.slice rb (ga d l x).length rc∧O'=[av rb rc 3 1 (bW (ga d l x))])from by
   have h9:=Mb w rb rc (qU (l.map fun s=>((eS d s x:Nat):Int))) (by rw[List.length_mergeSort,ar];exact hb)
   rw[Jo hv.toVal hl hx,ar,gr,List.length_mergeSort,ar]at h9
   exact h9) (by exact Sub.rf)
 refine aq (bm UC yg ?_)
 clear yg
 rintro vr O' ⟨A1,rfl,rfl,rfl⟩
 refine ak F (ah (aM (aB ?_)))
 refine aT (.slice rb ((ga d l x).length) rc) results144 F ?_
 exact⟨[av rb rc 3 1 (bW (ga d l x))],(by exact Sub.k .z),rb,rc,F,F⟩
theorem Sy (base:World) [dA prog base] (n:Nat) (b:Option Addr) (c cv:Nat) (l:List Nat) (s:Nat) (ha:l.Pairwise (· < ·)) (hl: ∀s∈l,s<n) (hs:s<n) (hb:l.length≤1000000):
  cj prog base 149 [.slice b l.length cv,vN s] [av b c 3 1 (bW l)] (fun v O'=> ∃b' c' c2,v=.slice b' (BK n l s).length c'∧O'=[av b' c2 3 1 (bW (BK n l s))]):=by
 refine aE func149 F ntmps149 F ?_
 refine aj (ak F (ah (aj (ai F (ai F (aq (bm UD (aX fun w1 hI=>(haveI:=ef hI;Qs w1 b cv l s (hI.gV (mG 0)) ha hb)) ?_)))))))
 rintro vr O' ⟨N,rfl,rfl,rfl⟩
 refine ai F (ae (bI (vs:=_)) (ae (bI (vs:=_)) (ak F (ak F (ah (aR (aj (ai F (ah (aZ F (fun hc=>?_) (fun hc=>?_)))))))))))
 ·refine aR ?_
  refine bg (ai F (ak F (ah (aM (aB ?_)))))
  refine aT (.slice b l.length cv) results149 F ?_
  rw[Qt ha hl hc]
  exact⟨[av b c 3 1 (bW l)],(by exact Sub.rf),b,cv,c,F,F⟩
 refine aL (aj (ai F ?_))
 refine aq (bm Me (aX fun w1 hI=>(haveI:=ef hI;(show cn _ _ _ _ _ from by
   have h9:=Mf w1 b cv (l.map fun y:Nat=>(y:Int)) (by rw[gr];exact hI.gV (mG 0)) (by rw[ar];exact hb)
   rw[ar,gr]at h9
   exact h9))) ?_)
 rintro vr O' ⟨N,rfl,nb,nc,rfl,rfl,hnc⟩
 refine ai F (ai F (aq (cR (v:=vN s) cL bF F F F (fun z1=>?_))))
 have mx:=cj.under (A:=[av nb nc 3 1 (bW l),av (aD z1) 1 3 1 [vN s]]) (B:=[av b c 3 1 (bW l)]) (O:=[av (aD z1) 1 3 1 [vN s],av nb nc 3 1 (bW l),av b c 3 1 (bW l)]) (show cj _ _ _ _ _ (fun v O'=> ∃b' c',v=.slice b' (l.length+1) c'∧O'=[av b' c' 3 1 (bW (BK n l s))])from by
   have h9:=Qu base nb nc (l.countP (· <s)) z1 (l.map fun y:Nat=>(y:Int)) (s:Int) (by rw[ar];exact List.countP_le_length) (by rw[ar];exact hb) hnc
   rw[←List.map_take,←List.map_drop,ar,gr,show ints (List.map (fun y:Nat=>(y:Int)) (l.take (l.countP (· <s)))++(s:Int)::List.map (fun y:Nat=>(y:Int)) (l.drop (l.countP (· <s))))=bW (BK n l s) by rw[←Hn ha hl hs hc,←gr,bj,cD]]at h9
   exact h9) (by exact Sub.dP [av (aD z1) 1 3 1 [vN s]] _ (.k (.k .z)))
 refine aq (bm UE mx ?_)
 clear mx
 rintro vr O' ⟨A1,rfl,ib,ic,rfl,rfl⟩
 refine ak F (ah (aM (aB ?_)))
 refine aT (.slice ib (l.length+1) ic) results149 F ?_
 have Ku:(BK n l s).length=l.length+1:=by rw[←Hn ha hl hs hc];simp;have:=List.countP_le_length (p:=fun y=>decide (y<s)) (l:=l);omega
 exact⟨[av ib ic 3 1 (bW (BK n l s))],(by exact Sub.k .z),ib,ic,ic,by rw[Ku],F⟩
theorem A_:G4 prog 234 {name:= "s",type:=3,offset:=0,embedded:=false,tag:= "",pkgPath:= "sentinel/boolean",byteOffset:=0} {name:= "t",type:=3,offset:=1,embedded:=false,tag:= "",pkgPath:= "sentinel/boolean",byteOffset:=8}:=⟨pq,ey,ey,F,F,by decide,by decide,by kernel_rfl⟩
theorem Od (w:World) [dA prog w] (a b:cV) (j k:DK) (ha:At w a j) (hb:At w b k) (Pn:a.next.length<9223372036854775807) (Aa: ∀r∈a.next,r.length<9223372036854775807) (Ab:a.a7.length<9223372036854775807) (Vw:b.next.length<9223372036854775807) (Oe: ∀r∈b.next,r.length<9223372036854775807) (Of:b.a7.length<9223372036854775807) (he:gU a b≠0):
  cn prog 190 [dV a j,dV b k] w fun v N=>v=.tuple #[.pointer none,vI (gU a b:Int)]∧N=[]:=by
 refine aE func190 F ntmps190 F ?_
 refine aj (aq (dE (cs:=(dC a j)) (fun n5=>?_)))
 refine aq (dE (cs:=(dC b k)) (fun yf=>?_))
 refine ak F (ak F (ah (aR (aj (ae (eN 1 dj bN) (aq (bm wv (aX fun w1 hI=>(haveI:=ef hI;jo w1 a j.nb j.fb j.nc j.fc (dG j.qs) (hI.CU ha) Pn Aa Ab)) ?_)))))))
 rintro vr O' ⟨N,rfl,rfl,rfl⟩
 refine ak F (ah (aj (ai F (ae dW (ah (aZ F (fun hc=>?_) (fun hc=>?_)))))))
 ·have Dz:dL a≠0:=by omega
  refine aj (ai F (ak F (ak F (ah (aM (aB ?_))))))
  refine de (.pointer none) (vI (dL a:Int)) results190 F F ?_
  exact⟨[],Sub.z,by rw[CH (by omega)],F⟩
 have Sx: ¬dL a≠0:=by omega
 refine aL (aR (aj (ae (eN 0 dj bN) (aq (bm wv (aX fun w1 hI=>(haveI:=ef hI;jo w1 b k.nb k.fb k.nc k.fc (dG k.qs) (hI.CU hb) Vw Oe Of)) ?_)))))
 rintro vr O' ⟨N,rfl,rfl,rfl⟩
 refine ak F (ah (aj (ai F (ae dW (ah (aZ F (fun hc=>?_) (fun hc=>?_)))))))
 ·have agj:dL b≠0:=by omega
  refine aj (ai F (ak F (ak F (ah (aM (aB ?_))))))
  refine de (.pointer none) (vI (dL b:Int)) results190 F F ?_
  exact⟨[],Sub.z,by rw[Bi (by omega) (by omega)],F⟩
 have agk: ¬dL b≠0:=by omega
 refine aL (aR (aj (ae (bt dj bF) (ae (bq 1 ey) (ae (bt dj bF) (ae (bq 0 ey) (ae dW (ah (aZ (p:= ¬a.vars=b.vars) (au Value.bool (decide_eq_decide.2 (by omega))) (fun hc=>?_) (fun hc=>?_))))))))))
 ·refine aR ?_
  refine bg (ak F (ak F (ah (aM (aB ?_)))))
  refine de (.pointer none) (vI 7) results190 F F ?_
  exact⟨[],Sub.z,by rw[Fl (by omega) (by omega) hc];rfl,F⟩
 refine absurd (qp.2 ⟨eF.1 (by omega),eF.1 (by omega),Classical.not_not.1 hc⟩) he
theorem Rr (w:World) [dA prog w] (a b:cV) (j k:DK) (ha:At w a j) (hb:At w b k) (va:Valid a) (vb:Valid b) (hv:a.vars=b.vars):
  cn prog 190 [dV a j,dV b k] w fun v N=> ∃(bp qb m:Nat),v=.tuple #[.pointer (aD bp),vI 0]∧N=[oI bp 238 [(vI a.vars),(vI a.start),(.slice j.nb a.next.length j.nc),(.slice j.fb a.a7.length j.fc),(vI b.vars),(vI b.start),(.slice k.nb b.next.length k.nc),(.slice k.fb b.a7.length k.fc),(.slice (aD qb) ([a.start.toNat*b.next.length+b.start.toNat].length) 1),(.map (some m))],av (aD qb) 1 234 2 (oG b.next.length [a.start.toNat*b.next.length+b.start.toNat]),dO fm (fun n:Nat=>Value.int .i64 (n:Int)) m (pmap b.next.length [a.start.toNat*b.next.length+b.start.toNat])]:=by
 refine aE func190 F ntmps190 F ?_
 have wa:dL a=0:=eF.2 va
 have wb:dL b=0:=eF.2 vb
 have RZ:a.start=((a.start.toNat:Nat):Int):=by have:=va.s0;omega
 have E9:b.start=((b.start.toNat:Nat):Int):=by have:=vb.s0;omega
 have PV:=Bh (s:=a.start.toNat) (ei vb.toVal)
 refine aj (aq (dE (cs:=(dC a j)) (fun n5=>?_)))
 refine aq (dE (cs:=(dC b k)) (fun yf=>?_))
 refine ak F (ak F (ah (aR (aj (ae (eN 1 dj bN) (aq (bm wv (aX fun w1 hI=>(haveI:=ef hI;jo w1 a j.nb j.fb j.nc j.fc (dG j.qs) (hI.CU ha) (by have:=va.n4;omega) va.xE (by have:=va.fin;have:=va.n4;omega))) ?_)))))))
 rintro vr O' ⟨N,rfl,rfl,rfl⟩
 rw[wa]
 refine ak F (ah (aj (ai F (ae dW (ah (a8 (aL (aR (aj (ae (eN 0 dj bN) (aq (bm wv (aX fun w1 hI=>(haveI:=ef hI;jo w1 b k.nb k.fb k.nc k.fc (dG k.qs) (hI.CU hb) (by have:=vb.n4;omega) vb.xE (by have:=vb.fin;have:=vb.n4;omega))) ?_))))))))))))
 rintro vr O' ⟨N,rfl,rfl,rfl⟩
 rw[wb]
 refine ak F (ah (aj (ai F (ae dW (ah (a8 (aL (aR (aj (ae (bt dj bF) (ae (bq 1 ey) (ae (bt dj bF) (ae (bq 0 ey) (ae dW ?_))))))))))))))
 refine ah (a8 (aL (aj (ae (bt dj bF) (ae (bq 1 ey) (ae (bt dj bF) (ae (bq 0 ey) (ae (cT (cs:=[(vI a.start),(vI b.start)]) HE iL (by kernel_rfl)) (aq (bs iL (fun MK=>?_)))))))))) (au Value.bool (am (fun h=>h hv))))
 refine aq (cq (vs:=[(vI a.start),(vI b.start)]) 0 iL ?_)
 refine ah ?_
 let eh:Value:=(.slice j.fb a.a7.length j.fc)
 let fe:Value:=(.slice k.fb b.a7.length k.fc)
 let fA:Value:=(.slice j.nb a.next.length j.nc)
 let fh:Value:=(.slice k.nb b.next.length k.nc)
 refine fg (fun ρ O=> ∃(bp qb m:Nat),O=[oI bp 238 [(vI a.vars),(vI a.start),fA,eh,(vI b.vars),(vI b.start),fh,fe,(.slice (aD qb) 1 1),(.map (some m))],av (aD qb) 1 234 2 [(vI a.start),(vI b.start)],dO fm (fun n:Nat=>Value.int .i64 (n:Int)) m [((a.start,b.start),(0:Nat))]]∧df [(0,(dV a j)),(1,(dV b k)),(2,(.pointer (aD n5))),(3,(.pointer (aD yf))),(4,(.pointer (aD bp))),(5,vI 0),(6,vN 0),(7,vN 0),(8,(.pointer (aD MK)))] ρ) ?_ ?_
 ·refine oP [oI MK 234 [(vI a.start),(vI b.start)],oI yf 25 (dC b k),oI n5 25 (dC a j)] 12 mixed F (by exact Sub.rf) (fun _ _ _ _ h=>h) ?_
  refine cE 0 F (by kernel_rfl) (eN 2 dj bN) ?_
  refine cE 1 F (by kernel_rfl) (eN 1 dj bN) ?_
  refine cE 2 F (by kernel_rfl) (eN 0 pq iL) ?_
  refine cE 5 F (by kernel_rfl) (eN 0 pq iL) ?_
  refine bf [3,4] (by kernel_rfl) F ⟨⟨_,F,F,cK (m:=1) (parts:=[(0,_)]) (cs:=[(vI a.start),(vI b.start)]) nZ iL (by decide) (by kernel_rfl) F (fun qb=>⟨by exact Sub.d (.k (.k (.k .z))),?_⟩)⟩,⟨_,F,F,l7 fm (fun n:Nat=>Value.int .i64 (n:Int)) (fun m=>⟨by exact Sub.d (.k (.k (.k .z))),?_⟩)⟩,trivial⟩
  ·refine bf [4] (by kernel_rfl) F ⟨⟨_,F,F,l7 fm (fun n:Nat=>Value.int .i64 (n:Int)) (fun m=>⟨by exact Sub.d (.d (.k (.k (.k .z)))),?_⟩)⟩,trivial⟩
   refine bf [6] (by kernel_rfl) F ⟨⟨_,F,F,gg (a:=(a.start,b.start)) (v:=(0:Nat)) 0 uM (j_ A_) F F F F (by simp) ⟨by exact Sub.d (.d (.k (.k (.k .z)))),?_⟩⟩,trivial⟩
   refine cE 7 F (by kernel_rfl) aI ?_
   refine cE 8 F (by kernel_rfl) (cT (cs:=[(vI a.vars),(vI a.start),fA,eh,(vI b.vars),(vI b.start),fh,fe,(.slice (aD qb) 1 1),(.map (some m))]) B8 Gm (by kernel_rfl)) ?_
   refine bf [9] (by kernel_rfl) F ⟨⟨_,F,F,dE (cs:=[(vI a.vars),(vI a.start),fA,eh,(vI b.vars),(vI b.start),fh,fe,(.slice (aD qb) 1 1),(.map (some m))]) (fun bp=>⟨by exact Sub.d (.d (.d (.k (.k (.k .z))))),?_⟩)⟩,trivial⟩
   refine cE 10 F (by kernel_rfl) cx ?_
   refine cE 11 F (by kernel_rfl) cx ?_
   exact dD (by kernel_rfl) ⟨bp,qb,m,F,(.of F)⟩ (by exact Sub.k (.dP [dO fm (fun n:Nat=>Value.int .i64 (n:Int)) m [((a.start,b.start),(0:Nat))]] _ (.k .z)))
  refine bf [3,6] (by kernel_rfl) F ⟨⟨_,F,F,cK (m:=1) (parts:=[(0,_)]) (cs:=[(vI a.start),(vI b.start)]) nZ iL (by decide) (by kernel_rfl) F (fun qb=>⟨by exact Sub.d (.d (.k (.k (.k .z)))),?_⟩)⟩,⟨_,F,F,gg (a:=(a.start,b.start)) (v:=(0:Nat)) 0 uM (j_ A_) F F F F (by simp) ⟨by exact Sub.d (.k (.k (.k .z))),?_⟩⟩,trivial⟩
  ·refine bf [6] (by kernel_rfl) F ⟨⟨_,F,F,gg (a:=(a.start,b.start)) (v:=(0:Nat)) 1 uM (j_ A_) F F F F (by simp) ⟨by exact Sub.d (.d (.k (.k (.k .z)))),?_⟩⟩,trivial⟩
   refine cE 7 F (by kernel_rfl) aI ?_
   refine cE 8 F (by kernel_rfl) (cT (cs:=[(vI a.vars),(vI a.start),fA,eh,(vI b.vars),(vI b.start),fh,fe,(.slice (aD qb) 1 1),(.map (some m))]) B8 Gm (by kernel_rfl)) ?_
   refine bf [9] (by kernel_rfl) F ⟨⟨_,F,F,dE (cs:=[(vI a.vars),(vI a.start),fA,eh,(vI b.vars),(vI b.start),fh,fe,(.slice (aD qb) 1 1),(.map (some m))]) (fun bp=>⟨by exact Sub.d (.d (.d (.k (.k (.k .z))))),?_⟩)⟩,trivial⟩
   refine cE 10 F (by kernel_rfl) cx ?_
   refine cE 11 F (by kernel_rfl) cx ?_
   exact dD (by kernel_rfl) ⟨bp,qb,m,F,(.of F)⟩ (by exact Sub.k (.k (.k .z)))
  refine cE 7 F (by kernel_rfl) aI ?_
  refine bf [3] (by kernel_rfl) F ⟨⟨_,F,F,cK (m:=1) (parts:=[(0,_)]) (cs:=[(vI a.start),(vI b.start)]) nZ iL (by decide) (by kernel_rfl) F (fun qb=>⟨by exact Sub.d (.d (.k (.k (.k .z)))),?_⟩)⟩,trivial⟩
  refine cE 8 F (by kernel_rfl) (cT (cs:=[(vI a.vars),(vI a.start),fA,eh,(vI b.vars),(vI b.start),fh,fe,(.slice (aD qb) 1 1),(.map (some m))]) B8 Gm (by kernel_rfl)) ?_
  refine bf [9] (by kernel_rfl) F ⟨⟨_,F,F,dE (cs:=[(vI a.vars),(vI a.start),fA,eh,(vI b.vars),(vI b.start),fh,fe,(.slice (aD qb) 1 1),(.map (some m))]) (fun bp=>⟨by exact Sub.d (.d (.d (.k (.k (.k .z))))),?_⟩)⟩,trivial⟩
  refine cE 10 F (by kernel_rfl) cx ?_
  refine cE 11 F (by kernel_rfl) cx ?_
  exact dD (by kernel_rfl) ⟨bp,qb,m,F,(.of F)⟩ (by exact Sub.k (.k (.k .z)))
 rintro ρ O ⟨bp,qb,m,rfl,hH⟩
 obtain⟨gA,rfl⟩:=hH.elim
 clear hH
 refine aM (aB ?_)
 refine de (.pointer (aD bp)) (vI 0) results190 F F ?_
 have e1:oG b.next.length [a.start.toNat*b.next.length+b.start.toNat]=[vI a.start,vI b.start]:=by
  simp only[oG,List.flatMap_cons,List.flatMap_nil,c_,RV,PV.1,PV.2,←RZ,←E9]
 have e2:pmap b.next.length [a.start.toNat*b.next.length+b.start.toNat]=[((a.start,b.start),0)]:=by
  show[(un _ _,0)]=_
  simp only[un,PV.1,PV.2,←RZ,←E9]
 exact⟨[oI bp 238 [(vI a.vars),(vI a.start),fA,eh,(vI b.vars),(vI b.start),fh,fe,(.slice (aD qb) 1 1),(.map (some m))],av (aD qb) 1 234 2 [(vI a.start),(vI b.start)],dO fm (fun n:Nat=>Value.int .i64 (n:Int)) m [((a.start,b.start),(0:Nat))]],(by exact Sub.rf),bp,qb,m,F,by rw[e1,e2];rfl⟩
theorem WE (w:World) [dA prog w] (bp:Nat):cn prog 191 [.pointer (aD bp)] w fun v N=> ∃b,v=.func (.func 218) #[] #[.pointer (aD b)]∧N=[oI b 227 [(.pointer (aD bp))]]:=by
 refine aE func191 F ntmps191 F ?_
 refine aj (aq (dE (cs:=[(.pointer (aD bp))]) (fun n5=>?_)))
 refine ak F (ah (aj (ae (dx) (ak F (ah (aM ?_))))))
 refine aT (.func (.func 218) #[] #[(.pointer (aD n5))]) results191 F ?_
 exact⟨n5,F,F⟩
theorem aaL (base:World) [dA prog base] (a b:cV) (j k:DK) (bp m:Nat) (ks:List Nat) (c:Nat) (qb:Option Addr) (qc:Nat) (hk:c∈ks) (hl:ks.length≤17000000):
  cj prog base 219 [.pointer (aD bp),(.agg #[vN (c/b.next.length),vN (c%b.next.length)])] [oI bp 238 [(vI a.vars),(vI a.start),(.slice j.nb a.next.length j.nc),(.slice j.fb a.a7.length j.fc),(vI b.vars),(vI b.start),(.slice k.nb b.next.length k.nc),(.slice k.fb b.a7.length k.fc),(.slice qb ks.length qc),(.map (some m))],av qb qc 234 2 (oG b.next.length ks),dO fm (fun n:Nat=>Value.int .i64 (n:Int)) m (pmap b.next.length ks)] (fun v O'=>v=vN (ix c (add ks c))∧ ∃Og Oh,O'=[oI bp 238 [(vI a.vars),(vI a.start),(.slice j.nb a.next.length j.nc),(.slice j.fb a.a7.length j.fc),(vI b.vars),(vI b.start),(.slice k.nb b.next.length k.nc),(.slice k.fb b.a7.length k.fc),(.slice Og ((add ks c).length) Oh),(.map (some m))],av Og Oh 234 2 (oG b.next.length (add ks c)),dO fm (fun n:Nat=>Value.int .i64 (n:Int)) m (pmap b.next.length (add ks c))]):=by
 refine aE func219 F ntmps219 F ?_
 refine aj (aq (dE (cs:=[vN (c/b.next.length),vN (c%b.next.length)]) (fun n5=>?_)))
 refine ak F (ah (aR ?_))
 let jy:Lx.Item:=oI bp 238 [(vI a.vars),(vI a.start),(.slice j.nb a.next.length j.nc),(.slice j.fb a.a7.length j.fc),(vI b.vars),(vI b.start),(.slice k.nb b.next.length k.nc),(.slice k.fb b.a7.length k.fc),(.slice qb ks.length qc),(.map (some m))]
 refine T.ds [oI n5 234 [vN (c/b.next.length),vN (c%b.next.length)],jy,av qb qc 234 2 (oG b.next.length ks),dO fm (fun n:Nat=>Value.int .i64 (n:Int)) m (pmap b.next.length ks)] [(0,0),(1,0),(2,0),(3,0),(4,0),(5,0),(6,0),(7,0),(8,0),(9,0),(10,0)] (by exact Sub.rf) ?_
 refine aw F aI (aw F a_ (aw F (bt qg B7) (aw F (bq 1 uM) (aw F (eN 0 pq iL) (aw F (bL (jT (a:=un b.next.length c) uM bF (j_ A_) F F (mG 3)) (v':=(.tuple #[vN (ix c ks),.bool true])) (by rw[lD];simp only[Fm,hk,if_true,if_false,KR,Nat.zero_add];rfl)) (aw F aI (aw F (bI (vs:=_)) (aw F (bI (vs:=_)) (aw F cx (aw F cx ?_))))))))))
 refine cA ?_
 refine aR (aj (ai F (ae iV (ah (a8 (aL (aj (ai F (ak F (ah (aM (aB ?_))))))))))))
 refine aT (vN (ix c ks)) results219 F ?_
 have ha:add ks c=ks:=aJ hk
 rw[ha]
 exact⟨[jy,av qb qc 234 2 (oG b.next.length ks),dO fm (fun n:Nat=>Value.int .i64 (n:Int)) m (pmap b.next.length ks)],(by exact Sub.d (.k (.k (.k .z)))),F,qb,qc,F⟩
theorem aaM (base:World) [dA prog base] (a b:cV) (j k:DK) (bp m:Nat) (ks:List Nat) (c:Nat) (qb:Option Addr) (qc:Nat) (hk:c∉ks) (hl:ks.length≤17000000):
  cj prog base 219 [.pointer (aD bp),(.agg #[vN (c/b.next.length),vN (c%b.next.length)])] [oI bp 238 [(vI a.vars),(vI a.start),(.slice j.nb a.next.length j.nc),(.slice j.fb a.a7.length j.fc),(vI b.vars),(vI b.start),(.slice k.nb b.next.length k.nc),(.slice k.fb b.a7.length k.fc),(.slice qb ks.length qc),(.map (some m))],av qb qc 234 2 (oG b.next.length ks),dO fm (fun n:Nat=>Value.int .i64 (n:Int)) m (pmap b.next.length ks)] (fun v O'=>v=vN (ix c (add ks c))∧ ∃Og Oh,O'=[oI bp 238 [(vI a.vars),(vI a.start),(.slice j.nb a.next.length j.nc),(.slice j.fb a.a7.length j.fc),(vI b.vars),(vI b.start),(.slice k.nb b.next.length k.nc),(.slice k.fb b.a7.length k.fc),(.slice Og ((add ks c).length) Oh),(.map (some m))],av Og Oh 234 2 (oG b.next.length (add ks c)),dO fm (fun n:Nat=>Value.int .i64 (n:Int)) m (pmap b.next.length (add ks c))]):=by
 refine aE func219 F ntmps219 F ?_
 refine aj (aq (dE (cs:=[vN (c/b.next.length),vN (c%b.next.length)]) (fun n5=>?_)))
 refine ak F (ah (aR ?_))
 refine T.ds [oI n5 234 [vN (c/b.next.length),vN (c%b.next.length)],oI bp 238 [(vI a.vars),(vI a.start),(.slice j.nb a.next.length j.nc),(.slice j.fb a.a7.length j.fc),(vI b.vars),(vI b.start),(.slice k.nb b.next.length k.nc),(.slice k.fb b.a7.length k.fc),(.slice qb ks.length qc),(.map (some m))],av qb qc 234 2 (oG b.next.length ks),dO fm (fun n:Nat=>Value.int .i64 (n:Int)) m (pmap b.next.length ks)] [(0,0),(1,0),(2,0),(3,0),(4,0),(5,0),(6,0),(7,0),(8,0),(9,0),(10,0)] (by exact Sub.rf) ?_
 refine aw F aI (aw F a_ (aw F (bt qg B7) (aw F (bq 1 uM) (aw F (eN 0 pq iL) (aw F (bL (jT (a:=un b.next.length c) uM bF (j_ A_) F F (mG 3)) (v':=(.tuple #[vI 0,.bool false])) (by rw[lD];simp only[Fm,hk,if_true,if_false,KR,Nat.zero_add];rfl)) (aw F aI (aw F (bI (vs:=_)) (aw F (bI (vs:=_)) (aw F cx (aw F cx ?_))))))))))
 refine cA ?_
 refine aR (aj (ai F (ae iV (ah ?_))))
 refine b_ ?_
 refine aj (ai F (ae a_ (ae (bt qg rl) (ae (bq 1 nZ) (ae (cQ nZ) (ak F (ah (aR ?_))))))))
 refine T.ds [oI n5 234 [vN (c/b.next.length),vN (c%b.next.length)],oI bp 238 [(vI a.vars),(vI a.start),(.slice j.nb a.next.length j.nc),(.slice j.fb a.a7.length j.fc),(vI b.vars),(vI b.start),(.slice k.nb b.next.length k.nc),(.slice k.fb b.a7.length k.fc),(.slice qb ks.length qc),(.map (some m))],av qb qc 234 2 (oG b.next.length ks),dO fm (fun n:Nat=>Value.int .i64 (n:Int)) m (pmap b.next.length ks)] [(0,0),(1,0),(2,0),(3,0),(4,0),(5,0),(6,2)] (by exact Sub.rf) ?_
 refine aw F aI (aw F a_ (aw F (bt qg B7) (aw F (bq 1 uM) (aw F (eN 0 pq iL) (aw F aI ?_)))))
 refine cy F F (qE (a:=un b.next.length c) (v:=ks.length) 3 uM (j_ A_) F F F F (by rw[KS,Fm];exact hk) ?_)
 refine cA ?_
 refine T.ds [oI n5 234 [vN (c/b.next.length),vN (c%b.next.length)],oI bp 238 [(vI a.vars),(vI a.start),(.slice j.nb a.next.length j.nc),(.slice j.fb a.a7.length j.fc),(vI b.vars),(vI b.start),(.slice k.nb b.next.length k.nc),(.slice k.fb b.a7.length k.fc),(.slice qb ks.length qc),(.map (some m))],dO fm (fun n:Nat=>Value.int .i64 (n:Int)) m ((pmap b.next.length ks)++[(un b.next.length c,ks.length)])] [(0,0),(1,0),(2,0),(3,0),(4,0),(5,0),(6,1),(7,1),(8,0),(9,0),(10,2)] (by exact Sub.k (.k (.d (.k .z)))) ?_
 refine aw F aI (aw F aI (aw F a_ (aw F (bt qg rl) (aw F (bq 1 nZ) (aw F (eN 0 pq iL) ?_)))))
 refine cH F F (cK (m:=1) (parts:=[(0,_)]) (cs:=[vN (c/b.next.length),vN (c%b.next.length)]) nZ iL (by decide) (by kernel_rfl) F (fun yf=>⟨by exact Sub.d (.k (.k (.d (.k .z)))),?_⟩))
 refine cH F F (dq 3 nZ nZ iL F F F F (by rw[Bj]) (by decide) (Src.row (j:=0) F (by simp)) (by simp[fF]) (by omega) (by decide) (by decide) (fun MK c4=>⟨by exact Sub.d (.k (.k (.d (.k .z)))),?_⟩))
 refine aw F a_ (aw F (bt qg rl) ?_)
 refine cy F F (cq (vs:=[(.slice MK (ks.length+1) c4)]) 2 rl ?_)
 refine cA ?_
 refine aj (ai F (ak F (ah (aM (aB ?_)))))
 refine aT (vI (ks.length:Int)) results219 F ?_
 have ha:add ks c=ks++[c]:=aA hk
 rw[ha]
 exact⟨[oI bp 238 [(vI a.vars),(vI a.start),(.slice j.nb a.next.length j.nc),(.slice j.fb a.a7.length j.fc),(vI b.vars),(vI b.start),(.slice k.nb b.next.length k.nc),(.slice k.fb b.a7.length k.fc),(.slice MK (ks.length+1) c4),(.map (some m))],av MK c4 234 2 ((oG b.next.length ks)++[vN (c/b.next.length),vN (c%b.next.length)]),dO fm (fun n:Nat=>Value.int .i64 (n:Int)) m ((pmap b.next.length ks)++[(un b.next.length c,ks.length)])],(by exact Sub.d (.d (.k (.k (.k .z))))),by rw[fZ hk];simp[ix],_,_,by rw[KQ,IJ,aP];rfl⟩
theorem pvC (base:World) [dA prog base] (a b:cV) (j k:DK) (bp m:Nat) (ks:List Nat) (c:Nat) (qb:Option Addr) (qc:Nat) (hl:ks.length≤17000000):
  cj prog base 219 [.pointer (aD bp),(.agg #[vN (c/b.next.length),vN (c%b.next.length)])] [dY bp (.cells (List.toArray [(vI a.vars),(vI a.start),(.slice j.nb a.next.length j.nc),(.slice j.fb a.a7.length j.fc),(vI b.vars),(vI b.start),(.slice k.nb b.next.length k.nc),(.slice k.fb b.a7.length k.fc),(.slice qb ks.length qc),(.map (some m))]) 238 (0,0)),av qb qc 234 2 (oG b.next.length ks),dO fm (fun n:Nat=>Value.int .i64 (n:Int)) m (pmap b.next.length ks)] (fun v O'=>v=vN (ix c (add ks c))∧ ∃Og Oh,O'=[dY bp (.cells (List.toArray [(vI a.vars),(vI a.start),(.slice j.nb a.next.length j.nc),(.slice j.fb a.a7.length j.fc),(vI b.vars),(vI b.start),(.slice k.nb b.next.length k.nc),(.slice k.fb b.a7.length k.fc),(.slice Og ((add ks c).length) Oh),(.map (some m))]) 238 (0,0)),av Og Oh 234 2 (oG b.next.length (add ks c)),dO fm (fun n:Nat=>Value.int .i64 (n:Int)) m (pmap b.next.length (add ks c))]):=by
 by_cases hk:c∈ks
 ·exact aaL base a b j k bp m ks c qb qc hk hl
 ·exact aaM base a b j k bp m ks c qb qc hk hl
theorem pvS (base:World) [dA prog base] (f:Bool→Bool→Bool) (a b:cV) (j k:DK) (bp m i o x:Nat) (qb:Option Addr) (qc:Nat) (va:Valid a) (vb:Valid b) (hv:a.vars=b.vars) (hq:(dN (bZ f a b) i)[i]? =some o) (hx:x<2^a.vars.toNat):
  cj prog base 219 [.pointer (aD bp),(.agg #[vN ((eS (bZ f a b) o x)/b.next.length),vN ((eS (bZ f a b) o x)%b.next.length)])] [dY bp (.cells (List.toArray [(vI a.vars),(vI a.start),(.slice j.nb a.next.length j.nc),(.slice j.fb a.a7.length j.fc),(vI b.vars),(vI b.start),(.slice k.nb b.next.length k.nc),(.slice k.fb b.a7.length k.fc),(.slice qb ((lr (bZ f a b) i o x).length) qc),(.map (some m))]) 238 (0,0)),av qb qc 234 2 (oG b.next.length (lr (bZ f a b) i o x)),dO fm (fun n:Nat=>Value.int .i64 (n:Int)) m (pmap b.next.length (lr (bZ f a b) i o x))] (fun v O'=>v=vN (ix (eS (bZ f a b) o x) (order (bZ f a b)))∧ ∃Og Oh,O'=[dY bp (.cells (List.toArray [(vI a.vars),(vI a.start),(.slice j.nb a.next.length j.nc),(.slice j.fb a.a7.length j.fc),(vI b.vars),(vI b.start),(.slice k.nb b.next.length k.nc),(.slice k.fb b.a7.length k.fc),(.slice Og ((lr (bZ f a b) i o (x+1)).length) Oh),(.map (some m))]) 238 (0,0)),av Og Oh 234 2 (oG b.next.length (lr (bZ f a b) i o (x+1))),dO fm (fun n:Nat=>Value.int .i64 (n:Int)) m (pmap b.next.length (lr (bZ f a b) i o (x+1)))]):=by
 have ho:=(lY (f:=f) va vb hv i).2 o (bJ hq)
 have hil:=(List.getElem?_eq_some_iff.1 hq).1
 have Xo:=ny (f:=f) va vb hv i
 have hml:=CE (f:=f) va vb hv (i:=i) ho (Nat.le_of_lt hx)
 have h4:a.next.length*b.next.length≤4096*4096:=Nat.mul_le_mul va.n4 vb.n4
 rw[vJ]
 refine(pvC base a b j k bp m (lr (bZ f a b) i o x) (eS (bZ f a b) o x) qb qc (by omega)).mono ?_
 rintro v O' ⟨rfl,h⟩
 refine⟨?_,h⟩
 rw[←vJ,IH hq (x:=x+1) hx (by rw[jO];omega) (by rw[vJ];exact rY.2 (.inr F))]
theorem WF (base:World) [dA prog base] (f:Bool→Bool→Bool) (a b:cV) (j k:DK) (ha:At base a j) (hb:At base b k) (va:Valid a) (vb:Valid b) (hv:a.vars=b.vars) (L:Nat) (hL:2^a.vars.toNat=L) (bx bp m:Nat) (qb0:Option Addr) (qc0:Nat) (yv:Value) (J:Nat→List Lx.Item→Prop) (Q:List Lx.Item→Prop)
  (hy: ∀(i o:Nat) (qb:Option Addr) (qc rb:Nat) (O:List Lx.Item),(dN (bZ f a b) i)[i]? =some o→J i O→eH prog base yv [(.agg #[vN (o/b.next.length),vN (o%b.next.length)]),.slice (aD rb) L L] (O++[oI bp 238 [(vI a.vars),(vI a.start),(.slice j.nb a.next.length j.nc),(.slice j.fb a.a7.length j.fc),(vI b.vars),(vI b.start),(.slice k.nb b.next.length k.nc),(.slice k.fb b.a7.length k.fc),(.slice qb ((dN (bZ f a b) (i+1)).length) qc),(.map (some m))],av qb qc 234 2 (oG b.next.length (dN (bZ f a b) (i+1))),dO fm (fun n:Nat=>Value.int .i64 (n:Int)) m (pmap b.next.length (dN (bZ f a b) (i+1))),av (aD rb) L 3 1 (ints (E7 (bZ f a b) o))])
   (fun v O'=>(v=.bool true∧ ∃O2,O'=O2++[oI bp 238 [(vI a.vars),(vI a.start),(.slice j.nb a.next.length j.nc),(.slice j.fb a.a7.length j.fc),(vI b.vars),(vI b.start),(.slice k.nb b.next.length k.nc),(.slice k.fb b.a7.length k.fc),(.slice qb ((dN (bZ f a b) (i+1)).length) qc),(.map (some m))],av qb qc 234 2 (oG b.next.length (dN (bZ f a b) (i+1))),dO fm (fun n:Nat=>Value.int .i64 (n:Int)) m (pmap b.next.length (dN (bZ f a b) (i+1)))]∧J (i+1) O2)∨(v=.bool false∧Q O')))
  (O:List Lx.Item) (h0:J 0 O):
  cj prog base 218 [yv,.pointer (aD bx)] ([oI bx 227 [(.pointer (aD bp))],oI bp 238 [(vI a.vars),(vI a.start),(.slice j.nb a.next.length j.nc),(.slice j.fb a.a7.length j.fc),(vI b.vars),(vI b.start),(.slice k.nb b.next.length k.nc),(.slice k.fb b.a7.length k.fc),(.slice qb0 ((dN (bZ f a b) 0).length) qc0),(.map (some m))],av qb0 qc0 234 2 (oG b.next.length (dN (bZ f a b) 0)),dO fm (fun n:Nat=>Value.int .i64 (n:Int)) m (pmap b.next.length (dN (bZ f a b) 0))]++O) (fun _ O'=>(∃N qb qc O2,O'=O2++[oI bp 238 [(vI a.vars),(vI a.start),(.slice j.nb a.next.length j.nc),(.slice j.fb a.a7.length j.fc),(vI b.vars),(vI b.start),(.slice k.nb b.next.length k.nc),(.slice k.fb b.a7.length k.fc),(.slice qb ((dN (bZ f a b) N).length) qc),(.map (some m))],av qb qc 234 2 (oG b.next.length (dN (bZ f a b) N)),dO fm (fun n:Nat=>Value.int .i64 (n:Int)) m (pmap b.next.length (dN (bZ f a b) N))]∧(dN (bZ f a b) N).length=N∧J N O2)∨Q O'):=by
 refine aE func218 F ntmps218 F ?_
 have h4:a.next.length*b.next.length≤4096*4096:=Nat.mul_le_mul va.n4 vb.n4
 have hw:L≤64:=by rw[←hL];exact va.width
 have Sg:=ha.rows.1
 have I5:=hb.rows.1
 refine aj (ak F (ah (aV ?_)))
 refine ek (fun(i:Nat) ρ O=> ∃(qb:Option Addr) (qc:Nat) (O1:List Lx.Item),O=([oI bx 227 [(.pointer (aD bp))],oI bp 238 [(vI a.vars),(vI a.start),(.slice j.nb a.next.length j.nc),(.slice j.fb a.a7.length j.fc),(vI b.vars),(vI b.start),(.slice k.nb b.next.length k.nc),(.slice k.fb b.a7.length k.fc),(.slice qb ((dN (bZ f a b) i).length) qc),(.map (some m))],av qb qc 234 2 (oG b.next.length (dN (bZ f a b) i)),dO fm (fun n:Nat=>Value.int .i64 (n:Int)) m (pmap b.next.length (dN (bZ f a b) i))]++O1)∧i≤(dN (bZ f a b) i).length∧J i O1∧df [(0,yv),(1,(.pointer (aD bx))),(3,vN i)] ρ) (fun i=>a.next.length*b.next.length-i) 0 ?_ ?_
 ·exact⟨qb0,qc0,O,F,bl _,h0,⟨F,F,F,trivial⟩⟩
 rintro i ρ O ⟨qb,qc,O1,rfl,GZ,hJ,hH⟩
 obtain⟨gA,rfl⟩:=hH.elim
 clear hH
 have Xo:=ny (f:=f) va vb hv i
 refine aR (aj (ai F (ae (bq 0 wG) (ae a_ (ae (bt qg rl) (ae (bq 1 nZ) (ae (cQ nZ) (ae cU (ah (aZ F (fun hc=>?_) (fun hc=>?_)))))))))))
 ·have k8:i<(dN (bZ f a b) i).length:=by omega
  obtain⟨o,hq⟩: ∃o,(dN (bZ f a b) i)[i]? =some o:=⟨_,ap k8⟩
  have ho:=(lY (f:=f) va vb hv i).2 o (bJ hq)
  obtain⟨hs,ht⟩:=ql ho
  obtain⟨v1,c1,g1,s1⟩:=ha.rows.get hs
  obtain⟨v2,c2,g2,s2⟩:=hb.rows.get ht
  refine aL (aR (aV (aj (ae (bq 0 wG) (ae a_ (ae (bt qg rl) (ae (bq 1 nZ) (ai F (ae (eA (i:=i) nZ iL F F (dT (mG 2)) k8 (by rw[Bj];omega)) (ae (eW (vs:=[vN (o/b.next.length),vN (o%b.next.length)]) pq F iL F F (bu _) (dT (mG 2)) (GR hq)) (aq (bs iL (fun z1=>?_)))))))))))))
  refine aq (cq (vs:=[vN (o/b.next.length),vN (o%b.next.length)]) 0 iL ?_)
  refine ah (aj (ae (bq 1 wG) (ae a_ (ae (bt qg bN) (ae (bt dj bF) (ae (bq 2 ey) (ae (bL (nA (v:=a.vars.toNat) F (by show Value.int _ a.vars=_;rw[cM va.v0]) (by have:=va.v6;omega)) (v':=vN L) (by rw[hL])) (aq (cX (m:=L) cL bF F F (by omega) (by omega) (fun z2=>?_))))))))))
  refine ak F (ah (aR (aj (ai F (ae (cQ cL) (ai F (ah (aV ?_))))))))
  refine dc (O':=([oI bp 238 [(vI a.vars),(vI a.start),(.slice j.nb a.next.length j.nc),(.slice j.fb a.a7.length j.fc),(vI b.vars),(vI b.start),(.slice k.nb b.next.length k.nc),(.slice k.fb b.a7.length k.fc),(.slice qb ((dN (bZ f a b) i).length) qc),(.map (some m))],av qb qc 234 2 (oG b.next.length (dN (bZ f a b) i)),dO fm (fun n:Nat=>Value.int .i64 (n:Int)) m (pmap b.next.length (dN (bZ f a b) i)),av (aD z2) L 3 1 (List.replicate L (vI 0)),oI z1 234 [vN (o/b.next.length),vN (o%b.next.length)],oI bx 227 [(.pointer (aD bp))]]++O1)) (by exact Sub.dP [av (aD z2) L 3 1 (List.replicate L (vI 0)),oI z1 234 [vN (o/b.next.length),vN (o%b.next.length)],oI bx 227 [(.pointer (aD bp))]] _ (.dP [av (aD z2) L 3 1 (List.replicate L (vI 0)),oI z1 234 [vN (o/b.next.length),vN (o%b.next.length)],oI bx 227 [(.pointer (aD bp))]] _ (.dP [av (aD z2) L 3 1 (List.replicate L (vI 0)),oI z1 234 [vN (o/b.next.length),vN (o%b.next.length)],oI bx 227 [(.pointer (aD bp))]] _ (.k (.k (.k .rf)))))) ?_
  refine ek (fun(x:Nat) ρ O=> ∃(GB:Option Addr) (GD:Nat) (ys:List Nat),O=([oI bp 238 [(vI a.vars),(vI a.start),(.slice j.nb a.next.length j.nc),(.slice j.fb a.a7.length j.fc),(vI b.vars),(vI b.start),(.slice k.nb b.next.length k.nc),(.slice k.fb b.a7.length k.fc),(.slice GB ((lr (bZ f a b) i o x).length) GD),(.map (some m))],av GB GD 234 2 (oG b.next.length (lr (bZ f a b) i o x)),dO fm (fun n:Nat=>Value.int .i64 (n:Int)) m (pmap b.next.length (lr (bZ f a b) i o x)),av (aD z2) L 3 1 (bW ys),oI z1 234 [vN (o/b.next.length),vN (o%b.next.length)],oI bx 227 [(.pointer (aD bp))]]++O1)∧x≤L∧ys.length=L∧(∀y,y<x→ys[y]? =some (ix (eS (bZ f a b) o y) (order (bZ f a b))))∧df [(0,yv),(1,(.pointer (aD bx))),(3,vN i),(4,(.pointer (aD z1))),(5,(.slice (aD z2) L L)),(31,vI (L:Int)),(32,vN x)] ρ) (fun x=>L-x) 0 ?_ ?_
  ·refine⟨qb,qc,List.replicate L 0,?_,bl _,by simp,fun y hy9=>absurd hy9 (by omega),(.of F)⟩
   rw[show List.replicate L (Value.int .i64 0)=bW (List.replicate L 0) by simp];rfl
  rintro x ρ O ⟨GB,GD,ys,rfl,hx,DC,zS,hH⟩
  obtain⟨gA,rfl⟩:=hH.elim
  clear hH
  refine aj (ae cU (ah (aR (aZ F (fun hc=>?_) (fun hc=>?_)))))
  ·have agl:x<L:=by omega
   have Ti:x<2^a.vars.toNat:=by omega
   have Xm:x<2^b.vars.toNat:=by rw[←hv];exact Ti
   obtain⟨t1,_,x1,d1⟩:=va.gT hs Ti
   obtain⟨t2,_,x2,d2⟩:=vb.gT ht Xm
   have zL:=(uW (f:=f) va vb hv ho Ti).1
   have hdm:=Bh (n:=b.next.length) (s:=eS a (o/b.next.length) x) t2
   rw[←zL]at hdm
   have QQ:(ints a.next[o/b.next.length])[x]? =some (vN (eS (bZ f a b) o x/b.next.length)):=by rw[gL x1,d1,hdm.1]
   have P2:(ints b.next[o%b.next.length])[x]? =some (vN (eS (bZ f a b) o x%b.next.length)):=by rw[gL x2,d2,hdm.2]
   refine aL (aR (aV (aj (ai F (ak F (ah ?_))))))
   refine sH [] [oI bp 238 [(vI a.vars),(vI a.start),(.slice j.nb a.next.length j.nc),(.slice j.fb a.a7.length j.fc),(vI b.vars),(vI b.start),(.slice k.nb b.next.length k.nc),(.slice k.fb b.a7.length k.fc),(.slice GB ((lr (bZ f a b) i o x).length) GD),(.map (some m))],oI z1 234 [vN (o/b.next.length),vN (o%b.next.length)],oI bx 227 [(.pointer (aD bp))]] [(0,0),(1,0),(2,3),(3,3),(4,3),(5,3),(6,3),(7,3),(8,3),(9,3),(10,3),(11,3),(12,3),(13,3),(14,3),(15,3),(16,3),(17,3),(18,3),(19,3),(20,3),(21,3),(22,3),(23,3),(24,3),(25,3),(26,3),(27,3),(28,4),(29,2),(30,2)] mixed (xX (by kernel_rfl)) (ck (cr _)) (by exact Sub.k (.d (.d (.d (.k (.k .z)))))) (fun _ _ _ _ h=>h) ?_
   refine aw F aI (aw F aI ?_)
   refine dQ F (bq 2 wG) ?_
   refine dQ F (bq 2 wG) ?_
   refine dQ F a_ ?_
   refine dQ F (bt qg bN) ?_
   refine dQ F (bt dj fR) ?_
   refine dQ F (bq 0 fp) ?_
   refine dQ F (bt pq bF) ?_
   refine dQ F (bq 1 ey) ?_
   refine dQ F (dX (i:=(o/b.next.length)) fp cZ F F (aK ha.outer) hs (by rw[Sg];exact hs)) ?_
   refine dQ F (cS cL F F (aK ha.outer) g1) ?_
   refine dQ F aI ?_
   refine dQ F (dX (i:=x) cL bF F F (aK s1) x1 (by rw[ar];exact x1)) ?_
   refine dQ F (cS ey F F (aK s1) QQ) ?_
   refine dQ F (bq 2 wG) ?_
   refine dQ F a_ ?_
   refine dQ F (bt qg bN) ?_
   refine dQ F (bt dj fR) ?_
   refine dQ F (bq 0 fp) ?_
   refine dQ F (bt pq bF) ?_
   refine dQ F (bq 1 ey) ?_
   refine dQ F (dX (i:=(o%b.next.length)) fp cZ F F (aK hb.outer) ht (by rw[I5];exact ht)) ?_
   refine dQ F (cS cL F F (aK hb.outer) g2) ?_
   refine dQ F aI ?_
   refine dQ F (dX (i:=x) cL bF F F (aK s2) x2 (by rw[ar];exact x2)) ?_
   refine dQ F (cS ey F F (aK s2) P2) ?_
   refine dQ F (cT (cs:=[vN ((eS (bZ f a b) o x)/b.next.length),vN ((eS (bZ f a b) o x)%b.next.length)]) HE iL (by kernel_rfl)) ?_
   have MT:=cj.under (B:=([av (aD z2) L 3 1 (bW ys),oI z1 234 [vN (o/b.next.length),vN (o%b.next.length)],oI bx 227 [(.pointer (aD bp))]]++O1)) (O:=([oI bp 238 [(vI a.vars),(vI a.start),(.slice j.nb a.next.length j.nc),(.slice j.fb a.a7.length j.fc),(vI b.vars),(vI b.start),(.slice k.nb b.next.length k.nc),(.slice k.fb b.a7.length k.fc),(.slice GB ((lr (bZ f a b) i o x).length) GD),(.map (some m))],av GB GD 234 2 (oG b.next.length (lr (bZ f a b) i o x)),dO fm (fun n:Nat=>Value.int .i64 (n:Int)) m (pmap b.next.length (lr (bZ f a b) i o x)),av (aD z2) L 3 1 (bW ys),oI z1 234 [vN (o/b.next.length),vN (o%b.next.length)],oI bx 227 [(.pointer (aD bp))]]++O1)) (pvS base f a b j k bp m i o x GB GD va vb hv hq (by omega)) (by exact Sub.rf)
   refine xN F F (bm Wh MT ?_)
   clear MT
   rintro vr O' ⟨A1,rfl,rfl,qb2,qc2,rfl⟩
   refine⟨by exact Sub.z,?_⟩
   refine cy F F (eK F F (dX (i:=x) cL bF F F (dT (mG 3))) ?_)
   refine cy F F (n7 (j:=x) (v:=vN (ix (eS (bZ f a b) o x) (order (bZ f a b)))) (vs:=[(vN (ix (eS (bZ f a b) o x) (order (bZ f a b))))]) (cs:=bW ys) 3 bF F F F F F (by simp) F (by first|(simp;omega)|(simp_all;omega)) ?_)
   refine eR (O':=([oI bp 238 [(vI a.vars),(vI a.start),(.slice j.nb a.next.length j.nc),(.slice j.fb a.a7.length j.fc),(vI b.vars),(vI b.start),(.slice k.nb b.next.length k.nc),(.slice k.fb b.a7.length k.fc),(.slice qb2 ((lr (bZ f a b) i o (x+1)).length) qc2),(.map (some m))],av qb2 qc2 234 2 (oG b.next.length (lr (bZ f a b) i o (x+1))),dO fm (fun n:Nat=>Value.int .i64 (n:Int)) m (pmap b.next.length (lr (bZ f a b) i o (x+1))),av (aD z2) L 3 1 (bW (ys.set x (ix (eS (bZ f a b) o x) (order (bZ f a b))))),oI z1 234 [vN (o/b.next.length),vN (o%b.next.length)],oI bx 227 [(.pointer (aD bp))]]++O1)) (by rw[show eZ (bW ys) x [(vN (ix (eS (bZ f a b) o x) (order (bZ f a b))))]=bW (ys.set x (ix (eS (bZ f a b) o x) (order (bZ f a b))))from by simp[eZ]];exact ck (aY _)) ?_
   refine cA ?_
   refine bg (ae (dr (a:=x) (b:=1) F F (by omega)) (ai F (ah ?_)))
   refine⟨x+1,by omega,qb2,qc2,ys.set x (ix (eS (bZ f a b) o x) (order (bZ f a b))),F,by omega,by simp[DC],fun y hy9=>?_,(.of F)⟩
   by_cases e:y=x
   ·subst e;rw[List.getElem?_set_self (by omega)]
   ·rw[List.getElem?_set_ne (fun h=>e h.symm)];exact zS y (by omega)
  have agm: ¬x<L:=by omega
  refine cG ?_
  refine aR ?_
  have BN:x=L:=by omega
  have e1:dN (bZ f a b) (i+1)=lr (bZ f a b) i o x:=by rw[BN,←hL];exact(Ae hq).symm
  have e3:sC (bZ f a b) o=ys:=by
   apply List.ext_getElem?
   intro y
   by_cases hy9:y<L
   ·rw[zS y (by omega)]
    have hy8:y<2^(bZ f a b).vars.toNat:=by show y<2^a.vars.toNat;omega
    unfold sC
    rw[bi,yR hy8];rfl
   ·rw[bY (by rw[su];show 2^a.vars.toNat≤y;omega),bY (by omega)]
  have e2:ints (E7 (bZ f a b) o)=bW ys:=by unfold E7;rw[e3];simp[Function.comp_def]
  refine dc (O':=([oI bp 238 [(vI a.vars),(vI a.start),(.slice j.nb a.next.length j.nc),(.slice j.fb a.a7.length j.fc),(vI b.vars),(vI b.start),(.slice k.nb b.next.length k.nc),(.slice k.fb b.a7.length k.fc),(.slice GB ((dN (bZ f a b) (i+1)).length) GD),(.map (some m))],av GB GD 234 2 (oG b.next.length (dN (bZ f a b) (i+1))),dO fm (fun n:Nat=>Value.int .i64 (n:Int)) m (pmap b.next.length (dN (bZ f a b) (i+1))),av (aD z2) L 3 1 (ints (E7 (bZ f a b) o)),oI z1 234 [vN (o/b.next.length),vN (o%b.next.length)],oI bx 227 [(.pointer (aD bp))]]++O1)) (by rw[e1,e2];exact Sub.rf) ?_
  refine bg (ai F (ae (eN 4 pq iL) (ai F ?_)))
  have LW:=eH.under (B:=[oI z1 234 [vN (o/b.next.length),vN (o%b.next.length)],oI bx 227 [(.pointer (aD bp))]]) (O:=([oI bp 238 [(vI a.vars),(vI a.start),(.slice j.nb a.next.length j.nc),(.slice j.fb a.a7.length j.fc),(vI b.vars),(vI b.start),(.slice k.nb b.next.length k.nc),(.slice k.fb b.a7.length k.fc),(.slice GB ((dN (bZ f a b) (i+1)).length) GD),(.map (some m))],av GB GD 234 2 (oG b.next.length (dN (bZ f a b) (i+1))),dO fm (fun n:Nat=>Value.int .i64 (n:Int)) m (pmap b.next.length (dN (bZ f a b) (i+1))),av (aD z2) L 3 1 (ints (E7 (bZ f a b) o)),oI z1 234 [vN (o/b.next.length),vN (o%b.next.length)],oI bx 227 [(.pointer (aD bp))]]++O1)) (hy i o GB GD z2 O1 hq hJ) (gq [])
  refine aq (eu LW F F ?_)
  clear LW
  rintro vr O' ⟨A1,rfl,⟨rfl,O2,rfl,Pk⟩|⟨rfl,hQ2⟩⟩
  ·refine ae iV ?_
   refine ah (a8 (aL ?_))
   refine dc (O':=([oI bx 227 [(.pointer (aD bp))],oI bp 238 [(vI a.vars),(vI a.start),(.slice j.nb a.next.length j.nc),(.slice j.fb a.a7.length j.fc),(vI b.vars),(vI b.start),(.slice k.nb b.next.length k.nc),(.slice k.fb b.a7.length k.fc),(.slice GB ((dN (bZ f a b) (i+1)).length) GD),(.map (some m))],av GB GD 234 2 (oG b.next.length (dN (bZ f a b) (i+1))),dO fm (fun n:Nat=>Value.int .i64 (n:Int)) m (pmap b.next.length (dN (bZ f a b) (i+1)))]++O2)) (gq [oI z1 234 [vN (o/b.next.length),vN (o%b.next.length)]]) ?_
   refine bg (ai F (ae (dr (a:=i) (b:=1) F F (by omega)) (ak F (ah ?_))))
   have DZ:=(jP (bZ f a b) i (i+1) (by omega)).length_le
   exact⟨i+1,by omega,GB,GD,O2,F,by omega,Pk,⟨F,F,F,trivial⟩⟩
  refine ae iV (ah ?_)
  refine b_ ?_
  refine aM (aB ?_)
  refine rG.zero results218 ?_
  exact⟨A1,ck (List.sublist_append_left _ _),.inr hQ2⟩
 have Dr: ¬i<(dN (bZ f a b) i).length:=by omega
 refine cG ?_
 refine aB ?_
 refine rG.zero results218 ?_
 have hN:(dN (bZ f a b) i).length=i:=by omega
 exact⟨O1++[oI bp 238 [(vI a.vars),(vI a.start),(.slice j.nb a.next.length j.nc),(.slice j.fb a.a7.length j.fc),(vI b.vars),(vI b.start),(.slice k.nb b.next.length k.nc),(.slice k.fb b.a7.length k.fc),(.slice qb ((dN (bZ f a b) i).length) qc),(.map (some m))],av qb qc 234 2 (oG b.next.length (dN (bZ f a b) i)),dO fm (fun n:Nat=>Value.int .i64 (n:Int)) m (pmap b.next.length (dN (bZ f a b) i))],gq [oI bx 227 [(.pointer (aD bp))]],.inl ⟨i,qb,qc,O1,F,hN,hJ⟩⟩
theorem aeb (w:World) [dA prog w] (d:cV) (k:DK) (h:At w d k) (hb:d.next.length<9223372036854775807) (w7: ∀r∈d.next,r.length<9223372036854775807) (zH:d.a7.length<9223372036854775807) (hn:Valid d→d.next.length<10000):
  cn prog 23 [dV d k] w fun v N=> ∃k':DK,v=.tuple #[dV (CA d) k',vI (dL d:Int)]∧N=[dI 56 4 3 (CA d) k']:=
 cj.dk (g:=fun x=>.tuple #[x,vI (dL d:Int)]) (aec w d k.nb k.fb k.nc k.fc (dG k.qs) h hb w7 zH hn)
theorem Dg (w:World) [dA prog w] (d:cV) (k:DK) (h:At w d k) (hv:Valid d) (hn:d.next.length<10000) {M:cV} (hM:jm d=M):
  cn prog 23 [dV d k] w fun v N=> ∃k':DK,v=.tuple #[dV M k',vI 0]∧N=[dI 56 4 3 M k']:=by
 have h1:=aeb w d k h (by have:=hv.n4;omega) hv.xE (by have:=hv.fin;have:=hv.n4;omega) (fun _=>hn)
 rw[GF hv,hM,eF.2 hv]at h1
 exact h1
theorem aed (base:World) (x y:Bool):cj prog base 139 [.bool x,.bool y] [] (fun v O'=>v=.bool (qn x y)∧O'=[]):=by
 refine aE func139 F ntmps139 F ?_
 refine aj (ak F (ah (aj (ai F (ae iV (ak F (ah (aM ?_))))))))
 refine aT (.bool (!x)) results139 F ?_
 cases x<;>cases y<;>first|exact⟨F,F⟩|(exfalso;simp_all;done)|simp_all[sB,Fi,KL,xA,qn]
set_option maxRecDepth 20000 in
theorem aaN (base:World) (x y:Bool):eH prog base (.func (.func 139) #[] #[]) [.bool x,.bool y] [] (fun v O'=>v=.bool (qn x y)∧O'=[]):=bU (first:=[]) (fG:=[]) VT (aed base x y)
theorem aee (base:World) (x y:Bool):cj prog base 152 [.bool x,.bool y] [] (fun v O'=>v=.bool (sB x y)∧O'=[]):=by
 refine aE func152 F ntmps152 F ?_
 refine aj (ak F (ah (aj (ai F ?_))))
 by_cases hs6:x=true
 ·refine ae (aC aI (hs6)) ?_
  refine aF aI (ae cm (ak F (ah (aM ?_))))
  refine aT (.bool y) results152 F ?_
  cases x<;>cases y<;>first|exact⟨F,F⟩|(exfalso;simp_all;done)|simp_all[sB,Fi,KL,xA,qn]
 refine ae (aC aI (Bool.eq_false_iff.2 hs6)) (aQ (ae bX (ak F (ah (aM ?_)))))
 refine aT (.bool false) results152 F ?_
 cases x<;>cases y<;>first|exact⟨F,F⟩|(exfalso;simp_all;done)|simp_all[sB,Fi,KL,xA,qn]
set_option maxRecDepth 20000 in
theorem Zw (base:World) (x y:Bool):eH prog base (.func (.func 152) #[] #[]) [.bool x,.bool y] [] (fun v O'=>v=.bool (sB x y)∧O'=[]):=bU (first:=[]) (fG:=[]) VV (aee base x y)
theorem orF (base:World) (x y:Bool):cj prog base 151 [.bool x,.bool y] [] (fun v O'=>v=.bool (Fi x y)∧O'=[]):=by
 refine aE func151 F ntmps151 F ?_
 refine aj (ak F (ah (aj (ai F ?_))))
 by_cases hs6:x=true
 ·refine ae (aC aI (hs6)) ?_
  refine aQ (ae cm (ak F (ah (aM ?_))))
  refine aT (.bool true) results151 F ?_
  cases x<;>cases y<;>first|exact⟨F,F⟩|(exfalso;simp_all;done)|simp_all[sB,Fi,KL,xA,qn]
 refine ae (aC aI (Bool.eq_false_iff.2 hs6)) (aF aI (ae bX (ak F (ah (aM ?_)))))
 refine aT (.bool y) results151 F ?_
 cases x<;>cases y<;>first|exact⟨F,F⟩|(exfalso;simp_all;done)|simp_all[sB,Fi,KL,xA,qn]
set_option maxRecDepth 20000 in
theorem ac_ (base:World) (x y:Bool):eH prog base (.func (.func 151) #[] #[]) [.bool x,.bool y] [] (fun v O'=>v=.bool (Fi x y)∧O'=[]):=bU (first:=[]) (fG:=[]) VU (orF base x y)
theorem GG (w:World) [dA prog w] (a b:cV) (j k:DK) (ha:At w a j) (hb:At w b k) (Pn:a.next.length<9223372036854775807) (Aa: ∀r∈a.next,r.length<9223372036854775807) (Ab:a.a7.length<9223372036854775807) (Vw:b.next.length<9223372036854775807) (Oe: ∀r∈b.next,r.length<9223372036854775807) (Of:b.a7.length<9223372036854775807) (g:Nat) (he:gU a b≠0):
  cn prog 138 [dV a j,dV b k,.func (.func g) #[] #[]] w fun v N=>v=.tuple #[dV CG ⟨none,0,none,0,[]⟩,vI (gU a b:Int)]∧N=[]:=by
 refine aE func138 F ntmps138 F ?_
 refine aj (aq (dE (cs:=(dC a j)) (fun n5=>?_)))
 refine aq (dE (cs:=(dC b k)) (fun yf=>?_))
 refine aq (dE (cs:=[(.func (.func g) #[] #[])]) (fun MK=>?_))
 refine aq (bs bN (fun bx4=>?_))
 refine aq (bs js (fun bx5=>?_))
 refine ah (aj (ae (eN 4 dj bN) (ae (eN 3 dj bN) (aq (bm Nw (aX fun w1 hI=>(haveI:=ef hI;Od w1 a b j k (hI.rI ha) (hI.rI hb) Pn Aa Ab Vw Oe Of he)) ?_)))))
 rintro vr O' ⟨N,rfl,rfl,rfl⟩
 refine ai F (ae (bI (vs:=_)) (ae (bI (vs:=_)) (aq (bs B6 (fun bx6=>?_)))))
 refine aq (cq (vs:=[(.pointer none)]) 0 B6 ?_)
 refine ak F (ah (aR (aj (ai F (ae dW (ah ?_))))))
 refine b_ ?_ (au Value.bool (ax (by omega)))
 refine aj (ae (cT jG bN F) (ai F (aq (cq (vs:=[(vI 0),(vI 0),nS,nS]) 2 bN ?_))))
 refine aq (cq (vs:=[(vI (gU a b:Int))]) 1 js ?_)
 refine ah (aM (aB ?_))
 refine iN (i:=2) (j:=1) results138 dj F bN o6 F F F F F F ?_
 exact⟨[],Sub.z,F,F⟩
theorem EO (w:World) [dA prog w] (a b:cV) (j k:DK) (ha:At w a j) (hb:At w b k) (va:Valid a) (vb:Valid b) (hv:a.vars=b.vars) (f:Bool→Bool→Bool) (g:Nat) (hf: ∀(base:World) (x y:Bool),eH prog base (.func (.func g) #[] #[]) [.bool x,.bool y] [] (fun v O'=>v=.bool (f x y)∧O'=[])):
  cn prog 138 [dV a j,dV b k,.func (.func g) #[] #[]] w fun v N=>((order (bZ f a b)).length≤4096∧ ∃k':DK,v=.tuple #[dV (tG f a b) k',vI 0]∧N=[dI 56 4 3 (tG f a b) k'])∨(4096<(order (bZ f a b)).length∧v=.tuple #[dV CG ⟨none,0,none,0,[]⟩,vI 10]∧N=[]):=by
 refine aE func138 F ntmps138 F ?_
 have h4:a.next.length*b.next.length≤4096*4096:=Nat.mul_le_mul va.n4 vb.n4
 obtain⟨L,hL⟩: ∃L,2^a.vars.toNat=L:=⟨_,F⟩
 have hw:L≤64:=by rw[←hL];exact va.width
 refine aj (aq (dE (cs:=(dC a j)) (fun z1=>?_)))
 refine aq (dE (cs:=(dC b k)) (fun z2=>?_))
 refine aq (dE (cs:=[(.func (.func g) #[] #[])]) (fun z3=>?_))
 refine aq (bs bN (fun z4=>?_))
 refine aq (bs js (fun z5=>?_))
 refine ah (aj (ae (eN 4 dj bN) (ae (eN 3 dj bN) (aq (bm Nw (aX fun w1 hI=>(haveI:=ef hI;Rr w1 a b j k (hI.rI ha) (hI.rI hb) va vb hv)) ?_)))))
 rintro vr O' ⟨N,rfl,bp,qb,m,rfl,rfl⟩
 refine ai F (ae (bI (vs:=_)) (ae (bI (vs:=_)) (aq (bs B6 (fun z6=>?_)))))
 refine aq (cq (vs:=[(.pointer (aD bp))]) 0 B6 ?_)
 refine ak F (ah (aR (aj (ai F (ae dW (ah (a8 (aL (aj (ae (bt dj bF) (ae (bq 8 ey) (ae (cT (cs:=[(vI a.vars),(vI 0),nS,nS]) jG bN (by kernel_rfl)) (aq (bs bN (fun z7=>?_)))))))))))))))
 refine aq (cq (vs:=[(vI a.vars),(vI 0),nS,nS]) 0 bN ?_)
 refine ah (aR (aR (T.fq 4 1 ?_)))
 refine T.fq 56 1 ?_
 refine bg (ae (bq 3 wG) (aq (bm Wb (aX fun w1 hI=>(haveI:=ef hI;WE w1 bp)) ?_)))
 rintro vr O' ⟨N,rfl,bP,rfl,rfl⟩
 refine ah (aV ?_)
 refine T.rangeFunc (first:=[]) (fG:=[(.pointer (aD bP))]) F Wg (fun yl yq Ww=>?_)
 let fe:Lx.Item:=oI z4 25 [(vI 0),(vI 0),nS,nS]
 let fA:Lx.Item:=oI z3 197 [(.func (.func g) #[] #[])]
 let gP:Lx.Item:=oI z6 227 [(.pointer (aD bp))]
 let iI:Lx.Item:=oI z5 27 [(vI 0)]
 let oE:Lx.Item:=oI z2 25 (dC b k)
 let lV:Lx.Item:=oI z1 25 (dC a j)
 refine cj.mono (cj.sub (O':=oI bP 227 [(.pointer (aD bp))]::oI bp 238 [(vI a.vars),(vI a.start),(.slice j.nb a.next.length j.nc),(.slice j.fb a.a7.length j.fc),(vI b.vars),(vI b.start),(.slice k.nb b.next.length k.nc),(.slice k.fb b.a7.length k.fc),(.slice (aD qb) ([a.start.toNat*b.next.length+b.start.toNat].length) 1),(.map (some m))]::av (aD qb) 1 234 2 (oG b.next.length [a.start.toNat*b.next.length+b.start.toNat])::dO fm (fun n:Nat=>Value.int .i64 (n:Int)) m (pmap b.next.length [a.start.toNat*b.next.length+b.start.toNat])::(dY yl (lp yq none)::[av none 0 56 1 (dG []),av none 0 4 1 (cI []),oI z7 25 [(vI a.vars),(vI 0),nS,nS],gP,iI,fe,fA,oE,lV])) (aG [1,5,5,5,0,0,0,0,0,0,0,0,0,0]) (WF w f a b j k ha hb va vb hv L hL bP bp m (aD qb) 1 (.func (.yield yl) #[] #[]) (fun i O=> ∃(Ka KF:Option Addr) (Kb KG n1 n2:Nat) (qs:List Rec) (fs:List Bool),O=dY yl (lp yq none)::([av Ka Kb 56 1 (dG qs),av KF KG 4 1 (cI fs),oI z7 25 [(vI a.vars),(vI 0),(.slice Ka n1 Kb),(.slice KF n2 KG)],gP,iI,fe,fA,oE,lV]++(cg 3 qs))∧n1=i∧n2=i∧qs.length=i∧fs.length=i∧nums qs=((order (bZ f a b)).take i).map (E7 (bZ f a b))∧fs=((order (bZ f a b)).take i).map (dF (bZ f a b))∧(dN (bZ f a b) i).length≤4096) (fun O=>O=dY yl (lp yq (some .ret))::[oI z5 27 [(vI 10)],fe]∧4096<(order (bZ f a b)).length) ?_ _ ?_)) ?_
 ·intro i o qb qc rb O hq hJ
  obtain⟨Ka,KF,Kb,KG,n1,n2,qs,fs,rfl,hn1,hn2,Jh,ug,Dh,oJ,GZ⟩:=hJ
  refine eH.yield Ww F F ?_
  let eh:Lx.Item:=oI bp 238 [(vI a.vars),(vI a.start),(.slice j.nb a.next.length j.nc),(.slice j.fb a.a7.length j.fc),(vI b.vars),(vI b.start),(.slice k.nb b.next.length k.nc),(.slice k.fb b.a7.length k.fc),(.slice qb ((dN (bZ f a b) (i+1)).length) qc),(.map (some m))]
  let fh:Lx.Item:=av qb qc 234 2 (oG b.next.length (dN (bZ f a b) (i+1)))
  let jy:Lx.Item:=oI z7 25 [(vI a.vars),(vI 0),(.slice Ka n1 Kb),(.slice KF n2 KG)]
  let pv:Lx.Item:=av (aD rb) L 3 1 (ints (E7 (bZ f a b) o))
  let lm:Lx.Item:=av KF KG 4 1 (cI fs)
  refine dc (O':=([av Ka Kb 56 1 (dG qs),lm,jy,gP,iI,fe,fA,oE,lV,eh,fh,dO fm (fun n:Nat=>Value.int .i64 (n:Int)) m (pmap b.next.length (dN (bZ f a b) (i+1))),pv]++cg 3 qs)) (by exact gy [av Ka Kb 56 1 (dG qs),lm,jy,gP,iI,fe,fA,oE,lV] _ (cg 3 qs)) ?_
  have Xo:=ny (f:=f) va vb hv i
  have hil:=(List.getElem?_eq_some_iff.1 hq).1
  have ho:=(lY (f:=f) va vb hv i).2 o (bJ hq)
  obtain⟨hs,ht⟩:=ql ho
  have hoa:=Ty hq (by rw[jO];omega)
  have yA:(cI a.a7)[o/b.next.length]? =some (.bool (dF a (o/b.next.length))):=by
   have hl:o/b.next.length<a.a7.length:=by rw[va.fin];exact hs
   rw[jE hl];unfold dF;rw[az,ap hl];rfl
  have qf:(cI b.a7)[o%b.next.length]? =some (.bool (dF b (o%b.next.length))):=by
   have hl:o%b.next.length<b.a7.length:=by rw[vb.fin];exact ht
   rw[jE hl];unfold dF;rw[az,ap hl];rfl
  have OS:(E7 (bZ f a b) o).length=L:=by unfold E7;rw[ar,su];exact hL
  have hvq:dG (qs++[⟨some ⟨rb,0,none⟩,L,E7 (bZ f a b) o⟩])=dG qs++[.slice (aD rb) L L]:=by simp[Rec.val,OS]
  have hbq:cI (fs++[f (dF a (o/b.next.length)) (dF b (o%b.next.length))])=cI fs++[.bool (f (dF a (o/b.next.length)) (dF b (o%b.next.length)))]:=by simp
  have aiC:=ny (f:=f) va vb hv (i+1)
  refine aj (aq (bs iL (fun z8=>?_)))
  refine aq (cq (vs:=[vN (o/b.next.length),vN (o%b.next.length)]) 0 iL ?_)
  refine ah (bg (ak F (ah (aV (aR (aj (ae (bq 4 wG) (ae a_ (ae (bt qg rl) (ae (bq 10 nZ) (ae (cQ nZ) (ae ij (ah (aZ F (fun hc=>?_) (fun hc=>?_)))))))))))))))
  ·have C7:(dN (bZ f a b) (i+1)).length>4096:=by omega
   refine aj (ae (cT jG bN F) (aq (cq (vs:=[(vI 0),(vI 0),nS,nS]) 6 bN ?_)))
   refine aq (cq (vs:=[(vI 10)]) 5 js ?_)
   refine dM (O':=[oI z5 27 [(vI 10)],fe]) (by exact Sub.d (.d (.d (.d (.d (.k (.k .z))))))) ?_
   refine ah (aM ?_)
   exact .inr ⟨F,⟨F,eG (by omega) (jP (bZ f a b) (i+1) (bZ f a b).next.length (by rw[jO];omega)).length_le⟩⟩
  have C8: ¬(dN (bZ f a b) (i+1)).length>4096:=by omega
  refine aL ?_
  let jN:Lx.Item:=oI z8 234 [vN (o/b.next.length),vN (o%b.next.length)]
  refine T.ds [jN,jy,gP,iI,fe,fA,oE,lV,eh] [(0,0),(1,0),(2,0),(5,0),(6,0),(7,0),(8,0),(9,0),(10,0),(11,0),(12,0),(13,0),(14,0),(15,0),(16,0),(17,0),(18,0),(19,0),(3,1),(4,1),(23,0),(20,1),(21,1),(22,1),(24,2),(25,2),(26,2)] (by exact Sub.k (.d (.d (.k (.k (.k (.k (.k (.k (.k (.k .z))))))))))) ?_
  refine aw F (bt dj fR) (aw F (bq 1 fp) (aw F aI (aw F (bt dj dH) (aw F (bq 1 eI) (aw F (bq 5 aaP) (aw F (bt dj dH) (aw F (bq 7 eI) (aw F (bt pq bF) (aw F (bq 0 ey) (aw F (dX (i:=(o/b.next.length)) eI fC F F (aK ha.a7) (by rw[va.fin];exact hs) (by rw[ar,va.fin];exact hs)) (aw F (cS BB F F (aK ha.a7) yA) (aw F (bt dj dH) (aw F (bq 6 eI) (aw F (bt pq bF) (aw F (bq 0 ey) (aw F (dX (i:=(o%b.next.length)) eI fC F F (aK hb.a7) (by rw[vb.fin];exact ht) (by rw[ar,vb.fin];exact ht)) (aw F (cS BB F F (aK hb.a7) qf) ?_)))))))))))))))))
  refine cH F F (cR (v:=(.slice (aD rb) L L)) fp cZ F F F (fun z9=>⟨by exact Sub.d (.k (.d (.d (.k (.k (.k (.k (.k (.k (.k (.k .z))))))))))),?_⟩))
  refine cH F F (dq 2 fp fp cZ F F F F (by simp;omega) (by decide) (Src.row (j:=0) F (by simp)) (by simp[fF]) (by omega) (by decide) (by decide) (fun xa qY=>⟨by exact Sub.d (.k (.d (.d (.k (.k (.k (.k (.k (.k (.k (.k .z))))))))))),?_⟩))
  refine aw F (bt dj fR) ?_
  let jX:Lx.Item:=av xa qY 56 1 ((dG qs)++[(.slice (aD rb) L L)])
  have LO:=eH.under (B:=([av (aD z9) 1 56 1 [(.slice (aD rb) L L)],jN,jX,lm,jy,gP,iI,fe,fA,oE,lV,eh,fh,dO fm (fun n:Nat=>Value.int .i64 (n:Int)) m (pmap b.next.length (dN (bZ f a b) (i+1))),pv]++cg 3 qs)) (O:=([av (aD z9) 1 56 1 [(.slice (aD rb) L L)],jN,jX,lm,jy,gP,iI,fe,fA,oE,lV,eh,fh,dO fm (fun n:Nat=>Value.int .i64 (n:Int)) m (pmap b.next.length (dN (bZ f a b) (i+1))),pv]++(cg 3 qs))) (hf w (dF a (o/b.next.length)) (dF b (o%b.next.length))) (by exact Sub.rf)
  refine cH F F (eu LO F F ?_)
  clear LO
  rintro vr O' ⟨A1,rfl,rfl,rfl⟩
  refine⟨by exact Sub.d (.k (.d (.d (.k (.k (.k (.k (.k (.k (.k (.k .z))))))))))),?_⟩
  refine cH F F (cR (v:=.bool (f (dF a (o/b.next.length)) (dF b (o%b.next.length)))) eI fC F F F (fun z12=>⟨by exact Sub.d (.d (.k (.d (.d (.k (.k (.k (.k (.k (.k (.k (.k .z)))))))))))),?_⟩))
  refine cH F F (dq 4 eI eI fC F F F F (by simp;omega) (by decide) (Src.row (j:=0) F (by simp)) (by simp[fF]) (by omega) (by decide) (by decide) (fun rL sf=>⟨by exact Sub.d (.d (.k (.d (.d (.k (.k (.k (.k (.k (.k (.k (.k .z)))))))))))),?_⟩))
  refine cy F F (cq (vs:=[(.slice xa (n1+1) qY)]) 5 fR ?_)
  refine cy F F (eK F F (bt dj dH) ?_)
  refine cy F F (cq (vs:=[(.slice rL (n2+1) sf)]) 5 dH ?_)
  let kn:Lx.Item:=oI z7 25 [(vI a.vars),(vI 0),(.slice xa (n1+1) qY),(.slice rL (n2+1) sf)]
  refine eR (O':=([jX,av rL sf 4 1 ((cI fs)++[.bool (f (dF a (o/b.next.length)) (dF b (o%b.next.length)))]),kn,gP,iI,fe,fA,oE,lV,pv,eh,fh,dO fm (fun n:Nat=>Value.int .i64 (n:Int)) m (pmap b.next.length (dN (bZ f a b) (i+1)))]++cg 3 qs)) (by exact Sub.d (.d (.d (.k (.k (.k (.k (.k (.k (.k (.k (.k (.dP [eh,fh,dO fm (fun n:Nat=>Value.int .i64 (n:Int)) m (pmap b.next.length (dN (bZ f a b) (i+1)))] _ (.k (.k (.k .rf)))))))))))))))) ?_
  refine eR (O':=(([av xa qY 56 1 (dG (qs++[⟨some ⟨rb,0,none⟩,L,E7 (bZ f a b) o⟩])),av rL sf 4 1 (cI (fs++[f (dF a (o/b.next.length)) (dF b (o%b.next.length))])),kn,gP,iI,fe,fA,oE,lV]++cg 3 (qs++[⟨some ⟨rb,0,none⟩,L,E7 (bZ f a b) o⟩]))++[eh,fh,dO fm (fun n:Nat=>Value.int .i64 (n:Int)) m (pmap b.next.length (dN (bZ f a b) (i+1)))])) (by rw[hvq,hbq];exact Sub.fold [av xa qY 56 1 ((dG qs)++[(.slice (aD rb) L L)]),av rL sf 4 1 ((cI fs)++[.bool (f (dF a (o/b.next.length)) (dF b (o%b.next.length)))]),oI z7 25 [(vI a.vars),(vI 0),(.slice xa (n1+1) qY),(.slice rL (n2+1) sf)],oI z6 227 [(.pointer (aD bp))],oI z5 27 [(vI 0)],oI z4 25 [(vI 0),(vI 0),nS,nS],oI z3 197 [(.func (.func g) #[] #[])],oI z2 25 (dC b k),oI z1 25 (dC a j)] (av (aD rb) L 3 1 (ints (E7 (bZ f a b) o))) [oI bp 238 [(vI a.vars),(vI a.start),(.slice j.nb a.next.length j.nc),(.slice j.fb a.a7.length j.fc),(vI b.vars),(vI b.start),(.slice k.nb b.next.length k.nc),(.slice k.fb b.a7.length k.fc),(.slice qb ((dN (bZ f a b) (i+1)).length) qc),(.map (some m))],av qb qc 234 2 (oG b.next.length (dN (bZ f a b) (i+1))),dO fm (fun n:Nat=>Value.int .i64 (n:Int)) m (pmap b.next.length (dN (bZ f a b) (i+1)))] (cg 3 qs) _ (IL 3 qs ⟨some ⟨rb,0,none⟩,L,E7 (bZ f a b) o⟩)) ?_
  refine cA ?_
  refine .inl ⟨F,_,F,xa,rL,qY,sf,n1+1,n2+1,qs++[⟨some ⟨rb,0,none⟩,L,E7 (bZ f a b) o⟩],fs++[f (dF a (o/b.next.length)) (dF b (o%b.next.length))],F,by omega,by omega,by simp[Jh],by simp[ug],?_,?_,by omega⟩
  ·rw[take_at hoa,bj]
   show List.map Rec.xs (qs++[_])=_
   rw[bj,show List.map Rec.xs qs=_ from Dh];rfl
  ·rw[take_at hoa,bj,oJ,←IK (f:=f) ho];rfl
 ·refine⟨none,none,0,0,0,0,[],[],F,F,F,F,F,by simp,by simp,by simp[dN]⟩
 rintro v O' (⟨N,qbF,qcF,O2,rfl,hN,Ka,KF,Kb,KG,n1,n2,qs,fs,rfl,hn1,hn2,Jh,ug,Dh,oJ,GZ⟩|⟨rfl,aaQ⟩)
 ·refine⟨none,_,F,?_⟩
  have hN8:(order (bZ f a b)).length≤4096:=by rw[GU va vb hv hN];omega
  refine aR ?_
  refine dc (O':=([av Ka Kb 56 1 (dG qs),av KF KG 4 1 (cI fs),oI z7 25 [(vI a.vars),(vI 0),(.slice Ka n1 Kb),(.slice KF n2 KG)],gP,iI,fe,fA,oE,lV]++cg 3 qs)) (ck (List.sublist_append_left _ _)) ?_
  have hor:=GU va vb hv hN
  have O_:(order (bZ f a b)).length=N:=by rw[hor];exact hN
  have e1:nums qs=(eo (bZ f a b)).next:=by rw[Dh,←O_,List.take_length];exact(sD _).symm
  have e2:fs=(eo (bZ f a b)).a7:=by rw[oJ,←O_,List.take_length];rfl
  obtain rfl:n1=(eo (bZ f a b)).next.length:=by rw[sD,ar];omega
  obtain rfl:n2=(eo (bZ f a b)).a7.length:=by rw[Fq,ar];omega
  subst e2
  have vD:=kx (f:=f) va.toVal vb.toVal hv
  have vR:=uZ vD hN8
  refine dc (O':=([av Ka Kb 56 1 (dG qs),av KF KG 4 1 (cI (eo (bZ f a b)).a7),oI z7 25 [(vI (eo (bZ f a b)).vars),(vI (eo (bZ f a b)).start),(.slice Ka ((eo (bZ f a b)).next.length) Kb),(.slice KF ((eo (bZ f a b)).a7.length) KG)],gP,iI,fe,fA,oI z2 25 (dC b k),oI z1 25 (dC a j)]++cg 3 qs)) (by exact Sub.rf) ?_
  refine bg (ae (eN 2 dj bN) (aq (bm Df (aX fun w1 hI=>(haveI:=ef hI;Dg w1 (eo (bZ f a b)) ⟨Ka,Kb,KF,KG,qs⟩ (show At w1 (eo (bZ f a b)) ⟨Ka,Kb,KF,KG,qs⟩from⟨hI.gV (mG 0),e1▸hI.X4 (fun q hq=>ao _ (List.mem_map_of_mem (f:=Rec.qt 3) hq)),hI.gV (mG 1)⟩) vR (by rw[sD,ar];exact jW hN8 (by decide)) (xJ vD))) ?_)))
  rintro vr O' ⟨N9,rfl,k',rfl,rfl⟩
  refine ae (bI (vs:=_)) (ae (bI (vs:=_)) (aq (cq (vs:=(dC (jm (bZ f a b)) k')) 6 bN ?_)))
  refine aq (cq (vs:=[(vI 0)]) 5 js ?_)
  refine ah (aM (aB ?_))
  refine iN (i:=6) (j:=5) results138 dj F bN o6 F F F F F F ?_
  exact⟨[dI 56 4 3 (jm (bZ f a b)) k'],(by exact Sub.k .z),.inl ⟨hN8,k',F,F⟩⟩
 refine⟨some .ret,_,F,?_⟩
 refine aB ?_
 refine iN (i:=1) (j:=0) results138 dj F bN o6 F F F F F F ?_
 exact⟨[],Sub.z,.inr ⟨aaQ,F,F⟩⟩
set_option maxRecDepth 20000 in
theorem DS (w:World) [dA prog w] (a b:cV) (j k:DK) (ha:At w a j) (hb:At w b k) (va:Valid a) (vb:Valid b) (hv:a.vars=b.vars) (f:Bool→Bool→Bool) (g:Nat) (hf: ∀(base:World) (x y:Bool),eH prog base (.func (.func g) #[] #[]) [.bool x,.bool y] [] (fun v O'=>v=.bool (f x y)∧O'=[])) (hN8:(order (bZ f a b)).length≤4096):
  cn prog 138 [dV a j,dV b k,.func (.func g) #[] #[]] w fun v N=> ∃k':DK,v=.tuple #[dV (tG f a b) k',vI 0]∧N=[dI 56 4 3 (tG f a b) k']:=
 (EO w a b j k ha hb va vb hv f g hf).mono fun v N h=>h.elim (fun h=>h.2) (fun h=>absurd h.1 (by omega))
set_option maxRecDepth 20000 in
theorem F4 (w:World) [dA prog w] (a b:cV) (j k:DK) (ha:At w a j) (hb:At w b k) (va:Valid a) (vb:Valid b) (hv:a.vars=b.vars) (f:Bool→Bool→Bool) (g:Nat) (hf: ∀(base:World) (x y:Bool),eH prog base (.func (.func g) #[] #[]) [.bool x,.bool y] [] (fun v O'=>v=.bool (f x y)∧O'=[])) (aaQ:4096<(order (bZ f a b)).length):
  cn prog 138 [dV a j,dV b k,.func (.func g) #[] #[]] w fun v N=>v=.tuple #[dV CG ⟨none,0,none,0,[]⟩,vI 10]∧N=[]:=
 (EO w a b j k ha hb va vb hv f g hf).mono fun v N h=>h.elim (fun h=>absurd h.1 (by omega)) (fun h=>h.2)
set_option maxRecDepth 20000 in
theorem Oi (w:World) [dA prog w] (a b:cV) (j k:DK) (ha:At w a j) (hb:At w b k) (Pn:a.next.length<9223372036854775807) (Aa: ∀r∈a.next,r.length<9223372036854775807) (Ab:a.a7.length<9223372036854775807) (Vw:b.next.length<9223372036854775807) (Oe: ∀r∈b.next,r.length<9223372036854775807) (Of:b.a7.length<9223372036854775807) (f:Bool→Bool→Bool) (g:Nat) (hf: ∀(base:World) (x y:Bool),eH prog base (.func (.func g) #[] #[]) [.bool x,.bool y] [] (fun v O'=>v=.bool (f x y)∧O'=[])) (hN:gU a b=0→(order (bZ f a b)).length≤4096):
  cn prog 138 [dV a j,dV b k,.func (.func g) #[] #[]] w fun v N=> ∃k':DK,v=.tuple #[dV (Kr f a b) k',vI (gU a b:Int)]∧N=[dI 56 4 3 (Kr f a b) k']:=by
 by_cases he:gU a b=0
 ·obtain⟨va,vb,hv⟩:=qp.1 he
  rw[KO he,he]
  exact DS w a b j k ha hb va vb hv f g hf (hN he)
 ·rw[Pv he]
  refine cj.dk (g:=fun x=>.tuple #[x,vI (gU a b:Int)]) ((gn 56 1 (gn 4 1 (GG w a b j k ha hb Pn Aa Ab Vw Oe Of g he))).mono ?_)
  rintro v N ⟨O2,rfl,O3,rfl,rfl,rfl⟩
  exact⟨none,0,none,0,[],F,F,F⟩
theorem aaR (w:World) [dA prog w] (a:cV) (j:DK) (ha:At w a j) (Pn:a.next.length<9223372036854775807) (Aa: ∀r∈a.next,r.length<9223372036854775807) (Ab:a.a7.length<9223372036854775807) (hN:gU a a=0→(order (bZ qn a a)).length≤4096):
  cn prog 102 [dV a j] w fun v N=> ∃k':DK,v=.tuple #[dV (Kr qn a a) k',vI (gU a a:Int)]∧N=[dI 56 4 3 (Kr qn a a) k']:=by
 refine aE func102 F ntmps102 F ?_
 refine aj (aq (dE (cs:=(dC a j)) (fun n5=>?_)))
 refine aq (bs bN (fun yf=>?_))
 refine ak F (ah (aj (ae (eN 1 dj bN) (ae (eN 1 dj bN) (aq (bm F5 (aX fun w1 hI=>(haveI:=ef hI;Oi w1 a a j j (hI.rI ha) (hI.rI ha) Pn Aa Ab Pn Aa Ab qn 139 aaN hN)) ?_))))))
 rintro vr O' ⟨N,rfl,k',rfl,rfl⟩
 refine ae (bI (vs:=_)) (ae (bI (vs:=_)) (aq (cq (vs:=(dC (Kr qn a a) k')) 1 bN ?_)))
 refine ak F (ah (aM (aB ?_)))
 refine j8 (vI (gU a a:Int)) (i:=1) results102 dj F bN F F F F ?_
 exact⟨[dI 56 4 3 (Kr qn a a) k'],(by exact Sub.k .z),k',F,F⟩
theorem ada (w:World) [dA prog w] (a:cV) (j:DK) (ha:At w a j) (Pn:a.next.length<9223372036854775807) (Aa: ∀r∈a.next,r.length<9223372036854775807) (Ab:a.a7.length<9223372036854775807):
  cn prog 102 [dV a j] w fun v N=> ∃k':DK,v=.tuple #[dV (Kr qn a a) k',vI (dL a:Int)]∧N=[dI 56 4 3 (Kr qn a a) k']:=by
 have h:=aaR w a j ha Pn Aa Ab (fun hw=>by
  have hv:=(qp.1 hw).1
  exact bo (qo hv.toVal hv.toVal F hv.toVal F (Pu.refl a) (Pu.refl a)) hv.n4)
 rwa[vP]at h
abbrev ExP (Xk:Nat):Prop:= ∀(w:World) [dA prog w] (cb:Nat) (eb:Option Addr) (en ec vs B L:Nat) (e7:Sl w (aD cb) [.slice eb en ec,vI (vs:Int),vI (B:Int)]) (gz:vs≤6) (hL:2^vs=L) (iY:1≤B) (hB:B≤4096)
  (tr:Key→Nat→Key) (fin:Key→Bool) (start:Key) (Rp:Key→SR→Prop) (r0:SR) (fk fn ff:Value) (FP:Rp start r0) (Xl:r0.lx=[]) (wL: ∀k r,Rp k r→fF r.a=true∧fF r.b=true)
  (DA: ∀w1 k r,Inv w [] w1→Rp k r→(∀it∈r.lx,it.P w1)→eH prog w1 fk [(.agg #[r.a,r.b])] [] (fun v O'=>v=str k∧O'=[]))
  (fy: ∀w1 k r x,Inv w [] w1→Rp k r→(∀it∈r.lx,it.P w1)→x<L→eH prog w1 fn [(.agg #[r.a,r.b]),.int .u8 (x:Int)] [] (fun v N=> ∃r',v=(.agg #[r'.a,r'.b])∧N=r'.lx∧Rp (tr k x) r'))
  (BL: ∀w1 k r,Inv w [] w1→Rp k r→(∀it∈r.lx,it.P w1)→eH prog w1 ff [(.agg #[r.a,r.b])] [] (fun v O'=>v=.bool (fin k)∧O'=[])),
  dK prog w (.iface 163 (.agg #[])) Xk [(dJ (aD cb) 0),(.agg #[r0.a,r0.b]),fk,fn,ff] [] (fun v N=> ∃M k',v=dV M k'∧N=[dI 56 4 3 M k']∧fQ (vs:Int) B M (fun u=>fin (u.foldl tr start))∧Ho tr L start B) (¬Ho tr L start B)
theorem ExB:(let Xk:Nat:=154;let n8:Nat:=208;ExP Xk)∧(let Xk:Nat:=74;let n8:Nat:=122;ExP Xk):=by
 refine⟨?_,?_⟩
 have Y7:=func154;have hq2:=ntmps154;have Sz:=ou;have FQ:=l_;have Qv:=Y8;have hq7:=results154
 rotate_left
 have Y7:=func74;have hq2:=ntmps74;have Sz:=my;have FQ:=kR;have Qv:=Y9;have hq7:=results74
 rotate_left
 all_goals
  intro Xk n8 w _ cb eb en ec vs B L e7 gz hL iY hB tr fin start Rp r0 fk fn ff FP Xl wL DA fy BL
  refine dS Y7 F hq2 F ?_
  have UF:L≤64:=by rw[←hL];exact bV (by decide) gz
  obtain⟨ha0,G8⟩:=wL _ _ FP
  refine aj (aq (dE (cs:=[r0.a,r0.b]) (fun z1=>?_)))
  refine aq (bs bN (fun z2=>?_))
  refine ah (aj (ae (eN 1 Sz FQ) (aq (cK (m:=1) (parts:=[(0,_)]) (cs:=[r0.a,r0.b]) Qv FQ (by decide) (by kernel_rfl) F (fun z3=>?_)))))
  refine ak F (ah (aj (aq (l7 str (fun n:Nat=>Value.int .i64 (n:Int)) (fun m4=>?_)))))
  refine ai F (ae (eN 3 Sz FQ) ?_)
  have qV:=(cW (O:=[dO str (fun n:Nat=>Value.int .i64 (n:Int)) m4 [],av (aD z3) 1 n8 2 [r0.a,r0.b],oI z2 25 [(vI 0),(vI 0),nS,nS],oI z1 n8 [r0.a,r0.b]]) fun w1 hI=>haveI:=ef hI;DA w1 start r0 hI.lK FP (by rw[Xl];simp))
  refine aq (eu qV F F ?_)
  clear qV
  rintro vr O' ⟨N,rfl,rfl,rfl⟩
  refine aq (gg (a:=start) (v:=(0:Nat)) 0 iO (gG.string wh) F F F F (by simp) ?_)
  refine ai F (ak F (ah (aj (ai F (ae a_ (ae (cz lM F bF F F (aK e7) (by first|omega|(simp;done)|(simp;omega)|(simp_all;done)|(simp_all;omega))) (ae (cS ey F F (aK e7) F) (ae (cT (cs:=[vN vs,(vI 0),nS,nS]) jG bN (by kernel_rfl)) (aq (bs bN (fun z5=>?_)))))))))))
  refine aq (cq (vs:=[vN vs,(vI 0),nS,nS]) 0 bN ?_)
  refine ah (aR (aj (ak F (ah (aV (T.fq 4 1 ?_))))))
  refine T.fq 56 1 ?_
  refine dc (O':=[av (aD z3) 1 n8 2 (eT c2 [r0]),dO str (fun n:Nat=>Value.int .i64 (n:Int)) m4 [start].zipIdx,av none 0 56 1 (dG []),av none 0 4 1 (cI []),oI z5 25 [vN vs,(vI 0),nS,nS],oI z2 25 [(vI 0),(vI 0),nS,nS],oI z1 n8 [r0.a,r0.b]]++(cg 3 []++jC [r0])) (by rw[show jC [r0]=[] by simp[jC,Xl]];exact(aG [4,3,0,0,0,0,0])) ?_
  refine dZ (fun(s:Nat) ρ O=> ∃(ks:List Key) (qs:List SR) (rq:List Rec) (sb ob fb:Option Addr) (sc oc fc:Nat),O=([av sb sc n8 2 (eT c2 qs),dO str (fun n:Nat=>Value.int .i64 (n:Int)) m4 ks.zipIdx,av ob oc 56 1 (dG rq),av fb fc 4 1 (cI ((ks.take s).map fin)),oI z5 25 [vN vs,(vI 0),(.slice ob s oc),(.slice fb s fc)],oI z2 25 [(vI 0),(vI 0),nS,nS],oI z1 n8 [r0.a,r0.b]]++(cg 3 rq++jC qs))∧yi tr L start s=ks∧DB tr L start ks∧Mg Rp ks qs∧ks.length≤B∧qW tr L ks s (nums rq)∧df [(0,(dJ (aD cb) 0)),(1,(.agg #[r0.a,r0.b])),(2,fk),(3,fn),(4,ff),(6,(.pointer (aD z1))),(10,(.pointer (aD z2))),(11,(.slice sb qs.length sc)),(12,(.map (some m4))),(13,(.pointer (aD z5))),(14,vN s)] ρ) (fun s=>B-s) 0 ?_ ?_
  ·exact⟨[start],[r0],[],(aD z3),none,none,1,0,0,F,F,DB.one _ _ _,Mg.one FP,by simpa using iY,⟨F,bl _,fun i hi=>absurd hi (by omega),fun i hi=>absurd hi (by omega)⟩,(.of F)⟩
  rintro s ρ O ⟨ks,qs,rq,sb,ob,fb,sc,oc,fc,rfl,oQ,hF,hR,Qw,hE,hH⟩
  obtain⟨gA,rfl⟩:=hH.elim
  clear hH
  have Jh:=hR.1
  have OS:rq.length=s:=by have:=hE.len;simpa using this
  have OW:=hE.le
  refine aR (aj (ai F (ai F (ae (cQ Qv) (ae cU (ah (aZ F (fun hc=>?_) (fun hc=>?_))))))))
  ·have C7:s<qs.length:=by omega
   have UG:s<ks.length:=by omega
   refine aL (aR (aV (aj (ai F (ae a_ (ae (cz lM F bF F F (aK e7) (by first|omega|(simp;done)|(simp;omega)|(simp_all;done)|(simp_all;omega))) (ae (cS ey F F (aK e7) F) (ae (bL (nA (v:=vs) F F (by omega)) (v':=vN L) (by rw[hL])) (aq (cX (m:=L) cL bF F F (by omega) (by omega) (fun z6=>?_)))))))))))
   refine ak F (ah (aR (aj (ai F (ae (cQ cL) (ai F (ah (aV ?_))))))))
   refine dZ (fun(x:Nat) ρ O=> ∃(ft:List Key) (iC:List SR) (ys:List Int) (tb:Option Addr) (tc:Nat),O=([av (aD z6) L 3 1 (ints ys),av tb tc n8 2 (eT c2 iC),dO str (fun n:Nat=>Value.int .i64 (n:Int)) m4 ft.zipIdx,av ob oc 56 1 (dG rq),av fb fc 4 1 (cI ((ks.take s).map fin)),oI z5 25 [vN vs,(vI 0),(.slice ob s oc),(.slice fb s fc)],oI z2 25 [(vI 0),(vI 0),nS,nS],oI z1 n8 [r0.a,r0.b]]++(cg 3 rq++jC iC))∧x≤L∧ys.length=L∧DB tr L start ft∧Mg Rp ft iC∧ft.length≤B∧ft=((List.range x).map (tr (ks.getD s []))).foldl add ks∧(∀i,i<x→ys[i]? =some ((ix (tr (ks.getD s []) i) ft:Nat):Int))∧df [(0,(dJ (aD cb) 0)),(1,(.agg #[r0.a,r0.b])),(2,fk),(3,fn),(4,ff),(6,(.pointer (aD z1))),(10,(.pointer (aD z2))),(11,(.slice tb iC.length tc)),(12,(.map (some m4))),(13,(.pointer (aD z5))),(14,vN s),(15,(.slice (aD z6) L L)),(45,vI (L:Int)),(46,vN x)] ρ) (fun x=>L-x) 0 ?_ ?_
   ·exact⟨ks,qs,List.replicate L 0,sb,sc,by simp,bl _,by simp,hF,hR,Qw,F,fun i hi=>absurd hi (by omega),(.of F)⟩
   rintro x ρ O ⟨ft,iC,ys,tb,tc,rfl,hx,DC,Qy,zu,Mh,qi,zS,hH⟩
   obtain⟨gA,rfl⟩:=hH.elim
   clear hH
   have vh:ks<+:ft:=qi▸gI _ _
   have sS:ft.getD s []=ks.getD s []:=mz vh UG
   have Y_:=vh.length_le
   have Mi:=zu.1
   have wO:s<iC.length:=by omega
   have UH:=zu.2 s wO
   rw[sS]at UH
   refine aj (ae cU (ah (aR (aZ F (fun hc=>?_) (fun hc=>?_)))))
   ·have LB:x<L:=by omega
    have Mj:x<L:=by omega
    have O5:ks.getD s []∈ft:=by rw[←sS,az,ap (by omega),Option.getD_some];exact aN _
    refine aL (aR (aV (aj (ai F (ak F (ah (aj (ai F (ai F (ai F (ae (eA (i:=s) Qv FQ F F (dT (mG 1)) wO (by rw[kT (f:=c2) (n:=2) (fun _=>rfl)];omega)) (ae (eW (vs:=[iC[s].a,iC[s].b]) Sz F FQ F F (bu _) (dT (mG 1)) (SA wO)) (ai F (ae (fU ey gH F (qF (by omega))) ?_))))))))))))))
    have Ml:=(cW (O:=([av (aD z6) L 3 1 (ints ys),av tb tc n8 2 (eT c2 iC),dO str (fun n:Nat=>Value.int .i64 (n:Int)) m4 ft.zipIdx,av ob oc 56 1 (dG rq),av fb fc 4 1 (cI ((ks.take s).map fin)),oI z5 25 [vN vs,(vI 0),(.slice ob s oc),(.slice fb s fc)],oI z2 25 [(vI 0),(vI 0),nS,nS],oI z1 n8 [r0.a,r0.b]]++(cg 3 rq++jC iC))) fun w1 hI=>haveI:=ef hI;fy w1 (ks.getD s []) iC[s] x hI.lK UH (fun it fO=>hI.holds it (ao _ (ao _ (uq wO fO)))) Mj)
    refine aq (eu Ml F F ?_)
    clear Ml
    rintro vr O' ⟨N9,rfl,r9,rfl,rfl,Mm⟩
    obtain⟨Za,hb9⟩:=wL _ _ Mm
    refine dM (O':=([av (aD z6) L 3 1 (ints ys),av tb tc n8 2 (eT c2 iC),dO str (fun n:Nat=>Value.int .i64 (n:Int)) m4 ft.zipIdx,av ob oc 56 1 (dG rq),av fb fc 4 1 (cI ((ks.take s).map fin)),oI z5 25 [vN vs,(vI 0),(.slice ob s oc),(.slice fb s fc)],oI z2 25 [(vI 0),(vI 0),nS,nS],oI z1 n8 [r0.a,r0.b]]++(r9.lx++(cg 3 rq++jC iC)))) (by exact fK [] _ r9.lx (cg 3 rq++jC iC)) ?_
    refine aq (bs FQ (fun z7=>?_))
    refine aq (u6 (v:=(.agg #[r9.a,r9.b])) (vs:=[r9.a,r9.b]) 0 FQ F F F F (by simp[Za,hb9]) F (by simp[eZ]) ?_)
    refine ah (aj (ai F (ai F (ae (eN 0 Sz FQ) ?_))))
    have Dq:=(cW (O:=([oI z7 n8 [r9.a,r9.b],av (aD z6) L 3 1 (ints ys),av tb tc n8 2 (eT c2 iC),dO str (fun n:Nat=>Value.int .i64 (n:Int)) m4 ft.zipIdx,av ob oc 56 1 (dG rq),av fb fc 4 1 (cI ((ks.take s).map fin)),oI z5 25 [vN vs,(vI 0),(.slice ob s oc),(.slice fb s fc)],oI z2 25 [(vI 0),(vI 0),nS,nS],oI z1 n8 [r0.a,r0.b]]++(r9.lx++(cg 3 rq++jC iC)))) fun w1 hI=>haveI:=ef hI;DA w1 (tr (ks.getD s []) x) r9 hI.lK Mm (fun it fO=>hI.holds it (ao _ (aO _ fO))))
    refine aq (eu Dq F F ?_)
    clear Dq
    rintro vr O' ⟨N,rfl,rfl,rfl⟩
    refine ae (bL (jT (a:=tr (ks.getD s []) x) iO bF (gG.string wh) F F (mG 3)) (v':=(.tuple #[vN (if tr (ks.getD s []) x∈ft then ix (tr (ks.getD s []) x) ft else 0),.bool (decide (tr (ks.getD s []) x∈ft))])) (by rw[lD];generalize tr (ks.getD s []) x=k9;by_cases h9:k9∈ft<;>simp[h9])) (ai F (ae (bI (vs:=_)) (ae (bI (vs:=_)) (ak F (ak F (ah (aR (aj (ai F (ae iV (ah (T.cond F (fun hc=>?_) (fun hc=>?_)))))))))))))
    ·have Jp:tr (ks.getD s []) x∉ft:=by simpa using hc
     have mL:=Hp Jp
     refine aj (ai F (ae (cQ Qv) (ak F (ah (aj (ai F (ai F (ae (eN 0 Sz FQ) ?_))))))))
     have DD:=(cW (O:=([oI z7 n8 [r9.a,r9.b],av (aD z6) L 3 1 (ints ys),av tb tc n8 2 (eT c2 iC),dO str (fun n:Nat=>Value.int .i64 (n:Int)) m4 ft.zipIdx,av ob oc 56 1 (dG rq),av fb fc 4 1 (cI ((ks.take s).map fin)),oI z5 25 [vN vs,(vI 0),(.slice ob s oc),(.slice fb s fc)],oI z2 25 [(vI 0),(vI 0),nS,nS],oI z1 n8 [r0.a,r0.b]]++(r9.lx++(cg 3 rq++jC iC)))) fun w1 hI=>haveI:=ef hI;DA w1 (tr (ks.getD s []) x) r9 hI.lK Mm (fun it fO=>hI.holds it (ao _ (aO _ fO))))
     refine aq (eu DD F F ?_)
     clear DD
     rintro vr O' ⟨N,rfl,rfl,rfl⟩
     refine ai F (aq (qE (a:=tr (ks.getD s []) x) (v:=iC.length) 3 iO (gG.string wh) F F F F (by rw[nz];exact Jp) ?_))
     refine ah (aj (ai F (ae (eN 0 Sz FQ) (aq (cK (m:=1) (parts:=[(0,_)]) (cs:=[r9.a,r9.b]) Qv FQ (by decide) (by kernel_rfl) F (fun z8=>?_))))))
     refine aq (dq 3 Qv Qv FQ F F F F (by rw[kT (f:=c2) (n:=2) (fun _=>rfl)]) (by decide) (Src.row (j:=0) F (by simp)) (by simp[Za,hb9]) (by omega) (by decide) (by decide) (fun z9 pP=>?_))
     refine ak F (ah (aj (ai F (ai F (ae a_ (ae (cz lM F bF F F (aK e7) (by first|omega|(simp;done)|(simp;omega)|(simp_all;done)|(simp_all;omega))) (ae (cS ey F F (aK e7) F) (ae kV (ah (aZ F (fun hc=>?_) (fun hc=>?_)))))))))))
     ·have Zb:iC.length≥B:=by omega
      refine bg (ae (cT xg BJ F) (ae (rP Hl F) ?_))
      exact eJ F (xh F (fun _=>⟨F,(Qy.add O5 Mj).Zc (by rw[mL];simp;omega)⟩))
     have Zd: ¬iC.length≥B:=by omega
     refine aL (bg (ai F (ai F (ai F (ae (dX (i:=x) cL bF F F (dT (mG 2)) (by omega) (by rw[ar];omega)) (aq (n7 (j:=x) (v:=vI (iC.length:Int)) (vs:=[(vI (iC.length:Int))]) (cs:=ints ys) 2 bF F F F F F (by simp) F (by first|(simp;omega)|(simp_all;omega)) ?_)))))))
     refine dM (O':=([av (aD z8) 1 n8 2 [r9.a,r9.b],oI z7 n8 [r9.a,r9.b],av (aD z6) L 3 1 (ints (ys.set x ((ix (tr (ks.getD s []) x) (add ft (tr (ks.getD s []) x)):Nat):Int))),av z9 pP n8 2 ((eT c2 iC)++[r9.a,r9.b]),dO str (fun n:Nat=>Value.int .i64 (n:Int)) m4 (ft.zipIdx++[(tr (ks.getD s []) x,iC.length)]),av ob oc 56 1 (dG rq),av fb fc 4 1 (cI ((ks.take s).map fin)),oI z5 25 [vN vs,(vI 0),(.slice ob s oc),(.slice fb s fc)],oI z2 25 [(vI 0),(vI 0),nS,nS],oI z1 n8 [r0.a,r0.b]]++(r9.lx++(cg 3 rq++jC iC)))) (by rw[show eZ (ints ys) x [(vI (iC.length:Int))]=ints (ys.set x ((ix (tr (ks.getD s []) x) (add ft (tr (ks.getD s []) x)):Nat):Int))from(by rw[mL,fZ Jp,show ix (tr (ks.getD s []) x) [tr (ks.getD s []) x]=0 by simp[ix],Nat.add_zero,←Mi];simp[eZ])];exact ck (aY _)) ?_
     refine ah (bg (ae (dr (a:=x) (b:=1) F F (by omega)) (ai F (ah ?_))))
     have FR: ∀y,y<x→tr (ks.getD s []) y∈ft:=fun y hy=>by rw[qi,d_];exact .inr (List.mem_map_of_mem (List.mem_range.2 hy))
     have FT: ∀i,i<x+1→(ys.set x ((ix (tr (ks.getD s []) x) (add ft (tr (ks.getD s []) x)):Nat):Int))[i]? =some ((ix (tr (ks.getD s []) i) (add ft (tr (ks.getD s []) x)):Nat):Int):=fun i hi=>by
      by_cases e:i=x
      ·subst e;rw[List.getElem?_set_self (by omega)]
      ·rw[List.getElem?_set_ne (fun h=>e h.symm),zS i (by omega),ir (jY _ _) (FR i (by omega))]
     have AG:=zu.snoc Mm
     rw[←mL]at AG
     have hF3:=Qy.add O5 Mj
     exact⟨x+1,by omega,[av (aD z6) L 3 1 (ints (ys.set x ((ix (tr (ks.getD s []) x) (add ft (tr (ks.getD s []) x)):Nat):Int))),av z9 pP n8 2 (eT c2 (iC++[r9])),dO str (fun n:Nat=>Value.int .i64 (n:Int)) m4 ((add ft (tr (ks.getD s []) x)).zipIdx),av ob oc 56 1 (dG rq),av fb fc 4 1 (cI ((ks.take s).map fin)),oI z5 25 [vN vs,(vI 0),(.slice ob s oc),(.slice fb s fc)],oI z2 25 [(vI 0),(vI 0),nS,nS],oI z1 n8 [r0.a,r0.b]]++(cg 3 rq++jC (iC++[r9])),(by rw[AJ,wj,mL,show(ft++[tr (ks.getD s []) x]).zipIdx=ft.zipIdx++[(tr (ks.getD s []) x,iC.length)] by rw[List.zipIdx_append,Mi];simp];exact yj _ _ _ _ _ (by exact Sub.d (.d (.k (.k (.k (.k (.k (.k (.k (.k .z))))))))))),add ft (tr (ks.getD s []) x),iC++[r9],_,z9,pP,F,by omega,by simp[DC],hF3,AG,by rw[mL];simp;omega,by rw[jk,←qi],FT,⟨F,F,F,F,F,F,F,(show Value.slice z9 (iC.length+1) pP=_ by rw[aP];rfl),F,F,F,F,F,F,trivial⟩⟩
    have Jp:tr (ks.getD s []) x∈ft:=by simpa using hc
    have mL:=Hq Jp
    refine aL (bg (ai F (ai F (ai F (ae (dX (i:=x) cL bF F F (dT (mG 1)) (by omega) (by rw[ar];omega)) (aq (n7 (j:=x) (v:=vN (if tr (ks.getD s []) x∈ft then ix (tr (ks.getD s []) x) ft else 0)) (vs:=[(vN (if tr (ks.getD s []) x∈ft then ix (tr (ks.getD s []) x) ft else 0))]) (cs:=ints ys) 1 bF F F F F F (by simp) F (by first|(simp;omega)|(simp_all;omega)) ?_)))))))
    refine dM (O':=([oI z7 n8 [r9.a,r9.b],av (aD z6) L 3 1 (ints (ys.set x ((ix (tr (ks.getD s []) x) (add ft (tr (ks.getD s []) x)):Nat):Int))),av tb tc n8 2 (eT c2 iC),dO str (fun n:Nat=>Value.int .i64 (n:Int)) m4 ft.zipIdx,av ob oc 56 1 (dG rq),av fb fc 4 1 (cI ((ks.take s).map fin)),oI z5 25 [vN vs,(vI 0),(.slice ob s oc),(.slice fb s fc)],oI z2 25 [(vI 0),(vI 0),nS,nS],oI z1 n8 [r0.a,r0.b]]++(r9.lx++(cg 3 rq++jC iC)))) (by rw[show eZ (ints ys) x [(vN (if tr (ks.getD s []) x∈ft then ix (tr (ks.getD s []) x) ft else 0))]=ints (ys.set x ((ix (tr (ks.getD s []) x) (add ft (tr (ks.getD s []) x)):Nat):Int))from(by rw[mL,aJ Jp];simp[eZ])];exact ck (aY _)) ?_
    refine ah (bg (ae (dr (a:=x) (b:=1) F F (by omega)) (ai F (ah ?_))))
    have FR: ∀y,y<x→tr (ks.getD s []) y∈ft:=fun y hy=>by rw[qi,d_];exact .inr (List.mem_map_of_mem (List.mem_range.2 hy))
    have FT: ∀i,i<x+1→(ys.set x ((ix (tr (ks.getD s []) x) (add ft (tr (ks.getD s []) x)):Nat):Int))[i]? =some ((ix (tr (ks.getD s []) i) (add ft (tr (ks.getD s []) x)):Nat):Int):=fun i hi=>by
     by_cases e:i=x
     ·subst e;rw[List.getElem?_set_self (by omega)]
     ·rw[List.getElem?_set_ne (fun h=>e h.symm),zS i (by omega),ir (jY _ _) (FR i (by omega))]
    have AG:=zu
    rw[←mL]at AG
    exact⟨x+1,by omega,[av (aD z6) L 3 1 (ints (ys.set x ((ix (tr (ks.getD s []) x) (add ft (tr (ks.getD s []) x)):Nat):Int))),av tb tc n8 2 (eT c2 iC),dO str (fun n:Nat=>Value.int .i64 (n:Int)) m4 ((add ft (tr (ks.getD s []) x)).zipIdx),av ob oc 56 1 (dG rq),av fb fc 4 1 (cI ((ks.take s).map fin)),oI z5 25 [vN vs,(vI 0),(.slice ob s oc),(.slice fb s fc)],oI z2 25 [(vI 0),(vI 0),nS,nS],oI z1 n8 [r0.a,r0.b]]++(cg 3 rq++jC iC),(by rw[mL];exact fB _ _ _ _ (by exact Sub.d (.k (.k (.k (.k (.k (.k (.k (.k .z)))))))))),add ft (tr (ks.getD s []) x),iC,_,tb,tc,F,by omega,by simp[DC],Qy.add O5 Mj,AG,by rw[mL];exact Mh,by rw[jk,←qi],FT,(.of F)⟩
   have LG: ¬x<L:=by omega
   refine cG ?_
   refine T.ds [av tb tc n8 2 (eT c2 iC),oI z5 25 [vN vs,(vI 0),(.slice ob s oc),(.slice fb s fc)]] [(0,0),(1,0),(2,0),(5,0),(6,0),(7,0),(8,0),(9,0),(10,0),(11,0),(3,1),(4,1),(15,0),(12,1),(13,1),(14,1),(16,2),(17,2),(18,2)] (by exact Sub.d (.k (.d (.d (.d (.k .z)))))) ?_
   refine aw F (bt dj fR) (aw F (bq 1 fp) (aw F aI (aw F (bt dj dH) (aw F (bq 1 eI) (aw F aI (aw F aI (aw F aI (aw F (eA (i:=s) Qv FQ F F (dT (mG 0)) wO (by rw[kT (f:=c2) (n:=2) (fun _=>rfl)];omega)) (aw F (eW (vs:=[iC[s].a,iC[s].b]) Sz F FQ F F (bu _) (dT (mG 0)) (SA wO)) ?_)))))))))
   refine cH F F (cR (v:=(.slice (aD z6) L L)) fp cZ F F F (fun zr=>⟨by exact Sub.d (.d (.k (.d (.d (.d (.k .z)))))),?_⟩))
   refine cH F F (dq 4 fp fp cZ F F F F (by simp;omega) (by decide) (Src.row (j:=0) F (by simp)) (by simp[fF]) (by omega) (by decide) (by decide) (fun z12 BM=>⟨by exact Sub.d (.d (.k (.d (.d (.d (.k .z)))))),?_⟩))
   refine aw F (bt dj fR) ?_
   have DE:=(cW (O:=([av (aD zr) 1 56 1 [(.slice (aD z6) L L)],av (aD z6) L 3 1 (ints ys),av tb tc n8 2 (eT c2 iC),dO str (fun n:Nat=>Value.int .i64 (n:Int)) m4 ft.zipIdx,av z12 BM 56 1 ((dG rq)++[(.slice (aD z6) L L)]),av fb fc 4 1 (cI ((ks.take s).map fin)),oI z5 25 [vN vs,(vI 0),(.slice ob s oc),(.slice fb s fc)],oI z2 25 [(vI 0),(vI 0),nS,nS],oI z1 n8 [r0.a,r0.b]]++(cg 3 rq++jC iC))) fun w1 hI=>haveI:=ef hI;BL w1 (ks.getD s []) iC[s] hI.lK UH (fun it fO=>hI.holds it (ao _ (ao _ (uq wO fO)))))
   refine cH F F (eu DE F F ?_)
   clear DE
   rintro vr O' ⟨N,rfl,rfl,rfl⟩
   refine⟨by exact Sub.d (.d (.k (.d (.d (.d (.k .z)))))),?_⟩
   refine cH F F (cR (v:=.bool (fin (ks.getD s []))) eI fC F F F (fun Cx=>⟨by exact Sub.d (.d (.d (.k (.d (.d (.d (.k .z))))))),?_⟩))
   refine cH F F (dq 6 eI eI fC F F F F (by simp;omega) (by decide) (Src.row (j:=0) F (by simp)) (by simp[fF]) (by omega) (by decide) (by decide) (fun Hj DF=>⟨by exact Sub.d (.d (.d (.k (.d (.d (.d (.k .z))))))),?_⟩))
   refine cy F F (cq (vs:=[(.slice z12 (s+1) BM)]) 7 fR ?_)
   refine cy F F (eK F F (bt dj dH) ?_)
   refine cy F F (cq (vs:=[(.slice Hj (s+1) DF)]) 7 dH ?_)
   refine cA ?_
   have oJ:cI ((ft.take (s+1)).map fin)=cI ((ks.take s).map fin)++[.bool (fin (ks.getD s []))]:=by
    rw[aH (by omega:s<ft.length),bj,show ft.take s=ks.take s by obtain⟨t9,rfl⟩:=vh;rw[List.take_append_of_le_length (by omega)],←sS,show ft.getD s []=ft[s] by rw[az,ap (by omega),Option.getD_some]]
    simp
   refine dc (O':=[av tb tc n8 2 (eT c2 iC),dO str (fun n:Nat=>Value.int .i64 (n:Int)) m4 ft.zipIdx,av z12 BM 56 1 (dG (rq++[⟨(aD z6),L,ys⟩])),av Hj DF 4 1 (cI ((ft.take (s+1)).map fin)),oI z5 25 [vN vs,(vI 0),(.slice z12 (s+1) BM),(.slice Hj (s+1) DF)],oI z2 25 [(vI 0),(vI 0),nS,nS],oI z1 n8 [r0.a,r0.b]]++(cg 3 (rq++[⟨(aD z6),L,ys⟩])++jC iC)) (by
    rw[oJ,show dG (rq++[⟨(aD z6),L,ys⟩])=(dG rq)++[(.slice (aD z6) L L)] by simp[Rec.val,DC],show cg 3 (rq++[⟨(aD z6),L,ys⟩])=cg 3 rq++[av (aD z6) L 3 1 (ints ys)] by simp[cg,Rec.qt]]
    exact qX [av tb tc n8 2 (eT c2 iC),dO str (fun n:Nat=>Value.int .i64 (n:Int)) m4 ft.zipIdx,av z12 BM 56 1 ((dG rq)++[(.slice (aD z6) L L)]),av Hj DF 4 1 ((cI ((ks.take s).map fin))++[.bool (fin (ks.getD s []))]),oI z5 25 [vN vs,(vI 0),(.slice z12 (s+1) BM),(.slice Hj (s+1) DF)],oI z2 25 [(vI 0),(vI 0),nS,nS],oI z1 n8 [r0.a,r0.b]] [av (aD Cx) 1 4 1 [.bool (fin (ks.getD s []))],av (aD zr) 1 56 1 [(.slice (aD z6) L L)],av (aD z6) L 3 1 (ints ys),av tb tc n8 2 (eT c2 iC),dO str (fun n:Nat=>Value.int .i64 (n:Int)) m4 ft.zipIdx,av z12 BM 56 1 ((dG rq)++[(.slice (aD z6) L L)]),av Hj DF 4 1 ((cI ((ks.take s).map fin))++[.bool (fin (ks.getD s []))]),oI z5 25 [vN vs,(vI 0),(.slice z12 (s+1) BM),(.slice Hj (s+1) DF)],oI z2 25 [(vI 0),(vI 0),nS,nS],oI z1 n8 [r0.a,r0.b]] (cg 3 rq) (jC iC) (av (aD z6) L 3 1 (ints ys)) (by exact Sub.d (.d (.dP [av (aD z6) L 3 1 (ints ys)] _ (.dP [av (aD z6) L 3 1 (ints ys)] _ (.dP [av (aD z6) L 3 1 (ints ys)] _ (.dP [av (aD z6) L 3 1 (ints ys)] _ (.dP [av (aD z6) L 3 1 (ints ys)] _ (.dP [av (aD z6) L 3 1 (ints ys)] _ (.dP [av (aD z6) L 3 1 (ints ys)] _ (.k .z))))))))))) ?_
   refine bg (ai F (ae (dr (a:=s) (b:=1) F F (by omega)) (ak F (ah ?_))))
   have BN:x=L:=by omega
   have UI:ys=lE tr L ft s:=by
    apply List.ext_getElem?
    intro i
    by_cases hi:i<L
    ·rw[zS i (by omega)];simp only[lE,sS];simp[hi]
    ·rw[bY (by omega),bY (by simp[lE];omega)]
   have FR: ∀y,y<L→tr (ks.getD s []) y∈ft:=fun y hy=>by rw[qi,d_];exact .inr (List.mem_map_of_mem (List.mem_range.2 (by omega)))
   have Uj:qW tr L ft (s+1) (nums (rq++[⟨(aD z6),L,ys⟩])):=by
    have:=hE.snoc vh UG UI (by rw[sS];exact FR)
    simpa[nums]using this
   exact⟨s+1,by omega,_,ck (aY _),ft,iC,rq++[⟨(aD z6),L,ys⟩],tb,z12,Hj,tc,BM,DF,F,by rw[yi,oQ,qi,BN],Qy,zu,Mh,Uj,(.of F)⟩
  have C8: ¬s<qs.length:=by omega
  refine cG ?_
  refine aR ?_
  have Qz:s=ks.length:=by omega
  have qT:rq.length=(nums rq).length:=by simp
  obtain⟨W,hW⟩: ∃W,W=Kx vs (nums rq) (ks.map fin):=⟨_,F⟩
  have Hr:HasL (vs:Int) ks.length W (fun u=>fin (u.foldl tr start)):=by rw[hW];exact Hs gz (by rw[hL];exact hF) (by rw[hL,←Qz];exact hE) (by omega)
  have e1:nums rq=W.next:=by rw[hW];rfl
  have e2:(ks.take s).map fin=W.a7:=by rw[hW,br (by omega)];rfl
  have e3:(vs:Int)=W.vars:=by rw[hW];rfl
  have e4:(0:Int)=W.start:=by rw[hW];rfl
  have e5:s=W.next.length:=by rw[←e1,←qT];omega
  have e6:s=W.a7.length:=by rw[Hr.valid.fin,←e5]
  obtain⟨M,hM⟩: ∃m,jm W=m:=⟨_,F⟩
  have O6:fQ (vs:Int) ks.length M (fun u=>fin (u.foldl tr start)):=hM▸Hr.p9
  obtain⟨z9,Jq⟩: ∃z:DK,z=⟨ob,oc,fb,fc,rq⟩:=⟨_,F⟩
  refine dc (O':=([av ob oc 56 1 (dG rq),av fb fc 4 1 (cI ((ks.take s).map fin)),oI z5 25 [vN vs,(vI 0),(.slice ob s oc),(.slice fb s fc)],oI z2 25 [(vI 0),(vI 0),nS,nS],oI z1 n8 [r0.a,r0.b]]++cg 3 rq)) (wk _ _ _ _ (by exact Sub.d (.d (.k (.k (.k (.k (.k .z)))))))) ?_
  refine dc (O':=(([av ob oc 56 1 (dG rq),av fb fc 4 1 (cI W.a7)]++cg 3 rq)++[oI z5 25 [(vI W.vars),(vI W.start),(.slice ob W.next.length oc),(.slice fb W.a7.length fc)],oI z2 25 [(vI 0),(vI 0),nS,nS],oI z1 n8 [r0.a,r0.b]])) (by rw[←e5,←e6,←e2,←e3,←e4];exact gy [av ob oc 56 1 (dG rq),av fb fc 4 1 (cI ((ks.take s).map fin))] (cg 3 rq) [oI z5 25 [vN vs,(vI 0),(.slice ob s oc),(.slice fb s fc)],oI z2 25 [(vI 0),(vI 0),nS,nS],oI z1 n8 [r0.a,r0.b]]) ?_
  refine tU (φ:=nums rq=W.next) e1 ?_
  refine dc (O':=[dI 56 4 3 W z9,oI z5 25 (dC W z9),oI z2 25 [(vI 0),(vI 0),nS,nS],oI z1 n8 [r0.a,r0.b]]) (by subst Jq;exact Sub.rf) ?_
  refine bg (ai F (ae (eN 1 dj bN) (aq (bm Df (aX fun w1 hI=>(haveI:=ef hI;Dg w1 W z9 (hI.at (k:=z9) (mG 0)) Hr.valid (by have:=Hr.valid.n4;omega) (M:=M) hM)) ?_))))
  rintro vr O' ⟨N,rfl,k9,rfl,rfl⟩
  refine ae (bI (vs:=_)) (ae (bI (vs:=_)) ?_)
  have DG:=fun(w1:World) (hI:Inv w [dI 56 4 3 M k9,dI 56 4 3 W z9,oI z5 25 (dC W z9),oI z2 25 [(vI 0),(vI 0),nS,nS],oI z1 n8 [r0.a,r0.b]] w1)=>(haveI:=ef hI;nN w1 cb eb en ec vs B (hI.sl e7) M k9 0)
  refine eJ F (e8 sT (dK.pure DG) F (fun z _=>⟨F,fun _=>z ⟨F,by have:=O6.len;omega⟩⟩) ?_)
  clear DG
  rintro vr O' ⟨N,rfl,rfl,rfl,_,zT⟩
  refine aq (cq (vs:=(dC M k9)) 3 bN ?_)
  refine ah (aM (aB ?_))
  refine cN (i:=3) hq7 dj F bN F F F ?_
  exact⟨[dI 56 4 3 M k9],(by exact Sub.k .z),M,k9,F,F,⟨O6.toHasL.le zT,O6.min⟩,DH hF (Qz▸hE) Qw⟩
theorem DI:ExP 154:=ExB.1
theorem Ht (w:World) [dA prog w] (lb:Option Addr) (lc:Nat) (l:List Int) (hL:Sl w lb (ints l)) (hn: ∀n∈l,ng n) (hm:13*l.length≤800000):
  cn prog 112 [nS,.slice lb l.length lc] w fun v N=> ∃b' c',v=.slice b' (iU l).length c'∧N=[av b' c' 5 1 (dn (iU l))]:=by
 refine cj.fq 5 1 ?_
 have h:=Sv w none lb 0 0 lc [] l F hL hn (by omega)
 rw[Nat.zero_add,du]at h
 exact h
theorem Mn (base:World) [dA prog base] (a:cV) (ka:DK) (ha:At base a ka) (va:Valid a) (za:Nat) (mM:Sl base (aD za) (dC a ka)) (b:cV) (kb:DK) (hb:At base b kb) (vb:Valid b) (zb:Nat) (zy:Sl base (aD zb) (dC b kb)) (s:Nat) (hs:s<a.next.length) (sb:Option Addr) (c cv:Nat) (l:List Nat) (Lp:l.Pairwise (· < ·)) (Jr: ∀t∈l,t<b.next.length):
  cj prog base 153 [.agg #[vI ((s:Nat):Int),.slice sb l.length cv],(dJ (aD za) 0),(dJ (aD zb) 0)] [av sb c 3 1 (bW l)] (fun v O'=> ∃b' c' c2,v=.agg #[vI ((s:Nat):Int),.slice b' (wl a b s l).length c']∧O'=[av b' c2 3 1 (bW (wl a b s l))]):=by
 refine aE func153 F ntmps153 F ?_
 refine aj (aq (dE (cs:=[vI ((s:Nat):Int),(.slice sb l.length cv)]) (fun z1=>?_)))
 refine aq (bs l_ (fun z2=>?_))
 refine ah (aR (aj (ae (cz dj F dH F F (aK mM) (by show _<4;decide)) (ae (cS eI F F (aK mM) F) (ae (bt ou bF) (ae (bq 1 ey) (ae (dX (i:=s) eI fC F F (aK ha.a7) (by rw[va.fin];exact hs) (by rw[ar,va.fin];exact hs)) (ae (cS BB F F (aK ha.a7) (pC va hs)) (ah (T.cond F (fun hc=>?_) (fun hc=>?_)))))))))))
 ·refine bg ?_
  refine ae (bt ou cZ) (ae (bq 1 cL) (ae (cz dj F bF F F (aK zy) (by show _<4;decide)) (ae (cS ey F F (aK zy) (show _=some (Value.int .i64 ((b.start.toNat:Nat):Int)) by rw[cM vb.s0];rfl)) (aq (bm Mo (nG [2] (Sy base b.next.length sb c cv l b.start.toNat Lp Jr (ei vb.toVal) (by have:=eX (Lp.imp fun h=>Nat.ne_of_lt h) Jr;have:=vb.n4;omega))) ?_)))))
  rintro vr O' ⟨A1,rfl,wb,wc,RX,rfl,rfl⟩
  refine ae (bt ou cZ) (aq (cq (vs:=[(.slice wb ((BK b.next.length l b.start.toNat).length) wc)]) 2 cZ ?_))
  refine ah (aj (ae (eN 2 ou l_) (aq (cq (vs:=[vI ((s:Nat):Int),(.slice wb ((BK b.next.length l b.start.toNat).length) wc)]) 1 l_ ?_))))
  refine ah (aM (aB ?_))
  refine cN (i:=1) results153 ou F l_ F F F ?_
  exact⟨[av wb RX 3 1 (bW (BK b.next.length l b.start.toNat))],(by exact Sub.k .z),wb,wc,RX,by unfold wl;rw[aJ hc];rfl,by unfold wl;rw[aJ hc]⟩
 refine aL (aj (ae (eN 1 ou l_) (aq (cq (vs:=[vI ((s:Nat):Int),(.slice sb l.length cv)]) 0 l_ ?_))))
 refine ah (aM (aB ?_))
 refine cN (i:=0) results153 ou F l_ F F F ?_
 exact⟨[av sb c 3 1 (bW l)],(by exact Sub.d (.d (.k .z))),sb,cv,c,by unfold wl;rw[aA (by rw[hc];simp)];rfl,by unfold wl;rw[aA (by rw[hc];simp)]⟩
theorem QA (w:World) [dA prog w] (s:Nat) (hs:s<4096) (sb:Option Addr) (c:Nat) (l:List Nat) (hS:Sl w sb (bW l)) (hl: ∀t∈l,t<4096) (Jr:l.length≤4096):
  cn prog 155 [.agg #[vI ((s:Nat):Int),.slice sb l.length c]] w fun v N=>v=str (AK (s,l))∧N=[]:=by
 refine aE func155 F ntmps155 F ?_
 let eh:List Value:=[vI ((s:Nat):Int),(.slice sb l.length c)]
 refine aj (aq (dE (cs:=eh) (fun z1=>?_)))
 refine ak F (ah (aR ?_))
 refine fS [(0,0),(1,0),(4,0),(5,0),(2,1),(3,1),(6,2),(7,2),(8,2)] ?_
 refine aw F (bt ou bF) (aw F (bq 0 ey) (aw F (bt ou cZ) (aw F (bq 0 cL) ?_)))
 refine cH F F (cR (v:=vI ((s:Nat):Int)) cL bF F F F (fun z2=>⟨by exact Sub.d (.k .z),?_⟩))
 refine cH F F (bm vi (aX fun w1 hI=>(haveI:=ef hI;Ht w1 (aD z2) 1 [(s:Int)] (hI.gV (mG 0)) (fun n hn=>by simp at hn;subst hn;exact nO (by omega)) (by simp))) ?_)
 rintro vr O' ⟨N,rfl,jb,jc,rfl,rfl⟩
 refine⟨by exact Sub.d (.d (.k .z)),?_⟩
 have qj:=cj.under (A:=[av jb jc 5 1 (dn (iU [(s:Int)]))]) (B:=[av (aD z2) 1 3 1 [vI ((s:Nat):Int)],oI z1 208 eh]) (O:=[av jb jc 5 1 (dn (iU [(s:Int)])),av (aD z2) 1 3 1 [vI ((s:Nat):Int)],oI z1 208 eh]) (show cj _ _ _ _ _ (fun v O'=> ∃b' c',v=.slice b' (AK (s,l)).length c'∧O'=[av b' c' 5 1 (dn (AK (s,l)))])from by
   have h9:=Sv w jb sb jc (iU [(s:Int)]).length c (iU [(s:Int)]) (l.map fun y:Nat=>(y:Int)) F (by rw[gr];exact hS) (fun n hn=>by obtain⟨y,hy,rfl⟩:=List.mem_map.1 hn;exact nO (by have:=hl y hy;omega)) (by rw[ar];have:=pS (l:=[(s:Int)]) (fun n hn=>by simp at hn;subst hn;exact nO (by omega));simp only[bG,dl]at this;omega)
   rw[ar,←aP,←sU]at h9
   exact h9) (by exact Sub.rf)
 refine cy F F (bm vi qj ?_)
 clear qj
 rintro vr O' ⟨A1,rfl,UJ,jc2,rfl,rfl⟩
 refine cy F F (eK F F (CV (l:=AK (s,l)) kC wh gH F (mG 0) F) ?_)
 refine cy F F (eK F F cx ?_)
 refine cA ?_
 refine aM (aB ?_)
 refine aT (str (AK (s,l))) results155 F ?_
 exact⟨[],Sub.z,F,F⟩
theorem Mp (w:World) [dA prog w] (a:cV) (ka:DK) (ha:At w a ka) (va:Valid a) (za:Nat) (mM:Sl w (aD za) (dC a ka)) (b:cV) (kb:DK) (hb:At w b kb) (vb:Valid b) (zb:Nat) (zy:Sl w (aD zb) (dC b kb)) (zU:a.vars=b.vars) (zf:Nat) (Ze:Sl w (aD zf) [(.func (.func 153) #[] #[(dJ (aD za) 0),(dJ (aD zb) 0)])]) (s:Nat) (hs:s<a.next.length) (sb:Option Addr) (c:Nat) (l:List Nat) (hS:Sl w sb (bW l)) (Lp:l.Pairwise (· < ·)) (hl: ∀t∈l,t<b.next.length) (x:Nat) (hx:x<ez a):
  cn prog 156 [.agg #[vI ((s:Nat):Int),.slice sb l.length c],v8 x,(dJ (aD zf) 0),(dJ (aD za) 0),(dJ (aD zb) 0)] w fun v N=> ∃b' c' c2,v=.agg #[vI ((eS a s x:Nat):Int),.slice b' (wl a b (eS a s x) (ga b l x)).length c']∧N=[av b' c2 3 1 (bW (wl a b (eS a s x) (ga b l x)))]:=by
 refine aE func156 F ntmps156 F ?_
 have Py:=ha.rows.1
 obtain⟨v1,c1,g1,s1⟩:=ha.rows.get hs
 have Ma:a.next[s].length=ez a:=va.len _ (aN hs)
 have Ft:x<a.next[s].length:=by rw[Ma];exact hx
 have Xm:x<ez b:=by unfold ez at hx⊢;rw[←zU];exact hx
 have Jr:=eX (Lp.imp fun h=>Nat.ne_of_lt h) hl
 have hb4:=vb.n4
 have O7:=nP b l x
 refine aj (aq (dE (cs:=[vI ((s:Nat):Int),(.slice sb l.length c)]) (fun z1=>?_)))
 refine aq (bs l_ (fun z2=>?_))
 refine ah (aR ?_)
 refine T.ds [oI z2 208 [(vI 0),nS],oI z1 208 [vI ((s:Nat):Int),(.slice sb l.length c)]] [(0,0),(1,0),(2,0),(3,0),(4,0),(5,0),(6,0),(7,0),(8,0),(9,0),(10,0),(11,0),(12,0),(13,0),(14,1),(15,0),(16,2),(17,2)] (by exact Sub.rf) ?_
 refine aw F (cS SC F F (aK Ze) F) (aw F (cz dj F fR F F (aK mM) (by show _<4;decide)) (aw F (cS fp F F (aK mM) F) (aw F (bt ou bF) (aw F (bq 1 ey) (aw F (dX (i:=s) fp cZ F F (aK ha.outer) hs (Py▸hs)) (aw F (cS cL F F (aK ha.outer) g1) (aw F aI ?_)))))))
 refine aw F (dX (i:=x) cL bF F F (aK s1) Ft (by rw[ar];exact Ft)) (aw F (cS ey F F (aK s1) (xC va hs hx)) (aw F (eW (vs:=(dC b kb)) dj F bN F F (bu _) (aK zy) (fun j hj=>by rw[Nat.zero_add];exact ap hj)) (aw F (bt ou cZ) ?_)))
 refine aw F (bq 1 cL) (aw F aI ?_)
 refine cH F F (bm Mq (aX fun w1 hI=>(haveI:=ef hI;Sw w1 b kb (hI.rI hb) vb sb c l (hI.sl hS) hl (by omega) x Xm)) ?_)
 rintro vr O' ⟨N,rfl,tb,tc,rfl,rfl⟩
 refine⟨by exact Sub.d (.k (.k .z)),?_⟩
 refine aw F (cT (cs:=[vI ((eS a s x:Nat):Int),(.slice tb ((ga b l x).length) tc)]) Hu l_ (by kernel_rfl)) ?_
 have yk:=bU (first:=[]) (args:=[.agg #[vI ((eS a s x:Nat):Int),.slice tb (ga b l x).length tc]]) (fG:=[(dJ (aD za) 0),(dJ (aD zb) 0)]) Mr (cj.under (A:=[av tb tc 3 1 (bW (ga b l x))]) (B:=[oI z2 208 [(vI 0),nS],oI z1 208 [vI ((s:Nat):Int),(.slice sb l.length c)]]) (O:=[av tb tc 3 1 (bW (ga b l x)),oI z2 208 [(vI 0),nS],oI z1 208 [vI ((s:Nat):Int),(.slice sb l.length c)]]) (Mn w a ka ha va za mM b kb hb vb zb zy (eS a s x) (va.gT hs hx).1 tb tc tc (ga b l x) O7.1 O7.2) (by exact Sub.rf))
 refine cy F F (eu yk F F ?_)
 clear yk
 rintro vr O' ⟨A1,rfl,eb,ec,ec2,rfl,rfl⟩
 refine cy F F (cq (vs:=[vI ((eS a s x:Nat):Int),(.slice eb ((wl a b (eS a s x) (ga b l x)).length) ec)]) 1 l_ ?_)
 refine cA ?_
 refine aM (aB ?_)
 refine cN (i:=1) results156 ou F l_ F F F ?_
 exact⟨[av eb ec2 3 1 (bW (wl a b (eS a s x) (ga b l x)))],(by exact Sub.k .z),eb,ec,ec2,F,F⟩
theorem QB (w:World) [dA prog w] (b:cV) (kb:DK) (hb:At w b kb) (vb:Valid b) (zb:Nat) (zy:Sl w (aD zb) (dC b kb)) (s:Nat) (sb:Option Addr) (c:Nat) (l:List Nat) (hS:Sl w sb (bW l)) (hl: ∀t∈l,t<b.next.length) (Jr:l.length≤4096):
  cn prog 157 [.agg #[vI ((s:Nat):Int),.slice sb l.length c],(dJ (aD zb) 0)] w fun v N=>v=.bool (UL b (s,l))∧N=[]:=by
 refine aE func157 F ntmps157 F ?_
 refine aj (aq (dE (cs:=[vI ((s:Nat):Int),(.slice sb l.length c)]) (fun z1=>?_)))
 refine ak F (ah (aj ?_))
 refine ae (eW (vs:=(dC b kb)) dj F bN F F (bu _) (aK zy) (fun j hj=>by rw[Nat.zero_add];exact ap hj)) (ae (bt ou cZ) (ae (bq 0 cL) ?_))
 refine aq (bm BO (aX fun w1 hI=>(haveI:=ef hI;xi w1 b kb (hI.rI hb) vb sb c l (hI.sl hS) hl (by omega))) ?_)
 rintro vr O' ⟨N,rfl,rfl,rfl⟩
 refine ak F (ah (aM (aB ?_)))
 refine aT (.bool (l.any (dF b))) results157 F ?_
 exact⟨[],Sub.z,F,F⟩
theorem DT {b:Bool} {i:Int} (h:(b=false∧i= -1)∨ ∃k:Nat,i=(k:Int)∧b=true):decide (i≥0)=b:=by
 rcases h with⟨rfl,rfl⟩|⟨k,rfl,rfl⟩
 ·decide
 ·exact ax (by omega)
theorem DU (base:World) [dA prog base] (b:Option Addr) (c:Nat) (xs:List CR) (hS:Sl base b (dz xs)) (hb:xs.length<4611686018427387904) (fv:Value) (p:CR→Bool) (hy: ∀x∈xs,eH prog base fv [(.agg #[vI x.k,vN x.s,(.slice x.r.b x.r.o.length x.r.c)])] [] (fun v O'=>v=.bool (p x)∧O'=[])):
  cj prog base 167 [.slice b xs.length c,fv] [] (fun v O'=> ∃i:Int,v=vI i∧((xs.any p=false∧i= -1)∨ ∃k:Nat,i=(k:Int)∧xs.any p=true)∧O'=[]):=by
 refine aE func167 F ntmps167 F ?_
 refine aj (ak F (ah (aR (aj (ai F (ae (cQ ow) (ai F (ah (aV ?_)))))))))
 refine ek (fun(k:Nat) ρ O=>O=[]∧k≤xs.length∧(xs.take k).any p=false∧df [(0,(.slice b xs.length c)),(1,fv),(7,vI (xs.length:Int)),(8,vI (k:Int))] ρ) (fun k=>xs.length-k) 0 ?_ ?_
 ·exact⟨F,bl _,F,⟨F,F,F,F,trivial⟩⟩
 rintro k ρ O ⟨rfl,hk,lN,hH⟩
 obtain⟨gA,rfl⟩:=hH.elim
 clear hH
 refine aj (ae cU (ah (aR (aZ F (fun hc=>?_) (fun hc=>?_)))))
 ·have ln:k<xs.length:=by omega
  refine aL (aR (aV (aj (ai F (ak F (ah (aj (ai F (ai F (ai F (ae (eA (i:=k) ow jz F F (aK hS) ln (by rw[pU];omega)) (ae (eW (vs:=[vI xs[k].k,vN (xs[k].s),(.slice xs[k].r.b xs[k].r.o.length xs[k].r.c)]) lW F jz F F (bu _) (aK hS) (sX ln)) ?_))))))))))))
  have o9:=hy xs[k] (aN ln)
  refine aq (eu o9 F F ?_)
  clear o9
  rintro vr O' ⟨rfl,rfl⟩
  refine ah (T.cond F (fun hc=>?_) (fun hc=>?_))
  ·refine aR ?_
   refine bg (ai F (ak F (ah (aM (aB ?_)))))
   refine aT (vI (k:Int)) results167 F ?_
   exact⟨[],Sub.z,k,F,.inr ⟨k,F,Hm ln hc⟩,F⟩
  refine aL (bg (ae (dr (a:=k) (b:=1) F F (by omega)) (ai F (ah ?_))))
  exact⟨k+1,by omega,F,by omega,vg ln lN hc,⟨F,F,F,F,trivial⟩⟩
 have L_: ¬k<xs.length:=by omega
 refine cG ?_
 refine aj (ak F (ah (aM (aB ?_))))
 refine aT (vI (-1)) results167 F ?_
 exact⟨[],Sub.z, -1,F,.inl ⟨by rw[br (by omega)]at lN;exact lN,F⟩,F⟩
theorem q5 (base:World) [dA prog base] (b:Option Addr) (c:Nat) (xs:List CR) (hS:Sl base b (dz xs)) (hb:xs.length<4611686018427387904) (fv:Value) (p:CR→Bool) (hy: ∀x∈xs,eH prog base fv [(.agg #[vI x.k,vN x.s,(.slice x.r.b x.r.o.length x.r.c)])] [] (fun v O'=>v=.bool (p x)∧O'=[])):
  cj prog base 116 [.slice b xs.length c,fv] [] (fun v O'=>v=.bool (xs.any p)∧O'=[]):=by
 refine aE func116 F ntmps116 F ?_
 refine aj (ak F (ah (aj (ai F (ai F ?_)))))
 have Dy:=DU base b c xs hS hb fv p hy
 refine aq (bm U9 Dy ?_)
 clear Dy
 rintro v O' ⟨i,rfl,hi,rfl⟩
 refine ae kV (ak F (ah (aM (aB ?_))))
 refine aT (.bool (decide (i≥0))) results116 F ?_
 exact⟨[],Sub.z,au Value.bool (DT hi),F⟩
theorem BV (base:World) [dA prog base] (b:Option Addr) (c:Nat) (xs:List eC) (hS:Sl base b (bQ xs)) (hb:xs.length<4611686018427387904) (fv:Value) (p:eC→Bool) (hy: ∀x∈xs,eH prog base fv [x.ag] [] (fun v O'=>v=.bool (p x)∧O'=[])):
  cj prog base 100 [.slice b xs.length c,fv] [] (fun v O'=> ∃i:Int,v=vI i∧((xs.any p=false∧i= -1)∨ ∃k:Nat,i=(k:Int)∧xs.any p=true)∧O'=[]):=by
 refine aE func100 F ntmps100 F ?_
 refine aj (ak F (ah (aR (aj (ai F (ae (cQ dR) (ai F (ah (aV ?_)))))))))
 refine ek (fun(k:Nat) ρ O=>O=[]∧k≤xs.length∧(xs.take k).any p=false∧df [(0,(.slice b xs.length c)),(1,fv),(7,vI (xs.length:Int)),(8,vI (k:Int))] ρ) (fun k=>xs.length-k) 0 ?_ ?_
 ·exact⟨F,bl _,F,⟨F,F,F,F,trivial⟩⟩
 rintro k ρ O ⟨rfl,hk,lN,hH⟩
 obtain⟨gA,rfl⟩:=hH.elim
 clear hH
 refine aj (ae cU (ah (aR (aZ F (fun hc=>?_) (fun hc=>?_)))))
 ·have ln:k<xs.length:=by omega
  refine aL (aR (aV (aj (ai F (ak F (ah (aj (ai F (ai F (ai F (ae (eA (i:=k) dR cJ F F (aK hS) ln (by rw[cB];omega)) (ae (eW (vs:=xs[k].cl) dt F cJ F F (bu _) (aK hS) (kP ln)) ?_))))))))))))
  have o9:=hy xs[k] (aN ln)
  refine aq (eu o9 F F ?_)
  clear o9
  rintro vr O' ⟨rfl,rfl⟩
  refine ah (T.cond F (fun hc=>?_) (fun hc=>?_))
  ·refine aR ?_
   refine bg (ai F (ak F (ah (aM (aB ?_)))))
   refine aT (vI (k:Int)) results100 F ?_
   exact⟨[],Sub.z,k,F,.inr ⟨k,F,Hm ln hc⟩,F⟩
  refine aL (bg (ae (dr (a:=k) (b:=1) F F (by omega)) (ai F (ah ?_))))
  exact⟨k+1,by omega,F,by omega,vg ln lN hc,⟨F,F,F,F,trivial⟩⟩
 have L_: ¬k<xs.length:=by omega
 refine cG ?_
 refine aj (ak F (ah (aM (aB ?_))))
 refine aT (vI (-1)) results100 F ?_
 exact⟨[],Sub.z, -1,F,.inl ⟨by rw[br (by omega)]at lN;exact lN,F⟩,F⟩
theorem qd (base:World) [dA prog base] (b:Option Addr) (c:Nat) (xs:List eC) (hS:Sl base b (bQ xs)) (hb:xs.length<4611686018427387904) (fv:Value) (p:eC→Bool) (hy: ∀x∈xs,eH prog base fv [x.ag] [] (fun v O'=>v=.bool (p x)∧O'=[])):
  cj prog base 70 [.slice b xs.length c,fv] [] (fun v O'=>v=.bool (xs.any p)∧O'=[]):=by
 refine aE func70 F ntmps70 F ?_
 refine aj (ak F (ah (aj (ai F (ai F ?_)))))
 have Dy:=BV base b c xs hS hb fv p hy
 refine aq (bm U_ Dy ?_)
 clear Dy
 rintro v O' ⟨i,rfl,hi,rfl⟩
 refine ae kV (ak F (ah (aM (aB ?_))))
 refine aT (.bool (decide (i≥0))) results70 F ?_
 exact⟨[],Sub.z,au Value.bool (DT hi),F⟩
theorem ZD (base:World) [dA prog base] (b lb:Option Addr) (c m lc lv:Nat) (xs:List UInt8) (l:List Int) (hx:xs.length=m) (hn: ∀n∈l,ng n) (hm:m+13*l.length≤800000):
  cj prog base 112 [.slice b m c,.slice lb l.length lv] [av b c 5 1 (dn xs),av lb lc 3 1 (ints l)] (fun v O'=> ∃b' c',v=.slice b' (m+(iU l).length) c'∧O'=[av b' c' 5 1 (dn (xs++iU l)),av lb lc 3 1 (ints l)]):=by
 refine aE func112 F ntmps112 F ?_
 refine aj (ak F (ah (aR (aj (ai F (ae (cQ cL) (ai F (ah (aV ?_)))))))))
 refine dZ (fun(i:Nat) ρ O=> ∃(jb:Option Addr) (jc:Nat),O=[av jb jc 5 1 (dn (xs++iU (l.take i))),av lb lc 3 1 (ints l)]∧i≤l.length∧df [(0,(.slice jb (m+(iU (l.take i)).length) jc)),(1,(.slice lb l.length lv)),(4,nS),(7,(.slice lb l.length lv)),(8,vI (l.length:Int)),(9,vN i)] ρ) (fun i=>l.length-i) 0 ?_ ?_
 ·exact⟨b,c,by simp[iU],bl _,⟨(by show Value.slice b m c=_;simp[iU]),F,F,F,F,F,trivial⟩⟩
 rintro i ρ O ⟨jb,jc,rfl,hi,hH⟩
 obtain⟨gA,rfl⟩:=hH.elim
 clear hH
 have L9:=pS (l:=l.take i) fun n h=>hn n (List.mem_of_mem_take h)
 have gw:=List.length_take_le i l
 refine aj (ae cU (ah (aR (aZ F (fun hc=>?_) (fun hc=>?_)))))
 ·have lC:i<l.length:=by omega
  have hdl:=qS (hn _ (aN lC))
  refine aL (aR (aV (aj (ae (dX (i:=i) cL bF F F (dT (mG 1)) lC (by rw[ar];exact lC)) (ae (cS ey F F (dT (mG 1)) (gL lC)) (ak F (ah (bg (ai F (ai F (aq (bm BI (nG [0] (Y5 base jb jc (m+(iU (l.take i)).length) (xs++iU (l.take i)) l[i] (by simp[hx]) (hn _ (aN lC)) (by omega))) ?_))))))))))))
  rintro vr O' ⟨A1,rfl,b2,c2,rfl,rfl⟩
  refine aq (cR (v:=.int .u8 32) kC eD F F F (fun n5=>?_))
  refine aq (dq 1 kC kC eD F F F F (by simp[hx,Nat.add_assoc]) (by decide) (Src.row (j:=0) F (by simp)) (by simp[fF]) (by have:=qS (hn _ (aN lC));omega) (by decide) (by decide) (fun yf c3=>?_))
  refine ak F (ah (bg (ae (dr (a:=i) (b:=1) F F (by omega)) (ai F (ah ?_)))))
  have e9:=Dx lC
  exact⟨i+1,by omega,[av yf c3 5 1 ((dn (xs++iU (l.take i)++kQ l[i]))++[.int .u8 32]),av lb lc 3 1 (ints l)],(by exact Sub.d (.k (.k .z))),yf,c3,by rw[e9,←a6,←a6,show dn (xs++iU (l.take i)++kQ l[i]++[32])=dn (xs++iU (l.take i)++kQ l[i])++[Value.int .u8 32]from bj],by omega,⟨(au (fun n9=>Value.slice yf n9 c3) (show m+(iU (l.take i)).length+(kQ l[i]).length+1=m+(iU (l.take (i+1))).length by rw[e9];simp only[aP,bG,dl,Nat.add_assoc])),F,F,F,F,F,trivial⟩⟩
 have uo: ¬i<l.length:=by omega
 refine cG ?_
 refine aj (ai F (ak F (ah (aM ?_))))
 refine aT (.slice jb (m+(iU (l.take i)).length) jc) results112 F ?_
 have xf:i=l.length:=by omega
 subst xf
 rw[List.take_length]
 exact⟨jb,jc,F,F⟩
theorem F7 (w:World) [dA prog w] (k:Int) (s:Nat) (r:OB) (hr:Sl w r.b (fM r.o)) (hn: ∀n∈k::(s:Int)::sY r.o,ng n) (hl:r.o.length≤64):
  cn prog 110 [.agg #[vI k,vN s,.slice r.b r.o.length r.c]] w fun v N=>v=str (iU (k::(s:Int)::sY r.o))∧N=[]:=by
 refine aE func110 F ntmps110 F ?_
 refine aj (aq (dE (cs:=[vI k,vN s,(.slice r.b r.o.length r.c)]) (fun z1=>?_)))
 refine ak F (ah (aj (ae (bt lW bF) (ae (bq 0 ey) (ae (bt lW bF) (ae (bq 0 ey) (aq (cK (m:=2) (parts:=[(0,.tmp 7),(1,.tmp 9)]) (cs:=[vI k,vN s]) cL bF (by decide) (by kernel_rfl) F (fun z2=>?_)))))))))
 refine aq (bm vi (aX fun w1 hI=>(haveI:=ef hI;Ht w1 (aD z2) 2 [k,(s:Int)] (hI.gV (mG 0)) (fun n h9=>hn n (by simp only[dm,List.not_mem_nil,or_false]at h9⊢;rcases h9 with h9|h9<;>simp[h9])) (by simp))) ?_)
 rintro vr O' ⟨N,rfl,jb,jc,rfl,rfl⟩
 refine ak F (ah (aR (aj (ae (bt lW BW) (ae (bq 2 jL) (ae (cQ jL) (ai F (ah (aV ?_)))))))))
 refine dZ (fun(i:Nat) ρ O=> ∃(jb:Option Addr) (jc:Nat),O=[av jb jc 5 1 (dn (iU (k::(s:Int)::sY (r.o.take i)))),av (aD z2) 2 3 1 [vI k,vN s],oI z1 169 [vI k,vN s,(.slice r.b r.o.length r.c)]]∧i≤r.o.length∧df [(0,(.agg #[vI k,vN s,(.slice r.b r.o.length r.c)])),(1,(.pointer (aD z1))),(2,(str [])),(3,(.slice jb ((iU (k::(s:Int)::sY (r.o.take i))).length) jc)),(13,(.slice r.b r.o.length r.c)),(14,vI (r.o.length:Int)),(15,vN i)] ρ) (fun i=>r.o.length-i) 0 ?_ ?_
 ·exact⟨jb,jc,F,bl _,(.of F)⟩
 rintro i ρ O ⟨jb,jc,rfl,hi,hH⟩
 obtain⟨gA,rfl⟩:=hH.elim
 clear hH
 have TY: ∀n∈k::(s:Int)::sY (r.o.take i),ng n:=fun n hn9=>hn n (by
  simp only[dm]at hn9⊢
  rcases hn9 with h9|h9|h9
  ·exact .inl h9
  ·exact .inr (.inl h9)
  ·exact .inr (.inr (by obtain⟨p,hp,h8⟩:=List.mem_flatMap.1 h9;exact List.mem_flatMap.2 ⟨p,List.mem_of_mem_take hp,h8⟩)))
 have L9:=pS TY
 have O_:(sY (r.o.take i)).length≤128:=by rw[Hy,cw];omega
 simp only[bG]at L9
 refine aj (ae cU (ah (aR (aZ F (fun hc=>?_) (fun hc=>?_)))))
 ·have DV:i<r.o.length:=by omega
  refine aL (aR (aV (aj (ae (eA (i:=i) jL gO F F (aK hr) DV (by rw[j3];omega)) (ae (eW (vs:=[vN (r.o[i].1),vN (r.o[i].2)]) kD F gO F F (bu _) (aK hr) (nQ DV)) (aq (bs gO (fun z3=>?_))))))))
  refine aq (cq (vs:=[vN (r.o[i].1),vN (r.o[i].2)]) 0 gO ?_)
  refine ah (bg (ai F (ae (jJ (i:=0) kD bF F F (by decide)) (ae (bq 0 ey) (ae (jJ (i:=1) kD bF F F (by decide)) (ae (bq 0 ey) (aq (cK (m:=2) (parts:=[(0,.tmp 21),(1,.tmp 23)]) (cs:=[vN (r.o[i].1),vN (r.o[i].2)]) cL bF (by decide) (by kernel_rfl) F (fun z4=>?_)))))))))
  have qV:=cj.under (A:=[av jb jc 5 1 (dn (iU (k::(s:Int)::sY (r.o.take i)))),av (aD z4) 2 3 1 [vN (r.o[i].1),vN (r.o[i].2)]]) (B:=[oI z3 173 [vN (r.o[i].1),vN (r.o[i].2)],av (aD z2) 2 3 1 [vI k,vN s],oI z1 169 [vI k,vN s,(.slice r.b r.o.length r.c)]]) (O:=[av (aD z4) 2 3 1 [vN (r.o[i].1),vN (r.o[i].2)],oI z3 173 [vN (r.o[i].1),vN (r.o[i].2)],av jb jc 5 1 (dn (iU (k::(s:Int)::sY (r.o.take i)))),av (aD z2) 2 3 1 [vI k,vN s],oI z1 169 [vI k,vN s,(.slice r.b r.o.length r.c)]]) (show cj _ _ _ _ _ (fun v O'=> ∃b' c',v=.slice b' (iU (k::(s:Int)::sY (r.o.take i))++iU [(r.o[i].1:Int),(r.o[i].2:Int)]).length c'∧O'=[av b' c' 5 1 (dn (iU (k::(s:Int)::sY (r.o.take i))++iU [(r.o[i].1:Int),(r.o[i].2:Int)])),av (aD z4) 2 3 1 [vN (r.o[i].1),vN (r.o[i].2)]])from by
    have h9:=ZD w jb (aD z4) jc (iU (k::(s:Int)::sY (r.o.take i))).length 2 2 (iU (k::(s:Int)::sY (r.o.take i))) [(r.o[i].1:Int),(r.o[i].2:Int)] F (fun n h9=>hn n (by
     have h8:n∈sY r.o:=List.mem_flatMap.2 ⟨r.o[i],aN DV,h9⟩
     exact List.mem_cons_of_mem _ (List.mem_cons_of_mem _ h8))) (by simp only[bG,dl];omega)
    rw[aP]
    exact h9) (by exact Sub.dP [av (aD z4) 2 3 1 [vN (r.o[i].1),vN (r.o[i].2)],oI z3 173 [vN (r.o[i].1),vN (r.o[i].2)]] _ (.k (.k (.k (.k .z)))))
  refine aq (bm vi qV ?_)
  clear qV
  rintro vr O' ⟨A1,rfl,UJ,jc2,rfl,rfl⟩
  refine ak F (ah (bg (ae (dr (a:=i) (b:=1) F F (by omega)) (ai F (ah ?_)))))
  have e9:iU (k::(s:Int)::sY (r.o.take (i+1)))=iU (k::(s:Int)::sY (r.o.take i))++iU [(r.o[i].1:Int),(r.o[i].2:Int)]:=by rw[aH DV,MW,←cF,←cF,sU]
  exact⟨i+1,by omega,[av UJ jc2 5 1 (dn (iU (k::(s:Int)::sY (r.o.take i))++iU [(r.o[i].1:Int),(r.o[i].2:Int)])),av (aD z2) 2 3 1 [vI k,vN s],oI z1 169 [vI k,vN s,(.slice r.b r.o.length r.c)]],(by exact Sub.k (.d (.d (.k (.k .z))))),UJ,jc2,by rw[e9],by omega,⟨F,F,F,(au (fun n9:Nat=>Value.slice UJ n9 jc2) (by rw[e9,aP])),F,F,F,trivial⟩⟩
 have ZE: ¬i<r.o.length:=by omega
 refine cG ?_
 refine aj (ai F (ae (CV (l:=iU (k::(s:Int)::sY (r.o.take i))) kC wh gH F (mG 0) F) (ak F (ah (aM (aB ?_))))))
 refine aT (str (iU (k::(s:Int)::sY (r.o.take i)))) results110 F ?_
 have xf:i=r.o.length:=by omega
 subst xf
 rw[List.take_length]
 exact⟨[],Sub.z,F,F⟩
theorem ZF (w:World) [dA prog w] (x y:CR) (zx:Nat) (hzx:Sl w (aD zx) x.cells) (hx:Sl w x.r.b (fM x.r.o)) (Pb: ∀n∈x.cf.nums,ng n) (ZG:x.r.o.length≤64) (hy:Sl w y.r.b (fM y.r.o)) (hny: ∀n∈y.cf.nums,ng n) (hly:y.r.o.length≤64):
  cn prog 166 [.agg y.cells.toArray,(dJ (aD zx) 0)] w fun v N=>v=.bool (decide (y.cf.key=x.cf.key))∧N=[]:=by
 refine aE func166 F ntmps166 F ?_
 refine aj (aq (dE (cs:=[vI y.k,vN y.s,(.slice y.r.b y.r.o.length y.r.c)]) (fun n5=>?_)))
 refine ak F (ah (aR ?_))
 refine fS [(0,0),(2,0),(1,1),(3,2),(4,2),(5,2)] ?_
 refine aw F (eN 0 lW jz) (aw F (eW (vs:=[vI x.k,vN x.s,(.slice x.r.b x.r.o.length x.r.c)]) lW F jz F F (bu _) (aK hzx) (fun j hj=>by rw[Nat.zero_add];exact ap hj)) ?_)
 refine cH F F (bm F8 (aX fun w1 hI=>(haveI:=ef hI;F7 w1 y.k y.s y.r (hI.sl hy) hny hly)) ?_)
 rintro vr O' ⟨N,rfl,rfl,rfl⟩
 refine⟨by exact Sub.rf,?_⟩
 refine cy F F (bm F8 (aX fun w1 hI=>(haveI:=ef hI;F7 w1 x.k x.s x.r (hI.sl hx) Pb ZG)) ?_)
 rintro vr O' ⟨N,rfl,rfl,rfl⟩
 refine cy F F (eK F F (MX F F) ?_)
 refine cy F F (eK F F cx ?_)
 refine cA ?_
 refine aM (aB ?_)
 refine aT (.bool (decide (y.cf.key=x.cf.key))) results166 F ?_
 exact⟨[],Sub.z,F,F⟩
theorem MY {ls:List Lf} {vs:Nat} (hG:iB ls vs) {l:List CR} {x:CR} (hl: ∀y∈l,jt ls y.cf) (hx:jt ls x.cf):(l.any fun y=>decide (y.cf.key=x.cf.key))=decide (x.cf∈l.map CR.cf):=by
 by_cases h:x.cf∈l.map CR.cf
 ·rw[ax h]
  obtain⟨y,hy,e⟩:=List.mem_map.1 h
  exact List.any_eq_true.2 ⟨y,hy,ax (by rw[e])⟩
 ·rw[am h,List.any_eq_false]
  intro y hy h9
  exact h (List.mem_map.2 ⟨y,hy,key_inj hG (hl y hy) hx (of_decide_eq_true h9)⟩)
theorem adb (base:World) [dA prog base] {ls:List Lf} {vs:Nat} (hG:iB ls vs) (ov:Value) (zs:Nat) (bh:Value) (cb:Option Addr) (cc:Nat) (l:List CR) (p:List OB) (x:CR) (hl: ∀y∈l,jt ls y.cf) (hp: ∀y∈l,mA p y.r) (hx:jt ls x.cf) (OZ:mA p x.r) (hK:l.length<1099511627776):
  cj prog base 114 [ov,(.pointer (aD zs)),(.agg #[vI x.k,vN x.s,(.slice x.r.b x.r.o.length x.r.c)])] ([oI zs 122 [bh,(.slice cb l.length cc)],av cb cc 169 3 (dz l)]++gl 173 p) (fun v O'=> ∃vj vk,v=.tuple #[]∧O'=[oI zs 122 [bh,(.slice vj ((zV l x).length) vk)],av vj vk 169 3 (dz (zV l x))]++gl 173 p):=by
 refine aE func114 F ntmps114 F ?_
 refine aj (aq (dE (cs:=[vI x.k,vN x.s,(.slice x.r.b x.r.o.length x.r.c)]) (fun z1=>?_)))
 refine ah (aj (ae (dx) (ak F (ah (aj (ai F (ae a_ (ae (bt my q7) (ae (bq 1 ow) (ai F ?_))))))))))
 have Ds:=fun(w1:World) (hI:Inv base ([oI z1 169 [vI x.k,vN x.s,(.slice x.r.b x.r.o.length x.r.c)],oI zs 122 [bh,(.slice cb l.length cc)],av cb cc 169 3 (dz l)]++(gl 173 p)) w1)=>(haveI:=ef hI;(show cn _ _ _ _ (fun v N=>v=Value.bool (decide (x.cf∈l.map CR.cf))∧N=[])from by
   have h9:=q5 w1 cb cc l (hI.gV (mG 2)) (by omega) ((.func (.func 166) #[] #[(dJ (aD z1) 0)])) (fun y=>decide (y.cf.key=x.cf.key)) (fun y hy=>bU (first:=[]) (args:=[(.agg #[vI y.k,vN y.s,(.slice y.r.b y.r.o.length y.r.c)])]) (fG:=[(dJ (aD z1) 0)]) Va (ZF w1 x y z1 (hI.gS (mG 0)) (mA.sl (T:=173) hI (fun it fO=>ao _ fO) OZ) (hx.num hG) (hx.Vb hG) (mA.sl (T:=173) hI (fun it fO=>ao _ fO) (hp y hy)) ((hl y hy).num hG) ((hl y hy).Vb hG)))
   rw[MY hG hl hx]at h9
   exact h9))
 refine aq (bm MZ (aX Ds) ?_)
 clear Ds
 rintro vr O' ⟨N,rfl,rfl,rfl⟩
 refine ae iV (ah (T.cond F (fun hc=>?_) (fun hc=>?_)))
 ·refine T.ds [oI z1 169 [vI x.k,vN x.s,(.slice x.r.b x.r.o.length x.r.c)],oI zs 122 [bh,(.slice cb l.length cc)]] [(0,0),(1,0),(2,0),(3,0),(4,0),(5,0),(6,1),(7,1),(8,0),(9,0),(10,2)] (by exact Sub.k (.k .z)) ?_
  refine aw F aI (aw F aI (aw F a_ (aw F (bt my q7) (aw F (bq 1 ow) (aw F (eN 0 lW jz) ?_)))))
  refine cH F F (cK (m:=1) (parts:=[(0,_)]) (cs:=[vI x.k,vN x.s,(.slice x.r.b x.r.o.length x.r.c)]) ow jz (by decide) (by kernel_rfl) F (fun z2=>⟨by exact Sub.d (.k (.k .z)),?_⟩))
  refine cH F F (dq 3 ow ow jz F F F F (by rw[pU]) (by decide) (Src.row (j:=0) F (by simp)) (by simp[fF]) (by omega) (by decide) (by decide) (fun z3 oK=>⟨by exact Sub.d (.k (.k .z)),?_⟩))
  refine aw F a_ (aw F (bt my q7) ?_)
  refine cy F F (cq (vs:=[(.slice z3 (l.length+1) oK)]) 2 q7 ?_)
  refine cA ?_
  refine aB ?_
  refine rG.zero results114 ?_
  have e9:zV l x=l++[x]:=aA (by simpa using hc)
  exact⟨[oI zs 122 [bh,(.slice z3 (l.length+1) oK)],av z3 oK 169 3 ((dz l)++[vI x.k,vN x.s,(.slice x.r.b x.r.o.length x.r.c)])]++gl 173 p,(by exact Sub.d (.d (.k (.k .rf)))),z3,oK,F,by rw[e9,DW,aP];rfl⟩
 refine aL (aB ?_)
 refine rG.zero results114 ?_
 have e9:zV l x=l:=aJ (by simpa using hc)
 exact⟨[oI zs 122 [bh,(.slice cb l.length cc)],av cb cc 169 3 (dz l)]++gl 173 p,(by exact Sub.d (.k (.k .rf))),cb,cc,F,by rw[e9]⟩
theorem ZH (w:World) [dA prog w] (a:Int):
  cn prog 240 [vI a] w fun v N=>v=.bool false∧N=[]:=by
 refine aE func240 F ntmps240 F ?_
 refine aj (ak F (ah (aj (ai F (ai F (ae (bL dW (v':=.bool false) (by simp)) (ak F (ah (aM (aB ?_))))))))))
 refine aT (.bool false) results240 F ?_
 exact⟨[],Sub.z,F,F⟩
theorem gtC (w:World) [dA prog w] (a b:Int) (h:b<a):
  cn prog 213 [vI a,vI b] w fun v N=>v=vI 1∧N=[]:=by
 refine aE func213 F ntmps213 F ?_
 refine aj (ak F (ah (aj (ai F (aq (bm M0 (aX fun w1 hI=>(haveI:=ef hI;ZH w1 a)) ?_))))))
 rintro vr O' ⟨N,rfl,rfl,rfl⟩
 refine ak F (ah (aj (ai F (aq (bm M0 (aX fun w1 hI=>(haveI:=ef hI;ZH w1 b)) ?_)))))
 rintro vr O' ⟨N,rfl,rfl,rfl⟩
 refine ak F (ah (aR (aj (ai F (ah (a8 (aL (aR (aj (ai F (ah ?_)))))))))))
 refine a8 (aL (aR (aj (ai F (ai F (ae (aC cU (am (by omega))) (ah (a8 (aL (aR (aj (ai F (ai F (ae (aC ij (ax (by omega))) (ah ?_)))))))))))))))
 refine b_ ?_
 refine aj (ak F (ah (aM (aB ?_))))
 refine aT (vI 1) results213 F ?_
 exact⟨[],Sub.z,F,F⟩
theorem ZI (w:World) [dA prog w] (a1 a2:Int) (ba:Option Addr) (ca:Nat) (ha:Sl w ba [vI a1,vI a2]) (b1 b2:Int) (bb:Option Addr) (cb:Nat) (hb:Sl w bb [vI b1,vI b2]) (h:b1<a1):
  cn prog 165 [.slice ba 2 ca,.slice bb 2 cb] w fun v N=>v=vI 1∧N=[]:=by
 refine aE func165 F ntmps165 F ?_
 refine aj (ak F (ah (aR (aj (ai F (ae (cQ cL) (ai F (ah (aV ?_)))))))))
 refine ek (fun(k:Nat) ρ O=>O=[]∧k=0∧df [(0,(.slice ba 2 ca)),(1,(.slice bb 2 cb)),(9,(.slice ba 2 ca)),(10,vI (2:Int)),(11,vN k)] ρ) (fun k=>2-k) 0 ?_ ?_
 ·exact⟨F,F,(.of F)⟩
 rintro k ρ O ⟨rfl,hk,hH⟩
 obtain⟨gA,rfl⟩:=hH.elim
 clear hH
 refine aj (ae (aC cU (ax (by omega))) (ah (aR ?_)))
 refine b_ ?_
 refine aL (aR (aV (aj (ai F (ae (dX (i:=k) cL bF F F (aK ha) (by omega) (by simp;omega)) (ae (cS ey F F (aK ha) (by rw[hk];rfl)) (ak F (ak F (ah (aR (aj (ai F (ai F (ae (cQ cL) (ae (aC kV (am (by omega))) (ah (a8 (aL (aj ?_)))))))))))))))))))
 refine ai F (ai F (ae (dX (i:=k) cL bF F F (aK hb) (by omega) (by simp;omega)) (ae (cS ey F F (aK hb) (by rw[hk];rfl)) (ak F (ah (aj (ai F (ai F (aq (bm Vc (aX fun w1 hI=>(haveI:=ef hI;gtC w1 a1 b1 h)) ?_))))))))))
 rintro vr O' ⟨N,rfl,rfl,rfl⟩
 refine ak F (ah (aj (ai F (ae (aC dW (ax (by decide))) (ah ?_)))))
 refine b_ ?_
 refine aj (ai F (ak F (ah (aM (aB ?_)))))
 refine aT (vI 1) results165 F ?_
 exact⟨[],Sub.z,F,F⟩
theorem ZJ (w:World) [dA prog w] (p r:Ob) (h:r.1<p.1):
  cn prog 164 [(.agg #[vN p.1,vN p.2]),(.agg #[vN r.1,vN r.2])] w fun v N=>v=vI 1∧N=[]:=by
 refine aE func164 F ntmps164 F ?_
 refine aj (aq (dE (cs:=[vN p.1,vN p.2]) (fun z1=>?_)))
 refine aq (dE (cs:=[vN r.1,vN r.2]) (fun z2=>?_))
 refine ak F (ah (aR ?_))
 refine fS [(0,0),(1,0),(2,2),(3,2)] ?_
 refine aw F (yp kD bF F (by omega)) (aw F (yp kD bF F (by omega)) ?_)
 refine cy F F (bm Vd (aX fun w1 hI=>(haveI:=ef hI;ZI w1 (p.1:Int) (p.2:Int) _ 2 (hI.gS (mG 1)) (r.1:Int) (r.2:Int) _ 2 (hI.gS (mG 0)) (by omega))) ?_)
 rintro vr O' ⟨N,rfl,rfl,rfl⟩
 refine cy F F (eK F F cx ?_)
 refine cA ?_
 refine aM (aB ?_)
 refine aT (vI 1) results164 F ?_
 exact⟨[],Sub.z,F,F⟩
theorem ZK (w:World) [dA prog w] (b:Option Addr) (c:Nat) (o:List Ob) (hS:Sl w b (fM o)) (ha:o.Pairwise fun p q=>p.1<q.1) (hl:o.length≤12):
  cn prog 232 [.slice b o.length c,vI 0,vN o.length,(.func (.func 164) #[] #[])] w fun v N=>v=.tuple #[]∧N=[]:=by
 refine aE func232 F ntmps232 F ?_
 refine aj (ai F (ae (bL (jx F F (by omega)) (v':=vN 1) F) (ak F (ah (aV ?_)))))
 refine ek (fun(i:Nat) ρ O=>O=[]∧1≤i∧df [(0,(.slice b o.length c)),(1,vI 0),(2,vN o.length),(3,(.func (.func 164) #[] #[])),(8,vN i)] ρ) (fun i=>o.length-i) 1 ?_ ?_
 ·exact⟨F,aS _,(.of F)⟩
 rintro i ρ O ⟨rfl,hi,hH⟩
 obtain⟨gA,rfl⟩:=hH.elim
 clear hH
 refine aR (aj (ai F (ai F (ae cU (ah (aZ F (fun hc=>?_) (fun hc=>?_)))))))
 ·have o_:i<o.length:=by omega
  have hio:i<o.length:=by omega
  refine aL (aR (aV (aj (ai F (ak F (ah (aV ?_)))))))
  refine ek (fun(j:Nat) ρ O=>O=[]∧j=i∧df [(0,(.slice b o.length c)),(1,vI 0),(2,vN o.length),(3,(.func (.func 164) #[] #[])),(8,vN i),(9,vN j)] ρ) (fun j=>j) i ?_ ?_
  ·exact⟨F,F,(.of F)⟩
  rintro j ρ O ⟨rfl,Bp,hH⟩
  obtain⟨gA,rfl⟩:=hH.elim
  clear hH
  have hjo:j<o.length:=by omega
  have h01:o[j-1].1<o[j].1:=(List.pairwise_iff_getElem.1 ha) (j-1) j (by omega) (by omega) (by omega)
  refine aR (aR ?_)
  refine fS [(0,0),(1,0),(2,0),(3,0),(4,0),(5,0),(6,0),(7,0),(8,0),(9,0),(10,0),(11,0),(12,0),(13,0),(14,2),(15,2),(16,2)] ?_
  refine aw F aI (aw F aI (aw F (aC ij (ax (by omega))) (aw F aI ?_)))
  refine bn F F F aI ?_
  refine bn F F F aI ?_
  refine bn F F F aI ?_
  refine bn F F F (eA (i:=j) jL gO F F (aK hS) (by omega) (by rw[j3];omega)) ?_
  refine bn F F F (eW (vs:=[vN ((o[j]'(by omega)).1),vN ((o[j]'(by omega)).2)]) kD F gO F F (bu _) (aK hS) (nQ (show j<o.length by omega))) ?_
  refine bn F F F aI ?_
  refine bn F F F aI ?_
  refine bn F F F (bL (fI F F (by omega)) (v':=vN (j-1)) (au (Value.int .i64) (by omega))) ?_
  refine bn F F F (eA (i:=(j-1)) jL gO F F (aK hS) (by omega) (by rw[j3];omega)) ?_
  refine bn F F F (eW (vs:=[vN ((o[j-1]'(by omega)).1),vN ((o[j-1]'(by omega)).2)]) kD F gO F F (bu _) (aK hS) (nQ (show j-1<o.length by omega))) ?_
  have LX:=(cW (base:=w) (O:=[]) fun w1 hI=>haveI:=ef hI;bU (first:=[]) (args:=[(.agg #[vN (o[j].1),vN (o[j].2)]),(.agg #[vN (o[j-1].1),vN (o[j-1].2)])]) (fG:=[]) Ve (ZJ w1 _ _ h01))
  refine pK F F F F (eu LX F F ?_)
  clear LX
  rintro vr O' ⟨N,rfl,rfl,rfl⟩
  refine pK F F F F (eK F F (aC cU (am (by decide))) ?_)
  refine cy F F (eK F F cm ?_)
  refine cA ?_
  refine a8 ?_
  refine cG ?_
  refine bg (ai F (ae (dr (a:=i) (b:=1) F F (by omega)) (ak F (ah ?_))))
  exact⟨i+1,by omega,F,by omega,(.of F)⟩
 have wq: ¬i<o.length:=by omega
 refine cG ?_
 refine aB ?_
 refine rG.zero results232 ?_
 exact⟨[],Sub.z,F,F⟩
theorem ZL (w:World) [dA prog w] (b:Option Addr) (c:Nat) (o:List Ob) (hS:Sl w b (fM o)) (ha:o.Pairwise fun p q=>p.1<q.1) (hl:o.length≤12) (lim:Int):
  cn prog 212 [.slice b o.length c,vI 0,vN o.length,vI lim,(.func (.func 164) #[] #[])] w fun v N=>v=.tuple #[]∧N=[]:=by
 refine aE func212 F ntmps212 F ?_
 refine aj (ak F (ah (aj (ak F (ah (aV ?_))))))
 refine pM 1 (T.round ?_)
 refine aV (aj ?_)
 refine ai F (ai F (ae (bL (fI F F (by omega)) (v':=vN o.length) (au (Value.int .i64) (by omega))) (ak F (ah (aR (aj (ai F (ae (aC GY (ax (by omega))) (ah ?_)))))))))
 refine b_ ?_
 refine aj (ai F (ai F (ai F (ai F (aq (bm Vf (aX fun w1 hI=>(haveI:=ef hI;ZK w1 b c o (hI.sl hS) ha hl)) ?_))))))
 rintro vr O' ⟨N,rfl,rfl,rfl⟩
 refine ah (aM (aB ?_))
 refine rG.zero results212 ?_
 exact⟨[],Sub.z,F,F⟩
theorem M1 (w:World) [dA prog w] (n:Nat) (hn:n<1000):cn prog 159 [.int .u64 (n:Int)] w fun v N=>v=vI (Lib.bitLen n:Int)∧N=[]:=fun w1 M hI=>by
 have h:=Go.Proofs.Any.bits_Len (P:=prog) (ρ:=Tryz.ws) {Tryz.BX with} (n:Int) w1 (by omega) (by omega)
 rw[Int.toNat_natCast]at h
 refine h.mono ?_
 rintro e w' ⟨rfl,rfl⟩
 exact⟨_,_,F,hI,F,F⟩
theorem Vg (w:World) [dA prog w] (b:Option Addr) (c:Nat) (o:List Ob) (hS:Sl w b (fM o)) (ha:o.Pairwise fun p q=>p.1<q.1) (hl:o.length≤12):
  cn prog 163 [.slice b o.length c,(.func (.func 164) #[] #[])] w fun v N=>v=.tuple #[]∧N=[]:=by
 refine aE func163 F ntmps163 F ?_
 refine aj (ai F (ae (cQ jL) (ak F (ah (bg (ai F (ai F (ai F (ae (fU ey Si F (QJ (by omega))) (aq (bm Vh (aX fun w1 hI=>(haveI:=ef hI;M1 w1 o.length (by omega))) ?_)))))))))))
 rintro vr O' ⟨N,rfl,rfl,rfl⟩
 refine ai F (aq (bm Vi (aX fun w1 hI=>(haveI:=ef hI;ZL w1 b c o (hI.sl hS) ha hl (Lib.bitLen o.length:Int))) ?_))
 rintro vr O' ⟨N,rfl,rfl,rfl⟩
 refine ah (aB ?_)
 refine rG.zero results163 ?_
 exact⟨[],Sub.z,F,F⟩
theorem Vj (w:World) [dA prog w] (b:Option Addr) (c:Nat) (o:List Ob) (hS:Sl w b (fM o)) (hl:o.length≤12) (x:Ob) (hx: ∀p∈o,p.1<x.1):
  cn prog 211 [.slice b o.length c,(.agg #[vN x.1,vN x.2])] w fun v N=>v=vI (-1)∧N=[]:=by
 refine aE func211 F ntmps211 F ?_
 refine aj (aq (dE (cs:=[vN x.1,vN x.2]) (fun n5=>?_)))
 refine ak F (ah (aR (aj (ai F (ae (cQ jL) (ai F (ah (aV ?_))))))))
 refine ek (fun(i:Nat) ρ O=>O=[oI n5 173 [vN x.1,vN x.2]]∧i≤o.length∧df [(0,(.slice b o.length c)),(1,(.agg #[vN x.1,vN x.2])),(3,(.pointer (aD n5))),(7,vI (o.length:Int)),(8,vN i)] ρ) (fun i=>o.length-i) 0 ?_ ?_
 ·exact⟨F,bl _,(.of F)⟩
 rintro i ρ O ⟨rfl,hi,hH⟩
 obtain⟨gA,rfl⟩:=hH.elim
 clear hH
 refine aj (ae cU (ah (aR (aZ F (fun hc=>?_) (fun hc=>?_)))))
 ·have ln:i<o.length:=by omega
  have hio:i<o.length:=by omega
  have pL:=hx _ (aN hio)
  refine aL (aR (aV (aj (ai F (ak F (ah (aR ?_)))))))
  refine fS [(0,0),(1,0),(2,0),(3,0),(4,0),(5,0)] ?_
  refine aw F (eN 0 kD gO) (aw F aI (aw F aI (aw F (eA (i:=i) jL gO F F (aK hS) hio (by rw[j3];omega)) (aw F (eW (vs:=[vN (o[i].1),vN (o[i].2)]) kD F gO F F (bu _) (aK hS) (nQ hio)) (aw F (bL (JA kD ey bF (by kernel_rfl) F F) (v':=.bool false) (au Value.bool (am (by omega)))) ?_)))))
  refine cA ?_
  refine a8 (aL (bg (ae (dr (a:=i) (b:=1) F F (by omega)) (ai F (ah ?_)))))
  exact⟨i+1,by omega,F,by omega,(.of F)⟩
 have L_: ¬i<o.length:=by omega
 refine cG ?_
 refine aj (ak F (ah (aM (aB ?_))))
 refine aT (vI (-1)) results211 F ?_
 exact⟨[],Sub.z,F,F⟩
theorem JB (w:World) [dA prog w] (b:Option Addr) (c:Nat) (o:List Ob) (hS:Sl w b (fM o)) (hl:o.length≤12) (x:Ob) (hx: ∀p∈o,p.1<x.1):
  cn prog 161 [.slice b o.length c,(.agg #[vN x.1,vN x.2])] w fun v N=>v=.bool false∧N=[]:=by
 refine aE func161 F ntmps161 F ?_
 refine aj (aq (dE (cs:=[vN x.1,vN x.2]) (fun n5=>?_)))
 refine ak F (ah (aj (ai F (ae (eN 0 kD gO) (aq (bm Vk (aX fun w1 hI=>(haveI:=ef hI;Vj w1 b c o (hI.sl hS) hl x hx)) ?_))))))
 rintro vr O' ⟨N,rfl,rfl,rfl⟩
 refine ae (bL kV (v':=.bool false) F) (ak F (ah (aM (aB ?_))))
 refine aT (.bool false) results161 F ?_
 exact⟨[],Sub.z,F,F⟩
theorem F9 (o:List Ob):((fM o).all fF)=true:=by
 rw[fJ]
 intro v hv
 obtain⟨p,_,hv⟩:=List.mem_flatMap.1 hv
 simp only[dm,List.not_mem_nil,or_false]at hv
 rcases hv with rfl|rfl<;>rfl
theorem JC (w:World) [dA prog w] (c:Nat):
  cn prog 162 [.slice none 0 c] w fun v N=> ∃b' c',v=.slice b' 0 c'∧N=[av b' c' 173 2 []]:=by
 refine aE func162 F ntmps162 F ?_
 refine aj (ak F (ah (aR (aj (ai F (ae (CW jL F F) (ah ?_)))))))
 refine b_ ?_
 refine aR (T.fq 173 2 ?_)
 refine bg (ak F (ah (aM ?_)))
 refine aT nS results162 F ?_
 exact⟨_,_,F,F⟩
theorem F_ (w:World) [dA prog w] (a:Addr) (c:Nat) (o:List Ob) (h1:Sl w (some a) (fM o)) (hb:o.length≤12):
  cn prog 162 [.slice (some a) o.length c] w fun v N=> ∃b' c',v=.slice b' o.length c'∧N=[av b' c' 173 2 (fM o)]:=by
 refine aE func162 F ntmps162 F ?_
 refine aj (ak F (ah (aR (aj (ai F (ae (CW jL F F) (ah (a8 (aL (aj (aq (cK (m:=0) (parts:=[]) (cs:=[]) jL gO (by decide) (by simp[Instr.fill]) F (fun b1=>?_)))))))))))))
 refine ai F (aq (dq 0 jL jL gO F F F F (by simp) (by decide) (Src.sl h1 (by rw[j3])) (F9 o) (by omega) (by decide) (by decide) (fun n5 c2=>?_)))
 refine ak F (ah (aM ?_))
 refine aT (.slice n5 (0+o.length) c2) results162 F ?_
 exact⟨_,_,by rw[Nat.zero_add],F⟩
theorem M2 (w:World) [dA prog w] (b:Option Addr) (c:Nat) (o:List Ob) (h1:Sl w b (fM o)) (hb:o.length≤12):
  cn prog 162 [.slice b o.length c] w fun v N=> ∃b' c',v=.slice b' o.length c'∧N=[av b' c' 173 2 (fM o)]:=by
 cases b with
 |none=>
  have hx:o=[]:=by
   cases o with
   |nil=>rfl
   |cons x xs=>obtain⟨_,_,e⟩:=h1.addr (i:=0) (by simp[fM]);cases e
  subst hx
  exact JC w c
 |some a=>exact F_ w a c o h1 hb
theorem q8 {ls:List Lf} {ks:List LK} {k:Nat} (hk:ks.length=ls.length) (h:k<ls.length) (j:Nat) {v:Value} (hv:(k_ (lf ls k) (lk ks k))[j]? =some v) {n:Nat} (hn:n=k*7+j):(dp ls ks)[n]? =some v:=by
 obtain⟨hj,rfl⟩:=List.getElem?_eq_some_iff.1 hv
 subst hn
 exact yr hk h j hj
theorem ZM (w:World) [dA prog w] (ob:Nat) (lb:Option Addr) (lc:Nat) (cv fv:Value) (ls:List Lf) (ks:List LK) (ho:lF w ob lb lc cv fv ls ks) (vs:Nat) (hG:iB ls vs) (r:OB) (hr:Sl w r.b (fM r.o)) (x:Ob) (m:Nat) (FP:gd ls m r.o) (hm:m≤x.1) (hk:x.1<ls.length) (hs:x.2<(lf ls x.1).d.next.length):
  cn prog 113 [(dJ (aD ob) 0),.slice r.b r.o.length r.c,(.agg #[vN x.1,vN x.2])] w fun v N=> ∃pl r2,v=OB.val r2∧N=gl 173 pl∧r2.o=nR ls r.o x∧((pl=[]∧r2=r)∨pl=[r2]):=by
 refine aE func113 F ntmps113 F ?_
 have hv:=hG.kp hk
 have ig:=hG.len
 have O_:=FP.len
 refine aj (aq (dE (cs:=[vN x.1,vN x.2]) (fun z1=>?_)))
 refine ak F (ah (aR (aR ?_)))
 refine fS [(0,0),(1,0),(2,0),(3,0),(4,0),(5,0),(6,0),(7,0),(8,0),(9,0),(10,0),(11,0),(12,0),(13,0),(14,0),(15,0),(16,0),(17,2),(18,2)] ?_
 refine aw F aI (aw F a_ (aw F (cz gC F gE F F (aK ho.bx) (by first|omega|(simp;done)|(simp;omega)|(simp_all;done)|(simp_all;omega))) (aw F (cS fH F F (aK ho.bx) F) (aw F (jJ (i:=0) kD bF F F (by decide)) (aw F (bq 0 ey) (aw F (eA (i:=x.1) fH fj F F (aK ho.rw) hk (by rw[eg ho.kl];omega)) (aw F (cz iK F bN F F (aK ho.rw) (by rw[eg ho.kl];omega)) (aw F (cz dj F dH F F (aK ho.rw) (by rw[eg ho.kl];show x.1*7+1<_;omega)) (aw F (cS eI F F (aK ho.rw) (q8 ho.kl hk 4 F F)) (aw F (jJ (i:=1) kD bF F F (by decide)) (aw F (bq 0 ey) (aw F (dX (i:=x.2) eI fC F F (aK (ho.dk _ hk).a7) (by rw[hv.fin];exact hs) (by rw[ar,hv.fin];exact hs)) (aw F (cS BB F F (aK (ho.dk _ hk).a7) (pC hv hs)) ?_)))))))))))))
 by_cases oJ:dF (lf ls x.1).d x.2=true
 ·refine aw F (aC aI (oJ)) ?_
  refine bH F F F (bH F F F ?_)
  refine tR (by decide) F F F F F ?_
  refine cy F F (eK F F cm ?_)
  refine cA ?_
  refine b_ ?_
  refine aj (ai F (ak F (ah (aM (aB ?_)))))
  refine aT (.slice r.b r.o.length r.c) results113 F ?_
  have e9:nR ls r.o x=r.o:=aJ oJ
  exact⟨[],Sub.z,[],r,by first|rfl|(rw[e9];rfl),F,e9.symm,.inl ⟨F,F⟩⟩
 refine aw F (aC aI (Bool.eq_false_iff.2 oJ)) ?_
 refine bn F F F aI ?_
 refine bn F F F (eN 0 kD gO) ?_
 have qV:=fun(w1:World) (hI:Inv w [oI z1 173 [vN x.1,vN x.2]] w1)=>(haveI:=ef hI;JB w1 r.b r.c r.o (hI.sl hr) (by omega) x (fun p hp=>eG (FP.2 p hp).1 hm))
 refine pK F F F F (bm Vl (aX qV) ?_)
 clear qV
 rintro vr O' ⟨N,rfl,rfl,rfl⟩
 refine cy F F (eK F F bX ?_)
 refine cA ?_
 refine a8 (aL ?_)
 refine fg (fun ρ O=> ∃(ab:Option Addr) (ac zb:Nat),O=[av ab ac 173 2 ((fM r.o)++[vN x.1,vN x.2]),av (aD zb) 1 173 2 [vN x.1,vN x.2],oI z1 173 [vN x.1,vN x.2]]∧df [(0,(dJ (aD ob) 0)),(1,(.slice r.b r.o.length r.c)),(2,(.agg #[vN x.1,vN x.2])),(5,(.pointer (aD z1))),(6,nS),(7,(.slice ab (r.o.length+1) ac))] ρ) ?_ ?_
 ·refine oP [oI z1 173 [vN x.1,vN x.2]] 6 mixed F (by exact Sub.rf) (fun _ _ _ _ h=>h) ?_
  refine cE 0 F (by kernel_rfl) aI ?_
  refine cE 2 F (by kernel_rfl) (eN 0 kD gO) ?_
  have uf:=fun(w1:World) (hI:Inv w [oI z1 173 [vN x.1,vN x.2]] w1)=>(haveI:=ef hI;M2 w1 r.b r.c r.o (hI.sl hr) (by omega))
  refine bf [1,3] (by kernel_rfl) F ⟨⟨_,F,F,bm M3 (aX uf) ?_⟩,⟨_,F,F,cK (m:=1) (parts:=[(0,_)]) (cs:=[vN x.1,vN x.2]) jL gO (by decide) (by kernel_rfl) F (fun zb=>⟨by exact Sub.d (.k .z),?_⟩)⟩,trivial⟩
  ·clear uf
   rintro vr O' ⟨N,rfl,nb,nc,rfl,rfl⟩
   refine⟨by exact Sub.d (.k .z),?_⟩
   refine bf [3] (by kernel_rfl) F ⟨⟨_,F,F,cK (m:=1) (parts:=[(0,_)]) (cs:=[vN x.1,vN x.2]) jL gO (by decide) (by kernel_rfl) F (fun zb=>⟨by exact Sub.d (.d (.k .z)),?_⟩)⟩,trivial⟩
   refine bf [4] (by kernel_rfl) F ⟨⟨_,F,F,dq 1 jL jL gO F F F F (by rw[j3]) (by decide) (Src.row (j:=0) F (by simp)) (by simp[fF]) (by omega) (by decide) (by decide) (fun ab ac=>⟨by exact Sub.d (.d (.k .z)),?_⟩)⟩,trivial⟩
   refine cE 5 F (by kernel_rfl) cx ?_
   exact dD (by kernel_rfl) ⟨ab,ac,zb,F,(.of F)⟩ (by exact Sub.dP [av (aD zb) 1 173 2 [vN x.1,vN x.2]] _ (.k (.k .z)))
  have uf:=fun(w1:World) (hI:Inv w [av (aD zb) 1 173 2 [vN x.1,vN x.2],oI z1 173 [vN x.1,vN x.2]] w1)=>(haveI:=ef hI;M2 w1 r.b r.c r.o (hI.sl hr) (by omega))
  refine bf [1] (by kernel_rfl) F ⟨⟨_,F,F,bm M3 (aX uf) ?_⟩,trivial⟩
  clear uf
  rintro vr O' ⟨N,rfl,nb,nc,rfl,rfl⟩
  refine⟨by exact Sub.d (.d (.k .z)),?_⟩
  refine bf [4] (by kernel_rfl) F ⟨⟨_,F,F,dq 0 jL jL gO F F F F (by rw[j3]) (by decide) (Src.row (j:=1) F (by simp)) (by simp[fF]) (by omega) (by decide) (by decide) (fun ab ac=>⟨by exact Sub.d (.d (.k .z)),?_⟩)⟩,trivial⟩
  refine cE 5 F (by kernel_rfl) cx ?_
  exact dD (by kernel_rfl) ⟨ab,ac,zb,F,(.of F)⟩ (by exact Sub.rf)
 rintro ρ O ⟨ab,ac,zb,rfl,hH⟩
 obtain⟨gA,rfl⟩:=hH.elim
 clear hH
 refine aj (ai F ?_)
 have LJ:=fun(w1:World) (hI:Inv w [av ab ac 173 2 ((fM r.o)++[vN x.1,vN x.2]),av (aD zb) 1 173 2 [vN x.1,vN x.2],oI z1 173 [vN x.1,vN x.2]] w1)=>(haveI:=ef hI;(show cn _ _ _ _ (fun v N=>v=Value.tuple #[]∧N=[])from by
   have h9:=Vg w1 ab ac (r.o++[x]) (by rw[wu];exact hI.gV (mG 0)) (List.pairwise_append.2 ⟨FP.1,List.pairwise_singleton _ _,fun p hp q hq=>by rw[List.mem_singleton.1 hq];exact eG (FP.2 p hp).1 hm⟩) (by rw[aP];simp;omega)
   rw[aP]at h9
   exact h9))
 refine aq (bm Vm (aX LJ) ?_)
 clear LJ
 rintro vr O' ⟨N,rfl,rfl,rfl⟩
 refine ah (aj (ai F (ak F (ah (aM (aB ?_))))))
 refine aT (.slice ab (r.o.length+1) ac) results113 F ?_
 have e9:nR ls r.o x=r.o++[x]:=aA oJ
 exact⟨[av ab ac 173 2 ((fM r.o)++[vN x.1,vN x.2])],(by exact Sub.k .z),[⟨ab,ac,r.o++[x]⟩],⟨ab,ac,r.o++[x]⟩,by show _=Value.slice _ (r.o++[x]).length _;rw[aP];rfl,by show[_]=[av _ _ _ _ (fM (r.o++[x]))];rw[wu],e9.symm,.inr F⟩
end Go.Proofs.YtgdbfideeeegmaaGreatDoor

