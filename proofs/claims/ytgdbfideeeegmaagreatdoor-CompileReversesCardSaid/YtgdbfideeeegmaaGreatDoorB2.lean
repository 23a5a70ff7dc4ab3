/- Contracts of functions of the program, and what they answer. Conditions: those each theorem names. -/
import Derived.Test.YtgdbfideeeegmaaGreatDoorA2
import Derived.Test.YtgdbfideeeegmaaGreatDoorA5
import Derived.Test.YtgdbfideeeegmaaGreatDoorA6
import Derived.Test.YtgdbfideeeegmaaGreatDoorB1
import Derived.Test.YtgdbfideeeegmaaGreatDoorA8
import Derived.Test.YtgdbfideeeegmaaGreatDoorA7
import Derived.Test.YtgdbfideeeegmaaGreatDoorA4
import Derived.RecoverIn
import Derived.RangeFuncLeaves
import Derived.Test.YtgdbfideeeegmaaGreatDoorA9
import Derived.Test.YtgdbfideeeegmaaGreatDoorB0
import Derived.Test.YtgdbfideeeegmaaGreatDoorA0
set_option linter.unusedSectionVars false
set_option linter.unusedSimpArgs false
set_option linter.unusedVariables false
set_option linter.unnecessarySimpa false
set_option maxHeartbeats 8000000
set_option maxRecDepth 20000
namespace Go.Proofs.YtgdbfideeeegmaaGreatDoor
open Go.Lx Go.RowKit _root_.Go.Proofs.Tryz
def nr (w:World) (cb:Nat) (vs B ob:Nat) (fv:Value) (t:Rx) (i:Nat):Prop:= ∀(lb:Option Addr) (lc:Nat) (ls:List Lf) (ks:List LK),ks.length=ls.length→ls.length+t.lv≤64→sw ls t→
 dB Tryz.prog w (.iface 163 (.agg #[])) 73 [(.pointer (aD ob)),vN i] ([dF ob (.cells (List.toArray [(dW (aD cb) 0),(.slice lb ls.length lc),fv]) 114 (0,0)),aq lb lc 118 7 (dj ls ks)]++(cd 3 (eU ls ks)++gJ 56 4 3 ls ks)) (fun v O'=> ∃ua ub pS oT oU yp yr,v=.tuple #[(.slice oT (((aR vs t ls).fi).length) oU),(.slice yp (((aR vs t ls).la).length) yr)]∧O'=[dF ob (.cells (List.toArray [(dW (aD cb) 0),(.slice ua (((aR vs t ls).ls).length) ub),fv]) 114 (0,0)),aq ua ub 118 7 (dj ((aR vs t ls).ls) pS),aq oT oU 3 1 (bS ((aR vs t ls).fi)),aq yp yr 3 1 (bS ((aR vs t ls).la))]++(cd 3 (eU ((aR vs t ls).ls) pS)++gJ 56 4 3 ((aR vs t ls).ls) pS)∧pS.length=(aR vs t ls).ls.length∧okB vs t B) (¬okB vs t B)
theorem nr.frame {w:World} {cb vs B0 ob:Nat} {fv:Value} {t:Rx} {i:Nat} (h:nr w cb vs B0 ob fv t i) (B:List Lx.Item) {O:List Lx.Item} (lb:Option Addr) (lc:Nat) (ls:List Lf) (ks:List LK) (hk:ks.length=ls.length) (hl:ls.length+t.lv≤64) (IS:sw ls t) (hs:Sub ([dF ob (.cells (List.toArray [(dW (aD cb) 0),(.slice lb ls.length lc),fv]) 114 (0,0)),aq lb lc 118 7 (dj ls ks)]++B) O):
  dB Tryz.prog w (.iface 163 (.agg #[])) 73 [(.pointer (aD ob)),vN i] (O++(cd 3 (eU ls ks)++gJ 56 4 3 ls ks)) (fun v O'=> ∃ua ub pS oT oU yp yr,v=.tuple #[(.slice oT (((aR vs t ls).fi).length) oU),(.slice yp (((aR vs t ls).la).length) yr)]∧O'=([dF ob (.cells (List.toArray [(dW (aD cb) 0),(.slice ua (((aR vs t ls).ls).length) ub),fv]) 114 (0,0)),aq ua ub 118 7 (dj ((aR vs t ls).ls) pS),aq oT oU 3 1 (bS ((aR vs t ls).fi)),aq yp yr 3 1 (bS ((aR vs t ls).la))]++B)++(cd 3 (eU ((aR vs t ls).ls) pS)++gJ 56 4 3 ((aR vs t ls).ls) pS)∧pS.length=(aR vs t ls).ls.length∧okB vs t B0) (¬okB vs t B0):=by
 refine((h lb lc ls ks hk hl IS).under (B:=B) (qK _ _ _ _ hs)).post ?_
 rintro v O' ⟨A',rfl,ua,ub,pS,oT,oU,yp,yr,rfl,rfl,h1⟩
 exact⟨_,qL _ _ _,ua,ub,pS,oT,oU,yp,yr,F,F,h1⟩
theorem mS (w:World) [dE Tryz.prog w] (cb:Nat) (eb:Option Addr) (en ec vs B:Nat) (eV:Sl w (aD cb) [.slice eb en ec,vI (vs:Int),vI (B:Int)]) (gv:vs≤6) (iR:1≤B) (hB:B≤4096) (e:List dK) (hE:Sl w eb (bt e)) (j6:en=e.length) (i:Nat) (ob:Nat) (fv:Value) (t:Rx) (x:dK) (hp:e[i]? =some x) (h4:x.op≠4) (h5:x.op≠5) (h9:x.op≠9) (EO:x.op≠10) (IV:t.lv=1) (W3: ∀ls,aR vs t ls=⟨ls++[⟨0,minOf vs (gB t),[],false⟩],[ls.length],[ls.length]⟩) (W4:okB vs t B=kQ vs t B) (W5: ∀(w1:World) [dE Tryz.prog w1],Inv w [] w1→dB Tryz.prog w1 (.iface 163 (.agg #[])) 72 [(dW (aD cb) 0),vN i] [] (sN vs B t) (¬kQ vs t B)) (lb:Option Addr) (lc:Nat) (ls:List Lf) (ks:List LK) (nE:ks.length=ls.length) (hl:ls.length+t.lv≤64) (IS:sw ls t):
  dB Tryz.prog w (.iface 163 (.agg #[])) 73 [(.pointer (aD ob)),vN i] ([oI ob 114 [(dW (aD cb) 0),(.slice lb ls.length lc),fv],aq lb lc 118 7 (dj ls ks)]++(cd 3 (eU ls ks)++gJ 56 4 3 ls ks)) (fun v O'=> ∃ua ub pS oT oU yp yr,v=.tuple #[(.slice oT (((aR vs t ls).fi).length) oU),(.slice yp (((aR vs t ls).la).length) yr)]∧O'=[oI ob 114 [(dW (aD cb) 0),(.slice ua (((aR vs t ls).ls).length) ub),fv],aq ua ub 118 7 (dj ((aR vs t ls).ls) pS),aq oT oU 3 1 (bS ((aR vs t ls).fi)),aq yp yr 3 1 (bS ((aR vs t ls).la))]++(cd 3 (eU ((aR vs t ls).ls) pS)++gJ 56 4 3 ((aR vs t ls).ls) pS)∧pS.length=(aR vs t ls).ls.length∧okB vs t B) (¬okB vs t B):=by
 refine dM func73 F ntmps73 F ?_
 obtain⟨hi,_⟩:=iK hp
 simp only[W3]
 rw[W4]
 refine ai (aj F (aj F (ae (ai (ah F (ad (a8 F) (ad (a_ gA F oK F F) (ad (bi 0 vQ F F F F) (ad (a8 F) (ad (cy lx F fT F F (aL eV) (by first|omega|(simp;done)|(simp;omega)|(simp_all;done)|(simp_all;omega))) (ad (de cX F F (aL eV) F) (ah F (ad (dT (i:=i) cX cm F F (aL hE) (by omega) (by rw[bY];omega)) (ad (eO (vs:=x.cl) bU F cm F F (br _) (aL hE) (fy hp)) (ao F (bs cm F (fun z1=>?_)))))))))))))))))
 refine ao F (bN (vs:=x.cl) 0 cm F F F F ?_)
 refine ae (aM (ai (ad (a_ bU F du F F) (ad (bi 0 fA F F F F) (ae (aU (ai (ad (bJ F F) (ad (aB (cx F) (ak (by omega))) (ae (a6 F (ai (ad (bJ F F) (ad (aB (cx F) (ak (by omega))) ?_))))))))))))))
 refine ae (a6 F (ai (ad (bJ F F) (ad (aB (cx F) (ak (by omega))) (ae (a6 F (ai (ad (bJ F F) (ad (aB (cx F) (ak (by omega))) ?_)))))))))
 refine ae (a6 F ?_)
 refine T.ds [oI z1 72 x.cl,oI ob 114 [(dW (aD cb) 0),(.slice lb ls.length lc),fv]] [(0,0),(1,0),(2,0),(3,0),(4,0),(5,0),(6,0),(7,0),(8,0),(9,0),(10,1),(11,0),(12,1),(13,1),(14,0),(15,0),(16,2)] (by exact Sub.k (.k .z)) ?_
 refine au F (aN F) (au F (aN F) (au F (a8 F) (au F (a_ gA F gD F F) (au F (bi 1 fB F F F F) (au F (aN F) (au F (a8 F) (au F (a_ gA F oK F F) (au F (bi 1 vQ F F F F) (au F (aN F) ?_)))))))))
 have oE:=fun(w1:World) (hI:Inv w ([oI z1 72 x.cl,oI ob 114 [(dW (aD cb) 0),(.slice lb ls.length lc),fv],aq lb lc 118 7 (dj ls ks)]++(cd 3 (eU ls ks)++gJ 56 4 3 ls ks)) w1)=>(haveI:=et hI;W5 w1 hI.nD)
 refine io F F (eW pL (dB.pure oE) F (fun z _=>⟨F,z⟩) ?_)
 clear oE
 rintro vr O' ⟨N,rfl,M,kM,rfl,rfl,hM,hO⟩
 refine⟨by exact Sub.d (.k (.k .z)),?_⟩
 have eM:=gX hM hB
 refine au F (cE (cs:=[(.int .u8 0),(vI M.vars),(vI M.start),(.slice kM.nb M.next.length kM.nc),(.slice kM.fb M.aY.length kM.fc),nS,(.bool false)]) A2 fe (by kernel_rfl)) ?_
 refine cr F F (cz (m:=1) (parts:=[(0,_)]) (cs:=[(.int .u8 0),(vI M.vars),(vI M.start),(.slice kM.nb M.next.length kM.nc),(.slice kM.fb M.aY.length kM.fc),nS,(.bool false)]) fB fe (by decide) (by kernel_rfl) F (fun z2=>⟨by exact Sub.d (.d (.k (.k .z))),?_⟩))
 refine cr F F (cW 4 fB fB fe F F F F (by rw[dS nE]) (by decide) (Src.row (j:=0) F (by simp)) (by simp[fa]) (by omega) (by decide) (by decide) (fun z3 kH=>⟨by exact Sub.d (.d (.k (.k .z))),?_⟩))
 refine au F (a8 F) (au F (a_ gA F gD F F) ?_)
 refine b_ F F (bN (vs:=[(.slice z3 (ls.length+1) kH)]) 3 gD F F F F ?_)
 refine cw ?_
 refine ai (ah F (ad (a8 F) (ad (a_ gA F gD F F) (ad (bi 3 fB F F F F) (ad (cQ fB F) (ad (bK (fH F F (by omega)) (v':=vN ls.length) (ax (Value.int .i64) (by omega))) (aj F (ae (aM (T.eX 3 1 ?_))))))))))
 refine a7 (ah F (ao F (cN (v:=vN ls.length) cL bj F F F (fun z5=>?_))))
 refine ah F (ao F (cN (v:=vN ls.length) cL bj F F F (fun z6=>?_)))
 refine aj F (aj F (ae (aK (aA ?_))))
 refine dl (.slice (aD z5) 1 1) (.slice (aD z6) 1 1) Tryz.results73 F F ?_
 exact⟨[oI ob 114 [(dW (aD cb) 0),(.slice z3 ((ls++[(⟨0,minOf vs (gB t),[],false⟩:Lf)]).length) kH),fv],aq z3 kH 118 7 (dj (ls++[(⟨0,minOf vs (gB t),[],false⟩:Lf)]) (ks++[(⟨kM,none,0⟩:LK)])),aq (aD z5) 1 3 1 (bS [ls.length]),aq (aD z6) 1 3 1 (bS [ls.length])]++(cd 3 (eU (ls++[(⟨0,minOf vs (gB t),[],false⟩:Lf)]) (ks++[(⟨kM,none,0⟩:LK)]))++gJ 56 4 3 (ls++[(⟨0,minOf vs (gB t),[],false⟩:Lf)]) (ks++[(⟨kM,none,0⟩:LK)])),by
   rw[sx nE,sy,uE nE,qO nE,aw,←eM]
   exact qP [oI ob 114 [(dW (aD cb) 0),(.slice z3 (ls.length+1) kH),fv],aq z3 kH 118 7 ((dj ls ks)++[(.int .u8 0),(vI M.vars),(vI M.start),(.slice kM.nb M.next.length kM.nc),(.slice kM.fb M.aY.length kM.fc),nS,(.bool false)]),aq (aD z5) 1 3 1 [vN ls.length],aq (aD z6) 1 3 1 [vN ls.length]] [aq (aD z6) 1 3 1 [vN ls.length],aq (aD z5) 1 3 1 [vN ls.length],aq none 0 3 1 [],aq (aD z2) 1 118 7 [(.int .u8 0),(vI M.vars),(vI M.start),(.slice kM.nb M.next.length kM.nc),(.slice kM.fb M.aY.length kM.fc),nS,(.bool false)],dI 56 4 3 M kM,oI z1 72 x.cl,oI ob 114 [(dW (aD cb) 0),(.slice z3 (ls.length+1) kH),fv],aq z3 kH 118 7 ((dj ls ks)++[(.int .u8 0),(vI M.vars),(vI M.start),(.slice kM.nb M.next.length kM.nc),(.slice kM.fb M.aY.length kM.fc),nS,(.bool false)])] _ _ _ _ (by exact Sub.ew [aq (aD z6) 1 3 1 [vN ls.length],aq (aD z5) 1 3 1 [vN ls.length],aq none 0 3 1 [],aq (aD z2) 1 118 7 [(.int .u8 0),(vI M.vars),(vI M.start),(.slice kM.nb M.next.length kM.nc),(.slice kM.fb M.aY.length kM.fc),nS,(.bool false)],dI 56 4 3 M kM,oI z1 72 x.cl] _ (.ew [aq (aD z6) 1 3 1 [vN ls.length],aq (aD z5) 1 3 1 [vN ls.length],aq none 0 3 1 [],aq (aD z2) 1 118 7 [(.int .u8 0),(vI M.vars),(vI M.start),(.slice kM.nb M.next.length kM.nc),(.slice kM.fb M.aY.length kM.fc),nS,(.bool false)],dI 56 4 3 M kM,oI z1 72 x.cl] _ (.ew [aq (aD z6) 1 3 1 [vN ls.length]] _ (.k (.k (.d (.k .z))))))),z3,kH,(ks++[(⟨kM,none,0⟩:LK)]),(aD z5),1,(aD z6),1,F,F,by simp[nE],hO⟩
theorem EP (w:World) [dE Tryz.prog w] (cb:Nat) (eb:Option Addr) (en ec vs B:Nat) (eV:Sl w (aD cb) [.slice eb en ec,vI (vs:Int),vI (B:Int)]) (gv:vs≤6) (iR:1≤B) (hB:B≤4096) (e:List dK) (hE:Sl w eb (bt e)) (j6:en=e.length) (i:Nat) (ob:Nat) (fv:Value) (a:Rx) (j:Nat) (hp:e[i]? =some ⟨9,0,0,(j:Int),0⟩) (W3: ∀ls,aR vs (Rx.ahead a) ls=⟨ls++[⟨9,minOf vs (je (gB a) fun _=>true),[],false⟩],[ls.length],[ls.length]⟩) (W5: ∀(w1:World) [dE Tryz.prog w1],Inv w [] w1→dB Tryz.prog w1 (.iface 163 (.agg #[])) 72 [(dW (aD cb) 0),vN j] [] (sN vs B a) (¬kQ vs a B)) (lb:Option Addr) (lc:Nat) (ls:List Lf) (ks:List LK) (nE:ks.length=ls.length) (hl:ls.length+(Rx.ahead a).lv≤64) (IS:sw ls (Rx.ahead a)):
  dB Tryz.prog w (.iface 163 (.agg #[])) 73 [(.pointer (aD ob)),vN i] ([oI ob 114 [(dW (aD cb) 0),(.slice lb ls.length lc),fv],aq lb lc 118 7 (dj ls ks)]++(cd 3 (eU ls ks)++gJ 56 4 3 ls ks)) (fun v O'=> ∃ua ub pS oT oU yp yr,v=.tuple #[(.slice oT (((aR vs (Rx.ahead a) ls).fi).length) oU),(.slice yp (((aR vs (Rx.ahead a) ls).la).length) yr)]∧O'=[oI ob 114 [(dW (aD cb) 0),(.slice ua (((aR vs (Rx.ahead a) ls).ls).length) ub),fv],aq ua ub 118 7 (dj ((aR vs (Rx.ahead a) ls).ls) pS),aq oT oU 3 1 (bS ((aR vs (Rx.ahead a) ls).fi)),aq yp yr 3 1 (bS ((aR vs (Rx.ahead a) ls).la))]++(cd 3 (eU ((aR vs (Rx.ahead a) ls).ls) pS)++gJ 56 4 3 ((aR vs (Rx.ahead a) ls).ls) pS)∧pS.length=(aR vs (Rx.ahead a) ls).ls.length∧okB vs (Rx.ahead a) B) (¬okB vs (Rx.ahead a) B):=by
 refine dM func73 F ntmps73 F ?_
 obtain⟨hi,_⟩:=iK hp
 simp only[W3]
 refine ai (aj F (aj F (ae (ai (ah F (ad (a8 F) (ad (a_ gA F oK F F) (ad (bi 0 vQ F F F F) (ad (a8 F) (ad (cy lx F fT F F (aL eV) (by first|omega|(simp;done)|(simp;omega)|(simp_all;done)|(simp_all;omega))) (ad (de cX F F (aL eV) F) (ah F (ad (dT (i:=i) cX cm F F (aL hE) (by omega) (by rw[bY];omega)) (ad (eO (vs:=[v8 9,v8 0,v8 0,vN j,vI 0]) bU F cm F F (br _) (aL hE) (fy hp)) (ao F (bs cm F (fun z1=>?_)))))))))))))))))
 refine ao F (bN (vs:=[v8 9,v8 0,v8 0,vN j,vI 0]) 0 cm F F F F ?_)
 refine ae (aM (ai (ad (a_ bU F du F F) (ad (bi 0 fA F F F F) (ae (aU (ai (ad (bJ F F) (ad (aB (cx F) (ak (by decide))) (ae (a6 F (ai (ad (bJ F F) (ad (aB (cx F) (ak (by decide))) ?_))))))))))))))
 refine ae (a6 F (ai (ad (bJ F F) (ad (aB (cx F) (ay (by decide))) (ae ?_)))))
 refine bO F ?_
 refine T.ds [oI z1 72 [v8 9,v8 0,v8 0,vN j,vI 0],oI ob 114 [(dW (aD cb) 0),(.slice lb ls.length lc),fv]] [(0,0),(1,0),(2,0),(3,0),(4,0),(5,0),(6,0),(7,0),(8,0),(9,0),(10,0),(11,0),(12,0),(13,0),(14,0),(15,0),(16,0),(18,0),(19,0),(20,0),(21,0),(17,1),(22,1),(23,1),(24,0),(25,1),(26,1),(27,0),(28,0),(29,2)] (by exact Sub.k (.k .z)) ?_
 refine au F (aN F) (au F (aN F) (au F (a8 F) (au F (a_ gA F gD F F) (au F (bi 1 fB F F F F) (au F (a_ bU F du F F) (au F (bi 0 fA F F F F) (au F (aN F) (au F (a8 F) (au F (a_ gA F oK F F) (au F (bi 1 vQ F F F F) (au F (aN F) (au F (a8 F) (au F (a_ gA F oK F F) (au F (bi 1 vQ F F F F) (au F (a_ bU F bj F F) (au F (bi 0 dP F F F F) (au F (aN F) (au F (a8 F) (au F (a_ gA F oK F F) (au F (bi 1 vQ F F F F) ?_))))))))))))))))))))
 have CY:=fun(w1:World) (hI:Inv w ([oI z1 72 [v8 9,v8 0,v8 0,vN j,vI 0],oI ob 114 [(dW (aD cb) 0),(.slice lb ls.length lc),fv],aq lb lc 118 7 (dj ls ks)]++(cd 3 (eU ls ks)++gJ 56 4 3 ls ks)) w1)=>(haveI:=et hI;W5 w1 hI.nD)
 refine io F F (eW pL (dB.pure CY) F (fun z _=>⟨F,fun h9=>z h9.1⟩) ?_)
 clear CY
 rintro vr O' ⟨N,rfl,MA,kA,rfl,rfl,qF,hO⟩
 refine⟨by exact Sub.d (.k (.k .z)),?_⟩
 have zK:=gX qF hB
 have QA:=fun(w1:World) (hI:Inv w ([dI 56 4 3 MA kA,oI z1 72 [v8 9,v8 0,v8 0,vN j,vI 0],oI ob 114 [(dW (aD cb) 0),(.slice lb ls.length lc),fv],aq lb lc 118 7 (dj ls ks)]++(cd 3 (eU ls ks)++gJ 56 4 3 ls ks)) w1)=>(haveI:=et hI;Na w1 cb eb en ec vs B (hI.sl eV) gv)
 refine cr F F (bl EF (aX QA) F ?_)
 clear QA
 rintro vr O' ⟨N,rfl,kS,rfl,rfl⟩
 refine⟨by exact Sub.d (.d (.k (.k .z))),?_⟩
 have QB:=fun(w1:World) (hI:Inv w ([dI 56 4 3 (fJ (vs:Int) true) kS,dI 56 4 3 MA kA,oI z1 72 [v8 9,v8 0,v8 0,vN j,vI 0],oI ob 114 [(dW (aD cb) 0),(.slice lb ls.length lc),fv],aq lb lc 118 7 (dj ls ks)]++(cd 3 (eU ls ks)++gJ 56 4 3 ls ks)) w1)=>(haveI:=et hI;Sw w1 cb eb en ec vs B (hI.sl eV) gv iR hB MA kA (hI.at (k:=kA) (mG 1 F)) qF.valid qF.vars (fJ (vs:Int) true) kS (hI.at (k:=kS) (mG 0 F)) (fN gv).valid (by rw[qF.vars];rfl))
 refine io F F (eW EB (dB.pure QB) F (fun z _=>⟨F,fun h9=>z (by rw[zK];exact h9.2)⟩) ?_)
 clear QB
 rintro vr O' ⟨N,rfl,M,kM,rfl,rfl,SK,SL⟩
 refine⟨by exact Sub.d (.d (.d (.k (.k .z)))),?_⟩
 have eM:M=minOf vs (je (gB a) fun _=>true):=gX (SK.to fun w9 h9=>pv (fun u hu=>qF.iM u hu) (fun u hu=>(fN gv).iM u hu) h9) hB
 refine au F (cE (cs:=[v8 9,(vI M.vars),(vI M.start),(.slice kM.nb M.next.length kM.nc),(.slice kM.fb M.aY.length kM.fc),nS,(.bool false)]) A2 fe (by kernel_rfl)) ?_
 refine cr F F (cz (m:=1) (parts:=[(0,_)]) (cs:=[v8 9,(vI M.vars),(vI M.start),(.slice kM.nb M.next.length kM.nc),(.slice kM.fb M.aY.length kM.fc),nS,(.bool false)]) fB fe (by decide) (by kernel_rfl) F (fun z2=>⟨by exact Sub.d (.d (.d (.d (.k (.k .z))))),?_⟩))
 refine cr F F (cW 6 fB fB fe F F F F (by rw[dS nE]) (by decide) (Src.row (j:=0) F (by simp)) (by simp[fa]) (by omega) (by decide) (by decide) (fun z3 kH=>⟨by exact Sub.d (.d (.d (.d (.k (.k .z))))),?_⟩))
 refine au F (a8 F) (au F (a_ gA F gD F F) ?_)
 refine b_ F F (bN (vs:=[(.slice z3 (ls.length+1) kH)]) 5 gD F F F F ?_)
 refine cw ?_
 refine ai (ah F (ad (a8 F) (ad (a_ gA F gD F F) (ad (bi 5 fB F F F F) (ad (cQ fB F) (ad (bK (fH F F (by omega)) (v':=vN ls.length) (ax (Value.int .i64) (by omega))) (aj F (ae (aM (T.eX 3 1 ?_))))))))))
 refine a7 (ah F (ao F (cN (v:=vN ls.length) cL bj F F F (fun z5=>?_))))
 refine ah F (ao F (cN (v:=vN ls.length) cL bj F F F (fun z6=>?_)))
 refine aj F (aj F (ae (aK (aA ?_))))
 refine dl (.slice (aD z5) 1 1) (.slice (aD z6) 1 1) Tryz.results73 F F ?_
 exact⟨[oI ob 114 [(dW (aD cb) 0),(.slice z3 ((ls++[(⟨9,minOf vs (je (gB a) fun _=>true),[],false⟩:Lf)]).length) kH),fv],aq z3 kH 118 7 (dj (ls++[(⟨9,minOf vs (je (gB a) fun _=>true),[],false⟩:Lf)]) (ks++[(⟨kM,none,0⟩:LK)])),aq (aD z5) 1 3 1 (bS [ls.length]),aq (aD z6) 1 3 1 (bS [ls.length])]++(cd 3 (eU (ls++[(⟨9,minOf vs (je (gB a) fun _=>true),[],false⟩:Lf)]) (ks++[(⟨kM,none,0⟩:LK)]))++gJ 56 4 3 (ls++[(⟨9,minOf vs (je (gB a) fun _=>true),[],false⟩:Lf)]) (ks++[(⟨kM,none,0⟩:LK)])),by
   rw[sx nE,sy,uE nE,qO nE,aw,←eM]
   exact qP [oI ob 114 [(dW (aD cb) 0),(.slice z3 (ls.length+1) kH),fv],aq z3 kH 118 7 ((dj ls ks)++[v8 9,(vI M.vars),(vI M.start),(.slice kM.nb M.next.length kM.nc),(.slice kM.fb M.aY.length kM.fc),nS,(.bool false)]),aq (aD z5) 1 3 1 [vN ls.length],aq (aD z6) 1 3 1 [vN ls.length]] [aq (aD z6) 1 3 1 [vN ls.length],aq (aD z5) 1 3 1 [vN ls.length],aq none 0 3 1 [],aq (aD z2) 1 118 7 [v8 9,(vI M.vars),(vI M.start),(.slice kM.nb M.next.length kM.nc),(.slice kM.fb M.aY.length kM.fc),nS,(.bool false)],dI 56 4 3 M kM,dI 56 4 3 (fJ (vs:Int) true) kS,dI 56 4 3 MA kA,oI z1 72 [v8 9,v8 0,v8 0,vN j,vI 0],oI ob 114 [(dW (aD cb) 0),(.slice z3 (ls.length+1) kH),fv],aq z3 kH 118 7 ((dj ls ks)++[v8 9,(vI M.vars),(vI M.start),(.slice kM.nb M.next.length kM.nc),(.slice kM.fb M.aY.length kM.fc),nS,(.bool false)])] _ _ _ _ (by exact Sub.ew [aq (aD z6) 1 3 1 [vN ls.length],aq (aD z5) 1 3 1 [vN ls.length],aq none 0 3 1 [],aq (aD z2) 1 118 7 [v8 9,(vI M.vars),(vI M.start),(.slice kM.nb M.next.length kM.nc),(.slice kM.fb M.aY.length kM.fc),nS,(.bool false)],dI 56 4 3 M kM,dI 56 4 3 (fJ (vs:Int) true) kS,dI 56 4 3 MA kA,oI z1 72 [v8 9,v8 0,v8 0,vN j,vI 0]] _ (.ew [aq (aD z6) 1 3 1 [vN ls.length],aq (aD z5) 1 3 1 [vN ls.length],aq none 0 3 1 [],aq (aD z2) 1 118 7 [v8 9,(vI M.vars),(vI M.start),(.slice kM.nb M.next.length kM.nc),(.slice kM.fb M.aY.length kM.fc),nS,(.bool false)],dI 56 4 3 M kM,dI 56 4 3 (fJ (vs:Int) true) kS,dI 56 4 3 MA kA,oI z1 72 [v8 9,v8 0,v8 0,vN j,vI 0]] _ (.ew [aq (aD z6) 1 3 1 [vN ls.length]] _ (.k (.k (.d (.k .z))))))),z3,kH,(ks++[(⟨kM,none,0⟩:LK)]),(aD z5),1,(aD z6),1,F,F,by simp[nE],⟨hO,by rw[←zK];exact SL⟩⟩
theorem K_ (w:World) [dE Tryz.prog w] (cb:Nat) (eb:Option Addr) (en ec vs B:Nat) (eV:Sl w (aD cb) [.slice eb en ec,vI (vs:Int),vI (B:Int)]) (gv:vs≤6) (iR:1≤B) (hB:B≤4096) (e:List dK) (hE:Sl w eb (bt e)) (j6:en=e.length) (i:Nat) (ob:Nat) (fv:Value) (a b:Rx) (j k:Nat) (hp:e[i]? =some ⟨4,0,0,(j:Int),(k:Int)⟩) (hA:nr w cb vs B ob fv a j) (hB:nr w cb vs B ob fv b k) (lb:Option Addr) (lc:Nat) (ls:List Lf) (ks:List LK) (nE:ks.length=ls.length) (hl:ls.length+(Rx.gZ a b).lv≤64) (IS:sw ls (Rx.gZ a b)):
  dB Tryz.prog w (.iface 163 (.agg #[])) 73 [(.pointer (aD ob)),vN i] ([oI ob 114 [(dW (aD cb) 0),(.slice lb ls.length lc),fv],aq lb lc 118 7 (dj ls ks)]++(cd 3 (eU ls ks)++gJ 56 4 3 ls ks)) (fun v O'=> ∃ua ub pS oT oU yp yr,v=.tuple #[(.slice oT (((aR vs (Rx.gZ a b) ls).fi).length) oU),(.slice yp (((aR vs (Rx.gZ a b) ls).la).length) yr)]∧O'=[oI ob 114 [(dW (aD cb) 0),(.slice ua (((aR vs (Rx.gZ a b) ls).ls).length) ub),fv],aq ua ub 118 7 (dj ((aR vs (Rx.gZ a b) ls).ls) pS),aq oT oU 3 1 (bS ((aR vs (Rx.gZ a b) ls).fi)),aq yp yr 3 1 (bS ((aR vs (Rx.gZ a b) ls).la))]++(cd 3 (eU ((aR vs (Rx.gZ a b) ls).ls) pS)++gJ 56 4 3 ((aR vs (Rx.gZ a b) ls).ls) pS)∧pS.length=(aR vs (Rx.gZ a b) ls).ls.length∧okB vs (Rx.gZ a b) B) (¬okB vs (Rx.gZ a b) B):=by
 refine dM func73 F ntmps73 F ?_
 obtain⟨hi,_⟩:=iK hp
 have Tk:=gm vs a ls
 have aab:=gm vs b (aR vs a ls).ls
 have W6:=dY vs a ls
 have W7:=dY vs b (aR vs a ls).ls
 have aac:a.lv+b.lv≤64:=by simp only[Rx.lv]at hl;omega
 simp only[Rx.lv]at hl
 refine ai (aj F (aj F (ae (ai (ah F (ad (a8 F) (ad (a_ gA F oK F F) (ad (bi 0 vQ F F F F) (ad (a8 F) (ad (cy lx F fT F F (aL eV) (by first|omega|(simp;done)|(simp;omega)|(simp_all;done)|(simp_all;omega))) (ad (de cX F F (aL eV) F) (ah F (ad (dT (i:=i) cX cm F F (aL hE) (by omega) (by rw[bY];omega)) (ad (eO (vs:=[v8 4,v8 0,v8 0,vN j,vN k]) bU F cm F F (br _) (aL hE) (fy hp)) (ao F (bs cm F (fun z1=>?_)))))))))))))))))
 refine ao F (bN (vs:=[v8 4,v8 0,v8 0,vN j,vN k]) 0 cm F F F F ?_)
 refine ae (aM (ai (ad (a_ bU F du F F) (ad (bi 0 fA F F F F) (ae (aU (ai (ad (bJ F F) (ad (aB (cx F) (ay (by decide))) (ae ?_))))))))))
 refine bO F ?_
 refine ai (ah F (ad (a_ bU F bj F F) (ad (bi 0 dP F F F F) ?_)))
 let eP:Lx.Item:=oI z1 72 [v8 4,v8 0,v8 0,vN j,vN k]
 have KH:=(hA.frame [eP] (O:=[eP,oI ob 114 [(dW (aD cb) 0),(.slice lb ls.length lc),fv],aq lb lc 118 7 (dj ls ks)]) lb lc ls ks nE (by first|omega|(rw[dY];omega)) (sw.left IS) (by exact Sub.ew [eP] _ (.ew [eP] _ (.k .z))))
 refine eG F (eW C1 KH F (fun z _=>⟨F,fun h9=>z h9.1⟩) ?_)
 clear KH
 rintro vr O' ⟨Tl,Tm,W8,M4,M5,QC,QD,rfl,rfl,hkA,HW⟩
 refine ah F (ad (bE (vs:=_) F F) (ad (bE (vs:=_) F F) (aj F (aj F (ae (ai (ah F (ad (a_ bU F bj F F) (ad (bi 4 dP F F F F) ?_)))))))))
 let gK:Lx.Item:=aq M4 M5 3 1 (bS ((aR vs a ls).fi))
 let lw:Lx.Item:=aq QC QD 3 1 (bS ((aR vs a ls).la))
 have KQ:=(hB.frame [gK,lw,eP] (O:=[oI ob 114 [(dW (aD cb) 0),(.slice Tl (((aR vs a ls).ls).length) Tm),fv],aq Tl Tm 118 7 (dj ((aR vs a ls).ls) W8),gK,lw,eP]) Tl Tm ((aR vs a ls).ls) W8 hkA (by first|omega|(rw[dY];omega)) (sw.right IS) (by exact Sub.rf))
 refine eG F (eW C1 KQ F (fun z _=>⟨F,fun h9=>z h9.2⟩) ?_)
 clear KQ
 rintro vr O' ⟨zO,zP,OI,W9,W_,QE,QF,rfl,rfl,Oi,HX⟩
 refine ah F (ad (bE (vs:=_) F F) (ad (bE (vs:=_) F F) (aj F (aj F (ae (aM (ai (ah F (ad (cQ cL F) (ah F (ae (aU ?_))))))))))))
 let ut:Lx.Item:=aq W9 W_ 3 1 (bS ((aR vs b ((aR vs a ls).ls)).fi))
 let lu:Lx.Item:=aq QE QF 3 1 (bS ((aR vs b ((aR vs a ls).ls)).la))
 refine dx (O':=[oI ob 114 [(dW (aD cb) 0),(.slice zO (((aR vs b ((aR vs a ls).ls)).ls).length) zP),fv],aq zO zP 118 7 (dj ((aR vs b ((aR vs a ls).ls)).ls) OI),ut,lu,gK,lw,eP]++(cd 3 (eU ((aR vs b ((aR vs a ls).ls)).ls) OI)++gJ 56 4 3 ((aR vs b ((aR vs a ls).ls)).ls) OI)) (by exact Sub.rf) ?_
 refine dO (fun(i9:Nat) ρ O=> ∃(l3:List Lf) (k3:List LK),O=([oI ob 114 [(dW (aD cb) 0),(.slice zO l3.length zP),fv],aq zO zP 118 7 (dj l3 k3),ut,lu,gK,lw,eP]++(cd 3 (eU l3 k3)++gJ 56 4 3 l3 k3))∧i9≤(aR vs a ls).la.length∧l3=jY ((aR vs b ((aR vs a ls).ls)).ls) ((aR vs a ls).la.take i9) ((aR vs b ((aR vs a ls).ls)).fi)∧k3.length=l3.length∧dv [(0,(.pointer (aD ob))),(1,vN i),(4,nS),(5,nS),(6,(.pointer (aD z1))),(7,(.slice M4 ((aR vs a ls).fi.length) M5)),(8,(.slice QC ((aR vs a ls).la.length) QD)),(9,(.slice W9 ((aR vs b ((aR vs a ls).ls)).fi.length) W_)),(10,(.slice QE ((aR vs b ((aR vs a ls).ls)).la.length) QF)),(46,.bool true),(62,(.slice QC ((aR vs a ls).la.length) QD)),(63,vI ((aR vs a ls).la.length:Int)),(64,vN i9)] ρ) (fun i9=>(aR vs a ls).la.length-i9) 0 ?_ ?_
 ·exact⟨(aR vs b ((aR vs a ls).ls)).ls,OI,F,bn _,F,Oi,(.of F)⟩
 rintro i9 ρ O ⟨l3,k3,rfl,Ji,M3,tC,hH⟩
 obtain⟨gF,rfl⟩:=hH.elim
 clear hH
 refine ai (ad (cT F F) (ae (aM (aP F (fun hc=>?_) (fun hc=>?_)))))
 ·have C2:i9<(aR vs a ls).la.length:=by omega
  obtain⟨kk,EQ⟩: ∃k,k=(aR vs a ls).la[i9]:=⟨_,F⟩
  have hn3:l3.length=(aR vs b ((aR vs a ls).ls)).ls.length:=by rw[M3,ri]
  have zN:kk<l3.length:=by
   have:=(Tk.2.1 _ (aQ C2)).2
   rw[hn3,W7,W6];rw[EQ];omega
  have aeq:(lf l3 kk).fo.length≤100000:=by
   subst M3
   exact ES IS (by rw[ck];have:=Tk.2.2.2;omega) zN
  refine aE (aM (aU (ai (ad (dU (i:=i9) cL bj F F (dR (mG 5 F)) C2 (by rw[ar];exact C2)) (ad (de dP F F (dR (mG 5 F)) (show(bS (aR vs a ls).la)[i9]? =some (vN kk) by rw[EQ];exact ij C2)) (aj F (ae ?_)))))))
  let gC:Lx.Item:=oI ob 114 [(dW (aD cb) 0),(.slice zO l3.length zP),fv]
  let gu:Lx.Item:=oI z1 72 [v8 4,v8 0,v8 0,vN j,vN k]
  let iG:Lx.Item:=aq M4 M5 3 1 (bS ((aR vs a ls).fi))
  let jD:Lx.Item:=aq QC QD 3 1 (bS ((aR vs a ls).la))
  let oV:Lx.Item:=aq W9 W_ 3 1 (bS ((aR vs b ((aR vs a ls).ls)).fi))
  let mn:Lx.Item:=aq QE QF 3 1 (bS ((aR vs b ((aR vs a ls).ls)).la))
  refine dx (O':=[aq ((lk k3 kk).b) ((lk k3 kk).c) 3 1 (bS (lf l3 kk).fo),gC,aq zO zP 118 7 (dj l3 k3),oV,mn,iG,jD,gu]++(cd 3 ((eU l3 k3).eraseIdx kk)++gJ 56 4 3 l3 k3)) (by
   have h9:=La (E:=3) (C3 tC zN) [oI ob 114 [(dW (aD cb) 0),(.slice zO l3.length zP),fv],aq zO zP 118 7 (dj l3 k3),aq W9 W_ 3 1 (bS ((aR vs b ((aR vs a ls).ls)).fi)),aq QE QF 3 1 (bS ((aR vs b ((aR vs a ls).ls)).la)),aq M4 M5 3 1 (bS ((aR vs a ls).fi)),aq QC QD 3 1 (bS ((aR vs a ls).la)),oI z1 72 [v8 4,v8 0,v8 0,vN j,vN k]] (gJ 56 4 3 l3 k3)
   rw[show Rec.sQ 3 ⟨(lk k3 kk).b,(lk k3 kk).c,(lf l3 kk).fo.map fun y:Nat=>(y:Int)⟩=aq ((lk k3 kk).b) ((lk k3 kk).c) 3 1 (bS (lf l3 kk).fo)from ax (aq _ _ 3 1) (gl _)]at h9
   exact h9) ?_
  refine T.ds [gC,aq zO zP 118 7 (dj l3 k3),gu] [(0,0),(1,0),(2,0),(3,0),(4,0),(5,0),(6,0),(7,0),(8,0),(9,0),(10,0),(11,0),(12,0),(13,0),(14,1),(15,0),(16,0),(17,2)] (by exact Sub.d (.k (.k (.d (.d (.d (.d (.k .z)))))))) ?_
  refine au F (aN F) (au F (a8 F) (au F (a_ gA F gD F F) (au F (bi 0 fB F F F F) (au F (aN F) (au F (aN F) (au F (a8 F) (au F (a_ gA F gD F F) (au F (bi 0 fB F F F F) (au F (aN F) (au F (dT (i:=kk) fB fe F F (dR (mG 1 F)) zN (by rw[dS tC];omega)) (au F (cy iz F cV F F (dR (mG 1 F)) (by rw[dS tC];omega)) (au F (de cL F F (dR (mG 1 F)) (qI tC zN 5 F F)) (au F (aN F) ?_)))))))))))))
  refine cr F F (cW 0 cL cL bj F F F F (by rw[ar];omega) (by decide) (Src.row (j:=3) F (by rw[ar];omega)) (by simp[fa]) (by omega) (by decide) (by decide) (fun z2 tx=>⟨by exact Sub.d (.k (.k (.d (.d (.d (.d (.k .z))))))),?_⟩))
  refine au F (dT (i:=kk) fB fe F F (dR (mG 1 F)) zN (by rw[dS tC];omega)) (au F (cy iz F cV F F (dR (mG 1 F)) (by rw[dS tC];omega)) ?_)
  let tk:Value:=(.slice z2 (((lf l3 kk).fo.length)+((aR vs b ((aR vs a ls).ls)).fi.length)) tx)
  refine b_ F F (ol (j:=(kk*7+5)) (v:=tk) (vs:=[tk]) (cs:=dj l3 k3) 2 cV F F F F F (by simp) F (by rw[dS tC];simp;omega) ?_)
  refine e7 (O':=([aq z2 tx 3 1 ((bS (lf l3 kk).fo)++(bS ((aR vs b ((aR vs a ls).ls)).fi))),gC,aq zO zP 118 7 (dj (l3.set kk {lf l3 kk with fo:=(lf l3 kk).fo++(aR vs b ((aR vs a ls).ls)).fi}) (k3.set kk {lk k3 kk with b:=z2,c:=tx})),oV,mn,iG,jD,gu]++(cd 3 ((eU l3 k3).eraseIdx kk)++gJ 56 4 3 l3 k3))) (by rw[show fh (dj l3 k3) (kk*7+5) [(.slice z2 (((lf l3 kk).fo.length)+((aR vs b ((aR vs a ls).ls)).fi.length)) tx)]=dj (l3.set kk {lf l3 kk with fo:=(lf l3 kk).fo++(aR vs b ((aR vs a ls).ls)).fi}) (k3.set kk {lk k3 kk with b:=z2,c:=tx})from(by rw[ET tC zN,aw];simp[fh])];exact cj (aZ _)) ?_
  refine cw ?_
  refine a7 (ad (dy (a:=i9) (b:=1) F F (by omega)) (ah F (ae ?_)))
  exact⟨i9+1,by omega,[oI ob 114 [(dW (aD cb) 0),(.slice zO ((l3.set kk {lf l3 kk with fo:=(lf l3 kk).fo++(aR vs b ((aR vs a ls).ls)).fi}).length) zP),fv],aq zO zP 118 7 (dj (l3.set kk {lf l3 kk with fo:=(lf l3 kk).fo++(aR vs b ((aR vs a ls).ls)).fi}) (k3.set kk {lk k3 kk with b:=z2,c:=tx})),oV,mn,iG,jD,gu]++(cd 3 (eU (l3.set kk {lf l3 kk with fo:=(lf l3 kk).fo++(aR vs b ((aR vs a ls).ls)).fi}) (k3.set kk {lk k3 kk with b:=z2,c:=tx}))++gJ 56 4 3 (l3.set kk {lf l3 kk with fo:=(lf l3 kk).fo++(aR vs b ((aR vs a ls).ls)).fi}) (k3.set kk {lk k3 kk with b:=z2,c:=tx})),by
   rw[H3 tC zN,Lb tC zN,eD]
   refine Sub.trans (OJ (by rw[H4 tC];exact zN) [gC,aq zO zP 118 7 (dj (l3.set kk {lf l3 kk with fo:=(lf l3 kk).fo++(aR vs b ((aR vs a ls).ls)).fi}) (k3.set kk {lk k3 kk with b:=z2,c:=tx})),oV,mn,iG,jD,gu] (gJ 56 4 3 l3 k3) ⟨z2,tx,((lf l3 kk).fo++(aR vs b ((aR vs a ls).ls)).fi).map fun y:Nat=>(y:Int)⟩) ?_
   rw[show Rec.sQ 3 ⟨z2,tx,((lf l3 kk).fo++(aR vs b ((aR vs a ls).ls)).fi).map fun y:Nat=>(y:Int)⟩=aq z2 tx 3 1 ((bS (lf l3 kk).fo)++(bS ((aR vs b ((aR vs a ls).ls)).fi)))from ax (aq _ _ 3 1) ((gl _).trans bm)]
   exact(by exact Sub.rf),(l3.set kk {lf l3 kk with fo:=(lf l3 kk).fo++(aR vs b ((aR vs a ls).ls)).fi}),(k3.set kk {lk k3 kk with b:=z2,c:=tx}),F,by omega,by rw[EU C2,←EQ,←M3],by rw[eD,eD];exact tC,(.of F)⟩
 have aco: ¬i9<(aR vs a ls).la.length:=by omega
 refine cK ?_
 refine ai (ah F (ah F (aj F (aj F (ae (aK (aA ?_)))))))
 refine dl (.slice M4 ((aR vs a ls).fi.length) M5) (.slice QE ((aR vs b ((aR vs a ls).ls)).la.length) QF) Tryz.results73 F F ?_
 have e3:l3=(aR vs (Rx.gZ a b) ls).ls:=by rw[M3,bw (by omega)];rfl
 let mF:Lx.Item:=aq QE QF 3 1 (bS ((aR vs b ((aR vs a ls).ls)).la))
 exact⟨[oI ob 114 [(dW (aD cb) 0),(.slice zO l3.length zP),fv],aq zO zP 118 7 (dj l3 k3),aq M4 M5 3 1 (bS ((aR vs a ls).fi)),mF]++(cd 3 (eU l3 k3)++gJ 56 4 3 l3 k3),(by exact Sub.k (.k (.d (.ew [mF] _ (.k (.d (.d .rf))))))),zO,zP,k3,M4,M5,QE,QF,F,by rw[←e3];rfl,by rw[←e3];exact tC,HW,HX⟩
structure Tn (cb:Nat) (eb:Option Addr) (en ec vs B:Nat) (e:List dK):Prop where
 pl:SM cb eb en ec vs B e
 iv: ∀(w:World) [dE Tryz.prog w],vs≤6→1≤B→B≤4096→Sl w (aD cb) [.slice eb en ec,vI (vs:Int),vI (B:Int)]→Sl w eb (bt e)→ ∀(ob:Nat) (fv:Value) (i:Nat) (a b:Rx) (j k:Nat),e[i]? =some ⟨5,0,0,(j:Int),(k:Int)⟩→nr w cb vs B ob fv a j→nr w cb vs B ob fv b k→nr w cb vs B ob fv (.iv a b) i
 behind: ∀(w:World) [dE Tryz.prog w],vs≤6→1≤B→B≤4096→Sl w (aD cb) [.slice eb en ec,vI (vs:Int),vI (B:Int)]→Sl w eb (bt e)→ ∀(ob:Nat) (fv:Value) (i:Nat) (a:Rx) (j:Nat),e[i]? =some ⟨10,0,0,(j:Int),0⟩→(∀(w1:World) [dE Tryz.prog w1],Inv w [] w1→dB Tryz.prog w1 (.iface 163 (.agg #[])) 72 [(dW (aD cb) 0),vN j] [] (sN vs B a) (¬kQ vs a B))→nr w cb vs B ob fv (.behind a) i
theorem tB {cb:Nat} {eb:Option Addr} {en ec vs B:Nat} {e:List dK} (h:EC e=true):Tn cb eb en ec vs B e:=
 ⟨AU h,fun _ _ _ _ _ _ _ _ _ i _ _ _ _ hp=>absurd F (mR h hp).2.1,fun _ _ _ _ _ _ _ _ _ i _ _ hp=>absurd F (mR h hp).2.2.2.2⟩
theorem xK {cb:Nat} {eb:Option Addr} {en ec vs B:Nat} {e:List dK} (A3:Tn cb eb en ec vs B e) (gv:vs≤6) (iR:1≤B) (hB:B≤4096) (j6:en=e.length) (ob:Nat) (fv:Value): ∀(t:Rx) (hw:t.wf=true) (i:Nat),re e t i→ ∀(w:World) [dE Tryz.prog w],Sl w (aD cb) [.slice eb en ec,vI (vs:Int),vI (B:Int)]→Sl w eb (bt e)→nr w cb vs B ob fv t i
 | .none,hw,i,hh,w,_,eV,hE=>mS w cb eb en ec vs B eV gv iR hB e hE j6 i ob fv .none ⟨1,0,0,0,0⟩ hh (by simp) (by simp) (by simp) (by simp) F (fun _=>rfl) F (fun w1 _ hI=>jN A3.pl gv iR hB j6 .none hw _ hh w1 (hI.sl eV) (hI.sl hE))
 | .empty,hw,i,hh,w,_,eV,hE=>mS w cb eb en ec vs B eV gv iR hB e hE j6 i ob fv .empty ⟨2,0,0,0,0⟩ hh (by simp) (by simp) (by simp) (by simp) F (fun _=>rfl) F (fun w1 _ hI=>jN A3.pl gv iR hB j6 .empty hw _ hh w1 (hI.sl eV) (hI.sl hE))
 | .letter p n,hw,i,hh,w,_,eV,hE=>mS w cb eb en ec vs B eV gv iR hB e hE j6 i ob fv (.letter p n) ⟨3,p,n,0,0⟩ hh.1 (by simp) (by simp) (by simp) (by simp) F (fun _=>rfl) F (fun w1 _ hI=>jN A3.pl gv iR hB j6 (.letter p n) hw _ hh w1 (hI.sl eV) (hI.sl hE))
 | .and a b,hw,i,hh,w,_,eV,hE=>by
  obtain⟨j,k,h,ha,hb⟩:=id hh
  exact mS w cb eb en ec vs B eV gv iR hB e hE j6 i ob fv (.and a b) ⟨6,0,0,(j:Int),(k:Int)⟩ h (by simp) (by simp) (by simp) (by simp) F (fun _=>rfl) F (fun w1 _ hI=>jN A3.pl gv iR hB j6 (.and a b) hw _ hh w1 (hI.sl eV) (hI.sl hE))
 | .not a,hw,i,hh,w,_,eV,hE=>by
  obtain⟨j,h,ha⟩:=id hh
  exact mS w cb eb en ec vs B eV gv iR hB e hE j6 i ob fv (.not a) ⟨7,0,0,(j:Int),0⟩ h (by simp) (by simp) (by simp) (by simp) F (fun _=>rfl) F (fun w1 _ hI=>jN A3.pl gv iR hB j6 (.not a) hw _ hh w1 (hI.sl eV) (hI.sl hE))
 | .star a,hw,i,hh,w,_,eV,hE=>by
  obtain⟨j,h,ha⟩:=id hh
  exact mS w cb eb en ec vs B eV gv iR hB e hE j6 i ob fv (.star a) ⟨8,0,0,(j:Int),0⟩ h (by simp) (by simp) (by simp) (by simp) F (fun _=>rfl) F (fun w1 _ hI=>jN A3.pl gv iR hB j6 (.star a) hw _ hh w1 (hI.sl eV) (hI.sl hE))
 | .gZ a b,hw,i,⟨j,k,h,ha,hb⟩,w,_,eV,hE=>K_ w cb eb en ec vs B eV gv iR hB e hE j6 i ob fv a b j k h (xK A3 gv iR hB j6 ob fv a (by simp only[Rx.wf,aJ]at hw;exact hw.1) _ ha w eV hE) (xK A3 gv iR hB j6 ob fv b (by simp only[Rx.wf,aJ]at hw;exact hw.2) _ hb w eV hE)
 | .iv a b,hw,i,⟨j,k,h,ha,hb⟩,w,_,eV,hE=>A3.iv w gv iR hB eV hE ob fv i a b j k h (xK A3 gv iR hB j6 ob fv a (by simp only[Rx.wf,aJ]at hw;exact hw.1) _ ha w eV hE) (xK A3 gv iR hB j6 ob fv b (by simp only[Rx.wf,aJ]at hw;exact hw.2) _ hb w eV hE)
 | .ahead a,hw,i,⟨j,h,ha⟩,w,_,eV,hE=>EP w cb eb en ec vs B eV gv iR hB e hE j6 i ob fv a j h (fun _=>rfl) (fun w1 _ hI=>jN A3.pl gv iR hB j6 a hw _ ha w1 (hI.sl eV) (hI.sl hE))
 | .behind a,hw,i,⟨j,h,ha⟩,w,_,eV,hE=>A3.behind w gv iR hB eV hE ob fv i a j h (fun w1 _ hI=>jN A3.pl gv iR hB j6 a hw _ ha w1 (hI.sl eV) (hI.sl hE))
end Go.Proofs.YtgdbfideeeegmaaGreatDoor

namespace Go.Proofs.YtgdbfideeeegmaaGreatDoor
open Go.Lx Go.RowKit _root_.Go.Proofs.Tryz
theorem Eu:YD 74:=ExB.2
end Go.Proofs.YtgdbfideeeegmaaGreatDoor

namespace Go.Proofs.YtgdbfideeeegmaaGreatDoor
open Go.Lx Go.RowKit _root_.Go.Proofs.Tryz
theorem Ld (w:World) [dE Tryz.prog w] (y:dK):
  cH Tryz.prog 71 [y.ag] w fun v N=>v=.bool (lm y)∧N=[]:=by
 refine aF func71 F ntmps71 F ?_
 refine ai (ao F (dG (cs:=y.cl) F F (fun z1=>?_)))
 refine aj F (ae (ai (ad (a_ bU F du F F) (ad (bi 0 fA F F F F) (ad (bJ F F) ?_)))))
 by_cases h9:((y.op:Nat):Int)=9
 ·refine ad (aB (aN F) (ay h9)) ?_
  refine aV F F (aV F F (aV F F (ad (cA F F) (aj F (ae (aK (aA ?_)))))))
  refine aS (.bool true) Tryz.results71 F ?_
  exact⟨[],Sub.z,ax Value.bool (by unfold lm;rw[ay (show y.op=9 by omega),Bool.true_or]),F⟩
 refine ad (aB (aN F) (ak h9)) (aG F F (a_ bU F du F F) (aG F F (bi 0 fA F F F F) (aG F F (bJ F F) (ad (cg F F) (aj F (ae (aK (aA ?_))))))))
 refine aS (.bool (decide (((y.op:Nat):Int)=10))) Tryz.results71 F ?_
 exact⟨[],Sub.z,ax Value.bool (by unfold lm;rw[ak (show¬y.op=9 by omega),Bool.false_or];exact decide_eq_decide.2 (by omega)),F⟩
def Le (ls:List Lf) (w:World) (k:Key) (r:SR):Prop:= ∃(s:St) (l:List CR) (bb cb:Option Addr) (bc cc:Nat),ln ls s∧k=s.key∧s.cf=l.map CR.cf∧r.a=.slice bb s.bh.length bc∧r.b=.slice cb l.length cc∧
 ((∃(c1 c2:Nat) (p:List OB),r.k7=[aq bb c1 3 1 (bS s.bh),aq cb c2 169 3 (dt l)]++gg 173 p∧ ∀y∈l,mg p y.r)∨(r.k7=[]∧Sl w bb (bS s.bh)∧Sl w cb (dt l)∧ ∀y∈l,Sl w y.r.b (fE y.r.o)))
theorem Le.one {ls:List Lf} {w:World} {k:Key} {r:SR} (h:Le ls w k r):fa r.a=true∧fa r.b=true:=by
 obtain⟨s,l,bb,cb,bc,cc,_,_,_,h1,h2,_⟩:=h
 rw[h1,h2];exact⟨F,F⟩
theorem Le.sl {ls:List Lf} {w w1:World} {k7:List Lx.Item} {bb cb:Option Addr} {bh:List Nat} {l:List CR} (hI:Inv w [] w1) (h:(∃(c1 c2:Nat) (p:List OB),k7=[aq bb c1 3 1 (bS bh),aq cb c2 169 3 (dt l)]++gg 173 p∧ ∀y∈l,mg p y.r)∨(k7=[]∧Sl w bb (bS bh)∧Sl w cb (dt l)∧ ∀y∈l,Sl w y.r.b (fE y.r.o))) (fI: ∀it∈k7,it.P w1):Sl w1 bb (bS bh)∧Sl w1 cb (dt l)∧ ∀y∈l,Sl w1 y.r.b (fE y.r.o):=by
 rcases h with⟨c1,c2,p,he,hp⟩|⟨_,h1,h2,h3⟩
 ·refine⟨rowP.sl (fI (aq bb c1 3 1 (bS bh)) (by rw[he];simp)),rowP.sl (fI (aq cb c2 169 3 (dt l)) (by rw[he];simp)),fun y hy=>?_⟩
  rcases hp y hy with h|h
  ·exact rowP.sl (fI (OB.sQ 173 y.r) (by rw[he];exact am _ (List.mem_map.2 ⟨_,h,F⟩)))
  ·rw[h];exact fun i hi=>absurd hi (by simp[fE])
 ·exact⟨hI.sl h1,hI.sl h2,fun y hy=>hI.sl (h3 y hy)⟩
set_option maxRecDepth 20000 in
theorem Xb (w:World) [dE Tryz.prog w] (ob:Nat) (lb:Option Addr) (lc:Nat) (cv fv:Value) (ls:List Lf) (ks:List LK) (ho:ll w ob lb lc cv fv ls ks) (vs:Nat) (hG:iw ls vs) {K:Nat} (hK:qy ls K) (xE:K<137438953472) (gv:vs≤6) (w1:World) [dE Tryz.prog w1] (hI:Inv w [] w1) (k:Key) (r:SR) (hR:Le ls w k r) (fI: ∀it∈r.k7,it.P w1):eK Tryz.prog w1 (.func (.func 76) #[(dW (aD ob) 0)] #[]) [.agg #[r.a,r.b]] [] (fun v O'=>v=str k∧O'=[]):=by
 obtain⟨s,l,bb,cb,bc,cc,hs,rfl,IW,e1,e2,hm⟩:=hR
 obtain⟨hb,hl,CV⟩:=Le.sl (ls:=ls) hI hm fI
 have hg: ∀y∈l,jk ls y.cf:=fun y hy=>hs.cf _ (by rw[IW];exact List.mem_map_of_mem hy)
 have HS:l.length≤K:=by
  have:=hK s.cf hs.nd hs.cf;rw[IW,ar]at this;exact this
 rw[e1,e2]
 refine(cP (first:=[(dW (aD ob) 0)]) (args:=[(.agg #[.slice bb s.bh.length bc,.slice cb l.length cc])]) (gr:=[]) Xc (W1 w1 (dW (aD ob) 0) bb bc s.bh hb (by have:=hs.bh.len;have:=hG.len;omega) (hs.bh.num hG) cb cc l hl (by omega) hG hg (fun y hy=>by
  have:=hG.len
  rcases hg y hy with⟨_,_,h⟩|⟨q,_,hq,_,h⟩
  ·have:=h.len;show y.cf.o.length≤12;omega
  ·have:=h.len;show y.cf.o.length≤12;omega) CV)).mono ?_
 rintro v O' ⟨rfl,rfl⟩
 rw[←IW];exact⟨F,F⟩
set_option maxRecDepth 20000 in
theorem Xd (w:World) [dE Tryz.prog w] (ob:Nat) (lb:Option Addr) (lc:Nat) (cv fv:Value) (ls:List Lf) (ks:List LK) (ho:ll w ob lb lc cv fv ls ks) (vs:Nat) (hG:iw ls vs) {K:Nat} (hK:qy ls K) (xE:K<137438953472) (gv:vs≤6) (w1:World) [dE Tryz.prog w1] (hI:Inv w [] w1) (k:Key) (r:SR) (hR:Le ls w k r) (fI: ∀it∈r.k7,it.P w1):eK Tryz.prog w1 (.func (.func 78) #[(dW (aD ob) 0)] #[]) [.agg #[r.a,r.b]] [] (fun v O'=>v=.bool (HT (ln ls) St.key pt k)∧O'=[]):=by
 obtain⟨s,l,bb,cb,bc,cc,hs,rfl,IW,e1,e2,hm⟩:=hR
 obtain⟨hb,hl,CV⟩:=Le.sl (ls:=ls) hI hm fI
 have hg: ∀y∈l,jk ls y.cf:=fun y hy=>hs.cf _ (by rw[IW];exact List.mem_map_of_mem hy)
 have HS:l.length≤K:=by
  have:=hK s.cf hs.nd hs.cf;rw[IW,ar]at this;exact this
 rw[e1,e2]
 rw[AR (Gb hG) hs]
 refine(cP (first:=[(dW (aD ob) 0)]) (args:=[(.agg #[.slice bb s.bh.length bc,.slice cb l.length cc])]) (gr:=[]) Xe (OH w1 (dW (aD ob) 0) s.bh (.slice bb s.bh.length bc) cb cc l hl (by omega))).mono ?_
 rintro v O' ⟨rfl,rfl⟩
 rw[←IW];exact⟨F,F⟩
set_option maxRecDepth 20000 in
theorem Xf (w:World) [dE Tryz.prog w] (ob:Nat) (lb:Option Addr) (lc:Nat) (cv fv:Value) (ls:List Lf) (ks:List LK) (ho:ll w ob lb lc cv fv ls ks) (vs:Nat) (hG:iw ls vs) {K:Nat} (hK:qy ls K) (xE:K<137438953472) (gv:vs≤6) (w1:World) [dE Tryz.prog w1] (hI:Inv w [] w1) (k:Key) (r:SR) (hR:Le ls w k r) (fI: ∀it∈r.k7,it.P w1) (x:Nat) (hx:x<2^vs):eK Tryz.prog w1 (.func (.func 77) #[(dW (aD ob) 0)] #[]) [.agg #[r.a,r.b],.int .u8 (x:Int)] [] (fun v N=> ∃r',v=.agg #[r'.a,r'.b]∧N=r'.k7∧Le ls w (By (ln ls) St.key (j9 ls) k x) r'):=by
 obtain⟨s,l,bb,cb,bc,cc,hs,rfl,IW,e1,e2,hm⟩:=hR
 obtain⟨hb,hl,CV⟩:=Le.sl (ls:=ls) hI hm fI
 have hg: ∀y∈l,jk ls y.cf:=fun y hy=>hs.cf _ (by rw[IW];exact List.mem_map_of_mem hy)
 have HS:l.length≤K:=by
  have:=hK s.cf hs.nd hs.cf;rw[IW,ar]at this;exact this
 rw[e1,e2]
 refine(cP (first:=[(dW (aD ob) 0)]) (args:=[(.agg #[.slice bb s.bh.length bc,.slice cb l.length cc]),.int .u8 (x:Int)]) (gr:=[]) Xg (Te w1 ob lb lc cv fv ls ks (hI.out ho) vs hG hK (by omega) x hx gv s.bh bb bc hb hs.bh l cb cc hl hg (by rw[←IW];exact hs.nd) CV)).mono ?_
 rintro v O' ⟨b1,b2,b3,c1,c2,l2,p,rfl,rfl,h1,h2⟩
 refine⟨⟨.slice b1 (jv ls s.bh x).length b2,.slice c1 l2.length c2,_⟩,F,F,j9 ls s x,l2,b1,c1,b2,c2,rj hG hs hx,uy (Gb hG) hs hx,?_,F,F,.inl ⟨_,_,p,F,h2.K2⟩⟩
 rw[h1,←IW];rfl
theorem H5 (w:World) [dE Tryz.prog w] (cb:Nat) (eb:Option Addr) (en ec vs B:Nat) (eV:Sl w (aD cb) [.slice eb en ec,vI (vs:Int),vI (B:Int)]) (gv:vs≤6) (iR:1≤B) (hB:B≤4096) (e:List dK) (hE:Sl w eb (bt e)) (j6:en=e.length) (PC:0<e.length) (wl:e.length≤64) (t:Rx) (zQ:re e t (e.length-1)) (F6:SM cb eb en ec vs B e) (R0:e.any lm=false) (CV:t.plain=true):
  dB Tryz.prog w (.iface 163 (.agg #[])) 46 [(dW (aD cb) 0)] [] (fun v N=> ∃M k',v=dV M k'∧N=[dI 56 4 3 M k']∧fM (vs:Int) B M (gB t)∧kQ vs t B) (¬kQ vs t B):=by
 refine dM func46 F ntmps46 F ?_
 subst j6
 refine ai (ao F (bs bL F (fun z1=>?_)))
 refine ae (ai (ah F (ad (a8 F) (ad (cy lx F fT F F (aL eV) (by first|omega|(simp;done)|(simp;omega)|(simp_all;done)|(simp_all;omega))) (ad (de cX F F (aL eV) F) (ad (cQ cX F) (ad (bK (fH F F (by omega)) (v':=vN (e.length-1)) (ax (Value.int .i64) (by omega))) (aj F (ae (aM (ai (ah F (ad (a8 F) (ad (cy lx F fT F F (aL eV) (by first|omega|(simp;done)|(simp;omega)|(simp_all;done)|(simp_all;omega))) (ad (de cX F F (aL eV) F) ?_)))))))))))))))
 have qu:=fun(w1:World) (hI:Inv w [oI z1 25 [(vI 0),(vI 0),nS,nS]] w1)=>(haveI:=et hI;(show cH _ _ _ _ (fun v N=>v=Value.bool false∧N=[])from by
   have h9:=pM w1 eb ec e (hI.sl hE) (by omega) ((.func (.func 71) #[] #[])) lm (fun y hy=>cP (first:=[]) (args:=[y.ag]) (gr:=[]) QK (Ld w1 y))
   rw[R0]at h9
   exact h9))
 refine ao F (bl QL (aX qu) F ?_)
 clear qu
 rintro vr O' ⟨N,rfl,rfl,rfl⟩
 refine ad (jh F) (ae ?_)
 refine bO F ?_
 refine ai (ah F (ah F ?_))
 have CN:=fun(w1:World) (hI:Inv w [oI z1 25 [(vI 0),(vI 0),nS,nS]] w1)=>(haveI:=et hI;jN F6 gv iR hB F t CV (e.length-1) zQ w1 (hI.sl eV) (hI.sl hE))
 refine eG F (eW pL (dB.pure CN) F (fun z _=>⟨F,z⟩) ?_)
 clear CN
 rintro vr O' ⟨N,rfl,M,kr,rfl,rfl,hM,hO⟩
 refine ao F (bN (vs:=(dC M kr)) 1 bL F F F F ?_)
 refine ae (aK (aA ?_))
 refine cM (i:=1) Tryz.results46 cZ F bL F F F ?_
 exact⟨[dI 56 4 3 M kr],(by exact Sub.k .z),M,kr,F,F,hM,hO⟩
theorem Lh (w:World) [dE Tryz.prog w] (cb:Nat) (eb:Option Addr) (en ec vs B:Nat) (eV:Sl w (aD cb) [.slice eb en ec,vI (vs:Int),vI (B:Int)]) (gv:vs≤6) (iR:1≤B) (hB:B≤4096) (e:List dK) (hE:Sl w eb (bt e)) (j6:en=e.length) (PC:0<e.length) (wl:e.length≤64) (t:Rx) (zQ:re e t (e.length-1)) (A3:Tn cb eb en ec vs B e) (R0:e.any lm=true) (hw:t.wf=true) (Xh:t.lv≤12) {K:Nat} (Xi:K<137438953472) (hG0:okB vs t B→iw (mr vs t) vs) (xE:okB vs t B→qy (mr vs t) K):
  dB Tryz.prog w (.iface 163 (.agg #[])) 46 [(dW (aD cb) 0)] [] (fun v N=> ∃M k',v=dV M k'∧N=[dI 56 4 3 M k']∧fM (vs:Int) B M (Ut vs t)∧okC vs t B) (¬okC vs t B):=by
 refine dM func46 F ntmps46 F ?_
 subst j6
 have IV:t.lv≤12:=Xh
 have D5:=gm vs t []
 have IL:=dY vs t []
 simp only[bV,Nat.zero_add]at D5 IL
 have Xj:(2:Nat)^vs≤64:=cF (by decide) gv
 refine ai (ao F (bs bL F (fun z1=>?_)))
 refine ae (ai (ah F (ad (a8 F) (ad (cy lx F fT F F (aL eV) (by first|omega|(simp;done)|(simp;omega)|(simp_all;done)|(simp_all;omega))) (ad (de cX F F (aL eV) F) (ad (cQ cX F) (ad (bK (fH F F (by omega)) (v':=vN (e.length-1)) (ax (Value.int .i64) (by omega))) (aj F (ae (aM (ai (ah F (ad (a8 F) (ad (cy lx F fT F F (aL eV) (by first|omega|(simp;done)|(simp;omega)|(simp_all;done)|(simp_all;omega))) (ad (de cX F F (aL eV) F) ?_)))))))))))))))
 let eP:Lx.Item:=oI z1 25 [(vI 0),(vI 0),nS,nS]
 have qu:=fun(w1:World) (hI:Inv w [eP] w1)=>(haveI:=et hI;(show cH _ _ _ _ (fun v N=>v=Value.bool true∧N=[])from by
   have h9:=pM w1 eb ec e (hI.sl hE) (by omega) ((.func (.func 71) #[] #[])) lm (fun y hy=>cP (first:=[]) (args:=[y.ag]) (gr:=[]) QK (Ld w1 y))
   rw[R0]at h9
   exact h9))
 refine ao F (bl QL (aX qu) F ?_)
 clear qu
 rintro vr O' ⟨N,rfl,rfl,rfl⟩
 refine ad (jh F) (ae (a6 F (aE (ai (ah F (ad (cE (cs:=[(dW (aD cb) 0),nS,nS]) OK To (by kernel_rfl)) (ao F (dG (cs:=[(dW (aD cb) 0),nS,nS]) F F (fun z2=>?_)))))))))
 refine aj F (ae (aM (T.eX 118 7 ?_)))
 let gu:List Lx.Item:=[oI z2 114 [(dW (aD cb) 0),nS,nS],aq none 0 118 7 (dj [] []),eP]
 refine dx (O':=gu++(cd 3 (eU [] [])++gJ 56 4 3 [] [])) (aC [1,0,0] F) ?_
 refine a7 (ah F (ah F ?_))
 have xr:=((xK A3 gv iR hB F z2 nS t hw (e.length-1) zQ w eV hE).frame [eP] (O:=gu) none 0 [] [] F (by simp;omega) ⟨0,by simp,by have:=Nat.mul_le_mul IV IV;omega⟩ (by exact Sub.rf))
 refine eG F (eW C1 xr F (fun z _=>⟨F,fun h9=>z h9.1⟩) ?_)
 clear xr
 rintro vr O' ⟨lb,lc,ks,fb,fc,xb,xc,rfl,rfl,om,HX⟩
 let gC:Value:=(.slice fb ((aR vs t []).fi.length) fc)
 refine ah F (ad (bE (vs:=_) F F) (ad (bE (vs:=_) F F) (aj F (aj F (ae (ai (ah F (ah F (ad (a8 F) (ad (a_ gA F cV F F) (ao F (bN (vs:=[gC]) 0 cV F F F F ?_))))))))))))
 refine ae (aM (ai (ah F (ad (cQ cL F) (ah F (ae (aU ?_)))))))
 let tk:Lx.Item:=aq fb fc 3 1 (bS ((aR vs t []).fi))
 let ut:Lx.Item:=aq xb xc 3 1 (bS ((aR vs t []).la))
 refine dx (O':=[oI z2 114 [(dW (aD cb) 0),(.slice lb (((aR vs t []).ls).length) lc),gC],aq lb lc 118 7 (dj ((aR vs t []).ls) ks),tk,ut,eP]++(cd 3 (eU ((aR vs t []).ls) ks)++gJ 56 4 3 ((aR vs t []).ls) ks)) (by exact Sub.rf) ?_
 let gK:Value:=(.pointer (aD z2))
 refine dO (fun(i9:Nat) ρ O=> ∃(l3:List Lf),O=([oI z2 114 [(dW (aD cb) 0),(.slice lb l3.length lc),gC],aq lb lc 118 7 (dj l3 ks),tk,ut,eP]++(cd 3 (eU l3 ks)++gJ 56 4 3 l3 ks))∧i9≤(aR vs t []).la.length∧l3=my (aR vs t []).ls ((aR vs t []).la.take i9)∧ks.length=l3.length∧dv [(0,(dW (aD cb) 0)),(2,(.pointer (aD z1))),(3,vN (e.length-1)),(4,gK),(5,gC),(6,(.slice xb ((aR vs t []).la.length) xc)),(26,gK),(37,(.slice xb ((aR vs t []).la.length) xc)),(38,vI ((aR vs t []).la.length:Int)),(39,vN i9)] ρ) (fun i9=>(aR vs t []).la.length-i9) 0 ?_ ?_
 ·exact⟨(aR vs t []).ls,F,bn _,F,om,(.of F)⟩
 rintro i9 ρ O ⟨l3,rfl,Ji,M3,tC,hH⟩
 obtain⟨gF,rfl⟩:=hH.elim
 clear hH
 refine ai (ad (cT F F) (ae (aM (aP F (fun hc=>?_) (fun hc=>?_)))))
 ·have xA:i9<(aR vs t []).la.length:=by omega
  obtain⟨kk,EQ⟩: ∃k,k=(aR vs t []).la[i9]:=⟨_,F⟩
  have zN:kk<l3.length:=by
   have:=(D5.2.1 _ (aQ xA)).2
   rw[M3,rk,IL,EQ];exact this
  refine aE (aM (aU (ai (ad (dU (i:=i9) cL bj F F (dR (mG 3 F)) xA (by rw[ar];exact xA)) (ad (de dP F F (dR (mG 3 F)) (show(bS (aR vs t []).la)[i9]? =some (vN kk) by rw[EQ];exact ij xA)) (aj F (ae (a7 (ah F (ad (a8 F) (ad (a_ gA F gD F F) (ad (bi 0 fB F F F F) (ah F (ad (dT (i:=kk) fB fe F F (dR (mG 1 F)) zN (by rw[dS tC];omega)) (ad (cy iz F fx F F (dR (mG 1 F)) (by rw[dS tC];omega)) (ao F (ol (j:=(kk*7+6)) (v:=.bool true) (vs:=[(.bool true)]) (cs:=dj l3 ks) 1 fx F F F F F (by simp) F (by rw[dS tC];simp;omega) ?_)))))))))))))))))
  let lw:Value:=(.slice fb ((aR vs t []).fi.length) fc)
  let oV:Lx.Item:=aq fb fc 3 1 (bS ((aR vs t []).fi))
  let mn:Lx.Item:=aq xb xc 3 1 (bS ((aR vs t []).la))
  refine dX (O':=([oI z2 114 [(dW (aD cb) 0),(.slice lb l3.length lc),lw],aq lb lc 118 7 (dj (l3.set kk {lf l3 kk with la:=true}) ks),oV,mn,eP]++(cd 3 (eU l3 ks)++gJ 56 4 3 l3 ks))) (by rw[show fh (dj l3 ks) (kk*7+6) [(.bool true)]=dj (l3.set kk {lf l3 kk with la:=true}) ks from(by rw[C5 tC zN];simp[fh])];exact cj (aZ _)) ?_
  refine ae (a7 (ad (dy (a:=i9) (b:=1) F F (by omega)) (ah F (ae ?_))))
  exact⟨i9+1,by omega,[oI z2 114 [(dW (aD cb) 0),(.slice lb ((l3.set kk {lf l3 kk with la:=true}).length) lc),lw],aq lb lc 118 7 (dj (l3.set kk {lf l3 kk with la:=true}) ks),oV,mn,eP]++(cd 3 (eU (l3.set kk {lf l3 kk with la:=true}) ks)++gJ 56 4 3 (l3.set kk {lf l3 kk with la:=true}) ks),by
   rw[EV tC zN,H6 tC zN,eD]
   exact Sub.rf,(l3.set kk {lf l3 kk with la:=true}),F,by omega,by rw[EW xA,←EQ,←M3],by rw[eD];exact tC,(.of F)⟩
 have Qq: ¬i9<(aR vs t []).la.length:=by omega
 refine cK ?_
 refine aM ?_
 have e3:l3=mr vs t:=by rw[M3,bw (by omega)];rfl
 have hG:=hG0 HX
 have hK:=xE HX
 rw[←e3]at hG hK
 have rL:(aR vs t []).fi.length≤1000000:=by have:=D5.2.2.1;omega
 have Xk: ∀k∈(aR vs t []).fi,k<l3.length:=fun k hk=>by rw[e3];exact A4 k hk
 refine a7 (ah F (ah F ?_))
 let iG:Value:=(.slice fb ((aR vs t []).fi.length) fc)
 let jD:Lx.Item:=oI z2 114 [(dW (aD cb) 0),(.slice lb l3.length lc),iG]
 let lu:Lx.Item:=aq fb fc 3 1 (bS ((aR vs t []).fi))
 let mF:Lx.Item:=aq xb xc 3 1 (bS ((aR vs t []).la))
 have Xl:=fun(w1:World) (hI:Inv w ([jD,aq lb lc 118 7 (dj l3 ks),lu,mF,eP]++(cd 3 (eU l3 ks)++gJ 56 4 3 l3 ks)) w1)=>(haveI:=et hI;OE w1 z2 lb lc (dW (aD cb) 0) (.slice fb ((aR vs t []).fi.length) fc) l3 ks (ll.of (II:=56) (Bo:=4) (I:=3) hI tC (mG 0 F) (mG 1 F) (fun it h=>am _ (aT _ h)) (fun it h=>am _ (am _ h))) vs hG hK (by omega) (aR vs t []).fi fb fc F (hI.ii (mG 2 F)) Xk rL)
 refine ao F (bl Xm (aX Xl) F ?_)
 clear Xl
 rintro vr O' ⟨N,rfl,bb,bc,mm,gb,gc,l,p,rfl,rfl,Xn,hS⟩
 refine dX (O':=([aq bb mm 3 1 (bS (l3.map fun l=>l.d.start.toNat)),aq gb gc 169 3 (dt l),jD,aq lb lc 118 7 (dj l3 ks),lu,mF,eP]++((gg 173 p)++(cd 3 (eU l3 ks)++gJ 56 4 3 l3 ks)))) (by exact fL [aq bb mm 3 1 (bS (l3.map fun l=>l.d.start.toNat)),aq gb gc 169 3 (dt l)] _ (gg 173 p) (cd 3 (eU l3 ks)++gJ 56 4 3 l3 ks)) ?_
 refine ah F (ad (eZ) (ah F (ad (eZ) (ah F (ad (eZ) ?_)))))
 have J1:=fun(w1:World) (hI:Inv w ([aq bb mm 3 1 (bS (l3.map fun l=>l.d.start.toNat)),aq gb gc 169 3 (dt l),oI z2 114 [(dW (aD cb) 0),(.slice lb l3.length lc),iG],aq lb lc 118 7 (dj l3 ks),aq fb fc 3 1 (bS ((aR vs t []).fi)),aq xb xc 3 1 (bS ((aR vs t []).la)),eP]++((gg 173 p)++(cd 3 (eU l3 ks)++gJ 56 4 3 l3 ks))) w1)=>(haveI:=et hI;Eu w1 cb eb _ ec vs B (2^vs) (hI.sl eV) gv F iR hB (By (ln l3) St.key (j9 l3)) (HT (ln l3) St.key pt) (jo l3 (aR vs t []).fi).key (Le l3 w1) ⟨.slice bb (l3.map fun l=>l.d.start.toNat).length bc,.slice gb l.length gc,[]⟩ (.func (.func 76) #[gK] #[]) (.func (.func 77) #[gK] #[]) (.func (.func 78) #[gK] #[]) ⟨(jo l3 (aR vs t []).fi),l,bb,gb,bc,gc,sA hG Xk,F,(by rw[Xn];rfl),F,F,.inr ⟨F,hI.ii (mG 0 F),hI.ii (mG 1 F),fun y hy=>mg.sl (T:=173) hI (fun it h=>am _ (aT _ h)) (hS.K2 y hy)⟩⟩ F (fun k r h=>h.one) (fun w2 k r pH hR fI=>haveI:=et pH;Xb w1 z2 lb lc (dW (aD cb) 0) iG l3 ks (ll.of (II:=56) (Bo:=4) (I:=3) hI tC (mG 2 F) (mG 3 F) (fun it h=>am _ (am _ (aT _ h))) (fun it h=>am _ (am _ (am _ h)))) vs hG hK Xi gv w2 pH k r hR fI) (fun w2 k r x pH hR fI hx=>haveI:=et pH;Xf w1 z2 lb lc (dW (aD cb) 0) iG l3 ks (ll.of (II:=56) (Bo:=4) (I:=3) hI tC (mG 2 F) (mG 3 F) (fun it h=>am _ (am _ (aT _ h))) (fun it h=>am _ (am _ (am _ h)))) vs hG hK Xi gv w2 pH k r hR fI x hx) (fun w2 k r pH hR fI=>haveI:=et pH;Xd w1 z2 lb lc (dW (aD cb) 0) iG l3 ks (ll.of (II:=56) (Bo:=4) (I:=3) hI tC (mG 2 F) (mG 3 F) (fun it h=>am _ (am _ (aT _ h))) (fun it h=>am _ (am _ (am _ h)))) vs hG hK Xi gv w2 pH k r hR fI))
 refine eG F (eW Xo (dB.pure J1) F (fun z _=>⟨F,fun h9=>z (by have:=h9.2;unfold R8 at this;rw[←e3]at this;exact this)⟩) ?_)
 clear J1
 rintro vr O' ⟨N,rfl,M,k9,rfl,rfl,hM,Kx⟩
 refine ao F (bN (vs:=(dC M k9)) 7 bL F F F F ?_)
 refine ae (aK (aA ?_))
 refine cM (i:=7) Tryz.results46 cZ F bL F F F ?_
 subst e3
 exact⟨[dI 56 4 3 M k9],(by exact Sub.k .z),M,k9,F,F,hM.to fun u hu=>Li hG (fun x hx=>by simpa using hu x hx),HX,Kx⟩
end Go.Proofs.YtgdbfideeeegmaaGreatDoor

namespace Go.Lx
open Go.RowKit
section
variable {P:Program} {base:World} {n:Nat} {ops:Array Oper} {ds:List Deferred} {M:List Item} {Qf:Exit→Act→World→Prop} {ρ:Env} {O:List Item} {l:List Oper}
def TG (P:Program) (base:World) (n:Nat) (ops:Array Oper) (ds:List Deferred) (M:List Item) (Qf:Exit→Act→World→Prop) (l:List Oper) (ρ:Env) (O:List Item):Prop:=
 ∀a w,Ag n ds a ρ→Inv base (O++M) w→wpListIn (Fr none) 0 P ops Qf l a w
theorem TG.region {id:Nat} {l:List Oper} {a:Act} {w:World} (h:TG P base n l.toArray ds M Qf l ρ O) (ha:Ag n ds a ρ) (hI:Inv base (O++M) w):(Code.region id l.toArray false).wpIn (Fr none) 0 P Qf a w:=wpIn_region_lit (h a w ha hI)
theorem TG.nil (h: ∀a w,Ag n ds a ρ→Inv base (O++M) w→Qf .normal a w):TG P base n ops ds M Qf [] ρ O:=fun a w ha hI=>wpListIn_nil (h a w ha hI)
theorem gE {o:Oper} (hg:o.guard=none) (h:LT P none base n o ρ O (fun gV O'=>TG P base n ops ds M Qf l gV O')):TG P base n ops ds M Qf (o::l) ρ O:=
 fun a w ha hI=>wpListIn_plain hg fun next fp=>h a w M ds ha hI next _ fun a' _ _ w' h1 h2 h3=>fp a' w' (h3 a' w' h1 h2)
theorem dZ {d:Nat} {op:Op} {t:TypeId} {p:String} {af:Array Edge} {v:Value} (h:QT P base ⟨some d,op,t,p,af,none⟩ ρ O v) (hk:TG P base n ops ds M Qf l (o6 ρ d v) O) (hn:Nat.blt d n=true:=by rfl):TG P base n ops ds M Qf (⟨some d,op,t,p,af,none⟩::l) ρ O:=
 gE F (d_ F hn h hk)
theorem TG.defer {t:TypeId} {p:String} {af:Array Edge} {yB:Array TypeId} {x:Operand} {f:FuncId} {gr:Array Value} (hx:ev ρ x=.func (.func f) #[] gr)
  (hk:TG P base n ops ({target:=.fn (.func f) gr,args:= #[]}::ds) M Qf l ρ O):TG P base n ops ds M Qf (⟨none,.defer ⟨.value x,#[],yB⟩,t,p,af,none⟩::l) ρ O:=fun a w ha hI=>
 wpListIn_plain F fun next fp=>by
  refine⟨fun _ _=>trivial,?_⟩
  have hr:(Oper.semAt (Fr none).round a.eval ⟨none,.defer ⟨.value x,#[],yB⟩,t,p,af,none⟩).run P w=.ok (.defer {target:=.fn (.func f) gr,args:= #[]}) w:=by
   rw[ha.eval]
   rw[show(Fr none).round=none from F,Oper.semAt_none]
   simp[execOp,resolve,Deferred.ofValue,hx]
  rw[hr,Oper.uponIn_defer]
  refine fp _ _ (hk _ _ ⟨fun t=>?_,?_,?_⟩ hI)
  ·exact ha.tmp t
  ·exact ha.size
  ·show _::a.defers=_;rw[ha.defers]
theorem mL {o:Oper} {j tj:Nat} {want:Bool} (hg:o.guard=some (j,want)) (hj:(ops[j]?).bind (·.dst)=some tj) (hw:ρ tj=.bool want)
  (h:LT P none base n o ρ O (fun gV O'=>TG P base n ops ds M Qf l gV O')):TG P base n ops ds M Qf (o::l) ρ O:=by
 intro a w ha hi
 refine wpListIn_step fun next fp=>?_
 have hy:=jH (ops:=ops) ha hj
 rw[hw]at hy
 have p8:Region.wanted o (yielded ops a.tmps)=true:=by unfold Region.wanted;rw[hg];simp[hy,MQ]
 rw[aO p8]
 exact h a w M ds ha hi next _ fun a' _ _ w' h1 h2 h3=>fp a' w' (h3 a' w' h1 h2)
theorem vq {d:Nat} {op:Op} {t:TypeId} {p:String} {af:Array Edge} {j tj:Nat} {want:Bool} (hj:(ops[j]?).bind (·.dst)=some tj) (hw:(MQ (ρ tj)==some want)=false) (hk:TG P base n ops ds M Qf l (o6 ρ d undef) O) (hn:Nat.blt d n=true:=by rfl):
  TG P base n ops ds M Qf (⟨some d,op,t,p,af,some (j,want)⟩::l) ρ O:=by
 intro a w ha hi
 refine wpListIn_step fun next fp=>?_
 have hy:=jH (ops:=ops) ha hj
 have p8:Region.wanted ⟨some d,op,t,p,af,some (j,want)⟩ (yielded ops a.tmps)=false:=by unfold Region.wanted;simp only[hy];exact hw
 rw[p8]
 exact⟨fun _ _=>trivial,fp _ _ (hk _ _ (ha.put hn undef) hi)⟩
theorem E0 {d:Nat} {t:TypeId} {p:String} {af:Array Edge} {f:FuncId} {fn:Func} {tm:Value} {args:List Operand} {yB:Array TypeId} {vs:List Value} {R:Value→List Item→Prop} {Z:Prop} (he:Enters P f fn)
  (hc: ∀w,Inv base (O++M) w→dB P w tm f vs [] R Z) (ha:Hf ρ args=vs) (hz: ∀a w,Ag n ds a ρ→Inv base (O++M) w→Z→Qf (.panic [{v:=tm,recovered:=false}]) a w) (h: ∀v N,R v N→TG P base n ops ds M Qf l (o6 ρ d v) (N++O)) (hn:Nat.blt d n=true:=by rfl):
  TG P base n ops ds M Qf (⟨some d,.call ⟨.value (.func f),args.toArray,yB⟩,t,p,af,none⟩::l) ρ O:=by
 subst ha
 intro a w ha hi
 refine wpListIn_plain F fun next fp=>?_
 have s4: ¬fn.name= "runtime.NumGoroutine" :=by simpa using he.2.1
 obtain⟨bd,Nx⟩:=Option.isSome_iff_exists.1 he.2.2
 have hr:(execOp a.eval ⟨some d,.call ⟨.value (.func f),args.toArray,yB⟩,t,p,af,none⟩).run P w=.ok (.enter f (Hf ρ args).toArray) w:=by
  rw[ha.eval,sg]
  simp[kX,ev,Deferred.ofValue,invoke,callFunc,he.1,s4,Nx]
 refine lV (by intro c e;cases e) ?_
 rw[hr,Oper.uponIn_enter]
 refine⟨fun e=>by simp[Fr,Fence.wide]at e,m_ (Calls.mono (hc w hi w [] (Inv.refl w)) ?_)⟩
 rintro e w' (⟨v,O',rfl,n5,hR⟩|⟨rfl,n5,hZ⟩)
 ·refine fp _ _ (h v O' hR _ _ (ha.put hn v) ?_)
  have:=hi.call n5
  simpa[aI]using this
 ·refine hz _ _ ha ?_ hZ
  have:=hi.call n5
  simpa using this
end
end Go.Lx

namespace Go.Proofs.YtgdbfideeeegmaaGreatDoor
open Go.Lx Go.RowKit _root_.Go.Proofs.Tryz
theorem OR (w:World) (p q:Addr):CallsDIn Fence.wide 0 Tryz.prog 45 #[.pointer (some p),.pointer (some q)] .returning w fun e u' w'=>e=.returned (.tuple #[])∧u'=.returning∧w'=w:=by
 refine callsDIn_of_wpSIn func45 F trivial fun T8 cs hu=>?_
 apply wpSIn_seq
 apply wpSIn_region
 simp[wpOpsSIn,go_sem,recoverD,hu,ntmps45,Exit.thenS,Fence.wide]
 apply wpSIn_seq
 apply wpSIn_region
 simp[wpOpsSIn,go_sem,hu,Exit.thenS]
 refine wpSIn_cond (t:=false) (by simp[Act.eval,Array.replicate]) ?_
 simp only[Bool.false_eq_true,if_false]
 refine wpSIn_of_wpIn F (wpIn_skip ?_)
 cases T8
 simp_all[bodyPostS,results,Tryz.results45]
def zD:List Value:=[.int .i64 0,.int .i64 0,.slice none 0 0,.slice none 0 0]
set_option maxRecDepth 20000 in
theorem Lv (base:World) (z6 z7:Nat) (M:List Lx.Item) (w:World) (T0:TypeId) (x:Value) (hI:Inv base ([oI z6 25 zD,oI z7 27 [.int .i64 0]]++M) w):
  CallsDIn Fence.wide 0 Tryz.prog 45 #[.pointer (some ⟨z6,0,none⟩),.pointer (some ⟨z7,0,none⟩)] (.panicking [{v:=.iface T0 x,recovered:=false}]) w fun e u' w'=>
   e=.returned (.tuple #[])∧u'=.panicking [{v:=.iface T0 x,recovered:=true}]∧Inv base ([oI z6 25 zD,oI z7 27 [.int .i64 10]]++M) w':=by
 refine callsDIn_of_wpSIn func45 F trivial fun T8 cs hu=>?_
 apply wpSIn_seq
 apply wpSIn_region
 simp[wpOpsSIn,go_sem,recoverD,hu,ntmps45,Exit.thenS,Fence.wide]
 apply wpSIn_seq
 apply wpSIn_region
 simp[wpOpsSIn,go_sem,Exit.thenS]
 refine wpSIn_cond (t:=true) (by simp[Act.eval,Array.replicate]) ?_
 simp only[if_true]
 refine wpSIn_of_wpIn F ?_
 refine TG.region (base:=base) (n:=7) (ds:=[]) (M:=M) (ρ:=fun t=>Array.getD _ t undef) (O:=[oI z6 25 zD,oI z7 27 [.int .i64 0]]) ?_ ⟨fun t=>rfl,by simp,F⟩ hI
 refine dZ (cE (cs:=zD) jp bL (by kernel_rfl)) ?_
 refine gE F (vJ (v:=.agg zD.toArray) (vs:=zD) 0 bL F F F F F F (by simp) ?_)
 refine gE F (vJ (v:=.int .i64 10) (vs:=[.int .i64 10]) 1 iZ F F F F F F (by simp) ?_)
 refine TG.nil fun a w' ha n5=>?_
 have hd:=ha.defers
 cases T8
 simp_all[bodyPostS,results,Tryz.results45]
 exact n5
end Go.Proofs.YtgdbfideeeegmaaGreatDoor

namespace Go.Proofs.YtgdbfideeeegmaaGreatDoor
open Go.Lx Go.RowKit _root_.Go.Proofs.Tryz
def FrR (E:Nat) (jE:Int) (G:cU→Prop) (Z:Prop) (v:Value) (O':List Lx.Item):Prop:=
 (E≠0∧v=.tuple #[.agg zD.toArray,.int .i64 (E:Int)]∧O'=[])∨(E=0∧ ¬(1≤jE∧jE≤4096)∧v=.tuple #[.agg zD.toArray,.int .i64 1]∧O'=[])∨
 (E=0∧(1≤jE∧jE≤4096)∧((∃M k,v=.tuple #[dV M k,.int .i64 0]∧O'=[dI 56 4 3 M k]∧G M)∨(v=.tuple #[.agg zD.toArray,.int .i64 10]∧O'=[]∧Z)))
abbrev RF (base:World) (M:List Lx.Item) (R:Value→List Lx.Item→Prop):Ending→World→Prop:=fun e Nr=> ∃v O',e=.returned v∧Inv base (O'++M) Nr∧R v O'
theorem C8 {base w:World} {M O:List Lx.Item} {tmps:Array Value} {ρ:Env} {R:Value→List Lx.Item→Prop} (ht: ∀t,tmps.getD t undef=ρ t) (hI:Inv base (O++M) w) (hr:qZ Tryz.prog base Tryz.f19 ρ O R):LeavesInM Fence.wide 0 Tryz.prog Tryz.f19 tmps (RF base M R) [] .returning w:=by
 obtain⟨v,yj,yy,hR,hr⟩:=hr.ex
 exact⟨v,hr w tmps hI.left ht,v,yj,F,hI.kn yy.pG,hR⟩
theorem dfr (z6 z7:Nat) (w:World):(invoke (.fn (.func 45) #[.pointer (some ⟨z6,0,none⟩),.pointer (some ⟨z7,0,none⟩)]) #[]).run Tryz.prog w=.ok (.enter 45 #[.pointer (some ⟨z6,0,none⟩),.pointer (some ⟨z7,0,none⟩)]) w:=by
 have s4: ¬Tryz.f45.name= "runtime.NumGoroutine" :=by simpa using Lq.2.1
 obtain⟨bd,Nx⟩:=Option.isSome_iff_exists.1 Lq.2.2
 simp[invoke,callFunc,Lq.1,s4,Nx]
theorem QX (base:World) [dE Tryz.prog base] (eb:Option Addr) (en ec:Nat) (vars:Int) (E:Nat) (jE:Int) (G:cU→Prop) (Z:Prop)
  (aai: ∀w1 [dE Tryz.prog w1],Inv base [] w1→cH Tryz.prog 28 [.slice eb en ec,.int .i64 vars] w1 fun v N=>v=.int .i64 (E:Int)∧N=[])
  (hC:E=0→1≤jE→jE≤4096→ ∀(w8:World) [dE Tryz.prog w8] (cb:Nat),Inv base [] w8→Sl w8 (some ⟨cb,0,none⟩) [.slice eb en ec,.int .i64 vars,.int .i64 jE]→dB Tryz.prog w8 (.iface 163 (.agg #[])) 46 [dW (some ⟨cb,0,none⟩) 0] [] (fun v N=> ∃M k',v=dV M k'∧N=[dI 56 4 3 M k']∧G M) Z):
  bW Tryz.prog base 19 [.slice eb en ec,.int .i64 vars,.int .i64 jE] [] (FrR E jE G Z):=by
 intro w M hI
 rw[←callsIn_wide (n:=0)]
 refine callsIn_of_wp_marks func19 F trivial ?_
 have ha:Ag 32 [] {tmps:=([.slice eb en ec,.int .i64 vars,.int .i64 jE]:List Value).toArray++Array.replicate (Tryz.f19.ntmps-([.slice eb en ec,.int .i64 vars,.int .i64 jE]:List Value).toArray.size) undef,defers:=[]} (entry [.slice eb en ec,.int .i64 vars,.int .i64 jE]):=by
  rw[ntmps19]
  refine⟨fun t=>?_,by simp,F⟩
  show(_++_:Array Value).getD t undef=List.getD _ t undef
  rw[da,av]
  by_cases h:t<3
  ·rw[Array.getElem?_append_left (by simpa using h)];simp
  ·rw[Array.getElem?_append_right (by simpa using h),Array.getElem?_replicate,bZ (by simpa using h)]
   split<;>rfl
 refine wpIn_seq ?_
 refine TG.region (O:=[]) ?_ ha hI
 refine gE F (bs bL F (fun z6=>?_))
 refine gE F (bs iZ F (fun z7=>?_))
 refine TG.nil fun a w ha hI=>?_
 refine wpIn_seq ?_
 refine wpIn_seq ?_
 refine TG.region ?_ ha hI
 refine dZ (aN F) (dZ (aN F) ?_)
 refine gE F (bl Xy (aX (fun w1 hI=>(haveI:=et hI;aai w1 hI.nD))) F ?_)
 rintro vr O' ⟨N,rfl,rfl,rfl⟩
 refine dZ (cx F) ?_
 refine TG.nil fun a w ha hI=>?_
 refine wpIn_seq ?_
 refine TG.region ?_ ha hI
 refine dZ (aN F) (dZ (dQ F F) ?_)
 refine TG.nil fun a w ha hI=>?_
 by_cases hE:E=0
 case neg=>
  refine wpIn_cond (t:=true) (by rw[ha.eval];show Value.bool (decide ((E:Int)≠0))=Value.bool true;rw[ay (show(E:Int)≠0 by omega)]) ?_
  simp only[if_true]
  refine wpIn_seq ?_
  refine TG.region ?_ ha hI
  refine dZ (cE (cs:=zD) jp bL (by kernel_rfl)) (dZ (aN F) ?_)
  refine gE F (vJ (v:=.agg zD.toArray) (vs:=zD) 1 bL F F F F F F (by decide) ?_)
  refine gE F (vJ (v:=.int .i64 (E:Int)) (vs:=[.int .i64 (E:Int)]) 0 iZ F F F F F F (by simp) ?_)
  refine TG.nil fun a w ha hI=>wpIn_ret ?_
  show LeavesInM _ _ _ _ _ _ a.defers _ w
  rw[ha.defers]
  refine C8 ha.tmp hI (aA ?_)
  refine iF (i:=1) (j:=0) Tryz.results19 cZ F bL oD F F F F F F ?_
  exact⟨[],Sub.z,.inl ⟨hE,F,F⟩⟩
 subst hE
 refine wpIn_cond (t:=false) (by rw[ha.eval];rfl) ?_
 simp only[Bool.false_eq_true,if_false]
 refine wpIn_skip ?_
 refine wpIn_seq ?_
 refine wpIn_seq ?_
 refine TG.region (base:=base) (n:=32) (ds:=[]) (M:=M) (ρ:=fun t=>a.tmps.getD t undef) (O:=[dF z7 (.cells #[.int .i64 0] 27 (0,0)),dF z6 (.cells #[.int .i64 0,.int .i64 0,.slice none 0 0,.slice none 0 0] 25 (0,0))]) ?_ ⟨fun t=>rfl,ha.size,ha.defers⟩ hI
 have h2:a.tmps.getD 2 undef=.int .i64 jE:=by rw[ha.tmp];rfl
 have h0:a.tmps.getD 0 undef=.slice eb en ec:=by rw[ha.tmp];rfl
 have h1:a.tmps.getD 1 undef=.int .i64 vars:=by rw[ha.tmp];rfl
 have h6:a.tmps.getD 6 undef=.pointer (some ⟨z6,0,none⟩):=by rw[ha.tmp];rfl
 have h7:a.tmps.getD 7 undef=.pointer (some ⟨z7,0,none⟩):=by rw[ha.tmp];rfl
 generalize Uz:(fun t=>a.tmps.getD t undef)=ρ
 have r2:ρ 2=.int .i64 jE:=by rw[←Uz];exact h2
 have r0:ρ 0=.slice eb en ec:=by rw[←Uz];exact h0
 have r1:ρ 1=.int .i64 vars:=by rw[←Uz];exact h1
 have r6:ρ 6=.pointer (some ⟨z6,0,none⟩):=by rw[←Uz];exact h6
 have r7:ρ 7=.pointer (some ⟨z7,0,none⟩):=by rw[←Uz];exact h7
 clear h2 h0 h1 h6 h7 Uz
 by_cases Hr:jE<1
 ·refine dZ (aN F) (dZ (bK (cT (a:=jE) (b:=1) r2 F) (v':=.bool true) (by rw[ay Hr])) (dZ (aN F) ?_))
  refine vq F F (vq F F (dZ (cA F F) ?_))
  refine TG.nil fun a w ha hI=>?_
  refine wpIn_cond (t:=true) (by rw[ha.eval];rfl) ?_
  simp only[if_true]
  refine wpIn_seq ?_
  refine TG.region ?_ ha hI
  refine dZ (cE (cs:=zD) jp bL (by kernel_rfl)) ?_
  refine gE F (vJ (v:=.agg zD.toArray) (vs:=zD) 1 bL r6 F F F F F (by decide) ?_)
  refine gE F (vJ (v:=.int .i64 1) (vs:=[.int .i64 1]) 0 iZ r7 F F F F F (by decide) ?_)
  refine TG.nil fun a w ha hI=>wpIn_ret ?_
  show LeavesInM _ _ _ _ _ _ a.defers _ w
  rw[ha.defers]
  refine C8 ha.tmp hI (aA ?_)
  refine iF (i:=1) (j:=0) Tryz.results19 cZ F bL oD F r6 r7 F F F ?_
  exact⟨[],Sub.z,.inr (.inl ⟨F,by omega,F,F⟩)⟩
 ·refine dZ (aN F) (dZ (bK (cT (a:=jE) (b:=1) r2 F) (v':=.bool false) (by rw[ak Hr])) (dZ (aN F) ?_))
  by_cases D8:4096<jE
  ·refine mL F F F (d_ F F (aN F) ?_)
   refine mL F F F (d_ F F (bK (iy (a:=jE) (b:=4096) r2 F) (v':=.bool true) (by rw[ay D8])) ?_)
   refine dZ (cg F F) ?_
   refine TG.nil fun a w ha hI=>?_
   refine wpIn_cond (t:=true) (by rw[ha.eval];rfl) ?_
   simp only[if_true]
   refine wpIn_seq ?_
   refine TG.region ?_ ha hI
   refine dZ (cE (cs:=zD) jp bL (by kernel_rfl)) ?_
   refine gE F (vJ (v:=.agg zD.toArray) (vs:=zD) 1 bL r6 F F F F F (by decide) ?_)
   refine gE F (vJ (v:=.int .i64 1) (vs:=[.int .i64 1]) 0 iZ r7 F F F F F (by decide) ?_)
   refine TG.nil fun a w ha hI=>wpIn_ret ?_
   show LeavesInM _ _ _ _ _ _ a.defers _ w
   rw[ha.defers]
   refine C8 ha.tmp hI (aA ?_)
   refine iF (i:=1) (j:=0) Tryz.results19 cZ F bL oD F r6 r7 F F F ?_
   exact⟨[],Sub.z,.inr (.inl ⟨F,by omega,F,F⟩)⟩
  refine mL F F F (d_ F F (aN F) ?_)
  refine mL F F F (d_ F F (bK (iy (a:=jE) (b:=4096) r2 F) (v':=.bool false) (by rw[ak D8])) ?_)
  refine dZ (cg F F) ?_
  refine TG.nil fun a w ha hI=>?_
  refine wpIn_cond (t:=false) (by rw[ha.eval];rfl) ?_
  simp only[Bool.false_eq_true,if_false]
  refine wpIn_skip ?_
  refine wpIn_seq ?_
  refine TG.region ?_ ha hI
  refine dZ (bK eZ (v':=.func (.func 45) #[] #[.pointer (some ⟨z6,0,none⟩),.pointer (some ⟨z7,0,none⟩)]) (by show Value.func _ #[] #[ρ 6,ρ 7]=_;rw[r6,r7])) ?_
  refine TG.defer (f:=45) (gr:= #[.pointer (some ⟨z6,0,none⟩),.pointer (some ⟨z7,0,none⟩)]) F ?_
  refine TG.nil fun a w ha hI=>?_
  refine wpIn_seq ?_
  refine TG.region ?_ ha hI
  refine dZ (bK (aN F) (v':=.slice eb en ec) r0) (dZ (bK (aN F) (v':=.int .i64 vars) r1) (dZ (bK (aN F) (v':=.int .i64 jE) r2) ?_))
  refine dZ (cE (cs:=[.slice eb en ec,.int .i64 vars,.int .i64 jE]) Tv Xv (by kernel_rfl)) ?_
  refine gE F (dG (v:=.agg #[.slice eb en ec,.int .i64 vars,.int .i64 jE]) (cs:=[.slice eb en ec,.int .i64 vars,.int .i64 jE]) F F (fun zc=>?_))
  refine dZ (cx F) ?_
  refine TG.nil fun a w ha hI=>?_
  refine wpIn_seq ?_
  refine TG.region ?_ ha hI
  refine dZ (aN F) ?_
  refine E0 (tm:=.iface 163 (.agg #[])) Xz (vs:=[dW (some ⟨zc,0,none⟩) 0]) (R:=fun v N=> ∃M k',v=dV M k'∧N=[dI 56 4 3 M k']∧G M) (Z:=Z) (fun w hI=>(haveI:=et hI;hC F (by omega) (by omega) w zc hI.nD (hI.j_ (mG 0 F)))) F (fun a w ha hI hZ=>?_) ?_
  ·show LeavesInM _ _ _ _ _ _ a.defers _ w
   rw[ha.defers]
   refine⟨by simp,.inr ⟨fun h=>by simp[Fence.wide]at h,_,_,45,_,F,dfr z6 z7 w,fun _ _=>trivial,?_⟩⟩
   refine(Lv base z6 z7 M w 163 (.agg #[]) (hI.kn (Sub.pG (aC [2,1] F)))).mono ?_
   rintro e u' w' ⟨rfl,rfl,n5⟩
   refine C8 ha.tmp n5 (aA ?_)
   refine iF (i:=0) (j:=1) Tryz.results19 cZ F bL oD F r6 r7 F F F ?_
   exact⟨[],Sub.z,.inr (.inr ⟨F,by omega,.inr ⟨F,F,hZ⟩⟩)⟩
  rintro v N ⟨Md,kd,rfl,rfl,hG⟩
  refine gE F (vJ (v:=dV Md kd) (vs:=dC Md kd) 3 bL r6 F F F F F (show 0+4≤4 by decide) ?_)
  refine gE F (vJ (v:=.int .i64 0) (vs:=[.int .i64 0]) 2 iZ r7 F F F F F (by decide) ?_)
  refine TG.nil fun a w ha hI=>wpIn_ret ?_
  show LeavesInM _ _ _ _ _ _ a.defers _ w
  rw[ha.defers]
  refine⟨by simp,.inr ⟨fun h=>by simp[Fence.wide]at h,_,_,45,_,F,dfr z6 z7 w,fun _ _=>trivial,?_⟩⟩
  refine(OR w _ _).mono ?_
  rintro e u' w' ⟨rfl,rfl,rfl⟩
  refine C8 ha.tmp hI (aA ?_)
  refine iF (i:=3) (j:=2) Tryz.results19 cZ F bL oD F r6 r7 F F F ?_
  exact⟨[dI 56 4 3 Md kd],aC [0] F,.inr (.inr ⟨F,by omega,.inl ⟨Md,kd,F,F,hG⟩⟩)⟩
end Go.Proofs.YtgdbfideeeegmaaGreatDoor

namespace Go.Proofs.YtgdbfideeeegmaaGreatDoor
open Go.Lx Go.RowKit _root_.Go.Proofs.Tryz
theorem OP (w:World) [dE Tryz.prog w] (eb:Option Addr) (ec:Nat) (e:List dK) (hE:Sl w eb (bt e)) (wl:e.length≤64) (lF: ∀x∈e,x.p<256∧x.n<256) (v:Nat) (hv:v≤6):
  cH Tryz.prog 89 [.slice eb e.length ec,vN v] w fun r N=> ∃(b:Option Addr) (c er:Nat) (fs:List Nat),r=.tuple #[.slice b fs.length c,vI (er:Int)]∧N=[aq b c 3 1 (bS fs)]∧((jW v e=.error er∧er≠0)∨(jW v e=.ok fs∧er=0∧fs.length=e.length)):=by
 refine(fO 3 1 (OM w eb ec e hE wl lF v hv)).post ?_
 rintro r O' ⟨O2,rfl,⟨n,h1,rfl,rfl⟩|⟨fs,b,c,h1,rfl,rfl⟩⟩
 ·exact⟨_,Sub.rf,none,0,n,[],F,F,.inl ⟨h1,A5 h1⟩⟩
 ·obtain⟨gs,h2,h3,_,_⟩:=pq h1 e.length (bF _)
  rw[List.take_length]at h2
  rw[h2]at h1
  injection h1 with h1
  subst h1
  exact⟨_,aC [1] F,b,c,0,gs,by rw[h3];rfl,F,.inr ⟨h2,F,h3⟩⟩
theorem EX (w:World) [dE Tryz.prog w] (eb:Option Addr) (ec:Nat) (e:List dK) (hE:Sl w eb (bt e)) (wl:e.length<4611686018427387904) (lF: ∀x∈e,x.p<256∧x.n<256) (vars:Int):
  cH Tryz.prog 54 [.slice eb e.length ec,vI vars] w fun r N=> ∃b n c,r=.tuple #[.slice b n c,vI (gw vars e:Int)]∧N=[]:=by
 refine aF func54 F ntmps54 F ?_
 let gC:Value:=(.slice eb e.length ec)
 refine ai (ao F (dG (cs:=[gC]) F F (fun z1=>?_)))
 refine aj F (aj F (ae (aM (aU (ai (ah F (ad (cT F F) ?_)))))))
 by_cases Nl:vars<0
 ·refine ad (aB (aN F) (ay Nl)) ?_
  refine aV F F (aV F F (ad (cA F F) (aj F (ae ?_))))
  refine bO F ?_
  refine ai (aj F (aj F (ae (aK (aA ?_)))))
  refine dl nS (vI 7) Tryz.results54 F F ?_
  have e9:gw vars e=7:=by unfold gw;rw[aO (by omega)]
  exact⟨[],Sub.z,none,0,0,(by first|(rw[e9];done)|(rw[e9];rfl)),F⟩
 refine ad (aB (aN F) (ak Nl)) (aG F F (aN F) (aG F F (iy F F) (ad (cg F F) (aj F (ae (aP F (fun hc=>?_) (fun hc=>?_)))))))
 ·have Ts:vars<0∨6<vars:=by omega
  refine ai (aj F (aj F (ae (aK (aA ?_)))))
  refine dl nS (vI 7) Tryz.results54 F F ?_
  have e9:gw vars e=7:=by unfold gw;rw[aO (by omega)]
  exact⟨[],Sub.z,none,0,0,(by first|(rw[e9];done)|(rw[e9];rfl)),F⟩
 have Ts: ¬(vars<0∨6<vars):=by omega
 obtain⟨v,hvv⟩: ∃v:Nat,vars=(v:Int):=⟨vars.toNat,by omega⟩
 have Re:v≤6:=by omega
 have YR:vars.toNat=v:=by omega
 refine ai (ad (bi 0 cX F F F F) (ad (cQ cX F) (ad (bJ F F) (aj F (ae (aP F (fun hc=>?_) (fun hc=>?_)))))))
 ·have CQ:e.length=0:=by omega
  have Hp:e.length=0:=by omega
  refine ai (aj F (aj F (ae (aK (aA ?_)))))
  refine dl nS (vI 3) Tryz.results54 F F ?_
  have e9:gw vars e=3:=by unfold gw;rw[az Ts,aO Hp]
  exact⟨[],Sub.z,none,0,0,(by first|(rw[e9];done)|(rw[e9];rfl)),F⟩
 have WJ: ¬e.length=0:=by omega
 have Hp: ¬e.length=0:=by omega
 refine ai (ad (bi 0 cX F F F F) (ad (cQ cX F) (ad (iy F F) (aj F (ae (aP F (fun hc=>?_) (fun hc=>?_)))))))
 ·have xF:e.length>64:=by omega
  have Ej:64<e.length:=by omega
  refine ai (aj F (aj F (ae (aK (aA ?_)))))
  refine dl nS (vI 4) Tryz.results54 F F ?_
  have e9:gw vars e=4:=by unfold gw;rw[az Ts,az Hp,aO Ej]
  exact⟨[],Sub.z,none,0,0,(by first|(rw[e9];done)|(rw[e9];rfl)),F⟩
 have Qw: ¬e.length>64:=by omega
 have Ej: ¬64<e.length:=by omega
 refine aE (ai (ad (bi 0 cX F F F F) (ad (bK (aN F) (v':=vN v) (by show Value.int .i64 vars=_;rw[hvv])) ?_)))
 have tp:=fun(w1:World) (hI:Inv w [oI z1 32 [gC]] w1)=>(haveI:=et hI;OP w1 eb ec e (hI.sl hE) (by omega) lF v Re)
 refine ao F (bl Xt (aX tp) F ?_)
 clear tp
 rintro vr O' ⟨N,rfl,b,c,er,fs,rfl,rfl,Qy⟩
 refine ah F (ad (bE (vs:=_) F F) (ad (bE (vs:=_) F F) (aj F (aj F (ae (aM (ai (ah F (ad (dQ F F) (ae (aP F (fun hc=>?_) (fun hc=>?_))))))))))))
 ·have acq:er≠0:=by omega
  have her:er≠0:=by omega
  have hbe:jW v e=.error er:=Qy.elim (fun h=>h.1) (fun h=>absurd h.2.1 her)
  refine ai (ah F (aj F (aj F (ae (aK (aA ?_))))))
  refine dl nS (vN er) Tryz.results54 F F ?_
  have e9:gw vars e=er:=by unfold gw;rw[az Ts,az Hp,az Ej,YR,hbe]
  exact⟨[],Sub.z,none,0,0,(by first|(rw[e9];done)|(rw[e9];rfl)),F⟩
 have acr: ¬er≠0:=by omega
 have her:er=0:=by omega
 obtain⟨YS,_,rL⟩:=Qy.resolve_left (fun h=>h.2 her)
 refine aE (aM (ai (ah F (ad (bi 1 cX F F F F) (ad (cQ cX F) (ad (bK (fH F F (by omega)) (v':=vN (e.length-1)) (ax (Value.int .i64) (by omega))) (ad (dU (i:=(e.length-1)) cL bj F F (dR (mG 0 F)) (by omega) (by rw[ar];omega)) (ad (de dP F F (dR (mG 0 F)) (lR (show e.length-1<fs.length by omega))) (ad (dQ F F) (ae (aP F (fun hc=>?_) (fun hc=>?_))))))))))))
 ·have zL:(fs.getD (e.length-1) 0)≠0:=by omega
  have R3:fs.getD (e.length-1) 0≠0:=by omega
  refine ai (aj F (aj F (ae (aK (aA ?_)))))
  refine dl nS (vI 2) Tryz.results54 F F ?_
  have e9:gw vars e=2:=by unfold gw;rw[az Ts,az Hp,az Ej,YR,YS];show(if _ then _ else _)=_;first|(rw[aO R3];done)|(rw[az R3,az Xj];done)
  exact⟨[],Sub.z,none,0,0,(by first|(rw[e9];done)|(rw[e9];rfl)),F⟩
 have WV: ¬(fs.getD (e.length-1) 0)≠0:=by omega
 have R3: ¬fs.getD (e.length-1) 0≠0:=by omega
 refine aE (ai (ao F (bs Lm F (fun z2=>?_))))
 let eP:Value:=(.func (.func 90) #[] #[(.pointer (aD z1)),(.pointer (aD z2))])
 refine ae (ai (ad (eZ) (ao F (bN (vs:=[eP]) 0 Lm F F F F ?_))))
 refine ae (aM (ai (ad (bi 0 Lj F F F F) (ad (bi 2 cX F F F F) (ad (cQ cX F) (ad (bK (fH F F (by omega)) (v':=vN (e.length-1)) (ax (Value.int .i64) (by omega))) ?_))))))
 have Xu:=(ep (base:=w) (O:=[oI z2 140 [eP],aq b c 3 1 (bS fs),oI z1 32 [gC]]) fun w1 hI=>haveI:=et hI;haveI:=et hI;cP (first:=[]) (args:=[vN (e.length-1),.bool true]) (gr:=[(dW (aD z1) 0),(dW (aD z2) 0)]) Ll (Tr w1 eb ec e (hI.sl hE) z1 z2 (hI.j_ (mG 2 F)) (hI.j_ (mG 0 F)) (qw YS) e.length (e.length-1) (by omega) (by omega) true))
 refine ao F (eN Xu F F ?_)
 clear Xu
 rintro vr O' ⟨N,rfl,rfl,rfl⟩
 refine ad (jh F) (ae (T.cond F (fun hc=>?_) (fun hc=>?_)))
 ·have Xj: ¬mq e e.length (e.length-1) true=true:=by simpa using hc
  refine ai (aj F (aj F (ae (aK (aA ?_)))))
  refine dl nS (vI 2) Tryz.results54 F F ?_
  have e9:gw vars e=2:=by unfold gw;rw[az Ts,az Hp,az Ej,YR,YS];show(if _ then _ else _)=_;first|(rw[aO R3];done)|(rw[az R3,az Xj];done)
  exact⟨[],Sub.z,none,0,0,(by first|(rw[e9];done)|(rw[e9];rfl)),F⟩
 have Xj:mq e e.length (e.length-1) true=true:=by simpa using hc
 refine aE (ai (ah F (aj F (aj F (ae (aK (aA ?_)))))))
 refine dl (.slice b fs.length c) (vI 0) Tryz.results54 F F ?_
 have e9:gw vars e=0:=by unfold gw;rw[az Ts,az Hp,az Ej,YR,YS];show(if _ then _ else _)=_;rw[az R3,aO Xj]
 exact⟨[],Sub.z,b,fs.length,c,(by first|(rw[e9];done)|(rw[e9];rfl)),F⟩
theorem Gc (w:World) [dE Tryz.prog w] (eb:Option Addr) (ec:Nat) (e:List dK) (hE:Sl w eb (bt e)) (wl:e.length<4611686018427387904) (lF: ∀x∈e,x.p<256∧x.n<256) (vars:Int):
  cH Tryz.prog 28 [.slice eb e.length ec,vI vars] w fun r N=>r=vI (gw vars e:Int)∧N=[]:=by
 refine aF func28 F ntmps28 F ?_
 refine ai (aj F (ae (ai (ah F (ah F ?_)))))
 have qx:=fun(w1:World) (hI:Inv w [] w1)=>(haveI:=et hI;EX w1 eb ec e (hI.sl hE) wl lF vars)
 refine ao F (bl Ln (aX qx) F ?_)
 clear qx
 rintro vr O' ⟨N,rfl,b,n,c,rfl,rfl⟩
 refine ah F (ad (bE (vs:=_) F F) (ad (bE (vs:=_) F F) (aj F (aj F (ae (ai (ah F (aj F (ae (aK (aA ?_)))))))))))
 refine aS (vI (gw vars e:Int)) Tryz.results28 F ?_
 exact⟨[],Sub.z,F,F⟩
end Go.Proofs.YtgdbfideeeegmaaGreatDoor

namespace Go.Proofs.YtgdbfideeeegmaaGreatDoor
open Go.Lx Go.RowKit _root_.Go.Proofs.Tryz
def oW (e:List dK):Rx:=jy e e.length (e.length-1)
noncomputable def mx (v:Nat) (e:List dK):Lg:=if e.any lm=true then Ut v (oW e)else gB (oW e)
def Bx (v:Nat) (e:List dK) (B:Nat):Prop:=if e.any lm=true then okC v (oW e) B else kQ v (oW e) B
theorem pm {vars:Int} {e:List dK} (h:gw vars e=0):0≤vars∧vars≤6∧0<e.length∧e.length≤64∧ ∃fs,jW vars.toNat e=.ok fs∧fs.getD (e.length-1) 0=0∧mq e e.length (e.length-1) true=true:=by
 unfold gw at h
 split at h
 ·omega
 ·split at h
  ·omega
  ·split at h
   ·omega
   ·cases hb:jW vars.toNat e with
    |error n=>simp only[hb]at h;exact absurd h (A5 hb)
    |ok fs=>
     simp only[hb]at h
     split at h
     ·omega
     ·split at h
      ·rename_i h1 h2 h3 h4 h5
       exact⟨by omega,by omega,by omega,by omega,fs,F,by omega,h5⟩
      ·omega
set_option maxRecDepth 20000 in
theorem J7 (base:World) [dE Tryz.prog base] (eb:Option Addr) (ec:Nat) (e:List dK) (hE:Sl base eb (bt e)) (wl:e.length<4611686018427387904) (lF: ∀x∈e,x.p<256∧x.n<256) (vars jE:Int) (D6:e.any lm=true→e.length≤24) {K:Nat} (Xi:K<137438953472) (A3: ∀cb,Tn cb eb e.length ec vars.toNat jE.toNat e)
  (hK:gw vars e=0→e.any lm=true→okB vars.toNat (oW e) jE.toNat→qy (mr vars.toNat (oW e)) K):
  bW Tryz.prog base 19 [.slice eb e.length ec,.int .i64 vars,.int .i64 jE] [] (FrR (gw vars e) jE (fun M=>fM vars jE.toNat M (mx vars.toNat e)∧Bx vars.toNat e jE.toNat) (¬Bx vars.toNat e jE.toNat)):=by
 refine QX base eb e.length ec vars (gw vars e) jE _ _ (fun w1 _ hI=>Gc w1 eb ec e (hI.sl hE) wl lF vars) ?_
 intro h0 Hr D8 w8 _ cb hI eV
 obtain⟨h1,h2,h3,h4,fs,h5,h6,h7⟩:=pm h0
 obtain⟨v,rfl⟩: ∃v:Nat,vars=(v:Int):=⟨vars.toNat,by omega⟩
 obtain⟨B,rfl⟩: ∃B:Nat,jE=(B:Int):=⟨jE.toNat,by omega⟩
 simp only[Int.toNat_natCast]at*
 have zQ:re e (oW e) (e.length-1):=jX h5 lF e.length (e.length-1) (by omega) (by omega)
 by_cases hl:e.any lm=true
 ·have hw:(oW e).wf=true:=(rm h5 e.length (e.length-1) (by omega) (by omega)).2 h7
  have IV:(oW e).lv≤12:=by
   have:=wm h5 e.length (e.length-1) (by omega) (by omega)
   have:=D6 hl
   unfold oW;omega
  refine(Lh w8 cb eb e.length ec v B eV (by omega) (by omega) (by omega) e (hI.sl hE) F h3 h4 (oW e) zQ (A3 cb) hl hw IV Xi (fun ho=>Ek (by omega) (by omega) hw IV ho) (fun ho=>hK h0 hl ho)).mono ?_ ?_
  ·rintro r O' ⟨M,k,rfl,rfl,hM,hO⟩
   exact⟨M,k,F,F,by unfold mx;rw[aO hl];exact hM,by unfold Bx;rw[aO hl];exact hO⟩
  ·intro hz;unfold Bx;rw[aO hl];exact hz
 ·have hlf:e.any lm=false:=by simpa using hl
  have hp:(oW e).plain=true:=pA h5 (fun x hx=>by
   have:=List.any_eq_false.1 hlf x hx
   unfold lm at this
   simp only[Bool.or_eq_true,cD]at this
   omega) e.length (e.length-1) (by omega) (by omega)
  refine(H5 w8 cb eb e.length ec v B eV (by omega) (by omega) (by omega) e (hI.sl hE) F h3 h4 (oW e) zQ (A3 cb).pl hlf hp).mono ?_ ?_
  ·rintro r O' ⟨M,k,rfl,rfl,hM,hO⟩
   exact⟨M,k,F,F,by unfold mx;rw[az hl];exact hM,by unfold Bx;rw[az hl];exact hO⟩
  ·intro hz;unfold Bx;rw[az hl];exact hz
def XI (E:Nat) (jE:Int) (G:cU→Prop) (Z:Prop) (D:cU) (er:Nat):Prop:=
 (E≠0∧er=E∧D=DH)∨(E=0∧ ¬(1≤jE∧jE≤4096)∧er=1∧D=DH)∨(E=0∧(1≤jE∧jE≤4096)∧((er=0∧G D)∨(er=10∧D=DH∧Z)))
theorem FR {base:World} {eb:Option Addr} {ec E n:Nat} {vars jE:Int} {G:cU→Prop} {Z:Prop} (h:bW Tryz.prog base 19 [.slice eb n ec,.int .i64 vars,.int .i64 jE] [] (FrR E jE G Z)):
  cH Tryz.prog 19 [.slice eb n ec,.int .i64 vars,.int .i64 jE] base fun v N=> ∃D k er,v=.tuple #[dV D k,.int .i64 ((er:Nat):Int)]∧N=[dI 56 4 3 D k]∧XI E jE G Z D er:=by
 refine(Ap 56 4 3 h).post ?_
 rintro v O' ⟨O2,rfl,h⟩
 rcases h with⟨h1,rfl,rfl⟩|⟨h1,h2,rfl,rfl⟩|⟨h1,h2,⟨M,k,rfl,rfl,hG⟩|⟨rfl,rfl,hZ⟩⟩
 ·exact⟨_,Sub.rf,DH,UI,E,F,F,.inl ⟨h1,F,F⟩⟩
 ·exact⟨_,Sub.rf,DH,UI,1,F,F,.inr (.inl ⟨h1,h2,F,F⟩)⟩
 ·exact⟨_,aC [1] F,M,k,0,F,F,.inr (.inr ⟨h1,h2,.inl ⟨F,hG⟩⟩)⟩
 ·exact⟨_,Sub.rf,DH,UI,10,F,F,.inr (.inr ⟨h1,h2,.inr ⟨F,F,hZ⟩⟩)⟩
end Go.Proofs.YtgdbfideeeegmaaGreatDoor

namespace Go.Lx
open Go.RowKit Go.Proofs.YtgdbfideeeegmaaGreatDoor
def eJ:Rx→Rx
 | .gZ a b=>.gZ (eJ b) (eJ a)
 | .iv a b=>.iv (eJ a) (eJ b)
 | .and a b=>.and (eJ a) (eJ b)
 | .not a=>.not (eJ a)
 | .star a=>.star (eJ a)
 | .ahead a=>.behind (eJ a)
 | .behind a=>.ahead (eJ a)
 | .none=>.none
 | .empty=>.empty
 | .letter p n=>.letter p n
theorem ez: ∀t:Rx,(eJ t).sz=t.sz
 | .gZ a b=>by simp only[eJ,Rx.sz,ez a,ez b];omega
 | .iv a b=>by simp only[eJ,Rx.sz,ez a,ez b]
 | .and a b=>by simp only[eJ,Rx.sz,ez a,ez b]
 | .not a=>by simp only[eJ,Rx.sz,ez a]
 | .star a=>by simp only[eJ,Rx.sz,ez a]
 | .ahead a=>by simp only[eJ,Rx.sz,ez a]
 | .behind a=>by simp only[eJ,Rx.sz,ez a]
 | .none=>rfl
 | .empty=>rfl
 | .letter _ _=>rfl
theorem gk: ∀t:Rx,(eJ t).plain=t.plain
 | .gZ a b=>by simp only[eJ,Rx.plain,gk a,gk b,Bool.and_comm]
 | .iv a b=>by simp only[eJ,Rx.plain,gk a,gk b]
 | .and a b=>by simp only[eJ,Rx.plain,gk a,gk b]
 | .not a=>by simp only[eJ,Rx.plain,gk a]
 | .star a=>by simp only[eJ,Rx.plain,gk a]
 | .ahead a=>rfl
 | .behind a=>rfl
 | .none=>rfl
 | .empty=>rfl
 | .letter _ _=>rfl
theorem tZ: ∀t:Rx,(eJ t).wf=t.wf
 | .gZ a b=>by simp only[eJ,Rx.wf,tZ a,tZ b,Bool.and_comm]
 | .iv a b=>by simp only[eJ,Rx.wf,tZ a,tZ b]
 | .and a b=>by simp only[eJ,Rx.wf,Rx.plain,gk a,gk b]
 | .not a=>by simp only[eJ,Rx.wf,Rx.plain,gk a]
 | .star a=>by simp only[eJ,Rx.wf,Rx.plain,gk a]
 | .ahead a=>by simp only[eJ,Rx.wf,gk a]
 | .behind a=>by simp only[eJ,Rx.wf,gk a]
 | .none=>rfl
 | .empty=>rfl
 | .letter _ _=>rfl
def post:Rx→Nat→List dK
 | .none,_=>[⟨1,0,0,0,0⟩]
 | .empty,_=>[⟨2,0,0,0,0⟩]
 | .letter p n,_=>[⟨3,p,n,0,0⟩]
 | .gZ a b,s=>post a s++(post b (s+a.sz)++[⟨4,0,0,((s+a.sz:Nat):Int)-1,((s+a.sz+b.sz:Nat):Int)-1⟩])
 | .iv a b,s=>post a s++(post b (s+a.sz)++[⟨5,0,0,((s+a.sz:Nat):Int)-1,((s+a.sz+b.sz:Nat):Int)-1⟩])
 | .and a b,s=>post a s++(post b (s+a.sz)++[⟨6,0,0,((s+a.sz:Nat):Int)-1,((s+a.sz+b.sz:Nat):Int)-1⟩])
 | .not a,s=>post a s++[⟨7,0,0,((s+a.sz:Nat):Int)-1,0⟩]
 | .star a,s=>post a s++[⟨8,0,0,((s+a.sz:Nat):Int)-1,0⟩]
 | .ahead a,s=>post a s++[⟨9,0,0,((s+a.sz:Nat):Int)-1,0⟩]
 | .behind a,s=>post a s++[⟨10,0,0,((s+a.sz:Nat):Int)-1,0⟩]
theorem fg: ∀(t:Rx) (s:Nat),(post t s).length=t.sz
 | .none,_| .empty,_| .letter _ _,_=>rfl
 | .gZ a b,s| .iv a b,s| .and a b,s=>by simp only[post,aw,bo,bV,fg a,fg b,Rx.sz];omega
 | .not a,s| .star a,s| .ahead a,s| .behind a,s=>by simp only[post,aw,bo,bV,fg a,Rx.sz]
theorem re.pG {e f:List dK}: ∀ {t:Rx} {i:Nat},re e t i→re (e++f) t i:=by
 have g: ∀ {x:dK} {i:Nat},e[i]? =some x→(e++f)[i]? =some x:=fun h=>by rw[bH (List.getElem?_eq_some_iff.1 h).1];exact h
 intro t
 induction t with
 |none=>exact g
 |empty=>exact g
 |letter p n=>exact fun h=>⟨g h.1,h.2⟩
 |gZ a b jl lS=>exact fun⟨j,k,h,ha,hb⟩=>⟨j,k,g h,jl ha,lS hb⟩
 |iv a b jl lS=>exact fun⟨j,k,h,ha,hb⟩=>⟨j,k,g h,jl ha,lS hb⟩
 |and a b jl lS=>exact fun⟨j,k,h,ha,hb⟩=>⟨j,k,g h,jl ha,lS hb⟩
 |not a jl=>exact fun⟨j,h,ha⟩=>⟨j,g h,jl ha⟩
 |star a jl=>exact fun⟨j,h,ha⟩=>⟨j,g h,jl ha⟩
 |ahead a jl=>exact fun⟨j,h,ha⟩=>⟨j,g h,jl ha⟩
 |behind a jl=>exact fun⟨j,h,ha⟩=>⟨j,g h,jl ha⟩
def Rx.MD (v:Nat):Rx→Prop
 | .letter p n=>gf v ⟨3,p,n,0,0⟩=0∧p<256∧n<256
 | .gZ a b| .iv a b| .and a b=>a.MD v∧b.MD v
 | .not a| .star a| .ahead a| .behind a=>a.MD v
 |_=>True
theorem nz {v:Nat}: ∀ {t:Rx},t.MD v→(eJ t).MD v
 | .gZ a b,h=>⟨nz h.2,nz h.1⟩
 | .iv a b,h| .and a b,h=>⟨nz h.1,nz h.2⟩
 | .not a,h| .star a,h| .ahead a,h| .behind a,h=>nz (t:=a) h
 | .none,h| .empty,h| .letter _ _,h=>h
theorem lT {α:Type} {e:List α} {x:α} {n:Nat} (h:e.length=n):(e++[x])[n]? =some x:=by subst h;simp
theorem post_at {v:Nat}: ∀ {t:Rx} (_:t.MD v) (pre:List dK),re (pre++post t pre.length) t (pre.length+t.sz-1)
 | .none,_,pre| .empty,_,pre=>by show(_++_)[_]? =_;exact lT F
 | .letter p n,h,pre=>⟨lT F,h.2⟩
 | .gZ a b,h,pre=>by
  have hb:=post_at h.2 (pre++post a pre.length)
  have e1:(pre++post a pre.length).length=pre.length+a.sz:=by rw[aw,fg]
  rw[e1]at hb
  have pa:=a.dN;have pb:=b.dN
  refine⟨pre.length+a.sz-1,pre.length+a.sz+b.sz-1,?_,?_,?_⟩
  ·simp only[post]
   rw[←aI (post a _),←aI pre,lT (by rw[aw,aw,fg,fg];simp only[Rx.sz];omega)]
   congr 2<;>omega
  ·simp only[post];rw[←aI pre];exact(post_at h.1 pre).pG
  ·simp only[post];rw[←aI pre,←aI (pre++_)];exact hb.pG
 | .iv a b,h,pre=>by
  have hb:=post_at h.2 (pre++post a pre.length)
  have e1:(pre++post a pre.length).length=pre.length+a.sz:=by rw[aw,fg]
  rw[e1]at hb
  have pa:=a.dN;have pb:=b.dN
  refine⟨pre.length+a.sz-1,pre.length+a.sz+b.sz-1,?_,?_,?_⟩
  ·simp only[post]
   rw[←aI (post a _),←aI pre,lT (by rw[aw,aw,fg,fg];simp only[Rx.sz];omega)]
   congr 2<;>omega
  ·simp only[post];rw[←aI pre];exact(post_at h.1 pre).pG
  ·simp only[post];rw[←aI pre,←aI (pre++_)];exact hb.pG
 | .and a b,h,pre=>by
  have hb:=post_at h.2 (pre++post a pre.length)
  have e1:(pre++post a pre.length).length=pre.length+a.sz:=by rw[aw,fg]
  rw[e1]at hb
  have pa:=a.dN;have pb:=b.dN
  refine⟨pre.length+a.sz-1,pre.length+a.sz+b.sz-1,?_,?_,?_⟩
  ·simp only[post]
   rw[←aI (post a _),←aI pre,lT (by rw[aw,aw,fg,fg];simp only[Rx.sz];omega)]
   congr 2<;>omega
  ·simp only[post];rw[←aI pre];exact(post_at h.1 pre).pG
  ·simp only[post];rw[←aI pre,←aI (pre++_)];exact hb.pG
 | .not a,h,pre| .star a,h,pre| .ahead a,h,pre| .behind a,h,pre=>by
  have pa:=a.dN
  refine⟨pre.length+a.sz-1,?_,?_⟩
  ·simp only[post]
   rw[←aI,lT (by rw[aw,fg];simp only[Rx.sz];omega)]
   congr 2;omega
  ·simp only[post]
   rw[←aI];exact(post_at (t:=a) h pre).pG
theorem re.Ra {e:List dK} {t:Rx} {i:Nat} (h:re e t i): ∃x,e[i]? =some x∧x.op=t.op:=by
 cases t<;>first|exact⟨_,h,F⟩|exact⟨_,h.1,F⟩|(obtain⟨j,k,h,_,_⟩:=h;exact⟨_,h,F⟩)|(obtain⟨j,h,_⟩:=h;exact⟨_,h,F⟩)
theorem re.rS {e:List dK} {t u:Rx} {i:Nat} (h:re e t i) (h2:re e u i):t.op=u.op:=by
 obtain⟨x,h3,h4⟩:=h.Ra
 obtain⟨y,h5,h6⟩:=h2.Ra
 rw[h3]at h5
 rw[←h4,←h6,df h5]
theorem re.abm {e:List dK}: ∀ {t u:Rx} {i:Nat},re e t i→re e u i→t=u:=by
 intro t
 induction t with
 |none=>
  intro u i h h2
  have e0:=h.rS h2
  cases u with
  |none=>rfl
  |_=>simp[Rx.op]at e0
 |empty=>
  intro u i h h2
  have e0:=h.rS h2
  cases u with
  |empty=>rfl
  |_=>simp[Rx.op]at e0
 |letter p n=>
  intro u i h h2
  have e0:=h.rS h2
  cases u with
  |letter p' n'=>
   obtain⟨_,e1,e2,_⟩:=dK.mk.inj (df (h.1.symm.trans h2.1))
   rw[e1,e2]
  |_=>simp[Rx.op]at e0
 |gZ a b jl lS=>
  intro u i h h2
  have e0:=h.rS h2
  cases u with
  |gZ a' b'=>
   obtain⟨j,k,h,ha,hb⟩:=h
   obtain⟨j',k',h3,D_,yi⟩:=h2
   obtain⟨_,_,_,e1,e2⟩:=dK.mk.inj (df (h.symm.trans h3))
   obtain rfl:j=j':=by omega
   obtain rfl:k=k':=by omega
   rw[jl ha D_,lS hb yi]
  |_=>simp[Rx.op]at e0
 |iv a b jl lS=>
  intro u i h h2
  have e0:=h.rS h2
  cases u with
  |iv a' b'=>
   obtain⟨j,k,h,ha,hb⟩:=h
   obtain⟨j',k',h3,D_,yi⟩:=h2
   obtain⟨_,_,_,e1,e2⟩:=dK.mk.inj (df (h.symm.trans h3))
   obtain rfl:j=j':=by omega
   obtain rfl:k=k':=by omega
   rw[jl ha D_,lS hb yi]
  |_=>simp[Rx.op]at e0
 |and a b jl lS=>
  intro u i h h2
  have e0:=h.rS h2
  cases u with
  |and a' b'=>
   obtain⟨j,k,h,ha,hb⟩:=h
   obtain⟨j',k',h3,D_,yi⟩:=h2
   obtain⟨_,_,_,e1,e2⟩:=dK.mk.inj (df (h.symm.trans h3))
   obtain rfl:j=j':=by omega
   obtain rfl:k=k':=by omega
   rw[jl ha D_,lS hb yi]
  |_=>simp[Rx.op]at e0
 |not a jl=>
  intro u i h h2
  have e0:=h.rS h2
  cases u with
  |not a'=>
   obtain⟨j,h,ha⟩:=h
   obtain⟨j',h3,D_⟩:=h2
   obtain⟨_,_,_,e1,_⟩:=dK.mk.inj (df (h.symm.trans h3))
   obtain rfl:j=j':=by omega
   rw[jl ha D_]
  |_=>simp[Rx.op]at e0
 |star a jl=>
  intro u i h h2
  have e0:=h.rS h2
  cases u with
  |star a'=>
   obtain⟨j,h,ha⟩:=h
   obtain⟨j',h3,D_⟩:=h2
   obtain⟨_,_,_,e1,_⟩:=dK.mk.inj (df (h.symm.trans h3))
   obtain rfl:j=j':=by omega
   rw[jl ha D_]
  |_=>simp[Rx.op]at e0
 |ahead a jl=>
  intro u i h h2
  have e0:=h.rS h2
  cases u with
  |ahead a'=>
   obtain⟨j,h,ha⟩:=h
   obtain⟨j',h3,D_⟩:=h2
   obtain⟨_,_,_,e1,_⟩:=dK.mk.inj (df (h.symm.trans h3))
   obtain rfl:j=j':=by omega
   rw[jl ha D_]
  |_=>simp[Rx.op]at e0
 |behind a jl=>
  intro u i h h2
  have e0:=h.rS h2
  cases u with
  |behind a'=>
   obtain⟨j,h,ha⟩:=h
   obtain⟨j',h3,D_⟩:=h2
   obtain⟨_,_,_,e1,_⟩:=dK.mk.inj (df (h.symm.trans h3))
   obtain rfl:j=j':=by omega
   rw[jl ha D_]
  |_=>simp[Rx.op]at e0
end Go.Lx

namespace Go.Lx
open Go.RowKit Go.Proofs.YtgdbfideeeegmaaGreatDoor
theorem Bm {v b:Nat} {fs:List Nat} {x:dK} (h:gG v fs x=.ok b): [x].foldl (mM v) (.ok fs)=.ok (fs++[b]):=by
 show mM v (.ok fs) x=_
 unfold mM;simp only[h]
theorem yP {fs gs:List Nat} {i:Nat} (h:i<fs.length):(fs++gs).getD i 0=fs.getD i 0:=by
 rw[av,av,bH h]
theorem nA {fs:List Nat} {b n:Nat} (h:fs.length=n):(fs++[b]).getD n 0=b:=by
 subst h;rw[av,lT F];rfl
theorem yf {v:Nat} {fs:List Nat} {x:dK} (h0:gf v x=0) (h1:dH x.op=0): ∃gs,[x].foldl (mM v) (.ok fs)=.ok (fs++gs)∧gs.length=1∧(fs++gs).getD (fs.length+1-1) 0=fs.length:=by
 refine⟨[fs.length],Bm ?_,F,nA F⟩
 unfold gG
 rw[az (by rw[h0];decide),az (by rw[h1];decide),az (by rw[h1];decide)]
theorem Bn {v s n:Nat} {fs ga:List Nat} {pa:List dK} {x:dK} (h:pa.foldl (mM v) (.ok fs)=.ok (fs++ga)) (hl:ga.length=n) (hn:1≤n) (hg:(fs++ga).getD (fs.length+n-1) 0=fs.length) (h0:gf v x=0) (h1:dH x.op=1) (ha:x.a=((fs.length+n:Nat):Int)-1):
  ∃gs,(pa++[x]).foldl (mM v) (.ok fs)=.ok (fs++gs)∧gs.length=n+1∧(fs++gs).getD (fs.length+(n+1)-1) 0=fs.length:=by
 have hL:(fs++ga).length=fs.length+n:=by rw[aw,hl]
 refine⟨ga++[fs.length],?_,by simp[hl],?_⟩
 ·rw[cO,h,Bm (b:=fs.length),aI]
  unfold gG
  rw[az (by rw[h0];decide),aO h1,az (by rw[hL,ha];omega),hL,hg]
 ·rw[←aI];exact nA (by rw[hL];omega)
theorem Fk {v n m:Nat} {fs ga gb:List Nat} {pa pb:List dK} {x:dK} (h:pa.foldl (mM v) (.ok fs)=.ok (fs++ga)) (hl:ga.length=n) (hn:1≤n) (hg:(fs++ga).getD (fs.length+n-1) 0=fs.length)
  (h':pb.foldl (mM v) (.ok (fs++ga))=.ok (fs++ga++gb)) (RG:gb.length=m) (hm:1≤m) (Vd:(fs++ga++gb).getD ((fs++ga).length+m-1) 0=(fs++ga).length) (h0:gf v x=0) (h1:dH x.op=2) (ha:x.a=((fs.length+n:Nat):Int)-1) (hb:x.b=((fs.length+n+m:Nat):Int)-1):
  ∃gs,(pa++(pb++[x])).foldl (mM v) (.ok fs)=.ok (fs++gs)∧gs.length=n+m+1∧(fs++gs).getD (fs.length+(n+m+1)-1) 0=fs.length:=by
 have hL:(fs++ga).length=fs.length+n:=by rw[aw,hl]
 have IP:(fs++ga++gb).length=fs.length+n+m:=by rw[aw,hL,RG]
 have hk:x.a.toNat=fs.length+n-1:=by rw[ha];omega
 refine⟨ga++gb++[fs.length],?_,by simp[hl,RG];omega,?_⟩
 ·rw[cO,h,cO,h',Bm (b:=fs.length),aI,aI,aI]
  rw[hL]at Vd
  unfold gG
  rw[az (by rw[h0];decide),az (by rw[h1];decide),aO h1,az (by rw[IP,Vd,ha,hb];omega),hk,yP (by rw[hL];omega),hg]
 ·rw[←aI,←aI];exact nA (by rw[IP];omega)
theorem jR {v:Nat}: ∀ {t:Rx} (_:t.MD v) (fs:List Nat),∃gs,(post t fs.length).foldl (mM v) (.ok fs)=.ok (fs++gs)∧gs.length=t.sz∧(fs++gs).getD (fs.length+t.sz-1) 0=fs.length
 | .none,_,fs=>yf (by simp[gf,dH]) F
 | .empty,_,fs=>yf (by simp[gf,dH]) F
 | .letter p n,h,fs=>yf h.1 F
 | .gZ a b,h,fs=>by
  obtain⟨ga,a1,a2,a3⟩:=jR h.1 fs
  obtain⟨gb,b1,b2,b3⟩:=jR h.2 (fs++ga)
  have e:fs.length+a.sz=(fs++ga).length:=by rw[aw,a2]
  exact Fk a1 a2 a.dN a3 (by rw[e];exact b1) b2 b.dN b3 (by simp[gf,dH]) F F F
 | .iv a b,h,fs=>by
  obtain⟨ga,a1,a2,a3⟩:=jR h.1 fs
  obtain⟨gb,b1,b2,b3⟩:=jR h.2 (fs++ga)
  have e:fs.length+a.sz=(fs++ga).length:=by rw[aw,a2]
  exact Fk a1 a2 a.dN a3 (by rw[e];exact b1) b2 b.dN b3 (by simp[gf,dH]) F F F
 | .and a b,h,fs=>by
  obtain⟨ga,a1,a2,a3⟩:=jR h.1 fs
  obtain⟨gb,b1,b2,b3⟩:=jR h.2 (fs++ga)
  have e:fs.length+a.sz=(fs++ga).length:=by rw[aw,a2]
  exact Fk a1 a2 a.dN a3 (by rw[e];exact b1) b2 b.dN b3 (by simp[gf,dH]) F F F
 | .not a,h,fs=>by
  obtain⟨ga,a1,a2,a3⟩:=jR (t:=a) h fs
  exact Bn (s:=0) a1 a2 a.dN a3 (by simp[gf,dH]) F F
 | .star a,h,fs=>by
  obtain⟨ga,a1,a2,a3⟩:=jR (t:=a) h fs
  exact Bn (s:=0) a1 a2 a.dN a3 (by simp[gf,dH]) F F
 | .ahead a,h,fs=>by
  obtain⟨ga,a1,a2,a3⟩:=jR (t:=a) h fs
  exact Bn (s:=0) a1 a2 a.dN a3 (by simp[gf,dH]) F F
 | .behind a,h,fs=>by
  obtain⟨ga,a1,a2,a3⟩:=jR (t:=a) h fs
  exact Bn (s:=0) a1 a2 a.dN a3 (by simp[gf,dH]) F F
theorem Ua {e:List dK}: ∀ {t:Rx} {i:Nat},re e t i→ ∀f,t.sz≤f→mq e f i true=t.wf∧mq e f i false=t.plain:=by
 intro t
 induction t with
 |none|empty=>
  intro i h f hf
  obtain⟨f,rfl⟩: ∃g,f=g+1:=⟨f-1,by simp only[Rx.sz]at hf;omega⟩
  obtain⟨hi,h1⟩:=List.getElem?_eq_some_iff.1 (show e[i]? =_ from h)
  rw[iH hi,iH hi,h1];simp[dH,Rx.wf,Rx.plain]
 |letter p n=>
  intro i h f hf
  obtain⟨f,rfl⟩: ∃g,f=g+1:=⟨f-1,by simp only[Rx.sz]at hf;omega⟩
  obtain⟨hi,h1⟩:=List.getElem?_eq_some_iff.1 h.1
  rw[iH hi,iH hi,h1];simp[dH,Rx.wf,Rx.plain]
 |gZ a b jl lS|iv a b jl lS|and a b jl lS=>
  intro i h f hf
  obtain⟨f,rfl⟩: ∃g,f=g+1:=⟨f-1,by simp only[Rx.sz]at hf;omega⟩
  simp only[Rx.sz]at hf
  obtain⟨j,k,h,ha,hb⟩:=h
  obtain⟨hi,h1⟩:=List.getElem?_eq_some_iff.1 h
  obtain⟨a1,a2⟩:=jl ha f (by omega)
  obtain⟨b1,b2⟩:=lS hb f (by omega)
  rw[iH hi,iH hi,h1];simp[dH,Rx.wf,Rx.plain,a1,a2,b1,b2]
 |not a jl|star a jl|ahead a jl|behind a jl=>
  intro i h f hf
  obtain⟨f,rfl⟩: ∃g,f=g+1:=⟨f-1,by simp only[Rx.sz]at hf;omega⟩
  simp only[Rx.sz]at hf
  obtain⟨j,h,ha⟩:=h
  obtain⟨hi,h1⟩:=List.getElem?_eq_some_iff.1 h
  obtain⟨a1,a2⟩:=jl ha f (by omega)
  rw[iH hi,iH hi,h1];simp[dH,Rx.wf,Rx.plain,a1,a2]
theorem nB {v:Nat}: ∀ {t:Rx} (_:t.MD v) (s:Nat),∀x∈post t s,x.p<256∧x.n<256
 | .none,_,_| .empty,_,_=>fun x hx=>by rw[List.mem_singleton.1 hx];decide
 | .letter p n,h,_=>fun x hx=>by rw[List.mem_singleton.1 hx];exact h.2
 | .gZ a b,h,s| .iv a b,h,s| .and a b,h,s=>fun x hx=>by
  rcases List.mem_append.1 hx with hx|hx
  ·exact nB h.1 _ x hx
  ·rcases List.mem_append.1 hx with hx|hx
   ·exact nB h.2 _ x hx
   ·rw[List.mem_singleton.1 hx];exact⟨br 255,br 255⟩
 | .not a,h,s| .star a,h,s| .ahead a,h,s| .behind a,h,s=>fun x hx=>by
  rcases List.mem_append.1 hx with hx|hx
  ·exact nB (t:=a) h _ x hx
  ·rw[List.mem_singleton.1 hx];exact⟨br 255,br 255⟩
theorem Ub {v:Nat} {e:List dK} (mX: ∀i (h:i<e.length),gf v e[i]=0): ∀ {t:Rx} {i:Nat},re e t i→t.MD v:=by
 intro t
 induction t with
 |none|empty=>exact fun _=>trivial
 |letter p n=>
  intro i h
  obtain⟨hi,h1⟩:=List.getElem?_eq_some_iff.1 h.1
  exact⟨by rw[←h1];exact mX i hi,h.2⟩
 |gZ a b jl lS|iv a b jl lS|and a b jl lS=>exact fun⟨j,k,h,ha,hb⟩=>⟨jl ha,lS hb⟩
 |not a jl|star a jl|ahead a jl|behind a jl=>exact fun⟨j,h,ha⟩=>jl ha
theorem ME {vars:Int} {t:Rx} (h0:0≤vars) (h6:vars≤6) (hc:t.MD vars.toNat) (hw:t.wf=true) (hs:t.sz≤64):gw vars (post t 0)=0∧oW (post t 0)=t:=by
 obtain⟨gs,g1,g2,g3⟩:=jR hc []
 have hp:=t.dN
 have hl:=fg t 0
 simp only[dn,bV,Nat.zero_add]at g1 g3
 have zQ:re (post t 0) t (t.sz-1):=by have:=post_at hc [];simpa using this
 have hv:=(Ua zQ t.sz (bF _)).1
 refine⟨?_,?_⟩
 ·unfold gw
  rw[hl]
  have hb:jW vars.toNat (post t 0)=.ok gs:=g1
  rw[az (by omega),az (by omega),az (by omega),hb]
  simp only
  rw[az (by rw[g3];decide),aO (by rw[hv];exact hw)]
 ·unfold oW
  rw[hl]
  exact(jX (v:=vars.toNat) g1 (nB hc 0) t.sz (t.sz-1) (by omega) (by omega)).abm zQ
end Go.Lx

