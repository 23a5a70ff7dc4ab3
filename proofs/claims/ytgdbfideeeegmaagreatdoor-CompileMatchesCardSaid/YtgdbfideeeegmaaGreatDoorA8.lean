/- Contracts of functions; conditions: those each theorem names. -/
import Derived.RecoverIn
import Derived.RangeFuncLeaves
import Derived.Test.YtgdbfideeeegmaaGreatDoorA7
set_option linter.unusedSectionVars false
set_option linter.unusedSimpArgs false
set_option linter.unusedVariables false
set_option linter.unnecessarySimpa false
set_option maxHeartbeats 8000000
set_option maxRecDepth 20000
namespace Go.Proofs.YtgdbfideeeegmaaGreatDoor
open Go.Lx Go.RowKit _root_.Go.Proofs.Tryz
def ox (w:World) (cb:Nat) (vs B ob:Nat) (fv:Value) (t:Rx) (i:Nat):Prop:= ∀(lb:Option Addr) (lc:Nat) (ls:List Lf) (ks:List LK),ks.length=ls.length→ls.length+t.lv≤64→ub ls t→
 dT prog w (.iface 163 (.agg #[])) 73 [(.pointer (aD ob)),vN i] ([eu ob (.cells (List.toArray [(eJ cb 0),(.slice lb ls.length lc),fv]) 114 (0,0)),az lb lc 118 7 (dA ls ks)]++(cw 3 (fB ls ks)++ik 56 4 3 ls ks)) (fun v O'=> ∃vH vJ qY p6 p7 Ar As,v=.tuple #[(.slice p6 (((aM vs t ls).fi).length) p7),(.slice Ar (((aM vs t ls).la).length) As)]∧O'=[eu ob (.cells (List.toArray [(eJ cb 0),(.slice vH (((aM vs t ls).ls).length) vJ),fv]) 114 (0,0)),az vH vJ 118 7 (dA ((aM vs t ls).ls) qY),az p6 p7 3 1 (cm ((aM vs t ls).fi)),az Ar As 3 1 (cm ((aM vs t ls).la))]++(cw 3 (fB ((aM vs t ls).ls) qY)++ik 56 4 3 ((aM vs t ls).ls) qY)∧qY.length=(aM vs t ls).ls.length∧okB vs t B) (¬okB vs t B)
theorem ox.frame {w:World} {cb vs B0 ob:Nat} {fv:Value} {t:Rx} {i:Nat} (h:ox w cb vs B0 ob fv t i) (B:List Lx.Item) {O:List Lx.Item} (lb:Option Addr) (lc:Nat) (ls:List Lf) (ks:List LK) (hk:ks.length=ls.length) (hl:ls.length+t.lv≤64) (Ly:ub ls t) (hs:Sub ([eu ob (.cells (List.toArray [(eJ cb 0),(.slice lb ls.length lc),fv]) 114 (0,0)),az lb lc 118 7 (dA ls ks)]++B) O):
  dT prog w (.iface 163 (.agg #[])) 73 [(.pointer (aD ob)),vN i] (O++(cw 3 (fB ls ks)++ik 56 4 3 ls ks)) (fun v O'=> ∃vH vJ qY p6 p7 Ar As,v=.tuple #[(.slice p6 (((aM vs t ls).fi).length) p7),(.slice Ar (((aM vs t ls).la).length) As)]∧O'=([eu ob (.cells (List.toArray [(eJ cb 0),(.slice vH (((aM vs t ls).ls).length) vJ),fv]) 114 (0,0)),az vH vJ 118 7 (dA ((aM vs t ls).ls) qY),az p6 p7 3 1 (cm ((aM vs t ls).fi)),az Ar As 3 1 (cm ((aM vs t ls).la))]++B)++(cw 3 (fB ((aM vs t ls).ls) qY)++ik 56 4 3 ((aM vs t ls).ls) qY)∧qY.length=(aM vs t ls).ls.length∧okB vs t B0) (¬okB vs t B0):=by
 refine((h lb lc ls ks hk hl Ly).under (B:=B) (r8 _ _ _ _ hs)).post ?_
 rintro v O' ⟨A',rfl,vH,vJ,qY,p6,p7,Ar,As,rfl,rfl,h1⟩
 exact⟨_,r_ _ _ _,vH,vJ,qY,p6,p7,Ar,As,F,F,h1⟩
theorem nO (w:World) [dQ prog w] (cb:Nat) (eb:Option Addr) (en ec vs B:Nat) (e_:Sl w (aD cb) [.slice eb en ec,vI (vs:Int),vI (B:Int)]) (gS:vs≤6) (jA:1≤B) (hB:B≤4096) (e:List ei) (hE:Sl w eb (bX e)) (k7:en=e.length) (i:Nat) (ob:Nat) (fv:Value) (t:Rx) (x:ei) (hp:e[i]? =some x) (h4:x.op≠4) (h5:x.op≠5) (h9:x.op≠9) (xG:x.op≠10) (Kz:t.lv=1) (hbm: ∀ls,aM vs t ls=⟨ls++[⟨0,minOf vs (fM t),[],false⟩],[ls.length],[ls.length]⟩) (FR:okB vs t B=kZ vs t B) (hPl: ∀(w1:World) [dQ prog w1],Inv w [] w1→dT prog w1 (.iface 163 (.agg #[])) 72 [(eJ cb 0),vN i] [] (ux vs B t) (¬kZ vs t B)) (lb:Option Addr) (lc:Nat) (ls:List Lf) (ks:List LK) (oH:ks.length=ls.length) (hl:ls.length+t.lv≤64) (Ly:ub ls t):
  dT prog w (.iface 163 (.agg #[])) 73 [(.pointer (aD ob)),vN i] ([oI ob 114 [(eJ cb 0),(.slice lb ls.length lc),fv],az lb lc 118 7 (dA ls ks)]++(cw 3 (fB ls ks)++ik 56 4 3 ls ks)) (fun v O'=> ∃vH vJ qY p6 p7 Ar As,v=.tuple #[(.slice p6 (((aM vs t ls).fi).length) p7),(.slice Ar (((aM vs t ls).la).length) As)]∧O'=[oI ob 114 [(eJ cb 0),(.slice vH (((aM vs t ls).ls).length) vJ),fv],az vH vJ 118 7 (dA ((aM vs t ls).ls) qY),az p6 p7 3 1 (cm ((aM vs t ls).fi)),az Ar As 3 1 (cm ((aM vs t ls).la))]++(cw 3 (fB ((aM vs t ls).ls) qY)++ik 56 4 3 ((aM vs t ls).ls) qY)∧qY.length=(aM vs t ls).ls.length∧okB vs t B) (¬okB vs t B):=by
 refine ek func73 F ntmps73 F ?_
 obtain⟨hi,_⟩:=jp hp
 simp only[hbm]
 rw[FR]
 refine aQ (aS (aj (bo bg (ae (bu gV pL) (ae (bF 0 xH) (ae bg (ae (cF mj F iK F F (a6 e_) (by first|omega|(simp;done)|(simp;omega)|(simp_all;done)|(simp_all;omega))) (ae (dD dX F F e_ F) (ay (eF (i:=i) dX cR F F (a6 hE) (by omega) (by rw[cE];omega)) (ae (fy x.cl dz F cR F F (bK _) (a6 hE) (gk hp)) (ax (b_ cR (fun z1=>?_)))))))))))))
 refine ax (c8 x.cl 0 cR ?_)
 refine bq (ae (bu dz eN) (aX (bF 0 il) (aK (aG bN (aX (aY cz (by omega)) (bf (aG bN (ae (aY cz (by omega)) ?_))))))))
 refine bi (bf (aG bN (aX (aY cz (by omega)) (bf (aG bN (ae (aY cz (by omega)) ?_))))))
 refine bi (bf ?_)
 refine T.ds [oI z1 72 x.cl,oI ob 114 [(eJ cb 0),(.slice lb ls.length lc),fv]] [(0,0),(1,0),(2,0),(3,0),(4,0),(5,0),(6,0),(7,0),(8,0),(9,0),(10,1),(11,0),(12,1),(13,1),(14,0),(15,0),(16,2)] (by exact Sub.k (.k .z)) ?_
 refine ap F aw (ap F aw (ap F bg (ap F (bu gV gY) (ap F (bF 1 fU) (ap F aw (ap F bg (ap F (bu gV pL) (ap F (bF 1 xH) (ap F aw ?_)))))))))
 have pI:=fun(w1:World) (hI:Inv w ([oI z1 72 x.cl,oI ob 114 [(eJ cb 0),(.slice lb ls.length lc),fv],az lb lc 118 7 (dA ls ks)]++(cw 3 (fB ls ks)++ik 56 4 3 ls ks)) w1)=>(haveI:=eP hI;hPl w1 hI.oE)
 refine iY F F (fD qN (dT.pure pI) F (fun z _=>⟨F,z⟩) ?_)
 clear pI
 rintro vr O' ⟨N,rfl,M,kM,rfl,rfl,hM,hO⟩
 refine⟨by exact Sub.d (.k (.k .z)),?_⟩
 have eM:=iC hM hB
 refine ap F (dc [(.int .u8 0),(vI M.vars),(vI M.start),(.slice kM.nb M.next.length kM.nc),(.slice kM.fb M.aT.length kM.fc),nS,(.bool false)] CH fG (by kernel_rfl)) ?_
 refine cG F F (cP (m:=1) (parts:=[(0,_)]) (cs:=[(.int .u8 0),(vI M.vars),(vI M.start),(.slice kM.nb M.next.length kM.nc),(.slice kM.fb M.aT.length kM.fc),nS,(.bool false)]) fU fG (by decide) (by kernel_rfl) F (fun z2=>⟨by exact Sub.d (.d (.k (.k .z))),?_⟩))
 refine cG F F (dE 4 fU fU fG F F F F (by rw[ey oH]) (by decide) (Src.row (j:=0) F (by simp)) (by simp[fS]) (by omega) (by decide) (by decide) (fun z3 pg=>⟨by exact Sub.d (.d (.k (.k .z))),?_⟩))
 refine ap F bg (ap F (bu gV gY) ?_)
 refine cA F F (c8 [(.slice z3 (ls.length+1) pg)] 3 gY ?_)
 refine cy ?_
 refine bo bg (ae (bu gV gY) (ae (bF 3 fU) (ae (cL fU) (ae (cg (ga F F (by omega)) (v':=vN ls.length) (am (Value.int .i64) (by omega))) (aj (br (T.fJ 3 1 ?_)))))))
 refine a_ (aN (ax (dL (v:=vN ls.length) da bM F F F (fun z5=>?_))))
 refine aN (ax (dL (v:=vN ls.length) da bM F F F (fun z6=>?_)))
 refine aS (aR ?_)
 refine dr (.slice (aD z5) 1 1) (.slice (aD z6) 1 1) results73 F F ?_
 exact⟨[oI ob 114 [(eJ cb 0),(.slice z3 ((ls++[(⟨0,minOf vs (fM t),[],false⟩:Lf)]).length) pg),fv],az z3 pg 118 7 (dA (ls++[(⟨0,minOf vs (fM t),[],false⟩:Lf)]) (ks++[(⟨kM,none,0⟩:LK)])),bJ z5 1 3 1 (cm [ls.length]),bJ z6 1 3 1 (cm [ls.length])]++(cw 3 (fB (ls++[(⟨0,minOf vs (fM t),[],false⟩:Lf)]) (ks++[(⟨kM,none,0⟩:LK)]))++ik 56 4 3 (ls++[(⟨0,minOf vs (fM t),[],false⟩:Lf)]) (ks++[(⟨kM,none,0⟩:LK)])),by
   rw[uc oH,ud,wl oH,sd oH,aJ,←eM]
   exact se [oI ob 114 [(eJ cb 0),(.slice z3 (ls.length+1) pg),fv],az z3 pg 118 7 ((dA ls ks)++[(.int .u8 0),(vI M.vars),(vI M.start),(.slice kM.nb M.next.length kM.nc),(.slice kM.fb M.aT.length kM.fc),nS,(.bool false)]),bJ z5 1 3 1 [vN ls.length],bJ z6 1 3 1 [vN ls.length]] [bJ z6 1 3 1 [vN ls.length],bJ z5 1 3 1 [vN ls.length],az none 0 3 1 [],bJ z2 1 118 7 [(.int .u8 0),(vI M.vars),(vI M.start),(.slice kM.nb M.next.length kM.nc),(.slice kM.fb M.aT.length kM.fc),nS,(.bool false)],dI 56 4 3 M kM,oI z1 72 x.cl,oI ob 114 [(eJ cb 0),(.slice z3 (ls.length+1) pg),fv],az z3 pg 118 7 ((dA ls ks)++[(.int .u8 0),(vI M.vars),(vI M.start),(.slice kM.nb M.next.length kM.nc),(.slice kM.fb M.aT.length kM.fc),nS,(.bool false)])] _ _ _ _ (by exact Sub.fz [bJ z6 1 3 1 [vN ls.length],bJ z5 1 3 1 [vN ls.length],az none 0 3 1 [],bJ z2 1 118 7 [(.int .u8 0),(vI M.vars),(vI M.start),(.slice kM.nb M.next.length kM.nc),(.slice kM.fb M.aT.length kM.fc),nS,(.bool false)],dI 56 4 3 M kM,oI z1 72 x.cl] _ (.fz [bJ z6 1 3 1 [vN ls.length],bJ z5 1 3 1 [vN ls.length],az none 0 3 1 [],bJ z2 1 118 7 [(.int .u8 0),(vI M.vars),(vI M.start),(.slice kM.nb M.next.length kM.nc),(.slice kM.fb M.aT.length kM.fc),nS,(.bool false)],dI 56 4 3 M kM,oI z1 72 x.cl] _ (.fz [bJ z6 1 3 1 [vN ls.length]] _ (.k (.k (.d (.k .z))))))),z3,pg,(ks++[(⟨kM,none,0⟩:LK)]),(aD z5),1,(aD z6),1,F,F,by simp[oH],hO⟩
theorem G5 (w:World) [dQ prog w] (cb:Nat) (eb:Option Addr) (en ec vs B:Nat) (e_:Sl w (aD cb) [.slice eb en ec,vI (vs:Int),vI (B:Int)]) (gS:vs≤6) (jA:1≤B) (hB:B≤4096) (e:List ei) (hE:Sl w eb (bX e)) (k7:en=e.length) (i:Nat) (ob:Nat) (fv:Value) (a:Rx) (j:Nat) (hp:e[i]? =some ⟨9,0,0,(j:Int),0⟩) (hbm: ∀ls,aM vs (Rx.ahead a) ls=⟨ls++[⟨9,minOf vs (iV (fM a) fun _=>true),[],false⟩],[ls.length],[ls.length]⟩) (hPl: ∀(w1:World) [dQ prog w1],Inv w [] w1→dT prog w1 (.iface 163 (.agg #[])) 72 [(eJ cb 0),vN j] [] (ux vs B a) (¬kZ vs a B)) (lb:Option Addr) (lc:Nat) (ls:List Lf) (ks:List LK) (oH:ks.length=ls.length) (hl:ls.length+(Rx.ahead a).lv≤64) (Ly:ub ls (Rx.ahead a)):
  dT prog w (.iface 163 (.agg #[])) 73 [(.pointer (aD ob)),vN i] ([oI ob 114 [(eJ cb 0),(.slice lb ls.length lc),fv],az lb lc 118 7 (dA ls ks)]++(cw 3 (fB ls ks)++ik 56 4 3 ls ks)) (fun v O'=> ∃vH vJ qY p6 p7 Ar As,v=.tuple #[(.slice p6 (((aM vs (Rx.ahead a) ls).fi).length) p7),(.slice Ar (((aM vs (Rx.ahead a) ls).la).length) As)]∧O'=[oI ob 114 [(eJ cb 0),(.slice vH (((aM vs (Rx.ahead a) ls).ls).length) vJ),fv],az vH vJ 118 7 (dA ((aM vs (Rx.ahead a) ls).ls) qY),az p6 p7 3 1 (cm ((aM vs (Rx.ahead a) ls).fi)),az Ar As 3 1 (cm ((aM vs (Rx.ahead a) ls).la))]++(cw 3 (fB ((aM vs (Rx.ahead a) ls).ls) qY)++ik 56 4 3 ((aM vs (Rx.ahead a) ls).ls) qY)∧qY.length=(aM vs (Rx.ahead a) ls).ls.length∧okB vs (Rx.ahead a) B) (¬okB vs (Rx.ahead a) B):=by
 refine ek func73 F ntmps73 F ?_
 obtain⟨hi,_⟩:=jp hp
 simp only[hbm]
 refine aQ (aS (aj (bo bg (ae (bu gV pL) (ae (bF 0 xH) (ae bg (ae (cF mj F iK F F (a6 e_) (by first|omega|(simp;done)|(simp;omega)|(simp_all;done)|(simp_all;omega))) (ae (dD dX F F e_ F) (ay (eF (i:=i) dX cR F F (a6 hE) (by omega) (by rw[cE];omega)) (ae (fy [v8 9,v8 0,v8 0,vN j,vI 0] dz F cR F F (bK _) (a6 hE) (gk hp)) (ax (b_ cR (fun z1=>?_)))))))))))))
 refine ax (c8 [v8 9,v8 0,v8 0,vN j,vI 0] 0 cR ?_)
 refine bq (ae (bu dz eN) (aX (bF 0 il) (aK (aG bN (aX (aY cz (by decide)) (bf (aG bN (ae (aY cz (by decide)) ?_))))))))
 refine bi (bf (aG bN (aX (bn cz (by decide)) ?_)))
 refine bW ?_
 refine T.ds [oI z1 72 [v8 9,v8 0,v8 0,vN j,vI 0],oI ob 114 [(eJ cb 0),(.slice lb ls.length lc),fv]] [(0,0),(1,0),(2,0),(3,0),(4,0),(5,0),(6,0),(7,0),(8,0),(9,0),(10,0),(11,0),(12,0),(13,0),(14,0),(15,0),(16,0),(18,0),(19,0),(20,0),(21,0),(17,1),(22,1),(23,1),(24,0),(25,1),(26,1),(27,0),(28,0),(29,2)] (by exact Sub.k (.k .z)) ?_
 refine ap F aw (ap F aw (ap F bg (ap F (bu gV gY) (ap F (bF 1 fU) (ap F (bu dz eN) (ap F (bF 0 il) (ap F aw (ap F bg (ap F (bu gV pL) (ap F (bF 1 xH) (ap F aw (ap F bg (ap F (bu gV pL) (ap F (bF 1 xH) (ap F (bu dz bM) (ap F (bF 0 eO) (ap F aw (ap F bg (ap F (bu gV pL) (ap F (bF 1 xH) ?_))))))))))))))))))))
 have ED:=fun(w1:World) (hI:Inv w ([oI z1 72 [v8 9,v8 0,v8 0,vN j,vI 0],oI ob 114 [(eJ cb 0),(.slice lb ls.length lc),fv],az lb lc 118 7 (dA ls ks)]++(cw 3 (fB ls ks)++ik 56 4 3 ls ks)) w1)=>(haveI:=eP hI;hPl w1 hI.oE)
 refine iY F F (fD qN (dT.pure ED) F (fun z _=>⟨F,fun h9=>z h9.1⟩) ?_)
 clear ED
 rintro vr O' ⟨N,rfl,MA,kA,rfl,rfl,rW,hO⟩
 refine⟨by exact Sub.d (.k (.k .z)),?_⟩
 have By:=iC rW hB
 have T_:=fun(w1:World) (hI:Inv w ([dI 56 4 3 MA kA,oI z1 72 [v8 9,v8 0,v8 0,vN j,vI 0],oI ob 114 [(eJ cb 0),(.slice lb ls.length lc),fv],az lb lc 118 7 (dA ls ks)]++(cw 3 (fB ls ks)++ik 56 4 3 ls ks)) w1)=>(haveI:=eP hI;QI w1 cb eb en ec vs B (hI.sl e_) gS)
 refine cG F F (eh GW (aO T_) ?_)
 clear T_
 rintro vr O' ⟨N,rfl,kS,rfl,rfl⟩
 refine⟨by exact Sub.d (.d (.k (.k .z))),?_⟩
 have Ua:=fun(w1:World) (hI:Inv w ([dI 56 4 3 (gg (vs:Int) true) kS,dI 56 4 3 MA kA,oI z1 72 [v8 9,v8 0,v8 0,vN j,vI 0],oI ob 114 [(eJ cb 0),(.slice lb ls.length lc),fv],az lb lc 118 7 (dA ls ks)]++(cw 3 (fB ls ks)++ik 56 4 3 ls ks)) w1)=>(haveI:=eP hI;V5 w1 cb eb en ec vs B (hI.sl e_) gS jA hB MA kA (hI.at (k:=kA) (mG 1)) rW.valid rW.vars (gg (vs:Int) true) kS (hI.at (k:=kS) (mG 0)) (fw gS).valid (by rw[rW.vars];rfl))
 refine iY F F (fD GQ (dT.pure Ua) F (fun z _=>⟨F,fun h9=>z (by rw[By];exact h9.2)⟩) ?_)
 clear Ua
 rintro vr O' ⟨N,rfl,M,kM,rfl,rfl,Wj,Wk⟩
 refine⟨by exact Sub.d (.d (.d (.k (.k .z)))),?_⟩
 have eM:M=minOf vs (iV (fM a) fun _=>true):=iC (Wj.to fun w9 h9=>qv (fun u hu=>rW.jf u hu) (fun u hu=>(fw gS).jf u hu) h9) hB
 refine ap F (dc [v8 9,(vI M.vars),(vI M.start),(.slice kM.nb M.next.length kM.nc),(.slice kM.fb M.aT.length kM.fc),nS,(.bool false)] CH fG (by kernel_rfl)) ?_
 refine cG F F (cP (m:=1) (parts:=[(0,_)]) (cs:=[v8 9,(vI M.vars),(vI M.start),(.slice kM.nb M.next.length kM.nc),(.slice kM.fb M.aT.length kM.fc),nS,(.bool false)]) fU fG (by decide) (by kernel_rfl) F (fun z2=>⟨by exact Sub.d (.d (.d (.d (.k (.k .z))))),?_⟩))
 refine cG F F (dE 6 fU fU fG F F F F (by rw[ey oH]) (by decide) (Src.row (j:=0) F (by simp)) (by simp[fS]) (by omega) (by decide) (by decide) (fun z3 pg=>⟨by exact Sub.d (.d (.d (.d (.k (.k .z))))),?_⟩))
 refine ap F bg (ap F (bu gV gY) ?_)
 refine cA F F (c8 [(.slice z3 (ls.length+1) pg)] 5 gY ?_)
 refine cy ?_
 refine bo bg (ae (bu gV gY) (ae (bF 5 fU) (ae (cL fU) (ae (cg (ga F F (by omega)) (v':=vN ls.length) (am (Value.int .i64) (by omega))) (aj (br (T.fJ 3 1 ?_)))))))
 refine a_ (aN (ax (dL (v:=vN ls.length) da bM F F F (fun z5=>?_))))
 refine aN (ax (dL (v:=vN ls.length) da bM F F F (fun z6=>?_)))
 refine aS (aR ?_)
 refine dr (.slice (aD z5) 1 1) (.slice (aD z6) 1 1) results73 F F ?_
 exact⟨[oI ob 114 [(eJ cb 0),(.slice z3 ((ls++[(⟨9,minOf vs (iV (fM a) fun _=>true),[],false⟩:Lf)]).length) pg),fv],az z3 pg 118 7 (dA (ls++[(⟨9,minOf vs (iV (fM a) fun _=>true),[],false⟩:Lf)]) (ks++[(⟨kM,none,0⟩:LK)])),bJ z5 1 3 1 (cm [ls.length]),bJ z6 1 3 1 (cm [ls.length])]++(cw 3 (fB (ls++[(⟨9,minOf vs (iV (fM a) fun _=>true),[],false⟩:Lf)]) (ks++[(⟨kM,none,0⟩:LK)]))++ik 56 4 3 (ls++[(⟨9,minOf vs (iV (fM a) fun _=>true),[],false⟩:Lf)]) (ks++[(⟨kM,none,0⟩:LK)])),by
   rw[uc oH,ud,wl oH,sd oH,aJ,←eM]
   exact se [oI ob 114 [(eJ cb 0),(.slice z3 (ls.length+1) pg),fv],az z3 pg 118 7 ((dA ls ks)++[v8 9,(vI M.vars),(vI M.start),(.slice kM.nb M.next.length kM.nc),(.slice kM.fb M.aT.length kM.fc),nS,(.bool false)]),bJ z5 1 3 1 [vN ls.length],bJ z6 1 3 1 [vN ls.length]] [bJ z6 1 3 1 [vN ls.length],bJ z5 1 3 1 [vN ls.length],az none 0 3 1 [],bJ z2 1 118 7 [v8 9,(vI M.vars),(vI M.start),(.slice kM.nb M.next.length kM.nc),(.slice kM.fb M.aT.length kM.fc),nS,(.bool false)],dI 56 4 3 M kM,dI 56 4 3 (gg (vs:Int) true) kS,dI 56 4 3 MA kA,oI z1 72 [v8 9,v8 0,v8 0,vN j,vI 0],oI ob 114 [(eJ cb 0),(.slice z3 (ls.length+1) pg),fv],az z3 pg 118 7 ((dA ls ks)++[v8 9,(vI M.vars),(vI M.start),(.slice kM.nb M.next.length kM.nc),(.slice kM.fb M.aT.length kM.fc),nS,(.bool false)])] _ _ _ _ (by exact Sub.fz [bJ z6 1 3 1 [vN ls.length],bJ z5 1 3 1 [vN ls.length],az none 0 3 1 [],bJ z2 1 118 7 [v8 9,(vI M.vars),(vI M.start),(.slice kM.nb M.next.length kM.nc),(.slice kM.fb M.aT.length kM.fc),nS,(.bool false)],dI 56 4 3 M kM,dI 56 4 3 (gg (vs:Int) true) kS,dI 56 4 3 MA kA,oI z1 72 [v8 9,v8 0,v8 0,vN j,vI 0]] _ (.fz [bJ z6 1 3 1 [vN ls.length],bJ z5 1 3 1 [vN ls.length],az none 0 3 1 [],bJ z2 1 118 7 [v8 9,(vI M.vars),(vI M.start),(.slice kM.nb M.next.length kM.nc),(.slice kM.fb M.aT.length kM.fc),nS,(.bool false)],dI 56 4 3 M kM,dI 56 4 3 (gg (vs:Int) true) kS,dI 56 4 3 MA kA,oI z1 72 [v8 9,v8 0,v8 0,vN j,vI 0]] _ (.fz [bJ z6 1 3 1 [vN ls.length]] _ (.k (.k (.d (.k .z))))))),z3,pg,(ks++[(⟨kM,none,0⟩:LK)]),(aD z5),1,(aD z6),1,F,F,by simp[oH],⟨hO,by rw[←By];exact Wk⟩⟩
theorem Oj (w:World) [dQ prog w] (cb:Nat) (eb:Option Addr) (en ec vs B:Nat) (e_:Sl w (aD cb) [.slice eb en ec,vI (vs:Int),vI (B:Int)]) (gS:vs≤6) (jA:1≤B) (hB:B≤4096) (e:List ei) (hE:Sl w eb (bX e)) (k7:en=e.length) (i:Nat) (ob:Nat) (fv:Value) (a b:Rx) (j k:Nat) (hp:e[i]? =some ⟨4,0,0,(j:Int),(k:Int)⟩) (hA:ox w cb vs B ob fv a j) (hB:ox w cb vs B ob fv b k) (lb:Option Addr) (lc:Nat) (ls:List Lf) (ks:List LK) (oH:ks.length=ls.length) (hl:ls.length+(Rx.iG a b).lv≤64) (Ly:ub ls (Rx.iG a b)):
  dT prog w (.iface 163 (.agg #[])) 73 [(.pointer (aD ob)),vN i] ([oI ob 114 [(eJ cb 0),(.slice lb ls.length lc),fv],az lb lc 118 7 (dA ls ks)]++(cw 3 (fB ls ks)++ik 56 4 3 ls ks)) (fun v O'=> ∃vH vJ qY p6 p7 Ar As,v=.tuple #[(.slice p6 (((aM vs (Rx.iG a b) ls).fi).length) p7),(.slice Ar (((aM vs (Rx.iG a b) ls).la).length) As)]∧O'=[oI ob 114 [(eJ cb 0),(.slice vH (((aM vs (Rx.iG a b) ls).ls).length) vJ),fv],az vH vJ 118 7 (dA ((aM vs (Rx.iG a b) ls).ls) qY),az p6 p7 3 1 (cm ((aM vs (Rx.iG a b) ls).fi)),az Ar As 3 1 (cm ((aM vs (Rx.iG a b) ls).la))]++(cw 3 (fB ((aM vs (Rx.iG a b) ls).ls) qY)++ik 56 4 3 ((aM vs (Rx.iG a b) ls).ls) qY)∧qY.length=(aM vs (Rx.iG a b) ls).ls.length∧okB vs (Rx.iG a b) B) (¬okB vs (Rx.iG a b) B):=by
 refine ek func73 F ntmps73 F ?_
 obtain⟨hi,_⟩:=jp hp
 have WQ:=gO vs a ls
 have aex:=gO vs b (aM vs a ls).ls
 have aaT:=eC vs a ls
 have aaU:=eC vs b (aM vs a ls).ls
 have aey:a.lv+b.lv≤64:=by simp only[Rx.lv]at hl;omega
 simp only[Rx.lv]at hl
 refine aQ (aS (aj (bo bg (ae (bu gV pL) (ae (bF 0 xH) (ae bg (ae (cF mj F iK F F (a6 e_) (by first|omega|(simp;done)|(simp;omega)|(simp_all;done)|(simp_all;omega))) (ae (dD dX F F e_ F) (ay (eF (i:=i) dX cR F F (a6 hE) (by omega) (by rw[cE];omega)) (ae (fy [v8 4,v8 0,v8 0,vN j,vN k] dz F cR F F (bK _) (a6 hE) (gk hp)) (ax (b_ cR (fun z1=>?_)))))))))))))
 refine ax (c8 [v8 4,v8 0,v8 0,vN j,vN k] 0 cR ?_)
 refine bq (ae (bu dz eN) (aX (bF 0 il) (aK (aG bN (aX (bn cz (by decide)) ?_)))))
 refine bW ?_
 refine bo (bu dz bM) (ae (bF 0 eO) ?_)
 let eH:Lx.Item:=oI z1 72 [v8 4,v8 0,v8 0,vN j,vN k]
 have NL:=(hA.frame [eH] (O:=[eH,oI ob 114 [(eJ cb 0),(.slice lb ls.length lc),fv],az lb lc 118 7 (dA ls ks)]) lb lc ls ks oH (by first|omega|(rw[eC];omega)) (ub.left Ly) (by exact Sub.fz [eH] _ (.fz [eH] _ (.k .z))))
 refine eU F (fD EG NL F (fun z _=>⟨F,fun h9=>z h9.1⟩) ?_)
 clear NL
 rintro vr O' ⟨WR,WS,ksA,Qw,Qy,Ub,Uc,rfl,rfl,hkA,Ks⟩
 refine ay (bI _) (ae (bI _) (aS (aj (bo (bu dz bM) (ae (bF 4 eO) ?_)))))
 let gn:Lx.Item:=az Qw Qy 3 1 (cm ((aM vs a ls).fi))
 let kp:Lx.Item:=az Ub Uc 3 1 (cm ((aM vs a ls).la))
 have NV:=(hB.frame [gn,kp,eH] (O:=[oI ob 114 [(eJ cb 0),(.slice WR (((aM vs a ls).ls).length) WS),fv],az WR WS 118 7 (dA ((aM vs a ls).ls) ksA),gn,kp,eH]) WR WS ((aM vs a ls).ls) ksA hkA (by first|omega|(rw[eC];omega)) (ub.right Ly) (by exact Sub.rf))
 refine eU F (fD EG NV F (fun z _=>⟨F,fun h9=>z h9.2⟩) ?_)
 clear NV
 rintro vr O' ⟨BC,BD,R_,fbB,fcB,Ud,Ue,rfl,rfl,RM,Kt⟩
 refine ay (bI _) (ae (bI _) (aS (aS (bq (ay (cL da) (bH (aK ?_)))))))
 let qM:Lx.Item:=az fbB fcB 3 1 (cm ((aM vs b ((aM vs a ls).ls)).fi))
 let li:Lx.Item:=az Ud Ue 3 1 (cm ((aM vs b ((aM vs a ls).ls)).la))
 refine dq (O':=[oI ob 114 [(eJ cb 0),(.slice BC (((aM vs b ((aM vs a ls).ls)).ls).length) BD),fv],az BC BD 118 7 (dA ((aM vs b ((aM vs a ls).ls)).ls) R_),qM,li,gn,kp,eH]++(cw 3 (fB ((aM vs b ((aM vs a ls).ls)).ls) R_)++ik 56 4 3 ((aM vs b ((aM vs a ls).ls)).ls) R_)) (by exact Sub.rf) ?_
 refine ep (fun(i9:Nat) ρ O=> ∃(l3:List Lf) (k3:List LK),O=([oI ob 114 [(eJ cb 0),(.slice BC l3.length BD),fv],az BC BD 118 7 (dA l3 k3),qM,li,gn,kp,eH]++(cw 3 (fB l3 k3)++ik 56 4 3 l3 k3))∧i9≤(aM vs a ls).la.length∧l3=kU ((aM vs b ((aM vs a ls).ls)).ls) ((aM vs a ls).la.take i9) ((aM vs b ((aM vs a ls).ls)).fi)∧k3.length=l3.length∧dh [(0,(.pointer (aD ob))),(1,vN i),(4,nS),(5,nS),(6,(.pointer (aD z1))),(7,(.slice Qw ((aM vs a ls).fi.length) Qy)),(8,(.slice Ub ((aM vs a ls).la.length) Uc)),(9,(.slice fbB ((aM vs b ((aM vs a ls).ls)).fi.length) fcB)),(10,(.slice Ud ((aM vs b ((aM vs a ls).ls)).la.length) Ue)),(46,.bool true),(62,(.slice Ub ((aM vs a ls).la.length) Uc)),(63,vI ((aM vs a ls).la.length:Int)),(64,vN i9)] ρ) (fun i9=>(aM vs a ls).la.length-i9) 0 ?_ ?_
 ·exact⟨(aM vs b ((aM vs a ls).ls)).ls,R_,F,bj _,F,RM,(.of F)⟩
 rintro i9 ρ O ⟨l3,k3,rfl,Lr,Qv,u6,hH⟩
 obtain⟨gv,rfl⟩:=hH.elim
 clear hH
 refine aG cV (dJ (aL F (fun hc=>?_) (fun hc=>?_)))
 ·have EH:i9<(aM vs a ls).la.length:=by omega
  obtain⟨kk,G6⟩: ∃k,k=(aM vs a ls).la[i9]:=⟨_,F⟩
  have hn3:l3.length=(aM vs b ((aM vs a ls).ls)).ls.length:=by rw[Qv,sO]
  have BB:kk<l3.length:=by
   have:=(WQ.2.1 _ (av EH)).2
   rw[hn3,aaU,aaT];rw[G6];omega
  have ajA:(lf l3 kk).fo.length≤100000:=by
   subst Qv
   exact G7 Ly (by rw[db];have:=WQ.2.2.2;omega) BB
  refine aE (br (aK (aG (dB i9 da bM F F (eA 5) EH (by rw[ai];exact EH)) (ae (iN eO F F (eA 5) (show(cm (aM vs a ls).la)[i9]? =some (vN kk) by rw[G6];exact iT EH)) (aj ?_)))))
  let gd:Lx.Item:=oI ob 114 [(eJ cb 0),(.slice BC l3.length BD),fv]
  let fR:Lx.Item:=oI z1 72 [v8 4,v8 0,v8 0,vN j,vN k]
  let iB:Lx.Item:=az Qw Qy 3 1 (cm ((aM vs a ls).fi))
  let jz:Lx.Item:=az Ub Uc 3 1 (cm ((aM vs a ls).la))
  let np:Lx.Item:=az fbB fcB 3 1 (cm ((aM vs b ((aM vs a ls).ls)).fi))
  let lZ:Lx.Item:=az Ud Ue 3 1 (cm ((aM vs b ((aM vs a ls).ls)).la))
  refine dq (O':=[az ((lk k3 kk).b) ((lk k3 kk).c) 3 1 (cm (lf l3 kk).fo),gd,az BC BD 118 7 (dA l3 k3),np,lZ,iB,jz,fR]++(cw 3 ((fB l3 k3).eraseIdx kk)++ik 56 4 3 l3 k3)) (by
   have h9:=Ol (E:=3) (EI u6 BB) [oI ob 114 [(eJ cb 0),(.slice BC l3.length BD),fv],az BC BD 118 7 (dA l3 k3),az fbB fcB 3 1 (cm ((aM vs b ((aM vs a ls).ls)).fi)),az Ud Ue 3 1 (cm ((aM vs b ((aM vs a ls).ls)).la)),az Qw Qy 3 1 (cm ((aM vs a ls).fi)),az Ub Uc 3 1 (cm ((aM vs a ls).la)),oI z1 72 [v8 4,v8 0,v8 0,vN j,vN k]] (ik 56 4 3 l3 k3)
   rw[show Rec.qW 3 ⟨(lk k3 kk).b,(lk k3 kk).c,(lf l3 kk).fo.map fun y:Nat=>(y:Int)⟩=az ((lk k3 kk).b) ((lk k3 kk).c) 3 1 (cm (lf l3 kk).fo)from am (az _ _ 3 1) (gN _)]at h9
   exact h9) ?_
  refine T.ds [gd,az BC BD 118 7 (dA l3 k3),fR] [(0,0),(1,0),(2,0),(3,0),(4,0),(5,0),(6,0),(7,0),(8,0),(9,0),(10,0),(11,0),(12,0),(13,0),(14,1),(15,0),(16,0),(17,2)] (by exact Sub.d (.k (.k (.d (.d (.d (.d (.k .z)))))))) ?_
  refine ap F aw (ap F bg (ap F (bu gV gY) (ap F (bF 0 fU) (ap F aw (ap F aw (ap F bg (ap F (bu gV gY) (ap F (bF 0 fU) (ap F aw (ap F (eF (i:=kk) fU fG F F (eA 1) BB (by rw[ey u6];omega)) (ap F (cF ji F eo F F (eA 1) (by rw[ey u6];omega)) (ap F (iN da F F (eA 1) (rZ u6 BB 5 F F)) (ap F aw ?_)))))))))))))
  refine cG F F (dE 0 da da bM F F F F (by rw[ai];omega) (by decide) (Src.row (j:=3) F (by rw[ai];omega)) (by simp[fS]) (by omega) (by decide) (by decide) (fun z2 wm=>⟨by exact Sub.d (.k (.k (.d (.d (.d (.d (.k .z))))))),?_⟩))
  refine ap F (eF (i:=kk) fU fG F F (eA 1) BB (by rw[ey u6];omega)) (ap F (cF ji F eo F F (eA 1) (by rw[ey u6];omega)) ?_)
  let sJ:Value:=(.slice z2 (((lf l3 kk).fo.length)+((aM vs b ((aM vs a ls).ls)).fi.length)) wm)
  refine cA F F (n7 (v:=sJ) (vs:=[sJ]) (cs:=dA l3 k3) ((kk*7+5)) 2 eo F F F F F (by simp) F (by rw[ey u6];simp;omega) ?_)
  refine fj (O':=([az z2 wm 3 1 ((cm (lf l3 kk).fo)++(cm ((aM vs b ((aM vs a ls).ls)).fi))),gd,az BC BD 118 7 (dA (l3.set kk {lf l3 kk with fo:=(lf l3 kk).fo++(aM vs b ((aM vs a ls).ls)).fi}) (k3.set kk {lk k3 kk with b:=z2,c:=wm})),np,lZ,iB,jz,fR]++(cw 3 ((fB l3 k3).eraseIdx kk)++ik 56 4 3 l3 k3))) (by rw[show fC (dA l3 k3) (kk*7+5) [(.slice z2 (((lf l3 kk).fo.length)+((aM vs b ((aM vs a ls).ls)).fi.length)) wm)]=dA (l3.set kk {lf l3 kk with fo:=(lf l3 kk).fo++(aM vs b ((aM vs a ls).ls)).fi}) (k3.set kk {lk k3 kk with b:=z2,c:=wm})from(by rw[G8 u6 BB,aJ];simp[fC])];exact cd (aP _)) ?_
  refine cy ?_
  refine a_ (ae (dj (b:=1) i9 F F (by omega)) (bH ?_))
  exact⟨i9+1,by omega,[oI ob 114 [(eJ cb 0),(.slice BC ((l3.set kk {lf l3 kk with fo:=(lf l3 kk).fo++(aM vs b ((aM vs a ls).ls)).fi}).length) BD),fv],az BC BD 118 7 (dA (l3.set kk {lf l3 kk with fo:=(lf l3 kk).fo++(aM vs b ((aM vs a ls).ls)).fi}) (k3.set kk {lk k3 kk with b:=z2,c:=wm})),np,lZ,iB,jz,fR]++(cw 3 (fB (l3.set kk {lf l3 kk with fo:=(lf l3 kk).fo++(aM vs b ((aM vs a ls).ls)).fi}) (k3.set kk {lk k3 kk with b:=z2,c:=wm}))++ik 56 4 3 (l3.set kk {lf l3 kk with fo:=(lf l3 kk).fo++(aM vs b ((aM vs a ls).ls)).fi}) (k3.set kk {lk k3 kk with b:=z2,c:=wm})),by
   rw[KA u6 BB,Om u6 BB,eI]
   refine Sub.trans (Sa (by rw[KB u6];exact BB) [gd,az BC BD 118 7 (dA (l3.set kk {lf l3 kk with fo:=(lf l3 kk).fo++(aM vs b ((aM vs a ls).ls)).fi}) (k3.set kk {lk k3 kk with b:=z2,c:=wm})),np,lZ,iB,jz,fR] (ik 56 4 3 l3 k3) ⟨z2,wm,((lf l3 kk).fo++(aM vs b ((aM vs a ls).ls)).fi).map fun y:Nat=>(y:Int)⟩) ?_
   rw[show Rec.qW 3 ⟨z2,wm,((lf l3 kk).fo++(aM vs b ((aM vs a ls).ls)).fi).map fun y:Nat=>(y:Int)⟩=az z2 wm 3 1 ((cm (lf l3 kk).fo)++(cm ((aM vs b ((aM vs a ls).ls)).fi)))from am (az _ _ 3 1) ((gN _).trans bm)]
   exact(by exact Sub.rf),(l3.set kk {lf l3 kk with fo:=(lf l3 kk).fo++(aM vs b ((aM vs a ls).ls)).fi}),(k3.set kk {lk k3 kk with b:=z2,c:=wm}),F,by omega,by rw[G9 EH,←G6,←Qv],by rw[eI,eI];exact u6,(.of F)⟩
 have ahc: ¬i9<(aM vs a ls).la.length:=by omega
 refine cD ?_
 refine a7 (aN (aS (aR ?_)))
 refine dr (.slice Qw ((aM vs a ls).fi.length) Qy) (.slice Ud ((aM vs b ((aM vs a ls).ls)).la.length) Ue) results73 F F ?_
 have e3:l3=(aM vs (Rx.iG a b) ls).ls:=by rw[Qv,bt (by omega)];rfl
 let mF:Lx.Item:=az Ud Ue 3 1 (cm ((aM vs b ((aM vs a ls).ls)).la))
 exact⟨[oI ob 114 [(eJ cb 0),(.slice BC l3.length BD),fv],az BC BD 118 7 (dA l3 k3),az Qw Qy 3 1 (cm ((aM vs a ls).fi)),mF]++(cw 3 (fB l3 k3)++ik 56 4 3 l3 k3),(by exact Sub.k (.k (.d (.fz [mF] _ (.k (.d (.d .rf))))))),BC,BD,k3,Qw,Qy,Ud,Ue,F,by rw[←e3];rfl,by rw[←e3];exact u6,Ks,Kt⟩
structure WT (cb:Nat) (eb:Option Addr) (en ec vs B:Nat) (e:List ei):Prop where
 pl:Wl cb eb en ec vs B e
 iR: ∀(w:World) [dQ prog w],vs≤6→1≤B→B≤4096→Sl w (aD cb) [.slice eb en ec,vI (vs:Int),vI (B:Int)]→Sl w eb (bX e)→ ∀(ob:Nat) (fv:Value) (i:Nat) (a b:Rx) (j k:Nat),e[i]? =some ⟨5,0,0,(j:Int),(k:Int)⟩→ox w cb vs B ob fv a j→ox w cb vs B ob fv b k→ox w cb vs B ob fv (.iR a b) i
 behind: ∀(w:World) [dQ prog w],vs≤6→1≤B→B≤4096→Sl w (aD cb) [.slice eb en ec,vI (vs:Int),vI (B:Int)]→Sl w eb (bX e)→ ∀(ob:Nat) (fv:Value) (i:Nat) (a:Rx) (j:Nat),e[i]? =some ⟨10,0,0,(j:Int),0⟩→(∀(w1:World) [dQ prog w1],Inv w [] w1→dT prog w1 (.iface 163 (.agg #[])) 72 [(eJ cb 0),vN j] [] (ux vs B a) (¬kZ vs a B))→ox w cb vs B ob fv (.behind a) i
theorem u5 {cb:Nat} {eb:Option Addr} {en ec vs B:Nat} {e:List ei} (h:GR e=true):WT cb eb en ec vs B e:=
 ⟨CA h,fun _ _ _ _ _ _ _ _ _ i _ _ _ _ hp=>absurd F (nN h hp).2.1,fun _ _ _ _ _ _ _ _ _ i _ _ hp=>absurd F (nN h hp).2.2.2.2⟩
theorem zv {cb:Nat} {eb:Option Addr} {en ec vs B:Nat} {e:List ei} (CI:WT cb eb en ec vs B e) (gS:vs≤6) (jA:1≤B) (hB:B≤4096) (k7:en=e.length) (ob:Nat) (fv:Value): ∀(t:Rx) (hw:t.wf=true) (i:Nat),ve e t i→ ∀(w:World) [dQ prog w],Sl w (aD cb) [.slice eb en ec,vI (vs:Int),vI (B:Int)]→Sl w eb (bX e)→ox w cb vs B ob fv t i
 | .none,hw,i,hh,w,_,e_,hE=>nO w cb eb en ec vs B e_ gS jA hB e hE k7 i ob fv .none ⟨1,0,0,0,0⟩ hh (by simp) (by simp) (by simp) (by simp) F (fun _=>rfl) F (fun w1 _ hI=>kI CI.pl gS jA hB k7 .none hw _ hh w1 (hI.sl e_) (hI.sl hE))
 | .empty,hw,i,hh,w,_,e_,hE=>nO w cb eb en ec vs B e_ gS jA hB e hE k7 i ob fv .empty ⟨2,0,0,0,0⟩ hh (by simp) (by simp) (by simp) (by simp) F (fun _=>rfl) F (fun w1 _ hI=>kI CI.pl gS jA hB k7 .empty hw _ hh w1 (hI.sl e_) (hI.sl hE))
 | .letter p n,hw,i,hh,w,_,e_,hE=>nO w cb eb en ec vs B e_ gS jA hB e hE k7 i ob fv (.letter p n) ⟨3,p,n,0,0⟩ hh.1 (by simp) (by simp) (by simp) (by simp) F (fun _=>rfl) F (fun w1 _ hI=>kI CI.pl gS jA hB k7 (.letter p n) hw _ hh w1 (hI.sl e_) (hI.sl hE))
 | .and a b,hw,i,hh,w,_,e_,hE=>by
  obtain⟨j,k,h,ha,hb⟩:=id hh
  exact nO w cb eb en ec vs B e_ gS jA hB e hE k7 i ob fv (.and a b) ⟨6,0,0,(j:Int),(k:Int)⟩ h (by simp) (by simp) (by simp) (by simp) F (fun _=>rfl) F (fun w1 _ hI=>kI CI.pl gS jA hB k7 (.and a b) hw _ hh w1 (hI.sl e_) (hI.sl hE))
 | .not a,hw,i,hh,w,_,e_,hE=>by
  obtain⟨j,h,ha⟩:=id hh
  exact nO w cb eb en ec vs B e_ gS jA hB e hE k7 i ob fv (.not a) ⟨7,0,0,(j:Int),0⟩ h (by simp) (by simp) (by simp) (by simp) F (fun _=>rfl) F (fun w1 _ hI=>kI CI.pl gS jA hB k7 (.not a) hw _ hh w1 (hI.sl e_) (hI.sl hE))
 | .star a,hw,i,hh,w,_,e_,hE=>by
  obtain⟨j,h,ha⟩:=id hh
  exact nO w cb eb en ec vs B e_ gS jA hB e hE k7 i ob fv (.star a) ⟨8,0,0,(j:Int),0⟩ h (by simp) (by simp) (by simp) (by simp) F (fun _=>rfl) F (fun w1 _ hI=>kI CI.pl gS jA hB k7 (.star a) hw _ hh w1 (hI.sl e_) (hI.sl hE))
 | .iG a b,hw,i,⟨j,k,h,ha,hb⟩,w,_,e_,hE=>Oj w cb eb en ec vs B e_ gS jA hB e hE k7 i ob fv a b j k h (zv CI gS jA hB k7 ob fv a (by simp only[Rx.wf,ar]at hw;exact hw.1) _ ha w e_ hE) (zv CI gS jA hB k7 ob fv b (by simp only[Rx.wf,ar]at hw;exact hw.2) _ hb w e_ hE)
 | .iR a b,hw,i,⟨j,k,h,ha,hb⟩,w,_,e_,hE=>CI.iR w gS jA hB e_ hE ob fv i a b j k h (zv CI gS jA hB k7 ob fv a (by simp only[Rx.wf,ar]at hw;exact hw.1) _ ha w e_ hE) (zv CI gS jA hB k7 ob fv b (by simp only[Rx.wf,ar]at hw;exact hw.2) _ hb w e_ hE)
 | .ahead a,hw,i,⟨j,h,ha⟩,w,_,e_,hE=>G5 w cb eb en ec vs B e_ gS jA hB e hE k7 i ob fv a j h (fun _=>rfl) (fun w1 _ hI=>kI CI.pl gS jA hB k7 a hw _ ha w1 (hI.sl e_) (hI.sl hE))
 | .behind a,hw,i,⟨j,h,ha⟩,w,_,e_,hE=>CI.behind w gS jA hB e_ hE ob fv i a j h (fun w1 _ hI=>kI CI.pl gS jA hB k7 a hw _ ha w1 (hI.sl e_) (hI.sl hE))
theorem GJ:ExP 74:=ExB.2
theorem Oo (w:World) [dQ prog w] (y:ei):
  cB prog 71 [y.ag] w fun v N=>v=.bool (jj y)∧N=[]:=by
 refine aA func71 F ntmps71 F ?_
 refine aQ (ax (ef y.cl (fun z1=>?_)))
 refine aj (aG (bu dz eN) (ae (bF 0 il) (ae bN ?_)))
 by_cases h9:((y.op:Nat):Int)=9
 ·refine ae (bn aw h9) ?_
  refine cY (cK (ae bw (aR ?_)))
  refine aF (.bool true) results71 F ?_
  exact⟨[],Sub.z,am Value.bool (by unfold jj;rw[aZ (show y.op=9 by omega),Bool.true_or]),F⟩
 refine ae (aY aw h9) (ao (bu dz eN) (ao (bF 0 il) (ao bN (ae bU (aR ?_)))))
 refine aF (.bool (decide (((y.op:Nat):Int)=10))) results71 F ?_
 exact⟨[],Sub.z,am Value.bool (by unfold jj;rw[a8 (show¬y.op=9 by omega),Bool.false_or];exact decide_eq_decide.2 (by omega)),F⟩
def Oq (ls:List Lf) (w:World) (k:Key) (r:SR):Prop:= ∃(s:St) (l:List CR) (bb cb:Option Addr) (bc cc:Nat),lm ls s∧k=s.key∧s.cf=l.map CR.cf∧r.a=.slice bb s.bh.length bc∧r.b=.slice cb l.length cc∧
 ((∃(c1 c2:Nat) (p:List OB),r.lX=[az bb c1 3 1 (cm s.bh),az cb c2 169 3 (dK l)]++gG 173 p∧ ∀y∈l,nf p y.r)∨(r.lX=[]∧Sl w bb (cm s.bh)∧Sl w cb (dK l)∧ ∀y∈l,Sl w y.r.b (fY y.r.o)))
theorem Oq.one {ls:List Lf} {w:World} {k:Key} {r:SR} (h:Oq ls w k r):fS r.a=true∧fS r.b=true:=by
 obtain⟨s,l,bb,cb,bc,cc,_,_,_,h1,h2,_⟩:=h
 rw[h1,h2];exact⟨F,F⟩
theorem Oq.sl {ls:List Lf} {w w1:World} {lX:List Lx.Item} {bb cb:Option Addr} {bh:List Nat} {l:List CR} (hI:Inv w [] w1) (h:(∃(c1 c2:Nat) (p:List OB),lX=[az bb c1 3 1 (cm bh),az cb c2 169 3 (dK l)]++gG 173 p∧ ∀y∈l,nf p y.r)∨(lX=[]∧Sl w bb (cm bh)∧Sl w cb (dK l)∧ ∀y∈l,Sl w y.r.b (fY y.r.o))) (gf: ∀it∈lX,it.P w1):Sl w1 bb (cm bh)∧Sl w1 cb (dK l)∧ ∀y∈l,Sl w1 y.r.b (fY y.r.o):=by
 rcases h with⟨c1,c2,p,he,hp⟩|⟨_,h1,h2,h3⟩
 ·refine⟨rowP.sl (gf (az bb c1 3 1 (cm bh)) (by rw[he];simp)),rowP.sl (gf (az cb c2 169 3 (dK l)) (by rw[he];simp)),fun y hy=>?_⟩
  rcases hp y hy with h|h
  ·exact rowP.sl (gf (OB.qW 173 y.r) (by rw[he];exact ah _ (List.mem_map.2 ⟨_,h,F⟩)))
  ·rw[h];exact fun i hi=>absurd hi (by simp[fY])
 ·exact⟨hI.sl h1,hI.sl h2,fun y hy=>hI.sl (h3 y hy)⟩
set_option maxRecDepth 20000 in
theorem aaZ (w:World) [dQ prog w] (ob:Nat) (lb:Option Addr) (lc:Nat) (cv fv:Value) (ls:List Lf) (ks:List LK) (ho:l_ w ob lb lc cv fv ls ks) (vs:Nat) (hG:iW ls vs) {K:Nat} (hK:rN ls K) (zp:K<137438953472) (gS:vs≤6) (w1:World) [dQ prog w1] (hI:Inv w [] w1) (k:Key) (r:SR) (hR:Oq ls w k r) (gf: ∀it∈r.lX,it.P w1):fh prog w1 (.func (.func 76) #[(eJ ob 0)] #[]) [.agg #[r.a,r.b]] [] (fun v O'=>v=str k∧O'=[]):=by
 obtain⟨s,l,bb,cb,bc,cc,hs,rfl,LC,e1,e2,hm⟩:=hR
 obtain⟨hb,hl,EA⟩:=Oq.sl (ls:=ls) hI hm gf
 have hg: ∀y∈l,jT ls y.cf:=fun y hy=>hs.cf _ (by rw[LC];exact List.mem_map_of_mem hy)
 have Kn:l.length≤K:=by
  have:=hK s.cf hs.nd hs.cf;rw[LC,ai]at this;exact this
 rw[e1,e2]
 refine(cZ (first:=[(eJ ob 0)]) (args:=[(.agg #[.slice bb s.bh.length bc,.slice cb l.length cc])]) (gU:=[]) aa0 (aaP w1 (eJ ob 0) bb bc s.bh hb (by have:=hs.bh.len;have:=hG.len;omega) (hs.bh.num hG) cb cc l hl (by omega) hG hg (fun y hy=>by
  have:=hG.len
  rcases hg y hy with⟨_,_,h⟩|⟨q,_,hq,_,h⟩
  ·have:=h.len;show y.cf.o.length≤12;omega
  ·have:=h.len;show y.cf.o.length≤12;omega) EA)).mono ?_
 rintro v O' ⟨rfl,rfl⟩
 rw[←LC];exact⟨F,F⟩
set_option maxRecDepth 20000 in
theorem aa1 (w:World) [dQ prog w] (ob:Nat) (lb:Option Addr) (lc:Nat) (cv fv:Value) (ls:List Lf) (ks:List LK) (ho:l_ w ob lb lc cv fv ls ks) (vs:Nat) (hG:iW ls vs) {K:Nat} (hK:rN ls K) (zp:K<137438953472) (gS:vs≤6) (w1:World) [dQ prog w1] (hI:Inv w [] w1) (k:Key) (r:SR) (hR:Oq ls w k r) (gf: ∀it∈r.lX,it.P w1):fh prog w1 (.func (.func 78) #[(eJ ob 0)] #[]) [.agg #[r.a,r.b]] [] (fun v O'=>v=.bool (Ko (lm ls) St.key qt k)∧O'=[]):=by
 obtain⟨s,l,bb,cb,bc,cc,hs,rfl,LC,e1,e2,hm⟩:=hR
 obtain⟨hb,hl,EA⟩:=Oq.sl (ls:=ls) hI hm gf
 have hg: ∀y∈l,jT ls y.cf:=fun y hy=>hs.cf _ (by rw[LC];exact List.mem_map_of_mem hy)
 have Kn:l.length≤K:=by
  have:=hK s.cf hs.nd hs.cf;rw[LC,ai]at this;exact this
 rw[e1,e2]
 rw[Cx (EK hG) hs]
 refine(cZ (first:=[(eJ ob 0)]) (args:=[(.agg #[.slice bb s.bh.length bc,.slice cb l.length cc])]) (gU:=[]) aa2 (R9 w1 (eJ ob 0) s.bh (.slice bb s.bh.length bc) cb cc l hl (by omega))).mono ?_
 rintro v O' ⟨rfl,rfl⟩
 rw[←LC];exact⟨F,F⟩
set_option maxRecDepth 20000 in
theorem aa3 (w:World) [dQ prog w] (ob:Nat) (lb:Option Addr) (lc:Nat) (cv fv:Value) (ls:List Lf) (ks:List LK) (ho:l_ w ob lb lc cv fv ls ks) (vs:Nat) (hG:iW ls vs) {K:Nat} (hK:rN ls K) (zp:K<137438953472) (gS:vs≤6) (w1:World) [dQ prog w1] (hI:Inv w [] w1) (k:Key) (r:SR) (hR:Oq ls w k r) (gf: ∀it∈r.lX,it.P w1) (x:Nat) (hx:x<2^vs):fh prog w1 (.func (.func 77) #[(eJ ob 0)] #[]) [.agg #[r.a,r.b],.int .u8 (x:Int)] [] (fun v N=> ∃r',v=.agg #[r'.a,r'.b]∧N=r'.lX∧Oq ls w (Cw (lm ls) St.key (jJ ls) k x) r'):=by
 obtain⟨s,l,bb,cb,bc,cc,hs,rfl,LC,e1,e2,hm⟩:=hR
 obtain⟨hb,hl,EA⟩:=Oq.sl (ls:=ls) hI hm gf
 have hg: ∀y∈l,jT ls y.cf:=fun y hy=>hs.cf _ (by rw[LC];exact List.mem_map_of_mem hy)
 have Kn:l.length≤K:=by
  have:=hK s.cf hs.nd hs.cf;rw[LC,ai]at this;exact this
 rw[e1,e2]
 refine(cZ (first:=[(eJ ob 0)]) (args:=[(.agg #[.slice bb s.bh.length bc,.slice cb l.length cc]),.int .u8 (x:Int)]) (gU:=[]) aa4 (WL w1 ob lb lc cv fv ls ks (hI.out ho) vs hG hK (by omega) x hx gS s.bh bb bc hb hs.bh l cb cc hl hg (by rw[←LC];exact hs.nd) EA)).mono ?_
 rintro v O' ⟨b1,b2,b3,c1,c2,l2,p,rfl,rfl,h1,h2⟩
 refine⟨⟨.slice b1 (jq ls s.bh x).length b2,.slice c1 l2.length c2,_⟩,F,F,jJ ls s x,l2,b1,c1,b2,c2,pM hG hs hx,tX (EK hG) hs hx,?_,F,F,.inl ⟨_,_,p,F,h2.N8⟩⟩
 rw[h1,←LC];rfl
theorem KC (w:World) [dQ prog w] (cb:Nat) (eb:Option Addr) (en ec vs B:Nat) (e_:Sl w (aD cb) [.slice eb en ec,vI (vs:Int),vI (B:Int)]) (gS:vs≤6) (jA:1≤B) (hB:B≤4096) (e:List ei) (hE:Sl w eb (bX e)) (k7:en=e.length) (HL:0<e.length) (qZ:e.length≤64) (t:Rx) (Df:ve e t (e.length-1)) (Ir:Wl cb eb en ec vs B e) (Ot:e.any jj=false) (EA:t.plain=true):
  dT prog w (.iface 163 (.agg #[])) 46 [(eJ cb 0)] [] (fun v N=> ∃M k',v=dV M k'∧N=[dI 56 4 3 M k']∧fV (vs:Int) B M (fM t)∧kZ vs t B) (¬kZ vs t B):=by
 refine ek func46 F ntmps46 F ?_
 subst k7
 refine aQ (ax (b_ bY (fun z1=>?_)))
 refine bi (bo bg (ae (cF mj F iK F F (a6 e_) (by first|omega|(simp;done)|(simp;omega)|(simp_all;done)|(simp_all;omega))) (ae (dD dX F F e_ F) (ae (cL dX) (ae (cg (ga F F (by omega)) (v':=vN (e.length-1)) (am (Value.int .i64) (by omega))) (aS (bq (ay bg (ae (cF mj F iK F F (a6 e_) (by first|omega|(simp;done)|(simp;omega)|(simp_all;done)|(simp_all;omega))) (ae (dD dX F F e_ F) ?_))))))))))
 have rK:=fun(w1:World) (hI:Inv w [oI z1 25 [(vI 0),(vI 0),nS,nS]] w1)=>(haveI:=eP hI;(show cB _ _ _ _ (fun v N=>v=Value.bool false∧N=[])from by
   have h9:=qO w1 eb ec e (hI.sl hE) (by omega) ((.func (.func 71) #[] #[])) jj (fun y hy=>cZ (first:=[]) (args:=[y.ag]) (gU:=[]) Uj (Oo w1 y))
   rw[Ot]at h9
   exact h9))
 refine TO.lc Uk (aO rK) ?_
 clear rK
 rintro vr O' ⟨N,rfl,rfl,rfl⟩
 refine aX g_ ?_
 refine bW ?_
 refine a7 (aN ?_)
 have NQ:=fun(w1:World) (hI:Inv w [oI z1 25 [(vI 0),(vI 0),nS,nS]] w1)=>(haveI:=eP hI;kI Ir gS jA hB F t EA (e.length-1) Df w1 (hI.sl e_) (hI.sl hE))
 refine eU F (fD qN (dT.pure NQ) F (fun z _=>⟨F,z⟩) ?_)
 clear NQ
 rintro vr O' ⟨N,rfl,M,kr,rfl,rfl,hM,hO⟩
 refine ax (c8 ((dC M kr)) 1 bY ?_)
 refine dP ?_
 refine cQ (i:=1) results46 dm F bY F F F ?_
 exact⟨[dI 56 4 3 M kr],(by exact Sub.k .z),M,kr,F,F,hM,hO⟩
theorem Ou (w:World) [dQ prog w] (cb:Nat) (eb:Option Addr) (en ec vs B:Nat) (e_:Sl w (aD cb) [.slice eb en ec,vI (vs:Int),vI (B:Int)]) (gS:vs≤6) (jA:1≤B) (hB:B≤4096) (e:List ei) (hE:Sl w eb (bX e)) (k7:en=e.length) (HL:0<e.length) (qZ:e.length≤64) (t:Rx) (Df:ve e t (e.length-1)) (CI:WT cb eb en ec vs B e) (Ot:e.any jj=true) (hw:t.wf=true) (aa5:t.lv≤12) {K:Nat} (hK1:K<137438953472) (hG0:okB vs t B→iW (jN vs t) vs) (zp:okB vs t B→rN (jN vs t) K):
  dT prog w (.iface 163 (.agg #[])) 46 [(eJ cb 0)] [] (fun v N=> ∃M k',v=dV M k'∧N=[dI 56 4 3 M k']∧fV (vs:Int) B M (Yn vs t)∧okC vs t B) (¬okC vs t B):=by
 refine ek func46 F ntmps46 F ?_
 subst k7
 have Kz:t.lv≤12:=aa5
 have Gm:=gO vs t []
 have Lq:=eC vs t []
 simp only[dx,Nat.zero_add]at Gm Lq
 have Qz:(2:Nat)^vs≤64:=ck (by decide) gS
 refine aQ (ax (b_ bY (fun z1=>?_)))
 refine bi (bo bg (ae (cF mj F iK F F (a6 e_) (by first|omega|(simp;done)|(simp;omega)|(simp_all;done)|(simp_all;omega))) (ae (dD dX F F e_ F) (ae (cL dX) (ae (cg (ga F F (by omega)) (v':=vN (e.length-1)) (am (Value.int .i64) (by omega))) (aS (bq (ay bg (ae (cF mj F iK F F (a6 e_) (by first|omega|(simp;done)|(simp;omega)|(simp_all;done)|(simp_all;omega))) (ae (dD dX F F e_ F) ?_))))))))))
 let eH:Lx.Item:=oI z1 25 [(vI 0),(vI 0),nS,nS]
 have rK:=fun(w1:World) (hI:Inv w [eH] w1)=>(haveI:=eP hI;(show cB _ _ _ _ (fun v N=>v=Value.bool true∧N=[])from by
   have h9:=qO w1 eb ec e (hI.sl hE) (by omega) ((.func (.func 71) #[] #[])) jj (fun y hy=>cZ (first:=[]) (args:=[y.ag]) (gU:=[]) Uj (Oo w1 y))
   rw[Ot]at h9
   exact h9))
 refine TO.lc Uk (aO rK) ?_
 clear rK
 rintro vr O' ⟨N,rfl,rfl,rfl⟩
 refine aX g_ (bf (aE (bo (dc [(eJ cb 0),nS,nS] Sb WU (by kernel_rfl)) (ax (ef [(eJ cb 0),nS,nS] (fun z2=>?_))))))
 refine aj (br (T.fJ 118 7 ?_))
 let fR:List Lx.Item:=[oI z2 114 [(eJ cb 0),nS,nS],az none 0 118 7 (dA [] []),eH]
 refine dq (O':=fR++(cw 3 (fB [] [])++ik 56 4 3 [] [])) (cH [1,0,0]) ?_
 refine a_ (de ?_)
 have y_:=((zv CI gS jA hB F z2 nS t hw (e.length-1) Df w e_ hE).frame [eH] (O:=fR) none 0 [] [] F (by simp;omega) ⟨0,by simp,by have:=Nat.mul_le_mul Kz Kz;omega⟩ (by exact Sub.rf))
 refine eU F (fD EG y_ F (fun z _=>⟨F,fun h9=>z h9.1⟩) ?_)
 clear y_
 rintro vr O' ⟨lb,lc,ks,fb,fc,xb,xc,rfl,rfl,pu,Kt⟩
 let gd:Value:=(.slice fb ((aM vs t []).fi.length) fc)
 refine ay (bI _) (ae (bI _) (aS (aj (a7 (ay bg (ae (bu gV eo) (ax (c8 [gd] 0 eo ?_))))))))
 refine bq (ay (cL da) (bH (aK ?_)))
 let sJ:Lx.Item:=az fb fc 3 1 (cm ((aM vs t []).fi))
 let qM:Lx.Item:=az xb xc 3 1 (cm ((aM vs t []).la))
 refine dq (O':=[oI z2 114 [(eJ cb 0),(.slice lb (((aM vs t []).ls).length) lc),gd],az lb lc 118 7 (dA ((aM vs t []).ls) ks),sJ,qM,eH]++(cw 3 (fB ((aM vs t []).ls) ks)++ik 56 4 3 ((aM vs t []).ls) ks)) (by exact Sub.rf) ?_
 let gn:Value:=(.pointer (aD z2))
 refine ep (fun(i9:Nat) ρ O=> ∃(l3:List Lf),O=([oI z2 114 [(eJ cb 0),(.slice lb l3.length lc),gd],az lb lc 118 7 (dA l3 ks),sJ,qM,eH]++(cw 3 (fB l3 ks)++ik 56 4 3 l3 ks))∧i9≤(aM vs t []).la.length∧l3=ny (aM vs t []).ls ((aM vs t []).la.take i9)∧ks.length=l3.length∧dh [(0,(eJ cb 0)),(2,(.pointer (aD z1))),(3,vN (e.length-1)),(4,gn),(5,gd),(6,(.slice xb ((aM vs t []).la.length) xc)),(26,gn),(37,(.slice xb ((aM vs t []).la.length) xc)),(38,vI ((aM vs t []).la.length:Int)),(39,vN i9)] ρ) (fun i9=>(aM vs t []).la.length-i9) 0 ?_ ?_
 ·exact⟨(aM vs t []).ls,F,bj _,F,pu,(.of F)⟩
 rintro i9 ρ O ⟨l3,rfl,Lr,Qv,u6,hH⟩
 obtain⟨gv,rfl⟩:=hH.elim
 clear hH
 refine aG cV (dJ (aL F (fun hc=>?_) (fun hc=>?_)))
 ·have zl:i9<(aM vs t []).la.length:=by omega
  obtain⟨kk,G6⟩: ∃k,k=(aM vs t []).la[i9]:=⟨_,F⟩
  have BB:kk<l3.length:=by
   have:=(Gm.2.1 _ (av zl)).2
   rw[Qv,sP,Lq,G6];exact this
  refine aE (br (aK (aG (dB i9 da bM F F (eA 3) zl (by rw[ai];exact zl)) (ae (iN eO F F (eA 3) (show(cm (aM vs t []).la)[i9]? =some (vN kk) by rw[G6];exact iT zl)) (aj (a_ (ay bg (ae (bu gV gY) (ae (bF 0 fU) (ay (eF (i:=kk) fU fG F F (eA 1) BB (by rw[ey u6];omega)) (ae (cF ji F gq F F (eA 1) (by rw[ey u6];omega)) (ax (n7 (v:=.bool true) (vs:=[(.bool true)]) (cs:=dA l3 ks) ((kk*7+6)) 1 gq F F F F F (by simp) F (by rw[ey u6];simp;omega) ?_)))))))))))))
  let kp:Value:=(.slice fb ((aM vs t []).fi.length) fc)
  let np:Lx.Item:=az fb fc 3 1 (cm ((aM vs t []).fi))
  let lZ:Lx.Item:=az xb xc 3 1 (cm ((aM vs t []).la))
  refine dW (O':=([oI z2 114 [(eJ cb 0),(.slice lb l3.length lc),kp],az lb lc 118 7 (dA (l3.set kk {lf l3 kk with la:=true}) ks),np,lZ,eH]++(cw 3 (fB l3 ks)++ik 56 4 3 l3 ks))) (by rw[show fC (dA l3 ks) (kk*7+6) [(.bool true)]=dA (l3.set kk {lf l3 kk with la:=true}) ks from(by rw[EL u6 BB];simp[fC])];exact cd (aP _)) ?_
  refine bi (a_ (ae (dj (b:=1) i9 F F (by omega)) (bH ?_)))
  exact⟨i9+1,by omega,[oI z2 114 [(eJ cb 0),(.slice lb ((l3.set kk {lf l3 kk with la:=true}).length) lc),kp],az lb lc 118 7 (dA (l3.set kk {lf l3 kk with la:=true}) ks),np,lZ,eH]++(cw 3 (fB (l3.set kk {lf l3 kk with la:=true}) ks)++ik 56 4 3 (l3.set kk {lf l3 kk with la:=true}) ks),by
   rw[G_ u6 BB,KD u6 BB,eI]
   exact Sub.rf,(l3.set kk {lf l3 kk with la:=true}),F,by omega,by rw[Ha zl,←G6,←Qv],by rw[eI];exact u6,(.of F)⟩
 have T2: ¬i9<(aM vs t []).la.length:=by omega
 refine cD ?_
 refine br ?_
 have e3:l3=jN vs t:=by rw[Qv,bt (by omega)];rfl
 have hG:=hG0 Kt
 have hK:=zp Kt
 rw[←e3]at hG hK
 have oG:(aM vs t []).fi.length≤1000000:=by have:=Gm.2.2.1;omega
 have aa7: ∀k∈(aM vs t []).fi,k<l3.length:=fun k hk=>by rw[e3];exact x0 k hk
 refine a_ (de ?_)
 let iB:Value:=(.slice fb ((aM vs t []).fi.length) fc)
 let jz:Lx.Item:=oI z2 114 [(eJ cb 0),(.slice lb l3.length lc),iB]
 let li:Lx.Item:=az fb fc 3 1 (cm ((aM vs t []).fi))
 let mF:Lx.Item:=az xb xc 3 1 (cm ((aM vs t []).la))
 have aa8:=fun(w1:World) (hI:Inv w ([jz,az lb lc 118 7 (dA l3 ks),li,mF,eH]++(cw 3 (fB l3 ks)++ik 56 4 3 l3 ks)) w1)=>(haveI:=eP hI;R5 w1 z2 lb lc (eJ cb 0) (.slice fb ((aM vs t []).fi.length) fc) l3 ks (l_.of (II:=56) (Bo:=4) (I:=3) hI u6 (mG 0) (mG 1) (fun it h=>ah _ (aH _ h)) (fun it h=>ah _ (ah _ h))) vs hG hK (by omega) (aM vs t []).fi fb fc F (hI.ij (mG 2)) aa7 oG)
 refine TO.lc aa9 (aO aa8) ?_
 clear aa8
 rintro vr O' ⟨N,rfl,bb,bc,nk,gb,gc,l,p,rfl,rfl,hlm,hS⟩
 refine dW (O':=([az bb nk 3 1 (cm (l3.map fun l=>l.d.start.toNat)),az gb gc 169 3 (dK l),jz,az lb lc 118 7 (dA l3 ks),li,mF,eH]++((gG 173 p)++(cw 3 (fB l3 ks)++ik 56 4 3 l3 ks)))) (by exact gh [az bb nk 3 1 (cm (l3.map fun l=>l.d.start.toNat)),az gb gc 169 3 (dK l)] _ (gG 173 p) (cw 3 (fB l3 ks)++ik 56 4 3 l3 ks)) ?_
 refine ay (fI) (ay (fI) (ay (fI) ?_))
 have Ov:=fun(w1:World) (hI:Inv w ([az bb nk 3 1 (cm (l3.map fun l=>l.d.start.toNat)),az gb gc 169 3 (dK l),oI z2 114 [(eJ cb 0),(.slice lb l3.length lc),iB],az lb lc 118 7 (dA l3 ks),az fb fc 3 1 (cm ((aM vs t []).fi)),az xb xc 3 1 (cm ((aM vs t []).la)),eH]++((gG 173 p)++(cw 3 (fB l3 ks)++ik 56 4 3 l3 ks))) w1)=>(haveI:=eP hI;GJ w1 cb eb _ ec vs B (2^vs) (hI.sl e_) gS F jA hB (Cw (lm l3) St.key (jJ l3)) (Ko (lm l3) St.key qt) (iz l3 (aM vs t []).fi).key (Oq l3 w1) ⟨.slice bb (l3.map fun l=>l.d.start.toNat).length bc,.slice gb l.length gc,[]⟩ (.func (.func 76) #[gn] #[]) (.func (.func 77) #[gn] #[]) (.func (.func 78) #[gn] #[]) ⟨(iz l3 (aM vs t []).fi),l,bb,gb,bc,gc,qx hG aa7,F,(by rw[hlm];rfl),F,F,.inr ⟨F,hI.ij (mG 0),hI.ij (mG 1),fun y hy=>nf.sl (T:=173) hI (fun it h=>ah _ (aH _ h)) (hS.N8 y hy)⟩⟩ F (fun k r h=>h.one) (fun w2 k r qK hR gf=>haveI:=eP qK;aaZ w1 z2 lb lc (eJ cb 0) iB l3 ks (l_.of (II:=56) (Bo:=4) (I:=3) hI u6 (mG 2) (mG 3) (fun it h=>ah _ (ah _ (aH _ h))) (fun it h=>ah _ (ah _ (ah _ h)))) vs hG hK hK1 gS w2 qK k r hR gf) (fun w2 k r x qK hR gf hx=>haveI:=eP qK;aa3 w1 z2 lb lc (eJ cb 0) iB l3 ks (l_.of (II:=56) (Bo:=4) (I:=3) hI u6 (mG 2) (mG 3) (fun it h=>ah _ (ah _ (aH _ h))) (fun it h=>ah _ (ah _ (ah _ h)))) vs hG hK hK1 gS w2 qK k r hR gf x hx) (fun w2 k r qK hR gf=>haveI:=eP qK;aa1 w1 z2 lb lc (eJ cb 0) iB l3 ks (l_.of (II:=56) (Bo:=4) (I:=3) hI u6 (mG 2) (mG 3) (fun it h=>ah _ (ah _ (aH _ h))) (fun it h=>ah _ (ah _ (ah _ h)))) vs hG hK hK1 gS w2 qK k r hR gf))
 refine eU F (fD aba (dT.pure Ov) F (fun z _=>⟨F,fun h9=>z (by have:=h9.2;unfold VI at this;rw[←e3]at this;exact this)⟩) ?_)
 clear Ov
 rintro vr O' ⟨N,rfl,M,k9,rfl,rfl,hM,Nz⟩
 refine ax (c8 ((dC M k9)) 7 bY ?_)
 refine dP ?_
 refine cQ (i:=7) results46 dm F bY F F F ?_
 subst e3
 exact⟨[dI 56 4 3 M k9],(by exact Sub.k .z),M,k9,F,F,hM.to fun u hu=>Ow hG (fun x hx=>by simpa using hu x hx),Kt,Nz⟩
theorem Sg (w:World) (p q:Addr):CallsDIn Fence.wide 0 prog 45 #[.pointer (some p),.pointer (some q)] .returning w fun e u' w'=>e=.returned (.tuple #[])∧u'=.returning∧w'=w:=by
 refine callsDIn_of_wpSIn func45 F trivial fun XI cs hu=>?_
 apply wpSIn_seq
 apply wpSIn_region
 simp[wpOpsSIn,go_sem,recoverD,hu,ntmps45,Exit.thenS,Fence.wide]
 apply wpSIn_seq
 apply wpSIn_region
 simp[wpOpsSIn,go_sem,hu,Exit.thenS]
 refine wpSIn_cond (t:=false) (by simp[Act.eval,Array.replicate]) ?_
 simp only[Bool.false_eq_true,if_false]
 refine wpSIn_of_wpIn F (wpIn_skip ?_)
 cases XI
 simp_all[bodyPostS,results,results45]
def zD:List Value:=[.int .i64 0,.int .i64 0,.slice none 0 0,.slice none 0 0]
set_option maxRecDepth 20000 in
theorem OJ (base:World) (z6 z7:Nat) (M:List Lx.Item) (w:World) (T0:TypeId) (x:Value) (hI:Inv base ([oI z6 25 zD,oI z7 27 [.int .i64 0]]++M) w):
  CallsDIn Fence.wide 0 prog 45 #[.pointer (some ⟨z6,0,none⟩),.pointer (some ⟨z7,0,none⟩)] (.panicking [{v:=.iface T0 x,recovered:=false}]) w fun e u' w'=>
   e=.returned (.tuple #[])∧u'=.panicking [{v:=.iface T0 x,recovered:=true}]∧Inv base ([oI z6 25 zD,oI z7 27 [.int .i64 10]]++M) w':=by
 refine callsDIn_of_wpSIn func45 F trivial fun XI cs hu=>?_
 apply wpSIn_seq
 apply wpSIn_region
 simp[wpOpsSIn,go_sem,recoverD,hu,ntmps45,Exit.thenS,Fence.wide]
 apply wpSIn_seq
 apply wpSIn_region
 simp[wpOpsSIn,go_sem,Exit.thenS]
 refine wpSIn_cond (t:=true) (by simp[Act.eval,Array.replicate]) ?_
 simp only[if_true]
 refine wpSIn_of_wpIn F ?_
 refine TG.region (base:=base) (n:=7) (ds:=[]) (M:=M) (ρ:=fun t=>Array.getD _ t undef) (O:=[oI z6 25 zD,oI z7 27 [.int .i64 0]]) ?_ ⟨fun t=>rfl,by simp,F⟩ hI
 refine eD (dc zD kg bY (by kernel_rfl)) ?_
 refine gZ F (xA (v:=.agg zD.toArray) (vs:=zD) 0 bY F F F F F F (by simp) ?_)
 refine gZ F (xA (v:=.int .i64 10) (vs:=[.int .i64 10]) 1 jS F F F F F F (by simp) ?_)
 refine TG.nil fun a w' ha oM=>?_
 have hd:=ha.defers
 cases XI
 simp_all[bodyPostS,results,results45]
 exact oM
def FrR (E:Nat) (f_:Int) (G:c_→Prop) (Z:Prop) (v:Value) (O':List Lx.Item):Prop:=
 (E≠0∧v=.tuple #[.agg zD.toArray,.int .i64 (E:Int)]∧O'=[])∨(E=0∧ ¬(1≤f_∧f_≤4096)∧v=.tuple #[.agg zD.toArray,.int .i64 1]∧O'=[])∨
 (E=0∧(1≤f_∧f_≤4096)∧((∃M k,v=.tuple #[dV M k,.int .i64 0]∧O'=[dI 56 4 3 M k]∧G M)∨(v=.tuple #[.agg zD.toArray,.int .i64 10]∧O'=[]∧Z)))
abbrev RF (base:World) (M:List Lx.Item) (R:Value→List Lx.Item→Prop):Ending→World→Prop:=fun e QW=> ∃v O',e=.returned v∧Inv base (O'++M) QW∧R v O'
theorem EQ {base w:World} {M O:List Lx.Item} {tmps:Array Value} {ρ:Env} {R:Value→List Lx.Item→Prop} (ht: ∀t,tmps.getD t undef=ρ t) (hI:Inv base (O++M) w) (hr:qS prog base Tryz.f19 ρ O R):LeavesInM Fence.wide 0 prog Tryz.f19 tmps (RF base M R) [] .returning w:=by
 obtain⟨v,An,Ax,hR,hr⟩:=hr.ex
 exact⟨v,hr w tmps hI.left ht,v,An,F,hI.lz Ax.tP,hR⟩
theorem dfr (z6 z7:Nat) (w:World):(invoke (.fn (.func 45) #[.pointer (some ⟨z6,0,none⟩),.pointer (some ⟨z7,0,none⟩)]) #[]).run prog w=.ok (.enter 45 #[.pointer (some ⟨z6,0,none⟩),.pointer (some ⟨z7,0,none⟩)]) w:=by
 have uI: ¬Tryz.f45.name= "runtime.NumGoroutine" :=by simpa using OF.2.1
 obtain⟨bd,Q0⟩:=Option.isSome_iff_exists.1 OF.2.2
 simp[invoke,callFunc,OF.1,uI,Q0]
theorem Uv (base:World) [dQ prog base] (eb:Option Addr) (en ec:Nat) (vars:Int) (E:Nat) (f_:Int) (G:c_→Prop) (Z:Prop)
  (aeE: ∀w1 [dQ prog w1],Inv base [] w1→cB prog 28 [.slice eb en ec,.int .i64 vars] w1 fun v N=>v=.int .i64 (E:Int)∧N=[])
  (hC:E=0→1≤f_→f_≤4096→ ∀(w8:World) [dQ prog w8] (cb:Nat),Inv base [] w8→Sl w8 (some ⟨cb,0,none⟩) [.slice eb en ec,.int .i64 vars,.int .i64 f_]→dT prog w8 (.iface 163 (.agg #[])) 46 [JZ (some ⟨cb,0,none⟩) 0] [] (fun v N=> ∃M k',v=dV M k'∧N=[dI 56 4 3 M k']∧G M) Z):
  cx prog base 19 [.slice eb en ec,.int .i64 vars,.int .i64 f_] [] (FrR E f_ G Z):=by
 intro w M hI
 rw[←callsIn_wide (n:=0)]
 refine callsIn_of_wp_marks func19 F trivial ?_
 have ha:Ag 32 [] {tmps:=([.slice eb en ec,.int .i64 vars,.int .i64 f_]:List Value).toArray++Array.replicate (Tryz.f19.ntmps-([.slice eb en ec,.int .i64 vars,.int .i64 f_]:List Value).toArray.size) undef,defers:=[]} (entry [.slice eb en ec,.int .i64 vars,.int .i64 f_]):=by
  rw[ntmps19]
  refine⟨fun t=>?_,by simp,F⟩
  show(_++_:Array Value).getD t undef=List.getD _ t undef
  rw[dF,au]
  by_cases h:t<3
  ·rw[Array.getElem?_append_left (by simpa using h)];simp
  ·rw[Array.getElem?_append_right (by simpa using h),Array.getElem?_replicate,cn (by simpa using h)]
   split<;>rfl
 refine wpIn_seq ?_
 refine TG.region (O:=[]) ?_ ha hI
 refine gZ F (b_ bY (fun z6=>?_))
 refine gZ F (b_ jS (fun z7=>?_))
 refine TG.nil fun a w ha hI=>?_
 refine wpIn_seq ?_
 refine wpIn_seq ?_
 refine TG.region ?_ ha hI
 refine eD aw (eD aw ?_)
 refine gZ F (eh abp (aO (fun w1 hI=>(haveI:=eP hI;aeE w1 hI.oE))) ?_)
 rintro vr O' ⟨N,rfl,rfl,rfl⟩
 refine eD cz ?_
 refine TG.nil fun a w ha hI=>?_
 refine wpIn_seq ?_
 refine TG.region ?_ ha hI
 refine eD aw (eD d_ ?_)
 refine TG.nil fun a w ha hI=>?_
 by_cases hE:E=0
 case neg=>
  refine wpIn_cond (t:=true) (by rw[ha.eval];show Value.bool (decide ((E:Int)≠0))=Value.bool true;rw[aZ (show(E:Int)≠0 by omega)]) ?_
  simp only[if_true]
  refine wpIn_seq ?_
  refine TG.region ?_ ha hI
  refine eD (dc zD kg bY (by kernel_rfl)) (eD aw ?_)
  refine gZ F (xA (v:=.agg zD.toArray) (vs:=zD) 1 bY F F F F F F (by decide) ?_)
  refine gZ F (xA (v:=.int .i64 (E:Int)) (vs:=[.int .i64 (E:Int)]) 0 jS F F F F F F (by simp) ?_)
  refine TG.nil fun a w ha hI=>wpIn_ret ?_
  show LeavesInM _ _ _ _ _ _ a.defers _ w
  rw[ha.defers]
  refine EQ ha.tmp hI (dS ?_)
  refine jn (i:=1) (j:=0) results19 dm F bY pH F F F F F F ?_
  exact⟨[],Sub.z,.inl ⟨hE,F,F⟩⟩
 subst hE
 refine wpIn_cond (t:=false) (by rw[ha.eval];rfl) ?_
 simp only[Bool.false_eq_true,if_false]
 refine wpIn_skip ?_
 refine wpIn_seq ?_
 refine wpIn_seq ?_
 refine TG.region (base:=base) (n:=32) (ds:=[]) (M:=M) (ρ:=fun t=>a.tmps.getD t undef) (O:=[eu z7 (.cells #[.int .i64 0] 27 (0,0)),eu z6 (.cells #[.int .i64 0,.int .i64 0,.slice none 0 0,.slice none 0 0] 25 (0,0))]) ?_ ⟨fun t=>rfl,ha.size,ha.defers⟩ hI
 have h2:a.tmps.getD 2 undef=.int .i64 f_:=by rw[ha.tmp];rfl
 have h0:a.tmps.getD 0 undef=.slice eb en ec:=by rw[ha.tmp];rfl
 have h1:a.tmps.getD 1 undef=.int .i64 vars:=by rw[ha.tmp];rfl
 have h6:a.tmps.getD 6 undef=.pointer (some ⟨z6,0,none⟩):=by rw[ha.tmp];rfl
 have h7:a.tmps.getD 7 undef=.pointer (some ⟨z7,0,none⟩):=by rw[ha.tmp];rfl
 generalize Yv:(fun t=>a.tmps.getD t undef)=ρ
 have r2:ρ 2=.int .i64 f_:=by rw[←Yv];exact h2
 have r0:ρ 0=.slice eb en ec:=by rw[←Yv];exact h0
 have r1:ρ 1=.int .i64 vars:=by rw[←Yv];exact h1
 have r6:ρ 6=.pointer (some ⟨z6,0,none⟩):=by rw[←Yv];exact h6
 have r7:ρ 7=.pointer (some ⟨z7,0,none⟩):=by rw[←Yv];exact h7
 clear h2 h0 h1 h6 h7 Yv
 by_cases JX:f_<1
 ·refine eD aw (eD (cg (cV (a:=f_) (b:=1) r2 F) (v':=.bool true) (by rw[aZ JX])) (eD aw ?_))
  refine xk F F (xk F F (eD bw ?_))
  refine TG.nil fun a w ha hI=>?_
  refine wpIn_cond (t:=true) (by rw[ha.eval];rfl) ?_
  simp only[if_true]
  refine wpIn_seq ?_
  refine TG.region ?_ ha hI
  refine eD (dc zD kg bY (by kernel_rfl)) ?_
  refine gZ F (xA (v:=.agg zD.toArray) (vs:=zD) 1 bY r6 F F F F F (by decide) ?_)
  refine gZ F (xA (v:=.int .i64 1) (vs:=[.int .i64 1]) 0 jS r7 F F F F F (by decide) ?_)
  refine TG.nil fun a w ha hI=>wpIn_ret ?_
  show LeavesInM _ _ _ _ _ _ a.defers _ w
  rw[ha.defers]
  refine EQ ha.tmp hI (dS ?_)
  refine jn (i:=1) (j:=0) results19 dm F bY pH F r6 r7 F F F ?_
  exact⟨[],Sub.z,.inr (.inl ⟨F,by omega,F,F⟩)⟩
 ·refine eD aw (eD (cg (cV (a:=f_) (b:=1) r2 F) (v':=.bool false) (by rw[a8 JX])) (eD aw ?_))
  by_cases FW:4096<f_
  ·refine nJ F F F (eV F F aw ?_)
   refine nJ F F F (eV F F (cg (gT (a:=f_) (b:=4096) r2 F) (v':=.bool true) (by rw[aZ FW])) ?_)
   refine eD bU ?_
   refine TG.nil fun a w ha hI=>?_
   refine wpIn_cond (t:=true) (by rw[ha.eval];rfl) ?_
   simp only[if_true]
   refine wpIn_seq ?_
   refine TG.region ?_ ha hI
   refine eD (dc zD kg bY (by kernel_rfl)) ?_
   refine gZ F (xA (v:=.agg zD.toArray) (vs:=zD) 1 bY r6 F F F F F (by decide) ?_)
   refine gZ F (xA (v:=.int .i64 1) (vs:=[.int .i64 1]) 0 jS r7 F F F F F (by decide) ?_)
   refine TG.nil fun a w ha hI=>wpIn_ret ?_
   show LeavesInM _ _ _ _ _ _ a.defers _ w
   rw[ha.defers]
   refine EQ ha.tmp hI (dS ?_)
   refine jn (i:=1) (j:=0) results19 dm F bY pH F r6 r7 F F F ?_
   exact⟨[],Sub.z,.inr (.inl ⟨F,by omega,F,F⟩)⟩
  refine nJ F F F (eV F F aw ?_)
  refine nJ F F F (eV F F (cg (gT (a:=f_) (b:=4096) r2 F) (v':=.bool false) (by rw[a8 FW])) ?_)
  refine eD bU ?_
  refine TG.nil fun a w ha hI=>?_
  refine wpIn_cond (t:=false) (by rw[ha.eval];rfl) ?_
  simp only[Bool.false_eq_true,if_false]
  refine wpIn_skip ?_
  refine wpIn_seq ?_
  refine TG.region ?_ ha hI
  refine eD (cg fI (v':=.func (.func 45) #[] #[.pointer (some ⟨z6,0,none⟩),.pointer (some ⟨z7,0,none⟩)]) (by show Value.func _ #[] #[ρ 6,ρ 7]=_;rw[r6,r7])) ?_
  refine TG.defer (f:=45) (gU:= #[.pointer (some ⟨z6,0,none⟩),.pointer (some ⟨z7,0,none⟩)]) F ?_
  refine TG.nil fun a w ha hI=>?_
  refine wpIn_seq ?_
  refine TG.region ?_ ha hI
  refine eD (cg aw (v':=.slice eb en ec) r0) (eD (cg aw (v':=.int .i64 vars) r1) (eD (cg aw (v':=.int .i64 f_) r2) ?_))
  refine eD (dc [.slice eb en ec,.int .i64 vars,.int .i64 f_] W3 abj (by kernel_rfl)) ?_
  refine gZ F (ef (v:=.agg #[.slice eb en ec,.int .i64 vars,.int .i64 f_]) [.slice eb en ec,.int .i64 vars,.int .i64 f_] (fun zc=>?_))
  refine eD cz ?_
  refine TG.nil fun a w ha hI=>?_
  refine wpIn_seq ?_
  refine TG.region ?_ ha hI
  refine eD aw ?_
  refine He (tm:=.iface 163 (.agg #[])) abq (vs:=[JZ (some ⟨zc,0,none⟩) 0]) (R:=fun v N=> ∃M k',v=dV M k'∧N=[dI 56 4 3 M k']∧G M) (Z:=Z) (fun w hI=>(haveI:=eP hI;hC F (by omega) (by omega) w zc hI.oE (hI.lj (mG 0)))) F (fun a w ha hI hZ=>?_) ?_
  ·show LeavesInM _ _ _ _ _ _ a.defers _ w
   rw[ha.defers]
   refine⟨by simp,.inr ⟨fun h=>by simp[Fence.wide]at h,_,_,45,_,F,dfr z6 z7 w,fun _ _=>trivial,?_⟩⟩
   refine(OJ base z6 z7 M w 163 (.agg #[]) (hI.lz (Sub.tP (cH [2,1])))).mono ?_
   rintro e u' w' ⟨rfl,rfl,oM⟩
   refine EQ ha.tmp oM (dS ?_)
   refine jn (i:=0) (j:=1) results19 dm F bY pH F r6 r7 F F F ?_
   exact⟨[],Sub.z,.inr (.inr ⟨F,by omega,.inr ⟨F,F,hZ⟩⟩)⟩
  rintro v N ⟨Md,kd,rfl,rfl,hG⟩
  refine gZ F (xA (v:=dV Md kd) (vs:=dC Md kd) 3 bY r6 F F F F F (show 0+4≤4 by decide) ?_)
  refine gZ F (xA (v:=.int .i64 0) (vs:=[.int .i64 0]) 2 jS r7 F F F F F (by decide) ?_)
  refine TG.nil fun a w ha hI=>wpIn_ret ?_
  show LeavesInM _ _ _ _ _ _ a.defers _ w
  rw[ha.defers]
  refine⟨by simp,.inr ⟨fun h=>by simp[Fence.wide]at h,_,_,45,_,F,dfr z6 z7 w,fun _ _=>trivial,?_⟩⟩
  refine(Sg w _ _).mono ?_
  rintro e u' w' ⟨rfl,rfl,rfl⟩
  refine EQ ha.tmp hI (dS ?_)
  refine jn (i:=3) (j:=2) results19 dm F bY pH F r6 r7 F F F ?_
  exact⟨[dI 56 4 3 Md kd],cH [0],.inr (.inr ⟨F,by omega,.inl ⟨Md,kd,F,F,hG⟩⟩)⟩
set_option maxRecDepth 20000 in
theorem Er (w:World) [dQ prog w] (a b:c_) (j k:DK) (ha:At w a j) (hb:At w b k) (va:Valid a) (vb:Valid b) (hv:a.vars=b.vars) (f:Bool→Bool→Bool) (g:Nat) (hf: ∀(base:World) (x y:Bool),fh prog base (.func (.func g) #[] #[]) [.bool x,.bool y] [] (fun v O'=>v=.bool (f x y)∧O'=[])):
  cB prog 138 [dV a j,dV b k,.func (.func g) #[] #[]] w fun v N=> ∃M k' e,v=.tuple #[dV M k',vI e]∧N=[dI 56 4 3 M k']∧(((order (cq f a b)).length≤4096∧M=uz f a b∧e=0)∨(4096<(order (cq f a b)).length∧e=10)):=by
 rcases Nat.lt_or_ge 4096 (order (cq f a b)).length with c|c
 ·refine(cx.dk (II:=56) (Bo:=4) (I:=3) (D:=Do) (g:=fun x=>.tuple #[x,vI 10]) ((gK 56 1 (gK 4 1 (GU w a b j k ha hb va vb hv f g hf c))).mono ?_)).mono ?_
  ·rintro v N ⟨O2,rfl,O3,rfl,rfl,rfl⟩
   exact⟨none,0,none,0,[],F,F,F⟩
  ·rintro v N ⟨k',rfl,rfl⟩
   exact⟨Do,k',10,F,F,.inr ⟨c,F⟩⟩
 ·refine(Es w a b j k ha hb va vb hv f g hf c).mono ?_
  rintro v N ⟨k',rfl,rfl⟩
  exact⟨uz f a b,k',0,F,F,.inl ⟨c,F,F⟩⟩
theorem aem (w:World) [dQ prog w] (a b:c_) (j k:DK) (ha:At w a j) (hb:At w b k) (va:Valid a) (vb:Valid b) (hv:a.vars=b.vars):
  cB prog 107 [dV a j,dV b k] w fun v N=> ∃M k' e,v=.tuple #[dV M k',vI e]∧N=[dI 56 4 3 M k']∧(((order (cq tH a b)).length≤4096∧M=uz tH a b∧e=0)∨(4096<(order (cq tH a b)).length∧e=10)):=by
 refine aA func107 F ntmps107 F ?_
 refine aQ (ax (ef ((dC a j)) (fun om=>?_)))
 refine ax (ef ((dC b k)) (fun y9=>?_))
 refine ax (b_ bY (fun NO=>?_))
 refine aj (aG (eR 2 dm bY) (ae (eR 1 dm bY) ?_))
 have Et:=fun(w1:World) (hI:Inv w [oI NO 25 [(vI 0),(vI 0),nS,nS],oI y9 25 (dC b k),oI om 25 (dC a j)] w1)=>(haveI:=eP hI;Er w1 a b j k (hI.sE ha) (hI.sE hb) va vb hv tH 152 aam)
 refine TO.lc GV (aO Et) ?_
 clear Et
 rintro vr O' ⟨N,rfl,M,k',e,rfl,rfl,RX⟩
 refine ae (bI _) (ae (bI _) (ax (c8 ((dC M k')) 1 bY ?_)))
 refine aR ?_
 refine kO (vI e) (i:=1) results107 dm F bY F F F F ?_
 exact⟨[dI 56 4 3 M k'],(by exact Sub.k .z),M,k',e,F,F,RX⟩
theorem orE (w:World) [dQ prog w] (a b:c_) (j k:DK) (ha:At w a j) (hb:At w b k) (va:Valid a) (vb:Valid b) (hv:a.vars=b.vars):
  cB prog 106 [dV a j,dV b k] w fun v N=> ∃M k' e,v=.tuple #[dV M k',vI e]∧N=[dI 56 4 3 M k']∧(((order (cq F9 a b)).length≤4096∧M=uz F9 a b∧e=0)∨(4096<(order (cq F9 a b)).length∧e=10)):=by
 refine aA func106 F ntmps106 F ?_
 refine aQ (ax (ef ((dC a j)) (fun om=>?_)))
 refine ax (ef ((dC b k)) (fun y9=>?_))
 refine ax (b_ bY (fun NO=>?_))
 refine aj (aG (eR 2 dm bY) (ae (eR 1 dm bY) ?_))
 have Et:=fun(w1:World) (hI:Inv w [oI NO 25 [(vI 0),(vI 0),nS,nS],oI y9 25 (dC b k),oI om 25 (dC a j)] w1)=>(haveI:=eP hI;Er w1 a b j k (hI.sE ha) (hI.sE hb) va vb hv F9 151 aen)
 refine TO.lc GV (aO Et) ?_
 clear Et
 rintro vr O' ⟨N,rfl,M,k',e,rfl,rfl,RX⟩
 refine ae (bI _) (ae (bI _) (ax (c8 ((dC M k')) 1 bY ?_)))
 refine aR ?_
 refine kO (vI e) (i:=1) results106 dm F bY F F F F ?_
 exact⟨[dI 56 4 3 M k'],(by exact Sub.k .z),M,k',e,F,F,RX⟩
theorem aan (w:World) [dQ prog w] (a:c_) (j:DK) (ha:At w a j) (va:Valid a):
  cB prog 102 [dV a j] w fun v N=> ∃k':DK,v=.tuple #[dV (pj a) k',vI 0]∧N=[dI 56 4 3 (pj a) k']:=by
 have h:=aeo w a j ha (by have:=va.n4;omega) va.wO (by have:=va.fin;have:=va.n4;omega)
 rw[LR (by rw[wN,eL.2 va]),eL.2 va]at h
 exact h
theorem Ku (w:World) [dQ prog w] (cb:Nat) (eb:Option Addr) (en ec vs B:Nat) (e_:Sl w (aD cb) [.slice eb en ec,vI (vs:Int),vI (B:Int)]) (gS:vs≤6) (jA:1≤B) (hB:B≤4096) (e:List ei) (hE:Sl w eb (bX e)) (k7:en=e.length) (i:Nat) (hp:e[i]? =some ⟨1,0,0,0,0⟩):
  dT prog w (.iface 163 (.agg #[])) 72 [(eJ cb 0),vN i] [] (ux vs B Rx.none) (¬kZ vs Rx.none B):=by
 refine ek func72 F ntmps72 F ?_
 obtain⟨hi,_⟩:=jp hp
 refine aQ (ax (b_ bY (fun z1=>?_)))
 refine bi (bo bg (ae (cF mj F iK F F (a6 e_) (by first|omega|(simp;done)|(simp;omega)|(simp_all;done)|(simp_all;omega))) (ae (dD dX F F e_ F) (ay (eF (i:=i) dX cR F F (a6 hE) (by omega) (by rw[cE];omega)) (ae (fy [v8 1,v8 0,v8 0,vI 0,vI 0] dz F cR F F (bK _) (a6 hE) (gk hp)) (ax (b_ cR (fun z2=>?_))))))))
 refine ax (c8 [v8 1,v8 0,v8 0,vI 0,vI 0] 0 cR ?_)
 refine bq (ae (bu dz eN) (aX (bF 0 il) (aK (aG bN (aX (bn cz (by decide)) ?_)))))
 refine bW ?_
 refine a7 (aN ?_)
 have rK:=fun(w1:World) (hI:Inv w [oI z2 72 [v8 1,v8 0,v8 0,vI 0,vI 0],oI z1 25 [(vI 0),(vI 0),nS,nS]] w1)=>(haveI:=eP hI;QI w1 cb eb en ec vs B (hI.sl e_) gS)
 refine TO.lc GW (aO rK) ?_
 clear rK
 rintro vr O' ⟨N,rfl,kA,rfl,rfl⟩
 have oh:=fun(w1:World) (hI:Inv w [dI 56 4 3 (gg (vs:Int) true) kA,oI z2 72 [v8 1,v8 0,v8 0,vI 0,vI 0],oI z1 25 [(vI 0),(vI 0),nS,nS]] w1)=>(haveI:=eP hI;aan w1 (gg (vs:Int) true) kA (hI.at (k:=kA) (mG 0)) (fw gS).valid)
 refine TO.lc NP (aO oh) ?_
 clear oh
 rintro vr O' ⟨N,rfl,kr,rfl,rfl⟩
 refine ae (bI _) (ae (bI _) ?_)
 have NQ:=fun(w1:World) (hI:Inv w [dI 56 4 3 (pj (gg (vs:Int) true)) kr,dI 56 4 3 (gg (vs:Int) true) kA,oI z2 72 [v8 1,v8 0,v8 0,vI 0,vI 0],oI z1 25 [(vI 0),(vI 0),nS,nS]] w1)=>(haveI:=eP hI;oo w1 cb eb en ec vs B (hI.sl e_) (pj (gg (vs:Int) true)) kr 0)
 refine eU F (fD tV (dT.pure NQ) F (fun z _=>⟨F,fun h9=>z ⟨F,h9⟩⟩) ?_)
 clear NQ
 rintro vr O' ⟨N,rfl,rfl,rfl,_,F0⟩
 have GP:=NR gS F0
 refine ax (c8 ((dC (pj (gg (vs:Int) true)) kr)) 3 bY ?_)
 refine dP ?_
 refine cQ (i:=3) results72 dm F bY F F F ?_
 exact⟨[dI 56 4 3 (pj (gg (vs:Int) true)) kr],(by exact Sub.k .z),(pj (gg (vs:Int) true)),kr,F,F,GP,F0⟩
theorem NS (w:World) [dQ prog w] (cb:Nat) (eb:Option Addr) (en ec vs B:Nat) (e_:Sl w (aD cb) [.slice eb en ec,vI (vs:Int),vI (B:Int)]) (gS:vs≤6) (jA:1≤B) (hB:B≤4096) (e:List ei) (hE:Sl w eb (bX e)) (k7:en=e.length) (i:Nat) (a:Rx) (j:Nat) (hp:e[i]? =some ⟨7,0,0,(j:Int),0⟩) (RW: ∀(w1:World) [dQ prog w1],Inv w [] w1→dT prog w1 (.iface 163 (.agg #[])) 72 [(eJ cb 0),vN j] [] (ux vs B a) (¬kZ vs a B)):
  dT prog w (.iface 163 (.agg #[])) 72 [(eJ cb 0),vN i] [] (ux vs B (.not a)) (¬kZ vs (.not a) B):=by
 refine ek func72 F ntmps72 F ?_
 obtain⟨hi,_⟩:=jp hp
 refine aQ (ax (b_ bY (fun z1=>?_)))
 refine bi (bo bg (ae (cF mj F iK F F (a6 e_) (by first|omega|(simp;done)|(simp;omega)|(simp_all;done)|(simp_all;omega))) (ae (dD dX F F e_ F) (ay (eF (i:=i) dX cR F F (a6 hE) (by omega) (by rw[cE];omega)) (ae (fy [v8 7,v8 0,v8 0,vN j,vI 0] dz F cR F F (bK _) (a6 hE) (gk hp)) (ax (b_ cR (fun z2=>?_))))))))
 refine ax (c8 [v8 7,v8 0,v8 0,vN j,vI 0] 0 cR ?_)
 refine bq (ae (bu dz eN) (aX (bF 0 il) (aK (aG bN (aX (aY cz (by decide)) (bf (aG bN (ae (aY cz (by decide)) ?_))))))))
 refine bi (bf (aG bN (aX (aY cz (by decide)) (bf (aG bN (ae (bn cz (by decide)) ?_))))))
 refine bi ?_
 refine bW ?_
 refine a7 (ay (bu dz bM) (ae (bF 0 eO) ?_))
 have pI:=fun(w1:World) (hI:Inv w [oI z2 72 [v8 7,v8 0,v8 0,vN j,vI 0],oI z1 25 [(vI 0),(vI 0),nS,nS]] w1)=>(haveI:=eP hI;RW w1 hI.oE)
 refine eU F (fD qN (dT.pure pI) F (fun z _=>⟨F,fun h9=>z h9.1⟩) ?_)
 clear pI
 rintro vr O' ⟨N,rfl,MA,kA,rfl,rfl,rW,Ks⟩
 have By:=iC rW hB
 have NT:=fun(w1:World) (hI:Inv w [dI 56 4 3 MA kA,oI z2 72 [v8 7,v8 0,v8 0,vN j,vI 0],oI z1 25 [(vI 0),(vI 0),nS,nS]] w1)=>(haveI:=eP hI;aan w1 MA kA (hI.at (k:=kA) (mG 0)) rW.valid)
 refine TO.lc NP (aO NT) ?_
 clear NT
 rintro vr O' ⟨N,rfl,kr,rfl,rfl⟩
 refine ae (bI _) (ae (bI _) ?_)
 have yu:=fun(w1:World) (hI:Inv w [dI 56 4 3 (pj MA) kr,dI 56 4 3 MA kA,oI z2 72 [v8 7,v8 0,v8 0,vN j,vI 0],oI z1 25 [(vI 0),(vI 0),nS,nS]] w1)=>(haveI:=eP hI;oo w1 cb eb en ec vs B (hI.sl e_) (pj MA) kr 0)
 refine eU F (fD tV (dT.pure yu) F (fun z _=>⟨F,fun h9=>z ⟨F,by rw[By];exact h9.2⟩⟩) ?_)
 clear yu
 rintro vr O' ⟨N,rfl,rfl,rfl,_,T5⟩
 have GP:=notM rW.toHasL T5
 have F0:kZ vs (.not a) B:=⟨Ks,by rw[←By];exact T5⟩
 refine ax (c8 ((dC (pj MA) kr)) 3 bY ?_)
 refine dP ?_
 refine cQ (i:=3) results72 dm F bY F F F ?_
 exact⟨[dI 56 4 3 (pj MA) kr],(by exact Sub.k .z),(pj MA),kr,F,F,GP,F0⟩
theorem NU (w:World) [dQ prog w] (cb:Nat) (eb:Option Addr) (en ec vs B:Nat) (e_:Sl w (aD cb) [.slice eb en ec,vI (vs:Int),vI (B:Int)]) (gS:vs≤6) (jA:1≤B) (hB:B≤4096) (e:List ei) (hE:Sl w eb (bX e)) (k7:en=e.length) (i:Nat) (a b:Rx) (j k:Nat) (hp:e[i]? =some ⟨5,0,0,(j:Int),(k:Int)⟩) (RW: ∀(w1:World) [dQ prog w1],Inv w [] w1→dT prog w1 (.iface 163 (.agg #[])) 72 [(eJ cb 0),vN j] [] (ux vs B a) (¬kZ vs a B)) (hpB: ∀(w1:World) [dQ prog w1],Inv w [] w1→dT prog w1 (.iface 163 (.agg #[])) 72 [(eJ cb 0),vN k] [] (ux vs B b) (¬kZ vs b B)):
  dT prog w (.iface 163 (.agg #[])) 72 [(eJ cb 0),vN i] [] (ux vs B (.iR a b)) (¬kZ vs (.iR a b) B):=by
 refine ek func72 F ntmps72 F ?_
 obtain⟨hi,_⟩:=jp hp
 refine aQ (ax (b_ bY (fun z1=>?_)))
 refine bi (bo bg (ae (cF mj F iK F F (a6 e_) (by first|omega|(simp;done)|(simp;omega)|(simp_all;done)|(simp_all;omega))) (ae (dD dX F F e_ F) (ay (eF (i:=i) dX cR F F (a6 hE) (by omega) (by rw[cE];omega)) (ae (fy [v8 5,v8 0,v8 0,vN j,vN k] dz F cR F F (bK _) (a6 hE) (gk hp)) (ax (b_ cR (fun z2=>?_))))))))
 refine ax (c8 [v8 5,v8 0,v8 0,vN j,vN k] 0 cR ?_)
 refine bq (ae (bu dz eN) (aX (bF 0 il) (aK (aG bN (aX (aY cz (by decide)) (bf (aG bN (ae (aY cz (by decide)) ?_))))))))
 refine bi (bf (aG bN (aX (aY cz (by decide)) (bf (aG bN (ae (aY cz (by decide)) ?_))))))
 refine bi (bf (aG bN (aX (aY cz (by decide)) (bf (aG bN (ae (bn cz (by decide)) ?_))))))
 refine bi ?_
 refine bW ?_
 refine br ?_
 refine fW [(0,0),(1,0),(2,0),(3,0),(5,0),(6,0),(7,0),(4,1),(8,1),(9,1),(10,0),(11,0),(12,2),(13,2)] ?_
 refine ap F aw (ap F aw (ap F (bu dz bM) (ap F (bF 0 eO) (ap F aw (ap F (bu dz bM) (ap F (bF 0 eO) ?_))))))
 have NV:=fun(w1:World) (hI:Inv w [oI z2 72 [v8 5,v8 0,v8 0,vN j,vN k],oI z1 25 [(vI 0),(vI 0),nS,nS]] w1)=>(haveI:=eP hI;RW w1 hI.oE)
 refine iY F F (fD qN (dT.pure NV) F (fun z _=>⟨F,fun h9=>z h9.1⟩) ?_)
 clear NV
 rintro vr O' ⟨N,rfl,MA,kA,rfl,rfl,rW,Ks⟩
 refine⟨by exact Sub.d (.k (.k .z)),?_⟩
 have By:=iC rW hB
 have NW:=fun(w1:World) (hI:Inv w [dI 56 4 3 MA kA,oI z2 72 [v8 5,v8 0,v8 0,vN j,vN k],oI z1 25 [(vI 0),(vI 0),nS,nS]] w1)=>(haveI:=eP hI;hpB w1 hI.oE)
 refine iY F F (fD qN (dT.pure NW) F (fun z _=>⟨F,fun h9=>z h9.2.1⟩) ?_)
 clear NW
 rintro vr O' ⟨N,rfl,MB,kB,rfl,rfl,AI,Kt⟩
 refine⟨by exact Sub.d (.d (.k (.k .z))),?_⟩
 have T4:=iC AI hB
 have aao:=fun(w1:World) (hI:Inv w [dI 56 4 3 MB kB,dI 56 4 3 MA kA,oI z2 72 [v8 5,v8 0,v8 0,vN j,vN k],oI z1 25 [(vI 0),(vI 0),nS,nS]] w1)=>(haveI:=eP hI;orE w1 MA MB kA kB (hI.at (k:=kA) (mG 1)) (hI.at (k:=kB) (mG 0)) rW.valid AI.valid (by rw[rW.vars,AI.vars]))
 refine cG F F (eh Wm (aO aao) ?_)
 clear aao
 rintro vr O' ⟨N,rfl,MR,kr,ee,rfl,rfl,RX⟩
 refine⟨by exact Sub.d (.d (.d (.k (.k .z)))),?_⟩
 refine ap F (bI _) (ap F (bI _) ?_)
 have NX:=fun(w1:World) (hI:Inv w [dI 56 4 3 MR kr,dI 56 4 3 MB kB,dI 56 4 3 MA kA,oI z2 72 [v8 5,v8 0,v8 0,vN j,vN k],oI z1 25 [(vI 0),(vI 0),nS,nS]] w1)=>(haveI:=eP hI;oo w1 cb eb en ec vs B (hI.sl e_) MR kr ee)
 refine tY F F (fD tV (dT.pure NX) F (fun z _=>⟨F,fun h9=>by
  have h8:=h9.2.2
  rw[←By,←T4]at h8
  rcases RX with⟨_,rfl,rfl⟩|⟨h7,_⟩
  ·exact z ⟨F,h8.2⟩
  ·exact absurd h8.1 (by omega)⟩) ?_)
 clear NX
 rintro vr O' ⟨N,rfl,rfl,rfl,HL,T5⟩
 obtain⟨ho,hMo⟩:(order (cq F9 MA MB)).length≤4096∧MR=uz F9 MA MB:=RX.elim (fun h9=>⟨h9.1,h9.2.1⟩) (fun h9=>absurd h9.2 (by omega))
 have GP:fV (vs:Int) B MR (fM (.iR a b)):=by subst hMo;exact opM rW AI ho T5
 have F0:kZ vs (.iR a b) B:=⟨Ks,Kt,by rw[←By,←T4];exact⟨ho,hMo▸T5⟩⟩
 refine cA F F (c8 ((dC MR kr)) 4 bY ?_)
 refine cy ?_
 refine cM (dS ?_)
 refine cQ (i:=4) results72 dm F bY F F F ?_
 exact⟨[dI 56 4 3 MR kr],(by exact Sub.k .z),MR,kr,F,F,GP,F0⟩
theorem NY (w:World) [dQ prog w] (cb:Nat) (eb:Option Addr) (en ec vs B:Nat) (e_:Sl w (aD cb) [.slice eb en ec,vI (vs:Int),vI (B:Int)]) (gS:vs≤6) (jA:1≤B) (hB:B≤4096) (e:List ei) (hE:Sl w eb (bX e)) (k7:en=e.length) (i:Nat) (a b:Rx) (j k:Nat) (hp:e[i]? =some ⟨6,0,0,(j:Int),(k:Int)⟩) (RW: ∀(w1:World) [dQ prog w1],Inv w [] w1→dT prog w1 (.iface 163 (.agg #[])) 72 [(eJ cb 0),vN j] [] (ux vs B a) (¬kZ vs a B)) (hpB: ∀(w1:World) [dQ prog w1],Inv w [] w1→dT prog w1 (.iface 163 (.agg #[])) 72 [(eJ cb 0),vN k] [] (ux vs B b) (¬kZ vs b B)):
  dT prog w (.iface 163 (.agg #[])) 72 [(eJ cb 0),vN i] [] (ux vs B (.and a b)) (¬kZ vs (.and a b) B):=by
 refine ek func72 F ntmps72 F ?_
 obtain⟨hi,_⟩:=jp hp
 refine aQ (ax (b_ bY (fun z1=>?_)))
 refine bi (bo bg (ae (cF mj F iK F F (a6 e_) (by first|omega|(simp;done)|(simp;omega)|(simp_all;done)|(simp_all;omega))) (ae (dD dX F F e_ F) (ay (eF (i:=i) dX cR F F (a6 hE) (by omega) (by rw[cE];omega)) (ae (fy [v8 6,v8 0,v8 0,vN j,vN k] dz F cR F F (bK _) (a6 hE) (gk hp)) (ax (b_ cR (fun z2=>?_))))))))
 refine ax (c8 [v8 6,v8 0,v8 0,vN j,vN k] 0 cR ?_)
 refine bq (ae (bu dz eN) (aX (bF 0 il) (aK (aG bN (aX (aY cz (by decide)) (bf (aG bN (ae (aY cz (by decide)) ?_))))))))
 refine bi (bf (aG bN (aX (aY cz (by decide)) (bf (aG bN (ae (aY cz (by decide)) ?_))))))
 refine bi (bf (aG bN (aX (aY cz (by decide)) (bf (aG bN (ae (aY cz (by decide)) ?_))))))
 refine bi (bf (aG bN (aX (bn cz (by decide)) ?_)))
 refine bW ?_
 refine br ?_
 refine fW [(0,0),(1,0),(2,0),(3,0),(5,0),(6,0),(7,0),(4,1),(8,1),(9,1),(10,0),(11,0),(12,2),(13,2)] ?_
 refine ap F aw (ap F aw (ap F (bu dz bM) (ap F (bF 0 eO) (ap F aw (ap F (bu dz bM) (ap F (bF 0 eO) ?_))))))
 have aaq:=fun(w1:World) (hI:Inv w [oI z2 72 [v8 6,v8 0,v8 0,vN j,vN k],oI z1 25 [(vI 0),(vI 0),nS,nS]] w1)=>(haveI:=eP hI;RW w1 hI.oE)
 refine iY F F (fD qN (dT.pure aaq) F (fun z _=>⟨F,fun h9=>z h9.1⟩) ?_)
 clear aaq
 rintro vr O' ⟨N,rfl,MA,kA,rfl,rfl,rW,Ks⟩
 refine⟨by exact Sub.d (.k (.k .z)),?_⟩
 have By:=iC rW hB
 have M0:=fun(w1:World) (hI:Inv w [dI 56 4 3 MA kA,oI z2 72 [v8 6,v8 0,v8 0,vN j,vN k],oI z1 25 [(vI 0),(vI 0),nS,nS]] w1)=>(haveI:=eP hI;hpB w1 hI.oE)
 refine iY F F (fD qN (dT.pure M0) F (fun z _=>⟨F,fun h9=>z h9.2.1⟩) ?_)
 clear M0
 rintro vr O' ⟨N,rfl,MB,kB,rfl,rfl,AI,Kt⟩
 refine⟨by exact Sub.d (.d (.k (.k .z))),?_⟩
 have T4:=iC AI hB
 have aar:=fun(w1:World) (hI:Inv w [dI 56 4 3 MB kB,dI 56 4 3 MA kA,oI z2 72 [v8 6,v8 0,v8 0,vN j,vN k],oI z1 25 [(vI 0),(vI 0),nS,nS]] w1)=>(haveI:=eP hI;aem w1 MA MB kA kB (hI.at (k:=kA) (mG 1)) (hI.at (k:=kB) (mG 0)) rW.valid AI.valid (by rw[rW.vars,AI.vars]))
 refine cG F F (eh Wn (aO aar) ?_)
 clear aar
 rintro vr O' ⟨N,rfl,MR,kr,ee,rfl,rfl,RX⟩
 refine⟨by exact Sub.d (.d (.d (.k (.k .z)))),?_⟩
 refine ap F (bI _) (ap F (bI _) ?_)
 have aas:=fun(w1:World) (hI:Inv w [dI 56 4 3 MR kr,dI 56 4 3 MB kB,dI 56 4 3 MA kA,oI z2 72 [v8 6,v8 0,v8 0,vN j,vN k],oI z1 25 [(vI 0),(vI 0),nS,nS]] w1)=>(haveI:=eP hI;oo w1 cb eb en ec vs B (hI.sl e_) MR kr ee)
 refine tY F F (fD tV (dT.pure aas) F (fun z _=>⟨F,fun h9=>by
  have h8:=h9.2.2
  rw[←By,←T4]at h8
  rcases RX with⟨_,rfl,rfl⟩|⟨h7,_⟩
  ·exact z ⟨F,h8.2⟩
  ·exact absurd h8.1 (by omega)⟩) ?_)
 clear aas
 rintro vr O' ⟨N,rfl,rfl,rfl,HL,T5⟩
 obtain⟨ho,hMo⟩:(order (cq tH MA MB)).length≤4096∧MR=uz tH MA MB:=RX.elim (fun h9=>⟨h9.1,h9.2.1⟩) (fun h9=>absurd h9.2 (by omega))
 have GP:fV (vs:Int) B MR (fM (.and a b)):=by subst hMo;exact opM rW AI ho T5
 have F0:kZ vs (.and a b) B:=⟨Ks,Kt,by rw[←By,←T4];exact⟨ho,hMo▸T5⟩⟩
 refine cA F F (c8 ((dC MR kr)) 4 bY ?_)
 refine cy ?_
 refine cM (dS ?_)
 refine cQ (i:=4) results72 dm F bY F F F ?_
 exact⟨[dI 56 4 3 MR kr],(by exact Sub.k .z),MR,kr,F,F,GP,F0⟩
theorem Wl.of {cb:Nat} {eb:Option Addr} {en ec vs B:Nat} {e:List ei} (k7:en=e.length):Wl cb eb en ec vs B e:=
 ⟨fun w _ gS jA hB e_ hE i hp=>Ku w cb eb en ec vs B e_ gS jA hB e hE k7 i hp,fun w _ gS jA hB e_ hE i a j hp hA=>NS w cb eb en ec vs B e_ gS jA hB e hE k7 i a j hp hA,
  fun w _ gS jA hB e_ hE i a b j k hp hA hb=>NU w cb eb en ec vs B e_ gS jA hB e hE k7 i a b j k hp hA hb,fun w _ gS jA hB e_ hE i a b j k hp hA hb=>NY w cb eb en ec vs B e_ gS jA hB e hE k7 i a b j k hp hA hb⟩
theorem On (w:World) [dQ prog w] (cb:Nat) (eb:Option Addr) (en ec vs B:Nat) (e_:Sl w (aD cb) [.slice eb en ec,vI (vs:Int),vI (B:Int)]) (gS:vs≤6) (jA:1≤B) (hB:B≤4096) (e:List ei) (hE:Sl w eb (bX e)) (k7:en=e.length) (i:Nat) (ob:Nat) (fv:Value) (a b:Rx) (j k:Nat) (hp:e[i]? =some ⟨5,0,0,(j:Int),(k:Int)⟩) (hA:ox w cb vs B ob fv a j) (hB:ox w cb vs B ob fv b k) (lb:Option Addr) (lc:Nat) (ls:List Lf) (ks:List LK) (oH:ks.length=ls.length) (hl:ls.length+(Rx.iR a b).lv≤64) (Ly:ub ls (Rx.iR a b)):
  dT prog w (.iface 163 (.agg #[])) 73 [(.pointer (aD ob)),vN i] ([oI ob 114 [(eJ cb 0),(.slice lb ls.length lc),fv],az lb lc 118 7 (dA ls ks)]++(cw 3 (fB ls ks)++ik 56 4 3 ls ks)) (fun v O'=> ∃vH vJ qY p6 p7 Ar As,v=.tuple #[(.slice p6 (((aM vs (Rx.iR a b) ls).fi).length) p7),(.slice Ar (((aM vs (Rx.iR a b) ls).la).length) As)]∧O'=[oI ob 114 [(eJ cb 0),(.slice vH (((aM vs (Rx.iR a b) ls).ls).length) vJ),fv],az vH vJ 118 7 (dA ((aM vs (Rx.iR a b) ls).ls) qY),az p6 p7 3 1 (cm ((aM vs (Rx.iR a b) ls).fi)),az Ar As 3 1 (cm ((aM vs (Rx.iR a b) ls).la))]++(cw 3 (fB ((aM vs (Rx.iR a b) ls).ls) qY)++ik 56 4 3 ((aM vs (Rx.iR a b) ls).ls) qY)∧qY.length=(aM vs (Rx.iR a b) ls).ls.length∧okB vs (Rx.iR a b) B) (¬okB vs (Rx.iR a b) B):=by
 refine ek func73 F ntmps73 F ?_
 obtain⟨hi,_⟩:=jp hp
 have WQ:=gO vs a ls
 have aex:=gO vs b (aM vs a ls).ls
 have aaT:=eC vs a ls
 have aaU:=eC vs b (aM vs a ls).ls
 have aey:a.lv+b.lv≤64:=by simp only[Rx.lv]at hl;omega
 simp only[Rx.lv]at hl
 refine aQ (aS (aj (bo bg (ae (bu gV pL) (ae (bF 0 xH) (ae bg (ae (cF mj F iK F F (a6 e_) (by first|omega|(simp;done)|(simp;omega)|(simp_all;done)|(simp_all;omega))) (ae (dD dX F F e_ F) (ay (eF (i:=i) dX cR F F (a6 hE) (by omega) (by rw[cE];omega)) (ae (fy [v8 5,v8 0,v8 0,vN j,vN k] dz F cR F F (bK _) (a6 hE) (gk hp)) (ax (b_ cR (fun z1=>?_)))))))))))))
 refine ax (c8 [v8 5,v8 0,v8 0,vN j,vN k] 0 cR ?_)
 refine bq (ae (bu dz eN) (aX (bF 0 il) (aK (aG bN (aX (aY cz (by decide)) (bf (aG bN (ae (bn cz (by decide)) ?_))))))))
 refine bi ?_
 refine bW ?_
 refine bo (bu dz bM) (ae (bF 0 eO) ?_)
 have aaY:=(hA.frame [oI z1 72 [v8 5,v8 0,v8 0,vN j,vN k]] (O:=[oI z1 72 [v8 5,v8 0,v8 0,vN j,vN k],oI ob 114 [(eJ cb 0),(.slice lb ls.length lc),fv],az lb lc 118 7 (dA ls ks)]) lb lc ls ks oH (by first|omega|(rw[eC];omega)) (ub.left Ly) (by exact Sub.fz [oI z1 72 [v8 5,v8 0,v8 0,vN j,vN k]] _ (.fz [oI z1 72 [v8 5,v8 0,v8 0,vN j,vN k]] _ (.k .z))))
 refine eU F (fD EG aaY F (fun z _=>⟨F,fun h9=>z h9.1⟩) ?_)
 clear aaY
 rintro vr O' ⟨WR,WS,ksA,Qw,Qy,Ub,Uc,rfl,rfl,hkA,Ks⟩
 refine ay (bI _) (ae (bI _) (aS (aj (bo (bu dz bM) (ae (bF 4 eO) ?_)))))
 have Uf:=(hB.frame [az Qw Qy 3 1 (cm ((aM vs a ls).fi)),az Ub Uc 3 1 (cm ((aM vs a ls).la)),oI z1 72 [v8 5,v8 0,v8 0,vN j,vN k]] (O:=[oI ob 114 [(eJ cb 0),(.slice WR (((aM vs a ls).ls).length) WS),fv],az WR WS 118 7 (dA ((aM vs a ls).ls) ksA),az Qw Qy 3 1 (cm ((aM vs a ls).fi)),az Ub Uc 3 1 (cm ((aM vs a ls).la)),oI z1 72 [v8 5,v8 0,v8 0,vN j,vN k]]) WR WS ((aM vs a ls).ls) ksA hkA (by first|omega|(rw[eC];omega)) (ub.right Ly) (by exact Sub.rf))
 refine eU F (fD EG Uf F (fun z _=>⟨F,fun h9=>z h9.2⟩) ?_)
 clear Uf
 rintro vr O' ⟨BC,BD,R_,fbB,fcB,Ud,Ue,rfl,rfl,RM,Kt⟩
 refine ay (bI _) (ae (bI _) (aS (aj (a7 (aN (ax (dE 4 da da bM F F F F (by rw[ai];omega) (by decide) (Src.row (j:=2) F (by rw[ai];omega)) (by simp[fS]) (by omega) (by decide) (by decide) (fun z2 wm=>?_))))))))
 refine de (ax (dE 5 da da bM F F F F (by rw[ai];omega) (by decide) (Src.row (j:=3) F (by rw[ai];omega)) (by simp[fS]) (by omega) (by decide) (by decide) (fun z4 LB=>?_)))
 refine aS (aR ?_)
 refine dr (.slice z2 (((aM vs a ls).fi.length)+((aM vs b ((aM vs a ls).ls)).fi.length)) wm) (.slice z4 (((aM vs a ls).la.length)+((aM vs b ((aM vs a ls).ls)).la.length)) LB) results73 F F ?_
 exact⟨[oI ob 114 [(eJ cb 0),(.slice BC (((aM vs b ((aM vs a ls).ls)).ls).length) BD),fv],az BC BD 118 7 (dA ((aM vs b ((aM vs a ls).ls)).ls) R_),az z2 wm 3 1 ((cm ((aM vs a ls).fi))++(cm ((aM vs b ((aM vs a ls).ls)).fi))),az z4 LB 3 1 ((cm ((aM vs a ls).la))++(cm ((aM vs b ((aM vs a ls).ls)).la)))]++(cw 3 (fB ((aM vs b ((aM vs a ls).ls)).ls) R_)++ik 56 4 3 ((aM vs b ((aM vs a ls).ls)).ls) R_),(by exact Sub.k (.k (.d (.d (.k (.k (.d .rf))))))),BC,BD,R_,z2,wm,z4,LB,by show _=Value.tuple #[.slice _ ((aM vs a ls).fi++(aM vs b ((aM vs a ls).ls)).fi).length _,.slice _ ((aM vs a ls).la++(aM vs b ((aM vs a ls).ls)).la).length _];rw[aJ,aJ],by show _=[_,_,az _ _ _ _ (cm ((aM vs a ls).fi++(aM vs b ((aM vs a ls).ls)).fi)),az _ _ _ _ (cm ((aM vs a ls).la++(aM vs b ((aM vs a ls).ls)).la))]++_;rw[show∀x y:List Nat,cm (x++y)=cm x++cm y from fun x y=>bm,show∀x y:List Nat,cm (x++y)=cm x++cm y from fun x y=>bm];rfl,RM,Ks,Kt⟩
theorem EJ (w:World) [dQ prog w] (cb:Nat) (eb:Option Addr) (en ec vs B:Nat) (e_:Sl w (aD cb) [.slice eb en ec,vI (vs:Int),vI (B:Int)]) (gS:vs≤6) (jA:1≤B) (hB:B≤4096) (e:List ei) (hE:Sl w eb (bX e)) (k7:en=e.length) (i:Nat) (ob:Nat) (fv:Value) (a:Rx) (j:Nat) (hp:e[i]? =some ⟨10,0,0,(j:Int),0⟩) (hbm: ∀ls,aM vs (Rx.behind a) ls=⟨ls++[⟨10,minOf vs (iV (fun _=>true) (fM a)),[],false⟩],[ls.length],[ls.length]⟩) (hPl: ∀(w1:World) [dQ prog w1],Inv w [] w1→dT prog w1 (.iface 163 (.agg #[])) 72 [(eJ cb 0),vN j] [] (ux vs B a) (¬kZ vs a B)) (lb:Option Addr) (lc:Nat) (ls:List Lf) (ks:List LK) (oH:ks.length=ls.length) (hl:ls.length+(Rx.behind a).lv≤64) (Ly:ub ls (Rx.behind a)):
  dT prog w (.iface 163 (.agg #[])) 73 [(.pointer (aD ob)),vN i] ([oI ob 114 [(eJ cb 0),(.slice lb ls.length lc),fv],az lb lc 118 7 (dA ls ks)]++(cw 3 (fB ls ks)++ik 56 4 3 ls ks)) (fun v O'=> ∃vH vJ qY p6 p7 Ar As,v=.tuple #[(.slice p6 (((aM vs (Rx.behind a) ls).fi).length) p7),(.slice Ar (((aM vs (Rx.behind a) ls).la).length) As)]∧O'=[oI ob 114 [(eJ cb 0),(.slice vH (((aM vs (Rx.behind a) ls).ls).length) vJ),fv],az vH vJ 118 7 (dA ((aM vs (Rx.behind a) ls).ls) qY),az p6 p7 3 1 (cm ((aM vs (Rx.behind a) ls).fi)),az Ar As 3 1 (cm ((aM vs (Rx.behind a) ls).la))]++(cw 3 (fB ((aM vs (Rx.behind a) ls).ls) qY)++ik 56 4 3 ((aM vs (Rx.behind a) ls).ls) qY)∧qY.length=(aM vs (Rx.behind a) ls).ls.length∧okB vs (Rx.behind a) B) (¬okB vs (Rx.behind a) B):=by
 refine ek func73 F ntmps73 F ?_
 obtain⟨hi,_⟩:=jp hp
 simp only[hbm]
 refine aQ (aS (aj (bo bg (ae (bu gV pL) (ae (bF 0 xH) (ae bg (ae (cF mj F iK F F (a6 e_) (by first|omega|(simp;done)|(simp;omega)|(simp_all;done)|(simp_all;omega))) (ae (dD dX F F e_ F) (ay (eF (i:=i) dX cR F F (a6 hE) (by omega) (by rw[cE];omega)) (ae (fy [v8 10,v8 0,v8 0,vN j,vI 0] dz F cR F F (bK _) (a6 hE) (gk hp)) (ax (b_ cR (fun z1=>?_)))))))))))))
 refine ax (c8 [v8 10,v8 0,v8 0,vN j,vI 0] 0 cR ?_)
 refine bq (ae (bu dz eN) (aX (bF 0 il) (aK (aG bN (aX (aY cz (by decide)) (bf (aG bN (ae (aY cz (by decide)) ?_))))))))
 refine bi (bf (aG bN (aX (aY cz (by decide)) (bf (aG bN (ae (bn cz (by decide)) ?_))))))
 refine bi ?_
 refine bW ?_
 refine T.ds [oI z1 72 [v8 10,v8 0,v8 0,vN j,vI 0],oI ob 114 [(eJ cb 0),(.slice lb ls.length lc),fv]] [(0,0),(1,0),(2,0),(3,0),(4,0),(5,0),(6,0),(7,0),(8,0),(9,0),(10,0),(11,0),(12,0),(13,0),(14,0),(16,0),(17,0),(18,0),(19,0),(20,0),(21,0),(15,1),(22,1),(23,1),(24,0),(25,1),(26,1),(27,0),(28,0),(29,2)] (by exact Sub.k (.k .z)) ?_
 refine ap F aw (ap F aw (ap F bg (ap F (bu gV gY) (ap F (bF 1 fU) (ap F (bu dz eN) (ap F (bF 0 il) (ap F aw (ap F bg (ap F (bu gV pL) (ap F (bF 1 xH) (ap F aw (ap F bg (ap F (bu gV pL) (ap F (bF 1 xH) (ap F aw (ap F bg (ap F (bu gV pL) (ap F (bF 1 xH) (ap F (bu dz bM) (ap F (bF 0 eO) ?_))))))))))))))))))))
 have Ug:=fun(w1:World) (hI:Inv w ([oI z1 72 [v8 10,v8 0,v8 0,vN j,vI 0],oI ob 114 [(eJ cb 0),(.slice lb ls.length lc),fv],az lb lc 118 7 (dA ls ks)]++(cw 3 (fB ls ks)++ik 56 4 3 ls ks)) w1)=>(haveI:=eP hI;QI w1 cb eb en ec vs B (hI.sl e_) gS)
 refine cG F F (eh GW (aO Ug) ?_)
 clear Ug
 rintro vr O' ⟨N,rfl,kS,rfl,rfl⟩
 refine⟨by exact Sub.d (.k (.k .z)),?_⟩
 have Uh:=fun(w1:World) (hI:Inv w ([dI 56 4 3 (gg (vs:Int) true) kS,oI z1 72 [v8 10,v8 0,v8 0,vN j,vI 0],oI ob 114 [(eJ cb 0),(.slice lb ls.length lc),fv],az lb lc 118 7 (dA ls ks)]++(cw 3 (fB ls ks)++ik 56 4 3 ls ks)) w1)=>(haveI:=eP hI;hPl w1 hI.oE)
 refine iY F F (fD qN (dT.pure Uh) F (fun z _=>⟨F,fun h9=>z h9.1⟩) ?_)
 clear Uh
 rintro vr O' ⟨N,rfl,MA,kA,rfl,rfl,rW,hO⟩
 refine⟨by exact Sub.d (.d (.k (.k .z))),?_⟩
 have By:=iC rW hB
 have Ui:=fun(w1:World) (hI:Inv w ([dI 56 4 3 MA kA,dI 56 4 3 (gg (vs:Int) true) kS,oI z1 72 [v8 10,v8 0,v8 0,vN j,vI 0],oI ob 114 [(eJ cb 0),(.slice lb ls.length lc),fv],az lb lc 118 7 (dA ls ks)]++(cw 3 (fB ls ks)++ik 56 4 3 ls ks)) w1)=>(haveI:=eP hI;V5 w1 cb eb en ec vs B (hI.sl e_) gS jA hB (gg (vs:Int) true) kS (hI.at (k:=kS) (mG 1)) (fw gS).valid F MA kA (hI.at (k:=kA) (mG 0)) rW.valid (by rw[rW.vars];rfl))
 refine iY F F (fD GQ (dT.pure Ui) F (fun z _=>⟨F,fun h9=>z (by rw[By];exact h9.2)⟩) ?_)
 clear Ui
 rintro vr O' ⟨N,rfl,M,kM,rfl,rfl,Wj,Wk⟩
 refine⟨by exact Sub.d (.d (.d (.k (.k .z)))),?_⟩
 have eM:M=minOf vs (iV (fun _=>true) (fM a)):=iC (Wj.to fun w9 h9=>qv (fun u hu=>(fw gS).jf u hu) (fun u hu=>rW.jf u hu) h9) hB
 refine ap F (dc [v8 10,(vI M.vars),(vI M.start),(.slice kM.nb M.next.length kM.nc),(.slice kM.fb M.aT.length kM.fc),nS,(.bool false)] CH fG (by kernel_rfl)) ?_
 refine cG F F (cP (m:=1) (parts:=[(0,_)]) (cs:=[v8 10,(vI M.vars),(vI M.start),(.slice kM.nb M.next.length kM.nc),(.slice kM.fb M.aT.length kM.fc),nS,(.bool false)]) fU fG (by decide) (by kernel_rfl) F (fun z2=>⟨by exact Sub.d (.d (.d (.d (.k (.k .z))))),?_⟩))
 refine cG F F (dE 6 fU fU fG F F F F (by rw[ey oH]) (by decide) (Src.row (j:=0) F (by simp)) (by simp[fS]) (by omega) (by decide) (by decide) (fun z3 pg=>⟨by exact Sub.d (.d (.d (.d (.k (.k .z))))),?_⟩))
 refine ap F bg (ap F (bu gV gY) ?_)
 refine cA F F (c8 [(.slice z3 (ls.length+1) pg)] 5 gY ?_)
 refine cy ?_
 refine bo bg (ae (bu gV gY) (ae (bF 5 fU) (ae (cL fU) (ae (cg (ga F F (by omega)) (v':=vN ls.length) (am (Value.int .i64) (by omega))) (aj (br (T.fJ 3 1 ?_)))))))
 refine a_ (aN (ax (dL (v:=vN ls.length) da bM F F F (fun z5=>?_))))
 refine aN (ax (dL (v:=vN ls.length) da bM F F F (fun z6=>?_)))
 refine aS (aR ?_)
 refine dr (.slice (aD z5) 1 1) (.slice (aD z6) 1 1) results73 F F ?_
 exact⟨[oI ob 114 [(eJ cb 0),(.slice z3 ((ls++[(⟨10,minOf vs (iV (fun _=>true) (fM a)),[],false⟩:Lf)]).length) pg),fv],az z3 pg 118 7 (dA (ls++[(⟨10,minOf vs (iV (fun _=>true) (fM a)),[],false⟩:Lf)]) (ks++[(⟨kM,none,0⟩:LK)])),bJ z5 1 3 1 (cm [ls.length]),bJ z6 1 3 1 (cm [ls.length])]++(cw 3 (fB (ls++[(⟨10,minOf vs (iV (fun _=>true) (fM a)),[],false⟩:Lf)]) (ks++[(⟨kM,none,0⟩:LK)]))++ik 56 4 3 (ls++[(⟨10,minOf vs (iV (fun _=>true) (fM a)),[],false⟩:Lf)]) (ks++[(⟨kM,none,0⟩:LK)])),by
   rw[uc oH,ud,wl oH,sd oH,aJ,←eM]
   exact se [oI ob 114 [(eJ cb 0),(.slice z3 (ls.length+1) pg),fv],az z3 pg 118 7 ((dA ls ks)++[v8 10,(vI M.vars),(vI M.start),(.slice kM.nb M.next.length kM.nc),(.slice kM.fb M.aT.length kM.fc),nS,(.bool false)]),bJ z5 1 3 1 [vN ls.length],bJ z6 1 3 1 [vN ls.length]] [bJ z6 1 3 1 [vN ls.length],bJ z5 1 3 1 [vN ls.length],az none 0 3 1 [],bJ z2 1 118 7 [v8 10,(vI M.vars),(vI M.start),(.slice kM.nb M.next.length kM.nc),(.slice kM.fb M.aT.length kM.fc),nS,(.bool false)],dI 56 4 3 M kM,dI 56 4 3 MA kA,dI 56 4 3 (gg (vs:Int) true) kS,oI z1 72 [v8 10,v8 0,v8 0,vN j,vI 0],oI ob 114 [(eJ cb 0),(.slice z3 (ls.length+1) pg),fv],az z3 pg 118 7 ((dA ls ks)++[v8 10,(vI M.vars),(vI M.start),(.slice kM.nb M.next.length kM.nc),(.slice kM.fb M.aT.length kM.fc),nS,(.bool false)])] _ _ _ _ (by exact Sub.fz [bJ z6 1 3 1 [vN ls.length],bJ z5 1 3 1 [vN ls.length],az none 0 3 1 [],bJ z2 1 118 7 [v8 10,(vI M.vars),(vI M.start),(.slice kM.nb M.next.length kM.nc),(.slice kM.fb M.aT.length kM.fc),nS,(.bool false)],dI 56 4 3 M kM,dI 56 4 3 MA kA,dI 56 4 3 (gg (vs:Int) true) kS,oI z1 72 [v8 10,v8 0,v8 0,vN j,vI 0]] _ (.fz [bJ z6 1 3 1 [vN ls.length],bJ z5 1 3 1 [vN ls.length],az none 0 3 1 [],bJ z2 1 118 7 [v8 10,(vI M.vars),(vI M.start),(.slice kM.nb M.next.length kM.nc),(.slice kM.fb M.aT.length kM.fc),nS,(.bool false)],dI 56 4 3 M kM,dI 56 4 3 MA kA,dI 56 4 3 (gg (vs:Int) true) kS,oI z1 72 [v8 10,v8 0,v8 0,vN j,vI 0]] _ (.fz [bJ z6 1 3 1 [vN ls.length]] _ (.k (.k (.d (.k .z))))))),z3,pg,(ks++[(⟨kM,none,0⟩:LK)]),(aD z5),1,(aD z6),1,F,F,by simp[oH],⟨hO,by rw[←By];exact Wk⟩⟩
theorem WT.of {cb:Nat} {eb:Option Addr} {en ec vs B:Nat} {e:List ei} (k7:en=e.length):WT cb eb en ec vs B e:=
 ⟨Wl.of k7,fun w _ gS jA hB e_ hE ob fv i a b j k hp hA hb=>On w cb eb en ec vs B e_ gS jA hB e hE k7 i ob fv a b j k hp hA hb,
  fun w _ gS jA hB e_ hE ob fv i a j hp hA=>EJ w cb eb en ec vs B e_ gS jA hB e hE k7 i ob fv a j hp (fun _=>rfl) hA⟩
end Go.Proofs.YtgdbfideeeegmaaGreatDoor

namespace Go.Lx
open Go.RowKit Go.Proofs.YtgdbfideeeegmaaGreatDoor
def gI (v:Nat) (fs:List Nat) (x:ei):Except Nat Nat:=
 if jZ v x≠0 then .error (jZ v x)
 else if cX x.op=1 then(if fs.length=0∨x.a≠(fs.length:Int)-1 then .error 8 else .ok (fs.getD (fs.length-1) 0))
 else if cX x.op=2 then(if fs.length=0∨x.b≠(fs.length:Int)-1∨fs.getD (fs.length-1) 0=0∨x.a≠(fs.getD (fs.length-1) 0:Int)-1 then .error 8 else .ok (fs.getD x.a.toNat 0))
 else .ok fs.length
def vk (v:Nat) (jf:Except Nat (List Nat)) (x:ei):Except Nat (List Nat):=
 match jf with
 | .error n=>.error n
 | .ok fs=>match gI v fs x with
  | .error n=>.error n
  | .ok b=>.ok (fs++[b])
def j7 (v:Nat) (e:List ei):Except Nat (List Nat):=e.foldl (vk v) (.ok [])
theorem BG (v:Nat) {e:List ei} {i:Nat} (h:i<e.length):j7 v (e.take (i+1))=vk v (j7 v (e.take i)) e[i]:=by
 unfold j7;rw[aC h,cT];rfl
theorem vl (v n:Nat): ∀(e:List ei),e.foldl (vk v) (.error n)=.error n
 | []=>rfl
 |x::e=>by rw[cU];exact vl v n e
theorem OS {v n:Nat} {e:List ei} {i:Nat} (h:j7 v (e.take i)=.error n):j7 v e=.error n:=by
 conv=>lhs;rw[←List.take_append_drop i e]
 unfold j7 at h⊢;rw[cT,h,vl]
theorem gW {v n:Nat} {e:List ei} {fs:List Nat} {i:Nat} (hi:i<e.length) (hf:j7 v (e.take i)=.ok fs) (hs:gI v fs e[i]=.error n):j7 v e=.error n:=by
 refine OS (i:=i+1) ?_
 rw[BG v hi,hf];unfold vk;simp only[hs]
theorem pN {v b:Nat} {e:List ei} {fs:List Nat} {i:Nat} (hi:i<e.length) (hf:j7 v (e.take i)=.ok fs) (hs:gI v fs e[i]=.ok b):j7 v (e.take (i+1))=.ok (fs++[b]):=by
 rw[BG v hi,hf];unfold vk;simp only[hs]
theorem pO {fs:List Nat} {i b:Nat} (hl:fs.length=i) (h: ∀j,j<i→fs.getD j 0≤j) (hb:b≤i): ∀j,j<i+1→(fs++[b]).getD j 0≤j:=fun j hj=>by
 by_cases e:j=i
 ·subst e;rw[au,bZ (by omega),hl,fX];exact hb
 ·have:=h j (by omega)
  rw[au]at this⊢
  rw[bG (by omega)];exact this
def lR (e:List ei):Nat→Nat→Bool→Bool
 |0,_,_=>true
 |f+1,i,fr=>
  if((e.getD i ⟨0,0,0,0,0⟩).op=9∨(e.getD i ⟨0,0,0,0,0⟩).op=10)∧fr=false then false
  else(decide (cX (e.getD i ⟨0,0,0,0,0⟩).op<1)||lR e f (e.getD i ⟨0,0,0,0,0⟩).a.toNat (fr&&decide ((e.getD i ⟨0,0,0,0,0⟩).op=4∨(e.getD i ⟨0,0,0,0,0⟩).op=5)))&&
   (decide (cX (e.getD i ⟨0,0,0,0,0⟩).op<2)||lR e f (e.getD i ⟨0,0,0,0,0⟩).b.toNat (fr&&decide ((e.getD i ⟨0,0,0,0,0⟩).op=4∨(e.getD i ⟨0,0,0,0,0⟩).op=5)))
theorem oz {e:List ei} {i:Nat} (h:i<e.length):e.getD i ⟨0,0,0,0,0⟩=e[i]:=by rw[au,ak h];rfl
theorem nI {e:List ei} {f i:Nat} {fr:Bool} (h:i<e.length):lR e (f+1) i fr=if(e[i].op=9∨e[i].op=10)∧fr=false then false else(decide (cX e[i].op<1)||lR e f e[i].a.toNat (fr&&decide (e[i].op=4∨e[i].op=5)))&&(decide (cX e[i].op<2)||lR e f e[i].b.toNat (fr&&decide (e[i].op=4∨e[i].op=5))):=by
 rw[lR,oz h]
end Go.Lx

namespace Go.Proofs.YtgdbfideeeegmaaGreatDoor
open Go.Lx Go.RowKit _root_.Go.Proofs.Tryz
theorem Sc (w:World) [dQ prog w] (eb:Option Addr) (ec:Nat) (e:List ei) (hE:Sl w eb (bX e)) (qZ:e.length≤64) (mh: ∀x∈e,x.p<256∧x.n<256) (v:Nat) (hv:v≤6):
  cB prog 89 [.slice eb e.length ec,vN v] w fun r N=>(∃n,j7 v e=.error n∧r=.tuple #[nS,vI (n:Int)]∧N=[])∨(∃fs b c,j7 v e=.ok fs∧r=.tuple #[.slice b e.length c,vI 0]∧N=[az b c 3 1 (cm fs)]):=by
 refine aA func89 F ntmps89 F ?_
 refine aQ (aS (aS (bq (ay (cL dX) (bH (aK (T.fJ 3 1 ?_)))))))
 refine ep (fun(i:Nat) ρ O=> ∃(fs:List Nat) (b:Option Addr) (c:Nat),O=[az b c 3 1 (cm fs)]∧i≤e.length∧fs.length=i∧j7 v (e.take i)=.ok fs∧(∀j,j<i→fs.getD j 0≤j)∧dh [(0,(.slice eb e.length ec)),(1,vN v),(4,(.slice b i c)),(10,(.slice eb e.length ec)),(11,vI (e.length:Int)),(12,vN i)] ρ) (fun i=>e.length-i) 0 ?_ ?_
 ·exact⟨[],none,0,F,bj _,F,F,fun j hj=>absurd hj (by omega),(.of F)⟩
 rintro i ρ O ⟨fs,b,c,rfl,hi,oG,oF,AL,hH⟩
 obtain⟨gv,rfl⟩:=hH.elim
 clear hH
 refine aG cV (dJ (aL F (fun hc=>?_) (fun hc=>?_)))
 ·have mr:i<e.length:=by omega
  have Qu:=mh _ (av mr)
  refine aE (br (aK (bo (eF (i:=i) dX cR F F (a6 hE) mr (by rw[cE];omega)) (ae (fy (e[i].cl) dz F cR F F (bK _) (a6 hE) (lA mr)) (ax (b_ cR (fun z1=>?_)))))))
  refine aS (ax (c8 (e[i].cl) 0 cR ?_))
  refine bq (ae (eR 0 dz cR) (aN ?_))
  have rK:=fun(w1:World) (hI:Inv w [oI z1 72 e[i].cl,az b c 3 1 (cm fs)] w1)=>(haveI:=eP hI;WV w1 e[i] v Qu.1 Qu.2 hv)
  refine TO.lc WX (aO rK) ?_
  clear rK
  rintro vr O' ⟨N,rfl,rfl,rfl⟩
  refine aj (bo d_ (bi (aL F (fun hc=>?_) (fun hc=>?_))))
  ·have re:jZ v e[i]≠0:=by omega
   have xD:jZ v e[i]≠0:=by omega
   refine a7 (aS (aR ?_))
   refine dr nS (vI (jZ v e[i]:Int)) results89 F F ?_
   have hs:gI v fs e[i]=.error (jZ v e[i]):=by unfold gI;simp only[oG];rw[aB xD]
   exact⟨[],Sub.z,.inl ⟨_,gW mr oF hs,F,F⟩⟩
  have rh: ¬jZ v e[i]≠0:=by omega
  have xD: ¬jZ v e[i]≠0:=by omega
  refine aE (a7 (aj (br (br ?_))))
  refine fW [(1,0),(2,0),(0,1),(3,2),(4,2)] ?_
  refine ap F (bu dz eN) (ap F (bF 0 il) ?_)
  have zi:=fun(w1:World) (hI:Inv w [oI z1 72 e[i].cl,az b c 3 1 (cm fs)] w1)=>(haveI:=eP hI;qy w1)
  refine cG F F (eh Iy (aO zi) ?_)
  clear zi
  rintro vr O' ⟨N,rfl,m,rfl,rfl⟩
  refine⟨by exact Sub.d (.k (.k .z)),?_⟩
  refine cA F F (eV F F (cg (ry (a:=e[i].op) xJ mw (ie.u8 il) F F (mG 0)) (v':=(.agg #[vN (cX e[i].op),str (j6 e[i].op).1,str (j6 e[i].op).2.1,str (j6 e[i].op).2.2])) (vi e[i].op)) ?_)
  refine cA F F (eV F F (HZ EN F eO F F F) ?_)
  refine cy ?_
  refine aK (aQ ?_)
  refine ae bN (aj (aL F (fun hc=>?_) (fun hc=>?_)))
  ·have aag:cX e[i].op=1:=by omega
   have xK:cX e[i].op=1:=by omega
   refine br (bo bN ?_)
   by_cases hi0:((i:Nat):Int)=0
   ·refine ae (bn aw hi0) ?_
    refine cY (du (aX bw ?_))
    refine bW ?_
    refine aQ (aS (aR ?_))
    refine dr nS (vI 8) results89 F F ?_
    have hs:gI v fs e[i]=.error 8:=by unfold gI;simp only[oG];first|(rw[aq xD,aB xK,aB (by omega)];done)|(rw[aq xD,aq xK,aB uw,aB (by omega)];done)
    exact⟨[],Sub.z,.inl ⟨8,gW mr oF hs,F,F⟩⟩
   refine ae (aY aw hi0) (ao (bu dz bM) (ao (bF 1 eO) (ao aw (ao (cg (ga F F (by omega)) (v':=vN (i-1)) (am (Value.int .i64) (by omega))) (ao d_ (aX bU (aL F (fun hc=>?_) (fun hc=>?_))))))))
   ·refine br ?_
    refine a_ (aS (aR ?_))
    refine dr nS (vI 8) results89 F F ?_
    have hs:gI v fs e[i]=.error 8:=by unfold gI;simp only[oG];first|(rw[aq xD,aB xK,aB (by omega)];done)|(rw[aq xD,aq xK,aB uw,aB (by omega)];done)
    exact⟨[],Sub.z,.inl ⟨8,gW mr oF hs,F,F⟩⟩
   have Qm:e[i].a=(((i-1):Nat):Int):=by omega
   have hfi:=AL (i-1) (by omega)
   refine aE (a_ (aN (ay (cg (ga F F (by omega)) (v':=vN (i-1)) (am (Value.int .i64) (by omega))) (ae (dB ((i-1)) da bM F F (eA 2) (by omega) (by rw[ai];omega)) (ae (iN eO F F (eA 2) (iP (show i-1<fs.length by omega))) (aj (a_ (de (ax (dL (v:=vN (fs.getD (i-1) 0)) da bM F F F (fun z2=>?_)))))))))))
   refine ax (dE 3 da da bM F F F F (by rw[ai];omega) (by decide) (Src.row (j:=0) F (by simp)) (by simp[fS]) (by omega) (by decide) (by decide) (fun z3 pg=>?_))
   refine aj (a_ (ae (dj (b:=1) i F F (by omega)) (bH ?_)))
   have hs:gI v fs e[i]=.ok (fs.getD (i-1) 0):=by unfold gI;simp only[oG];rw[aq xD,aB xK,aq (by omega)]
   exact⟨i+1,by omega,[az z3 pg 3 1 ((cm fs)++[vN (fs.getD (i-1) 0)])],(by exact Sub.d (.d (.d (.k .z)))),fs++[(fs.getD (i-1) 0)],z3,pg,by rw[show cm (fs++[(fs.getD (i-1) 0)])=cm fs++[vN (fs.getD (i-1) 0)]from bm],by omega,by simp[oG],pN mr oF hs,pO oG AL (by omega),(.of F)⟩
  have aah: ¬cX e[i].op=1:=by omega
  have xK: ¬cX e[i].op=1:=by omega
  refine aG bN (aj (aL F (fun hc=>?_) (fun hc=>?_)))
  ·have L7:cX e[i].op=2:=by omega
   have uw:cX e[i].op=2:=by omega
   have ajD:fs.getD (i-1) 0≤i:=by
    by_cases h9:i=0
    ·rw[List.length_eq_zero_iff.1 (show fs.length=0 by omega)];simp
    ·have:=AL (i-1) (by omega);omega
   refine br (br ?_)
   refine fW [(0,0),(1,0),(2,0),(3,0),(4,0),(5,0),(6,0),(7,0),(8,0),(9,0),(10,0),(11,0),(12,0),(13,0),(14,0),(15,0),(16,0),(17,0),(18,0),(19,0),(20,0),(21,0),(22,0),(23,0),(24,0),(25,0),(26,0),(27,0)] ?_
   refine ap F aw (ap F bN ?_)
   by_cases hi0:((i:Nat):Int)=0
   ·refine ap F (bn aw hi0) ?_
    refine aU F F F (aU F F F (aU F F F (aU F F F (aU F F F (ap F bw (ap F aw (aU F F F (aU F F F ?_))))))))
    refine aU F F F (aU F F F (aU F F F (aU F F F (ap F bw (ap F aw (aU F F F (aU F F F (aU F F F ?_))))))))
    refine aU F F F (aU F F F (aU F F F (aU F F F (aU F F F (aU F F F (ap F bw ?_))))))
    refine cy ?_
    refine bW ?_
    refine aQ (aS (aR ?_))
    refine dr nS (vI 8) results89 F F ?_
    have hs:gI v fs e[i]=.error 8:=by unfold gI;simp only[oG];first|(rw[aq xD,aB xK,aB (by omega)];done)|(rw[aq xD,aq xK,aB uw,aB (by omega)];done)
    exact⟨[],Sub.z,.inl ⟨8,gW mr oF hs,F,F⟩⟩
   refine ap F (aY aw hi0) ?_
   refine bs F F F (bu dz bM) ?_
   refine bs F F F (bF 1 eO) ?_
   refine bs F F F aw ?_
   refine bs F F F (cg (ga F F (by omega)) (v':=vN (i-1)) (am (Value.int .i64) (by omega))) ?_
   refine bs F F F d_ ?_
   refine ap F bU ?_
   by_cases JX:e[i].b≠(((i-1):Nat):Int)
   ·refine ap F (bn aw JX) ?_
    refine aU F F F (aU F F F (aU F F F (aU F F F (aU F F F (aU F F F (ap F bw (ap F aw (aU F F F ?_))))))))
    refine aU F F F (aU F F F (aU F F F (aU F F F (aU F F F (aU F F F (aU F F F (aU F F F ?_)))))))
    refine ap F bw ?_
    refine cy ?_
    refine bW ?_
    refine aQ (aS (aR ?_))
    refine dr nS (vI 8) results89 F F ?_
    have hs:gI v fs e[i]=.error 8:=by unfold gI;simp only[oG];first|(rw[aq xD,aB xK,aB (by omega)];done)|(rw[aq xD,aq xK,aB uw,aB (by omega)];done)
    exact⟨[],Sub.z,.inl ⟨8,gW mr oF hs,F,F⟩⟩
   refine ap F (aY aw JX) ?_
   refine bs F F F aw ?_
   refine bs F F F aw ?_
   refine bs F F F (cg (ga F F (by omega)) (v':=vN (i-1)) (am (Value.int .i64) (by omega))) ?_
   refine bs F F F (dB ((i-1)) da bM F F (eA 2) (by omega) (by rw[ai];omega)) ?_
   refine bs F F F (iN eO F F (eA 2) (iP (show i-1<fs.length by omega))) ?_
   refine bs F F F bN ?_
   refine ap F bU ?_
   by_cases hz1:((fs.getD (i-1) 0:Nat):Int)=0
   ·refine ap F (bn aw hz1) ?_
    refine aU F F F (aU F F F (aU F F F (aU F F F (aU F F F (aU F F F (aU F F F (aU F F F ?_)))))))
    refine aU F F F (ap F bw ?_)
    refine cy ?_
    refine bW ?_
    refine aQ (aS (aR ?_))
    refine dr nS (vI 8) results89 F F ?_
    have hs:gI v fs e[i]=.error 8:=by unfold gI;simp only[oG];first|(rw[aq xD,aB xK,aB (by omega)];done)|(rw[aq xD,aq xK,aB uw,aB (by omega)];done)
    exact⟨[],Sub.z,.inl ⟨8,gW mr oF hs,F,F⟩⟩
   refine ap F (aY aw hz1) ?_
   refine bs F F F (bu dz bM) ?_
   refine bs F F F (bF 1 eO) ?_
   refine bs F F F aw ?_
   refine bs F F F aw ?_
   refine bs F F F (cg (ga F F (by omega)) (v':=vN (i-1)) (am (Value.int .i64) (by omega))) ?_
   refine bs F F F (dB ((i-1)) da bM F F (eA 2) (by omega) (by rw[ai];omega)) ?_
   refine bs F F F (iN eO F F (eA 2) (iP (show i-1<fs.length by omega))) ?_
   refine bs F F F (cg (ga F F (by omega)) (v':=vN (fs.getD (i-1) 0-1)) (am (Value.int .i64) (by omega))) ?_
   refine bs F F F d_ ?_
   refine ap F bU ?_
   refine cy ?_
   refine aL F (fun hc=>?_) (fun hc=>?_)
   ·refine br ?_
    refine a_ (aS (aR ?_))
    refine dr nS (vI 8) results89 F F ?_
    have hs:gI v fs e[i]=.error 8:=by unfold gI;simp only[oG];first|(rw[aq xD,aB xK,aB (by omega)];done)|(rw[aq xD,aq xK,aB uw,aB (by omega)];done)
    exact⟨[],Sub.z,.inl ⟨8,gW mr oF hs,F,F⟩⟩
   have Qm:e[i].a=(((fs.getD (i-1) 0-1):Nat):Int):=by omega
   have hfi:=AL (i-1) (by omega)
   have hfa:=AL (fs.getD (i-1) 0-1) (by omega)
   refine aE (a_ (ay (bu dz bM) (ae (cg (bF 1 eO) (v':=vN (fs.getD (i-1) 0-1)) (by show Value.int _ e[i].a=_;rw[Qm])) (ae (dB ((fs.getD (i-1) 0-1)) da bM F F (eA 2) (by omega) (by rw[ai];omega)) (ae (iN eO F F (eA 2) (iP (show(fs.getD (i-1) 0-1)<fs.length by omega))) (aj (a_ (de (ax (dL (v:=vN (fs.getD (fs.getD (i-1) 0-1) 0)) da bM F F F (fun z5=>?_)))))))))))
   refine ax (dE 3 da da bM F F F F (by rw[ai];omega) (by decide) (Src.row (j:=0) F (by simp)) (by simp[fS]) (by omega) (by decide) (by decide) (fun z6 J8=>?_))
   refine aj (a_ (ae (dj (b:=1) i F F (by omega)) (bH ?_)))
   have hs:gI v fs e[i]=.ok (fs.getD (fs.getD (i-1) 0-1) 0):=by unfold gI;simp only[oG];rw[aq xD,aq xK,aB uw,aq (by omega),Qm,Int.toNat_natCast]
   exact⟨i+1,by omega,[az z6 J8 3 1 ((cm fs)++[vN (fs.getD (fs.getD (i-1) 0-1) 0)])],(by exact Sub.d (.d (.d (.k .z)))),fs++[(fs.getD (fs.getD (i-1) 0-1) 0)],z6,J8,by rw[show cm (fs++[(fs.getD (fs.getD (i-1) 0-1) 0)])=cm fs++[vN (fs.getD (fs.getD (i-1) 0-1) 0)]from bm],by omega,by simp[oG],pN mr oF hs,pO oG AL (by omega),(.of F)⟩
  have AY: ¬cX e[i].op=2:=by omega
  have uw: ¬cX e[i].op=2:=by omega
  refine aE (a_ (de (ax (dL (v:=vN i) da bM F F F (fun z8=>?_)))))
  refine ax (dE 3 da da bM F F F F (by rw[ai];omega) (by decide) (Src.row (j:=0) F (by simp)) (by simp[fS]) (by omega) (by decide) (by decide) (fun z9 qq=>?_))
  refine aj (a_ (ae (dj (b:=1) i F F (by omega)) (bH ?_)))
  have hs:gI v fs e[i]=.ok i:=by unfold gI;simp only[oG];rw[aq xD,aq xK,aq uw]
  exact⟨i+1,by omega,[az z9 qq 3 1 ((cm fs)++[vN i])],(by exact Sub.d (.d (.d (.k .z)))),fs++[i],z9,qq,by rw[show cm (fs++[i])=cm fs++[vN i]from bm],by omega,by simp[oG],pN mr oF hs,pO oG AL (aI _),(.of F)⟩
 have M1: ¬i<e.length:=by omega
 refine cD ?_
 refine a7 (aS (aR ?_))
 refine dr (.slice b i c) (vI 0) results89 F F ?_
 have xF:i=e.length:=by omega
 subst xF
 rw[List.take_length]at oF
 exact⟨[az b c 3 1 (cm fs)],(by exact Sub.rf),.inr ⟨fs,b,c,oF,F,F⟩⟩
theorem Sd (w:World) [dQ prog w] (eb:Option Addr) (ec:Nat) (e:List ei) (hE:Sl w eb (bX e)) (z2 z8:Nat) (h2:Sl w (aD z2) [.slice eb e.length ec]) (h8:Sl w (aD z8) [(.func (.func 90) #[] #[(eJ z2 0),(eJ z8 0)])]) (i f:Nat) (fr:Bool) (hi:i<e.length) (Iz:1≤cX e[i].op→ ∀w1 [dQ prog w1],Inv w [] w1→ ∀g:Bool,fh prog w1 (.func (.func 90) #[] #[(eJ z2 0),(eJ z8 0)]) [vI e[i].a,.bool g] [] (fun v N=>v=.bool (lR e f e[i].a.toNat g)∧N=[])) (Ox:2≤cX e[i].op→ ∀w1 [dQ prog w1],Inv w [] w1→ ∀g:Bool,fh prog w1 (.func (.func 90) #[] #[(eJ z2 0),(eJ z8 0)]) [vI e[i].b,.bool g] [] (fun v N=>v=.bool (lR e f e[i].b.toNat g)∧N=[])):
  cB prog 90 [vN i,.bool fr,(eJ z2 0),(eJ z8 0)] w fun v N=>v=.bool (lR e (f+1) i fr)∧N=[]:=by
 refine aA func90 F ntmps90 F ?_
 refine aQ (aj (aG (dD dX F F h2 F) (ay (eF (i:=i) dX cR F F (a6 hE) hi (by rw[cE];omega)) (ae (fy (e[i].cl) dz F cR F F (bK _) (a6 hE) (lA hi)) (ax (b_ cR (fun z1=>?_)))))))
 refine ax (c8 (e[i].cl) 0 cR ?_)
 refine bi ?_
 let eH:Lx.Item:=oI z1 72 e[i].cl
 refine fF (fun ρ O=>Sub [eH] O∧(¬((e[i].op=9∨e[i].op=10)∧fr=false))∧dh [(0,vN i),(1,.bool fr),(2,(eJ z2 0)),(3,(eJ z8 0)),(7,(.pointer (aD z1)))] ρ) ?_ ?_
 ·refine br ?_
  refine a_ (ae (bu dz eN) (ae (bF 0 il) (ae bN ?_)))
  by_cases h9:((e[i].op:Nat):Int)=9
  ·refine ae (bn aw h9) ?_
   refine cY (cK (ae bw (aN (ao aw (ao g_ (aX bw (T.cond F (fun hc=>?_) (fun hc=>?_))))))))
   ·refine br ?_
    refine a_ (aR ?_)
    refine aF (.bool false) results90 F ?_
    exact⟨[],Sub.z,am Value.bool (by rw[nI hi,aB ⟨by omega,by simpa using hc⟩]),F⟩
   refine aE ?_
   exact⟨(by exact Sub.rf),(fun h=>by rw[h.2]at hc;exact absurd hc (by decide)),(.of F)⟩
  refine ae (aY aw h9) (ao (bu dz eN) (ao (bF 0 il) (ao bN ?_)))
  by_cases xG:((e[i].op:Nat):Int)=10
  ·refine ae (bn bU xG) ?_
   refine aN (ao aw (ao g_ (aX bw (T.cond F (fun hc=>?_) (fun hc=>?_)))))
   ·refine br ?_
    refine a_ (aR ?_)
    refine aF (.bool false) results90 F ?_
    exact⟨[],Sub.z,am Value.bool (by rw[nI hi,aB ⟨by omega,by simpa using hc⟩]),F⟩
   refine aE ?_
   exact⟨(by exact Sub.rf),(fun h=>by rw[h.2]at hc;exact absurd hc (by decide)),(.of F)⟩
  refine ae (aY bU xG) (aN (cK (aX bU (bf (aE ?_)))))
  exact⟨(by exact Sub.rf),(fun h=>absurd h.1 (by omega)),(.of F)⟩
 rintro ρ O ⟨hS,hcn,hH⟩
 obtain⟨gv,rfl⟩:=hH.elim
 clear hH
 refine dq hS ?_
 refine fF (fun ρ O=>Sub [eH] O∧dh [(0,vN i),(1,.bool (fr&&decide (e[i].op=4∨e[i].op=5))),(2,(eJ z2 0)),(3,(eJ z8 0)),(7,(.pointer (aD z1)))] ρ) ?_ ?_
 ·refine a_ ?_
  by_cases Oy:fr=true
  ·refine ae (eT aw (Oy)) ?_
   refine aN (ao (bu dz eN) (ao (bF 0 il) (ao bN ?_)))
   by_cases h4:((e[i].op:Nat):Int)=4
   ·refine ao (bn aw h4) ?_
    refine cY (cK (ao bw (ae bw (aj ?_))))
    exact⟨(by exact Sub.rf),⟨F,(am Value.bool (by rw[Oy,aZ (show e[i].op=4∨e[i].op=5 by omega)];rfl)),F,F,F,trivial⟩⟩
   refine ao (aY aw h4) (ao (bu dz eN) (ao (bF 0 il) (ao bN (ao bU (ae bw (aj ?_))))))
   exact⟨(by exact Sub.rf),⟨F,(am Value.bool (by rw[Oy,Bool.true_and];exact decide_eq_decide.2 (by omega))),F,F,F,trivial⟩⟩
  refine ae (eT aw (Bool.eq_false_iff.2 Oy)) (aN (cY (cK (du ?_))))
  refine cY (ae bU (aj ?_))
  exact⟨(by exact Sub.rf),⟨F,(am Value.bool (by rw[Bool.eq_false_iff.2 Oy];rfl)),F,F,F,trivial⟩⟩
 rintro ρ O ⟨hS,hH⟩
 obtain⟨gv,rfl⟩:=hH.elim
 clear hH
 refine dq hS ?_
 refine br ?_
 refine fW [(1,0),(2,0),(0,1),(3,2),(4,2),(5,2)] ?_
 refine ap F (bu dz eN) (ap F (bF 0 il) ?_)
 have D5:=fun(w1:World) (hI:Inv w [eH] w1)=>(haveI:=eP hI;qy w1)
 refine cG F F (eh Iy (aO D5) ?_)
 clear D5
 rintro vr O' ⟨N,rfl,m,rfl,rfl⟩
 refine⟨by exact Sub.d (.k .z),?_⟩
 refine cA F F (eV F F (cg (ry (a:=e[i].op) xJ mw (ie.u8 il) F F (mG 0)) (v':=(.agg #[vN (cX e[i].op),str (j6 e[i].op).1,str (j6 e[i].op).2.1,str (j6 e[i].op).2.2])) (vi e[i].op)) ?_)
 refine cA F F (eV F F (HZ EN F eO F F F) ?_)
 refine cA F F (eV F F cz ?_)
 refine cy ?_
 refine bo cV ?_
 by_cases AD:((cX e[i].op:Nat):Int)<1
 ·refine ae (bn aw AD) ?_
  refine cY (du (ae bw (aN (ao aw (ao (bn cV (by omega)) ?_)))))
  refine ao aw (cY (du (ao bw (ae bw (aS ?_)))))
  refine dP ?_
  refine aF (.bool true) results90 F ?_
  exact⟨[],Sub.z,am Value.bool (by rw[nI hi,aq hcn,aZ (show cX e[i].op<1 by omega),aZ (show cX e[i].op<2 by omega)];rfl),F⟩
 refine ae (aY aw AD) (ao (dD Oz F F h8 F) (ao (bu dz bM) (ao (bF 1 eO) (ao aw ?_))))
 have abc:=(eK (base:=w) (O:=[BE m,eH]) fun w1 hI=>haveI:=eP hI;haveI:=eP hI;Iz (by omega) w1 hI.oE (fr&&decide (e[i].op=4∨e[i].op=5)))
 refine gF F F F (fT abc F F ?_)
 clear abc
 rintro vr O' ⟨N,rfl,rfl,rfl⟩
 refine ae bU ?_
 by_cases F2:(lR e f e[i].a.toNat (fr&&decide (e[i].op=4∨e[i].op=5)))=true
 ·refine ae (eT aw (F2)) ?_
  refine ao aw (ao cV ?_)
  by_cases rH:((cX e[i].op:Nat):Int)<2
  ·refine ao (bn aw rH) ?_
   refine cY (du (ao bw (ae bw (aR ?_))))
   refine aF (.bool true) results90 F ?_
   exact⟨[],Sub.z,am Value.bool (by rw[nI hi,aq hcn,a8 (show¬cX e[i].op<1 by omega),F2,aZ (show cX e[i].op<2 by omega)];rfl),F⟩
  refine ao (aY aw rH) (ao (dD Oz F F h8 F) (ao (bu dz bM) (ao (bF 1 eO) (ao aw ?_))))
  have L_:=(eK (base:=w) (O:=[BE m,eH]) fun w1 hI=>haveI:=eP hI;haveI:=eP hI;Ox (by omega) w1 hI.oE (fr&&decide (e[i].op=4∨e[i].op=5)))
  refine gF F F F (fT L_ F F ?_)
  clear L_
  rintro vr O' ⟨N,rfl,rfl,rfl⟩
  refine ao bU (ae bw (aR ?_))
  refine aF (.bool (lR e f e[i].b.toNat (fr&&decide (e[i].op=4∨e[i].op=5)))) results90 F ?_
  exact⟨[],Sub.z,am Value.bool (by rw[nI hi,aq hcn,a8 (show¬cX e[i].op<1 by omega),F2,a8 (show¬cX e[i].op<2 by omega)];rfl),F⟩
 refine ae (eT aw (Bool.eq_false_iff.2 F2)) (cY (cK (du ?_)))
 refine cK (ae bU (aR ?_))
 refine aF (.bool false) results90 F ?_
 exact⟨[],Sub.z,am Value.bool (by rw[nI hi,aq hcn,a8 (show¬cX e[i].op<1 by omega),Bool.eq_false_iff.2 F2];rfl),F⟩
def OA (e:List ei):Prop:= ∀i (h:i<e.length),(1≤cX e[i].op→ ∃j:Nat,e[i].a=(j:Int)∧j<i)∧(2≤cX e[i].op→ ∃j:Nat,e[i].b=(j:Int)∧j<i)
set_option maxRecDepth 20000 in
theorem WY (w:World) [dQ prog w] (eb:Option Addr) (ec:Nat) (e:List ei) (hE:Sl w eb (bX e)) (z2 z8:Nat) (h2:Sl w (aD z2) [.slice eb e.length ec]) (h8:Sl w (aD z8) [(.func (.func 90) #[] #[(eJ z2 0),(eJ z8 0)])]) (ht:OA e): ∀(f i:Nat) (hi:i<e.length) (hf:i<f) (fr:Bool),
  cB prog 90 [vN i,.bool fr,(eJ z2 0),(eJ z8 0)] w fun v N=>v=.bool (lR e f i fr)∧N=[]
 |0,i,hi,hf,fr=>absurd hf (by omega)
 |f+1,i,hi,hf,fr=>Sd w eb ec e hE z2 z8 h2 h8 i f fr hi (fun Yt w1 _ hI g=>by
   obtain⟨j,hj,B6⟩:=(ht i hi).1 Yt
   rw[hj,Int.toNat_natCast]
   exact cZ (first:=[]) (args:=[vN j,.bool g]) (gU:=[(eJ z2 0),(eJ z8 0)]) OC (WY w1 eb ec e (hI.sl hE) z2 z8 (hI.sl h2) (hI.sl h8) ht f j (by omega) (by omega) g)) (fun Yt w1 _ hI g=>by
   obtain⟨j,hj,B6⟩:=(ht i hi).2 Yt
   rw[hj,Int.toNat_natCast]
   exact cZ (first:=[]) (args:=[vN j,.bool g]) (gU:=[(eJ z2 0),(eJ z8 0)]) OC (WY w1 eb ec e (hI.sl hE) z2 z8 (hI.sl h2) (hI.sl h8) ht f j (by omega) (by omega) g))
end Go.Proofs.YtgdbfideeeegmaaGreatDoor

namespace Go.Lx
open Go.RowKit Go.Proofs.YtgdbfideeeegmaaGreatDoor
theorem vm {v b:Nat} {fs:List Nat} {x:ei} (hb: ∀j,j<fs.length→fs.getD j 0≤j) (h:gI v fs x=.ok b):
  b≤fs.length∧jZ v x=0∧(cX x.op=1→0<fs.length∧x.a=(fs.length:Int)-1∧b=fs.getD (fs.length-1) 0)∧
  (cX x.op=2→0<fs.length∧x.b=(fs.length:Int)-1∧0<fs.getD (fs.length-1) 0∧x.a=(fs.getD (fs.length-1) 0:Int)-1∧b=fs.getD x.a.toNat 0)∧(cX x.op=0→b=fs.length):=by
 unfold gI at h
 split at h
 ·cases h
 ·rename_i h0
  have h0':jZ v x=0:=by omega
  split at h
  ·rename_i h1
   split at h
   ·cases h
   ·rename_i h2
    injection h with h
    have:=hb (fs.length-1) (by omega)
    exact⟨by omega,h0',fun _=>⟨by omega,by omega,h.symm⟩,fun h9=>by omega,fun h9=>by omega⟩
  ·rename_i h1
   split at h
   ·rename_i h2
    split at h
    ·cases h
    ·rename_i h3
     injection h with h
     have h4:=hb (fs.length-1) (by omega)
     have h5:x.a.toNat<fs.length:=by omega
     have h6:=hb _ h5
     exact⟨by omega,h0',fun h9=>by omega,fun _=>⟨by omega,by omega,by omega,by omega,h.symm⟩,fun h9=>by omega⟩
   ·injection h with h
    exact⟨by omega,h0',fun h9=>by omega,fun h9=>by omega,fun _=>h.symm⟩
theorem Sj (n:Nat):cX n≤2:=by unfold cX;split<;>(try split)<;>omega
theorem sQ {v:Nat} {e:List ei} {fs:List Nat} (h:j7 v e=.ok fs): ∀i,i≤e.length→ ∃gs,j7 v (e.take i)=.ok gs∧gs.length=i∧(∀j,j<i→gs.getD j 0≤j)∧gs=fs.take i
 |0,_=>⟨[],F,F,fun j hj=>by omega,by simp⟩
 |i+1,hi=>by
  obtain⟨gs,h1,h2,h3,h4⟩:=sQ h i (by omega)
  have gQ:i<e.length:=by omega
  cases hs:gI v gs e[i]with
  |error n=>rw[gW gQ h1 hs]at h;cases h
  |ok b=>
   have hn:=pN gQ h1 hs
   have hb:=vm (by rw[h2];exact h3) hs
   refine⟨gs++[b],hn,by simp[h2],pO h2 h3 (by omega),?_⟩
   have hp: ∀(l:List ei) (a:List Nat) (c:List Nat),l.foldl (vk v) (.ok a)=.ok c→a<+:c:=by
    intro l
    induction l with
    |nil=>intro a c h;injection h with h;subst h;exact List.prefix_refl _
    |cons x l ih=>
     intro a c h
     rw[cU]at h
     cases hx:vk v (.ok a) x with
     |error n=>rw[hx,vl]at h;cases h
     |ok a2=>
      rw[hx]at h
      have h5:=ih a2 c h
      have h6:a<+:a2:=by
       unfold vk at hx
       cases hy:gI v a x with
       |error n=>simp only[hy]at hx;cases hx
       |ok b2=>simp only[hy]at hx;injection hx with hx;subst hx;exact List.prefix_append _ _
      exact h6.trans h5
   have h7:(gs++[b])<+:fs:=by
    have h8:j7 v e=(e.drop (i+1)).foldl (vk v) (j7 v (e.take (i+1))):=by
     conv=>lhs;rw[←List.take_append_drop (i+1) e]
     unfold j7;rw[cT]
    rw[h8,hn]at h
    exact hp _ _ _ h
   have:=List.prefix_iff_eq_take.1 h7
   simpa[h2]using this
theorem pP {v:Nat} {e:List ei} {fs:List Nat} (h:j7 v e=.ok fs):OA e:=fun i hi=>by
 obtain⟨gs,h1,h2,h3,_⟩:=sQ h i (Nat.le_of_lt hi)
 cases hs:gI v gs e[i]with
 |error n=>rw[gW hi h1 hs]at h;cases h
 |ok b=>
  obtain⟨_,_,k1,k2,_⟩:=vm (by rw[h2];exact h3) hs
  have hc:=Sj e[i].op
  refine⟨fun hh=>?_,fun hh=>?_⟩
  ·by_cases h5:cX e[i].op=1
   ·have:=k1 h5;exact⟨i-1,by omega,by omega⟩
   ·have:=k2 (by omega)
    have h6:=h3 (gs.length-1) (by omega)
    exact⟨gs.getD (gs.length-1) 0-1,by omega,by omega⟩
  ·have:=k2 (by omega);exact⟨i-1,by omega,by omega⟩
theorem CJ {v n:Nat}: ∀ {e:List ei} {a:List Nat},e.foldl (vk v) (.ok a)=.error n→n≠0
 | [],a,h=>by cases h
 |x::e,a,h=>by
  rw[cU]at h
  cases hs:gI v a x with
  |error k=>
   have hk:vk v (.ok a) x=.error k:=by unfold vk;simp only[hs]
   rw[hk,vl]at h
   injection h with h
   subst h
   unfold gI at hs
   split at hs
   ·injection hs with hs;omega
   ·split at hs
    ·split at hs
     ·injection hs with hs;omega
     ·cases hs
    ·split at hs
     ·split at hs
      ·injection hs with hs;omega
      ·cases hs
     ·cases hs
  |ok b=>
   have hk:vk v (.ok a) x=.ok (a++[b]):=by unfold vk;simp only[hs]
   rw[hk]at h
   exact CJ h
def gJ (vars:Int) (e:List ei):Nat:=
 if vars<0∨6<vars then 7 else if e.length=0 then 3 else if 64<e.length then 4 else
  match j7 vars.toNat e with
  | .error n=>n
  | .ok fs=>if fs.getD (e.length-1) 0≠0 then 2 else if lR e e.length (e.length-1) true=true then 0 else 2
def iZ (e:List ei):Nat→Nat→Rx
 |0,_=>.none
 |f+1,i=>
  let x:=e.getD i ⟨0,0,0,0,0⟩
  if x.op=1 then .none else if x.op=2 then .empty else if x.op=3 then .letter x.p x.n
  else if x.op=4 then .iG (iZ e f x.a.toNat) (iZ e f x.b.toNat)else if x.op=5 then .iR (iZ e f x.a.toNat) (iZ e f x.b.toNat)else if x.op=6 then .and (iZ e f x.a.toNat) (iZ e f x.b.toNat)
  else if x.op=7 then .not (iZ e f x.a.toNat)else if x.op=8 then .star (iZ e f x.a.toNat)else if x.op=9 then .ahead (iZ e f x.a.toNat)else .behind (iZ e f x.a.toNat)
theorem qA {v:Nat} {e:List ei} {fs:List Nat} (h:j7 v e=.ok fs) {i:Nat} (hi:i<e.length):jZ v e[i]=0:=by
 obtain⟨gs,h1,h2,h3,_⟩:=sQ h i (Nat.le_of_lt hi)
 cases hs:gI v gs e[i]with
 |error n=>rw[gW hi h1 hs]at h;cases h
 |ok b=>exact(vm (by rw[h2];exact h3) hs).2.1
theorem or_zero {a b:Nat} (h:(a|||b)=0):a=0∧b=0:=by
 have h1:a≤a|||b:=Nat.left_le_or
 have h2:b≤a|||b:=Nat.right_le_or
 omega
theorem lM {v:Nat} {x:ei} (h:jZ v x=0):1≤x.op∧x.op≤10∧(x.op≠3→x.p=0∧x.n=0)∧(cX x.op<1→x.a=0)∧(cX x.op<2→x.b=0):=by
 unfold jZ at h
 split at h
 ·omega
 ·rename_i h1
  split at h
  ·omega
  ·rename_i h2
   refine⟨by omega,by omega,fun h3=>or_zero (by
    by_cases h4:(x.p|||x.n)=0
    ·exact h4
    ·exact absurd (Or.inl ⟨h3,h4⟩) h2),fun h3=>?_,fun h3=>?_⟩
   ·by_cases h4:x.a=0
    ·exact h4
    ·exact absurd (Or.inr (Or.inl ⟨h3,h4⟩)) h2
   ·by_cases h4:x.b=0
    ·exact h4
    ·exact absurd (Or.inr (Or.inr ⟨h3,h4⟩)) h2
theorem lx {v:Nat} {e:List ei} {fs:List Nat} (h:j7 v e=.ok fs) (mh: ∀x∈e,x.p<256∧x.n<256): ∀(f i:Nat),i<f→i<e.length→ve e (iZ e f i) i
 |0,i,hf,hi=>absurd hf (by omega)
 |f+1,i,hf,hi=>by
  have ht:=pP h i hi
  have hs:=lM (qA h hi)
  have hg:e[i]? =some e[i]:=ak hi
  have hx:=mh _ (av hi)
  unfold iZ
  simp only[oz hi]
  obtain⟨x,Cu⟩: ∃x,x=e[i]:=⟨_,F⟩
  rw[←Cu]at ht hs hg hx⊢
  obtain⟨o,p,n,a,b⟩:=x
  clear Cu
  obtain⟨h1,h2,h3,h4,h5⟩:=hs
  simp only at ht h1 h2 h3 h4 h5 hx
  have hk:o=1∨o=2∨o=3∨o=4∨o=5∨o=6∨o=7∨o=8∨o=9∨o=10:=by omega
  rcases hk with rfl|rfl|rfl|rfl|rfl|rfl|rfl|rfl|rfl|rfl
  ·obtain⟨rfl,rfl⟩:=h3 (by decide)
   have ha:=h4 (by decide);have hb:=h5 (by decide)
   subst ha hb
   exact hg
  ·obtain⟨rfl,rfl⟩:=h3 (by decide)
   have ha:=h4 (by decide);have hb:=h5 (by decide)
   subst ha hb
   exact hg
  ·have ha:=h4 (by decide);have hb:=h5 (by decide)
   subst ha hb
   exact⟨hg,hx⟩
  ·obtain⟨rfl,rfl⟩:=h3 (by decide)
   obtain⟨j,rfl,hj⟩:=ht.1 (by decide)
   obtain⟨k,rfl,hk⟩:=ht.2 (by decide)
   exact⟨j,k,hg,lx h mh f j (by omega) (by omega),lx h mh f k (by omega) (by omega)⟩
  ·obtain⟨rfl,rfl⟩:=h3 (by decide)
   obtain⟨j,rfl,hj⟩:=ht.1 (by decide)
   obtain⟨k,rfl,hk⟩:=ht.2 (by decide)
   exact⟨j,k,hg,lx h mh f j (by omega) (by omega),lx h mh f k (by omega) (by omega)⟩
  ·obtain⟨rfl,rfl⟩:=h3 (by decide)
   obtain⟨j,rfl,hj⟩:=ht.1 (by decide)
   obtain⟨k,rfl,hk⟩:=ht.2 (by decide)
   exact⟨j,k,hg,lx h mh f j (by omega) (by omega),lx h mh f k (by omega) (by omega)⟩
  ·obtain⟨rfl,rfl⟩:=h3 (by decide)
   have hb:=h5 (by decide)
   subst hb
   obtain⟨j,rfl,hj⟩:=ht.1 (by decide)
   exact⟨j,hg,lx h mh f j (by omega) (by omega)⟩
  ·obtain⟨rfl,rfl⟩:=h3 (by decide)
   have hb:=h5 (by decide)
   subst hb
   obtain⟨j,rfl,hj⟩:=ht.1 (by decide)
   exact⟨j,hg,lx h mh f j (by omega) (by omega)⟩
  ·obtain⟨rfl,rfl⟩:=h3 (by decide)
   have hb:=h5 (by decide)
   subst hb
   obtain⟨j,rfl,hj⟩:=ht.1 (by decide)
   exact⟨j,hg,lx h mh f j (by omega) (by omega)⟩
  ·obtain⟨rfl,rfl⟩:=h3 (by decide)
   have hb:=h5 (by decide)
   subst hb
   obtain⟨j,rfl,hj⟩:=ht.1 (by decide)
   exact⟨j,hg,lx h mh f j (by omega) (by omega)⟩
theorem qz {v:Nat} {e:List ei} {fs:List Nat} (h:j7 v e=.ok fs): ∀(f i:Nat),i<f→i<e.length→(lR e f i false=true→(iZ e f i).plain=true)∧(lR e f i true=true→(iZ e f i).wf=true)
 |0,i,hf,hi=>absurd hf (by omega)
 |f+1,i,hf,hi=>by
  have ht:=pP h i hi
  have hs:=lM (qA h hi)
  have e1:=nI (f:=f) (fr:=false) hi
  have e2:=nI (f:=f) (fr:=true) hi
  rw[e1,e2]
  unfold iZ
  simp only[oz hi]
  clear e1 e2
  obtain⟨x,Cu⟩: ∃x,x=e[i]:=⟨_,F⟩
  rw[←Cu]at ht hs⊢
  obtain⟨o,p,n,a,b⟩:=x
  clear Cu
  obtain⟨h1,h2,h3,h4,h5⟩:=hs
  simp only at ht h1 h2⊢
  clear h3 h4 h5
  have one:1≤cX o→((lR e f a.toNat false=true→(iZ e f a.toNat).plain=true)∧(lR e f a.toNat true=true→(iZ e f a.toNat).wf=true)):=fun hh=>by
   obtain⟨j,rfl,hj⟩:=ht.1 hh
   exact qz h f j (by omega) (by omega)
  have two:2≤cX o→((lR e f b.toNat false=true→(iZ e f b.toNat).plain=true)∧(lR e f b.toNat true=true→(iZ e f b.toNat).wf=true)):=fun hh=>by
   obtain⟨j,rfl,hj⟩:=ht.2 hh
   exact qz h f j (by omega) (by omega)
  clear ht
  have hk:o=1∨o=2∨o=3∨o=4∨o=5∨o=6∨o=7∨o=8∨o=9∨o=10:=by omega
  rcases hk with rfl|rfl|rfl|rfl|rfl|rfl|rfl|rfl|rfl|rfl<;>simp[cX,Rx.plain,Rx.wf]at one two⊢ <;>simp_all
theorem CV {v:Nat} {e:List ei} {fs:List Nat} (h:j7 v e=.ok fs) {i:Nat} (hi:i<e.length):fs.getD i 0≤i∧
  (cX e[i].op=1→0<i∧e[i].a=(i:Int)-1∧fs.getD i 0=fs.getD (i-1) 0)∧
  (cX e[i].op=2→0<i∧e[i].b=(i:Int)-1∧0<fs.getD (i-1) 0∧e[i].a=(fs.getD (i-1) 0:Int)-1∧fs.getD (i-1) 0≤i-1∧fs.getD i 0=fs.getD e[i].a.toNat 0)∧(cX e[i].op=0→fs.getD i 0=i):=by
 obtain⟨gs,h1,h2,h3,h4⟩:=sQ h i (Nat.le_of_lt hi)
 obtain⟨gs',k1,k2,k3,k4⟩:=sQ h (i+1) hi
 cases hs:gI v gs e[i]with
 |error n=>rw[gW hi h1 hs]at h;cases h
 |ok b=>
  have hn:=pN hi h1 hs
  rw[k1]at hn
  injection hn with hn
  have iH:i<fs.length:=by
   have:(fs.take (i+1)).length=i+1:=by rw[←k4];exact k2
   rw[db]at this;omega
  have hb:fs.getD i 0=b:=by
   have:gs'.getD i 0=b:=by rw[hn,au,bZ (by omega),h2,fX];rfl
   rw[k4,au,List.getElem?_take,aB (by omega)]at this
   rw[au];exact this
  have hj: ∀j,j<i→gs.getD j 0=fs.getD j 0:=fun j hj=>by
   rw[h4,au,au,List.getElem?_take,aB hj]
  obtain⟨b1,_,b2,b3,b4⟩:=vm (by rw[h2];exact h3) hs
  rw[h2]at b1 b2 b3 b4
  refine⟨by omega,fun h5=>?_,fun h5=>?_,fun h5=>by rw[hb];exact b4 h5⟩
  ·obtain⟨c1,c2,c3⟩:=b2 h5
   exact⟨c1,c2,by rw[hb,c3,hj _ (by omega)]⟩
  ·obtain⟨c1,c2,c3,c4,c5⟩:=b3 h5
   have hx:=h3 (i-1) (by omega)
   rw[hj _ (by omega)]at c3 c4 hx
   refine⟨c1,c2,c3,c4,hx,?_⟩
   rw[hb,c5,hj _ (by omega)]
theorem x4 {v:Nat} {e:List ei} {fs:List Nat} (h:j7 v e=.ok fs): ∀(f i:Nat),i<f→i<e.length→2*(iZ e f i).lv+fs.getD i 0≤i+2
 |0,i,hf,hi=>absurd hf (by omega)
 |f+1,i,hf,hi=>by
  obtain⟨g0,g1,g2,g3⟩:=CV h hi
  unfold iZ
  simp only[oz hi]
  by_cases h4:e[i].op=4∨e[i].op=5
  ·have hc:cX e[i].op=2:=by unfold cX;rw[aB (by omega)]
   obtain⟨c1,c2,c3,c4,c5,c6⟩:=g2 hc
   have ha:=x4 h f (fs.getD (i-1) 0-1) (by omega) (by omega)
   have hb:=x4 h f (i-1) (by omega) (by omega)
   have ea:e[i].a.toNat=fs.getD (i-1) 0-1:=by omega
   have eb:e[i].b.toNat=i-1:=by omega
   rw[ea]at c6
   rw[ea,eb]
   rcases h4 with h4|h4
   ·simp only[h4]
    show 2*((iZ e f _).lv+(iZ e f _).lv)+_≤_
    omega
   ·simp only[h4]
    show 2*((iZ e f _).lv+(iZ e f _).lv)+_≤_
    omega
  ·rw[aq (show¬e[i].op=4 by omega),aq (show¬e[i].op=5 by omega)]
   repeat' split
   all_goals (show 2*1+_≤_;omega)
theorem oy {v:Nat} {e:List ei} {fs:List Nat} (h:j7 v e=.ok fs) (hl: ∀x∈e,x.op≠9∧x.op≠10): ∀(f i:Nat),i<f→i<e.length→(iZ e f i).plain=true
 |0,i,hf,hi=>absurd hf (by omega)
 |f+1,i,hf,hi=>by
  have ht:=pP h i hi
  have hs:=lM (qA h hi)
  have hx:=hl _ (av hi)
  unfold iZ
  simp only[oz hi]
  obtain⟨x,Cu⟩: ∃x,x=e[i]:=⟨_,F⟩
  rw[←Cu]at ht hs hx⊢
  obtain⟨o,p,n,a,b⟩:=x
  clear Cu
  obtain⟨h1,h2,h3,h4,h5⟩:=hs
  simp only at ht h1 h2 hx⊢
  clear h3 h4 h5
  have one:1≤cX o→(iZ e f a.toNat).plain=true:=fun hh=>by
   obtain⟨j,rfl,hj⟩:=ht.1 hh
   exact oy h hl f j (by omega) (by omega)
  have two:2≤cX o→(iZ e f b.toNat).plain=true:=fun hh=>by
   obtain⟨j,rfl,hj⟩:=ht.2 hh
   exact oy h hl f j (by omega) (by omega)
  clear ht
  have hk:o=1∨o=2∨o=3∨o=4∨o=5∨o=6∨o=7∨o=8:=by omega
  rcases hk with rfl|rfl|rfl|rfl|rfl|rfl|rfl|rfl<;>simp[cX,Rx.plain]at one two⊢ <;>simp_all
end Go.Lx

