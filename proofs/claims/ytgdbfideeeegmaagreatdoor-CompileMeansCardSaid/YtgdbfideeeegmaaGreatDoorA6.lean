/- Contracts of functions; conditions: those each theorem names. -/
import Derived.RecoverIn
import Derived.RangeFuncLeaves
import Derived.Test.YtgdbfideeeegmaaGreatDoorA5
set_option linter.unusedSectionVars false
set_option linter.unusedSimpArgs false
set_option linter.unusedVariables false
set_option linter.unnecessarySimpa false
set_option maxHeartbeats 8000000
set_option maxRecDepth 20000
namespace Go.Proofs.YtgdbfideeeegmaaGreatDoor
open Go.Lx Go.RowKit _root_.Go.Proofs.Tryz
def nT (w:World) (cb:Nat) (vs B ob:Nat) (fv:Value) (t:Rx) (i:Nat):Prop:= ∀(lb:Option Addr) (lc:Nat) (ls:List Lf) (ks:List LK),ks.length=ls.length→ls.length+t.lv≤64→s6 ls t→
 dK prog w (.iface 163 (.agg #[])) 73 [(.pointer (aD ob)),vN i] ([dY ob (.cells (List.toArray [(dJ (aD cb) 0),(.slice lb ls.length lc),fv]) 114 (0,0)),av lb lc 118 7 (dp ls ks)]++(cg 3 (eY ls ks)++gK 56 4 3 ls ks)) (fun v O'=> ∃uS uT qk pt pu zz zE,v=.tuple #[(.slice pt (((aU vs t ls).fi).length) pu),(.slice zz (((aU vs t ls).la).length) zE)]∧O'=[dY ob (.cells (List.toArray [(dJ (aD cb) 0),(.slice uS (((aU vs t ls).ls).length) uT),fv]) 114 (0,0)),av uS uT 118 7 (dp ((aU vs t ls).ls) qk),av pt pu 3 1 (bW ((aU vs t ls).fi)),av zz zE 3 1 (bW ((aU vs t ls).la))]++(cg 3 (eY ((aU vs t ls).ls) qk)++gK 56 4 3 ((aU vs t ls).ls) qk)∧qk.length=(aU vs t ls).ls.length∧okB vs t B) (¬okB vs t B)
theorem nT.frame {w:World} {cb vs B0 ob:Nat} {fv:Value} {t:Rx} {i:Nat} (h:nT w cb vs B0 ob fv t i) (B:List Lx.Item) {O:List Lx.Item} (lb:Option Addr) (lc:Nat) (ls:List Lf) (ks:List LK) (hk:ks.length=ls.length) (hl:ls.length+t.lv≤64) (Kz:s6 ls t) (hs:Sub ([dY ob (.cells (List.toArray [(dJ (aD cb) 0),(.slice lb ls.length lc),fv]) 114 (0,0)),av lb lc 118 7 (dp ls ks)]++B) O):
  dK prog w (.iface 163 (.agg #[])) 73 [(.pointer (aD ob)),vN i] (O++(cg 3 (eY ls ks)++gK 56 4 3 ls ks)) (fun v O'=> ∃uS uT qk pt pu zz zE,v=.tuple #[(.slice pt (((aU vs t ls).fi).length) pu),(.slice zz (((aU vs t ls).la).length) zE)]∧O'=([dY ob (.cells (List.toArray [(dJ (aD cb) 0),(.slice uS (((aU vs t ls).ls).length) uT),fv]) 114 (0,0)),av uS uT 118 7 (dp ((aU vs t ls).ls) qk),av pt pu 3 1 (bW ((aU vs t ls).fi)),av zz zE 3 1 (bW ((aU vs t ls).la))]++B)++(cg 3 (eY ((aU vs t ls).ls) qk)++gK 56 4 3 ((aU vs t ls).ls) qk)∧qk.length=(aU vs t ls).ls.length∧okB vs t B0) (¬okB vs t B0):=by
 refine((h lb lc ls ks hk hl Kz).under (B:=B) (q_ _ _ _ _ hs)).post ?_
 rintro v O' ⟨A',rfl,uS,uT,qk,pt,pu,zz,zE,rfl,rfl,h1⟩
 exact⟨_,ra _ _ _,uS,uT,qk,pt,pu,zz,zE,F,F,h1⟩
theorem nq (w:World) [dA prog w] (cb:Nat) (eb:Option Addr) (en ec vs B:Nat) (e7:Sl w (aD cb) [.slice eb en ec,vI (vs:Int),vI (B:Int)]) (gz:vs≤6) (iY:1≤B) (hB:B≤4096) (e:List eC) (hE:Sl w eb (bQ e)) (kw:en=e.length) (i:Nat) (ob:Nat) (fv:Value) (t:Rx) (x:eC) (hp:e[i]? =some x) (h4:x.op≠4) (h5:x.op≠5) (h9:x.op≠9) (wU:x.op≠10) (JE:t.lv=1) (ZY: ∀ls,aU vs t ls=⟨ls++[⟨0,minOf vs (fx t),[],false⟩],[ls.length],[ls.length]⟩) (ZZ:okB vs t B=kv vs t B) (Z0: ∀(w1:World) [dA prog w1],Inv w [] w1→dK prog w1 (.iface 163 (.agg #[])) 72 [(dJ (aD cb) 0),vN i] [] (tE vs B t) (¬kv vs t B)) (lb:Option Addr) (lc:Nat) (ls:List Lf) (ks:List LK) (n6:ks.length=ls.length) (hl:ls.length+t.lv≤64) (Kz:s6 ls t):
  dK prog w (.iface 163 (.agg #[])) 73 [(.pointer (aD ob)),vN i] ([oI ob 114 [(dJ (aD cb) 0),(.slice lb ls.length lc),fv],av lb lc 118 7 (dp ls ks)]++(cg 3 (eY ls ks)++gK 56 4 3 ls ks)) (fun v O'=> ∃uS uT qk pt pu zz zE,v=.tuple #[(.slice pt (((aU vs t ls).fi).length) pu),(.slice zz (((aU vs t ls).la).length) zE)]∧O'=[oI ob 114 [(dJ (aD cb) 0),(.slice uS (((aU vs t ls).ls).length) uT),fv],av uS uT 118 7 (dp ((aU vs t ls).ls) qk),av pt pu 3 1 (bW ((aU vs t ls).fi)),av zz zE 3 1 (bW ((aU vs t ls).la))]++(cg 3 (eY ((aU vs t ls).ls) qk)++gK 56 4 3 ((aU vs t ls).ls) qk)∧qk.length=(aU vs t ls).ls.length∧okB vs t B) (¬okB vs t B):=by
 refine dS func73 F ntmps73 F ?_
 obtain⟨hi,_⟩:=iP hp
 simp only[ZY]
 rw[ZZ]
 refine aj (ak F (ak F (ah (aj (ai F (ae a_ (ae (bt gC pf) (ae (bq 0 wV) (ae a_ (ae (cz lM F il F F (aK e7) (by first|omega|(simp;done)|(simp;omega)|(simp_all;done)|(simp_all;omega))) (ae (cS dR F F (aK e7) F) (ai F (ae (eA (i:=i) dR cJ F F (aK hE) (by omega) (by rw[cB];omega)) (ae (eW (vs:=x.cl) dt F cJ F F (bu _) (aK hE) (fW hp)) (aq (bs cJ (fun z1=>?_)))))))))))))))))
 refine aq (cq (vs:=x.cl) 0 cJ ?_)
 refine ah (aR (aj (ae (bt dt eD) (ae (bq 0 gH) (ah (aV (aj (ae bK (ae (aC cx (am (by omega))) (ah (a8 (aj (ae bK (ae (aC cx (am (by omega))) ?_))))))))))))))
 refine ah (a8 (aj (ae bK (ae (aC cx (am (by omega))) (ah (a8 (aj (ae bK (ae (aC cx (am (by omega))) ?_)))))))))
 refine ah (a8 ?_)
 refine T.ds [oI z1 72 x.cl,oI ob 114 [(dJ (aD cb) 0),(.slice lb ls.length lc),fv]] [(0,0),(1,0),(2,0),(3,0),(4,0),(5,0),(6,0),(7,0),(8,0),(9,0),(10,1),(11,0),(12,1),(13,1),(14,0),(15,0),(16,2)] (by exact Sub.k (.k .z)) ?_
 refine aw F aI (aw F aI (aw F a_ (aw F (bt gC gE) (aw F (bq 1 fH) (aw F aI (aw F a_ (aw F (bt gC pf) (aw F (bq 1 wV) (aw F aI ?_)))))))))
 have nK:=fun(w1:World) (hI:Inv w ([oI z1 72 x.cl,oI ob 114 [(dJ (aD cb) 0),(.slice lb ls.length lc),fv],av lb lc 118 7 (dp ls ks)]++(cg 3 (eY ls ks)++gK 56 4 3 ls ks)) w1)=>(haveI:=ef hI;Z0 w1 hI.lK)
 refine iD F F (e8 qa (dK.pure nK) F (fun z _=>⟨F,z⟩) ?_)
 clear nK
 rintro vr O' ⟨N,rfl,M,kM,rfl,rfl,hM,hO⟩
 refine⟨by exact Sub.d (.k (.k .z)),?_⟩
 have eM:=gY hM hB
 refine aw F (cT (cs:=[(.int .u8 0),(vI M.vars),(vI M.start),(.slice kM.nb M.next.length kM.nc),(.slice kM.fb M.a7.length kM.fc),nS,(.bool false)]) B2 fj (by kernel_rfl)) ?_
 refine cH F F (cK (m:=1) (parts:=[(0,_)]) (cs:=[(.int .u8 0),(vI M.vars),(vI M.start),(.slice kM.nb M.next.length kM.nc),(.slice kM.fb M.a7.length kM.fc),nS,(.bool false)]) fH fj (by decide) (by kernel_rfl) F (fun z2=>⟨by exact Sub.d (.d (.k (.k .z))),?_⟩))
 refine cH F F (dq 4 fH fH fj F F F F (by rw[eg n6]) (by decide) (Src.row (j:=0) F (by simp)) (by simp[fF]) (by omega) (by decide) (by decide) (fun z3 oK=>⟨by exact Sub.d (.d (.k (.k .z))),?_⟩))
 refine aw F a_ (aw F (bt gC gE) ?_)
 refine cy F F (cq (vs:=[(.slice z3 (ls.length+1) oK)]) 3 gE ?_)
 refine cA ?_
 refine aj (ai F (ae a_ (ae (bt gC gE) (ae (bq 3 fH) (ae (cQ fH) (ae (bL (fI F F (by omega)) (v':=vN ls.length) (au (Value.int .i64) (by omega))) (ak F (ah (aR (T.fq 3 1 ?_))))))))))
 refine bg (ai F (aq (cR (v:=vN ls.length) cL bF F F F (fun z5=>?_))))
 refine ai F (aq (cR (v:=vN ls.length) cL bF F F F (fun z6=>?_)))
 refine ak F (ak F (ah (aM (aB ?_))))
 refine de (.slice (aD z5) 1 1) (.slice (aD z6) 1 1) results73 F F ?_
 exact⟨[oI ob 114 [(dJ (aD cb) 0),(.slice z3 ((ls++[(⟨0,minOf vs (fx t),[],false⟩:Lf)]).length) oK),fv],av z3 oK 118 7 (dp (ls++[(⟨0,minOf vs (fx t),[],false⟩:Lf)]) (ks++[(⟨kM,none,0⟩:LK)])),av (aD z5) 1 3 1 (bW [ls.length]),av (aD z6) 1 3 1 (bW [ls.length])]++(cg 3 (eY (ls++[(⟨0,minOf vs (fx t),[],false⟩:Lf)]) (ks++[(⟨kM,none,0⟩:LK)]))++gK 56 4 3 (ls++[(⟨0,minOf vs (fx t),[],false⟩:Lf)]) (ks++[(⟨kM,none,0⟩:LK)])),by
   rw[s8 n6,s9,vo n6,ri n6,aP,←eM]
   exact rj [oI ob 114 [(dJ (aD cb) 0),(.slice z3 (ls.length+1) oK),fv],av z3 oK 118 7 ((dp ls ks)++[(.int .u8 0),(vI M.vars),(vI M.start),(.slice kM.nb M.next.length kM.nc),(.slice kM.fb M.a7.length kM.fc),nS,(.bool false)]),av (aD z5) 1 3 1 [vN ls.length],av (aD z6) 1 3 1 [vN ls.length]] [av (aD z6) 1 3 1 [vN ls.length],av (aD z5) 1 3 1 [vN ls.length],av none 0 3 1 [],av (aD z2) 1 118 7 [(.int .u8 0),(vI M.vars),(vI M.start),(.slice kM.nb M.next.length kM.nc),(.slice kM.fb M.a7.length kM.fc),nS,(.bool false)],dI 56 4 3 M kM,oI z1 72 x.cl,oI ob 114 [(dJ (aD cb) 0),(.slice z3 (ls.length+1) oK),fv],av z3 oK 118 7 ((dp ls ks)++[(.int .u8 0),(vI M.vars),(vI M.start),(.slice kM.nb M.next.length kM.nc),(.slice kM.fb M.a7.length kM.fc),nS,(.bool false)])] _ _ _ _ (by exact Sub.dP [av (aD z6) 1 3 1 [vN ls.length],av (aD z5) 1 3 1 [vN ls.length],av none 0 3 1 [],av (aD z2) 1 118 7 [(.int .u8 0),(vI M.vars),(vI M.start),(.slice kM.nb M.next.length kM.nc),(.slice kM.fb M.a7.length kM.fc),nS,(.bool false)],dI 56 4 3 M kM,oI z1 72 x.cl] _ (.dP [av (aD z6) 1 3 1 [vN ls.length],av (aD z5) 1 3 1 [vN ls.length],av none 0 3 1 [],av (aD z2) 1 118 7 [(.int .u8 0),(vI M.vars),(vI M.start),(.slice kM.nb M.next.length kM.nc),(.slice kM.fb M.a7.length kM.fc),nS,(.bool false)],dI 56 4 3 M kM,oI z1 72 x.cl] _ (.dP [av (aD z6) 1 3 1 [vN ls.length]] _ (.k (.k (.d (.k .z))))))),z3,oK,(ks++[(⟨kM,none,0⟩:LK)]),(aD z5),1,(aD z6),1,F,F,by simp[n6],hO⟩
theorem Ge (w:World) [dA prog w] (cb:Nat) (eb:Option Addr) (en ec vs B:Nat) (e7:Sl w (aD cb) [.slice eb en ec,vI (vs:Int),vI (B:Int)]) (gz:vs≤6) (iY:1≤B) (hB:B≤4096) (e:List eC) (hE:Sl w eb (bQ e)) (kw:en=e.length) (i:Nat) (ob:Nat) (fv:Value) (a:Rx) (j:Nat) (hp:e[i]? =some ⟨9,0,0,(j:Int),0⟩) (ZY: ∀ls,aU vs (Rx.ahead a) ls=⟨ls++[⟨9,minOf vs (iA (fx a) fun _=>true),[],false⟩],[ls.length],[ls.length]⟩) (Z0: ∀(w1:World) [dA prog w1],Inv w [] w1→dK prog w1 (.iface 163 (.agg #[])) 72 [(dJ (aD cb) 0),vN j] [] (tE vs B a) (¬kv vs a B)) (lb:Option Addr) (lc:Nat) (ls:List Lf) (ks:List LK) (n6:ks.length=ls.length) (hl:ls.length+(Rx.ahead a).lv≤64) (Kz:s6 ls (Rx.ahead a)):
  dK prog w (.iface 163 (.agg #[])) 73 [(.pointer (aD ob)),vN i] ([oI ob 114 [(dJ (aD cb) 0),(.slice lb ls.length lc),fv],av lb lc 118 7 (dp ls ks)]++(cg 3 (eY ls ks)++gK 56 4 3 ls ks)) (fun v O'=> ∃uS uT qk pt pu zz zE,v=.tuple #[(.slice pt (((aU vs (Rx.ahead a) ls).fi).length) pu),(.slice zz (((aU vs (Rx.ahead a) ls).la).length) zE)]∧O'=[oI ob 114 [(dJ (aD cb) 0),(.slice uS (((aU vs (Rx.ahead a) ls).ls).length) uT),fv],av uS uT 118 7 (dp ((aU vs (Rx.ahead a) ls).ls) qk),av pt pu 3 1 (bW ((aU vs (Rx.ahead a) ls).fi)),av zz zE 3 1 (bW ((aU vs (Rx.ahead a) ls).la))]++(cg 3 (eY ((aU vs (Rx.ahead a) ls).ls) qk)++gK 56 4 3 ((aU vs (Rx.ahead a) ls).ls) qk)∧qk.length=(aU vs (Rx.ahead a) ls).ls.length∧okB vs (Rx.ahead a) B) (¬okB vs (Rx.ahead a) B):=by
 refine dS func73 F ntmps73 F ?_
 obtain⟨hi,_⟩:=iP hp
 simp only[ZY]
 refine aj (ak F (ak F (ah (aj (ai F (ae a_ (ae (bt gC pf) (ae (bq 0 wV) (ae a_ (ae (cz lM F il F F (aK e7) (by first|omega|(simp;done)|(simp;omega)|(simp_all;done)|(simp_all;omega))) (ae (cS dR F F (aK e7) F) (ai F (ae (eA (i:=i) dR cJ F F (aK hE) (by omega) (by rw[cB];omega)) (ae (eW (vs:=[v8 9,v8 0,v8 0,vN j,vI 0]) dt F cJ F F (bu _) (aK hE) (fW hp)) (aq (bs cJ (fun z1=>?_)))))))))))))))))
 refine aq (cq (vs:=[v8 9,v8 0,v8 0,vN j,vI 0]) 0 cJ ?_)
 refine ah (aR (aj (ae (bt dt eD) (ae (bq 0 gH) (ah (aV (aj (ae bK (ae (aC cx (am (by decide))) (ah (a8 (aj (ae bK (ae (aC cx (am (by decide))) ?_))))))))))))))
 refine ah (a8 (aj (ae bK (ae (aC cx (ax (by decide))) (ah ?_)))))
 refine b_ ?_
 refine T.ds [oI z1 72 [v8 9,v8 0,v8 0,vN j,vI 0],oI ob 114 [(dJ (aD cb) 0),(.slice lb ls.length lc),fv]] [(0,0),(1,0),(2,0),(3,0),(4,0),(5,0),(6,0),(7,0),(8,0),(9,0),(10,0),(11,0),(12,0),(13,0),(14,0),(15,0),(16,0),(18,0),(19,0),(20,0),(21,0),(17,1),(22,1),(23,1),(24,0),(25,1),(26,1),(27,0),(28,0),(29,2)] (by exact Sub.k (.k .z)) ?_
 refine aw F aI (aw F aI (aw F a_ (aw F (bt gC gE) (aw F (bq 1 fH) (aw F (bt dt eD) (aw F (bq 0 gH) (aw F aI (aw F a_ (aw F (bt gC pf) (aw F (bq 1 wV) (aw F aI (aw F a_ (aw F (bt gC pf) (aw F (bq 1 wV) (aw F (bt dt bF) (aw F (bq 0 ey) (aw F aI (aw F a_ (aw F (bt gC pf) (aw F (bq 1 wV) ?_))))))))))))))))))))
 have D4:=fun(w1:World) (hI:Inv w ([oI z1 72 [v8 9,v8 0,v8 0,vN j,vI 0],oI ob 114 [(dJ (aD cb) 0),(.slice lb ls.length lc),fv],av lb lc 118 7 (dp ls ks)]++(cg 3 (eY ls ks)++gK 56 4 3 ls ks)) w1)=>(haveI:=ef hI;Z0 w1 hI.lK)
 refine iD F F (e8 qa (dK.pure D4) F (fun z _=>⟨F,fun h9=>z h9.1⟩) ?_)
 clear D4
 rintro vr O' ⟨N,rfl,MA,kA,rfl,rfl,qZ,hO⟩
 refine⟨by exact Sub.d (.k (.k .z)),?_⟩
 have AM:=gY qZ hB
 have SM:=fun(w1:World) (hI:Inv w ([dI 56 4 3 MA kA,oI z1 72 [v8 9,v8 0,v8 0,vN j,vI 0],oI ob 114 [(dJ (aD cb) 0),(.slice lb ls.length lc),fv],av lb lc 118 7 (dp ls ks)]++(cg 3 (eY ls ks)++gK 56 4 3 ls ks)) w1)=>(haveI:=ef hI;Pq w1 cb eb en ec vs B (hI.sl e7) gz)
 refine cH F F (bm F6 (aX SM) ?_)
 clear SM
 rintro vr O' ⟨N,rfl,kS,rfl,rfl⟩
 refine⟨by exact Sub.d (.d (.k (.k .z))),?_⟩
 have SN:=fun(w1:World) (hI:Inv w ([dI 56 4 3 (fP (vs:Int) true) kS,dI 56 4 3 MA kA,oI z1 72 [v8 9,v8 0,v8 0,vN j,vI 0],oI ob 114 [(dJ (aD cb) 0),(.slice lb ls.length lc),fv],av lb lc 118 7 (dp ls ks)]++(cg 3 (eY ls ks)++gK 56 4 3 ls ks)) w1)=>(haveI:=ef hI;UR w1 cb eb en ec vs B (hI.sl e7) gz iY hB MA kA (hI.at (k:=kA) (mG 1)) qZ.valid qZ.vars (fP (vs:Int) true) kS (hI.at (k:=kS) (mG 0)) (eV gz).valid (by rw[qZ.vars];rfl))
 refine iD F F (e8 F2 (dK.pure SN) F (fun z _=>⟨F,fun h9=>z (by rw[AM];exact h9.2)⟩) ?_)
 clear SN
 rintro vr O' ⟨N,rfl,M,kM,rfl,rfl,U4,U5⟩
 refine⟨by exact Sub.d (.d (.d (.k (.k .z)))),?_⟩
 have eM:M=minOf vs (iA (fx a) fun _=>true):=gY (U4.to fun w9 h9=>pT (fun u hu=>qZ.iH u hu) (fun u hu=>(eV gz).iH u hu) h9) hB
 refine aw F (cT (cs:=[v8 9,(vI M.vars),(vI M.start),(.slice kM.nb M.next.length kM.nc),(.slice kM.fb M.a7.length kM.fc),nS,(.bool false)]) B2 fj (by kernel_rfl)) ?_
 refine cH F F (cK (m:=1) (parts:=[(0,_)]) (cs:=[v8 9,(vI M.vars),(vI M.start),(.slice kM.nb M.next.length kM.nc),(.slice kM.fb M.a7.length kM.fc),nS,(.bool false)]) fH fj (by decide) (by kernel_rfl) F (fun z2=>⟨by exact Sub.d (.d (.d (.d (.k (.k .z))))),?_⟩))
 refine cH F F (dq 6 fH fH fj F F F F (by rw[eg n6]) (by decide) (Src.row (j:=0) F (by simp)) (by simp[fF]) (by omega) (by decide) (by decide) (fun z3 oK=>⟨by exact Sub.d (.d (.d (.d (.k (.k .z))))),?_⟩))
 refine aw F a_ (aw F (bt gC gE) ?_)
 refine cy F F (cq (vs:=[(.slice z3 (ls.length+1) oK)]) 5 gE ?_)
 refine cA ?_
 refine aj (ai F (ae a_ (ae (bt gC gE) (ae (bq 5 fH) (ae (cQ fH) (ae (bL (fI F F (by omega)) (v':=vN ls.length) (au (Value.int .i64) (by omega))) (ak F (ah (aR (T.fq 3 1 ?_))))))))))
 refine bg (ai F (aq (cR (v:=vN ls.length) cL bF F F F (fun z5=>?_))))
 refine ai F (aq (cR (v:=vN ls.length) cL bF F F F (fun z6=>?_)))
 refine ak F (ak F (ah (aM (aB ?_))))
 refine de (.slice (aD z5) 1 1) (.slice (aD z6) 1 1) results73 F F ?_
 exact⟨[oI ob 114 [(dJ (aD cb) 0),(.slice z3 ((ls++[(⟨9,minOf vs (iA (fx a) fun _=>true),[],false⟩:Lf)]).length) oK),fv],av z3 oK 118 7 (dp (ls++[(⟨9,minOf vs (iA (fx a) fun _=>true),[],false⟩:Lf)]) (ks++[(⟨kM,none,0⟩:LK)])),av (aD z5) 1 3 1 (bW [ls.length]),av (aD z6) 1 3 1 (bW [ls.length])]++(cg 3 (eY (ls++[(⟨9,minOf vs (iA (fx a) fun _=>true),[],false⟩:Lf)]) (ks++[(⟨kM,none,0⟩:LK)]))++gK 56 4 3 (ls++[(⟨9,minOf vs (iA (fx a) fun _=>true),[],false⟩:Lf)]) (ks++[(⟨kM,none,0⟩:LK)])),by
   rw[s8 n6,s9,vo n6,ri n6,aP,←eM]
   exact rj [oI ob 114 [(dJ (aD cb) 0),(.slice z3 (ls.length+1) oK),fv],av z3 oK 118 7 ((dp ls ks)++[v8 9,(vI M.vars),(vI M.start),(.slice kM.nb M.next.length kM.nc),(.slice kM.fb M.a7.length kM.fc),nS,(.bool false)]),av (aD z5) 1 3 1 [vN ls.length],av (aD z6) 1 3 1 [vN ls.length]] [av (aD z6) 1 3 1 [vN ls.length],av (aD z5) 1 3 1 [vN ls.length],av none 0 3 1 [],av (aD z2) 1 118 7 [v8 9,(vI M.vars),(vI M.start),(.slice kM.nb M.next.length kM.nc),(.slice kM.fb M.a7.length kM.fc),nS,(.bool false)],dI 56 4 3 M kM,dI 56 4 3 (fP (vs:Int) true) kS,dI 56 4 3 MA kA,oI z1 72 [v8 9,v8 0,v8 0,vN j,vI 0],oI ob 114 [(dJ (aD cb) 0),(.slice z3 (ls.length+1) oK),fv],av z3 oK 118 7 ((dp ls ks)++[v8 9,(vI M.vars),(vI M.start),(.slice kM.nb M.next.length kM.nc),(.slice kM.fb M.a7.length kM.fc),nS,(.bool false)])] _ _ _ _ (by exact Sub.dP [av (aD z6) 1 3 1 [vN ls.length],av (aD z5) 1 3 1 [vN ls.length],av none 0 3 1 [],av (aD z2) 1 118 7 [v8 9,(vI M.vars),(vI M.start),(.slice kM.nb M.next.length kM.nc),(.slice kM.fb M.a7.length kM.fc),nS,(.bool false)],dI 56 4 3 M kM,dI 56 4 3 (fP (vs:Int) true) kS,dI 56 4 3 MA kA,oI z1 72 [v8 9,v8 0,v8 0,vN j,vI 0]] _ (.dP [av (aD z6) 1 3 1 [vN ls.length],av (aD z5) 1 3 1 [vN ls.length],av none 0 3 1 [],av (aD z2) 1 118 7 [v8 9,(vI M.vars),(vI M.start),(.slice kM.nb M.next.length kM.nc),(.slice kM.fb M.a7.length kM.fc),nS,(.bool false)],dI 56 4 3 M kM,dI 56 4 3 (fP (vs:Int) true) kS,dI 56 4 3 MA kA,oI z1 72 [v8 9,v8 0,v8 0,vN j,vI 0]] _ (.dP [av (aD z6) 1 3 1 [vN ls.length]] _ (.k (.k (.d (.k .z))))))),z3,oK,(ks++[(⟨kM,none,0⟩:LK)]),(aD z5),1,(aD z6),1,F,F,by simp[n6],⟨hO,by rw[←AM];exact U5⟩⟩
theorem Nc (w:World) [dA prog w] (cb:Nat) (eb:Option Addr) (en ec vs B:Nat) (e7:Sl w (aD cb) [.slice eb en ec,vI (vs:Int),vI (B:Int)]) (gz:vs≤6) (iY:1≤B) (hB:B≤4096) (e:List eC) (hE:Sl w eb (bQ e)) (kw:en=e.length) (i:Nat) (ob:Nat) (fv:Value) (a b:Rx) (j k:Nat) (hp:e[i]? =some ⟨4,0,0,(j:Int),(k:Int)⟩) (hA:nT w cb vs B ob fv a j) (hB:nT w cb vs B ob fv b k) (lb:Option Addr) (lc:Nat) (ls:List Lf) (ks:List LK) (n6:ks.length=ls.length) (hl:ls.length+(Rx.ie a b).lv≤64) (Kz:s6 ls (Rx.ie a b)):
  dK prog w (.iface 163 (.agg #[])) 73 [(.pointer (aD ob)),vN i] ([oI ob 114 [(dJ (aD cb) 0),(.slice lb ls.length lc),fv],av lb lc 118 7 (dp ls ks)]++(cg 3 (eY ls ks)++gK 56 4 3 ls ks)) (fun v O'=> ∃uS uT qk pt pu zz zE,v=.tuple #[(.slice pt (((aU vs (Rx.ie a b) ls).fi).length) pu),(.slice zz (((aU vs (Rx.ie a b) ls).la).length) zE)]∧O'=[oI ob 114 [(dJ (aD cb) 0),(.slice uS (((aU vs (Rx.ie a b) ls).ls).length) uT),fv],av uS uT 118 7 (dp ((aU vs (Rx.ie a b) ls).ls) qk),av pt pu 3 1 (bW ((aU vs (Rx.ie a b) ls).fi)),av zz zE 3 1 (bW ((aU vs (Rx.ie a b) ls).la))]++(cg 3 (eY ((aU vs (Rx.ie a b) ls).ls) qk)++gK 56 4 3 ((aU vs (Rx.ie a b) ls).ls) qk)∧qk.length=(aU vs (Rx.ie a b) ls).ls.length∧okB vs (Rx.ie a b) B) (¬okB vs (Rx.ie a b) B):=by
 refine dS func73 F ntmps73 F ?_
 obtain⟨hi,_⟩:=iP hp
 have Vy:=gu vs a ls
 have adl:=gu vs b (aU vs a ls).ls
 have Z1:=ep vs a ls
 have Z2:=ep vs b (aU vs a ls).ls
 have adm:a.lv+b.lv≤64:=by simp only[Rx.lv]at hl;omega
 simp only[Rx.lv]at hl
 refine aj (ak F (ak F (ah (aj (ai F (ae a_ (ae (bt gC pf) (ae (bq 0 wV) (ae a_ (ae (cz lM F il F F (aK e7) (by first|omega|(simp;done)|(simp;omega)|(simp_all;done)|(simp_all;omega))) (ae (cS dR F F (aK e7) F) (ai F (ae (eA (i:=i) dR cJ F F (aK hE) (by omega) (by rw[cB];omega)) (ae (eW (vs:=[v8 4,v8 0,v8 0,vN j,vN k]) dt F cJ F F (bu _) (aK hE) (fW hp)) (aq (bs cJ (fun z1=>?_)))))))))))))))))
 refine aq (cq (vs:=[v8 4,v8 0,v8 0,vN j,vN k]) 0 cJ ?_)
 refine ah (aR (aj (ae (bt dt eD) (ae (bq 0 gH) (ah (aV (aj (ae bK (ae (aC cx (ax (by decide))) (ah ?_))))))))))
 refine b_ ?_
 refine aj (ai F (ae (bt dt bF) (ae (bq 0 ey) ?_)))
 let eh:Lx.Item:=oI z1 72 [v8 4,v8 0,v8 0,vN j,vN k]
 have MH:=(hA.frame [eh] (O:=[eh,oI ob 114 [(dJ (aD cb) 0),(.slice lb ls.length lc),fv],av lb lc 118 7 (dp ls ks)]) lb lc ls ks n6 (by first|omega|(rw[ep];omega)) (s6.left Kz) (by exact Sub.dP [eh] _ (.dP [eh] _ (.k .z))))
 refine eJ F (e8 D7 MH F (fun z _=>⟨F,fun h9=>z h9.1⟩) ?_)
 clear MH
 rintro vr O' ⟨Vz,VA,Z3,Pd,Pe,SO,SP,rfl,rfl,hkA,Jx⟩
 refine ai F (ae (bI (vs:=_)) (ae (bI (vs:=_)) (ak F (ak F (ah (aj (ai F (ae (bt dt bF) (ae (bq 4 ey) ?_)))))))))
 let fh:Lx.Item:=av Pd Pe 3 1 (bW ((aU vs a ls).fi))
 let jy:Lx.Item:=av SO SP 3 1 (bW ((aU vs a ls).la))
 have MS:=(hB.frame [fh,jy,eh] (O:=[oI ob 114 [(dJ (aD cb) 0),(.slice Vz (((aU vs a ls).ls).length) VA),fv],av Vz VA 118 7 (dp ((aU vs a ls).ls) Z3),fh,jy,eh]) Vz VA ((aU vs a ls).ls) Z3 hkA (by first|omega|(rw[ep];omega)) (s6.right Kz) (by exact Sub.rf))
 refine eJ F (e8 D7 MS F (fun z _=>⟨F,fun h9=>z h9.2⟩) ?_)
 clear MS
 rintro vr O' ⟨AQ,AR,QU,Z4,Z5,SQ,SS,rfl,rfl,Qw,Jy⟩
 refine ai F (ae (bI (vs:=_)) (ae (bI (vs:=_)) (ak F (ak F (ah (aR (aj (ai F (ae (cQ cL) (ai F (ah (aV ?_))))))))))))
 let oE:Lx.Item:=av Z4 Z5 3 1 (bW ((aU vs b ((aU vs a ls).ls)).fi))
 let jN:Lx.Item:=av SQ SS 3 1 (bW ((aU vs b ((aU vs a ls).ls)).la))
 refine dc (O':=[oI ob 114 [(dJ (aD cb) 0),(.slice AQ (((aU vs b ((aU vs a ls).ls)).ls).length) AR),fv],av AQ AR 118 7 (dp ((aU vs b ((aU vs a ls).ls)).ls) QU),oE,jN,fh,jy,eh]++(cg 3 (eY ((aU vs b ((aU vs a ls).ls)).ls) QU)++gK 56 4 3 ((aU vs b ((aU vs a ls).ls)).ls) QU)) (by exact Sub.rf) ?_
 refine dZ (fun(i9:Nat) ρ O=> ∃(l3:List Lf) (k3:List LK),O=([oI ob 114 [(dJ (aD cb) 0),(.slice AQ l3.length AR),fv],av AQ AR 118 7 (dp l3 k3),oE,jN,fh,jy,eh]++(cg 3 (eY l3 k3)++gK 56 4 3 l3 k3))∧i9≤(aU vs a ls).la.length∧l3=km ((aU vs b ((aU vs a ls).ls)).ls) ((aU vs a ls).la.take i9) ((aU vs b ((aU vs a ls).ls)).fi)∧k3.length=l3.length∧df [(0,(.pointer (aD ob))),(1,vN i),(4,nS),(5,nS),(6,(.pointer (aD z1))),(7,(.slice Pd ((aU vs a ls).fi.length) Pe)),(8,(.slice SO ((aU vs a ls).la.length) SP)),(9,(.slice Z4 ((aU vs b ((aU vs a ls).ls)).fi.length) Z5)),(10,(.slice SQ ((aU vs b ((aU vs a ls).ls)).la.length) SS)),(46,.bool true),(62,(.slice SO ((aU vs a ls).la.length) SP)),(63,vI ((aU vs a ls).la.length:Int)),(64,vN i9)] ρ) (fun i9=>(aU vs a ls).la.length-i9) 0 ?_ ?_
 ·exact⟨(aU vs b ((aU vs a ls).ls)).ls,QU,F,bl _,F,Qw,(.of F)⟩
 rintro i9 ρ O ⟨l3,k3,rfl,K3,Pc,ul,hH⟩
 obtain⟨gA,rfl⟩:=hH.elim
 clear hH
 refine aj (ae cU (ah (aR (aZ F (fun hc=>?_) (fun hc=>?_)))))
 ·have D8:i9<(aU vs a ls).la.length:=by omega
  obtain⟨kk,Gf⟩: ∃k,k=(aU vs a ls).la[i9]:=⟨_,F⟩
  have hn3:l3.length=(aU vs b ((aU vs a ls).ls)).ls.length:=by rw[Pc,rR]
  have AP:kk<l3.length:=by
   have:=(Vy.2.1 _ (aN D8)).2
   rw[hn3,Z2,Z1];rw[Gf];omega
  have ah0:(lf l3 kk).fo.length≤100000:=by
   subst Pc
   exact Gg Kz (by rw[cw];have:=Vy.2.2.2;omega) AP
  refine aL (aR (aV (aj (ae (dX (i:=i9) cL bF F F (dT (mG 5)) D8 (by rw[ar];exact D8)) (ae (cS ey F F (dT (mG 5)) (show(bW (aU vs a ls).la)[i9]? =some (vN kk) by rw[Gf];exact iw D8)) (ak F (ah ?_)))))))
  let fe:Lx.Item:=oI ob 114 [(dJ (aD cb) 0),(.slice AQ l3.length AR),fv]
  let fA:Lx.Item:=oI z1 72 [v8 4,v8 0,v8 0,vN j,vN k]
  let gP:Lx.Item:=av Pd Pe 3 1 (bW ((aU vs a ls).fi))
  let iI:Lx.Item:=av SO SP 3 1 (bW ((aU vs a ls).la))
  let lV:Lx.Item:=av Z4 Z5 3 1 (bW ((aU vs b ((aU vs a ls).ls)).fi))
  let jX:Lx.Item:=av SQ SS 3 1 (bW ((aU vs b ((aU vs a ls).ls)).la))
  refine dc (O':=[av ((lk k3 kk).b) ((lk k3 kk).c) 3 1 (bW (lf l3 kk).fo),fe,av AQ AR 118 7 (dp l3 k3),lV,jX,gP,iI,fA]++(cg 3 ((eY l3 k3).eraseIdx kk)++gK 56 4 3 l3 k3)) (by
   have h9:=Nd (E:=3) (D9 ul AP) [oI ob 114 [(dJ (aD cb) 0),(.slice AQ l3.length AR),fv],av AQ AR 118 7 (dp l3 k3),av Z4 Z5 3 1 (bW ((aU vs b ((aU vs a ls).ls)).fi)),av SQ SS 3 1 (bW ((aU vs b ((aU vs a ls).ls)).la)),av Pd Pe 3 1 (bW ((aU vs a ls).fi)),av SO SP 3 1 (bW ((aU vs a ls).la)),oI z1 72 [v8 4,v8 0,v8 0,vN j,vN k]] (gK 56 4 3 l3 k3)
   rw[show Rec.qt 3 ⟨(lk k3 kk).b,(lk k3 kk).c,(lf l3 kk).fo.map fun y:Nat=>(y:Int)⟩=av ((lk k3 kk).b) ((lk k3 kk).c) 3 1 (bW (lf l3 kk).fo)from au (av _ _ 3 1) (gr _)]at h9
   exact h9) ?_
  refine T.ds [fe,av AQ AR 118 7 (dp l3 k3),fA] [(0,0),(1,0),(2,0),(3,0),(4,0),(5,0),(6,0),(7,0),(8,0),(9,0),(10,0),(11,0),(12,0),(13,0),(14,1),(15,0),(16,0),(17,2)] (by exact Sub.d (.k (.k (.d (.d (.d (.d (.k .z)))))))) ?_
  refine aw F aI (aw F a_ (aw F (bt gC gE) (aw F (bq 0 fH) (aw F aI (aw F aI (aw F a_ (aw F (bt gC gE) (aw F (bq 0 fH) (aw F aI (aw F (eA (i:=kk) fH fj F F (dT (mG 1)) AP (by rw[eg ul];omega)) (aw F (cz iK F cZ F F (dT (mG 1)) (by rw[eg ul];omega)) (aw F (cS cL F F (dT (mG 1)) (q8 ul AP 5 F F)) (aw F aI ?_)))))))))))))
  refine cH F F (dq 0 cL cL bF F F F F (by rw[ar];omega) (by decide) (Src.row (j:=3) F (by rw[ar];omega)) (by simp[fF]) (by omega) (by decide) (by decide) (fun z2 vd=>⟨by exact Sub.d (.k (.k (.d (.d (.d (.d (.k .z))))))),?_⟩))
  refine aw F (eA (i:=kk) fH fj F F (dT (mG 1)) AP (by rw[eg ul];omega)) (aw F (cz iK F cZ F F (dT (mG 1)) (by rw[eg ul];omega)) ?_)
  let pv:Value:=(.slice z2 (((lf l3 kk).fo.length)+((aU vs b ((aU vs a ls).ls)).fi.length)) vd)
  refine cy F F (n7 (j:=(kk*7+5)) (v:=pv) (vs:=[pv]) (cs:=dp l3 k3) 2 cZ F F F F F (by simp) F (by rw[eg ul];simp;omega) ?_)
  refine eR (O':=([av z2 vd 3 1 ((bW (lf l3 kk).fo)++(bW ((aU vs b ((aU vs a ls).ls)).fi))),fe,av AQ AR 118 7 (dp (l3.set kk {lf l3 kk with fo:=(lf l3 kk).fo++(aU vs b ((aU vs a ls).ls)).fi}) (k3.set kk {lk k3 kk with b:=z2,c:=vd})),lV,jX,gP,iI,fA]++(cg 3 ((eY l3 k3).eraseIdx kk)++gK 56 4 3 l3 k3))) (by rw[show eZ (dp l3 k3) (kk*7+5) [(.slice z2 (((lf l3 kk).fo.length)+((aU vs b ((aU vs a ls).ls)).fi.length)) vd)]=dp (l3.set kk {lf l3 kk with fo:=(lf l3 kk).fo++(aU vs b ((aU vs a ls).ls)).fi}) (k3.set kk {lk k3 kk with b:=z2,c:=vd})from(by rw[Gh ul AP,aP];simp[eZ])];exact ck (aY _)) ?_
  refine cA ?_
  refine bg (ae (dr (a:=i9) (b:=1) F F (by omega)) (ai F (ah ?_)))
  exact⟨i9+1,by omega,[oI ob 114 [(dJ (aD cb) 0),(.slice AQ ((l3.set kk {lf l3 kk with fo:=(lf l3 kk).fo++(aU vs b ((aU vs a ls).ls)).fi}).length) AR),fv],av AQ AR 118 7 (dp (l3.set kk {lf l3 kk with fo:=(lf l3 kk).fo++(aU vs b ((aU vs a ls).ls)).fi}) (k3.set kk {lk k3 kk with b:=z2,c:=vd})),lV,jX,gP,iI,fA]++(cg 3 (eY (l3.set kk {lf l3 kk with fo:=(lf l3 kk).fo++(aU vs b ((aU vs a ls).ls)).fi}) (k3.set kk {lk k3 kk with b:=z2,c:=vd}))++gK 56 4 3 (l3.set kk {lf l3 kk with fo:=(lf l3 kk).fo++(aU vs b ((aU vs a ls).ls)).fi}) (k3.set kk {lk k3 kk with b:=z2,c:=vd})),by
   rw[JF ul AP,Nf ul AP,eE]
   refine Sub.trans (QV (by rw[JG ul];exact AP) [fe,av AQ AR 118 7 (dp (l3.set kk {lf l3 kk with fo:=(lf l3 kk).fo++(aU vs b ((aU vs a ls).ls)).fi}) (k3.set kk {lk k3 kk with b:=z2,c:=vd})),lV,jX,gP,iI,fA] (gK 56 4 3 l3 k3) ⟨z2,vd,((lf l3 kk).fo++(aU vs b ((aU vs a ls).ls)).fi).map fun y:Nat=>(y:Int)⟩) ?_
   rw[show Rec.qt 3 ⟨z2,vd,((lf l3 kk).fo++(aU vs b ((aU vs a ls).ls)).fi).map fun y:Nat=>(y:Int)⟩=av z2 vd 3 1 ((bW (lf l3 kk).fo)++(bW ((aU vs b ((aU vs a ls).ls)).fi)))from au (av _ _ 3 1) ((gr _).trans bj)]
   exact(by exact Sub.rf),(l3.set kk {lf l3 kk with fo:=(lf l3 kk).fo++(aU vs b ((aU vs a ls).ls)).fi}),(k3.set kk {lk k3 kk with b:=z2,c:=vd}),F,by omega,by rw[Gi D8,←Gf,←Pc],by rw[eE,eE];exact ul,(.of F)⟩
 have afN: ¬i9<(aU vs a ls).la.length:=by omega
 refine cG ?_
 refine aj (ai F (ai F (ak F (ak F (ah (aM (aB ?_)))))))
 refine de (.slice Pd ((aU vs a ls).fi.length) Pe) (.slice SQ ((aU vs b ((aU vs a ls).ls)).la.length) SS) results73 F F ?_
 have e3:l3=(aU vs (Rx.ie a b) ls).ls:=by rw[Pc,br (by omega)];rfl
 let kn:Lx.Item:=av SQ SS 3 1 (bW ((aU vs b ((aU vs a ls).ls)).la))
 exact⟨[oI ob 114 [(dJ (aD cb) 0),(.slice AQ l3.length AR),fv],av AQ AR 118 7 (dp l3 k3),av Pd Pe 3 1 (bW ((aU vs a ls).fi)),kn]++(cg 3 (eY l3 k3)++gK 56 4 3 l3 k3),(by exact Sub.k (.k (.d (.dP [kn] _ (.k (.d (.d .rf))))))),AQ,AR,k3,Pd,Pe,SQ,SS,F,by rw[←e3];rfl,by rw[←e3];exact ul,Jx,Jy⟩
structure VB (cb:Nat) (eb:Option Addr) (en ec vs B:Nat) (e:List eC):Prop where
 pl:U6 cb eb en ec vs B e
 iu: ∀(w:World) [dA prog w],vs≤6→1≤B→B≤4096→Sl w (aD cb) [.slice eb en ec,vI (vs:Int),vI (B:Int)]→Sl w eb (bQ e)→ ∀(ob:Nat) (fv:Value) (i:Nat) (a b:Rx) (j k:Nat),e[i]? =some ⟨5,0,0,(j:Int),(k:Int)⟩→nT w cb vs B ob fv a j→nT w cb vs B ob fv b k→nT w cb vs B ob fv (.iu a b) i
 behind: ∀(w:World) [dA prog w],vs≤6→1≤B→B≤4096→Sl w (aD cb) [.slice eb en ec,vI (vs:Int),vI (B:Int)]→Sl w eb (bQ e)→ ∀(ob:Nat) (fv:Value) (i:Nat) (a:Rx) (j:Nat),e[i]? =some ⟨10,0,0,(j:Int),0⟩→(∀(w1:World) [dA prog w1],Inv w [] w1→dK prog w1 (.iface 163 (.agg #[])) 72 [(dJ (aD cb) 0),vN j] [] (tE vs B a) (¬kv vs a B))→nT w cb vs B ob fv (.behind a) i
theorem uk {cb:Nat} {eb:Option Addr} {en ec vs B:Nat} {e:List eC} (h:F3 e=true):VB cb eb en ec vs B e:=
 ⟨BU h,fun _ _ _ _ _ _ _ _ _ i _ _ _ _ hp=>absurd F (np h hp).2.1,fun _ _ _ _ _ _ _ _ _ i _ _ hp=>absurd F (np h hp).2.2.2.2⟩
theorem yz {cb:Nat} {eb:Option Addr} {en ec vs B:Nat} {e:List eC} (B3:VB cb eb en ec vs B e) (gz:vs≤6) (iY:1≤B) (hB:B≤4096) (kw:en=e.length) (ob:Nat) (fv:Value): ∀(t:Rx) (hw:t.wf=true) (i:Nat),ut e t i→ ∀(w:World) [dA prog w],Sl w (aD cb) [.slice eb en ec,vI (vs:Int),vI (B:Int)]→Sl w eb (bQ e)→nT w cb vs B ob fv t i
 | .none,hw,i,hh,w,_,e7,hE=>nq w cb eb en ec vs B e7 gz iY hB e hE kw i ob fv .none ⟨1,0,0,0,0⟩ hh (by simp) (by simp) (by simp) (by simp) F (fun _=>rfl) F (fun w1 _ hI=>jZ B3.pl gz iY hB kw .none hw _ hh w1 (hI.sl e7) (hI.sl hE))
 | .empty,hw,i,hh,w,_,e7,hE=>nq w cb eb en ec vs B e7 gz iY hB e hE kw i ob fv .empty ⟨2,0,0,0,0⟩ hh (by simp) (by simp) (by simp) (by simp) F (fun _=>rfl) F (fun w1 _ hI=>jZ B3.pl gz iY hB kw .empty hw _ hh w1 (hI.sl e7) (hI.sl hE))
 | .letter p n,hw,i,hh,w,_,e7,hE=>nq w cb eb en ec vs B e7 gz iY hB e hE kw i ob fv (.letter p n) ⟨3,p,n,0,0⟩ hh.1 (by simp) (by simp) (by simp) (by simp) F (fun _=>rfl) F (fun w1 _ hI=>jZ B3.pl gz iY hB kw (.letter p n) hw _ hh w1 (hI.sl e7) (hI.sl hE))
 | .and a b,hw,i,hh,w,_,e7,hE=>by
  obtain⟨j,k,h,ha,hb⟩:=id hh
  exact nq w cb eb en ec vs B e7 gz iY hB e hE kw i ob fv (.and a b) ⟨6,0,0,(j:Int),(k:Int)⟩ h (by simp) (by simp) (by simp) (by simp) F (fun _=>rfl) F (fun w1 _ hI=>jZ B3.pl gz iY hB kw (.and a b) hw _ hh w1 (hI.sl e7) (hI.sl hE))
 | .not a,hw,i,hh,w,_,e7,hE=>by
  obtain⟨j,h,ha⟩:=id hh
  exact nq w cb eb en ec vs B e7 gz iY hB e hE kw i ob fv (.not a) ⟨7,0,0,(j:Int),0⟩ h (by simp) (by simp) (by simp) (by simp) F (fun _=>rfl) F (fun w1 _ hI=>jZ B3.pl gz iY hB kw (.not a) hw _ hh w1 (hI.sl e7) (hI.sl hE))
 | .star a,hw,i,hh,w,_,e7,hE=>by
  obtain⟨j,h,ha⟩:=id hh
  exact nq w cb eb en ec vs B e7 gz iY hB e hE kw i ob fv (.star a) ⟨8,0,0,(j:Int),0⟩ h (by simp) (by simp) (by simp) (by simp) F (fun _=>rfl) F (fun w1 _ hI=>jZ B3.pl gz iY hB kw (.star a) hw _ hh w1 (hI.sl e7) (hI.sl hE))
 | .ie a b,hw,i,⟨j,k,h,ha,hb⟩,w,_,e7,hE=>Nc w cb eb en ec vs B e7 gz iY hB e hE kw i ob fv a b j k h (yz B3 gz iY hB kw ob fv a (by simp only[Rx.wf,ay]at hw;exact hw.1) _ ha w e7 hE) (yz B3 gz iY hB kw ob fv b (by simp only[Rx.wf,ay]at hw;exact hw.2) _ hb w e7 hE)
 | .iu a b,hw,i,⟨j,k,h,ha,hb⟩,w,_,e7,hE=>B3.iu w gz iY hB e7 hE ob fv i a b j k h (yz B3 gz iY hB kw ob fv a (by simp only[Rx.wf,ay]at hw;exact hw.1) _ ha w e7 hE) (yz B3 gz iY hB kw ob fv b (by simp only[Rx.wf,ay]at hw;exact hw.2) _ hb w e7 hE)
 | .ahead a,hw,i,⟨j,h,ha⟩,w,_,e7,hE=>Ge w cb eb en ec vs B e7 gz iY hB e hE kw i ob fv a j h (fun _=>rfl) (fun w1 _ hI=>jZ B3.pl gz iY hB kw a hw _ ha w1 (hI.sl e7) (hI.sl hE))
 | .behind a,hw,i,⟨j,h,ha⟩,w,_,e7,hE=>B3.behind w gz iY hB e7 hE ob fv i a j h (fun w1 _ hI=>jZ B3.pl gz iY hB kw a hw _ ha w1 (hI.sl e7) (hI.sl hE))
theorem FV:ExP 74:=ExB.2
theorem Nh (w:World) [dA prog w] (y:eC):
  cn prog 71 [y.ag] w fun v N=>v=.bool (iR y)∧N=[]:=by
 refine aE func71 F ntmps71 F ?_
 refine aj (aq (dE (cs:=y.cl) (fun z1=>?_)))
 refine ak F (ah (aj (ae (bt dt eD) (ae (bq 0 gH) (ae bK ?_)))))
 by_cases h9:((y.op:Nat):Int)=9
 ·refine ae (aC aI (ax h9)) ?_
  refine aQ (aQ (aQ (ae cm (ak F (ah (aM (aB ?_)))))))
  refine aT (.bool true) results71 F ?_
  exact⟨[],Sub.z,au Value.bool (by unfold iR;rw[ax (show y.op=9 by omega),Bool.true_or]),F⟩
 refine ae (aC aI (am h9)) (aF (bt dt eD) (aF (bq 0 gH) (aF bK (ae bX (ak F (ah (aM (aB ?_))))))))
 refine aT (.bool (decide (((y.op:Nat):Int)=10))) results71 F ?_
 exact⟨[],Sub.z,au Value.bool (by unfold iR;rw[am (show¬y.op=9 by omega),Bool.false_or];exact decide_eq_decide.2 (by omega)),F⟩
def Ni (ls:List Lf) (w:World) (k:Key) (r:SR):Prop:= ∃(s:St) (l:List CR) (bb cb:Option Addr) (bc cc:Nat),kE ls s∧k=s.key∧s.cf=l.map CR.cf∧r.a=.slice bb s.bh.length bc∧r.b=.slice cb l.length cc∧
 ((∃(c1 c2:Nat) (p:List OB),r.lx=[av bb c1 3 1 (bW s.bh),av cb c2 169 3 (dz l)]++gl 173 p∧ ∀y∈l,mA p y.r)∨(r.lx=[]∧Sl w bb (bW s.bh)∧Sl w cb (dz l)∧ ∀y∈l,Sl w y.r.b (fM y.r.o)))
theorem Ni.one {ls:List Lf} {w:World} {k:Key} {r:SR} (h:Ni ls w k r):fF r.a=true∧fF r.b=true:=by
 obtain⟨s,l,bb,cb,bc,cc,_,_,_,h1,h2,_⟩:=h
 rw[h1,h2];exact⟨F,F⟩
theorem Ni.sl {ls:List Lf} {w w1:World} {lx:List Lx.Item} {bb cb:Option Addr} {bh:List Nat} {l:List CR} (hI:Inv w [] w1) (h:(∃(c1 c2:Nat) (p:List OB),lx=[av bb c1 3 1 (bW bh),av cb c2 169 3 (dz l)]++gl 173 p∧ ∀y∈l,mA p y.r)∨(lx=[]∧Sl w bb (bW bh)∧Sl w cb (dz l)∧ ∀y∈l,Sl w y.r.b (fM y.r.o))) (fO: ∀it∈lx,it.P w1):Sl w1 bb (bW bh)∧Sl w1 cb (dz l)∧ ∀y∈l,Sl w1 y.r.b (fM y.r.o):=by
 rcases h with⟨c1,c2,p,he,hp⟩|⟨_,h1,h2,h3⟩
 ·refine⟨rowP.sl (fO (av bb c1 3 1 (bW bh)) (by rw[he];simp)),rowP.sl (fO (av cb c2 169 3 (dz l)) (by rw[he];simp)),fun y hy=>?_⟩
  rcases hp y hy with h|h
  ·exact rowP.sl (fO (OB.qt 173 y.r) (by rw[he];exact ao _ (List.mem_map.2 ⟨_,h,F⟩)))
  ·rw[h];exact fun i hi=>absurd hi (by simp[fM])
 ·exact⟨hI.sl h1,hI.sl h2,fun y hy=>hI.sl (h3 y hy)⟩
set_option maxRecDepth 20000 in
theorem Z7 (w:World) [dA prog w] (ob:Nat) (lb:Option Addr) (lc:Nat) (cv fv:Value) (ls:List Lf) (ks:List LK) (ho:lF w ob lb lc cv fv ls ks) (vs:Nat) (hG:iB ls vs) {K:Nat} (hK:qR ls K) (yt:K<137438953472) (gz:vs≤6) (w1:World) [dA prog w1] (hI:Inv w [] w1) (k:Key) (r:SR) (hR:Ni ls w k r) (fO: ∀it∈r.lx,it.P w1):eH prog w1 (.func (.func 76) #[(dJ (aD ob) 0)] #[]) [.agg #[r.a,r.b]] [] (fun v O'=>v=str k∧O'=[]):=by
 obtain⟨s,l,bb,cb,bc,cc,hs,rfl,KC,e1,e2,hm⟩:=hR
 obtain⟨hb,hl,DZ⟩:=Ni.sl (ls:=ls) hI hm fO
 have hg: ∀y∈l,jt ls y.cf:=fun y hy=>hs.cf _ (by rw[KC];exact List.mem_map_of_mem hy)
 have Jr:l.length≤K:=by
  have:=hK s.cf hs.nd hs.cf;rw[KC,ar]at this;exact this
 rw[e1,e2]
 refine(bU (first:=[(dJ (aD ob) 0)]) (args:=[(.agg #[.slice bb s.bh.length bc,.slice cb l.length cc])]) (fG:=[]) Z8 (ZW w1 (dJ (aD ob) 0) bb bc s.bh hb (by have:=hs.bh.len;have:=hG.len;omega) (hs.bh.num hG) cb cc l hl (by omega) hG hg (fun y hy=>by
  have:=hG.len
  rcases hg y hy with⟨_,_,h⟩|⟨q,_,hq,_,h⟩
  ·have:=h.len;show y.cf.o.length≤12;omega
  ·have:=h.len;show y.cf.o.length≤12;omega) DZ)).mono ?_
 rintro v O' ⟨rfl,rfl⟩
 rw[←KC];exact⟨F,F⟩
set_option maxRecDepth 20000 in
theorem Z9 (w:World) [dA prog w] (ob:Nat) (lb:Option Addr) (lc:Nat) (cv fv:Value) (ls:List Lf) (ks:List LK) (ho:lF w ob lb lc cv fv ls ks) (vs:Nat) (hG:iB ls vs) {K:Nat} (hK:qR ls K) (yt:K<137438953472) (gz:vs≤6) (w1:World) [dA prog w1] (hI:Inv w [] w1) (k:Key) (r:SR) (hR:Ni ls w k r) (fO: ∀it∈r.lx,it.P w1):eH prog w1 (.func (.func 78) #[(dJ (aD ob) 0)] #[]) [.agg #[r.a,r.b]] [] (fun v O'=>v=.bool (Js (kE ls) St.key pR k)∧O'=[]):=by
 obtain⟨s,l,bb,cb,bc,cc,hs,rfl,KC,e1,e2,hm⟩:=hR
 obtain⟨hb,hl,DZ⟩:=Ni.sl (ls:=ls) hI hm fO
 have hg: ∀y∈l,jt ls y.cf:=fun y hy=>hs.cf _ (by rw[KC];exact List.mem_map_of_mem hy)
 have Jr:l.length≤K:=by
  have:=hK s.cf hs.nd hs.cf;rw[KC,ar]at this;exact this
 rw[e1,e2]
 rw[BQ (Ea hG) hs]
 refine(bU (first:=[(dJ (aD ob) 0)]) (args:=[(.agg #[.slice bb s.bh.length bc,.slice cb l.length cc])]) (fG:=[]) Z_ (QS w1 (dJ (aD ob) 0) s.bh (.slice bb s.bh.length bc) cb cc l hl (by omega))).mono ?_
 rintro v O' ⟨rfl,rfl⟩
 rw[←KC];exact⟨F,F⟩
set_option maxRecDepth 20000 in
theorem aaa (w:World) [dA prog w] (ob:Nat) (lb:Option Addr) (lc:Nat) (cv fv:Value) (ls:List Lf) (ks:List LK) (ho:lF w ob lb lc cv fv ls ks) (vs:Nat) (hG:iB ls vs) {K:Nat} (hK:qR ls K) (yt:K<137438953472) (gz:vs≤6) (w1:World) [dA prog w1] (hI:Inv w [] w1) (k:Key) (r:SR) (hR:Ni ls w k r) (fO: ∀it∈r.lx,it.P w1) (x:Nat) (hx:x<2^vs):eH prog w1 (.func (.func 77) #[(dJ (aD ob) 0)] #[]) [.agg #[r.a,r.b],.int .u8 (x:Int)] [] (fun v N=> ∃r',v=.agg #[r'.a,r'.b]∧N=r'.lx∧Ni ls w (BP (kE ls) St.key (jj ls) k x) r'):=by
 obtain⟨s,l,bb,cb,bc,cc,hs,rfl,KC,e1,e2,hm⟩:=hR
 obtain⟨hb,hl,DZ⟩:=Ni.sl (ls:=ls) hI hm fO
 have hg: ∀y∈l,jt ls y.cf:=fun y hy=>hs.cf _ (by rw[KC];exact List.mem_map_of_mem hy)
 have Jr:l.length≤K:=by
  have:=hK s.cf hs.nd hs.cf;rw[KC,ar]at this;exact this
 rw[e1,e2]
 refine(bU (first:=[(dJ (aD ob) 0)]) (args:=[(.agg #[.slice bb s.bh.length bc,.slice cb l.length cc]),.int .u8 (x:Int)]) (fG:=[]) aab (Vt w1 ob lb lc cv fv ls ks (hI.out ho) vs hG hK (by omega) x hx gz s.bh bb bc hb hs.bh l cb cc hl hg (by rw[←KC];exact hs.nd) DZ)).mono ?_
 rintro v O' ⟨b1,b2,b3,c1,c2,l2,p,rfl,rfl,h1,h2⟩
 refine⟨⟨.slice b1 (iQ ls s.bh x).length b2,.slice c1 l2.length c2,_⟩,F,F,jj ls s x,l2,b1,c1,b2,c2,pg hG hs hx,sV (Ea hG) hs hx,?_,F,F,.inl ⟨_,_,p,F,h2.M4⟩⟩
 rw[h1,←KC];rfl
theorem JH (w:World) [dA prog w] (cb:Nat) (eb:Option Addr) (en ec vs B:Nat) (e7:Sl w (aD cb) [.slice eb en ec,vI (vs:Int),vI (B:Int)]) (gz:vs≤6) (iY:1≤B) (hB:B≤4096) (e:List eC) (hE:Sl w eb (bQ e)) (kw:en=e.length) (Ks:0<e.length) (uV:e.length≤64) (t:Rx) (Cz:ut e t (e.length-1)) (Hw:U6 cb eb en ec vs B e) (OY:e.any iR=false) (DZ:t.plain=true):
  dK prog w (.iface 163 (.agg #[])) 46 [(dJ (aD cb) 0)] [] (fun v N=> ∃M k',v=dV M k'∧N=[dI 56 4 3 M k']∧fQ (vs:Int) B M (fx t)∧kv vs t B) (¬kv vs t B):=by
 refine dS func46 F ntmps46 F ?_
 subst kw
 refine aj (aq (bs bN (fun z1=>?_)))
 refine ah (aj (ai F (ae a_ (ae (cz lM F il F F (aK e7) (by first|omega|(simp;done)|(simp;omega)|(simp_all;done)|(simp_all;omega))) (ae (cS dR F F (aK e7) F) (ae (cQ dR) (ae (bL (fI F F (by omega)) (v':=vN (e.length-1)) (au (Value.int .i64) (by omega))) (ak F (ah (aR (aj (ai F (ae a_ (ae (cz lM F il F F (aK e7) (by first|omega|(simp;done)|(simp;omega)|(simp_all;done)|(simp_all;omega))) (ae (cS dR F F (aK e7) F) ?_)))))))))))))))
 have qP:=fun(w1:World) (hI:Inv w [oI z1 25 [(vI 0),(vI 0),nS,nS]] w1)=>(haveI:=ef hI;(show cn _ _ _ _ (fun v N=>v=Value.bool false∧N=[])from by
   have h9:=qd w1 eb ec e (hI.sl hE) (by omega) ((.func (.func 71) #[] #[])) iR (fun y hy=>bU (first:=[]) (args:=[y.ag]) (fG:=[]) SY (Nh w1 y))
   rw[OY]at h9
   exact h9))
 refine aq (bm SZ (aX qP) ?_)
 clear qP
 rintro vr O' ⟨N,rfl,rfl,rfl⟩
 refine ae iV (ah ?_)
 refine b_ ?_
 refine aj (ai F (ai F ?_))
 have MM:=fun(w1:World) (hI:Inv w [oI z1 25 [(vI 0),(vI 0),nS,nS]] w1)=>(haveI:=ef hI;jZ Hw gz iY hB F t DZ (e.length-1) Cz w1 (hI.sl e7) (hI.sl hE))
 refine eJ F (e8 qa (dK.pure MM) F (fun z _=>⟨F,z⟩) ?_)
 clear MM
 rintro vr O' ⟨N,rfl,M,kr,rfl,rfl,hM,hO⟩
 refine aq (cq (vs:=(dC M kr)) 1 bN ?_)
 refine ah (aM (aB ?_))
 refine cN (i:=1) results46 dj F bN F F F ?_
 exact⟨[dI 56 4 3 M kr],(by exact Sub.k .z),M,kr,F,F,hM,hO⟩
theorem Nj (w:World) [dA prog w] (cb:Nat) (eb:Option Addr) (en ec vs B:Nat) (e7:Sl w (aD cb) [.slice eb en ec,vI (vs:Int),vI (B:Int)]) (gz:vs≤6) (iY:1≤B) (hB:B≤4096) (e:List eC) (hE:Sl w eb (bQ e)) (kw:en=e.length) (Ks:0<e.length) (uV:e.length≤64) (t:Rx) (Cz:ut e t (e.length-1)) (B3:VB cb eb en ec vs B e) (OY:e.any iR=true) (hw:t.wf=true) (aac:t.lv≤12) {K:Nat} (hK1:K<137438953472) (hG0:okB vs t B→iB (jn vs t) vs) (yt:okB vs t B→qR (jn vs t) K):
  dK prog w (.iface 163 (.agg #[])) 46 [(dJ (aD cb) 0)] [] (fun v N=> ∃M k',v=dV M k'∧N=[dI 56 4 3 M k']∧fQ (vs:Int) B M (Xj vs t)∧okC vs t B) (¬okC vs t B):=by
 refine dS func46 F ntmps46 F ?_
 subst kw
 have JE:t.lv≤12:=aac
 have Fx:=gu vs t []
 have Ku:=ep vs t []
 simp only[dl,Nat.zero_add]at Fx Ku
 have hvm:(2:Nat)^vs≤64:=bV (by decide) gz
 refine aj (aq (bs bN (fun z1=>?_)))
 refine ah (aj (ai F (ae a_ (ae (cz lM F il F F (aK e7) (by first|omega|(simp;done)|(simp;omega)|(simp_all;done)|(simp_all;omega))) (ae (cS dR F F (aK e7) F) (ae (cQ dR) (ae (bL (fI F F (by omega)) (v':=vN (e.length-1)) (au (Value.int .i64) (by omega))) (ak F (ah (aR (aj (ai F (ae a_ (ae (cz lM F il F F (aK e7) (by first|omega|(simp;done)|(simp;omega)|(simp_all;done)|(simp_all;omega))) (ae (cS dR F F (aK e7) F) ?_)))))))))))))))
 let eh:Lx.Item:=oI z1 25 [(vI 0),(vI 0),nS,nS]
 have qP:=fun(w1:World) (hI:Inv w [eh] w1)=>(haveI:=ef hI;(show cn _ _ _ _ (fun v N=>v=Value.bool true∧N=[])from by
   have h9:=qd w1 eb ec e (hI.sl hE) (by omega) ((.func (.func 71) #[] #[])) iR (fun y hy=>bU (first:=[]) (args:=[y.ag]) (fG:=[]) SY (Nh w1 y))
   rw[OY]at h9
   exact h9))
 refine aq (bm SZ (aX qP) ?_)
 clear qP
 rintro vr O' ⟨N,rfl,rfl,rfl⟩
 refine ae iV (ah (a8 (aL (aj (ai F (ae (cT (cs:=[(dJ (aD cb) 0),nS,nS]) QW VC (by kernel_rfl)) (aq (dE (cs:=[(dJ (aD cb) 0),nS,nS]) (fun z2=>?_)))))))))
 refine ak F (ah (aR (T.fq 118 7 ?_)))
 let fA:List Lx.Item:=[oI z2 114 [(dJ (aD cb) 0),nS,nS],av none 0 118 7 (dp [] []),eh]
 refine dc (O':=fA++(cg 3 (eY [] [])++gK 56 4 3 [] [])) (aG [1,0,0]) ?_
 refine bg (ai F (ai F ?_))
 have yg:=((yz B3 gz iY hB F z2 nS t hw (e.length-1) Cz w e7 hE).frame [eh] (O:=fA) none 0 [] [] F (by simp;omega) ⟨0,by simp,by have:=Nat.mul_le_mul JE JE;omega⟩ (by exact Sub.rf))
 refine eJ F (e8 D7 yg F (fun z _=>⟨F,fun h9=>z h9.1⟩) ?_)
 clear yg
 rintro vr O' ⟨lb,lc,ks,fb,fc,xb,xc,rfl,rfl,oQ,Jy⟩
 let fe:Value:=(.slice fb ((aU vs t []).fi.length) fc)
 refine ai F (ae (bI (vs:=_)) (ae (bI (vs:=_)) (ak F (ak F (ah (aj (ai F (ai F (ae a_ (ae (bt gC cZ) (aq (cq (vs:=[fe]) 0 cZ ?_))))))))))))
 refine ah (aR (aj (ai F (ae (cQ cL) (ai F (ah (aV ?_)))))))
 let pv:Lx.Item:=av fb fc 3 1 (bW ((aU vs t []).fi))
 let oE:Lx.Item:=av xb xc 3 1 (bW ((aU vs t []).la))
 refine dc (O':=[oI z2 114 [(dJ (aD cb) 0),(.slice lb (((aU vs t []).ls).length) lc),fe],av lb lc 118 7 (dp ((aU vs t []).ls) ks),pv,oE,eh]++(cg 3 (eY ((aU vs t []).ls) ks)++gK 56 4 3 ((aU vs t []).ls) ks)) (by exact Sub.rf) ?_
 let fh:Value:=(.pointer (aD z2))
 refine dZ (fun(i9:Nat) ρ O=> ∃(l3:List Lf),O=([oI z2 114 [(dJ (aD cb) 0),(.slice lb l3.length lc),fe],av lb lc 118 7 (dp l3 ks),pv,oE,eh]++(cg 3 (eY l3 ks)++gK 56 4 3 l3 ks))∧i9≤(aU vs t []).la.length∧l3=mQ (aU vs t []).ls ((aU vs t []).la.take i9)∧ks.length=l3.length∧df [(0,(dJ (aD cb) 0)),(2,(.pointer (aD z1))),(3,vN (e.length-1)),(4,fh),(5,fe),(6,(.slice xb ((aU vs t []).la.length) xc)),(26,fh),(37,(.slice xb ((aU vs t []).la.length) xc)),(38,vI ((aU vs t []).la.length:Int)),(39,vN i9)] ρ) (fun i9=>(aU vs t []).la.length-i9) 0 ?_ ?_
 ·exact⟨(aU vs t []).ls,F,bl _,F,oQ,(.of F)⟩
 rintro i9 ρ O ⟨l3,rfl,K3,Pc,ul,hH⟩
 obtain⟨gA,rfl⟩:=hH.elim
 clear hH
 refine aj (ae cU (ah (aR (aZ F (fun hc=>?_) (fun hc=>?_)))))
 ·have yo:i9<(aU vs t []).la.length:=by omega
  obtain⟨kk,Gf⟩: ∃k,k=(aU vs t []).la[i9]:=⟨_,F⟩
  have AP:kk<l3.length:=by
   have:=(Fx.2.1 _ (aN yo)).2
   rw[Pc,rS,Ku,Gf];exact this
  refine aL (aR (aV (aj (ae (dX (i:=i9) cL bF F F (dT (mG 3)) yo (by rw[ar];exact yo)) (ae (cS ey F F (dT (mG 3)) (show(bW (aU vs t []).la)[i9]? =some (vN kk) by rw[Gf];exact iw yo)) (ak F (ah (bg (ai F (ae a_ (ae (bt gC gE) (ae (bq 0 fH) (ai F (ae (eA (i:=kk) fH fj F F (dT (mG 1)) AP (by rw[eg ul];omega)) (ae (cz iK F fC F F (dT (mG 1)) (by rw[eg ul];omega)) (aq (n7 (j:=(kk*7+6)) (v:=.bool true) (vs:=[(.bool true)]) (cs:=dp l3 ks) 1 fC F F F F F (by simp) F (by rw[eg ul];simp;omega) ?_)))))))))))))))))
  let jy:Value:=(.slice fb ((aU vs t []).fi.length) fc)
  let lV:Lx.Item:=av fb fc 3 1 (bW ((aU vs t []).fi))
  let jX:Lx.Item:=av xb xc 3 1 (bW ((aU vs t []).la))
  refine dM (O':=([oI z2 114 [(dJ (aD cb) 0),(.slice lb l3.length lc),jy],av lb lc 118 7 (dp (l3.set kk {lf l3 kk with la:=true}) ks),lV,jX,eh]++(cg 3 (eY l3 ks)++gK 56 4 3 l3 ks))) (by rw[show eZ (dp l3 ks) (kk*7+6) [(.bool true)]=dp (l3.set kk {lf l3 kk with la:=true}) ks from(by rw[Eb ul AP];simp[eZ])];exact ck (aY _)) ?_
  refine ah (bg (ae (dr (a:=i9) (b:=1) F F (by omega)) (ai F (ah ?_))))
  exact⟨i9+1,by omega,[oI z2 114 [(dJ (aD cb) 0),(.slice lb ((l3.set kk {lf l3 kk with la:=true}).length) lc),jy],av lb lc 118 7 (dp (l3.set kk {lf l3 kk with la:=true}) ks),lV,jX,eh]++(cg 3 (eY (l3.set kk {lf l3 kk with la:=true}) ks)++gK 56 4 3 (l3.set kk {lf l3 kk with la:=true}) ks),by
   rw[Gj ul AP,JI ul AP,eE]
   exact Sub.rf,(l3.set kk {lf l3 kk with la:=true}),F,by omega,by rw[Gk yo,←Gf,←Pc],by rw[eE];exact ul,(.of F)⟩
 have SE: ¬i9<(aU vs t []).la.length:=by omega
 refine cG ?_
 refine aR ?_
 have e3:l3=jn vs t:=by rw[Pc,br (by omega)];rfl
 have hG:=hG0 Jy
 have hK:=yt Jy
 rw[←e3]at hG hK
 have ug:(aU vs t []).fi.length≤1000000:=by have:=Fx.2.2.1;omega
 have aaf: ∀k∈(aU vs t []).fi,k<l3.length:=fun k hk=>by rw[e3];exact xk k hk
 refine bg (ai F (ai F ?_))
 let gP:Value:=(.slice fb ((aU vs t []).fi.length) fc)
 let iI:Lx.Item:=oI z2 114 [(dJ (aD cb) 0),(.slice lb l3.length lc),gP]
 let jN:Lx.Item:=av fb fc 3 1 (bW ((aU vs t []).fi))
 let kn:Lx.Item:=av xb xc 3 1 (bW ((aU vs t []).la))
 have aag:=fun(w1:World) (hI:Inv w ([iI,av lb lc 118 7 (dp l3 ks),jN,kn,eh]++(cg 3 (eY l3 ks)++gK 56 4 3 l3 ks)) w1)=>(haveI:=ef hI;QP w1 z2 lb lc (dJ (aD cb) 0) (.slice fb ((aU vs t []).fi.length) fc) l3 ks (lF.of (II:=56) (Bo:=4) (I:=3) hI ul (mG 0) (mG 1) (fun it h=>ao _ (aO _ h)) (fun it h=>ao _ (ao _ h))) vs hG hK (by omega) (aU vs t []).fi fb fc F (hI.gV (mG 2)) aaf ug)
 refine aq (bm aah (aX aag) ?_)
 clear aag
 rintro vr O' ⟨N,rfl,bb,bc,mJ,gb,gc,l,p,rfl,rfl,hlm,hS⟩
 refine dM (O':=([av bb mJ 3 1 (bW (l3.map fun l=>l.d.start.toNat)),av gb gc 169 3 (dz l),iI,av lb lc 118 7 (dp l3 ks),jN,kn,eh]++((gl 173 p)++(cg 3 (eY l3 ks)++gK 56 4 3 l3 ks)))) (by exact fK [av bb mJ 3 1 (bW (l3.map fun l=>l.d.start.toNat)),av gb gc 169 3 (dz l)] _ (gl 173 p) (cg 3 (eY l3 ks)++gK 56 4 3 l3 ks)) ?_
 refine ai F (ae (dx) (ai F (ae (dx) (ai F (ae (dx) ?_)))))
 have LV:=fun(w1:World) (hI:Inv w ([av bb mJ 3 1 (bW (l3.map fun l=>l.d.start.toNat)),av gb gc 169 3 (dz l),oI z2 114 [(dJ (aD cb) 0),(.slice lb l3.length lc),gP],av lb lc 118 7 (dp l3 ks),av fb fc 3 1 (bW ((aU vs t []).fi)),av xb xc 3 1 (bW ((aU vs t []).la)),eh]++((gl 173 p)++(cg 3 (eY l3 ks)++gK 56 4 3 l3 ks))) w1)=>(haveI:=ef hI;FV w1 cb eb _ ec vs B (2^vs) (hI.sl e7) gz F iY hB (BP (kE l3) St.key (jj l3)) (Js (kE l3) St.key pR) (gW l3 (aU vs t []).fi).key (Ni l3 w1) ⟨.slice bb (l3.map fun l=>l.d.start.toNat).length bc,.slice gb l.length gc,[]⟩ (.func (.func 76) #[fh] #[]) (.func (.func 77) #[fh] #[]) (.func (.func 78) #[fh] #[]) ⟨(gW l3 (aU vs t []).fi),l,bb,gb,bc,gc,pV hG aaf,F,(by rw[hlm];rfl),F,F,.inr ⟨F,hI.gV (mG 0),hI.gV (mG 1),fun y hy=>mA.sl (T:=173) hI (fun it h=>ao _ (aO _ h)) (hS.M4 y hy)⟩⟩ F (fun k r h=>h.one) (fun w2 k r kY hR fO=>haveI:=ef kY;Z7 w1 z2 lb lc (dJ (aD cb) 0) gP l3 ks (lF.of (II:=56) (Bo:=4) (I:=3) hI ul (mG 2) (mG 3) (fun it h=>ao _ (ao _ (aO _ h))) (fun it h=>ao _ (ao _ (ao _ h)))) vs hG hK hK1 gz w2 kY k r hR fO) (fun w2 k r x kY hR fO hx=>haveI:=ef kY;aaa w1 z2 lb lc (dJ (aD cb) 0) gP l3 ks (lF.of (II:=56) (Bo:=4) (I:=3) hI ul (mG 2) (mG 3) (fun it h=>ao _ (ao _ (aO _ h))) (fun it h=>ao _ (ao _ (ao _ h)))) vs hG hK hK1 gz w2 kY k r hR fO x hx) (fun w2 k r kY hR fO=>haveI:=ef kY;Z9 w1 z2 lb lc (dJ (aD cb) 0) gP l3 ks (lF.of (II:=56) (Bo:=4) (I:=3) hI ul (mG 2) (mG 3) (fun it h=>ao _ (ao _ (aO _ h))) (fun it h=>ao _ (ao _ (ao _ h)))) vs hG hK hK1 gz w2 kY k r hR fO))
 refine eJ F (e8 aaj (dK.pure LV) F (fun z _=>⟨F,fun h9=>z (by have:=h9.2;unfold Ut at this;rw[←e3]at this;exact this)⟩) ?_)
 clear LV
 rintro vr O' ⟨N,rfl,M,k9,rfl,rfl,hM,Mu⟩
 refine aq (cq (vs:=(dC M k9)) 7 bN ?_)
 refine ah (aM (aB ?_))
 refine cN (i:=7) results46 dj F bN F F F ?_
 subst e3
 exact⟨[dI 56 4 3 M k9],(by exact Sub.k .z),M,k9,F,F,hM.to fun u hu=>Nk hG (fun x hx=>by simpa using hu x hx),Jy,Mu⟩
theorem Q1 (w:World) (p q:Addr):CallsDIn Fence.wide 0 prog 45 #[.pointer (some p),.pointer (some q)] .returning w fun e u' w'=>e=.returned (.tuple #[])∧u'=.returning∧w'=w:=by
 refine callsDIn_of_wpSIn func45 F trivial fun WJ cs hu=>?_
 apply wpSIn_seq
 apply wpSIn_region
 simp[wpOpsSIn,go_sem,recoverD,hu,ntmps45,Exit.thenS,Fence.wide]
 apply wpSIn_seq
 apply wpSIn_region
 simp[wpOpsSIn,go_sem,hu,Exit.thenS]
 refine wpSIn_cond (t:=false) (by simp[Act.eval,Array.replicate]) ?_
 simp only[Bool.false_eq_true,if_false]
 refine wpSIn_of_wpIn F (wpIn_skip ?_)
 cases WJ
 simp_all[bodyPostS,results,results45]
def zD:List Value:=[.int .i64 0,.int .i64 0,.slice none 0 0,.slice none 0 0]
set_option maxRecDepth 20000 in
theorem Nx (base:World) (z6 z7:Nat) (M:List Lx.Item) (w:World) (T0:TypeId) (x:Value) (hI:Inv base ([oI z6 25 zD,oI z7 27 [.int .i64 0]]++M) w):
  CallsDIn Fence.wide 0 prog 45 #[.pointer (some ⟨z6,0,none⟩),.pointer (some ⟨z7,0,none⟩)] (.panicking [{v:=.iface T0 x,recovered:=false}]) w fun e u' w'=>
   e=.returned (.tuple #[])∧u'=.panicking [{v:=.iface T0 x,recovered:=true}]∧Inv base ([oI z6 25 zD,oI z7 27 [.int .i64 10]]++M) w':=by
 refine callsDIn_of_wpSIn func45 F trivial fun WJ cs hu=>?_
 apply wpSIn_seq
 apply wpSIn_region
 simp[wpOpsSIn,go_sem,recoverD,hu,ntmps45,Exit.thenS,Fence.wide]
 apply wpSIn_seq
 apply wpSIn_region
 simp[wpOpsSIn,go_sem,Exit.thenS]
 refine wpSIn_cond (t:=true) (by simp[Act.eval,Array.replicate]) ?_
 simp only[if_true]
 refine wpSIn_of_wpIn F ?_
 refine TG.region (base:=base) (n:=7) (ds:=[]) (M:=M) (ρ:=fun t=>Array.getD _ t undef) (O:=[oI z6 25 zD,oI z7 27 [.int .i64 0]]) ?_ ⟨fun t=>rfl,by simp,F⟩ hI
 refine et (cT (cs:=zD) jG bN (by kernel_rfl)) ?_
 refine gF F (u6 (v:=.agg zD.toArray) (vs:=zD) 0 bN F F F F F F (by simp) ?_)
 refine gF F (u6 (v:=.int .i64 10) (vs:=[.int .i64 10]) 1 js F F F F F F (by simp) ?_)
 refine TG.nil fun a w' ha oH=>?_
 have hd:=ha.defers
 cases WJ
 simp_all[bodyPostS,results,results45]
 exact oH
def FrR (E:Nat) (lP:Int) (G:cV→Prop) (Z:Prop) (v:Value) (O':List Lx.Item):Prop:=
 (E≠0∧v=.tuple #[.agg zD.toArray,.int .i64 (E:Int)]∧O'=[])∨(E=0∧ ¬(1≤lP∧lP≤4096)∧v=.tuple #[.agg zD.toArray,.int .i64 1]∧O'=[])∨
 (E=0∧(1≤lP∧lP≤4096)∧((∃M k,v=.tuple #[dV M k,.int .i64 0]∧O'=[dI 56 4 3 M k]∧G M)∨(v=.tuple #[.agg zD.toArray,.int .i64 10]∧O'=[]∧Z)))
abbrev RF (base:World) (M:List Lx.Item) (R:Value→List Lx.Item→Prop):Ending→World→Prop:=fun e PD=> ∃v O',e=.returned v∧Inv base (O'++M) PD∧R v O'
theorem Ef {base w:World} {M O:List Lx.Item} {tmps:Array Value} {ρ:Env} {R:Value→List Lx.Item→Prop} (ht: ∀t,tmps.getD t undef=ρ t) (hI:Inv base (O++M) w) (hr:rG prog base Tryz.f19 ρ O R):LeavesInM Fence.wide 0 prog Tryz.f19 tmps (RF base M R) [] .returning w:=by
 obtain⟨v,zn,zJ,hR,hr⟩:=hr.ex
 exact⟨v,hr w tmps hI.left ht,v,zn,F,hI.kN zJ.sJ,hR⟩
theorem dfr (z6 z7:Nat) (w:World):(invoke (.fn (.func 45) #[.pointer (some ⟨z6,0,none⟩),.pointer (some ⟨z7,0,none⟩)]) #[]).run prog w=.ok (.enter 45 #[.pointer (some ⟨z6,0,none⟩),.pointer (some ⟨z7,0,none⟩)]) w:=by
 have tP: ¬Tryz.f45.name= "runtime.NumGoroutine" :=by simpa using Ns.2.1
 obtain⟨bd,PI⟩:=Option.isSome_iff_exists.1 Ns.2.2
 simp[invoke,callFunc,Ns.1,tP,PI]
theorem S_ (base:World) [dA prog base] (eb:Option Addr) (en ec:Nat) (vars:Int) (E:Nat) (lP:Int) (G:cV→Prop) (Z:Prop)
  (adr: ∀w1 [dA prog w1],Inv base [] w1→cn prog 28 [.slice eb en ec,.int .i64 vars] w1 fun v N=>v=.int .i64 (E:Int)∧N=[])
  (hC:E=0→1≤lP→lP≤4096→ ∀(w8:World) [dA prog w8] (cb:Nat),Inv base [] w8→Sl w8 (some ⟨cb,0,none⟩) [.slice eb en ec,.int .i64 vars,.int .i64 lP]→dK prog w8 (.iface 163 (.agg #[])) 46 [dJ (some ⟨cb,0,none⟩) 0] [] (fun v N=> ∃M k',v=dV M k'∧N=[dI 56 4 3 M k']∧G M) Z):
  cj prog base 19 [.slice eb en ec,.int .i64 vars,.int .i64 lP] [] (FrR E lP G Z):=by
 intro w M hI
 rw[←callsIn_wide (n:=0)]
 refine callsIn_of_wp_marks func19 F trivial ?_
 have ha:Ag 32 [] {tmps:=([.slice eb en ec,.int .i64 vars,.int .i64 lP]:List Value).toArray++Array.replicate (Tryz.f19.ntmps-([.slice eb en ec,.int .i64 vars,.int .i64 lP]:List Value).toArray.size) undef,defers:=[]} (entry [.slice eb en ec,.int .i64 vars,.int .i64 lP]):=by
  rw[ntmps19]
  refine⟨fun t=>?_,by simp,F⟩
  show(_++_:Array Value).getD t undef=List.getD _ t undef
  rw[dv,az]
  by_cases h:t<3
  ·rw[Array.getElem?_append_left (by simpa using h)];simp
  ·rw[Array.getElem?_append_right (by simpa using h),Array.getElem?_replicate,bY (by simpa using h)]
   split<;>rfl
 refine wpIn_seq ?_
 refine TG.region (O:=[]) ?_ ha hI
 refine gF F (bs bN (fun z6=>?_))
 refine gF F (bs js (fun z7=>?_))
 refine TG.nil fun a w ha hI=>?_
 refine wpIn_seq ?_
 refine wpIn_seq ?_
 refine TG.region ?_ ha hI
 refine et aI (et aI ?_)
 refine gF F (bm HF (aX (fun w1 hI=>(haveI:=ef hI;adr w1 hI.lK))) ?_)
 rintro vr O' ⟨N,rfl,rfl,rfl⟩
 refine et cx ?_
 refine TG.nil fun a w ha hI=>?_
 refine wpIn_seq ?_
 refine TG.region ?_ ha hI
 refine et aI (et dW ?_)
 refine TG.nil fun a w ha hI=>?_
 by_cases hE:E=0
 case neg=>
  refine wpIn_cond (t:=true) (by rw[ha.eval];show Value.bool (decide ((E:Int)≠0))=Value.bool true;rw[ax (show(E:Int)≠0 by omega)]) ?_
  simp only[if_true]
  refine wpIn_seq ?_
  refine TG.region ?_ ha hI
  refine et (cT (cs:=zD) jG bN (by kernel_rfl)) (et aI ?_)
  refine gF F (u6 (v:=.agg zD.toArray) (vs:=zD) 1 bN F F F F F F (by decide) ?_)
  refine gF F (u6 (v:=.int .i64 (E:Int)) (vs:=[.int .i64 (E:Int)]) 0 js F F F F F F (by simp) ?_)
  refine TG.nil fun a w ha hI=>wpIn_ret ?_
  show LeavesInM _ _ _ _ _ _ a.defers _ w
  rw[ha.defers]
  refine Ef ha.tmp hI (aB ?_)
  refine iN (i:=1) (j:=0) results19 dj F bN o6 F F F F F F ?_
  exact⟨[],Sub.z,.inl ⟨hE,F,F⟩⟩
 subst hE
 refine wpIn_cond (t:=false) (by rw[ha.eval];rfl) ?_
 simp only[Bool.false_eq_true,if_false]
 refine wpIn_skip ?_
 refine wpIn_seq ?_
 refine wpIn_seq ?_
 refine TG.region (base:=base) (n:=32) (ds:=[]) (M:=M) (ρ:=fun t=>a.tmps.getD t undef) (O:=[dY z7 (.cells #[.int .i64 0] 27 (0,0)),dY z6 (.cells #[.int .i64 0,.int .i64 0,.slice none 0 0,.slice none 0 0] 25 (0,0))]) ?_ ⟨fun t=>rfl,ha.size,ha.defers⟩ hI
 have h2:a.tmps.getD 2 undef=.int .i64 lP:=by rw[ha.tmp];rfl
 have h0:a.tmps.getD 0 undef=.slice eb en ec:=by rw[ha.tmp];rfl
 have h1:a.tmps.getD 1 undef=.int .i64 vars:=by rw[ha.tmp];rfl
 have h6:a.tmps.getD 6 undef=.pointer (some ⟨z6,0,none⟩):=by rw[ha.tmp];rfl
 have h7:a.tmps.getD 7 undef=.pointer (some ⟨z7,0,none⟩):=by rw[ha.tmp];rfl
 generalize Xq:(fun t=>a.tmps.getD t undef)=ρ
 have r2:ρ 2=.int .i64 lP:=by rw[←Xq];exact h2
 have r0:ρ 0=.slice eb en ec:=by rw[←Xq];exact h0
 have r1:ρ 1=.int .i64 vars:=by rw[←Xq];exact h1
 have r6:ρ 6=.pointer (some ⟨z6,0,none⟩):=by rw[←Xq];exact h6
 have r7:ρ 7=.pointer (some ⟨z7,0,none⟩):=by rw[←Xq];exact h7
 clear h2 h0 h1 h6 h7 Xq
 by_cases I5:lP<1
 ·refine et aI (et (bL (cU (a:=lP) (b:=1) r2 F) (v':=.bool true) (by rw[ax I5])) (et aI ?_))
  refine ww F F (ww F F (et cm ?_))
  refine TG.nil fun a w ha hI=>?_
  refine wpIn_cond (t:=true) (by rw[ha.eval];rfl) ?_
  simp only[if_true]
  refine wpIn_seq ?_
  refine TG.region ?_ ha hI
  refine et (cT (cs:=zD) jG bN (by kernel_rfl)) ?_
  refine gF F (u6 (v:=.agg zD.toArray) (vs:=zD) 1 bN r6 F F F F F (by decide) ?_)
  refine gF F (u6 (v:=.int .i64 1) (vs:=[.int .i64 1]) 0 js r7 F F F F F (by decide) ?_)
  refine TG.nil fun a w ha hI=>wpIn_ret ?_
  show LeavesInM _ _ _ _ _ _ a.defers _ w
  rw[ha.defers]
  refine Ef ha.tmp hI (aB ?_)
  refine iN (i:=1) (j:=0) results19 dj F bN o6 F r6 r7 F F F ?_
  exact⟨[],Sub.z,.inr (.inl ⟨F,by omega,F,F⟩)⟩
 ·refine et aI (et (bL (cU (a:=lP) (b:=1) r2 F) (v':=.bool false) (by rw[am I5])) (et aI ?_))
  by_cases Fz:4096<lP
  ·refine nh F F F (eK F F aI ?_)
   refine nh F F F (eK F F (bL (ij (a:=lP) (b:=4096) r2 F) (v':=.bool true) (by rw[ax Fz])) ?_)
   refine et bX ?_
   refine TG.nil fun a w ha hI=>?_
   refine wpIn_cond (t:=true) (by rw[ha.eval];rfl) ?_
   simp only[if_true]
   refine wpIn_seq ?_
   refine TG.region ?_ ha hI
   refine et (cT (cs:=zD) jG bN (by kernel_rfl)) ?_
   refine gF F (u6 (v:=.agg zD.toArray) (vs:=zD) 1 bN r6 F F F F F (by decide) ?_)
   refine gF F (u6 (v:=.int .i64 1) (vs:=[.int .i64 1]) 0 js r7 F F F F F (by decide) ?_)
   refine TG.nil fun a w ha hI=>wpIn_ret ?_
   show LeavesInM _ _ _ _ _ _ a.defers _ w
   rw[ha.defers]
   refine Ef ha.tmp hI (aB ?_)
   refine iN (i:=1) (j:=0) results19 dj F bN o6 F r6 r7 F F F ?_
   exact⟨[],Sub.z,.inr (.inl ⟨F,by omega,F,F⟩)⟩
  refine nh F F F (eK F F aI ?_)
  refine nh F F F (eK F F (bL (ij (a:=lP) (b:=4096) r2 F) (v':=.bool false) (by rw[am Fz])) ?_)
  refine et bX ?_
  refine TG.nil fun a w ha hI=>?_
  refine wpIn_cond (t:=false) (by rw[ha.eval];rfl) ?_
  simp only[Bool.false_eq_true,if_false]
  refine wpIn_skip ?_
  refine wpIn_seq ?_
  refine TG.region ?_ ha hI
  refine et (bL dx (v':=.func (.func 45) #[] #[.pointer (some ⟨z6,0,none⟩),.pointer (some ⟨z7,0,none⟩)]) (by show Value.func _ #[] #[ρ 6,ρ 7]=_;rw[r6,r7])) ?_
  refine TG.defer (f:=45) (fG:= #[.pointer (some ⟨z6,0,none⟩),.pointer (some ⟨z7,0,none⟩)]) F ?_
  refine TG.nil fun a w ha hI=>?_
  refine wpIn_seq ?_
  refine TG.region ?_ ha hI
  refine et (bL aI (v':=.slice eb en ec) r0) (et (bL aI (v':=.int .i64 vars) r1) (et (bL aI (v':=.int .i64 lP) r2) ?_))
  refine et (cT (cs:=[.slice eb en ec,.int .i64 vars,.int .i64 lP]) VL aar (by kernel_rfl)) ?_
  refine gF F (dE (v:=.agg #[.slice eb en ec,.int .i64 vars,.int .i64 lP]) (cs:=[.slice eb en ec,.int .i64 vars,.int .i64 lP]) (fun zc=>?_))
  refine et cx ?_
  refine TG.nil fun a w ha hI=>?_
  refine wpIn_seq ?_
  refine TG.region ?_ ha hI
  refine et aI ?_
  refine Gn (tm:=.iface 163 (.agg #[])) aau (vs:=[dJ (some ⟨zc,0,none⟩) 0]) (R:=fun v N=> ∃M k',v=dV M k'∧N=[dI 56 4 3 M k']∧G M) (Z:=Z) (fun w hI=>(haveI:=ef hI;hC F (by omega) (by omega) w zc hI.lK (hI.gS (mG 0)))) F (fun a w ha hI hZ=>?_) ?_
  ·show LeavesInM _ _ _ _ _ _ a.defers _ w
   rw[ha.defers]
   refine⟨by simp,.inr ⟨fun h=>by simp[Fence.wide]at h,_,_,45,_,F,dfr z6 z7 w,fun _ _=>trivial,?_⟩⟩
   refine(Nx base z6 z7 M w 163 (.agg #[]) (hI.kN (Sub.sJ (aG [2,1])))).mono ?_
   rintro e u' w' ⟨rfl,rfl,oH⟩
   refine Ef ha.tmp oH (aB ?_)
   refine iN (i:=0) (j:=1) results19 dj F bN o6 F r6 r7 F F F ?_
   exact⟨[],Sub.z,.inr (.inr ⟨F,by omega,.inr ⟨F,F,hZ⟩⟩)⟩
  rintro v N ⟨Md,kd,rfl,rfl,hG⟩
  refine gF F (u6 (v:=dV Md kd) (vs:=dC Md kd) 3 bN r6 F F F F F (show 0+4≤4 by decide) ?_)
  refine gF F (u6 (v:=.int .i64 0) (vs:=[.int .i64 0]) 2 js r7 F F F F F (by decide) ?_)
  refine TG.nil fun a w ha hI=>wpIn_ret ?_
  show LeavesInM _ _ _ _ _ _ a.defers _ w
  rw[ha.defers]
  refine⟨by simp,.inr ⟨fun h=>by simp[Fence.wide]at h,_,_,45,_,F,dfr z6 z7 w,fun _ _=>trivial,?_⟩⟩
  refine(Q1 w _ _).mono ?_
  rintro e u' w' ⟨rfl,rfl,rfl⟩
  refine Ef ha.tmp hI (aB ?_)
  refine iN (i:=3) (j:=2) results19 dj F bN o6 F r6 r7 F F F ?_
  exact⟨[dI 56 4 3 Md kd],aG [0],.inr (.inr ⟨F,by omega,.inl ⟨Md,kd,F,F,hG⟩⟩)⟩
set_option maxRecDepth 20000 in
theorem DR (w:World) [dA prog w] (a b:cV) (j k:DK) (ha:At w a j) (hb:At w b k) (va:Valid a) (vb:Valid b) (hv:a.vars=b.vars) (f:Bool→Bool→Bool) (g:Nat) (hf: ∀(base:World) (x y:Bool),eH prog base (.func (.func g) #[] #[]) [.bool x,.bool y] [] (fun v O'=>v=.bool (f x y)∧O'=[])):
  cn prog 138 [dV a j,dV b k,.func (.func g) #[] #[]] w fun v N=> ∃M k' e,v=.tuple #[dV M k',vI e]∧N=[dI 56 4 3 M k']∧(((order (bZ f a b)).length≤4096∧M=tG f a b∧e=0)∨(4096<(order (bZ f a b)).length∧e=10)):=by
 rcases Nat.lt_or_ge 4096 (order (bZ f a b)).length with c|c
 ·refine(cj.dk (II:=56) (Bo:=4) (I:=3) (D:=CG) (g:=fun x=>.tuple #[x,vI 10]) ((gn 56 1 (gn 4 1 (F4 w a b j k ha hb va vb hv f g hf c))).mono ?_)).mono ?_
  ·rintro v N ⟨O2,rfl,O3,rfl,rfl,rfl⟩
   exact⟨none,0,none,0,[],F,F,F⟩
  ·rintro v N ⟨k',rfl,rfl⟩
   exact⟨CG,k',10,F,F,.inr ⟨c,F⟩⟩
 ·refine(DS w a b j k ha hb va vb hv f g hf c).mono ?_
  rintro v N ⟨k',rfl,rfl⟩
  exact⟨tG f a b,k',0,F,F,.inl ⟨c,F,F⟩⟩
theorem ac9 (w:World) [dA prog w] (a b:cV) (j k:DK) (ha:At w a j) (hb:At w b k) (va:Valid a) (vb:Valid b) (hv:a.vars=b.vars):
  cn prog 107 [dV a j,dV b k] w fun v N=> ∃M k' e,v=.tuple #[dV M k',vI e]∧N=[dI 56 4 3 M k']∧(((order (bZ sB a b)).length≤4096∧M=tG sB a b∧e=0)∨(4096<(order (bZ sB a b)).length∧e=10)):=by
 refine aE func107 F ntmps107 F ?_
 refine aj (aq (dE (cs:=(dC a j)) (fun n5=>?_)))
 refine aq (dE (cs:=(dC b k)) (fun yf=>?_))
 refine aq (bs bN (fun MK=>?_))
 refine ak F (ah (aj (ae (eN 2 dj bN) (ae (eN 1 dj bN) ?_))))
 have AH:=fun(w1:World) (hI:Inv w [oI MK 25 [(vI 0),(vI 0),nS,nS],oI yf 25 (dC b k),oI n5 25 (dC a j)] w1)=>(haveI:=ef hI;DR w1 a b j k (hI.rI ha) (hI.rI hb) va vb hv sB 152 Zw)
 refine aq (bm F5 (aX AH) ?_)
 clear AH
 rintro vr O' ⟨N,rfl,M,k',e,rfl,rfl,QI⟩
 refine ae (bI (vs:=_)) (ae (bI (vs:=_)) (aq (cq (vs:=(dC M k')) 1 bN ?_)))
 refine ak F (ah (aM (aB ?_)))
 refine j8 (vI e) (i:=1) results107 dj F bN F F F F ?_
 exact⟨[dI 56 4 3 M k'],(by exact Sub.k .z),M,k',e,F,F,QI⟩
theorem orE (w:World) [dA prog w] (a b:cV) (j k:DK) (ha:At w a j) (hb:At w b k) (va:Valid a) (vb:Valid b) (hv:a.vars=b.vars):
  cn prog 106 [dV a j,dV b k] w fun v N=> ∃M k' e,v=.tuple #[dV M k',vI e]∧N=[dI 56 4 3 M k']∧(((order (bZ Fi a b)).length≤4096∧M=tG Fi a b∧e=0)∨(4096<(order (bZ Fi a b)).length∧e=10)):=by
 refine aE func106 F ntmps106 F ?_
 refine aj (aq (dE (cs:=(dC a j)) (fun n5=>?_)))
 refine aq (dE (cs:=(dC b k)) (fun yf=>?_))
 refine aq (bs bN (fun MK=>?_))
 refine ak F (ah (aj (ae (eN 2 dj bN) (ae (eN 1 dj bN) ?_))))
 have AH:=fun(w1:World) (hI:Inv w [oI MK 25 [(vI 0),(vI 0),nS,nS],oI yf 25 (dC b k),oI n5 25 (dC a j)] w1)=>(haveI:=ef hI;DR w1 a b j k (hI.rI ha) (hI.rI hb) va vb hv Fi 151 ac_)
 refine aq (bm F5 (aX AH) ?_)
 clear AH
 rintro vr O' ⟨N,rfl,M,k',e,rfl,rfl,QI⟩
 refine ae (bI (vs:=_)) (ae (bI (vs:=_)) (aq (cq (vs:=(dC M k')) 1 bN ?_)))
 refine ak F (ah (aM (aB ?_)))
 refine j8 (vI e) (i:=1) results106 dj F bN F F F F ?_
 exact⟨[dI 56 4 3 M k'],(by exact Sub.k .z),M,k',e,F,F,QI⟩
theorem Zx (w:World) [dA prog w] (a:cV) (j:DK) (ha:At w a j) (va:Valid a):
  cn prog 102 [dV a j] w fun v N=> ∃k':DK,v=.tuple #[dV (oM a) k',vI 0]∧N=[dI 56 4 3 (oM a) k']:=by
 have h:=ada w a j ha (by have:=va.n4;omega) va.xE (by have:=va.fin;have:=va.n4;omega)
 rw[KO (by rw[vP,eF.2 va]),eF.2 va]at h
 exact h
theorem Jz (w:World) [dA prog w] (cb:Nat) (eb:Option Addr) (en ec vs B:Nat) (e7:Sl w (aD cb) [.slice eb en ec,vI (vs:Int),vI (B:Int)]) (gz:vs≤6) (iY:1≤B) (hB:B≤4096) (e:List eC) (hE:Sl w eb (bQ e)) (kw:en=e.length) (i:Nat) (hp:e[i]? =some ⟨1,0,0,0,0⟩):
  dK prog w (.iface 163 (.agg #[])) 72 [(dJ (aD cb) 0),vN i] [] (tE vs B Rx.none) (¬kv vs Rx.none B):=by
 refine dS func72 F ntmps72 F ?_
 obtain⟨hi,_⟩:=iP hp
 refine aj (aq (bs bN (fun z1=>?_)))
 refine ah (aj (ai F (ae a_ (ae (cz lM F il F F (aK e7) (by first|omega|(simp;done)|(simp;omega)|(simp_all;done)|(simp_all;omega))) (ae (cS dR F F (aK e7) F) (ai F (ae (eA (i:=i) dR cJ F F (aK hE) (by omega) (by rw[cB];omega)) (ae (eW (vs:=[v8 1,v8 0,v8 0,vI 0,vI 0]) dt F cJ F F (bu _) (aK hE) (fW hp)) (aq (bs cJ (fun z2=>?_)))))))))))
 refine aq (cq (vs:=[v8 1,v8 0,v8 0,vI 0,vI 0]) 0 cJ ?_)
 refine ah (aR (aj (ae (bt dt eD) (ae (bq 0 gH) (ah (aV (aj (ae bK (ae (aC cx (ax (by decide))) (ah ?_))))))))))
 refine b_ ?_
 refine aj (ai F (ai F ?_))
 have qP:=fun(w1:World) (hI:Inv w [oI z2 72 [v8 1,v8 0,v8 0,vI 0,vI 0],oI z1 25 [(vI 0),(vI 0),nS,nS]] w1)=>(haveI:=ef hI;Pq w1 cb eb en ec vs B (hI.sl e7) gz)
 refine aq (bm F6 (aX qP) ?_)
 clear qP
 rintro vr O' ⟨N,rfl,kA,rfl,rfl⟩
 have mx:=fun(w1:World) (hI:Inv w [dI 56 4 3 (fP (vs:Int) true) kA,oI z2 72 [v8 1,v8 0,v8 0,vI 0,vI 0],oI z1 25 [(vI 0),(vI 0),nS,nS]] w1)=>(haveI:=ef hI;Zx w1 (fP (vs:Int) true) kA (hI.at (k:=kA) (mG 0)) (eV gz).valid)
 refine aq (bm ML (aX mx) ?_)
 clear mx
 rintro vr O' ⟨N,rfl,kr,rfl,rfl⟩
 refine ae (bI (vs:=_)) (ae (bI (vs:=_)) ?_)
 have MM:=fun(w1:World) (hI:Inv w [dI 56 4 3 (oM (fP (vs:Int) true)) kr,dI 56 4 3 (fP (vs:Int) true) kA,oI z2 72 [v8 1,v8 0,v8 0,vI 0,vI 0],oI z1 25 [(vI 0),(vI 0),nS,nS]] w1)=>(haveI:=ef hI;nN w1 cb eb en ec vs B (hI.sl e7) (oM (fP (vs:Int) true)) kr 0)
 refine eJ F (e8 sT (dK.pure MM) F (fun z _=>⟨F,fun h9=>z ⟨F,h9⟩⟩) ?_)
 clear MM
 rintro vr O' ⟨N,rfl,rfl,rfl,_,Fc⟩
 have F1:=MN gz Fc
 refine aq (cq (vs:=(dC (oM (fP (vs:Int) true)) kr)) 3 bN ?_)
 refine ah (aM (aB ?_))
 refine cN (i:=3) results72 dj F bN F F F ?_
 exact⟨[dI 56 4 3 (oM (fP (vs:Int) true)) kr],(by exact Sub.k .z),(oM (fP (vs:Int) true)),kr,F,F,F1,Fc⟩
theorem MO (w:World) [dA prog w] (cb:Nat) (eb:Option Addr) (en ec vs B:Nat) (e7:Sl w (aD cb) [.slice eb en ec,vI (vs:Int),vI (B:Int)]) (gz:vs≤6) (iY:1≤B) (hB:B≤4096) (e:List eC) (hE:Sl w eb (bQ e)) (kw:en=e.length) (i:Nat) (a:Rx) (j:Nat) (hp:e[i]? =some ⟨7,0,0,(j:Int),0⟩) (QH: ∀(w1:World) [dA prog w1],Inv w [] w1→dK prog w1 (.iface 163 (.agg #[])) 72 [(dJ (aD cb) 0),vN j] [] (tE vs B a) (¬kv vs a B)):
  dK prog w (.iface 163 (.agg #[])) 72 [(dJ (aD cb) 0),vN i] [] (tE vs B (.not a)) (¬kv vs (.not a) B):=by
 refine dS func72 F ntmps72 F ?_
 obtain⟨hi,_⟩:=iP hp
 refine aj (aq (bs bN (fun z1=>?_)))
 refine ah (aj (ai F (ae a_ (ae (cz lM F il F F (aK e7) (by first|omega|(simp;done)|(simp;omega)|(simp_all;done)|(simp_all;omega))) (ae (cS dR F F (aK e7) F) (ai F (ae (eA (i:=i) dR cJ F F (aK hE) (by omega) (by rw[cB];omega)) (ae (eW (vs:=[v8 7,v8 0,v8 0,vN j,vI 0]) dt F cJ F F (bu _) (aK hE) (fW hp)) (aq (bs cJ (fun z2=>?_)))))))))))
 refine aq (cq (vs:=[v8 7,v8 0,v8 0,vN j,vI 0]) 0 cJ ?_)
 refine ah (aR (aj (ae (bt dt eD) (ae (bq 0 gH) (ah (aV (aj (ae bK (ae (aC cx (am (by decide))) (ah (a8 (aj (ae bK (ae (aC cx (am (by decide))) ?_))))))))))))))
 refine ah (a8 (aj (ae bK (ae (aC cx (am (by decide))) (ah (a8 (aj (ae bK (ae (aC cx (ax (by decide))) ?_)))))))))
 refine ah ?_
 refine b_ ?_
 refine aj (ai F (ai F (ae (bt dt bF) (ae (bq 0 ey) ?_))))
 have nK:=fun(w1:World) (hI:Inv w [oI z2 72 [v8 7,v8 0,v8 0,vN j,vI 0],oI z1 25 [(vI 0),(vI 0),nS,nS]] w1)=>(haveI:=ef hI;QH w1 hI.lK)
 refine eJ F (e8 qa (dK.pure nK) F (fun z _=>⟨F,fun h9=>z h9.1⟩) ?_)
 clear nK
 rintro vr O' ⟨N,rfl,MA,kA,rfl,rfl,qZ,Jx⟩
 have AM:=gY qZ hB
 have MP:=fun(w1:World) (hI:Inv w [dI 56 4 3 MA kA,oI z2 72 [v8 7,v8 0,v8 0,vN j,vI 0],oI z1 25 [(vI 0),(vI 0),nS,nS]] w1)=>(haveI:=ef hI;Zx w1 MA kA (hI.at (k:=kA) (mG 0)) qZ.valid)
 refine aq (bm ML (aX MP) ?_)
 clear MP
 rintro vr O' ⟨N,rfl,kr,rfl,rfl⟩
 refine ae (bI (vs:=_)) (ae (bI (vs:=_)) ?_)
 have Dn:=fun(w1:World) (hI:Inv w [dI 56 4 3 (oM MA) kr,dI 56 4 3 MA kA,oI z2 72 [v8 7,v8 0,v8 0,vN j,vI 0],oI z1 25 [(vI 0),(vI 0),nS,nS]] w1)=>(haveI:=ef hI;nN w1 cb eb en ec vs B (hI.sl e7) (oM MA) kr 0)
 refine eJ F (e8 sT (dK.pure Dn) F (fun z _=>⟨F,fun h9=>z ⟨F,by rw[AM];exact h9.2⟩⟩) ?_)
 clear Dn
 rintro vr O' ⟨N,rfl,rfl,rfl,_,SG⟩
 have F1:=notM qZ.toHasL SG
 have Fc:kv vs (.not a) B:=⟨Jx,by rw[←AM];exact SG⟩
 refine aq (cq (vs:=(dC (oM MA) kr)) 3 bN ?_)
 refine ah (aM (aB ?_))
 refine cN (i:=3) results72 dj F bN F F F ?_
 exact⟨[dI 56 4 3 (oM MA) kr],(by exact Sub.k .z),(oM MA),kr,F,F,F1,Fc⟩
theorem MQ (w:World) [dA prog w] (cb:Nat) (eb:Option Addr) (en ec vs B:Nat) (e7:Sl w (aD cb) [.slice eb en ec,vI (vs:Int),vI (B:Int)]) (gz:vs≤6) (iY:1≤B) (hB:B≤4096) (e:List eC) (hE:Sl w eb (bQ e)) (kw:en=e.length) (i:Nat) (a b:Rx) (j k:Nat) (hp:e[i]? =some ⟨5,0,0,(j:Int),(k:Int)⟩) (QH: ∀(w1:World) [dA prog w1],Inv w [] w1→dK prog w1 (.iface 163 (.agg #[])) 72 [(dJ (aD cb) 0),vN j] [] (tE vs B a) (¬kv vs a B)) (Zt: ∀(w1:World) [dA prog w1],Inv w [] w1→dK prog w1 (.iface 163 (.agg #[])) 72 [(dJ (aD cb) 0),vN k] [] (tE vs B b) (¬kv vs b B)):
  dK prog w (.iface 163 (.agg #[])) 72 [(dJ (aD cb) 0),vN i] [] (tE vs B (.iu a b)) (¬kv vs (.iu a b) B):=by
 refine dS func72 F ntmps72 F ?_
 obtain⟨hi,_⟩:=iP hp
 refine aj (aq (bs bN (fun z1=>?_)))
 refine ah (aj (ai F (ae a_ (ae (cz lM F il F F (aK e7) (by first|omega|(simp;done)|(simp;omega)|(simp_all;done)|(simp_all;omega))) (ae (cS dR F F (aK e7) F) (ai F (ae (eA (i:=i) dR cJ F F (aK hE) (by omega) (by rw[cB];omega)) (ae (eW (vs:=[v8 5,v8 0,v8 0,vN j,vN k]) dt F cJ F F (bu _) (aK hE) (fW hp)) (aq (bs cJ (fun z2=>?_)))))))))))
 refine aq (cq (vs:=[v8 5,v8 0,v8 0,vN j,vN k]) 0 cJ ?_)
 refine ah (aR (aj (ae (bt dt eD) (ae (bq 0 gH) (ah (aV (aj (ae bK (ae (aC cx (am (by decide))) (ah (a8 (aj (ae bK (ae (aC cx (am (by decide))) ?_))))))))))))))
 refine ah (a8 (aj (ae bK (ae (aC cx (am (by decide))) (ah (a8 (aj (ae bK (ae (aC cx (am (by decide))) ?_)))))))))
 refine ah (a8 (aj (ae bK (ae (aC cx (am (by decide))) (ah (a8 (aj (ae bK (ae (aC cx (ax (by decide))) ?_)))))))))
 refine ah ?_
 refine b_ ?_
 refine aR ?_
 refine fS [(0,0),(1,0),(2,0),(3,0),(5,0),(6,0),(7,0),(4,1),(8,1),(9,1),(10,0),(11,0),(12,2),(13,2)] ?_
 refine aw F aI (aw F aI (aw F (bt dt bF) (aw F (bq 0 ey) (aw F aI (aw F (bt dt bF) (aw F (bq 0 ey) ?_))))))
 have MS:=fun(w1:World) (hI:Inv w [oI z2 72 [v8 5,v8 0,v8 0,vN j,vN k],oI z1 25 [(vI 0),(vI 0),nS,nS]] w1)=>(haveI:=ef hI;QH w1 hI.lK)
 refine iD F F (e8 qa (dK.pure MS) F (fun z _=>⟨F,fun h9=>z h9.1⟩) ?_)
 clear MS
 rintro vr O' ⟨N,rfl,MA,kA,rfl,rfl,qZ,Jx⟩
 refine⟨by exact Sub.d (.k (.k .z)),?_⟩
 have AM:=gY qZ hB
 have MT:=fun(w1:World) (hI:Inv w [dI 56 4 3 MA kA,oI z2 72 [v8 5,v8 0,v8 0,vN j,vN k],oI z1 25 [(vI 0),(vI 0),nS,nS]] w1)=>(haveI:=ef hI;Zt w1 hI.lK)
 refine iD F F (e8 qa (dK.pure MT) F (fun z _=>⟨F,fun h9=>z h9.2.1⟩) ?_)
 clear MT
 rintro vr O' ⟨N,rfl,MB,kB,rfl,rfl,zT,Jy⟩
 refine⟨by exact Sub.d (.d (.k (.k .z))),?_⟩
 have SF:=gY zT hB
 have Zy:=fun(w1:World) (hI:Inv w [dI 56 4 3 MB kB,dI 56 4 3 MA kA,oI z2 72 [v8 5,v8 0,v8 0,vN j,vN k],oI z1 25 [(vI 0),(vI 0),nS,nS]] w1)=>(haveI:=ef hI;orE w1 MA MB kA kB (hI.at (k:=kA) (mG 1)) (hI.at (k:=kB) (mG 0)) qZ.valid zT.valid (by rw[qZ.vars,zT.vars]))
 refine cH F F (bm U7 (aX Zy) ?_)
 clear Zy
 rintro vr O' ⟨N,rfl,MR,kr,ee,rfl,rfl,QI⟩
 refine⟨by exact Sub.d (.d (.d (.k (.k .z)))),?_⟩
 refine aw F (bI (vs:=_)) (aw F (bI (vs:=_)) ?_)
 have MU:=fun(w1:World) (hI:Inv w [dI 56 4 3 MR kr,dI 56 4 3 MB kB,dI 56 4 3 MA kA,oI z2 72 [v8 5,v8 0,v8 0,vN j,vN k],oI z1 25 [(vI 0),(vI 0),nS,nS]] w1)=>(haveI:=ef hI;nN w1 cb eb en ec vs B (hI.sl e7) MR kr ee)
 refine sW F F (e8 sT (dK.pure MU) F (fun z _=>⟨F,fun h9=>by
  have h8:=h9.2.2
  rw[←AM,←SF]at h8
  rcases QI with⟨_,rfl,rfl⟩|⟨h7,_⟩
  ·exact z ⟨F,h8.2⟩
  ·exact absurd h8.1 (by omega)⟩) ?_)
 clear MU
 rintro vr O' ⟨N,rfl,rfl,rfl,Ks,SG⟩
 obtain⟨ho,Zz⟩:(order (bZ Fi MA MB)).length≤4096∧MR=tG Fi MA MB:=QI.elim (fun h9=>⟨h9.1,h9.2.1⟩) (fun h9=>absurd h9.2 (by omega))
 have F1:fQ (vs:Int) B MR (fx (.iu a b)):=by subst Zz;exact opM qZ zT ho SG
 have Fc:kv vs (.iu a b) B:=⟨Jx,Jy,by rw[←AM,←SF];exact⟨ho,Zz▸SG⟩⟩
 refine cy F F (cq (vs:=(dC MR kr)) 4 bN ?_)
 refine cA ?_
 refine aM (aB ?_)
 refine cN (i:=4) results72 dj F bN F F F ?_
 exact⟨[dI 56 4 3 MR kr],(by exact Sub.k .z),MR,kr,F,F,F1,Fc⟩
theorem MV (w:World) [dA prog w] (cb:Nat) (eb:Option Addr) (en ec vs B:Nat) (e7:Sl w (aD cb) [.slice eb en ec,vI (vs:Int),vI (B:Int)]) (gz:vs≤6) (iY:1≤B) (hB:B≤4096) (e:List eC) (hE:Sl w eb (bQ e)) (kw:en=e.length) (i:Nat) (a b:Rx) (j k:Nat) (hp:e[i]? =some ⟨6,0,0,(j:Int),(k:Int)⟩) (QH: ∀(w1:World) [dA prog w1],Inv w [] w1→dK prog w1 (.iface 163 (.agg #[])) 72 [(dJ (aD cb) 0),vN j] [] (tE vs B a) (¬kv vs a B)) (Zt: ∀(w1:World) [dA prog w1],Inv w [] w1→dK prog w1 (.iface 163 (.agg #[])) 72 [(dJ (aD cb) 0),vN k] [] (tE vs B b) (¬kv vs b B)):
  dK prog w (.iface 163 (.agg #[])) 72 [(dJ (aD cb) 0),vN i] [] (tE vs B (.and a b)) (¬kv vs (.and a b) B):=by
 refine dS func72 F ntmps72 F ?_
 obtain⟨hi,_⟩:=iP hp
 refine aj (aq (bs bN (fun z1=>?_)))
 refine ah (aj (ai F (ae a_ (ae (cz lM F il F F (aK e7) (by first|omega|(simp;done)|(simp;omega)|(simp_all;done)|(simp_all;omega))) (ae (cS dR F F (aK e7) F) (ai F (ae (eA (i:=i) dR cJ F F (aK hE) (by omega) (by rw[cB];omega)) (ae (eW (vs:=[v8 6,v8 0,v8 0,vN j,vN k]) dt F cJ F F (bu _) (aK hE) (fW hp)) (aq (bs cJ (fun z2=>?_)))))))))))
 refine aq (cq (vs:=[v8 6,v8 0,v8 0,vN j,vN k]) 0 cJ ?_)
 refine ah (aR (aj (ae (bt dt eD) (ae (bq 0 gH) (ah (aV (aj (ae bK (ae (aC cx (am (by decide))) (ah (a8 (aj (ae bK (ae (aC cx (am (by decide))) ?_))))))))))))))
 refine ah (a8 (aj (ae bK (ae (aC cx (am (by decide))) (ah (a8 (aj (ae bK (ae (aC cx (am (by decide))) ?_)))))))))
 refine ah (a8 (aj (ae bK (ae (aC cx (am (by decide))) (ah (a8 (aj (ae bK (ae (aC cx (am (by decide))) ?_)))))))))
 refine ah (a8 (aj (ae bK (ae (aC cx (ax (by decide))) (ah ?_)))))
 refine b_ ?_
 refine aR ?_
 refine fS [(0,0),(1,0),(2,0),(3,0),(5,0),(6,0),(7,0),(4,1),(8,1),(9,1),(10,0),(11,0),(12,2),(13,2)] ?_
 refine aw F aI (aw F aI (aw F (bt dt bF) (aw F (bq 0 ey) (aw F aI (aw F (bt dt bF) (aw F (bq 0 ey) ?_))))))
 have ZA:=fun(w1:World) (hI:Inv w [oI z2 72 [v8 6,v8 0,v8 0,vN j,vN k],oI z1 25 [(vI 0),(vI 0),nS,nS]] w1)=>(haveI:=ef hI;QH w1 hI.lK)
 refine iD F F (e8 qa (dK.pure ZA) F (fun z _=>⟨F,fun h9=>z h9.1⟩) ?_)
 clear ZA
 rintro vr O' ⟨N,rfl,MA,kA,rfl,rfl,qZ,Jx⟩
 refine⟨by exact Sub.d (.k (.k .z)),?_⟩
 have AM:=gY qZ hB
 have LP:=fun(w1:World) (hI:Inv w [dI 56 4 3 MA kA,oI z2 72 [v8 6,v8 0,v8 0,vN j,vN k],oI z1 25 [(vI 0),(vI 0),nS,nS]] w1)=>(haveI:=ef hI;Zt w1 hI.lK)
 refine iD F F (e8 qa (dK.pure LP) F (fun z _=>⟨F,fun h9=>z h9.2.1⟩) ?_)
 clear LP
 rintro vr O' ⟨N,rfl,MB,kB,rfl,rfl,zT,Jy⟩
 refine⟨by exact Sub.d (.d (.k (.k .z))),?_⟩
 have SF:=gY zT hB
 have ZB:=fun(w1:World) (hI:Inv w [dI 56 4 3 MB kB,dI 56 4 3 MA kA,oI z2 72 [v8 6,v8 0,v8 0,vN j,vN k],oI z1 25 [(vI 0),(vI 0),nS,nS]] w1)=>(haveI:=ef hI;ac9 w1 MA MB kA kB (hI.at (k:=kA) (mG 1)) (hI.at (k:=kB) (mG 0)) qZ.valid zT.valid (by rw[qZ.vars,zT.vars]))
 refine cH F F (bm U8 (aX ZB) ?_)
 clear ZB
 rintro vr O' ⟨N,rfl,MR,kr,ee,rfl,rfl,QI⟩
 refine⟨by exact Sub.d (.d (.d (.k (.k .z)))),?_⟩
 refine aw F (bI (vs:=_)) (aw F (bI (vs:=_)) ?_)
 have ZC:=fun(w1:World) (hI:Inv w [dI 56 4 3 MR kr,dI 56 4 3 MB kB,dI 56 4 3 MA kA,oI z2 72 [v8 6,v8 0,v8 0,vN j,vN k],oI z1 25 [(vI 0),(vI 0),nS,nS]] w1)=>(haveI:=ef hI;nN w1 cb eb en ec vs B (hI.sl e7) MR kr ee)
 refine sW F F (e8 sT (dK.pure ZC) F (fun z _=>⟨F,fun h9=>by
  have h8:=h9.2.2
  rw[←AM,←SF]at h8
  rcases QI with⟨_,rfl,rfl⟩|⟨h7,_⟩
  ·exact z ⟨F,h8.2⟩
  ·exact absurd h8.1 (by omega)⟩) ?_)
 clear ZC
 rintro vr O' ⟨N,rfl,rfl,rfl,Ks,SG⟩
 obtain⟨ho,Zz⟩:(order (bZ sB MA MB)).length≤4096∧MR=tG sB MA MB:=QI.elim (fun h9=>⟨h9.1,h9.2.1⟩) (fun h9=>absurd h9.2 (by omega))
 have F1:fQ (vs:Int) B MR (fx (.and a b)):=by subst Zz;exact opM qZ zT ho SG
 have Fc:kv vs (.and a b) B:=⟨Jx,Jy,by rw[←AM,←SF];exact⟨ho,Zz▸SG⟩⟩
 refine cy F F (cq (vs:=(dC MR kr)) 4 bN ?_)
 refine cA ?_
 refine aM (aB ?_)
 refine cN (i:=4) results72 dj F bN F F F ?_
 exact⟨[dI 56 4 3 MR kr],(by exact Sub.k .z),MR,kr,F,F,F1,Fc⟩
theorem U6.of {cb:Nat} {eb:Option Addr} {en ec vs B:Nat} {e:List eC} (kw:en=e.length):U6 cb eb en ec vs B e:=
 ⟨fun w _ gz iY hB e7 hE i hp=>Jz w cb eb en ec vs B e7 gz iY hB e hE kw i hp,fun w _ gz iY hB e7 hE i a j hp hA=>MO w cb eb en ec vs B e7 gz iY hB e hE kw i a j hp hA,
  fun w _ gz iY hB e7 hE i a b j k hp hA hb=>MQ w cb eb en ec vs B e7 gz iY hB e hE kw i a b j k hp hA hb,fun w _ gz iY hB e7 hE i a b j k hp hA hb=>MV w cb eb en ec vs B e7 gz iY hB e hE kw i a b j k hp hA hb⟩
theorem Ng (w:World) [dA prog w] (cb:Nat) (eb:Option Addr) (en ec vs B:Nat) (e7:Sl w (aD cb) [.slice eb en ec,vI (vs:Int),vI (B:Int)]) (gz:vs≤6) (iY:1≤B) (hB:B≤4096) (e:List eC) (hE:Sl w eb (bQ e)) (kw:en=e.length) (i:Nat) (ob:Nat) (fv:Value) (a b:Rx) (j k:Nat) (hp:e[i]? =some ⟨5,0,0,(j:Int),(k:Int)⟩) (hA:nT w cb vs B ob fv a j) (hB:nT w cb vs B ob fv b k) (lb:Option Addr) (lc:Nat) (ls:List Lf) (ks:List LK) (n6:ks.length=ls.length) (hl:ls.length+(Rx.iu a b).lv≤64) (Kz:s6 ls (Rx.iu a b)):
  dK prog w (.iface 163 (.agg #[])) 73 [(.pointer (aD ob)),vN i] ([oI ob 114 [(dJ (aD cb) 0),(.slice lb ls.length lc),fv],av lb lc 118 7 (dp ls ks)]++(cg 3 (eY ls ks)++gK 56 4 3 ls ks)) (fun v O'=> ∃uS uT qk pt pu zz zE,v=.tuple #[(.slice pt (((aU vs (Rx.iu a b) ls).fi).length) pu),(.slice zz (((aU vs (Rx.iu a b) ls).la).length) zE)]∧O'=[oI ob 114 [(dJ (aD cb) 0),(.slice uS (((aU vs (Rx.iu a b) ls).ls).length) uT),fv],av uS uT 118 7 (dp ((aU vs (Rx.iu a b) ls).ls) qk),av pt pu 3 1 (bW ((aU vs (Rx.iu a b) ls).fi)),av zz zE 3 1 (bW ((aU vs (Rx.iu a b) ls).la))]++(cg 3 (eY ((aU vs (Rx.iu a b) ls).ls) qk)++gK 56 4 3 ((aU vs (Rx.iu a b) ls).ls) qk)∧qk.length=(aU vs (Rx.iu a b) ls).ls.length∧okB vs (Rx.iu a b) B) (¬okB vs (Rx.iu a b) B):=by
 refine dS func73 F ntmps73 F ?_
 obtain⟨hi,_⟩:=iP hp
 have Vy:=gu vs a ls
 have adl:=gu vs b (aU vs a ls).ls
 have Z1:=ep vs a ls
 have Z2:=ep vs b (aU vs a ls).ls
 have adm:a.lv+b.lv≤64:=by simp only[Rx.lv]at hl;omega
 simp only[Rx.lv]at hl
 refine aj (ak F (ak F (ah (aj (ai F (ae a_ (ae (bt gC pf) (ae (bq 0 wV) (ae a_ (ae (cz lM F il F F (aK e7) (by first|omega|(simp;done)|(simp;omega)|(simp_all;done)|(simp_all;omega))) (ae (cS dR F F (aK e7) F) (ai F (ae (eA (i:=i) dR cJ F F (aK hE) (by omega) (by rw[cB];omega)) (ae (eW (vs:=[v8 5,v8 0,v8 0,vN j,vN k]) dt F cJ F F (bu _) (aK hE) (fW hp)) (aq (bs cJ (fun z1=>?_)))))))))))))))))
 refine aq (cq (vs:=[v8 5,v8 0,v8 0,vN j,vN k]) 0 cJ ?_)
 refine ah (aR (aj (ae (bt dt eD) (ae (bq 0 gH) (ah (aV (aj (ae bK (ae (aC cx (am (by decide))) (ah (a8 (aj (ae bK (ae (aC cx (ax (by decide))) ?_))))))))))))))
 refine ah ?_
 refine b_ ?_
 refine aj (ai F (ae (bt dt bF) (ae (bq 0 ey) ?_)))
 have Z6:=(hA.frame [oI z1 72 [v8 5,v8 0,v8 0,vN j,vN k]] (O:=[oI z1 72 [v8 5,v8 0,v8 0,vN j,vN k],oI ob 114 [(dJ (aD cb) 0),(.slice lb ls.length lc),fv],av lb lc 118 7 (dp ls ks)]) lb lc ls ks n6 (by first|omega|(rw[ep];omega)) (s6.left Kz) (by exact Sub.dP [oI z1 72 [v8 5,v8 0,v8 0,vN j,vN k]] _ (.dP [oI z1 72 [v8 5,v8 0,v8 0,vN j,vN k]] _ (.k .z))))
 refine eJ F (e8 D7 Z6 F (fun z _=>⟨F,fun h9=>z h9.1⟩) ?_)
 clear Z6
 rintro vr O' ⟨Vz,VA,Z3,Pd,Pe,SO,SP,rfl,rfl,hkA,Jx⟩
 refine ai F (ae (bI (vs:=_)) (ae (bI (vs:=_)) (ak F (ak F (ah (aj (ai F (ae (bt dt bF) (ae (bq 4 ey) ?_)))))))))
 have SU:=(hB.frame [av Pd Pe 3 1 (bW ((aU vs a ls).fi)),av SO SP 3 1 (bW ((aU vs a ls).la)),oI z1 72 [v8 5,v8 0,v8 0,vN j,vN k]] (O:=[oI ob 114 [(dJ (aD cb) 0),(.slice Vz (((aU vs a ls).ls).length) VA),fv],av Vz VA 118 7 (dp ((aU vs a ls).ls) Z3),av Pd Pe 3 1 (bW ((aU vs a ls).fi)),av SO SP 3 1 (bW ((aU vs a ls).la)),oI z1 72 [v8 5,v8 0,v8 0,vN j,vN k]]) Vz VA ((aU vs a ls).ls) Z3 hkA (by first|omega|(rw[ep];omega)) (s6.right Kz) (by exact Sub.rf))
 refine eJ F (e8 D7 SU F (fun z _=>⟨F,fun h9=>z h9.2⟩) ?_)
 clear SU
 rintro vr O' ⟨AQ,AR,QU,Z4,Z5,SQ,SS,rfl,rfl,Qw,Jy⟩
 refine ai F (ae (bI (vs:=_)) (ae (bI (vs:=_)) (ak F (ak F (ah (aj (ai F (ai F (aq (dq 4 cL cL bF F F F F (by rw[ar];omega) (by decide) (Src.row (j:=2) F (by rw[ar];omega)) (by simp[fF]) (by omega) (by decide) (by decide) (fun z2 vd=>?_)))))))))))
 refine ai F (ai F (aq (dq 5 cL cL bF F F F F (by rw[ar];omega) (by decide) (Src.row (j:=3) F (by rw[ar];omega)) (by simp[fF]) (by omega) (by decide) (by decide) (fun z4 KB=>?_))))
 refine ak F (ak F (ah (aM (aB ?_))))
 refine de (.slice z2 (((aU vs a ls).fi.length)+((aU vs b ((aU vs a ls).ls)).fi.length)) vd) (.slice z4 (((aU vs a ls).la.length)+((aU vs b ((aU vs a ls).ls)).la.length)) KB) results73 F F ?_
 exact⟨[oI ob 114 [(dJ (aD cb) 0),(.slice AQ (((aU vs b ((aU vs a ls).ls)).ls).length) AR),fv],av AQ AR 118 7 (dp ((aU vs b ((aU vs a ls).ls)).ls) QU),av z2 vd 3 1 ((bW ((aU vs a ls).fi))++(bW ((aU vs b ((aU vs a ls).ls)).fi))),av z4 KB 3 1 ((bW ((aU vs a ls).la))++(bW ((aU vs b ((aU vs a ls).ls)).la)))]++(cg 3 (eY ((aU vs b ((aU vs a ls).ls)).ls) QU)++gK 56 4 3 ((aU vs b ((aU vs a ls).ls)).ls) QU),(by exact Sub.k (.k (.d (.d (.k (.k (.d .rf))))))),AQ,AR,QU,z2,vd,z4,KB,by show _=Value.tuple #[.slice _ ((aU vs a ls).fi++(aU vs b ((aU vs a ls).ls)).fi).length _,.slice _ ((aU vs a ls).la++(aU vs b ((aU vs a ls).ls)).la).length _];rw[aP,aP],by show _=[_,_,av _ _ _ _ (bW ((aU vs a ls).fi++(aU vs b ((aU vs a ls).ls)).fi)),av _ _ _ _ (bW ((aU vs a ls).la++(aU vs b ((aU vs a ls).ls)).la))]++_;rw[show∀x y:List Nat,bW (x++y)=bW x++bW y from fun x y=>bj,show∀x y:List Nat,bW (x++y)=bW x++bW y from fun x y=>bj];rfl,Qw,Jx,Jy⟩
theorem D_ (w:World) [dA prog w] (cb:Nat) (eb:Option Addr) (en ec vs B:Nat) (e7:Sl w (aD cb) [.slice eb en ec,vI (vs:Int),vI (B:Int)]) (gz:vs≤6) (iY:1≤B) (hB:B≤4096) (e:List eC) (hE:Sl w eb (bQ e)) (kw:en=e.length) (i:Nat) (ob:Nat) (fv:Value) (a:Rx) (j:Nat) (hp:e[i]? =some ⟨10,0,0,(j:Int),0⟩) (ZY: ∀ls,aU vs (Rx.behind a) ls=⟨ls++[⟨10,minOf vs (iA (fun _=>true) (fx a)),[],false⟩],[ls.length],[ls.length]⟩) (Z0: ∀(w1:World) [dA prog w1],Inv w [] w1→dK prog w1 (.iface 163 (.agg #[])) 72 [(dJ (aD cb) 0),vN j] [] (tE vs B a) (¬kv vs a B)) (lb:Option Addr) (lc:Nat) (ls:List Lf) (ks:List LK) (n6:ks.length=ls.length) (hl:ls.length+(Rx.behind a).lv≤64) (Kz:s6 ls (Rx.behind a)):
  dK prog w (.iface 163 (.agg #[])) 73 [(.pointer (aD ob)),vN i] ([oI ob 114 [(dJ (aD cb) 0),(.slice lb ls.length lc),fv],av lb lc 118 7 (dp ls ks)]++(cg 3 (eY ls ks)++gK 56 4 3 ls ks)) (fun v O'=> ∃uS uT qk pt pu zz zE,v=.tuple #[(.slice pt (((aU vs (Rx.behind a) ls).fi).length) pu),(.slice zz (((aU vs (Rx.behind a) ls).la).length) zE)]∧O'=[oI ob 114 [(dJ (aD cb) 0),(.slice uS (((aU vs (Rx.behind a) ls).ls).length) uT),fv],av uS uT 118 7 (dp ((aU vs (Rx.behind a) ls).ls) qk),av pt pu 3 1 (bW ((aU vs (Rx.behind a) ls).fi)),av zz zE 3 1 (bW ((aU vs (Rx.behind a) ls).la))]++(cg 3 (eY ((aU vs (Rx.behind a) ls).ls) qk)++gK 56 4 3 ((aU vs (Rx.behind a) ls).ls) qk)∧qk.length=(aU vs (Rx.behind a) ls).ls.length∧okB vs (Rx.behind a) B) (¬okB vs (Rx.behind a) B):=by
 refine dS func73 F ntmps73 F ?_
 obtain⟨hi,_⟩:=iP hp
 simp only[ZY]
 refine aj (ak F (ak F (ah (aj (ai F (ae a_ (ae (bt gC pf) (ae (bq 0 wV) (ae a_ (ae (cz lM F il F F (aK e7) (by first|omega|(simp;done)|(simp;omega)|(simp_all;done)|(simp_all;omega))) (ae (cS dR F F (aK e7) F) (ai F (ae (eA (i:=i) dR cJ F F (aK hE) (by omega) (by rw[cB];omega)) (ae (eW (vs:=[v8 10,v8 0,v8 0,vN j,vI 0]) dt F cJ F F (bu _) (aK hE) (fW hp)) (aq (bs cJ (fun z1=>?_)))))))))))))))))
 refine aq (cq (vs:=[v8 10,v8 0,v8 0,vN j,vI 0]) 0 cJ ?_)
 refine ah (aR (aj (ae (bt dt eD) (ae (bq 0 gH) (ah (aV (aj (ae bK (ae (aC cx (am (by decide))) (ah (a8 (aj (ae bK (ae (aC cx (am (by decide))) ?_))))))))))))))
 refine ah (a8 (aj (ae bK (ae (aC cx (am (by decide))) (ah (a8 (aj (ae bK (ae (aC cx (ax (by decide))) ?_)))))))))
 refine ah ?_
 refine b_ ?_
 refine T.ds [oI z1 72 [v8 10,v8 0,v8 0,vN j,vI 0],oI ob 114 [(dJ (aD cb) 0),(.slice lb ls.length lc),fv]] [(0,0),(1,0),(2,0),(3,0),(4,0),(5,0),(6,0),(7,0),(8,0),(9,0),(10,0),(11,0),(12,0),(13,0),(14,0),(16,0),(17,0),(18,0),(19,0),(20,0),(21,0),(15,1),(22,1),(23,1),(24,0),(25,1),(26,1),(27,0),(28,0),(29,2)] (by exact Sub.k (.k .z)) ?_
 refine aw F aI (aw F aI (aw F a_ (aw F (bt gC gE) (aw F (bq 1 fH) (aw F (bt dt eD) (aw F (bq 0 gH) (aw F aI (aw F a_ (aw F (bt gC pf) (aw F (bq 1 wV) (aw F aI (aw F a_ (aw F (bt gC pf) (aw F (bq 1 wV) (aw F aI (aw F a_ (aw F (bt gC pf) (aw F (bq 1 wV) (aw F (bt dt bF) (aw F (bq 0 ey) ?_))))))))))))))))))))
 have SV:=fun(w1:World) (hI:Inv w ([oI z1 72 [v8 10,v8 0,v8 0,vN j,vI 0],oI ob 114 [(dJ (aD cb) 0),(.slice lb ls.length lc),fv],av lb lc 118 7 (dp ls ks)]++(cg 3 (eY ls ks)++gK 56 4 3 ls ks)) w1)=>(haveI:=ef hI;Pq w1 cb eb en ec vs B (hI.sl e7) gz)
 refine cH F F (bm F6 (aX SV) ?_)
 clear SV
 rintro vr O' ⟨N,rfl,kS,rfl,rfl⟩
 refine⟨by exact Sub.d (.k (.k .z)),?_⟩
 have SW:=fun(w1:World) (hI:Inv w ([dI 56 4 3 (fP (vs:Int) true) kS,oI z1 72 [v8 10,v8 0,v8 0,vN j,vI 0],oI ob 114 [(dJ (aD cb) 0),(.slice lb ls.length lc),fv],av lb lc 118 7 (dp ls ks)]++(cg 3 (eY ls ks)++gK 56 4 3 ls ks)) w1)=>(haveI:=ef hI;Z0 w1 hI.lK)
 refine iD F F (e8 qa (dK.pure SW) F (fun z _=>⟨F,fun h9=>z h9.1⟩) ?_)
 clear SW
 rintro vr O' ⟨N,rfl,MA,kA,rfl,rfl,qZ,hO⟩
 refine⟨by exact Sub.d (.d (.k (.k .z))),?_⟩
 have AM:=gY qZ hB
 have SX:=fun(w1:World) (hI:Inv w ([dI 56 4 3 MA kA,dI 56 4 3 (fP (vs:Int) true) kS,oI z1 72 [v8 10,v8 0,v8 0,vN j,vI 0],oI ob 114 [(dJ (aD cb) 0),(.slice lb ls.length lc),fv],av lb lc 118 7 (dp ls ks)]++(cg 3 (eY ls ks)++gK 56 4 3 ls ks)) w1)=>(haveI:=ef hI;UR w1 cb eb en ec vs B (hI.sl e7) gz iY hB (fP (vs:Int) true) kS (hI.at (k:=kS) (mG 1)) (eV gz).valid F MA kA (hI.at (k:=kA) (mG 0)) qZ.valid (by rw[qZ.vars];rfl))
 refine iD F F (e8 F2 (dK.pure SX) F (fun z _=>⟨F,fun h9=>z (by rw[AM];exact h9.2)⟩) ?_)
 clear SX
 rintro vr O' ⟨N,rfl,M,kM,rfl,rfl,U4,U5⟩
 refine⟨by exact Sub.d (.d (.d (.k (.k .z)))),?_⟩
 have eM:M=minOf vs (iA (fun _=>true) (fx a)):=gY (U4.to fun w9 h9=>pT (fun u hu=>(eV gz).iH u hu) (fun u hu=>qZ.iH u hu) h9) hB
 refine aw F (cT (cs:=[v8 10,(vI M.vars),(vI M.start),(.slice kM.nb M.next.length kM.nc),(.slice kM.fb M.a7.length kM.fc),nS,(.bool false)]) B2 fj (by kernel_rfl)) ?_
 refine cH F F (cK (m:=1) (parts:=[(0,_)]) (cs:=[v8 10,(vI M.vars),(vI M.start),(.slice kM.nb M.next.length kM.nc),(.slice kM.fb M.a7.length kM.fc),nS,(.bool false)]) fH fj (by decide) (by kernel_rfl) F (fun z2=>⟨by exact Sub.d (.d (.d (.d (.k (.k .z))))),?_⟩))
 refine cH F F (dq 6 fH fH fj F F F F (by rw[eg n6]) (by decide) (Src.row (j:=0) F (by simp)) (by simp[fF]) (by omega) (by decide) (by decide) (fun z3 oK=>⟨by exact Sub.d (.d (.d (.d (.k (.k .z))))),?_⟩))
 refine aw F a_ (aw F (bt gC gE) ?_)
 refine cy F F (cq (vs:=[(.slice z3 (ls.length+1) oK)]) 5 gE ?_)
 refine cA ?_
 refine aj (ai F (ae a_ (ae (bt gC gE) (ae (bq 5 fH) (ae (cQ fH) (ae (bL (fI F F (by omega)) (v':=vN ls.length) (au (Value.int .i64) (by omega))) (ak F (ah (aR (T.fq 3 1 ?_))))))))))
 refine bg (ai F (aq (cR (v:=vN ls.length) cL bF F F F (fun z5=>?_))))
 refine ai F (aq (cR (v:=vN ls.length) cL bF F F F (fun z6=>?_)))
 refine ak F (ak F (ah (aM (aB ?_))))
 refine de (.slice (aD z5) 1 1) (.slice (aD z6) 1 1) results73 F F ?_
 exact⟨[oI ob 114 [(dJ (aD cb) 0),(.slice z3 ((ls++[(⟨10,minOf vs (iA (fun _=>true) (fx a)),[],false⟩:Lf)]).length) oK),fv],av z3 oK 118 7 (dp (ls++[(⟨10,minOf vs (iA (fun _=>true) (fx a)),[],false⟩:Lf)]) (ks++[(⟨kM,none,0⟩:LK)])),av (aD z5) 1 3 1 (bW [ls.length]),av (aD z6) 1 3 1 (bW [ls.length])]++(cg 3 (eY (ls++[(⟨10,minOf vs (iA (fun _=>true) (fx a)),[],false⟩:Lf)]) (ks++[(⟨kM,none,0⟩:LK)]))++gK 56 4 3 (ls++[(⟨10,minOf vs (iA (fun _=>true) (fx a)),[],false⟩:Lf)]) (ks++[(⟨kM,none,0⟩:LK)])),by
   rw[s8 n6,s9,vo n6,ri n6,aP,←eM]
   exact rj [oI ob 114 [(dJ (aD cb) 0),(.slice z3 (ls.length+1) oK),fv],av z3 oK 118 7 ((dp ls ks)++[v8 10,(vI M.vars),(vI M.start),(.slice kM.nb M.next.length kM.nc),(.slice kM.fb M.a7.length kM.fc),nS,(.bool false)]),av (aD z5) 1 3 1 [vN ls.length],av (aD z6) 1 3 1 [vN ls.length]] [av (aD z6) 1 3 1 [vN ls.length],av (aD z5) 1 3 1 [vN ls.length],av none 0 3 1 [],av (aD z2) 1 118 7 [v8 10,(vI M.vars),(vI M.start),(.slice kM.nb M.next.length kM.nc),(.slice kM.fb M.a7.length kM.fc),nS,(.bool false)],dI 56 4 3 M kM,dI 56 4 3 MA kA,dI 56 4 3 (fP (vs:Int) true) kS,oI z1 72 [v8 10,v8 0,v8 0,vN j,vI 0],oI ob 114 [(dJ (aD cb) 0),(.slice z3 (ls.length+1) oK),fv],av z3 oK 118 7 ((dp ls ks)++[v8 10,(vI M.vars),(vI M.start),(.slice kM.nb M.next.length kM.nc),(.slice kM.fb M.a7.length kM.fc),nS,(.bool false)])] _ _ _ _ (by exact Sub.dP [av (aD z6) 1 3 1 [vN ls.length],av (aD z5) 1 3 1 [vN ls.length],av none 0 3 1 [],av (aD z2) 1 118 7 [v8 10,(vI M.vars),(vI M.start),(.slice kM.nb M.next.length kM.nc),(.slice kM.fb M.a7.length kM.fc),nS,(.bool false)],dI 56 4 3 M kM,dI 56 4 3 MA kA,dI 56 4 3 (fP (vs:Int) true) kS,oI z1 72 [v8 10,v8 0,v8 0,vN j,vI 0]] _ (.dP [av (aD z6) 1 3 1 [vN ls.length],av (aD z5) 1 3 1 [vN ls.length],av none 0 3 1 [],av (aD z2) 1 118 7 [v8 10,(vI M.vars),(vI M.start),(.slice kM.nb M.next.length kM.nc),(.slice kM.fb M.a7.length kM.fc),nS,(.bool false)],dI 56 4 3 M kM,dI 56 4 3 MA kA,dI 56 4 3 (fP (vs:Int) true) kS,oI z1 72 [v8 10,v8 0,v8 0,vN j,vI 0]] _ (.dP [av (aD z6) 1 3 1 [vN ls.length]] _ (.k (.k (.d (.k .z))))))),z3,oK,(ks++[(⟨kM,none,0⟩:LK)]),(aD z5),1,(aD z6),1,F,F,by simp[n6],⟨hO,by rw[←AM];exact U5⟩⟩
theorem VB.of {cb:Nat} {eb:Option Addr} {en ec vs B:Nat} {e:List eC} (kw:en=e.length):VB cb eb en ec vs B e:=
 ⟨U6.of kw,fun w _ gz iY hB e7 hE ob fv i a b j k hp hA hb=>Ng w cb eb en ec vs B e7 gz iY hB e hE kw i ob fv a b j k hp hA hb,
  fun w _ gz iY hB e7 hE ob fv i a j hp hA=>D_ w cb eb en ec vs B e7 gz iY hB e hE kw i ob fv a j hp (fun _=>rfl) hA⟩
end Go.Proofs.YtgdbfideeeegmaaGreatDoor

namespace Go.Lx
open Go.RowKit Go.Proofs.YtgdbfideeeegmaaGreatDoor
def im (v:Nat) (fs:List Nat) (x:eC):Except Nat Nat:=
 if oF v x≠0 then .error (oF v x)
 else if dU x.op=1 then(if fs.length=0∨x.a≠(fs.length:Int)-1 then .error 8 else .ok (fs.getD (fs.length-1) 0))
 else if dU x.op=2 then(if fs.length=0∨x.b≠(fs.length:Int)-1∨fs.getD (fs.length-1) 0=0∨x.a≠(fs.getD (fs.length-1) 0:Int)-1 then .error 8 else .ok (fs.getD x.a.toNat 0))
 else .ok fs.length
def uz (v:Nat) (iH:Except Nat (List Nat)) (x:eC):Except Nat (List Nat):=
 match iH with
 | .error n=>.error n
 | .ok fs=>match im v fs x with
  | .error n=>.error n
  | .ok b=>.ok (fs++[b])
def ki (v:Nat) (e:List eC):Except Nat (List Nat):=e.foldl (uz v) (.ok [])
theorem AU (v:Nat) {e:List eC} {i:Nat} (h:i<e.length):ki v (e.take (i+1))=uz v (ki v (e.take i)) e[i]:=by
 unfold ki;rw[aH h,cO];rfl
theorem uA (v n:Nat): ∀(e:List eC),e.foldl (uz v) (.error n)=.error n
 | []=>rfl
 |x::e=>by rw[cP];exact uA v n e
theorem NE {v n:Nat} {e:List eC} {i:Nat} (h:ki v (e.take i)=.error n):ki v e=.error n:=by
 conv=>lhs;rw[←List.take_append_drop i e]
 unfold ki at h⊢;rw[cO,h,uA]
theorem j4 {v n:Nat} {e:List eC} {fs:List Nat} {i:Nat} (hi:i<e.length) (hf:ki v (e.take i)=.ok fs) (hs:im v fs e[i]=.error n):ki v e=.error n:=by
 refine NE (i:=i+1) ?_
 rw[AU v hi,hf];unfold uz;simp only[hs]
theorem rk {v b:Nat} {e:List eC} {fs:List Nat} {i:Nat} (hi:i<e.length) (hf:ki v (e.take i)=.ok fs) (hs:im v fs e[i]=.ok b):ki v (e.take (i+1))=.ok (fs++[b]):=by
 rw[AU v hi,hf];unfold uz;simp only[hs]
theorem rT {fs:List Nat} {i b:Nat} (hl:fs.length=i) (h: ∀j,j<i→fs.getD j 0≤j) (hb:b≤i): ∀j,j<i+1→(fs++[b]).getD j 0≤j:=fun j hj=>by
 by_cases e:j=i
 ·subst e;rw[az,bM (by omega),hl,fL];exact hb
 ·have:=h j (by omega)
  rw[az]at this⊢
  rw[bE (by omega)];exact this
def nL (e:List eC):Nat→Nat→Bool→Bool
 |0,_,_=>true
 |f+1,i,fr=>
  if((e.getD i ⟨0,0,0,0,0⟩).op=9∨(e.getD i ⟨0,0,0,0,0⟩).op=10)∧fr=false then false
  else(decide (dU (e.getD i ⟨0,0,0,0,0⟩).op<1)||nL e f (e.getD i ⟨0,0,0,0,0⟩).a.toNat (fr&&decide ((e.getD i ⟨0,0,0,0,0⟩).op=4∨(e.getD i ⟨0,0,0,0,0⟩).op=5)))&&
   (decide (dU (e.getD i ⟨0,0,0,0,0⟩).op<2)||nL e f (e.getD i ⟨0,0,0,0,0⟩).b.toNat (fr&&decide ((e.getD i ⟨0,0,0,0,0⟩).op=4∨(e.getD i ⟨0,0,0,0,0⟩).op=5)))
theorem nV {e:List eC} {i:Nat} (h:i<e.length):e.getD i ⟨0,0,0,0,0⟩=e[i]:=by rw[az,ap h];rfl
theorem na {e:List eC} {f i:Nat} {fr:Bool} (h:i<e.length):nL e (f+1) i fr=if(e[i].op=9∨e[i].op=10)∧fr=false then false else(decide (dU e[i].op<1)||nL e f e[i].a.toNat (fr&&decide (e[i].op=4∨e[i].op=5)))&&(decide (dU e[i].op<2)||nL e f e[i].b.toNat (fr&&decide (e[i].op=4∨e[i].op=5))):=by
 rw[nL,nV h]
end Go.Lx

namespace Go.Proofs.YtgdbfideeeegmaaGreatDoor
open Go.Lx Go.RowKit _root_.Go.Proofs.Tryz
theorem QX (w:World) [dA prog w] (eb:Option Addr) (ec:Nat) (e:List eC) (hE:Sl w eb (bQ e)) (uV:e.length≤64) (mw: ∀x∈e,x.p<256∧x.n<256) (v:Nat) (hv:v≤6):
  cn prog 89 [.slice eb e.length ec,vN v] w fun r N=>(∃n,ki v e=.error n∧r=.tuple #[nS,vI (n:Int)]∧N=[])∨(∃fs b c,ki v e=.ok fs∧r=.tuple #[.slice b e.length c,vI 0]∧N=[av b c 3 1 (bW fs)]):=by
 refine aE func89 F ntmps89 F ?_
 refine aj (ak F (ak F (ah (aR (aj (ai F (ae (cQ dR) (ai F (ah (aV (T.fq 3 1 ?_)))))))))))
 refine dZ (fun(i:Nat) ρ O=> ∃(fs:List Nat) (b:Option Addr) (c:Nat),O=[av b c 3 1 (bW fs)]∧i≤e.length∧fs.length=i∧ki v (e.take i)=.ok fs∧(∀j,j<i→fs.getD j 0≤j)∧df [(0,(.slice eb e.length ec)),(1,vN v),(4,(.slice b i c)),(10,(.slice eb e.length ec)),(11,vI (e.length:Int)),(12,vN i)] ρ) (fun i=>e.length-i) 0 ?_ ?_
 ·exact⟨[],none,0,F,bl _,F,F,fun j hj=>absurd hj (by omega),(.of F)⟩
 rintro i ρ O ⟨fs,b,c,rfl,hi,ug,oJ,qf,hH⟩
 obtain⟨gA,rfl⟩:=hH.elim
 clear hH
 refine aj (ae cU (ah (aR (aZ F (fun hc=>?_) (fun hc=>?_)))))
 ·have k8:i<e.length:=by omega
  have OZ:=mw _ (aN k8)
  refine aL (aR (aV (aj (ai F (ae (eA (i:=i) dR cJ F F (aK hE) k8 (by rw[cB];omega)) (ae (eW (vs:=e[i].cl) dt F cJ F F (bu _) (aK hE) (kP k8)) (aq (bs cJ (fun z1=>?_)))))))))
  refine ak F (aq (cq (vs:=e[i].cl) 0 cJ ?_))
  refine ah (aR (aj (ae (eN 0 dt cJ) (ai F ?_))))
  have qP:=fun(w1:World) (hI:Inv w [oI z1 72 e[i].cl,av b c 3 1 (bW fs)] w1)=>(haveI:=ef hI;VD w1 e[i] v OZ.1 OZ.2 hv)
  refine aq (bm VF (aX qP) ?_)
  clear qP
  rintro vr O' ⟨N,rfl,rfl,rfl⟩
  refine ak F (ah (aj (ai F (ae dW (ah (aZ F (fun hc=>?_) (fun hc=>?_)))))))
  ·have vQ:oF v e[i]≠0:=by omega
   have wg:oF v e[i]≠0:=by omega
   refine aj (ai F (ak F (ak F (ah (aM (aB ?_))))))
   refine de nS (vI (oF v e[i]:Int)) results89 F F ?_
   have hs:im v fs e[i]=.error (oF v e[i]):=by unfold im;simp only[ug];rw[aJ wg]
   exact⟨[],Sub.z,.inl ⟨_,j4 k8 oJ hs,F,F⟩⟩
  have xF: ¬oF v e[i]≠0:=by omega
  have wg: ¬oF v e[i]≠0:=by omega
  refine aL (aj (ai F (ak F (ah (aR (aR ?_))))))
  refine fS [(1,0),(2,0),(0,1),(3,2),(4,2)] ?_
  refine aw F (bt dt eD) (aw F (bq 0 gH) ?_)
  have yk:=fun(w1:World) (hI:Inv w [oI z1 72 e[i].cl,av b c 3 1 (bW fs)] w1)=>(haveI:=ef hI;pW w1)
  refine cH F F (bm HD (aX yk) ?_)
  clear yk
  rintro vr O' ⟨N,rfl,m,rfl,rfl⟩
  refine⟨by exact Sub.d (.k (.k .z)),?_⟩
  refine cy F F (eK F F (bL (qD (a:=e[i].op) wW lX (gG.u8 gH) F F (mG 0)) (v':=(.agg #[vN (dU e[i].op),str (jD e[i].op).1,str (jD e[i].op).2.1,str (jD e[i].op).2.2])) (uw e[i].op)) ?_)
  refine cy F F (eK F F (G7 Ed F ey F F F) ?_)
  refine cA ?_
  refine aV (aj ?_)
  refine ae bK (ak F (ah (aZ F (fun hc=>?_) (fun hc=>?_))))
  ·have Zq:dU e[i].op=1:=by omega
   have wS:dU e[i].op=1:=by omega
   refine aR (aj (ai F (ae bK ?_)))
   by_cases hi0:((i:Nat):Int)=0
   ·refine ae (aC aI (ax hi0)) ?_
    refine aQ (aQ (aQ (aQ (aQ (ae cm (ah ?_))))))
    refine b_ ?_
    refine aj (ak F (ak F (ah (aM (aB ?_)))))
    refine de nS (vI 8) results89 F F ?_
    have hs:im v fs e[i]=.error 8:=by unfold im;simp only[ug];first|(rw[aA wg,aJ wS,aJ (by omega)];done)|(rw[aA wg,aA wS,aJ tD,aJ (by omega)];done)
    exact⟨[],Sub.z,.inl ⟨8,j4 k8 oJ hs,F,F⟩⟩
   refine ae (aC aI (am hi0)) (aF (bt dt bF) (aF (bq 1 ey) (aF aI (aF (bL (fI F F (by omega)) (v':=vN (i-1)) (au (Value.int .i64) (by omega))) (aF dW (ae bX (ah (aZ F (fun hc=>?_) (fun hc=>?_)))))))))
   ·refine aR ?_
    refine bg (ak F (ak F (ah (aM (aB ?_)))))
    refine de nS (vI 8) results89 F F ?_
    have hs:im v fs e[i]=.error 8:=by unfold im;simp only[ug];first|(rw[aA wg,aJ wS,aJ (by omega)];done)|(rw[aA wg,aA wS,aJ tD,aJ (by omega)];done)
    exact⟨[],Sub.z,.inl ⟨8,j4 k8 oJ hs,F,F⟩⟩
   have Sg:e[i].a=(((i-1):Nat):Int):=by omega
   have hfi:=qf (i-1) (by omega)
   refine aL (bg (ai F (ai F (ae (bL (fI F F (by omega)) (v':=vN (i-1)) (au (Value.int .i64) (by omega))) (ae (dX (i:=(i-1)) cL bF F F (dT (mG 2)) (by omega) (by rw[ar];omega)) (ae (cS ey F F (dT (mG 2)) (me (show i-1<fs.length by omega))) (ak F (ah (bg (ai F (ai F (aq (cR (v:=vN (fs.getD (i-1) 0)) cL bF F F F (fun z2=>?_))))))))))))))
   refine aq (dq 3 cL cL bF F F F F (by rw[ar];omega) (by decide) (Src.row (j:=0) F (by simp)) (by simp[fF]) (by omega) (by decide) (by decide) (fun z3 oK=>?_))
   refine ak F (ah (bg (ae (dr (a:=i) (b:=1) F F (by omega)) (ai F (ah ?_)))))
   have hs:im v fs e[i]=.ok (fs.getD (i-1) 0):=by unfold im;simp only[ug];rw[aA wg,aJ wS,aA (by omega)]
   exact⟨i+1,by omega,[av z3 oK 3 1 ((bW fs)++[vN (fs.getD (i-1) 0)])],(by exact Sub.d (.d (.d (.k .z)))),fs++[(fs.getD (i-1) 0)],z3,oK,by rw[show bW (fs++[(fs.getD (i-1) 0)])=bW fs++[vN (fs.getD (i-1) 0)]from bj],by omega,by simp[ug],rk k8 oJ hs,rT ug qf (by omega),(.of F)⟩
  have Zr: ¬dU e[i].op=1:=by omega
  have wS: ¬dU e[i].op=1:=by omega
  refine aj (ae bK (ak F (ah (aZ F (fun hc=>?_) (fun hc=>?_)))))
  ·have afO:dU e[i].op=2:=by omega
   have tD:dU e[i].op=2:=by omega
   have ah3:fs.getD (i-1) 0≤i:=by
    by_cases h9:i=0
    ·rw[List.length_eq_zero_iff.1 (show fs.length=0 by omega)];simp
    ·have:=qf (i-1) (by omega);omega
   refine aR (aR ?_)
   refine fS [(0,0),(1,0),(2,0),(3,0),(4,0),(5,0),(6,0),(7,0),(8,0),(9,0),(10,0),(11,0),(12,0),(13,0),(14,0),(15,0),(16,0),(17,0),(18,0),(19,0),(20,0),(21,0),(22,0),(23,0),(24,0),(25,0),(26,0),(27,0)] ?_
   refine aw F aI (aw F bK ?_)
   by_cases hi0:((i:Nat):Int)=0
   ·refine aw F (aC aI (ax hi0)) ?_
    refine bH F F F (bH F F F (bH F F F (bH F F F (bH F F F (aw F cm (aw F aI (bH F F F (bH F F F ?_))))))))
    refine bH F F F (bH F F F (bH F F F (bH F F F (aw F cm (aw F aI (bH F F F (bH F F F (bH F F F ?_))))))))
    refine bH F F F (bH F F F (bH F F F (bH F F F (bH F F F (bH F F F (aw F cm ?_))))))
    refine cA ?_
    refine b_ ?_
    refine aj (ak F (ak F (ah (aM (aB ?_)))))
    refine de nS (vI 8) results89 F F ?_
    have hs:im v fs e[i]=.error 8:=by unfold im;simp only[ug];first|(rw[aA wg,aJ wS,aJ (by omega)];done)|(rw[aA wg,aA wS,aJ tD,aJ (by omega)];done)
    exact⟨[],Sub.z,.inl ⟨8,j4 k8 oJ hs,F,F⟩⟩
   refine aw F (aC aI (am hi0)) ?_
   refine bn F F F (bt dt bF) ?_
   refine bn F F F (bq 1 ey) ?_
   refine bn F F F aI ?_
   refine bn F F F (bL (fI F F (by omega)) (v':=vN (i-1)) (au (Value.int .i64) (by omega))) ?_
   refine bn F F F dW ?_
   refine aw F bX ?_
   by_cases I5:e[i].b≠(((i-1):Nat):Int)
   ·refine aw F (aC aI (ax I5)) ?_
    refine bH F F F (bH F F F (bH F F F (bH F F F (bH F F F (bH F F F (aw F cm (aw F aI (bH F F F ?_))))))))
    refine bH F F F (bH F F F (bH F F F (bH F F F (bH F F F (bH F F F (bH F F F (bH F F F ?_)))))))
    refine aw F cm ?_
    refine cA ?_
    refine b_ ?_
    refine aj (ak F (ak F (ah (aM (aB ?_)))))
    refine de nS (vI 8) results89 F F ?_
    have hs:im v fs e[i]=.error 8:=by unfold im;simp only[ug];first|(rw[aA wg,aJ wS,aJ (by omega)];done)|(rw[aA wg,aA wS,aJ tD,aJ (by omega)];done)
    exact⟨[],Sub.z,.inl ⟨8,j4 k8 oJ hs,F,F⟩⟩
   refine aw F (aC aI (am I5)) ?_
   refine bn F F F aI ?_
   refine bn F F F aI ?_
   refine bn F F F (bL (fI F F (by omega)) (v':=vN (i-1)) (au (Value.int .i64) (by omega))) ?_
   refine bn F F F (dX (i:=(i-1)) cL bF F F (dT (mG 2)) (by omega) (by rw[ar];omega)) ?_
   refine bn F F F (cS ey F F (dT (mG 2)) (me (show i-1<fs.length by omega))) ?_
   refine bn F F F bK ?_
   refine aw F bX ?_
   by_cases hz1:((fs.getD (i-1) 0:Nat):Int)=0
   ·refine aw F (aC aI (ax hz1)) ?_
    refine bH F F F (bH F F F (bH F F F (bH F F F (bH F F F (bH F F F (bH F F F (bH F F F ?_)))))))
    refine bH F F F (aw F cm ?_)
    refine cA ?_
    refine b_ ?_
    refine aj (ak F (ak F (ah (aM (aB ?_)))))
    refine de nS (vI 8) results89 F F ?_
    have hs:im v fs e[i]=.error 8:=by unfold im;simp only[ug];first|(rw[aA wg,aJ wS,aJ (by omega)];done)|(rw[aA wg,aA wS,aJ tD,aJ (by omega)];done)
    exact⟨[],Sub.z,.inl ⟨8,j4 k8 oJ hs,F,F⟩⟩
   refine aw F (aC aI (am hz1)) ?_
   refine bn F F F (bt dt bF) ?_
   refine bn F F F (bq 1 ey) ?_
   refine bn F F F aI ?_
   refine bn F F F aI ?_
   refine bn F F F (bL (fI F F (by omega)) (v':=vN (i-1)) (au (Value.int .i64) (by omega))) ?_
   refine bn F F F (dX (i:=(i-1)) cL bF F F (dT (mG 2)) (by omega) (by rw[ar];omega)) ?_
   refine bn F F F (cS ey F F (dT (mG 2)) (me (show i-1<fs.length by omega))) ?_
   refine bn F F F (bL (fI F F (by omega)) (v':=vN (fs.getD (i-1) 0-1)) (au (Value.int .i64) (by omega))) ?_
   refine bn F F F dW ?_
   refine aw F bX ?_
   refine cA ?_
   refine aZ F (fun hc=>?_) (fun hc=>?_)
   ·refine aR ?_
    refine bg (ak F (ak F (ah (aM (aB ?_)))))
    refine de nS (vI 8) results89 F F ?_
    have hs:im v fs e[i]=.error 8:=by unfold im;simp only[ug];first|(rw[aA wg,aJ wS,aJ (by omega)];done)|(rw[aA wg,aA wS,aJ tD,aJ (by omega)];done)
    exact⟨[],Sub.z,.inl ⟨8,j4 k8 oJ hs,F,F⟩⟩
   have Sg:e[i].a=(((fs.getD (i-1) 0-1):Nat):Int):=by omega
   have hfi:=qf (i-1) (by omega)
   have yA:=qf (fs.getD (i-1) 0-1) (by omega)
   refine aL (bg (ai F (ae (bt dt bF) (ae (bL (bq 1 ey) (v':=vN (fs.getD (i-1) 0-1)) (by show Value.int _ e[i].a=_;rw[Sg])) (ae (dX (i:=(fs.getD (i-1) 0-1)) cL bF F F (dT (mG 2)) (by omega) (by rw[ar];omega)) (ae (cS ey F F (dT (mG 2)) (me (show(fs.getD (i-1) 0-1)<fs.length by omega))) (ak F (ah (bg (ai F (ai F (aq (cR (v:=vN (fs.getD (fs.getD (i-1) 0-1) 0)) cL bF F F F (fun z5=>?_))))))))))))))
   refine aq (dq 3 cL cL bF F F F F (by rw[ar];omega) (by decide) (Src.row (j:=0) F (by simp)) (by simp[fF]) (by omega) (by decide) (by decide) (fun z6 Jd=>?_))
   refine ak F (ah (bg (ae (dr (a:=i) (b:=1) F F (by omega)) (ai F (ah ?_)))))
   have hs:im v fs e[i]=.ok (fs.getD (fs.getD (i-1) 0-1) 0):=by unfold im;simp only[ug];rw[aA wg,aA wS,aJ tD,aA (by omega),Sg,Int.toNat_natCast]
   exact⟨i+1,by omega,[av z6 Jd 3 1 ((bW fs)++[vN (fs.getD (fs.getD (i-1) 0-1) 0)])],(by exact Sub.d (.d (.d (.k .z)))),fs++[(fs.getD (fs.getD (i-1) 0-1) 0)],z6,Jd,by rw[show bW (fs++[(fs.getD (fs.getD (i-1) 0-1) 0)])=bW fs++[vN (fs.getD (fs.getD (i-1) 0-1) 0)]from bj],by omega,by simp[ug],rk k8 oJ hs,rT ug qf (by omega),(.of F)⟩
  have aal: ¬dU e[i].op=2:=by omega
  have tD: ¬dU e[i].op=2:=by omega
  refine aL (bg (ai F (ai F (aq (cR (v:=vN i) cL bF F F F (fun z8=>?_))))))
  refine aq (dq 3 cL cL bF F F F F (by rw[ar];omega) (by decide) (Src.row (j:=0) F (by simp)) (by simp[fF]) (by omega) (by decide) (by decide) (fun z9 pP=>?_))
  refine ak F (ah (bg (ae (dr (a:=i) (b:=1) F F (by omega)) (ai F (ah ?_)))))
  have hs:im v fs e[i]=.ok i:=by unfold im;simp only[ug];rw[aA wg,aA wS,aA tD]
  exact⟨i+1,by omega,[av z9 pP 3 1 ((bW fs)++[vN i])],(by exact Sub.d (.d (.d (.k .z)))),fs++[i],z9,pP,by rw[show bW (fs++[i])=bW fs++[vN i]from bj],by omega,by simp[ug],rk k8 oJ hs,rT ug qf (aS _),(.of F)⟩
 have Dr: ¬i<e.length:=by omega
 refine cG ?_
 refine aj (ai F (ak F (ak F (ah (aM (aB ?_))))))
 refine de (.slice b i c) (vI 0) results89 F F ?_
 have xf:i=e.length:=by omega
 subst xf
 rw[List.take_length]at oJ
 exact⟨[av b c 3 1 (bW fs)],(by exact Sub.rf),.inr ⟨fs,b,c,oJ,F,F⟩⟩
theorem QY (w:World) [dA prog w] (eb:Option Addr) (ec:Nat) (e:List eC) (hE:Sl w eb (bQ e)) (z2 z8:Nat) (h2:Sl w (aD z2) [.slice eb e.length ec]) (h8:Sl w (aD z8) [(.func (.func 90) #[] #[(dJ (aD z2) 0),(dJ (aD z8) 0)])]) (i f:Nat) (fr:Bool) (hi:i<e.length) (He:1≤dU e[i].op→ ∀w1 [dA prog w1],Inv w [] w1→ ∀g:Bool,eH prog w1 (.func (.func 90) #[] #[(dJ (aD z2) 0),(dJ (aD z8) 0)]) [vI e[i].a,.bool g] [] (fun v N=>v=.bool (nL e f e[i].a.toNat g)∧N=[])) (LR:2≤dU e[i].op→ ∀w1 [dA prog w1],Inv w [] w1→ ∀g:Bool,eH prog w1 (.func (.func 90) #[] #[(dJ (aD z2) 0),(dJ (aD z8) 0)]) [vI e[i].b,.bool g] [] (fun v N=>v=.bool (nL e f e[i].b.toNat g)∧N=[])):
  cn prog 90 [vN i,.bool fr,(dJ (aD z2) 0),(dJ (aD z8) 0)] w fun v N=>v=.bool (nL e (f+1) i fr)∧N=[]:=by
 refine aE func90 F ntmps90 F ?_
 refine aj (ak F (ah (aj (ae (cS dR F F (aK h2) F) (ai F (ae (eA (i:=i) dR cJ F F (aK hE) hi (by rw[cB];omega)) (ae (eW (vs:=e[i].cl) dt F cJ F F (bu _) (aK hE) (kP hi)) (aq (bs cJ (fun z1=>?_))))))))))
 refine aq (cq (vs:=e[i].cl) 0 cJ ?_)
 refine ah ?_
 let eh:Lx.Item:=oI z1 72 e[i].cl
 refine fg (fun ρ O=>Sub [eh] O∧(¬((e[i].op=9∨e[i].op=10)∧fr=false))∧df [(0,vN i),(1,.bool fr),(2,(dJ (aD z2) 0)),(3,(dJ (aD z8) 0)),(7,(.pointer (aD z1)))] ρ) ?_ ?_
 ·refine aR ?_
  refine bg (ae (bt dt eD) (ae (bq 0 gH) (ae bK ?_)))
  by_cases h9:((e[i].op:Nat):Int)=9
  ·refine ae (aC aI (ax h9)) ?_
   refine aQ (aQ (aQ (ae cm (ai F (aF aI (aF iV (ae cm (ah (T.cond F (fun hc=>?_) (fun hc=>?_))))))))))
   ·refine aR ?_
    refine bg (ak F (ah (aM (aB ?_))))
    refine aT (.bool false) results90 F ?_
    exact⟨[],Sub.z,au Value.bool (by rw[na hi,aJ ⟨by omega,by simpa using hc⟩]),F⟩
   refine aL ?_
   exact⟨(by exact Sub.rf),(fun h=>by rw[h.2]at hc;exact absurd hc (by decide)),(.of F)⟩
  refine ae (aC aI (am h9)) (aF (bt dt eD) (aF (bq 0 gH) (aF bK ?_)))
  by_cases wU:((e[i].op:Nat):Int)=10
  ·refine ae (aC bX (ax wU)) ?_
   refine ai F (aF aI (aF iV (ae cm (ah (T.cond F (fun hc=>?_) (fun hc=>?_))))))
   ·refine aR ?_
    refine bg (ak F (ah (aM (aB ?_))))
    refine aT (.bool false) results90 F ?_
    exact⟨[],Sub.z,au Value.bool (by rw[na hi,aJ ⟨by omega,by simpa using hc⟩]),F⟩
   refine aL ?_
   exact⟨(by exact Sub.rf),(fun h=>by rw[h.2]at hc;exact absurd hc (by decide)),(.of F)⟩
  refine ae (aC bX (am wU)) (ai F (aQ (aQ (ae bX (ah (a8 (aL ?_)))))))
  exact⟨(by exact Sub.rf),(fun h=>absurd h.1 (by omega)),(.of F)⟩
 rintro ρ O ⟨hS,hcn,hH⟩
 obtain⟨gA,rfl⟩:=hH.elim
 clear hH
 refine dc hS ?_
 refine fg (fun ρ O=>Sub [eh] O∧df [(0,vN i),(1,.bool (fr&&decide (e[i].op=4∨e[i].op=5))),(2,(dJ (aD z2) 0)),(3,(dJ (aD z8) 0)),(7,(.pointer (aD z1)))] ρ) ?_ ?_
 ·refine bg ?_
  by_cases LU:fr=true
  ·refine ae (aC aI (LU)) ?_
   refine ai F (aF (bt dt eD) (aF (bq 0 gH) (aF bK ?_)))
   by_cases h4:((e[i].op:Nat):Int)=4
   ·refine aF (aC aI (ax h4)) ?_
    refine aQ (aQ (aQ (aF cm (ae cm (ak F (ah ?_))))))
    exact⟨(by exact Sub.rf),⟨F,(au Value.bool (by rw[LU,ax (show e[i].op=4∨e[i].op=5 by omega)];rfl)),F,F,F,trivial⟩⟩
   refine aF (aC aI (am h4)) (aF (bt dt eD) (aF (bq 0 gH) (aF bK (aF bX (ae cm (ak F (ah ?_)))))))
   exact⟨(by exact Sub.rf),⟨F,(au Value.bool (by rw[LU,Bool.true_and];exact decide_eq_decide.2 (by omega))),F,F,F,trivial⟩⟩
  refine ae (aC aI (Bool.eq_false_iff.2 LU)) (ai F (aQ (aQ (aQ (aQ (aQ (aQ (aQ ?_))))))))
  refine aQ (ae bX (ak F (ah ?_)))
  exact⟨(by exact Sub.rf),⟨F,(au Value.bool (by rw[Bool.eq_false_iff.2 LU];rfl)),F,F,F,trivial⟩⟩
 rintro ρ O ⟨hS,hH⟩
 obtain⟨gA,rfl⟩:=hH.elim
 clear hH
 refine dc hS ?_
 refine aR ?_
 refine fS [(1,0),(2,0),(0,1),(3,2),(4,2),(5,2)] ?_
 refine aw F (bt dt eD) (aw F (bq 0 gH) ?_)
 have Dp:=fun(w1:World) (hI:Inv w [eh] w1)=>(haveI:=ef hI;pW w1)
 refine cH F F (bm HD (aX Dp) ?_)
 clear Dp
 rintro vr O' ⟨N,rfl,m,rfl,rfl⟩
 refine⟨by exact Sub.d (.k .z),?_⟩
 refine cy F F (eK F F (bL (qD (a:=e[i].op) wW lX (gG.u8 gH) F F (mG 0)) (v':=(.agg #[vN (dU e[i].op),str (jD e[i].op).1,str (jD e[i].op).2.1,str (jD e[i].op).2.2])) (uw e[i].op)) ?_)
 refine cy F F (eK F F (G7 Ed F ey F F F) ?_)
 refine cy F F (eK F F cx ?_)
 refine cA ?_
 refine aj (ai F (ae cU ?_))
 by_cases zP:((dU e[i].op:Nat):Int)<1
 ·refine ae (aC aI (ax zP)) ?_
  refine aQ (aQ (aQ (aQ (aQ (ae cm (ai F (aF aI (aF (aC cU (ax (by omega))) ?_))))))))
  refine aF aI (aQ (aQ (aQ (aQ (aQ (aF cm (ae cm (ak F ?_))))))))
  refine ah (aM (aB ?_))
  refine aT (.bool true) results90 F ?_
  exact⟨[],Sub.z,au Value.bool (by rw[na hi,aA hcn,ax (show dU e[i].op<1 by omega),ax (show dU e[i].op<2 by omega)];rfl),F⟩
 refine ae (aC aI (am zP)) (aF (cS Nl F F (aK h8) F) (aF (bt dt bF) (aF (bq 1 ey) (aF aI ?_))))
 have aam:=(cW (base:=w) (O:=[AS m,eh]) fun w1 hI=>haveI:=ef hI;haveI:=ef hI;He (by omega) w1 hI.lK (fr&&decide (e[i].op=4∨e[i].op=5)))
 refine gk F F F (eu aam F F ?_)
 clear aam
 rintro vr O' ⟨N,rfl,rfl,rfl⟩
 refine ae bX ?_
 by_cases hva:(nL e f e[i].a.toNat (fr&&decide (e[i].op=4∨e[i].op=5)))=true
 ·refine ae (aC aI (hva)) ?_
  refine aF aI (aF cU ?_)
  by_cases qN:((dU e[i].op:Nat):Int)<2
  ·refine aF (aC aI (ax qN)) ?_
   refine aQ (aQ (aQ (aQ (aQ (aF cm (ae cm (ak F (ah (aM (aB ?_))))))))))
   refine aT (.bool true) results90 F ?_
   exact⟨[],Sub.z,au Value.bool (by rw[na hi,aA hcn,am (show¬dU e[i].op<1 by omega),hva,ax (show dU e[i].op<2 by omega)];rfl),F⟩
  refine aF (aC aI (am qN)) (aF (cS Nl F F (aK h8) F) (aF (bt dt bF) (aF (bq 1 ey) (aF aI ?_))))
  have K0:=(cW (base:=w) (O:=[AS m,eh]) fun w1 hI=>haveI:=ef hI;haveI:=ef hI;LR (by omega) w1 hI.lK (fr&&decide (e[i].op=4∨e[i].op=5)))
  refine gk F F F (eu K0 F F ?_)
  clear K0
  rintro vr O' ⟨N,rfl,rfl,rfl⟩
  refine aF bX (ae cm (ak F (ah (aM (aB ?_)))))
  refine aT (.bool (nL e f e[i].b.toNat (fr&&decide (e[i].op=4∨e[i].op=5)))) results90 F ?_
  exact⟨[],Sub.z,au Value.bool (by rw[na hi,aA hcn,am (show¬dU e[i].op<1 by omega),hva,am (show¬dU e[i].op<2 by omega)];rfl),F⟩
 refine ae (aC aI (Bool.eq_false_iff.2 hva)) (aQ (aQ (aQ (aQ (aQ (aQ (aQ ?_)))))))
 refine aQ (aQ (ae bX (ak F (ah (aM (aB ?_))))))
 refine aT (.bool false) results90 F ?_
 exact⟨[],Sub.z,au Value.bool (by rw[na hi,aA hcn,am (show¬dU e[i].op<1 by omega),Bool.eq_false_iff.2 hva];rfl),F⟩
def Nn (e:List eC):Prop:= ∀i (h:i<e.length),(1≤dU e[i].op→ ∃j:Nat,e[i].a=(j:Int)∧j<i)∧(2≤dU e[i].op→ ∃j:Nat,e[i].b=(j:Int)∧j<i)
set_option maxRecDepth 20000 in
theorem VG (w:World) [dA prog w] (eb:Option Addr) (ec:Nat) (e:List eC) (hE:Sl w eb (bQ e)) (z2 z8:Nat) (h2:Sl w (aD z2) [.slice eb e.length ec]) (h8:Sl w (aD z8) [(.func (.func 90) #[] #[(dJ (aD z2) 0),(dJ (aD z8) 0)])]) (ht:Nn e): ∀(f i:Nat) (hi:i<e.length) (hf:i<f) (fr:Bool),
  cn prog 90 [vN i,.bool fr,(dJ (aD z2) 0),(dJ (aD z8) 0)] w fun v N=>v=.bool (nL e f i fr)∧N=[]
 |0,i,hi,hf,fr=>absurd hf (by omega)
 |f+1,i,hi,hf,fr=>QY w eb ec e hE z2 z8 h2 h8 i f fr hi (fun Xi w1 _ hI g=>by
   obtain⟨j,hj,Bp⟩:=(ht i hi).1 Xi
   rw[hj,Int.toNat_natCast]
   exact bU (first:=[]) (args:=[vN j,.bool g]) (fG:=[(dJ (aD z2) 0),(dJ (aD z8) 0)]) No (VG w1 eb ec e (hI.sl hE) z2 z8 (hI.sl h2) (hI.sl h8) ht f j (by omega) (by omega) g)) (fun Xi w1 _ hI g=>by
   obtain⟨j,hj,Bp⟩:=(ht i hi).2 Xi
   rw[hj,Int.toNat_natCast]
   exact bU (first:=[]) (args:=[vN j,.bool g]) (fG:=[(dJ (aD z2) 0),(dJ (aD z8) 0)]) No (VG w1 eb ec e (hI.sl hE) z2 z8 (hI.sl h2) (hI.sl h8) ht f j (by omega) (by omega) g))
end Go.Proofs.YtgdbfideeeegmaaGreatDoor

namespace Go.Lx
open Go.RowKit Go.Proofs.YtgdbfideeeegmaaGreatDoor
theorem uB {v b:Nat} {fs:List Nat} {x:eC} (hb: ∀j,j<fs.length→fs.getD j 0≤j) (h:im v fs x=.ok b):
  b≤fs.length∧oF v x=0∧(dU x.op=1→0<fs.length∧x.a=(fs.length:Int)-1∧b=fs.getD (fs.length-1) 0)∧
  (dU x.op=2→0<fs.length∧x.b=(fs.length:Int)-1∧0<fs.getD (fs.length-1) 0∧x.a=(fs.getD (fs.length-1) 0:Int)-1∧b=fs.getD x.a.toNat 0)∧(dU x.op=0→b=fs.length):=by
 unfold im at h
 split at h
 ·cases h
 ·rename_i h0
  have h0':oF v x=0:=by omega
  split at h
  ·rename_i h1
   split at h
   ·cases h
   ·rename_i h2
    injection h with h
    have:=hb (fs.length-1) (by omega)
    exact⟨by omega,h0',fun _=>⟨by omega,by omega,h.symm⟩,fun h9=>by omega,fun h9=>by omega⟩
  ·rename_i h1
   split at h
   ·rename_i h2
    split at h
    ·cases h
    ·rename_i h3
     injection h with h
     have h4:=hb (fs.length-1) (by omega)
     have h5:x.a.toNat<fs.length:=by omega
     have h6:=hb _ h5
     exact⟨by omega,h0',fun h9=>by omega,fun _=>⟨by omega,by omega,by omega,by omega,h.symm⟩,fun h9=>by omega⟩
   ·injection h with h
    exact⟨by omega,h0',fun h9=>by omega,fun h9=>by omega,fun _=>h.symm⟩
theorem Q4 (n:Nat):dU n≤2:=by unfold dU;split<;>(try split)<;>omega
theorem pQ {v:Nat} {e:List eC} {fs:List Nat} (h:ki v e=.ok fs): ∀i,i≤e.length→ ∃gs,ki v (e.take i)=.ok gs∧gs.length=i∧(∀j,j<i→gs.getD j 0≤j)∧gs=fs.take i
 |0,_=>⟨[],F,F,fun j hj=>by omega,by simp⟩
 |i+1,hi=>by
  obtain⟨gs,h1,h2,h3,h4⟩:=pQ h i (by omega)
  have gw:i<e.length:=by omega
  cases hs:im v gs e[i]with
  |error n=>rw[j4 gw h1 hs]at h;cases h
  |ok b=>
   have hn:=rk gw h1 hs
   have hb:=uB (by rw[h2];exact h3) hs
   refine⟨gs++[b],hn,by simp[h2],rT h2 h3 (by omega),?_⟩
   have hp: ∀(l:List eC) (a:List Nat) (c:List Nat),l.foldl (uz v) (.ok a)=.ok c→a<+:c:=by
    intro l
    induction l with
    |nil=>intro a c h;injection h with h;subst h;exact List.prefix_refl _
    |cons x l ih=>
     intro a c h
     rw[cP]at h
     cases hx:uz v (.ok a) x with
     |error n=>rw[hx,uA]at h;cases h
     |ok a2=>
      rw[hx]at h
      have h5:=ih a2 c h
      have h6:a<+:a2:=by
       unfold uz at hx
       cases hy:im v a x with
       |error n=>simp only[hy]at hx;cases hx
       |ok b2=>simp only[hy]at hx;injection hx with hx;subst hx;exact List.prefix_append _ _
      exact h6.trans h5
   have h7:(gs++[b])<+:fs:=by
    have h8:ki v e=(e.drop (i+1)).foldl (uz v) (ki v (e.take (i+1))):=by
     conv=>lhs;rw[←List.take_append_drop (i+1) e]
     unfold ki;rw[cO]
    rw[h8,hn]at h
    exact hp _ _ _ h
   have:=List.prefix_iff_eq_take.1 h7
   simpa[h2]using this
theorem o8 {v:Nat} {e:List eC} {fs:List Nat} (h:ki v e=.ok fs):Nn e:=fun i hi=>by
 obtain⟨gs,h1,h2,h3,_⟩:=pQ h i (Nat.le_of_lt hi)
 cases hs:im v gs e[i]with
 |error n=>rw[j4 hi h1 hs]at h;cases h
 |ok b=>
  obtain⟨_,_,k1,k2,_⟩:=uB (by rw[h2];exact h3) hs
  have hc:=Q4 e[i].op
  refine⟨fun hh=>?_,fun hh=>?_⟩
  ·by_cases h5:dU e[i].op=1
   ·have:=k1 h5;exact⟨i-1,by omega,by omega⟩
   ·have:=k2 (by omega)
    have h6:=h3 (gs.length-1) (by omega)
    exact⟨gs.getD (gs.length-1) 0-1,by omega,by omega⟩
  ·have:=k2 (by omega);exact⟨i-1,by omega,by omega⟩
theorem B4 {v n:Nat}: ∀ {e:List eC} {a:List Nat},e.foldl (uz v) (.ok a)=.error n→n≠0
 | [],a,h=>by cases h
 |x::e,a,h=>by
  rw[cP]at h
  cases hs:im v a x with
  |error k=>
   have hk:uz v (.ok a) x=.error k:=by unfold uz;simp only[hs]
   rw[hk,uA]at h
   injection h with h
   subst h
   unfold im at hs
   split at hs
   ·injection hs with hs;omega
   ·split at hs
    ·split at hs
     ·injection hs with hs;omega
     ·cases hs
    ·split at hs
     ·split at hs
      ·injection hs with hs;omega
      ·cases hs
     ·cases hs
  |ok b=>
   have hk:uz v (.ok a) x=.ok (a++[b]):=by unfold uz;simp only[hs]
   rw[hk]at h
   exact B4 h
def iz (vars:Int) (e:List eC):Nat:=
 if vars<0∨6<vars then 7 else if e.length=0 then 3 else if 64<e.length then 4 else
  match ki vars.toNat e with
  | .error n=>n
  | .ok fs=>if fs.getD (e.length-1) 0≠0 then 2 else if nL e e.length (e.length-1) true=true then 0 else 2
def iE (e:List eC):Nat→Nat→Rx
 |0,_=>.none
 |f+1,i=>
  let x:=e.getD i ⟨0,0,0,0,0⟩
  if x.op=1 then .none else if x.op=2 then .empty else if x.op=3 then .letter x.p x.n
  else if x.op=4 then .ie (iE e f x.a.toNat) (iE e f x.b.toNat)else if x.op=5 then .iu (iE e f x.a.toNat) (iE e f x.b.toNat)else if x.op=6 then .and (iE e f x.a.toNat) (iE e f x.b.toNat)
  else if x.op=7 then .not (iE e f x.a.toNat)else if x.op=8 then .star (iE e f x.a.toNat)else if x.op=9 then .ahead (iE e f x.a.toNat)else .behind (iE e f x.a.toNat)
theorem oq {v:Nat} {e:List eC} {fs:List Nat} (h:ki v e=.ok fs) {i:Nat} (hi:i<e.length):oF v e[i]=0:=by
 obtain⟨gs,h1,h2,h3,_⟩:=pQ h i (Nat.le_of_lt hi)
 cases hs:im v gs e[i]with
 |error n=>rw[j4 hi h1 hs]at h;cases h
 |ok b=>exact(uB (by rw[h2];exact h3) hs).2.1
theorem or_zero {a b:Nat} (h:(a|||b)=0):a=0∧b=0:=by
 have h1:a≤a|||b:=Nat.left_le_or
 have h2:b≤a|||b:=Nat.right_le_or
 omega
theorem kg {v:Nat} {x:eC} (h:oF v x=0):1≤x.op∧x.op≤10∧(x.op≠3→x.p=0∧x.n=0)∧(dU x.op<1→x.a=0)∧(dU x.op<2→x.b=0):=by
 unfold oF at h
 split at h
 ·omega
 ·rename_i h1
  split at h
  ·omega
  ·rename_i h2
   refine⟨by omega,by omega,fun h3=>or_zero (by
    by_cases h4:(x.p|||x.n)=0
    ·exact h4
    ·exact absurd (Or.inl ⟨h3,h4⟩) h2),fun h3=>?_,fun h3=>?_⟩
   ·by_cases h4:x.a=0
    ·exact h4
    ·exact absurd (Or.inr (Or.inl ⟨h3,h4⟩)) h2
   ·by_cases h4:x.b=0
    ·exact h4
    ·exact absurd (Or.inr (Or.inr ⟨h3,h4⟩)) h2
theorem kK {v:Nat} {e:List eC} {fs:List Nat} (h:ki v e=.ok fs) (mw: ∀x∈e,x.p<256∧x.n<256): ∀(f i:Nat),i<f→i<e.length→ut e (iE e f i) i
 |0,i,hf,hi=>absurd hf (by omega)
 |f+1,i,hf,hi=>by
  have ht:=o8 h i hi
  have hs:=kg (oq h hi)
  have hg:e[i]? =some e[i]:=ap hi
  have hx:=mw _ (aN hi)
  unfold iE
  simp only[nV hi]
  obtain⟨x,BN⟩: ∃x,x=e[i]:=⟨_,F⟩
  rw[←BN]at ht hs hg hx⊢
  obtain⟨o,p,n,a,b⟩:=x
  clear BN
  obtain⟨h1,h2,h3,h4,h5⟩:=hs
  simp only at ht h1 h2 h3 h4 h5 hx
  have hk:o=1∨o=2∨o=3∨o=4∨o=5∨o=6∨o=7∨o=8∨o=9∨o=10:=by omega
  rcases hk with rfl|rfl|rfl|rfl|rfl|rfl|rfl|rfl|rfl|rfl
  ·obtain⟨rfl,rfl⟩:=h3 (by decide)
   have ha:=h4 (by decide);have hb:=h5 (by decide)
   subst ha hb
   exact hg
  ·obtain⟨rfl,rfl⟩:=h3 (by decide)
   have ha:=h4 (by decide);have hb:=h5 (by decide)
   subst ha hb
   exact hg
  ·have ha:=h4 (by decide);have hb:=h5 (by decide)
   subst ha hb
   exact⟨hg,hx⟩
  ·obtain⟨rfl,rfl⟩:=h3 (by decide)
   obtain⟨j,rfl,hj⟩:=ht.1 (by decide)
   obtain⟨k,rfl,hk⟩:=ht.2 (by decide)
   exact⟨j,k,hg,kK h mw f j (by omega) (by omega),kK h mw f k (by omega) (by omega)⟩
  ·obtain⟨rfl,rfl⟩:=h3 (by decide)
   obtain⟨j,rfl,hj⟩:=ht.1 (by decide)
   obtain⟨k,rfl,hk⟩:=ht.2 (by decide)
   exact⟨j,k,hg,kK h mw f j (by omega) (by omega),kK h mw f k (by omega) (by omega)⟩
  ·obtain⟨rfl,rfl⟩:=h3 (by decide)
   obtain⟨j,rfl,hj⟩:=ht.1 (by decide)
   obtain⟨k,rfl,hk⟩:=ht.2 (by decide)
   exact⟨j,k,hg,kK h mw f j (by omega) (by omega),kK h mw f k (by omega) (by omega)⟩
  ·obtain⟨rfl,rfl⟩:=h3 (by decide)
   have hb:=h5 (by decide)
   subst hb
   obtain⟨j,rfl,hj⟩:=ht.1 (by decide)
   exact⟨j,hg,kK h mw f j (by omega) (by omega)⟩
  ·obtain⟨rfl,rfl⟩:=h3 (by decide)
   have hb:=h5 (by decide)
   subst hb
   obtain⟨j,rfl,hj⟩:=ht.1 (by decide)
   exact⟨j,hg,kK h mw f j (by omega) (by omega)⟩
  ·obtain⟨rfl,rfl⟩:=h3 (by decide)
   have hb:=h5 (by decide)
   subst hb
   obtain⟨j,rfl,hj⟩:=ht.1 (by decide)
   exact⟨j,hg,kK h mw f j (by omega) (by omega)⟩
  ·obtain⟨rfl,rfl⟩:=h3 (by decide)
   have hb:=h5 (by decide)
   subst hb
   obtain⟨j,rfl,hj⟩:=ht.1 (by decide)
   exact⟨j,hg,kK h mw f j (by omega) (by omega)⟩
theorem pX {v:Nat} {e:List eC} {fs:List Nat} (h:ki v e=.ok fs): ∀(f i:Nat),i<f→i<e.length→(nL e f i false=true→(iE e f i).plain=true)∧(nL e f i true=true→(iE e f i).wf=true)
 |0,i,hf,hi=>absurd hf (by omega)
 |f+1,i,hf,hi=>by
  have ht:=o8 h i hi
  have hs:=kg (oq h hi)
  have e1:=na (f:=f) (fr:=false) hi
  have e2:=na (f:=f) (fr:=true) hi
  rw[e1,e2]
  unfold iE
  simp only[nV hi]
  clear e1 e2
  obtain⟨x,BN⟩: ∃x,x=e[i]:=⟨_,F⟩
  rw[←BN]at ht hs⊢
  obtain⟨o,p,n,a,b⟩:=x
  clear BN
  obtain⟨h1,h2,h3,h4,h5⟩:=hs
  simp only at ht h1 h2⊢
  clear h3 h4 h5
  have one:1≤dU o→((nL e f a.toNat false=true→(iE e f a.toNat).plain=true)∧(nL e f a.toNat true=true→(iE e f a.toNat).wf=true)):=fun hh=>by
   obtain⟨j,rfl,hj⟩:=ht.1 hh
   exact pX h f j (by omega) (by omega)
  have two:2≤dU o→((nL e f b.toNat false=true→(iE e f b.toNat).plain=true)∧(nL e f b.toNat true=true→(iE e f b.toNat).wf=true)):=fun hh=>by
   obtain⟨j,rfl,hj⟩:=ht.2 hh
   exact pX h f j (by omega) (by omega)
  clear ht
  have hk:o=1∨o=2∨o=3∨o=4∨o=5∨o=6∨o=7∨o=8∨o=9∨o=10:=by omega
  rcases hk with rfl|rfl|rfl|rfl|rfl|rfl|rfl|rfl|rfl|rfl<;>simp[dU,Rx.plain,Rx.wf]at one two⊢ <;>simp_all
theorem xe {v:Nat} {e:List eC} {fs:List Nat} (h:ki v e=.ok fs) {i:Nat} (hi:i<e.length):fs.getD i 0≤i∧
  (dU e[i].op=1→0<i∧e[i].a=(i:Int)-1∧fs.getD i 0=fs.getD (i-1) 0)∧
  (dU e[i].op=2→0<i∧e[i].b=(i:Int)-1∧0<fs.getD (i-1) 0∧e[i].a=(fs.getD (i-1) 0:Int)-1∧fs.getD (i-1) 0≤i-1∧fs.getD i 0=fs.getD e[i].a.toNat 0)∧(dU e[i].op=0→fs.getD i 0=i):=by
 obtain⟨gs,h1,h2,h3,h4⟩:=pQ h i (Nat.le_of_lt hi)
 obtain⟨gs',k1,k2,k3,k4⟩:=pQ h (i+1) hi
 cases hs:im v gs e[i]with
 |error n=>rw[j4 hi h1 hs]at h;cases h
 |ok b=>
  have hn:=rk hi h1 hs
  rw[k1]at hn
  injection hn with hn
  have ig:i<fs.length:=by
   have:(fs.take (i+1)).length=i+1:=by rw[←k4];exact k2
   rw[cw]at this;omega
  have hb:fs.getD i 0=b:=by
   have:gs'.getD i 0=b:=by rw[hn,az,bM (by omega),h2,fL];rfl
   rw[k4,az,List.getElem?_take,aJ (by omega)]at this
   rw[az];exact this
  have hj: ∀j,j<i→gs.getD j 0=fs.getD j 0:=fun j hj=>by
   rw[h4,az,az,List.getElem?_take,aJ hj]
  obtain⟨b1,_,b2,b3,b4⟩:=uB (by rw[h2];exact h3) hs
  rw[h2]at b1 b2 b3 b4
  refine⟨by omega,fun h5=>?_,fun h5=>?_,fun h5=>by rw[hb];exact b4 h5⟩
  ·obtain⟨c1,c2,c3⟩:=b2 h5
   exact⟨c1,c2,by rw[hb,c3,hj _ (by omega)]⟩
  ·obtain⟨c1,c2,c3,c4,c5⟩:=b3 h5
   have hx:=h3 (i-1) (by omega)
   rw[hj _ (by omega)]at c3 c4 hx
   refine⟨c1,c2,c3,c4,hx,?_⟩
   rw[hb,c5,hj _ (by omega)]
theorem xl {v:Nat} {e:List eC} {fs:List Nat} (h:ki v e=.ok fs): ∀(f i:Nat),i<f→i<e.length→2*(iE e f i).lv+fs.getD i 0≤i+2
 |0,i,hf,hi=>absurd hf (by omega)
 |f+1,i,hf,hi=>by
  obtain⟨g0,g1,g2,g3⟩:=xe h hi
  unfold iE
  simp only[nV hi]
  by_cases h4:e[i].op=4∨e[i].op=5
  ·have hc:dU e[i].op=2:=by unfold dU;rw[aJ (by omega)]
   obtain⟨c1,c2,c3,c4,c5,c6⟩:=g2 hc
   have ha:=xl h f (fs.getD (i-1) 0-1) (by omega) (by omega)
   have hb:=xl h f (i-1) (by omega) (by omega)
   have ea:e[i].a.toNat=fs.getD (i-1) 0-1:=by omega
   have eb:e[i].b.toNat=i-1:=by omega
   rw[ea]at c6
   rw[ea,eb]
   rcases h4 with h4|h4
   ·simp only[h4]
    show 2*((iE e f _).lv+(iE e f _).lv)+_≤_
    omega
   ·simp only[h4]
    show 2*((iE e f _).lv+(iE e f _).lv)+_≤_
    omega
  ·rw[aA (show¬e[i].op=4 by omega),aA (show¬e[i].op=5 by omega)]
   repeat' split
   all_goals (show 2*1+_≤_;omega)
theorem nU {v:Nat} {e:List eC} {fs:List Nat} (h:ki v e=.ok fs) (hl: ∀x∈e,x.op≠9∧x.op≠10): ∀(f i:Nat),i<f→i<e.length→(iE e f i).plain=true
 |0,i,hf,hi=>absurd hf (by omega)
 |f+1,i,hf,hi=>by
  have ht:=o8 h i hi
  have hs:=kg (oq h hi)
  have hx:=hl _ (aN hi)
  unfold iE
  simp only[nV hi]
  obtain⟨x,BN⟩: ∃x,x=e[i]:=⟨_,F⟩
  rw[←BN]at ht hs hx⊢
  obtain⟨o,p,n,a,b⟩:=x
  clear BN
  obtain⟨h1,h2,h3,h4,h5⟩:=hs
  simp only at ht h1 h2 hx⊢
  clear h3 h4 h5
  have one:1≤dU o→(iE e f a.toNat).plain=true:=fun hh=>by
   obtain⟨j,rfl,hj⟩:=ht.1 hh
   exact nU h hl f j (by omega) (by omega)
  have two:2≤dU o→(iE e f b.toNat).plain=true:=fun hh=>by
   obtain⟨j,rfl,hj⟩:=ht.2 hh
   exact nU h hl f j (by omega) (by omega)
  clear ht
  have hk:o=1∨o=2∨o=3∨o=4∨o=5∨o=6∨o=7∨o=8:=by omega
  rcases hk with rfl|rfl|rfl|rfl|rfl|rfl|rfl|rfl<;>simp[dU,Rx.plain]at one two⊢ <;>simp_all
section
variable (ls:List Lf)
def EI:Nat→List (List Ob)
 |0=>[[]]
 |k+1=>EI k++(EI k).flatMap fun o=>(List.range (lf ls k).d.next.length).map fun s=>o++[(k,s)]
def Tj:Nat→Nat
 |0=>1
 |k+1=>Tj k*((lf ls k).d.next.length+1)
def J8:Nat→List Cf
 |0=>[]
 |k+1=>J8 k++(EI ls k).flatMap fun o=>(List.range (lf ls k).d.next.length).map fun s=>⟨(k:Int),s,o⟩
variable {ls}
theorem Oc {α β:Type} (l:List α) (n:Nat) (f:α→Nat→β):(l.flatMap fun o=>(List.range n).map fun s=>f o s).length=l.length*n:=by
 induction l with
 |nil=>simp
 |cons a l ih=>rw[List.flatMap_cons,aP,ar,g_,ih,bG,Nat.succ_mul];omega
theorem yZ: ∀k,(EI ls k).length=Tj ls k
 |0=>rfl
 |k+1=>by
  show(EI ls k++_).length=Tj ls k*_
  rw[aP,Oc,yZ k,Nat.mul_succ];omega
theorem EJ: ∀k,(J8 ls k).length+1=Tj ls k
 |0=>rfl
 |k+1=>by
  show(J8 ls k++_).length+1=Tj ls k*_
  rw[aP,Oc,yZ k,Nat.mul_succ];have:=EJ k;omega
theorem ry: ∀ {k:Nat} {o:List Ob},gd ls k o→o∈EI ls k
 |0,o,h=>by
  cases o with
  |nil=>exact List.mem_singleton.2 F
  |cons p o=>exact absurd (h.2 p (by simp)).1 (by omega)
 |k+1,o,h=>by
  show o∈EI ls k++_
  rcases List.eq_nil_or_concat o with rfl|⟨o,p,rfl⟩
  ·exact List.mem_append.2 (.inl (ry .nil))
  ·rw[List.concat_eq_append]at h⊢
   have h1:=List.pairwise_append.1 h.1
   have hp:=h.2 p (by simp)
   have gw: ∀q∈o,q.1<p.1:=fun q hq=>h1.2.2 q hq p (by simp)
   rcases Nat.lt_or_ge p.1 k with c|c
   ·refine List.mem_append.2 (.inl (ry ⟨h.1,fun q hq=>⟨?_,(h.2 q hq).2⟩⟩))
    rcases List.mem_append.1 hq with hq|hq
    ·have:=gw q hq;omega
    ·rw[List.mem_singleton.1 hq];exact c
   ·have e:p.1=k:=by omega
    refine List.mem_append.2 (.inr (List.mem_flatMap.2 ⟨o,ry ⟨h1.1,fun q hq=>⟨by have:=gw q hq;omega,(h.2 q (by simp[hq])).2⟩⟩,List.mem_map.2 ⟨p.2,List.mem_range.2 (by rw[←e];exact hp.2),?_⟩⟩))
    rw[←e]
theorem EK {n:Nat} {s:Nat} {o:List Ob}: ∀ {k:Nat},n<k→s<(lf ls n).d.next.length→gd ls n o→(⟨(n:Int),s,o⟩:Cf)∈J8 ls k
 |0,h,_,_=>absurd h (by omega)
 |k+1,h,hs,ho=>by
  show _∈J8 ls k++_
  rcases Nat.lt_or_ge n k with c|c
  ·exact List.mem_append.2 (.inl (EK c hs ho))
  ·have e:n=k:=by omega
   subst e
   exact List.mem_append.2 (.inr (List.mem_flatMap.2 ⟨o,ry ho,List.mem_map.2 ⟨s,List.mem_range.2 hs,F⟩⟩))
theorem Hh {K:Nat} (h:2*Tj ls ls.length≤K+1):qR ls K:=fun l hn hg=>by
 have:=vv hn (m:=(EI ls ls.length).map (fun o=>(⟨-1,0,o⟩:Cf))++J8 ls ls.length) fun c hc=>by
  rcases hg c hc with⟨h1,h2,h3⟩|⟨k,h1,hk,h2,h3⟩
  ·exact List.mem_append.2 (.inl (List.mem_map.2 ⟨c.o,ry h3,by obtain⟨a,b,d⟩:=c;simp only at h1 h2;rw[h1,h2]⟩))
  ·refine List.mem_append.2 (.inr ?_)
   obtain⟨a,b,d⟩:=c
   simp only at h1 h2 h3
   rw[h1];exact EK hk h2 h3
 rw[aP,ar,yZ]at this
 have:=EJ (ls:=ls) ls.length
 omega
end
def Ik:List cV→Nat
 | []=>1
 |d::l=>(d.next.length+1)*Ik l
theorem y5: ∀(l:List cV) (d:cV),Ik (l++[d])=Ik l*(d.next.length+1)
 | [],d=>by simp[Ik]
 |a::l,d=>by show _*Ik (l++[d])=_*Ik l*_;rw[y5 l d,Nat.mul_assoc]
theorem EL (ls:List Lf): ∀k,k≤ls.length→Tj ls k=Ik ((ls.take k).map Lf.d)
 |0,_=>rfl
 |k+1,h=>by
  rw[aH (by omega),bj,List.map_singleton,y5,←EL ls k (by omega)]
  show Tj ls k*_=_
  rw[vm (show k<ls.length by omega)]
theorem Tk {ls:List Lf} {k:Nat} {q:Lf} (hq:q.d=(lf ls k).d):(ls.set k q).map Lf.d=ls.map Lf.d:=by
 apply List.ext_getElem?
 intro i
 rw[bi,bi]
 by_cases e:i=k
 ·subst e
  rcases Nat.lt_or_ge i ls.length with c|c
  ·rw[List.getElem?_set_self c,ap c]
   show some q.d=some ls[i].d
   rw[hq,vm c]
  ·rw[bY (by simpa using c),bY c]
 ·rw[List.getElem?_set_ne (fun h=>e h.symm)]
theorem Il: ∀(b x:List Nat) (ls:List Lf),(km ls b x).map Lf.d=ls.map Lf.d
 | [],x,ls=>rfl
 |k::b,x,ls=>(Il b x _).trans (Tk (ls:=ls) (k:=k) F)
theorem Im: ∀(la:List Nat) (ls:List Lf),(mQ ls la).map Lf.d=ls.map Lf.d
 | [],ls=>rfl
 |k::la,ls=>(Im la _).trans (Tk (ls:=ls) (k:=k) F)
theorem f_ {v B:Nat} (hv:v≤6) (hB:B≤4096) {t:Rx} (hp:t.plain=true) (ho:kv v t B) (hs:t.sz≤6):(minOf v (fx t)).next.length≤tq t.sz:=by
 obtain⟨D,hD⟩:=Rn hv hp hs
 exact(di hv hB hp ho).wi hD
theorem j5: ∀k,k≤6→tq k≤8:=by decide
theorem J9 {v B:Nat} (hv:v≤6) (hB:B≤4096): ∀ {t:Rx},t.plain=true→kv v t B→t.sz=7→(minOf v (fx t)).next.length≤512
 | .none,_,_,hs=>absurd hs (by decide)
 | .empty,_,_,hs=>absurd hs (by decide)
 | .letter p n,_,_,hs=>absurd hs (by show¬1=7;decide)
 | .not a,hp,ho,hs=>by
  have hs:a.sz+1=7:=hs
  have h1:=f_ hv hB (t:=a) hp ho.1 (by omega)
  have h2:=j5 a.sz (by omega)
  have h3:=(di hv hB (t:=a) hp ho.1).toHasL
  have h4:(minOf v (fx a)).next.length*(minOf v (fx a)).next.length≤8*8:=Nat.mul_le_mul (by omega) (by omega)
  have h5:=HasL.not (h3.le (aS _)) (by omega)
  have h6:=(di hv hB (t:=.not a) hp ho).wi (D:=oM (minOf v (fx a))) (h5.toHasL)
  omega
 | .star a,hp,ho,hs=>by
  have hs:a.sz+1=7:=hs
  have h1:=f_ hv hB (t:=a) hp ho.1 (by omega)
  have h2:=j5 a.sz (by omega)
  have h3:=di hv hB (t:=a) hp ho.1
  have h4:2^((minOf v (fx a)).next.length+1)≤2^9:=bV (by decide) (by omega)
  have h5:=Eg (B:=512) hv (by decide) h3.toHasL (uj h3.valid h4)
  exact h5.len
 | .ie a b,hp,ho,hs=>by
  have hs:a.sz+b.sz+1=7:=hs
  simp only[Rx.plain,ay]at hp
  have pa:=a.eU;have pb:=b.eU
  have h1:=f_ hv hB hp.1 ho.1 (by omega)
  have h2:=f_ hv hB hp.2 ho.2.1 (by omega)
  have h3:=di hv hB hp.1 ho.1
  have h4:=di hv hB hp.2 ho.2.1
  have h6:tq a.sz*2^tq b.sz≤512:=by
   have: ∀i,i≤5→ ∀j,j≤5→tq i*2^tq j≤512:=by decide
   exact this _ (by omega) _ (by omega)
  have h7:(minOf v (fx a)).next.length*2^(minOf v (fx b)).next.length≤tq a.sz*2^tq b.sz:=Nat.mul_le_mul h1 (bV (by decide) h2)
  exact(kJ (B:=512) hv (by decide) h3.toHasL h4.toHasL (kI h3.valid h4.valid (by omega))).len
 | .iu a b,hp,ho,hs=>by
  have hs:a.sz+b.sz+1=7:=hs
  simp only[Rx.plain,ay]at hp
  have pa:=a.eU;have pb:=b.eU
  have h1:=f_ hv hB hp.1 ho.1 (by omega)
  have h2:=f_ hv hB hp.2 ho.2.1 (by omega)
  have h3:=di hv hB hp.1 ho.1
  have h4:=di hv hB hp.2 ho.2.1
  have h6:(minOf v (fx a)).next.length*(minOf v (fx b)).next.length≤8*8:=Nat.mul_le_mul (bo h1 (j5 _ (by omega))) (bo h2 (j5 _ (by omega)))
  have h7:=HasL.op (f:=Fi) h3.toHasL.JZ h4.toHasL.JZ (by omega)
  have h8:=(di hv hB (t:=.iu a b) (by simp[Rx.plain,hp]) ho).wi h7.toHasL
  omega
 | .and a b,hp,ho,hs=>by
  have hs:a.sz+b.sz+1=7:=hs
  simp only[Rx.plain,ay]at hp
  have pa:=a.eU;have pb:=b.eU
  have h1:=f_ hv hB hp.1 ho.1 (by omega)
  have h2:=f_ hv hB hp.2 ho.2.1 (by omega)
  have h3:=di hv hB hp.1 ho.1
  have h4:=di hv hB hp.2 ho.2.1
  have h6:(minOf v (fx a)).next.length*(minOf v (fx b)).next.length≤8*8:=Nat.mul_le_mul (bo h1 (j5 _ (by omega))) (bo h2 (j5 _ (by omega)))
  have h7:=HasL.op (f:=sB) h3.toHasL.JZ h4.toHasL.JZ (by omega)
  have h8:=(di hv hB (t:=.and a b) (by simp[Rx.plain,hp]) ho).wi h7.toHasL
  omega
 | .ahead a,hp,_,_=>absurd hp (by simp[Rx.plain])
 | .behind a,hp,_,_=>absurd hp (by simp[Rx.plain])
def EM (k:Nat):Nat:=if k≤6 then tq k else if k=7 then 512 else 4096
theorem vH {v B:Nat} (hv:v≤6) (hB:B≤4096) {t:Rx} (hp:t.plain=true) (ho:kv v t B):(minOf v (fx t)).next.length≤EM t.sz:=by
 unfold EM
 split
 ·exact f_ hv hB hp ho (by assumption)
 ·split
  ·exact J9 hv hB hp ho (by assumption)
  ·exact bo (di hv hB hp ho).len hB
def wX (n c:Nat):Prop:= ∃e,n≤2^e∧9*e≤13*c
theorem wX.mul {n m c d:Nat} (h:wX n c) (k:wX m d):wX (n*m) (c+d):=by
 obtain⟨e,h1,h2⟩:=h
 obtain⟨f,k1,k2⟩:=k
 exact⟨e+f,by rw[Nat.pow_add];exact Nat.mul_le_mul h1 k1,by omega⟩
def Xt (k:Nat):Nat:=if k≤7 then[2,2,2,3,3,3,4,10].getD k 0 else 13
def Xu (k:Nat):Nat:=if k≤7 then[3,3,3,4,4,4,5,11].getD k 0 else 13
def Xv (k:Nat):Nat:=if k≤6 then[4,4,4,5,6,6,9].getD k 0 else 13
theorem WB (k:Nat) (h:1≤k):EM k+1≤2^Xt k∧9*Xt k≤13*(k+1):=by
 rcases Nat.lt_or_ge k 8 with c|c
 ·have: ∀k,k<8→1≤k→EM k+1≤2^Xt k∧9*Xt k≤13*(k+1):=by decide
  exact this k c h
 ·have e1:EM k=4096:=by unfold EM;rw[aA (by omega),aA (by omega)]
  have e2:Xt k=13:=by unfold Xt;rw[aA (by omega)]
  rw[e1,e2];omega
theorem WC (k:Nat) (h:1≤k):min (2*EM k) 4096+1≤2^Xu k∧9*Xu k≤13*(k+1+1):=by
 rcases Nat.lt_or_ge k 8 with c|c
 ·have: ∀k,k<8→1≤k→min (2*EM k) 4096+1≤2^Xu k∧9*Xu k≤13*(k+1+1):=by decide
  exact this k c h
 ·have e2:Xu k=13:=by unfold Xu;rw[aA (by omega)]
  rw[e2];omega
theorem WD (k:Nat) (h:1≤k):(if k≤6 then 2^EM k else 4096)+1≤2^Xv k∧9*Xv k≤13*(k+1+1):=by
 rcases Nat.lt_or_ge k 7 with c|c
 ·have: ∀k,k<7→1≤k→(if k≤6 then 2^EM k else 4096)+1≤2^Xv k∧9*Xv k≤13*(k+1+1):=by decide
  exact this k c h
 ·have e2:Xv k=13:=by unfold Xv;rw[aA (by omega)]
  rw[e2,aA (by omega)];omega
theorem J_ {v B:Nat} (hv:v≤6) (hB:B≤4096): ∀ {t:Rx},t.wf=true→okB v t B→(∀a b,t≠.ie a b)→(∀a b,t≠.iu a b)→wX ((eP v t).d.next.length+1) (t.sz+1):=by
 have pl: ∀ {t:Rx},t.plain=true→kv v t B→wX ((minOf v (fx t)).next.length+1) (t.sz+1):=fun {t} hp ho=>by
  obtain⟨h1,h2⟩:=WB t.sz t.eU
  exact⟨_,bo (Nat.succ_le_succ (vH hv hB hp ho)) h1,h2⟩
 intro t
 cases t with
 |none=>exact fun hw h _ _=>pl (t:=.none) hw h
 |empty=>exact fun hw h _ _=>pl (t:=.empty) hw h
 |letter p n=>exact fun hw h _ _=>pl (t:=.letter p n) hw h
 |and a b=>exact fun hw h _ _=>pl (t:=.and a b) hw h
 |not a=>exact fun hw h _ _=>pl (t:=.not a) hw h
 |star a=>exact fun hw h _ _=>pl (t:=.star a) hw h
 |ie a b=>exact fun _ _ h _=>absurd F (h a b)
 |iu a b=>exact fun _ _ _ h=>absurd F (h a b)
 |ahead a=>
  intro hw h _ _
  obtain⟨h1,h2⟩:=WC a.sz a.eU
  have h3:=vH hv hB (t:=a) hw h.1
  have h4:=di hv hB (t:=a) hw h.1
  have h5:(eP v (.ahead a)).d.next.length≤min (2*EM a.sz) 4096:=by
   have hm:=(kJ hv hB h4.toHasL (eV hv) h.2).len
   refine Nat.le_min.2 ⟨?_,bo hm hB⟩
   rcases Nat.lt_or_ge (2*EM a.sz) 4096 with c|c
   ·have hs:=eV hv
    have h6:=kJ (B:=2*EM a.sz) hv (by omega) h4.toHasL hs (kI h4.valid hs.valid (by show _*2^1≤_;omega))
    exact h6.len
   ·exact bo hm (by omega)
  exact⟨_,bo (Nat.succ_le_succ h5) h1,h2⟩
 |behind a=>
  intro hw h _ _
  obtain⟨h1,h2⟩:=WD a.sz a.eU
  have h3:=vH hv hB (t:=a) hw h.1
  have h4:=di hv hB (t:=a) hw h.1
  have h5:(eP v (.behind a)).d.next.length≤(if a.sz≤6 then 2^EM a.sz else 4096):=by
   have hm:=(kJ hv hB (eV hv) h4.toHasL h.2).len
   split
   ·have hs:=eV hv
    have h7:2^EM a.sz≤256:=by
     have: ∀k,k≤6→2^EM k≤256:=by decide
     exact this _ (by assumption)
    have h6:=kJ (B:=2^EM a.sz) hv (by omega) hs h4.toHasL (kI hs.valid h4.valid (by show 1*_≤_;rw[Nat.one_mul];exact bV (by decide) h3))
    exact h6.len
   ·exact bo hm hB
  exact⟨_,bo (Nat.succ_le_succ h5) h1,h2⟩
theorem EN {v B:Nat} (hv:v≤6) (hB:B≤4096): ∀(t:Rx) (ls:List Lf),t.wf=true→okB v t B→ ∀c,wX (Ik (ls.map Lf.d)) c→wX (Ik ((aU v t ls).ls.map Lf.d)) (c+(t.sz+1)):=by
 have leaf: ∀(t:Rx) (ls:List Lf),t.wf=true→okB v t B→(∀a b,t≠.ie a b)→(∀a b,t≠.iu a b)→ ∀c,wX (Ik (ls.map Lf.d)) c→wX (Ik ((ls++[eP v t]).map Lf.d)) (c+(t.sz+1)):=fun t ls hw ho n1 n2 c hc=>by
  rw[bj,List.map_singleton,y5]
  exact hc.mul (J_ hv hB hw ho n1 n2)
 intro t
 induction t with
 |ie a b kF lL=>
  intro ls hw ho c hc
  simp only[Rx.wf,ay]at hw
  have h1:=lL _ hw.2 ho.2 _ (kF ls hw.1 ho.1 c hc)
  show wX (Ik ((km _ _ _).map Lf.d)) (c+(a.sz+b.sz+1+1))
  rw[Il,show c+(a.sz+b.sz+1+1)=c+(a.sz+1)+(b.sz+1) by omega]
  exact h1
 |iu a b kF lL=>
  intro ls hw ho c hc
  simp only[Rx.wf,ay]at hw
  have h1:=lL _ hw.2 ho.2 _ (kF ls hw.1 ho.1 c hc)
  show wX (Ik ((aU v b _).ls.map Lf.d)) (c+(a.sz+b.sz+1+1))
  rw[show c+(a.sz+b.sz+1+1)=c+(a.sz+1)+(b.sz+1) by omega]
  exact h1
 |none=>exact fun ls hw ho=>leaf .none ls hw ho (by simp) (by simp)
 |empty=>exact fun ls hw ho=>leaf .empty ls hw ho (by simp) (by simp)
 |letter p n=>exact fun ls hw ho=>leaf (.letter p n) ls hw ho (by simp) (by simp)
 |and a b _ _=>exact fun ls hw ho=>leaf (.and a b) ls hw ho (by simp) (by simp)
 |not a _=>exact fun ls hw ho=>leaf (.not a) ls hw ho (by simp) (by simp)
 |star a _=>exact fun ls hw ho=>leaf (.star a) ls hw ho (by simp) (by simp)
 |ahead a _=>exact fun ls hw ho=>leaf (.ahead a) ls hw ho (by simp) (by simp)
 |behind a _=>exact fun ls hw ho=>leaf (.behind a) ls hw ho (by simp) (by simp)
theorem Ro {v B:Nat} (hv:v≤6) (hB:B≤4096) {t:Rx} (hw:t.wf=true) (ho:okB v t B) (hs:t.sz≤24):qR (jn v t) 137438953471:=by
 have h1:=EN hv hB t [] hw ho 0 ⟨0,aS _,by decide⟩
 apply Hh
 rw[EL _ _ (aS _),List.take_length]
 show 2*Ik ((mQ _ _).map Lf.d)≤_
 rw[Im]
 obtain⟨e,h2,h3⟩:=h1
 have h4:(2:Nat)^e≤2^36:=bV (by decide) (by omega)
 omega
theorem Sn (n:Nat):dU n=0∨dU n=1∨dU n=2:=by
 unfold dU
 split
 ·exact .inr (.inr F)
 ·split
  ·exact .inr (.inl F)
  ·exact .inl F
theorem xo {v:Nat} {e:List eC} {fs:List Nat} (h:ki v e=.ok fs): ∀(f i:Nat),i<f→i<e.length→(iE e f i).sz+fs.getD i 0≤i+1
 |0,i,hf,hi=>absurd hf (by omega)
 |f+1,i,hf,hi=>by
  obtain⟨g0,g1,g2,g3⟩:=xe h hi
  obtain⟨s1,s2,_⟩:=kg (oq h hi)
  unfold iE
  simp only[nV hi]
  rcases Sn e[i].op with hc|hc|hc
  ·have h3:=g3 hc
   have:e[i].op=1∨e[i].op=2∨e[i].op=3:=by unfold dU at hc;split at hc;omega;split at hc;omega;omega
   rcases this with c|c|c
   all_goals (simp only[c];show 1+_≤_;omega)
  ·obtain⟨c1,c2,c3⟩:=g1 hc
   have ha:=xo h f (i-1) (by omega) (by omega)
   have ea:e[i].a.toNat=i-1:=by omega
   rw[ea]
   have:e[i].op=7∨e[i].op=8∨e[i].op=9∨e[i].op=10:=by unfold dU at hc;split at hc;omega;split at hc;omega;omega
   rcases this with c|c|c|c
   all_goals (simp only[c];show(iE e f (i-1)).sz+1+_≤_;omega)
  ·obtain⟨c1,c2,c3,c4,c5,c6⟩:=g2 hc
   have ha:=xo h f (fs.getD (i-1) 0-1) (by omega) (by omega)
   have hb:=xo h f (i-1) (by omega) (by omega)
   have ea:e[i].a.toNat=fs.getD (i-1) 0-1:=by omega
   have eb:e[i].b.toNat=i-1:=by omega
   rw[ea]at c6
   rw[ea,eb]
   have:e[i].op=4∨e[i].op=5∨e[i].op=6:=by unfold dU at hc;split at hc;omega;split at hc;omega;omega
   rcases this with c|c|c
   all_goals (simp only[c];show(iE e f _).sz+(iE e f _).sz+1+_≤_;omega)
def JW:Rx→Nat→List Nat
 | .ie a b,n=>JW a n
 | .iu a b,n=>JW a n++JW b (n+a.lv)
 |_,n=>[n]
def Eu:Rx→Nat→List Nat
 | .ie a b,n=>Eu b (n+a.lv)
 | .iu a b,n=>Eu a n++Eu b (n+a.lv)
 |_,n=>[n]
theorem Gt: ∀t:Rx,0<t.lv
 | .ie a b=>Nat.add_pos_left (Gt a) _
 | .iu a b=>Nat.add_pos_left (Gt a) _
 | .none| .empty| .letter _ _| .and _ _| .not _| .star _| .ahead _| .behind _=>Nat.one_pos
theorem mP: ∀(t:Rx) (n:Nat),∀k∈Eu t n,n≤k∧k<n+t.lv
 | .ie a b,n,k,h=>by
  have:=mP b (n+a.lv) k h
  show n≤k∧k<n+(a.lv+b.lv);omega
 | .iu a b,n,k,h=>by
  show n≤k∧k<n+(a.lv+b.lv)
  rcases List.mem_append.1 h with h|h
  ·have:=mP a n k h;omega
  ·have:=mP b (n+a.lv) k h;omega
 | .none,n,k,h=>by rw[List.mem_singleton.1 h];exact⟨aS _,Nat.lt_succ_self _⟩
 | .empty,n,k,h=>by rw[List.mem_singleton.1 h];exact⟨aS _,Nat.lt_succ_self _⟩
 | .letter _ _,n,k,h=>by rw[List.mem_singleton.1 h];exact⟨aS _,Nat.lt_succ_self _⟩
 | .and _ _,n,k,h=>by rw[List.mem_singleton.1 h];exact⟨aS _,Nat.lt_succ_self _⟩
 | .not _,n,k,h=>by rw[List.mem_singleton.1 h];exact⟨aS _,Nat.lt_succ_self _⟩
 | .star _,n,k,h=>by rw[List.mem_singleton.1 h];exact⟨aS _,Nat.lt_succ_self _⟩
 | .ahead _,n,k,h=>by rw[List.mem_singleton.1 h];exact⟨aS _,Nat.lt_succ_self _⟩
 | .behind _,n,k,h=>by rw[List.mem_singleton.1 h];exact⟨aS _,Nat.lt_succ_self _⟩
theorem r8: ∀(t:Rx) (n:Nat),(Eu t n).Nodup
 | .ie a b,n=>r8 b _
 | .iu a b,n=>by
  refine List.nodup_append.2 ⟨r8 a n,r8 b _,fun x hx y hy=>?_⟩
  have:=mP a n x hx;have:=mP b _ y hy;omega
 | .none,n| .empty,n| .letter _ _,n| .and _ _,n| .not _,n| .star _,n| .ahead _,n| .behind _,n=>by simp[Eu]
theorem nX (v:Nat): ∀(t:Rx) (ls:List Lf),(aU v t ls).fi=JW t ls.length∧(aU v t ls).la=Eu t ls.length
 | .ie a b,ls=>by
  obtain⟨h1,h2⟩:=nX v a ls
  obtain⟨h3,h4⟩:=nX v b (aU v a ls).ls
  rw[ep]at h3 h4
  exact⟨h1,h4⟩
 | .iu a b,ls=>by
  obtain⟨h1,h2⟩:=nX v a ls
  obtain⟨h3,h4⟩:=nX v b (aU v a ls).ls
  rw[ep]at h3 h4
  exact⟨by show _++_=_;rw[h1,h3];rfl,by show _++_=_;rw[h2,h4];rfl⟩
 | .none,ls| .empty,ls| .letter _ _,ls| .and _ _,ls| .not _,ls| .star _,ls| .ahead _,ls| .behind _,ls=>⟨F,F⟩
theorem Ev (x:List Nat): ∀(b:List Nat) {ls:List Lf},b.Nodup→(∀k∈b,k<ls.length)→ ∀i,lf (km ls b x) i=if i∈b then {lf ls i with fo:=(lf ls i).fo++x}else lf ls i
 | [],ls,_,_,i=>by simp[km]
 |k::b,ls,hn,hk,i=>by
  rw[List.nodup_cons]at hn
  have h1:=Ev x b (ls:=ls.set k {lf ls k with fo:=(lf ls k).fo++x}) hn.2 (fun j hj=>by rw[eE];exact hk j (by simp[hj])) i
  show lf (km (ls.set k _) b x) i=_
  rw[h1,Ca (hk k (by simp))]
  by_cases e:i=k
  ·subst e
   rw[aA hn.1,aJ F,aJ (by simp)]
  ·rw[aA e]
   by_cases e2:i∈b
   ·rw[aJ e2,aJ (by simp[e2])]
   ·rw[aA e2,aA (by simp[e,e2])]
theorem Ew: ∀(la:List Nat) {ls:List Lf},(∀k∈la,k<ls.length)→ ∀i,lf (mQ ls la) i=if i∈la then {lf ls i with la:=true}else lf ls i
 | [],ls,_,i=>by simp[mQ]
 |k::b,ls,hk,i=>by
  have h1:=Ew b (ls:=ls.set k {lf ls k with la:=true}) (fun j hj=>by rw[eE];exact hk j (by simp[hj])) i
  show lf (mQ (ls.set k _) b) i=_
  rw[h1,Ca (hk k (by simp))]
  by_cases e:i=k
  ·subst e
   rw[aJ F,aJ (show i∈i::b by simp)]
   split<;>rfl
  ·rw[aA e]
   by_cases e2:i∈b
   ·rw[aJ e2,aJ (by simp[e2])]
   ·rw[aA e2,aA (by simp[e,e2])]
def zZ (v:Nat) (LS:List Lf):Rx→Nat→List Nat→Bool→Prop
 | .ie a b,n,E,l=>zZ v LS a n (JW b (n+a.lv)) false∧zZ v LS b (n+a.lv) E l
 | .iu a b,n,E,l=>zZ v LS a n E l∧zZ v LS b (n+a.lv) E l
 |t,n,E,l=>n<LS.length∧(lf LS n).op=(eP v t).op∧(lf LS n).d=(eP v t).d∧(lf LS n).fo=E∧(lf LS n).la=l
def Rx.leaf:Rx→Bool
 | .ie _ _| .iu _ _=>false
 |_=>true
theorem rn {v:Nat} {LS:List Lf} {n:Nat} {E:List Nat} {l:Bool}: ∀ {t:Rx},t.leaf=true→(zZ v LS t n E l↔n<LS.length∧(lf LS n).op=(eP v t).op∧(lf LS n).d=(eP v t).d∧(lf LS n).fo=E∧(lf LS n).la=l)
 | .ie _ _,h=>by cases h
 | .iu _ _,h=>by cases h
 | .none,_| .empty,_| .letter _ _,_| .and _ _,_| .not _,_| .star _,_| .ahead _,_| .behind _,_=>Iff.rfl
theorem H4 {t:Rx} (h:t.leaf=true) (n:Nat):JW t n=[n]∧Eu t n=[n]∧t.lv=1:=by
 cases t<;>first|(cases h;done)|exact⟨F,F,F⟩
theorem NR {t:Rx} (h:t.leaf=true) (v:Nat) (ls:List Lf):(aU v t ls).ls=ls++[eP v t]∧(eP v t).fo=[]∧(eP v t).la=false:=by
 cases t<;>first|(cases h;done)|exact⟨F,F,F⟩
theorem H5 {v:Nat} {LS Ph:List Lf} (hl:Ph.length=LS.length) (G:Lf→Lf) (h1: ∀q,(G q).op=q.op∧(G q).d=q.d) {E E':List Nat} {l l':Bool} (h2: ∀q,q.fo=E→q.la=l→(G q).fo=E'∧(G q).la=l'): ∀(t:Rx) (n:Nat),(∀i,n≤i→i<n+t.lv→lf Ph i=if i∈Eu t n then G (lf LS i)else lf LS i)→zZ v LS t n E l→zZ v Ph t n E' l':=by
 have adA: ∀(t:Rx) (n:Nat) (E:List Nat) (l:Bool),(∀i,n≤i→i<n+t.lv→lf Ph i=lf LS i)→zZ v LS t n E l→zZ v Ph t n E l:=by
  intro t
  induction t with
  |ie a b kF lL=>
   intro n E l h hi
   exact⟨kF _ _ _ (fun i h3 h4=>h i h3 (by show i<n+(a.lv+b.lv);omega)) hi.1,lL _ _ _ (fun i h3 h4=>h i (by omega) (by show i<n+(a.lv+b.lv);omega)) hi.2⟩
  |iu a b kF lL=>
   intro n E l h hi
   exact⟨kF _ _ _ (fun i h3 h4=>h i h3 (by show i<n+(a.lv+b.lv);omega)) hi.1,lL _ _ _ (fun i h3 h4=>h i (by omega) (by show i<n+(a.lv+b.lv);omega)) hi.2⟩
  |none|empty|letter|and|not|star|ahead|behind=>
   intro n E l h hi
   obtain⟨k1,k2,k3,k4,k5⟩:=hi
   have e:=h n (aS _) (Nat.lt_succ_self _)
   exact⟨by omega,by rw[e];exact k2,by rw[e];exact k3,by rw[e];exact k4,by rw[e];exact k5⟩
 intro t
 induction t with
 |ie a b kF lL=>
  intro n h hi
  refine⟨adA a n _ _ (fun i h3 h4=>?_) hi.1,lL _ (fun i h3 h4=>h i (by omega) (by show i<n+(a.lv+b.lv);omega)) hi.2⟩
  have h5:=h i h3 (by show i<n+(a.lv+b.lv);omega)
  rwa[aA (fun hm=>by have:=mP b (n+a.lv) i hm;omega)]at h5
 |iu a b kF lL=>
  intro n h hi
  refine⟨kF n (fun i h3 h4=>?_) hi.1,lL _ (fun i h3 h4=>?_) hi.2⟩
  ·have h5:=h i h3 (by show i<n+(a.lv+b.lv);omega)
   have e:i∈Eu (.iu a b) n↔i∈Eu a n:=by
    show i∈Eu a n++Eu b (n+a.lv)↔_
    rw[gR]
    exact⟨fun h=>h.elim id fun hm=>by have:=mP b (n+a.lv) i hm;omega,.inl⟩
   simp only[e]at h5;exact h5
  ·have h5:=h i (by omega) (by show i<n+(a.lv+b.lv);omega)
   have e:i∈Eu (.iu a b) n↔i∈Eu b (n+a.lv):=by
    show i∈Eu a n++Eu b (n+a.lv)↔_
    rw[gR]
    exact⟨fun h=>h.elim (fun hm=>by have:=mP a n i hm;omega) id,.inr⟩
   simp only[e]at h5;exact h5
 |none|empty|letter|and|not|star|ahead|behind=>
  intro n h hi
  obtain⟨k1,k2,k3,k4,k5⟩:=hi
  have e:lf Ph n=G (lf LS n):=(h n (aS _) (Nat.lt_succ_self _)).trans (aJ (List.mem_singleton.2 F))
  have h3:=h1 (lf LS n)
  have h4:=h2 _ k4 k5
  exact⟨by omega,by rw[e,h3.1];exact k2,by rw[e,h3.2];exact k3,by rw[e];exact h4.1,by rw[e];exact h4.2⟩
theorem yP {v:Nat} {LS Ph:List Lf} {t:Rx} {n:Nat} {E:List Nat} {l:Bool} (hl:LS.length≤Ph.length) (h: ∀i,n≤i→i<n+t.lv→lf Ph i=lf LS i) (hi:zZ v LS t n E l):zZ v Ph t n E l:=by
 induction t generalizing n E l with
 |ie a b kF lL=>exact⟨kF (fun i h3 h4=>h i h3 (by show i<n+(a.lv+b.lv);omega)) hi.1,lL (fun i h3 h4=>h i (by omega) (by show i<n+(a.lv+b.lv);omega)) hi.2⟩
 |iu a b kF lL=>exact⟨kF (fun i h3 h4=>h i h3 (by show i<n+(a.lv+b.lv);omega)) hi.1,lL (fun i h3 h4=>h i (by omega) (by show i<n+(a.lv+b.lv);omega)) hi.2⟩
 |none|empty|letter|and|not|star|ahead|behind=>
  obtain⟨k1,k2,k3,k4,k5⟩:=hi
  have e:=h n (aS _) (Nat.lt_succ_self _)
  exact⟨by omega,by rw[e];exact k2,by rw[e];exact k3,by rw[e];exact k4,by rw[e];exact k5⟩
theorem JX (v:Nat): ∀(t:Rx) (ls:List Lf),zZ v (aU v t ls).ls t ls.length [] false∧ ∀k,k<ls.length→lf (aU v t ls).ls k=lf ls k:=by
 have leaf: ∀(t:Rx) (ls:List Lf),t.leaf=true→zZ v (aU v t ls).ls t ls.length [] false∧ ∀k,k<ls.length→lf (aU v t ls).ls k=lf ls k:=fun t ls h=>by
  obtain⟨h1,h2,h3⟩:=NR h v ls
  have e:lf (ls++[eP v t]) ls.length=eP v t:=by unfold lf;rw[az,bM (aS _),fL];rfl
  rw[h1,rn h,e]
  exact⟨⟨by simp,F,F,h2,h3⟩,fun k hk=>by unfold lf;rw[az,bE hk,←az]⟩
 intro t
 induction t with
 |ie a b kF lL=>
  intro ls
  obtain⟨a1,a2⟩:=kF ls
  obtain⟨b1,b2⟩:=lL (aU v a ls).ls
  have f1:=nX v a ls
  have f2:=nX v b (aU v a ls).ls
  have l1:=ep v a ls
  have l2:=ep v b (aU v a ls).ls
  have hp:=Gt b
  have mL:=Ev (aU v b (aU v a ls).ls).fi (aU v a ls).la (ls:=(aU v b (aU v a ls).ls).ls) (by rw[f1.2];exact r8 a _) (fun k hk=>by rw[f1.2]at hk;have:=mP a _ k hk;omega)
  have ig:(km (aU v b (aU v a ls).ls).ls (aU v a ls).la (aU v b (aU v a ls).ls).fi).length=(aU v b (aU v a ls).ls).ls.length:=rR _ _ _
  rw[l1]at f2 b1 b2
  refine⟨⟨?_,?_⟩,fun k hk=>?_⟩
  ·rw[←f2.1]
   refine H5 ig (fun q=> {q with fo:=q.fo++(aU v b (aU v a ls).ls).fi}) (fun q=>⟨F,F⟩) (E:=[]) (l:=false) (fun q h3 h4=>⟨by show q.fo++_=_;rw[h3];rfl,h4⟩) a ls.length (fun i h3 h4=>by rw[mL i,f1.2]) ?_
   exact yP (by omega) (fun i h3 h4=>b2 i (by omega)) a1
  ·refine yP (Nat.le_of_eq ig.symm) (fun i h3 h4=>?_) b1
   refine(mL i).trans (aA ?_)
   intro hm;rw[f1.2]at hm;have:=mP a _ i hm;omega
  ·show lf (km _ _ _) k=_
   rw[mL k,aA (fun hm=>by rw[f1.2]at hm;have:=mP a _ k hm;omega),b2 k (by omega),a2 k hk]
 |iu a b kF lL=>
  intro ls
  obtain⟨a1,a2⟩:=kF ls
  obtain⟨b1,b2⟩:=lL (aU v a ls).ls
  have l1:=ep v a ls
  have l2:=ep v b (aU v a ls).ls
  rw[l1]at b1 b2
  exact⟨⟨yP (by show _≤(aU v b _).ls.length;omega) (fun i h3 h4=>b2 i (by omega)) a1,b1⟩,fun k hk=>by show lf (aU v b _).ls k=_;rw[b2 k (by omega),a2 k hk]⟩
 |none=>exact fun ls=>leaf .none ls F
 |empty=>exact fun ls=>leaf .empty ls F
 |letter p n=>exact fun ls=>leaf (.letter p n) ls F
 |and a b _ _=>exact fun ls=>leaf (.and a b) ls F
 |not a _=>exact fun ls=>leaf (.not a) ls F
 |star a _=>exact fun ls=>leaf (.star a) ls F
 |ahead a _=>exact fun ls=>leaf (.ahead a) ls F
 |behind a _=>exact fun ls=>leaf (.behind a) ls F
theorem Cj (v:Nat) (t:Rx):zZ v (jn v t) t 0 [] true∧Jn v t=JW t 0:=by
 obtain⟨h1,_⟩:=JX v t []
 obtain⟨h2,h3⟩:=nX v t []
 refine⟨?_,h2⟩
 refine H5 (LS:=(aU v t []).ls) (rS _ _) (fun q=> {q with la:=true}) (fun q=>⟨F,F⟩) (E:=[]) (l:=false) (fun q h4 h5=>⟨h4,F⟩) t 0 (fun i h4 h5=>?_) h1
 show lf (mQ _ _) i=_
 rw[Ew _ (fun k hk=>by rw[h3]at hk;have:=mP t _ k hk;rw[ep];simpa using this.2),h3]
 rfl
def rp (w:List Nat):Rx→Nat→Nat→Bool
 | .ie a b,i,j=>(List.range (w.length+1)).any fun k=>rp w a i k&&rp w b k j
 | .iu a b,i,j=>rp w a i j||rp w b i j
 | .ahead a,i,j=>decide (i=j∧i≤w.length)&&iA (fx a) (fun _=>true) (w.drop i)
 | .behind a,i,j=>decide (i=j∧i≤w.length)&&iA (fun _=>true) (fx a) (w.take i)
 |t,i,j=>decide (i≤j∧j≤w.length)&&fx t ((w.drop i).take (j-i))
def NS:Rx→Lg
 | .ahead a=>iA (fx a) (fun _=>true)
 | .behind a=>iA (fun _=>true) (fx a)
 |t=>fx t
theorem vy {v B:Nat} (hv:v≤6) (hB:B≤4096): ∀ {t:Rx},t.leaf=true→t.wf=true→okB v t B→fQ (v:Int) B (eP v t).d (NS t)
 | .none,_,hw,h=>di hv hB (t:=.none) hw h
 | .empty,_,hw,h=>di hv hB (t:=.empty) hw h
 | .letter p n,_,hw,h=>di hv hB (t:=.letter p n) hw h
 | .and a b,_,hw,h=>di hv hB (t:=.and a b) hw h
 | .not a,_,hw,h=>di hv hB (t:=.not a) hw h
 | .star a,_,hw,h=>di hv hB (t:=.star a) hw h
 | .ie a b,hl,_,_=>by cases hl
 | .iu a b,hl,_,_=>by cases hl
 | .ahead a,_,hw,h=>kJ hv hB (di hv hB (t:=a) hw h.1).toHasL (eV hv) h.2
 | .behind a,_,hw,h=>kJ hv hB (eV hv) (di hv hB (t:=a) hw h.1).toHasL h.2
theorem NT (ls:List Lf) (bh u:List Nat) (x:Nat):JS ls bh (u++[x])=iQ ls (JS ls bh u) x:=by unfold JS;rw[cO];rfl
theorem H6 (ls:List Lf) (bh u v:List Nat):JS ls bh (u++v)=JS ls (JS ls bh u) v:=by unfold JS;rw[cO]
theorem Wu {ls:List Lf} {k:Nat} (hk:k<ls.length) (wU:(lf ls k).op=10): ∀u,(JS ls (ls.map fun l=>l.d.start.toNat) u).getD k 0=runN (lf ls k).d (lf ls k).d.start.toNat u:=by
 apply yH
 ·show(ls.map fun l=>l.d.start.toNat).getD k 0=(lf ls k).d.start.toNat
  rw[az,bi,ap hk,vm hk];rfl
 ·intro u x ih
  rw[NT,eQ,←ih]
  unfold iQ
  rw[az,bi,List.getElem?_range hk]
  show(if(lf ls k).op=10 then _ else 0)=_
  rw[aJ wU]
theorem Ex {p:Lg} {u v:List Nat} (h:iA p (fun _=>true) u=true):iA p (fun _=>true) (u++v)=true:=by
 rw[gN]at h⊢
 obtain⟨x,y,rfl,hx,_⟩:=h
 exact⟨x,y++v,by rw[a6],hx,F⟩
section
variable {v B:Nat} {LS:List Lf} {w:List Nat}
def zG (LS:List Lf) (w:List Nat) (i:Nat):List Nat:=JS LS (LS.map fun l=>l.d.start.toNat) (w.take i)
theorem tp {d:cV} {p:Lg} (h:fQ (v:Int) B d p) {u:List Nat} (hu:iv (v:Int) u):dF d (runN d d.start.toNat u)=p u:=h.iH u hu
theorem Ey (hv:v≤6) (hB:B≤4096) (hw:iv (v:Int) w) {t:Rx} {n:Nat} {E:List Nat} {l:Bool} (hl:t.leaf=true) (hi:zZ v LS t n E l) (li:t.wf=true) (ho:okB v t B) {i:Nat} (KE:i≤w.length):
  Way LS () true (zG LS w i) n (w.drop i)↔ ∃j,j≤w.length∧rp w t i j=true∧Way LS () false (zG LS w j) n (w.drop j):=by
 obtain⟨k1,k2,k3,_,_⟩:=(rn hl).1 hi
 have hL:=vy hv hB hl li ho
 rw[←k3]at hL
 have key: ∀(JD:(lf LS n).op=0) (hp:NS t=fx t) (hm: ∀j,rp w t i j=(decide (i≤j∧j≤w.length)&&fx t ((w.drop i).take (j-i)))),Way LS () true (zG LS w i) n (w.drop i)↔ ∃j,j≤w.length∧rp w t i j=true∧Way LS () false (zG LS w j) n (w.drop j):=by
  intro JD hp hm
  constructor
  ·intro h
   generalize hd:w.drop i=z at h
   cases h with
   |ahead h1=>omega
   |behind h1=>omega
   | @plain _ _ u v2 h1 h2 h3 h4=>
    have ig:u.length+v2.length=w.length-i:=by have:=au List.length hd;rw[List.length_drop,aP]at this;omega
    have hu:iv (v:Int) u:=fun x hx=>hw x (List.mem_of_mem_drop (show x∈w.drop i by rw[hd];simp[hx]))
    refine⟨i+u.length,by omega,?_,?_⟩
    ·rw[hm,ay,bT]
     refine⟨by omega,?_⟩
     rw[show i+u.length-i=u.length by omega,hd,List.take_left,←hp,←tp hL hu]
     exact h3
    ·have e1:w.drop (i+u.length)=v2:=by rw[←List.drop_drop,hd,List.drop_left]
     have e2:zG LS w (i+u.length)=JS LS (zG LS w i) u:=by
      unfold zG
      rw[List.take_add,hd,List.take_left,H6]
     rw[e1,e2];exact h4
  ·rintro⟨j,h1,h2,h3⟩
   rw[hm,ay,bT]at h2
   obtain⟨⟨h4,h5⟩,h6⟩:=h2
   have hu:iv (v:Int) ((w.drop i).take (j-i)):=fun x hx=>hw x (List.mem_of_mem_drop (List.mem_of_mem_take hx))
   have e1:w.drop i=(w.drop i).take (j-i)++w.drop j:=by
    have:=(List.take_append_drop (j-i) (w.drop i)).symm
    rwa[List.drop_drop,show i+(j-i)=j by omega]at this
   have e2:zG LS w j=JS LS (zG LS w i) ((w.drop i).take (j-i)):=by
    unfold zG
    rw[←H6,←List.take_add,show i+(j-i)=j by omega]
   rw[e2]at h3
   rw[e1]
   refine Way.plain (by omega) (by omega) ?_ h3
   rw[tp hL hu,hp];exact h6
 cases t with
 |ie a b=>cases hl
 |iu a b=>cases hl
 |none=>exact key k2 F fun _=>rfl
 |empty=>exact key k2 F fun _=>rfl
 |letter p n=>exact key k2 F fun _=>rfl
 |and a b=>exact key k2 F fun _=>rfl
 |not a=>exact key k2 F fun _=>rfl
 |star a=>exact key k2 F fun _=>rfl
 |ahead a=>
  have k2:(lf LS n).op=9:=k2
  have hd:iv (v:Int) (w.drop i):=fun x hx=>hw x (List.mem_of_mem_drop hx)
  constructor
  ·intro h
   have g: ∀z,z=w.drop i→Way LS () true (zG LS w i) n z→dF (lf LS n).d (runN (lf LS n).d (lf LS n).d.start.toNat z)=true∧Way LS () false (zG LS w i) n z:=by
    intro z _ h
    cases h with
    |ahead h1 h2 h3=>exact⟨h2,h3⟩
    |behind h1=>omega
    |plain h1=>exact absurd k2 h1
   obtain⟨h2,h3⟩:=g _ F h
   refine⟨i,KE,?_,h3⟩
   show(decide (i=i∧i≤w.length)&&_)=true
   rw[ax ⟨F,KE⟩,Bool.true_and]
   rw[tp hL hd]at h2;exact h2
  ·rintro⟨j,h1,h2,h3⟩
   have h2:(decide (i=j∧i≤w.length)&&iA (fx a) (fun _=>true) (w.drop i))=true:=h2
   rw[ay,bT]at h2
   obtain⟨⟨rfl,_⟩,h5⟩:=h2
   refine .ahead k2 ?_ h3
   rw[tp hL hd];exact h5
 |behind a=>
  have k2:(lf LS n).op=10:=k2
  have hd:iv (v:Int) (w.take i):=fun x hx=>hw x (List.mem_of_mem_take hx)
  have hb:dF (lf LS n).d ((zG LS w i).getD n 0)=iA (fun _=>true) (fx a) (w.take i):=by
   unfold zG
   rw[Wu k1 k2,tp hL hd];rfl
  constructor
  ·intro h
   have g: ∀z,z=w.drop i→Way LS () true (zG LS w i) n z→dF (lf LS n).d ((zG LS w i).getD n 0)=true∧Way LS () false (zG LS w i) n z:=by
    intro z _ h
    cases h with
    |ahead h1=>omega
    |behind h1 h2 h3=>exact⟨h2,h3⟩
    |plain _ h1=>exact absurd k2 h1
   obtain⟨h2,h3⟩:=g _ F h
   refine⟨i,KE,?_,h3⟩
   show(decide (i=i∧i≤w.length)&&_)=true
   rw[ax ⟨F,KE⟩,Bool.true_and]
   rw[hb]at h2;exact h2
  ·rintro⟨j,h1,h2,h3⟩
   have h2:(decide (i=j∧i≤w.length)&&iA (fun _=>true) (fx a) (w.take i))=true:=h2
   rw[ay,bT]at h2
   obtain⟨⟨rfl,_⟩,h5⟩:=h2
   exact .behind k2 (by rw[hb];exact h5) h3
def NU (LS:List Lf) (w:List Nat) (E:List Nat) (l:Bool) (j:Nat):Prop:=(l=true∧w.drop j=[])∨ ∃k,k∈E∧Way LS () true (zG LS w j) k (w.drop j)
theorem JY (hv:v≤6) (hB:B≤4096) (hw:iv (v:Int) w): ∀(t:Rx) {n:Nat} {E:List Nat} {l:Bool},zZ v LS t n E l→t.wf=true→okB v t B→ ∀i,i≤w.length→
  ((∃k,k∈JW t n∧Way LS () true (zG LS w i) k (w.drop i))↔ ∃j,j≤w.length∧rp w t i j=true∧NU LS w E l j):=by
 have leaf: ∀(t:Rx),t.leaf=true→ ∀ {n:Nat} {E:List Nat} {l:Bool},zZ v LS t n E l→t.wf=true→okB v t B→ ∀i,i≤w.length→
  ((∃k,k∈JW t n∧Way LS () true (zG LS w i) k (w.drop i))↔ ∃j,j≤w.length∧rp w t i j=true∧NU LS w E l j):=by
  intro t hl n E l hi li ho i KE
  obtain⟨k1,k2,k3,k4,k5⟩:=(rn hl).1 hi
  rw[(H4 hl n).1]
  have e: ∀j,Way LS () false (zG LS w j) n (w.drop j)↔NU LS w E l j:=fun j=>by rw[AZ,k4,k5];exact Iff.rfl
  constructor
  ·rintro⟨k,hk,h⟩
   rw[List.mem_singleton.1 hk]at h
   obtain⟨j,h1,h2,h3⟩:=(Ey hv hB hw hl hi li ho KE).1 h
   exact⟨j,h1,h2,(e j).1 h3⟩
  ·rintro⟨j,h1,h2,h3⟩
   exact⟨n,List.mem_singleton.2 F,(Ey hv hB hw hl hi li ho KE).2 ⟨j,h1,h2,(e j).2 h3⟩⟩
 intro t
 induction t with
 |ie a b kF lL=>
  intro n E l hi li ho i KE
  simp only[Rx.wf,ay]at li
  have e: ∀j,j≤w.length→(NU LS w (JW b (n+a.lv)) false j↔ ∃j2,j2≤w.length∧rp w b j j2=true∧NU LS w E l j2):=fun j hj=>by
   rw[←lL hi.2 li.2 ho.2 j hj]
   exact⟨fun h=>h.elim (fun h=>by cases h.1) id,.inr⟩
  show(∃k,k∈JW a n∧_)↔_
  rw[kF hi.1 li.1 ho.1 i KE]
  constructor
  ·rintro⟨j,h1,h2,h3⟩
   obtain⟨j2,h4,h5,h6⟩:=(e j h1).1 h3
   refine⟨j2,h4,?_,h6⟩
   show((List.range (w.length+1)).any fun k=>rp w a i k&&rp w b k j2)=true
   rw[cY]
   exact⟨j,List.mem_range.2 (by omega),by rw[h2,h5];rfl⟩
  ·rintro⟨j2,h4,h5,h6⟩
   have h5:((List.range (w.length+1)).any fun k=>rp w a i k&&rp w b k j2)=true:=h5
   rw[cY]at h5
   obtain⟨j,h1,h2⟩:=h5
   rw[ay]at h2
   have:=List.mem_range.1 h1
   exact⟨j,by omega,h2.1,(e j (by omega)).2 ⟨j2,h4,h2.2,h6⟩⟩
 |iu a b kF lL=>
  intro n E l hi li ho i KE
  simp only[Rx.wf,ay]at li
  have h1:=kF hi.1 li.1 ho.1 i KE
  have h2:=lL hi.2 li.2 ho.2 i KE
  show(∃k,k∈JW a n++JW b (n+a.lv)∧_)↔_
  rw[NP,h1,h2]
  constructor
  ·rintro(⟨j,h3,h4,h5⟩|⟨j,h3,h4,h5⟩)
   ·exact⟨j,h3,by show(rp w a i j||rp w b i j)=true;rw[h4];rfl,h5⟩
   ·exact⟨j,h3,by show(rp w a i j||rp w b i j)=true;rw[h4,Bool.or_true],h5⟩
  ·rintro⟨j,h3,h4,h5⟩
   have h4:(rp w a i j||rp w b i j)=true:=h4
   rw[Bool.or_eq_true]at h4
   exact h4.elim (fun h=>.inl ⟨j,h3,h,h5⟩) fun h=>.inr ⟨j,h3,h,h5⟩
 |none=>exact fun hi li ho=>leaf .none F hi li ho
 |empty=>exact fun hi li ho=>leaf .empty F hi li ho
 |letter p n=>exact fun hi li ho=>leaf (.letter p n) F hi li ho
 |and a b _ _=>exact fun hi li ho=>leaf (.and a b) F hi li ho
 |not a _=>exact fun hi li ho=>leaf (.not a) F hi li ho
 |star a _=>exact fun hi li ho=>leaf (.star a) F hi li ho
 |ahead a _=>exact fun hi li ho=>leaf (.ahead a) F hi li ho
 |behind a _=>exact fun hi li ho=>leaf (.behind a) F hi li ho
end
theorem Re {v B:Nat} (hv:v≤6) (hB:B≤4096) {LS:List Lf}: ∀(t:Rx) {n:Nat} {E:List Nat} {l:Bool},zZ v LS t n E l→t.wf=true→okB v t B→ ∀k,n≤k→k<n+t.lv→(lf LS k).op=9→ ∃p,fQ (v:Int) B (lf LS k).d (iA p fun _=>true):=by
 have leaf: ∀(t:Rx),t.leaf=true→ ∀ {n:Nat} {E:List Nat} {l:Bool},zZ v LS t n E l→t.wf=true→okB v t B→ ∀k,n≤k→k<n+t.lv→(lf LS k).op=9→ ∃p,fQ (v:Int) B (lf LS k).d (iA p fun _=>true):=by
  intro t hl n E l hi li ho k h1 h2 h9
  obtain⟨_,k2,k3,_,_⟩:=(rn hl).1 hi
  rw[(H4 hl n).2.2]at h2
  have:k=n:=by omega
  subst this
  have hL:=vy hv hB hl li ho
  rw[k2]at h9
  rw[k3]
  cases t<;>first|(exact⟨_,hL⟩;done)|(cases h9;done)|(cases hl;done)
 intro t
 induction t with
 |ie a b kF lL=>
  intro n E l hi li ho k h1 h2 h9
  simp only[Rx.wf,ay]at li
  have h2:k<n+(a.lv+b.lv):=h2
  rcases Nat.lt_or_ge k (n+a.lv)with c|c
  ·exact kF hi.1 li.1 ho.1 k h1 c h9
  ·exact lL hi.2 li.2 ho.2 k c (by omega) h9
 |iu a b kF lL=>
  intro n E l hi li ho k h1 h2 h9
  simp only[Rx.wf,ay]at li
  have h2:k<n+(a.lv+b.lv):=h2
  rcases Nat.lt_or_ge k (n+a.lv)with c|c
  ·exact kF hi.1 li.1 ho.1 k h1 c h9
  ·exact lL hi.2 li.2 ho.2 k c (by omega) h9
 |none=>exact fun hi li ho=>leaf .none F hi li ho
 |empty=>exact fun hi li ho=>leaf .empty F hi li ho
 |letter p n=>exact fun hi li ho=>leaf (.letter p n) F hi li ho
 |and a b _ _=>exact fun hi li ho=>leaf (.and a b) F hi li ho
 |not a _=>exact fun hi li ho=>leaf (.not a) F hi li ho
 |star a _=>exact fun hi li ho=>leaf (.star a) F hi li ho
 |ahead a _=>exact fun hi li ho=>leaf (.ahead a) F hi li ho
 |behind a _=>exact fun hi li ho=>leaf (.behind a) F hi li ho
theorem H7 {v B:Nat} (hv:v≤6) (hB:B≤4096) {t:Rx} (li:t.wf=true) (ho:okB v t B):zY (jn v t) v:=fun k hk h9 u z hu hz h=>by
 obtain⟨p,hp⟩:=Re hv hB t (Cj v t).1 li ho k (bl _) (by rw[uy]at hk;omega) h9
 have h2:iv (v:Int) (u++z):=fun x hx=>(List.mem_append.1 hx).elim (hu x) (hz x)
 rw[tp hp hu]at h
 rw[tp hp h2]
 exact Ex h
theorem Wv {v B:Nat} (hv:v≤6) (hB:B≤4096) {t:Rx} (li:t.wf=true) (JE:t.lv≤12) (ho:okB v t B) {w:List Nat} (hw:iv (v:Int) w):Xj v t w=rp w t 0 w.length:=by
 have hG:=BH hv hB li JE ho
 obtain⟨h1,h2⟩:=Cj v t
 rw[dB]
 unfold Xj
 rw[Et hG (H7 hv hB li ho) xk hw,h2]
 have h3:=JY (LS:=jn v t) hv hB hw t h1 li ho 0 (bl _)
 unfold zG at h3
 rw[List.take_zero,List.drop_zero]at h3
 refine Iff.trans h3 ?_
 constructor
 ·rintro⟨j,h4,h5,⟨_,h6⟩|⟨k,h6,_⟩⟩
  ·have:=List.drop_eq_nil_iff.1 h6
   have:j=w.length:=by omega
   subst this;exact h5
  ·simp at h6
 ·exact fun h=>⟨w.length,aS _,h,.inl ⟨F,by simp⟩⟩
end Go.Lx

